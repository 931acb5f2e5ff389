/- What functions of the program come to, and what that says in plain words: part 1. -/
import Derived.Test.YtjncnnpdaeociaaTXh
import Derived.Test.YtjncnnpdaeociaaProg
import Derived.Shelf.SortM.Plain
import Derived.Ground.SlgmProg
import Derived.Shelf.SlGeneric
import Derived.Test.YtjncnnpdaeociaaTXs
import Derived.Test.YtjncnnpdaeociaaTXw
set_option linter.unusedSimpArgs false
set_option linter.unusedVariables false
namespace Go.SX
open Go.Proofs
def T3z {P : Program} (l : List (PF P)) : List (PF P) :=l.flatMap fun p=>[p,PF.lend p,PF.fz p]
abbrev OZ:CTy:=(CTy.pair (CTy.int IntKind.i64) (CTy.pair (CTy.int IntKind.i64) (CTy.int IntKind.i64)))
abbrev Pb:CTy:=(CTy.pair (CTy.int IntKind.i64) (CTy.sl 2 (CTy.int IntKind.i64)))
abbrev Pc:CTy:=(CTy.int IntKind.i64)
end Go.SX
namespace Go.SX
open Go.Proofs Go.Proofs.Try
set_option maxRecDepth 100000
theorem cw:Try.prog.follows .mixedOrders=true:=by kernel_rfl
def sX(x0:Int)(x1:List Int):Int:=IntKind.wrap .i64 (x0 - (↑x1.length:Int))
def ui(x0:Int)(x1:List Int):Int:=bif ltI (sX x0 x1) 0 then(-1:Int)else sX x0 x1
def yN:List SV→List Entry→Option Out
 | [.one ⟨false,[.ref 0]⟩,.one ⟨false,[.val (.int .i64 x0)]⟩],[.row false 2 (.int .i64) x1]=>some ⟨.one ⟨false,[.val (.int .i64 (ui x0 x1))]⟩,[.row false 2 Pc x1],[],[]⟩
 |_,_=>none
def FE:PF prog:=PF.ofG prog [] [] cw 70 f70 func70 (fun c _=>LOk.nil c) yN (by
 intro vs es r h;unfold yN at h;split at h
 ·cases h;kernel_rfl
 ·cases h)
def jm(x0 x1 x2:Int):Bool:=bif leI x1 x0 then leI x0 x2 else false
def CS:List SV→List Entry→Option Out
 | [.one ⟨false,[.val (.int .i64 x0)]⟩,.one ⟨false,[.val (.int .i64 x1)]⟩,.one ⟨false,[.val (.int .i64 x2)]⟩],[]=>some ⟨.one ⟨false,[.val (.bool (jm x0 x1 x2))]⟩,[],[],[]⟩
 |_,_=>none
def yE:PF prog:=PF.ofG prog [] [] cw 92 f92 func92 (fun c _=>LOk.nil c) CS (by
 intro vs es r h;unfold CS at h;split at h
 ·cases h;kernel_rfl
 ·cases h)
abbrev ec:=Int×Int×List Int
section
variable (y0 y1:Int)(y2:List Int)
def jy:Bool:=ltI y0 (↑y2.length:Int)
def lv:Bool:=leI 0 y0
def lw:Bool:=ltN y0.toNat y2.length
def lx:Bool:= !jm (Option.getD y2[Int.toNat y0]? 0) 0 (IntKind.wrap .i64 (IntKind.wrap .i64 ((3:Int) * y1) - (1:Int)))
def ly:Int:=IntKind.wrap .i64 (y0 + (1:Int))
end
def zJ:ec→List (Nat×SV)
 |(y0,_,_)=> [(3,(.one ⟨false,[.val (.int .i64 y0)]⟩)),(1,(.one ⟨false,[.ptr 0 0]⟩))]
def zH:ec→List (Nat×Entry)
 |(_,y1,y2)=> [(0,(.box 26 [.val (.int .i64 y1),.ref 1])),(1,(.row false 2 Pc y2))]
def zQ:Nat→ec→List (Nat×SV)
 |0,(_,_,_)=> [(2,(.one ⟨false,[.val (.bool false)]⟩))]
 |_,(_,_,_)=> []
def zO:Nat→ec→List (Nat×Entry)
 |0,(_,y1,y2)=> [(0,(.box 26 [.val (.int .i64 y1),.ref 1])),(1,(.row false 2 Pc y2))]
 |_,(_,y1,y2)=> [(0,(.box 26 [.val (.int .i64 y1),.ref 1])),(1,(.row false 2 Pc y2))]
def kw:ec→LT ec
 |(y0,y1,y2)=> .ite (jy y0 y2) (.need [lv y0,jy y0 y2,lw y0 y2] (.ite (lx y0 y1 y2) (.ext 0 [(0,0),(1,1)]) (.nrm ((ly y0),y1,y2) [(0,0),(1,1)]))) (.ext 1 [(0,0),(1,1)])
def pO(s:St):Option ec:=
 (match s.look 3 with
 |some ⟨none,.one ⟨false,[.val (.int .i64 y0)]⟩⟩=>
 (match s.look 1 with
 |some ⟨none,.one ⟨false,[.ptr 128 0]⟩⟩=>
 (match s.ent 128 with
 |some (.box 26 [.val (.int .i64 y1),.ref 0])=>
 (match s.ent 0 with
 |some (.row false 2 (.int .i64) y2)=>
 some (y0,y1,y2)
 |_=>none)
 |_=>none)
 |_=>none)
 |_=>none)
def bu:Lp ec where
 h:=⟨[15,16,17,18,19,22,23,24,25,26,27,28,29,30,31,32,2,20,21,3],[0,1],[],[]⟩
 JL:=zJ
 JE:=zH
 XL:=zQ
 XE:=zO
 q:=fun j=>match j with | 0=> .ret | _=> .exit 0
 tags:= [0,1]
 lt:=kw
 fuel:=fun(y0,y1,y2)=>y0.natAbs + y1.natAbs + y2.length
 fix:=fun(_,y1,y2) (y0,_,_)=>(y0,y1,y2)
 σ:= [(0,128),(1,0)]
 rd:=pO
theorem yu:LoopOk prog (fun k=>Nat.blt k Try.f43.ntmps) bu.F (dl f43 0):=by
 refine Lp.ok (tbl:= [yE]) (lf:= []) cw bu (by kernel_rfl) (LOk.nil _) (fun _=>rfl) (fun j _=>by unfold bu;match j with | 0=>rfl | _ + 1=>rfl) ?_ ?_ ?_ ?_ (fun _=>rfl) ?_
 ·rintro⟨y0,y1,y2⟩;kernel_rfl
 ·rintro⟨y0,y1,y2⟩;kernel_rfl
 ·intro s x h
  have h:pO s=some x:=h
  unfold pO at h
  repeat' split at h
  all_goals cases h
  constructor<;>repeat(first|refine ac (by assumption) rfl ?_|refine aq rfl (by assumption) rfl ?_|exact rfl)
 ·rintro⟨y0,y1,y2⟩;kernel_rfl
 ·rintro⟨y0,y1,y2⟩ z;exact(And.intro (And.intro trivial rfl) trivial)
section
variable (x0:Int)(x1:List Int)
def sd:Bool:=bif !jm x0 2 8 then true else !jm (↑x1.length:Int) 1 4
def se:Int×Int×List Int:=((0:Int),x0,x1)
def tn:Bool:=bif sd x0 x1 then false else bif Nat.beq ((Lp.res bu (se x0 x1)).1) 0 then false else true
def tp:Bool:=allT [sd x0 x1||Lp.fin bu (se x0 x1)]
end
def wM:List SV→List Entry→Option Out
 | [.one ⟨true,[.val (.int .i64 x0),.ref 0]⟩],[.row false 2 (.int .i64) x1]=>some ⟨.one ⟨false,[.val (.bool (tn x0 x1))]⟩,[.row false 2 Pc x1],[],[tp x0 x1]⟩
 |_,_=>none
def ED:PF prog:=PF.ofG prog [yE] [bu.F] cw 43 f43 func43 (LOk.fnT (l:= [dl f43 0]) (by kernel_rfl) (.cons yu (.nil _))) wM (by
 intro vs es r h;unfold wM at h;split at h
 ·cases h;kernel_rfl
 ·cases h)
def wx(x0:List Int):Bool:=allT [leN (0 + List.length x0) 9223372036854775807,leN ((0 + List.length x0) * 8) 140737488355328]
def BF:List SV→List Entry→Option Out
 | [.one ⟨false,[.ref 0]⟩],[.row false 2 (.int .i64) x0]=>some ⟨.one ⟨false,[.ref 1]⟩,[.row false 2 Pc x0],[.row true 2 Pc x0],[wx x0]⟩
 |_,_=>none
def Hs:PF prog:=PF.ofG prog [] [] cw 93 f93 func93 (fun c _=>LOk.nil c) BF (by
 intro vs es r h;unfold BF at h;split at h
 ·cases h;kernel_rfl
 ·cases h)
abbrev ez:=Int×List Int×List Int
section
variable (y0:Int)(y1 y2:List Int)
def jX:Bool:=ltI y0 (↑y1.length:Int)
def jY:Bool:=leI 0 y0
def mF:Bool:=ltN y0.toNat y1.length
def mG:Bool:=ltI y0 (↑y2.length:Int)
def mH:Bool:=ltN y0.toNat y2.length
def mI:Int:=IntKind.wrap .i64 (y0 + (1:Int))
def mJ:List Int:=List.set y2 y0.toNat (Option.getD y1[Int.toNat y0]? 0)
end
def Ba:ez→List (Nat×SV)
 |(y0,_,_)=> [(4,(.one ⟨false,[.val (.int .i64 y0)]⟩)),(0,(.one ⟨false,[.ref 0]⟩)),(3,(.one ⟨false,[.ref 1]⟩))]
def AS:ez→List (Nat×Entry)
 |(_,y1,y2)=> [(0,(.row false 2 Pc y1)),(1,(.row true 2 Pc y2))]
def Bo:Nat→ez→List (Nat×SV)
 |_,(_,_,_)=> []
def Bh:Nat→ez→List (Nat×Entry)
 |_,(_,y1,y2)=> [(0,(.row false 2 Pc y1)),(1,(.row true 2 Pc y2))]
def lr:ez→LT ez
 |(y0,y1,y2)=> .ite (jX y0 y1) (.need [jY y0,jX y0 y1,mF y0 y1,jY y0,mG y0 y2,mH y0 y2] (.nrm ((mI y0),y1,(mJ y0 y1 y2)) [(0,0),(1,1)])) (.ext 0 [(0,0),(1,1)])
def qG(s:St):Option ez:=
 (match s.look 4 with
 |some ⟨none,.one ⟨false,[.val (.int .i64 y0)]⟩⟩=>
 (match s.look 0 with
 |some ⟨none,.one ⟨false,[.ref 0]⟩⟩=>
 (match s.look 3 with
 |some ⟨none,.one ⟨false,[.ref 320]⟩⟩=>
 (match s.ent 0 with
 |some (.row false 2 (.int .i64) y1)=>
 (match s.ent 320 with
 |some (.row true 2 (.int .i64) y2)=>
 some (y0,y1,y2)
 |_=>none)
 |_=>none)
 |_=>none)
 |_=>none)
 |_=>none)
def cu:Lp ez where
 h:=⟨[8,9,10,11,14,15,16,17,18,19,20,12,13,4],[0,1],[],[]⟩
 JL:=Ba
 JE:=AS
 XL:=Bo
 XE:=Bh
 q:=fun j=>match j with | _=> .exit 0
 tags:= [0]
 lt:=lr
 fuel:=fun(y0,y1,y2)=>y0.natAbs + y1.length + y2.length
 fix:=fun(_,y1,_) (y0,_,y2)=>(y0,y1,y2)
 σ:= [(0,0),(1,320)]
 rd:=qG
theorem zy:LoopOk prog (fun k=>Nat.blt k Try.f39.ntmps) cu.F (dl f39 0):=by
 refine Lp.ok (tbl:= []) (lf:= []) cw cu (by kernel_rfl) (LOk.nil _) (fun _=>rfl) (fun _ _=>rfl) ?_ ?_ ?_ ?_ (fun _=>rfl) ?_
 ·rintro⟨y0,y1,y2⟩;kernel_rfl
 ·rintro⟨y0,y1,y2⟩;kernel_rfl
 ·intro s x h
  have h:qG s=some x:=h
  unfold qG at h
  repeat' split at h
  all_goals cases h
  constructor<;>repeat(first|refine ac (by assumption) rfl ?_|refine aq rfl (by assumption) rfl ?_|exact rfl)
 ·rintro⟨y0,y1,y2⟩;kernel_rfl
 ·rintro⟨y0,y1,y2⟩ z;exact(And.intro rfl trivial)
section
variable (x0:List Int)
def qf:Int×List Int×List Int:=((0:Int),x0,List.replicate (Int.toNat (↑x0.length:Int)) (0:Int))
def qV:List Int:=(Lp.res cu (qf x0)).2.2.2
def qW:Bool:=allT [leI 0 (↑x0.length:Int),leI (↑x0.length:Int) (↑x0.length:Int),leI ((↑(8:Nat):Int) * (↑x0.length:Int)) 281474976710656,leI (↑x0.length:Int) 9223372036854775807,Lp.fin cu (qf x0)]
end
def yO:List SV→List Entry→Option Out
 | [.one ⟨false,[.ref 0]⟩],[.row false 2 (.int .i64) x0]=>some ⟨.one ⟨false,[.ref 1]⟩,[.row false 2 Pc x0],[.row true 2 Pc (qV x0)],[qW x0]⟩
 |_,_=>none
def FF:PF prog:=PF.ofG prog [] [cu.F] cw 39 f39 func39 (LOk.fnT (l:= [dl f39 0]) (by kernel_rfl) (.cons zy (.nil _))) yO (by
 intro vs es r h;unfold yO at h;split at h
 ·cases h;kernel_rfl
 ·cases h)
def fK(x0:List Int):Int:=(↑x0.length:Int)
def uq:List SV→List Entry→Option Out
 | [.one ⟨false,[.ref 0]⟩],[.row false 2 (.int .i64) x0]=>some ⟨.one ⟨false,[.val (.int .i64 (fK x0))]⟩,[.row false 2 Pc x0],[],[]⟩
 |_,_=>none
def bq:PF prog:=PF.ofG prog [] [] cw 91 f91 func91 (fun c _=>LOk.nil c) uq (by
 intro vs es r h;unfold uq at h;split at h
 ·cases h;kernel_rfl
 ·cases h)
def gS(x0 x1 x2:Int):Bool:=bif leI x1 x0 then leI x0 x2 else false
def BE:List SV→List Entry→Option Out
 | [.one ⟨false,[.val (.int .i64 x0)]⟩,.one ⟨false,[.val (.int .i64 x1)]⟩,.one ⟨false,[.val (.int .i64 x2)]⟩],[]=>some ⟨.one ⟨false,[.val (.bool (gS x0 x1 x2))]⟩,[],[],[]⟩
 |_,_=>none
def qO:PF prog:=PF.ofG prog [] [] cw 98 f98 func98 (fun c _=>LOk.nil c) BE (by
 intro vs es r h;unfold BE at h;split at h
 ·cases h;kernel_rfl
 ·cases h)
def qq(x0:Int):Bool:=gS x0 2 8
def uo:List SV→List Entry→Option Out
 | [.one ⟨false,[.val (.int .i64 x0)]⟩],[]=>some ⟨.one ⟨false,[.val (.bool (qq x0))]⟩,[],[],[]⟩
 |_,_=>none
def BA:PF prog:=PF.ofG prog [qO] [] cw 97 f97 func97 (fun c _=>LOk.nil c) uo (by
 intro vs es r h;unfold uo at h;split at h
 ·cases h;kernel_rfl
 ·cases h)
def mU(x0 x1:Int):Bool:= !gS x0 0 (IntKind.wrap .i64 (IntKind.wrap .i64 ((3:Int) * x1) - (1:Int)))
def sy:List SV→List Entry→Option Out
 | [.one ⟨false,[.val (.int .i64 x0)]⟩,.one ⟨false,[.ptr 0 0]⟩],[.box 26 [.val (.int .i64 x1),.ref 1],.row false 2 (.int .i64) x2]=>some ⟨.one ⟨false,[.val (.bool (mU x0 x1))]⟩,[.box 26 [.val (.int .i64 x1),.ref 1],.row false 2 Pc x2],[],[]⟩
 |_,_=>none
def gQ:PF prog:=PF.ofG prog [qO] [] cw 100 f100 func100 (fun c _=>LOk.nil c) sy (by
 intro vs es r h;unfold sy at h;split at h
 ·cases h;kernel_rfl
 ·cases h)
abbrev aB:=Int×Int×Int×List Int
section
variable (y0 y1 y2:Int)(y3:List Int)
def dn:Bool:=ltI y0 y1
def dq:Bool:=leI 0 y0
def dr:Bool:=ltI y0 (↑y3.length:Int)
def du:Bool:=ltN y0.toNat y3.length
def dv:Bool:=mU (Option.getD y3[Int.toNat y0]? 0) y2
def dw:Int:=IntKind.wrap .i64 (y0 + (1:Int))
end
def pU:aB→List (Nat×SV)
 |(y0,y1,_,_)=> [(8,(.one ⟨false,[.val (.int .i64 y0)]⟩)),(7,(.one ⟨false,[.val (.int .i64 y1)]⟩)),(1,(.one ⟨false,[.clo 100 [0]]⟩)),(0,(.one ⟨false,[.ref 1]⟩))]
def pT:aB→List (Nat×Entry)
 |(_,_,y2,y3)=> [(0,(.box 26 [.val (.int .i64 y2),.ref 1])),(1,(.row false 2 Pc y3))]
def pW:Nat→aB→List (Nat×SV)
 |0,(y0,_,_,_)=> [(4,(.one ⟨false,[.val (.int .i64 y0)]⟩))]
 |_,(_,_,_,_)=> []
def pV:Nat→aB→List (Nat×Entry)
 |0,(_,_,y2,y3)=> [(0,(.box 26 [.val (.int .i64 y2),.ref 1])),(1,(.row false 2 Pc y3))]
 |_,(_,_,y2,y3)=> [(0,(.box 26 [.val (.int .i64 y2),.ref 1])),(1,(.row false 2 Pc y3))]
def cM:aB→LT aB
 |(y0,y1,y2,y3)=> .ite (dn y0 y1) (.need [dq y0,dr y0 y3,du y0 y3] (.ite (dv y0 y2 y3) (.ext 0 [(0,0),(1,1)]) (.nrm ((dw y0),y1,y2,y3) [(0,0),(1,1)]))) (.ext 1 [(0,0),(1,1)])
def gA(s:St):Option aB:=
 (match s.look 8 with
 |some ⟨none,.one ⟨false,[.val (.int .i64 y0)]⟩⟩=>
 (match s.look 7 with
 |some ⟨none,.one ⟨false,[.val (.int .i64 y1)]⟩⟩=>
 (match s.look 1 with
 |some ⟨none,.one ⟨false,[.clo 100 [1]]⟩⟩=>
 (match s.look 0 with
 |some ⟨none,.one ⟨false,[.ref 0]⟩⟩=>
 (match s.ent 1 with
 |some (.box 26 [.val (.int .i64 y2),.ref 0])=>
 (match s.ent 0 with
 |some (.row false 2 (.int .i64) y3)=>
 some (y0,y1,y2,y3)
 |_=>none)
 |_=>none)
 |_=>none)
 |_=>none)
 |_=>none)
 |_=>none)
def ai:Lp aB where
 h:=⟨[9,10,5,11,12,13,14,15,16,17,4,18,8],[0,1],[],[]⟩
 JL:=pU
 JE:=pT
 XL:=pW
 XE:=pV
 q:=fun j=>match j with | 0=> .ret | _=> .exit 0
 tags:= [0,1]
 lt:=cM
 fuel:=fun(y0,y1,y2,y3)=>y0.natAbs + y1.natAbs + y2.natAbs + y3.length
 fix:=fun(_,y1,y2,y3) (y0,_,_,_)=>(y0,y1,y2,y3)
 σ:= [(0,1),(1,0)]
 rd:=gA
theorem px:LoopOk prog (fun k=>Nat.blt k Try.f135.ntmps) ai.F (dl f135 0):=by
 refine Lp.ok (tbl:= (T3z [gQ])) (lf:= []) cw ai (by kernel_rfl) (LOk.nil _) (fun _=>rfl) (fun j _=>by unfold ai;match j with | 0=>rfl | _ + 1=>rfl) ?_ ?_ ?_ ?_ (fun _=>rfl) ?_
 ·rintro⟨y0,y1,y2,y3⟩;kernel_rfl
 ·rintro⟨y0,y1,y2,y3⟩;kernel_rfl
 ·intro s x h
  have h:gA s=some x:=h
  unfold gA at h
  repeat' split at h
  all_goals cases h
  constructor<;>repeat(first|refine ac (by assumption) rfl ?_|refine aq rfl (by assumption) rfl ?_|exact rfl)
 ·rintro⟨y0,y1,y2,y3⟩;kernel_rfl
 ·rintro⟨y0,y1,y2,y3⟩ z;exact(And.intro (And.intro trivial rfl) trivial)
section
variable (x0:List Int)(x1:Int)
def fg:Int×Int×Int×List Int:=((0:Int),(↑x0.length:Int),x1,x0)
def ii:Bool:=Nat.beq ((Lp.res ai (fg x0 x1)).1) 0
def iR:Int:=bif ii x0 x1 then ((Lp.res ai (fg x0 x1)).2).1else(-1:Int)
def iS:Int:=bif ii x0 x1 then x1 else x1
def iT:Bool:=allT [Lp.fin ai (fg x0 x1)]
end
def na:List SV→List Entry→Option Out
 | [.one ⟨false,[.ref 0]⟩,.one ⟨false,[.clo 100 [1]]⟩],[.row false 2 (.int .i64) x0,.box 26 [.val (.int .i64 x1),.ref 0]]=>some ⟨.one ⟨false,[.val (.int .i64 (iR x0 x1))]⟩,[.row false 2 Pc x0,.box 26 [.val (.int .i64 (iS x0 x1)),.ref 0]],[],[iT x0 x1]⟩
 |_,_=>none
def iQ:PF prog:=PF.ofG prog (T3z [gQ]) [ai.F] cw 135 f135 func135 (LOk.fnT (l:= [dl f135 0]) (by kernel_rfl) (.cons px (.nil _))) na (by
 intro vs es r h;unfold na at h;split at h
 ·cases h;kernel_rfl
 ·cases h)
section
variable (x0:List Int)(x1:Int)
def eN:Bool:=leI 0 (iR x0 x1)
def lu:Int:=iS x0 x1
def eO:Bool:=allT [iT x0 x1]
end
def ld:List SV→List Entry→Option Out
 | [.one ⟨false,[.ref 0]⟩,.one ⟨false,[.clo 100 [1]]⟩],[.row false 2 (.int .i64) x0,.box 26 [.val (.int .i64 x1),.ref 0]]=>some ⟨.one ⟨false,[.val (.bool (eN x0 x1))]⟩,[.row false 2 Pc x0,.box 26 [.val (.int .i64 (lu x0 x1)),.ref 0]],[],[eO x0 x1]⟩
 |_,_=>none
def gK:PF prog:=PF.ofG prog (T3z [iQ]) [] cw 99 f99 func99 (fun c _=>LOk.nil c) ld (by
 intro vs es r h;unfold ld at h;split at h
 ·cases h;kernel_rfl
 ·cases h)
section
variable (x0:Int)(x1:List Int)
def rP:Bool:=bif qq x0 then gS (fK x1) 1 4 else false
def sI:Bool:=bif rP x0 x1 then !eN x1 x0 else false
def sJ:Bool:=allT [!(rP x0 x1&&true)||eO x1 x0]
end
def wH:List SV→List Entry→Option Out
 | [.one ⟨true,[.val (.int .i64 x0),.ref 0]⟩],[.row false 2 (.int .i64) x1]=>some ⟨.one ⟨false,[.val (.bool (sI x0 x1))]⟩,[.row false 2 Pc x1],[],[sJ x0 x1]⟩
 |_,_=>none
def Ey:PF prog:=PF.ofG prog (T3z [bq,BA,qO,gK]) [] cw 42 f42 func42 (fun c _=>LOk.nil c) wH (by
 intro vs es r h;unfold wH at h;split at h
 ·cases h;kernel_rfl
 ·cases h)
def eV(x1:Int)(x2:List Int):Bool:=gS x1 0 (IntKind.wrap .i64 (fK x2 - (1:Int)))
def iV:List SV→List Entry→Option Out
 | [.one ⟨true,[.val (.int .i64 _x0),.ref 0]⟩,.one ⟨false,[.val (.int .i64 x1)]⟩],[.row false 2 (.int .i64) x2]=>some ⟨.one ⟨false,[.val (.bool (eV x1 x2))]⟩,[.row false 2 Pc x2],[],[]⟩
 |_,_=>none
def oE:PF prog:=PF.ofG prog (T3z [bq,qO]) [] cw 73 f73 func73 (fun c _=>LOk.nil c) iV (by
 intro vs es r h;unfold iV at h;split at h
 ·cases h;kernel_rfl
 ·cases h)
def mM(x0:List Int):Bool:=allT [ltN 0 x0.length,false||leN (0 + List.length x0) 9223372036854775807,false||leN ((0 + List.length x0) * 8) 140737488355328]
def pA:List SV→List Entry→Option Out
 | [.one ⟨false,[.ref 0]⟩],[.row false 2 (.int .i64) x0]=>some ⟨.one ⟨false,[.ref 1]⟩,[.row false 2 Pc x0],[.row true 2 Pc x0],[mM x0]⟩
 |_,_=>none
def vg:PF prog:=PF.ofG prog [] [] cw 134 f134 func134 (fun c _=>LOk.nil c) pA (by
 intro vs es r h;unfold pA at h;split at h
 ·cases h;kernel_rfl
 ·cases h)
abbrev ey:=Int×List Int×List Int
section
variable (y0:Int)(y1 y2:List Int)
def jV:Bool:=ltI y0 (↑y1.length:Int)
def jW:Bool:=leI 0 y0
def mw:Bool:=ltN y0.toNat y1.length
def my:Bool:=ltI y0 (↑y2.length:Int)
def mz:Bool:=ltN y0.toNat y2.length
def mA:Bool:=Option.getD y1[Int.toNat y0]? 0!=Option.getD y2[Int.toNat y0]? 0
def mB:Int:=IntKind.wrap .i64 (y0 + (1:Int))
end
def AZ:ey→List (Nat×SV)
 |(y0,_,_)=> [(5,(.one ⟨false,[.val (.int .i64 y0)]⟩)),(0,(.one ⟨false,[.ref 0]⟩)),(1,(.one ⟨false,[.ref 1]⟩))]
def AR:ey→List (Nat×Entry)
 |(_,y1,y2)=> [(0,(.row false 2 Pc y1)),(1,(.row false 2 Pc y2))]
def Bn:Nat→ey→List (Nat×SV)
 |0,(_,_,_)=> [(4,(.one ⟨false,[.val (.bool false)]⟩))]
 |_,(_,_,_)=> []
def Bg:Nat→ey→List (Nat×Entry)
 |0,(_,y1,y2)=> [(0,(.row false 2 Pc y1)),(1,(.row false 2 Pc y2))]
 |_,(_,y1,y2)=> [(0,(.row false 2 Pc y1)),(1,(.row false 2 Pc y2))]
def lq:ey→LT ey
 |(y0,y1,y2)=> .ite (jV y0 y1) (.need [jW y0,jV y0 y1,mw y0 y1,jW y0,my y0 y2,mz y0 y2] (.ite (mA y0 y1 y2) (.ext 0 [(0,0),(1,1)]) (.nrm ((mB y0),y1,y2) [(0,0),(1,1)]))) (.ext 1 [(0,0),(1,1)])
def qF(s:St):Option ey:=
 (match s.look 5 with
 |some ⟨none,.one ⟨false,[.val (.int .i64 y0)]⟩⟩=>
 (match s.look 0 with
 |some ⟨none,.one ⟨false,[.ref 0]⟩⟩=>
 (match s.look 1 with
 |some ⟨none,.one ⟨false,[.ref 1]⟩⟩=>
 (match s.ent 0 with
 |some (.row false 2 (.int .i64) y1)=>
 (match s.ent 1 with
 |some (.row false 2 (.int .i64) y2)=>
 some (y0,y1,y2)
 |_=>none)
 |_=>none)
 |_=>none)
 |_=>none)
 |_=>none)
def bP:Lp ey where
 h:=⟨[11,12,13,14,17,18,19,20,21,22,23,24,25,4,15,16,5],[0,1],[],[]⟩
 JL:=AZ
 JE:=AR
 XL:=Bn
 XE:=Bg
 q:=fun j=>match j with | 0=> .ret | _=> .exit 0
 tags:= [0,1]
 lt:=lq
 fuel:=fun(y0,y1,y2)=>y0.natAbs + y1.length + y2.length
 fix:=fun(_,y1,y2) (y0,_,_)=>(y0,y1,y2)
 σ:= [(0,0),(1,1)]
 rd:=qF
theorem zx:LoopOk prog (fun k=>Nat.blt k Try.f35.ntmps) bP.F (dl f35 0):=by
 refine Lp.ok (tbl:= []) (lf:= []) cw bP (by kernel_rfl) (LOk.nil _) (fun _=>rfl) (fun j _=>by unfold bP;match j with | 0=>rfl | _ + 1=>rfl) ?_ ?_ ?_ ?_ (fun _=>rfl) ?_
 ·rintro⟨y0,y1,y2⟩;kernel_rfl
 ·rintro⟨y0,y1,y2⟩;kernel_rfl
 ·intro s x h
  have h:qF s=some x:=h
  unfold qF at h
  repeat' split at h
  all_goals cases h
  constructor<;>repeat(first|refine ac (by assumption) rfl ?_|refine aq rfl (by assumption) rfl ?_|exact rfl)
 ·rintro⟨y0,y1,y2⟩;kernel_rfl
 ·rintro⟨y0,y1,y2⟩ z;exact(And.intro (And.intro trivial rfl) trivial)
section
variable (x0 x1:List Int)
def qd:Bool:=(↑x0.length:Int)!=(↑x1.length:Int)
def qe:Int×List Int×List Int:=((0:Int),x0,x1)
def qT:Bool:=bif qd x0 x1 then false else bif Nat.beq ((Lp.res bP (qe x0 x1)).1) 0 then false else true
def qU:Bool:=allT [qd x0 x1||Lp.fin bP (qe x0 x1)]
end
def yM:List SV→List Entry→Option Out
 | [.one ⟨false,[.ref 0]⟩,.one ⟨false,[.ref 1]⟩],[.row false 2 (.int .i64) x0,.row false 2 (.int .i64) x1]=>some ⟨.one ⟨false,[.val (.bool (qT x0 x1))]⟩,[.row false 2 Pc x0,.row false 2 Pc x1],[],[qU x0 x1]⟩
 |_,_=>none
def FD:PF prog:=PF.ofG prog [] [bP.F] cw 35 f35 func35 (LOk.fnT (l:= [dl f35 0]) (by kernel_rfl) (.cons zx (.nil _))) yM (by
 intro vs es r h;unfold yM at h;split at h
 ·cases h;kernel_rfl
 ·cases h)
abbrev dB:=Int×Int×List Int
section
variable (y0 y1:Int)(y2:List Int)
def iA:Bool:=ltI y0 (↑y2.length:Int)
def kq:Bool:=leI 0 y0
def kr:Bool:=ltN y0.toNat y2.length
def kt:Int:=IntKind.wrap .i64 (y0 + (1:Int))
def ku:Int:=IntKind.wrap .i64 (y1 + (1:Int))
def kv:List Int:=List.set y2 y0.toNat y1
end
def zd:dB→List (Nat×SV)
 |(y0,y1,_)=> [(5,(.one ⟨false,[.val (.int .i64 y0)]⟩)),(0,(.one ⟨false,[.ref 0]⟩)),(1,(.one ⟨false,[.val (.int .i64 y1)]⟩))]
def yZ:dB→List (Nat×Entry)
 |(_,_,y2)=> [(0,(.row true 2 Pc y2))]
def zl:Nat→dB→List (Nat×SV)
 |_,(_,y1,_)=> [(1,(.one ⟨false,[.val (.int .i64 y1)]⟩))]
def zh:Nat→dB→List (Nat×Entry)
 |_,(_,_,y2)=> [(0,(.row true 2 Pc y2))]
def jP:dB→LT dB
 |(y0,y1,y2)=> .ite (iA y0 y2) (.need [kq y0,iA y0 y2,kr y0 y2] (.nrm ((kt y0),ku y1,(kv y0 y1 y2)) [(0,0)])) (.ext 0 [(0,0)])
def pe(s:St):Option dB:=
 (match s.look 5 with
 |some ⟨none,.one ⟨false,[.val (.int .i64 y0)]⟩⟩=>
 (match s.look 0 with
 |some ⟨none,.one ⟨false,[.ref 0]⟩⟩=>
 (match s.look 1 with
 |some ⟨none,.one ⟨false,[.val (.int .i64 y1)]⟩⟩=>
 (match s.ent 0 with
 |some (.row true 2 (.int .i64) y2)=>
 some (y0,y1,y2)
 |_=>none)
 |_=>none)
 |_=>none)
 |_=>none)
def bx:Lp dB where
 h:=⟨[6,7,8,9,12,13,14,15,16,17,1,10,11,5],[0],[],[]⟩
 JL:=zd
 JE:=yZ
 XL:=zl
 XE:=zh
 q:=fun j=>match j with | _=> .exit 0
 tags:= [0]
 lt:=jP
 fuel:=fun(y0,y1,y2)=>y0.natAbs + y1.natAbs + y2.length
 fix:=fun(_,_,_) (y0,y1,y2)=>(y0,y1,y2)
 σ:= [(0,0)]
 rd:=pe
theorem xA:LoopOk prog (fun k=>Nat.blt k Try.f36.ntmps) bx.F (dl f36 0):=by
 refine Lp.ok (tbl:= []) (lf:= []) cw bx (by kernel_rfl) (LOk.nil _) (fun _=>rfl) (fun _ _=>rfl) ?_ ?_ ?_ ?_ (fun _=>rfl) ?_
 ·rintro⟨y0,y1,y2⟩;kernel_rfl
 ·rintro⟨y0,y1,y2⟩;kernel_rfl
 ·intro s x h
  have h:pe s=some x:=h
  unfold pe at h
  repeat' split at h
  all_goals cases h
  constructor<;>repeat(first|refine ac (by assumption) rfl ?_|refine aq rfl (by assumption) rfl ?_|exact rfl)
 ·rintro⟨y0,y1,y2⟩;kernel_rfl
 ·rintro⟨y0,y1,y2⟩ z;exact(And.intro rfl trivial)
section
variable (x0:Int)(x1:List Int)
def mD:Int×Int×List Int:=((0:Int),x0,x1)
def mE:Int×List Int:=(Lp.res bx (mD x0 x1)).2.2
def nv:Int:=(mE x0 x1).1
def nx:List Int:=(mE x0 x1).2
def ny:Bool:=allT [Lp.fin bx (mD x0 x1)]
end
def vJ:List SV→List Entry→Option Out
 | [.one ⟨false,[.ref 0]⟩,.one ⟨false,[.val (.int .i64 x0)]⟩],[.row true 2 (.int .i64) x1]=>some ⟨.one ⟨false,[.val (.int .i64 (nv x0 x1))]⟩,[.row true 2 Pc (nx x0 x1)],[],[ny x0 x1]⟩
 |_,_=>none
def DG:PF prog:=PF.ofG prog [] [bx.F] cw 36 f36 func36 (LOk.fnT (l:= [dl f36 0]) (by kernel_rfl) (.cons xA (.nil _))) vJ (by
 intro vs es r h;unfold vJ at h;split at h
 ·cases h;kernel_rfl
 ·cases h)
abbrev dA:=Int×Int×List Int
section
variable (y0 y1:Int)(y2:List Int)
def iy:Bool:=ltI y0 (↑y2.length:Int)
def kj:Bool:=leI 0 y0
def kk:Bool:=ltN y0.toNat y2.length
def km:Bool:=Option.getD y2[Int.toNat y0]? 0!=y1
end
def iz:Int:=(-1:Int)
def kn(y0:Int):Int:=IntKind.wrap .i64 (y0 + (1:Int))
def ko(y1:Int):Int:=IntKind.wrap .i64 (y1 + (1:Int))
def zc:dA→List (Nat×SV)
 |(y0,y1,_)=> [(5,(.one ⟨false,[.val (.int .i64 y0)]⟩)),(0,(.one ⟨false,[.ref 0]⟩)),(1,(.one ⟨false,[.val (.int .i64 y1)]⟩))]
def yY:dA→List (Nat×Entry)
 |(_,_,y2)=> [(0,(.row false 2 Pc y2))]
def zk:Nat→dA→List (Nat×SV)
 |0,(_,_,_)=> [(4,(.one ⟨false,[.val (.int .i64 (iz))]⟩))]
 |_,(_,y1,_)=> [(1,(.one ⟨false,[.val (.int .i64 y1)]⟩))]
def zg:Nat→dA→List (Nat×Entry)
 |0,(_,_,y2)=> [(0,(.row false 2 Pc y2))]
 |_,(_,_,y2)=> [(0,(.row false 2 Pc y2))]
def jO:dA→LT dA
 |(y0,y1,y2)=> .ite (iy y0 y2) (.need [kj y0,iy y0 y2,kk y0 y2] (.ite (km y0 y1 y2) (.ext 0 [(0,0)]) (.nrm ((kn y0),ko y1,y2) [(0,0)]))) (.ext 1 [(0,0)])
def pd(s:St):Option dA:=
 (match s.look 5 with
 |some ⟨none,.one ⟨false,[.val (.int .i64 y0)]⟩⟩=>
 (match s.look 0 with
 |some ⟨none,.one ⟨false,[.ref 0]⟩⟩=>
 (match s.look 1 with
 |some ⟨none,.one ⟨false,[.val (.int .i64 y1)]⟩⟩=>
 (match s.ent 0 with
 |some (.row false 2 (.int .i64) y2)=>
 some (y0,y1,y2)
 |_=>none)
 |_=>none)
 |_=>none)
 |_=>none)
def aU:Lp dA where
 h:=⟨[6,7,8,9,12,13,14,15,16,17,4,18,19,1,10,11,5],[0],[],[]⟩
 JL:=zc
 JE:=yY
 XL:=zk
 XE:=zg
 q:=fun j=>match j with | 0=> .ret | _=> .exit 0
 tags:= [0,1]
 lt:=jO
 fuel:=fun(y0,y1,y2)=>y0.natAbs + y1.natAbs + y2.length
 fix:=fun(_,_,y2) (y0,y1,_)=>(y0,y1,y2)
 σ:= [(0,0)]
 rd:=pd
theorem xz:LoopOk prog (fun k=>Nat.blt k Try.f37.ntmps) aU.F (dl f37 0):=by
 refine Lp.ok (tbl:= []) (lf:= []) cw aU (by kernel_rfl) (LOk.nil _) (fun _=>rfl) (fun j _=>by unfold aU;match j with | 0=>rfl | _ + 1=>rfl) ?_ ?_ ?_ ?_ (fun _=>rfl) ?_
 ·rintro⟨y0,y1,y2⟩;kernel_rfl
 ·rintro⟨y0,y1,y2⟩;kernel_rfl
 ·intro s x h
  have h:pd s=some x:=h
  unfold pd at h
  repeat' split at h
  all_goals cases h
  constructor<;>repeat(first|refine ac (by assumption) rfl ?_|refine aq rfl (by assumption) rfl ?_|exact rfl)
 ·rintro⟨y0,y1,y2⟩;kernel_rfl
 ·rintro⟨y0,y1,y2⟩ z;exact(And.intro (And.intro trivial rfl) trivial)
section
variable (x0:Int)(x1:List Int)
def mC:Int×Int×List Int:=((0:Int),x0,x1)
def nu:Int:=bif Nat.beq ((Lp.res aU (mC x0 x1)).1) 0 then iz else ((Lp.res aU (mC x0 x1)).2.2).1
def pn:Bool:=allT [Lp.fin aU (mC x0 x1)]
end
def vI:List SV→List Entry→Option Out
 | [.one ⟨false,[.ref 0]⟩,.one ⟨false,[.val (.int .i64 x0)]⟩],[.row false 2 (.int .i64) x1]=>some ⟨.one ⟨false,[.val (.int .i64 (nu x0 x1))]⟩,[.row false 2 Pc x1],[],[pn x0 x1]⟩
 |_,_=>none
def DF:PF prog:=PF.ofG prog [] [aU.F] cw 37 f37 func37 (LOk.fnT (l:= [dl f37 0]) (by kernel_rfl) (.cons xz (.nil _))) vI (by
 intro vs es r h;unfold vI at h;split at h
 ·cases h;kernel_rfl
 ·cases h)
section
variable (x0 x1 x2:Int)
def oQ:Bool:=IntKind.wrap .i64 (Int.tdiv x1 3)==x2
def rb:Bool:=Int.tmod x1 3==2
def vj:Bool:=bif oQ x1 x2 then true else bif rb x1 then Int.tmod (IntKind.wrap .i64 (IntKind.wrap .i64 (Int.tdiv x1 3) + (1:Int))) x0==x2 else false
def si:Bool:=allT [!(!oQ x1 x2&&true)||neI 3 0,!(rb x1&&(!oQ x1 x2&&true))||neI 3 0,!(rb x1&&(!oQ x1 x2&&true))||neI x0 0]
end
def zF:List SV→List Entry→Option Out
 | [.one ⟨false,[.val (.int .i64 x0)]⟩,.one ⟨false,[.val (.int .i64 x1)]⟩,.one ⟨false,[.val (.int .i64 x2)]⟩],[]=>some ⟨.one ⟨false,[.val (.bool (vj x0 x1 x2))]⟩,[],[],[si x0 x1 x2]⟩
 |_,_=>none
def GQ:PF prog:=PF.ofG prog [] [] cw 136 f136 func136 (fun c _=>LOk.nil c) zF (by
 intro vs es r h;unfold zF at h;split at h
 ·cases h;kernel_rfl
 ·cases h)
def blk(p:Int):Int:=Int.tdiv p 3
def phs(p:Int):Int:=Int.tmod p 3
def inR(a lo hi:Int):Bool:=leI lo a&&leI a hi
def isT(n:Int)(ps:List Int):Bool:=inR n 2 8&&inR ps.length 1 4&&ps.all fun p=>inR p 0 (3 * n - 1)
def xQ(n p b:Int):Bool:=blk p==b||(phs p==2&&Int.tmod (blk p + 1) n==b)
def uC(n:Int)(ps:List Int)(b:Int):Nat:=ps.countP fun p=>xQ n p b
def eqL(xs ys:List Int):Bool:=decide (xs=ys)
theorem MC(xs:List Int):eqL xs xs=true:=by simp [eqL]
theorem qS{a lo hi:Int}:inR a lo hi=true↔lo≤a∧a≤hi:=by simp [inR]
theorem Cv(a lo hi:Int):(bif leI lo a then leI a hi else false)=inR a lo hi:=by
 unfold inR;cases leI lo a <;> rfl
theorem iZ{n:Int}{ps:List Int}:isT n ps=true↔(2≤n∧n≤8)∧(1≤ps.length∧ps.length≤4)∧ ∀ p∈ps,0≤p∧p≤3 * n - 1:=by
 simp only [isT,Bool.and_eq_true,qS,List.all_eq_true]
 constructor
 ·rintro⟨⟨h1,h2⟩,h3⟩;exact⟨h1,by omega,h3⟩
 ·rintro⟨h1,h2,h3⟩;exact⟨⟨h1,by omega⟩,h3⟩
def jv(y1 b:Int):(Unit)→Nat ⊕ (Unit)
 |_=>(bif(!jm b 0 (IntKind.wrap .i64 (IntKind.wrap .i64 ((3:Int) * y1) - (1:Int))))then(.inl 0)else(.inr ()))
def gw(y1:Int)(y2:List Int)(i:Nat):(Unit)→ec
 |_=>((i:Int),y1,y2)
def pN:ec→Unit
 |(_,_,_)=>()
theorem BC(y1:Int)(y2:List Int) (hn:y2.length≤9223372036854775807):
  bu.fin ((0:Int),y1,y2)=true∧bu.res ((0:Int),y1,y2)=((aR (jv y1) 1 y2 0 ()).1,(gw y1 y2) (aR (jv y1) 1 y2 0 ()).2.1 (aR (jv y1) 1 y2 0 ()).2.2):=by
 have jb:=bu.along (gw y1 y2) pN (jv y1) 1 (fun _ _=>True) y2 () (by trivial) (by simp only [bu,gw];omega) (fun i b a hb hI=> ?_) (fun a hI=> ?_)
 ·exact jb
 ·obtain⟨⟩:=a
  have dE:=(List.getElem?_eq_some_iff.1 hb).1
  have gx: ∀ d,Option.getD y2[i]? d=b:=fun d=>by rw [hb];rfl
  have hw:=tA dE hn
  have gh:ltI (i:Int) (y2.length:Int)=true:=jg (by omega)
  have sx:leI (0:Int) (i:Int)=true:=gt (by omega)
  have lh:ltN i y2.length=true:=lm dE
  refine⟨?_,?_,?_,?_⟩
  ·simp [jy,lv,lw,lx,ly,kw,bu,LT.nds,allT,gw,gh,sx,lh,gx]
  ·simp [jy,lv,lw,lx,ly,kw,bu,LT.each,gw,pN,hw]
  ·simp only [jy,lv,lw,lx,ly,kw,bu,LT.fn,gw,pN,jv,Int.toNat_natCast,gh,sx,lh,gx,cond_true]
  ·exact fun _ _=>trivial
 ·obtain⟨⟩:=a
  simp [jy,lv,lw,lx,ly,kw,bu,LT.out,gw]
def cn(y2 b:Int):(Unit)→Nat ⊕ (Unit)
 |_=>(bif(mU b y2)then(.inl 0)else(.inr ()))
def aP(y2:Int)(y3:List Int)(i:Nat):(Unit)→aB
 |_=>((i:Int),(↑y3.length:Int),y2,y3)
def gz:aB→Unit
 |(_,_,_,_)=>()
theorem qI(y2:Int)(y3:List Int) (hn:y3.length≤9223372036854775807):
  ai.fin ((0:Int),(↑y3.length:Int),y2,y3)=true∧ai.res ((0:Int),(↑y3.length:Int),y2,y3)=((aR (cn y2) 1 y3 0 ()).1,(aP y2 y3) (aR (cn y2) 1 y3 0 ()).2.1 (aR (cn y2) 1 y3 0 ()).2.2):=by
 have jb:=ai.along (aP y2 y3) gz (cn y2) 1 (fun _ _=>True) y3 () (by trivial) (by simp only [ai,aP];omega) (fun i b a hb hI=> ?_) (fun a hI=> ?_)
 ·exact jb
 ·obtain⟨⟩:=a
  have dE:=(List.getElem?_eq_some_iff.1 hb).1
  have gx: ∀ d,Option.getD y3[i]? d=b:=fun d=>by rw [hb];rfl
  have hw:=tA dE hn
  have gh:ltI (i:Int) (y3.length:Int)=true:=jg (by omega)
  have sx:leI (0:Int) (i:Int)=true:=gt (by omega)
  have lh:ltN i y3.length=true:=lm dE
  refine⟨?_,?_,?_,?_⟩
  ·simp [dn,dq,dr,du,dv,dw,cM,ai,LT.nds,allT,aP,gh,sx,lh,gx]
  ·simp [dn,dq,dr,du,dv,dw,cM,ai,LT.each,aP,gz,hw]
  ·simp only [dn,dq,dr,du,dv,dw,cM,ai,LT.fn,aP,gz,cn,Int.toNat_natCast,gh,sx,lh,gx,cond_true]
  ·exact fun _ _=>trivial
 ·obtain⟨⟩:=a
  simp [dn,dq,dr,du,dv,dw,cM,ai,LT.out,aP]
def ic(y1:List Int)(b:Nat):(List Int)→Nat ⊕ (List Int)
 |y2=>(.inr (List.set y2 b (Option.getD y1[b]? 0)))
def fN(y1:List Int)(i:Nat):(List Int)→ez
 |y2=>((i:Int),y1,y2)
def qz:ez→List Int
 |(_,_,y2)=>y2
theorem CP(y1 y2:List Int)(hn:y1.length≤9223372036854775807)(hl:y2.length=y1.length):
  cu.fin ((0:Int),y1,y2)=true∧cu.res ((0:Int),y1,y2)=((aR (ic y1) 0 (List.range y1.length) 0 y2).1,(fN y1) (aR (ic y1) 0 (List.range y1.length) 0 y2).2.1 (aR (ic y1) 0 (List.range y1.length) 0 y2).2.2):=by
 have jb:=cu.along (fN y1) qz (ic y1) 0 (fun _ a=>a.length=y1.length) (List.range y1.length) y2 hl (by simp only [cu,fN,List.length_range];omega) (fun i b a hb hI=> ?_) (fun a hI=> ?_)
 ·exact jb
 ·obtain y2:=a
  obtain⟨rfl,dE⟩:=oS hb
  have hw:IntKind.i64.wrap ((b:Int) + 1)=((b + 1:Nat):Int):=by rw [cE (by omega) (by omega)];omega
  have gh:ltI (b:Int) (y1.length:Int)=true:=jg (by omega)
  have sx:leI (0:Int) (b:Int)=true:=gt (by omega)
  have lh:ltN b y1.length=true:=lm (by omega)
  refine⟨?_,?_,?_,?_⟩
  ·simp [jX,jY,mF,mG,mH,mI,mJ,lr,cu,LT.nds,allT,fN,gh,sx,lh,hI]
  ·simp [jX,jY,mF,mG,mH,mI,mJ,lr,cu,LT.each,fN,qz,hw,hI]
  ·simp only [jX,jY,mF,mG,mH,mI,mJ,lr,cu,LT.fn,fN,qz,ic,Int.toNat_natCast,gh,cond_true]
  ·intro a' hf;simp only [ic,Sum.inr.injEq]at hf;subst hf;simpa using hI
 ·obtain y2:=a
  simp [jX,jY,mF,mG,mH,mI,mJ,lr,cu,LT.out,fN,List.length_range]
def ma(y1 y2:List Int)(b:Nat):(Unit)→Nat ⊕ (Unit)
 |_=>(bif(Option.getD y1[b]? 0!=Option.getD y2[b]? 0)then(.inl 0)else(.inr ()))
def gL(y1 y2:List Int)(i:Nat):(Unit)→ey
 |_=>((i:Int),y1,y2)
def qy:ey→Unit
 |(_,_,_)=>()
theorem CO(y1 y2:List Int) (hn:y1.length≤9223372036854775807) (he:y2.length=y1.length):
  bP.fin ((0:Int),y1,y2)=true∧bP.res ((0:Int),y1,y2)=((aR (ma y1 y2) 1 (List.range y1.length) 0 ()).1,(gL y1 y2) (aR (ma y1 y2) 1 (List.range y1.length) 0 ()).2.1 (aR (ma y1 y2) 1 (List.range y1.length) 0 ()).2.2):=by
 have jb:=bP.along (gL y1 y2) qy (ma y1 y2) 1 (fun _ _=>True) (List.range y1.length) () (by trivial) (by simp only [bP,gL,List.length_range];omega) (fun i b a hb hI=> ?_) (fun a hI=> ?_)
 ·exact jb
 ·obtain⟨⟩:=a
  obtain⟨rfl,dE⟩:=oS hb
  have hw:IntKind.i64.wrap ((b:Int) + 1)=((b + 1:Nat):Int):=by rw [cE (by omega) (by omega)];omega
  have gh:ltI (b:Int) (y1.length:Int)=true:=jg (by omega)
  have sx:leI (0:Int) (b:Int)=true:=gt (by omega)
  have lh:ltN b y1.length=true:=lm (by omega)
  refine⟨?_,?_,?_,?_⟩
  ·simp [jV,jW,mw,my,mz,mA,mB,lq,bP,LT.nds,allT,gL,gh,sx,lh,he]
  ·simp [jV,jW,mw,my,mz,mA,mB,lq,bP,LT.each,gL,qy,hw,he]
  ·simp only [jV,jW,mw,my,mz,mA,mB,lq,bP,LT.fn,gL,qy,ma,Int.toNat_natCast,gh,cond_true]
  ·exact fun _ _=>trivial
 ·obtain⟨⟩:=a
  simp [jV,jW,mw,my,mz,mA,mB,lq,bP,LT.out,gL,List.length_range]
def gn(b:Nat):(Int×List Int)→Nat ⊕ (Int×List Int)
 |(y1,y2)=>(.inr ((IntKind.wrap .i64 (y1 + (1:Int))),(List.set y2 b y1)))
def eb(i:Nat):(Int×List Int)→dB
 |(y1,y2)=>((i:Int),y1,y2)
def pa:dB→Int×List Int
 |(_,y1,y2)=>(y1,y2)
theorem Ax(y1:Int)(y2:List Int)(n:Nat)(hl:y2.length=n)(hn:n≤9223372036854775807):
  bx.fin ((0:Int),y1,y2)=true∧bx.res ((0:Int),y1,y2)=((aR (gn) 0 (List.range n) 0 (y1,y2)).1,(eb) (aR (gn) 0 (List.range n) 0 (y1,y2)).2.1 (aR (gn) 0 (List.range n) 0 (y1,y2)).2.2):=by
 have jb:=bx.along (eb) pa (gn) 0 (fun _ a=>a.2.length=n) (List.range n) (y1,y2) hl (by simp only [bx,eb,List.length_range];omega) (fun i b a hb hI=> ?_) (fun a hI=> ?_)
 ·exact jb
 ·obtain⟨y1,y2⟩:=a
  obtain⟨rfl,dE⟩:=oS hb
  have hI0:y2.length=n:=hI
  have hw:IntKind.i64.wrap ((b:Int) + 1)=((b + 1:Nat):Int):=by rw [cE (by omega) (by omega)];omega
  have gh:ltI (b:Int) (y2.length:Int)=true:=jg (by omega)
  have sx:leI (0:Int) (b:Int)=true:=gt (by omega)
  have lh:ltN b y2.length=true:=lm (by omega)
  refine⟨?_,?_,?_,?_⟩
  ·simp [iA,kq,kr,kt,ku,kv,jP,bx,LT.nds,allT,eb,gh,sx,lh]
  ·simp [iA,kq,kr,kt,ku,kv,jP,bx,LT.each,eb,pa,hw]
  ·simp only [iA,kq,kr,kt,ku,kv,jP,bx,LT.fn,eb,pa,gn,Int.toNat_natCast,gh,sx,lh,cond_true]
  ·intro a' hf;simp only [gn,Sum.inr.injEq]at hf;subst hf;simp [hI0]
 ·obtain⟨y1,y2⟩:=a
  have hI0:y2.length=n:=hI
  simp [iA,kq,kr,kt,ku,kv,jP,bx,LT.out,eb,hI0,List.length_range]
def iu(b:Int):(Int)→Nat ⊕ (Int)
 |y1=>(bif(b !=y1)then(.inl 0)else(.inr (IntKind.wrap .i64 (y1 + (1:Int)))))
def eK(y2:List Int)(i:Nat):(Int)→dA
 |y1=>((i:Int),y1,y2)
def oZ:dA→Int
 |(_,y1,_)=>y1
theorem tZ(y2:List Int)(y1:Int)(hn:y2.length≤9223372036854775807):
  aU.fin ((0:Int),y1,y2)=true∧aU.res ((0:Int),y1,y2)=((aR (iu) 1 y2 0 y1).1,(eK y2) (aR (iu) 1 y2 0 y1).2.1 (aR (iu) 1 y2 0 y1).2.2):=by
 have jb:=aU.along (eK y2) oZ (iu) 1 (fun _ _=>True) y2 y1 (by trivial) (by simp only [aU,eK];omega) (fun i b a hb hI=> ?_) (fun a hI=> ?_)
 ·exact jb
 ·obtain y1:=a
  have dE:=(List.getElem?_eq_some_iff.1 hb).1
  have gx: ∀ d,Option.getD y2[i]? d=b:=fun d=>by rw [hb];rfl
  have hw:=tA dE hn
  have gh:ltI (i:Int) (y2.length:Int)=true:=jg (by omega)
  have sx:leI (0:Int) (i:Int)=true:=gt (by omega)
  have lh:ltN i y2.length=true:=lm dE
  refine⟨?_,?_,?_,?_⟩
  ·simp [iy,kj,kk,km,iz,kn,ko,jO,aU,LT.nds,allT,eK,gh,sx,lh,gx]
  ·simp [iy,kj,kk,km,iz,kn,ko,jO,aU,LT.each,eK,oZ,hw]
  ·simp only [iy,kj,kk,km,iz,kn,ko,jO,aU,LT.fn,eK,oZ,iu,Int.toNat_natCast,gh,sx,lh,gx,cond_true]
  ·exact fun _ _=>trivial
 ·obtain y1:=a
  simp [iy,kj,kk,km,iz,kn,ko,jO,aU,LT.out,eK]
theorem Mm(xs:List Int)(hn:leN xs.length 1048576=true):qV xs=xs∧qW xs=true:=by
 have hn:=kO.1 hn
 have hr:(List.replicate (Int.toNat (xs.length:Int)) (0:Int)).length=xs.length:=by simp
 obtain⟨w1,w2⟩:=CP xs (List.replicate (Int.toNat (xs.length:Int)) (0:Int)) (by omega) hr
 have hc:=ET (xs:=xs) (d:=(0:Int)) (g:=fun x=>x) (f:=ic xs) (e:=0) (fun b a=>rfl) hr
 rw [hc]at w2
 refine⟨?_,?_⟩
 ·simp only [qf,qV,qW,w2,fN];simp
 ·simp only [qf,qV,qW,w1,allT];simp;omega
def yU:List SV→List Entry→Option Out
 | [.one ⟨false,[.ref 0]⟩],[.row false 2 (.int .i64) x0]=>some ⟨.one ⟨false,[.ref 1]⟩,[.row false 2 Pc x0],[.row true 2 Pc x0],[leN x0.length 1048576]⟩
 |_,_=>none
def uk:PF prog:=PF.alt FF yU (by
 intro args es o h bf;unfold yU at h;split at h
 ·rename_i x0
  cases h
  have bf:=jj bf
  have hh:=Mm x0 bf
  obtain⟨e0,en⟩:=hh
  exact jG rfl (fX en) rfl rfl (by simp only [e0] <;> rfl)
 ·cases h)
theorem LN(xs ys:List Int)(hn:leN xs.length 9223372036854775807=true):qT xs ys=eqL xs ys∧qU xs ys=true:=by
 have hn:=kO.1 hn
 unfold eqL
 by_cases hl:ys.length=xs.length
 ·obtain⟨w1,w2⟩:=CO xs ys hn hl
  have ha:=Mp (d:=(0:Int)) hl (P:=fun b=>Option.getD xs[b]? 0 !=Option.getD ys[b]? 0) (fun b=>by simp [bne,BEq.beq])
  rw [rJ (P:=fun b=>Option.getD xs[b]? 0 !=Option.getD ys[b]? 0) (j:=0) (fun b=>rfl),ha]at w2
  simp only [qd,qe,qT,qU,w1,w2,allT]
  by_cases he:xs=ys
  ·subst he;simp;decide
  ·simp [he,hl]
 ·have sw:xs≠ys:=fun h=>hl (by rw [h])
  simp [qd,qe,qT,qU,allT,sw]
  omega
def yS:List SV→List Entry→Option Out
 | [.one ⟨false,[.ref 0]⟩,.one ⟨false,[.ref 1]⟩],[.row false 2 (.int .i64) x0,.row false 2 (.int .i64) x1]=>some ⟨.one ⟨false,[.val (.bool (eqL x0 x1))]⟩,[.row false 2 Pc x0,.row false 2 Pc x1],[],[leN x0.length 9223372036854775807]⟩
 |_,_=>none
def nq:PF prog:=PF.alt FD yS (by
 intro args es o h bf;unfold yS at h;split at h
 ·rename_i x0 x1
  cases h
  have bf:=jj bf
  have hh:=LN x0 x1 bf
  obtain⟨e0,en⟩:=hh
  exact jG rfl (fX en) (by simp only [e0] <;> rfl) rfl rfl
 ·cases h)
def zB(k:Int)(n:Nat):Bool:=leI 0 k&&leI (k + n) 9223372036854775807
theorem xG{k:Int}{n:Nat}:zB k n=true↔0≤k∧k + n≤9223372036854775807:=by simp [zB]
theorem Fc(k:Int)(xs:List Int)(h:zB k xs.length=true):nv k xs=k + xs.length∧nx k xs=jI k xs.length∧ny k xs=true:=by
 obtain⟨h0,h1⟩:=xG.1 h
 obtain⟨w1,w2⟩:=Ax k xs xs.length rfl (by omega)
 rw [Mn (f:=gn) (fun b k xs=>rfl) h0 h1]at w2
 refine⟨?_,?_,?_⟩
 ·simp only [mD,mE,nv,nx,ny,w2,eb]
 ·simp only [mD,mE,nv,nx,ny,w2,eb]
 ·simp only [mD,mE,nv,nx,ny,w1,allT,cond_true]
def vO:List SV→List Entry→Option Out
 | [.one ⟨false,[.ref 0]⟩,.one ⟨false,[.val (.int .i64 x0)]⟩],[.row true 2 (.int .i64) x1]=>some ⟨.one ⟨false,[.val (.int .i64 (x0 + (x1.length:Int)))]⟩,[.row true 2 Pc (jI x0 x1.length)],[],[zB x0 x1.length]⟩
 |_,_=>none
def kR:PF prog:=PF.alt DG vO (by
 intro args es o h bf;unfold vO at h;split at h
 ·rename_i x0 x1
  cases h
  have bf:=jj bf
  have hh:=Fc x0 x1 bf
  obtain⟨e0,e1,en⟩:=hh
  exact jG rfl (fX en) (by simp only [e0] <;> rfl) (by simp only [e1] <;> rfl) rfl
 ·cases h)
def Dk(k:Int)(xs:List Int):Int:=nu k xs
theorem JA(k:Int)(n:Nat)(h:zB k n=true):Dk k (jI k n)=k + n:=by
 obtain⟨h0,h1⟩:=xG.1 h
 obtain⟨w1,w2⟩:=tZ (jI k n) k (by rw [qP];omega)
 rw [Io (f:=iu) (fun b k=>rfl) h0 h1]at w2
 simp only [Dk,mC,nu,pn,w2,eK]
 rfl
theorem Jz(k:Int)(xs:List Int)(h:leN xs.length 9223372036854775807=true):nu k xs=Dk k xs∧pn k xs=true:=by
 obtain⟨w1,w2⟩:=tZ xs k (kO.1 h)
 exact⟨rfl,by simp only [mC,nu,pn,w1,allT,cond_true]⟩
def vN:List SV→List Entry→Option Out
 | [.one ⟨false,[.ref 0]⟩,.one ⟨false,[.val (.int .i64 x0)]⟩],[.row false 2 (.int .i64) x1]=>some ⟨.one ⟨false,[.val (.int .i64 (Dk x0 x1))]⟩,[.row false 2 Pc x1],[],[leN x1.length 9223372036854775807]⟩
 |_,_=>none
def kQ:PF prog:=PF.alt DF vN (by
 intro args es o h bf;unfold vN at h;split at h
 ·rename_i x0 x1
  cases h
  have bf:=jj bf
  have hh:=Jz x0 x1 bf
  obtain⟨e0,en⟩:=hh
  exact jG rfl (fX en) (by simp only [e0] <;> rfl) rfl rfl
 ·cases h)
def szV(k:Int)(xs:List Int):Int:=bif ltI (k - xs.length) 0 then -1 else k - xs.length
theorem Mk(k:Int)(xs:List Int)(h:(leN xs.length 9223372036854775807&&(leI (-1) k&&leI k 1048576))=true):ui k xs=szV k xs:=by
 simp only [Bool.and_eq_true,kO,AE]at h
 simp only [sX,ui,szV]
 rw [cE (by omega) (by omega)]
def yT:List SV→List Entry→Option Out
 | [.one ⟨false,[.ref 0]⟩,.one ⟨false,[.val (.int .i64 x0)]⟩],[.row false 2 (.int .i64) x1]=>some ⟨.one ⟨false,[.val (.int .i64 (szV x0 x1))]⟩,[.row false 2 Pc x1],[],[leN x1.length 9223372036854775807&&(leI (-1) x0&&leI x0 1048576)]⟩
 |_,_=>none
def uj:PF prog:=PF.alt FE yT (by
 intro args es o h bf;unfold yT at h;split at h
 ·rename_i x0 x1
  cases h
  have bf:=jj bf
  have hh:=Mk x0 x1 bf
  have e0:=hh
  exact jG rfl (fun _ h=>by cases h) (by simp only [e0] <;> rfl) rfl rfl
 ·cases h)
theorem Fl{n:Int}(h:2≤n∧n≤8):IntKind.i64.wrap (IntKind.i64.wrap (3 * n) - 1)=3 * n - 1:=by
 rw [cE (x:=3 * n) (by omega) (by omega),cE (by omega) (by omega)]
theorem Lh(n:Int)(ps:List Int):tn n ps=isT n ps∧tp n ps=true:=by
 simp only [sd,se,tn,tp,jm,Cv,isT]
 cases h1:inR n 2 8 with
 |false=>simp [allT]
 |true=>
  cases h2:inR (ps.length:Int) 1 4 with
  |false=>simp [allT]
  |true=>
   have h2':=qS.1 h2
   obtain⟨w1,w2⟩:=BC n ps (by omega)
   rw [rJ (P:=fun b=> !inR b 0 (3 * n - 1)) (j:=0) (fun b=>by simp only [jv,Fl (qS.1 h1),jm,Cv])]at w2
   have e5:(ps.any fun b=> !inR b 0 (3 * n - 1))= !(ps.all fun b=>inR b 0 (3 * n - 1)):=by simp [List.all_eq_not_any_not]
   rw [e5]at w2
   simp only [w1,w2,allT]
   cases (ps.all fun b=>inR b 0 (3 * n - 1)) <;> simp <;> rfl
def wY:List SV→List Entry→Option Out
 | [.one ⟨true,[.val (.int .i64 x0),.ref 0]⟩],[.row false 2 (.int .i64) x1]=>some ⟨.one ⟨false,[.val (.bool (isT x0 x1))]⟩,[.row false 2 Pc x1],[],[]⟩
 |_,_=>none
def cF:PF prog:=PF.alt ED wY (by
 intro args es o h bf;unfold wY at h;split at h
 ·rename_i x0 x1
  cases h
  have hh:=Lh x0 x1
  obtain⟨e0,en⟩:=hh
  exact jG rfl (fX en) (by simp only [e0] <;> rfl) rfl rfl
 ·cases h)
theorem Jl(n:Int)(h:2≤n∧n≤8)(ps:List Int)(hn:ps.length≤9223372036854775807):
  eN ps n=(ps.any fun b=> !inR b 0 (3 * n - 1))∧eO ps n=true:=by
 obtain⟨w1,w2⟩:=qI n ps hn
 rw [rJ (P:=fun b=> !inR b 0 (3 * n - 1)) (j:=0) (fun b=>by simp only [cn,mU,Fl h,gS,Cv])]at w2
 simp only [eN,lu,eO,fg,ii,iR,iS,iT,w1,w2,allT,cond_true,and_true,aP]
 cases (ps.any fun b=> !inR b 0 (3 * n - 1))with
 |true=>exact gt (Int.natCast_nonneg _)
 |false=>rfl
theorem KO(n:Int)(ps:List Int):sI n ps=isT n ps∧sJ n ps=true:=by
 simp only [rP,sI,sJ,qq,gS,fK,Cv,isT]
 cases h1:inR n 2 8 with
 |false=>simp [allT]
 |true=>
  cases h2:inR (ps.length:Int) 1 4 with
  |false=>simp [allT]
  |true=>
   have h2':=qS.1 h2
   obtain⟨c1,c2⟩:=Jl n (qS.1 h1) ps (by omega)
   simp only [c1,c2,allT]
   simp [List.all_eq_not_any_not]
def wT:List SV→List Entry→Option Out
 | [.one ⟨true,[.val (.int .i64 x0),.ref 0]⟩],[.row false 2 (.int .i64) x1]=>some ⟨.one ⟨false,[.val (.bool (isT x0 x1))]⟩,[.row false 2 Pc x1],[],[]⟩
 |_,_=>none
def td:PF prog:=PF.alt Ey wT (by
 intro args es o h bf;unfold wT at h;split at h
 ·rename_i x0 x1
  cases h
  have hh:=KO x0 x1
  obtain⟨e0,en⟩:=hh
  exact jG rfl (fX en) (by simp only [e0] <;> rfl) rfl rfl
 ·cases h)
def Cm(ps:List Int)(t:Int):Bool:=inR t 0 ((ps.length:Int) - 1)
theorem xk{ps:List Int}{t:Int}:Cm ps t=true↔0≤t∧t < ps.length:=by
 rw [Cm,qS];omega
theorem Jv(t:Int)(ps:List Int)(h:leN ps.length 9223372036854775807=true):eV t ps=Cm ps t:=by
 have h:=kO.1 h
 simp only [eV,gS,fK,Cm,Cv]
 rw [cE (x:=(ps.length:Int) - 1) (by omega) (by omega)]
def iW:List SV→List Entry→Option Out
 | [.one ⟨true,[.val (.int .i64 _x0),.ref 0]⟩,.one ⟨false,[.val (.int .i64 x1)]⟩],[.row false 2 (.int .i64) x2]=>some ⟨.one ⟨false,[.val (.bool (Cm x2 x1))]⟩,[.row false 2 Pc x2],[],[leN x2.length 9223372036854775807]⟩
 |_,_=>none
def eW:PF prog:=PF.alt oE iW (by
 intro args es o h bf;unfold iW at h;split at h
 ·rename_i _x0 x1 x2
  cases h
  have bf:=jj bf
  have hh:=Jv x1 x2 bf
  have e0:=hh
  exact jG rfl (fun _ h=>by cases h) (by simp only [e0] <;> rfl) rfl rfl
 ·cases h)
theorem Mt(xs:List Int)(h:(leN 1 xs.length&&leN xs.length 1048576)=true):mM xs=true:=by
 simp only [Bool.and_eq_true,kO]at h
 simp [mM,allT]
 omega
def pB:List SV→List Entry→Option Out
 | [.one ⟨false,[.ref 0]⟩],[.row false 2 (.int .i64) x0]=>some ⟨.one ⟨false,[.ref 1]⟩,[.row false 2 Pc x0],[.row true 2 Pc x0],[leN 1 x0.length&&leN x0.length 1048576]⟩
 |_,_=>none
def aQ:PF prog:=PF.alt vg pB (by
 intro args es o h bf;unfold pB at h;split at h
 ·rename_i x0
  cases h
  have bf:=jj bf
  have hh:=Mt x0 bf
  have en:=hh
  exact jG rfl (fX en) rfl rfl rfl
 ·cases h)
theorem Oe(xs:List Int)(h:leN xs.length 1048576=true):wx xs=true:=by
 have h:=kO.1 h
 simp [wx,allT]
 omega
def BI:List SV→List Entry→Option Out
 | [.one ⟨false,[.ref 0]⟩],[.row false 2 (.int .i64) x0]=>some ⟨.one ⟨false,[.ref 1]⟩,[.row false 2 Pc x0],[.row true 2 Pc x0],[leN x0.length 1048576]⟩
 |_,_=>none
def kh:PF prog:=PF.alt Hs BI (by
 intro args es o h bf;unfold BI at h;split at h
 ·rename_i x0
  cases h
  have bf:=jj bf
  have hh:=Oe x0 bf
  have en:=hh
  exact jG rfl (fX en) rfl rfl rfl
 ·cases h)
def okP(n p:Int):Bool:=inR n 2 8&&inR p 0 (3 * n - 1)
theorem FP{n p:Int}:okP n p=true↔(2≤n∧n≤8)∧0≤p∧p≤3 * n - 1:=by simp [okP,qS]
theorem FM{n:Int}{ps:List Int}(h:isT n ps=true){p:Int}(hp:p∈ps):okP n p=true:=by
 obtain⟨h1,_,h3⟩:=iZ.1 h
 exact FP.2 ⟨h1,h3 p hp⟩
theorem DY{p:Int}(h:0≤p):blk p=p / 3:=by rw [blk,Int.tdiv_eq_ediv_of_nonneg h]
theorem NS(n p b:Int)(h:okP n p=true):vj n p b=xQ n p b∧si n p b=true:=by
 obtain⟨⟨h1,h2⟩,h3,h4⟩:=FP.1 h
 have e1:IntKind.i64.wrap (Int.tdiv p 3)=blk p:=by
  rw [Int.tdiv_eq_ediv_of_nonneg h3,DY h3,cE (by omega) (by omega)]
 have e2:IntKind.i64.wrap (blk p + 1)=blk p + 1:=by rw [DY h3,cE (by omega) (by omega)]
 refine⟨?_,?_⟩
 ·simp only [oQ,rb,vj,si,e1,e2,xQ,phs]
  cases (blk p==b) <;> cases (Int.tmod p 3==2) <;> simp
 ·have hn:neI n 0=true:=HV (by omega)
  simp [si,allT,hn]
def zM:List SV→List Entry→Option Out
 | [.one ⟨false,[.val (.int .i64 x0)]⟩,.one ⟨false,[.val (.int .i64 x1)]⟩,.one ⟨false,[.val (.int .i64 x2)]⟩],[]=>some ⟨.one ⟨false,[.val (.bool (xQ x0 x1 x2))]⟩,[],[],[okP x0 x1]⟩
 |_,_=>none
def Al:PF prog:=PF.alt GQ zM (by
 intro args es o h bf;unfold zM at h;split at h
 ·rename_i x0 x1 x2
  cases h
  have bf:=jj bf
  have hh:=NS x0 x1 x2 bf
  obtain⟨e0,en⟩:=hh
  exact jG rfl (fX en) (by simp only [e0] <;> rfl) rfl rfl
 ·cases h)
def sY(x1:Int)(x2:List Int):Int:=bif ltI (szV x1 x2) 0 then(-1:Int)else szV x1 x2
def sZ(x1:Int)(x2:List Int):Bool:=allT [leN x2.length (9223372036854775807:Nat)&&(leI (-1:Int) x1&&leI x1 1048576)]
def wK:List SV→List Entry→Option Out
 | [.one ⟨true,[.val (.int .i64 _x0),.ref 0]⟩,.one ⟨false,[.val (.int .i64 x1)]⟩],[.row false 2 (.int .i64) x2]=>some ⟨.one ⟨false,[.val (.int .i64 (sY x1 x2))]⟩,[.row false 2 Pc x2],[],[sZ x1 x2]⟩
 |_,_=>none
def EB:PF prog:=PF.ofG prog (T3z [uj]) [] cw 15 f15 func15 (fun c _=>LOk.nil c) wK (by
 intro vs es r h;unfold wK at h;split at h
 ·cases h;kernel_rfl
 ·cases h)
section
variable (x0 x1:Int)(x2:List Int)
def ra:Int:=IntKind.wrap .i64 ((3:Int) * x0)
def sf:List Int:=List.set x2 x1.toNat (Int.tmod (IntKind.wrap .i64 (Option.getD x2[Int.toNat x1]? 0 + (1:Int))) (ra x0))
def sg:Bool:=allT [leN x2.length (1048576:Nat),leI 0 x1,ltI x1 (↑x2.length:Int),ltN x1.toNat x2.length,neI (ra x0) 0,leI 0 x1,ltI x1 (↑x2.length:Int),ltN x1.toNat x2.length]
end
def zE:List SV→List Entry→Option Out
 | [.one ⟨true,[.val (.int .i64 x0),.ref 0]⟩,.one ⟨false,[.val (.int .i64 x1)]⟩],[.row false 2 (.int .i64) x2]=>some ⟨.one ⟨true,[.val (.int .i64 x0),.ref 1]⟩,[.row false 2 Pc x2],[.row true 2 Pc (sf x0 x1 x2)],[sg x0 x1 x2]⟩
 |_,_=>none
def GP:PF prog:=PF.ofG prog (T3z [kh]) [] cw 72 f72 func72 (fun c _=>LOk.nil c) zE (by
 intro vs es r h;unfold zE at h;split at h
 ·cases h;kernel_rfl
 ·cases h)
def ta(x1:List Int):Bool:=allT [leN x1.length (1048576:Nat)]
def wL:List SV→List Entry→Option Out
 | [.one ⟨true,[.val (.int .i64 x0),.ref 0]⟩],[.row false 2 (.int .i64) x1]=>some ⟨.one ⟨true,[.val (.int .i64 x0),.ref 1]⟩,[.row false 2 Pc x1],[.row true 2 Pc x1],[ta x1]⟩
 |_,_=>none
def EC:PF prog:=PF.ofG prog (T3z [uk]) [] cw 17 f17 func17 (fun c _=>LOk.nil c) wL (by
 intro vs es r h;unfold wL at h;split at h
 ·cases h;kernel_rfl
 ·cases h)
def aT(x1:List Int):Bool:=allT [leN 1 x1.length&&leN x1.length (1048576:Nat)]
def jK:List SV→List Entry→Option Out
 | [.one ⟨true,[.val (.int .i64 x0),.ref 0]⟩],[.row false 2 (.int .i64) x1]=>some ⟨.one ⟨true,[.val (.int .i64 x0),.ref 1]⟩,[.row false 2 Pc x1],[.row true 2 Pc x1],[aT x1]⟩
 |_,_=>none
def ag:PF prog:=PF.ofG prog (T3z [aQ]) [] cw 95 f95 func95 (fun c _=>LOk.nil c) jK (by
 intro vs es r h;unfold jK at h;split at h
 ·cases h;kernel_rfl
 ·cases h)
section
variable (x0 x1:Int)(x2:List Int)
def dJ:Int:=IntKind.wrap .i64 ((3:Int) * x0)
def dX:List Int:=List.set x2 x1.toNat (Int.tmod (IntKind.wrap .i64 (Option.getD x2[Int.toNat x1]? 0 + (1:Int))) (dJ x0))
def dY:Bool:=allT [aT x2,leI 0 x1,ltI x1 (↑x2.length:Int),ltN x1.toNat x2.length,neI (dJ x0) 0,leI 0 x1,ltI x1 (↑x2.length:Int),ltN x1.toNat x2.length]
end
def jL:List SV→List Entry→Option Out
 | [.one ⟨true,[.val (.int .i64 x0),.ref 0]⟩,.one ⟨false,[.val (.int .i64 x1)]⟩],[.row false 2 (.int .i64) x2]=>some ⟨.one ⟨true,[.val (.int .i64 x0),.ref 1]⟩,[.row false 2 Pc x2],[.row true 2 Pc (dX x0 x1 x2)],[dY x0 x1 x2]⟩
 |_,_=>none
def oY:PF prog:=PF.ofG prog (T3z [ag]) [] cw 74 f74 func74 (fun c _=>LOk.nil c) jL (by
 intro vs es r h;unfold jL at h;split at h
 ·cases h;kernel_rfl
 ·cases h)
def sV(x0 x1:Int)(x2 x3:List Int):Bool:=bif x0 !=x1 then false else bif !eqL x2 x3 then false else true
def sW(x0 x1:Int)(x2:List Int):Bool:=allT [x0 !=x1||leN x2.length (9223372036854775807:Nat)]
def wJ:List SV→List Entry→Option Out
 | [.one ⟨true,[.val (.int .i64 x0),.ref 0]⟩,.one ⟨true,[.val (.int .i64 x1),.ref 1]⟩],[.row false 2 (.int .i64) x2,.row false 2 (.int .i64) x3]=>some ⟨.one ⟨false,[.val (.bool (sV x0 x1 x2 x3))]⟩,[.row false 2 Pc x2,.row false 2 Pc x3],[],[sW x0 x1 x2]⟩
 |_,_=>none
def EA:PF prog:=PF.ofG prog (T3z [nq]) [] cw 19 f19 func19 (fun c _=>LOk.nil c) wJ (by
 intro vs es r h;unfold wJ at h;split at h
 ·cases h;kernel_rfl
 ·cases h)
section
variable (x1:Int)(x2:List Int)
def ro:Int:=x1 + (↑x2.length:Int)
def rp:List Int:=jI x1 x2.length
def rq:Bool:=allT [zB x1 x2.length]
end
def uO:List SV→List Entry→Option Out
 | [.one ⟨true,[.val (.int .i64 _x0),.ref 0]⟩,.one ⟨false,[.val (.int .i64 x1)]⟩],[.row true 2 (.int .i64) x2]=>some ⟨.one ⟨false,[.val (.int .i64 (ro x1 x2))]⟩,[.row true 2 Pc (rp x1 x2)],[],[rq x1 x2]⟩
 |_,_=>none
def CD:PF prog:=PF.ofG prog (T3z [kR]) [] cw 20 f20 func20 (fun c _=>LOk.nil c) uO (by
 intro vs es r h;unfold uO at h;split at h
 ·cases h;kernel_rfl
 ·cases h)
def rm(x1:Int)(x2:List Int):Int:=bif ltI (Dk x1 x2) 0 then(-1:Int)else Dk x1 x2
def rn(x2:List Int):Bool:=allT [leN x2.length (9223372036854775807:Nat)]
def uN:List SV→List Entry→Option Out
 | [.one ⟨true,[.val (.int .i64 _x0),.ref 0]⟩,.one ⟨false,[.val (.int .i64 x1)]⟩],[.row false 2 (.int .i64) x2]=>some ⟨.one ⟨false,[.val (.int .i64 (rm x1 x2))]⟩,[.row false 2 Pc x2],[],[rn x2]⟩
 |_,_=>none
def CC:PF prog:=PF.ofG prog (T3z [kQ]) [] cw 21 f21 func21 (fun c _=>LOk.nil c) uN (by
 intro vs es r h;unfold uN at h;split at h
 ·cases h;kernel_rfl
 ·cases h)
abbrev eA:=Int×Int×Int×Int×List Int
section
variable (y0 y1 y2 y3:Int)(y4:List Int)
def jz:Int:=Option.getD y4[Int.toNat y0]? 0
def jZ:Bool:=ltI y0 (↑y4.length:Int)
def mN:Bool:=leI 0 y0
def mO:Bool:=ltN y0.toNat y4.length
def mP:Bool:=okP y3 (jz y0 y4)
def mQ:Int:=IntKind.wrap .i64 (y0 + (1:Int))
def mR:Int:=bif xQ y3 (jz y0 y4) y1 then IntKind.wrap .i64 (y2 + (1:Int))else y2
end
def Bb:eA→List (Nat×SV)
 |(y0,y1,y2,_,_)=> [(6,(.one ⟨false,[.val (.int .i64 y0)]⟩)),(2,(.one ⟨false,[.ptr 0 0]⟩)),(1,(.one ⟨false,[.val (.int .i64 y1)]⟩)),(5,(.one ⟨false,[.val (.int .i64 y2)]⟩))]
def AU:eA→List (Nat×Entry)
 |(_,_,_,y3,y4)=> [(0,(.box 26 [.val (.int .i64 y3),.ref 1])),(1,(.row false 2 Pc y4))]
def Bp:Nat→eA→List (Nat×SV)
 |_,(_,_,y2,_,_)=> [(5,(.one ⟨false,[.val (.int .i64 y2)]⟩))]
def Bi:Nat→eA→List (Nat×Entry)
 |_,(_,_,_,y3,y4)=> [(0,(.box 26 [.val (.int .i64 y3),.ref 1])),(1,(.row false 2 Pc y4))]
def ls:eA→LT eA
 |(y0,y1,y2,y3,y4)=> .ite (jZ y0 y4) (.need [mN y0,jZ y0 y4,mO y0 y4,mP y0 y3 y4] (.nrm ((mQ y0),y1,mR y0 y1 y2 y3 y4,y3,y4) [(0,0),(1,1)])) (.ext 0 [(0,0),(1,1)])
def qH(s:St):Option eA:=
 (match s.look 6 with
 |some ⟨none,.one ⟨false,[.val (.int .i64 y0)]⟩⟩=>
 (match s.look 2 with
 |some ⟨none,.one ⟨false,[.ptr 128 0]⟩⟩=>
 (match s.look 1 with
 |some ⟨none,.one ⟨false,[.val (.int .i64 y1)]⟩⟩=>
 (match s.look 5 with
 |some ⟨none,.one ⟨false,[.val (.int .i64 y2)]⟩⟩=>
 (match s.ent 128 with
 |some (.box 26 [.val (.int .i64 y3),.ref 0])=>
 (match s.ent 0 with
 |some (.row false 2 (.int .i64) y4)=>
 some (y0,y1,y2,y3,y4)
 |_=>none)
 |_=>none)
 |_=>none)
 |_=>none)
 |_=>none)
 |_=>none)
def cv:Lp eA where
 h:=⟨[7,8,9,10,11,14,15,16,17,18,19,20,21,22,23,24,5,12,13,6],[0,1],[],[]⟩
 JL:=Bb
 JE:=AU
 XL:=Bp
 XE:=Bi
 q:=fun j=>match j with | _=> .exit 0
 tags:= [0]
 lt:=ls
 fuel:=fun(y0,y1,y2,y3,y4)=>y0.natAbs + y1.natAbs + y2.natAbs + y3.natAbs + y4.length
 fix:=fun(_,y1,_,y3,y4) (y0,_,y2,_,_)=>(y0,y1,y2,y3,y4)
 σ:= [(0,128),(1,0)]
 rd:=qH
theorem zA:LoopOk prog (fun k=>Nat.blt k Try.f101.ntmps) cv.F (dl f101 0):=by
 refine Lp.ok (tbl:= [Al]) (lf:= []) cw cv (by kernel_rfl) (LOk.nil _) (fun _=>rfl) (fun _ _=>rfl) ?_ ?_ ?_ ?_ (fun _=>rfl) ?_
 ·rintro⟨y0,y1,y2,y3,y4⟩;kernel_rfl
 ·rintro⟨y0,y1,y2,y3,y4⟩;kernel_rfl
 ·intro s x h
  have h:qH s=some x:=h
  unfold qH at h
  repeat' split at h
  all_goals cases h
  constructor<;>repeat(first|refine ac (by assumption) rfl ?_|refine aq rfl (by assumption) rfl ?_|exact rfl)
 ·rintro⟨y0,y1,y2,y3,y4⟩;kernel_rfl
 ·rintro⟨y0,y1,y2,y3,y4⟩ z;exact(And.intro rfl trivial)
section
variable (x0 x1:Int)(x2:List Int)
def qi:Int×Int×Int×Int×List Int:=((0:Int),x1,(0:Int),x0,x2)
def qY:Int:=((Lp.res cv (qi x0 x1 x2)).2.2.2).1
def qZ:Bool:=allT [Lp.fin cv (qi x0 x1 x2)]
end
def yP:List SV→List Entry→Option Out
 | [.one ⟨true,[.val (.int .i64 x0),.ref 0]⟩,.one ⟨false,[.val (.int .i64 x1)]⟩],[.row false 2 (.int .i64) x2]=>some ⟨.one ⟨false,[.val (.int .i64 (qY x0 x1 x2))]⟩,[.row false 2 Pc x2],[],[qZ x0 x1 x2]⟩
 |_,_=>none
def FG:PF prog:=PF.ofG prog [Al] [cv.F] cw 101 f101 func101 (LOk.fnT (l:= [dl f101 0]) (by kernel_rfl) (.cons zA (.nil _))) yP (by
 intro vs es r h;unfold yP at h;split at h
 ·cases h;kernel_rfl
 ·cases h)
def DA(n:Int)(ps:List Int)(t:Int):List Int:=ps.set t.toNat (Int.tmod (ps[t.toNat]?.getD 0 + 1) (3 * n))
theorem vX(n:Int)(ps:List Int)(t:Int):(DA n ps t).length=ps.length:=by simp [DA]
theorem Lw{n:Int}{ps:List Int}(h:isT n ps=true)(t:Int):isT n (DA n ps t)=true:=by
 obtain⟨h1,h2,h3⟩:=iZ.1 h
 refine iZ.2 ⟨h1,by rw [vX];exact h2,fun p hp=> ?_⟩
 rcases List.mem_or_eq_of_mem_set hp with hp | rfl
 ·exact h3 p hp
 ·have h0:0≤ps[t.toNat]?.getD 0:=by
   cases hg:ps[t.toNat]? with
   |none=>simp
   |some q=>exact(h3 q (List.mem_of_getElem? hg)).1
  have:=Int.emod_lt_of_pos (ps[t.toNat]?.getD 0 + 1) (show 0 < 3 * n by omega)
  have:=Int.emod_nonneg (ps[t.toNat]?.getD 0 + 1) (show 3 * n≠0 by omega)
  rw [Int.tmod_eq_emod_of_nonneg (by omega)]
  omega
def Aj(n:Int)(ps:List Int)(t:Int):Bool:=isT n ps&&Cm ps t
theorem vf{n:Int}{ps:List Int}{t:Int}:Aj n ps t=true↔isT n ps=true∧Cm ps t=true:=by simp [Aj]
theorem Er{n:Int}{ps:List Int}{t:Int}(h:Aj n ps t=true):IntKind.i64.wrap (3 * n)=3 * n∧IntKind.i64.wrap (ps[t.toNat]?.getD 0 + 1)=ps[t.toNat]?.getD 0 + 1∧neI (3 * n) 0=true∧
  leI 0 t=true∧ltI t ps.length=true∧ltN t.toNat ps.length=true∧leN ps.length 1048576=true∧leN 1 ps.length=true:=by
 obtain⟨hT,ht⟩:=vf.1 h
 obtain⟨h1,h2,h3⟩:=iZ.1 hT
 have h4:=xk.1 ht
 have dE:t.toNat < ps.length:=by omega
 have hg:ps[t.toNat]?.getD 0=ps[t.toNat]:=by rw [List.getElem?_eq_getElem dE];rfl
 have h5:=h3 _ (List.getElem_mem dE)
 rw [hg]
 exact⟨cE (by omega) (by omega),cE (by omega) (by omega),HV (by omega),gt h4.1,jg h4.2,lm dE,uv (by omega),uv h2.1⟩
theorem Ki(n t:Int)(ps:List Int)(h:Aj n ps t=true):sf n t ps=DA n ps t∧sg n t ps=true:=by
 obtain⟨e1,e2,e3,e4,e5,e6,e7,e8⟩:=Er h
 refine⟨?_,?_⟩
 ·simp only [ra,sf,sg,e1,e2,DA]
 ·simp only [ra,sf,sg,e1,e3,e4,e5,e6,e7,allT,cond_true]
def zL:List SV→List Entry→Option Out
 | [.one ⟨true,[.val (.int .i64 x0),.ref 0]⟩,.one ⟨false,[.val (.int .i64 x1)]⟩],[.row false 2 (.int .i64) x2]=>some ⟨.one ⟨true,[.val (.int .i64 x0),.ref 1]⟩,[.row false 2 Pc x2],[.row true 2 Pc (DA x0 x2 x1)],[Aj x0 x2 x1]⟩
 |_,_=>none
def ol:PF prog:=PF.alt GP zL (by
 intro args es o h bf;unfold zL at h;split at h
 ·rename_i x0 x1 x2
  cases h
  have bf:=jj bf
  have hh:=Ki x0 x1 x2 bf
  obtain⟨e0,en⟩:=hh
  exact jG rfl (fX en) rfl rfl (by simp only [e0] <;> rfl)
 ·cases h)
theorem JH(n t:Int)(ps:List Int)(h:Aj n ps t=true):dX n t ps=DA n ps t∧dY n t ps=true:=by
 obtain⟨e1,e2,e3,e4,e5,e6,e7,e8⟩:=Er h
 refine⟨?_,?_⟩
 ·simp only [dJ,dX,dY,e1,e2,DA]
 ·simp only [dJ,dX,dY,aT,e1,e3,e4,e5,e6,e7,e8,allT,cond_true,Bool.and_self]
def jM:List SV→List Entry→Option Out
 | [.one ⟨true,[.val (.int .i64 x0),.ref 0]⟩,.one ⟨false,[.val (.int .i64 x1)]⟩],[.row false 2 (.int .i64) x2]=>some ⟨.one ⟨true,[.val (.int .i64 x0),.ref 1]⟩,[.row false 2 Pc x2],[.row true 2 Pc (DA x0 x2 x1)],[Aj x0 x2 x1]⟩
 |_,_=>none
def bz:PF prog:=PF.alt oY jM (by
 intro args es o h bf;unfold jM at h;split at h
 ·rename_i x0 x1 x2
  cases h
  have bf:=jj bf
  have hh:=JH x0 x1 x2 bf
  obtain⟨e0,en⟩:=hh
  exact jG rfl (fX en) rfl rfl (by simp only [e0] <;> rfl)
 ·cases h)
theorem Ok(ps:List Int)(h:leN ps.length 1048576=true):ta ps=true:=by simp only [ta,allT,h,cond_true]
def wX:List SV→List Entry→Option Out
 | [.one ⟨true,[.val (.int .i64 x0),.ref 0]⟩],[.row false 2 (.int .i64) x1]=>some ⟨.one ⟨true,[.val (.int .i64 x0),.ref 1]⟩,[.row false 2 Pc x1],[.row true 2 Pc x1],[leN x1.length 1048576]⟩
 |_,_=>none
def tg:PF prog:=PF.alt EC wX (by
 intro args es o h bf;unfold wX at h;split at h
 ·rename_i x0 x1
  cases h
  have bf:=jj bf
  have hh:=Ok x1 bf
  have en:=hh
  exact jG rfl (fX en) rfl rfl rfl
 ·cases h)
def eqT(n m:Int)(ps qs:List Int):Bool:=n==m&&eqL ps qs
theorem ME(n:Int)(ps:List Int):eqT n n ps ps=true:=by simp [eqT,eqL]
theorem NZ(n m:Int)(ps qs:List Int)(h:leN ps.length 9223372036854775807=true):sV n m ps qs=eqT n m ps qs∧sW n m ps=true:=by
 simp only [sV,sW,allT,h,eqT,bne]
 cases n==m <;> cases eqL ps qs <;> simp
def wV:List SV→List Entry→Option Out
 | [.one ⟨true,[.val (.int .i64 x0),.ref 0]⟩,.one ⟨true,[.val (.int .i64 x1),.ref 1]⟩],[.row false 2 (.int .i64) x2,.row false 2 (.int .i64) x3]=>some ⟨.one ⟨false,[.val (.bool (eqT x0 x1 x2 x3))]⟩,[.row false 2 Pc x2,.row false 2 Pc x3],[],[leN x2.length 9223372036854775807]⟩
 |_,_=>none
def qg:PF prog:=PF.alt EA wV (by
 intro args es o h bf;unfold wV at h;split at h
 ·rename_i x0 x1 x2 x3
  cases h
  have bf:=jj bf
  have hh:=NZ x0 x1 x2 x3 bf
  obtain⟨e0,en⟩:=hh
  exact jG rfl (fX en) (by simp only [e0] <;> rfl) rfl rfl
 ·cases h)
theorem Oj(k:Int)(ps:List Int)(h:(leN ps.length 9223372036854775807&&(leI (-1) k&&leI k 1048576))=true):sY k ps=szV k ps∧sZ k ps=true:=by
 simp only [sY,sZ,allT,h,cond_true,and_true]
 cases hs:ltI (szV k ps) 0 with
 |false=>rfl
 |true=>
  simp only [szV]at hs ⊢
  cases hq:ltI (k - (ps.length:Int)) 0 with
  |true=>rfl
  |false=>rw [hq,cond_false]at hs;rw [hs]at hq;cases hq
def wW:List SV→List Entry→Option Out
 | [.one ⟨true,[.val (.int .i64 _x0),.ref 0]⟩,.one ⟨false,[.val (.int .i64 x1)]⟩],[.row false 2 (.int .i64) x2]=>some ⟨.one ⟨false,[.val (.int .i64 (szV x1 x2))]⟩,[.row false 2 Pc x2],[],[leN x2.length 9223372036854775807&&(leI (-1) x1&&leI x1 1048576)]⟩
 |_,_=>none
def tf:PF prog:=PF.alt EB wW (by
 intro args es o h bf;unfold wW at h;split at h
 ·rename_i _x0 x1 x2
  cases h
  have bf:=jj bf
  have hh:=Oj x1 x2 bf
  obtain⟨e0,en⟩:=hh
  exact jG rfl (fX en) (by simp only [e0] <;> rfl) rfl rfl
 ·cases h)
theorem MU(k:Int)(ps:List Int)(h:zB k ps.length=true):ro k ps=k + ps.length∧rp k ps=jI k ps.length∧rq k ps=true:=by
 simp only [ro,rp,rq,allT,h,cond_true,and_self]
def uR:List SV→List Entry→Option Out
 | [.one ⟨true,[.val (.int .i64 _x0),.ref 0]⟩,.one ⟨false,[.val (.int .i64 x1)]⟩],[.row true 2 (.int .i64) x2]=>some ⟨.one ⟨false,[.val (.int .i64 (x1 + (x2.length:Int)))]⟩,[.row true 2 Pc (jI x1 x2.length)],[],[zB x1 x2.length]⟩
 |_,_=>none
def rr:PF prog:=PF.alt CD uR (by
 intro args es o h bf;unfold uR at h;split at h
 ·rename_i _x0 x1 x2
  cases h
  have bf:=jj bf
  have hh:=MU x1 x2 bf
  obtain⟨e0,e1,en⟩:=hh
  exact jG rfl (fX en) (by simp only [e0] <;> rfl) (by simp only [e1] <;> rfl) rfl
 ·cases h)
def Cn(k:Int)(xs:List Int):Int:=bif ltI (Dk k xs) 0 then -1 else Dk k xs
theorem LR(k:Int)(n:Nat)(h:zB k n=true):Cn k (jI k n)=k + n:=by
 obtain⟨h0,h1⟩:=xG.1 h
 unfold Cn
 rw [JA k n h,GA (by omega)];rfl
theorem MN(k:Int)(ps:List Int)(h:leN ps.length 9223372036854775807=true):rm k ps=Cn k ps∧rn ps=true:=by
 simp only [rm,rn,Cn,allT,h,cond_true,and_self]
def uQ:List SV→List Entry→Option Out
 | [.one ⟨true,[.val (.int .i64 _x0),.ref 0]⟩,.one ⟨false,[.val (.int .i64 x1)]⟩],[.row false 2 (.int .i64) x2]=>some ⟨.one ⟨false,[.val (.int .i64 (Cn x1 x2))]⟩,[.row false 2 Pc x2],[],[leN x2.length 9223372036854775807]⟩
 |_,_=>none
def oH:PF prog:=PF.alt CC uQ (by
 intro args es o h bf;unfold uQ at h;split at h
 ·rename_i _x0 x1 x2
  cases h
  have bf:=jj bf
  have hh:=MN x1 x2 bf
  obtain⟨e0,en⟩:=hh
  exact jG rfl (fX en) (by simp only [e0] <;> rfl) rfl rfl
 ·cases h)
theorem Ml{ps:List Int}{k:Int}(h:ltI (szV k ps) 0=false):(ps.length:Int)≤k:=by
 unfold szV at h
 cases hq:ltI (k - (ps.length:Int)) 0 with
 |true=>rw [hq]at h;cases h
 |false=>have:=yx.1 hq;omega
def ie(y1 y3 b:Int):(Int)→Nat ⊕ (Int)
 |y2=>(.inr (bif xQ y3 b y1 then IntKind.wrap .i64 (y2 + (1:Int))else y2))
def fO(y1 y3:Int)(y4:List Int)(i:Nat):(Int)→eA
 |y2=>((i:Int),y1,y2,y3,y4)
def qA:eA→Int
 |(_,_,y2,_,_)=>y2
theorem CQ(y1 y3:Int)(y4:List Int)(y2:Int)(hn:y4.length≤9223372036854775807)(hT: ∀ p∈y4,okP y3 p=true)(h4:y4.length≤4)(h2:y2=0):
  cv.fin ((0:Int),y1,y2,y3,y4)=true∧cv.res ((0:Int),y1,y2,y3,y4)=((aR (ie y1 y3) 0 y4 0 y2).1,(fO y1 y3 y4) (aR (ie y1 y3) 0 y4 0 y2).2.1 (aR (ie y1 y3) 0 y4 0 y2).2.2):=by
 have jb:=cv.along (fO y1 y3 y4) qA (ie y1 y3) 0 (fun i a=>0≤a∧a≤i) y4 y2 (by omega) (by simp only [cv,fO];omega) (fun i b a hb hI=> ?_) (fun a hI=> ?_)
 ·exact jb
 ·obtain y2:=a
  have dE:=(List.getElem?_eq_some_iff.1 hb).1
  have gx: ∀ d,Option.getD y4[i]? d=b:=fun d=>by rw [hb];rfl
  have hw:=tA dE hn
  have gh:ltI (i:Int) (y4.length:Int)=true:=jg (by omega)
  have sx:leI (0:Int) (i:Int)=true:=gt (by omega)
  have lh:ltN i y4.length=true:=lm dE
  refine⟨?_,?_,?_,?_⟩
  ·simp [jz,jZ,mN,mO,mP,mQ,mR,ls,cv,LT.nds,allT,fO,gh,sx,lh,gx,hT b (List.mem_of_getElem? hb)]
  ·simp [jz,jZ,mN,mO,mP,mQ,mR,ls,cv,LT.each,fO,qA,hw,hT b (List.mem_of_getElem? hb)]
  ·simp only [jz,jZ,mN,mO,mP,mQ,mR,ls,cv,LT.fn,fO,qA,ie,Int.toNat_natCast,gh,gx,cond_true]
  ·intro a' hf;simp only [ie,Sum.inr.injEq]at hf;subst hf;cases xQ y3 b y1 <;> simp only [cond_true,cond_false] <;> (try rw [cE (by omega) (by omega)]) <;> omega
 ·obtain y2:=a
  simp [jz,jZ,mN,mO,mP,mQ,mR,ls,cv,LT.out,fO]
theorem Gf(n b:Int): ∀ (ps:List Int) (a:Int),0≤a→a + ps.length≤100→ps.foldl (fun a p=>bif xQ n p b then IntKind.wrap .i64 (a + (1:Int))else a) a=a + (uC n ps b:Int)
 | [],a,_,_=>by simp [uC]
 |p::ps,a,h0,h1=>by
  simp only [List.length_cons]at h1
  simp only [List.foldl_cons,uC,List.countP_cons]
  cases hu:xQ n p b with
  |true=>
   rw [cond_true,cE (by omega) (by omega),Gf n b ps (a + 1) (by omega) (by omega)]
   simp only [uC]
   simp;omega
  |false=>
   rw [cond_false,Gf n b ps a h0 (by omega)]
   simp [uC]
theorem Mv(n b:Int)(ps:List Int)(h:isT n ps=true):qY n b ps=(uC n ps b:Int)∧qZ n b ps=true:=by
 have h2:=(iZ.1 h).2.1
 obtain⟨w1,w2⟩:=CQ b n ps 0 (by omega) (fun p hp=>FM h hp) h2.2 rfl
 rw [lP (f:=ie b n) (g:=fun a p=>bif xQ n p b then IntKind.wrap .i64 (a + (1:Int))else a) (fun p a=>rfl),Gf n b ps 0 (by omega) (by omega)]at w2
 refine⟨?_,?_⟩
 ·simp only [qi,qY,qZ,w2,fO];omega
 ·simp only [qi,qY,qZ,w1,allT,cond_true]
def yV:List SV→List Entry→Option Out
 | [.one ⟨true,[.val (.int .i64 x0),.ref 0]⟩,.one ⟨false,[.val (.int .i64 x1)]⟩],[.row false 2 (.int .i64) x2]=>some ⟨.one ⟨false,[.val (.int .i64 (uC x0 x2 x1:Int))]⟩,[.row false 2 Pc x2],[],[isT x0 x2]⟩
 |_,_=>none
def cR:PF prog:=PF.alt FG yV (by
 intro args es o h bf;unfold yV at h;split at h
 ·rename_i x0 x1 x2
  cases h
  have bf:=jj bf
  have hh:=Mv x0 x1 x2 bf
  obtain⟨e0,en⟩:=hh
  exact jG rfl (fX en) (by simp only [e0] <;> rfl) rfl rfl
 ·cases h)
abbrev cz:=Int×Int×List Int
section
variable (y0 y1:Int)(y2:List Int)
def iG:Bool:=ltI y0 y1
def iH:Bool:=isT y1 y2
def iI:Bool:=ltI 1 (↑(uC y1 y2 y0):Int)
def iJ:Int:=IntKind.wrap .i64 (y0 + (1:Int))
end
def we:cz→List (Nat×SV)
 |(y0,_,_)=> [(3,(.one ⟨false,[.val (.int .i64 y0)]⟩)),(1,(.one ⟨false,[.ptr 0 0]⟩))]
def wd:cz→List (Nat×Entry)
 |(_,y1,y2)=> [(0,(.box 26 [.val (.int .i64 y1),.ref 1])),(1,(.row false 2 Pc y2))]
def wh:Nat→cz→List (Nat×SV)
 |0,(_,_,_)=> [(2,(.one ⟨false,[.val (.bool false)]⟩))]
 |_,(_,_,_)=> []
def wg:Nat→cz→List (Nat×Entry)
 |0,(_,y1,y2)=> [(0,(.box 26 [.val (.int .i64 y1),.ref 1])),(1,(.row false 2 Pc y2))]
 |_,(_,y1,y2)=> [(0,(.box 26 [.val (.int .i64 y1),.ref 1])),(1,(.row false 2 Pc y2))]
def hZ:cz→LT cz
 |(y0,y1,y2)=> .ite (iG y0 y1) (.need [iH y1 y2] (.ite (iI y0 y1 y2) (.ext 0 [(0,0),(1,1)]) (.nrm ((iJ y0),y1,y2) [(0,0),(1,1)]))) (.ext 1 [(0,0),(1,1)])
def nP(s:St):Option cz:=
 (match s.look 3 with
 |some ⟨none,.one ⟨false,[.val (.int .i64 y0)]⟩⟩=>
 (match s.look 1 with
 |some ⟨none,.one ⟨false,[.ptr 128 0]⟩⟩=>
 (match s.ent 128 with
 |some (.box 26 [.val (.int .i64 y1),.ref 0])=>
 (match s.ent 0 with
 |some (.row false 2 (.int .i64) y2)=>
 some (y0,y1,y2)
 |_=>none)
 |_=>none)
 |_=>none)
 |_=>none)
def aM:Lp cz where
 h:=⟨[7,8,9,10,13,14,15,16,2,11,12,3],[0,1],[],[]⟩
 JL:=we
 JE:=wd
 XL:=wh
 XE:=wg
 q:=fun j=>match j with | 0=> .ret | _=> .exit 0
 tags:= [0,1]
 lt:=hZ
 fuel:=fun(y0,y1,y2)=>y0.natAbs + y1.natAbs + y2.length
 fix:=fun(_,y1,y2) (y0,_,_)=>(y0,y1,y2)
 σ:= [(0,128),(1,0)]
 rd:=nP
theorem vc:LoopOk prog (fun k=>Nat.blt k Try.f45.ntmps) aM.F (dl f45 0):=by
 refine Lp.ok (tbl:= (T3z [cR,cF])) (lf:= []) cw aM (by kernel_rfl) (LOk.nil _) (fun _=>rfl) (fun j _=>by unfold aM;match j with | 0=>rfl | _ + 1=>rfl) ?_ ?_ ?_ ?_ (fun _=>rfl) ?_
 ·rintro⟨y0,y1,y2⟩;kernel_rfl
 ·rintro⟨y0,y1,y2⟩;kernel_rfl
 ·intro s x h
  have h:nP s=some x:=h
  unfold nP at h
  repeat' split at h
  all_goals cases h
  constructor<;>repeat(first|refine ac (by assumption) rfl ?_|refine aq rfl (by assumption) rfl ?_|exact rfl)
 ·rintro⟨y0,y1,y2⟩;kernel_rfl
 ·rintro⟨y0,y1,y2⟩ z;exact(And.intro (And.intro trivial rfl) trivial)
section
variable (x0:Int)(x1:List Int)
def ph:Int×Int×List Int:=((0:Int),x0,x1)
def pR:Bool:=bif !isT x0 x1 then false else bif Nat.beq ((Lp.res aM (ph x0 x1)).1) 0 then false else true
def pS:Bool:=allT [!isT x0 x1||Lp.fin aM (ph x0 x1)]
end
def tH:List SV→List Entry→Option Out
 | [.one ⟨true,[.val (.int .i64 x0),.ref 0]⟩],[.row false 2 (.int .i64) x1]=>some ⟨.one ⟨false,[.val (.bool (pR x0 x1))]⟩,[.row false 2 Pc x1],[],[pS x0 x1]⟩
 |_,_=>none
def Ar:PF prog:=PF.ofG prog (T3z [cR,cF]) [aM.F] cw 45 f45 func45 (LOk.fnT (l:= [dl f45 0]) (by kernel_rfl) (.cons vc (.nil _))) tH (by
 intro vs es r h;unfold tH at h;split at h
 ·cases h;kernel_rfl
 ·cases h)
def LF(n:Int)(ps:List Int):Bool:=(List.range n.toNat).all fun b=>leI (uC n ps (b:Int):Int) 1
def MP(n:Int)(ps:List Int):Bool:=isT n ps&&LF n ps
def fY(y1:Int)(y2:List Int)(b:Nat):(Unit)→Nat ⊕ (Unit)
 |_=>(bif(ltI 1 (↑(uC y1 y2 (↑b:Int)):Int))then(.inl 0)else(.inr ()))
def eE(y1:Int)(y2:List Int)(i:Nat):(Unit)→cz
 |_=>((i:Int),y1,y2)
def nO:cz→Unit
 |(_,_,_)=>()
theorem xR(y1:Int)(y2:List Int) (hn:y1≤9223372036854775807) (hT:isT y1 y2=true):
  aM.fin ((0:Int),y1,y2)=true∧aM.res ((0:Int),y1,y2)=((aR (fY y1 y2) 1 (List.range y1.toNat) 0 ()).1,(eE y1 y2) (aR (fY y1 y2) 1 (List.range y1.toNat) 0 ()).2.1 (aR (fY y1 y2) 1 (List.range y1.toNat) 0 ()).2.2):=by
 have jb:=aM.along (eE y1 y2) nO (fY y1 y2) 1 (fun _ _=>True) (List.range y1.toNat) () (by trivial) (by simp only [aM,eE,List.length_range];omega) (fun i b a hb hI=> ?_) (fun a hI=> ?_)
 ·exact jb
 ·obtain⟨⟩:=a
  obtain⟨rfl,dE⟩:=oS hb
  have hw:IntKind.i64.wrap ((b:Int) + 1)=((b + 1:Nat):Int):=by rw [cE (by omega) (by omega)];omega
  have gh:ltI (b:Int) y1=true:=jg (by omega)
  have sx:leI (0:Int) (b:Int)=true:=gt (by omega)
  refine⟨?_,?_,?_,?_⟩
  ·simp [iG,iH,iI,iJ,hZ,aM,LT.nds,allT,eE,gh,sx,hT]
  ·simp [iG,iH,iI,iJ,hZ,aM,LT.each,eE,nO,hw,hT]
  ·simp only [iG,iH,iI,iJ,hZ,aM,LT.fn,eE,nO,fY,Int.toNat_natCast,gh,sx,cond_true,hT]
  ·exact fun _ _=>trivial
 ·obtain⟨⟩:=a
  simp only [iG,iH,iI,iJ,hZ,aM,LT.out,eE,List.length_range,En,Gz,cond_false]
theorem LX(a b:Int):(!leI a b)=ltI b a:=by
 cases h:leI a b with
 |true=>have:=AE.1 h;exact(GA (by omega)).symm
 |false=>have:=Ny.1 h;exact(jg (by omega)).symm
theorem Kk(n:Int)(ps:List Int):pR n ps=MP n ps∧pS n ps=true:=by
 simp only [ph,pR,pS,MP]
 cases hT:isT n ps with
 |false=>simp [allT]
 |true=>
  have h1:=(iZ.1 hT).1
  obtain⟨w1,w2⟩:=xR n ps (by omega) hT
  rw [rJ (P:=fun b=> !leI (uC n ps ((b:Nat):Int):Int) 1) (j:=0) (fun b=>by simp only [fY,LX])]at w2
  have e5:((List.range n.toNat).any fun b=> !leI (uC n ps ((b:Nat):Int):Int) 1)= !LF n ps:=by simp [LF,List.all_eq_not_any_not]
  rw [e5]at w2
  simp only [w1,w2,allT]
  cases LF n ps <;> simp <;> rfl
def tJ:List SV→List Entry→Option Out
 | [.one ⟨true,[.val (.int .i64 x0),.ref 0]⟩],[.row false 2 (.int .i64) x1]=>some ⟨.one ⟨false,[.val (.bool (MP x0 x1))]⟩,[.row false 2 Pc x1],[],[]⟩
 |_,_=>none
def iD:PF prog:=PF.alt Ar tJ (by
 intro args es o h bf;unfold tJ at h;split at h
 ·rename_i x0 x1
  cases h
  have hh:=Kk x0 x1
  obtain⟨e0,en⟩:=hh
  exact jG rfl (fX en) (by simp only [e0] <;> rfl) rfl rfl
 ·cases h)
end Go.SX
namespace Go.Proofs
open Go.Shelf
def Try.laysSort_ren:Go.Shelf.Ren:=⟨fun | 5=>175 | 8=>180 | 7=>179 | 19=>190 | 20=>191 | 10=>181 | 11=>182 | 12=>183 | 13=>184 | 14=>185 | 15=>186 | 16=>187 | 17=>188 | 18=>189 | 30=>192 | 31=>193 | 32=>194 | 33=>195 | 34=>196 | 35=>197 | 40=>198 | n=>n,fun | 23=>22 | 25=>2 | 3=>3 | 32=>114 | 22=>22 | 0=>0 | 44=>191 | 46=>62 | 4=>4 | 36=>183 | 35=>182 | 41=>188 | 5=>5 | 9=>9 | 53=>193 | 57=>197 | 63=>199 | 64=>200 | n=>n,fun | n=>n⟩
theorem Try.laysSort:Go.Proofs.SlLaysM.n5 Try.prog Try.laysSort_ren:= {
 mixed:=by kernel_rfl
 f5:=⟨Try.f175.name,by decide,Try.func175.trans (congrArg some (by kernel_rfl))⟩
 f7:=⟨Try.f179.name,by decide,Try.func179.trans (congrArg some (by kernel_rfl))⟩
 f8:=Try.func180.trans (congrArg some (by kernel_rfl))
 f10:=⟨Try.f181.name,by decide,Try.func181.trans (congrArg some (by kernel_rfl))⟩
 f11:=⟨Try.f182.name,by decide,Try.func182.trans (congrArg some (by kernel_rfl))⟩
 f12:=⟨Try.f183.name,by decide,Try.func183.trans (congrArg some (by kernel_rfl))⟩
 f13:=⟨Try.f184.name,by decide,Try.func184.trans (congrArg some (by kernel_rfl))⟩
 f14:=⟨Try.f185.name,by decide,Try.func185.trans (congrArg some (by kernel_rfl))⟩
 f15:=⟨Try.f186.name,by decide,Try.func186.trans (congrArg some (by kernel_rfl))⟩
 f16:=⟨Try.f187.name,by decide,Try.func187.trans (congrArg some (by kernel_rfl))⟩
 f17:=⟨Try.f188.name,by decide,Try.func188.trans (congrArg some (by kernel_rfl))⟩
 f18:=⟨Try.f189.name,by decide,Try.func189.trans (congrArg some (by kernel_rfl))⟩
 f19:=Try.func190.trans (congrArg some (by kernel_rfl))
 f20:=Try.func191.trans (congrArg some (by kernel_rfl))
 f30:=⟨Try.f192.name,by decide,Try.func192.trans (congrArg some (by kernel_rfl))⟩
 f31:=Try.func193.trans (congrArg some (by kernel_rfl))
 f32:=Try.func194.trans (congrArg some (by kernel_rfl))
 f33:=⟨Try.f195.name,by decide,Try.func195.trans (congrArg some (by kernel_rfl))⟩
 f34:=⟨Try.f196.name,by decide,Try.func196.trans (congrArg some (by kernel_rfl))⟩
 f35:=⟨Try.f197.name,by decide,Try.func197.trans (congrArg some (by kernel_rfl))⟩
 f40:=⟨Try.f198.name,by decide,Try.func198.trans (congrArg some (by kernel_rfl))⟩
 t0:=Try.underlying0
 a0:=Try.isAgg0
 z0:=Try.sizeOf0
 v0:=Try.zeroValue0
 t3:=Try.underlying3
 a3:=Try.isAgg3
 z3:=Try.sizeOf3
 v3:=Try.zeroValue3
 t4:=Try.underlying4
 a4:=Try.isAgg4
 z4:=Try.sizeOf4
 v4:=Try.zeroValue4
 t5:=Try.underlying5
 a5:=Try.isAgg5
 z5:=Try.sizeOf5
 v5:=Try.zeroValue5
 t9:=Try.underlying9
 a9:=Try.isAgg9
 z9:=Try.sizeOf9
 v9:=Try.zeroValue9
 t22:=Try.underlying22
 a22:=Try.isAgg22
 z22:=Try.sizeOf22
 v22:=Try.zeroValue22
 t23:=Try.underlying22
 a23:=Try.isAgg22
 z23:=Try.sizeOf22
 v23:=Try.zeroValue22
 t25:=Try.underlying2
 a25:=Try.isAgg2
 z25:=Try.sizeOf2
 v25:=Try.zeroValue2
 t32:=Try.underlying114
 a32:=Try.isAgg114
 z32:=Try.sizeOf114
 v32:=Try.zeroValue114
 t35:=Try.underlying182
 a35:=Try.isAgg182
 z35:=Try.sizeOf182
 v35:=Try.zeroValue182
 t36:=Try.underlying183
 a36:=Try.isAgg183
 z36:=Try.sizeOf183
 v36:=Try.zeroValue183
 t41:=Try.underlying188
 a41:=Try.isAgg188
 z41:=Try.sizeOf188
 v41:=Try.zeroValue188
 t44:=Try.underlying191
 a44:=Try.isAgg191
 z44:=Try.sizeOf191
 v44:=Try.zeroValue191
 t46:=Try.underlying62
 a46:=Try.isAgg62
 z46:=Try.sizeOf62
 v46:=Try.zeroValue62
 t53:=Try.underlying193
 a53:=Try.isAgg193
 z53:=Try.sizeOf193
 v53:=Try.zeroValue193
 t57:=Try.underlying197
 a57:=Try.isAgg197
 z57:=Try.sizeOf197
 v57:=Try.zeroValue197
 t63:=Try.underlying199
 a63:=Try.isAgg199
 z63:=Try.sizeOf199
 v63:=Try.zeroValue199
 t64:=Try.underlying200
 a64:=Try.isAgg200
 z64:=Try.sizeOf200
 v64:=Try.zeroValue200 }
end Go.Proofs
namespace Go.SX
open Go.Proofs Go.Proofs.Try
def nf:PF prog:=PF.sort 175 2 (fun blk off cap zs w h1 h2 h3=>AnyM.slices_Sort_int Try.laysSort blk off cap zs w h1 h2 h3)
end Go.SX
namespace Go.SX
open Go.Proofs Go.Proofs.Try
set_option maxRecDepth 100000
section
variable (x0 x1:Int)(x2:List Int)
def bw:Int:=Option.getD x2[Int.toNat x1]? 0
def cC:Bool:=Int.tmod (bw x1 x2) 3!=2
def dZ:List Int:= [IntKind.wrap .i64 (Int.tdiv (bw x1 x2) 3),Int.tmod (IntKind.wrap .i64 (IntKind.wrap .i64 (Int.tdiv (bw x1 x2) 3) + (1:Int))) x0]
def ee:List Int:=bif cC x1 x2 then [IntKind.wrap .i64 (Int.tdiv (bw x1 x2) 3)]else DP (dZ x0 x1 x2)
def ef:Bool:=allT [leI 0 x1,ltI x1 (↑x2.length:Int),ltN x1.toNat x2.length,leI 0 x1,ltI x1 (↑x2.length:Int),ltN x1.toNat x2.length,cC x1 x2||neI x0 0,cC x1 x2||leN (List.length (dZ x0 x1 x2)) 4611686018427387903]
end
def ka:List SV→List Entry→Option Out
 | [.one ⟨true,[.val (.int .i64 x0),.ref 0]⟩,.one ⟨false,[.val (.int .i64 x1)]⟩],[.row false 2 (.int .i64) x2]=>some ⟨.one ⟨false,[.ref 1]⟩,[.row false 2 Pc x2],[.row true 2 Pc (ee x0 x1 x2)],[ef x0 x1 x2]⟩
 |_,_=>none
def py:PF prog:=PF.ofG prog (T3z [nf]) [] cw 159 f159 func159 (fun c _=>LOk.nil c) ka (by
 intro vs es r h;unfold ka at h;split at h
 ·cases h;kernel_rfl
 ·cases h)
def tY(n p:Int):List Int:=bif phs p !=2 then [blk p]else DP [blk p,Int.tmod (blk p + 1) n]
theorem Nc(a b:Int):DP [a,b]=bif leI a b then [a,b]else [b,a]:=by
 unfold DP
 have hp:=List.mergeSort_perm [a,b] (fun x y=>decide (x≤y))
 have hs:=List.pairwise_mergeSort (le:=fun(x y:Int)=>decide (x≤y)) (fun x y z h1 h2=>by simp at h1 h2 ⊢;omega) (fun x y=>by simp;omega) [a,b]
 generalize hm:List.mergeSort [a,b] (fun x y=>decide (x≤y))=l at hp hs
 have hl:=hp.length_eq
 match l,hl with
 | [x,y],_=>
  simp at hs
  have hx:x∈ [a,b]:=hp.subset (by simp)
  simp at hx
  rcases hx with rfl | rfl
  ·have:=(List.perm_cons x).1 hp
   rw [List.perm_singleton]at this
   simp at this;subst this
   rw [gt hs];rfl
  ·have h2:=hp.trans (List.Perm.swap x a [])
   have:=(List.perm_cons x).1 h2
   rw [List.perm_singleton]at this
   simp at this;subst this
   cases hq:leI y x with
   |false=>rfl
   |true=>
    have:=AE.1 hq;have:x=y:=by omega
    subst this;rfl
def atI(xs:List Int)(t:Int):Int:=xs[t.toNat]?.getD 0
theorem NQ(n t:Int)(ps:List Int)(h:Aj n ps t=true):ee n t ps=tY n (atI ps t)∧ef n t ps=true:=by
 obtain⟨e1,e2,e3,e4,e5,e6,e7,e8⟩:=Er h
 obtain⟨hT,ht⟩:=vf.1 h
 obtain⟨h1,h2,h3⟩:=iZ.1 hT
 have h4:=xk.1 ht
 have dE:t.toNat < ps.length:=by omega
 have hg:ps[t.toNat]?.getD 0=ps[t.toNat]:=by rw [List.getElem?_eq_getElem dE];rfl
 have h5:=h3 _ (List.getElem_mem dE)
 rw [← hg]at h5
 have f1:IntKind.i64.wrap (Int.tdiv (ps[t.toNat]?.getD 0) 3)=blk (ps[t.toNat]?.getD 0):=by
  rw [Int.tdiv_eq_ediv_of_nonneg h5.1,DY h5.1,cE (by omega) (by omega)]
 have f2:IntKind.i64.wrap (blk (ps[t.toNat]?.getD 0) + 1)=blk (ps[t.toNat]?.getD 0) + 1:=by rw [DY h5.1,cE (by omega) (by omega)]
 have f3:neI n 0=true:=HV (by omega)
 refine⟨?_,?_⟩
 ·simp only [bw,cC,dZ,ee,ef,f1,f2,tY,phs,atI]
 ·simp [bw,cC,dZ,ee,ef,e4,e5,e6,f3,allT]
def kd:List SV→List Entry→Option Out
 | [.one ⟨true,[.val (.int .i64 x0),.ref 0]⟩,.one ⟨false,[.val (.int .i64 x1)]⟩],[.row false 2 (.int .i64) x2]=>some ⟨.one ⟨false,[.ref 1]⟩,[.row false 2 Pc x2],[.row true 2 Pc (tY x0 (atI x2 x1))],[Aj x0 x2 x1]⟩
 |_,_=>none
def aC:PF prog:=PF.alt py kd (by
 intro args es o h bf;unfold kd at h;split at h
 ·rename_i x0 x1 x2
  cases h
  have bf:=jj bf
  have hh:=NQ x0 x1 x2 bf
  obtain⟨e0,en⟩:=hh
  exact jG rfl (fX en) rfl rfl (by simp only [e0] <;> rfl)
 ·cases h)
theorem Lm{n p:Int}(h:okP n p=true):(∀ u∈tY n p,0≤u∧u < n)∧(tY n p).length≤2∧ ∀ b:Nat,(tY n p).count (b:Int)=bif xQ n p (b:Int)then 1 else 0:=by
 obtain⟨⟨h1,h2⟩,h3,h4⟩:=FP.1 h
 have hb:=DY h3
 have hm:Int.tmod (blk p + 1) n=(blk p + 1) % n:=Int.tmod_eq_emod_of_nonneg (by rw [hb];omega)
 have hb0:0≤blk p∧blk p < n:=by rw [hb];omega
 have hm0:=Int.emod_nonneg (blk p + 1) (show n≠0 by omega)
 have hm1:=Int.emod_lt_of_pos (blk p + 1) (show 0 < n by omega)
 have sw:(blk p + 1) % n≠blk p:=by
  by_cases hq:blk p + 1=n
  ·rw [hq,Int.emod_self];omega
  ·rw [Int.emod_eq_of_lt (by omega) (by omega)];omega
 unfold tY xQ
 rw [hm,Nc]
 generalize (blk p + 1) % n=q at *
 generalize blk p=a at *
 cases hp:phs p==2 with
 |false=>
  simp only [bne,hp,Bool.not_false,cond_true,Bool.false_and,Bool.or_false]
  refine⟨fun u hu=>by simp at hu;omega,by simp,fun b=> ?_⟩
  simp only [List.count_cons,List.count_nil]
  cases hab:a==(b:Int) <;> simp [hab]
 |true=>
  simp only [bne,hp,Bool.not_true,cond_false,Bool.true_and]
  have jb: ∀ b:Nat,(if (a==(b:Int))=true then 1 else 0) + (if (q==(b:Int))=true then 1 else 0)=(bif a==(b:Int)||q==(b:Int)then 1 else 0:Nat):=by
   intro b
   cases hab:a==(b:Int) <;> cases hqb:q==(b:Int) <;> simp
   have:=eq_of_beq hab;have:=eq_of_beq hqb;omega
  cases leI a q with
  |true=>
   refine⟨fun u hu=>by simp at hu;omega,by simp,fun b=> ?_⟩
   rw [← jb b];simp [List.count_cons];omega
  |false=>
   refine⟨fun u hu=>by simp at hu;omega,by simp,fun b=> ?_⟩
   rw [← jb b];simp [List.count_cons]
abbrev am:=Int×Int×List Int×List Int
section
variable (y0 y1:Int)(y2 y3:List Int)
def au:Int:=Option.getD y2[Int.toNat y0]? 0
def bC:Bool:=ltI y0 y1
def bD:Bool:=leI 0 y0
def bE:Bool:=ltI y0 (↑y2.length:Int)
def bF:Bool:=ltN y0.toNat y2.length
def aW:Bool:=leI 0 (au y0 y2)
def aX:Bool:=ltI (au y0 y2) (↑y3.length:Int)
def aY:Bool:=ltN (Int.toNat (au y0 y2)) y3.length
def bG:Int:=IntKind.wrap .i64 (y0 + (1:Int))
def bH:List Int:=List.set y3 (Int.toNat (au y0 y2)) (IntKind.wrap .i64 (Option.getD y3[Int.toNat (au y0 y2)]? 0 + (1:Int)))
end
def nK:am→List (Nat×SV)
 |(y0,y1,_,_)=> [(20,(.one ⟨false,[.val (.int .i64 y0)]⟩)),(19,(.one ⟨false,[.val (.int .i64 y1)]⟩)),(18,(.one ⟨false,[.ref 0]⟩)),(3,(.one ⟨false,[.ref 1]⟩))]
def nJ:am→List (Nat×Entry)
 |(_,_,y2,y3)=> [(0,(.row true 2 Pc y2)),(1,(.row true 2 Pc y3))]
def nM:Nat→am→List (Nat×SV)
 |_,(_,_,_,_)=> []
def nL:Nat→am→List (Nat×Entry)
 |_,(_,_,y2,y3)=> [(0,(.row true 2 Pc y2)),(1,(.row true 2 Pc y3))]
def bB:am→LT am
 |(y0,y1,y2,y3)=> .ite (bC y0 y1) (.need [bD y0,bE y0 y2,bF y0 y2] (.need [aW y0 y2,aX y0 y2 y3,aY y0 y2 y3,aW y0 y2,aX y0 y2 y3,aY y0 y2 y3] (.nrm ((bG y0),y1,y2,(bH y0 y2 y3)) [(0,0),(1,1)]))) (.ext 0 [(0,0),(1,1)])
def eD(s:St):Option am:=
 (match s.look 20 with
 |some ⟨none,.one ⟨false,[.val (.int .i64 y0)]⟩⟩=>
 (match s.look 19 with
 |some ⟨none,.one ⟨false,[.val (.int .i64 y1)]⟩⟩=>
 (match s.look 18 with
 |some ⟨none,.one ⟨false,[.ref 384]⟩⟩=>
 (match s.look 3 with
 |some ⟨none,.one ⟨false,[.ref 1]⟩⟩=>
 (match s.ent 384 with
 |some (.row true 2 (.int .i64) y2)=>
 (match s.ent 1 with
 |some (.row true 2 (.int .i64) y3)=>
 some (y0,y1,y2,y3)
 |_=>none)
 |_=>none)
 |_=>none)
 |_=>none)
 |_=>none)
 |_=>none)
def ab:Lp am where
 h:=⟨[21,22,23,6,24,25,26,27,28,29,30,20],[0,1],[],[]⟩
 JL:=nK
 JE:=nJ
 XL:=nM
 XE:=nL
 q:=fun j=>match j with | _=> .exit 2
 tags:= [0]
 lt:=bB
 fuel:=fun(y0,y1,y2,y3)=>y0.natAbs + y1.natAbs + y2.length + y3.length
 fix:=fun(_,y1,y2,_) (y0,_,_,y3)=>(y0,y1,y2,y3)
 σ:= [(0,384),(1,1)]
 rd:=eD
theorem ne:LoopOk prog (memN [14,15,4,16,17,18,19,20,21,22,23,6,24,25,26,27,28,29,30,31,13]) ab.F (MT (dl f132 0) 0):=by
 refine Lp.ok (tbl:= (T3z [aC,bq])) (lf:= []) cw ab (by kernel_rfl) (LOk.nil _) (fun _=>rfl) (fun _ _=>rfl) ?_ ?_ ?_ ?_ (fun _=>rfl) ?_
 ·rintro⟨y0,y1,y2,y3⟩;kernel_rfl
 ·rintro⟨y0,y1,y2,y3⟩;kernel_rfl
 ·intro s x h
  have h:eD s=some x:=h
  unfold eD at h
  repeat' split at h
  all_goals cases h
  constructor<;>repeat(first|refine ac (by assumption) rfl ?_|refine aq rfl (by assumption) rfl ?_|exact rfl)
 ·rintro⟨y0,y1,y2,y3⟩;kernel_rfl
 ·rintro⟨y0,y1,y2,y3⟩ z;exact(And.intro rfl trivial)
abbrev ar:=Int×Int×Int×List Int×List Int
section
variable (y0 y1 y2:Int)(y3 y4:List Int)
def bh:Int×Int×List Int×List Int:=((0:Int),(↑(List.length (tY y2 (atI y4 y0))):Int),tY y2 (atI y4 y0),y3)
def cf:Bool:=ltI y0 y1
def cg:Bool:=Aj y2 y4 y0
def ci:Bool:=Lp.fin ab (bh y0 y2 y3 y4)
def cj:Int:=IntKind.wrap .i64 (y0 + (1:Int))
def ck:List Int:=(Lp.res ab (bh y0 y2 y3 y4)).2.2.2.2
end
def oB:ar→List (Nat×SV)
 |(y0,y1,_,_,_)=> [(13,(.one ⟨false,[.val (.int .i64 y0)]⟩)),(12,(.one ⟨false,[.val (.int .i64 y1)]⟩)),(1,(.one ⟨false,[.ptr 0 0]⟩)),(3,(.one ⟨false,[.ref 1]⟩))]
def oA:ar→List (Nat×Entry)
 |(_,_,y2,y3,y4)=> [(0,(.box 26 [.val (.int .i64 y2),.ref 2])),(1,(.row true 2 Pc y3)),(2,(.row false 2 Pc y4))]
def oD:Nat→ar→List (Nat×SV)
 |_,(_,_,_,_,_)=> []
def oC:Nat→ar→List (Nat×Entry)
 |_,(_,_,y2,y3,y4)=> [(0,(.box 26 [.val (.int .i64 y2),.ref 2])),(1,(.row true 2 Pc y3)),(2,(.row false 2 Pc y4))]
def bW:ar→LT ar
 |(y0,y1,y2,y3,y4)=> .ite (cf y0 y1) (.need [cg y0 y2 y4] (.need [ci y0 y2 y3 y4] (.nrm ((cj y0),y1,y2,ck y0 y2 y3 y4,y4) [(0,0),(1,1),(2,2)]))) (.ext 0 [(0,0),(1,1),(2,2)])
def eY(s:St):Option ar:=
 (match s.look 13 with
 |some ⟨none,.one ⟨false,[.val (.int .i64 y0)]⟩⟩=>
 (match s.look 12 with
 |some ⟨none,.one ⟨false,[.val (.int .i64 y1)]⟩⟩=>
 (match s.look 1 with
 |some ⟨none,.one ⟨false,[.ptr 128 0]⟩⟩=>
 (match s.look 3 with
 |some ⟨none,.one ⟨false,[.ref 384]⟩⟩=>
 (match s.ent 128 with
 |some (.box 26 [.val (.int .i64 y2),.ref 0])=>
 (match s.ent 384 with
 |some (.row true 2 (.int .i64) y3)=>
 (match s.ent 0 with
 |some (.row false 2 (.int .i64) y4)=>
 some (y0,y1,y2,y3,y4)
 |_=>none)
 |_=>none)
 |_=>none)
 |_=>none)
 |_=>none)
 |_=>none)
 |_=>none)
def ah:Lp ar where
 h:=⟨[14,15,4,16,17,18,19,20,21,22,23,6,24,25,26,27,28,29,30,31,13],[0,1,2],[],[]⟩
 JL:=oB
 JE:=oA
 XL:=oD
 XE:=oC
 q:=fun j=>match j with | _=> .exit 0
 tags:= [0]
 lt:=bW
 fuel:=fun(y0,y1,y2,y3,y4)=>y0.natAbs + y1.natAbs + y2.natAbs + y3.length + y4.length
 fix:=fun(_,y1,y2,_,y4) (y0,_,_,y3,_)=>(y0,y1,y2,y3,y4)
 σ:= [(0,128),(1,384),(2,0)]
 rd:=eY
theorem nW:LoopOk prog (fun k=>Nat.blt k Try.f132.ntmps) ah.F (dl f132 0):=by
 refine Lp.ok (tbl:= (T3z [aC,bq])) (lf:= [ab.F]) cw ah (by kernel_rfl) (LOk.allT (l:= [MT (dl f132 0) 0]) (by kernel_rfl) (.cons ne (.nil _))) (fun _=>rfl) (fun _ _=>rfl) ?_ ?_ ?_ ?_ (fun _=>rfl) ?_
 ·rintro⟨y0,y1,y2,y3,y4⟩;kernel_rfl
 ·rintro⟨y0,y1,y2,y3,y4⟩;kernel_rfl
 ·intro s x h
  have h:eY s=some x:=h
  unfold eY at h
  repeat' split at h
  all_goals cases h
  constructor<;>repeat(first|refine ac (by assumption) rfl ?_|refine aq rfl (by assumption) rfl ?_|exact rfl)
 ·rintro⟨y0,y1,y2,y3,y4⟩;kernel_rfl
 ·rintro⟨y0,y1,y2,y3,y4⟩ z;exact(And.intro rfl trivial)
section
variable (x0:Int)(x1:List Int)
def ea:Int×Int×Int×List Int×List Int:=((0:Int),fK x1,x0,List.replicate x0.toNat (0:Int),x1)
def fU:List Int:=((Lp.res ah (ea x0 x1)).2.2.2.2).1
def fW:Bool:=allT [leI 0 x0,leI x0 x0,leI ((↑(8:Nat):Int) * x0) 281474976710656,leI x0 9223372036854775807,Lp.fin ah (ea x0 x1)]
end
def kb:List SV→List Entry→Option Out
 | [.one ⟨true,[.val (.int .i64 x0),.ref 0]⟩],[.row false 2 (.int .i64) x1]=>some ⟨.one ⟨false,[.ref 1]⟩,[.row false 2 Pc x1],[.row true 2 Pc (fU x0 x1)],[fW x0 x1]⟩
 |_,_=>none
def pz:PF prog:=PF.ofG prog (T3z [aC,bq]) [ah.F] cw 132 f132 func132 (LOk.fnT (l:= [dl f132 0]) (by kernel_rfl) (.cons nW (.nil _))) kb (by
 intro vs es r h;unfold kb at h;split at h
 ·cases h;kernel_rfl
 ·cases h)
def iU(n:Int)(ps:List Int):List Int:=(List.range n.toNat).map fun(b:Nat)=>(uC n ps (b:Int):Int)
theorem wE(n:Int)(ps:List Int):(iU n ps).length=n.toNat:=by simp [iU]
def aI(b:Int):(List Int)→Nat ⊕ (List Int)
 |y3=>(.inr (List.set y3 (Int.toNat b) (IntKind.wrap .i64 (Option.getD y3[Int.toNat (b)]? 0 + (1:Int)))))
def ax(y2:List Int)(i:Nat):(List Int)→am
 |y3=>((i:Int),(↑y2.length:Int),y2,y3)
def eC:am→List Int
 |(_,_,_,y3)=>y3
theorem nY(y2 y3:List Int)(hn:y2.length≤9223372036854775807)(hU: ∀ u∈y2,0≤u∧u < (y3.length:Int)):
  ab.fin ((0:Int),(↑y2.length:Int),y2,y3)=true∧ab.res ((0:Int),(↑y2.length:Int),y2,y3)=((aR (aI) 0 y2 0 y3).1,(ax y2) (aR (aI) 0 y2 0 y3).2.1 (aR (aI) 0 y2 0 y3).2.2):=by
 have jb:=ab.along (ax y2) eC (aI) 0 (fun _ a=>a.length=y3.length) y2 y3 rfl (by simp only [ab,ax];omega) (fun i b a hb hI=> ?_) (fun a hI=> ?_)
 ·exact jb
 ·obtain y3:=a
  have dE:=(List.getElem?_eq_some_iff.1 hb).1
  have gx: ∀ d,Option.getD y2[i]? d=b:=fun d=>by rw [hb];rfl
  have hw:=tA dE hn
  have gh:ltI (i:Int) (y2.length:Int)=true:=jg (by omega)
  have sx:leI (0:Int) (i:Int)=true:=gt (by omega)
  have lh:ltN i y2.length=true:=lm dE
  refine⟨?_,?_,?_,?_⟩
  ·have hu:=hU b (List.mem_of_getElem? hb)
   have e1:leI 0 b=true:=gt hu.1
   have e2:ltI b (a.length:Int)=true:=jg (by omega)
   have e3:ltN b.toNat a.length=true:=lm (by omega)
   simp only [au,bC,bD,bE,bF,aW,aX,aY,bG,bH,bB,ab,LT.nds,allT,ax,Int.toNat_natCast,gh,sx,lh,gx,e1,e2,e3,cond_true]
  ·simp [au,bC,bD,bE,bF,aW,aX,aY,bG,bH,bB,ab,LT.each,ax,eC,hw]
  ·simp only [au,bC,bD,bE,bF,aW,aX,aY,bG,bH,bB,ab,LT.fn,ax,eC,aI,Int.toNat_natCast,gh,sx,lh,gx,cond_true,Bool.cond_self]
  ·intro a' hf;simp only [aI,Sum.inr.injEq]at hf;subst hf;simpa using hI
 ·obtain y3:=a
  simp [au,bC,bD,bE,bF,aW,aX,aY,bG,bH,bB,ab,LT.out,ax]
def Nw(a:List Int)(u:Int):List Int:=a.set u.toNat (IntKind.wrap .i64 (Option.getD a[u.toNat]? 0 + 1))
theorem Ot(N:Nat): ∀ (us:List Int) (c:Nat→Int),(∀ u∈us,0≤u∧u < (N:Int))→(∀ b,0≤c b∧c b + us.length≤1000000)→
  us.foldl Nw ((List.range N).map c)=(List.range N).map fun(b:Nat)=>c b + (us.count (b:Int):Int)
 | [],c,_,_=>by simp
 |u::us,c,hu,hc=>by
  have hu0:=hu u (by simp)
  have dE:u.toNat < N:=by omega
  have h1:Nw ((List.range N).map c) u=(List.range N).map fun(b:Nat)=>if (b:Int)=u then c b + 1 else c b:=by
   unfold Nw
   have hg:Option.getD ((List.range N).map c)[u.toNat]? 0=c u.toNat:=by simp [List.getElem?_map,List.getElem?_range dE]
   have hcu:=hc u.toNat
   simp only [List.length_cons]at hcu
   rw [hg,cE (by omega) (by omega)]
   refine List.ext_getElem? fun i=> ?_
   rw [List.getElem?_set]
   by_cases hi:u.toNat=i
   ·rw [if_pos hi,if_pos (by simpa using dE)]
    subst hi
    rw [List.getElem?_map,List.getElem?_range dE,Option.map_some,if_pos (by omega)]
   ·rw [if_neg hi,List.getElem?_map,List.getElem?_map]
    by_cases hiN:i < N
    ·rw [List.getElem?_range hiN,Option.map_some,Option.map_some,if_neg (by omega)]
    ·rw [List.getElem?_eq_none (by simp;omega)];rfl
  rw [List.foldl_cons,h1,Ot N us _ (fun v hv=>hu v (by simp [hv])) (fun b=>by
   have:=hc b
   simp only [List.length_cons]at this
   split <;> omega)]
  refine List.map_congr_left fun b _=> ?_
  rw [List.count_cons]
  by_cases hb:(b:Int)=u
  ·rw [if_pos hb,if_pos (by simp [hb])];omega
  ·rw [if_neg hb,if_neg (by simp;omega)];omega
theorem Gu{n p:Int}{qs:List Int}(h:okP n p=true)(hq:qs.length≤50):
  ab.fin ((0:Int),((tY n p).length:Int),tY n p,iU n qs)=true∧
   (ab.res ((0:Int),((tY n p).length:Int),tY n p,iU n qs)).2.2.2.2=iU n (qs++ [p]):=by
 obtain⟨hu,hl,hc⟩:=Lm h
 have hn:=(FP.1 h).1
 obtain⟨w1,w2⟩:=nY (tY n p) (iU n qs) (by omega) (fun u hm=>by rw [wE];have:=hu u hm;omega)
 refine⟨w1,?_⟩
 rw [w2,lP (f:=aI) (g:=Nw) (fun b a=>rfl)]
 simp only [ax]
 unfold iU
 rw [Ot n.toNat (tY n p) _ (fun u hm=>by have:=hu u hm;omega) (fun b=>by
  have:uC n qs (b:Int)≤qs.length:=List.countP_le_length
  omega)]
 refine List.map_congr_left fun b _=> ?_
 rw [hc b]
 simp only [uC,List.countP_append,List.countP_cons,List.countP_nil]
 cases xQ n p (b:Int) <;> simp
theorem Il{ps:List Int}{b:Nat}(h:b < ps.length):ps.take (b + 1)=ps.take b++ [ps[b]?.getD 0]:=by
 rw [List.take_add_one,List.getElem?_eq_getElem h];rfl
def ak(y2:Int)(y4:List Int)(b:Nat):(List Int)→Nat ⊕ (List Int)
 |y3=>(.inr ((Lp.res ab ((0:Int),(↑(List.length (tY y2 (atI y4 (↑b:Int)))):Int),tY y2 (atI y4 (↑b:Int)),y3)).2.2.2.2))
def aE(y1 y2:Int)(y4:List Int)(i:Nat):(List Int)→ar
 |y3=>((i:Int),y1,y2,y3,y4)
def eX:ar→List Int
 |(_,_,_,y3,_)=>y3
theorem oJ(y1 y2:Int)(y4 y3:List Int)(hn:y1≤9223372036854775807)(hl:y1=(y4.length:Int))(hT:isT y2 y4=true)(h3:y3=iU y2 []):
  ah.fin ((0:Int),y1,y2,y3,y4)=true∧ah.res ((0:Int),y1,y2,y3,y4)=((aR (ak y2 y4) 0 (List.range y1.toNat) 0 y3).1,(aE y1 y2 y4) (aR (ak y2 y4) 0 (List.range y1.toNat) 0 y3).2.1 (aR (ak y2 y4) 0 (List.range y1.toNat) 0 y3).2.2):=by
 have jb:=ah.along (aE y1 y2 y4) eX (ak y2 y4) 0 (fun i a=>a=iU y2 (y4.take i)) (List.range y1.toNat) y3 (by subst h3;simp) (by simp only [ah,aE,List.length_range];omega) (fun i b a hb hI=> ?_) (fun a hI=> ?_)
 ·exact jb
 ·obtain y3:=a
  obtain⟨rfl,dE⟩:=oS hb
  have hw:IntKind.i64.wrap ((b:Int) + 1)=((b + 1:Nat):Int):=by rw [cE (by omega) (by omega)];omega
  have gh:ltI (b:Int) y1=true:=jg (by omega)
  have sx:leI (0:Int) (b:Int)=true:=gt (by omega)
  refine⟨?_,?_,?_,?_⟩
  ·have h4:=(iZ.1 hT).2.1
   have Jw:b < y4.length:=by omega
   have hm:Aj y2 y4 (b:Int)=true:=vf.2 ⟨hT,xk.2 (by omega)⟩
   have hp:okP y2 (atI y4 (b:Int))=true:=FM hT (by unfold atI;rw [Int.toNat_natCast,List.getElem?_eq_getElem Jw];exact List.getElem_mem Jw)
   obtain⟨i1,i2⟩:=Gu (qs:=y4.take b) hp (by rw [List.length_take];omega)
   subst hI
   simp only [bh,cf,cg,ci,cj,ck,bW,ah,LT.nds,allT,aE,gh,hm,i1,cond_true]
  ·simp [bh,cf,cg,ci,cj,ck,bW,ah,LT.each,aE,eX,hw]
  ·simp only [bh,cf,cg,ci,cj,ck,bW,ah,LT.fn,aE,eX,ak,Int.toNat_natCast,gh,sx,cond_true,Bool.cond_self]
  ·intro a' hf
   have h4:=(iZ.1 hT).2.1
   have Jw:b < y4.length:=by omega
   have hp:okP y2 (atI y4 (b:Int))=true:=FM hT (by unfold atI;rw [Int.toNat_natCast,List.getElem?_eq_getElem Jw];exact List.getElem_mem Jw)
   obtain⟨i1,i2⟩:=Gu (qs:=y4.take b) hp (by rw [List.length_take];omega)
   subst hI
   simp only [ak,i2,Sum.inr.injEq]at hf
   rw [← hf,Il Jw]
   rfl
 ·obtain y3:=a
  simp only [bh,cf,cg,ci,cj,ck,bW,ah,LT.out,aE,List.length_range,En,Gz,cond_false]
theorem NR(n:Int)(ps:List Int): ∀ (m:Nat),m≤ps.length→(∀ b,b < m→ ∀ a,a=iU n (ps.take b)→ak n ps b a= .inr (iU n (ps.take (b + 1))))→
  (aR (ak n ps) 0 (List.range m) 0 (iU n [])).2.2=iU n (ps.take m):=by
 have jb: ∀ (k i s:Nat),(∀ b,b < s + k→ ∀ a,a=iU n (ps.take b)→ak n ps b a= .inr (iU n (ps.take (b + 1))))→
   (aR (ak n ps) 0 ((List.range k).map (· + s)) i (iU n (ps.take s))).2.2=iU n (ps.take (s + k)):=by
  intro k
  induction k with
  |zero=>intro i s _;rfl
  |succ k ih=>
   intro i s hb
   rw [List.range_succ_eq_map,List.map_cons,List.map_map]
   simp only [aR,Nat.zero_add]
   rw [hb s (by omega) _ rfl]
   have:=ih (i + 1) (s + 1) (fun b dE=>hb b (by omega))
   have he:List.map ((fun x=>x + s) ∘ Nat.succ) (List.range k)=(List.range k).map (· + (s + 1)):=List.map_congr_left fun x _=>by simp only [Function.comp];omega
   rw [he]
   show (aR (ak n ps) 0 ((List.range k).map (· + (s + 1))) (i + 1) (iU n (ps.take (s + 1)))).2.2=_
   rw [this]
   congr 2;omega
 intro m hm hb
 have:=jb m 0 0 (by simpa using hb)
 simpa using this
theorem Nf(n:Int)(ps:List Int)(hT:isT n ps=true):fU n ps=iU n ps∧fW n ps=true:=by
 have h1:=(iZ.1 hT).1
 have h4:=(iZ.1 hT).2.1
 have hr:List.replicate (Int.toNat n) (0:Int)=iU n []:=by
  unfold iU
  refine List.ext_getElem (by simp) fun i h1 h2=>by simp [uC]
 obtain⟨w1,w2⟩:=oJ (ps.length:Int) n ps (iU n []) (by omega) rfl hT rfl
 have hw:=NR n ps ps.length (Nat.le_refl _) (fun b hb a ha=>by
  have hp:okP n (atI ps (b:Int))=true:=FM hT (by unfold atI;rw [Int.toNat_natCast,List.getElem?_eq_getElem hb];exact List.getElem_mem hb)
  obtain⟨i1,i2⟩:=Gu (qs:=ps.take b) hp (by rw [List.length_take];omega)
  subst ha
  simp only [ak,i2,Il hb]
  rfl)
 have e1:(ps.length:Int).toNat=ps.length:=by omega
 rw [e1]at w2
 refine⟨?_,?_⟩
 ·simp only [fU,ea,fK,hr,w2,aE,hw,List.take_length]
 ·simp only [fW,ea,fK,hr,w1,allT]
  simp;omega
def ke:List SV→List Entry→Option Out
 | [.one ⟨true,[.val (.int .i64 x0),.ref 0]⟩],[.row false 2 (.int .i64) x1]=>some ⟨.one ⟨false,[.ref 1]⟩,[.row false 2 Pc x1],[.row true 2 Pc (iU x0 x1)],[isT x0 x1]⟩
 |_,_=>none
def aD:PF prog:=PF.alt pz ke (by
 intro args es o h bf;unfold ke at h;split at h
 ·rename_i x0 x1
  cases h
  have bf:=jj bf
  have hh:=Nf x0 x1 bf
  obtain⟨e0,en⟩:=hh
  exact jG rfl (fX en) rfl rfl (by simp only [e0] <;> rfl)
 ·cases h)
def fIn(n:Int)(f:Int×Int×Int):Bool:=inR f.1 0 (IntKind.i64.wrap (n - 1))&&(inR f.2.1 0 1&&inR f.2.2 0 1)
def Oo(f g:Int×Int×Int):Bool:=g.1==f.1&&g.2.1==f.2.1
def fAt(fs:List (Int×Int×Int))(b:Nat):Int×Int×Int:=fs[b]?.getD (0,0,0)
def OD(n:Int)(fs:List (Int×Int×Int))(b:Nat):Bool:= !fIn n (fAt fs b)
def OE(fs:List (Int×Int×Int))(b:Nat):Bool:=(fs.take b).any (Oo (fAt fs b))
def okFs(n:Int)(fs:List (Int×Int×Int)):Bool:=leN fs.length 8&&(List.range fs.length).all fun b=> !(OD n fs b||OE fs b)
def rD(xs ys:List (Int×Int×Int)):Bool:=decide (xs=ys)
section
variable (x0 x1:Int)(x2 x3 x4:List Int)
def oI:Int:=Option.getD x2[Int.toNat x1]? 0
def ij:Bool:=Int.tmod (oI x1 x2) 3!=1
def fh:Int:=Int.tmod (IntKind.wrap .i64 (IntKind.wrap .i64 (Int.tdiv (oI x1 x2) 3) + (1:Int))) x0
def rv:Bool:= !(!ij x1 x2&&true)||leI 0 (fh x0 x1 x2)
def sj:Bool:=bif ij x1 x2 then true else IntKind.wrap .i64 (Option.getD x3[Int.toNat (fh x0 x1 x2)]? 0 + Option.getD x4[Int.toNat (fh x0 x1 x2)]? 0)==0
def sk:Bool:=allT [leI 0 x1,ltI x1 (↑x2.length:Int),ltN x1.toNat x2.length,neI x0 0,leI 0 x1,ltI x1 (↑x2.length:Int),ltN x1.toNat x2.length,rv x0 x1 x2,!(!ij x1 x2&&true)||ltI (fh x0 x1 x2) (↑x3.length:Int),!(!ij x1 x2&&true)||ltN (Int.toNat (fh x0 x1 x2)) x3.length,rv x0 x1 x2,!(!ij x1 x2&&true)||ltI (fh x0 x1 x2) (↑x4.length:Int),!(!ij x1 x2&&true)||ltN (Int.toNat (fh x0 x1 x2)) x4.length]
end
def vL:List SV→List Entry→Option Out
 | [.one ⟨true,[.val (.int .i64 x0),.ref 0]⟩,.one ⟨true,[.ref 1,.ref 2]⟩,.one ⟨false,[.val (.int .i64 x1)]⟩],[.row false 2 (.int .i64) x2,.row false 2 (.int .i64) x3,.row false 2 (.int .i64) x4]=>some ⟨.one ⟨false,[.val (.bool (sj x0 x1 x2 x3 x4))]⟩,[.row false 2 Pc x2,.row false 2 Pc x3,.row false 2 Pc x4],[],[sk x0 x1 x2 x3 x4]⟩
 |_,_=>none
def DH:PF prog:=PF.ofG prog [] [] cw 138 f138 func138 (fun c _=>LOk.nil c) vL (by
 intro vs es r h;unfold vL at h;split at h
 ·cases h;kernel_rfl
 ·cases h)
abbrev dC:=Int×Int×List Int×List Int
section
variable (y0 y1:Int)(y2 y3:List Int)
def fP:List Int:= [JF (↑(uC y1 y3 y0):Int) 1 (↑(uC y1 y3 y0):Int) 1]
def kz:Bool:=ltI y0 y1
def kA:Bool:=isT y1 y3
def kB:Bool:=leN (List.length y2 + List.length (fP y0 y1 y3)) 9223372036854775807
def kC:Bool:=leN ((List.length y2 + List.length (fP y0 y1 y3)) * 8) 140737488355328
def kD:Int:=IntKind.wrap .i64 (y0 + (1:Int))
def kE:List Int:=y2++fP y0 y1 y3
end
def ze:dC→List (Nat×SV)
 |(y0,_,_,_)=> [(8,(.one ⟨false,[.val (.int .i64 y0)]⟩)),(3,(.one ⟨false,[.ptr 0 0]⟩)),(7,(.one ⟨false,[.ref 1]⟩))]
def za:dC→List (Nat×Entry)
 |(_,y1,y2,y3)=> [(0,(.box 26 [.val (.int .i64 y1),.ref 2])),(2,(.row false 2 Pc y3)),(1,(.row true 2 Pc y2))]
def zm:Nat→dC→List (Nat×SV)
 |_,(_,_,_,_)=> [(7,(.one ⟨false,[.ref 1]⟩))]
def zi:Nat→dC→List (Nat×Entry)
 |_,(_,y1,y2,y3)=> [(0,(.box 26 [.val (.int .i64 y1),.ref 2])),(1,(.row true 2 Pc y2)),(2,(.row false 2 Pc y3))]
def jQ:dC→LT dC
 |(y0,y1,y2,y3)=> .ite (kz y0 y1) (.need [kA y1 y3,kB y0 y1 y2 y3,kC y0 y1 y2 y3] (.nrm ((kD y0),y1,kE y0 y1 y2 y3,y3) [(0,0),(1,704),(2,2)])) (.ext 0 [(0,0),(1,1),(2,2)])
def pf(s:St):Option dC:=
 (match s.look 8 with
 |some ⟨none,.one ⟨false,[.val (.int .i64 y0)]⟩⟩=>
 (match s.look 3 with
 |some ⟨none,.one ⟨false,[.ptr 192 0]⟩⟩=>
 (match s.look 7 with
 |some ⟨none,.one ⟨false,[.ref 320]⟩⟩=>
 (match s.ent 192 with
 |some (.box 26 [.val (.int .i64 y1),.ref 0])=>
 (match s.ent 0 with
 |some (.row false 2 (.int .i64) y3)=>
 (match s.ent 320 with
 |some (.row true 2 (.int .i64) y2)=>
 some (y0,y1,y2,y3)
 |_=>none)
 |_=>none)
 |_=>none)
 |_=>none)
 |_=>none)
 |_=>none)
def aV:Lp dC where
 h:=⟨[11,12,13,14,17,18,19,20,21,22,23,7,15,16,8],[0,2],[1],[]⟩
 JL:=ze
 JE:=za
 XL:=zm
 XE:=zi
 q:=fun j=>match j with | _=> .exit 0
 tags:= [0]
 lt:=jQ
 fuel:=fun(y0,y1,y2,y3)=>y0.natAbs + y1.natAbs + y2.length + y3.length
 fix:=fun(_,y1,_,y3) (y0,_,y2,_)=>(y0,y1,y2,y3)
 σ:= [(0,192),(2,0),(1,320)]
 rd:=pf
theorem xB:LoopOk prog (fun k=>Nat.blt k Try.f161.ntmps) aV.F (dl f161 0):=by
 refine Lp.ok (tbl:= (T3z [cR])) (lf:= []) cw aV (by kernel_rfl) (LOk.nil _) (fun _=>rfl) (fun _ _=>rfl) ?_ ?_ ?_ ?_ (fun _=>rfl) ?_
 ·rintro⟨y0,y1,y2,y3⟩;kernel_rfl
 ·rintro⟨y0,y1,y2,y3⟩;kernel_rfl
 ·intro s x h
  have h:pf s=some x:=h
  unfold pf at h
  repeat' split at h
  all_goals cases h
  constructor<;>repeat(first|refine ac (by assumption) rfl ?_|refine aq rfl (by assumption) rfl ?_|exact rfl)
 ·rintro⟨y0,y1,y2,y3⟩;kernel_rfl
 ·rintro⟨y0,y1,y2,y3⟩ z;exact(And.intro rfl trivial)
abbrev dD:=Int×Int×List (Int×(Int×Int))×List Int
section
variable (y0 y1:Int)(y2:List (Int×(Int×Int)))(y3:List Int)
def cP:Int×Int×Int:=Option.getD y2[Int.toNat y0]? ((0:Int),(0:Int),(0:Int))
def cD:Bool:=((cP y0 y2).2).1==y1
def iK:Bool:=ltI y0 (↑y2.length:Int)
def kF:Bool:=leI 0 y0
def kG:Bool:=ltN y0.toNat y2.length
def iL:Bool:= !cD y0 y1 y2||leI 0 y0
def iM:Bool:= !cD y0 y1 y2||ltI y0 (↑y2.length:Int)
def iN:Bool:= !cD y0 y1 y2||ltN y0.toNat y2.length
def kH:Bool:= !cD y0 y1 y2||leI 0 ((cP y0 y2).1)
def kI:Bool:= !cD y0 y1 y2||ltI ((cP y0 y2).1) (↑y3.length:Int)
def kJ:Bool:= !cD y0 y1 y2||ltN (Int.toNat ((cP y0 y2).1)) y3.length
def kK:Int:=IntKind.wrap .i64 (y0 + (1:Int))
def jS:List Int:=bif cD y0 y1 y2 then List.set y3 (Int.toNat ((cP y0 y2).1)) ((cP y0 y2).2.2)else y3
end
def zf:dD→List (Nat×SV)
 |(y0,y1,_,_)=> [(9,(.one ⟨false,[.val (.int .i64 y0)]⟩)),(1,(.one ⟨false,[.ref 0]⟩)),(2,(.one ⟨false,[.val (.int .i64 y1)]⟩)),(7,(.one ⟨false,[.ref 1]⟩))]
def zb:dD→List (Nat×Entry)
 |(_,_,y2,y3)=> [(0,(.row false 118 OZ y2)),(1,(.row true 2 Pc y3))]
def zn:Nat→dD→List (Nat×SV)
 |_,(_,_,_,_)=> []
def zj:Nat→dD→List (Nat×Entry)
 |_,(_,_,y2,y3)=> [(0,(.row false 118 OZ y2)),(1,(.row true 2 Pc y3))]
def jR:dD→LT dD
 |(y0,y1,y2,y3)=> .ite (iK y0 y2) (.need [kF y0,iK y0 y2,kG y0 y2] (.need [iL y0 y1 y2,iM y0 y1 y2,iN y0 y1 y2,iL y0 y1 y2,iM y0 y1 y2,iN y0 y1 y2,kH y0 y1 y2,kI y0 y1 y2 y3,kJ y0 y1 y2 y3] (.nrm ((kK y0),y1,y2,(jS y0 y1 y2 y3)) [(0,0),(1,1)]))) (.ext 0 [(0,0),(1,1)])
def pg(s:St):Option dD:=
 (match s.look 9 with
 |some ⟨none,.one ⟨false,[.val (.int .i64 y0)]⟩⟩=>
 (match s.look 1 with
 |some ⟨none,.one ⟨false,[.ref 1]⟩⟩=>
 (match s.look 2 with
 |some ⟨none,.one ⟨false,[.val (.int .i64 y1)]⟩⟩=>
 (match s.look 7 with
 |some ⟨none,.one ⟨false,[.ref 512]⟩⟩=>
 (match s.ent 1 with
 |some (.row false 118 (.pair (.int .i64) (.pair (.int .i64) (.int .i64))) y2)=>
 (match s.ent 512 with
 |some (.row true 2 (.int .i64) y3)=>
 some (y0,y1,y2,y3)
 |_=>none)
 |_=>none)
 |_=>none)
 |_=>none)
 |_=>none)
 |_=>none)
def bi:Lp dD where
 h:=⟨[24,25,26,27,30,31,32,33,34,35,36,37,38,39,40,41,42,43,44,45,46,47,48,28,29,9],[0,1],[],[]⟩
 JL:=zf
 JE:=zb
 XL:=zn
 XE:=zj
 q:=fun j=>match j with | _=> .exit 2
 tags:= [0]
 lt:=jR
 fuel:=fun(y0,y1,y2,y3)=>y0.natAbs + y1.natAbs + y2.length + y3.length
 fix:=fun(_,y1,y2,_) (y0,_,_,y3)=>(y0,y1,y2,y3)
 σ:= [(0,1),(1,512)]
 rd:=pg
theorem xC:LoopOk prog (fun k=>Nat.blt k Try.f161.ntmps) bi.F (dl f161 1):=by
 refine Lp.ok (tbl:= (T3z [cR])) (lf:= []) cw bi (by kernel_rfl) (LOk.nil _) (fun _=>rfl) (fun _ _=>rfl) ?_ ?_ ?_ ?_ (fun _=>rfl) ?_
 ·rintro⟨y0,y1,y2,y3⟩;kernel_rfl
 ·rintro⟨y0,y1,y2,y3⟩;kernel_rfl
 ·intro s x h
  have h:pg s=some x:=h
  unfold pg at h
  repeat' split at h
  all_goals cases h
  constructor<;>repeat(first|refine ac (by assumption) rfl ?_|refine aq rfl (by assumption) rfl ?_|exact rfl)
 ·rintro⟨y0,y1,y2,y3⟩;kernel_rfl
 ·rintro⟨y0,y1,y2,y3⟩ z;exact(And.intro rfl trivial)
section
variable (x0 x1:Int)(x2:List Int)(x3:List (Int×Int×Int))
def mS:Int×Int×List Int×List Int:=((0:Int),x0,[],x2)
def mT:Int×Int×List (Int×Int×Int)×List Int:=((0:Int),x1,x3,((Lp.res aV (mS x0 x2)).2.2.2).1)
def nC:List Int:=(Lp.res bi (mT x0 x1 x2 x3)).2.2.2.2
def nD:Bool:=allT [Lp.fin aV (mS x0 x2),Lp.fin bi (mT x0 x1 x2 x3)]
end
def vK:List SV→List Entry→Option Out
 | [.one ⟨true,[.val (.int .i64 x0),.ref 0]⟩,.one ⟨false,[.ref 1]⟩,.one ⟨false,[.val (.int .i64 x1)]⟩],[.row false 2 (.int .i64) x2,.row false 118 (.pair (.int .i64) (.pair (.int .i64) (.int .i64))) x3]=>some ⟨.one ⟨false,[.ref 2]⟩,[.row false 2 Pc x2,.row false 118 OZ x3],[.row true 2 Pc (nC x0 x1 x2 x3)],[nD x0 x1 x2 x3]⟩
 |_,_=>none
def rY:PF prog:=PF.ofG prog (T3z [cR]) [aV.F,bi.F] cw 161 f161 func161 (LOk.fnT (l:= [dl f161 0,dl f161 1]) (by kernel_rfl) (.cons xB (.cons xC (.nil _)))) vK (by
 intro vs es r h;unfold vK at h;split at h
 ·cases h;kernel_rfl
 ·cases h)
section
variable (x0:Int)(x1:List Int)(x2:List (Int×Int×Int))
def xO:List Int:=nC x0 0 x1 x2
def xP:List Int:=nC x0 1 x1 x2
def tt:Bool:=allT [nD x0 0 x1 x2,nD x0 1 x1 x2]
end
def wO:List SV→List Entry→Option Out
 | [.one ⟨true,[.val (.int .i64 x0),.ref 0]⟩,.one ⟨false,[.ref 1]⟩],[.row false 2 (.int .i64) x1,.row false 118 (.pair (.int .i64) (.pair (.int .i64) (.int .i64))) x2]=>some ⟨.one ⟨true,[.ref 2,.ref 3]⟩,[.row false 2 Pc x1,.row false 118 OZ x2],[.row true 2 Pc (xO x0 x1 x2),.row true 2 Pc (xP x0 x1 x2)],[tt x0 x1 x2]⟩
 |_,_=>none
def EE:PF prog:=PF.ofG prog (T3z [rY]) [] cw 139 f139 func139 (fun c _=>LOk.nil c) wO (by
 intro vs es r h;unfold wO at h;split at h
 ·cases h;kernel_rfl
 ·cases h)
abbrev ew:=Int×Int×List Int×List Int
section
variable (y0 y1:Int)(y2 y3:List Int)
def jw:Int:=Option.getD y2[Int.toNat y0]? 0
def md:Bool:=ltI y0 y1
def jU:Bool:=leI 0 y0
def me:Bool:=ltI y0 (↑y2.length:Int)
def mf:Bool:=ltN y0.toNat y2.length
def mg:Bool:=ltI y0 (↑y3.length:Int)
def mh:Bool:=ltN y0.toNat y3.length
def mi:Int:=IntKind.wrap .i64 (y0 + (1:Int))
def mj:List Int:=List.set y3 y0.toNat (JF 1 (jw y0 y2) 1 (jw y0 y2))
end
def AX:ew→List (Nat×SV)
 |(y0,y1,_,_)=> [(17,(.one ⟨false,[.val (.int .i64 y0)]⟩)),(16,(.one ⟨false,[.val (.int .i64 y1)]⟩)),(15,(.one ⟨false,[.ref 0]⟩)),(5,(.one ⟨false,[.ref 1]⟩))]
def AP:ew→List (Nat×Entry)
 |(_,_,y2,y3)=> [(0,(.row true 2 Pc y2)),(1,(.row true 2 Pc y3))]
def Bl:Nat→ew→List (Nat×SV)
 |_,(_,_,_,_)=> []
def Be:Nat→ew→List (Nat×Entry)
 |_,(_,_,y2,y3)=> [(0,(.row true 2 Pc y2)),(1,(.row true 2 Pc y3))]
def ln:ew→LT ew
 |(y0,y1,y2,y3)=> .ite (md y0 y1) (.need [jU y0,me y0 y2,mf y0 y2] (.need [jU y0,mg y0 y3,mh y0 y3] (.nrm ((mi y0),y1,y2,(mj y0 y2 y3)) [(0,0),(1,1)]))) (.ext 0 [(0,0),(1,1)])
def qD(s:St):Option ew:=
 (match s.look 17 with
 |some ⟨none,.one ⟨false,[.val (.int .i64 y0)]⟩⟩=>
 (match s.look 16 with
 |some ⟨none,.one ⟨false,[.val (.int .i64 y1)]⟩⟩=>
 (match s.look 15 with
 |some ⟨none,.one ⟨false,[.ref 640]⟩⟩=>
 (match s.look 5 with
 |some ⟨none,.one ⟨false,[.ref 448]⟩⟩=>
 (match s.ent 640 with
 |some (.row true 2 (.int .i64) y2)=>
 (match s.ent 448 with
 |some (.row true 2 (.int .i64) y3)=>
 some (y0,y1,y2,y3)
 |_=>none)
 |_=>none)
 |_=>none)
 |_=>none)
 |_=>none)
 |_=>none)
def bN:Lp ew where
 h:=⟨[18,19,20,21,6,7,22,23,24,25,26,27,17],[0,1],[],[]⟩
 JL:=AX
 JE:=AP
 XL:=Bl
 XE:=Be
 q:=fun j=>match j with | _=> .exit 0
 tags:= [0]
 lt:=ln
 fuel:=fun(y0,y1,y2,y3)=>y0.natAbs + y1.natAbs + y2.length + y3.length
 fix:=fun(_,y1,y2,_) (y0,_,_,y3)=>(y0,y1,y2,y3)
 σ:= [(0,640),(1,448)]
 rd:=qD
theorem zu:LoopOk prog (fun k=>Nat.blt k Try.f141.ntmps) bN.F (dl f141 0):=by
 refine Lp.ok (tbl:= (T3z [aD,aQ])) (lf:= []) cw bN (by kernel_rfl) (LOk.nil _) (fun _=>rfl) (fun _ _=>rfl) ?_ ?_ ?_ ?_ (fun _=>rfl) ?_
 ·rintro⟨y0,y1,y2,y3⟩;kernel_rfl
 ·rintro⟨y0,y1,y2,y3⟩;kernel_rfl
 ·intro s x h
  have h:qD s=some x:=h
  unfold qD at h
  repeat' split at h
  all_goals cases h
  constructor<;>repeat(first|refine ac (by assumption) rfl ?_|refine aq rfl (by assumption) rfl ?_|exact rfl)
 ·rintro⟨y0,y1,y2,y3⟩;kernel_rfl
 ·rintro⟨y0,y1,y2,y3⟩ z;exact(And.intro rfl trivial)
abbrev ex:=Int×Int×List (Int×(Int×Int))×List Int×List Int
section
variable (y0 y1:Int)(y2:List (Int×(Int×Int)))(y3 y4:List Int)
def bM:Int×Int×Int:=Option.getD y2[Int.toNat y0]? ((0:Int),(0:Int),(0:Int))
def cG:Bool:=((bM y0 y2).2).1==0
def jx:Bool:=leI 0 ((bM y0 y2).1)
def ml:Bool:=ltI y0 y1
def mm:Bool:=leI 0 y0
def mn:Bool:=ltI y0 (↑y2.length:Int)
def mo:Bool:=ltN y0.toNat y2.length
def mp:Bool:= !cG y0 y2||jx y0 y2
def mq:Bool:= !cG y0 y2||ltI ((bM y0 y2).1) (↑y3.length:Int)
def mr:Bool:= !cG y0 y2||ltN (Int.toNat ((bM y0 y2).1)) y3.length
def mt:Bool:=cG y0 y2||jx y0 y2
def mu:Bool:=cG y0 y2||ltI ((bM y0 y2).1) (↑y4.length:Int)
def mv:Bool:=cG y0 y2||ltN (Int.toNat ((bM y0 y2).1)) y4.length
def lj:Int:=IntKind.wrap .i64 (y0 + (1:Int))
def lk:List Int:=bif cG y0 y2 then List.set y3 (Int.toNat ((bM y0 y2).1)) ((bM y0 y2).2.2)else y3
def ll:List Int:=bif cG y0 y2 then y4 else List.set y4 (Int.toNat ((bM y0 y2).1)) ((bM y0 y2).2.2)
end
def AY:ex→List (Nat×SV)
 |(y0,y1,_,_,_)=> [(34,(.one ⟨false,[.val (.int .i64 y0)]⟩)),(33,(.one ⟨false,[.val (.int .i64 y1)]⟩)),(32,(.one ⟨false,[.ref 0]⟩)),(8,(.one ⟨false,[.ptr 1 0]⟩))]
def AQ:ex→List (Nat×Entry)
 |(_,_,y2,y3,y4)=> [(0,(.row false 118 OZ y2)),(1,(.box 151 [.ref 2,.ref 3])),(2,(.row true 2 Pc y3)),(3,(.row true 2 Pc y4))]
def Bm:Nat→ex→List (Nat×SV)
 |_,(_,_,_,_,_)=> []
def Bf:Nat→ex→List (Nat×Entry)
 |_,(_,_,y2,y3,y4)=> [(0,(.row false 118 OZ y2)),(1,(.box 151 [.ref 2,.ref 3])),(2,(.row true 2 Pc y3)),(3,(.row true 2 Pc y4))]
def lp:ex→LT ex
 |(y0,y1,y2,y3,y4)=> .ite (ml y0 y1) (.need [mm y0,mn y0 y2,mo y0 y2] (.need [mp y0 y2,mq y0 y2 y3,mr y0 y2 y3,mt y0 y2,mu y0 y2 y4,mv y0 y2 y4] (.nrm ((lj y0),y1,y2,lk y0 y2 y3,(ll y0 y2 y4)) [(0,0),(1,1),(2,2),(3,3)]))) (.ext 0 [(0,0),(1,1),(2,2),(3,3)])
def qE(s:St):Option ex:=
 (match s.look 34 with
 |some ⟨none,.one ⟨false,[.val (.int .i64 y0)]⟩⟩=>
 (match s.look 33 with
 |some ⟨none,.one ⟨false,[.val (.int .i64 y1)]⟩⟩=>
 (match s.look 32 with
 |some ⟨none,.one ⟨false,[.ref 1]⟩⟩=>
 (match s.look 8 with
 |some ⟨none,.one ⟨false,[.ptr 1152 0]⟩⟩=>
 (match s.ent 1 with
 |some (.row false 118 (.pair (.int .i64) (.pair (.int .i64) (.int .i64))) y2)=>
 (match s.ent 1152 with
 |some (.box 151 [.ref 448,.ref 1024])=>
 (match s.ent 448 with
 |some (.row true 2 (.int .i64) y3)=>
 (match s.ent 1024 with
 |some (.row true 2 (.int .i64) y4)=>
 some (y0,y1,y2,y3,y4)
 |_=>none)
 |_=>none)
 |_=>none)
 |_=>none)
 |_=>none)
 |_=>none)
 |_=>none)
 |_=>none)
def bO:Lp ex where
 h:=⟨[35,36,37,10,38,39,40,41,42,43,44,45,46,47,48,49,50,51,52,53,54,55,34],[0,1,2,3],[],[]⟩
 JL:=AY
 JE:=AQ
 XL:=Bm
 XE:=Bf
 q:=fun j=>match j with | _=> .exit 2
 tags:= [0]
 lt:=lp
 fuel:=fun(y0,y1,y2,y3,y4)=>y0.natAbs + y1.natAbs + y2.length + y3.length + y4.length
 fix:=fun(_,y1,y2,_,_) (y0,_,_,y3,y4)=>(y0,y1,y2,y3,y4)
 σ:= [(0,1),(1,1152),(2,448),(3,1024)]
 rd:=qE
theorem zw:LoopOk prog (fun k=>Nat.blt k Try.f141.ntmps) bO.F (dl f141 1):=by
 refine Lp.ok (tbl:= (T3z [aD,aQ])) (lf:= []) cw bO (by kernel_rfl) (LOk.nil _) (fun _=>rfl) (fun _ _=>rfl) ?_ ?_ ?_ ?_ (fun _=>rfl) ?_
 ·rintro⟨y0,y1,y2,y3,y4⟩;kernel_rfl
 ·rintro⟨y0,y1,y2,y3,y4⟩;kernel_rfl
 ·intro s x h
  have h:qE s=some x:=h
  unfold qE at h
  repeat' split at h
  all_goals cases h
  constructor<;>repeat(first|refine ac (by assumption) rfl ?_|refine aq rfl (by assumption) rfl ?_|exact rfl)
 ·rintro⟨y0,y1,y2,y3,y4⟩;kernel_rfl
 ·rintro⟨y0,y1,y2,y3,y4⟩ z;exact(And.intro rfl trivial)
section
variable (x0:Int)(x1:List Int)(x2:List (Int×Int×Int))
def qa:Int×Int×List Int×List Int:=((0:Int),(↑(List.length (iU x0 x1)):Int),iU x0 x1,List.replicate x0.toNat (0:Int))
def lQ:List Int:=(Lp.res bN (qa x0 x1)).2.2.2.2
def og:Int×Int×List (Int×Int×Int)×List Int×List Int:=((0:Int),(↑x2.length:Int),x2,lQ x0 x1,lQ x0 x1)
def qb:List Int×List Int:=(Lp.res bO (og x0 x1 x2)).2.2.2.2
def uf:List Int:=(qb x0 x1 x2).1
def ug:List Int:=(qb x0 x1 x2).2
def uh:Bool:=allT [leI 0 x0,leI x0 x0,leI ((↑(8:Nat):Int) * x0) 281474976710656,leI x0 9223372036854775807,isT x0 x1,Lp.fin bN (qa x0 x1),leN 1 (List.length (lQ x0 x1))&&leN (List.length (lQ x0 x1)) 1048576,Lp.fin bO (og x0 x1 x2)]
end
def yL:List SV→List Entry→Option Out
 | [.one ⟨true,[.val (.int .i64 x0),.ref 0]⟩,.one ⟨false,[.ref 1]⟩],[.row false 2 (.int .i64) x1,.row false 118 (.pair (.int .i64) (.pair (.int .i64) (.int .i64))) x2]=>some ⟨.one ⟨true,[.ref 2,.ref 3]⟩,[.row false 2 Pc x1,.row false 118 OZ x2],[.row true 2 Pc (uf x0 x1 x2),.row true 2 Pc (ug x0 x1 x2)],[uh x0 x1 x2]⟩
 |_,_=>none
def FC:PF prog:=PF.ofG prog (T3z [aD,aQ]) [bN.F,bO.F] cw 141 f141 func141 (LOk.fnT (l:= [dl f141 0,dl f141 1]) (by kernel_rfl) (.cons zu (.cons zw (.nil _)))) yL (by
 intro vs es r h;unfold yL at h;split at h
 ·cases h;kernel_rfl
 ·cases h)
section
variable (x0:Int)(x1 x2:List Int)
def cd:Bool:=Option.getD x1[Int.toNat x0]? 0==0
def fk:Bool:=bif cd x0 x1 then Option.getD x2[Int.toNat x0]? 0==0 else false
def fl:Bool:=allT [leI 0 x0,ltI x0 (↑x1.length:Int),ltN x0.toNat x1.length,!(cd x0 x1&&true)||leI 0 x0,!(cd x0 x1&&true)||ltI x0 (↑x2.length:Int),!(cd x0 x1&&true)||ltN x0.toNat x2.length]
end
def jC:List SV→List Entry→Option Out
 | [.one ⟨true,[.ref 0,.ref 1]⟩,.one ⟨false,[.val (.int .i64 x0)]⟩],[.row false 2 (.int .i64) x1,.row false 2 (.int .i64) x2]=>some ⟨.one ⟨false,[.val (.bool (fk x0 x1 x2))]⟩,[.row false 2 Pc x1,.row false 2 Pc x2],[],[fl x0 x1 x2]⟩
 |_,_=>none
def fq:PF prog:=PF.ofG prog [] [] cw 165 f165 func165 (fun c _=>LOk.nil c) jC (by
 intro vs es r h;unfold jC at h;split at h
 ·cases h;kernel_rfl
 ·cases h)
section
variable (x0 x1:Int)(x2 x3 x4:List Int)
def dy:Int:=Option.getD x4[Int.toNat x1]? 0
def ce:Bool:=Int.tmod (dy x1 x4) 3!=1
def dz:Int:=Int.tmod (IntKind.wrap .i64 (IntKind.wrap .i64 (Int.tdiv (dy x1 x4) 3) + (1:Int))) x0
def fm:Bool:=bif ce x1 x4 then true else fk (dz x0 x1 x4) x2 x3
def fo:Bool:=allT [leI 0 x1,ltI x1 (↑x4.length:Int),ltN x1.toNat x4.length,!(!ce x1 x4&&true)||neI 3 0,!(!ce x1 x4&&true)||neI x0 0,!(!ce x1 x4&&true)||fl (dz x0 x1 x4) x2 x3]
end
def jD:List SV→List Entry→Option Out
 | [.one ⟨true,[.ref 0,.ref 1]⟩,.one ⟨true,[.val (.int .i64 x0),.ref 2]⟩,.one ⟨false,[.val (.int .i64 x1)]⟩],[.row false 2 (.int .i64) x2,.row false 2 (.int .i64) x3,.row false 2 (.int .i64) x4]=>some ⟨.one ⟨false,[.val (.bool (fm x0 x1 x2 x3 x4))]⟩,[.row false 2 Pc x2,.row false 2 Pc x3,.row false 2 Pc x4],[],[fo x0 x1 x2 x3 x4]⟩
 |_,_=>none
def oO:PF prog:=PF.ofG prog (T3z [fq]) [] cw 142 f142 func142 (fun c _=>LOk.nil c) jD (by
 intro vs es r h;unfold jD at h;split at h
 ·cases h;kernel_rfl
 ·cases h)
def occ(c:Int):Int:=bif ltI c 1 then c else 1
def Hu(ch:Int)(l:List Int)(f:Int×Int×Int):List Int:=bif f.2.1==ch then l.set f.1.toNat f.2.2 else l
def BK(n:Int)(ps:List Int):List Int:=(List.range n.toNat).map fun(b:Nat)=>occ (uC n ps (b:Int):Int)
def kM(n:Int)(ps:List Int)(fs:List (Int×Int×Int))(ch:Int):List Int:=fs.foldl (Hu ch) (BK n ps)
def JY(n:Int)(a:List Int):Bool:=eqI (a.length:Int) n&&a.all fun v=>inR v 0 1
theorem Kf(ch:Int)(l:List Int)(f:Int×Int×Int):(Hu ch l f).length=l.length:=by
 unfold Hu;cases f.2.1==ch <;> simp
theorem rL(n:Int)(ps:List Int):(BK n ps).length=n.toNat:=by simp [BK]
theorem xh(ch:Int): ∀ (fs:List (Int×Int×Int)) (l:List Int),(fs.foldl (Hu ch) l).length=l.length
 | [],l=>rfl
 |f::fs,l=>by rw [List.foldl_cons,xh ch fs,Kf]
theorem Iu(n:Int)(ps:List Int)(fs:List (Int×Int×Int))(ch:Int):(kM n ps fs ch).length=n.toNat:=by
 rw [kM,xh,rL]
def fV(n:Int)(f:Int×Int×Int):Bool:=(leI 0 f.1&&ltI f.1 n)&&((f.2.1==0||f.2.1==1)&&inR f.2.2 0 1)
def Bu(n:Int)(fs:List (Int×Int×Int)):Bool:=leN fs.length 1000&&fs.all (fV n)
theorem IH{n:Int}{fs:List (Int×Int×Int)}(h:Bu n fs=true):fs.length≤1000∧ ∀ f∈fs,(0≤f.1∧f.1 < n)∧(f.2.1=0∨f.2.1=1)∧(0≤f.2.2∧f.2.2≤1):=by
 simp only [Bu,Bool.and_eq_true,kO,List.all_eq_true]at h
 refine⟨h.1,fun f hf=> ?_⟩
 have h3:=h.2 f hf
 simp only [fV,Bool.and_eq_true,Bool.or_eq_true,beq_iff_eq,qS,AE,Lx]at h3
 exact h3
theorem HK{B C:Type}(g:B→C): ∀ (r:List B) (a:List C),r.foldl (fun a b=>a++ [g b]) a=a++r.map g
 | [],a=>by simp
 |b::r,a=>by rw [List.foldl_cons,HK g r];simp
theorem OG(c:Int):JF c 1 c 1=occ c:=by simp [occ]
theorem OH(c:Int):JF 1 c 1 c=occ c:=by
 simp only [Nv,occ]
 cases h:ltI 1 c <;> cases h':ltI c 1 <;> simp at h h' ⊢ <;> omega
def eZ(y1:Int)(y3:List Int)(b:Nat):(List Int)→Nat ⊕ (List Int)
 |y2=>(.inr (y2++([JF (↑(uC y1 y3 (↑b:Int)):Int) 1 (↑(uC y1 y3 (↑b:Int)):Int) 1])))
def eL(y1:Int)(y3:List Int)(i:Nat):(List Int)→dC
 |y2=>((i:Int),y1,y2,y3)
def pb:dC→List Int
 |(_,_,y2,_)=>y2
theorem Ay(y1:Int)(y3 y2:List Int)(hn:y1≤9223372036854775807)(hT:isT y1 y3=true)(h0:y2= []):
  aV.fin ((0:Int),y1,y2,y3)=true∧aV.res ((0:Int),y1,y2,y3)=((aR (eZ y1 y3) 0 (List.range y1.toNat) 0 y2).1,(eL y1 y3) (aR (eZ y1 y3) 0 (List.range y1.toNat) 0 y2).2.1 (aR (eZ y1 y3) 0 (List.range y1.toNat) 0 y2).2.2):=by
 have jb:=aV.along (eL y1 y3) pb (eZ y1 y3) 0 (fun i a=>a.length≤i) (List.range y1.toNat) y2 (by subst h0;simp) (by simp only [aV,eL,List.length_range];omega) (fun i b a hb hI=> ?_) (fun a hI=> ?_)
 ·exact jb
 ·obtain y2:=a
  obtain⟨rfl,dE⟩:=oS hb
  have hw:IntKind.i64.wrap ((b:Int) + 1)=((b + 1:Nat):Int):=by rw [cE (by omega) (by omega)];omega
  have gh:ltI (b:Int) y1=true:=jg (by omega)
  have sx:leI (0:Int) (b:Int)=true:=gt (by omega)
  refine⟨?_,?_,?_,?_⟩
  ·have h4:=(iZ.1 hT).1
   simp [fP,kz,kA,kB,kC,kD,kE,jQ,aV,LT.nds,allT,eL,gh,hT]
   omega
  ·simp [fP,kz,kA,kB,kC,kD,kE,jQ,aV,LT.each,eL,pb,hw]
  ·simp only [fP,kz,kA,kB,kC,kD,kE,jQ,aV,LT.fn,eL,pb,eZ,Int.toNat_natCast,gh,sx,cond_true,Bool.cond_self]
  ·intro a' hf;simp only [eZ,Sum.inr.injEq]at hf;subst hf;simp;omega
 ·obtain y2:=a
  simp only [fP,kz,kA,kB,kC,kD,kE,jQ,aV,LT.out,eL,List.length_range,En,Gz,cond_false]
def gp(y1:Int)(b:Int×(Int×Int)):(List Int)→Nat ⊕ (List Int)
 |y3=>(.inr (bif(b.2.1==y1)then List.set y3 (Int.toNat b.1) b.2.2else y3))
def eM(y1:Int)(y2:List (Int×(Int×Int)))(i:Nat):(List Int)→dD
 |y3=>((i:Int),y1,y2,y3)
def pc:dD→List Int
 |(_,_,_,y3)=>y3
theorem Az(y1:Int)(y2:List (Int×(Int×Int)))(y3:List Int)(hn:y2.length≤9223372036854775807)(n:Nat)(h3:y3.length=n)(hf: ∀ f∈y2,0≤f.1∧f.1 < (n:Int)):
  bi.fin ((0:Int),y1,y2,y3)=true∧bi.res ((0:Int),y1,y2,y3)=((aR (gp y1) 0 y2 0 y3).1,(eM y1 y2) (aR (gp y1) 0 y2 0 y3).2.1 (aR (gp y1) 0 y2 0 y3).2.2):=by
 have jb:=bi.along (eM y1 y2) pc (gp y1) 0 (fun _ a=>a.length=n) y2 y3 h3 (by simp only [bi,eM];omega) (fun i b a hb hI=> ?_) (fun a hI=> ?_)
 ·exact jb
 ·obtain y3:=a
  have dE:=(List.getElem?_eq_some_iff.1 hb).1
  have gx: ∀ d,Option.getD y2[i]? d=b:=fun d=>by rw [hb];rfl
  have hw:=tA dE hn
  have gh:ltI (i:Int) (y2.length:Int)=true:=jg (by omega)
  have sx:leI (0:Int) (i:Int)=true:=gt (by omega)
  have lh:ltN i y2.length=true:=lm dE
  refine⟨?_,?_,?_,?_⟩
  ·have h5:=hf b (List.mem_of_getElem? hb)
   have h6:leI 0 b.1=true:=gt h5.1
   have h7:ltI b.1 (a.length:Int)=true:=jg (by omega)
   have h8:ltN b.1.toNat a.length=true:=lm (by omega)
   simp only [cP,cD,iK,kF,kG,iL,iM,iN,kH,kI,kJ,kK,jS,jR,bi,LT.nds,allT,eM,Int.toNat_natCast,gh,sx,lh,gx,h6,h7,h8,Bool.or_true,cond_true]
  ·simp [cP,cD,iK,kF,kG,iL,iM,iN,kH,kI,kJ,kK,jS,jR,bi,LT.each,eM,pc,hw]
  ·simp only [cP,cD,iK,kF,kG,iL,iM,iN,kH,kI,kJ,kK,jS,jR,bi,LT.fn,eM,pc,gp,Int.toNat_natCast,gh,sx,lh,gx,cond_true,Bool.cond_self]
  ·intro a' hf;simp only [gp,Sum.inr.injEq]at hf;subst hf;cases b.2.1==y1 <;> simpa using hI
 ·obtain y3:=a
  simp [cP,cD,iK,kF,kG,iL,iM,iN,kH,kI,kJ,kK,jS,jR,bi,LT.out,eM]
theorem Fr(n ch:Int)(ps:List Int)(fs:List (Int×Int×Int))(hT:isT n ps=true)(hF:Bu n fs=true):
  nC n ch ps fs=kM n ps fs ch∧nD n ch ps fs=true:=by
 have h2:=(iZ.1 hT).1
 obtain⟨hl,hf⟩:=IH hF
 obtain⟨w1,w2⟩:=Ay n ps [] (by omega) hT rfl
 rw [lP (f:=eZ n ps) (g:=fun a b=>a++ [occ (uC n ps ((b:Nat):Int):Int)]) (fun b a=>by simp only [eZ,OG]),HK]at w2
 have e1:((Lp.res aV (mS n ps)).2.2.2).1=BK n ps:=by
  simp only [mS,w2,eL,List.nil_append];rfl
 obtain⟨v1,v2⟩:=Az ch fs (BK n ps) (by omega) n.toNat (rL n ps) (fun f hm=>by have:=(hf f hm).1;omega)
 rw [lP (f:=gp ch) (g:=Hu ch) (fun b a=>rfl)]at v2
 refine⟨?_,?_⟩
 ·simp only [nC,mT,e1,v2,eM];rfl
 ·have v3:Lp.fin bi (mT n ch ps fs)=true:=by rw [mT,e1];exact v1
  have w3:Lp.fin aV (mS n ps)=true:=w1
  simp only [nD,v3,w3,allT,cond_true]
theorem Hv(n:Int)(ps:List Int)(fs:List (Int×Int×Int))(h:(isT n ps&&Bu n fs)=true):
  xO n ps fs=kM n ps fs 0∧xP n ps fs=kM n ps fs 1∧tt n ps fs=true:=by
 simp only [Bool.and_eq_true]at h
 obtain⟨a1,a2⟩:=Fr n 0 ps fs h.1 h.2
 obtain⟨b1,b2⟩:=Fr n 1 ps fs h.1 h.2
 exact⟨a1,b1,by simp only [tt,a2,b2,allT,cond_true]⟩
def wZ:List SV→List Entry→Option Out
 | [.one ⟨true,[.val (.int .i64 x0),.ref 0]⟩,.one ⟨false,[.ref 1]⟩],[.row false 2 (.int .i64) x1,.row false 118 (.pair (.int .i64) (.pair (.int .i64) (.int .i64))) x2]=>some ⟨.one ⟨true,[.ref 2,.ref 3]⟩,[.row false 2 Pc x1,.row false 118 OZ x2],[.row true 2 Pc (kM x0 x1 x2 0),.row true 2 Pc (kM x0 x1 x2 1)],[isT x0 x1&&Bu x0 x2]⟩
 |_,_=>none
def lS:PF prog:=PF.alt EE wZ (by
 intro args es o h bf;unfold wZ at h;split at h
 ·rename_i x0 x1 x2
  cases h
  have bf:=jj bf
  have hh:=Hv x0 x1 x2 bf
  obtain⟨e0,e1,en⟩:=hh
  exact jG rfl (fX en) rfl rfl (by simp only [e0,e1] <;> rfl)
 ·cases h)
def gm(y2:List Int)(b:Nat):(List Int)→Nat ⊕ (List Int)
 |y3=>(.inr (List.set y3 b (JF 1 (Option.getD y2[b]? 0) 1 (Option.getD y2[b]? 0))))
def fL(y2:List Int)(i:Nat):(List Int)→ew
 |y3=>((i:Int),(↑y2.length:Int),y2,y3)
def qw:ew→List Int
 |(_,_,_,y3)=>y3
theorem CM(y2 y3:List Int)(hn:y2.length≤9223372036854775807)(hl:y3.length=y2.length):
  bN.fin ((0:Int),(↑y2.length:Int),y2,y3)=true∧bN.res ((0:Int),(↑y2.length:Int),y2,y3)=((aR (gm y2) 0 (List.range y2.length) 0 y3).1,(fL y2) (aR (gm y2) 0 (List.range y2.length) 0 y3).2.1 (aR (gm y2) 0 (List.range y2.length) 0 y3).2.2):=by
 have jb:=bN.along (fL y2) qw (gm y2) 0 (fun _ a=>a.length=y2.length) (List.range y2.length) y3 hl (by simp only [bN,fL,List.length_range];omega) (fun i b a hb hI=> ?_) (fun a hI=> ?_)
 ·exact jb
 ·obtain y3:=a
  obtain⟨rfl,dE⟩:=oS hb
  have hw:IntKind.i64.wrap ((b:Int) + 1)=((b + 1:Nat):Int):=by rw [cE (by omega) (by omega)];omega
  have gh:ltI (b:Int) (y2.length:Int)=true:=jg (by omega)
  have sx:leI (0:Int) (b:Int)=true:=gt (by omega)
  have lh:ltN b y2.length=true:=lm (by omega)
  refine⟨?_,?_,?_,?_⟩
  ·simp [jw,md,jU,me,mf,mg,mh,mi,mj,ln,bN,LT.nds,allT,fL,gh,sx,lh,hI]
  ·simp [jw,md,jU,me,mf,mg,mh,mi,mj,ln,bN,LT.each,fL,qw,hw,hI]
  ·simp only [jw,md,jU,me,mf,mg,mh,mi,mj,ln,bN,LT.fn,fL,qw,gm,Int.toNat_natCast,gh,cond_true]
  ·intro a' hf;simp only [gm,Sum.inr.injEq]at hf;subst hf;simpa using hI
 ·obtain y3:=a
  simp [jw,md,jU,me,mf,mg,mh,mi,mj,ln,bN,LT.out,fL,List.length_range]
def ib(b:Int×(Int×Int)):(List Int×List Int)→Nat ⊕ (List Int×List Int)
 |(y3,y4)=>(.inr ((bif(b.2.1==0)then List.set y3 (Int.toNat b.1) b.2.2else y3),(bif(b.2.1==0)then y4 else List.set y4 (Int.toNat b.1) b.2.2)))
def fM(y2:List (Int×(Int×Int)))(i:Nat):(List Int×List Int)→ex
 |(y3,y4)=>((i:Int),(↑y2.length:Int),y2,y3,y4)
def qx:ex→List Int×List Int
 |(_,_,_,y3,y4)=>(y3,y4)
theorem CN(y2:List (Int×(Int×Int)))(y3 y4:List Int)(hn:y2.length≤9223372036854775807)(n:Nat)(h3:y3.length=n)(h4:y4.length=n)(hf: ∀ f∈y2,0≤f.1∧f.1 < (n:Int)):
  bO.fin ((0:Int),(↑y2.length:Int),y2,y3,y4)=true∧bO.res ((0:Int),(↑y2.length:Int),y2,y3,y4)=((aR (ib) 0 y2 0 (y3,y4)).1,(fM y2) (aR (ib) 0 y2 0 (y3,y4)).2.1 (aR (ib) 0 y2 0 (y3,y4)).2.2):=by
 have jb:=bO.along (fM y2) qx (ib) 0 (fun _ a=>a.1.length=n∧a.2.length=n) y2 (y3,y4) ⟨h3,h4⟩ (by simp only [bO,fM];omega) (fun i b a hb hI=> ?_) (fun a hI=> ?_)
 ·exact jb
 ·obtain⟨y3,y4⟩:=a
  have dE:=(List.getElem?_eq_some_iff.1 hb).1
  have gx: ∀ d,Option.getD y2[i]? d=b:=fun d=>by rw [hb];rfl
  have hw:=tA dE hn
  have gh:ltI (i:Int) (y2.length:Int)=true:=jg (by omega)
  have sx:leI (0:Int) (i:Int)=true:=gt (by omega)
  have lh:ltN i y2.length=true:=lm dE
  refine⟨?_,?_,?_,?_⟩
  ·have h5:=hf b (List.mem_of_getElem? hb)
   have hI1:=hI.1
   have hI2:=hI.2
   have h6:leI 0 b.1=true:=gt h5.1
   have h7:ltI b.1 (n:Int)=true:=jg (by omega)
   have h8:ltN b.1.toNat n=true:=lm (by omega)
   simp only at hI1 hI2
   simp [bM,cG,jx,ml,mm,mn,mo,mp,mq,mr,mt,mu,mv,lj,lk,ll,lp,bO,LT.nds,allT,fM,gh,sx,lh,gx,h6,h7,h8,hI1,hI2]
  ·simp [bM,cG,jx,ml,mm,mn,mo,mp,mq,mr,mt,mu,mv,lj,lk,ll,lp,bO,LT.each,fM,qx,hw]
  ·simp only [bM,cG,jx,ml,mm,mn,mo,mp,mq,mr,mt,mu,mv,lj,lk,ll,lp,bO,LT.fn,fM,qx,ib,Int.toNat_natCast,gh,sx,lh,gx,cond_true,Bool.cond_self]
  ·intro a' hf;simp only [ib,Sum.inr.injEq]at hf;subst hf;have hI1:=hI.1;have hI2:=hI.2;cases b.2.1==0 <;> simpa using ⟨hI1,hI2⟩
 ·obtain⟨y3,y4⟩:=a
  simp [bM,cG,jx,ml,mm,mn,mo,mp,mq,mr,mt,mu,mv,lj,lk,ll,lp,bO,LT.out,fM]
theorem HJ: ∀ (fs:List (Int×Int×Int)) (a:List Int×List Int),(∀ f∈fs,f.2.1=0∨f.2.1=1)→
  fs.foldl (fun a f=>(bif f.2.1==0 then a.1.set f.1.toNat f.2.2 else a.1,bif f.2.1==0 then a.2 else a.2.set f.1.toNat f.2.2)) a=(fs.foldl (Hu 0) a.1,fs.foldl (Hu 1) a.2)
 | [],a,_=>rfl
 |f::fs,a,h=>by
  simp only [List.foldl_cons]
  rw [HJ fs _ (fun g hg=>h g (by simp [hg]))]
  rcases h f (by simp)with e | e <;> simp [Hu,e]
theorem Hj(n:Int)(ps:List Int)(fs:List (Int×Int×Int))(h:(isT n ps&&Bu n fs)=true):
  uf n ps fs=kM n ps fs 0∧ug n ps fs=kM n ps fs 1∧uh n ps fs=true:=by
 simp only [Bool.and_eq_true]at h
 have h2:=(iZ.1 h.1).1
 obtain⟨hl,hf⟩:=IH h.2
 have hr:(List.replicate n.toNat (0:Int)).length=(iU n ps).length:=by rw [wE];simp
 obtain⟨w1,w2⟩:=CM (iU n ps) (List.replicate n.toNat (0:Int)) (by rw [wE];omega) hr
 rw [ET (xs:=iU n ps) (d:=(0:Int)) (g:=occ) (f:=gm (iU n ps)) (e:=0) (fun b a=>by simp only [gm,OH]) hr]at w2
 have e1:lQ n ps=BK n ps:=by
  rw [lQ,qa,w2]
  simp only [fL,iU,BK,List.map_map];rfl
 obtain⟨v1,v2⟩:=CN fs (BK n ps) (BK n ps) (by omega) n.toNat (rL n ps) (rL n ps) (fun f hm=>by have:=(hf f hm).1;omega)
 rw [lP (f:=ib) (g:=fun a f=>(bif f.2.1==0 then a.1.set f.1.toNat f.2.2 else a.1,bif f.2.1==0 then a.2 else a.2.set f.1.toNat f.2.2)) (fun b a=>rfl),HJ _ _ (fun f hm=>(hf f hm).2.1)]at v2
 have e3:qb n ps fs=(kM n ps fs 0,kM n ps fs 1):=by
  simp only [qb,og,e1,v2,fM];rfl
 refine⟨by rw [uf,e3],by rw [ug,e3],?_⟩
 have e4:Lp.fin bO (og n ps fs)=true:=by simp only [og,e1];exact v1
 have e5:Lp.fin bN (qa n ps)=true:=w1
 simp only [uh,e4,e5,e1,h.1,rL,allT]
 simp;omega
def yR:List SV→List Entry→Option Out
 | [.one ⟨true,[.val (.int .i64 x0),.ref 0]⟩,.one ⟨false,[.ref 1]⟩],[.row false 2 (.int .i64) x1,.row false 118 (.pair (.int .i64) (.pair (.int .i64) (.int .i64))) x2]=>some ⟨.one ⟨true,[.ref 2,.ref 3]⟩,[.row false 2 Pc x1,.row false 118 OZ x2],[.row true 2 Pc (kM x0 x1 x2 0),.row true 2 Pc (kM x0 x1 x2 1)],[isT x0 x1&&Bu x0 x2]⟩
 |_,_=>none
def np:PF prog:=PF.alt FC yR (by
 intro args es o h bf;unfold yR at h;split at h
 ·rename_i x0 x1 x2
  cases h
  have bf:=jj bf
  have hh:=Hj x0 x1 x2 bf
  obtain⟨e0,e1,en⟩:=hh
  exact jG rfl (fX en) rfl rfl (by simp only [e0,e1] <;> rfl)
 ·cases h)
def ql(n:Int)(ps:List Int)(t:Int):Int:=Int.tmod (blk (ps[t.toNat]?.getD 0) + 1) n
def yX(n:Int)(ps a b:List Int)(t:Int):Bool:=phs (ps[t.toNat]?.getD 0)!=1||(a[(ql n ps t).toNat]?.getD 0==0&&b[(ql n ps t).toNat]?.getD 0==0)
def vh(n:Int)(ps a b:List Int)(t:Int):Bool:=Aj n ps t&&(JY n a&&JY n b)
theorem GS{n t:Int}{ps a b:List Int}(h:vh n ps a b t=true):
  (0≤t∧t < ps.length)∧(2≤n∧n≤8)∧(0≤ql n ps t∧ql n ps t < n)∧((a.length:Int)=n∧(b.length:Int)=n)∧
   IntKind.i64.wrap (IntKind.i64.wrap (Int.tdiv (ps[t.toNat]?.getD 0) 3) + 1)=blk (ps[t.toNat]?.getD 0) + 1∧
   (0≤a[(ql n ps t).toNat]?.getD 0∧a[(ql n ps t).toNat]?.getD 0≤1)∧(0≤b[(ql n ps t).toNat]?.getD 0∧b[(ql n ps t).toNat]?.getD 0≤1):=by
 simp only [vh,Bool.and_eq_true,vf,JY,Dh,List.all_eq_true,qS,xk]at h
 obtain⟨⟨hT,ht⟩,⟨ha,ha2⟩,hb,hb2⟩:=h
 have h1:=iZ.1 hT
 have dE:t.toNat < ps.length:=by omega
 have hp:=h1.2.2 (ps[t.toNat]) (List.getElem_mem dE)
 have e0:ps[t.toNat]?.getD 0=ps[t.toNat]:=by rw [List.getElem?_eq_getElem dE];rfl
 rw [ql,e0]
 have hb3:blk ps[t.toNat]=ps[t.toNat] / 3:=DY hp.1
 have hb4:Int.tdiv ps[t.toNat] 3=ps[t.toNat] / 3:=Int.tdiv_eq_ediv_of_nonneg hp.1
 have hq:Int.tmod (blk ps[t.toNat] + 1) n=(ps[t.toNat] / 3 + 1) % n:=by rw [hb3,Int.tmod_eq_emod_of_nonneg (by omega)]
 have hm0:0≤(ps[t.toNat] / 3 + 1) % n:=Int.emod_nonneg _ (by omega)
 have hm1:(ps[t.toNat] / 3 + 1) % n < n:=Int.emod_lt_of_pos _ (by omega)
 rw [hq]
 have la:((ps[t.toNat] / 3 + 1) % n).toNat < a.length:=by omega
 have lb:((ps[t.toNat] / 3 + 1) % n).toNat < b.length:=by omega
 rw [List.getElem?_eq_getElem la,List.getElem?_eq_getElem lb]
 refine⟨ht,h1.1,⟨hm0,hm1⟩,⟨ha,hb⟩,?_,ha2 _ (List.getElem_mem la),hb2 _ (List.getElem_mem lb)⟩
 rw [hb4,cE (x:=ps[t.toNat] / 3) (by omega) (by omega),cE (by omega) (by omega),hb3]
theorem Kj(n t:Int)(ps a b:List Int)(h:vh n ps a b t=true):sj n t ps a b=yX n ps a b t∧sk n t ps a b=true:=by
 obtain⟨ht,hn,hx,hl,hw,ha,hb⟩:=GS h
 have e2:fh n t ps=ql n ps t:=by
  simp only [fh,oI,hw];rfl
 refine⟨?_,?_⟩
 ·simp only [sj,e2,ij,oI,yX,phs]
  rw [cE (by omega) (by omega)]
  cases Int.tmod (ps[t.toNat]?.getD 0) 3 !=1 with
  |true=>rfl
  |false=>
   rw [cond_false,Bool.false_or,Bool.eq_iff_iff]
   simp only [beq_iff_eq,Bool.and_eq_true]
   omega
 ·have t1:leI 0 t=true:=gt ht.1
  have t2:ltI t (ps.length:Int)=true:=jg ht.2
  have t3:ltN t.toNat ps.length=true:=lm (by omega)
  have t4:neI n 0=true:=HV (by omega)
  have t5:leI 0 (ql n ps t)=true:=gt hx.1
  have t6:ltI (ql n ps t) (a.length:Int)=true:=jg (by omega)
  have t7:ltN (ql n ps t).toNat a.length=true:=lm (by omega)
  have t8:ltI (ql n ps t) (b.length:Int)=true:=jg (by omega)
  have t9:ltN (ql n ps t).toNat b.length=true:=lm (by omega)
  simp only [sk,rv,e2,t1,t2,t3,t4,t5,t6,t7,t8,t9,allT,cond_true,Bool.or_true]
def vP:List SV→List Entry→Option Out
 | [.one ⟨true,[.val (.int .i64 x0),.ref 0]⟩,.one ⟨true,[.ref 1,.ref 2]⟩,.one ⟨false,[.val (.int .i64 x1)]⟩],[.row false 2 (.int .i64) x2,.row false 2 (.int .i64) x3,.row false 2 (.int .i64) x4]=>some ⟨.one ⟨false,[.val (.bool (yX x0 x2 x3 x4 x1))]⟩,[.row false 2 Pc x2,.row false 2 Pc x3,.row false 2 Pc x4],[],[vh x0 x2 x3 x4 x1]⟩
 |_,_=>none
def kS:PF prog:=PF.alt DH vP (by
 intro args es o h bf;unfold vP at h;split at h
 ·rename_i x0 x1 x2 x3 x4
  cases h
  have bf:=jj bf
  have hh:=Kj x0 x1 x2 x3 x4 bf
  obtain⟨e0,en⟩:=hh
  exact jG rfl (fX en) (by simp only [e0] <;> rfl) rfl rfl
 ·cases h)
theorem JI(n t:Int)(a b ps:List Int)(h:vh n ps a b t=true):fm n t a b ps=yX n ps a b t∧fo n t a b ps=true:=by
 obtain⟨ht,hn,hx,hl,hw,ha,hb⟩:=GS h
 have e2:dz n t ps=ql n ps t:=by
  simp only [dz,dy,hw];rfl
 refine⟨?_,?_⟩
 ·simp only [fm,e2,ce,dy,fk,cd,yX,phs]
  cases Int.tmod (ps[t.toNat]?.getD 0) 3 !=1 with
  |true=>rfl
  |false=>
   rw [cond_false,Bool.false_or]
   cases a[(ql n ps t).toNat]?.getD 0==0 <;> rfl
 ·have t1:leI 0 t=true:=gt ht.1
  have t2:ltI t (ps.length:Int)=true:=jg ht.2
  have t3:ltN t.toNat ps.length=true:=lm (by omega)
  have t4:neI n 0=true:=HV (by omega)
  have t4':neI (3:Int) 0=true:=HV (by omega)
  have t5:leI 0 (ql n ps t)=true:=gt hx.1
  have t6:ltI (ql n ps t) (a.length:Int)=true:=jg (by omega)
  have t7:ltN (ql n ps t).toNat a.length=true:=lm (by omega)
  have t8:ltI (ql n ps t) (b.length:Int)=true:=jg (by omega)
  have t9:ltN (ql n ps t).toNat b.length=true:=lm (by omega)
  simp only [fo,fl,e2,t1,t2,t3,t4,t4',t5,t6,t7,t8,t9,allT,cond_true,Bool.or_true]
def jF:List SV→List Entry→Option Out
 | [.one ⟨true,[.ref 0,.ref 1]⟩,.one ⟨true,[.val (.int .i64 x0),.ref 2]⟩,.one ⟨false,[.val (.int .i64 x1)]⟩],[.row false 2 (.int .i64) x2,.row false 2 (.int .i64) x3,.row false 2 (.int .i64) x4]=>some ⟨.one ⟨false,[.val (.bool (yX x0 x4 x2 x3 x1))]⟩,[.row false 2 Pc x2,.row false 2 Pc x3,.row false 2 Pc x4],[],[vh x0 x4 x2 x3 x1]⟩
 |_,_=>none
def bk:PF prog:=PF.alt oO jF (by
 intro args es o h bf;unfold jF at h;split at h
 ·rename_i x0 x1 x2 x3 x4
  cases h
  have bf:=jj bf
  have hh:=JI x0 x1 x2 x3 x4 bf
  obtain⟨e0,en⟩:=hh
  exact jG rfl (fX en) (by simp only [e0] <;> rfl) rfl rfl
 ·cases h)
theorem Nr(n:Int)(ps:List Int)(b:Int):inR (occ (uC n ps b:Int)) 0 1=true:=by
 rw [qS,occ];cases h:ltI (uC n ps b:Int) 1 <;> simp at h ⊢;omega
theorem Jh(n:Int)(ps:List Int)(fs:List (Int×Int×Int))(ch:Int)(hT:isT n ps=true)(hF:Bu n fs=true):JY n (kM n ps fs ch)=true:=by
 have h2:=(iZ.1 hT).1
 obtain⟨hl,hf⟩:=IH hF
 simp only [JY,Bool.and_eq_true,Dh,Iu]
 refine⟨by omega,?_⟩
 have jb: ∀ (fs:List (Int×Int×Int)) (l:List Int),(∀ f∈fs,0≤f.2.2∧f.2.2≤1)→(l.all fun v=>inR v 0 1)=true→((fs.foldl (Hu ch) l).all fun v=>inR v 0 1)=true:=by
  intro fs
  induction fs with
  |nil=>intro l _ h;exact h
  |cons f fs ih=>
   intro l hv h
   rw [List.foldl_cons]
   refine ih _ (fun g hg=>hv g (by simp [hg])) ?_
   unfold Hu
   cases f.2.1==ch with
   |false=>exact h
   |true=>
    simp only [cond_true,List.all_eq_true]at h ⊢
    intro v hm
    rcases List.mem_or_eq_of_mem_set hm with h3 | rfl
    ·exact h v h3
    ·exact qS.2 (hv f (by simp))
 refine jb fs _ (fun f hm=>(hf f hm).2.2) ?_
 simp only [BK,List.all_map,List.all_eq_true,Function.comp]
 intro b _;exact Nr n ps b
def MW(n:Int)(fs:List (Int×Int×Int))(ps:List Int)(t:Int):Bool:=yX n ps (kM n ps fs 0) (kM n ps fs 1) t
def okL(n:Int)(fs:List (Int×Int×Int)):List Int→List Int→Bool
 | [],_=>true
 |t::ts,ps=>MW n fs ps t&&okL n fs ts (DA n ps t)
def Nd(n j:Int)(ps:List Int)(f:Int):Int:=bif bif ltI f 0 then !MP n ps else false then j else f
def ML(n:Int):List (List Int)→Int→Int→Int
 | [],_,f=>f
 |p::r,j,f=>ML n r (j + 1) (Nd n j p f)
theorem HY{n t:Int}{ps:List Int}{fs:List (Int×Int×Int)}(hT:isT n ps=true)(hF:Bu n fs=true)(ht:Cm ps t=true):
  vh n ps (kM n ps fs 0) (kM n ps fs 1) t=true:=by
 simp only [vh,Bool.and_eq_true]
 exact⟨vf.2 ⟨hT,ht⟩,Jh n ps fs 0 hT hF,Jh n ps fs 1 hT hF⟩
def ky(x0 x1 x2 x3:Int)(x4:List Int):Bool:=bif !isT x0 x4 then false else bif x1==0 then bif jm x2 0 (IntKind.wrap .i64 ((↑x4.length:Int) - (1:Int)))then x3==0 else false else bif x1==1 then bif jm x2 0 (IntKind.wrap .i64 (x0 - (1:Int)))then jm x3 1 3 else false else false
def tG:List SV→List Entry→Option Out
 | [.one ⟨true,[.val (.int .i64 x0),.ref 0]⟩,.one ⟨true,[.val (.int .i64 x1),.val (.int .i64 x2),.val (.int .i64 x3)]⟩],[.row false 2 (.int .i64) x4]=>some ⟨.one ⟨false,[.val (.bool (ky x0 x1 x2 x3 x4))]⟩,[.row false 2 Pc x4],[],[]⟩
 |_,_=>none
def iE:PF prog:=PF.ofG prog (T3z [cF,yE]) [] cw 166 f166 func166 (fun c _=>LOk.nil c) tG (by
 intro vs es r h;unfold tG at h;split at h
 ·cases h;kernel_rfl
 ·cases h)
abbrev eU:=Int×List (Int×(Int×Int))×Int×List Int
section
variable (y0:Int)(y1:List (Int×(Int×Int)))(y2:Int)(y3:List Int)
def ik:Int×Int×Int:=Option.getD y1[Int.toNat y0]? ((0:Int),(0:Int),(0:Int))
def kT:Bool:=ltI y0 (↑y1.length:Int)
def nE:Bool:=leI 0 y0
def nF:Bool:=ltN y0.toNat y1.length
def nG:Bool:= !ky y2 ((ik y0 y1).1) (((ik y0 y1).2).1) ((ik y0 y1).2.2) y3
def nH:Int:=IntKind.wrap .i64 (y0 + (1:Int))
end
def Ca:eU→List (Nat×SV)
 |(y0,_,_,_)=> [(5,(.one ⟨false,[.val (.int .i64 y0)]⟩)),(1,(.one ⟨false,[.ref 0]⟩)),(2,(.one ⟨false,[.ptr 1 0]⟩))]
def BZ:eU→List (Nat×Entry)
 |(_,y1,y2,y3)=> [(0,(.row false 129 OZ y1)),(1,(.box 26 [.val (.int .i64 y2),.ref 2])),(2,(.row false 2 Pc y3))]
def Cc:Nat→eU→List (Nat×SV)
 |0,(_,_,_,_)=> [(4,(.one ⟨false,[.val (.int .i64 2)]⟩))]
 |_,(_,_,_,_)=> []
def Cb:Nat→eU→List (Nat×Entry)
 |0,(_,y1,y2,y3)=> [(0,(.row false 129 OZ y1)),(1,(.box 26 [.val (.int .i64 y2),.ref 2])),(2,(.row false 2 Pc y3))]
 |_,(_,y1,y2,y3)=> [(0,(.row false 129 OZ y1)),(1,(.box 26 [.val (.int .i64 y2),.ref 2])),(2,(.row false 2 Pc y3))]
def mK:eU→LT eU
 |(y0,y1,y2,y3)=> .ite (kT y0 y1) (.need [nE y0,kT y0 y1,nF y0 y1] (.ite (nG y0 y1 y2 y3) (.ext 0 [(0,0),(1,1),(2,2)]) (.nrm ((nH y0),y1,y2,y3) [(0,0),(1,1),(2,2)]))) (.ext 1 [(0,0),(1,1),(2,2)])
def ru(s:St):Option eU:=
 (match s.look 5 with
 |some ⟨none,.one ⟨false,[.val (.int .i64 y0)]⟩⟩=>
 (match s.look 1 with
 |some ⟨none,.one ⟨false,[.ref 1]⟩⟩=>
 (match s.look 2 with
 |some ⟨none,.one ⟨false,[.ptr 192 0]⟩⟩=>
 (match s.ent 1 with
 |some (.row false 129 (.pair (.int .i64) (.pair (.int .i64) (.int .i64))) y1)=>
 (match s.ent 192 with
 |some (.box 26 [.val (.int .i64 y2),.ref 0])=>
 (match s.ent 0 with
 |some (.row false 2 (.int .i64) y3)=>
 some (y0,y1,y2,y3)
 |_=>none)
 |_=>none)
 |_=>none)
 |_=>none)
 |_=>none)
 |_=>none)
def bp:Lp eU where
 h:=⟨[12,13,14,15,18,19,20,21,22,23,24,4,16,17,5],[0,1,2],[],[]⟩
 JL:=Ca
 JE:=BZ
 XL:=Cc
 XE:=Cb
 q:=fun j=>match j with | 0=> .ret | _=> .exit 0
 tags:= [0,1]
 lt:=mK
 fuel:=fun(y0,y1,y2,y3)=>y0.natAbs + y1.length + y2.natAbs + y3.length
 fix:=fun(_,y1,y2,y3) (y0,_,_,_)=>(y0,y1,y2,y3)
 σ:= [(0,1),(1,192),(2,0)]
 rd:=ru
theorem Ag:LoopOk prog (fun k=>Nat.blt k Try.f143.ntmps) bp.F (dl f143 0):=by
 refine Lp.ok (tbl:= (T3z [iE,cF])) (lf:= []) cw bp (by kernel_rfl) (LOk.nil _) (fun _=>rfl) (fun j _=>by unfold bp;match j with | 0=>rfl | _ + 1=>rfl) ?_ ?_ ?_ ?_ (fun _=>rfl) ?_
 ·rintro⟨y0,y1,y2,y3⟩;kernel_rfl
 ·rintro⟨y0,y1,y2,y3⟩;kernel_rfl
 ·intro s x h
  have h:ru s=some x:=h
  unfold ru at h
  repeat' split at h
  all_goals cases h
  constructor<;>repeat(first|refine ac (by assumption) rfl ?_|refine aq rfl (by assumption) rfl ?_|exact rfl)
 ·rintro⟨y0,y1,y2,y3⟩;kernel_rfl
 ·rintro⟨y0,y1,y2,y3⟩ z;exact(And.intro (And.intro trivial rfl) trivial)
section
variable (x0:Int)(x1:List Int)(x2:List (Int×Int×Int))
def um:Bool:=ltI 200 (↑x2.length:Int)
def rc:Int×List (Int×Int×Int)×Int×List Int:=((0:Int),x2,x0,x1)
def vk:Int:=bif !isT x0 x1 then(1:Int)else bif um x2 then(3:Int)else bif Nat.beq ((Lp.res bp (rc x0 x1 x2)).1) 0 then(2:Int)else(0:Int)
def vl:Bool:=allT [!isT x0 x1||(um x2||Lp.fin bp (rc x0 x1 x2))]
end
def zG:List SV→List Entry→Option Out
 | [.one ⟨true,[.val (.int .i64 x0),.ref 0]⟩,.one ⟨false,[.ref 1]⟩],[.row false 2 (.int .i64) x1,.row false 129 (.pair (.int .i64) (.pair (.int .i64) (.int .i64))) x2]=>some ⟨.one ⟨false,[.val (.int .i64 (vk x0 x1 x2))]⟩,[.row false 2 Pc x1,.row false 129 OZ x2],[],[vl x0 x1 x2]⟩
 |_,_=>none
def GR:PF prog:=PF.ofG prog (T3z [iE,cF]) [bp.F] cw 143 f143 func143 (LOk.fnT (l:= [dl f143 0]) (by kernel_rfl) (.cons Ag (.nil _))) zG (by
 intro vs es r h;unfold zG at h;split at h
 ·cases h;kernel_rfl
 ·cases h)
def wc(x0:Int):Int×Int×Int:=(x0,(0:Int),(0:Int))
def tu(x0 x1:Int):List (Int×(Int×Int)):=bif x1==1 then [wc x0]else bif x1==2 then [(x0,(1:Int),(1:Int))]else bif x1==3 then [wc x0,(x0,(1:Int),(0:Int))]else []
def wP:List SV→List Entry→Option Out
 | [.one ⟨false,[.val (.int .i64 x0)]⟩,.one ⟨false,[.val (.int .i64 x1)]⟩],[]=>some ⟨.one ⟨false,[.ref 0]⟩,[],[.row true 118 OZ (tu x0 x1)],[]⟩
 |_,_=>none
def xL:PF prog:=PF.ofG prog [] [] cw 167 f167 func167 (fun c _=>LOk.nil c) wP (by
 intro vs es r h;unfold wP at h;split at h
 ·cases h;kernel_rfl
 ·cases h)
abbrev fJ:=Int×List Int×List (Int×(Int×Int))
section
variable (y0:Int)(y1:List Int)(y2:List (Int×(Int×Int)))
def gv:List (Int×Int×Int):=tu y0 (Option.getD y1[Int.toNat y0]? 0)
def jA:Bool:=ltI y0 (↑y1.length:Int)
def lz:Bool:=leI 0 y0
def lA:Bool:=ltN y0.toNat y1.length
def lB:Bool:=leN (List.length y2 + List.length (gv y0 y1)) 9223372036854775807
def lC:Bool:=leN ((List.length y2 + List.length (gv y0 y1)) * 24) 140737488355328
def lD:Int:=IntKind.wrap .i64 (y0 + (1:Int))
def lE:List (Int×(Int×Int)):=y2++gv y0 y1
end
def zK:fJ→List (Nat×SV)
 |(y0,_,_)=> [(4,(.one ⟨false,[.val (.int .i64 y0)]⟩)),(0,(.one ⟨false,[.ref 0]⟩)),(3,(.one ⟨false,[.ref 1]⟩))]
def zI:fJ→List (Nat×Entry)
 |(_,y1,y2)=> [(0,(.row false 2 Pc y1)),(1,(.row true 118 OZ y2))]
def zR:Nat→fJ→List (Nat×SV)
 |_,(_,_,_)=> [(3,(.one ⟨false,[.ref 1]⟩))]
def zP:Nat→fJ→List (Nat×Entry)
 |_,(_,y1,y2)=> [(0,(.row false 2 Pc y1)),(1,(.row true 118 OZ y2))]
def kx:fJ→LT fJ
 |(y0,y1,y2)=> .ite (jA y0 y1) (.need [lz y0,jA y0 y1,lA y0 y1,lB y0 y1 y2,lC y0 y1 y2] (.nrm ((lD y0),y1,(lE y0 y1 y2)) [(0,0),(1,768)])) (.ext 0 [(0,0),(1,1)])
def pP(s:St):Option fJ:=
 (match s.look 4 with
 |some ⟨none,.one ⟨false,[.val (.int .i64 y0)]⟩⟩=>
 (match s.look 0 with
 |some ⟨none,.one ⟨false,[.ref 0]⟩⟩=>
 (match s.look 3 with
 |some ⟨none,.one ⟨false,[.ref 192]⟩⟩=>
 (match s.ent 0 with
 |some (.row false 2 (.int .i64) y1)=>
 (match s.ent 192 with
 |some (.row true 118 (.pair (.int .i64) (.pair (.int .i64) (.int .i64))) y2)=>
 some (y0,y1,y2)
 |_=>none)
 |_=>none)
 |_=>none)
 |_=>none)
 |_=>none)
def bQ:Lp fJ where
 h:=⟨[6,7,8,9,12,13,14,15,16,17,18,19,3,10,11,4],[0],[1],[]⟩
 JL:=zK
 JE:=zI
 XL:=zR
 XE:=zP
 q:=fun j=>match j with | _=> .exit 0
 tags:= [0]
 lt:=kx
 fuel:=fun(y0,y1,y2)=>y0.natAbs + y1.length + y2.length
 fix:=fun(_,y1,_) (y0,_,y2)=>(y0,y1,y2)
 σ:= [(0,0),(1,192)]
 rd:=pP
theorem yw:LoopOk prog (fun k=>Nat.blt k Try.f144.ntmps) bQ.F (dl f144 0):=by
 refine Lp.ok (tbl:= [xL]) (lf:= []) cw bQ (by kernel_rfl) (LOk.nil _) (fun _=>rfl) (fun _ _=>rfl) ?_ ?_ ?_ ?_ (fun _=>rfl) ?_
 ·rintro⟨y0,y1,y2⟩;kernel_rfl
 ·rintro⟨y0,y1,y2⟩;kernel_rfl
 ·intro s x h
  have h:pP s=some x:=h
  unfold pP at h
  repeat' split at h
  all_goals cases h
  constructor<;>repeat(first|refine ac (by assumption) rfl ?_|refine aq rfl (by assumption) rfl ?_|exact rfl)
 ·rintro⟨y0,y1,y2⟩;kernel_rfl
 ·rintro⟨y0,y1,y2⟩ z;exact(And.intro rfl trivial)
section
variable (x0:List Int)
def sm:Int×List Int×List (Int×Int×Int):=((0:Int),x0,[])
def tv:List (Int×(Int×Int)):=(Lp.res bQ (sm x0)).2.2.2
def tw:Bool:=allT [Lp.fin bQ (sm x0)]
end
def wQ:List SV→List Entry→Option Out
 | [.one ⟨false,[.ref 0]⟩],[.row false 2 (.int .i64) x0]=>some ⟨.one ⟨false,[.ref 1]⟩,[.row false 2 Pc x0],[.row true 118 OZ (tv x0)],[tw x0]⟩
 |_,_=>none
def EF:PF prog:=PF.ofG prog [xL] [bQ.F] cw 144 f144 func144 (LOk.fnT (l:= [dl f144 0]) (by kernel_rfl) (.cons yw (.nil _))) wQ (by
 intro vs es r h;unfold wQ at h;split at h
 ·cases h;kernel_rfl
 ·cases h)
def cA(x0 x1 x2 x3:Int)(x4:List Int):Bool:=bif x1==0 then bif Cm x4 x2 then x3==0 else false else bif x1==1 then bif gS x2 0 (IntKind.wrap .i64 (x0 - (1:Int)))then gS x3 1 3 else false else false
def cB(x1:Int)(x4:List Int):Bool:=allT [!x1==0||leN x4.length (9223372036854775807:Nat)]
def gB:List SV→List Entry→Option Out
 | [.one ⟨true,[.val (.int .i64 x0),.ref 0]⟩,.one ⟨true,[.val (.int .i64 x1),.val (.int .i64 x2),.val (.int .i64 x3)]⟩],[.row false 2 (.int .i64) x4]=>some ⟨.one ⟨false,[.val (.bool (cA x0 x1 x2 x3 x4))]⟩,[.row false 2 Pc x4],[],[cB x1 x4]⟩
 |_,_=>none
def eo:PF prog:=PF.ofG prog (T3z [eW,qO]) [] cw 170 f170 func170 (fun c _=>LOk.nil c) gB (by
 intro vs es r h;unfold gB at h;split at h
 ·cases h;kernel_rfl
 ·cases h)
def jJ(x0 x1 x2 x3:Int)(x4:List Int):Bool:= !cA x3 x0 x1 x2 x4
def nc(x0:Int)(x4:List Int):Bool:=allT [cB x0 x4]
def qj:List SV→List Entry→Option Out
 | [.one ⟨true,[.val (.int .i64 x0),.val (.int .i64 x1),.val (.int .i64 x2)]⟩,.one ⟨false,[.ptr 0 0]⟩],[.box 26 [.val (.int .i64 x3),.ref 1],.row false 2 (.int .i64) x4]=>some ⟨.one ⟨false,[.val (.bool (jJ x0 x1 x2 x3 x4))]⟩,[.box 26 [.val (.int .i64 x3),.ref 1],.row false 2 Pc x4],[],[nc x0 x4]⟩
 |_,_=>none
def fe:PF prog:=PF.ofG prog (T3z [eo]) [] cw 169 f169 func169 (fun c _=>LOk.nil c) qj (by
 intro vs es r h;unfold qj at h;split at h
 ·cases h;kernel_rfl
 ·cases h)
abbrev ao:=Int×Int×Int×List (Int×(Int×Int))×List Int
section
variable (y0 y1 y2:Int)(y3:List (Int×(Int×Int)))(y4:List Int)
def aw:Int×Int×Int:=Option.getD y3[Int.toNat y0]? ((0:Int),(0:Int),(0:Int))
def bR:Bool:=ltI y0 y1
def bS:Bool:=leI 0 y0
def bT:Bool:=ltI y0 (↑y3.length:Int)
def bU:Bool:=ltN y0.toNat y3.length
def bV:Bool:=nc ((aw y0 y3).1) y4
def cN:Bool:=jJ ((aw y0 y3).1) (((aw y0 y3).2).1) ((aw y0 y3).2.2) y2 y4
def cO:Int:=IntKind.wrap .i64 (y0 + (1:Int))
end
def nT:ao→List (Nat×SV)
 |(y0,y1,_,_,_)=> [(8,(.one ⟨false,[.val (.int .i64 y0)]⟩)),(7,(.one ⟨false,[.val (.int .i64 y1)]⟩)),(1,(.one ⟨false,[.clo 169 [0]]⟩)),(0,(.one ⟨false,[.ref 1]⟩))]
def nS:ao→List (Nat×Entry)
 |(_,_,y2,y3,y4)=> [(0,(.box 26 [.val (.int .i64 y2),.ref 2])),(1,(.row false 129 OZ y3)),(2,(.row false 2 Pc y4))]
def nV:Nat→ao→List (Nat×SV)
 |0,(y0,_,_,_,_)=> [(4,(.one ⟨false,[.val (.int .i64 y0)]⟩))]
 |_,(_,_,_,_,_)=> []
def nU:Nat→ao→List (Nat×Entry)
 |0,(_,_,y2,y3,y4)=> [(0,(.box 26 [.val (.int .i64 y2),.ref 2])),(1,(.row false 129 OZ y3)),(2,(.row false 2 Pc y4))]
 |_,(_,_,y2,y3,y4)=> [(0,(.box 26 [.val (.int .i64 y2),.ref 2])),(1,(.row false 129 OZ y3)),(2,(.row false 2 Pc y4))]
def bI:ao→LT ao
 |(y0,y1,y2,y3,y4)=> .ite (bR y0 y1) (.need [bS y0,bT y0 y3,bU y0 y3,bV y0 y3 y4] (.ite (cN y0 y2 y3 y4) (.ext 0 [(0,0),(1,1),(2,2)]) (.nrm ((cO y0),y1,y2,y3,y4) [(0,0),(1,1),(2,2)]))) (.ext 1 [(0,0),(1,1),(2,2)])
def eJ(s:St):Option ao:=
 (match s.look 8 with
 |some ⟨none,.one ⟨false,[.val (.int .i64 y0)]⟩⟩=>
 (match s.look 7 with
 |some ⟨none,.one ⟨false,[.val (.int .i64 y1)]⟩⟩=>
 (match s.look 1 with
 |some ⟨none,.one ⟨false,[.clo 169 [1]]⟩⟩=>
 (match s.look 0 with
 |some ⟨none,.one ⟨false,[.ref 0]⟩⟩=>
 (match s.ent 1 with
 |some (.box 26 [.val (.int .i64 y2),.ref 2])=>
 (match s.ent 0 with
 |some (.row false 129 (.pair (.int .i64) (.pair (.int .i64) (.int .i64))) y3)=>
 (match s.ent 2 with
 |some (.row false 2 (.int .i64) y4)=>
 some (y0,y1,y2,y3,y4)
 |_=>none)
 |_=>none)
 |_=>none)
 |_=>none)
 |_=>none)
 |_=>none)
 |_=>none)
def aa:Lp ao where
 h:=⟨[9,10,5,11,12,13,14,15,16,17,4,18,8],[0,1,2],[],[]⟩
 JL:=nT
 JE:=nS
 XL:=nV
 XE:=nU
 q:=fun j=>match j with | 0=> .ret | _=> .exit 0
 tags:= [0,1]
 lt:=bI
 fuel:=fun(y0,y1,y2,y3,y4)=>y0.natAbs + y1.natAbs + y2.natAbs + y3.length + y4.length
 fix:=fun(_,y1,y2,y3,y4) (y0,_,_,_,_)=>(y0,y1,y2,y3,y4)
 σ:= [(0,1),(1,0),(2,2)]
 rd:=eJ
theorem nz:LoopOk prog (fun k=>Nat.blt k Try.f177.ntmps) aa.F (dl f177 0):=by
 refine Lp.ok (tbl:= (T3z [fe])) (lf:= []) cw aa (by kernel_rfl) (LOk.nil _) (fun _=>rfl) (fun j _=>by unfold aa;match j with | 0=>rfl | _ + 1=>rfl) ?_ ?_ ?_ ?_ (fun _=>rfl) ?_
 ·rintro⟨y0,y1,y2,y3,y4⟩;kernel_rfl
 ·rintro⟨y0,y1,y2,y3,y4⟩;kernel_rfl
 ·intro s x h
  have h:eJ s=some x:=h
  unfold eJ at h
  repeat' split at h
  all_goals cases h
  constructor<;>repeat(first|refine ac (by assumption) rfl ?_|refine aq rfl (by assumption) rfl ?_|exact rfl)
 ·rintro⟨y0,y1,y2,y3,y4⟩;kernel_rfl
 ·rintro⟨y0,y1,y2,y3,y4⟩ z;exact(And.intro (And.intro trivial rfl) trivial)
section
variable (x0:List (Int×Int×Int))(x1:Int)(x2:List Int)
def cm:Int×Int×Int×List (Int×Int×Int)×List Int:=((0:Int),(↑x0.length:Int),x1,x0,x2)
def ff:Bool:=Nat.beq ((Lp.res aa (cm x0 x1 x2)).1) 0
def fu:Int:=bif ff x0 x1 x2 then ((Lp.res aa (cm x0 x1 x2)).2).1else(-1:Int)
def jH:Int:=bif ff x0 x1 x2 then x1 else x1
def fv:Bool:=allT [Lp.fin aa (cm x0 x1 x2)]
end
def jE:List SV→List Entry→Option Out
 | [.one ⟨false,[.ref 0]⟩,.one ⟨false,[.clo 169 [1]]⟩],[.row false 129 (.pair (.int .i64) (.pair (.int .i64) (.int .i64))) x0,.box 26 [.val (.int .i64 x1),.ref 2],.row false 2 (.int .i64) x2]=>some ⟨.one ⟨false,[.val (.int .i64 (fu x0 x1 x2))]⟩,[.row false 129 OZ x0,.box 26 [.val (.int .i64 (jH x0 x1 x2)),.ref 2],.row false 2 Pc x2],[],[fv x0 x1 x2]⟩
 |_,_=>none
def ft:PF prog:=PF.ofG prog (T3z [fe]) [aa.F] cw 177 f177 func177 (LOk.fnT (l:= [dl f177 0]) (by kernel_rfl) (.cons nz (.nil _))) jE (by
 intro vs es r h;unfold jE at h;split at h
 ·cases h;kernel_rfl
 ·cases h)
section
variable (x0:List (Int×Int×Int))(x1:Int)(x2:List Int)
def eS:Bool:=leI 0 (fu x0 x1 x2)
def ot:Int:=jH x0 x1 x2
def eT:Bool:=allT [fv x0 x1 x2]
end
def io:List SV→List Entry→Option Out
 | [.one ⟨false,[.ref 0]⟩,.one ⟨false,[.clo 169 [1]]⟩],[.row false 129 (.pair (.int .i64) (.pair (.int .i64) (.int .i64))) x0,.box 26 [.val (.int .i64 x1),.ref 2],.row false 2 (.int .i64) x2]=>some ⟨.one ⟨false,[.val (.bool (eS x0 x1 x2))]⟩,[.row false 129 OZ x0,.box 26 [.val (.int .i64 (ot x0 x1 x2)),.ref 2],.row false 2 Pc x2],[],[eT x0 x1 x2]⟩
 |_,_=>none
def eR:PF prog:=PF.ofG prog (T3z [ft]) [] cw 168 f168 func168 (fun c _=>LOk.nil c) io (by
 intro vs es r h;unfold io at h;split at h
 ·cases h;kernel_rfl
 ·cases h)
section
variable (x0:Int)(x1:List Int)(x2:List (Int×Int×Int))
def rl:Bool:=ltI 200 (↑x2.length:Int)
def rQ:Int:=bif !isT x0 x1 then(1:Int)else bif rl x2 then(3:Int)else bif eS x2 x0 x1 then(2:Int)else(0:Int)
def rR:Bool:=allT [!isT x0 x1||(rl x2||eT x2 x0 x1)]
end
def vG:List SV→List Entry→Option Out
 | [.one ⟨true,[.val (.int .i64 x0),.ref 0]⟩,.one ⟨false,[.ref 1]⟩],[.row false 2 (.int .i64) x1,.row false 129 (.pair (.int .i64) (.pair (.int .i64) (.int .i64))) x2]=>some ⟨.one ⟨false,[.val (.int .i64 (rQ x0 x1 x2))]⟩,[.row false 2 Pc x1,.row false 129 OZ x2],[],[rR x0 x1 x2]⟩
 |_,_=>none
def DE:PF prog:=PF.ofG prog (T3z [td,eR]) [] cw 145 f145 func145 (fun c _=>LOk.nil c) vG (by
 intro vs es r h;unfold vG at h;split at h
 ·cases h;kernel_rfl
 ·cases h)
abbrev gi:=Int×Int×List Int×List (Int×(Int×Int))
section
variable (y0 y1:Int)(y2:List Int)(y3:List (Int×(Int×Int)))
def cp:Int:=Option.getD y2[Int.toNat y0]? 0
def aG:Bool:=cp y0 y2==3
def cq:Bool:=bif cp y0 y2==1 then true else aG y0 y2
def ct:List (Int×Int×Int):= [(y0,(0:Int),(0:Int))]
def bn:Bool:=cp y0 y2==2
def aS:List (Int×Int×Int):=y3++ct y0
def bg:List (Int×Int×Int):= [(y0,(1:Int),(1:Int))]
def bK:List (Int×Int×Int):=aS y0 y3++bg y0
def ay:List (Int×Int×Int):= [(y0,(1:Int),(0:Int))]
def bL:List (Int×Int×Int):=y3++bg y0
def dM:Bool:=ltI y0 y1
def dN:Bool:=leI 0 y0
def dO:Bool:=ltI y0 (↑y2.length:Int)
def dP:Bool:=ltN y0.toNat y2.length
def dQ:Bool:= !cq y0 y2||leN (List.length y3 + List.length (ct y0)) 9223372036854775807
def dR:Bool:= !cq y0 y2||leN ((List.length y3 + List.length (ct y0)) * 24) 140737488355328
def dS:Bool:=cq y0 y2
def dU:Bool:= !bn y0 y2||leN (List.length (aS y0 y3) + List.length (bg y0)) 9223372036854775807
def dV:Bool:= !bn y0 y2||leN ((List.length (aS y0 y3) + List.length (bg y0)) * 24) 140737488355328
def cQ:Bool:=bn y0 y2
def cU:Bool:= !aG y0 y2||leN (List.length (bK y0 y3) + List.length (ay y0)) 9223372036854775807
def cV:Bool:= !aG y0 y2||leN ((List.length (bK y0 y3) + List.length (ay y0)) * 24) 140737488355328
def bJ:Bool:=aG y0 y2
def aN:Int:=IntKind.wrap .i64 (y0 + (1:Int))
def cW:List (Int×(Int×Int)):=bK y0 y3++ay y0
def cX:List (Int×(Int×Int)):=bK y0 y3
def cY:Bool:= !aG y0 y2||leN (List.length (aS y0 y3) + List.length (ay y0)) 9223372036854775807
def cZ:Bool:= !aG y0 y2||leN ((List.length (aS y0 y3) + List.length (ay y0)) * 24) 140737488355328
def da:List (Int×(Int×Int)):=aS y0 y3++ay y0
def db:List (Int×(Int×Int)):=aS y0 y3
def dc:Bool:= !bn y0 y2||leN (List.length y3 + List.length (bg y0)) 9223372036854775807
def dd:Bool:= !bn y0 y2||leN ((List.length y3 + List.length (bg y0)) * 24) 140737488355328
def de:Bool:= !aG y0 y2||leN (List.length (bL y0 y3) + List.length (ay y0)) 9223372036854775807
def df:Bool:= !aG y0 y2||leN ((List.length (bL y0 y3) + List.length (ay y0)) * 24) 140737488355328
def dg:List (Int×(Int×Int)):=bL y0 y3++ay y0
def dh:List (Int×(Int×Int)):=bL y0 y3
def di:Bool:= !aG y0 y2||leN (List.length y3 + List.length (ay y0)) 9223372036854775807
def dj:Bool:= !aG y0 y2||leN ((List.length y3 + List.length (ay y0)) * 24) 140737488355328
def dk:List (Int×(Int×Int)):=y3++ay y0
end
def AV:gi→List (Nat×SV)
 |(y0,y1,_,_)=> [(8,(.one ⟨false,[.val (.int .i64 y0)]⟩)),(7,(.one ⟨false,[.val (.int .i64 y1)]⟩)),(6,(.one ⟨false,[.ref 0]⟩)),(3,(.one ⟨false,[.ref 1]⟩))]
def AM:gi→List (Nat×Entry)
 |(_,_,y2,y3)=> [(0,(.row false 2 Pc y2)),(1,(.row true 118 OZ y3))]
def Bj:Nat→gi→List (Nat×SV)
 |_,(_,_,_,_)=> [(3,(.one ⟨false,[.ref 1]⟩))]
def Bc:Nat→gi→List (Nat×Entry)
 |_,(_,_,y2,y3)=> [(0,(.row false 2 Pc y2)),(1,(.row true 118 OZ y3))]
def dm:gi→LT gi
 |(y0,y1,y2,y3)=> .ite (dM y0 y1) (.need [dN y0,dO y0 y2,dP y0 y2] (.need [dQ y0 y2 y3,dR y0 y2 y3] (.ite (dS y0 y2) (.need [dU y0 y2 y3,dV y0 y2 y3] (.ite (cQ y0 y2) (.need [cU y0 y2 y3,cV y0 y2 y3] (.ite (bJ y0 y2) (.nrm ((aN y0),y1,y2,(cW y0 y3)) [(0,0),(1,2112)]) (.nrm ((aN y0),y1,y2,(cX y0 y3)) [(0,0),(1,1600)]))) (.need [cY y0 y2 y3,cZ y0 y2 y3] (.ite (bJ y0 y2) (.nrm ((aN y0),y1,y2,(da y0 y3)) [(0,0),(1,1728)]) (.nrm ((aN y0),y1,y2,(db y0 y3)) [(0,0),(1,1088)]))))) (.need [dc y0 y2 y3,dd y0 y2 y3] (.ite (cQ y0 y2) (.need [de y0 y2 y3,df y0 y2 y3] (.ite (bJ y0 y2) (.nrm ((aN y0),y1,y2,(dg y0 y3)) [(0,0),(1,1728)]) (.nrm ((aN y0),y1,y2,(dh y0 y3)) [(0,0),(1,1216)]))) (.need [di y0 y2 y3,dj y0 y2 y3] (.ite (bJ y0 y2) (.nrm ((aN y0),y1,y2,(dk y0 y3)) [(0,0),(1,1344)]) (.nrm ((aN y0),y1,y2,y3) [(0,0),(1,1)])))))))) (.ext 0 [(0,0),(1,1)])
def qB(s:St):Option gi:=
 (match s.look 8 with
 |some ⟨none,.one ⟨false,[.val (.int .i64 y0)]⟩⟩=>
 (match s.look 7 with
 |some ⟨none,.one ⟨false,[.val (.int .i64 y1)]⟩⟩=>
 (match s.look 6 with
 |some ⟨none,.one ⟨false,[.ref 0]⟩⟩=>
 (match s.look 3 with
 |some ⟨none,.one ⟨false,[.ref 192]⟩⟩=>
 (match s.ent 0 with
 |some (.row false 2 (.int .i64) y2)=>
 (match s.ent 192 with
 |some (.row true 118 (.pair (.int .i64) (.pair (.int .i64) (.int .i64))) y3)=>
 some (y0,y1,y2,y3)
 |_=>none)
 |_=>none)
 |_=>none)
 |_=>none)
 |_=>none)
 |_=>none)
def aJ:Lp gi where
 h:=⟨[9,10,11,12,4,5,13,14,15,16,17,18,19,20,21,22,23,3,24,25,26,27,28,29,30,31,32,33,34,35,36,37,38,8],[0],[1],[]⟩
 JL:=AV
 JE:=AM
 XL:=Bj
 XE:=Bc
 q:=fun j=>match j with | _=> .exit 0
 tags:= [0]
 lt:=dm
 fuel:=fun(y0,y1,y2,y3)=>y0.natAbs + y1.natAbs + y2.length + y3.length
 fix:=fun(_,y1,y2,_) (y0,_,_,y3)=>(y0,y1,y2,y3)
 σ:= [(0,0),(1,192)]
 rd:=qB
theorem zr:LoopOk prog (fun k=>Nat.blt k Try.f171.ntmps) aJ.F (dl f171 0):=by
 refine Lp.ok (tbl:= []) (lf:= []) cw aJ (by kernel_rfl) (LOk.nil _) (fun _=>rfl) (fun _ _=>rfl) ?_ ?_ ?_ ?_ (fun _=>rfl) ?_
 ·rintro⟨y0,y1,y2,y3⟩;kernel_rfl
 ·rintro⟨y0,y1,y2,y3⟩;kernel_rfl
 ·intro s x h
  have h:qB s=some x:=h
  unfold qB at h
  repeat' split at h
  all_goals cases h
  constructor<;>repeat(first|refine ac (by assumption) rfl ?_|refine aq rfl (by assumption) rfl ?_|exact rfl)
 ·rintro⟨y0,y1,y2,y3⟩;kernel_rfl
 ·rintro⟨y0,y1,y2,y3⟩ z;exact(And.intro (And.intro (And.intro (And.intro rfl rfl) (And.intro rfl rfl)) (And.intro (And.intro rfl rfl) (And.intro rfl rfl))) trivial)
section
variable (x0:List Int)
def sO:Int×Int×List Int×List (Int×Int×Int):=((0:Int),(↑x0.length:Int),x0,[])
def ub:List (Int×(Int×Int)):=(Lp.res aJ (sO x0)).2.2.2.2
def uc:Bool:=allT [Lp.fin aJ (sO x0)]
end
def yJ:List SV→List Entry→Option Out
 | [.one ⟨false,[.ref 0]⟩],[.row false 2 (.int .i64) x0]=>some ⟨.one ⟨false,[.ref 1]⟩,[.row false 2 Pc x0],[.row true 118 OZ (ub x0)],[uc x0]⟩
 |_,_=>none
def FA:PF prog:=PF.ofG prog [] [aJ.F] cw 171 f171 func171 (LOk.fnT (l:= [dl f171 0]) (by kernel_rfl) (.cons zr (.nil _))) yJ (by
 intro vs es r h;unfold yJ at h;split at h
 ·cases h;kernel_rfl
 ·cases h)
def xZ(n:Int)(ps:List Int)(e:Int×Int×Int):Bool:=bif e.1==0 then Cm ps e.2.1&&e.2.2==0 else bif e.1==1 then inR e.2.1 0 (n - 1)&&inR e.2.2 1 3 else false
def pQ(n:Int)(ps:List Int)(es:List (Int×Int×Int)):Int:=bif isT n ps then(bif leN es.length 200 then(bif es.all (xZ n ps)then 0 else 2)else 3)else 1
def stF(b s:Int):List (Int×Int×Int):=bif s==1 then [(b,0,0)]else bif s==2 then [(b,1,1)]else bif s==3 then [(b,0,0),(b,1,0)]else []
def flA:Int→List Int→List (Int×Int×Int)
 |_,[]=> []
 |b,s::r=>stF b s++flA (b + 1) r
def flS(sts:List Int):List (Int×Int×Int):=flA 0 sts
theorem JO(es:List (Int×Int×Int)):ltI 200 (es.length:Int)= !leN es.length 200:=by
 cases h:leN es.length 200 with
 |true=>have:=kO.1 h;exact GA (by omega)
 |false=>have:=Nz.1 h;exact jg (by omega)
theorem Mg(n k i v:Int)(ps:List Int):ky n k i v ps=(isT n ps&&xZ n ps (k,i,v)):=by
 simp only [ky,jm,Cv,xZ,Cm]
 cases hT:isT n ps with
 |false=>rfl
 |true=>
  have h1:=iZ.1 hT
  rw [cE (by omega) (by omega),cE (x:=n - 1) (by omega) (by omega)]
  cases k==0 <;> cases k==1 <;> cases inR i 0 ((ps.length:Int) - 1) <;> cases inR i 0 (n - 1) <;> rfl
theorem HN(n k i v:Int)(ps:List Int)(hT:isT n ps=true):cA n k i v ps=xZ n ps (k,i,v)∧cB k ps=true:=by
 have h1:=iZ.1 hT
 have hl:leN ps.length 9223372036854775807=true:=uv (by omega)
 refine⟨?_,by simp [cB,allT,hl]⟩
 simp only [cA,gS,Cv,xZ]
 rw [cE (x:=n - 1) (by omega) (by omega)]
 cases k==0 <;> cases k==1 <;> cases Cm ps i <;> cases inR i 0 (n - 1) <;> rfl
def kN(y2:Int)(y3:List Int)(b:Int×(Int×Int)):(Unit)→Nat ⊕ (Unit)
 |_=>(bif(!ky y2 b.1 (b.2.1) b.2.2 y3)then(.inl 0)else(.inr ()))
def il(y1:List (Int×(Int×Int)))(y2:Int)(y3:List Int)(i:Nat):(Unit)→eU
 |_=>((i:Int),y1,y2,y3)
def rt:eU→Unit
 |(_,_,_,_)=>()
theorem DT(y1:List (Int×(Int×Int)))(y2:Int)(y3:List Int) (hn:y1.length≤9223372036854775807):
  bp.fin ((0:Int),y1,y2,y3)=true∧bp.res ((0:Int),y1,y2,y3)=((aR (kN y2 y3) 1 y1 0 ()).1,(il y1 y2 y3) (aR (kN y2 y3) 1 y1 0 ()).2.1 (aR (kN y2 y3) 1 y1 0 ()).2.2):=by
 have jb:=bp.along (il y1 y2 y3) rt (kN y2 y3) 1 (fun _ _=>True) y1 () (by trivial) (by simp only [bp,il];omega) (fun i b a hb hI=> ?_) (fun a hI=> ?_)
 ·exact jb
 ·obtain⟨⟩:=a
  have dE:=(List.getElem?_eq_some_iff.1 hb).1
  have gx: ∀ d,Option.getD y1[i]? d=b:=fun d=>by rw [hb];rfl
  have hw:=tA dE hn
  have gh:ltI (i:Int) (y1.length:Int)=true:=jg (by omega)
  have sx:leI (0:Int) (i:Int)=true:=gt (by omega)
  have lh:ltN i y1.length=true:=lm dE
  refine⟨?_,?_,?_,?_⟩
  ·simp [ik,kT,nE,nF,nG,nH,mK,bp,LT.nds,allT,il,gh,sx,lh,gx]
  ·simp [ik,kT,nE,nF,nG,nH,mK,bp,LT.each,il,rt,hw]
  ·simp only [ik,kT,nE,nF,nG,nH,mK,bp,LT.fn,il,rt,kN,Int.toNat_natCast,gh,sx,lh,gx,cond_true,Bool.cond_self]
  ·exact fun _ _=>trivial
 ·obtain⟨⟩:=a
  simp [ik,kT,nE,nF,nG,nH,mK,bp,LT.out,il]
def be(y2:Int)(y4:List Int)(b:Int×(Int×Int)):(Unit)→Nat ⊕ (Unit)
 |_=>(bif(jJ b.1 (b.2.1) b.2.2 y2 y4)then(.inl 0)else(.inr ()))
def az(y2:Int)(y3:List (Int×(Int×Int)))(y4:List Int)(i:Nat):(Unit)→ao
 |_=>((i:Int),(↑y3.length:Int),y2,y3,y4)
def eI:ao→Unit
 |(_,_,_,_,_)=>()
theorem oz(y2:Int)(y3:List (Int×(Int×Int)))(y4:List Int) (hn:y3.length≤9223372036854775807) (hT:isT y2 y4=true):
  aa.fin ((0:Int),(↑y3.length:Int),y2,y3,y4)=true∧aa.res ((0:Int),(↑y3.length:Int),y2,y3,y4)=((aR (be y2 y4) 1 y3 0 ()).1,(az y2 y3 y4) (aR (be y2 y4) 1 y3 0 ()).2.1 (aR (be y2 y4) 1 y3 0 ()).2.2):=by
 have jb:=aa.along (az y2 y3 y4) eI (be y2 y4) 1 (fun _ _=>True) y3 () (by trivial) (by simp only [aa,az];omega) (fun i b a hb hI=> ?_) (fun a hI=> ?_)
 ·exact jb
 ·obtain⟨⟩:=a
  have dE:=(List.getElem?_eq_some_iff.1 hb).1
  have gx: ∀ d,Option.getD y3[i]? d=b:=fun d=>by rw [hb];rfl
  have hw:=tA dE hn
  have gh:ltI (i:Int) (y3.length:Int)=true:=jg (by omega)
  have sx:leI (0:Int) (i:Int)=true:=gt (by omega)
  have lh:ltN i y3.length=true:=lm dE
  refine⟨?_,?_,?_,?_⟩
  ·have hg2:aw (i:Int) y3=b:=by simp only [aw,Int.toNat_natCast];exact gx _
   have h5:=(HN y2 b.1 b.2.1 b.2.2 y4 hT).2
   simp [bR,bS,bT,bU,bV,bI,aa,LT.nds,allT,az,nc,hg2,gh,sx,lh,h5]
  ·simp [aw,bR,bS,bT,bU,bV,cN,cO,bI,aa,LT.each,az,eI,hw]
  ·simp only [aw,bR,bS,bT,bU,bV,cN,cO,bI,aa,LT.fn,az,eI,be,Int.toNat_natCast,gh,sx,lh,gx,cond_true,Bool.cond_self]
  ·exact fun _ _=>trivial
 ·obtain⟨⟩:=a
  simp [aw,bR,bS,bT,bU,bV,cN,cO,bI,aa,LT.out,az]
theorem Kh(n:Int)(ps:List Int)(es:List (Int×Int×Int)):vk n ps es=pQ n ps es∧vl n ps es=true:=by
 simp only [vk,vl,um,JO,pQ]
 cases hT:isT n ps with
 |false=>simp [allT]
 |true=>
  cases hl:leN es.length 200 with
  |false=>simp [allT]
  |true=>
   have hl':=kO.1 hl
   obtain⟨w1,w2⟩:=DT es n ps (by omega)
   rw [rJ (P:=fun e=> !xZ n ps e) (j:=0) (fun e=>by simp only [kN,Mg,hT,Bool.true_and])]at w2
   have e5:(es.any fun e=> !xZ n ps e)= !es.all (xZ n ps):=by simp [List.all_eq_not_any_not]
   rw [e5]at w2
   have e1:Lp.fin bp (rc n ps es)=true:=w1
   have e2:bp.res (rc n ps es)=_:=w2
   rw [e2,e1]
   cases es.all (xZ n ps) <;> simp [allT,Nat.beq]
theorem JG(n:Int)(ps:List Int)(es:List (Int×Int×Int)):rQ n ps es=pQ n ps es∧rR n ps es=true:=by
 simp only [rQ,rR,rl,JO,pQ]
 cases hT:isT n ps with
 |false=>simp [allT]
 |true=>
  cases hl:leN es.length 200 with
  |false=>simp [allT]
  |true=>
   have hl':=kO.1 hl
   obtain⟨w1,w2⟩:=oz n es ps (by omega) hT
   rw [rJ (P:=fun e=> !xZ n ps e) (j:=0) (fun e=>by simp only [be,jJ,(HN n e.1 e.2.1 e.2.2 ps hT).1])]at w2
   have e5:(es.any fun e=> !xZ n ps e)= !es.all (xZ n ps):=by simp [List.all_eq_not_any_not]
   rw [e5]at w2
   have e1:Lp.fin aa (cm es n ps)=true:=w1
   have e2:aa.res (cm es n ps)=_:=w2
   simp only [eS,eT,fu,fv,ff,e2,e1,az]
   cases es.all (xZ n ps)with
   |true=>
    have q:leI 0 (-1)=false:=rfl
    simp [allT,Nat.beq,q]
   |false=>
    simp only [Bool.not_false,cond_true,Nat.beq,allT]
    rw [gt (by omega)];simp
def zN:List SV→List Entry→Option Out
 | [.one ⟨true,[.val (.int .i64 x0),.ref 0]⟩,.one ⟨false,[.ref 1]⟩],[.row false 2 (.int .i64) x1,.row false 129 (.pair (.int .i64) (.pair (.int .i64) (.int .i64))) x2]=>some ⟨.one ⟨false,[.val (.int .i64 (pQ x0 x1 x2))]⟩,[.row false 2 Pc x1,.row false 129 OZ x2],[],[]⟩
 |_,_=>none
def om:PF prog:=PF.alt GR zN (by
 intro args es o h bf;unfold zN at h;split at h
 ·rename_i x0 x1 x2
  cases h
  have hh:=Kh x0 x1 x2
  obtain⟨e0,en⟩:=hh
  exact jG rfl (fX en) (by simp only [e0] <;> rfl) rfl rfl
 ·cases h)
def vM:List SV→List Entry→Option Out
 | [.one ⟨true,[.val (.int .i64 x0),.ref 0]⟩,.one ⟨false,[.ref 1]⟩],[.row false 2 (.int .i64) x1,.row false 129 (.pair (.int .i64) (.pair (.int .i64) (.int .i64))) x2]=>some ⟨.one ⟨false,[.val (.int .i64 (pQ x0 x1 x2))]⟩,[.row false 2 Pc x1,.row false 129 OZ x2],[],[]⟩
 |_,_=>none
def dK:PF prog:=PF.alt DE vM (by
 intro args es o h bf;unfold vM at h;split at h
 ·rename_i x0 x1 x2
  cases h
  have hh:=JG x0 x1 x2
  obtain⟨e0,en⟩:=hh
  exact jG rfl (fX en) (by simp only [e0] <;> rfl) rfl rfl
 ·cases h)
theorem CI(b s:Int):(stF b s).length≤2:=by
 unfold stF;cases s==1 <;> cases s==2 <;> cases s==3 <;> simp
def fFl(s:Int)(a:Int×List (Int×Int×Int)):Nat ⊕ (Int×List (Int×Int×Int)):= .inr (a.1 + 1,a.2++stF a.1 s)
theorem IB: ∀ (r:List Int) (a:Int×List (Int×Int×Int)),r.foldl (fun a s=>(a.1 + 1,a.2++stF a.1 s)) a=(a.1 + r.length,a.2++flA a.1 r)
 | [],a=>by simp [flA]
 |s::r,a=>by
  rw [List.foldl_cons,IB r]
  simp only [flA,List.length_cons,List.append_assoc,Prod.mk.injEq,and_true]
  omega
theorem EP(b s:Int):tu b s=stF b s:=rfl
theorem Nl(sts:List Int)(hl:sts.length≤1000):bQ.fin ((0:Int),sts,[])=true∧bQ.res ((0:Int),sts,[])=(0,((sts.length:Nat):Int),sts,flS sts):=by
 have jb:=bQ.along (fun i a=>((i:Int),sts,a.2)) (fun x=>(x.1,x.2.2)) fFl 0 (fun i a=>a.1=(i:Int)∧a.2.length≤2 * i) sts ((0:Int),[]) ⟨rfl,by simp⟩ (by simp only [bQ];omega) (fun i s a hb hI=> ?_) (fun a hI=> ?_)
 ·rw [lP (f:=fFl) (g:=fun a s=>(a.1 + 1,a.2++stF a.1 s)) (fun b a=>rfl),IB]at jb
  simpa [flS] using jb
 ·obtain⟨j,acc⟩:=a
  obtain⟨rfl,hA⟩:=hI
  simp only at hA
  have dE:=(List.getElem?_eq_some_iff.1 hb).1
  have gx: ∀ d,Option.getD sts[i]? d=s:=fun d=>by rw [hb];rfl
  have hw:=tA dE (by omega)
  have gh:ltI (i:Int) (sts.length:Int)=true:=jg (by omega)
  have sx:leI (0:Int) (i:Int)=true:=gt (by omega)
  have lh:ltN i sts.length=true:=lm dE
  have h2:=CI (i:Int) s
  have h3:leN (acc.length + (stF (i:Int) s).length) 9223372036854775807=true:=uv (by omega)
  have h4:leN ((acc.length + (stF (i:Int) s).length) * 24) 140737488355328=true:=uv (by omega)
  refine⟨?_,?_,?_,?_⟩
  ·simp only [gv,jA,lz,lA,lB,lC,lD,lE,kx,bQ,LT.nds,allT,gh,sx,lh,Int.toNat_natCast,gx,EP,h3,h4,cond_true,Bool.cond_self]
  ·simp only [gv,jA,lz,lA,lB,lC,lD,lE,kx,bQ,LT.each,gh,hw,Int.toNat_natCast,gx,EP,cond_true,and_self]
  ·simp only [gv,jA,lz,lA,lB,lC,lD,lE,kx,bQ,LT.fn,gh,hw,Int.toNat_natCast,gx,EP,cond_true,fFl];try rfl
  ·intro a' hf
   simp only [fFl,Sum.inr.injEq]at hf
   subst hf
   refine⟨by simp,?_⟩
   simp only [List.length_append];omega
 ·obtain⟨j,acc⟩:=a
  simp [gv,jA,lz,lA,lB,lC,lD,lE,kx,bQ,LT.out]
theorem Nj(sts:List Int)(hl:sts.length≤1000):aJ.fin ((0:Int),(sts.length:Int),sts,[])=true∧aJ.res ((0:Int),(sts.length:Int),sts,[])=(0,((sts.length:Nat):Int),(sts.length:Int),sts,flS sts):=by
 have jb:=aJ.along (fun i a=>((i:Int),(sts.length:Int),sts,a.2)) (fun x=>(x.1,x.2.2.2)) fFl 0 (fun i a=>a.1=(i:Int)∧a.2.length≤2 * i) sts ((0:Int),[]) ⟨rfl,by simp⟩ (by simp only [aJ];omega) (fun i s a hb hI=> ?_) (fun a hI=> ?_)
 ·rw [lP (f:=fFl) (g:=fun a s=>(a.1 + 1,a.2++stF a.1 s)) (fun b a=>rfl),IB]at jb
  simpa [flS] using jb
 ·obtain⟨j,acc⟩:=a
  obtain⟨rfl,hA⟩:=hI
  simp only at hA
  have dE:=(List.getElem?_eq_some_iff.1 hb).1
  have gx: ∀ d,Option.getD sts[i]? d=s:=fun d=>by rw [hb];rfl
  have hw:=tA dE (by omega)
  have gh:ltI (i:Int) (sts.length:Int)=true:=jg (by omega)
  have sx:leI (0:Int) (i:Int)=true:=gt (by omega)
  have lh:ltN i sts.length=true:=lm dE
  have hA':acc.length≤2000:=by omega
  have hs:s=1∨s=2∨s=3∨((s==1)=false∧(s==2)=false∧(s==3)=false):=by simp;omega
  refine⟨?_,?_,?_,?_⟩
  ·rcases hs with rfl | rfl | rfl | ⟨h1,h2,h3⟩
   ·simp [cp,aG,cq,ct,bn,aS,bg,bK,ay,bL,dM,dN,dO,dP,dQ,dR,dS,dU,dV,cQ,cU,cV,bJ,aN,cW,cX,cY,cZ,da,db,dc,dd,de,df,dg,dh,di,dj,dk,dm,aJ,LT.nds,allT,gh,sx,lh,gx];omega
   ·simp [cp,aG,cq,ct,bn,aS,bg,bK,ay,bL,dM,dN,dO,dP,dQ,dR,dS,dU,dV,cQ,cU,cV,bJ,aN,cW,cX,cY,cZ,da,db,dc,dd,de,df,dg,dh,di,dj,dk,dm,aJ,LT.nds,allT,gh,sx,lh,gx];omega
   ·simp [cp,aG,cq,ct,bn,aS,bg,bK,ay,bL,dM,dN,dO,dP,dQ,dR,dS,dU,dV,cQ,cU,cV,bJ,aN,cW,cX,cY,cZ,da,db,dc,dd,de,df,dg,dh,di,dj,dk,dm,aJ,LT.nds,allT,gh,sx,lh,gx];omega
   ·simp [cp,aG,cq,ct,bn,aS,bg,bK,ay,bL,dM,dN,dO,dP,dQ,dR,dS,dU,dV,cQ,cU,cV,bJ,aN,cW,cX,cY,cZ,da,db,dc,dd,de,df,dg,dh,di,dj,dk,dm,aJ,LT.nds,allT,gh,sx,lh,gx,h1,h2,h3]
  ·simp [cp,aG,cq,ct,bn,aS,bg,bK,ay,bL,dM,dN,dO,dP,dQ,dR,dS,dU,dV,cQ,cU,cV,bJ,aN,cW,cX,cY,cZ,da,db,dc,dd,de,df,dg,dh,di,dj,dk,dm,aJ,LT.each,hw]
  ·rcases hs with rfl | rfl | rfl | ⟨h1,h2,h3⟩
   ·simp [cp,aG,cq,ct,bn,aS,bg,bK,ay,bL,dM,dN,dO,dP,dQ,dR,dS,dU,dV,cQ,cU,cV,bJ,aN,cW,cX,cY,cZ,da,db,dc,dd,de,df,dg,dh,di,dj,dk,dm,aJ,LT.fn,gh,hw,gx,fFl,stF]
   ·simp [cp,aG,cq,ct,bn,aS,bg,bK,ay,bL,dM,dN,dO,dP,dQ,dR,dS,dU,dV,cQ,cU,cV,bJ,aN,cW,cX,cY,cZ,da,db,dc,dd,de,df,dg,dh,di,dj,dk,dm,aJ,LT.fn,gh,hw,gx,fFl,stF]
   ·simp [cp,aG,cq,ct,bn,aS,bg,bK,ay,bL,dM,dN,dO,dP,dQ,dR,dS,dU,dV,cQ,cU,cV,bJ,aN,cW,cX,cY,cZ,da,db,dc,dd,de,df,dg,dh,di,dj,dk,dm,aJ,LT.fn,gh,hw,gx,fFl,stF]
   ·simp [cp,aG,cq,ct,bn,aS,bg,bK,ay,bL,dM,dN,dO,dP,dQ,dR,dS,dU,dV,cQ,cU,cV,bJ,aN,cW,cX,cY,cZ,da,db,dc,dd,de,df,dg,dh,di,dj,dk,dm,aJ,LT.fn,gh,hw,gx,fFl,stF,h1,h2,h3]
  ·intro a' hf
   simp only [fFl,Sum.inr.injEq]at hf
   subst hf
   have h2:=CI (i:Int) s
   refine⟨by simp,?_⟩
   simp only [List.length_append];omega
 ·obtain⟨j,acc⟩:=a
  simp [cp,aG,cq,ct,bn,aS,bg,bK,ay,bL,dM,dN,dO,dP,dQ,dR,dS,dU,dV,cQ,cU,cV,bJ,aN,cW,cX,cY,cZ,da,db,dc,dd,de,df,dg,dh,di,dj,dk,dm,aJ,LT.out]
theorem Mh(sts:List Int)(h:leN sts.length 1000=true):tv sts=flS sts∧tw sts=true:=by
 obtain⟨w1,w2⟩:=Nl sts (kO.1 h)
 simp only [tv,tw,sm,w1,w2,allT,cond_true,and_self]
theorem LS(sts:List Int)(h:leN sts.length 1000=true):ub sts=flS sts∧uc sts=true:=by
 obtain⟨w1,w2⟩:=Nj sts (kO.1 h)
 simp only [ub,uc,sO,w1,w2,allT,cond_true,and_self]
def xa:List SV→List Entry→Option Out
 | [.one ⟨false,[.ref 0]⟩],[.row false 2 (.int .i64) x0]=>some ⟨.one ⟨false,[.ref 1]⟩,[.row false 2 Pc x0],[.row true 118 OZ (flS x0)],[leN x0.length 1000]⟩
 |_,_=>none
def lT:PF prog:=PF.alt EF xa (by
 intro args es o h bf;unfold xa at h;split at h
 ·rename_i x0
  cases h
  have bf:=jj bf
  have hh:=Mh x0 bf
  obtain⟨e0,en⟩:=hh
  exact jG rfl (fX en) rfl rfl (by simp only [e0] <;> rfl)
 ·cases h)
def yQ:List SV→List Entry→Option Out
 | [.one ⟨false,[.ref 0]⟩],[.row false 2 (.int .i64) x0]=>some ⟨.one ⟨false,[.ref 1]⟩,[.row false 2 Pc x0],[.row true 118 OZ (flS x0)],[leN x0.length 1000]⟩
 |_,_=>none
def nn:PF prog:=PF.alt FA yQ (by
 intro args es o h bf;unfold yQ at h;split at h
 ·rename_i x0
  cases h
  have bf:=jj bf
  have hh:=LS x0 bf
  obtain⟨e0,en⟩:=hh
  exact jG rfl (fX en) rfl rfl (by simp only [e0] <;> rfl)
 ·cases h)
theorem MI(n:Int): ∀ (sts:List Int) (b:Int),0≤b→b + sts.length≤n→(flA b sts).length≤2 * sts.length∧ ∀ f∈flA b sts,fV n f=true
 | [],b,_,_=>by simp [flA]
 |s::r,b,h0,h1=>by
  simp only [List.length_cons]at h1
  obtain⟨a1,a2⟩:=MI n r (b + 1) (by omega) (by omega)
  have h2:=CI b s
  refine⟨by simp only [flA,List.length_append,List.length_cons];omega,fun f hf=> ?_⟩
  simp only [flA,List.mem_append]at hf
  rcases hf with hf | hf
  ·have hb0:leI 0 b=true:=gt h0
   have hb1:ltI b n=true:=jg (by omega)
   simp only [stF]at hf
   have q:inR 0 0 1=true:=by decide
   have q1:inR 1 0 1=true:=by decide
   cases h1:s==1 <;> cases h2:s==2 <;> cases h3:s==3 <;> rw [h1]at hf <;> (try rw [h2]at hf) <;> (try rw [h3]at hf) <;> simp at hf <;> (try rcases hf with rfl | rfl) <;> simp [fV,hb0,hb1,q,q1]
  ·exact a2 f hf
theorem MJ{n:Int}{sts:List Int}(hn:n≤8)(h:(sts.length:Int)≤n):Bu n (flS sts)=true:=by
 obtain⟨a1,a2⟩:=MI n sts 0 (by omega) (by omega)
 simp only [Bu,Bool.and_eq_true,kO,List.all_eq_true]
 exact⟨by show (flA 0 sts).length≤1000;omega,a2⟩
abbrev iq:=Int×Int×List (Int×(Int×Int))×Int×List Int×Int×List Int×List Int
section
variable (y0 y1:Int)(y2:List (Int×(Int×Int)))(y3:Int)(y4 y6:List Int)
def bv:List Int:=bif ltI y1 0&&true then y6 else y6
def ba:Int×Int×Int:=Option.getD y2[Int.toNat y0]? ((0:Int),(0:Int),(0:Int))
def eu:Bool:=(ba y0 y2).1==1
def jr:Bool:=leI 0 (((ba y0 y2).2).1)
def jt:Bool:=ltI (((ba y0 y2).2).1) (↑y4.length:Int)
def ju:Bool:=ltN (Int.toNat (((ba y0 y2).2).1)) y4.length
def iO:Bool:=leI y0 (↑y2.length:Int)
def iP:Bool:=y0==(↑y2.length:Int)
def eq:Int:=bif bif ltI y1 0 then !MP y3 y6 else false then y0 else y1
def dI:List Int:=bv y1 y6
def lU:Bool:=leI 0 y0
def lV:Bool:=ltI y0 (↑y2.length:Int)
def lW:Bool:=ltN y0.toNat y2.length
def lX:Bool:= !eu y0 y2||jr y0 y2
def lY:Bool:= !eu y0 y2||jt y0 y2 y4
def lZ:Bool:= !eu y0 y2||ju y0 y2 y4
def gO:Bool:=eu y0 y2
def jn:Bool:=Option.getD y4[Int.toNat (((ba y0 y2).2).1)]? 0!=bif (ba y0 y2).2.2==3 then(1:Int)else(0:Int)
def kU:Bool:=jr y0 y2
def kV:Bool:=jt y0 y2 y4
def kW:Bool:=ju y0 y2 y4
def fR:Int:=IntKind.wrap .i64 (y0 + (1:Int))
def jo:List Int:=List.set y4 (Int.toNat (((ba y0 y2).2).1)) ((ba y0 y2).2.2)
def kX:Bool:=leN y4.length (1000:Nat)
def kY:Bool:=isT y3 (bv y1 y6)&&Bu y3 (flS y4)
def kZ:Bool:=vh y3 (bv y1 y6) (kM y3 (bv y1 y6) (flS y4) 0) (kM y3 (bv y1 y6) (flS y4) 1) (((ba y0 y2).2).1)
def jp:Bool:= !yX y3 (bv y1 y6) (kM y3 (bv y1 y6) (flS y4) 0) (kM y3 (bv y1 y6) (flS y4) 1) (((ba y0 y2).2).1)
def lc:Bool:=Aj y3 (bv y1 y6) (((ba y0 y2).2).1)
def jq:List Int:=DA y3 (bv y1 y6) (((ba y0 y2).2).1)
end
def CW:iq→List (Nat×SV)
 |(y0,y1,_,_,_,_,_,_)=> [(12,(.one ⟨false,[.val (.int .i64 y0)]⟩)),(1,(.one ⟨false,[.ref 0]⟩)),(11,(.one ⟨false,[.val (.int .i64 y1)]⟩)),(9,(.one ⟨false,[.ptr 1 0]⟩)),(10,(.one ⟨false,[.ref 2]⟩)),(4,(.one ⟨false,[.ptr 3 0]⟩))]
def CU:iq→List (Nat×Entry)
 |(_,_,y2,y3,y4,y5,y6,y7)=> [(0,(.row false 129 OZ y2)),(1,(.box 26 [.val (.int .i64 y3),.ref 4])),(2,(.row true 2 Pc y4)),(3,(.box 26 [.val (.int .i64 y5),.ref 5])),(5,(.row true 2 Pc y7)),(4,(.row true 2 Pc y6))]
def Da:Nat→iq→List (Nat×SV)
 |0,(y0,y1,_,y3,_,_,y6,_)=> [(11,(.one ⟨false,[.val (.int .i64 (eq y0 y1 y3 y6))]⟩))]
 |1,(_,_,_,_,_,_,_,_)=> [(5,(.one ⟨false,[.ref 6]⟩)),(6,(.one ⟨false,[.val (.int .i64 0)]⟩)),(7,(.one ⟨false,[.val (.int .i64 5)]⟩))]
 |2,(_,_,_,_,_,_,_,_)=> [(5,(.one ⟨false,[.ref 6]⟩)),(6,(.one ⟨false,[.val (.int .i64 0)]⟩)),(7,(.one ⟨false,[.val (.int .i64 5)]⟩))]
 |_,(_,y1,_,_,_,_,_,_)=> [(11,(.one ⟨false,[.val (.int .i64 y1)]⟩))]
def CY:Nat→iq→List (Nat×Entry)
 |0,(_,y1,y2,y3,y4,y5,y6,y7)=> [(0,(.row false 129 OZ y2)),(1,(.box 26 [.val (.int .i64 y3),.ref 4])),(2,(.row true 2 Pc y4)),(3,(.box 26 [.val (.int .i64 y5),.ref 5])),(4,(.row true 2 Pc (dI y1 y6))),(5,(.row true 2 Pc y7))]
 |1,(_,y1,y2,y3,y4,_,y6,y7)=> [(0,(.row false 129 OZ y2)),(1,(.box 26 [.val (.int .i64 y3),.ref 4])),(2,(.row true 2 Pc y4)),(3,(.box 26 [.val (.int .i64 0),.ref 7])),(4,(.row true 2 Pc (dI y1 y6))),(5,(.row true 2 Pc y7)),(6,(.row true 2 Pc [])),(7,(.row true 2 Pc []))]
 |2,(_,y1,y2,y3,y4,_,y6,y7)=> [(0,(.row false 129 OZ y2)),(1,(.box 26 [.val (.int .i64 y3),.ref 4])),(2,(.row true 2 Pc y4)),(3,(.box 26 [.val (.int .i64 0),.ref 7])),(4,(.row true 2 Pc (dI y1 y6))),(5,(.row true 2 Pc y7)),(6,(.row true 2 Pc [])),(7,(.row true 2 Pc []))]
 |_,(_,_,y2,y3,y4,y5,y6,y7)=> [(0,(.row false 129 OZ y2)),(1,(.box 26 [.val (.int .i64 y3),.ref 4])),(2,(.row true 2 Pc y4)),(3,(.box 26 [.val (.int .i64 y5),.ref 5])),(4,(.row true 2 Pc y6)),(5,(.row true 2 Pc y7))]
def gM:iq→LT iq
 |(y0,y1,y2,y3,y4,y5,y6,y7)=> .ite (iO y0 y2) (.ite (iP y0 y2) (.ext 0 [(0,0),(1,1),(2,2),(3,3),(4,4),(5,5)]) (.need [lU y0,lV y0 y2,lW y0 y2] (.need [lX y0 y2,lY y0 y2 y4,lZ y0 y2 y4] (.ite (gO y0 y2) (.ite (jn y0 y2 y4) (.ext 1 [(0,0),(1,1),(2,2),(3,3),(4,4),(5,5),(6,2624),(7,2496)]) (.need [kU y0 y2,kV y0 y2 y4,kW y0 y2 y4] (.nrm ((fR y0),eq y0 y1 y3 y6,y2,y3,jo y0 y2 y4,y5,dI y1 y6,y7) [(0,0),(1,1),(2,2),(3,3),(4,4),(5,5)]))) (.need [kX y4,kY y1 y3 y4 y6,kZ y0 y1 y2 y3 y4 y6] (.ite (jp y0 y1 y2 y3 y4 y6) (.ext 2 [(0,0),(1,1),(2,2),(3,3),(4,4),(5,5),(6,2432),(7,2304)]) (.need [lc y0 y1 y2 y3 y6] (.nrm ((fR y0),eq y0 y1 y3 y6,y2,y3,y4,y5,jq y0 y1 y2 y3 y6,y7) [(0,0),(1,1),(2,2),(3,3),(4,2496),(5,5)])))))))) (.ext 3 [(0,0),(1,1),(2,2),(3,3),(4,4),(5,5)])
def sa(s:St):Option iq:=
 (match s.look 12 with
 |some ⟨none,.one ⟨false,[.val (.int .i64 y0)]⟩⟩=>
 (match s.look 1 with
 |some ⟨none,.one ⟨false,[.ref 1]⟩⟩=>
 (match s.look 11 with
 |some ⟨none,.one ⟨false,[.val (.int .i64 y1)]⟩⟩=>
 (match s.look 9 with
 |some ⟨none,.one ⟨false,[.ptr 1280 0]⟩⟩=>
 (match s.look 10 with
 |some ⟨none,.one ⟨false,[.ref 1536]⟩⟩=>
 (match s.look 4 with
 |some ⟨none,.one ⟨false,[.ptr 256 0]⟩⟩=>
 (match s.ent 1 with
 |some (.row false 129 (.pair (.int .i64) (.pair (.int .i64) (.int .i64))) y2)=>
 (match s.ent 1280 with
 |some (.box 26 [.val (.int .i64 y3),.ref 1152])=>
 (match s.ent 1536 with
 |some (.row true 2 (.int .i64) y4)=>
 (match s.ent 256 with
 |some (.box 26 [.val (.int .i64 y5),.ref 257])=>
 (match s.ent 257 with
 |some (.row true 2 (.int .i64) y7)=>
 (match s.ent 1152 with
 |some (.row true 2 (.int .i64) y6)=>
 some (y0,y1,y2,y3,y4,y5,y6,y7)
 |_=>none)
 |_=>none)
 |_=>none)
 |_=>none)
 |_=>none)
 |_=>none)
 |_=>none)
 |_=>none)
 |_=>none)
 |_=>none)
 |_=>none)
 |_=>none)
def aF:Lp iq where
 h:=⟨[31,32,33,34,37,38,39,40,41,42,43,44,11,45,46,47,48,49,50,51,52,13,53,54,55,14,56,57,58,59,60,61,62,63,64,65,66,5,6,7,67,68,69,70,71,72,73,74,75,76,77,78,79,80,81,82,83,84,85,86,35,36,12],[0,1,2,3,5],[4],[6,7]⟩
 JL:=CW
 JE:=CU
 XL:=Da
 XE:=CY
 q:=fun j=>match j with | 0=> .exit 0 | 1=> .ret | 2=> .ret | _=> .exit 0
 tags:= [0,1,2,3]
 lt:=gM
 fuel:=fun(y0,y1,y2,y3,y4,y5,y6,y7)=>y0.natAbs + y1.natAbs + y2.length + y3.natAbs + y4.length + y5.natAbs + y6.length + y7.length
 fix:=fun(_,_,y2,y3,_,y5,_,y7) (y0,y1,_,_,y4,_,y6,_)=>(y0,y1,y2,y3,y4,y5,y6,y7)
 σ:= [(0,1),(1,1280),(2,1536),(3,256),(5,257),(4,1152)]
 rd:=sa
theorem Bw:LoopOk prog (fun k=>Nat.blt k Try.f110.ntmps) aF.F (dl f110 0):=by
 refine Lp.ok (tbl:= (T3z [kS,lS,om,lT,iD,ol,kh])) (lf:= []) cw aF (by kernel_rfl) (LOk.nil _) (fun _=>rfl) (fun j _=>by unfold aF;match j with | 0=>rfl | 1=>rfl | 2=>rfl | _ + 3=>rfl) ?_ ?_ ?_ ?_ (fun _=>rfl) ?_
 ·rintro⟨y0,y1,y2,y3,y4,y5,y6,y7⟩;kernel_rfl
 ·rintro⟨y0,y1,y2,y3,y4,y5,y6,y7⟩;kernel_rfl
 ·intro s x h
  have h:sa s=some x:=h
  unfold sa at h
  repeat' split at h
  all_goals cases h
  constructor<;>repeat(first|refine ac (by assumption) rfl ?_|refine aq rfl (by assumption) rfl ?_|exact rfl)
 ·rintro⟨y0,y1,y2,y3,y4,y5,y6,y7⟩;kernel_rfl
 ·rintro⟨y0,y1,y2,y3,y4,y5,y6,y7⟩ z;exact(And.intro (And.intro trivial (And.intro (And.intro trivial rfl) (And.intro trivial rfl))) trivial)
section
variable (x0:Int)(x1:List Int)(x2:List (Int×Int×Int))
def fw:Bool:=pQ x0 x1 x2 !=0
def kL:Int×Int×List (Int×Int×Int)×Int×List Int×Int×List Int×List Int:=((0:Int),(-1:Int),x2,x0,List.replicate x0.toNat (0:Int),(0:Int),x1,[])
def ow:Bool:=Nat.beq ((Lp.res aF (kL x0 x1 x2)).1) 0
def ox:Bool:=Nat.beq ((Lp.res aF (kL x0 x1 x2)).1) 1
def oy:Bool:=Nat.beq ((Lp.res aF (kL x0 x1 x2)).1) 2
def vm:Int×List (Int×Int×Int)×Int×List Int×Int×List Int×List Int:=(Lp.res aF (kL x0 x1 x2)).2.2
def sn:Int:=(vm x0 x1 x2).1
def vn:List Int×Int×List Int×List Int:=(vm x0 x1 x2).2.2.2
def sq:List Int:=((vn x0 x1 x2).2.2).1
def vo:List Int:=(vn x0 x1 x2).1
def wy:Int:=bif fw x0 x1 x2 then(0:Int)else bif ow x0 x1 x2 then x0 else bif ox x0 x1 x2 then(0:Int)else bif oy x0 x1 x2 then(0:Int)else x0
def wz:Int:=bif fw x0 x1 x2 then(0:Int)else bif ow x0 x1 x2 then eq (((Lp.res aF (kL x0 x1 x2)).2).1) (sn x0 x1 x2) x0 (sq x0 x1 x2)else bif ox x0 x1 x2 then(0:Int)else bif oy x0 x1 x2 then(0:Int)else sn x0 x1 x2
def wA:Int:=bif fw x0 x1 x2 then pQ x0 x1 x2 else bif ow x0 x1 x2 then(0:Int)else bif ox x0 x1 x2 then(5:Int)else bif oy x0 x1 x2 then(5:Int)else(0:Int)
def wB:List Int:=bif fw x0 x1 x2 then []else bif ow x0 x1 x2 then dI (sn x0 x1 x2) (sq x0 x1 x2)else bif ox x0 x1 x2 then []else bif oy x0 x1 x2 then []else sq x0 x1 x2
def wC:List Int:=bif fw x0 x1 x2 then []else bif ow x0 x1 x2 then vo x0 x1 x2 else bif ox x0 x1 x2 then []else bif oy x0 x1 x2 then []else vo x0 x1 x2
def wD:Bool:=allT [fw x0 x1 x2||leN x1.length (1048576:Nat),fw x0 x1 x2||leI 0 x0,fw x0 x1 x2||leI x0 x0,fw x0 x1 x2||leI ((↑(8:Nat):Int) * x0) 281474976710656,fw x0 x1 x2||leI x0 9223372036854775807,fw x0 x1 x2||Lp.fin aF (kL x0 x1 x2)]
end
def BG:List SV→List Entry→Option Out
 | [.one ⟨true,[.val (.int .i64 x0),.ref 0]⟩,.one ⟨false,[.ref 1]⟩],[.row false 2 (.int .i64) x1,.row false 129 (.pair (.int .i64) (.pair (.int .i64) (.int .i64))) x2]=>some ⟨.tup [⟨true,[.val (.int .i64 (wy x0 x1 x2)),.ref 2]⟩,⟨false,[.ref 3]⟩,⟨false,[.val (.int .i64 (wz x0 x1 x2))]⟩,⟨false,[.val (.int .i64 (wA x0 x1 x2))]⟩],[.row false 2 Pc x1,.row false 129 OZ x2],[.row true 2 Pc (wB x0 x1 x2),.row true 2 Pc (wC x0 x1 x2)],[wD x0 x1 x2]⟩
 |_,_=>none
def Ht:PF prog:=PF.ofG prog (T3z [kS,lS,om,lT,iD,ol,kh]) [aF.F] cw 110 f110 func110 (LOk.fnT (l:= [dl f110 0]) (by kernel_rfl) (.cons Bw (.nil _))) BG (by
 intro vs es r h;unfold BG at h;split at h
 ·cases h;kernel_rfl
 ·cases h)
section
variable (x0 x1 x2 x3:Int)(x4 x5:List Int)
def mc:Bool:= !yX x3 x5 (kM x3 x5 (flS x4) 0) (kM x3 x5 (flS x4) 1) x1
def ig:Bool:=Option.getD x4[Int.toNat x1]? 0!=bif x2==3 then(1:Int)else(0:Int)
def Dn:Bool:=bif x0==0 then bif mc x1 x3 x4 x5 then false else true else bif ig x1 x2 x4 then false else true
def Do:Int:=bif x0==0 then bif mc x1 x3 x4 x5 then x3 else x3 else bif ig x1 x2 x4 then x3 else x3
def Dp:List Int:=bif x0==0 then bif mc x1 x3 x4 x5 then x4 else x4 else bif ig x1 x2 x4 then x4 else List.set x4 x1.toNat x2
def Dq:List Int:=bif x0==0 then bif mc x1 x3 x4 x5 then x5 else DA x3 x5 x1 else bif ig x1 x2 x4 then x5 else x5
def Dr:Bool:=allT [!x0==0||leN x4.length (1000:Nat),!x0==0||isT x3 x5&&Bu x3 (flS x4),!x0==0||vh x3 x5 (kM x3 x5 (flS x4) 0) (kM x3 x5 (flS x4) 1) x1,!x0==0||(mc x1 x3 x4 x5||Aj x3 x5 x1),x0==0||leI 0 x1,x0==0||ltI x1 (↑x4.length:Int),x0==0||ltN x1.toNat x4.length,x0==0||(ig x1 x2 x4||leI 0 x1),x0==0||(ig x1 x2 x4||ltI x1 (↑x4.length:Int)),x0==0||(ig x1 x2 x4||ltN x1.toNat x4.length)]
end
def vH:List SV→List Entry→Option Out
 | [.one ⟨false,[.ptr 0 0]⟩,.one ⟨false,[.ref 1]⟩,.one ⟨true,[.val (.int .i64 x0),.val (.int .i64 x1),.val (.int .i64 x2)]⟩],[.box 26 [.val (.int .i64 x3),.ref 2],.row true 2 (.int .i64) x4,.row true 2 (.int .i64) x5]=>some ⟨.one ⟨false,[.val (.bool (Dn x0 x1 x2 x3 x4 x5))]⟩,[.box 26 [.val (.int .i64 (Do x0 x1 x2 x3 x4 x5)),.ref 3],.row true 2 Pc (Dp x0 x1 x2 x3 x4 x5),.gone],[.row true 2 Pc (Dq x0 x1 x2 x3 x4 x5)],[Dr x0 x1 x2 x3 x4 x5]⟩
 |_,_=>none
def dL:PF prog:=PF.ofG prog (T3z [np,bk,nn,bz]) [] cw 146 f146 func146 (fun c _=>LOk.nil c) vH (by
 intro vs es r h;unfold vH at h;split at h
 ·cases h;kernel_rfl
 ·cases h)
section
variable (x0 x1 x2 x3:Int)(x4 x5:List Int)
def fA:Bool:= !yX x3 x5 (kM x3 x5 (flS x4) 0) (kM x3 x5 (flS x4) 1) x1
def dF:Bool:=Option.getD x4[Int.toNat x1]? 0!=bif x2==3 then(1:Int)else(0:Int)
def gc:Bool:=bif x0==0 then bif fA x1 x3 x4 x5 then false else true else bif dF x1 x2 x4 then false else true
def gd:Int:=bif x0==0 then bif fA x1 x3 x4 x5 then x3 else x3 else bif dF x1 x2 x4 then x3 else x3
def ge:List Int:=bif x0==0 then bif fA x1 x3 x4 x5 then x4 else x4 else bif dF x1 x2 x4 then x4 else List.set x4 x1.toNat x2
def gf:List Int:=bif x0==0 then bif fA x1 x3 x4 x5 then x5 else DA x3 x5 x1 else bif dF x1 x2 x4 then x5 else x5
def gg:Bool:=allT [!x0==0||leN x4.length (1000:Nat),!x0==0||isT x3 x5&&Bu x3 (flS x4),!x0==0||vh x3 x5 (kM x3 x5 (flS x4) 0) (kM x3 x5 (flS x4) 1) x1,!x0==0||(fA x1 x3 x4 x5||Aj x3 x5 x1),x0==0||leI 0 x1,x0==0||ltI x1 (↑x4.length:Int),x0==0||ltN x1.toNat x4.length,x0==0||(dF x1 x2 x4||leI 0 x1),x0==0||(dF x1 x2 x4||ltI x1 (↑x4.length:Int)),x0==0||(dF x1 x2 x4||ltN x1.toNat x4.length)]
end
def rx:List SV→List Entry→Option Out
 | [.one ⟨false,[.ptr 0 0]⟩,.one ⟨false,[.ref 1]⟩,.one ⟨true,[.val (.int .i64 x0),.val (.int .i64 x1),.val (.int .i64 x2)]⟩],[.box 26 [.val (.int .i64 x3),.ref 2],.row true 2 (.int .i64) x4,.row false 2 (.int .i64) x5]=>some ⟨.one ⟨false,[.val (.bool (gc x0 x1 x2 x3 x4 x5))]⟩,[.box 26 [.val (.int .i64 (gd x0 x1 x2 x3 x4 x5)),.ref 3],.row true 2 Pc (ge x0 x1 x2 x3 x4 x5),.row false 2 Pc x5],[.row false 2 Pc (gf x0 x1 x2 x3 x4 x5)],[gg x0 x1 x2 x3 x4 x5]⟩
 |_,_=>none
def bm:PF prog:=PF.ofG prog (T3z [np,bk,nn,bz]) [] cw 146 f146 func146 (fun c _=>LOk.nil c) rx (by
 intro vs es r h;unfold rx at h;split at h
 ·cases h;kernel_rfl
 ·cases h)
abbrev ip:=Int×Int×List (Int×(Int×Int))×List Int×Int×List (Int×(List Int))×List Int
section
variable (y0 y1:Int)(y2:List (Int×(Int×Int)))(y3:List Int)(y4:Int)(y5:List (Int×(List Int)))(y6:List Int)
def br:Int×Int×Int:=Option.getD y2[Int.toNat y0]? ((0:Int),(0:Int),(0:Int))
def pm:Int:=gd ((br y0 y2).1) (((br y0 y2).2).1) ((br y0 y2).2.2) y4 y3 y6
def rT:List Int:=gf ((br y0 y2).1) (((br y0 y2).2).1) ((br y0 y2).2.2) y4 y3 y6
def nt:List (Int×List Int):= [(pm y0 y2 y3 y4 y6,rT y0 y2 y3 y4 y6)]
def pZ:Bool:=ltI y0 y1
def xl:Bool:=leI 0 y0
def xm:Bool:=ltI y0 (↑y2.length:Int)
def xo:Bool:=ltN y0.toNat y2.length
def xt:Bool:=gg ((br y0 y2).1) (((br y0 y2).2).1) ((br y0 y2).2.2) y4 y3 y6
def sP:Bool:= !gc ((br y0 y2).1) (((br y0 y2).2).1) ((br y0 y2).2.2) y4 y3 y6
def sQ:List Int:=ge ((br y0 y2).1) (((br y0 y2).2).1) ((br y0 y2).2.2) y4 y3 y6
def sR:Int:=pm y0 y2 y3 y4 y6
def sS:List Int:=rT y0 y2 y3 y4 y6
def xu:Bool:=leN (List.length y5 + List.length (nt y0 y2 y3 y4 y6)) 9223372036854775807
def vT:Bool:=leN ((List.length y5 + List.length (nt y0 y2 y3 y4 y6)) * 32) 140737488355328
def vU:Int:=IntKind.wrap .i64 (y0 + (1:Int))
def vV:List (Int×(List Int)):=y5++nt y0 y2 y3 y4 y6
end
def CV:ip→List (Nat×SV)
 |(y0,y1,_,_,_,_,_)=> [(27,(.one ⟨false,[.val (.int .i64 y0)]⟩)),(26,(.one ⟨false,[.val (.int .i64 y1)]⟩)),(25,(.one ⟨false,[.ref 0]⟩)),(9,(.one ⟨false,[.ref 1]⟩)),(2,(.one ⟨false,[.ptr 2 0]⟩)),(8,(.one ⟨false,[.ref 3]⟩))]
def CT:ip→List (Nat×Entry)
 |(_,_,y2,y3,y4,y5,y6)=> [(0,(.row false 129 OZ y2)),(1,(.row true 2 Pc y3)),(2,(.box 26 [.val (.int .i64 y4),.ref 4])),(3,(.row true 26 Pb y5)),(4,(.row false 2 Pc y6))]
def CZ:Nat→ip→List (Nat×SV)
 |0,(_,_,_,_,_,_,_)=> [(4,(.one ⟨false,[.ref 5]⟩)),(5,(.one ⟨false,[.ref 6]⟩)),(6,(.one ⟨false,[.val (.int .i64 5)]⟩))]
 |_,(_,_,_,_,_,_,_)=> [(8,(.one ⟨false,[.ref 3]⟩))]
def CX:Nat→ip→List (Nat×Entry)
 |0,(y0,_,y2,y3,y4,y5,y6)=> [(0,(.row false 129 OZ y2)),(1,(.row true 2 Pc (sQ y0 y2 y3 y4 y6))),(2,(.box 26 [.val (.int .i64 (sR y0 y2 y3 y4 y6)),.ref 7])),(3,(.row true 26 Pb y5)),(4,(.row false 2 Pc y6)),(5,(.row true 26 Pb [])),(6,(.row true 2 Pc [])),(7,(.row false 2 Pc (sS y0 y2 y3 y4 y6)))]
 |_,(_,_,y2,y3,y4,y5,y6)=> [(0,(.row false 129 OZ y2)),(1,(.row true 2 Pc y3)),(2,(.box 26 [.val (.int .i64 y4),.ref 4])),(3,(.row true 26 Pb y5)),(4,(.row false 2 Pc y6))]
def nA:ip→LT ip
 |(y0,y1,y2,y3,y4,y5,y6)=> .ite (pZ y0 y1) (.need [xl y0,xm y0 y2,xo y0 y2] (.need [xt y0 y2 y3 y4 y6] (.ite (sP y0 y2 y3 y4 y6) (.ext 0 [(0,0),(1,1),(2,2),(3,3),(4,4),(5,640),(6,704),(7,512)]) (.need [xu y0 y2 y3 y4 y5 y6,vT y0 y2 y3 y4 y5 y6] (.nrm ((vU y0),y1,y2,sQ y0 y2 y3 y4 y6,sR y0 y2 y3 y4 y6,vV y0 y2 y3 y4 y5 y6,(sS y0 y2 y3 y4 y6)) [(0,0),(1,1),(2,2),(3,832),(4,512)]))))) (.ext 1 [(0,0),(1,1),(2,2),(3,3),(4,4)])
def rZ(s:St):Option ip:=
 (match s.look 27 with
 |some ⟨none,.one ⟨false,[.val (.int .i64 y0)]⟩⟩=>
 (match s.look 26 with
 |some ⟨none,.one ⟨false,[.val (.int .i64 y1)]⟩⟩=>
 (match s.look 25 with
 |some ⟨none,.one ⟨false,[.ref 1]⟩⟩=>
 (match s.look 9 with
 |some ⟨none,.one ⟨false,[.ref 1344]⟩⟩=>
 (match s.look 2 with
 |some ⟨none,.one ⟨false,[.ptr 192 0]⟩⟩=>
 (match s.look 8 with
 |some ⟨none,.one ⟨false,[.ref 1088]⟩⟩=>
 (match s.ent 1 with
 |some (.row false 129 (.pair (.int .i64) (.pair (.int .i64) (.int .i64))) y2)=>
 (match s.ent 1344 with
 |some (.row true 2 (.int .i64) y3)=>
 (match s.ent 192 with
 |some (.box 26 [.val (.int .i64 y4),.ref 896])=>
 (match s.ent 1088 with
 |some (.row true 26 (.pair (.int .i64) (.sl 2 (.int .i64))) y5)=>
 (match s.ent 896 with
 |some (.row false 2 (.int .i64) y6)=>
 some (y0,y1,y2,y3,y4,y5,y6)
 |_=>none)
 |_=>none)
 |_=>none)
 |_=>none)
 |_=>none)
 |_=>none)
 |_=>none)
 |_=>none)
 |_=>none)
 |_=>none)
 |_=>none)
def bt:Lp ip where
 h:=⟨[28,29,30,11,31,32,33,34,4,5,6,35,36,37,38,8,39,27],[0,1,2],[3,4],[5,6,7]⟩
 JL:=CV
 JE:=CT
 XL:=CZ
 XE:=CX
 q:=fun j=>match j with | 0=> .ret | _=> .exit 0
 tags:= [0,1]
 lt:=nA
 fuel:=fun(y0,y1,y2,y3,y4,y5,y6)=>y0.natAbs + y1.natAbs + y2.length + y3.length + y4.natAbs + y5.length + y6.length
 fix:=fun(_,y1,y2,_,_,_,_) (y0,_,_,y3,y4,y5,y6)=>(y0,y1,y2,y3,y4,y5,y6)
 σ:= [(0,1),(1,1344),(2,192),(3,1088),(4,896)]
 rd:=rZ
theorem Bv:LoopOk prog (fun k=>Nat.blt k Try.f112.ntmps) bt.F (dl f112 0):=by
 refine Lp.ok (tbl:= (T3z [dK,dL,ag,bm])) (lf:= []) cw bt (by kernel_rfl) (LOk.nil _) (fun _=>rfl) (fun j _=>by unfold bt;match j with | 0=>rfl | _ + 1=>rfl) ?_ ?_ ?_ ?_ (fun _=>rfl) ?_
 ·rintro⟨y0,y1,y2,y3,y4,y5,y6⟩;kernel_rfl
 ·rintro⟨y0,y1,y2,y3,y4,y5,y6⟩;kernel_rfl
 ·intro s x h
  have h:rZ s=some x:=h
  unfold rZ at h
  repeat' split at h
  all_goals cases h
  constructor<;>repeat(first|refine ac (by assumption) rfl ?_|refine aq rfl (by assumption) rfl ?_|exact rfl)
 ·rintro⟨y0,y1,y2,y3,y4,y5,y6⟩;kernel_rfl
 ·rintro⟨y0,y1,y2,y3,y4,y5,y6⟩ z;exact(And.intro (And.intro trivial rfl) trivial)
section
variable (x0:Int)(x1:List Int)(x2:List (Int×Int×Int))
def gR:Bool:=pQ x0 x1 x2 !=0
def pE:Int×Int×List (Int×Int×Int)×List Int×Int×List (Int×List Int)×List Int:=((0:Int),(↑x2.length:Int),x2,List.replicate x0.toNat (0:Int),x0,[(x0,x1)],x1)
def rS:Bool:=Nat.beq ((Lp.res bt (pE x0 x1 x2)).1) 0
def uX:List Int×Int×List (Int×List Int)×List Int:=(Lp.res bt (pE x0 x1 x2)).2.2.2.2
def wl:Int:=bif gR x0 x1 x2 then pQ x0 x1 x2 else bif rS x0 x1 x2 then(5:Int)else(0:Int)
def wm:List (Int×(List Int)):=bif gR x0 x1 x2 then []else bif rS x0 x1 x2 then []else ((uX x0 x1 x2).2.2).1
def wn:List Int:=bif gR x0 x1 x2 then []else bif rS x0 x1 x2 then []else (uX x0 x1 x2).1
def wo:Bool:=allT [gR x0 x1 x2||aT x1,gR x0 x1 x2||leI 0 x0,gR x0 x1 x2||leI x0 x0,gR x0 x1 x2||leI ((↑(8:Nat):Int) * x0) 281474976710656,gR x0 x1 x2||leI x0 9223372036854775807,gR x0 x1 x2||Lp.fin bt (pE x0 x1 x2)]
end
def BD:List SV→List Entry→Option Out
 | [.one ⟨true,[.val (.int .i64 x0),.ref 0]⟩,.one ⟨false,[.ref 1]⟩],[.row false 2 (.int .i64) x1,.row false 129 (.pair (.int .i64) (.pair (.int .i64) (.int .i64))) x2]=>some ⟨.tup [⟨false,[.ref 2]⟩,⟨false,[.ref 3]⟩,⟨false,[.val (.int .i64 (wl x0 x1 x2))]⟩],[.row false 2 Pc x1,.row false 129 OZ x2],[.row true 26 Pb (wm x0 x1 x2),.row true 2 Pc (wn x0 x1 x2)],[wo x0 x1 x2]⟩
 |_,_=>none
def Hr:PF prog:=PF.ofG prog (T3z [dK,dL,ag,bm]) [bt.F] cw 112 f112 func112 (LOk.fnT (l:= [dl f112 0]) (by kernel_rfl) (.cons Bv (.nil _))) BD (by
 intro vs es r h;unfold BD at h;split at h
 ·cases h;kernel_rfl
 ·cases h)
def rvB(n:Int)(s:List Int×List Int)(e:Int×Int×Int):Bool:=bif e.1==0 then MW n (flS s.2) s.1 e.2.1 else(s.2[e.2.1.toNat]?.getD 0)==(bif e.2.2==3 then 1 else 0)
def rvN(n:Int)(s:List Int×List Int)(e:Int×Int×Int):List Int×List Int:=bif e.1==0 then(DA n s.1 e.2.1,s.2)else(s.1,s.2.set e.2.1.toNat e.2.2)
def Av(n:Int):List (Int×Int×Int)→List Int×List Int→Bool
 | [],_=>true
 |e::r,s=>rvB n s e&&Av n r (rvN n s e)
def EN(n:Int):List (Int×Int×Int)→List Int×List Int→List (List Int)
 | [],s=> [s.1]
 |e::r,s=>s.1::EN n r (rvN n s e)
def Fp(n:Int)(es:List (Int×Int×Int))(s:List Int×List Int):List Int×List Int:=es.foldl (rvN n) s
def rv0(n:Int)(ps:List Int):List Int×List Int:=(ps,List.replicate n.toNat 0)
def oq(n:Int)(ps:List Int)(es:List (Int×Int×Int)):Int:=bif eqI (pQ n ps es) 0 then(bif Av n es (rv0 n ps)then 0 else 5)else pQ n ps es
def ul(n:Int)(ps:List Int)(es:List (Int×Int×Int)):Bool:=eqI (oq n ps es) 0
def FH(n:Int)(ps:List Int)(es:List (Int×Int×Int)):Int:=bif ul n ps es then n else 0
def rvF(n:Int)(ps:List Int)(es:List (Int×Int×Int)):Int:=bif ul n ps es then ML n (EN n es (rv0 n ps)) 0 (-1)else 0
def rvP(n:Int)(ps:List Int)(es:List (Int×Int×Int)):List Int:=bif ul n ps es then(Fp n es (rv0 n ps)).1 else []
def rvS(n:Int)(ps:List Int)(es:List (Int×Int×Int)):List Int:=bif ul n ps es then(Fp n es (rv0 n ps)).2 else []
def rvL(n:Int)(ps:List Int)(es:List (Int×Int×Int)):List (Int×List Int):=bif ul n ps es then(EN n es (rv0 n ps)).map fun p=>(n,p)else []
theorem Gm{n:Int}{ps:List Int}{k i v:Int}(h:xZ n ps (k,i,v)=true):(k=0∧Cm ps i=true∧v=0)∨(k=1∧(0≤i∧i≤n - 1)∧(1≤v∧v≤3)):=by
 simp only [xZ]at h
 cases h0:k==0 with
 |true=>
  rw [h0]at h
  simp only [cond_true,Bool.and_eq_true,beq_iff_eq]at h
  exact .inl ⟨by simpa using h0,h.1,h.2⟩
 |false=>
  rw [h0]at h
  cases h1:k==1 with
  |true=>
   rw [h1]at h
   simp only [cond_true,cond_false,Bool.and_eq_true,qS]at h
   exact .inr ⟨by simpa using h1,h.1,h.2⟩
  |false=>rw [h1]at h;simp at h
theorem GZ{n:Int}{ps:List Int}{es:List (Int×Int×Int)}(h:eqI (pQ n ps es) 0=true):isT n ps=true∧es.length≤200∧ ∀ e∈es,xZ n ps e=true:=by
 simp only [pQ]at h
 cases hT:isT n ps with
 |false=>rw [hT]at h;simp [eqI]at h
 |true=>
  cases hl:leN es.length 200 with
  |false=>rw [hT,hl]at h;simp [eqI]at h
  |true=>
   cases ha:es.all (xZ n ps)with
   |false=>rw [hT,hl,ha]at h;simp [eqI]at h
   |true=>exact⟨rfl,kO.1 hl,List.all_eq_true.1 ha⟩
theorem Ju{ps qs:List Int}{t:Int}(h:Cm ps t=true)(hl:qs.length=ps.length):Cm qs t=true:=by
 have:=xk.1 h;exact xk.2 (by omega)
def fE(n:Int)(e:Int×Int×Int)(a:Int×Int×List Int×List Int):Nat ⊕ (Int×Int×List Int×List Int):=bif rvB n (a.2.2.1,a.2.2.2) e then .inr (IntKind.i64.wrap (a.1 + 1),Nd n a.1 a.2.2.1 a.2.1,(rvN n (a.2.2.1,a.2.2.2) e).1,(rvN n (a.2.2.1,a.2.2.2) e).2)else .inl (bif e.1==1 then 1 else 2)
theorem CG(y1:Int)(y6:List Int):bv y1 y6=y6:=by
 unfold bv;cases (ltI y1 0&&true) <;> rfl
theorem Nn(n y5:Int)(ps y7:List Int)(es:List (Int×Int×Int))(sts:List Int)(hT:isT n ps=true)(hl:es.length≤200)(he: ∀ e∈es,xZ n ps e=true)(hs:(sts.length:Int)=n)(f0:Int):
  aF.fin ((0:Int),f0,es,n,sts,y5,ps,y7)=true∧aF.res ((0:Int),f0,es,n,sts,y5,ps,y7)=
   ((aR (fE n) 0 es 0 (0,f0,ps,sts)).1,((aR (fE n) 0 es 0 (0,f0,ps,sts)).2.2.1,(aR (fE n) 0 es 0 (0,f0,ps,sts)).2.2.2.1,es,n,(aR (fE n) 0 es 0 (0,f0,ps,sts)).2.2.2.2.2,y5,(aR (fE n) 0 es 0 (0,f0,ps,sts)).2.2.2.2.1,y7)):=by
 have jb:=aF.along (fun _ a=>(a.1,a.2.1,es,n,a.2.2.2,y5,a.2.2.1,y7)) (fun x=>(x.1,x.2.1,x.2.2.2.2.2.2.1,x.2.2.2.2.1)) (fE n) 0 (fun i a=>a.1=(i:Int)∧isT n a.2.2.1=true∧a.2.2.1.length=ps.length∧(a.2.2.2.length:Int)=n) es (0,f0,ps,sts) ⟨rfl,hT,rfl,hs⟩ (by simp only [aF];omega) (fun i t a hb hI=> ?_) (fun a hI=> ?_)
 ·exact jb
 ·obtain⟨j,f,qs,ss⟩:=a
  obtain⟨rfl,hQ,hq,hS⟩:=hI
  simp only at hQ hq hS
  have hn8:=(iZ.1 hQ).1
  have dE:=(List.getElem?_eq_some_iff.1 hb).1
  have gx: ∀ d,Option.getD es[i]? d=t:=fun d=>by rw [hb];rfl
  have hg2:ba (i:Int) es=t:=by simp only [ba,Int.toNat_natCast];exact gx _
  have hw:=tA dE (by omega)
  have pj:leI (i:Int) (es.length:Int)=true:=gt (by omega)
  have sw:((i:Int)==(es.length:Int))=false:=by simp;omega
  have gh:ltI (i:Int) (es.length:Int)=true:=jg (by omega)
  have sx:leI (0:Int) (i:Int)=true:=gt (by omega)
  have lh:ltN i es.length=true:=lm dE
  have hF:Bu n (flS ss)=true:=MJ (by omega) (by omega)
  have hsl:leN ss.length 1000=true:=uv (by omega)
  obtain⟨k,t,v⟩:=t
  rcases Gm (he _ (List.mem_of_getElem? hb))with⟨rfl,ht,rfl⟩ | ⟨rfl,ht,hv⟩
  ·have hh:=Ju ht hq
   have hp:=HY (fs:=flS ss) hQ hF hh
   have hm:Aj n qs t=true:=vf.2 ⟨hQ,hh⟩
   refine⟨?_,?_,?_,?_⟩
   ·simp [bv,ba,eu,jr,jt,ju,iO,iP,eq,dI,lU,lV,lW,lX,lY,lZ,gO,jn,kU,kV,kW,fR,jo,kX,kY,kZ,jp,lc,jq,gM,aF,LT.nds,allT,CG,pj,sw,gh,sx,lh,gx,hp,hm,hQ,hF,hsl]
   ·simp [bv,ba,eu,jr,jt,ju,iO,iP,eq,dI,lU,lV,lW,lX,lY,lZ,gO,jn,kU,kV,kW,fR,jo,kX,kY,kZ,jp,lc,jq,gM,aF,LT.each,CG,pj,sw]
   ·simp only [iO,iP,eq,dI,gO,eu,fR,jp,jq,aF,gM,LT.fn,Bool.cond_self,pj,sw,hg2,CG,cond_true,cond_false,fE,rvB,rvN,MW,Nd,Int.reduceBEq,beq_self_eq_true]
    cases yX n qs (kM n qs (flS ss) 0) (kM n qs (flS ss) 1) t <;> rfl
   ·intro a' hf
    simp only [fE,rvB,rvN,beq_self_eq_true,cond_true]at hf
    cases hk:MW n (flS ss) qs t <;> rw [hk]at hf <;> simp at hf
    subst hf
    exact⟨hw,Lw hQ t,by simp only [vX];exact hq,hS⟩
  ·have t1:leI 0 t=true:=gt ht.1
   have t2:ltI t (ss.length:Int)=true:=jg (by omega)
   have t3:ltN t.toNat ss.length=true:=lm (by omega)
   refine⟨?_,?_,?_,?_⟩
   ·simp [bv,ba,eu,jr,jt,ju,iO,iP,eq,dI,lU,lV,lW,lX,lY,lZ,gO,jn,kU,kV,kW,fR,jo,kX,kY,kZ,jp,lc,jq,gM,aF,LT.nds,allT,CG,pj,sw,gh,sx,lh,gx,t1,t2,t3]
   ·simp [bv,ba,eu,jr,jt,ju,iO,iP,eq,dI,lU,lV,lW,lX,lY,lZ,gO,jn,kU,kV,kW,fR,jo,kX,kY,kZ,jp,lc,jq,gM,aF,LT.each,CG,pj,sw]
   ·simp only [iO,iP,eq,dI,gO,jn,eu,fR,jo,aF,gM,LT.fn,Bool.cond_self,pj,sw,hg2,CG,cond_true,cond_false,fE,rvB,rvN,Nd,Int.reduceBEq,beq_self_eq_true,bne]
    cases (ss[t.toNat]?.getD 0==bif v==3 then(1:Int)else 0) <;> rfl
   ·intro a' hf
    simp only [fE,rvB,rvN,Int.reduceBEq,cond_false]at hf
    cases hk:(ss[t.toNat]?.getD 0==bif v==3 then(1:Int)else 0) <;> rw [hk]at hf <;> simp at hf
    subst hf
    exact⟨hw,hQ,hq,by simp only [List.length_set];exact hS⟩
 ·obtain⟨j,f,qs,ss⟩:=a
  obtain⟨rfl,_⟩:=hI
  simp [bv,ba,eu,jr,jt,ju,iO,iP,eq,dI,lU,lV,lW,lX,lY,lZ,gO,jn,kU,kV,kW,fR,jo,kX,kY,kZ,jp,lc,jq,gM,aF,LT.out]
theorem LG(n:Int): ∀ (es:List (Int×Int×Int)) (s:List Int×List Int) (i:Nat) (j f:Int),0≤j→j + es.length≤1000→
  ∃ k m a,aR (fE n) 0 es i (j,f,s.1,s.2)=(k,m,a)∧(Av n es s=true→k=0∧(a.2.2.1,a.2.2.2)=Fp n es s∧ML n [a.2.2.1] a.1 a.2.1=ML n (EN n es s) j f)∧(Av n es s=false→k=1∨k=2)
 | [],s,i,j,f,_,_=>⟨0,i,(j,f,s.1,s.2),rfl,fun _=>⟨rfl,rfl,rfl⟩,fun h=>by cases h⟩
 |e::es,s,i,j,f,h0,h1=>by
  simp only [List.length_cons]at h1
  have hw:IntKind.i64.wrap (j + 1)=j + 1:=cE (by omega) (by omega)
  cases hk:rvB n s e with
  |false=>
   refine⟨bif e.1==1 then 1 else 2,i,(j,f,s.1,s.2),by simp only [aR,fE,hk,cond_false],fun h=>by simp [Av,hk]at h,fun _=> ?_⟩
   cases e.1==1 <;> simp
  |true=>
   obtain⟨k,m,a,e1,h2,h3⟩:=LG n es (rvN n s e) (i + 1) (j + 1) (Nd n j s.1 f) (by omega) (by omega)
   refine⟨k,m,a,?_,fun h=> ?_,fun h=> ?_⟩
   ·simp only [aR,fE,hk,cond_true,hw];exact e1
   ·simp only [Av,hk,Bool.true_and]at h
    exact h2 h
   ·simp only [Av,hk,Bool.true_and]at h
    exact h3 h
theorem Mi(n:Int)(ps:List Int)(es:List (Int×Int×Int)):
  wy n ps es=FH n ps es∧wz n ps es=rvF n ps es∧wA n ps es=oq n ps es∧wB n ps es=rvP n ps es∧wC n ps es=rvS n ps es∧wD n ps es=true:=by
 simp only [wy,wz,wA,wB,wC,wD,fw,FH,rvF,rvP,rvS,ul,oq]
 cases hp:eqI (pQ n ps es) 0 with
 |false=>
  have h1:(pQ n ps es !=0)=true:=by simpa using Ix.1 hp
  simp [h1,hp,allT]
 |true=>
  have h1:(pQ n ps es !=0)=false:=by simpa using Dh.1 hp
  obtain⟨hT,hl,he⟩:=GZ hp
  have hn:=iZ.1 hT
  have hr:((List.replicate n.toNat (0:Int)).length:Int)=n:=by rw [List.length_replicate];omega
  obtain⟨v1,v2⟩:=Nn n 0 ps [] es (List.replicate n.toNat 0) hT hl he hr (-1)
  obtain⟨k,m,a,e,h2,h3⟩:=LG n es (rv0 n ps) 0 0 (-1) (by omega) (by omega)
  simp only [rv0]at e
  rw [e]at v2
  have g1:Lp.fin aF (kL n ps es)=true:=v1
  have g2:aF.res (kL n ps es)=_:=v2
  have l1:leN ps.length 1048576=true:=uv (by omega)
  have l2:leI 0 n=true:=gt (by omega)
  have l3:leI ((8:Nat) * n) 281474976710656=true:=gt (by omega)
  have l4:leI n 9223372036854775807=true:=gt (by omega)
  have l5:leI n n=true:=gt (by omega)
  simp only [ow,ox,oy,vm,sn,vn,sq,vo,g2,h1,g1,l1,l2,l3,l4,l5,allT]
  cases hk:Av n es (rv0 n ps)with
  |false=>
   rcases h3 hk with rfl | rfl <;> simp [Nat.beq,eqI]
  |true=>
   obtain⟨rfl,h5,h6⟩:=h2 hk
   have h7:eq a.1 a.2.1 n a.2.2.1=ML n (EN n es (rv0 n ps)) 0 (-1):=h6
   rw [← h5]
   simp [Nat.beq,eqI,h7,dI,CG]
def BJ:List SV→List Entry→Option Out
 | [.one ⟨true,[.val (.int .i64 x0),.ref 0]⟩,.one ⟨false,[.ref 1]⟩],[.row false 2 (.int .i64) x1,.row false 129 (.pair (.int .i64) (.pair (.int .i64) (.int .i64))) x2]=>some ⟨.tup [⟨true,[.val (.int .i64 (FH x0 x1 x2)),.ref 2]⟩,⟨false,[.ref 3]⟩,⟨false,[.val (.int .i64 (rvF x0 x1 x2))]⟩,⟨false,[.val (.int .i64 (oq x0 x1 x2))]⟩],[.row false 2 Pc x1,.row false 129 OZ x2],[.row true 2 Pc (rvP x0 x1 x2),.row true 2 Pc (rvS x0 x1 x2)],[]⟩
 |_,_=>none
def wv:PF prog:=PF.alt Ht BJ (by
 intro args es o h bf;unfold BJ at h;split at h
 ·rename_i x0 x1 x2
  cases h
  have hh:=Mi x0 x1 x2
  obtain⟨e0,e1,e2,e3,e4,en⟩:=hh
  exact jG rfl (fX en) (by simp only [e0,e1,e2] <;> rfl) rfl (by simp only [e3,e4] <;> rfl)
 ·cases h)
theorem Og(n k t v:Int)(ps sts:List Int)(h:k=0∨k=1):
  gc k t v n sts ps=rvB n (ps,sts) (k,t,v)∧gd k t v n sts ps=n∧
  (rvB n (ps,sts) (k,t,v)=true→ge k t v n sts ps=(rvN n (ps,sts) (k,t,v)).2∧gf k t v n sts ps=(rvN n (ps,sts) (k,t,v)).1):=by
 rcases h with rfl | rfl
 ·simp only [gc,gd,ge,gf,fA,rvB,rvN,MW,beq_self_eq_true,cond_true]
  cases yX n ps (kM n ps (flS sts) 0) (kM n ps (flS sts) 1) t <;> simp
 ·simp only [gc,gd,ge,gf,dF,rvB,rvN,Int.reduceBEq,cond_false,bne]
  cases (sts[t.toNat]?.getD 0==bif v==3 then(1:Int)else 0) <;> simp
def fI(n:Int)(e:Int×Int×Int)(a:List (Int×List Int)×List Int×List Int):Nat ⊕ (List (Int×List Int)×List Int×List Int):=bif rvB n a.2 e then .inr (a.1++ [(n,(rvN n a.2 e).1)],rvN n a.2 e)else .inl 0
theorem Nk(n:Int)(ps:List Int)(es:List (Int×Int×Int))(sts:List Int)(hT:isT n ps=true)(hl:es.length≤200)(he: ∀ e∈es,xZ n ps e=true)(hs:(sts.length:Int)=n)(l0:List (Int×List Int))(h0:l0.length=1):
  bt.fin ((0:Int),(es.length:Int),es,sts,n,l0,ps)=true∧bt.res ((0:Int),(es.length:Int),es,sts,n,l0,ps)=
   ((aR (fI n) 1 es 0 (l0,ps,sts)).1,(((aR (fI n) 1 es 0 (l0,ps,sts)).2.1:Int),(es.length:Int),es,(aR (fI n) 1 es 0 (l0,ps,sts)).2.2.2.2,n,(aR (fI n) 1 es 0 (l0,ps,sts)).2.2.1,(aR (fI n) 1 es 0 (l0,ps,sts)).2.2.2.1)):=by
 have jb:=bt.along (fun i a=>((i:Int),(es.length:Int),es,a.2.2,n,a.1,a.2.1)) (fun x=>(x.2.2.2.2.2.1,x.2.2.2.2.2.2,x.2.2.2.1)) (fI n) 1 (fun i a=>a.1.length=i + 1∧isT n a.2.1=true∧a.2.1.length=ps.length∧(a.2.2.length:Int)=n) es (l0,ps,sts) ⟨h0,hT,rfl,hs⟩ (by simp only [bt];omega) (fun i t a hb hI=> ?_) (fun a hI=> ?_)
 ·exact jb
 ·obtain⟨l,qs,ss⟩:=a
  obtain⟨hL,hQ,hq,hS⟩:=hI
  simp only at hL hQ hq hS
  have hn8:=(iZ.1 hQ).1
  have dE:=(List.getElem?_eq_some_iff.1 hb).1
  have gx: ∀ d,Option.getD es[i]? d=t:=fun d=>by rw [hb];rfl
  have hg2:br (i:Int) es=t:=by simp only [br,Int.toNat_natCast];exact gx _
  have hw:=tA dE (by omega)
  have gh:ltI (i:Int) (es.length:Int)=true:=jg (by omega)
  have sx:leI (0:Int) (i:Int)=true:=gt (by omega)
  have lh:ltN i es.length=true:=lm dE
  have hF:Bu n (flS ss)=true:=MJ (by omega) (by omega)
  have hsl:leN ss.length 1000=true:=uv (by omega)
  have m1:leN (l.length + 1) 9223372036854775807=true:=uv (by omega)
  have m2:leN ((l.length + 1) * 32) 140737488355328=true:=uv (by omega)
  obtain⟨k,t,v⟩:=t
  have hev:=Gm (he _ (List.mem_of_getElem? hb))
  obtain⟨c0,c1,c2⟩:=Og n k t v qs ss (hev.imp (fun h=>h.1) (fun h=>h.1))
  have bf:gg k t v n ss qs=true:=by
   rcases hev with⟨rfl,ht,rfl⟩ | ⟨rfl,ht,hv⟩
   ·have hh:=Ju ht hq
    have hp:=HY (fs:=flS ss) hQ hF hh
    have hm:Aj n qs t=true:=vf.2 ⟨hQ,hh⟩
    simp [gg,allT,hsl,hQ,hF,hp,hm]
   ·have t1:leI 0 t=true:=gt ht.1
    have t2:ltI t (ss.length:Int)=true:=jg (by omega)
    have t3:ltN t.toNat ss.length=true:=lm (by omega)
    simp [gg,allT,t1,t2,t3]
  refine⟨?_,?_,?_,?_⟩
  ·simp only [pZ,xl,xm,xo,xt,xu,vT,nt,bt,nA,LT.nds,allT,List.length_singleton,Int.toNat_natCast,gh,sx,lh,hg2,bf,m1,m2,cond_true,Bool.cond_self]
  ·simp only [bt,nA,LT.each,sP,sR,pm,vU,hg2,c1,hw,and_self,implies_true,and_true,true_and]
  ·simp only [bt,nA,LT.fn,pZ,sP,sQ,sS,vV,pm,rT,nt,hg2,c0,c1,gh,cond_true,fI]
   cases hk:rvB n (qs,ss) (k,t,v)with
   |false=>rfl
   |true=>
    obtain⟨d1,d2⟩:=c2 hk
    simp only [Bool.not_true,cond_false,cond_true,d1,d2]
  ·intro a' hf
   simp only [fI]at hf
   cases hk:rvB n (qs,ss) (k,t,v) <;> rw [hk]at hf <;> simp at hf
   subst hf
   rcases hev with⟨rfl,ht,rfl⟩ | ⟨rfl,ht,hv⟩
   ·exact⟨by simp [hL],Lw hQ t,by simp only [rvN,beq_self_eq_true,cond_true,vX];exact hq,hS⟩
   ·exact⟨by simp [hL],hQ,hq,by simp only [rvN,Int.reduceBEq,cond_false,List.length_set];exact hS⟩
 ·obtain⟨l,qs,ss⟩:=a
  simp [pZ,bt,nA,LT.out]
theorem LH(n:Int): ∀ (es:List (Int×Int×Int)) (s:List Int×List Int) (i:Nat) (l:List (Int×List Int)),
  ∃ m a,aR (fI n) 1 es i (l++ [(n,s.1)],s)=(bif Av n es s then 1 else 0,m,a)∧(Av n es s=true→a.1=l++(EN n es s).map (fun p=>(n,p))∧a.2=Fp n es s)
 | [],s,i,l=>⟨i,(l++ [(n,s.1)],s),rfl,fun _=>⟨rfl,rfl⟩⟩
 |e::es,s,i,l=>by
  cases hk:rvB n s e with
  |false=>exact⟨i,(l++ [(n,s.1)],s),by simp only [aR,fI,hk,Av,Bool.false_and,cond_false],fun h=>by simp [Av,hk]at h⟩
  |true=>
   obtain⟨m,a,e1,h⟩:=LH n es (rvN n s e) (i + 1) (l++ [(n,s.1)])
   refine⟨m,a,?_,?_⟩
   ·simp only [aR,fI,hk,Av,Bool.true_and,cond_true];exact e1
   ·intro cK
    simp only [Av,hk,Bool.true_and]at cK
    obtain⟨h1,h2⟩:=h cK
    exact⟨by rw [h1];simp [EN],h2⟩
theorem HO(n:Int)(ps:List Int)(es:List (Int×Int×Int)):
  wl n ps es=oq n ps es∧wm n ps es=rvL n ps es∧wn n ps es=rvS n ps es∧wo n ps es=true:=by
 simp only [wl,wm,wn,wo,gR,rvL,rvS,ul,oq]
 cases hp:eqI (pQ n ps es) 0 with
 |false=>
  have h1:(pQ n ps es !=0)=true:=by simpa using Ix.1 hp
  simp [h1,hp,allT]
 |true=>
  have h1:(pQ n ps es !=0)=false:=by simpa using Dh.1 hp
  obtain⟨hT,hl,he⟩:=GZ hp
  have hn:=iZ.1 hT
  have hr:((List.replicate n.toNat (0:Int)).length:Int)=n:=by rw [List.length_replicate];omega
  obtain⟨v1,v2⟩:=Nk n ps es (List.replicate n.toNat 0) hT hl he hr [(n,ps)] rfl
  obtain⟨m,a,e,h2⟩:=LH n es (rv0 n ps) 0 []
  simp only [rv0,List.nil_append]at e
  rw [e]at v2
  have g1:Lp.fin bt (pE n ps es)=true:=v1
  have g2:bt.res (pE n ps es)=_:=v2
  have e4:aT ps=true:=by
   simp [aT,allT];omega
  have l2:leI 0 n=true:=gt (by omega)
  have l3:leI ((8:Nat) * n) 281474976710656=true:=gt (by omega)
  have l4:leI n 9223372036854775807=true:=gt (by omega)
  have l5:leI n n=true:=gt (by omega)
  simp only [rS,uX,g2,h1,g1,e4,l2,l3,l4,l5,allT]
  change _∧_∧_∧_
  cases hk:Av n es (rv0 n ps)with
  |false=>
   have hk':Av n es (ps,List.replicate n.toNat 0)=false:=hk
   simp [hk',Nat.beq,eqI]
  |true=>
   have hk':Av n es (ps,List.replicate n.toNat 0)=true:=hk
   obtain⟨h5,h6⟩:=h2 hk
   rw [List.nil_append]at h5
   simp [hk',Nat.beq,eqI,h5,h6]
def BH:List SV→List Entry→Option Out
 | [.one ⟨true,[.val (.int .i64 x0),.ref 0]⟩,.one ⟨false,[.ref 1]⟩],[.row false 2 (.int .i64) x1,.row false 129 (.pair (.int .i64) (.pair (.int .i64) (.int .i64))) x2]=>some ⟨.tup [⟨false,[.ref 2]⟩,⟨false,[.ref 3]⟩,⟨false,[.val (.int .i64 (oq x0 x1 x2))]⟩],[.row false 2 Pc x1,.row false 129 OZ x2],[.row true 26 Pb (rvL x0 x1 x2),.row true 2 Pc (rvS x0 x1 x2)],[]⟩
 |_,_=>none
def wu:PF prog:=PF.alt Hr BH (by
 intro args es o h bf;unfold BH at h;split at h
 ·rename_i x0 x1 x2
  cases h
  have hh:=HO x0 x1 x2
  obtain⟨e0,e1,e2,en⟩:=hh
  exact jG rfl (fX en) (by simp only [e0] <;> rfl) rfl (by simp only [e1,e2] <;> rfl)
 ·cases h)
def oG(x0:Int)(x1:List (Int×Int×Int)):Int:=IntKind.wrap .i64 (x0 - (↑x1.length:Int))
def jN(x0:Int)(x1:List (Int×Int×Int)):Int:=bif ltI (oG x0 x1) 0 then(-1:Int)else oG x0 x1
def sA:List SV→List Entry→Option Out
 | [.one ⟨false,[.ref 0]⟩,.one ⟨false,[.val (.int .i64 x0)]⟩],[.row false 131 (.pair (.int .i64) (.pair (.int .i64) (.int .i64))) x1]=>some ⟨.one ⟨false,[.val (.int .i64 (jN x0 x1))]⟩,[.row false 131 OZ x1],[],[]⟩
 |_,_=>none
def oX:PF prog:=PF.ofG prog [] [] cw 59 f59 func59 (fun c _=>LOk.nil c) sA (by
 intro vs es r h;unfold sA at h;split at h
 ·cases h;kernel_rfl
 ·cases h)
def tF:List SV→List Entry→Option Out
 | [.one ⟨true,[.val (.int .i64 x0),.val (.int .i64 x1),.val (.int .i64 x2)]⟩],[]=>some ⟨.one ⟨true,[.val (.int .i64 x0),.val (.int .i64 x1),.val (.int .i64 x2)]⟩,[],[],[]⟩
 |_,_=>none
def tU:PF prog:=PF.ofG prog [] [] cw 111 f111 func111 (fun c _=>LOk.nil c) tF (by
 intro vs es r h;unfold tF at h;split at h
 ·cases h;kernel_rfl
 ·cases h)
abbrev bY:=Int×List (Int×(Int×Int))×List (Int×(Int×Int))
section
variable (y0:Int)(y1 y2:List (Int×(Int×Int)))
def em:Int×Int×Int:=Option.getD y1[Int.toNat y0]? ((0:Int),(0:Int),(0:Int))
def fG:Bool:=ltI y0 (↑y1.length:Int)
def fH:Bool:=leI 0 y0
def gZ:Bool:=ltN y0.toNat y1.length
def hB:Bool:=ltI y0 (↑y2.length:Int)
def hN:Bool:=ltN y0.toNat y2.length
def hO:Int:=IntKind.wrap .i64 (y0 + (1:Int))
def hY:List (Int×(Int×Int)):=List.set y2 y0.toNat ((em y0 y1).1,((em y0 y1).2).1,(em y0 y1).2.2)
end
def vA:bY→List (Nat×SV)
 |(y0,_,_)=> [(4,(.one ⟨false,[.val (.int .i64 y0)]⟩)),(0,(.one ⟨false,[.ref 0]⟩)),(3,(.one ⟨false,[.ref 1]⟩))]
def vv:bY→List (Nat×Entry)
 |(_,y1,y2)=> [(0,(.row false 131 OZ y1)),(1,(.row true 129 OZ y2))]
def vE:Nat→bY→List (Nat×SV)
 |_,(_,_,_)=> []
def vC:Nat→bY→List (Nat×Entry)
 |_,(_,y1,y2)=> [(0,(.row false 131 OZ y1)),(1,(.row true 129 OZ y2))]
def gI:bY→LT bY
 |(y0,y1,y2)=> .ite (fG y0 y1) (.need [fH y0,fG y0 y1,gZ y0 y1,fH y0,hB y0 y2,hN y0 y2] (.nrm ((hO y0),y1,(hY y0 y1 y2)) [(0,0),(1,1)])) (.ext 0 [(0,0),(1,1)])
def nj(s:St):Option bY:=
 (match s.look 4 with
 |some ⟨none,.one ⟨false,[.val (.int .i64 y0)]⟩⟩=>
 (match s.look 0 with
 |some ⟨none,.one ⟨false,[.ref 0]⟩⟩=>
 (match s.look 3 with
 |some ⟨none,.one ⟨false,[.ref 320]⟩⟩=>
 (match s.ent 0 with
 |some (.row false 131 (.pair (.int .i64) (.pair (.int .i64) (.int .i64))) y1)=>
 (match s.ent 320 with
 |some (.row true 129 (.pair (.int .i64) (.pair (.int .i64) (.int .i64))) y2)=>
 some (y0,y1,y2)
 |_=>none)
 |_=>none)
 |_=>none)
 |_=>none)
 |_=>none)
def aO:Lp bY where
 h:=⟨[8,9,10,11,14,15,16,17,18,19,20,21,12,13,4],[0,1],[],[]⟩
 JL:=vA
 JE:=vv
 XL:=vE
 XE:=vC
 q:=fun j=>match j with | _=> .exit 0
 tags:= [0]
 lt:=gI
 fuel:=fun(y0,y1,y2)=>y0.natAbs + y1.length + y2.length
 fix:=fun(_,y1,_) (y0,_,y2)=>(y0,y1,y2)
 σ:= [(0,0),(1,320)]
 rd:=nj
theorem uG:LoopOk prog (fun k=>Nat.blt k Try.f61.ntmps) aO.F (dl f61 0):=by
 refine Lp.ok (tbl:= [tU]) (lf:= []) cw aO (by kernel_rfl) (LOk.nil _) (fun _=>rfl) (fun _ _=>rfl) ?_ ?_ ?_ ?_ (fun _=>rfl) ?_
 ·rintro⟨y0,y1,y2⟩;kernel_rfl
 ·rintro⟨y0,y1,y2⟩;kernel_rfl
 ·intro s x h
  have h:nj s=some x:=h
  unfold nj at h
  repeat' split at h
  all_goals cases h
  constructor<;>repeat(first|refine ac (by assumption) rfl ?_|refine aq rfl (by assumption) rfl ?_|exact rfl)
 ·rintro⟨y0,y1,y2⟩;kernel_rfl
 ·rintro⟨y0,y1,y2⟩ z;exact(And.intro rfl trivial)
section
variable (x0:List (Int×Int×Int))
def lL:Int×List (Int×Int×Int)×List (Int×Int×Int):=((0:Int),x0,List.replicate (Int.toNat (↑x0.length:Int)) ((0:Int),(0:Int),(0:Int)))
def mX:List (Int×(Int×Int)):=(Lp.res aO (lL x0)).2.2.2
def mY:Bool:=allT [leI 0 (↑x0.length:Int),leI (↑x0.length:Int) (↑x0.length:Int),leI ((↑(24:Nat):Int) * (↑x0.length:Int)) 281474976710656,leI (↑x0.length:Int) 9223372036854775807,Lp.fin aO (lL x0)]
end
def sB:List SV→List Entry→Option Out
 | [.one ⟨false,[.ref 0]⟩],[.row false 131 (.pair (.int .i64) (.pair (.int .i64) (.int .i64))) x0]=>some ⟨.one ⟨false,[.ref 1]⟩,[.row false 131 OZ x0],[.row true 129 OZ (mX x0)],[mY x0]⟩
 |_,_=>none
def zD:PF prog:=PF.ofG prog [tU] [aO.F] cw 61 f61 func61 (LOk.fnT (l:= [dl f61 0]) (by kernel_rfl) (.cons uG (.nil _))) sB (by
 intro vs es r h;unfold sB at h;split at h
 ·cases h;kernel_rfl
 ·cases h)
def ki(x0 x1 x2 x3 x4 x5:Int):Bool:=bif x0 !=x3 then false else bif x1 !=x4 then false else bif x2 !=x5 then false else true
def tD:List SV→List Entry→Option Out
 | [.one ⟨true,[.val (.int .i64 x0),.val (.int .i64 x1),.val (.int .i64 x2)]⟩,.one ⟨true,[.val (.int .i64 x3),.val (.int .i64 x4),.val (.int .i64 x5)]⟩],[]=>some ⟨.one ⟨false,[.val (.bool (ki x0 x1 x2 x3 x4 x5))]⟩,[],[],[]⟩
 |_,_=>none
def tT:PF prog:=PF.ofG prog [] [] cw 114 f114 func114 (fun c _=>LOk.nil c) tD (by
 intro vs es r h;unfold tD at h;split at h
 ·cases h;kernel_rfl
 ·cases h)
abbrev bX:=Int×List (Int×(Int×Int))×List (Int×(Int×Int))
section
variable (y0:Int)(y1 y2:List (Int×(Int×Int)))
def ej:Int×Int×Int:=Option.getD y1[Int.toNat y0]? ((0:Int),(0:Int),(0:Int))
def ek:Int×Int×Int:=Option.getD y2[Int.toNat y0]? ((0:Int),(0:Int),(0:Int))
def fD:Bool:=ltI y0 (↑y1.length:Int)
def fF:Bool:=leI 0 y0
def gU:Bool:=ltN y0.toNat y1.length
def gV:Bool:=ltI y0 (↑y2.length:Int)
def gW:Bool:=ltN y0.toNat y2.length
def gX:Bool:= !ki ((ej y0 y1).1) (((ej y0 y1).2).1) ((ej y0 y1).2.2) ((ek y0 y2).1) (((ek y0 y2).2).1) ((ek y0 y2).2.2)
def gY:Int:=IntKind.wrap .i64 (y0 + (1:Int))
end
def vz:bX→List (Nat×SV)
 |(y0,_,_)=> [(5,(.one ⟨false,[.val (.int .i64 y0)]⟩)),(0,(.one ⟨false,[.ref 0]⟩)),(1,(.one ⟨false,[.ref 1]⟩))]
def vu:bX→List (Nat×Entry)
 |(_,y1,y2)=> [(0,(.row false 129 OZ y1)),(1,(.row false 129 OZ y2))]
def vD:Nat→bX→List (Nat×SV)
 |0,(_,_,_)=> [(4,(.one ⟨false,[.val (.bool false)]⟩))]
 |_,(_,_,_)=> []
def vB:Nat→bX→List (Nat×Entry)
 |0,(_,y1,y2)=> [(0,(.row false 129 OZ y1)),(1,(.row false 129 OZ y2))]
 |_,(_,y1,y2)=> [(0,(.row false 129 OZ y1)),(1,(.row false 129 OZ y2))]
def gH:bX→LT bX
 |(y0,y1,y2)=> .ite (fD y0 y1) (.need [fF y0,fD y0 y1,gU y0 y1,fF y0,gV y0 y2,gW y0 y2] (.ite (gX y0 y1 y2) (.ext 0 [(0,0),(1,1)]) (.nrm ((gY y0),y1,y2) [(0,0),(1,1)]))) (.ext 1 [(0,0),(1,1)])
def ni(s:St):Option bX:=
 (match s.look 5 with
 |some ⟨none,.one ⟨false,[.val (.int .i64 y0)]⟩⟩=>
 (match s.look 0 with
 |some ⟨none,.one ⟨false,[.ref 0]⟩⟩=>
 (match s.look 1 with
 |some ⟨none,.one ⟨false,[.ref 1]⟩⟩=>
 (match s.ent 0 with
 |some (.row false 129 (.pair (.int .i64) (.pair (.int .i64) (.int .i64))) y1)=>
 (match s.ent 1 with
 |some (.row false 129 (.pair (.int .i64) (.pair (.int .i64) (.int .i64))) y2)=>
 some (y0,y1,y2)
 |_=>none)
 |_=>none)
 |_=>none)
 |_=>none)
 |_=>none)
def aH:Lp bX where
 h:=⟨[11,12,13,14,17,18,19,20,21,22,23,24,25,26,4,15,16,5],[0,1],[],[]⟩
 JL:=vz
 JE:=vu
 XL:=vD
 XE:=vB
 q:=fun j=>match j with | 0=> .ret | _=> .exit 0
 tags:= [0,1]
 lt:=gH
 fuel:=fun(y0,y1,y2)=>y0.natAbs + y1.length + y2.length
 fix:=fun(_,y1,y2) (y0,_,_)=>(y0,y1,y2)
 σ:= [(0,0),(1,1)]
 rd:=ni
theorem uF:LoopOk prog (fun k=>Nat.blt k Try.f63.ntmps) aH.F (dl f63 0):=by
 refine Lp.ok (tbl:= [tT]) (lf:= []) cw aH (by kernel_rfl) (LOk.nil _) (fun _=>rfl) (fun j _=>by unfold aH;match j with | 0=>rfl | _ + 1=>rfl) ?_ ?_ ?_ ?_ (fun _=>rfl) ?_
 ·rintro⟨y0,y1,y2⟩;kernel_rfl
 ·rintro⟨y0,y1,y2⟩;kernel_rfl
 ·intro s x h
  have h:ni s=some x:=h
  unfold ni at h
  repeat' split at h
  all_goals cases h
  constructor<;>repeat(first|refine ac (by assumption) rfl ?_|refine aq rfl (by assumption) rfl ?_|exact rfl)
 ·rintro⟨y0,y1,y2⟩;kernel_rfl
 ·rintro⟨y0,y1,y2⟩ z;exact(And.intro (And.intro trivial rfl) trivial)
section
variable (x0 x1:List (Int×Int×Int))
def lH:Bool:=(↑x0.length:Int)!=(↑x1.length:Int)
def lI:Int×List (Int×Int×Int)×List (Int×Int×Int):=((0:Int),x0,x1)
def mV:Bool:=bif lH x0 x1 then false else bif Nat.beq ((Lp.res aH (lI x0 x1)).1) 0 then false else true
def mW:Bool:=allT [lH x0 x1||Lp.fin aH (lI x0 x1)]
end
def sz:List SV→List Entry→Option Out
 | [.one ⟨false,[.ref 0]⟩,.one ⟨false,[.ref 1]⟩],[.row false 129 (.pair (.int .i64) (.pair (.int .i64) (.int .i64))) x0,.row false 129 (.pair (.int .i64) (.pair (.int .i64) (.int .i64))) x1]=>some ⟨.one ⟨false,[.val (.bool (mV x0 x1))]⟩,[.row false 129 OZ x0,.row false 129 OZ x1],[],[mW x0 x1]⟩
 |_,_=>none
def zC:PF prog:=PF.ofG prog [tT] [aH.F] cw 63 f63 func63 (LOk.fnT (l:= [dl f63 0]) (by kernel_rfl) (.cons uF (.nil _))) sz (by
 intro vs es r h;unfold sz at h;split at h
 ·cases h;kernel_rfl
 ·cases h)
section
variable (x0:Int)(x1:List Int)(x2:List (Int×Int×Int))
def qh:Int:=FH x0 x1 x2
def tq:Int:=oq x0 x1 x2
def ou:List Int:=rvP x0 x1 x2
def ov:List Int:=rvS x0 x1 x2
end
def wN:List SV→List Entry→Option Out
 | [.one ⟨true,[.val (.int .i64 x0),.ref 0]⟩,.one ⟨false,[.ref 1]⟩],[.row false 2 (.int .i64) x1,.row false 129 (.pair (.int .i64) (.pair (.int .i64) (.int .i64))) x2]=>some ⟨.tup [⟨true,[.val (.int .i64 (qh x0 x1 x2)),.ref 2]⟩,⟨false,[.ref 3]⟩,⟨false,[.val (.int .i64 (tq x0 x1 x2))]⟩],[.row false 2 Pc x1,.row false 129 OZ x2],[.row true 2 Pc (ou x0 x1 x2),.row true 2 Pc (ov x0 x1 x2)],[]⟩
 |_,_=>none
def th:PF prog:=PF.ofG prog (T3z [wv]) [] cw 68 f68 func68 (fun c _=>LOk.nil c) wN (by
 intro vs es r h;unfold wN at h;split at h
 ·cases h;kernel_rfl
 ·cases h)
section
variable (x0:Int)(x1:List Int)(x2:List (Int×Int×Int))
def fQ:Bool:=oq x0 x1 x2 !=0
def pk:Int×List Int:=Option.getD (rvL x0 x1 x2)[Int.toNat (↑x2.length:Int)]? (nb Pb)
def sK:Int:=bif fQ x0 x1 x2 then(0:Int)else (pk x0 x1 x2).1
def sL:Int:=bif fQ x0 x1 x2 then oq x0 x1 x2 else(0:Int)
def sM:List Int:=bif fQ x0 x1 x2 then []else (pk x0 x1 x2).2
def sN:List Int:=bif fQ x0 x1 x2 then []else rvS x0 x1 x2
def pY:Bool:=allT [fQ x0 x1 x2||leI 0 (↑x2.length:Int),fQ x0 x1 x2||ltI (↑x2.length:Int) (↑(List.length (rvL x0 x1 x2)):Int),fQ x0 x1 x2||ltN (Int.toNat (↑x2.length:Int)) (List.length (rvL x0 x1 x2))]
end
def wI:List SV→List Entry→Option Out
 | [.one ⟨true,[.val (.int .i64 x0),.ref 0]⟩,.one ⟨false,[.ref 1]⟩],[.row false 2 (.int .i64) x1,.row false 129 (.pair (.int .i64) (.pair (.int .i64) (.int .i64))) x2]=>some ⟨.tup [⟨true,[.val (.int .i64 (sK x0 x1 x2)),.ref 2]⟩,⟨false,[.ref 3]⟩,⟨false,[.val (.int .i64 (sL x0 x1 x2))]⟩],[.row false 2 Pc x1,.row false 129 OZ x2],[.row false 2 Pc (sM x0 x1 x2),.row false 2 Pc (sN x0 x1 x2)],[pY x0 x1 x2]⟩
 |_,_=>none
def Ez:PF prog:=PF.ofG prog (T3z [wu]) [] cw 67 f67 func67 (fun c _=>LOk.nil c) wI (by
 intro vs es r h;unfold wI at h;split at h
 ·cases h;kernel_rfl
 ·cases h)
def eB(y1:List (Int×(Int×Int)))(b:Nat):(List (Int×(Int×Int)))→Nat ⊕ (List (Int×(Int×Int)))
 |y2=>(.inr (List.set y2 b ((Option.getD y1[b]? ((0:Int),(0:Int),(0:Int))).1,((Option.getD y1[b]? ((0:Int),(0:Int),(0:Int))).2).1,(Option.getD y1[b]? ((0:Int),(0:Int),(0:Int))).2.2)))
def cT(y1:List (Int×(Int×Int)))(i:Nat):(List (Int×(Int×Int)))→bY
 |y2=>((i:Int),y1,y2)
def nh:bY→List (Int×(Int×Int))
 |(_,_,y2)=>y2
theorem wG(y1 y2:List (Int×(Int×Int)))(hn:y1.length≤9223372036854775807)(hl:y2.length=y1.length):
  aO.fin ((0:Int),y1,y2)=true∧aO.res ((0:Int),y1,y2)=((aR (eB y1) 0 (List.range y1.length) 0 y2).1,(cT y1) (aR (eB y1) 0 (List.range y1.length) 0 y2).2.1 (aR (eB y1) 0 (List.range y1.length) 0 y2).2.2):=by
 have jb:=aO.along (cT y1) nh (eB y1) 0 (fun _ a=>a.length=y1.length) (List.range y1.length) y2 hl (by simp only [aO,cT,List.length_range];omega) (fun i b a hb hI=> ?_) (fun a hI=> ?_)
 ·exact jb
 ·obtain y2:=a
  obtain⟨rfl,dE⟩:=oS hb
  have hw:IntKind.i64.wrap ((b:Int) + 1)=((b + 1:Nat):Int):=by rw [cE (by omega) (by omega)];omega
  have gh:ltI (b:Int) (y1.length:Int)=true:=jg (by omega)
  have sx:leI (0:Int) (b:Int)=true:=gt (by omega)
  have lh:ltN b y1.length=true:=lm (by omega)
  refine⟨?_,?_,?_,?_⟩
  ·simp [em,fG,fH,gZ,hB,hN,hO,hY,gI,aO,LT.nds,allT,cT,gh,sx,lh,hI]
  ·simp [em,fG,fH,gZ,hB,hN,hO,hY,gI,aO,LT.each,cT,nh,hw,hI]
  ·simp only [em,fG,fH,gZ,hB,hN,hO,hY,gI,aO,LT.fn,cT,nh,eB,Int.toNat_natCast,gh,cond_true]
  ·intro a' hf;simp only [eB,Sum.inr.injEq]at hf;subst hf;simpa using hI
 ·obtain y2:=a
  simp [em,fG,fH,gZ,hB,hN,hO,hY,gI,aO,LT.out,cT,List.length_range]
def fy(y1 y2:List (Int×(Int×Int)))(b:Nat):(Unit)→Nat ⊕ (Unit)
 |_=>(bif(!ki ((Option.getD y1[b]? ((0:Int),(0:Int),(0:Int))).1) (((Option.getD y1[b]? ((0:Int),(0:Int),(0:Int))).2).1) ((Option.getD y1[b]? ((0:Int),(0:Int),(0:Int))).2.2) ((Option.getD y2[b]? ((0:Int),(0:Int),(0:Int))).1) (((Option.getD y2[b]? ((0:Int),(0:Int),(0:Int))).2).1) ((Option.getD y2[b]? ((0:Int),(0:Int),(0:Int))).2.2))then(.inl 0)else(.inr ()))
def ep(y1 y2:List (Int×(Int×Int)))(i:Nat):(Unit)→bX
 |_=>((i:Int),y1,y2)
def ng:bX→Unit
 |(_,_,_)=>()
theorem wF(y1 y2:List (Int×(Int×Int))) (hn:y1.length≤9223372036854775807) (he:y2.length=y1.length):
  aH.fin ((0:Int),y1,y2)=true∧aH.res ((0:Int),y1,y2)=((aR (fy y1 y2) 1 (List.range y1.length) 0 ()).1,(ep y1 y2) (aR (fy y1 y2) 1 (List.range y1.length) 0 ()).2.1 (aR (fy y1 y2) 1 (List.range y1.length) 0 ()).2.2):=by
 have jb:=aH.along (ep y1 y2) ng (fy y1 y2) 1 (fun _ _=>True) (List.range y1.length) () (by trivial) (by simp only [aH,ep,List.length_range];omega) (fun i b a hb hI=> ?_) (fun a hI=> ?_)
 ·exact jb
 ·obtain⟨⟩:=a
  obtain⟨rfl,dE⟩:=oS hb
  have hw:IntKind.i64.wrap ((b:Int) + 1)=((b + 1:Nat):Int):=by rw [cE (by omega) (by omega)];omega
  have gh:ltI (b:Int) (y1.length:Int)=true:=jg (by omega)
  have sx:leI (0:Int) (b:Int)=true:=gt (by omega)
  have lh:ltN b y1.length=true:=lm (by omega)
  refine⟨?_,?_,?_,?_⟩
  ·simp [ej,ek,fD,fF,gU,gV,gW,gX,gY,gH,aH,LT.nds,allT,ep,gh,sx,lh,he]
  ·simp [ej,ek,fD,fF,gU,gV,gW,gX,gY,gH,aH,LT.each,ep,ng,hw,he]
  ·simp only [ej,ek,fD,fF,gU,gV,gW,gX,gY,gH,aH,LT.fn,ep,ng,fy,Int.toNat_natCast,gh,cond_true]
  ·exact fun _ _=>trivial
 ·obtain⟨⟩:=a
  simp [ej,ek,fD,fF,gU,gV,gW,gX,gY,gH,aH,LT.out,ep,List.length_range]
theorem Kl(xs:List (Int×Int×Int))(hn:leN xs.length 1048576=true):mX xs=xs∧mY xs=true:=by
 have hn:=kO.1 hn
 have hr:(List.replicate (Int.toNat (xs.length:Int)) ((0:Int),(0:Int),(0:Int))).length=xs.length:=by simp
 obtain⟨w1,w2⟩:=wG xs (List.replicate (Int.toNat (xs.length:Int)) ((0:Int),(0:Int),(0:Int))) (by omega) hr
 have hc:=ET (xs:=xs) (d:=((0:Int),(0:Int),(0:Int))) (g:=fun x=>x) (f:=eB xs) (e:=0) (fun b a=>rfl) hr
 rw [hc]at w2
 refine⟨?_,?_⟩
 ·simp only [lL,mX,mY,w2,cT];simp
 ·simp only [lL,mX,mY,w1,allT];simp;omega
def sD:List SV→List Entry→Option Out
 | [.one ⟨false,[.ref 0]⟩],[.row false 131 (.pair (.int .i64) (.pair (.int .i64) (.int .i64))) x0]=>some ⟨.one ⟨false,[.ref 1]⟩,[.row false 131 OZ x0],[.row true 129 OZ x0],[leN x0.length 1048576]⟩
 |_,_=>none
def oW:PF prog:=PF.alt zD sD (by
 intro args es o h bf;unfold sD at h;split at h
 ·rename_i x0
  cases h
  have bf:=jj bf
  have hh:=Kl x0 bf
  obtain⟨e0,en⟩:=hh
  exact jG rfl (fX en) rfl rfl (by simp only [e0] <;> rfl)
 ·cases h)
theorem Jn(xs ys:List (Int×Int×Int))(hn:leN xs.length 9223372036854775807=true):mV xs ys=rD xs ys∧mW xs ys=true:=by
 have hn:=kO.1 hn
 unfold rD
 have h3: ∀ a b:Int×Int×Int,(!ki a.1 a.2.1 a.2.2 b.1 b.2.1 b.2.2)= !decide (a=b):=fun a b=>by
  obtain⟨a1,a2,a3⟩:=a;obtain⟨b1,b2,b3⟩:=b
  simp only [ki,Prod.mk.injEq]
  by_cases h1:a1=b1 <;> by_cases h2:a2=b2 <;> by_cases h3:a3=b3 <;> simp [h1,h2,h3]
 by_cases hl:ys.length=xs.length
 ·obtain⟨w1,w2⟩:=wF xs ys hn hl
  have ha:=Mp (d:=((0:Int),(0:Int),(0:Int))) hl (P:=fun b=> !decide (Option.getD xs[b]? (0,0,0)=Option.getD ys[b]? (0,0,0))) (fun b=>rfl)
  rw [rJ (P:=fun b=> !decide (Option.getD xs[b]? (0,0,0)=Option.getD ys[b]? (0,0,0))) (j:=0) (fun b=>by simp only [fy,h3]),ha]at w2
  simp only [lH,lI,mV,mW,w1,w2,allT]
  by_cases he:xs=ys
  ·subst he;simp;decide
  ·simp [he,hl]
 ·have sw:xs≠ys:=fun h=>hl (by rw [h])
  simp [lH,lI,mV,mW,allT,sw]
  omega
def sC:List SV→List Entry→Option Out
 | [.one ⟨false,[.ref 0]⟩,.one ⟨false,[.ref 1]⟩],[.row false 129 (.pair (.int .i64) (.pair (.int .i64) (.int .i64))) x0,.row false 129 (.pair (.int .i64) (.pair (.int .i64) (.int .i64))) x1]=>some ⟨.one ⟨false,[.val (.bool (rD x0 x1))]⟩,[.row false 129 OZ x0,.row false 129 OZ x1],[],[leN x0.length 9223372036854775807]⟩
 |_,_=>none
def oV:PF prog:=PF.alt zC sC (by
 intro args es o h bf;unfold sC at h;split at h
 ·rename_i x0 x1
  cases h
  have bf:=jj bf
  have hh:=Jn x0 x1 bf
  obtain⟨e0,en⟩:=hh
  exact jG rfl (fX en) (by simp only [e0] <;> rfl) rfl rfl
 ·cases h)
theorem Fq(n:Int): ∀ (es:List (Int×Int×Int)) (s:List Int×List Int),(EN n es s).length=es.length + 1
 | [],s=>rfl
 |e::es,s=>by simp [EN,Fq n es]
theorem Ij(n:Int): ∀ (es:List (Int×Int×Int)) (s:List Int×List Int),(EN n es s)[es.length]? =some (Fp n es s).1
 | [],s=>rfl
 |e::es,s=>by simp only [EN,List.length_cons,List.getElem?_cons_succ];exact Ij n es _
theorem Dm(n:Int)(ps:List Int)(es:List (Int×Int×Int)):sK n ps es=FH n ps es∧sL n ps es=oq n ps es∧sM n ps es=rvP n ps es∧sN n ps es=rvS n ps es∧pY n ps es=true:=by
 simp only [sK,sL,sM,sN,pY,fQ,pk]
 cases hg:ul n ps es with
 |false=>
  have h1:(oq n ps es !=0)=true:=by simp only [ul]at hg;simpa using Ix.1 hg
  simp [h1,FH,rvP,rvS,hg,allT]
 |true=>
  have h1:(oq n ps es !=0)=false:=by simp only [ul]at hg;simpa using Dh.1 hg
  have h0:oq n ps es=0:=by simpa using h1
  have h2:=Fq n es (rv0 n ps)
  have h3:=Ij n es (rv0 n ps)
  have l1:leI 0 (es.length:Int)=true:=gt (by omega)
  have l2:ltI (es.length:Int) (((EN n es (rv0 n ps)).length:Nat):Int)=true:=jg (by omega)
  have l3:ltN es.length (EN n es (rv0 n ps)).length=true:=lm (by omega)
  simp [h1,h0,FH,rvP,rvS,rvL,hg,allT,h3,l1,l2,l3]
  try exact⟨rfl,rfl⟩
def wU:List SV→List Entry→Option Out
 | [.one ⟨true,[.val (.int .i64 x0),.ref 0]⟩,.one ⟨false,[.ref 1]⟩],[.row false 2 (.int .i64) x1,.row false 129 (.pair (.int .i64) (.pair (.int .i64) (.int .i64))) x2]=>some ⟨.tup [⟨true,[.val (.int .i64 (FH x0 x1 x2)),.ref 2]⟩,⟨false,[.ref 3]⟩,⟨false,[.val (.int .i64 (oq x0 x1 x2))]⟩],[.row false 2 Pc x1,.row false 129 OZ x2],[.row false 2 Pc (rvP x0 x1 x2),.row false 2 Pc (rvS x0 x1 x2)],[]⟩
 |_,_=>none
def te:PF prog:=PF.alt Ez wU (by
 intro args es o h bf;unfold wU at h;split at h
 ·rename_i x0 x1 x2
  cases h
  have hh:=Dm x0 x1 x2
  obtain⟨e0,e1,e2,e3,en⟩:=hh
  exact jG rfl (fX en) (by simp only [e0,e1] <;> rfl) rfl (by simp only [e2,e3] <;> rfl)
 ·cases h)
abbrev gj:=Int×Int×List (Int×(Int×Int))×List Int×Int×List (Int×(List Int))×List Int
section
variable (y0 y1:Int)(y2:List (Int×(Int×Int)))(y3:List Int)(y4:Int)(y5:List (Int×(List Int)))(y6:List Int)
def bo:Int×Int×Int:=Option.getD y2[Int.toNat y0]? ((0:Int),(0:Int),(0:Int))
def ut:Int:=gd ((bo y0 y2).1) (((bo y0 y2).2).1) ((bo y0 y2).2.2) y4 y3 y6
def uu:List Int:=gf ((bo y0 y2).1) (((bo y0 y2).2).1) ((bo y0 y2).2.2) y4 y3 y6
def qr:List (Int×List Int):= [(ut y0 y2 y3 y4 y6,uu y0 y2 y3 y4 y6)]
def Co:Bool:=ltI y0 y1
def Cp:Bool:=leI 0 y0
def Cq:Bool:=ltI y0 (↑y2.length:Int)
def Cr:Bool:=ltN y0.toNat y2.length
def Cs:Bool:=gg ((bo y0 y2).1) (((bo y0 y2).2).1) ((bo y0 y2).2.2) y4 y3 y6
def Ct:Bool:= !gc ((bo y0 y2).1) (((bo y0 y2).2).1) ((bo y0 y2).2.2) y4 y3 y6
def uY:List Int:=ge ((bo y0 y2).1) (((bo y0 y2).2).1) ((bo y0 y2).2.2) y4 y3 y6
def uZ:Int:=ut y0 y2 y3 y4 y6
def va:List Int:=uu y0 y2 y3 y4 y6
def Cu:Bool:=leN (List.length y5 + List.length (qr y0 y2 y3 y4 y6)) 9223372036854775807
def Br:Bool:=leN ((List.length y5 + List.length (qr y0 y2 y3 y4 y6)) * 32) 140737488355328
def Bs:Int:=IntKind.wrap .i64 (y0 + (1:Int))
def Bt:List (Int×(List Int)):=y5++qr y0 y2 y3 y4 y6
end
def AW:gj→List (Nat×SV)
 |(y0,y1,_,_,_,_,_)=> [(27,(.one ⟨false,[.val (.int .i64 y0)]⟩)),(26,(.one ⟨false,[.val (.int .i64 y1)]⟩)),(25,(.one ⟨false,[.ref 0]⟩)),(9,(.one ⟨false,[.ref 1]⟩)),(2,(.one ⟨false,[.ptr 2 0]⟩)),(8,(.one ⟨false,[.ref 3]⟩))]
def AO:gj→List (Nat×Entry)
 |(_,_,y2,y3,y4,y5,y6)=> [(0,(.row true 129 OZ y2)),(1,(.row true 2 Pc y3)),(2,(.box 26 [.val (.int .i64 y4),.ref 4])),(3,(.row true 26 Pb y5)),(4,(.row false 2 Pc y6))]
def Bk:Nat→gj→List (Nat×SV)
 |0,(_,_,_,_,_,_,_)=> [(4,(.one ⟨false,[.ref 5]⟩)),(5,(.one ⟨false,[.ref 6]⟩)),(6,(.one ⟨false,[.val (.int .i64 5)]⟩))]
 |_,(_,_,_,_,_,_,_)=> [(8,(.one ⟨false,[.ref 3]⟩))]
def Bd:Nat→gj→List (Nat×Entry)
 |0,(y0,_,y2,y3,y4,y5,y6)=> [(0,(.row true 129 OZ y2)),(1,(.row true 2 Pc (uY y0 y2 y3 y4 y6))),(2,(.box 26 [.val (.int .i64 (uZ y0 y2 y3 y4 y6)),.ref 7])),(3,(.row true 26 Pb y5)),(4,(.row false 2 Pc y6)),(5,(.row true 26 Pb [])),(6,(.row true 2 Pc [])),(7,(.row false 2 Pc (va y0 y2 y3 y4 y6)))]
 |_,(_,_,y2,y3,y4,y5,y6)=> [(0,(.row true 129 OZ y2)),(1,(.row true 2 Pc y3)),(2,(.box 26 [.val (.int .i64 y4),.ref 4])),(3,(.row true 26 Pb y5)),(4,(.row false 2 Pc y6))]
def Bx:gj→LT gj
 |(y0,y1,y2,y3,y4,y5,y6)=> .ite (Co y0 y1) (.need [Cp y0,Cq y0 y2,Cr y0 y2] (.need [Cs y0 y2 y3 y4 y6] (.ite (Ct y0 y2 y3 y4 y6) (.ext 0 [(0,0),(1,1),(2,2),(3,3),(4,4),(5,640),(6,704),(7,512)]) (.need [Cu y0 y2 y3 y4 y5 y6,Br y0 y2 y3 y4 y5 y6] (.nrm ((Bs y0),y1,y2,uY y0 y2 y3 y4 y6,uZ y0 y2 y3 y4 y6,Bt y0 y2 y3 y4 y5 y6,(va y0 y2 y3 y4 y6)) [(0,0),(1,1),(2,2),(3,832),(4,512)]))))) (.ext 1 [(0,0),(1,1),(2,2),(3,3),(4,4)])
def qC(s:St):Option gj:=
 (match s.look 27 with
 |some ⟨none,.one ⟨false,[.val (.int .i64 y0)]⟩⟩=>
 (match s.look 26 with
 |some ⟨none,.one ⟨false,[.val (.int .i64 y1)]⟩⟩=>
 (match s.look 25 with
 |some ⟨none,.one ⟨false,[.ref 1]⟩⟩=>
 (match s.look 9 with
 |some ⟨none,.one ⟨false,[.ref 1344]⟩⟩=>
 (match s.look 2 with
 |some ⟨none,.one ⟨false,[.ptr 192 0]⟩⟩=>
 (match s.look 8 with
 |some ⟨none,.one ⟨false,[.ref 1088]⟩⟩=>
 (match s.ent 1 with
 |some (.row true 129 (.pair (.int .i64) (.pair (.int .i64) (.int .i64))) y2)=>
 (match s.ent 1344 with
 |some (.row true 2 (.int .i64) y3)=>
 (match s.ent 192 with
 |some (.box 26 [.val (.int .i64 y4),.ref 896])=>
 (match s.ent 1088 with
 |some (.row true 26 (.pair (.int .i64) (.sl 2 (.int .i64))) y5)=>
 (match s.ent 896 with
 |some (.row false 2 (.int .i64) y6)=>
 some (y0,y1,y2,y3,y4,y5,y6)
 |_=>none)
 |_=>none)
 |_=>none)
 |_=>none)
 |_=>none)
 |_=>none)
 |_=>none)
 |_=>none)
 |_=>none)
 |_=>none)
 |_=>none)
def gJ:Lp gj where
 h:=⟨[28,29,30,11,31,32,33,34,4,5,6,35,36,37,38,8,39,27],[0,1,2],[3,4],[5,6,7]⟩
 JL:=AW
 JE:=AO
 XL:=Bk
 XE:=Bd
 q:=fun j=>match j with | 0=> .ret | _=> .exit 0
 tags:= [0,1]
 lt:=Bx
 fuel:=fun(y0,y1,y2,y3,y4,y5,y6)=>y0.natAbs + y1.natAbs + y2.length + y3.length + y4.natAbs + y5.length + y6.length
 fix:=fun(_,y1,y2,_,_,_,_) (y0,_,_,y3,y4,y5,y6)=>(y0,y1,y2,y3,y4,y5,y6)
 σ:= [(0,1),(1,1344),(2,192),(3,1088),(4,896)]
 rd:=qC
theorem zt:LoopOk prog (fun k=>Nat.blt k Try.f112.ntmps) gJ.F (dl f112 0):=by
 refine Lp.ok (tbl:= (T3z [dK,dL,ag,bm])) (lf:= []) cw gJ (by kernel_rfl) (LOk.nil _) (fun _=>rfl) (fun j _=>by unfold gJ;match j with | 0=>rfl | _ + 1=>rfl) ?_ ?_ ?_ ?_ (fun _=>rfl) ?_
 ·rintro⟨y0,y1,y2,y3,y4,y5,y6⟩;kernel_rfl
 ·rintro⟨y0,y1,y2,y3,y4,y5,y6⟩;kernel_rfl
 ·intro s x h
  have h:qC s=some x:=h
  unfold qC at h
  repeat' split at h
  all_goals cases h
  constructor<;>repeat(first|refine ac (by assumption) rfl ?_|refine aq rfl (by assumption) rfl ?_|exact rfl)
 ·rintro⟨y0,y1,y2,y3,y4,y5,y6⟩;kernel_rfl
 ·rintro⟨y0,y1,y2,y3,y4,y5,y6⟩ z;exact(And.intro (And.intro trivial rfl) trivial)
section
variable (x0:Int)(x1:List Int)(x2:List (Int×Int×Int))
def eQ:Bool:=pQ x0 x1 x2 !=0
def sU:Int×Int×List (Int×Int×Int)×List Int×Int×List (Int×List Int)×List Int:=((0:Int),(↑x2.length:Int),x2,List.replicate x0.toNat (0:Int),x0,[(x0,x1)],x1)
def oe:Bool:=Nat.beq ((Lp.res gJ (sU x0 x1 x2)).1) 0
def xw:List Int×Int×List (Int×List Int)×List Int:=(Lp.res gJ (sU x0 x1 x2)).2.2.2.2
def qR:Int:=bif eQ x0 x1 x2 then pQ x0 x1 x2 else bif oe x0 x1 x2 then(5:Int)else(0:Int)
def oK:List Int:=bif eQ x0 x1 x2 then x1 else bif oe x0 x1 x2 then x1 else x1
def nk:List (Int×(Int×Int)):=bif eQ x0 x1 x2 then x2 else bif oe x0 x1 x2 then x2 else x2
def oL:List (Int×(List Int)):=bif eQ x0 x1 x2 then []else bif oe x0 x1 x2 then []else ((xw x0 x1 x2).2.2).1
def ud:List Int:=bif eQ x0 x1 x2 then []else bif oe x0 x1 x2 then []else (xw x0 x1 x2).1
def ue:Bool:=allT [eQ x0 x1 x2||aT x1,eQ x0 x1 x2||leI 0 x0,eQ x0 x1 x2||leI x0 x0,eQ x0 x1 x2||leI ((↑(8:Nat):Int) * x0) 281474976710656,eQ x0 x1 x2||leI x0 9223372036854775807,eQ x0 x1 x2||Lp.fin gJ (sU x0 x1 x2)]
end
def yK:List SV→List Entry→Option Out
 | [.one ⟨true,[.val (.int .i64 x0),.ref 0]⟩,.one ⟨false,[.ref 1]⟩],[.row true 2 (.int .i64) x1,.row true 129 (.pair (.int .i64) (.pair (.int .i64) (.int .i64))) x2]=>some ⟨.tup [⟨false,[.ref 2]⟩,⟨false,[.ref 3]⟩,⟨false,[.val (.int .i64 (qR x0 x1 x2))]⟩],[.row true 2 Pc (oK x0 x1 x2),.row true 129 OZ (nk x0 x1 x2)],[.row true 26 Pb (oL x0 x1 x2),.row true 2 Pc (ud x0 x1 x2)],[ue x0 x1 x2]⟩
 |_,_=>none
def FB:PF prog:=PF.ofG prog (T3z [dK,dL,ag,bm]) [gJ.F] cw 112 f112 func112 (LOk.fnT (l:= [dl f112 0]) (by kernel_rfl) (.cons zt (.nil _))) yK (by
 intro vs es r h;unfold yK at h;split at h
 ·cases h;kernel_rfl
 ·cases h)
section
variable (x0:Int)(x1:List Int)(x2:List (Int×Int×Int))
def ed:Bool:=qR x0 x1 x2 !=0
def li:Int:=(↑(List.length (nk x0 x1 x2)):Int)
def qp:Int×List Int:=Option.getD (oL x0 x1 x2)[Int.toNat (li x0 x1 x2)]? (nb Pb)
def re:Int:=bif ed x0 x1 x2 then(0:Int)else (qp x0 x1 x2).1
def rf:Int:=bif ed x0 x1 x2 then qR x0 x1 x2 else(0:Int)
def rg:List Int:=bif ed x0 x1 x2 then oK x0 x1 x2 else oK x0 x1 x2
def rh:List (Int×(Int×Int)):=bif ed x0 x1 x2 then nk x0 x1 x2 else nk x0 x1 x2
def ri:List Int:=bif ed x0 x1 x2 then []else (qp x0 x1 x2).2
def rj:List Int:=bif ed x0 x1 x2 then []else ud x0 x1 x2
def rk:Bool:=allT [ue x0 x1 x2,ed x0 x1 x2||leI 0 (li x0 x1 x2),ed x0 x1 x2||ltI (li x0 x1 x2) (↑(List.length (oL x0 x1 x2)):Int),ed x0 x1 x2||ltN (Int.toNat (li x0 x1 x2)) (List.length (oL x0 x1 x2))]
end
def uM:List SV→List Entry→Option Out
 | [.one ⟨true,[.val (.int .i64 x0),.ref 0]⟩,.one ⟨false,[.ref 1]⟩],[.row true 2 (.int .i64) x1,.row true 129 (.pair (.int .i64) (.pair (.int .i64) (.int .i64))) x2]=>some ⟨.tup [⟨true,[.val (.int .i64 (re x0 x1 x2)),.ref 2]⟩,⟨false,[.ref 3]⟩,⟨false,[.val (.int .i64 (rf x0 x1 x2))]⟩],[.row true 2 Pc (rg x0 x1 x2),.row true 129 OZ (rh x0 x1 x2)],[.row false 2 Pc (ri x0 x1 x2),.row true 2 Pc (rj x0 x1 x2)],[rk x0 x1 x2]⟩
 |_,_=>none
def CB:PF prog:=PF.ofG prog [PF.first prog,FB] [] cw 67 f67 func67 (fun c _=>LOk.nil c) uM (by
 intro vs es r h;unfold uM at h;split at h
 ·cases h;kernel_rfl
 ·cases h)
theorem KP(n:Int)(ps:List Int)(es:List (Int×Int×Int)):
  qR n ps es=oq n ps es∧oK n ps es=ps∧nk n ps es=es∧oL n ps es=rvL n ps es∧ud n ps es=rvS n ps es∧ue n ps es=true:=by
 obtain⟨h0,h1,h2,h3⟩:=HO n ps es
 refine⟨h0,?_,?_,h1,h2,h3⟩
 ·simp only [oK,Bool.cond_self]
 ·simp only [nk,Bool.cond_self]
theorem Hk(n:Int)(ps:List Int)(es:List (Int×Int×Int)):re n ps es=FH n ps es∧rf n ps es=oq n ps es∧rg n ps es=ps∧rh n ps es=es∧
  ri n ps es=rvP n ps es∧rj n ps es=rvS n ps es∧rk n ps es=true:=by
 obtain⟨h0,h1,h2,h3,h4,h5⟩:=KP n ps es
 obtain⟨k0,k1,k2,k3,k4⟩:=Dm n ps es
 simp only [re,rf,rg,rh,ri,rj,rk,ed,li,qp,h0,h1,h2,h3,h4,h5,Bool.cond_self]
 refine⟨k0,k1,trivial,trivial,k2,k3,?_⟩
 simp only [pY,fQ,pk]at k4
 simp only [allT,cond_true]
 simpa only [allT] using k4
def uP:List SV→List Entry→Option Out
 | [.one ⟨true,[.val (.int .i64 x0),.ref 0]⟩,.one ⟨false,[.ref 1]⟩],[.row true 2 (.int .i64) x1,.row true 129 (.pair (.int .i64) (.pair (.int .i64) (.int .i64))) x2]=>some ⟨.tup [⟨true,[.val (.int .i64 (FH x0 x1 x2)),.ref 2]⟩,⟨false,[.ref 3]⟩,⟨false,[.val (.int .i64 (oq x0 x1 x2))]⟩],[.row true 2 Pc x1,.row true 129 OZ x2],[.row false 2 Pc (rvP x0 x1 x2),.row true 2 Pc (rvS x0 x1 x2)],[]⟩
 |_,_=>none
def CA:PF prog:=PF.alt CB uP (by
 intro args es o h bf;unfold uP at h;split at h
 ·rename_i x0 x1 x2
  cases h
  have hh:=Hk x0 x1 x2
  obtain⟨e0,e1,e2,e3,e4,e5,en⟩:=hh
  exact jG rfl (fX en) (by simp only [e0,e1] <;> rfl) (by simp only [e2,e3] <;> rfl) (by simp only [e4,e5] <;> rfl)
 ·cases h)
theorem Lp.shift{X:Type}(p:Lp X){x y:X}(hf:p.fin x=true)(ho:(p.lt x).out=some (.inr y))(pj:p.fuel x≤p.fuel y):p.fin y=true∧p.res y=p.res x:=by
 have h:=p.fin_ex hf
 have hp:big (p.fuel x)=(big (p.fuel x) - 1) + 1:=by
  have:0 < big (p.fuel x):=by rw [Is];exact Nat.pow_pos (by omega)
  omega
 rw [hp,Ie _ ho]at h
 refine p.run h (Nat.le_trans (Nat.sub_le _ _) ?_)
 rw [Is,Is]
 exact Nat.pow_le_pow_left (by omega) 4
theorem gt0:GT= []:=rfl
def IW:PF prog:=PF.thaw CA gt0
end Go.SX
