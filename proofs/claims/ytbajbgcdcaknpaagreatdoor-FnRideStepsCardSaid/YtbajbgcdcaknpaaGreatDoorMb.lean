/- What functions of the program come to, and what that says in plain words: part 2. -/
import Derived.Test.YtbajbgcdcaknpaaGreatDoorMa
import Derived.Test.YtbajbgcdcaknpaaGreatDoorTXh
import Derived.Test.YtbajbgcdcaknpaaGreatDoorProg
import Derived.Test.YtbajbgcdcaknpaaGreatDoorTXk
set_option linter.unusedSimpArgs false
set_option linter.unusedVariables false
namespace Go.SX
open Go.Proofs
set_option maxRecDepth 100000
abbrev kr:=Int×Int×List Int×List Int
section
variable (y0 y1:Int)(y2 y3:List Int)
def uS:Int:=Option.getD y2[Int.toNat y0]? (0:Int)
def Cn:Bool:=ltI y0 y1
def wl:Bool:=leI (0:Int) y0
def Co:Bool:=ltI y0 (↑y2.length:Int)
def Cp:Bool:=ltN y0.toNat y2.length
def Cq:Bool:=ltI y0 (↑y3.length:Int)
def Cr:Bool:=ltN y0.toNat y3.length
def Cs:Int:=IntKind.wrap .i64 (y0 + (1:Int))
def Ct:List Int:=List.set y3 y0.toNat (ajW (1:Int) (uS y0 y2) (1:Int) (uS y0 y2))
end
def ad9:kr→List (Nat×SV)
 |(y0,y1,_,_)=> [(17,(.one ⟨false,[(.val (.int .i64 y0))]⟩)),(16,(.one ⟨false,[(.val (.int .i64 y1))]⟩)),(15,(.one ⟨false,[(.ref 0)]⟩)),(5,(.one ⟨false,[(.ref 1)]⟩))]
def ad1:kr→List (Nat×Entry)
 |(_,_,y2,y3)=> [(0,(.row true 2 asg y2)),(1,(.row true 2 asg y3))]
def aep:Nat→kr→List (Nat×SV)
 |_,(_,_,_,_)=> []
def aeh:Nat→kr→List (Nat×Entry)
 |_,(_,_,y2,y3)=> [(0,(.row true 2 asg y2)),(1,(.row true 2 asg y3))]
def Ao:kr→LT kr
 |(y0,y1,y2,y3)=> .ite (Cn y0 y1) (.need [(wl y0),(Co y0 y2),(Cp y0 y2)] (.need [(wl y0),(Cq y0 y3),(Cr y0 y3)] (.nrm ((Cs y0),y1,y2,(Ct y0 y2 y3)) [(0,0),(1,1)]))) (.ext 0 [(0,0),(1,1)])
def Mi(s:St):Option kr:=
 (match s.look 17 with
 |some ⟨none,(.one ⟨false,[(.val (.int .i64 y0))]⟩)⟩=>
 (match s.look 16 with
 |some ⟨none,(.one ⟨false,[(.val (.int .i64 y1))]⟩)⟩=>
 (match s.look 15 with
 |some ⟨none,(.one ⟨false,[(.ref 640)]⟩)⟩=>
 (match s.look 5 with
 |some ⟨none,(.one ⟨false,[(.ref 448)]⟩)⟩=>
 (match s.ent 640 with
 |some (.row true 2 (.int .i64) y2)=>
 (match s.ent 448 with
 |some (.row true 2 (.int .i64) y3)=>
 some (y0,y1,y2,y3)
 |_=>none)
 |_=>none)
 |_=>none)
 |_=>none)
 |_=>none)
 |_=>none)
def dT:Lp kr where
 h:=⟨[18,19,20,21,6,7,22,23,24,25,26,27,17],[0,1],[],[]⟩
 JL:=ad9
 JE:=ad1
 XL:=aep
 XE:=aeh
 q:=fun j=>match j with | _=> .exit 0
 tags:= [0]
 lt:=Ao
 fuel:=fun(y0,y1,y2,y3)=>y0.natAbs + y1.natAbs + y2.length + y3.length
 fix:=fun(_,y1,y2,_) (y0,_,_,y3)=>(y0,y1,y2,y3)
 σ:= [(0,640),(1,448)]
 rd:=Mi
theorem abX:LoopOk Tryz.prog (fun k=>Nat.blt k Tryz.f202.ntmps) dT.F (aT Tryz.f202 0):=by
 refine Lp.ok (tbl:= [ay,PF.lend ay,PF.fz ay,bE,PF.lend bE,PF.fz bE]) (lf:= []) aS dT (by kernel_rfl) (LOk.nil _) (fun _=>rfl) (fun _ _=>rfl) ?_ ?_ ?_ ?_ (fun _=>rfl) ?_
 ·rintro⟨y0,y1,y2,y3⟩;kernel_rfl
 ·rintro⟨y0,y1,y2,y3⟩;kernel_rfl
 ·intro s x h
  have h:Mi s=some x:=h
  unfold Mi at h
  repeat' split at h
  all_goals cases h
  exact⟨aa (by assumption) rfl (aa (by assumption) rfl (aa (by assumption) rfl (aa (by assumption) rfl (rfl)))),ab rfl (by assumption) rfl (ab rfl (by assumption) rfl (rfl))⟩
 ·rintro⟨y0,y1,y2,y3⟩;kernel_rfl
 ·rintro⟨y0,y1,y2,y3⟩ z;exact(And.intro rfl trivial)
abbrev kt:=Int×Int×List (Int×(Int×Int))×List Int×List Int
section
variable (y0 y1:Int)(y2:List (Int×(Int×Int)))(y3 y4:List Int)
def dR:Int×Int×Int:=Option.getD y2[Int.toNat y0]? ((0:Int),(0:Int),(0:Int))
def gG:Bool:=((dR y0 y2).2).1==(0:Int)
def uT:Bool:=leI (0:Int) ((dR y0 y2).1)
def Cu:Bool:=ltI y0 y1
def Cv:Bool:=leI (0:Int) y0
def Cw:Bool:=ltI y0 (↑y2.length:Int)
def Cx:Bool:=ltN y0.toNat y2.length
def Cy:Bool:= !gG y0 y2||uT y0 y2
def Cz:Bool:= !gG y0 y2||ltI ((dR y0 y2).1) (↑y3.length:Int)
def CA:Bool:= !gG y0 y2||ltN (Int.toNat ((dR y0 y2).1)) y3.length
def CB:Bool:=gG y0 y2||uT y0 y2
def CC:Bool:=gG y0 y2||ltI ((dR y0 y2).1) (↑y4.length:Int)
def CD:Bool:=gG y0 y2||ltN (Int.toNat ((dR y0 y2).1)) y4.length
def Ah:Int:=IntKind.wrap .i64 (y0 + (1:Int))
def Ai:List Int:=bif gG y0 y2 then List.set y3 (Int.toNat ((dR y0 y2).1)) ((dR y0 y2).2.2)else y3
def Aj:List Int:=bif gG y0 y2 then y4 else List.set y4 (Int.toNat ((dR y0 y2).1)) ((dR y0 y2).2.2)
end
def aea:kt→List (Nat×SV)
 |(y0,y1,_,_,_)=> [(34,(.one ⟨false,[(.val (.int .i64 y0))]⟩)),(33,(.one ⟨false,[(.val (.int .i64 y1))]⟩)),(32,(.one ⟨false,[(.ref 0)]⟩)),(8,(.one ⟨false,[(.ptr 1 0)]⟩))]
def ad2:kt→List (Nat×Entry)
 |(_,_,y2,y3,y4)=> [(0,(.row false 169 ase y2)),(1,(.box 130 [(.ref 2),(.ref 3)])),(2,(.row true 2 asg y3)),(3,(.row true 2 asg y4))]
def aeq:Nat→kt→List (Nat×SV)
 |_,(_,_,_,_,_)=> []
def aei:Nat→kt→List (Nat×Entry)
 |_,(_,_,y2,y3,y4)=> [(0,(.row false 169 ase y2)),(1,(.box 130 [(.ref 2),(.ref 3)])),(2,(.row true 2 asg y3)),(3,(.row true 2 asg y4))]
def Ap:kt→LT kt
 |(y0,y1,y2,y3,y4)=> .ite (Cu y0 y1) (.need [(Cv y0),(Cw y0 y2),(Cx y0 y2)] (.need [(Cy y0 y2),(Cz y0 y2 y3),(CA y0 y2 y3),(CB y0 y2),(CC y0 y2 y4),(CD y0 y2 y4)] (.nrm ((Ah y0),y1,y2,(Ai y0 y2 y3),(Aj y0 y2 y4)) [(0,0),(1,1),(2,2),(3,3)]))) (.ext 0 [(0,0),(1,1),(2,2),(3,3)])
def Mj(s:St):Option kt:=
 (match s.look 34 with
 |some ⟨none,(.one ⟨false,[(.val (.int .i64 y0))]⟩)⟩=>
 (match s.look 33 with
 |some ⟨none,(.one ⟨false,[(.val (.int .i64 y1))]⟩)⟩=>
 (match s.look 32 with
 |some ⟨none,(.one ⟨false,[(.ref 1)]⟩)⟩=>
 (match s.look 8 with
 |some ⟨none,(.one ⟨false,[(.ptr 1152 0)]⟩)⟩=>
 (match s.ent 1 with
 |some (.row false 169 (.pair (.int .i64) (.pair (.int .i64) (.int .i64))) y2)=>
 (match s.ent 1152 with
 |some (.box 130 [(.ref 448),(.ref 1024)])=>
 (match s.ent 448 with
 |some (.row true 2 (.int .i64) y3)=>
 (match s.ent 1024 with
 |some (.row true 2 (.int .i64) y4)=>
 some (y0,y1,y2,y3,y4)
 |_=>none)
 |_=>none)
 |_=>none)
 |_=>none)
 |_=>none)
 |_=>none)
 |_=>none)
 |_=>none)
def dU:Lp kt where
 h:=⟨[35,36,37,10,38,39,40,41,42,43,44,45,46,47,48,49,50,51,52,53,54,55,34],[0,1,2,3],[],[]⟩
 JL:=aea
 JE:=ad2
 XL:=aeq
 XE:=aei
 q:=fun j=>match j with | _=> .exit 2
 tags:= [0]
 lt:=Ap
 fuel:=fun(y0,y1,y2,y3,y4)=>y0.natAbs + y1.natAbs + y2.length + y3.length + y4.length
 fix:=fun(_,y1,y2,_,_) (y0,_,_,y3,y4)=>(y0,y1,y2,y3,y4)
 σ:= [(0,1),(1,1152),(2,448),(3,1024)]
 rd:=Mj
theorem abY:LoopOk Tryz.prog (fun k=>Nat.blt k Tryz.f202.ntmps) dU.F (aT Tryz.f202 1):=by
 refine Lp.ok (tbl:= [ay,PF.lend ay,PF.fz ay,bE,PF.lend bE,PF.fz bE]) (lf:= []) aS dU (by kernel_rfl) (LOk.nil _) (fun _=>rfl) (fun _ _=>rfl) ?_ ?_ ?_ ?_ (fun _=>rfl) ?_
 ·rintro⟨y0,y1,y2,y3,y4⟩;kernel_rfl
 ·rintro⟨y0,y1,y2,y3,y4⟩;kernel_rfl
 ·intro s x h
  have h:Mj s=some x:=h
  unfold Mj at h
  repeat' split at h
  all_goals cases h
  exact⟨aa (by assumption) rfl (aa (by assumption) rfl (aa (by assumption) rfl (aa (by assumption) rfl (rfl)))),ab rfl (by assumption) rfl (ab rfl (by assumption) rfl (ab rfl (by assumption) rfl (ab rfl (by assumption) rfl (rfl))))⟩
 ·rintro⟨y0,y1,y2,y3,y4⟩;kernel_rfl
 ·rintro⟨y0,y1,y2,y3,y4⟩ z;exact(And.intro rfl trivial)
section
variable (x0:Int)(x1:List Int)(x2:List (Int×Int×Int))
def LM:Int×Int×List Int×List Int:=((0:Int),(↑(List.length (tK x0 x1)):Int),tK x0 x1,List.replicate x0.toNat (0:Int))
def Bq:List Int:=(Lp.res dT (LM x0 x1)).2.2.2.2
def Ge:Int×Int×List (Int×Int×Int)×List Int×List Int:=((0:Int),(↑x2.length:Int),x2,Bq x0 x1,Bq x0 x1)
def LN:List Int×List Int:=(Lp.res dU (Ge x0 x1 x2)).2.2.2.2
def TF:List Int:=(LN x0 x1 x2).1
def TG:List Int:=(LN x0 x1 x2).2
def TH:Bool:=allT [leI (0:Int) x0,leI x0 x0,leI ((↑(8:Nat):Int) * x0) (281474976710656:Int),leI x0 (9223372036854775807:Int),isT x0 x1,Lp.fin dT (LM x0 x1),leN (1:Nat) (List.length (Bq x0 x1))&&leN (List.length (Bq x0 x1)) (1048576:Nat),Lp.fin dU (Ge x0 x1 x2)]
end
def aaY:List SV→List Entry→Option Out
 | [.one ⟨true,[.val (.int .i64 x0),.ref 0]⟩,.one ⟨false,[.ref 1]⟩],[.row false 2 (.int .i64) x1,.row false 169 (.pair (.int .i64) (.pair (.int .i64) (.int .i64))) x2]=>some ⟨(.one ⟨true,[(.ref 2),(.ref 3)]⟩),[(.row false 2 asg x1),(.row false 169 ase x2)],[(.row true 2 asg (TF x0 x1 x2)),(.row true 2 asg (TG x0 x1 x2))],[(TH x0 x1 x2)]⟩
 |_,_=>none
def ajh:PF Tryz.prog:=PF.ofG Tryz.prog [ay,PF.lend ay,PF.fz ay,bE,PF.lend bE,PF.fz bE] [dT.F,dU.F] aS 202 Tryz.f202 Tryz.func202 (LOk.fnT (l:= [aT Tryz.f202 0,aT Tryz.f202 1]) (by kernel_rfl) (.cons abX (.cons abY (.nil _)))) aaY (by
 intro vs es r h;unfold aaY at h;split at h
 ·cases h;kernel_rfl
 ·cases h)
section
variable (x0:Int)(x1 x2:List Int)
def eE:Bool:=Option.getD x1[Int.toNat x0]? (0:Int)==(0:Int)
def mO:Bool:=bif eE x0 x1 then Option.getD x2[Int.toNat x0]? (0:Int)==(0:Int)else false
def mP:Bool:=allT [leI (0:Int) x0,ltI x0 (↑x1.length:Int),ltN x0.toNat x1.length,!(eE x0 x1&&true)||leI (0:Int) x0,!(eE x0 x1&&true)||ltI x0 (↑x2.length:Int),!(eE x0 x1&&true)||ltN x0.toNat x2.length]
end
def vg:List SV→List Entry→Option Out
 | [.one ⟨true,[.ref 0,.ref 1]⟩,.one ⟨false,[.val (.int .i64 x0)]⟩],[.row false 2 (.int .i64) x1,.row false 2 (.int .i64) x2]=>some ⟨(.one ⟨false,[(.val (.bool (mO x0 x1 x2)))]⟩),[(.row false 2 asg x1),(.row false 2 asg x2)],[],[(mP x0 x1 x2)]⟩
 |_,_=>none
def mW:PF Tryz.prog:=PF.ofG Tryz.prog [] [] aS 233 Tryz.f233 Tryz.func233 (fun c _=>LOk.nil c) vg (by
 intro vs es r h;unfold vg at h;split at h
 ·cases h;kernel_rfl
 ·cases h)
section
variable (x0 x1:Int)(x2 x3 x4:List Int)
def iJ:Int:=Option.getD x4[Int.toNat x1]? (0:Int)
def eF:Bool:=Int.tmod (iJ x1 x4) (3:Int)!=(1:Int)
def iK:Int:=Int.tmod (IntKind.wrap .i64 (IntKind.wrap .i64 (Int.tdiv (iJ x1 x4) (3:Int)) + (1:Int))) x0
def mQ:Bool:=bif eF x1 x4 then true else mO (iK x0 x1 x4) x2 x3
def mR:Bool:=allT [leI (0:Int) x1,ltI x1 (↑x4.length:Int),ltN x1.toNat x4.length,!(!eF x1 x4&&true)||neI (3:Int) (0:Int),!(!eF x1 x4&&true)||neI x0 (0:Int),!(!eF x1 x4&&true)||mP (iK x0 x1 x4) x2 x3]
end
def vh:List SV→List Entry→Option Out
 | [.one ⟨true,[.ref 0,.ref 1]⟩,.one ⟨true,[.val (.int .i64 x0),.ref 2]⟩,.one ⟨false,[.val (.int .i64 x1)]⟩],[.row false 2 (.int .i64) x2,.row false 2 (.int .i64) x3,.row false 2 (.int .i64) x4]=>some ⟨(.one ⟨false,[(.val (.bool (mQ x0 x1 x2 x3 x4)))]⟩),[(.row false 2 asg x2),(.row false 2 asg x3),(.row false 2 asg x4)],[],[(mR x0 x1 x2 x3 x4)]⟩
 |_,_=>none
def Iy:PF Tryz.prog:=PF.ofG Tryz.prog [mW,PF.lend mW,PF.fz mW] [] aS 203 Tryz.f203 Tryz.func203 (fun c _=>LOk.nil c) vh (by
 intro vs es r h;unfold vh at h;split at h
 ·cases h;kernel_rfl
 ·cases h)
section
variable (x0 x1:Int)(x2 x3 x4:List Int)
def Ia:Int:=Option.getD x2[Int.toNat x1]? (0:Int)
def sn:Bool:=Int.tmod (Ia x1 x2) (3:Int)!=(1:Int)
def mF:Int:=Int.tmod (IntKind.wrap .i64 (IntKind.wrap .i64 (Int.tdiv (Ia x1 x2) (3:Int)) + (1:Int))) x0
def On:Bool:= !(!sn x1 x2&&true)||leI (0:Int) (mF x0 x1 x2)
def Qv:Bool:=bif sn x1 x2 then true else IntKind.wrap .i64 (Option.getD x3[Int.toNat (mF x0 x1 x2)]? (0:Int) + Option.getD x4[Int.toNat (mF x0 x1 x2)]? (0:Int))==(0:Int)
def Qw:Bool:=allT [leI (0:Int) x1,ltI x1 (↑x2.length:Int),ltN x1.toNat x2.length,neI x0 (0:Int),leI (0:Int) x1,ltI x1 (↑x2.length:Int),ltN x1.toNat x2.length,On x0 x1 x2,!(!sn x1 x2&&true)||ltI (mF x0 x1 x2) (↑x3.length:Int),!(!sn x1 x2&&true)||ltN (Int.toNat (mF x0 x1 x2)) x3.length,On x0 x1 x2,!(!sn x1 x2&&true)||ltI (mF x0 x1 x2) (↑x4.length:Int),!(!sn x1 x2&&true)||ltN (Int.toNat (mF x0 x1 x2)) x4.length]
end
def WS:List SV→List Entry→Option Out
 | [.one ⟨true,[.val (.int .i64 x0),.ref 0]⟩,.one ⟨true,[.ref 1,.ref 2]⟩,.one ⟨false,[.val (.int .i64 x1)]⟩],[.row false 2 (.int .i64) x2,.row false 2 (.int .i64) x3,.row false 2 (.int .i64) x4]=>some ⟨(.one ⟨false,[(.val (.bool (Qv x0 x1 x2 x3 x4)))]⟩),[(.row false 2 asg x2),(.row false 2 asg x3),(.row false 2 asg x4)],[],[(Qw x0 x1 x2 x3 x4)]⟩
 |_,_=>none
def ahp:PF Tryz.prog:=PF.ofG Tryz.prog [] [] aS 221 Tryz.f221 Tryz.func221 (fun c _=>LOk.nil c) WS (by
 intro vs es r h;unfold WS at h;split at h
 ·cases h;kernel_rfl
 ·cases h)
abbrev iV:=Int×Int×List Int×List Int
section
variable (y0 y1:Int)(y2 y3:List Int)
def oe:List Int:= [ajW (↑(aav y1 y3 y0):Int) (1:Int) (↑(aav y1 y3 y0):Int) (1:Int)]
def yI:Bool:=ltI y0 y1
def yJ:Bool:=isT y1 y3
def yK:Bool:=leN (List.length y2 + List.length (oe y0 y1 y3)) (9223372036854775807:Nat)
def yL:Bool:=leN ((List.length y2 + List.length (oe y0 y1 y3)) * (8:Nat)) (140737488355328:Nat)
def yM:Int:=IntKind.wrap .i64 (y0 + (1:Int))
def yN:List Int:=y2++oe y0 y1 y3
end
def abx:iV→List (Nat×SV)
 |(y0,_,_,_)=> [(8,(.one ⟨false,[(.val (.int .i64 y0))]⟩)),(3,(.one ⟨false,[(.ptr 0 0)]⟩)),(7,(.one ⟨false,[(.ref 1)]⟩))]
def abn:iV→List (Nat×Entry)
 |(_,y1,y2,y3)=> [(0,(.box 26 [(.val (.int .i64 y1)),(.ref 2)])),(2,(.row false 2 asg y3)),(1,(.row true 2 asg y2))]
def abR:Nat→iV→List (Nat×SV)
 |_,(_,_,_,_)=> [(7,(.one ⟨false,[(.ref 1)]⟩))]
def abH:Nat→iV→List (Nat×Entry)
 |_,(_,y1,y2,y3)=> [(0,(.box 26 [(.val (.int .i64 y1)),(.ref 2)])),(1,(.row true 2 asg y2)),(2,(.row false 2 asg y3))]
def vV:iV→LT iV
 |(y0,y1,y2,y3)=> .ite (yI y0 y1) (.need [(yJ y1 y3),(yK y0 y1 y2 y3),(yL y0 y1 y2 y3)] (.nrm ((yM y0),y1,(yN y0 y1 y2 y3),y3) [(0,0),(1,704),(2,2)])) (.ext 0 [(0,0),(1,1),(2,2)])
def JG(s:St):Option iV:=
 (match s.look 8 with
 |some ⟨none,(.one ⟨false,[(.val (.int .i64 y0))]⟩)⟩=>
 (match s.look 3 with
 |some ⟨none,(.one ⟨false,[(.ptr 192 0)]⟩)⟩=>
 (match s.look 7 with
 |some ⟨none,(.one ⟨false,[(.ref 320)]⟩)⟩=>
 (match s.ent 192 with
 |some (.box 26 [(.val (.int .i64 y1)),(.ref 0)])=>
 (match s.ent 0 with
 |some (.row false 2 (.int .i64) y3)=>
 (match s.ent 320 with
 |some (.row true 2 (.int .i64) y2)=>
 some (y0,y1,y2,y3)
 |_=>none)
 |_=>none)
 |_=>none)
 |_=>none)
 |_=>none)
 |_=>none)
def b9:Lp iV where
 h:=⟨[11,12,13,14,17,18,19,20,21,22,23,7,15,16,8],[0,2],[1],[]⟩
 JL:=abx
 JE:=abn
 XL:=abR
 XE:=abH
 q:=fun j=>match j with | _=> .exit 0
 tags:= [0]
 lt:=vV
 fuel:=fun(y0,y1,y2,y3)=>y0.natAbs + y1.natAbs + y2.length + y3.length
 fix:=fun(_,y1,_,y3) (y0,_,y2,_)=>(y0,y1,y2,y3)
 σ:= [(0,192),(2,0),(1,320)]
 rd:=JG
theorem ZC:LoopOk Tryz.prog (fun k=>Nat.blt k Tryz.f238.ntmps) b9.F (aT Tryz.f238 0):=by
 refine Lp.ok (tbl:= [rV,PF.lend rV,PF.fz rV]) (lf:= []) aS b9 (by kernel_rfl) (LOk.nil _) (fun _=>rfl) (fun _ _=>rfl) ?_ ?_ ?_ ?_ (fun _=>rfl) ?_
 ·rintro⟨y0,y1,y2,y3⟩;kernel_rfl
 ·rintro⟨y0,y1,y2,y3⟩;kernel_rfl
 ·intro s x h
  have h:JG s=some x:=h
  unfold JG at h
  repeat' split at h
  all_goals cases h
  exact⟨aa (by assumption) rfl (aa (by assumption) rfl (aa (by assumption) rfl (rfl))),ab rfl (by assumption) rfl (ab rfl (by assumption) rfl (ab rfl (by assumption) rfl (rfl)))⟩
 ·rintro⟨y0,y1,y2,y3⟩;kernel_rfl
 ·rintro⟨y0,y1,y2,y3⟩ z;exact(And.intro rfl trivial)
abbrev iW:=Int×Int×List (Int×(Int×Int))×List Int
section
variable (y0 y1:Int)(y2:List (Int×(Int×Int)))(y3:List Int)
def im:Int×Int×Int:=Option.getD y2[Int.toNat y0]? ((0:Int),(0:Int),(0:Int))
def gc:Bool:=((im y0 y2).2).1==y1
def sY:Bool:=ltI y0 (↑y2.length:Int)
def yO:Bool:=leI (0:Int) y0
def yP:Bool:=ltN y0.toNat y2.length
def sZ:Bool:= !gc y0 y1 y2||leI (0:Int) y0
def ta:Bool:= !gc y0 y1 y2||ltI y0 (↑y2.length:Int)
def tb:Bool:= !gc y0 y1 y2||ltN y0.toNat y2.length
def yQ:Bool:= !gc y0 y1 y2||leI (0:Int) ((im y0 y2).1)
def yR:Bool:= !gc y0 y1 y2||ltI ((im y0 y2).1) (↑y3.length:Int)
def yS:Bool:= !gc y0 y1 y2||ltN (Int.toNat ((im y0 y2).1)) y3.length
def yT:Int:=IntKind.wrap .i64 (y0 + (1:Int))
def v8:List Int:=bif gc y0 y1 y2 then List.set y3 (Int.toNat ((im y0 y2).1)) ((im y0 y2).2.2)else y3
end
def aby:iW→List (Nat×SV)
 |(y0,y1,_,_)=> [(9,(.one ⟨false,[(.val (.int .i64 y0))]⟩)),(1,(.one ⟨false,[(.ref 0)]⟩)),(2,(.one ⟨false,[(.val (.int .i64 y1))]⟩)),(7,(.one ⟨false,[(.ref 1)]⟩))]
def abo:iW→List (Nat×Entry)
 |(_,_,y2,y3)=> [(0,(.row false 169 ase y2)),(1,(.row true 2 asg y3))]
def abS:Nat→iW→List (Nat×SV)
 |_,(_,_,_,_)=> []
def abI:Nat→iW→List (Nat×Entry)
 |_,(_,_,y2,y3)=> [(0,(.row false 169 ase y2)),(1,(.row true 2 asg y3))]
def vW:iW→LT iW
 |(y0,y1,y2,y3)=> .ite (sY y0 y2) (.need [(yO y0),(sY y0 y2),(yP y0 y2)] (.need [(sZ y0 y1 y2),(ta y0 y1 y2),(tb y0 y1 y2),(sZ y0 y1 y2),(ta y0 y1 y2),(tb y0 y1 y2),(yQ y0 y1 y2),(yR y0 y1 y2 y3),(yS y0 y1 y2 y3)] (.nrm ((yT y0),y1,y2,(v8 y0 y1 y2 y3)) [(0,0),(1,1)]))) (.ext 0 [(0,0),(1,1)])
def JH(s:St):Option iW:=
 (match s.look 9 with
 |some ⟨none,(.one ⟨false,[(.val (.int .i64 y0))]⟩)⟩=>
 (match s.look 1 with
 |some ⟨none,(.one ⟨false,[(.ref 1)]⟩)⟩=>
 (match s.look 2 with
 |some ⟨none,(.one ⟨false,[(.val (.int .i64 y1))]⟩)⟩=>
 (match s.look 7 with
 |some ⟨none,(.one ⟨false,[(.ref 512)]⟩)⟩=>
 (match s.ent 1 with
 |some (.row false 169 (.pair (.int .i64) (.pair (.int .i64) (.int .i64))) y2)=>
 (match s.ent 512 with
 |some (.row true 2 (.int .i64) y3)=>
 some (y0,y1,y2,y3)
 |_=>none)
 |_=>none)
 |_=>none)
 |_=>none)
 |_=>none)
 |_=>none)
def cN:Lp iW where
 h:=⟨[24,25,26,27,30,31,32,33,34,35,36,37,38,39,40,41,42,43,44,45,46,47,48,28,29,9],[0,1],[],[]⟩
 JL:=aby
 JE:=abo
 XL:=abS
 XE:=abI
 q:=fun j=>match j with | _=> .exit 2
 tags:= [0]
 lt:=vW
 fuel:=fun(y0,y1,y2,y3)=>y0.natAbs + y1.natAbs + y2.length + y3.length
 fix:=fun(_,y1,y2,_) (y0,_,_,y3)=>(y0,y1,y2,y3)
 σ:= [(0,1),(1,512)]
 rd:=JH
theorem ZD:LoopOk Tryz.prog (fun k=>Nat.blt k Tryz.f238.ntmps) cN.F (aT Tryz.f238 1):=by
 refine Lp.ok (tbl:= [rV,PF.lend rV,PF.fz rV]) (lf:= []) aS cN (by kernel_rfl) (LOk.nil _) (fun _=>rfl) (fun _ _=>rfl) ?_ ?_ ?_ ?_ (fun _=>rfl) ?_
 ·rintro⟨y0,y1,y2,y3⟩;kernel_rfl
 ·rintro⟨y0,y1,y2,y3⟩;kernel_rfl
 ·intro s x h
  have h:JH s=some x:=h
  unfold JH at h
  repeat' split at h
  all_goals cases h
  exact⟨aa (by assumption) rfl (aa (by assumption) rfl (aa (by assumption) rfl (aa (by assumption) rfl (rfl)))),ab rfl (by assumption) rfl (ab rfl (by assumption) rfl (rfl))⟩
 ·rintro⟨y0,y1,y2,y3⟩;kernel_rfl
 ·rintro⟨y0,y1,y2,y3⟩ z;exact(And.intro rfl trivial)
section
variable (x0 x1:Int)(x2:List Int)(x3:List (Int×Int×Int))
def Di:Int×Int×List Int×List Int:=((0:Int),x0,[],x2)
def Dj:Int×Int×List (Int×Int×Int)×List Int:=((0:Int),x1,x3,((Lp.res b9 (Di x0 x2)).2.2.2).1)
def EA:List Int:=(Lp.res cN (Dj x0 x1 x2 x3)).2.2.2.2
def EB:Bool:=allT [Lp.fin b9 (Di x0 x2),Lp.fin cN (Dj x0 x1 x2 x3)]
end
def WR:List SV→List Entry→Option Out
 | [.one ⟨true,[.val (.int .i64 x0),.ref 0]⟩,.one ⟨false,[.ref 1]⟩,.one ⟨false,[.val (.int .i64 x1)]⟩],[.row false 2 (.int .i64) x2,.row false 169 (.pair (.int .i64) (.pair (.int .i64) (.int .i64))) x3]=>some ⟨(.one ⟨false,[(.ref 2)]⟩),[(.row false 2 asg x2),(.row false 169 ase x3)],[(.row true 2 asg (EA x0 x1 x2 x3))],[(EB x0 x1 x2 x3)]⟩
 |_,_=>none
def PS:PF Tryz.prog:=PF.ofG Tryz.prog [rV,PF.lend rV,PF.fz rV] [b9.F,cN.F] aS 238 Tryz.f238 Tryz.func238 (LOk.fnT (l:= [aT Tryz.f238 0,aT Tryz.f238 1]) (by kernel_rfl) (.cons ZC (.cons ZD (.nil _)))) WR (by
 intro vs es r h;unfold WR at h;split at h
 ·cases h;kernel_rfl
 ·cases h)
section
variable (x0:Int)(x1:List Int)(x2:List (Int×Int×Int))
def aaa:List Int:=EA x0 (0:Int) x1 x2
def aab:List Int:=EA x0 (1:Int) x1 x2
def Sr:Bool:=allT [EB x0 (0:Int) x1 x2,EB x0 (1:Int) x1 x2]
end
def YO:List SV→List Entry→Option Out
 | [.one ⟨true,[.val (.int .i64 x0),.ref 0]⟩,.one ⟨false,[.ref 1]⟩],[.row false 2 (.int .i64) x1,.row false 169 (.pair (.int .i64) (.pair (.int .i64) (.int .i64))) x2]=>some ⟨(.one ⟨true,[(.ref 2),(.ref 3)]⟩),[(.row false 2 asg x1),(.row false 169 ase x2)],[(.row true 2 asg (aaa x0 x1 x2)),(.row true 2 asg (aab x0 x1 x2))],[(Sr x0 x1 x2)]⟩
 |_,_=>none
def aim:PF Tryz.prog:=PF.ofG Tryz.prog [PS,PF.lend PS,PF.fz PS] [] aS 222 Tryz.f222 Tryz.func222 (fun c _=>LOk.nil c) YO (by
 intro vs es r h;unfold YO at h;split at h
 ·cases h;kernel_rfl
 ·cases h)
end Go.SX

namespace Go.SX
open Go.Proofs
set_option maxRecDepth 100000
def occ(c:Int):Int:=bif ltI c 1 then c else 1
def agb(ch:Int)(l:List Int)(f:Int×Int×Int):List Int:=bif f.2.1==ch then l.set f.1.toNat f.2.2 else l
def aeZ(n:Int)(ps:List Int):List Int:=(List.range n.toNat).map fun(b:Nat)=>occ (aav n ps (b:Int):Int)
def DD(n:Int)(ps:List Int)(fs:List (Int×Int×Int))(ch:Int):List Int:=fs.foldl (agb ch) (aeZ n ps)
def ant(n:Int)(a:List Int):Bool:=eqI (a.length:Int) n&&a.all fun v=>inR v 0 1
theorem anC(ch:Int)(l:List Int)(f:Int×Int×Int):(agb ch l f).length=l.length:=by
 unfold agb;cases f.2.1==ch <;> simp
theorem Pr(n:Int)(ps:List Int):(aeZ n ps).length=n.toNat:=by simp [aeZ]
theorem RR(ch:Int): ∀ (fs:List (Int×Int×Int)) (l:List Int),(fs.foldl (agb ch) l).length=l.length
 | [],l=>rfl
 |f::fs,l=>by rw [List.foldl_cons,RR ch fs,anC]
theorem al5(n:Int)(ps:List Int)(fs:List (Int×Int×Int))(ch:Int):(DD n ps fs ch).length=n.toNat:=by
 rw [DD,RR,Pr]
theorem aqT{n:Int}{fs:List (Int×Int×Int)}(h2:2≤n∧n≤8)(h:okFs n fs=true):fs.length≤8∧ ∀ f∈fs,(0≤f.1∧f.1 < n)∧(f.2.1=0∨f.2.1=1)∧(0≤f.2.2∧f.2.2≤1):=by
 simp only [okFs,Bool.and_eq_true,c8,List.all_eq_true,List.mem_range]at h
 refine⟨h.1,fun f hf=> ?_⟩
 obtain⟨b,hb,rfl⟩:=List.getElem_of_mem hf
 have h3:=h.2 b hb
 simp only [Bool.not_eq_true',Bool.or_eq_false_iff,afS,fAt,List.getElem?_eq_getElem hb,Option.getD_some,Bool.not_eq_false']at h3
 have h4:=h3.1
 simp only [fIn,Bool.and_eq_true,re]at h4
 rw [aj (by omega) (by omega)]at h4
 omega
def fV(n:Int)(f:Int×Int×Int):Bool:=(leI 0 f.1&&ltI f.1 n)&&((f.2.1==0||f.2.1==1)&&inR f.2.2 0 1)
def ahZ(n:Int)(fs:List (Int×Int×Int)):Bool:=leN fs.length 1000&&fs.all (fV n)
theorem aml{n:Int}{fs:List (Int×Int×Int)}(h:ahZ n fs=true):fs.length≤1000∧ ∀ f∈fs,(0≤f.1∧f.1 < n)∧(f.2.1=0∨f.2.1=1)∧(0≤f.2.2∧f.2.2≤1):=by
 simp only [ahZ,Bool.and_eq_true,c8,List.all_eq_true]at h
 refine⟨h.1,fun f hf=> ?_⟩
 have h3:=h.2 f hf
 simp only [fV,Bool.and_eq_true,Bool.or_eq_true,beq_iff_eq,re,aE,aH]at h3
 exact h3
theorem aqJ{n:Int}{fs:List (Int×Int×Int)}(h2:2≤n∧n≤8)(h:okFs n fs=true):ahZ n fs=true:=by
 obtain⟨hl,hf⟩:=aqT h2 h
 simp only [ahZ,Bool.and_eq_true,c8,List.all_eq_true]
 refine⟨by omega,fun f hm=> ?_⟩
 simp only [fV,Bool.and_eq_true,Bool.or_eq_true,beq_iff_eq,re,aE,aH]
 exact hf f hm
theorem Uz{B C:Type}(g:B→C): ∀ (r:List B) (a:List C),r.foldl (fun a b=>a++ [g b]) a=a++r.map g
 | [],a=>by simp
 |b::r,a=>by rw [List.foldl_cons,Uz g r];simp
theorem arU(c:Int):ajW c 1 c 1=occ c:=by simp [occ]
theorem arV(c:Int):ajW 1 c 1 c=occ c:=by
 simp only [ajt,occ]
 cases h:ltI 1 c <;> cases h':ltI c 1 <;> simp at h h' ⊢ <;> omega
def mf(y1:Int)(y3:List Int)(b:Nat):(List Int)→Nat ⊕ (List Int)
 |y2=>(.inr (y2++([ajW (↑(aav y1 y3 (↑b:Int)):Int) (1:Int) (↑(aav y1 y3 (↑b:Int)):Int) (1:Int)])))
def lj(y1:Int)(y3:List Int)(i:Nat):(List Int)→iV
 |y2=>((i:Int),y1,y2,y3)
def Jt:iV→List Int
 |(_,_,y2,_)=>y2
theorem adK(y1:Int)(y3 y2:List Int)(hn:y1≤9223372036854775807)(hT:isT y1 y3=true)(h0:y2= []):
  b9.fin ((0:Int),y1,y2,y3)=true∧b9.res ((0:Int),y1,y2,y3)=((aU (mf y1 y3) 0 (List.range y1.toNat) 0 y2).1,(lj y1 y3) (aU (mf y1 y3) 0 (List.range y1.toNat) 0 y2).2.1 (aU (mf y1 y3) 0 (List.range y1.toNat) 0 y2).2.2):=by
 have key:=b9.along (lj y1 y3) Jt (mf y1 y3) 0 (fun i a=>a.length≤i) (List.range y1.toNat) y2 (by subst h0;simp) (by simp only [b9,lj,List.length_range];omega) (fun i b a hb hI=> ?_) (fun a hI=> ?_)
 ·exact key
 ·obtain y2:=a
  obtain⟨rfl,hlt⟩:=qw hb
  have hw:IntKind.i64.wrap ((b:Int) + 1)=((b + 1:Nat):Int):=by rw [aj (by omega) (by omega)];omega
  have hdec:ltI (b:Int) y1=true:=et (by omega)
  have hnn:leI (0:Int) (b:Int)=true:=dk (by omega)
  refine⟨?_,?_,?_,?_⟩
  ·have h4:=(Dw.1 hT).1
   simp [oe,yI,yJ,yK,yL,yM,yN,vV,b9,LT.nds,allT,lj,hdec,hT]
   omega
  ·simp [oe,yI,yJ,yK,yL,yM,yN,vV,b9,LT.each,lj,Jt,hw]
  ·simp only [oe,yI,yJ,yK,yL,yM,yN,vV,b9,LT.fn,lj,Jt,mf,Int.toNat_natCast,hdec,hnn,cond_true,Bool.cond_self]
  ·intro a' hf;simp only [mf,Sum.inr.injEq]at hf;subst hf;simp;omega
 ·obtain y2:=a
  simp only [oe,yI,yJ,yK,yL,yM,yN,vV,b9,LT.out,lj,List.length_range,ZG,adn,cond_false]
def pC(y1:Int)(b:Int×(Int×Int)):(List Int)→Nat ⊕ (List Int)
 |y3=>(.inr (bif(b.2.1==y1)then List.set y3 (Int.toNat b.1) b.2.2else y3))
def lk(y1:Int)(y2:List (Int×(Int×Int)))(i:Nat):(List Int)→iW
 |y3=>((i:Int),y1,y2,y3)
def Ju:iW→List Int
 |(_,_,_,y3)=>y3
theorem adL(y1:Int)(y2:List (Int×(Int×Int)))(y3:List Int)(hn:y2.length≤9223372036854775807)(n:Nat)(h3:y3.length=n)(hf: ∀ f∈y2,0≤f.1∧f.1 < (n:Int)):
  cN.fin ((0:Int),y1,y2,y3)=true∧cN.res ((0:Int),y1,y2,y3)=((aU (pC y1) 0 y2 0 y3).1,(lk y1 y2) (aU (pC y1) 0 y2 0 y3).2.1 (aU (pC y1) 0 y2 0 y3).2.2):=by
 have key:=cN.along (lk y1 y2) Ju (pC y1) 0 (fun _ a=>a.length=n) y2 y3 h3 (by simp only [cN,lk];omega) (fun i b a hb hI=> ?_) (fun a hI=> ?_)
 ·exact key
 ·obtain y3:=a
  have hlt:=(List.getElem?_eq_some_iff.1 hb).1
  have hget: ∀ d,Option.getD y2[i]? d=b:=fun d=>by rw [hb];rfl
  have hw:=vu hlt hn
  have hdec:ltI (i:Int) (y2.length:Int)=true:=et (by omega)
  have hnn:leI (0:Int) (i:Int)=true:=dk (by omega)
  have hltd:ltN i y2.length=true:=fJ hlt
  refine⟨?_,?_,?_,?_⟩
  ·have h5:=hf b (List.mem_of_getElem? hb)
   have h6:leI 0 b.1=true:=dk h5.1
   have h7:ltI b.1 (a.length:Int)=true:=et (by omega)
   have h8:ltN b.1.toNat a.length=true:=fJ (by omega)
   simp only [im,gc,sY,yO,yP,sZ,ta,tb,yQ,yR,yS,yT,v8,vW,cN,LT.nds,allT,lk,Int.toNat_natCast,hdec,hnn,hltd,hget,h6,h7,h8,Bool.or_true,cond_true]
  ·simp [im,gc,sY,yO,yP,sZ,ta,tb,yQ,yR,yS,yT,v8,vW,cN,LT.each,lk,Ju,hw]
  ·simp only [im,gc,sY,yO,yP,sZ,ta,tb,yQ,yR,yS,yT,v8,vW,cN,LT.fn,lk,Ju,pC,Int.toNat_natCast,hdec,hnn,hltd,hget,cond_true,Bool.cond_self]
  ·intro a' hf;simp only [pC,Sum.inr.injEq]at hf;subst hf;cases b.2.1==y1 <;> simpa using hI
 ·obtain y3:=a
  simp [im,gc,sY,yO,yP,sZ,ta,tb,yQ,yR,yS,yT,v8,vW,cN,LT.out,lk]
theorem ai0(n ch:Int)(ps:List Int)(fs:List (Int×Int×Int))(hT:isT n ps=true)(hF:ahZ n fs=true):
  EA n ch ps fs=DD n ps fs ch∧EB n ch ps fs=true:=by
 have h2:=(Dw.1 hT).1
 obtain⟨hl,hf⟩:=aml hF
 obtain⟨w1,w2⟩:=adK n ps [] (by omega) hT rfl
 rw [ko (f:=mf n ps) (g:=fun a b=>a++ [occ (aav n ps ((b:Nat):Int):Int)]) (fun b a=>by simp only [mf,arU]),Uz]at w2
 have e1:((Lp.res b9 (Di n ps)).2.2.2).1=aeZ n ps:=by
  simp only [Di,w2,lj,List.nil_append];rfl
 obtain⟨v1,v2⟩:=adL ch fs (aeZ n ps) (by omega) n.toNat (Pr n ps) (fun f hm=>by have:=(hf f hm).1;omega)
 rw [ko (f:=pC ch) (g:=agb ch) (fun b a=>rfl)]at v2
 refine⟨?_,?_⟩
 ·simp only [EA,Dj,e1,v2,lk];rfl
 ·have v3:Lp.fin cN (Dj n ch ps fs)=true:=by rw [Dj,e1];exact v1
  have w3:Lp.fin b9 (Di n ps)=true:=w1
  simp only [EB,v3,w3,allT,cond_true]
theorem alh(n:Int)(ps:List Int)(fs:List (Int×Int×Int))(h:(isT n ps&&ahZ n fs)=true):
  aaa n ps fs=DD n ps fs 0∧aab n ps fs=DD n ps fs 1∧Sr n ps fs=true:=by
 simp only [Bool.and_eq_true]at h
 obtain⟨a1,a2⟩:=ai0 n 0 ps fs h.1 h.2
 obtain⟨b1,b2⟩:=ai0 n 1 ps fs h.1 h.2
 exact⟨a1,b1,by simp only [Sr,a2,b2,allT,cond_true]⟩
def Zd:List SV→List Entry→Option Out
 | [.one ⟨true,[.val (.int .i64 x0),.ref 0]⟩,.one ⟨false,[.ref 1]⟩],[.row false 2 (.int .i64) x1,.row false 169 (.pair (.int .i64) (.pair (.int .i64) (.int .i64))) x2]=>some ⟨(.one ⟨true,[(.ref 2),(.ref 3)]⟩),[(.row false 2 asg x1),(.row false 169 ase x2)],[(.row true 2 asg (DD x0 x1 x2 0)),(.row true 2 asg (DD x0 x1 x2 1))],[isT x0 x1&&ahZ x0 x2]⟩
 |_,_=>none
def Sj:PF Tryz.prog:=PF.alt aim Zd (by
 intro args es o h hnd;unfold Zd at h;split at h
 ·rename_i x0 x1 x2
  cases h
  have hnd:=gO hnd
  have hh:=alh x0 x1 x2 hnd
  obtain⟨e0,e1,en⟩:=hh
  exact jO rfl (gn en) rfl rfl (by simp only [e0,e1] <;> rfl)
 ·cases h)
def pB(y2:List Int)(b:Nat):(List Int)→Nat ⊕ (List Int)
 |y3=>(.inr (List.set y3 b (ajW (1:Int) (Option.getD y2[b]? (0:Int)) (1:Int) (Option.getD y2[b]? (0:Int)))))
def nE(y2:List Int)(i:Nat):(List Int)→kr
 |y3=>((i:Int),(↑y2.length:Int),y2,y3)
def Mb:kr→List Int
 |(_,_,_,y3)=>y3
theorem age(y2 y3:List Int)(hn:y2.length≤9223372036854775807)(hl:y3.length=y2.length):
  dT.fin ((0:Int),(↑y2.length:Int),y2,y3)=true∧dT.res ((0:Int),(↑y2.length:Int),y2,y3)=((aU (pB y2) 0 (List.range y2.length) 0 y3).1,(nE y2) (aU (pB y2) 0 (List.range y2.length) 0 y3).2.1 (aU (pB y2) 0 (List.range y2.length) 0 y3).2.2):=by
 have key:=dT.along (nE y2) Mb (pB y2) 0 (fun _ a=>a.length=y2.length) (List.range y2.length) y3 hl (by simp only [dT,nE,List.length_range];omega) (fun i b a hb hI=> ?_) (fun a hI=> ?_)
 ·exact key
 ·obtain y3:=a
  obtain⟨rfl,hlt⟩:=qw hb
  have hw:IntKind.i64.wrap ((b:Int) + 1)=((b + 1:Nat):Int):=by rw [aj (by omega) (by omega)];omega
  have hdec:ltI (b:Int) (y2.length:Int)=true:=et (by omega)
  have hnn:leI (0:Int) (b:Int)=true:=dk (by omega)
  have hltd:ltN b y2.length=true:=fJ (by omega)
  refine⟨?_,?_,?_,?_⟩
  ·simp [uS,Cn,wl,Co,Cp,Cq,Cr,Cs,Ct,Ao,dT,LT.nds,allT,nE,hdec,hnn,hltd,hI]
  ·simp [uS,Cn,wl,Co,Cp,Cq,Cr,Cs,Ct,Ao,dT,LT.each,nE,Mb,hw,hI]
  ·simp only [uS,Cn,wl,Co,Cp,Cq,Cr,Cs,Ct,Ao,dT,LT.fn,nE,Mb,pB,Int.toNat_natCast,hdec,cond_true]
  ·intro a' hf;simp only [pB,Sum.inr.injEq]at hf;subst hf;simpa using hI
 ·obtain y3:=a
  simp [uS,Cn,wl,Co,Cp,Cq,Cr,Cs,Ct,Ao,dT,LT.out,nE,List.length_range]
def sc(b:Int×(Int×Int)):(List Int×List Int)→Nat ⊕ (List Int×List Int)
 |(y3,y4)=>(.inr ((bif(b.2.1==(0:Int))then List.set y3 (Int.toNat b.1) b.2.2else y3),(bif(b.2.1==(0:Int))then y4 else List.set y4 (Int.toNat b.1) b.2.2)))
def nF(y2:List (Int×(Int×Int)))(i:Nat):(List Int×List Int)→kt
 |(y3,y4)=>((i:Int),(↑y2.length:Int),y2,y3,y4)
def Mc:kt→List Int×List Int
 |(_,_,_,y3,y4)=>(y3,y4)
theorem agf(y2:List (Int×(Int×Int)))(y3 y4:List Int)(hn:y2.length≤9223372036854775807)(n:Nat)(h3:y3.length=n)(h4:y4.length=n)(hf: ∀ f∈y2,0≤f.1∧f.1 < (n:Int)):
  dU.fin ((0:Int),(↑y2.length:Int),y2,y3,y4)=true∧dU.res ((0:Int),(↑y2.length:Int),y2,y3,y4)=((aU (sc) 0 y2 0 (y3,y4)).1,(nF y2) (aU (sc) 0 y2 0 (y3,y4)).2.1 (aU (sc) 0 y2 0 (y3,y4)).2.2):=by
 have key:=dU.along (nF y2) Mc (sc) 0 (fun _ a=>a.1.length=n∧a.2.length=n) y2 (y3,y4) ⟨h3,h4⟩ (by simp only [dU,nF];omega) (fun i b a hb hI=> ?_) (fun a hI=> ?_)
 ·exact key
 ·obtain⟨y3,y4⟩:=a
  have hlt:=(List.getElem?_eq_some_iff.1 hb).1
  have hget: ∀ d,Option.getD y2[i]? d=b:=fun d=>by rw [hb];rfl
  have hw:=vu hlt hn
  have hdec:ltI (i:Int) (y2.length:Int)=true:=et (by omega)
  have hnn:leI (0:Int) (i:Int)=true:=dk (by omega)
  have hltd:ltN i y2.length=true:=fJ hlt
  refine⟨?_,?_,?_,?_⟩
  ·have h5:=hf b (List.mem_of_getElem? hb)
   have hI1:=hI.1
   have hI2:=hI.2
   have h6:leI 0 b.1=true:=dk h5.1
   have h7:ltI b.1 (n:Int)=true:=et (by omega)
   have h8:ltN b.1.toNat n=true:=fJ (by omega)
   simp only at hI1 hI2
   simp [dR,gG,uT,Cu,Cv,Cw,Cx,Cy,Cz,CA,CB,CC,CD,Ah,Ai,Aj,Ap,dU,LT.nds,allT,nF,hdec,hnn,hltd,hget,h6,h7,h8,hI1,hI2]
  ·simp [dR,gG,uT,Cu,Cv,Cw,Cx,Cy,Cz,CA,CB,CC,CD,Ah,Ai,Aj,Ap,dU,LT.each,nF,Mc,hw]
  ·simp only [dR,gG,uT,Cu,Cv,Cw,Cx,Cy,Cz,CA,CB,CC,CD,Ah,Ai,Aj,Ap,dU,LT.fn,nF,Mc,sc,Int.toNat_natCast,hdec,hnn,hltd,hget,cond_true,Bool.cond_self]
  ·intro a' hf;simp only [sc,Sum.inr.injEq]at hf;subst hf;have hI1:=hI.1;have hI2:=hI.2;cases b.2.1==0 <;> simpa using ⟨hI1,hI2⟩
 ·obtain⟨y3,y4⟩:=a
  simp [dR,gG,uT,Cu,Cv,Cw,Cx,Cy,Cz,CA,CB,CC,CD,Ah,Ai,Aj,Ap,dU,LT.out,nF]
theorem ahY: ∀ (fs:List (Int×Int×Int)) (a:List Int×List Int),(∀ f∈fs,f.2.1=0∨f.2.1=1)→
  fs.foldl (fun a f=>(bif f.2.1==0 then a.1.set f.1.toNat f.2.2 else a.1,bif f.2.1==0 then a.2 else a.2.set f.1.toNat f.2.2)) a=(fs.foldl (agb 0) a.1,fs.foldl (agb 1) a.2)
 | [],a,_=>rfl
 |f::fs,a,h=>by
  simp only [List.foldl_cons]
  rw [ahY fs _ (fun g hg=>h g (by simp [hg]))]
  rcases h f (by simp)with e | e <;> simp [agb,e]
theorem ak1(n:Int)(ps:List Int)(fs:List (Int×Int×Int))(h:(isT n ps&&ahZ n fs)=true):
  TF n ps fs=DD n ps fs 0∧TG n ps fs=DD n ps fs 1∧TH n ps fs=true:=by
 simp only [Bool.and_eq_true]at h
 have h2:=(Dw.1 h.1).1
 obtain⟨hl,hf⟩:=aml h.2
 have hr:(List.replicate n.toNat (0:Int)).length=(tK n ps).length:=by rw [YD];simp
 obtain⟨w1,w2⟩:=age (tK n ps) (List.replicate n.toNat (0:Int)) (by rw [YD];omega) hr
 rw [alZ (xs:=tK n ps) (d:=(0:Int)) (g:=occ) (f:=pB (tK n ps)) (e:=0) (fun b a=>by simp only [pB,arV]) hr]at w2
 have e1:Bq n ps=aeZ n ps:=by
  rw [Bq,LM,w2]
  simp only [nE,tK,aeZ,List.map_map];rfl
 obtain⟨v1,v2⟩:=agf fs (aeZ n ps) (aeZ n ps) (by omega) n.toNat (Pr n ps) (Pr n ps) (fun f hm=>by have:=(hf f hm).1;omega)
 rw [ko (f:=sc) (g:=fun a f=>(bif f.2.1==0 then a.1.set f.1.toNat f.2.2 else a.1,bif f.2.1==0 then a.2 else a.2.set f.1.toNat f.2.2)) (fun b a=>rfl),ahY _ _ (fun f hm=>(hf f hm).2.1)]at v2
 have e3:LN n ps fs=(DD n ps fs 0,DD n ps fs 1):=by
  simp only [LN,Ge,e1,v2,nF];rfl
 refine⟨by rw [TF,e3],by rw [TG,e3],?_⟩
 have e4:Lp.fin dU (Ge n ps fs)=true:=by simp only [Ge,e1];exact v1
 have e5:Lp.fin dT (LM n ps)=true:=w1
 simp only [TH,e4,e5,e1,h.1,Pr,allT]
 simp;omega
def aa8:List SV→List Entry→Option Out
 | [.one ⟨true,[.val (.int .i64 x0),.ref 0]⟩,.one ⟨false,[.ref 1]⟩],[.row false 2 (.int .i64) x1,.row false 169 (.pair (.int .i64) (.pair (.int .i64) (.int .i64))) x2]=>some ⟨(.one ⟨true,[(.ref 2),(.ref 3)]⟩),[(.row false 2 asg x1),(.row false 169 ase x2)],[(.row true 2 asg (DD x0 x1 x2 0)),(.row true 2 asg (DD x0 x1 x2 1))],[isT x0 x1&&ahZ x0 x2]⟩
 |_,_=>none
def TK:PF Tryz.prog:=PF.alt ajh aa8 (by
 intro args es o h hnd;unfold aa8 at h;split at h
 ·rename_i x0 x1 x2
  cases h
  have hnd:=gO hnd
  have hh:=ak1 x0 x1 x2 hnd
  obtain⟨e0,e1,en⟩:=hh
  exact jO rfl (gn en) rfl rfl (by simp only [e0,e1] <;> rfl)
 ·cases h)
def LV(n:Int)(ps:List Int)(t:Int):Int:=Int.tmod (blk (ps[t.toNat]?.getD 0) + 1) n
def adD(n:Int)(ps a b:List Int)(t:Int):Bool:=phs (ps[t.toNat]?.getD 0)!=1||(a[(LV n ps t).toNat]?.getD 0==0&&b[(LV n ps t).toNat]?.getD 0==0)
def Yu(n:Int)(ps a b:List Int)(t:Int):Bool:=ZJ n ps t&&(ant n a&&ant n b)
theorem akC{n t:Int}{ps a b:List Int}(h:Yu n ps a b t=true):
  (0≤t∧t < ps.length)∧(2≤n∧n≤8)∧(0≤LV n ps t∧LV n ps t < n)∧((a.length:Int)=n∧(b.length:Int)=n)∧
   IntKind.i64.wrap (IntKind.i64.wrap (Int.tdiv (ps[t.toNat]?.getD 0) 3) + 1)=blk (ps[t.toNat]?.getD 0) + 1∧
   (0≤a[(LV n ps t).toNat]?.getD 0∧a[(LV n ps t).toNat]?.getD 0≤1)∧(0≤b[(LV n ps t).toNat]?.getD 0∧b[(LV n ps t).toNat]?.getD 0≤1):=by
 simp only [Yu,Bool.and_eq_true,ahe,ant,aoZ,List.all_eq_true,re,Zl]at h
 obtain⟨⟨hT,ht⟩,⟨ha,ha2⟩,hb,hb2⟩:=h
 have h1:=Dw.1 hT
 have hlt:t.toNat < ps.length:=by omega
 have hp:=h1.2.2 (ps[t.toNat]) (List.getElem_mem hlt)
 have e0:ps[t.toNat]?.getD 0=ps[t.toNat]:=by rw [List.getElem?_eq_getElem hlt];rfl
 rw [LV,e0]
 have hb3:blk ps[t.toNat]=ps[t.toNat] / 3:=ahO hp.1
 have hb4:Int.tdiv ps[t.toNat] 3=ps[t.toNat] / 3:=Int.tdiv_eq_ediv_of_nonneg hp.1
 have hq:Int.tmod (blk ps[t.toNat] + 1) n=(ps[t.toNat] / 3 + 1) % n:=by rw [hb3,Int.tmod_eq_emod_of_nonneg (by omega)]
 have hm0:0≤(ps[t.toNat] / 3 + 1) % n:=Int.emod_nonneg _ (by omega)
 have hm1:(ps[t.toNat] / 3 + 1) % n < n:=Int.emod_lt_of_pos _ (by omega)
 rw [hq]
 have la:((ps[t.toNat] / 3 + 1) % n).toNat < a.length:=by omega
 have lb:((ps[t.toNat] / 3 + 1) % n).toNat < b.length:=by omega
 rw [List.getElem?_eq_getElem la,List.getElem?_eq_getElem lb]
 refine⟨ht,h1.1,⟨hm0,hm1⟩,⟨ha,hb⟩,?_,ha2 _ (List.getElem_mem la),hb2 _ (List.getElem_mem lb)⟩
 rw [hb4,aj (x:=ps[t.toNat] / 3) (by omega) (by omega),aj (by omega) (by omega),hb3]
theorem anF(n t:Int)(ps a b:List Int)(h:Yu n ps a b t=true):Qv n t ps a b=adD n ps a b t∧Qw n t ps a b=true:=by
 obtain⟨ht,hn,hx,hl,hw,ha,hb⟩:=akC h
 have e2:mF n t ps=LV n ps t:=by
  simp only [mF,Ia,hw];rfl
 refine⟨?_,?_⟩
 ·simp only [Qv,e2,sn,Ia,adD,phs]
  rw [aj (by omega) (by omega)]
  cases Int.tmod (ps[t.toNat]?.getD 0) 3 !=1 with
  |true=>rfl
  |false=>
   rw [cond_false,Bool.false_or,Bool.eq_iff_iff]
   simp only [beq_iff_eq,Bool.and_eq_true]
   omega
 ·have t1:leI 0 t=true:=dk ht.1
  have t2:ltI t (ps.length:Int)=true:=et ht.2
  have t3:ltN t.toNat ps.length=true:=fJ (by omega)
  have t4:neI n 0=true:=aiV (by omega)
  have t5:leI 0 (LV n ps t)=true:=dk hx.1
  have t6:ltI (LV n ps t) (a.length:Int)=true:=et (by omega)
  have t7:ltN (LV n ps t).toNat a.length=true:=fJ (by omega)
  have t8:ltI (LV n ps t) (b.length:Int)=true:=et (by omega)
  have t9:ltN (LV n ps t).toNat b.length=true:=fJ (by omega)
  simp only [Qw,On,e2,t1,t2,t3,t4,t5,t6,t7,t8,t9,allT,cond_true,Bool.or_true]
def WY:List SV→List Entry→Option Out
 | [.one ⟨true,[.val (.int .i64 x0),.ref 0]⟩,.one ⟨true,[.ref 1,.ref 2]⟩,.one ⟨false,[.val (.int .i64 x1)]⟩],[.row false 2 (.int .i64) x2,.row false 2 (.int .i64) x3,.row false 2 (.int .i64) x4]=>some ⟨(.one ⟨false,[(.val (.bool (adD x0 x2 x3 x4 x1)))]⟩),[(.row false 2 asg x2),(.row false 2 asg x3),(.row false 2 asg x4)],[],[Yu x0 x2 x3 x4 x1]⟩
 |_,_=>none
def PK:PF Tryz.prog:=PF.alt ahp WY (by
 intro args es o h hnd;unfold WY at h;split at h
 ·rename_i x0 x1 x2 x3 x4
  cases h
  have hnd:=gO hnd
  have hh:=anF x0 x1 x2 x3 x4 hnd
  obtain⟨e0,en⟩:=hh
  exact jO rfl (gn en) (by simp only [e0] <;> rfl) rfl rfl
 ·cases h)
theorem am9(n t:Int)(a b ps:List Int)(h:Yu n ps a b t=true):mQ n t a b ps=adD n ps a b t∧mR n t a b ps=true:=by
 obtain⟨ht,hn,hx,hl,hw,ha,hb⟩:=akC h
 have e2:iK n t ps=LV n ps t:=by
  simp only [iK,iJ,hw];rfl
 refine⟨?_,?_⟩
 ·simp only [mQ,e2,eF,iJ,mO,eE,adD,phs]
  cases Int.tmod (ps[t.toNat]?.getD 0) 3 !=1 with
  |true=>rfl
  |false=>
   rw [cond_false,Bool.false_or]
   cases a[(LV n ps t).toNat]?.getD 0==0 <;> rfl
 ·have t1:leI 0 t=true:=dk ht.1
  have t2:ltI t (ps.length:Int)=true:=et ht.2
  have t3:ltN t.toNat ps.length=true:=fJ (by omega)
  have t4:neI n 0=true:=aiV (by omega)
  have t4':neI (3:Int) 0=true:=aiV (by omega)
  have t5:leI 0 (LV n ps t)=true:=dk hx.1
  have t6:ltI (LV n ps t) (a.length:Int)=true:=et (by omega)
  have t7:ltN (LV n ps t).toNat a.length=true:=fJ (by omega)
  have t8:ltI (LV n ps t) (b.length:Int)=true:=et (by omega)
  have t9:ltN (LV n ps t).toNat b.length=true:=fJ (by omega)
  simp only [mR,mP,e2,t1,t2,t3,t4,t4',t5,t6,t7,t8,t9,allT,cond_true,Bool.or_true]
def vk:List SV→List Entry→Option Out
 | [.one ⟨true,[.ref 0,.ref 1]⟩,.one ⟨true,[.val (.int .i64 x0),.ref 2]⟩,.one ⟨false,[.val (.int .i64 x1)]⟩],[.row false 2 (.int .i64) x2,.row false 2 (.int .i64) x3,.row false 2 (.int .i64) x4]=>some ⟨(.one ⟨false,[(.val (.bool (adD x0 x4 x2 x3 x1)))]⟩),[(.row false 2 asg x2),(.row false 2 asg x3),(.row false 2 asg x4)],[],[Yu x0 x4 x2 x3 x1]⟩
 |_,_=>none
def mV:PF Tryz.prog:=PF.alt Iy vk (by
 intro args es o h hnd;unfold vk at h;split at h
 ·rename_i x0 x1 x2 x3 x4
  cases h
  have hnd:=gO hnd
  have hh:=am9 x0 x1 x2 x3 x4 hnd
  obtain⟨e0,en⟩:=hh
  exact jO rfl (gn en) (by simp only [e0] <;> rfl) rfl rfl
 ·cases h)
theorem aqA(n:Int)(ps:List Int)(b:Int):inR (occ (aav n ps b:Int)) 0 1=true:=by
 rw [re,occ];cases h:ltI (aav n ps b:Int) 1 <;> simp at h ⊢;omega
theorem amU(n:Int)(ps:List Int)(fs:List (Int×Int×Int))(ch:Int)(hT:isT n ps=true)(hF:ahZ n fs=true):ant n (DD n ps fs ch)=true:=by
 have h2:=(Dw.1 hT).1
 obtain⟨hl,hf⟩:=aml hF
 simp only [ant,Bool.and_eq_true,aoZ,al5]
 refine⟨by omega,?_⟩
 have key: ∀ (fs:List (Int×Int×Int)) (l:List Int),(∀ f∈fs,0≤f.2.2∧f.2.2≤1)→(l.all fun v=>inR v 0 1)=true→((fs.foldl (agb ch) l).all fun v=>inR v 0 1)=true:=by
  intro fs
  induction fs with
  |nil=>intro l _ h;exact h
  |cons f fs ih=>
   intro l hv h
   rw [List.foldl_cons]
   refine ih _ (fun g hg=>hv g (by simp [hg])) ?_
   unfold agb
   cases f.2.1==ch with
   |false=>exact h
   |true=>
    simp only [cond_true,List.all_eq_true]at h ⊢
    intro v hm
    rcases List.mem_or_eq_of_mem_set hm with h3 | rfl
    ·exact h v h3
    ·exact re.2 (hv f (by simp))
 refine key fs _ (fun f hm=>(hf f hm).2.2) ?_
 simp only [aeZ,List.all_map,List.all_eq_true,Function.comp]
 intro b _;exact aqA n ps b
end Go.SX

namespace Go.SX
open Go.Proofs
set_option maxRecDepth 100000
def Wg(x0 x1 x2:Int):Bool:=bif bif x1==(0:Int)then x1==(0:Int)else x1==(1:Int)then a6 x2 (0:Int) (IntKind.wrap .i64 (x0 - (1:Int)))else bif bif x1==(2:Int)then x1==(2:Int)else x1==(3:Int)then x2==(0:Int)else false
def acj:List SV→List Entry→Option Out
 | [.one ⟨false,[.val (.int .i64 x0)]⟩,.one ⟨true,[.val (.int .i64 x1),.val (.int .i64 x2)]⟩],[]=>some ⟨(.one ⟨false,[(.val (.bool (Wg x0 x1 x2)))]⟩),[],[],[]⟩
 |_,_=>none
def akv:PF Tryz.prog:=PF.ofG Tryz.prog [fK] [] aS 100 Tryz.f100 Tryz.func100 (fun c _=>LOk.nil c) acj (by
 intro vs es r h;unfold acj at h;split at h
 ·cases h;kernel_rfl
 ·cases h)
def Wk(x0:Int):Bool:=a6 x0 (0:Int) (3:Int)
def aco:List SV→List Entry→Option Out
 | [.one ⟨false,[.val (.int .i64 x0)]⟩],[]=>some ⟨(.one ⟨false,[(.val (.bool (Wk x0)))]⟩),[],[],[]⟩
 |_,_=>none
def akz:PF Tryz.prog:=PF.ofG Tryz.prog [fK] [] aS 186 Tryz.f186 Tryz.func186 (fun c _=>LOk.nil c) aco (by
 intro vs es r h;unfold aco at h;split at h
 ·cases h;kernel_rfl
 ·cases h)
def Sn(x0 x1:Int):Bool:=bif a6 x0 (0:Int) (9:Int)then Wk x1 else false
def YL:List SV→List Entry→Option Out
 | [.one ⟨true,[.val (.int .i64 x0),.val (.int .i64 x1),.val (.bool _x2)]⟩],[]=>some ⟨(.one ⟨false,[(.val (.bool (Sn x0 x1)))]⟩),[],[],[]⟩
 |_,_=>none
def aik:PF Tryz.prog:=PF.ofG Tryz.prog [akz,fK] [] aS 101 Tryz.f101 Tryz.func101 (fun c _=>LOk.nil c) YL (by
 intro vs es r h;unfold YL at h;split at h
 ·cases h;kernel_rfl
 ·cases h)
abbrev cn:=Int×Int×Int×List Int
section
variable (y0 y1 y2:Int)(y3:List Int)
def mg:Bool:=ltI y0 y1
def mh:Bool:=leI (0:Int) y0
def mi:Bool:=ltI y0 (↑y3.length:Int)
def mj:Bool:=ltN y0.toNat y3.length
def ml:Bool:=y2==Option.getD y3[Int.toNat y0]? (0:Int)
def mm:Int:=IntKind.wrap .i64 (y0 + (1:Int))
end
def RM:cn→List (Nat×SV)
 |(y0,y1,y2,_)=> [(8,(.one ⟨false,[(.val (.int .i64 y0))]⟩)),(7,(.one ⟨false,[(.val (.int .i64 y1))]⟩)),(1,(.one ⟨false,[(.val (.int .i64 y2))]⟩)),(0,(.one ⟨false,[(.ref 0)]⟩))]
def RL:cn→List (Nat×Entry)
 |(_,_,_,y3)=> [(0,(.row false 2 asg y3))]
def RP:Nat→cn→List (Nat×SV)
 |0,(y0,_,_,_)=> [(4,(.one ⟨false,[(.val (.int .i64 y0))]⟩))]
 |_,(_,_,_,_)=> []
def RO:Nat→cn→List (Nat×Entry)
 |0,(_,_,_,y3)=> [(0,(.row false 2 asg y3))]
 |_,(_,_,_,y3)=> [(0,(.row false 2 asg y3))]
def lK:cn→LT cn
 |(y0,y1,y2,y3)=> .ite (mg y0 y1) (.need [(mh y0),(mi y0 y3),(mj y0 y3)] (.ite (ml y0 y2 y3) (.ext 0 [(0,0)]) (.nrm ((mm y0),y1,y2,y3) [(0,0)]))) (.ext 1 [(0,0)])
def ws(s:St):Option cn:=
 (match s.look 8 with
 |some ⟨none,(.one ⟨false,[(.val (.int .i64 y0))]⟩)⟩=>
 (match s.look 7 with
 |some ⟨none,(.one ⟨false,[(.val (.int .i64 y1))]⟩)⟩=>
 (match s.look 1 with
 |some ⟨none,(.one ⟨false,[(.val (.int .i64 y2))]⟩)⟩=>
 (match s.look 0 with
 |some ⟨none,(.one ⟨false,[(.ref 0)]⟩)⟩=>
 (match s.ent 0 with
 |some (.row false 2 (.int .i64) y3)=>
 some (y0,y1,y2,y3)
 |_=>none)
 |_=>none)
 |_=>none)
 |_=>none)
 |_=>none)
def a7:Lp cn where
 h:=⟨[9,10,5,11,12,13,14,15,16,17,4,18,8],[0],[],[]⟩
 JL:=RM
 JE:=RL
 XL:=RP
 XE:=RO
 q:=fun j=>match j with | 0=> .ret | _=> .exit 0
 tags:= [0,1]
 lt:=lK
 fuel:=fun(y0,y1,y2,y3)=>y0.natAbs + y1.natAbs + y2.natAbs + y3.length
 fix:=fun(_,y1,y2,y3) (y0,_,_,_)=>(y0,y1,y2,y3)
 σ:= [(0,0)]
 rd:=ws
theorem PD:LoopOk Tryz.prog (fun k=>Nat.blt k Tryz.f212.ntmps) a7.F (aT Tryz.f212 0):=by
 refine Lp.ok (tbl:= []) (lf:= []) aS a7 (by kernel_rfl) (LOk.nil _) (fun _=>rfl) (fun j _=>by unfold a7;match j with | 0=>rfl | _ + 1=>rfl) ?_ ?_ ?_ ?_ (fun _=>rfl) ?_
 ·rintro⟨y0,y1,y2,y3⟩;kernel_rfl
 ·rintro⟨y0,y1,y2,y3⟩;kernel_rfl
 ·intro s x h
  have h:ws s=some x:=h
  unfold ws at h
  repeat' split at h
  all_goals cases h
  exact⟨aa (by assumption) rfl (aa (by assumption) rfl (aa (by assumption) rfl (aa (by assumption) rfl (rfl)))),ab rfl (by assumption) rfl (rfl)⟩
 ·rintro⟨y0,y1,y2,y3⟩;kernel_rfl
 ·rintro⟨y0,y1,y2,y3⟩ z;exact(And.intro (And.intro trivial rfl) trivial)
section
variable (x0:Int)(x1:List Int)
def tF:Int×Int×Int×List Int:=((0:Int),(↑x1.length:Int),x0,x1)
def CV:Int:=bif Nat.beq ((Lp.res a7 (tF x0 x1)).1) (0:Nat)then ((Lp.res a7 (tF x0 x1)).2).1else(-1:Int)
def CW:Bool:=allT [Lp.fin a7 (tF x0 x1)]
end
def Kw:List SV→List Entry→Option Out
 | [.one ⟨false,[.ref 0]⟩,.one ⟨false,[.val (.int .i64 x0)]⟩],[.row false 2 (.int .i64) x1]=>some ⟨(.one ⟨false,[(.val (.int .i64 (CV x0 x1)))]⟩),[(.row false 2 asg x1)],[],[(CW x0 x1)]⟩
 |_,_=>none
def CS:PF Tryz.prog:=PF.ofG Tryz.prog [] [a7.F] aS 212 Tryz.f212 Tryz.func212 (LOk.fnT (l:= [aT Tryz.f212 0]) (by kernel_rfl) (.cons PD (.nil _))) Kw (by
 intro vs es r h;unfold Kw at h;split at h
 ·cases h;kernel_rfl
 ·cases h)
def dq(x0:Int)(x1:List Int):Bool:=leI (0:Int) (CV x0 x1)
def jC(x0:Int)(x1:List Int):Bool:=allT [CW x0 x1]
def Hr:List SV→List Entry→Option Out
 | [.one ⟨false,[.ref 0]⟩,.one ⟨false,[.val (.int .i64 x0)]⟩],[.row false 2 (.int .i64) x1]=>some ⟨(.one ⟨false,[(.val (.bool (dq x0 x1)))]⟩),[(.row false 2 asg x1)],[],[(jC x0 x1)]⟩
 |_,_=>none
def dp:PF Tryz.prog:=PF.ofG Tryz.prog [CS,PF.lend CS,PF.fz CS] [] aS 160 Tryz.f160 Tryz.func160 (fun c _=>LOk.nil c) Hr (by
 intro vs es r h;unfold Hr at h;split at h
 ·cases h;kernel_rfl
 ·cases h)
def aaC(x0:Bool):Int:=bif x0 then(1:Int)else(0:Int)
def agk:List SV→List Entry→Option Out
 | [.one ⟨false,[.val (.bool x0)]⟩],[]=>some ⟨(.one ⟨false,[(.val (.int .i64 (aaC x0)))]⟩),[],[],[]⟩
 |_,_=>none
def aaM:PF Tryz.prog:=PF.ofG Tryz.prog [] [] aS 232 Tryz.f232 Tryz.func232 (fun c _=>LOk.nil c) agk (by
 intro vs es r h;unfold agk at h;split at h
 ·cases h;kernel_rfl
 ·cases h)
abbrev iP:=Int×Int×List Int×List Int
section
variable (y0 y1:Int)(y2 y3:List Int)
def nH:List Int:= [aaC (Option.getD y2[Int.toNat y0]? (0:Int)==(2:Int))]
def xC:Bool:=ltI y0 y1
def xD:Bool:=leI (0:Int) y0
def xE:Bool:=ltI y0 (↑y2.length:Int)
def xF:Bool:=ltN y0.toNat y2.length
def xG:Bool:=leN (List.length y3 + List.length (nH y0 y2)) (9223372036854775807:Nat)
def xH:Bool:=leN ((List.length y3 + List.length (nH y0 y2)) * (8:Nat)) (140737488355328:Nat)
def xI:Int:=IntKind.wrap .i64 (y0 + (1:Int))
def xJ:List Int:=y3++nH y0 y2
end
def abr:iP→List (Nat×SV)
 |(y0,y1,_,_)=> [(13,(.one ⟨false,[(.val (.int .i64 y0))]⟩)),(12,(.one ⟨false,[(.val (.int .i64 y1))]⟩)),(11,(.one ⟨false,[(.ref 0)]⟩)),(5,(.one ⟨false,[(.ref 1)]⟩))]
def abh:iP→List (Nat×Entry)
 |(_,_,y2,y3)=> [(0,(.row false 2 asg y2)),(1,(.row true 2 asg y3))]
def abL:Nat→iP→List (Nat×SV)
 |_,(_,_,_,_)=> [(5,(.one ⟨false,[(.ref 1)]⟩))]
def abB:Nat→iP→List (Nat×Entry)
 |_,(_,_,y2,y3)=> [(0,(.row false 2 asg y2)),(1,(.row true 2 asg y3))]
def vP:iP→LT iP
 |(y0,y1,y2,y3)=> .ite (xC y0 y1) (.need [(xD y0),(xE y0 y2),(xF y0 y2)] (.need [(xG y0 y2 y3),(xH y0 y2 y3)] (.nrm ((xI y0),y1,y2,(xJ y0 y2 y3)) [(0,0),(1,640)]))) (.ext 0 [(0,0),(1,1)])
def Jz(s:St):Option iP:=
 (match s.look 13 with
 |some ⟨none,(.one ⟨false,[(.val (.int .i64 y0))]⟩)⟩=>
 (match s.look 12 with
 |some ⟨none,(.one ⟨false,[(.val (.int .i64 y1))]⟩)⟩=>
 (match s.look 11 with
 |some ⟨none,(.one ⟨false,[(.ref 0)]⟩)⟩=>
 (match s.look 5 with
 |some ⟨none,(.one ⟨false,[(.ref 256)]⟩)⟩=>
 (match s.ent 0 with
 |some (.row false 2 (.int .i64) y2)=>
 (match s.ent 256 with
 |some (.row true 2 (.int .i64) y3)=>
 some (y0,y1,y2,y3)
 |_=>none)
 |_=>none)
 |_=>none)
 |_=>none)
 |_=>none)
 |_=>none)
def cH:Lp iP where
 h:=⟨[14,15,16,7,17,18,19,20,21,22,5,23,13],[0],[1],[]⟩
 JL:=abr
 JE:=abh
 XL:=abL
 XE:=abB
 q:=fun j=>match j with | _=> .exit 0
 tags:= [0]
 lt:=vP
 fuel:=fun(y0,y1,y2,y3)=>y0.natAbs + y1.natAbs + y2.length + y3.length
 fix:=fun(_,y1,y2,_) (y0,_,_,y3)=>(y0,y1,y2,y3)
 σ:= [(0,0),(1,256)]
 rd:=Jz
theorem Zw:LoopOk Tryz.prog (fun k=>Nat.blt k Tryz.f187.ntmps) cH.F (aT Tryz.f187 0):=by
 refine Lp.ok (tbl:= [ay,PF.lend ay,PF.fz ay,aaM]) (lf:= []) aS cH (by kernel_rfl) (LOk.nil _) (fun _=>rfl) (fun _ _=>rfl) ?_ ?_ ?_ ?_ (fun _=>rfl) ?_
 ·rintro⟨y0,y1,y2,y3⟩;kernel_rfl
 ·rintro⟨y0,y1,y2,y3⟩;kernel_rfl
 ·intro s x h
  have h:Jz s=some x:=h
  unfold Jz at h
  repeat' split at h
  all_goals cases h
  exact⟨aa (by assumption) rfl (aa (by assumption) rfl (aa (by assumption) rfl (aa (by assumption) rfl (rfl)))),ab rfl (by assumption) rfl (ab rfl (by assumption) rfl (rfl))⟩
 ·rintro⟨y0,y1,y2,y3⟩;kernel_rfl
 ·rintro⟨y0,y1,y2,y3⟩ z;exact(And.intro rfl trivial)
abbrev iQ:=Int×Int×List (Int×(Int×Int))×List Int×List Int
section
variable (y0 y1:Int)(y2:List (Int×(Int×Int)))(y3 y4:List Int)
def cG:Int×Int×Int:=Option.getD y2[Int.toNat y0]? ((0:Int),(0:Int),(0:Int))
def eq:Bool:=((cG y0 y2).2).1==(0:Int)
def rn:Bool:=leI (0:Int) ((cG y0 y2).1)
def xK:Bool:=ltI y0 y1
def xL:Bool:=leI (0:Int) y0
def xM:Bool:=ltI y0 (↑y2.length:Int)
def xN:Bool:=ltN y0.toNat y2.length
def xO:Bool:= !eq y0 y2||rn y0 y2
def xP:Bool:= !eq y0 y2||ltI ((cG y0 y2).1) (↑y3.length:Int)
def xQ:Bool:= !eq y0 y2||ltN (Int.toNat ((cG y0 y2).1)) y3.length
def xR:Bool:=eq y0 y2||rn y0 y2
def xS:Bool:=eq y0 y2||ltI ((cG y0 y2).1) (↑y4.length:Int)
def xT:Bool:=eq y0 y2||ltN (Int.toNat ((cG y0 y2).1)) y4.length
def vE:Int:=IntKind.wrap .i64 (y0 + (1:Int))
def vF:List Int:=bif eq y0 y2 then List.set y3 (Int.toNat ((cG y0 y2).1)) ((cG y0 y2).2.2)else y3
def vG:List Int:=bif eq y0 y2 then y4 else List.set y4 (Int.toNat ((cG y0 y2).1)) ((cG y0 y2).2.2)
end
def abs:iQ→List (Nat×SV)
 |(y0,y1,_,_,_)=> [(30,(.one ⟨false,[(.val (.int .i64 y0))]⟩)),(29,(.one ⟨false,[(.val (.int .i64 y1))]⟩)),(28,(.one ⟨false,[(.ref 0)]⟩)),(8,(.one ⟨false,[(.ptr 1 0)]⟩))]
def abi:iQ→List (Nat×Entry)
 |(_,_,y2,y3,y4)=> [(0,(.row false 100 ase y2)),(1,(.box 130 [(.ref 2),(.ref 3)])),(2,(.row true 2 asg y3)),(3,(.row true 2 asg y4))]
def abM:Nat→iQ→List (Nat×SV)
 |_,(_,_,_,_,_)=> []
def abC:Nat→iQ→List (Nat×Entry)
 |_,(_,_,y2,y3,y4)=> [(0,(.row false 100 ase y2)),(1,(.box 130 [(.ref 2),(.ref 3)])),(2,(.row true 2 asg y3)),(3,(.row true 2 asg y4))]
def vQ:iQ→LT iQ
 |(y0,y1,y2,y3,y4)=> .ite (xK y0 y1) (.need [(xL y0),(xM y0 y2),(xN y0 y2)] (.need [(xO y0 y2),(xP y0 y2 y3),(xQ y0 y2 y3),(xR y0 y2),(xS y0 y2 y4),(xT y0 y2 y4)] (.nrm ((vE y0),y1,y2,(vF y0 y2 y3),(vG y0 y2 y4)) [(0,0),(1,1),(2,2),(3,3)]))) (.ext 0 [(0,0),(1,1),(2,2),(3,3)])
def JA(s:St):Option iQ:=
 (match s.look 30 with
 |some ⟨none,(.one ⟨false,[(.val (.int .i64 y0))]⟩)⟩=>
 (match s.look 29 with
 |some ⟨none,(.one ⟨false,[(.val (.int .i64 y1))]⟩)⟩=>
 (match s.look 28 with
 |some ⟨none,(.one ⟨false,[(.ref 1)]⟩)⟩=>
 (match s.look 8 with
 |some ⟨none,(.one ⟨false,[(.ptr 832 0)]⟩)⟩=>
 (match s.ent 1 with
 |some (.row false 100 (.pair (.int .i64) (.pair (.int .i64) (.int .i64))) y2)=>
 (match s.ent 832 with
 |some (.box 130 [(.ref 512),(.ref 704)])=>
 (match s.ent 512 with
 |some (.row true 2 (.int .i64) y3)=>
 (match s.ent 704 with
 |some (.row true 2 (.int .i64) y4)=>
 some (y0,y1,y2,y3,y4)
 |_=>none)
 |_=>none)
 |_=>none)
 |_=>none)
 |_=>none)
 |_=>none)
 |_=>none)
 |_=>none)
def cI:Lp iQ where
 h:=⟨[31,32,33,10,34,35,36,37,38,39,40,41,42,43,44,45,46,47,48,49,50,51,30],[0,1,2,3],[],[]⟩
 JL:=abs
 JE:=abi
 XL:=abM
 XE:=abC
 q:=fun j=>match j with | _=> .exit 2
 tags:= [0]
 lt:=vQ
 fuel:=fun(y0,y1,y2,y3,y4)=>y0.natAbs + y1.natAbs + y2.length + y3.length + y4.length
 fix:=fun(_,y1,y2,_,_) (y0,_,_,y3,y4)=>(y0,y1,y2,y3,y4)
 σ:= [(0,1),(1,832),(2,512),(3,704)]
 rd:=JA
theorem Zx:LoopOk Tryz.prog (fun k=>Nat.blt k Tryz.f187.ntmps) cI.F (aT Tryz.f187 1):=by
 refine Lp.ok (tbl:= [ay,PF.lend ay,PF.fz ay,aaM]) (lf:= []) aS cI (by kernel_rfl) (LOk.nil _) (fun _=>rfl) (fun _ _=>rfl) ?_ ?_ ?_ ?_ (fun _=>rfl) ?_
 ·rintro⟨y0,y1,y2,y3,y4⟩;kernel_rfl
 ·rintro⟨y0,y1,y2,y3,y4⟩;kernel_rfl
 ·intro s x h
  have h:JA s=some x:=h
  unfold JA at h
  repeat' split at h
  all_goals cases h
  exact⟨aa (by assumption) rfl (aa (by assumption) rfl (aa (by assumption) rfl (aa (by assumption) rfl (rfl)))),ab rfl (by assumption) rfl (ab rfl (by assumption) rfl (ab rfl (by assumption) rfl (ab rfl (by assumption) rfl (rfl))))⟩
 ·rintro⟨y0,y1,y2,y3,y4⟩;kernel_rfl
 ·rintro⟨y0,y1,y2,y3,y4⟩ z;exact(And.intro rfl trivial)
section
variable (x0:List Int)(x1:List (Int×Int×Int))
def HB:Int×Int×List Int×List Int:=((0:Int),(↑x0.length:Int),x0,[])
def wk:List Int:=(Lp.res cH (HB x0)).2.2.2.2
def Cm:Int×Int×List (Int×Int×Int)×List Int×List Int:=((0:Int),(↑x1.length:Int),x1,wk x0,wk x0)
def HC:List Int×List Int:=(Lp.res cI (Cm x0 x1)).2.2.2.2
def tV:List Int:=(HC x0 x1).1
def zy:List Int:=(HC x0 x1).2
def tW:Bool:=allT [Lp.fin cH (HB x0),leN (1:Nat) (List.length (wk x0))&&leN (List.length (wk x0)) (1048576:Nat),Lp.fin cI (Cm x0 x1)]
end
def WK:List SV→List Entry→Option Out
 | [.one ⟨false,[.ref 0]⟩,.one ⟨false,[.ref 1]⟩],[.row false 2 (.int .i64) x0,.row false 100 (.pair (.int .i64) (.pair (.int .i64) (.int .i64))) x1]=>some ⟨(.one ⟨true,[(.ref 2),(.ref 3)]⟩),[(.row false 2 asg x0),(.row false 100 ase x1)],[(.row true 2 asg (tV x0 x1)),(.row true 2 asg (zy x0 x1))],[(tW x0 x1)]⟩
 |_,_=>none
def zA:PF Tryz.prog:=PF.ofG Tryz.prog [ay,PF.lend ay,PF.fz ay,aaM] [cH.F,cI.F] aS 187 Tryz.f187 Tryz.func187 (LOk.fnT (l:= [aT Tryz.f187 0,aT Tryz.f187 1]) (by kernel_rfl) (.cons Zw (.cons Zx (.nil _)))) WK (by
 intro vs es r h;unfold WK at h;split at h
 ·cases h;kernel_rfl
 ·cases h)
def Ve(x0:List Int)(x1:List (Int×Int×Int)):Bool:=bif !dq (0:Int) (tV x0 x1)then !dq (0:Int) (zy x0 x1)else false
def PA(x0:List Int)(x1:List (Int×Int×Int)):Bool:=allT [tW x0 x1,jC (0:Int) (tV x0 x1),!(!dq (0:Int) (tV x0 x1)&&true)||jC (0:Int) (zy x0 x1)]
def ab9:List SV→List Entry→Option Out
 | [.one ⟨false,[.ref 0]⟩,.one ⟨false,[.ref 1]⟩],[.row false 2 (.int .i64) x0,.row false 100 (.pair (.int .i64) (.pair (.int .i64) (.int .i64))) x1]=>some ⟨(.one ⟨false,[(.val (.bool (Ve x0 x1)))]⟩),[(.row false 2 asg x0),(.row false 100 ase x1)],[],[(PA x0 x1)]⟩
 |_,_=>none
def ako:PF Tryz.prog:=PF.ofG Tryz.prog [dp,PF.lend dp,PF.fz dp,zA,PF.lend zA,PF.fz zA] [] aS 103 Tryz.f103 Tryz.func103 (fun c _=>LOk.nil c) ab9 (by
 intro vs es r h;unfold ab9 at h;split at h
 ·cases h;kernel_rfl
 ·cases h)
abbrev eA:=Int×Int×Int×List Int
section
variable (y0 y1 y2:Int)(y3:List Int)
def rz:Bool:=ltI y0 y1
def rA:Bool:=leI (0:Int) y0
def rB:Bool:=ltI y0 (↑y3.length:Int)
def rC:Bool:=ltN y0.toNat y3.length
def rD:Int:=IntKind.wrap .i64 (y0 + (1:Int))
def rE:List Int:=List.set y3 y0.toNat y2
end
def Wu:eA→List (Nat×SV)
 |(y0,y1,y2,_)=> [(41,(.one ⟨false,[(.val (.int .i64 y0))]⟩)),(40,(.one ⟨false,[(.val (.int .i64 y1))]⟩)),(0,(.one ⟨false,[(.ref 0)]⟩)),(5,(.one ⟨false,[(.val (.int .i64 y2))]⟩))]
def Ws:eA→List (Nat×Entry)
 |(_,_,_,y3)=> [(0,(.row true 2 asg y3))]
def Wy:Nat→eA→List (Nat×SV)
 |_,(_,_,_,_)=> []
def Ww:Nat→eA→List (Nat×Entry)
 |_,(_,_,_,y3)=> [(0,(.row true 2 asg y3))]
def qG:eA→LT eA
 |(y0,y1,y2,y3)=> .ite (rz y0 y1) (.need [(rA y0),(rB y0 y3),(rC y0 y3)] (.nrm ((rD y0),y1,y2,(rE y0 y2 y3)) [(0,0)])) (.ext 0 [(0,0)])
def DK(s:St):Option eA:=
 (match s.look 41 with
 |some ⟨none,(.one ⟨false,[(.val (.int .i64 y0))]⟩)⟩=>
 (match s.look 40 with
 |some ⟨none,(.one ⟨false,[(.val (.int .i64 y1))]⟩)⟩=>
 (match s.look 0 with
 |some ⟨none,(.one ⟨false,[(.ref 0)]⟩)⟩=>
 (match s.look 5 with
 |some ⟨none,(.one ⟨false,[(.val (.int .i64 y2))]⟩)⟩=>
 (match s.ent 0 with
 |some (.row true 2 (.int .i64) y3)=>
 some (y0,y1,y2,y3)
 |_=>none)
 |_=>none)
 |_=>none)
 |_=>none)
 |_=>none)
def bi:Lp eA where
 h:=⟨[42,43,6,44,45,46,47,48,41],[0],[],[]⟩
 JL:=Wu
 JE:=Ws
 XL:=Wy
 XE:=Ww
 q:=fun j=>match j with | _=> .exit 1
 tags:= [0]
 lt:=qG
 fuel:=fun(y0,y1,y2,y3)=>y0.natAbs + y1.natAbs + y2.natAbs + y3.length
 fix:=fun(_,y1,y2,_) (y0,_,_,y3)=>(y0,y1,y2,y3)
 σ:= [(0,0)]
 rd:=DK
theorem Uu:LoopOk Tryz.prog (fun k=>Nat.blt k Tryz.f205.ntmps) bi.F (aT Tryz.f205 0):=by
 refine Lp.ok (tbl:= [dp,PF.lend dp,PF.fz dp,Bu,PF.lend Bu,PF.fz Bu]) (lf:= []) aS bi (by kernel_rfl) (LOk.nil _) (fun _=>rfl) (fun _ _=>rfl) ?_ ?_ ?_ ?_ (fun _=>rfl) ?_
 ·rintro⟨y0,y1,y2,y3⟩;kernel_rfl
 ·rintro⟨y0,y1,y2,y3⟩;kernel_rfl
 ·intro s x h
  have h:DK s=some x:=h
  unfold DK at h
  repeat' split at h
  all_goals cases h
  exact⟨aa (by assumption) rfl (aa (by assumption) rfl (aa (by assumption) rfl (aa (by assumption) rfl (rfl)))),ab rfl (by assumption) rfl (rfl)⟩
 ·rintro⟨y0,y1,y2,y3⟩;kernel_rfl
 ·rintro⟨y0,y1,y2,y3⟩ z;exact(And.intro rfl trivial)
section
variable (x0 x1:Int)(x2:List Int)
def bW:Bool:=bif x0==(0:Int)then x0==(0:Int)else x0==(1:Int)
def HD:Int:=Option.getD x2[Int.toNat x1]? (0:Int)
def mt:Bool:=HD x1 x2 !=IntKind.wrap .i64 (IntKind.wrap .i64 (x0 - (0:Int)) + (0:Int))
def HE:Int×Int×Int×List Int:=((0:Int),(↑x2.length:Int),(2:Int),x2)
def HF:Int×Int×Int×List Int:=((0:Int),(↑x2.length:Int),(1:Int),x2)
def tX:Bool:= !bW x0||(mt x0 x1 x2||leI (0:Int) x1)
def tY:Bool:= !bW x0||(mt x0 x1 x2||ltI x1 (↑x2.length:Int))
def tZ:Bool:= !bW x0||(mt x0 x1 x2||ltN x1.toNat x2.length)
def vH:Bool:=bif bW x0 then bif mt x0 x1 x2 then false else true else bif x0==(2:Int)then bif dq (0:Int) x2 then false else true else bif !PC x2 then false else true
def vI:List Int:=bif bW x0 then bif mt x0 x1 x2 then x2 else List.set x2 x1.toNat (IntKind.wrap .i64 ((1:Int) - HD x1 x2))else bif x0==(2:Int)then bif dq (0:Int) x2 then x2 else (Lp.res bi (HE x2)).2.2.2.2else bif !PC x2 then x2 else (Lp.res bi (HF x2)).2.2.2.2
def vJ:Bool:=allT [!bW x0||leI (0:Int) x1,!bW x0||ltI x1 (↑x2.length:Int),!bW x0||ltN x1.toNat x2.length,bW x0||(!x0==(2:Int)||jC (0:Int) x2),bW x0||(x0==(2:Int)||leN x2.length (9223372036854775807:Nat)),tX x0 x1 x2,tY x0 x1 x2,tZ x0 x1 x2,tX x0 x1 x2,tY x0 x1 x2,tZ x0 x1 x2,bW x0||(!x0==(2:Int)||(dq (0:Int) x2||Lp.fin bi (HE x2))),bW x0||(x0==(2:Int)||(!PC x2||Lp.fin bi (HF x2)))]
end
def Rk:List SV→List Entry→Option Out
 | [.one ⟨false,[.ref 0]⟩,.one ⟨true,[.val (.int .i64 x0),.val (.int .i64 x1)]⟩],[.row true 2 (.int .i64) x2]=>some ⟨(.one ⟨false,[(.val (.bool (vH x0 x1 x2)))]⟩),[(.row true 2 asg (vI x0 x1 x2))],[],[(vJ x0 x1 x2)]⟩
 |_,_=>none
def ab3:PF Tryz.prog:=PF.ofG Tryz.prog [dp,PF.lend dp,PF.fz dp,Bu,PF.lend Bu,PF.fz Bu] [bi.F] aS 205 Tryz.f205 Tryz.func205 (LOk.fnT (l:= [aT Tryz.f205 0]) (by kernel_rfl) (.cons Uu (.nil _))) Rk (by
 intro vs es r h;unfold Rk at h;split at h
 ·cases h;kernel_rfl
 ·cases h)
section
variable (x0 x1:Int)(x2:Bool)(x3:Int)
def l8:Int×Int×Int×Bool:=Option.getD aiv[Int.toNat x0]? ((0:Int),(0:Int),(0:Int),false)
def l9:Int×Bool:=(l8 x0).2.2
def iH:Int:=bif IntKind.wrap .i64 (↑(BitVec.toNat (BitVec.ofInt (IntKind.bits IntKind.i64) (Int.fdiv ((l8 x0).1) ((2:Int) ^ min x3.toNat (IntKind.bits IntKind.i64)))&&& BitVec.ofInt (IntKind.bits IntKind.i64) (1:Int))):Int)==(0:Int)then(1:Int)else bif ltI x1 ((l9 x0).1)then(2:Int)else bif bif (l9 x0).2then !x2 else false then(3:Int)else(0:Int)
def iI:Bool:=allT [leI (0:Int) x0,ltI x0 (↑(List.length aiv):Int),ltN x0.toNat (List.length aiv),leI (0:Int) x3]
end
def tP:List SV→List Entry→Option Out
 | [.one ⟨true,[.val (.int .i64 x0),.val (.int .i64 x1),.val (.bool x2)]⟩,.one ⟨false,[.val (.int .i64 x3)]⟩],[]=>some ⟨(.one ⟨false,[(.val (.int .i64 (iH x0 x1 x2 x3)))]⟩),[],[],[(iI x0 x3)]⟩
 |_,_=>none
def uj:PF Tryz.prog:=PF.ofG Tryz.prog [] [] aS 206 Tryz.f206 Tryz.func206 (fun c _=>LOk.nil c) tP (by
 intro vs es r h;unfold tP at h;split at h
 ·cases h;kernel_rfl
 ·cases h)
def iZ(x0 x1:Int):Int:=IntKind.wrap .i64 (x1 + x0)
def Bl:List SV→List Entry→Option Out
 | [.one ⟨true,[.val (.int .i64 x0),.val (.int .i64 x1)]⟩],[]=>some ⟨(.one ⟨false,[(.val (.int .i64 (iZ x0 x1)))]⟩),[],[],[]⟩
 |_,_=>none
def Bn:PF Tryz.prog:=PF.ofG Tryz.prog [] [] aS 239 Tryz.f239 Tryz.func239 (fun c _=>LOk.nil c) Bl (by
 intro vs es r h;unfold Bl at h;split at h
 ·cases h;kernel_rfl
 ·cases h)
abbrev kq:=Int×Int×Int×List (Int×Int)×List Int
section
variable (y0 y1 y2:Int)(y3:List (Int×Int))(y4:List Int)
def uR:Int×Int:=Option.getD y3[Int.toNat y0]? ((0:Int),(0:Int))
def qH:Bool:=leI (iZ ((uR y0 y3).1) ((uR y0 y3).2)) y2
def Ce:Bool:=ltI y0 y1
def Cf:Bool:=leI (0:Int) y0
def Cg:Bool:=ltI y0 (↑y3.length:Int)
def Ch:Bool:=ltN y0.toNat y3.length
def Ci:Bool:= !qH y0 y2 y3||leN (List.length y4 + List.length [y0]) (9223372036854775807:Nat)
def Cj:Bool:= !qH y0 y2 y3||leN ((List.length y4 + List.length [y0]) * (8:Nat)) (140737488355328:Nat)
def Ck:Bool:=qH y0 y2 y3
def wj:Int:=IntKind.wrap .i64 (y0 + (1:Int))
def Cl:List Int:=y4++ [y0]
end
def ad8:kq→List (Nat×SV)
 |(y0,y1,y2,_,_)=> [(10,(.one ⟨false,[(.val (.int .i64 y0))]⟩)),(9,(.one ⟨false,[(.val (.int .i64 y1))]⟩)),(8,(.one ⟨false,[(.ref 0)]⟩)),(1,(.one ⟨false,[(.val (.int .i64 y2))]⟩)),(5,(.one ⟨false,[(.ref 1)]⟩))]
def ad0:kq→List (Nat×Entry)
 |(_,_,_,y3,y4)=> [(0,(.row false 173 asf y3)),(1,(.row true 2 asg y4))]
def aeo:Nat→kq→List (Nat×SV)
 |_,(_,_,_,_,_)=> [(5,(.one ⟨false,[(.ref 1)]⟩))]
def aeg:Nat→kq→List (Nat×Entry)
 |_,(_,_,_,y3,y4)=> [(0,(.row false 173 asf y3)),(1,(.row true 2 asg y4))]
def An:kq→LT kq
 |(y0,y1,y2,y3,y4)=> .ite (Ce y0 y1) (.need [(Cf y0),(Cg y0 y3),(Ch y0 y3)] (.need [(Ci y0 y2 y3 y4),(Cj y0 y2 y3 y4)] (.ite (Ck y0 y2 y3) (.nrm ((wj y0),y1,y2,y3,(Cl y0 y4)) [(0,0),(1,960)]) (.nrm ((wj y0),y1,y2,y3,y4) [(0,0),(1,1)])))) (.ext 0 [(0,0),(1,1)])
def Mh(s:St):Option kq:=
 (match s.look 10 with
 |some ⟨none,(.one ⟨false,[(.val (.int .i64 y0))]⟩)⟩=>
 (match s.look 9 with
 |some ⟨none,(.one ⟨false,[(.val (.int .i64 y1))]⟩)⟩=>
 (match s.look 8 with
 |some ⟨none,(.one ⟨false,[(.ref 0)]⟩)⟩=>
 (match s.look 1 with
 |some ⟨none,(.one ⟨false,[(.val (.int .i64 y2))]⟩)⟩=>
 (match s.look 5 with
 |some ⟨none,(.one ⟨false,[(.ref 192)]⟩)⟩=>
 (match s.ent 0 with
 |some (.row false 173 (.pair (.int .i64) (.int .i64)) y3)=>
 (match s.ent 192 with
 |some (.row true 2 (.int .i64) y4)=>
 some (y0,y1,y2,y3,y4)
 |_=>none)
 |_=>none)
 |_=>none)
 |_=>none)
 |_=>none)
 |_=>none)
 |_=>none)
def fc:Lp kq where
 h:=⟨[11,12,13,14,7,6,15,16,17,18,19,20,21,22,5,23,10],[0],[1],[]⟩
 JL:=ad8
 JE:=ad0
 XL:=aeo
 XE:=aeg
 q:=fun j=>match j with | _=> .exit 0
 tags:= [0]
 lt:=An
 fuel:=fun(y0,y1,y2,y3,y4)=>y0.natAbs + y1.natAbs + y2.natAbs + y3.length + y4.length
 fix:=fun(_,y1,y2,y3,_) (y0,_,_,_,y4)=>(y0,y1,y2,y3,y4)
 σ:= [(0,0),(1,192)]
 rd:=Mh
theorem abW:LoopOk Tryz.prog (fun k=>Nat.blt k Tryz.f234.ntmps) fc.F (aT Tryz.f234 0):=by
 refine Lp.ok (tbl:= [Bn]) (lf:= []) aS fc (by kernel_rfl) (LOk.nil _) (fun _=>rfl) (fun _ _=>rfl) ?_ ?_ ?_ ?_ (fun _=>rfl) ?_
 ·rintro⟨y0,y1,y2,y3,y4⟩;kernel_rfl
 ·rintro⟨y0,y1,y2,y3,y4⟩;kernel_rfl
 ·intro s x h
  have h:Mh s=some x:=h
  unfold Mh at h
  repeat' split at h
  all_goals cases h
  exact⟨aa (by assumption) rfl (aa (by assumption) rfl (aa (by assumption) rfl (aa (by assumption) rfl (aa (by assumption) rfl (rfl))))),ab rfl (by assumption) rfl (ab rfl (by assumption) rfl (rfl))⟩
 ·rintro⟨y0,y1,y2,y3,y4⟩;kernel_rfl
 ·rintro⟨y0,y1,y2,y3,y4⟩ z;exact(And.intro (And.intro rfl rfl) trivial)
section
variable (x0:Int)(x1:List (Int×Int))
def LL:Int×Int×Int×List (Int×Int)×List Int:=((0:Int),(↑x1.length:Int),x0,x1,[])
def Np:List Int:=(Lp.res fc (LL x0 x1)).2.2.2.2.2
def Nq:Bool:=allT [Lp.fin fc (LL x0 x1)]
end
def aaX:List SV→List Entry→Option Out
 | [.one ⟨false,[.ref 0]⟩,.one ⟨false,[.val (.int .i64 x0)]⟩],[.row false 173 (.pair (.int .i64) (.int .i64)) x1]=>some ⟨(.one ⟨false,[(.ref 1)]⟩),[(.row false 173 asf x1)],[(.row true 2 asg (Np x0 x1))],[(Nq x0 x1)]⟩
 |_,_=>none
def TN:PF Tryz.prog:=PF.ofG Tryz.prog [Bn] [fc.F] aS 234 Tryz.f234 Tryz.func234 (LOk.fnT (l:= [aT Tryz.f234 0]) (by kernel_rfl) (.cons abW (.nil _))) aaX (by
 intro vs es r h;unfold aaX at h;split at h
 ·cases h;kernel_rfl
 ·cases h)
section
variable (x0:Int)(x1 x2:List (Int×Int))
def NK:Bool:=(bif bif okPl x1 then okLk x2 else false then wV x0 else false)&&true
def Py:Bool:=bif bif bif bif okPl x1 then okLk x2 else false then wV x0 else false then(↑(List.length (bif NK x0 x1 x2 then Np x0 x1 else [])):Int)==(0:Int)else false then(↑x2.length:Int)==(0:Int)else false
def Pz:Bool:=allT [leN x1.length (9223372036854775807:Nat),!(okPl x1&&true)||leN x2.length (9223372036854775807:Nat),!NK x0 x1 x2||Nq x0 x1]
end
def WI:List SV→List Entry→Option Out
 | [.one ⟨false,[.ref 0]⟩,.one ⟨false,[.ref 1]⟩,.one ⟨false,[.val (.int .i64 x0)]⟩],[.row false 173 (.pair (.int .i64) (.int .i64)) x1,.row false 176 (.pair (.int .i64) (.int .i64)) x2]=>some ⟨(.one ⟨false,[(.val (.bool (Py x0 x1 x2)))]⟩),[(.row false 173 asf x1),(.row false 176 asf x2)],[],[(Pz x0 x1 x2)]⟩
 |_,_=>none
def ahm:PF Tryz.prog:=PF.ofG Tryz.prog [TN,PF.lend TN,PF.fz TN,wZ,PF.lend wZ,PF.fz wZ,rT,PF.lend rT,PF.fz rT,PO] [] aS 207 Tryz.f207 Tryz.func207 (fun c _=>LOk.nil c) WI (by
 intro vs es r h;unfold WI at h;split at h
 ·cases h;kernel_rfl
 ·cases h)
section
variable (x0 x1:Int)(x2:Bool)(x3:Int)
def fL:Bool:=iH x0 x1 x2 x3==(0:Int)
def oM:Int:=bif fL x0 x1 x2 x3 then ((Option.getD aiv[Int.toNat x0]? ((0:Int),(0:Int),(0:Int),false)).2).1else x3
def oN:Bool:=allT [iI x0 x3,!fL x0 x1 x2 x3||leI (0:Int) x0,!fL x0 x1 x2 x3||ltI x0 (↑(List.length aiv):Int),!fL x0 x1 x2 x3||ltN x0.toNat (List.length aiv)]
end
def wH:List SV→List Entry→Option Out
 | [.one ⟨true,[.val (.int .i64 x0),.val (.int .i64 x1),.val (.bool x2)]⟩,.one ⟨false,[.val (.int .i64 x3)]⟩],[]=>some ⟨(.one ⟨false,[(.val (.int .i64 (oM x0 x1 x2 x3)))]⟩),[],[],[(oN x0 x1 x2 x3)]⟩
 |_,_=>none
def Km:PF Tryz.prog:=PF.ofG Tryz.prog [uj] [] aS 208 Tryz.f208 Tryz.func208 (fun c _=>LOk.nil c) wH (by
 intro vs es r h;unfold wH at h;split at h
 ·cases h;kernel_rfl
 ·cases h)
abbrev iX:=Int×List Int×List Int
section
variable (y0:Int)(y1:List Int)
def og:List Int:= [IntKind.wrap .i64 (Int.tdiv (Option.getD y1[Int.toNat y0]? (0:Int)) (2:Int))]
def tc:Bool:=ltI y0 (↑y1.length:Int)
def yX:Bool:=leI (0:Int) y0
def yY:Bool:=ltN y0.toNat y1.length
end
def yZ:Bool:=neI (2:Int) (0:Int)
section
variable (y0:Int)(y1 y2:List Int)
def za:Bool:=leN (List.length y2 + List.length (og y0 y1)) (9223372036854775807:Nat)
def zb:Bool:=leN ((List.length y2 + List.length (og y0 y1)) * (8:Nat)) (140737488355328:Nat)
def zc:Int:=IntKind.wrap .i64 (y0 + (1:Int))
def zd:List Int:=y2++og y0 y1
end
def abz:iX→List (Nat×SV)
 |(y0,_,_)=> [(8,(.one ⟨false,[(.val (.int .i64 y0))]⟩)),(0,(.one ⟨false,[(.ref 0)]⟩)),(7,(.one ⟨false,[(.ref 1)]⟩))]
def abp:iX→List (Nat×Entry)
 |(_,y1,y2)=> [(0,(.row false 2 asg y1)),(1,(.row true 2 asg y2))]
def abT:Nat→iX→List (Nat×SV)
 |_,(_,_,_)=> [(7,(.one ⟨false,[(.ref 1)]⟩))]
def abJ:Nat→iX→List (Nat×Entry)
 |_,(_,y1,y2)=> [(0,(.row false 2 asg y1)),(1,(.row true 2 asg y2))]
def vY:iX→LT iX
 |(y0,y1,y2)=> .ite (tc y0 y1) (.need [(yX y0),(tc y0 y1),(yY y0 y1),(yZ),(za y0 y1 y2),(zb y0 y1 y2)] (.nrm ((zc y0),y1,(zd y0 y1 y2)) [(0,0),(1,768)])) (.ext 0 [(0,0),(1,1)])
def JI(s:St):Option iX:=
 (match s.look 8 with
 |some ⟨none,(.one ⟨false,[(.val (.int .i64 y0))]⟩)⟩=>
 (match s.look 0 with
 |some ⟨none,(.one ⟨false,[(.ref 0)]⟩)⟩=>
 (match s.look 7 with
 |some ⟨none,(.one ⟨false,[(.ref 256)]⟩)⟩=>
 (match s.ent 0 with
 |some (.row false 2 (.int .i64) y1)=>
 (match s.ent 256 with
 |some (.row true 2 (.int .i64) y2)=>
 some (y0,y1,y2)
 |_=>none)
 |_=>none)
 |_=>none)
 |_=>none)
 |_=>none)
def cd:Lp iX where
 h:=⟨[11,12,13,14,17,18,19,20,21,22,23,24,7,15,16,8],[0],[1],[]⟩
 JL:=abz
 JE:=abp
 XL:=abT
 XE:=abJ
 q:=fun j=>match j with | _=> .exit 0
 tags:= [0]
 lt:=vY
 fuel:=fun(y0,y1,y2)=>y0.natAbs + y1.length + y2.length
 fix:=fun(_,y1,_) (y0,_,y2)=>(y0,y1,y2)
 σ:= [(0,0),(1,256)]
 rd:=JI
theorem ZE:LoopOk Tryz.prog (fun k=>Nat.blt k Tryz.f242.ntmps) cd.F (aT Tryz.f242 0):=by
 refine Lp.ok (tbl:= []) (lf:= []) aS cd (by kernel_rfl) (LOk.nil _) (fun _=>rfl) (fun _ _=>rfl) ?_ ?_ ?_ ?_ (fun _=>rfl) ?_
 ·rintro⟨y0,y1,y2⟩;kernel_rfl
 ·rintro⟨y0,y1,y2⟩;kernel_rfl
 ·intro s x h
  have h:JI s=some x:=h
  unfold JI at h
  repeat' split at h
  all_goals cases h
  exact⟨aa (by assumption) rfl (aa (by assumption) rfl (aa (by assumption) rfl (rfl))),ab rfl (by assumption) rfl (ab rfl (by assumption) rfl (rfl))⟩
 ·rintro⟨y0,y1,y2⟩;kernel_rfl
 ·rintro⟨y0,y1,y2⟩ z;exact(And.intro rfl trivial)
abbrev iY:=Int×Int×List (Int×(Int×Int))×List Int
section
variable (y0 y1:Int)(y2:List (Int×(Int×Int)))(y3:List Int)
def io:Int×Int×Int:=Option.getD y2[Int.toNat y0]? ((0:Int),(0:Int),(0:Int))
def ge:Bool:=((io y0 y2).2).1==y1
def td:Bool:=ltI y0 (↑y2.length:Int)
def ze:Bool:=leI (0:Int) y0
def zf:Bool:=ltN y0.toNat y2.length
def te:Bool:= !ge y0 y1 y2||leI (0:Int) y0
def tf:Bool:= !ge y0 y1 y2||ltI y0 (↑y2.length:Int)
def tg:Bool:= !ge y0 y1 y2||ltN y0.toNat y2.length
def zg:Bool:= !ge y0 y1 y2||leI (0:Int) ((io y0 y2).1)
def zh:Bool:= !ge y0 y1 y2||ltI ((io y0 y2).1) (↑y3.length:Int)
def zi:Bool:= !ge y0 y1 y2||ltN (Int.toNat ((io y0 y2).1)) y3.length
def zj:Int:=IntKind.wrap .i64 (y0 + (1:Int))
def wd:List Int:=bif ge y0 y1 y2 then List.set y3 (Int.toNat ((io y0 y2).1)) ((io y0 y2).2.2)else y3
end
def abA:iY→List (Nat×SV)
 |(y0,y1,_,_)=> [(9,(.one ⟨false,[(.val (.int .i64 y0))]⟩)),(1,(.one ⟨false,[(.ref 0)]⟩)),(2,(.one ⟨false,[(.val (.int .i64 y1))]⟩)),(7,(.one ⟨false,[(.ref 1)]⟩))]
def abq:iY→List (Nat×Entry)
 |(_,_,y2,y3)=> [(0,(.row false 100 ase y2)),(1,(.row true 2 asg y3))]
def abU:Nat→iY→List (Nat×SV)
 |_,(_,_,_,_)=> []
def abK:Nat→iY→List (Nat×Entry)
 |_,(_,_,y2,y3)=> [(0,(.row false 100 ase y2)),(1,(.row true 2 asg y3))]
def vZ:iY→LT iY
 |(y0,y1,y2,y3)=> .ite (td y0 y2) (.need [(ze y0),(td y0 y2),(zf y0 y2)] (.need [(te y0 y1 y2),(tf y0 y1 y2),(tg y0 y1 y2),(te y0 y1 y2),(tf y0 y1 y2),(tg y0 y1 y2),(zg y0 y1 y2),(zh y0 y1 y2 y3),(zi y0 y1 y2 y3)] (.nrm ((zj y0),y1,y2,(wd y0 y1 y2 y3)) [(0,0),(1,1)]))) (.ext 0 [(0,0),(1,1)])
def JJ(s:St):Option iY:=
 (match s.look 9 with
 |some ⟨none,(.one ⟨false,[(.val (.int .i64 y0))]⟩)⟩=>
 (match s.look 1 with
 |some ⟨none,(.one ⟨false,[(.ref 1)]⟩)⟩=>
 (match s.look 2 with
 |some ⟨none,(.one ⟨false,[(.val (.int .i64 y1))]⟩)⟩=>
 (match s.look 7 with
 |some ⟨none,(.one ⟨false,[(.ref 448)]⟩)⟩=>
 (match s.ent 1 with
 |some (.row false 100 (.pair (.int .i64) (.pair (.int .i64) (.int .i64))) y2)=>
 (match s.ent 448 with
 |some (.row true 2 (.int .i64) y3)=>
 some (y0,y1,y2,y3)
 |_=>none)
 |_=>none)
 |_=>none)
 |_=>none)
 |_=>none)
 |_=>none)
def cO:Lp iY where
 h:=⟨[25,26,27,28,31,32,33,34,35,36,37,38,39,40,41,42,43,44,45,46,47,48,49,29,30,9],[0,1],[],[]⟩
 JL:=abA
 JE:=abq
 XL:=abU
 XE:=abK
 q:=fun j=>match j with | _=> .exit 2
 tags:= [0]
 lt:=vZ
 fuel:=fun(y0,y1,y2,y3)=>y0.natAbs + y1.natAbs + y2.length + y3.length
 fix:=fun(_,y1,y2,_) (y0,_,_,y3)=>(y0,y1,y2,y3)
 σ:= [(0,1),(1,448)]
 rd:=JJ
theorem ZF:LoopOk Tryz.prog (fun k=>Nat.blt k Tryz.f242.ntmps) cO.F (aT Tryz.f242 1):=by
 refine Lp.ok (tbl:= []) (lf:= []) aS cO (by kernel_rfl) (LOk.nil _) (fun _=>rfl) (fun _ _=>rfl) ?_ ?_ ?_ ?_ (fun _=>rfl) ?_
 ·rintro⟨y0,y1,y2,y3⟩;kernel_rfl
 ·rintro⟨y0,y1,y2,y3⟩;kernel_rfl
 ·intro s x h
  have h:JJ s=some x:=h
  unfold JJ at h
  repeat' split at h
  all_goals cases h
  exact⟨aa (by assumption) rfl (aa (by assumption) rfl (aa (by assumption) rfl (aa (by assumption) rfl (rfl)))),ab rfl (by assumption) rfl (ab rfl (by assumption) rfl (rfl))⟩
 ·rintro⟨y0,y1,y2,y3⟩;kernel_rfl
 ·rintro⟨y0,y1,y2,y3⟩ z;exact(And.intro rfl trivial)
section
variable (x0:Int)(x1:List Int)(x2:List (Int×Int×Int))
def Dk:Int×List Int×List Int:=((0:Int),x1,[])
def Dm:Int×Int×List (Int×Int×Int)×List Int:=((0:Int),x0,x2,(Lp.res cd (Dk x1)).2.2.2)
def EC:List Int:=(Lp.res cO (Dm x0 x1 x2)).2.2.2.2
def ED:Bool:=allT [Lp.fin cd (Dk x1),Lp.fin cO (Dm x0 x1 x2)]
end
def WT:List SV→List Entry→Option Out
 | [.one ⟨false,[.ref 0]⟩,.one ⟨false,[.ref 1]⟩,.one ⟨false,[.val (.int .i64 x0)]⟩],[.row false 2 (.int .i64) x1,.row false 100 (.pair (.int .i64) (.pair (.int .i64) (.int .i64))) x2]=>some ⟨(.one ⟨false,[(.ref 2)]⟩),[(.row false 2 asg x1),(.row false 100 ase x2)],[(.row true 2 asg (EC x0 x1 x2))],[(ED x0 x1 x2)]⟩
 |_,_=>none
def PT:PF Tryz.prog:=PF.ofG Tryz.prog [] [cd.F,cO.F] aS 242 Tryz.f242 Tryz.func242 (LOk.fnT (l:= [aT Tryz.f242 0,aT Tryz.f242 1]) (by kernel_rfl) (.cons ZE (.cons ZF (.nil _)))) WT (by
 intro vs es r h;unfold WT at h;split at h
 ·cases h;kernel_rfl
 ·cases h)
section
variable (x0:List Int)(x1:List (Int×Int×Int))
def Ew:Int:=bif !areR x0 then(1:Int)else bif !lfOk (↑x0.length:Int) x1 then(2:Int)else(0:Int)
def Ey:List Int:=bif !areR x0 then []else bif !lfOk (↑x0.length:Int) x1 then []else EC (0:Int) x0 x1
def Ez:List Int:=bif !areR x0 then []else bif !lfOk (↑x0.length:Int) x1 then []else EC (1:Int) x0 x1
def JV:Bool:=allT [leN x0.length (9223372036854775807:Nat),!areR x0||leN x1.length (9223372036854775807:Nat),!areR x0||(!lfOk (↑x0.length:Int) x1||ED (0:Int) x0 x1),!areR x0||(!lfOk (↑x0.length:Int) x1||ED (1:Int) x0 x1)]
end
def WP:List SV→List Entry→Option Out
 | [.one ⟨false,[.ref 0]⟩,.one ⟨false,[.ref 1]⟩],[.row false 2 (.int .i64) x0,.row false 100 (.pair (.int .i64) (.pair (.int .i64) (.int .i64))) x1]=>some ⟨(.tup [⟨true,[(.ref 2),(.ref 3)]⟩,⟨false,[(.val (.int .i64 (Ew x0 x1)))]⟩]),[(.row false 2 asg x0),(.row false 100 ase x1)],[(.row true 2 asg (Ey x0 x1)),(.row true 2 asg (Ez x0 x1))],[(JV x0 x1)]⟩
 |_,_=>none
def PQ:PF Tryz.prog:=PF.ofG Tryz.prog [PT,PF.lend PT,PF.fz PT,j6,PF.lend j6,PF.fz j6,jZ,PF.lend jZ,PF.fz jZ] [] aS 236 Tryz.f236 Tryz.func236 (fun c _=>LOk.nil c) WP (by
 intro vs es r h;unfold WP at h;split at h
 ·cases h;kernel_rfl
 ·cases h)
abbrev nf:=Int×Int×List Int
section
variable (y0 y1:Int)(y2:List Int)
def BD:Bool:=ltI y0 (↑y2.length:Int)
def GI:Bool:=leI (0:Int) y0
def GJ:Bool:=ltN y0.toNat y2.length
def GK:Int:=IntKind.wrap .i64 (y0 + (1:Int))
def GL:Int:=IntKind.wrap .i64 (y1 + Option.getD y2[Int.toNat y0]? (0:Int))
end
def agy:nf→List (Nat×SV)
 |(y0,y1,_)=> [(4,(.one ⟨false,[(.val (.int .i64 y0))]⟩)),(0,(.one ⟨false,[(.ref 0)]⟩)),(3,(.one ⟨false,[(.val (.int .i64 y1))]⟩))]
def agr:nf→List (Nat×Entry)
 |(_,_,y2)=> [(0,(.row false 2 asg y2))]
def agM:Nat→nf→List (Nat×SV)
 |_,(_,y1,_)=> [(3,(.one ⟨false,[(.val (.int .i64 y1))]⟩))]
def agF:Nat→nf→List (Nat×Entry)
 |_,(_,_,y2)=> [(0,(.row false 2 asg y2))]
def Ep:nf→LT nf
 |(y0,y1,y2)=> .ite (BD y0 y2) (.need [(GI y0),(BD y0 y2),(GJ y0 y2)] (.nrm ((GK y0),(GL y0 y1 y2),y2) [(0,0)])) (.ext 0 [(0,0)])
def Qd(s:St):Option nf:=
 (match s.look 4 with
 |some ⟨none,(.one ⟨false,[(.val (.int .i64 y0))]⟩)⟩=>
 (match s.look 0 with
 |some ⟨none,(.one ⟨false,[(.ref 0)]⟩)⟩=>
 (match s.look 3 with
 |some ⟨none,(.one ⟨false,[(.val (.int .i64 y1))]⟩)⟩=>
 (match s.ent 0 with
 |some (.row false 2 (.int .i64) y2)=>
 some (y0,y1,y2)
 |_=>none)
 |_=>none)
 |_=>none)
 |_=>none)
def hY:Lp nf where
 h:=⟨[5,6,7,8,11,12,13,14,15,16,3,9,10,4],[0],[],[]⟩
 JL:=agy
 JE:=agr
 XL:=agM
 XE:=agF
 q:=fun j=>match j with | _=> .exit 0
 tags:= [0]
 lt:=Ep
 fuel:=fun(y0,y1,y2)=>y0.natAbs + y1.natAbs + y2.length
 fix:=fun(_,_,y2) (y0,y1,_)=>(y0,y1,y2)
 σ:= [(0,0)]
 rd:=Qd
theorem aez:LoopOk Tryz.prog (fun k=>Nat.blt k Tryz.f237.ntmps) hY.F (aT Tryz.f237 0):=by
 refine Lp.ok (tbl:= []) (lf:= []) aS hY (by kernel_rfl) (LOk.nil _) (fun _=>rfl) (fun _ _=>rfl) ?_ ?_ ?_ ?_ (fun _=>rfl) ?_
 ·rintro⟨y0,y1,y2⟩;kernel_rfl
 ·rintro⟨y0,y1,y2⟩;kernel_rfl
 ·intro s x h
  have h:Qd s=some x:=h
  unfold Qd at h
  repeat' split at h
  all_goals cases h
  exact⟨aa (by assumption) rfl (aa (by assumption) rfl (aa (by assumption) rfl (rfl))),ab rfl (by assumption) rfl (rfl)⟩
 ·rintro⟨y0,y1,y2⟩;kernel_rfl
 ·rintro⟨y0,y1,y2⟩ z;exact(And.intro rfl trivial)
section
variable (x0:List Int)
def Qp:Int×Int×List Int:=((0:Int),(0:Int),x0)
def ML:Int:=((Lp.res hY (Qp x0)).2.2).1
def MM:Bool:=allT [Lp.fin hY (Qp x0)]
end
def aeQ:List SV→List Entry→Option Out
 | [.one ⟨false,[.ref 0]⟩],[.row false 2 (.int .i64) x0]=>some ⟨(.one ⟨false,[(.val (.int .i64 (ML x0)))]⟩),[(.row false 2 asg x0)],[],[(MM x0)]⟩
 |_,_=>none
def Yr:PF Tryz.prog:=PF.ofG Tryz.prog [] [hY.F] aS 237 Tryz.f237 Tryz.func237 (LOk.fnT (l:= [aT Tryz.f237 0]) (by kernel_rfl) (.cons aez (.nil _))) aeQ (by
 intro vs es r h;unfold aeQ at h;split at h
 ·cases h;kernel_rfl
 ·cases h)
section
variable (x0:List Int)(x1:List (Int×Int×Int))
def DN:Bool:=Ew x0 x1 !=(0:Int)
def VR:Bool:=bif DN x0 x1 then false else IntKind.wrap .i64 (ML (Ey x0 x1) + ML (Ez x0 x1))==IntKind.wrap .i64 ((2:Int) * (↑x0.length:Int))
def VS:Int:=bif DN x0 x1 then Ew x0 x1 else(0:Int)
def VT:Bool:=allT [JV x0 x1,DN x0 x1||MM (Ey x0 x1),DN x0 x1||MM (Ez x0 x1)]
end
def aca:List SV→List Entry→Option Out
 | [.one ⟨false,[.ref 0]⟩,.one ⟨false,[.ref 1]⟩],[.row false 2 (.int .i64) x0,.row false 100 (.pair (.int .i64) (.pair (.int .i64) (.int .i64))) x1]=>some ⟨(.tup [⟨false,[(.val (.bool (VR x0 x1)))]⟩,⟨false,[(.val (.int .i64 (VS x0 x1)))]⟩]),[(.row false 2 asg x0),(.row false 100 ase x1)],[],[(VT x0 x1)]⟩
 |_,_=>none
def akp:PF Tryz.prog:=PF.ofG Tryz.prog [PQ,PF.lend PQ,PF.fz PQ,Yr,PF.lend Yr,PF.fz Yr] [] aS 220 Tryz.f220 Tryz.func220 (fun c _=>LOk.nil c) aca (by
 intro vs es r h;unfold aca at h;split at h
 ·cases h;kernel_rfl
 ·cases h)
abbrev lX:=Int×Int×List Int×List Int
section
variable (y0 y1:Int)(y2 y3:List Int)
def EE:Bool:=ltI y0 (↑y2.length:Int)
def EF:Bool:=leN (List.length y3 + List.length [y1]) (9223372036854775807:Nat)
def EG:Bool:=leN ((List.length y3 + List.length [y1]) * (8:Nat)) (140737488355328:Nat)
def EH:Int:=IntKind.wrap .i64 (y0 + (1:Int))
def EI:List Int:=y3++ [y1]
end
def afo:lX→List (Nat×SV)
 |(y0,y1,_,_)=> [(6,(.one ⟨false,[(.val (.int .i64 y0))]⟩)),(0,(.one ⟨false,[(.ref 0)]⟩)),(5,(.one ⟨false,[(.ref 1)]⟩)),(1,(.one ⟨false,[(.val (.int .i64 y1))]⟩))]
def afg:lX→List (Nat×Entry)
 |(_,_,y2,y3)=> [(0,(.row false 2 asg y2)),(1,(.row true 2 asg y3))]
def afE:Nat→lX→List (Nat×SV)
 |_,(_,_,_,_)=> [(5,(.one ⟨false,[(.ref 1)]⟩))]
def afw:Nat→lX→List (Nat×Entry)
 |_,(_,_,y2,y3)=> [(0,(.row false 2 asg y2)),(1,(.row true 2 asg y3))]
def CP:lX→LT lX
 |(y0,y1,y2,y3)=> .ite (EE y0 y2) (.need [(EF y1 y3),(EG y1 y3)] (.nrm ((EH y0),y1,y2,(EI y1 y3)) [(0,0),(1,512)])) (.ext 0 [(0,0),(1,1)])
def Oa(s:St):Option lX:=
 (match s.look 6 with
 |some ⟨none,(.one ⟨false,[(.val (.int .i64 y0))]⟩)⟩=>
 (match s.look 0 with
 |some ⟨none,(.one ⟨false,[(.ref 0)]⟩)⟩=>
 (match s.look 5 with
 |some ⟨none,(.one ⟨false,[(.ref 192)]⟩)⟩=>
 (match s.look 1 with
 |some ⟨none,(.one ⟨false,[(.val (.int .i64 y1))]⟩)⟩=>
 (match s.ent 0 with
 |some (.row false 2 (.int .i64) y2)=>
 (match s.ent 192 with
 |some (.row true 2 (.int .i64) y3)=>
 some (y0,y1,y2,y3)
 |_=>none)
 |_=>none)
 |_=>none)
 |_=>none)
 |_=>none)
 |_=>none)
def gm:Lp lX where
 h:=⟨[8,9,10,11,14,15,16,17,5,12,13,6],[0],[1],[]⟩
 JL:=afo
 JE:=afg
 XL:=afE
 XE:=afw
 q:=fun j=>match j with | _=> .exit 0
 tags:= [0]
 lt:=CP
 fuel:=fun(y0,y1,y2,y3)=>y0.natAbs + y1.natAbs + y2.length + y3.length
 fix:=fun(_,y1,y2,_) (y0,_,_,y3)=>(y0,y1,y2,y3)
 σ:= [(0,0),(1,192)]
 rd:=Oa
theorem adi:LoopOk Tryz.prog (fun k=>Nat.blt k Tryz.f223.ntmps) gm.F (aT Tryz.f223 0):=by
 refine Lp.ok (tbl:= []) (lf:= []) aS gm (by kernel_rfl) (LOk.nil _) (fun _=>rfl) (fun _ _=>rfl) ?_ ?_ ?_ ?_ (fun _=>rfl) ?_
 ·rintro⟨y0,y1,y2,y3⟩;kernel_rfl
 ·rintro⟨y0,y1,y2,y3⟩;kernel_rfl
 ·intro s x h
  have h:Oa s=some x:=h
  unfold Oa at h
  repeat' split at h
  all_goals cases h
  exact⟨aa (by assumption) rfl (aa (by assumption) rfl (aa (by assumption) rfl (aa (by assumption) rfl (rfl)))),ab rfl (by assumption) rfl (ab rfl (by assumption) rfl (rfl))⟩
 ·rintro⟨y0,y1,y2,y3⟩;kernel_rfl
 ·rintro⟨y0,y1,y2,y3⟩ z;exact(And.intro rfl trivial)
section
variable (x0:Int)(x1:List Int)
def NA:Int×Int×List Int×List Int:=((0:Int),x0,x1,[])
def Lh:List Int:=(Lp.res gm (NA x0 x1)).2.2.2.2
def Li:Bool:=allT [Lp.fin gm (NA x0 x1)]
end
def aci:List SV→List Entry→Option Out
 | [.one ⟨false,[.ref 0]⟩,.one ⟨false,[.val (.int .i64 x0)]⟩],[.row false 2 (.int .i64) x1]=>some ⟨(.one ⟨false,[(.ref 1)]⟩),[(.row false 2 asg x1)],[(.row true 2 asg (Lh x0 x1))],[(Li x0 x1)]⟩
 |_,_=>none
def VD:PF Tryz.prog:=PF.ofG Tryz.prog [] [gm.F] aS 223 Tryz.f223 Tryz.func223 (LOk.fnT (l:= [aT Tryz.f223 0]) (by kernel_rfl) (.cons adi (.nil _))) aci (by
 intro vs es r h;unfold aci at h;split at h
 ·cases h;kernel_rfl
 ·cases h)
section
variable (x0 x1:Int)(x2:List Int)
def BG:Int:=Option.getD x2[Int.toNat x1]? (0:Int)
def BH:Bool:= !x0==(0:Int)||leI (0:Int) x1
def BI:Bool:= !x0==(0:Int)||ltI x1 (↑x2.length:Int)
def BJ:Bool:= !x0==(0:Int)||ltN x1.toNat x2.length
def BK:Bool:=x0==(0:Int)||(!x0==(1:Int)||leI (0:Int) x1)
def BL:Bool:=x0==(0:Int)||(!x0==(1:Int)||ltI x1 (↑x2.length:Int))
def BM:Bool:=x0==(0:Int)||(!x0==(1:Int)||ltN x1.toNat x2.length)
def DR:Bool:=bif x0==(0:Int)then BG x1 x2==(0:Int)else bif x0==(1:Int)then BG x1 x2==(1:Int)else bif x0==(2:Int)then leI (1:Int) (zX x2)else zX x2==(2:Int)
def DS:List Int:=bif x0==(0:Int)then List.set x2 x1.toNat (1:Int)else bif x0==(1:Int)then List.set x2 x1.toNat (0:Int)else bif x0==(2:Int)then Lh (2:Int) x2 else Lh (1:Int) x2
def DT:Bool:=allT [leN x2.length (1048576:Nat),BH x0 x1,BI x0 x1 x2,BJ x0 x1 x2,BH x0 x1,BI x0 x1 x2,BJ x0 x1 x2,BK x0 x1,BL x0 x1 x2,BM x0 x1 x2,BK x0 x1,BL x0 x1 x2,BM x0 x1 x2,x0==(0:Int)||(x0==(1:Int)||(!x0==(2:Int)||Li (2:Int) x2)),x0==(0:Int)||(x0==(1:Int)||(!x0==(2:Int)||IR x2)),x0==(0:Int)||(x0==(1:Int)||(x0==(2:Int)||Li (1:Int) x2)),x0==(0:Int)||(x0==(1:Int)||(x0==(2:Int)||IR x2))]
end
def aa3:List SV→List Entry→Option Out
 | [.one ⟨false,[.ref 0]⟩,.one ⟨true,[.val (.int .i64 x0),.val (.int .i64 x1)]⟩],[.row false 2 (.int .i64) x2]=>some ⟨(.tup [⟨false,[(.ref 1)]⟩,⟨false,[(.val (.bool (DR x0 x1 x2)))]⟩]),[(.row false 2 asg x2)],[(.row true 2 asg (DS x0 x1 x2))],[(DT x0 x1 x2)]⟩
 |_,_=>none
def ajm:PF Tryz.prog:=PF.ofG Tryz.prog [TO,PF.lend TO,PF.fz TO,qk,PF.lend qk,PF.fz qk,VD,PF.lend VD,PF.fz VD] [] aS 179 Tryz.f179 Tryz.func179 (fun c _=>LOk.nil c) aa3 (by
 intro vs es r h;unfold aa3 at h;split at h
 ·cases h;kernel_rfl
 ·cases h)
abbrev ne:=Int×Int×List Int
section
variable (y0 y1:Int)(y2:List Int)
def BC:Bool:=ltI y0 (↑y2.length:Int)
def GE:Bool:=leI (0:Int) y0
def GF:Bool:=ltN y0.toNat y2.length
def GG:Bool:=Option.getD y2[Int.toNat y0]? (0:Int)==y1
def GH:Int:=IntKind.wrap .i64 (y0 + (1:Int))
end
def agx:ne→List (Nat×SV)
 |(y0,y1,_)=> [(5,(.one ⟨false,[(.val (.int .i64 y0))]⟩)),(0,(.one ⟨false,[(.ref 0)]⟩)),(1,(.one ⟨false,[(.val (.int .i64 y1))]⟩))]
def agq:ne→List (Nat×Entry)
 |(_,_,y2)=> [(0,(.row false 2 asg y2))]
def agL:Nat→ne→List (Nat×SV)
 |0,(_,_,_)=> [(4,(.one ⟨false,[(.val (.bool true))]⟩))]
 |_,(_,_,_)=> []
def agE:Nat→ne→List (Nat×Entry)
 |0,(_,_,y2)=> [(0,(.row false 2 asg y2))]
 |_,(_,_,y2)=> [(0,(.row false 2 asg y2))]
def Eo:ne→LT ne
 |(y0,y1,y2)=> .ite (BC y0 y2) (.need [(GE y0),(BC y0 y2),(GF y0 y2)] (.ite (GG y0 y1 y2) (.ext 0 [(0,0)]) (.nrm ((GH y0),y1,y2) [(0,0)]))) (.ext 1 [(0,0)])
def Qc(s:St):Option ne:=
 (match s.look 5 with
 |some ⟨none,(.one ⟨false,[(.val (.int .i64 y0))]⟩)⟩=>
 (match s.look 0 with
 |some ⟨none,(.one ⟨false,[(.ref 0)]⟩)⟩=>
 (match s.look 1 with
 |some ⟨none,(.one ⟨false,[(.val (.int .i64 y1))]⟩)⟩=>
 (match s.ent 0 with
 |some (.row false 2 (.int .i64) y2)=>
 some (y0,y1,y2)
 |_=>none)
 |_=>none)
 |_=>none)
 |_=>none)
def gi:Lp ne where
 h:=⟨[6,7,8,9,12,13,14,15,16,17,4,10,11,5],[0],[],[]⟩
 JL:=agx
 JE:=agq
 XL:=agL
 XE:=agE
 q:=fun j=>match j with | 0=> .ret | _=> .exit 0
 tags:= [0,1]
 lt:=Eo
 fuel:=fun(y0,y1,y2)=>y0.natAbs + y1.natAbs + y2.length
 fix:=fun(_,y1,y2) (y0,_,_)=>(y0,y1,y2)
 σ:= [(0,0)]
 rd:=Qc
theorem aey:LoopOk Tryz.prog (fun k=>Nat.blt k Tryz.f224.ntmps) gi.F (aT Tryz.f224 0):=by
 refine Lp.ok (tbl:= []) (lf:= []) aS gi (by kernel_rfl) (LOk.nil _) (fun _=>rfl) (fun j _=>by unfold gi;match j with | 0=>rfl | _ + 1=>rfl) ?_ ?_ ?_ ?_ (fun _=>rfl) ?_
 ·rintro⟨y0,y1,y2⟩;kernel_rfl
 ·rintro⟨y0,y1,y2⟩;kernel_rfl
 ·intro s x h
  have h:Qc s=some x:=h
  unfold Qc at h
  repeat' split at h
  all_goals cases h
  exact⟨aa (by assumption) rfl (aa (by assumption) rfl (aa (by assumption) rfl (rfl))),ab rfl (by assumption) rfl (rfl)⟩
 ·rintro⟨y0,y1,y2⟩;kernel_rfl
 ·rintro⟨y0,y1,y2⟩ z;exact(And.intro (And.intro trivial rfl) trivial)
section
variable (x0:Int)(x1:List Int)
def VW:Int×Int×List Int:=((0:Int),x0,x1)
def Sy:Bool:=bif Nat.beq ((Lp.res gi (VW x0 x1)).1) (0:Nat)then true else false
def Sz:Bool:=allT [Lp.fin gi (VW x0 x1)]
end
def aeO:List SV→List Entry→Option Out
 | [.one ⟨false,[.ref 0]⟩,.one ⟨false,[.val (.int .i64 x0)]⟩],[.row false 2 (.int .i64) x1]=>some ⟨(.one ⟨false,[(.val (.bool (Sy x0 x1)))]⟩),[(.row false 2 asg x1)],[],[(Sz x0 x1)]⟩
 |_,_=>none
def Yq:PF Tryz.prog:=PF.ofG Tryz.prog [] [gi.F] aS 224 Tryz.f224 Tryz.func224 (LOk.fnT (l:= [aT Tryz.f224 0]) (by kernel_rfl) (.cons aey (.nil _))) aeO (by
 intro vs es r h;unfold aeO at h;split at h
 ·cases h;kernel_rfl
 ·cases h)
def Ll(x0:Int):List Int:=bif x0==(0:Int)then [(0:Int)]else bif x0==(2:Int)then [(3:Int)]else bif x0==(3:Int)then [(1:Int),(2:Int),(3:Int),(4:Int),(5:Int)]else bif bif x0==(4:Int)then x0==(4:Int)else x0==(5:Int)then [(4:Int)]else bif x0==(6:Int)then [(5:Int)]else bif x0==(7:Int)then [(0:Int),(2:Int)]else bif x0==(8:Int)then [(1:Int)]else [(2:Int)]
def acl:List SV→List Entry→Option Out
 | [.one ⟨false,[.val (.int .i64 x0)]⟩],[]=>some ⟨(.one ⟨false,[(.ref 0)]⟩),[],[(.row true 2 asg (Ll x0))],[]⟩
 |_,_=>none
def akx:PF Tryz.prog:=PF.ofG Tryz.prog [] [] aS 225 Tryz.f225 Tryz.func225 (fun c _=>LOk.nil c) acl (by
 intro vs es r h;unfold acl at h;split at h
 ·cases h;kernel_rfl
 ·cases h)
def NE(x0:Int):Int:=bif x0==(3:Int)then(0:Int)else bif bif x0==(4:Int)then x0==(4:Int)else bif x0==(7:Int)then x0==(7:Int)else x0==(8:Int)then(2:Int)else bif bif x0==(5:Int)then x0==(5:Int)else x0==(6:Int)then(3:Int)else(1:Int)
def aa5:List SV→List Entry→Option Out
 | [.one ⟨false,[.val (.int .i64 x0)]⟩],[]=>some ⟨(.one ⟨false,[(.val (.int .i64 (NE x0)))]⟩),[],[],[]⟩
 |_,_=>none
def ajn:PF Tryz.prog:=PF.ofG Tryz.prog [] [] aS 226 Tryz.f226 Tryz.func226 (fun c _=>LOk.nil c) aa5 (by
 intro vs es r h;unfold aa5 at h;split at h
 ·cases h;kernel_rfl
 ·cases h)
def SA(x0:Int):Bool:=bif bif bif x0==(0:Int)then true else x0==(4:Int)then true else x0==(7:Int)then true else x0==(8:Int)
def aeR:List SV→List Entry→Option Out
 | [.one ⟨false,[.val (.int .i64 x0)]⟩],[]=>some ⟨(.one ⟨false,[(.val (.bool (SA x0)))]⟩),[],[],[]⟩
 |_,_=>none
def ale:PF Tryz.prog:=PF.ofG Tryz.prog [] [] aS 227 Tryz.f227 Tryz.func227 (fun c _=>LOk.nil c) aeR (by
 intro vs es r h;unfold aeR at h;split at h
 ·cases h;kernel_rfl
 ·cases h)
def JX(x0 x1 x2:Int)(x3:Bool):Int:=bif !Sy x0 (Ll x1)then(1:Int)else bif ltI x2 (NE x1)then(2:Int)else bif bif SA x1 then !x3 else false then(3:Int)else(0:Int)
def JY(x0 x1:Int):Bool:=allT [Sz x0 (Ll x1)]
def WU:List SV→List Entry→Option Out
 | [.one ⟨false,[.val (.int .i64 x0)]⟩,.one ⟨true,[.val (.int .i64 x1),.val (.int .i64 x2),.val (.bool x3)]⟩],[]=>some ⟨(.one ⟨false,[(.val (.int .i64 (JX x0 x1 x2 x3)))]⟩),[],[],[(JY x0 x1)]⟩
 |_,_=>none
def Xf:PF Tryz.prog:=PF.ofG Tryz.prog [Yq,PF.lend Yq,PF.fz Yq,akx,ajn,ale] [] aS 180 Tryz.f180 Tryz.func180 (fun c _=>LOk.nil c) WU (by
 intro vs es r h;unfold WU at h;split at h
 ·cases h;kernel_rfl
 ·cases h)
def Wl(x0:Int)(x1:List (Int×Int)):Int:=bif !okPl x1 then(1:Int)else bif !a6 x0 (0:Int) (100000:Int)then(2:Int)else(0:Int)
def Wm(x1:List (Int×Int)):Bool:=allT [leN x1.length (9223372036854775807:Nat)]
def acp:List SV→List Entry→Option Out
 | [.one ⟨false,[.ref 0]⟩,.one ⟨false,[.val (.int .i64 x0)]⟩],[.row false 173 (.pair (.int .i64) (.int .i64)) x1]=>some ⟨(.one ⟨false,[(.val (.int .i64 (Wl x0 x1)))]⟩),[(.row false 173 asf x1)],[],[(Wm x1)]⟩
 |_,_=>none
def VE:PF Tryz.prog:=PF.ofG Tryz.prog [fK,xa,PF.lend xa,PF.fz xa] [] aS 228 Tryz.f228 Tryz.func228 (fun c _=>LOk.nil c) acp (by
 intro vs es r h;unfold acp at h;split at h
 ·cases h;kernel_rfl
 ·cases h)
abbrev ng:=Int×Int×List (Int×Int)×List Int
section
variable (y0 y1:Int)(y2:List (Int×Int))(y3:List Int)
def zT:Int×Int:=Option.getD y2[Int.toNat y0]? ((0:Int),(0:Int))
def uM:Bool:=leI (IntKind.wrap .i64 ((zT y0 y2).2 + (zT y0 y2).1)) y1
def wC:Bool:=ltI y0 (↑y2.length:Int)
def BN:Bool:=leI (0:Int) y0
def BO:Bool:=ltN y0.toNat y2.length
def GP:Bool:= !uM y0 y1 y2||leN (List.length y3 + List.length [y0]) (9223372036854775807:Nat)
def GQ:Bool:= !uM y0 y1 y2||leN ((List.length y3 + List.length [y0]) * (8:Nat)) (140737488355328:Nat)
def GR:Bool:=uM y0 y1 y2
def BP:Int:=IntKind.wrap .i64 (y0 + (1:Int))
def GS:List Int:=y3++ [y0]
end
def agz:ng→List (Nat×SV)
 |(y0,y1,_,_)=> [(6,(.one ⟨false,[(.val (.int .i64 y0))]⟩)),(0,(.one ⟨false,[(.ref 0)]⟩)),(1,(.one ⟨false,[(.val (.int .i64 y1))]⟩)),(5,(.one ⟨false,[(.ref 1)]⟩))]
def ags:ng→List (Nat×Entry)
 |(_,_,y2,y3)=> [(0,(.row false 173 asf y2)),(1,(.row true 2 asg y3))]
def agN:Nat→ng→List (Nat×SV)
 |_,(_,_,_,_)=> [(5,(.one ⟨false,[(.ref 1)]⟩))]
def agG:Nat→ng→List (Nat×Entry)
 |_,(_,_,y2,y3)=> [(0,(.row false 173 asf y2)),(1,(.row true 2 asg y3))]
def Er:ng→LT ng
 |(y0,y1,y2,y3)=> .ite (wC y0 y2) (.need [(BN y0),(wC y0 y2),(BO y0 y2),(BN y0),(wC y0 y2),(BO y0 y2)] (.need [(GP y0 y1 y2 y3),(GQ y0 y1 y2 y3)] (.ite (GR y0 y1 y2) (.nrm ((BP y0),y1,y2,(GS y0 y3)) [(0,0),(1,1344)]) (.nrm ((BP y0),y1,y2,y3) [(0,0),(1,1)])))) (.ext 0 [(0,0),(1,1)])
def Qe(s:St):Option ng:=
 (match s.look 6 with
 |some ⟨none,(.one ⟨false,[(.val (.int .i64 y0))]⟩)⟩=>
 (match s.look 0 with
 |some ⟨none,(.one ⟨false,[(.ref 0)]⟩)⟩=>
 (match s.look 1 with
 |some ⟨none,(.one ⟨false,[(.val (.int .i64 y1))]⟩)⟩=>
 (match s.look 5 with
 |some ⟨none,(.one ⟨false,[(.ref 192)]⟩)⟩=>
 (match s.ent 0 with
 |some (.row false 173 (.pair (.int .i64) (.int .i64)) y2)=>
 (match s.ent 192 with
 |some (.row true 2 (.int .i64) y3)=>
 some (y0,y1,y2,y3)
 |_=>none)
 |_=>none)
 |_=>none)
 |_=>none)
 |_=>none)
 |_=>none)
def hZ:Lp ng where
 h:=⟨[8,9,10,11,14,15,16,17,18,19,20,21,22,23,24,25,26,27,28,29,30,5,12,13,6],[0],[1],[]⟩
 JL:=agz
 JE:=ags
 XL:=agN
 XE:=agG
 q:=fun j=>match j with | _=> .exit 0
 tags:= [0]
 lt:=Er
 fuel:=fun(y0,y1,y2,y3)=>y0.natAbs + y1.natAbs + y2.length + y3.length
 fix:=fun(_,y1,y2,_) (y0,_,_,y3)=>(y0,y1,y2,y3)
 σ:= [(0,0),(1,192)]
 rd:=Qe
theorem aeA:LoopOk Tryz.prog (fun k=>Nat.blt k Tryz.f229.ntmps) hZ.F (aT Tryz.f229 0):=by
 refine Lp.ok (tbl:= []) (lf:= []) aS hZ (by kernel_rfl) (LOk.nil _) (fun _=>rfl) (fun _ _=>rfl) ?_ ?_ ?_ ?_ (fun _=>rfl) ?_
 ·rintro⟨y0,y1,y2,y3⟩;kernel_rfl
 ·rintro⟨y0,y1,y2,y3⟩;kernel_rfl
 ·intro s x h
  have h:Qe s=some x:=h
  unfold Qe at h
  repeat' split at h
  all_goals cases h
  exact⟨aa (by assumption) rfl (aa (by assumption) rfl (aa (by assumption) rfl (aa (by assumption) rfl (rfl)))),ab rfl (by assumption) rfl (ab rfl (by assumption) rfl (rfl))⟩
 ·rintro⟨y0,y1,y2,y3⟩;kernel_rfl
 ·rintro⟨y0,y1,y2,y3⟩ z;exact(And.intro (And.intro rfl rfl) trivial)
section
variable (x0:Int)(x1:List (Int×Int))
def QC:Int×Int×List (Int×Int)×List Int:=((0:Int),x0,x1,[])
def SB:List Int:=(Lp.res hZ (QC x0 x1)).2.2.2.2
def SC:Bool:=allT [Lp.fin hZ (QC x0 x1)]
end
def aeS:List SV→List Entry→Option Out
 | [.one ⟨false,[.ref 0]⟩,.one ⟨false,[.val (.int .i64 x0)]⟩],[.row false 173 (.pair (.int .i64) (.int .i64)) x1]=>some ⟨(.one ⟨false,[(.ref 1)]⟩),[(.row false 173 asf x1)],[(.row true 2 asg (SB x0 x1))],[(SC x0 x1)]⟩
 |_,_=>none
def Ys:PF Tryz.prog:=PF.ofG Tryz.prog [] [hZ.F] aS 229 Tryz.f229 Tryz.func229 (LOk.fnT (l:= [aT Tryz.f229 0]) (by kernel_rfl) (.cons aeA (.nil _))) aeS (by
 intro vs es r h;unfold aeS at h;split at h
 ·cases h;kernel_rfl
 ·cases h)
section
variable (x0:Int)(x1 x2:List (Int×Int))
def Om:Bool:=Wl x0 x1==(0:Int)
def HY:Bool:=bif bif Om x0 x1 then okLk x2 else false then(↑x2.length:Int)==(0:Int)else false
def Qk:Bool:=bif HY x0 x1 x2 then(↑(List.length (bif HY x0 x1 x2&&true then SB x0 x1 else [])):Int)==(0:Int)else false
def Ql:Bool:=allT [Wm x1,!(Om x0 x1&&true)||leN x2.length (9223372036854775807:Nat),!(HY x0 x1 x2&&true)||SC x0 x1]
end
def WQ:List SV→List Entry→Option Out
 | [.one ⟨false,[.ref 0]⟩,.one ⟨false,[.ref 1]⟩,.one ⟨false,[.val (.int .i64 x0)]⟩],[.row false 173 (.pair (.int .i64) (.int .i64)) x1,.row false 176 (.pair (.int .i64) (.int .i64)) x2]=>some ⟨(.one ⟨false,[(.val (.bool (Qk x0 x1 x2)))]⟩),[(.row false 173 asf x1),(.row false 176 asf x2)],[],[(Ql x0 x1 x2)]⟩
 |_,_=>none
def aho:PF Tryz.prog:=PF.ofG Tryz.prog [VE,PF.lend VE,PF.fz VE,Ys,PF.lend Ys,PF.fz Ys,rU,PF.lend rU,PF.fz rU] [] aS 181 Tryz.f181 Tryz.func181 (fun c _=>LOk.nil c) WQ (by
 intro vs es r h;unfold WQ at h;split at h
 ·cases h;kernel_rfl
 ·cases h)
def aaO(x0:Int):Int:=Option.getD [(2:Int),(3:Int),(2:Int),(4:Int),(2:Int),(5:Int),(4:Int),(1:Int),(2:Int),(0:Int)][Int.toNat x0]? (0:Int)
def aaP(x0:Int):Bool:=allT [leI (0:Int) x0,ltI x0 (↑(List.length [(2:Int),(3:Int),(2:Int),(4:Int),(2:Int),(5:Int),(4:Int),(1:Int),(2:Int),(0:Int)]):Int),ltN x0.toNat (List.length [(2:Int),(3:Int),(2:Int),(4:Int),(2:Int),(5:Int),(4:Int),(1:Int),(2:Int),(0:Int)])]
def agm:List SV→List Entry→Option Out
 | [.one ⟨false,[.val (.int .i64 x0)]⟩],[]=>some ⟨(.one ⟨false,[(.val (.int .i64 (aaO x0)))]⟩),[],[],[(aaP x0)]⟩
 |_,_=>none
def amx:PF Tryz.prog:=PF.ofG Tryz.prog [] [] aS 230 Tryz.f230 Tryz.func230 (fun c _=>LOk.nil c) agm (by
 intro vs es r h;unfold agm at h;split at h
 ·cases h;kernel_rfl
 ·cases h)
section
variable (x0 x1 x2:Int)(x3:Bool)
def TT:Bool:=JX x0 x1 x2 x3==(0:Int)
def Wi:Int:=bif TT x0 x1 x2 x3 then aaO x1 else x0
def Wj:Bool:=allT [JY x0 x1,!TT x0 x1 x2 x3||aaP x1]
end
def acn:List SV→List Entry→Option Out
 | [.one ⟨false,[.val (.int .i64 x0)]⟩,.one ⟨true,[.val (.int .i64 x1),.val (.int .i64 x2),.val (.bool x3)]⟩],[]=>some ⟨(.one ⟨false,[(.val (.int .i64 (Wi x0 x1 x2 x3)))]⟩),[],[],[(Wj x0 x1 x2 x3)]⟩
 |_,_=>none
def aky:PF Tryz.prog:=PF.ofG Tryz.prog [Xf,amx] [] aS 182 Tryz.f182 Tryz.func182 (fun c _=>LOk.nil c) acn (by
 intro vs es r h;unfold acn at h;split at h
 ·cases h;kernel_rfl
 ·cases h)
def HA(x0 x1 x2:Int):Bool:=bif bif x1==(0:Int)then x1==(0:Int)else x1==(1:Int)then bn x2 (0:Int) (IntKind.wrap .i64 (x0 - (1:Int)))else bif bif x1==(2:Int)then x1==(2:Int)else x1==(3:Int)then x2==(0:Int)else false
def Pp:List SV→List Entry→Option Out
 | [.one ⟨false,[.val (.int .i64 x0)]⟩,.one ⟨true,[.val (.int .i64 x1),.val (.int .i64 x2)]⟩],[]=>some ⟨(.one ⟨false,[(.val (.bool (HA x0 x1 x2)))]⟩),[],[],[]⟩
 |_,_=>none
def aaL:PF Tryz.prog:=PF.ofG Tryz.prog [gP] [] aS 184 Tryz.f184 Tryz.func184 (fun c _=>LOk.nil c) Pp (by
 intro vs es r h;unfold Pp at h;split at h
 ·cases h;kernel_rfl
 ·cases h)
def Yj(x0:Int):Bool:=bn x0 (0:Int) (3:Int)
def aeK:List SV→List Entry→Option Out
 | [.one ⟨false,[.val (.int .i64 x0)]⟩],[]=>some ⟨(.one ⟨false,[(.val (.bool (Yj x0)))]⟩),[],[],[]⟩
 |_,_=>none
def ala:PF Tryz.prog:=PF.ofG Tryz.prog [gP] [] aS 231 Tryz.f231 Tryz.func231 (fun c _=>LOk.nil c) aeK (by
 intro vs es r h;unfold aeK at h;split at h
 ·cases h;kernel_rfl
 ·cases h)
def RU(x0 x1:Int):Bool:=bif bn x0 (0:Int) (9:Int)then Yj x1 else false
def YF:List SV→List Entry→Option Out
 | [.one ⟨true,[.val (.int .i64 x0),.val (.int .i64 x1),.val (.bool _x2)]⟩],[]=>some ⟨(.one ⟨false,[(.val (.bool (RU x0 x1)))]⟩),[],[],[]⟩
 |_,_=>none
def aif:PF Tryz.prog:=PF.ofG Tryz.prog [ala,gP] [] aS 185 Tryz.f185 Tryz.func185 (fun c _=>LOk.nil c) YF (by
 intro vs es r h;unfold YF at h;split at h
 ·cases h;kernel_rfl
 ·cases h)
end Go.SX

namespace Go.SX
open Go.Proofs
set_option maxRecDepth 100000
def agT(k r:Int):Bool:=inR k 0 9&&inR r 0 3
def am1(k:Int):List Int:=Ll k
def vdC(m k r:Int)(key:Bool):Int:=bif !(am1 k).any (· ==m)then 1 else bif ltI r (NE k)then 2 else bif bif SA k then !key else false then 3 else 0
def toC(k:Int):Int:=aaO k
def nxC(m k r:Int)(key:Bool):Int:=bif vdC m k r key==0 then toC k else m
def ab6(m k:Int):Bool:=inR k 0 9&&inR m 0 5
theorem aoD(k r:Int):Sn k r=agT k r:=by
 simp only [Sn,Wk,a6,vt,agT]
 cases inR k 0 9 <;> rfl
theorem aoc(k r:Int):RU k r=agT k r:=by
 simp only [RU,Yj,bn,vt,agT]
 cases inR k 0 9 <;> rfl
def Ga(y1 b:Int):(Unit)→Nat ⊕ (Unit)
 |_=>(bif(b==y1)then(.inl 0)else(.inr ()))
def uP(y1:Int)(y2:List Int)(i:Nat):(Unit)→ne
 |_=>((i:Int),y1,y2)
def PV:ne→Unit
 |(_,_,_)=>()
theorem aix(y1:Int)(y2:List Int) (hn:y2.length≤9223372036854775807):
  gi.fin ((0:Int),y1,y2)=true∧gi.res ((0:Int),y1,y2)=((aU (Ga y1) 1 y2 0 ()).1,(uP y1 y2) (aU (Ga y1) 1 y2 0 ()).2.1 (aU (Ga y1) 1 y2 0 ()).2.2):=by
 have key:=gi.along (uP y1 y2) PV (Ga y1) 1 (fun _ _=>True) y2 () (by trivial) (by simp only [gi,uP];omega) (fun i b a hb hI=> ?_) (fun a hI=> ?_)
 ·exact key
 ·obtain⟨⟩:=a
  have hlt:=(List.getElem?_eq_some_iff.1 hb).1
  have hget: ∀ d,Option.getD y2[i]? d=b:=fun d=>by rw [hb];rfl
  have hw:=vu hlt hn
  have hdec:ltI (i:Int) (y2.length:Int)=true:=et (by omega)
  have hnn:leI (0:Int) (i:Int)=true:=dk (by omega)
  have hltd:ltN i y2.length=true:=fJ hlt
  refine⟨?_,?_,?_,?_⟩
  ·simp [BC,GE,GF,GG,GH,Eo,gi,LT.nds,allT,uP,hdec,hnn,hltd,hget]
  ·simp [BC,GE,GF,GG,GH,Eo,gi,LT.each,uP,PV,hw]
  ·simp only [BC,GE,GF,GG,GH,Eo,gi,LT.fn,uP,PV,Ga,Int.toNat_natCast,hdec,hnn,hltd,hget,cond_true,Bool.cond_self]
  ·exact fun _ _=>trivial
 ·obtain⟨⟩:=a
  simp [BC,GE,GF,GG,GH,Eo,gi,LT.out,uP]
theorem arn(x:Int)(l:List Int)(h:l.length≤9223372036854775807):Sy x l=l.any (· ==x)∧Sz x l=true:=by
 obtain⟨w1,w2⟩:=aix x l h
 rw [kU (P:=fun v=>v==x) (j:=0) (fun v=>rfl)]at w2
 simp only [Sy,Sz,VW,w1,w2,allT]
 cases l.any (· ==x) <;> exact⟨rfl,rfl⟩
theorem amH{m k:Int}(h:ab6 m k=true): ∃ (a:Fin 10) (b:Fin 6),k=(a.val:Int)∧m=(b.val:Int):=by
 simp only [ab6,Bool.and_eq_true,re]at h
 exact⟨⟨k.toNat,by omega⟩,⟨m.toNat,by omega⟩,by simp;omega,by simp;omega⟩
theorem ap1: ∀ a:Fin 10,(am1 (a.val:Int)).length≤5:=by decide
theorem alU(m k r:Int)(key:Bool)(h:ab6 m k=true):JX m k r key=vdC m k r key∧JY m k=true:=by
 obtain⟨a,b,rfl,rfl⟩:=amH h
 have hl:=ap1 a
 obtain⟨h1,h2⟩:=arn (b.val:Int) (am1 (a.val:Int)) (by omega)
 have e:Ll (a.val:Int)=am1 (a.val:Int):=rfl
 simp only [JX,JY,e,h1,h2,vdC,allT,cond_true,and_self]
theorem aqq: ∀ (a:Fin 10) (b:Fin 6),(IntKind.i64.wrap (↑(BitVec.toNat (BitVec.ofInt (IntKind.bits IntKind.i64) (Int.fdiv ((Option.getD aiv[Int.toNat (a.val:Int)]? ((0:Int),(0:Int),(0:Int),false)).1) ((2:Int) ^ min (Int.toNat (b.val:Int)) (IntKind.bits IntKind.i64)))&&& BitVec.ofInt (IntKind.bits IntKind.i64) (1:Int))):Int)==(0:Int))= !(am1 (a.val:Int)).any (· ==(b.val:Int)):=by decide
theorem anM: ∀ a:Fin 10,(Option.getD aiv[Int.toNat (a.val:Int)]? ((0:Int),(0:Int),(0:Int),false)).2=(toC (a.val:Int),NE (a.val:Int),SA (a.val:Int)):=by decide
theorem aoO: ∀ a:Fin 10,ltI (a.val:Int) (aiv.length:Int)=true∧ltN (Int.toNat (a.val:Int)) aiv.length=true∧aaP (a.val:Int)=true:=by decide
theorem alB(m k r:Int)(key:Bool)(h:ab6 m k=true):iH k r key m=vdC m k r key∧iI k m=true:=by
 obtain⟨a,b,rfl,rfl⟩:=amH h
 obtain⟨n1,n2,_⟩:=aoO a
 have n0:leI 0 (a.val:Int)=true:=dk (by omega)
 have n3:leI 0 (b.val:Int)=true:=dk (by omega)
 simp only [iH,iI,l8,l9,aqq,anM,n0,n1,n2,n3,vdC,allT,cond_true,and_self]
theorem apE(m k r:Int)(key:Bool)(h:ab6 m k=true):Wi m k r key=nxC m k r key∧Wj m k r key=true:=by
 obtain⟨h1,h2⟩:=alU m k r key h
 obtain⟨a,b,rfl,rfl⟩:=amH h
 simp only [Wi,Wj,TT,h1,h2,(aoO a).2.2,nxC,toC,allT,Bool.or_true,cond_true,and_self]
theorem apo(m k r:Int)(key:Bool)(h:ab6 m k=true):oM k r key m=nxC m k r key∧oN k r key m=true:=by
 obtain⟨h1,h2⟩:=alB m k r key h
 obtain⟨a,b,rfl,rfl⟩:=amH h
 obtain⟨n1,n2,_⟩:=aoO a
 have n0:leI 0 (a.val:Int)=true:=dk (by omega)
 simp only [oM,oN,fL,h1,h2,n0,n1,n2,anM,nxC,allT,Bool.or_true,cond_true,and_self]
def Zb:List SV→List Entry→Option Out
 | [.one ⟨true,[.val (.int .i64 x0),.val (.int .i64 x1),.val (.bool _x2)]⟩],[]=>some ⟨(.one ⟨false,[(.val (.bool (agT x0 x1)))]⟩),[],[],[]⟩
 |_,_=>none
def ah9:PF Tryz.prog:=PF.alt aik Zb (by
 intro args es o h hnd;unfold Zb at h;split at h
 ·rename_i x0 x1 _x2
  cases h
  have hh:=aoD x0 x1
  have e0:=hh
  exact jO rfl (fun _ h=>by cases h) (by simp only [e0] <;> rfl) rfl rfl
 ·cases h)
def YW:List SV→List Entry→Option Out
 | [.one ⟨true,[.val (.int .i64 x0),.val (.int .i64 x1),.val (.bool _x2)]⟩],[]=>some ⟨(.one ⟨false,[(.val (.bool (agT x0 x1)))]⟩),[],[],[]⟩
 |_,_=>none
def ZK:PF Tryz.prog:=PF.alt aif YW (by
 intro args es o h hnd;unfold YW at h;split at h
 ·rename_i x0 x1 _x2
  cases h
  have hh:=aoc x0 x1
  have e0:=hh
  exact jO rfl (fun _ h=>by cases h) (by simp only [e0] <;> rfl) rfl rfl
 ·cases h)
def WZ:List SV→List Entry→Option Out
 | [.one ⟨false,[.val (.int .i64 x0)]⟩,.one ⟨true,[.val (.int .i64 x1),.val (.int .i64 x2),.val (.bool x3)]⟩],[]=>some ⟨(.one ⟨false,[(.val (.int .i64 (vdC x0 x1 x2 x3)))]⟩),[],[],[ab6 x0 x1]⟩
 |_,_=>none
def ahf:PF Tryz.prog:=PF.alt Xf WZ (by
 intro args es o h hnd;unfold WZ at h;split at h
 ·rename_i x0 x1 x2 x3
  cases h
  have hnd:=gO hnd
  have hh:=alU x0 x1 x2 x3 hnd
  obtain⟨e0,en⟩:=hh
  exact jO rfl (gn en) (by simp only [e0] <;> rfl) rfl rfl
 ·cases h)
def acN:List SV→List Entry→Option Out
 | [.one ⟨false,[.val (.int .i64 x0)]⟩,.one ⟨true,[.val (.int .i64 x1),.val (.int .i64 x2),.val (.bool x3)]⟩],[]=>some ⟨(.one ⟨false,[(.val (.int .i64 (nxC x0 x1 x2 x3)))]⟩),[],[],[ab6 x0 x1]⟩
 |_,_=>none
def aki:PF Tryz.prog:=PF.alt aky acN (by
 intro args es o h hnd;unfold acN at h;split at h
 ·rename_i x0 x1 x2 x3
  cases h
  have hnd:=gO hnd
  have hh:=apE x0 x1 x2 x3 hnd
  obtain⟨e0,en⟩:=hh
  exact jO rfl (gn en) (by simp only [e0] <;> rfl) rfl rfl
 ·cases h)
def tR:List SV→List Entry→Option Out
 | [.one ⟨true,[.val (.int .i64 x0),.val (.int .i64 x1),.val (.bool x2)]⟩,.one ⟨false,[.val (.int .i64 x3)]⟩],[]=>some ⟨(.one ⟨false,[(.val (.int .i64 (vdC x3 x0 x1 x2)))]⟩),[],[],[ab6 x3 x0]⟩
 |_,_=>none
def HN:PF Tryz.prog:=PF.alt uj tR (by
 intro args es o h hnd;unfold tR at h;split at h
 ·rename_i x0 x1 x2 x3
  cases h
  have hnd:=gO hnd
  have hh:=alB x3 x0 x1 x2 hnd
  obtain⟨e0,en⟩:=hh
  exact jO rfl (gn en) (by simp only [e0] <;> rfl) rfl rfl
 ·cases h)
def wP:List SV→List Entry→Option Out
 | [.one ⟨true,[.val (.int .i64 x0),.val (.int .i64 x1),.val (.bool x2)]⟩,.one ⟨false,[.val (.int .i64 x3)]⟩],[]=>some ⟨(.one ⟨false,[(.val (.int .i64 (nxC x3 x0 x1 x2)))]⟩),[],[],[ab6 x3 x0]⟩
 |_,_=>none
def Kk:PF Tryz.prog:=PF.alt Km wP (by
 intro args es o h hnd;unfold wP at h;split at h
 ·rename_i x0 x1 x2 x3
  cases h
  have hnd:=gO hnd
  have hh:=apo x3 x0 x1 x2 hnd
  obtain⟨e0,en⟩:=hh
  exact jO rfl (gn en) (by simp only [e0] <;> rfl) rfl rfl
 ·cases h)
def apU(pl:List (Int×Int))(day:Int)(b:Nat):Bool:=leI (IntKind.i64.wrap ((pl[b]?.getD ((0:Int),(0:Int))).2 + (pl[b]?.getD ((0:Int),(0:Int))).1)) day
def apV(pl:List (Int×Int))(day:Int):List Int:=((List.range pl.length).filter (apU pl day)).map fun b:Nat=>(b:Int)
def ahb(pl ls:List (Int×Int))(day:Int):Bool:=okPl pl&&(okLk ls&&(inR day 0 100000&&((apV pl day).length==0&&ls.length==0)))
theorem ac4(P:Nat→Bool): ∀ (r:List Nat) (a:List Int),r.foldl (fun a b=>bif P b then a++ [(b:Int)]else a) a=a++(r.filter P).map fun b:Nat=>(b:Int)
 | [],a=>by simp
 |b::r,a=>by
  rw [List.foldl_cons,ac4 P r]
  cases h:P b <;> simp [List.filter_cons,h]
theorem akl{pl:List (Int×Int)}(h:okPl pl=true):pl.length≤12:=by
 simp only [okPl,Bool.and_eq_true,c8]at h;exact h.1
def sJ(y1:Int)(y2:List (Int×Int))(b:Nat):(List Int)→Nat ⊕ (List Int)
 |y3=>(bif(leI (IntKind.wrap .i64 ((Option.getD y2[b]? ((0:Int),(0:Int))).2 + (Option.getD y2[b]? ((0:Int),(0:Int))).1)) y1)then(.inr (y3++ [(↑b:Int)]))else(.inr y3))
def ri(y1:Int)(y2:List (Int×Int))(i:Nat):(List Int)→ng
 |y3=>((i:Int),y1,y2,y3)
def PX:ng→List Int
 |(_,_,_,y3)=>y3
theorem aiz(y1:Int)(y2:List (Int×Int))(y3:List Int)(hn:y2.length≤9223372036854775807)(h12:y2.length≤12)(h3:y3= []):
  hZ.fin ((0:Int),y1,y2,y3)=true∧hZ.res ((0:Int),y1,y2,y3)=((aU (sJ y1 y2) 0 (List.range y2.length) 0 y3).1,(ri y1 y2) (aU (sJ y1 y2) 0 (List.range y2.length) 0 y3).2.1 (aU (sJ y1 y2) 0 (List.range y2.length) 0 y3).2.2):=by
 have key:=hZ.along (ri y1 y2) PX (sJ y1 y2) 0 (fun i a=>a.length≤i) (List.range y2.length) y3 (by subst h3;simp) (by simp only [hZ,ri,List.length_range];omega) (fun i b a hb hI=> ?_) (fun a hI=> ?_)
 ·exact key
 ·obtain y3:=a
  obtain⟨rfl,hlt⟩:=qw hb
  have hw:IntKind.i64.wrap ((b:Int) + 1)=((b + 1:Nat):Int):=by rw [aj (by omega) (by omega)];omega
  have hdec:ltI (b:Int) (y2.length:Int)=true:=et (by omega)
  have hnn:leI (0:Int) (b:Int)=true:=dk (by omega)
  have hltd:ltN b y2.length=true:=fJ (by omega)
  refine⟨?_,?_,?_,?_⟩
  ·have h6:leN (a.length + 1) 9223372036854775807=true:=br (by omega)
   have h7:leN ((a.length + 1) * 8) 140737488355328=true:=br (by omega)
   simp [zT,uM,wC,BN,BO,GP,GQ,GR,BP,GS,Er,hZ,LT.nds,allT,ri,hdec,hnn,hltd,h6,h7]
  ·simp [zT,uM,wC,BN,BO,GP,GQ,GR,BP,GS,Er,hZ,LT.each,ri,PX,hw]
  ·simp only [zT,uM,wC,BN,BO,GP,GQ,GR,BP,GS,Er,hZ,LT.fn,ri,PX,sJ,Int.toNat_natCast,hdec,hnn,hltd,cond_true,Bool.cond_self]
  ·intro a' hf
   simp only [sJ]at hf
   revert hf
   cases leI (IntKind.wrap .i64 ((Option.getD y2[b]? ((0:Int),(0:Int))).2 + (Option.getD y2[b]? ((0:Int),(0:Int))).1)) y1 <;> intro hf <;> (simp only [cond_true,cond_false,Sum.inr.injEq]at hf;subst hf;(try simp only [List.length_append,List.length_singleton]);omega)
 ·obtain y3:=a
  simp [zT,uM,wC,BN,BO,GP,GQ,GR,BP,GS,Er,hZ,LT.out,ri,List.length_range]
def py(y2:Int)(y3:List (Int×Int))(b:Nat):(List Int)→Nat ⊕ (List Int)
 |y4=>(bif(leI (iZ ((Option.getD y3[b]? ((0:Int),(0:Int))).1) ((Option.getD y3[b]? ((0:Int),(0:Int))).2)) y2)then(.inr (y4++ [(↑b:Int)]))else(.inr y4))
def nD(y2:Int)(y3:List (Int×Int))(i:Nat):(List Int)→kq
 |y4=>((i:Int),(↑y3.length:Int),y2,y3,y4)
def Ma:kq→List Int
 |(_,_,_,_,y4)=>y4
theorem agd(y2:Int)(y3:List (Int×Int))(y4:List Int)(hn:y3.length≤9223372036854775807)(h12:y3.length≤12)(h3:y4= []):
  fc.fin ((0:Int),(↑y3.length:Int),y2,y3,y4)=true∧fc.res ((0:Int),(↑y3.length:Int),y2,y3,y4)=((aU (py y2 y3) 0 (List.range y3.length) 0 y4).1,(nD y2 y3) (aU (py y2 y3) 0 (List.range y3.length) 0 y4).2.1 (aU (py y2 y3) 0 (List.range y3.length) 0 y4).2.2):=by
 have key:=fc.along (nD y2 y3) Ma (py y2 y3) 0 (fun i a=>a.length≤i) (List.range y3.length) y4 (by subst h3;simp) (by simp only [fc,nD,List.length_range];omega) (fun i b a hb hI=> ?_) (fun a hI=> ?_)
 ·exact key
 ·obtain y4:=a
  obtain⟨rfl,hlt⟩:=qw hb
  have hw:IntKind.i64.wrap ((b:Int) + 1)=((b + 1:Nat):Int):=by rw [aj (by omega) (by omega)];omega
  have hdec:ltI (b:Int) (y3.length:Int)=true:=et (by omega)
  have hnn:leI (0:Int) (b:Int)=true:=dk (by omega)
  have hltd:ltN b y3.length=true:=fJ (by omega)
  refine⟨?_,?_,?_,?_⟩
  ·have h6:leN (a.length + 1) 9223372036854775807=true:=br (by omega)
   have h7:leN ((a.length + 1) * 8) 140737488355328=true:=br (by omega)
   simp [uR,qH,Ce,Cf,Cg,Ch,Ci,Cj,Ck,wj,Cl,An,fc,LT.nds,allT,nD,hdec,hnn,hltd,h6,h7]
  ·simp [uR,qH,Ce,Cf,Cg,Ch,Ci,Cj,Ck,wj,Cl,An,fc,LT.each,nD,Ma,hw]
  ·simp only [uR,qH,Ce,Cf,Cg,Ch,Ci,Cj,Ck,wj,Cl,An,fc,LT.fn,nD,Ma,py,Int.toNat_natCast,hdec,hnn,hltd,cond_true,Bool.cond_self]
  ·intro a' hf
   simp only [py,iZ]at hf
   revert hf
   cases leI (IntKind.wrap .i64 ((Option.getD y3[b]? ((0:Int),(0:Int))).2 + (Option.getD y3[b]? ((0:Int),(0:Int))).1)) y2 <;> intro hf <;> (simp only [cond_true,cond_false,Sum.inr.injEq]at hf;subst hf;(try simp only [List.length_append,List.length_singleton]);omega)
 ·obtain y4:=a
  simp [uR,qH,Ce,Cf,Cg,Ch,Ci,Cj,Ck,wj,Cl,An,fc,LT.out,nD,List.length_range]
theorem aoE(day:Int)(pl:List (Int×Int))(h:pl.length≤12):SB day pl=apV pl day∧SC day pl=true:=by
 obtain⟨w1,w2⟩:=aiz day pl [] (by omega) h rfl
 rw [ko (f:=sJ day pl) (g:=fun a b=>bif apU pl day b then a++ [(b:Int)]else a) (fun b a=>by simp only [sJ,apU];cases leI _ day <;> rfl),ac4]at w2
 exact⟨by simp only [SB,QC,w2,ri,List.nil_append,apV],by simp only [SC,QC,w1,allT,cond_true]⟩
theorem aod(day:Int)(pl:List (Int×Int))(h:pl.length≤12):Np day pl=apV pl day∧Nq day pl=true:=by
 obtain⟨w1,w2⟩:=agd day pl [] (by omega) h rfl
 rw [ko (f:=py day pl) (g:=fun a b=>bif apU pl day b then a++ [(b:Int)]else a) (fun b a=>by simp only [py,iZ,apU];cases leI _ day <;> rfl),ac4]at w2
 exact⟨by simp only [Np,LL,w2,nD,List.nil_append,apV],by simp only [Nq,LL,w1,allT,cond_true]⟩
theorem arL(n:Nat):((n:Int)==0)=(n==0):=by cases n <;> rfl
theorem aoG(day:Int)(pl ls:List (Int×Int))(h:(leN pl.length 9223372036854775807&&leN ls.length 9223372036854775807)=true):Qk day pl ls=ahb pl ls day∧Ql day pl ls=true:=by
 simp only [Bool.and_eq_true]at h
 simp only [Qk,Ql,Om,HY,Wl,Wm,a6,vt,h.1,h.2,arL,ahb,allT]
 cases hp:okPl pl with
 |false=>simp
 |true=>
  obtain⟨e1,e2⟩:=aoE day pl (akl hp)
  rw [e1,e2]
  cases hi:inR day 0 100000 <;> cases okLk ls <;> cases ls.length==0 <;> simp
theorem aog(day:Int)(pl ls:List (Int×Int))(h:(leN pl.length 9223372036854775807&&leN ls.length 9223372036854775807)=true):Py day pl ls=ahb pl ls day∧Pz day pl ls=true:=by
 simp only [Bool.and_eq_true]at h
 have e:wV day=inR day 0 100000:=by simp only [wV,bn,vt]
 simp only [Py,Pz,NK,e,h.1,h.2,arL,ahb,allT]
 cases hp:okPl pl with
 |false=>simp
 |true=>
  obtain⟨e1,e2⟩:=aod day pl (akl hp)
  rw [e1,e2]
  cases hi:inR day 0 100000 <;> cases okLk ls <;> cases ls.length==0 <;> simp
def WX:List SV→List Entry→Option Out
 | [.one ⟨false,[.ref 0]⟩,.one ⟨false,[.ref 1]⟩,.one ⟨false,[.val (.int .i64 x0)]⟩],[.row false 173 (.pair (.int .i64) (.int .i64)) x1,.row false 176 (.pair (.int .i64) (.int .i64)) x2]=>some ⟨(.one ⟨false,[(.val (.bool (ahb x1 x2 x0)))]⟩),[(.row false 173 asf x1),(.row false 176 asf x2)],[],[leN x1.length 9223372036854775807&&leN x2.length 9223372036854775807]⟩
 |_,_=>none
def PJ:PF Tryz.prog:=PF.alt aho WX (by
 intro args es o h hnd;unfold WX at h;split at h
 ·rename_i x0 x1 x2
  cases h
  have hnd:=gO hnd
  have hh:=aoG x0 x1 x2 hnd
  obtain⟨e0,en⟩:=hh
  exact jO rfl (gn en) (by simp only [e0] <;> rfl) rfl rfl
 ·cases h)
def WV:List SV→List Entry→Option Out
 | [.one ⟨false,[.ref 0]⟩,.one ⟨false,[.ref 1]⟩,.one ⟨false,[.val (.int .i64 x0)]⟩],[.row false 173 (.pair (.int .i64) (.int .i64)) x1,.row false 176 (.pair (.int .i64) (.int .i64)) x2]=>some ⟨(.one ⟨false,[(.val (.bool (ahb x1 x2 x0)))]⟩),[(.row false 173 asf x1),(.row false 176 asf x2)],[],[leN x1.length 9223372036854775807&&leN x2.length 9223372036854775807]⟩
 |_,_=>none
def PG:PF Tryz.prog:=PF.alt ahm WV (by
 intro args es o h hnd;unfold WV at h;split at h
 ·rename_i x0 x1 x2
  cases h
  have hnd:=gO hnd
  have hh:=aog x0 x1 x2 hnd
  obtain⟨e0,en⟩:=hh
  exact jO rfl (gn en) (by simp only [e0] <;> rfl) rfl rfl
 ·cases h)
end Go.SX

namespace Go.SX
open Go.Proofs
set_option maxRecDepth 100000
theorem ao3{n:Int}{fs:List (Int×Int×Int)}(h:lfOk n fs=true):fs.length≤8∧ ∀ f∈fs,(0≤f.1∧f.1 < n)∧(f.2.1=0∨f.2.1=1)∧(f.2.2=0∨f.2.2=1):=by
 simp only [lfOk,okFs,Bool.and_eq_true,c8,List.all_eq_true,List.mem_range,re]at h
 refine⟨h.2.1,fun f hf=> ?_⟩
 obtain⟨b,hb,rfl⟩:=List.getElem_of_mem hf
 have h3:=h.2.2 b hb
 simp only [Bool.not_eq_true',Bool.or_eq_false_iff,afS,fAt,List.getElem?_eq_getElem hb,Option.getD_some,Bool.not_eq_false']at h3
 have h4:=h3.1
 simp only [fIn,Bool.and_eq_true,re]at h4
 rw [aj (by omega) (by omega)]at h4
 omega
def lkB(st:List Int):List Int:=st.map fun v=>bif v==2 then 1 else 0
def lkC(st:List Int)(lf:List (Int×Int×Int))(ch:Int):List Int:=lf.foldl (agb ch) (lkB st)
def Qg(st:List Int)(lf:List (Int×Int×Int)):Bool:= !(lkC st lf 0).any (· ==0)&& !(lkC st lf 1).any (· ==0)
def ab4(st:List Int)(lf:List (Int×Int×Int)):Bool:=areR st&&lfOk (st.length:Int) lf
theorem Vh(st:List Int):(lkB st).length=st.length:=by simp [lkB]
theorem Sf(st:List Int)(lf:List (Int×Int×Int))(ch:Int):(lkC st lf ch).length=st.length:=by rw [lkC,RR,Vh]
theorem apB{ch:Int}{l:List Int}{f:Int×Int×Int}(h: ∀ v∈l,v=0∨v=1)(hf:f.2.2=0∨f.2.2=1): ∀ v∈agb ch l f,v=0∨v=1:=by
 intro v hv
 simp only [agb]at hv
 cases hc:f.2.1==ch with
 |false=>rw [hc]at hv;exact h v hv
 |true=>
  rw [hc]at hv
  rcases List.mem_or_eq_of_mem_set hv with hv | rfl
  ·exact h v hv
  ·exact hf
theorem aly{ch:Int}: ∀ (lf:List (Int×Int×Int)) (l:List Int),(∀ v∈l,v=0∨v=1)→(∀ f∈lf,f.2.2=0∨f.2.2=1)→ ∀ v∈lf.foldl (agb ch) l,v=0∨v=1
 | [],l,h,_=>h
 |f::r,l,h,hf=>by
  rw [List.foldl_cons]
  exact aly r _ (apB h (hf f (by simp))) fun g hg=>hf g (by simp [hg])
theorem ank{st:List Int}{lf:List (Int×Int×Int)}{ch:Int}(h:ab4 st lf=true): ∀ v∈lkC st lf ch,v=0∨v=1:=by
 simp only [ab4,Bool.and_eq_true]at h
 refine aly lf _ (fun v hv=> ?_) fun f hf=>((ao3 h.2).2 f hf).2.2
 obtain⟨x,_,rfl⟩:=List.mem_map.1 hv
 cases x==2 <;> simp
def pD(b:Int):(List Int)→Nat ⊕ (List Int)
 |y2=>(.inr (y2++([IntKind.wrap .i64 (Int.tdiv b (2:Int))])))
def ll(y1:List Int)(i:Nat):(List Int)→iX
 |y2=>((i:Int),y1,y2)
def Jv:iX→List Int
 |(_,_,y2)=>y2
theorem adM(y1 y2:List Int)(hn:y1.length≤9223372036854775807)(hR:areR y1=true)(h0:y2= []):
  cd.fin ((0:Int),y1,y2)=true∧cd.res ((0:Int),y1,y2)=((aU (pD) 0 y1 0 y2).1,(ll y1) (aU (pD) 0 y1 0 y2).2.1 (aU (pD) 0 y1 0 y2).2.2):=by
 have key:=cd.along (ll y1) Jv (pD) 0 (fun i a=>a.length≤i) y1 y2 (by subst h0;simp) (by simp only [cd,ll];omega) (fun i b a hb hI=> ?_) (fun a hI=> ?_)
 ·exact key
 ·obtain y2:=a
  have hlt:=(List.getElem?_eq_some_iff.1 hb).1
  have hget: ∀ d,Option.getD y1[i]? d=b:=fun d=>by rw [hb];rfl
  have hw:=vu hlt hn
  have hdec:ltI (i:Int) (y1.length:Int)=true:=et (by omega)
  have hnn:leI (0:Int) (i:Int)=true:=dk (by omega)
  have hltd:ltN i y1.length=true:=fJ hlt
  refine⟨?_,?_,?_,?_⟩
  ·have h12:=(DU.1 hR).1
   have h6:leN (a.length + 1) 9223372036854775807=true:=br (by omega)
   have h7:leN ((a.length + 1) * 8) 140737488355328=true:=br (by omega)
   have h8:neI 2 0=true:=rfl
   simp [og,tc,yX,yY,yZ,za,zb,zc,zd,vY,cd,LT.nds,allT,ll,hdec,hnn,hltd,h6,h7,h8]
  ·simp [og,tc,yX,yY,yZ,za,zb,zc,zd,vY,cd,LT.each,ll,Jv,hw]
  ·simp only [og,tc,yX,yY,yZ,za,zb,zc,zd,vY,cd,LT.fn,ll,Jv,pD,Int.toNat_natCast,hdec,hnn,hltd,hget,cond_true,Bool.cond_self]
  ·intro a' hf;simp only [pD,Sum.inr.injEq]at hf;subst hf;simp;omega
 ·obtain y2:=a
  simp [og,tc,yX,yY,yZ,za,zb,zc,zd,vY,cd,LT.out,ll]
def pE(y1:Int)(b:Int×(Int×Int)):(List Int)→Nat ⊕ (List Int)
 |y3=>(.inr (bif(b.2.1==y1)then List.set y3 (Int.toNat b.1) b.2.2else y3))
def lm(y1:Int)(y2:List (Int×(Int×Int)))(i:Nat):(List Int)→iY
 |y3=>((i:Int),y1,y2,y3)
def Jw:iY→List Int
 |(_,_,_,y3)=>y3
theorem adN(y1:Int)(y2:List (Int×(Int×Int)))(y3:List Int)(hn:y2.length≤9223372036854775807)(n:Nat)(h3:y3.length=n)(hf: ∀ f∈y2,0≤f.1∧f.1 < (n:Int)):
  cO.fin ((0:Int),y1,y2,y3)=true∧cO.res ((0:Int),y1,y2,y3)=((aU (pE y1) 0 y2 0 y3).1,(lm y1 y2) (aU (pE y1) 0 y2 0 y3).2.1 (aU (pE y1) 0 y2 0 y3).2.2):=by
 have key:=cO.along (lm y1 y2) Jw (pE y1) 0 (fun _ a=>a.length=n) y2 y3 h3 (by simp only [cO,lm];omega) (fun i b a hb hI=> ?_) (fun a hI=> ?_)
 ·exact key
 ·obtain y3:=a
  have hlt:=(List.getElem?_eq_some_iff.1 hb).1
  have hget: ∀ d,Option.getD y2[i]? d=b:=fun d=>by rw [hb];rfl
  have hw:=vu hlt hn
  have hdec:ltI (i:Int) (y2.length:Int)=true:=et (by omega)
  have hnn:leI (0:Int) (i:Int)=true:=dk (by omega)
  have hltd:ltN i y2.length=true:=fJ hlt
  refine⟨?_,?_,?_,?_⟩
  ·have h5:=hf b (List.mem_of_getElem? hb)
   have h6:leI 0 b.1=true:=dk h5.1
   have h7:ltI b.1 (a.length:Int)=true:=et (by omega)
   have h8:ltN b.1.toNat a.length=true:=fJ (by omega)
   simp only [io,ge,td,ze,zf,te,tf,tg,zg,zh,zi,zj,wd,vZ,cO,LT.nds,allT,lm,Int.toNat_natCast,hdec,hnn,hltd,hget,h6,h7,h8,Bool.or_true,cond_true]
  ·simp [io,ge,td,ze,zf,te,tf,tg,zg,zh,zi,zj,wd,vZ,cO,LT.each,lm,Jw,hw]
  ·simp only [io,ge,td,ze,zf,te,tf,tg,zg,zh,zi,zj,wd,vZ,cO,LT.fn,lm,Jw,pE,Int.toNat_natCast,hdec,hnn,hltd,hget,cond_true,Bool.cond_self]
  ·intro a' hf;simp only [pE,Sum.inr.injEq]at hf;subst hf;cases b.2.1==y1 <;> simpa using hI
 ·obtain y3:=a
  simp [io,ge,td,ze,zf,te,tf,tg,zg,zh,zi,zj,wd,vZ,cO,LT.out,lm]
theorem arT{v:Int}(h:0≤v∧v≤2):IntKind.i64.wrap (Int.tdiv v 2)=bif v==2 then 1 else 0:=by
 have h:v=0∨v=1∨v=2:=by omega
 rcases h with rfl | rfl | rfl <;> rfl
theorem ag0{B C:Type}{g g':B→C}: ∀ (r:List B) (a:List C),(∀ b∈r,g b=g' b)→r.foldl (fun a b=>a++ [g b]) a=a++r.map g'
 | [],a,_=>by simp
 |b::r,a,h=>by rw [List.foldl_cons,ag0 r _ fun c hc=>h c (by simp [hc]),h b (by simp)];simp
theorem ahB(ch:Int)(st:List Int)(lf:List (Int×Int×Int))(h:ab4 st lf=true):EC ch st lf=lkC st lf ch∧ED ch st lf=true:=by
 simp only [ab4,Bool.and_eq_true]at h
 have h12:=(DU.1 h.1).1
 obtain⟨hl,hf⟩:=ao3 h.2
 obtain⟨w1,w2⟩:=adM st [] (by omega) h.1 rfl
 rw [ko (f:=pD) (g:=fun a b=>a++ [IntKind.i64.wrap (Int.tdiv b 2)]) (fun b a=>rfl),ag0 (g':=fun v=>bif v==2 then 1 else 0) _ _ (fun b hb=>arT ((DU.1 h.1).2 b hb))]at w2
 have e1:(Lp.res cd (Dk st)).2.2.2=lkB st:=by
  simp only [Dk,w2,ll,List.nil_append];rfl
 obtain⟨v1,v2⟩:=adN ch lf (lkB st) (by omega) st.length (Vh st) (fun f hm=>(hf f hm).1)
 rw [ko (f:=pE ch) (g:=agb ch) (fun b a=>rfl)]at v2
 refine⟨?_,?_⟩
 ·simp only [EC,Dm,e1,v2,lm];rfl
 ·have v3:Lp.fin cO (Dm ch st lf)=true:=by rw [Dm,e1];exact v1
  have w3:Lp.fin cd (Dk st)=true:=w1
  simp only [ED,v3,w3,allT,cond_true]
def Bp(b:Int):(Int)→Nat ⊕ (Int)
 |y1=>(.inr (IntKind.wrap .i64 (y1 + b)))
def rh(y2:List Int)(i:Nat):(Int)→nf
 |y1=>((i:Int),y1,y2)
def PW:nf→Int
 |(_,y1,_)=>y1
theorem aiy(y2:List Int)(y1:Int)(hn:y2.length≤9223372036854775807):
  hY.fin ((0:Int),y1,y2)=true∧hY.res ((0:Int),y1,y2)=((aU (Bp) 0 y2 0 y1).1,(rh y2) (aU (Bp) 0 y2 0 y1).2.1 (aU (Bp) 0 y2 0 y1).2.2):=by
 have key:=hY.along (rh y2) PW (Bp) 0 (fun _ _=>True) y2 y1 (by trivial) (by simp only [hY,rh];omega) (fun i b a hb hI=> ?_) (fun a hI=> ?_)
 ·exact key
 ·obtain y1:=a
  have hlt:=(List.getElem?_eq_some_iff.1 hb).1
  have hget: ∀ d,Option.getD y2[i]? d=b:=fun d=>by rw [hb];rfl
  have hw:=vu hlt hn
  have hdec:ltI (i:Int) (y2.length:Int)=true:=et (by omega)
  have hnn:leI (0:Int) (i:Int)=true:=dk (by omega)
  have hltd:ltN i y2.length=true:=fJ hlt
  refine⟨?_,?_,?_,?_⟩
  ·simp [BD,GI,GJ,GK,GL,Ep,hY,LT.nds,allT,rh,hdec,hnn,hltd,hget]
  ·simp [BD,GI,GJ,GK,GL,Ep,hY,LT.each,rh,PW,hw]
  ·simp only [BD,GI,GJ,GK,GL,Ep,hY,LT.fn,rh,PW,Bp,Int.toNat_natCast,hdec,hnn,hltd,hget,cond_true,Bool.cond_self]
  ·exact fun _ _=>trivial
 ·obtain y1:=a
  simp [BD,GI,GJ,GK,GL,Ep,hY,LT.out,rh]
def anL(l:List Int):Int:=l.foldl (fun a b=>IntKind.i64.wrap (a + b)) 0
theorem akO(l:List Int)(h:l.length≤9223372036854775807):ML l=anL l∧MM l=true:=by
 obtain⟨w1,w2⟩:=aiy l 0 h
 rw [ko (f:=Bp) (g:=fun a b=>IntKind.i64.wrap (a + b)) (fun b a=>rfl)]at w2
 exact⟨by simp only [ML,Qp,w2,rh,anL],by simp only [MM,Qp,w1,allT,cond_true]⟩
theorem akP: ∀ (l:List Int) (a:Int),(∀ v∈l,v=0∨v=1)→0≤a→a + l.length≤1000000→
  ∃ s:Int,l.foldl (fun a b=>IntKind.i64.wrap (a + b)) a=a + s∧(0≤s∧s≤l.length)∧((s=l.length)↔l.any (· ==0)=false)
 | [],a,_,_,_=>⟨0,by simp,by simp,by simp⟩
 |v::r,a,h,h0,h1=>by
  have hv:=h v (by simp)
  simp only [List.length_cons]at h1
  have hw:IntKind.i64.wrap (a + v)=a + v:=aj (by omega) (by omega)
  obtain⟨s,e1,e2,e3⟩:=akP r (a + v) (fun x hx=>h x (by simp [hx])) (by omega) (by omega)
  refine⟨v + s,by rw [List.foldl_cons,hw,e1];omega,by simp only [List.length_cons];omega,?_⟩
  simp only [List.length_cons,List.any_cons,Bool.or_eq_false_iff,← e3]
  rcases hv with rfl | rfl
  ·simp;omega
  ·simp;omega
theorem aq3{a b:List Int}{n:Nat}(ha: ∀ v∈a,v=0∨v=1)(hb: ∀ v∈b,v=0∨v=1)(la:a.length=n)(lb:b.length=n)(hn:n≤12):
  (IntKind.i64.wrap (anL a + anL b)==IntKind.i64.wrap (2 * (n:Int)))=(!a.any (· ==0)&& !b.any (· ==0)):=by
 obtain⟨s,e1,e2,e3⟩:=akP a 0 ha (by omega) (by omega)
 obtain⟨t,g1,g2,g3⟩:=akP b 0 hb (by omega) (by omega)
 have w1:IntKind.i64.wrap (anL a + anL b)=s + t:=by rw [anL,anL,e1,g1,aj (by omega) (by omega)];omega
 have w2:IntKind.i64.wrap (2 * (n:Int))=2 * (n:Int):=aj (by omega) (by omega)
 rw [w1,w2]
 cases ha2:a.any (· ==0) <;> cases hb2:b.any (· ==0) <;> simp only [ha2,hb2]at e3 g3 <;> simp <;> simp at e3 g3 <;> omega
theorem amC(st:List Int)(lf:List (Int×Int×Int))(h:ab4 st lf=true):VR st lf=Qg st lf∧VS st lf=0∧VT st lf=true:=by
 have h':=h
 simp only [ab4,Bool.and_eq_true]at h'
 have h12:=(DU.1 h'.1).1
 have hl:=(ao3 h'.2).1
 obtain⟨a1,a2⟩:=ahB 0 st lf h
 obtain⟨b1,b2⟩:=ahB 1 st lf h
 have n1:leN st.length 9223372036854775807=true:=br (by omega)
 have n2:leN lf.length 9223372036854775807=true:=br (by omega)
 have q0:Ew st lf=0:=by simp only [Ew,h'.1,h'.2];rfl
 have q1:Ey st lf=lkC st lf 0:=by simp only [Ey,h'.1,h'.2,a1];rfl
 have q2:Ez st lf=lkC st lf 1:=by simp only [Ez,h'.1,h'.2,b1];rfl
 have q3:JV st lf=true:=by simp only [JV,h'.1,h'.2,a2,b2,n1,n2,allT,Bool.or_true,cond_true]
 obtain⟨s1,s2⟩:=akO (lkC st lf 0) (by rw [Sf];omega)
 obtain⟨t1,t2⟩:=akO (lkC st lf 1) (by rw [Sf];omega)
 have e:=aq3 (ank (ch:=0) h) (ank (ch:=1) h) (Sf st lf 0) (Sf st lf 1) h12.2
 refine⟨?_,?_,?_⟩
 ·simp only [VR,DN,q0,q1,q2,s1,t1,e,Qg,bne_self_eq_false,cond_false]
 ·simp only [VS,DN,q0,bne_self_eq_false,cond_false]
 ·simp only [VT,q1,q2,q3,s2,t2,allT,Bool.or_true,cond_true]
def jA(y2 b:Int):(Unit)→Nat ⊕ (Unit)
 |_=>(bif(y2==b)then(.inl 0)else(.inr ()))
def ep(y2:Int)(y3:List Int)(i:Nat):(Unit)→cn
 |_=>((i:Int),(↑y3.length:Int),y2,y3)
def wq:cn→Unit
 |(_,_,_,_)=>()
theorem To(y2:Int)(y3:List Int) (hn:y3.length≤9223372036854775807):
  a7.fin ((0:Int),(↑y3.length:Int),y2,y3)=true∧a7.res ((0:Int),(↑y3.length:Int),y2,y3)=((aU (jA y2) 1 y3 0 ()).1,(ep y2 y3) (aU (jA y2) 1 y3 0 ()).2.1 (aU (jA y2) 1 y3 0 ()).2.2):=by
 have key:=a7.along (ep y2 y3) wq (jA y2) 1 (fun _ _=>True) y3 () (by trivial) (by simp only [a7,ep];omega) (fun i b a hb hI=> ?_) (fun a hI=> ?_)
 ·exact key
 ·obtain⟨⟩:=a
  have hlt:=(List.getElem?_eq_some_iff.1 hb).1
  have hget: ∀ d,Option.getD y3[i]? d=b:=fun d=>by rw [hb];rfl
  have hw:=vu hlt hn
  have hdec:ltI (i:Int) (y3.length:Int)=true:=et (by omega)
  have hnn:leI (0:Int) (i:Int)=true:=dk (by omega)
  have hltd:ltN i y3.length=true:=fJ hlt
  refine⟨?_,?_,?_,?_⟩
  ·simp [mg,mh,mi,mj,ml,mm,lK,a7,LT.nds,allT,ep,hdec,hnn,hltd,hget]
  ·simp [mg,mh,mi,mj,ml,mm,lK,a7,LT.each,ep,wq,hw]
  ·simp only [mg,mh,mi,mj,ml,mm,lK,a7,LT.fn,ep,wq,jA,Int.toNat_natCast,hdec,hnn,hltd,hget,cond_true,Bool.cond_self]
  ·exact fun _ _=>trivial
 ·obtain⟨⟩:=a
  simp [mg,mh,mi,mj,ml,mm,lK,a7,LT.out,ep]
def pz(b:Int):(List Int)→Nat ⊕ (List Int)
 |y3=>(.inr (y3++([aaC (b==(2:Int))])))
def lh(y2:List Int)(i:Nat):(List Int)→iP
 |y3=>((i:Int),(↑y2.length:Int),y2,y3)
def Jn:iP→List Int
 |(_,_,_,y3)=>y3
theorem adI(y2 y3:List Int)(hn:y2.length≤9223372036854775807)(hR:areR y2=true)(h0:y3= []):
  cH.fin ((0:Int),(↑y2.length:Int),y2,y3)=true∧cH.res ((0:Int),(↑y2.length:Int),y2,y3)=((aU (pz) 0 y2 0 y3).1,(lh y2) (aU (pz) 0 y2 0 y3).2.1 (aU (pz) 0 y2 0 y3).2.2):=by
 have key:=cH.along (lh y2) Jn (pz) 0 (fun i a=>a.length≤i) y2 y3 (by subst h0;simp) (by simp only [cH,lh];omega) (fun i b a hb hI=> ?_) (fun a hI=> ?_)
 ·exact key
 ·obtain y3:=a
  have hlt:=(List.getElem?_eq_some_iff.1 hb).1
  have hget: ∀ d,Option.getD y2[i]? d=b:=fun d=>by rw [hb];rfl
  have hw:=vu hlt hn
  have hdec:ltI (i:Int) (y2.length:Int)=true:=et (by omega)
  have hnn:leI (0:Int) (i:Int)=true:=dk (by omega)
  have hltd:ltN i y2.length=true:=fJ hlt
  refine⟨?_,?_,?_,?_⟩
  ·have h12:=(DU.1 hR).1
   have h6:leN (a.length + 1) 9223372036854775807=true:=br (by omega)
   have h7:leN ((a.length + 1) * 8) 140737488355328=true:=br (by omega)
   simp [nH,xC,xD,xE,xF,xG,xH,xI,xJ,vP,cH,LT.nds,allT,lh,hdec,hnn,hltd,h6,h7]
  ·simp [nH,xC,xD,xE,xF,xG,xH,xI,xJ,vP,cH,LT.each,lh,Jn,hw]
  ·simp only [nH,xC,xD,xE,xF,xG,xH,xI,xJ,vP,cH,LT.fn,lh,Jn,pz,Int.toNat_natCast,hdec,hnn,hltd,hget,cond_true,Bool.cond_self]
  ·intro a' hf;simp only [pz,Sum.inr.injEq]at hf;subst hf;simp;omega
 ·obtain y3:=a
  simp [nH,xC,xD,xE,xF,xG,xH,xI,xJ,vP,cH,LT.out,lh]
def pA(b:Int×(Int×Int)):(List Int×List Int)→Nat ⊕ (List Int×List Int)
 |(y3,y4)=>(.inr ((bif(b.2.1==(0:Int))then List.set y3 (Int.toNat b.1) b.2.2else y3),(bif(b.2.1==(0:Int))then y4 else List.set y4 (Int.toNat b.1) b.2.2)))
def li(y2:List (Int×(Int×Int)))(i:Nat):(List Int×List Int)→iQ
 |(y3,y4)=>((i:Int),(↑y2.length:Int),y2,y3,y4)
def Jo:iQ→List Int×List Int
 |(_,_,_,y3,y4)=>(y3,y4)
theorem adJ(y2:List (Int×(Int×Int)))(y3 y4:List Int)(hn:y2.length≤9223372036854775807)(n:Nat)(h3:y3.length=n)(h4:y4.length=n)(hf: ∀ f∈y2,0≤f.1∧f.1 < (n:Int)):
  cI.fin ((0:Int),(↑y2.length:Int),y2,y3,y4)=true∧cI.res ((0:Int),(↑y2.length:Int),y2,y3,y4)=((aU (pA) 0 y2 0 (y3,y4)).1,(li y2) (aU (pA) 0 y2 0 (y3,y4)).2.1 (aU (pA) 0 y2 0 (y3,y4)).2.2):=by
 have key:=cI.along (li y2) Jo (pA) 0 (fun _ a=>a.1.length=n∧a.2.length=n) y2 (y3,y4) ⟨h3,h4⟩ (by simp only [cI,li];omega) (fun i b a hb hI=> ?_) (fun a hI=> ?_)
 ·exact key
 ·obtain⟨y3,y4⟩:=a
  have hlt:=(List.getElem?_eq_some_iff.1 hb).1
  have hget: ∀ d,Option.getD y2[i]? d=b:=fun d=>by rw [hb];rfl
  have hw:=vu hlt hn
  have hdec:ltI (i:Int) (y2.length:Int)=true:=et (by omega)
  have hnn:leI (0:Int) (i:Int)=true:=dk (by omega)
  have hltd:ltN i y2.length=true:=fJ hlt
  refine⟨?_,?_,?_,?_⟩
  ·have h5:=hf b (List.mem_of_getElem? hb)
   have hI1:=hI.1
   have hI2:=hI.2
   have h6:leI 0 b.1=true:=dk h5.1
   have h7:ltI b.1 (n:Int)=true:=et (by omega)
   have h8:ltN b.1.toNat n=true:=fJ (by omega)
   simp only at hI1 hI2
   simp [cG,eq,rn,xK,xL,xM,xN,xO,xP,xQ,xR,xS,xT,vE,vF,vG,vQ,cI,LT.nds,allT,li,hdec,hnn,hltd,hget,h6,h7,h8,hI1,hI2]
  ·simp [cG,eq,rn,xK,xL,xM,xN,xO,xP,xQ,xR,xS,xT,vE,vF,vG,vQ,cI,LT.each,li,Jo,hw]
  ·simp only [cG,eq,rn,xK,xL,xM,xN,xO,xP,xQ,xR,xS,xT,vE,vF,vG,vQ,cI,LT.fn,li,Jo,pA,Int.toNat_natCast,hdec,hnn,hltd,hget,cond_true,Bool.cond_self]
  ·intro a' hf;simp only [pA,Sum.inr.injEq]at hf;subst hf;have hI1:=hI.1;have hI2:=hI.2;cases b.2.1==0 <;> simpa using ⟨hI1,hI2⟩
 ·obtain⟨y3,y4⟩:=a
  simp [cG,eq,rn,xK,xL,xM,xN,xO,xP,xQ,xR,xS,xT,vE,vF,vG,vQ,cI,LT.out,li]
theorem aqD(x v:Int):(x==v)=(v==x):=by rw [Bool.eq_iff_iff,beq_iff_eq,beq_iff_eq];exact eq_comm
theorem aaw(x:Int)(l:List Int)(h:l.length≤9223372036854775807):dq x l=l.any (· ==x)∧jC x l=true:=by
 obtain⟨w1,w2⟩:=To x l h
 rw [kU (P:=fun v=>v==x) (j:=0) (fun v=>by simp only [jA];rw [aqD x v])]at w2
 simp only [dq,jC,CV,CW,tF,w1,w2,allT,ep]
 cases l.any (· ==x)with
 |false=>exact⟨rfl,rfl⟩
 |true=>
  simp only [cond_true,Nat.beq]
  exact⟨dk (by omega),trivial⟩
theorem ag2(st:List Int)(lf:List (Int×Int×Int))(h:ab4 st lf=true):Ve st lf=Qg st lf∧PA st lf=true:=by
 have h':=h
 simp only [ab4,Bool.and_eq_true]at h'
 have h12:=(DU.1 h'.1).1
 obtain⟨hl,hf⟩:=ao3 h'.2
 obtain⟨w1,w2⟩:=adI st [] (by omega) h'.1 rfl
 rw [ko (f:=pz) (g:=fun a b=>a++ [bif b==2 then 1 else 0]) (fun b a=>rfl),Uz]at w2
 have e1:wk st=lkB st:=by
  simp only [wk,HB,w2,lh,List.nil_append];rfl
 obtain⟨v1,v2⟩:=adJ lf (lkB st) (lkB st) (by omega) st.length (Vh st) (Vh st) (fun f hm=>(hf f hm).1)
 rw [ko (f:=pA) (g:=fun a f=>(bif f.2.1==0 then a.1.set f.1.toNat f.2.2 else a.1,bif f.2.1==0 then a.2 else a.2.set f.1.toNat f.2.2)) (fun b a=>rfl),ahY _ _ (fun f hm=>(hf f hm).2.1)]at v2
 have e3:HC st lf=(lkC st lf 0,lkC st lf 1):=by
  simp only [HC,Cm,e1,v2,li];rfl
 have e4:Lp.fin cI (Cm st lf)=true:=by simp only [Cm,e1];exact v1
 have e5:Lp.fin cH (HB st)=true:=w1
 have q0:tV st lf=lkC st lf 0:=by rw [tV,e3]
 have q1:zy st lf=lkC st lf 1:=by rw [zy,e3]
 have n1:leN 1 st.length=true:=br (by omega)
 have n2:leN st.length 1048576=true:=br (by omega)
 have q2:tW st lf=true:=by simp only [tW,e4,e5,e1,Vh,n1,n2,allT,Bool.and_self,cond_true]
 obtain⟨s1,s2⟩:=aaw 0 (lkC st lf 0) (by rw [Sf];omega)
 obtain⟨t1,t2⟩:=aaw 0 (lkC st lf 1) (by rw [Sf];omega)
 refine⟨?_,?_⟩
 ·simp only [Ve,q0,q1,s1,t1,Qg]
  cases (lkC st lf 0).any (· ==0) <;> rfl
 ·simp only [PA,q0,q1,q2,s2,t2,allT,Bool.or_true,cond_true]
def acE:List SV→List Entry→Option Out
 | [.one ⟨false,[.ref 0]⟩,.one ⟨false,[.ref 1]⟩],[.row false 2 (.int .i64) x0,.row false 100 (.pair (.int .i64) (.pair (.int .i64) (.int .i64))) x1]=>some ⟨(.tup [⟨false,[(.val (.bool (Qg x0 x1)))]⟩,⟨false,[(.val (.int .i64 (0)))]⟩]),[(.row false 2 asg x0),(.row false 100 ase x1)],[],[ab4 x0 x1]⟩
 |_,_=>none
def Vr:PF Tryz.prog:=PF.alt akp acE (by
 intro args es o h hnd;unfold acE at h;split at h
 ·rename_i x0 x1
  cases h
  have hnd:=gO hnd
  have hh:=amC x0 x1 hnd
  obtain⟨e0,e1,en⟩:=hh
  exact jO rfl (gn en) (by simp only [e0,e1] <;> rfl) rfl rfl
 ·cases h)
def acD:List SV→List Entry→Option Out
 | [.one ⟨false,[.ref 0]⟩,.one ⟨false,[.ref 1]⟩],[.row false 2 (.int .i64) x0,.row false 100 (.pair (.int .i64) (.pair (.int .i64) (.int .i64))) x1]=>some ⟨(.one ⟨false,[(.val (.bool (Qg x0 x1)))]⟩),[(.row false 2 asg x0),(.row false 100 ase x1)],[],[ab4 x0 x1]⟩
 |_,_=>none
def Gj:PF Tryz.prog:=PF.alt ako acD (by
 intro args es o h hnd;unfold acD at h;split at h
 ·rename_i x0 x1
  cases h
  have hnd:=gO hnd
  have hh:=ag2 x0 x1 hnd
  obtain⟨e0,en⟩:=hh
  exact jO rfl (gn en) (by simp only [e0] <;> rfl) rfl rfl
 ·cases h)
end Go.SX

namespace Go.SX
open Go.Proofs
set_option maxRecDepth 100000
def rsB(n k row:Int):Bool:=bif k==0||k==1 then inR row 0 (IntKind.i64.wrap (n - 1))else bif k==2||k==3 then row==0 else false
def kM(st:List Int)(k row:Int):Bool:=bif k==0||k==1 then(st[row.toNat]?.getD 0)==k else bif k==2 then !st.any (· ==0)else PC st
def QY(st:List Int)(k row:Int):List Int:=bif k==0||k==1 then st.set row.toNat (1 - k)else st.map fun _=>bif k==2 then 2 else 1
def ahv(st:List Int)(k row:Int):Bool:=areR st&&rsB (st.length:Int) k row
theorem ao9(a b:Bool):(bif a then a else b)=(a||b):=by cases a <;> rfl
theorem apF(n k row:Int):Wg n k row=rsB n k row:=by
 simp only [Wg,a6,vt,rsB,ao9]
theorem app(n k row:Int):HA n k row=rsB n k row:=by
 simp only [HA,bn,vt,rsB,ao9]
theorem akI{st:List Int}{k row:Int}(h:ahv st k row=true):areR st=true∧(1≤st.length∧st.length≤12)∧(((k=0∨k=1)∧0≤row∧row < st.length)∨((k=2∨k=3)∧row=0)):=by
 simp only [ahv,Bool.and_eq_true]at h
 have h12:=(DU.1 h.1).1
 refine⟨h.1,h12,?_⟩
 have h2:=h.2
 rw [rsB,aj (by omega) (by omega)]at h2
 cases h3:(k==0||k==1)with
 |true=>
  rw [h3,cond_true,re]at h2
  simp only [Bool.or_eq_true,beq_iff_eq]at h3
  exact .inl ⟨h3,by omega⟩
 |false=>
  rw [h3,cond_false]at h2
  cases h4:(k==2||k==3)with
  |true=>
   rw [h4,cond_true,beq_iff_eq]at h2
   simp only [Bool.or_eq_true,beq_iff_eq]at h4
   exact .inr ⟨h4,h2⟩
  |false=>rw [h4]at h2;cases h2
def tT(y1 _b:Int):(List Int)→Nat ⊕ (List Int)
 |y3=>(.inr (y3++ [y1]))
def qi(y1:Int)(y2:List Int)(i:Nat):(List Int)→lX
 |y3=>((i:Int),y1,y2,y3)
def NV:lX→List Int
 |(_,_,_,y3)=>y3
theorem ahG(y1:Int)(y2 y3:List Int)(hn:y2.length≤9223372036854775807)(h12:y2.length≤12)(h0:y3= []):
  gm.fin ((0:Int),y1,y2,y3)=true∧gm.res ((0:Int),y1,y2,y3)=((aU (tT y1) 0 y2 0 y3).1,(qi y1 y2) (aU (tT y1) 0 y2 0 y3).2.1 (aU (tT y1) 0 y2 0 y3).2.2):=by
 have key:=gm.along (qi y1 y2) NV (tT y1) 0 (fun i a=>a.length≤i) y2 y3 (by subst h0;simp) (by simp only [gm,qi];omega) (fun i b a hb hI=> ?_) (fun a hI=> ?_)
 ·exact key
 ·obtain y3:=a
  have hlt:=(List.getElem?_eq_some_iff.1 hb).1
  have hget: ∀ d,Option.getD y2[i]? d=b:=fun d=>by rw [hb];rfl
  have hw:=vu hlt hn
  have hdec:ltI (i:Int) (y2.length:Int)=true:=et (by omega)
  have hnn:leI (0:Int) (i:Int)=true:=dk (by omega)
  have hltd:ltN i y2.length=true:=fJ hlt
  refine⟨?_,?_,?_,?_⟩
  ·have h6:leN (a.length + 1) 9223372036854775807=true:=br (by omega)
   have h7:leN ((a.length + 1) * 8) 140737488355328=true:=br (by omega)
   simp [EE,EF,EG,EH,EI,CP,gm,LT.nds,allT,qi,hdec,hnn,hltd,h6,h7]
  ·simp [EE,EF,EG,EH,EI,CP,gm,LT.each,qi,NV,hw]
  ·simp only [EE,EF,EG,EH,EI,CP,gm,LT.fn,qi,NV,tT,Int.toNat_natCast,hdec,hnn,hltd,hget,cond_true,Bool.cond_self]
  ·intro a' hf;simp only [tT,Sum.inr.injEq]at hf;subst hf;simp;omega
 ·obtain y3:=a
  simp [EE,EF,EG,EH,EI,CP,gm,LT.out,qi]
theorem ai1(x:Int)(st:List Int)(h:st.length≤12):Lh x st=st.map (fun _=>x)∧Li x st=true:=by
 obtain⟨w1,w2⟩:=ahG x st [] (by omega) h rfl
 rw [ko (f:=tT x) (g:=fun a _=>a++ [x]) (fun b a=>rfl),Uz (fun _=>x)]at w2
 exact⟨by simp only [Lh,NA,w2,qi,List.nil_append],by simp only [Li,NA,w1,allT,cond_true]⟩
theorem ah2: ∀ (xs:List Int) (m:Int),0≤m→(∀ y∈xs,0≤y)→
  leI 1 (xs.foldl (fun m b=>bif ltI b m then b else m) m)=(!(m==0)&& !xs.any (· ==0))
 | [],m,hm,_=>by
  simp only [List.foldl_nil,List.any_nil,Bool.not_false,Bool.and_true]
  rw [Bool.eq_iff_iff,Bool.not_eq_true',beq_eq_false_iff_ne,aE];omega
 |y::xs,m,hm,h=>by
  have hy:=h y (by simp)
  rw [List.foldl_cons,List.any_cons]
  cases hc:ltI y m with
  |true=>
   rw [cond_true,ah2 xs y hy fun z hz=>h z (by simp [hz])]
   have hc:=aH.1 hc
   rw [show (m==0)=false from by rw [beq_eq_false_iff_ne];omega]
   cases y==0 <;> simp
  |false=>
   rw [cond_false,ah2 xs m hm fun z hz=>h z (by simp [hz])]
   have hc: ¬ y < m:=fun h=>by rw [et h]at hc;cases hc
   cases hm0:m==0 with
   |true=>rfl
   |false=>
    rw [beq_eq_false_iff_ne]at hm0
    rw [show (y==0)=false from by rw [beq_eq_false_iff_ne];omega]
    simp
theorem apt(st:List Int)(h:areR st=true):leI 1 (zX st)= !st.any (· ==0):=by
 obtain⟨h1,h2⟩:=DU.1 h
 match st,h1,h2 with
 |x::xs,h1,h2=>
  have hx:=h2 x (by simp)
  obtain⟨w1,w2⟩:=Wq (x::xs) x (by omega)
  rw [ko (f:=mr) (g:=fun m b=>bif ltI b m then b else m) (fun b a=>by simp only [mr,ajt])]at w2
  have e0:Option.getD (x::xs)[Int.toNat 0]? 0=x:=rfl
  simp only [zX,GO,e0,w2,lC,List.drop_one,List.tail_cons]
  rw [ah2 xs x hx.1 fun y hy=>(h2 y (by simp [hy])).1,List.any_cons,Bool.not_or]
theorem aio{st:List Int}{row:Int}(h:0≤row∧row < st.length):leI 0 row=true∧ltI row (st.length:Int)=true∧ltN row.toNat st.length=true:=
 ⟨dk h.1,et h.2,fJ (by omega)⟩
theorem amA(k row:Int)(st:List Int)(h:ahv st k row=true):DR k row st=kM st k row∧DS k row st=QY st k row∧DT k row st=true:=by
 obtain⟨hA,h12,hk⟩:=akI h
 obtain⟨l1,l2⟩:=aqa st hA
 have l3:=apt st hA
 obtain⟨f1,f2⟩:=ai1 2 st h12.2
 obtain⟨g1,g2⟩:=ai1 1 st h12.2
 have n1:leN st.length 1048576=true:=br (by omega)
 rcases hk with⟨rfl | rfl,hr⟩ | ⟨rfl | rfl,rfl⟩
 ·obtain⟨r1,r2,r3⟩:=aio hr
  simp [DR,DS,DT,BG,BH,BI,BJ,BK,BL,BM,kM,QY,r1,r2,r3,n1,allT]
 ·obtain⟨r1,r2,r3⟩:=aio hr
  simp [DR,DS,DT,BG,BH,BI,BJ,BK,BL,BM,kM,QY,r1,r2,r3,n1,allT]
 ·simp [DR,DS,DT,BG,BH,BI,BJ,BK,BL,BM,kM,QY,l2,l3,f1,f2,n1,allT]
 ·simp [DR,DS,DT,BG,BH,BI,BJ,BK,BL,BM,kM,QY,l1,l2,g1,g2,n1,allT]
def kx(y2:Int)(b:Nat):(List Int)→Nat ⊕ (List Int)
 |y3=>(.inr (List.set y3 b y2))
def iw(y1 y2:Int)(i:Nat):(List Int)→eA
 |y3=>((i:Int),y1,y2,y3)
def DJ:eA→List Int
 |(_,_,_,y3)=>y3
theorem YE(y1 y2:Int)(y3:List Int)(hn:y1≤9223372036854775807)(h3:y1=(y3.length:Int)):
  bi.fin ((0:Int),y1,y2,y3)=true∧bi.res ((0:Int),y1,y2,y3)=((aU (kx y2) 0 (List.range y1.toNat) 0 y3).1,(iw y1 y2) (aU (kx y2) 0 (List.range y1.toNat) 0 y3).2.1 (aU (kx y2) 0 (List.range y1.toNat) 0 y3).2.2):=by
 have key:=bi.along (iw y1 y2) DJ (kx y2) 0 (fun _ a=>y1=(a.length:Int)) (List.range y1.toNat) y3 h3 (by simp only [bi,iw,List.length_range];omega) (fun i b a hb hI=> ?_) (fun a hI=> ?_)
 ·exact key
 ·obtain y3:=a
  obtain⟨rfl,hlt⟩:=qw hb
  have hw:IntKind.i64.wrap ((b:Int) + 1)=((b + 1:Nat):Int):=by rw [aj (by omega) (by omega)];omega
  have hdec:ltI (b:Int) y1=true:=et (by omega)
  have hnn:leI (0:Int) (b:Int)=true:=dk (by omega)
  refine⟨?_,?_,?_,?_⟩
  ·have h6:ltI (b:Int) (a.length:Int)=true:=et (by omega)
   have h7:ltN b a.length=true:=fJ (by omega)
   simp [rz,rA,rB,rC,rD,rE,qG,bi,LT.nds,allT,iw,hdec,hnn,h6,h7]
  ·simp [rz,rA,rB,rC,rD,rE,qG,bi,LT.each,iw,DJ,hw]
  ·simp only [rz,rA,rB,rC,rD,rE,qG,bi,LT.fn,iw,DJ,kx,Int.toNat_natCast,hdec,hnn,cond_true,Bool.cond_self]
  ·intro a' hf;simp only [kx,Sum.inr.injEq]at hf;subst hf;simpa using hI
 ·obtain y3:=a
  simp only [rz,rA,rB,rC,rD,rE,qG,bi,LT.out,iw,List.length_range,ZG,adn,cond_false]
theorem aiK(x:Int)(st:List Int)(h:st.length≤12):(Lp.res bi ((0:Int),(↑(List.length st):Int),x,st)).2.2.2.2=st.map (fun _=>x)∧Lp.fin bi ((0:Int),(↑(List.length st):Int),x,st)=true:=by
 obtain⟨w1,w2⟩:=YE (st.length:Int) x st (by omega) rfl
 rw [Int.toNat_natCast,alZ (xs:=st) (d:=0) (f:=kx x) (g:=fun _=>x) (fun b a=>rfl) rfl]at w2
 exact⟨by simp only [w2,iw],w1⟩
theorem arA{k:Int}(h:0≤k∧k≤2):IntKind.i64.wrap (IntKind.i64.wrap (k - 0) + 0)=k∧IntKind.i64.wrap (1 - k)=1 - k:=
 ⟨by rw [show IntKind.i64.wrap (k - 0)=k from by rw [aj (by omega) (by omega)];omega,aj (by omega) (by omega)];omega,aj (by omega) (by omega)⟩
theorem ane(k row:Int)(st:List Int)(h:ahv st k row=true):vH k row st=kM st k row∧vI k row st=(bif kM st k row then QY st k row else st)∧vJ k row st=true:=by
 obtain⟨hA,h12,hk⟩:=akI h
 obtain⟨c1,c2⟩:=aaw 0 st (by omega)
 obtain⟨f1,f2⟩:=aiK 2 st h12.2
 obtain⟨g1,g2⟩:=aiK 1 st h12.2
 have n1:leN st.length 9223372036854775807=true:=br (by omega)
 rcases hk with⟨hk,hr⟩ | ⟨rfl | rfl,rfl⟩
 ·obtain⟨r1,r2,r3⟩:=aio hr
  obtain⟨q1,q2⟩:=arA (k:=k) (by omega)
  have ha0:bW k=true:=by rcases hk with rfl | rfl <;> rfl
  have ha1:(k==0||k==1)=true:=by rcases hk with rfl | rfl <;> rfl
  have ha2:mt k row st= !((st[row.toNat]?.getD 0)==k):=by
   rw [mt,q1];rfl
  simp only [vH,vI,vJ,ha0,ha2,tX,tY,tZ,kM,QY,ha1,cond_true,r1,r2,r3,Bool.or_true,Bool.true_or,allT]
  cases hc:(st[row.toNat]?.getD 0)==k with
  |false=>simp
  |true=>
   have hv:HD row st=k:=by rw [beq_iff_eq]at hc;exact hc
   rw [hv,q2]
   simp
 ·simp only [vH,vI,vJ,show bW 2=false from rfl,HE,tX,tY,tZ,kM,QY,c1,c2,f1,f2,n1,allT]
  cases st.any (· ==0) <;> simp
 ·simp only [vH,vI,vJ,show bW 3=false from rfl,HF,tX,tY,tZ,kM,QY,c1,c2,g1,g2,n1,allT]
  cases PC st <;> simp
def acL:List SV→List Entry→Option Out
 | [.one ⟨false,[.val (.int .i64 x0)]⟩,.one ⟨true,[.val (.int .i64 x1),.val (.int .i64 x2)]⟩],[]=>some ⟨(.one ⟨false,[(.val (.bool (rsB x0 x1 x2)))]⟩),[],[],[]⟩
 |_,_=>none
def akh:PF Tryz.prog:=PF.alt akv acL (by
 intro args es o h hnd;unfold acL at h;split at h
 ·rename_i x0 x1 x2
  cases h
  have hh:=apF x0 x1 x2
  have e0:=hh
  exact jO rfl (fun _ h=>by cases h) (by simp only [e0] <;> rfl) rfl rfl
 ·cases h)
def Pq:List SV→List Entry→Option Out
 | [.one ⟨false,[.val (.int .i64 x0)]⟩,.one ⟨true,[.val (.int .i64 x1),.val (.int .i64 x2)]⟩],[]=>some ⟨(.one ⟨false,[(.val (.bool (rsB x0 x1 x2)))]⟩),[],[],[]⟩
 |_,_=>none
def PH:PF Tryz.prog:=PF.alt aaL Pq (by
 intro args es o h hnd;unfold Pq at h;split at h
 ·rename_i x0 x1 x2
  cases h
  have hh:=app x0 x1 x2
  have e0:=hh
  exact jO rfl (fun _ h=>by cases h) (by simp only [e0] <;> rfl) rfl rfl
 ·cases h)
def abd:List SV→List Entry→Option Out
 | [.one ⟨false,[.ref 0]⟩,.one ⟨true,[.val (.int .i64 x0),.val (.int .i64 x1)]⟩],[.row false 2 (.int .i64) x2]=>some ⟨(.tup [⟨false,[(.ref 1)]⟩,⟨false,[(.val (.bool (kM x2 x0 x1)))]⟩]),[(.row false 2 asg x2)],[(.row true 2 asg (QY x2 x0 x1))],[ahv x2 x0 x1]⟩
 |_,_=>none
def TM:PF Tryz.prog:=PF.alt ajm abd (by
 intro args es o h hnd;unfold abd at h;split at h
 ·rename_i x0 x1 x2
  cases h
  have hnd:=gO hnd
  have hh:=amA x0 x1 x2 hnd
  obtain⟨e0,e1,en⟩:=hh
  exact jO rfl (gn en) (by simp only [e0] <;> rfl) rfl (by simp only [e1] <;> rfl)
 ·cases h)
def Rm:List SV→List Entry→Option Out
 | [.one ⟨false,[.ref 0]⟩,.one ⟨true,[.val (.int .i64 x0),.val (.int .i64 x1)]⟩],[.row true 2 (.int .i64) x2]=>some ⟨(.one ⟨false,[(.val (.bool (kM x2 x0 x1)))]⟩),[(.row true 2 asg (bif kM x2 x0 x1 then QY x2 x0 x1 else x2))],[],[ahv x2 x0 x1]⟩
 |_,_=>none
def Jk:PF Tryz.prog:=PF.alt ab3 Rm (by
 intro args es o h hnd;unfold Rm at h;split at h
 ·rename_i x0 x1 x2
  cases h
  have hnd:=gO hnd
  have hh:=ane x0 x1 x2 hnd
  obtain⟨e0,e1,en⟩:=hh
  exact jO rfl (gn en) (by simp only [e0] <;> rfl) (by simp only [e1] <;> rfl) rfl
 ·cases h)
end Go.SX

namespace Go.SX
open Go.Proofs
set_option maxRecDepth 100000
section
variable (x0 x1 x2 x3 x4 x5 x6 x7 x8:Int)(x9:Bool)(x10:List Int)(x11:List (Int×Int×Int))(x12:List (List Int))(x13:List (Int×Int×Int))(x14 x15:List (Int×Int))
def HX:Bool:=a6 x4 (0:Int) (IntKind.wrap .i64 ((↑x12.length:Int) - (1:Int)))
def Ok:Bool:=bif x5==(0:Int)then bif x6==(0:Int)then true else false else false
def Ol:Bool:=bif x7==(0:Int)then bif x8==(0:Int)then bif x9==false then true else false else false else false
def ux:Bool:=bif !nX x0 x10 x11 x12 x13 x1 x14 x15 x2 then false else bif x3==(0:Int)then bif HX x4 x12 then bif x3==(0:Int)then bif x4==x4 then bif Ok x5 x6 then bif Ol x7 x8 x9 then true else false else false else false else false else false else bif x3==(1:Int)then bif bif HX x4 x12 then rsB (zp x12) x5 x6 else false then Ol x7 x8 x9 else false else bif x3==(2:Int)then bif bif x4==(0:Int)then Ok x5 x6 else false then agT x7 x8 else false else false
def zE:Bool:=allT [zC (9223372036854775807:Nat) x10 x11 x12 x13 x14 x15,!nX x0 x10 x11 x12 x13 x1 x14 x15 x2||(x3==(0:Int)||(!x3==(1:Int)||(!(HX x4 x12&&true)||zq x12)))]
end
def WO:List SV→List Entry→Option Out
 | [.one ⟨true,[.val (.int .i64 x0),.ref 0,.ref 1,.ref 2,.ref 3,.val (.int .i64 x1),.ref 4,.ref 5,.val (.int .i64 x2)]⟩,.one ⟨true,[.val (.int .i64 x3),.val (.int .i64 x4),.val (.int .i64 x5),.val (.int .i64 x6),.val (.int .i64 x7),.val (.int .i64 x8),.val (.bool x9)]⟩],[.row false 2 (.int .i64) x10,.row false 169 (.pair (.int .i64) (.pair (.int .i64) (.int .i64))) x11,.row false 24 (.sl 2 (.int .i64)) x12,.row false 100 (.pair (.int .i64) (.pair (.int .i64) (.int .i64))) x13,.row false 173 (.pair (.int .i64) (.int .i64)) x14,.row false 176 (.pair (.int .i64) (.int .i64)) x15]=>some ⟨(.one ⟨false,[(.val (.bool (ux x0 x1 x2 x3 x4 x5 x6 x7 x8 x9 x10 x11 x12 x13 x14 x15)))]⟩),[(.row false 2 asg x10),(.row false 169 ase x11),(.row false 24 (CTy.sl (2:TypeId) asg) x12),(.row false 100 ase x13),(.row false 173 asf x14),(.row false 176 asf x15)],[],[(zE x0 x1 x2 x3 x4 x10 x11 x12 x13 x14 x15)]⟩
 |_,_=>none
def zB:PF Tryz.prog:=PF.ofG Tryz.prog [akh,ah9,IY,PF.lend IY,PF.fz IY,fK,uk,PF.lend uk,PF.fz uk] [] aS 35 Tryz.f35 Tryz.func35 (fun c _=>LOk.nil c) WO (by
 intro vs es r h;unfold WO at h;split at h
 ·cases h;kernel_rfl
 ·cases h)
abbrev nh:=Int×Int×Int×Int×List (List Int)×List Int×List (Int×(Int×Int))×List (List Int)×List (Int×(Int×Int))×List (Int×Int)×List (Int×Int)
section
variable (y0:Int)(y4 y7:List (List Int))
def rg:List Int:=Option.getD y7[Int.toNat y0]? (AK (CTy.sl (2:TypeId) asg))
def BQ:Bool:=ltI y0 (↑y7.length:Int)
def GX:Bool:=leI (0:Int) y0
def GY:Bool:=ltN y0.toNat y7.length
def GZ:Bool:=leN (List.length (rg y0 y7)) (1048576:Nat)
def Ha:Bool:=leN (List.length y4 + List.length [rg y0 y7]) (9223372036854775807:Nat)
def Hb:Bool:=leN ((List.length y4 + List.length [rg y0 y7]) * (24:Nat)) (140737488355328:Nat)
def Hc:Int:=IntKind.wrap .i64 (y0 + (1:Int))
def Hd:List (List Int):=y4++ [rg y0 y7]
end
def agA:nh→List (Nat×SV)
 |(y0,_,_,_,_,_,_,_,_,_,_)=> [(4,(.one ⟨false,[(.val (.int .i64 y0))]⟩)),(1,(.one ⟨false,[(.ptr 0 0)]⟩)),(3,(.one ⟨false,[(.ref 1)]⟩))]
def agt:nh→List (Nat×Entry)
 |(_,y1,y2,y3,y4,y5,y6,y7,y8,y9,y10)=> [(0,(.box 33 [(.val (.int .i64 y1)),(.ref 2),(.ref 3),(.ref 4),(.ref 5),(.val (.int .i64 y2)),(.ref 6),(.ref 7),(.val (.int .i64 y3))])),(2,(.row false 2 asg y5)),(3,(.row false 169 ase y6)),(4,(.row false 24 (CTy.sl (2:TypeId) asg) y7)),(5,(.row false 100 ase y8)),(6,(.row false 173 asf y9)),(7,(.row false 176 asf y10)),(1,(.row true 24 (CTy.sl (2:Nat) asg) y4))]
def agO:Nat→nh→List (Nat×SV)
 |_,(_,_,_,_,_,_,_,_,_,_,_)=> [(3,(.one ⟨false,[(.ref 1)]⟩))]
def agH:Nat→nh→List (Nat×Entry)
 |_,(_,y1,y2,y3,y4,y5,y6,y7,y8,y9,y10)=> [(0,(.box 33 [(.val (.int .i64 y1)),(.ref 2),(.ref 3),(.ref 4),(.ref 5),(.val (.int .i64 y2)),(.ref 6),(.ref 7),(.val (.int .i64 y3))])),(1,(.row true 24 (CTy.sl (2:Nat) asg) y4)),(2,(.row false 2 asg y5)),(3,(.row false 169 ase y6)),(4,(.row false 24 (CTy.sl (2:TypeId) asg) y7)),(5,(.row false 100 ase y8)),(6,(.row false 173 asf y9)),(7,(.row false 176 asf y10))]
def Es:nh→LT nh
 |(y0,y1,y2,y3,y4,y5,y6,y7,y8,y9,y10)=> .ite (BQ y0 y7) (.need [(GX y0),(BQ y0 y7),(GY y0 y7),(GZ y0 y7),(Ha y0 y4 y7),(Hb y0 y4 y7)] (.nrm ((Hc y0),y1,y2,y3,(Hd y0 y4 y7),y5,y6,y7,y8,y9,y10) [(0,0),(1,896),(2,2),(3,3),(4,4),(5,5),(6,6),(7,7)])) (.ext 0 [(0,0),(1,1),(2,2),(3,3),(4,4),(5,5),(6,6),(7,7)])
def Qf(s:St):Option nh:=
 (match s.look 4 with
 |some ⟨none,(.one ⟨false,[(.val (.int .i64 y0))]⟩)⟩=>
 (match s.look 1 with
 |some ⟨none,(.one ⟨false,[(.ptr 448 0)]⟩)⟩=>
 (match s.look 3 with
 |some ⟨none,(.one ⟨false,[(.ref 576)]⟩)⟩=>
 (match s.ent 448 with
 |some (.box 33 [(.val (.int .i64 y1)),(.ref 0),(.ref 1),(.ref 2),(.ref 3),(.val (.int .i64 y2)),(.ref 4),(.ref 5),(.val (.int .i64 y3))])=>
 (match s.ent 0 with
 |some (.row false 2 (.int .i64) y5)=>
 (match s.ent 1 with
 |some (.row false 169 (.pair (.int .i64) (.pair (.int .i64) (.int .i64))) y6)=>
 (match s.ent 2 with
 |some (.row false 24 (.sl 2 (.int .i64)) y7)=>
 (match s.ent 3 with
 |some (.row false 100 (.pair (.int .i64) (.pair (.int .i64) (.int .i64))) y8)=>
 (match s.ent 4 with
 |some (.row false 173 (.pair (.int .i64) (.int .i64)) y9)=>
 (match s.ent 5 with
 |some (.row false 176 (.pair (.int .i64) (.int .i64)) y10)=>
 (match s.ent 576 with
 |some (.row true 24 (.sl 2 (.int .i64)) y4)=>
 some (y0,y1,y2,y3,y4,y5,y6,y7,y8,y9,y10)
 |_=>none)
 |_=>none)
 |_=>none)
 |_=>none)
 |_=>none)
 |_=>none)
 |_=>none)
 |_=>none)
 |_=>none)
 |_=>none)
 |_=>none)
def gj:Lp nh where
 h:=⟨[6,7,8,9,10,13,14,15,16,17,18,19,20,21,3,11,12,4],[0,2,3,4,5,6,7],[1],[]⟩
 JL:=agA
 JE:=agt
 XL:=agO
 XE:=agH
 q:=fun j=>match j with | _=> .exit 0
 tags:= [0]
 lt:=Es
 fuel:=fun(y0,y1,y2,y3,y4,y5,y6,y7,y8,y9,y10)=>y0.natAbs + y1.natAbs + y2.natAbs + y3.natAbs + y4.length + y5.length + y6.length + y7.length + y8.length + y9.length + y10.length
 fix:=fun(_,y1,y2,y3,_,y5,y6,y7,y8,y9,y10) (y0,_,_,_,y4,_,_,_,_,_,_)=>(y0,y1,y2,y3,y4,y5,y6,y7,y8,y9,y10)
 σ:= [(0,448),(2,0),(3,1),(4,2),(5,3),(6,4),(7,5),(1,576)]
 rd:=Qf
theorem aeB:LoopOk Tryz.prog (fun k=>Nat.blt k Tryz.f155.ntmps) gj.F (aT Tryz.f155 0):=by
 refine Lp.ok (tbl:= [qk,PF.lend qk,PF.fz qk]) (lf:= []) aS gj (by kernel_rfl) (LOk.nil _) (fun _=>rfl) (fun _ _=>rfl) ?_ ?_ ?_ ?_ (fun _=>rfl) ?_
 ·rintro⟨y0,y1,y2,y3,y4,y5,y6,y7,y8,y9,y10⟩;kernel_rfl
 ·rintro⟨y0,y1,y2,y3,y4,y5,y6,y7,y8,y9,y10⟩;kernel_rfl
 ·intro s x h
  have h:Qf s=some x:=h
  unfold Qf at h
  repeat' split at h
  all_goals cases h
  exact⟨aa (by assumption) rfl (aa (by assumption) rfl (aa (by assumption) rfl (rfl))),ab rfl (by assumption) rfl (ab rfl (by assumption) rfl (ab rfl (by assumption) rfl (ab rfl (by assumption) rfl (ab rfl (by assumption) rfl (ab rfl (by assumption) rfl (ab rfl (by assumption) rfl (ab rfl (by assumption) rfl (rfl))))))))⟩
 ·rintro⟨y0,y1,y2,y3,y4,y5,y6,y7,y8,y9,y10⟩;kernel_rfl
 ·rintro⟨y0,y1,y2,y3,y4,y5,y6,y7,y8,y9,y10⟩ z;exact(And.intro rfl trivial)
section
variable (x0 x1 x2:Int)(x3:List Int)(x4:List (Int×Int×Int))(x5:List (List Int))(x6:List (Int×Int×Int))(x7 x8:List (Int×Int))
def QN:Int×Int×Int×Int×List (List Int)×List Int×List (Int×Int×Int)×List (List Int)×List (Int×Int×Int)×List (Int×Int)×List (Int×Int):=((0:Int),x0,x1,x2,[],x3,x4,x5,x6,x7,x8)
def nx:List (List Int):=((Lp.res gj (QN x0 x1 x2 x3 x4 x5 x6 x7 x8)).2.2.2.2.2).1
def SD:Bool:=allT [Lp.fin gj (QN x0 x1 x2 x3 x4 x5 x6 x7 x8),leN x3.length (1048576:Nat),leN ((0:Nat) + List.length x4) (9223372036854775807:Nat),leN (((0:Nat) + List.length x4) * (24:Nat)) (140737488355328:Nat),leN ((0:Nat) + List.length x6) (9223372036854775807:Nat),leN (((0:Nat) + List.length x6) * (24:Nat)) (140737488355328:Nat),leN ((0:Nat) + List.length x7) (9223372036854775807:Nat),leN (((0:Nat) + List.length x7) * (16:Nat)) (140737488355328:Nat),leN ((0:Nat) + List.length x8) (9223372036854775807:Nat),leN (((0:Nat) + List.length x8) * (16:Nat)) (140737488355328:Nat)]
end
def aeT:List SV→List Entry→Option Out
 | [.one ⟨true,[.val (.int .i64 x0),.ref 0,.ref 1,.ref 2,.ref 3,.val (.int .i64 x1),.ref 4,.ref 5,.val (.int .i64 x2)]⟩],[.row false 2 (.int .i64) x3,.row false 169 (.pair (.int .i64) (.pair (.int .i64) (.int .i64))) x4,.row false 24 (.sl 2 (.int .i64)) x5,.row false 100 (.pair (.int .i64) (.pair (.int .i64) (.int .i64))) x6,.row false 173 (.pair (.int .i64) (.int .i64)) x7,.row false 176 (.pair (.int .i64) (.int .i64)) x8]=>some ⟨(.one ⟨true,[(.val (.int .i64 x0)),(.ref 6),(.ref 7),(.ref 8),(.ref 9),(.val (.int .i64 x1)),(.ref 10),(.ref 11),(.val (.int .i64 x2))]⟩),[(.row false 2 asg x3),(.row false 169 ase x4),(.row false 24 (CTy.sl (2:TypeId) asg) x5),(.row false 100 ase x6),(.row false 173 asf x7),(.row false 176 asf x8)],[(.row true 2 asg x3),(.row true 169 ase x4),(.row true 24 (CTy.sl (2:Nat) asg) (nx x0 x1 x2 x3 x4 x5 x6 x7 x8)),(.row true 100 ase x6),(.row true 173 asf x7),(.row true 176 asf x8)],[(SD x0 x1 x2 x3 x4 x5 x6 x7 x8)]⟩
 |_,_=>none
def Yt:PF Tryz.prog:=PF.ofG Tryz.prog [qk,PF.lend qk,PF.fz qk] [gj.F] aS 155 Tryz.f155 Tryz.func155 (LOk.fnT (l:= [aT Tryz.f155 0]) (by kernel_rfl) (.cons aeB (.nil _))) aeT (by
 intro vs es r h;unfold aeT at h;split at h
 ·cases h;kernel_rfl
 ·cases h)
section
variable (x0 x1 x3:Int)(x4:List Int)(x5:List (Int×Int×Int))(x6:List (List Int))(x7:List (Int×Int×Int))
def rY:Bool:=Int.tmod (Option.getD x4[Int.toNat x3]? (0:Int)) (3:Int)!=(1:Int)
def TU:Bool:= !adD x0 x4 (DD x0 x4 x5 (0:Int)) (DD x0 x4 x5 (1:Int)) x3
def NG:List Int:=Option.getD x6[Int.toNat x3]? (AK (CTy.sl (2:TypeId) asg))
def GW:Int:=bif rY x3 x4 then(0:Int)else bif x1 !=(3:Int)then(1:Int)else bif TU x0 x3 x4 x5 then(2:Int)else bif bif cZ x0 x3 x4 then !Qg (NG x3 x6) x7 else false then(3:Int)else(0:Int)
def QM:Bool:=allT [leI (0:Int) x3,ltI x3 (↑x4.length:Int),ltN x3.toNat x4.length,rY x3 x4||leI (0:Int) x3,rY x3 x4||ltI x3 (↑x6.length:Int),rY x3 x4||ltN x3.toNat x6.length,rY x3 x4||ab4 (NG x3 x6) x7,rY x3 x4||(x1 !=(3:Int)||isT x0 x4&&ahZ x0 x5),rY x3 x4||(x1 !=(3:Int)||Yu x0 x4 (DD x0 x4 x5 (0:Int)) (DD x0 x4 x5 (1:Int)) x3),rY x3 x4||(x1 !=(3:Int)||(TU x0 x3 x4 x5||BR x3 x4))]
end
def acu:List SV→List Entry→Option Out
 | [.one ⟨true,[.val (.int .i64 x0),.ref 0,.ref 1,.ref 2,.ref 3,.val (.int .i64 x1),.ref 4,.ref 5,.val (.int .i64 _x2)]⟩,.one ⟨false,[.val (.int .i64 x3)]⟩],[.row false 2 (.int .i64) x4,.row false 169 (.pair (.int .i64) (.pair (.int .i64) (.int .i64))) x5,.row false 24 (.sl 2 (.int .i64)) x6,.row false 100 (.pair (.int .i64) (.pair (.int .i64) (.int .i64))) x7,.row false 173 (.pair (.int .i64) (.int .i64)) x8,.row false 176 (.pair (.int .i64) (.int .i64)) x9]=>some ⟨(.one ⟨false,[(.val (.int .i64 (GW x0 x1 x3 x4 x5 x6 x7)))]⟩),[(.row false 2 asg x4),(.row false 169 ase x5),(.row false 24 (CTy.sl (2:TypeId) asg) x6),(.row false 100 ase x7),(.row false 173 asf x8),(.row false 176 asf x9)],[],[(QM x0 x1 x3 x4 x5 x6 x7)]⟩
 |_,_=>none
def VF:PF Tryz.prog:=PF.ofG Tryz.prog [Vr,PF.lend Vr,PF.fz Vr,PK,PF.lend PK,PF.fz PK,Sj,PF.lend Sj,PF.fz Sj,BA,PF.lend BA,PF.fz BA] [] aS 177 Tryz.f177 Tryz.func177 (fun c _=>LOk.nil c) acu (by
 intro vs es r h;unfold acu at h;split at h
 ·cases h;kernel_rfl
 ·cases h)
section
variable (x0 x1 x2 x3 x4 x5 x6 x7 x8:Int)(x9:Bool)(x10:List Int)(x11:List (Int×Int×Int))(x12:List (List Int))(x13:List (Int×Int×Int))(x14 x15:List (Int×Int))
def lF:Bool:=GW x0 x1 x4 x10 x11 x12 x13==(0:Int)
def gK:List Int:=Option.getD x12[Int.toNat x4]? (AK (CTy.sl (2:TypeId) asg))
def jS:Bool:=vdC x1 x7 x8 x9 !=(0:Int)
def lG:Bool:=bif x7==(1:Int)then !ahb x14 x15 x2 else false
def QO:Int:=bif x3==(0:Int)then bif lF x0 x1 x4 x10 x11 x12 x13 then x0 else x0 else bif x3==(1:Int)then bif !cZ x0 x4 x10 then x0 else bif !kM (gK x4 x12) x5 x6 then x0 else x0 else bif jS x1 x7 x8 x9 then x0 else bif lG x2 x7 x14 x15 then x0 else x0
def QP:Int:=bif x3==(0:Int)then bif lF x0 x1 x4 x10 x11 x12 x13 then x1 else x1 else bif x3==(1:Int)then bif !cZ x0 x4 x10 then x1 else bif !kM (gK x4 x12) x5 x6 then x1 else x1 else bif jS x1 x7 x8 x9 then x1 else bif lG x2 x7 x14 x15 then x1 else nxC x1 x7 x8 x9
def QQ:Int:=bif x3==(0:Int)then bif lF x0 x1 x4 x10 x11 x12 x13 then x2 else x2 else bif x3==(1:Int)then bif !cZ x0 x4 x10 then x2 else bif !kM (gK x4 x12) x5 x6 then x2 else x2 else bif jS x1 x7 x8 x9 then x2 else bif lG x2 x7 x14 x15 then x2 else x2
def QR:Int:=bif x3==(0:Int)then bif lF x0 x1 x4 x10 x11 x12 x13 then GW x0 x1 x4 x10 x11 x12 x13 else GW x0 x1 x4 x10 x11 x12 x13 else bif x3==(1:Int)then bif !cZ x0 x4 x10 then(4:Int)else bif !kM (gK x4 x12) x5 x6 then(5:Int)else(0:Int)else bif jS x1 x7 x8 x9 then(6:Int)else bif lG x2 x7 x14 x15 then(7:Int)else(0:Int)
def QS:List Int:=bif x3==(0:Int)then bif lF x0 x1 x4 x10 x11 x12 x13 then ah7 x0 x10 x4 else x10 else bif x3==(1:Int)then bif !cZ x0 x4 x10 then x10 else bif !kM (gK x4 x12) x5 x6 then x10 else x10 else bif jS x1 x7 x8 x9 then x10 else bif lG x2 x7 x14 x15 then x10 else x10
def QT:List (Int×(Int×Int)):=bif x3==(0:Int)then bif lF x0 x1 x4 x10 x11 x12 x13 then x11 else x11 else bif x3==(1:Int)then bif !cZ x0 x4 x10 then x11 else bif !kM (gK x4 x12) x5 x6 then x11 else x11 else bif jS x1 x7 x8 x9 then x11 else bif lG x2 x7 x14 x15 then x11 else x11
def QU:List (List Int):=bif x3==(0:Int)then bif lF x0 x1 x4 x10 x11 x12 x13 then nx x0 x1 x2 x10 x11 x12 x13 x14 x15 else nx x0 x1 x2 x10 x11 x12 x13 x14 x15 else bif x3==(1:Int)then bif !cZ x0 x4 x10 then nx x0 x1 x2 x10 x11 x12 x13 x14 x15 else bif !kM (gK x4 x12) x5 x6 then nx x0 x1 x2 x10 x11 x12 x13 x14 x15 else List.set (nx x0 x1 x2 x10 x11 x12 x13 x14 x15) x4.toNat (QY (gK x4 x12) x5 x6)else bif jS x1 x7 x8 x9 then nx x0 x1 x2 x10 x11 x12 x13 x14 x15 else bif lG x2 x7 x14 x15 then nx x0 x1 x2 x10 x11 x12 x13 x14 x15 else nx x0 x1 x2 x10 x11 x12 x13 x14 x15
def QV:List (Int×(Int×Int)):=bif x3==(0:Int)then bif lF x0 x1 x4 x10 x11 x12 x13 then x13 else x13 else bif x3==(1:Int)then bif !cZ x0 x4 x10 then x13 else bif !kM (gK x4 x12) x5 x6 then x13 else x13 else bif jS x1 x7 x8 x9 then x13 else bif lG x2 x7 x14 x15 then x13 else x13
def QW:List (Int×Int):=bif x3==(0:Int)then bif lF x0 x1 x4 x10 x11 x12 x13 then x14 else x14 else bif x3==(1:Int)then bif !cZ x0 x4 x10 then x14 else bif !kM (gK x4 x12) x5 x6 then x14 else x14 else bif jS x1 x7 x8 x9 then x14 else bif lG x2 x7 x14 x15 then x14 else x14
def QX:List (Int×Int):=bif x3==(0:Int)then bif lF x0 x1 x4 x10 x11 x12 x13 then x15 else x15 else bif x3==(1:Int)then bif !cZ x0 x4 x10 then x15 else bif !kM (gK x4 x12) x5 x6 then x15 else x15 else bif jS x1 x7 x8 x9 then x15 else bif lG x2 x7 x14 x15 then x15 else x15
def NH:Bool:=allT [SD x0 x1 x2 x10 x11 x12 x13 x14 x15,!x3==(0:Int)||QM x0 x1 x4 x10 x11 x12 x13,!x3==(0:Int)||(!lF x0 x1 x4 x10 x11 x12 x13||ZJ x0 x10 x4),x3==(0:Int)||(!x3==(1:Int)||leI (0:Int) x4),x3==(0:Int)||(!x3==(1:Int)||ltI x4 (↑x12.length:Int)),x3==(0:Int)||(!x3==(1:Int)||ltN x4.toNat x12.length),x3==(0:Int)||(!x3==(1:Int)||ahv (gK x4 x12) x5 x6),x3==(0:Int)||(!x3==(1:Int)||BR x4 x10),x3==(0:Int)||(!x3==(1:Int)||(!cZ x0 x4 x10||(!kM (gK x4 x12) x5 x6||leI (0:Int) x4))),x3==(0:Int)||(!x3==(1:Int)||(!cZ x0 x4 x10||(!kM (gK x4 x12) x5 x6||ltI x4 (↑(List.length (nx x0 x1 x2 x10 x11 x12 x13 x14 x15)):Int)))),x3==(0:Int)||(!x3==(1:Int)||(!cZ x0 x4 x10||(!kM (gK x4 x12) x5 x6||ltN x4.toNat (List.length (nx x0 x1 x2 x10 x11 x12 x13 x14 x15))))),x3==(0:Int)||(x3==(1:Int)||ab6 x1 x7),x3==(0:Int)||(x3==(1:Int)||(jS x1 x7 x8 x9||(!(x7==(1:Int)&&true)||leN x14.length (9223372036854775807:Nat)&&leN x15.length (9223372036854775807:Nat)))),x3==(0:Int)||(x3==(1:Int)||(jS x1 x7 x8 x9||(lG x2 x7 x14 x15||ab6 x1 x7)))]
end
def acw:List SV→List Entry→Option Out
 | [.one ⟨true,[.val (.int .i64 x0),.ref 0,.ref 1,.ref 2,.ref 3,.val (.int .i64 x1),.ref 4,.ref 5,.val (.int .i64 x2)]⟩,.one ⟨true,[.val (.int .i64 x3),.val (.int .i64 x4),.val (.int .i64 x5),.val (.int .i64 x6),.val (.int .i64 x7),.val (.int .i64 x8),.val (.bool x9)]⟩],[.row false 2 (.int .i64) x10,.row false 169 (.pair (.int .i64) (.pair (.int .i64) (.int .i64))) x11,.row false 24 (.sl 2 (.int .i64)) x12,.row false 100 (.pair (.int .i64) (.pair (.int .i64) (.int .i64))) x13,.row false 173 (.pair (.int .i64) (.int .i64)) x14,.row false 176 (.pair (.int .i64) (.int .i64)) x15]=>some ⟨(.tup [⟨true,[(.val (.int .i64 (QO x0 x1 x2 x3 x4 x5 x6 x7 x8 x9 x10 x11 x12 x13 x14 x15))),(.ref 6),(.ref 7),(.ref 8),(.ref 9),(.val (.int .i64 (QP x0 x1 x2 x3 x4 x5 x6 x7 x8 x9 x10 x11 x12 x13 x14 x15))),(.ref 10),(.ref 11),(.val (.int .i64 (QQ x0 x1 x2 x3 x4 x5 x6 x7 x8 x9 x10 x11 x12 x13 x14 x15)))]⟩,⟨false,[(.val (.int .i64 (QR x0 x1 x2 x3 x4 x5 x6 x7 x8 x9 x10 x11 x12 x13 x14 x15)))]⟩]),[(.row false 2 asg x10),(.row false 169 ase x11),(.row false 24 (CTy.sl (2:TypeId) asg) x12),(.row false 100 ase x13),(.row false 173 asf x14),(.row false 176 asf x15)],[(.row true 2 asg (QS x0 x1 x2 x3 x4 x5 x6 x7 x8 x9 x10 x11 x12 x13 x14 x15)),(.row true 169 ase (QT x0 x1 x2 x3 x4 x5 x6 x7 x8 x9 x10 x11 x12 x13 x14 x15)),(.row true 24 (CTy.sl (2:Nat) asg) (QU x0 x1 x2 x3 x4 x5 x6 x7 x8 x9 x10 x11 x12 x13 x14 x15)),(.row true 100 ase (QV x0 x1 x2 x3 x4 x5 x6 x7 x8 x9 x10 x11 x12 x13 x14 x15)),(.row true 173 asf (QW x0 x1 x2 x3 x4 x5 x6 x7 x8 x9 x10 x11 x12 x13 x14 x15)),(.row true 176 asf (QX x0 x1 x2 x3 x4 x5 x6 x7 x8 x9 x10 x11 x12 x13 x14 x15))],[(NH x0 x1 x2 x3 x4 x5 x6 x7 x8 x9 x10 x11 x12 x13 x14 x15)]⟩
 |_,_=>none
def VG:PF Tryz.prog:=PF.ofG Tryz.prog [Yt,PF.lend Yt,PF.fz Yt,VF,PF.lend VF,PF.fz VF,Vt,PF.lend Vt,PF.fz Vt,TM,PF.lend TM,PF.fz TM,ahf,PJ,PF.lend PJ,PF.fz PJ,aki,BA,PF.lend BA,PF.fz BA] [] aS 98 Tryz.f98 Tryz.func98 (fun c _=>LOk.nil c) acw (by
 intro vs es r h;unfold acw at h;split at h
 ·cases h;kernel_rfl
 ·cases h)
section
variable (x0 x1 x2 x3 x4 x5 x6 x7 x8:Int)(x9:Bool)(x10:List Int)(x11:List (Int×Int×Int))(x12:List (List Int))(x13:List (Int×Int×Int))(x14 x15:List (Int×Int))
def ik:Bool:= !ux x0 x1 x2 x3 x4 x5 x6 x7 x8 x9 x10 x11 x12 x13 x14 x15
def IC:Int:=bif !nX x0 x10 x11 x12 x13 x1 x14 x15 x2 then(0:Int)else bif ik x0 x1 x2 x3 x4 x5 x6 x7 x8 x9 x10 x11 x12 x13 x14 x15 then(0:Int)else QO x0 x1 x2 x3 x4 x5 x6 x7 x8 x9 x10 x11 x12 x13 x14 x15
def ID:Int:=bif !nX x0 x10 x11 x12 x13 x1 x14 x15 x2 then(0:Int)else bif ik x0 x1 x2 x3 x4 x5 x6 x7 x8 x9 x10 x11 x12 x13 x14 x15 then(0:Int)else QP x0 x1 x2 x3 x4 x5 x6 x7 x8 x9 x10 x11 x12 x13 x14 x15
def IE:Int:=bif !nX x0 x10 x11 x12 x13 x1 x14 x15 x2 then(0:Int)else bif ik x0 x1 x2 x3 x4 x5 x6 x7 x8 x9 x10 x11 x12 x13 x14 x15 then(0:Int)else QQ x0 x1 x2 x3 x4 x5 x6 x7 x8 x9 x10 x11 x12 x13 x14 x15
def IF:Int:=bif !nX x0 x10 x11 x12 x13 x1 x14 x15 x2 then(0:Int)else bif ik x0 x1 x2 x3 x4 x5 x6 x7 x8 x9 x10 x11 x12 x13 x14 x15 then(0:Int)else QR x0 x1 x2 x3 x4 x5 x6 x7 x8 x9 x10 x11 x12 x13 x14 x15
def IG:Int:=bif !nX x0 x10 x11 x12 x13 x1 x14 x15 x2 then(1:Int)else bif ik x0 x1 x2 x3 x4 x5 x6 x7 x8 x9 x10 x11 x12 x13 x14 x15 then(2:Int)else(0:Int)
def IH:List Int:=bif !nX x0 x10 x11 x12 x13 x1 x14 x15 x2 then []else bif ik x0 x1 x2 x3 x4 x5 x6 x7 x8 x9 x10 x11 x12 x13 x14 x15 then []else QS x0 x1 x2 x3 x4 x5 x6 x7 x8 x9 x10 x11 x12 x13 x14 x15
def II:List (Int×(Int×Int)):=bif !nX x0 x10 x11 x12 x13 x1 x14 x15 x2 then []else bif ik x0 x1 x2 x3 x4 x5 x6 x7 x8 x9 x10 x11 x12 x13 x14 x15 then []else QT x0 x1 x2 x3 x4 x5 x6 x7 x8 x9 x10 x11 x12 x13 x14 x15
def IJ:List (List Int):=bif !nX x0 x10 x11 x12 x13 x1 x14 x15 x2 then []else bif ik x0 x1 x2 x3 x4 x5 x6 x7 x8 x9 x10 x11 x12 x13 x14 x15 then []else QU x0 x1 x2 x3 x4 x5 x6 x7 x8 x9 x10 x11 x12 x13 x14 x15
def IK:List (Int×(Int×Int)):=bif !nX x0 x10 x11 x12 x13 x1 x14 x15 x2 then []else bif ik x0 x1 x2 x3 x4 x5 x6 x7 x8 x9 x10 x11 x12 x13 x14 x15 then []else QV x0 x1 x2 x3 x4 x5 x6 x7 x8 x9 x10 x11 x12 x13 x14 x15
def IL:List (Int×Int):=bif !nX x0 x10 x11 x12 x13 x1 x14 x15 x2 then []else bif ik x0 x1 x2 x3 x4 x5 x6 x7 x8 x9 x10 x11 x12 x13 x14 x15 then []else QW x0 x1 x2 x3 x4 x5 x6 x7 x8 x9 x10 x11 x12 x13 x14 x15
def GC:List (Int×Int):=bif !nX x0 x10 x11 x12 x13 x1 x14 x15 x2 then []else bif ik x0 x1 x2 x3 x4 x5 x6 x7 x8 x9 x10 x11 x12 x13 x14 x15 then []else QX x0 x1 x2 x3 x4 x5 x6 x7 x8 x9 x10 x11 x12 x13 x14 x15
def GD:Bool:=allT [zC (9223372036854775807:Nat) x10 x11 x12 x13 x14 x15,!nX x0 x10 x11 x12 x13 x1 x14 x15 x2||zE x0 x1 x2 x3 x4 x10 x11 x12 x13 x14 x15,!nX x0 x10 x11 x12 x13 x1 x14 x15 x2||(ik x0 x1 x2 x3 x4 x5 x6 x7 x8 x9 x10 x11 x12 x13 x14 x15||NH x0 x1 x2 x3 x4 x5 x6 x7 x8 x9 x10 x11 x12 x13 x14 x15)]
end
def aa1:List SV→List Entry→Option Out
 | [.one ⟨true,[.val (.int .i64 x0),.ref 0,.ref 1,.ref 2,.ref 3,.val (.int .i64 x1),.ref 4,.ref 5,.val (.int .i64 x2)]⟩,.one ⟨true,[.val (.int .i64 x3),.val (.int .i64 x4),.val (.int .i64 x5),.val (.int .i64 x6),.val (.int .i64 x7),.val (.int .i64 x8),.val (.bool x9)]⟩],[.row false 2 (.int .i64) x10,.row false 169 (.pair (.int .i64) (.pair (.int .i64) (.int .i64))) x11,.row false 24 (.sl 2 (.int .i64)) x12,.row false 100 (.pair (.int .i64) (.pair (.int .i64) (.int .i64))) x13,.row false 173 (.pair (.int .i64) (.int .i64)) x14,.row false 176 (.pair (.int .i64) (.int .i64)) x15]=>some ⟨(.tup [⟨true,[(.val (.int .i64 (IC x0 x1 x2 x3 x4 x5 x6 x7 x8 x9 x10 x11 x12 x13 x14 x15))),(.ref 6),(.ref 7),(.ref 8),(.ref 9),(.val (.int .i64 (ID x0 x1 x2 x3 x4 x5 x6 x7 x8 x9 x10 x11 x12 x13 x14 x15))),(.ref 10),(.ref 11),(.val (.int .i64 (IE x0 x1 x2 x3 x4 x5 x6 x7 x8 x9 x10 x11 x12 x13 x14 x15)))]⟩,⟨false,[(.val (.int .i64 (IF x0 x1 x2 x3 x4 x5 x6 x7 x8 x9 x10 x11 x12 x13 x14 x15)))]⟩,⟨false,[(.val (.int .i64 (IG x0 x1 x2 x3 x4 x5 x6 x7 x8 x9 x10 x11 x12 x13 x14 x15)))]⟩]),[(.row false 2 asg x10),(.row false 169 ase x11),(.row false 24 (CTy.sl (2:TypeId) asg) x12),(.row false 100 ase x13),(.row false 173 asf x14),(.row false 176 asf x15)],[(.row true 2 asg (IH x0 x1 x2 x3 x4 x5 x6 x7 x8 x9 x10 x11 x12 x13 x14 x15)),(.row true 169 ase (II x0 x1 x2 x3 x4 x5 x6 x7 x8 x9 x10 x11 x12 x13 x14 x15)),(.row true 24 (CTy.sl (2:Nat) asg) (IJ x0 x1 x2 x3 x4 x5 x6 x7 x8 x9 x10 x11 x12 x13 x14 x15)),(.row true 100 ase (IK x0 x1 x2 x3 x4 x5 x6 x7 x8 x9 x10 x11 x12 x13 x14 x15)),(.row true 173 asf (IL x0 x1 x2 x3 x4 x5 x6 x7 x8 x9 x10 x11 x12 x13 x14 x15)),(.row true 176 asf (GC x0 x1 x2 x3 x4 x5 x6 x7 x8 x9 x10 x11 x12 x13 x14 x15))],[(GD x0 x1 x2 x3 x4 x5 x6 x7 x8 x9 x10 x11 x12 x13 x14 x15)]⟩
 |_,_=>none
def ajk:PF Tryz.prog:=PF.ofG Tryz.prog [IY,PF.lend IY,PF.fz IY,zB,PF.lend zB,PF.fz zB,VG,PF.lend VG,PF.fz VG] [] aS 33 Tryz.f33 Tryz.func33 (fun c _=>LOk.nil c) aa1 (by
 intro vs es r h;unfold aa1 at h;split at h
 ·cases h;kernel_rfl
 ·cases h)
end Go.SX

namespace Go.SX
open Go.Proofs
set_option maxRecDepth 100000
def Rh(x0:List (Int×Int×Int)):Bool:=allT [ltN (0:Nat) x0.length,false||leN ((0:Nat) + List.length x0) (9223372036854775807:Nat),false||leN (((0:Nat) + List.length x0) * (24:Nat)) (140737488355328:Nat)]
def FG:List SV→List Entry→Option Out
 | [.one ⟨false,[.ref 0]⟩],[.row false 169 (.pair (.int .i64) (.pair (.int .i64) (.int .i64))) x0]=>some ⟨(.one ⟨false,[(.ref 1)]⟩),[(.row false 169 ase x0)],[(.row true 169 ase x0)],[(Rh x0)]⟩
 |_,_=>none
def Rd:PF Tryz.prog:=PF.ofG Tryz.prog [] [] aS 147 Tryz.f147 Tryz.func147 (fun c _=>LOk.nil c) FG (by
 intro vs es r h;unfold FG at h;split at h
 ·cases h;kernel_rfl
 ·cases h)
def Pm:List (Int×(Int×Int)):= []
def DA:List SV→List Entry→Option Out
 | [.one ⟨false,[.val (.slice none 0 0)]⟩],[]=>some ⟨(.one ⟨false,[(.ref 0)]⟩),[],[(.row true 169 ase (Pm))],[true]⟩
 |_,_=>none
def Pk:PF Tryz.prog:=PF.ofG Tryz.prog [PF.raw Tryz.prog] [] aS 147 Tryz.f147 Tryz.func147 (fun c _=>LOk.nil c) DA (by
 intro vs es r h;unfold DA at h;split at h
 ·cases h;kernel_rfl
 ·cases h)
def Pn:List (Int×(Int×Int)):= []
def DB:List SV→List Entry→Option Out
 | [.one ⟨false,[.val (.slice (some b) 0 c)]⟩],[]=>some ⟨(.one ⟨false,[(.ref 0)]⟩),[],[(.row true 169 ase (Pn))],[true]⟩
 |_,_=>none
def Pl:PF Tryz.prog:=PF.ofG Tryz.prog [] [] aS 147 Tryz.f147 Tryz.func147 (fun c _=>LOk.nil c) DB (by
 intro vs es r h;unfold DB at h;split at h
 ·cases h;kernel_rfl
 ·cases h)
def Te(x0:List (Int×Int×Int)):Bool:=allT [ltN (0:Nat) x0.length,false||leN ((0:Nat) + List.length x0) (9223372036854775807:Nat),false||leN (((0:Nat) + List.length x0) * (24:Nat)) (140737488355328:Nat)]
def Hq:List SV→List Entry→Option Out
 | [.one ⟨false,[.ref 0]⟩],[.row false 100 (.pair (.int .i64) (.pair (.int .i64) (.int .i64))) x0]=>some ⟨(.one ⟨false,[(.ref 1)]⟩),[(.row false 100 ase x0)],[(.row true 100 ase x0)],[(Te x0)]⟩
 |_,_=>none
def Tb:PF Tryz.prog:=PF.ofG Tryz.prog [] [] aS 148 Tryz.f148 Tryz.func148 (fun c _=>LOk.nil c) Hq (by
 intro vs es r h;unfold Hq at h;split at h
 ·cases h;kernel_rfl
 ·cases h)
def Rf:List (Int×(Int×Int)):= []
def FE:List SV→List Entry→Option Out
 | [.one ⟨false,[.val (.slice none 0 0)]⟩],[]=>some ⟨(.one ⟨false,[(.ref 0)]⟩),[],[(.row true 100 ase (Rf))],[true]⟩
 |_,_=>none
def Rb:PF Tryz.prog:=PF.ofG Tryz.prog [PF.raw Tryz.prog] [] aS 148 Tryz.f148 Tryz.func148 (fun c _=>LOk.nil c) FE (by
 intro vs es r h;unfold FE at h;split at h
 ·cases h;kernel_rfl
 ·cases h)
def Rg:List (Int×(Int×Int)):= []
def FF:List SV→List Entry→Option Out
 | [.one ⟨false,[.val (.slice (some b) 0 c)]⟩],[]=>some ⟨(.one ⟨false,[(.ref 0)]⟩),[],[(.row true 100 ase (Rg))],[true]⟩
 |_,_=>none
def Rc:PF Tryz.prog:=PF.ofG Tryz.prog [] [] aS 148 Tryz.f148 Tryz.func148 (fun c _=>LOk.nil c) FF (by
 intro vs es r h;unfold FF at h;split at h
 ·cases h;kernel_rfl
 ·cases h)
def Yw(x0:List (Int×Int)):Bool:=allT [ltN (0:Nat) x0.length,false||leN ((0:Nat) + List.length x0) (9223372036854775807:Nat),false||leN (((0:Nat) + List.length x0) * (16:Nat)) (140737488355328:Nat)]
def MB:List SV→List Entry→Option Out
 | [.one ⟨false,[.ref 0]⟩],[.row false 173 (.pair (.int .i64) (.int .i64)) x0]=>some ⟨(.one ⟨false,[(.ref 1)]⟩),[(.row false 173 asf x0)],[(.row true 173 asf x0)],[(Yw x0)]⟩
 |_,_=>none
def Yp:PF Tryz.prog:=PF.ofG Tryz.prog [] [] aS 149 Tryz.f149 Tryz.func149 (fun c _=>LOk.nil c) MB (by
 intro vs es r h;unfold MB at h;split at h
 ·cases h;kernel_rfl
 ·cases h)
def VM:List (Int×Int):= []
def Kt:List SV→List Entry→Option Out
 | [.one ⟨false,[.val (.slice none 0 0)]⟩],[]=>some ⟨(.one ⟨false,[(.ref 0)]⟩),[],[(.row true 173 asf (VM))],[true]⟩
 |_,_=>none
def VA:PF Tryz.prog:=PF.ofG Tryz.prog [PF.raw Tryz.prog] [] aS 149 Tryz.f149 Tryz.func149 (fun c _=>LOk.nil c) Kt (by
 intro vs es r h;unfold Kt at h;split at h
 ·cases h;kernel_rfl
 ·cases h)
def VN:List (Int×Int):= []
def Ku:List SV→List Entry→Option Out
 | [.one ⟨false,[.val (.slice (some b) 0 c)]⟩],[]=>some ⟨(.one ⟨false,[(.ref 0)]⟩),[],[(.row true 173 asf (VN))],[true]⟩
 |_,_=>none
def VB:PF Tryz.prog:=PF.ofG Tryz.prog [] [] aS 149 Tryz.f149 Tryz.func149 (fun c _=>LOk.nil c) Ku (by
 intro vs es r h;unfold Ku at h;split at h
 ·cases h;kernel_rfl
 ·cases h)
def Yv(x0:List (Int×Int)):Bool:=allT [ltN (0:Nat) x0.length,false||leN ((0:Nat) + List.length x0) (9223372036854775807:Nat),false||leN (((0:Nat) + List.length x0) * (16:Nat)) (140737488355328:Nat)]
def MA:List SV→List Entry→Option Out
 | [.one ⟨false,[.ref 0]⟩],[.row false 176 (.pair (.int .i64) (.int .i64)) x0]=>some ⟨(.one ⟨false,[(.ref 1)]⟩),[(.row false 176 asf x0)],[(.row true 176 asf x0)],[(Yv x0)]⟩
 |_,_=>none
def Yo:PF Tryz.prog:=PF.ofG Tryz.prog [] [] aS 150 Tryz.f150 Tryz.func150 (fun c _=>LOk.nil c) MA (by
 intro vs es r h;unfold MA at h;split at h
 ·cases h;kernel_rfl
 ·cases h)
def VK:List (Int×Int):= []
def Kr:List SV→List Entry→Option Out
 | [.one ⟨false,[.val (.slice none 0 0)]⟩],[]=>some ⟨(.one ⟨false,[(.ref 0)]⟩),[],[(.row true 176 asf (VK))],[true]⟩
 |_,_=>none
def Vy:PF Tryz.prog:=PF.ofG Tryz.prog [PF.raw Tryz.prog] [] aS 150 Tryz.f150 Tryz.func150 (fun c _=>LOk.nil c) Kr (by
 intro vs es r h;unfold Kr at h;split at h
 ·cases h;kernel_rfl
 ·cases h)
def VL:List (Int×Int):= []
def Ks:List SV→List Entry→Option Out
 | [.one ⟨false,[.val (.slice (some b) 0 c)]⟩],[]=>some ⟨(.one ⟨false,[(.ref 0)]⟩),[],[(.row true 176 asf (VL))],[true]⟩
 |_,_=>none
def Vz:PF Tryz.prog:=PF.ofG Tryz.prog [] [] aS 150 Tryz.f150 Tryz.func150 (fun c _=>LOk.nil c) Ks (by
 intro vs es r h;unfold Ks at h;split at h
 ·cases h;kernel_rfl
 ·cases h)
end Go.SX

namespace Go.SX
open Go.RowKit Go.Proofs
set_option maxRecDepth 100000
theorem aoY{n:Nat}(h2:0 < n)(h1:n≤1048576):allT [ltN 0 n,false||leN (0 + n) 9223372036854775807,false||leN ((0 + n) * 24) 140737488355328]=true:=by
 rw [fJ h2,br (by omega),br (by omega)];rfl
theorem aoX{n:Nat}(h2:0 < n)(h1:n≤1048576):allT [ltN 0 n,false||leN (0 + n) 9223372036854775807,false||leN ((0 + n) * 16) 140737488355328]=true:=by
 rw [fJ h2,br (by omega),br (by omega)];rfl
theorem ajJ(x0:List (Int×(Int×Int)))(h:leN x0.length 1048576=true)(mem:Nat→Option Obj)(ρ:Nm)(w:World)(hp:HpL w mem [.row false 169 (.pair (.int .i64) (.pair (.int .i64) (.int .i64))) x0] ρ w):
  Calls Tryz.prog 147 ([SV.one ⟨false,[.ref 0]⟩].map (SV.conc ρ)).toArray w fun en w'=> ∃ ρ':Nm,Ext (memB w mem) (fun i=>Nat.blt i 1) ρ ρ'∧en= .returned ((SV.one ⟨false,[.ref 1]⟩).conc ρ')∧
   HpL w mem [.row false 169 (.pair (.int .i64) (.pair (.int .i64) (.int .i64))) x0,.row true 169 (.pair (.int .i64) (.pair (.int .i64) (.int .i64))) x0] ρ' w':=
 aau (t:=(.pair (.int .i64) (.pair (.int .i64) (.int .i64)))) Rd Pk Pl rfl rfl rfl ⟨_,rfl,fun b hb=>(by simp at hb;exact hb)⟩ (fun _ _=>⟨_,rfl,fun b hb=>(by simp at hb;exact hb)⟩) x0
  (fun hne=>⟨_,rfl,fun b hb=>(by
   have h1:=c8.1 h
   have h2:0 < x0.length:=by cases x0 with
    |nil=>exact(hne rfl).elim
    |cons y r=>exact Nat.succ_pos _
   rw [List.mem_singleton]at hb;subst hb
   exact aoY h2 h1)⟩) mem ρ w hp
def FH:List SV→List Entry→Option Out
 | [.one ⟨false,[.ref 0]⟩],[.row false 169 (.pair (.int .i64) (.pair (.int .i64) (.int .i64))) x0]=>some ⟨.one ⟨false,[.ref 1]⟩,[.row false 169 (.pair (.int .i64) (.pair (.int .i64) (.int .i64))) x0],[.row true 169 (.pair (.int .i64) (.pair (.int .i64) (.int .i64))) x0],[leN x0.length 1048576]⟩
 |_,_=>none
def iE:PF Tryz.prog where
 k:=147
 F:=FH
 ok:=by
  intro args es o h hnd mem ρ w hp
  unfold FH at h;split at h
  ·rename_i x0
   cases h
   refine(ajJ x0 (hnd _ (List.mem_singleton.2 rfl)) mem ρ w hp).mono fun en w' ⟨ρ1,hx,he,hh⟩=>⟨ρ1,hx,he,rfl,?_,hh⟩
   intro c hc
   simp at hc;subst hc;rfl
  ·cases h
theorem al6(x0:List (Int×(Int×Int)))(h:leN x0.length 1048576=true)(mem:Nat→Option Obj)(ρ:Nm)(w:World)(hp:HpL w mem [.row false 100 (.pair (.int .i64) (.pair (.int .i64) (.int .i64))) x0] ρ w):
  Calls Tryz.prog 148 ([SV.one ⟨false,[.ref 0]⟩].map (SV.conc ρ)).toArray w fun en w'=> ∃ ρ':Nm,Ext (memB w mem) (fun i=>Nat.blt i 1) ρ ρ'∧en= .returned ((SV.one ⟨false,[.ref 1]⟩).conc ρ')∧
   HpL w mem [.row false 100 (.pair (.int .i64) (.pair (.int .i64) (.int .i64))) x0,.row true 100 (.pair (.int .i64) (.pair (.int .i64) (.int .i64))) x0] ρ' w':=
 aau (t:=(.pair (.int .i64) (.pair (.int .i64) (.int .i64)))) Tb Rb Rc rfl rfl rfl ⟨_,rfl,fun b hb=>(by simp at hb;exact hb)⟩ (fun _ _=>⟨_,rfl,fun b hb=>(by simp at hb;exact hb)⟩) x0
  (fun hne=>⟨_,rfl,fun b hb=>(by
   have h1:=c8.1 h
   have h2:0 < x0.length:=by cases x0 with
    |nil=>exact(hne rfl).elim
    |cons y r=>exact Nat.succ_pos _
   rw [List.mem_singleton]at hb;subst hb
   exact aoY h2 h1)⟩) mem ρ w hp
def Hs:List SV→List Entry→Option Out
 | [.one ⟨false,[.ref 0]⟩],[.row false 100 (.pair (.int .i64) (.pair (.int .i64) (.int .i64))) x0]=>some ⟨.one ⟨false,[.ref 1]⟩,[.row false 100 (.pair (.int .i64) (.pair (.int .i64) (.int .i64))) x0],[.row true 100 (.pair (.int .i64) (.pair (.int .i64) (.int .i64))) x0],[leN x0.length 1048576]⟩
 |_,_=>none
def jB:PF Tryz.prog where
 k:=148
 F:=Hs
 ok:=by
  intro args es o h hnd mem ρ w hp
  unfold Hs at h;split at h
  ·rename_i x0
   cases h
   refine(al6 x0 (hnd _ (List.mem_singleton.2 rfl)) mem ρ w hp).mono fun en w' ⟨ρ1,hx,he,hh⟩=>⟨ρ1,hx,he,rfl,?_,hh⟩
   intro c hc
   simp at hc;subst hc;rfl
  ·cases h
theorem aqz(x0:List (Int×Int))(h:leN x0.length 1048576=true)(mem:Nat→Option Obj)(ρ:Nm)(w:World)(hp:HpL w mem [.row false 173 (.pair (.int .i64) (.int .i64)) x0] ρ w):
  Calls Tryz.prog 149 ([SV.one ⟨false,[.ref 0]⟩].map (SV.conc ρ)).toArray w fun en w'=> ∃ ρ':Nm,Ext (memB w mem) (fun i=>Nat.blt i 1) ρ ρ'∧en= .returned ((SV.one ⟨false,[.ref 1]⟩).conc ρ')∧
   HpL w mem [.row false 173 (.pair (.int .i64) (.int .i64)) x0,.row true 173 (.pair (.int .i64) (.int .i64)) x0] ρ' w':=
 aau (t:=(.pair (.int .i64) (.int .i64))) Yp VA VB rfl rfl rfl ⟨_,rfl,fun b hb=>(by simp at hb;exact hb)⟩ (fun _ _=>⟨_,rfl,fun b hb=>(by simp at hb;exact hb)⟩) x0
  (fun hne=>⟨_,rfl,fun b hb=>(by
   have h1:=c8.1 h
   have h2:0 < x0.length:=by cases x0 with
    |nil=>exact(hne rfl).elim
    |cons y r=>exact Nat.succ_pos _
   rw [List.mem_singleton]at hb;subst hb
   exact aoX h2 h1)⟩) mem ρ w hp
def ME:List SV→List Entry→Option Out
 | [.one ⟨false,[.ref 0]⟩],[.row false 173 (.pair (.int .i64) (.int .i64)) x0]=>some ⟨.one ⟨false,[.ref 1]⟩,[.row false 173 (.pair (.int .i64) (.int .i64)) x0],[.row true 173 (.pair (.int .i64) (.int .i64)) x0],[leN x0.length 1048576]⟩
 |_,_=>none
def nk:PF Tryz.prog where
 k:=149
 F:=ME
 ok:=by
  intro args es o h hnd mem ρ w hp
  unfold ME at h;split at h
  ·rename_i x0
   cases h
   refine(aqz x0 (hnd _ (List.mem_singleton.2 rfl)) mem ρ w hp).mono fun en w' ⟨ρ1,hx,he,hh⟩=>⟨ρ1,hx,he,rfl,?_,hh⟩
   intro c hc
   simp at hc;subst hc;rfl
  ·cases h
theorem aqy(x0:List (Int×Int))(h:leN x0.length 1048576=true)(mem:Nat→Option Obj)(ρ:Nm)(w:World)(hp:HpL w mem [.row false 176 (.pair (.int .i64) (.int .i64)) x0] ρ w):
  Calls Tryz.prog 150 ([SV.one ⟨false,[.ref 0]⟩].map (SV.conc ρ)).toArray w fun en w'=> ∃ ρ':Nm,Ext (memB w mem) (fun i=>Nat.blt i 1) ρ ρ'∧en= .returned ((SV.one ⟨false,[.ref 1]⟩).conc ρ')∧
   HpL w mem [.row false 176 (.pair (.int .i64) (.int .i64)) x0,.row true 176 (.pair (.int .i64) (.int .i64)) x0] ρ' w':=
 aau (t:=(.pair (.int .i64) (.int .i64))) Yo Vy Vz rfl rfl rfl ⟨_,rfl,fun b hb=>(by simp at hb;exact hb)⟩ (fun _ _=>⟨_,rfl,fun b hb=>(by simp at hb;exact hb)⟩) x0
  (fun hne=>⟨_,rfl,fun b hb=>(by
   have h1:=c8.1 h
   have h2:0 < x0.length:=by cases x0 with
    |nil=>exact(hne rfl).elim
    |cons y r=>exact Nat.succ_pos _
   rw [List.mem_singleton]at hb;subst hb
   exact aoX h2 h1)⟩) mem ρ w hp
def MD:List SV→List Entry→Option Out
 | [.one ⟨false,[.ref 0]⟩],[.row false 176 (.pair (.int .i64) (.int .i64)) x0]=>some ⟨.one ⟨false,[.ref 1]⟩,[.row false 176 (.pair (.int .i64) (.int .i64)) x0],[.row true 176 (.pair (.int .i64) (.int .i64)) x0],[leN x0.length 1048576]⟩
 |_,_=>none
def nj:PF Tryz.prog where
 k:=150
 F:=MD
 ok:=by
  intro args es o h hnd mem ρ w hp
  unfold MD at h;split at h
  ·rename_i x0
   cases h
   refine(aqy x0 (hnd _ (List.mem_singleton.2 rfl)) mem ρ w hp).mono fun en w' ⟨ρ1,hx,he,hh⟩=>⟨ρ1,hx,he,rfl,?_,hh⟩
   intro c hc
   simp at hc;subst hc;rfl
  ·cases h
end Go.SX
