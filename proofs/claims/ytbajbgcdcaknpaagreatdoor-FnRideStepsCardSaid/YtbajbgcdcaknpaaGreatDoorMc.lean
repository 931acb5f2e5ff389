/- What functions of the program come to, and what that says in plain words: part 3. -/
import Derived.Test.YtbajbgcdcaknpaaGreatDoorMb
import Derived.Test.YtbajbgcdcaknpaaGreatDoorTXh
import Derived.Test.YtbajbgcdcaknpaaGreatDoorProg
import Derived.Test.YtbajbgcdcaknpaaGreatDoorTXk
set_option linter.unusedSimpArgs false
set_option linter.unusedVariables false
namespace Go.SX
open Go.Proofs
set_option maxRecDepth 100000
section
variable (x3 x4 x5 x6 x7 x8:Int)(x9:Bool)(x10:List Int)(x12:List (List Int))
def sa:Bool:=bif x5==(0:Int)then bif x6==(0:Int)then true else false else false
def sb:Bool:=bif x7==(0:Int)then bif x8==(0:Int)then bif x9==false then true else false else false else false
def lI:Bool:=bif x3==(0:Int)then bif bif LF x10 x4 then sa x5 x6 else false then sb x7 x8 x9 else false else bif x3==(1:Int)then bif bif LF x10 x4 then rsB (bI (bif LF x10 x4&&true then Option.getD x12[Int.toNat (0:Int)]? (AK (CTy.sl (2:Nat) asg))else [])) x5 x6 else false then sb x7 x8 x9 else false else bif x3==(2:Int)then bif bif x4==(0:Int)then sa x5 x6 else false then agT x7 x8 else false else false
def lJ:Bool:=allT [!x3==(0:Int)||leN x10.length (9223372036854775807:Nat),x3==(0:Int)||(!x3==(1:Int)||leN x10.length (9223372036854775807:Nat)),x3==(0:Int)||(!x3==(1:Int)||(!(LF x10 x4&&true)||leI (0:Int) (0:Int))),x3==(0:Int)||(!x3==(1:Int)||(!(LF x10 x4&&true)||ltI (0:Int) (↑x12.length:Int))),x3==(0:Int)||(!x3==(1:Int)||(!(LF x10 x4&&true)||ltN (Int.toNat (0:Int)) x12.length))]
end
def sx:List SV→List Entry→Option Out
 | [(.one ⟨true,[(.val (.int .i64 _x0)),(.ref 0),(.ref 1),(.ref 2),(.ref 3),(.val (.int .i64 _x1)),(.ref 4),(.ref 5),(.val (.int .i64 _x2))]⟩),(.one ⟨true,[(.val (.int .i64 x3)),(.val (.int .i64 x4)),(.val (.int .i64 x5)),(.val (.int .i64 x6)),(.val (.int .i64 x7)),(.val (.int .i64 x8)),(.val (.bool x9))]⟩)],[(.row false 2 (.int .i64) x10),(.row false 169 (.pair (.int .i64) (.pair (.int .i64) (.int .i64))) x11),(.row false 24 (.sl 2 (.int .i64)) x12),(.row false 100 (.pair (.int .i64) (.pair (.int .i64) (.int .i64))) x13),(.row false 173 (.pair (.int .i64) (.int .i64)) x14),(.row false 176 (.pair (.int .i64) (.int .i64)) x15)]=>some ⟨(.one ⟨false,[(.val (.bool (lI x3 x4 x5 x6 x7 x8 x9 x10 x12)))]⟩),[(.row false 2 asg x10),(.row false 169 ase x11),(.row false 24 (CTy.sl (2:Nat) asg) x12),(.row false 100 ase x13),(.row false 173 asf x14),(.row false 176 asf x15)],[],[(lJ x3 x4 x10 x12)]⟩
 |_,_=>none
def lL:PF Tryz.prog:=PF.ofG Tryz.prog [cC,PF.lend cC,PF.fz cC,PH,ZK,aK,PF.lend aK,PF.fz aK] [] aS 99 Tryz.f99 Tryz.func99 (fun c _=>LOk.nil c) sx (by
 intro vs es r h;unfold sx at h;split at h
 ·cases h;kernel_rfl
 ·cases h)
def wW(x0 x1 x2 x3 x4 x5:Int)(x6:Bool)(x10:List Int)(x12:List (List Int)):Bool:= !lI x0 x1 x2 x3 x4 x5 x6 x10 x12
def Fe(x0 x1:Int)(x10:List Int)(x12:List (List Int)):Bool:=allT [lJ x0 x1 x10 x12]
def Mz:List SV→List Entry→Option Out
 | [(.one ⟨true,[(.val (.int .i64 x0)),(.val (.int .i64 x1)),(.val (.int .i64 x2)),(.val (.int .i64 x3)),(.val (.int .i64 x4)),(.val (.int .i64 x5)),(.val (.bool x6))]⟩),(.one ⟨false,[(.ptr 0 0)]⟩)],[(.box 33 [(.val (.int .i64 x7)),(.ref 1),(.ref 2),(.ref 3),(.ref 4),(.val (.int .i64 x8)),(.ref 5),(.ref 6),(.val (.int .i64 x9))]),(.row false 2 (.int .i64) x10),(.row false 169 (.pair (.int .i64) (.pair (.int .i64) (.int .i64))) x11),(.row false 24 (.sl 2 (.int .i64)) x12),(.row false 100 (.pair (.int .i64) (.pair (.int .i64) (.int .i64))) x13),(.row false 173 (.pair (.int .i64) (.int .i64)) x14),(.row false 176 (.pair (.int .i64) (.int .i64)) x15)]=>some ⟨(.one ⟨false,[(.val (.bool (wW x0 x1 x2 x3 x4 x5 x6 x10 x12)))]⟩),[(.box 33 [(.val (.int .i64 x7)),(.ref 1),(.ref 2),(.ref 3),(.ref 4),(.val (.int .i64 x8)),(.ref 5),(.ref 6),(.val (.int .i64 x9))]),(.row false 2 asg x10),(.row false 169 ase x11),(.row false 24 (CTy.sl (2:Nat) asg) x12),(.row false 100 ase x13),(.row false 173 asf x14),(.row false 176 asf x15)],[],[(Fe x0 x1 x10 x12)]⟩
 |_,_=>none
def np:PF Tryz.prog:=PF.ofG Tryz.prog [lL,PF.lend lL,PF.fz lL] [] aS 145 Tryz.f145 Tryz.func145 (fun c _=>LOk.nil c) Mz (by
 intro vs es r h;unfold Mz at h;split at h
 ·cases h;kernel_rfl
 ·cases h)
abbrev bf:=Int×Int×Int×Int×Int×List (Int×(Int×((Int×Int)×(Int×(Int×Bool)))))×List Int×List (Int×(Int×Int))×List (List Int)×List (Int×(Int×Int))×List (Int×Int)×List (Int×Int)
def cT(y0:Int)(y5:List (Int×(Int×((Int×Int)×(Int×(Int×Bool)))))):Int×Int×(Int×Int)×Int×Int×Bool:=Option.getD y5[Int.toNat y0]? ((0:Int),(0:Int),((0:Int),(0:Int)),(0:Int),(0:Int),false)
def cU(y0:Int)(y5:List (Int×(Int×((Int×Int)×(Int×(Int×Bool)))))):Int:=(cT y0 y5).1
def cV(y0:Int)(y5:List (Int×(Int×((Int×Int)×(Int×(Int×Bool)))))):Int×(Int×Int)×Int×Int×Bool:=(cT y0 y5).2
def cW(y0:Int)(y5:List (Int×(Int×((Int×Int)×(Int×(Int×Bool)))))):Int:=(cV y0 y5).1
def bH(y0:Int)(y5:List (Int×(Int×((Int×Int)×(Int×(Int×Bool)))))):(Int×Int)×Int×Int×Bool:=(cV y0 y5).2
def cX(y0:Int)(y5:List (Int×(Int×((Int×Int)×(Int×(Int×Bool)))))):Int×Bool:=(bH y0 y5).2.2
def fu(y0 y1:Int):Bool:=ltI y0 y1
def fv(y0:Int):Bool:=leI (0:Int) y0
def fw(y0:Int)(y5:List (Int×(Int×((Int×Int)×(Int×(Int×Bool)))))):Bool:=ltI y0 (↑y5.length:Int)
def fy(y0:Int)(y5:List (Int×(Int×((Int×Int)×(Int×(Int×Bool)))))):Bool:=ltN y0.toNat y5.length
def fA(y0:Int)(y5:List (Int×(Int×((Int×Int)×(Int×(Int×Bool))))))(y6:List Int)(y8:List (List Int)):Bool:=Fe (cU y0 y5) (cW y0 y5) y6 y8
def fB(y0:Int)(y5:List (Int×(Int×((Int×Int)×(Int×(Int×Bool))))))(y6:List Int)(y8:List (List Int)):Bool:=wW (cU y0 y5) (cW y0 y5) ((bH y0 y5).1.1) ((bH y0 y5).1.2) (((bH y0 y5).2).1) ((cX y0 y5).1) ((cX y0 y5).2) y6 y8
def fC(y0:Int):Int:=IntKind.wrap .i64 (y0 + (1:Int))
def Hv:bf→List (Nat×SV)
 |(y0,y1,_,_,_,_,_,_,_,_,_,_)=> [(8,(.one ⟨false,[(.val (.int .i64 y0))]⟩)),(7,(.one ⟨false,[(.val (.int .i64 y1))]⟩)),(1,(.one ⟨false,[(.clo 145 [0])]⟩)),(0,(.one ⟨false,[(.ref 1)]⟩))]
def Hu:bf→List (Nat×Entry)
 |(_,_,y2,y3,y4,y5,y6,y7,y8,y9,y10,y11)=> [(0,(.box 33 [(.val (.int .i64 y2)),(.ref 2),(.ref 3),(.ref 4),(.ref 5),(.val (.int .i64 y3)),(.ref 6),(.ref 7),(.val (.int .i64 y4))])),(1,(.row false 49 asd y5)),(2,(.row false 2 asg y6)),(3,(.row false 169 ase y7)),(4,(.row false 24 (CTy.sl (2:Nat) asg) y8)),(5,(.row false 100 ase y9)),(6,(.row false 173 asf y10)),(7,(.row false 176 asf y11))]
def Hx:Nat→bf→List (Nat×SV)
 |0,(y0,_,_,_,_,_,_,_,_,_,_,_)=> [(4,(.one ⟨false,[(.val (.int .i64 y0))]⟩))]
 |_,(_,_,_,_,_,_,_,_,_,_,_,_)=> []
def Hw:Nat→bf→List (Nat×Entry)
 |0,(_,_,y2,y3,y4,y5,y6,y7,y8,y9,y10,y11)=> [(0,(.box 33 [(.val (.int .i64 y2)),(.ref 2),(.ref 3),(.ref 4),(.ref 5),(.val (.int .i64 y3)),(.ref 6),(.ref 7),(.val (.int .i64 y4))])),(1,(.row false 49 asd y5)),(2,(.row false 2 asg y6)),(3,(.row false 169 ase y7)),(4,(.row false 24 (CTy.sl (2:Nat) asg) y8)),(5,(.row false 100 ase y9)),(6,(.row false 173 asf y10)),(7,(.row false 176 asf y11))]
 |_,(_,_,y2,y3,y4,y5,y6,y7,y8,y9,y10,y11)=> [(0,(.box 33 [(.val (.int .i64 y2)),(.ref 2),(.ref 3),(.ref 4),(.ref 5),(.val (.int .i64 y3)),(.ref 6),(.ref 7),(.val (.int .i64 y4))])),(1,(.row false 49 asd y5)),(2,(.row false 2 asg y6)),(3,(.row false 169 ase y7)),(4,(.row false 24 (CTy.sl (2:Nat) asg) y8)),(5,(.row false 100 ase y9)),(6,(.row false 173 asf y10)),(7,(.row false 176 asf y11))]
def eL:bf→LT bf
 |(y0,y1,y2,y3,y4,y5,y6,y7,y8,y9,y10,y11)=> .ite (fu y0 y1) (.need [(fv y0),(fw y0 y5),(fy y0 y5),(fA y0 y5 y6 y8)] (.ite (fB y0 y5 y6 y8) (.ext 0 [(0,0),(1,1),(2,2),(3,3),(4,4),(5,5),(6,6),(7,7)]) (.nrm ((fC y0),y1,y2,y3,y4,y5,y6,y7,y8,y9,y10,y11) [(0,0),(1,1),(2,2),(3,3),(4,4),(5,5),(6,6),(7,7)]))) (.ext 1 [(0,0),(1,1),(2,2),(3,3),(4,4),(5,5),(6,6),(7,7)])
def mA(s:St):Option bf:=
 (match s.look 8 with
 |some ⟨none,(.one ⟨false,[(.val (.int .i64 y0))]⟩)⟩=>
 (match s.look 7 with
 |some ⟨none,(.one ⟨false,[(.val (.int .i64 y1))]⟩)⟩=>
 (match s.look 1 with
 |some ⟨none,(.one ⟨false,[(.clo 145 [1])]⟩)⟩=>
 (match s.look 0 with
 |some ⟨none,(.one ⟨false,[(.ref 0)]⟩)⟩=>
 (match s.ent 1 with
 |some (.box 33 [(.val (.int .i64 y2)),(.ref 2),(.ref 3),(.ref 4),(.ref 5),(.val (.int .i64 y3)),(.ref 6),(.ref 7),(.val (.int .i64 y4))])=>
 (match s.ent 0 with
 |some (.row false 49 (.pair (.int .i64) (.pair (.int .i64) (.pair (.pair (.int .i64) (.int .i64)) (.pair (.int .i64) (.pair (.int .i64) .bool))))) y5)=>
 (match s.ent 2 with
 |some (.row false 2 (.int .i64) y6)=>
 (match s.ent 3 with
 |some (.row false 169 (.pair (.int .i64) (.pair (.int .i64) (.int .i64))) y7)=>
 (match s.ent 4 with
 |some (.row false 24 (.sl 2 (.int .i64)) y8)=>
 (match s.ent 5 with
 |some (.row false 100 (.pair (.int .i64) (.pair (.int .i64) (.int .i64))) y9)=>
 (match s.ent 6 with
 |some (.row false 173 (.pair (.int .i64) (.int .i64)) y10)=>
 (match s.ent 7 with
 |some (.row false 176 (.pair (.int .i64) (.int .i64)) y11)=>
 some (y0,y1,y2,y3,y4,y5,y6,y7,y8,y9,y10,y11)
 |_=>none)
 |_=>none)
 |_=>none)
 |_=>none)
 |_=>none)
 |_=>none)
 |_=>none)
 |_=>none)
 |_=>none)
 |_=>none)
 |_=>none)
 |_=>none)
def ax:Lp bf where
 h:=⟨[9,10,5,11,12,13,14,15,16,17,4,18,8],[0,1,2,3,4,5,6,7],[],[]⟩
 JL:=Hv
 JE:=Hu
 XL:=Hx
 XE:=Hw
 q:=fun j=>match j with | 0=> .ret | _=> .exit 0
 tags:= [0,1]
 lt:=eL
 fuel:=fun(y0,y1,y2,y3,y4,y5,y6,y7,y8,y9,y10,y11)=>y0.natAbs + y1.natAbs + y2.natAbs + y3.natAbs + y4.natAbs + y5.length + y6.length + y7.length + y8.length + y9.length + y10.length + y11.length
 fix:=fun(_,y1,y2,y3,y4,y5,y6,y7,y8,y9,y10,y11) (y0,_,_,_,_,_,_,_,_,_,_,_)=>(y0,y1,y2,y3,y4,y5,y6,y7,y8,y9,y10,y11)
 σ:= [(0,1),(1,0),(2,2),(3,3),(4,4),(5,5),(6,6),(7,7)]
 rd:=mA
theorem Gf:LoopOk Tryz.prog (fun k=>Nat.blt k Tryz.f200.ntmps) ax.F (aT Tryz.f200 0):=by
 refine Lp.ok (tbl:= [np,PF.lend np,PF.fz np]) (lf:= []) aS ax (by kernel_rfl) (LOk.nil _) (fun _=>rfl) (fun j _=>by unfold ax;match j with | 0=>rfl | _ + 1=>rfl) ?_ ?_ ?_ ?_ (fun _=>rfl) ?_
 ·rintro⟨y0,y1,y2,y3,y4,y5,y6,y7,y8,y9,y10,y11⟩;kernel_rfl
 ·rintro⟨y0,y1,y2,y3,y4,y5,y6,y7,y8,y9,y10,y11⟩;kernel_rfl
 ·intro s x h
  have h:mA s=some x:=h
  unfold mA at h
  repeat' split at h
  all_goals cases h
  exact⟨aa (by assumption) rfl (aa (by assumption) rfl (aa (by assumption) rfl (aa (by assumption) rfl (rfl)))),ab rfl (by assumption) rfl (ab rfl (by assumption) rfl (ab rfl (by assumption) rfl (ab rfl (by assumption) rfl (ab rfl (by assumption) rfl (ab rfl (by assumption) rfl (ab rfl (by assumption) rfl (ab rfl (by assumption) rfl (rfl))))))))⟩
 ·rintro⟨y0,y1,y2,y3,y4,y5,y6,y7,y8,y9,y10,y11⟩;kernel_rfl
 ·rintro⟨y0,y1,y2,y3,y4,y5,y6,y7,y8,y9,y10,y11⟩ z;exact(And.intro (And.intro trivial rfl) trivial)
section
variable (x0:List (Int×Int×(Int×Int)×Int×Int×Bool))(x1 x2 x3:Int)(x4:List Int)(x5:List (Int×Int×Int))(x6:List (List Int))(x7:List (Int×Int×Int))(x8 x9:List (Int×Int))
def gr:Int×Int×Int×Int×Int×List (Int×Int×(Int×Int)×Int×Int×Bool)×List Int×List (Int×Int×Int)×List (List Int)×List (Int×Int×Int)×List (Int×Int)×List (Int×Int):=((0:Int),(↑x0.length:Int),x1,x2,x3,x0,x4,x5,x6,x7,x8,x9)
def gt:Bool:=Nat.beq ((Lp.res ax (gr x0 x1 x2 x3 x4 x5 x6 x7 x8 x9)).1) (0:Nat)
def pP:Int:=bif gt x0 x1 x2 x3 x4 x5 x6 x7 x8 x9 then ((Lp.res ax (gr x0 x1 x2 x3 x4 x5 x6 x7 x8 x9)).2).1else(-1:Int)
def yE:Int:=bif gt x0 x1 x2 x3 x4 x5 x6 x7 x8 x9 then x1 else x1
def yF:Int:=bif gt x0 x1 x2 x3 x4 x5 x6 x7 x8 x9 then x2 else x2
def yG:Int:=bif gt x0 x1 x2 x3 x4 x5 x6 x7 x8 x9 then x3 else x3
def pQ:Bool:=allT [Lp.fin ax (gr x0 x1 x2 x3 x4 x5 x6 x7 x8 x9)]
end
def xA:List SV→List Entry→Option Out
 | [(.one ⟨false,[(.ref 0)]⟩),(.one ⟨false,[(.clo 145 [1])]⟩)],[(.row false 49 (.pair (.int .i64) (.pair (.int .i64) (.pair (.pair (.int .i64) (.int .i64)) (.pair (.int .i64) (.pair (.int .i64) .bool))))) x0),(.box 33 [(.val (.int .i64 x1)),(.ref 2),(.ref 3),(.ref 4),(.ref 5),(.val (.int .i64 x2)),(.ref 6),(.ref 7),(.val (.int .i64 x3))]),(.row false 2 (.int .i64) x4),(.row false 169 (.pair (.int .i64) (.pair (.int .i64) (.int .i64))) x5),(.row false 24 (.sl 2 (.int .i64)) x6),(.row false 100 (.pair (.int .i64) (.pair (.int .i64) (.int .i64))) x7),(.row false 173 (.pair (.int .i64) (.int .i64)) x8),(.row false 176 (.pair (.int .i64) (.int .i64)) x9)]=>some ⟨(.one ⟨false,[(.val (.int .i64 (pP x0 x1 x2 x3 x4 x5 x6 x7 x8 x9)))]⟩),[(.row false 49 asd x0),(.box 33 [(.val (.int .i64 (yE x0 x1 x2 x3 x4 x5 x6 x7 x8 x9))),(.ref 2),(.ref 3),(.ref 4),(.ref 5),(.val (.int .i64 (yF x0 x1 x2 x3 x4 x5 x6 x7 x8 x9))),(.ref 6),(.ref 7),(.val (.int .i64 (yG x0 x1 x2 x3 x4 x5 x6 x7 x8 x9)))]),(.row false 2 asg x4),(.row false 169 ase x5),(.row false 24 (CTy.sl (2:Nat) asg) x6),(.row false 100 ase x7),(.row false 173 asf x8),(.row false 176 asf x9)],[],[(pQ x0 x1 x2 x3 x4 x5 x6 x7 x8 x9)]⟩
 |_,_=>none
def pM:PF Tryz.prog:=PF.ofG Tryz.prog [np,PF.lend np,PF.fz np] [ax.F] aS 200 Tryz.f200 Tryz.func200 (LOk.fnT (l:= [aT Tryz.f200 0]) (by kernel_rfl) (.cons Gf (.nil _))) xA (by
 intro vs es r h;unfold xA at h;split at h
 ·cases h;kernel_rfl
 ·cases h)
section
variable (x0:List (Int×Int×(Int×Int)×Int×Int×Bool))(x1 x2 x3:Int)(x4:List Int)(x5:List (Int×Int×Int))(x6:List (List Int))(x7:List (Int×Int×Int))(x8 x9:List (Int×Int))
def jb:Bool:=leI (0:Int) (pP x0 x1 x2 x3 x4 x5 x6 x7 x8 x9)
def Iz:Int:=yE x0 x1 x2 x3 x4 x5 x6 x7 x8 x9
def IA:Int:=yF x0 x1 x2 x3 x4 x5 x6 x7 x8 x9
def IB:Int:=yG x0 x1 x2 x3 x4 x5 x6 x7 x8 x9
def na:Bool:=allT [pQ x0 x1 x2 x3 x4 x5 x6 x7 x8 x9]
end
def vi:List SV→List Entry→Option Out
 | [(.one ⟨false,[(.ref 0)]⟩),(.one ⟨false,[(.clo 145 [1])]⟩)],[(.row false 49 (.pair (.int .i64) (.pair (.int .i64) (.pair (.pair (.int .i64) (.int .i64)) (.pair (.int .i64) (.pair (.int .i64) .bool))))) x0),(.box 33 [(.val (.int .i64 x1)),(.ref 2),(.ref 3),(.ref 4),(.ref 5),(.val (.int .i64 x2)),(.ref 6),(.ref 7),(.val (.int .i64 x3))]),(.row false 2 (.int .i64) x4),(.row false 169 (.pair (.int .i64) (.pair (.int .i64) (.int .i64))) x5),(.row false 24 (.sl 2 (.int .i64)) x6),(.row false 100 (.pair (.int .i64) (.pair (.int .i64) (.int .i64))) x7),(.row false 173 (.pair (.int .i64) (.int .i64)) x8),(.row false 176 (.pair (.int .i64) (.int .i64)) x9)]=>some ⟨(.one ⟨false,[(.val (.bool (jb x0 x1 x2 x3 x4 x5 x6 x7 x8 x9)))]⟩),[(.row false 49 asd x0),(.box 33 [(.val (.int .i64 (Iz x0 x1 x2 x3 x4 x5 x6 x7 x8 x9))),(.ref 2),(.ref 3),(.ref 4),(.ref 5),(.val (.int .i64 (IA x0 x1 x2 x3 x4 x5 x6 x7 x8 x9))),(.ref 6),(.ref 7),(.val (.int .i64 (IB x0 x1 x2 x3 x4 x5 x6 x7 x8 x9)))]),(.row false 2 asg x4),(.row false 169 ase x5),(.row false 24 (CTy.sl (2:Nat) asg) x6),(.row false 100 ase x7),(.row false 173 asf x8),(.row false 176 asf x9)],[],[(na x0 x1 x2 x3 x4 x5 x6 x7 x8 x9)]⟩
 |_,_=>none
def mX:PF Tryz.prog:=PF.ofG Tryz.prog [pM,PF.lend pM,PF.fz pM] [] aS 144 Tryz.f144 Tryz.func144 (fun c _=>LOk.nil c) vi (by
 intro vs es r h;unfold vi at h;split at h
 ·cases h;kernel_rfl
 ·cases h)
section
variable (x0 x1 x2:Int)(x3:List Int)(x4:List (Int×Int×Int))(x5:List (List Int))(x6:List (Int×Int×Int))(x7 x8:List (Int×Int))(x9:List (Int×Int×(Int×Int)×Int×Int×Bool))
def PB:Bool:=ltI (200:Int) (↑x9.length:Int)
def wm:Int:=bif !nX x0 x3 x4 x5 x6 x1 x7 x8 x2 then(1:Int)else bif PB x9 then(3:Int)else bif jb x9 x0 x1 x2 x3 x4 x5 x6 x7 x8 then(2:Int)else(0:Int)
def Br:Bool:=allT [zC (9223372036854775807:Nat) x3 x4 x5 x6 x7 x8,!nX x0 x3 x4 x5 x6 x1 x7 x8 x2||(PB x9||na x9 x0 x1 x2 x3 x4 x5 x6 x7 x8)]
end
def YJ:List SV→List Entry→Option Out
 | [.one ⟨true,[.val (.int .i64 x0),.ref 0,.ref 1,.ref 2,.ref 3,.val (.int .i64 x1),.ref 4,.ref 5,.val (.int .i64 x2)]⟩,.one ⟨false,[.ref 6]⟩],[.row false 2 (.int .i64) x3,.row false 169 (.pair (.int .i64) (.pair (.int .i64) (.int .i64))) x4,.row false 24 (.sl 2 (.int .i64)) x5,.row false 100 (.pair (.int .i64) (.pair (.int .i64) (.int .i64))) x6,.row false 173 (.pair (.int .i64) (.int .i64)) x7,.row false 176 (.pair (.int .i64) (.int .i64)) x8,.row false 49 (.pair (.int .i64) (.pair (.int .i64) (.pair (.pair (.int .i64) (.int .i64)) (.pair (.int .i64) (.pair (.int .i64) (.bool)))))) x9]=>some ⟨(.one ⟨false,[(.val (.int .i64 (wm x0 x1 x2 x3 x4 x5 x6 x7 x8 x9)))]⟩),[(.row false 2 asg x3),(.row false 169 ase x4),(.row false 24 (CTy.sl (2:TypeId) asg) x5),(.row false 100 ase x6),(.row false 173 asf x7),(.row false 176 asf x8),(.row false 49 asd x9)],[],[(Br x0 x1 x2 x3 x4 x5 x6 x7 x8 x9)]⟩
 |_,_=>none
def Bz:PF Tryz.prog:=PF.ofG Tryz.prog [IX,PF.lend IX,PF.fz IX,mX,PF.lend mX,PF.fz mX] [] aS 54 Tryz.f54 Tryz.func54 (fun c _=>LOk.nil c) YJ (by
 intro vs es r h;unfold YJ at h;split at h
 ·cases h;kernel_rfl
 ·cases h)
abbrev bg:=Int×Int×List (List Int)×Int×Int×Int×List Int×List (Int×(Int×Int))×List (List Int)×List (Int×(Int×Int))×List (Int×Int)×List (Int×Int)
section
variable (y0 y1:Int)(y2 y8:List (List Int))
def bt:List Int:=Option.getD y2[Int.toNat y0]? (AK (CTy.sl (2:Nat) asg))
def fM:Bool:=ltI y0 y1
def fN:Bool:=leI (0:Int) y0
def fO:Bool:=ltI y0 (↑y2.length:Int)
def fP:Bool:=ltN y0.toNat y2.length
def fQ:Bool:=leN (1:Nat) (List.length (bt y0 y2))&&leN (List.length (bt y0 y2)) (1048576:Nat)
def fR:Bool:=leN (List.length y8 + List.length [bt y0 y2]) (9223372036854775807:Nat)
def fS:Bool:=leN ((List.length y8 + List.length [bt y0 y2]) * (24:Nat)) (140737488355328:Nat)
def fT:Int:=IntKind.wrap .i64 (y0 + (1:Int))
def fU:List (List Int):=y8++ [bt y0 y2]
end
def Io:bg→List (Nat×SV)
 |(y0,y1,_,_,_,_,_,_,_,_,_,_)=> [(31,(.one ⟨false,[(.val (.int .i64 y0))]⟩)),(30,(.one ⟨false,[(.val (.int .i64 y1))]⟩)),(29,(.one ⟨false,[(.ref 0)]⟩)),(3,(.one ⟨false,[(.ptr 1 0)]⟩))]
def Im:bg→List (Nat×Entry)
 |(_,_,y2,y3,y4,y5,y6,y7,y8,y9,y10,y11)=> [(0,(.row false 24 (CTy.sl (2:Nat) asg) y2)),(1,(.box 33 [(.val (.int .i64 y3)),(.ref 2),(.ref 3),(.ref 4),(.ref 5),(.val (.int .i64 y4)),(.ref 6),(.ref 7),(.val (.int .i64 y5))])),(2,(.row true 2 asg y6)),(3,(.row true 169 ase y7)),(5,(.row true 100 ase y9)),(6,(.row true 173 asf y10)),(7,(.row true 176 asf y11)),(4,(.tree 24 (CTy.sl (2:Nat) asg) y8 none))]
def Iq:Nat→bg→List (Nat×SV)
 |_,(_,_,_,_,_,_,_,_,_,_,_,_)=> []
def Ip:Nat→bg→List (Nat×Entry)
 |_,(_,_,y2,y3,y4,y5,y6,y7,y8,y9,y10,y11)=> [(0,(.row false 24 (CTy.sl (2:Nat) asg) y2)),(1,(.box 33 [(.val (.int .i64 y3)),(.ref 2),(.ref 3),(.ref 4),(.ref 5),(.val (.int .i64 y4)),(.ref 6),(.ref 7),(.val (.int .i64 y5))])),(2,(.row true 2 asg y6)),(3,(.row true 169 ase y7)),(4,(.tree 24 (CTy.sl (2:Nat) asg) y8 none)),(5,(.row true 100 ase y9)),(6,(.row true 173 asf y10)),(7,(.row true 176 asf y11))]
def ft:bg→LT bg
 |(y0,y1,y2,y3,y4,y5,y6,y7,y8,y9,y10,y11)=> .ite (fM y0 y1) (.need [(fN y0),(fO y0 y2),(fP y0 y2)] (.need [(fQ y0 y2),(fR y0 y2 y8),(fS y0 y2 y8)] (.nrm ((fT y0),y1,y2,y3,y4,y5,y6,y7,(fU y0 y2 y8),y9,y10,y11) [(0,0),(1,1),(2,2),(3,3),(4,640),(5,5),(6,6),(7,7)]))) (.ext 0 [(0,0),(1,1),(2,2),(3,3),(4,4),(5,5),(6,6),(7,7)])
def m9(s:St):Option bg:=
 (match s.look 31 with
 |some ⟨none,(.one ⟨false,[(.val (.int .i64 y0))]⟩)⟩=>
 (match s.look 30 with
 |some ⟨none,(.one ⟨false,[(.val (.int .i64 y1))]⟩)⟩=>
 (match s.look 29 with
 |some ⟨none,(.one ⟨false,[(.ref 2)]⟩)⟩=>
 (match s.look 3 with
 |some ⟨none,(.one ⟨false,[(.ptr 640 0)]⟩)⟩=>
 (match s.ent 2 with
 |some (.row false 24 (.sl 2 (.int .i64)) y2)=>
 (match s.ent 640 with
 |some (.box 33 [(.val (.int .i64 y3)),(.ref 896),(.ref 1216),(.ref 2432),(.ref 1408),(.val (.int .i64 y4)),(.ref 1856),(.ref 2048),(.val (.int .i64 y5))])=>
 (match s.ent 896 with
 |some (.row true 2 (.int .i64) y6)=>
 (match s.ent 1216 with
 |some (.row true 169 (.pair (.int .i64) (.pair (.int .i64) (.int .i64))) y7)=>
 (match s.ent 1408 with
 |some (.row true 100 (.pair (.int .i64) (.pair (.int .i64) (.int .i64))) y9)=>
 (match s.ent 1856 with
 |some (.row true 173 (.pair (.int .i64) (.int .i64)) y10)=>
 (match s.ent 2048 with
 |some (.row true 176 (.pair (.int .i64) (.int .i64)) y11)=>
 (match s.ent 2432 with
 |some (.tree 24 (.sl 2 (.int .i64)) y8 none)=>
 some (y0,y1,y2,y3,y4,y5,y6,y7,y8,y9,y10,y11)
 |_=>none)
 |_=>none)
 |_=>none)
 |_=>none)
 |_=>none)
 |_=>none)
 |_=>none)
 |_=>none)
 |_=>none)
 |_=>none)
 |_=>none)
 |_=>none)
def aJ:Lp bg where
 h:=⟨[32,33,34,5,35,36,37,38,39,40,41,42,31],[0,1,2,3,5,6,7],[4],[]⟩
 JL:=Io
 JE:=Im
 XL:=Iq
 XE:=Ip
 q:=fun j=>match j with | _=> .exit 0
 tags:= [0]
 lt:=ft
 fuel:=fun(y0,y1,y2,y3,y4,y5,y6,y7,y8,y9,y10,y11)=>y0.natAbs + y1.natAbs + y2.length + y3.natAbs + y4.natAbs + y5.natAbs + y6.length + y7.length + y8.length + y9.length + y10.length + y11.length
 fix:=fun(_,y1,y2,y3,y4,y5,y6,y7,_,y9,y10,y11) (y0,_,_,_,_,_,_,_,y8,_,_,_)=>(y0,y1,y2,y3,y4,y5,y6,y7,y8,y9,y10,y11)
 σ:= [(0,2),(1,640),(2,896),(3,1216),(5,1408),(6,1856),(7,2048),(4,2432)]
 rd:=m9
theorem Hn:LoopOk Tryz.prog (fun k=>Nat.blt k Tryz.f55.ntmps) aJ.F (aT Tryz.f55 0):=by
 refine Lp.ok (tbl:= [PF.trees Tryz.prog,bw,PF.lend bw,PF.fz bw,iE,PF.lend iE,PF.fz iE,jB,PF.lend jB,PF.fz jB,nk,PF.lend nk,PF.fz nk,nj,PF.lend nj,PF.fz nj,ay,PF.lend ay,PF.fz ay]) (lf:= []) aS aJ (by kernel_rfl) (LOk.nil _) (fun _=>rfl) (fun _ _=>rfl) ?_ ?_ ?_ ?_ (fun _=>rfl) ?_
 ·rintro⟨y0,y1,y2,y3,y4,y5,y6,y7,y8,y9,y10,y11⟩;kernel_rfl
 ·rintro⟨y0,y1,y2,y3,y4,y5,y6,y7,y8,y9,y10,y11⟩;kernel_rfl
 ·intro s x h
  have h:m9 s=some x:=h
  unfold m9 at h
  repeat' split at h
  all_goals cases h
  exact⟨aa (by assumption) rfl (aa (by assumption) rfl (aa (by assumption) rfl (aa (by assumption) rfl (rfl)))),ab rfl (by assumption) rfl (ab rfl (by assumption) rfl (ab rfl (by assumption) rfl (ab rfl (by assumption) rfl (ab rfl (by assumption) rfl (ab rfl (by assumption) rfl (ab rfl (by assumption) rfl (ab rfl (by assumption) rfl (rfl))))))))⟩
 ·rintro⟨y0,y1,y2,y3,y4,y5,y6,y7,y8,y9,y10,y11⟩;kernel_rfl
 ·rintro⟨y0,y1,y2,y3,y4,y5,y6,y7,y8,y9,y10,y11⟩ z;exact(And.intro rfl trivial)
section
variable (x0 x1 x2:Int)(x3:List Int)(x4:List (Int×Int×Int))(x5:List (List Int))(x6:List (Int×Int×Int))(x7 x8:List (Int×Int))
def jU:Int×Int×List (List Int)×Int×Int×Int×List Int×List (Int×Int×Int)×List (List Int)×List (Int×Int×Int)×List (Int×Int)×List (Int×Int):=((0:Int),(↑x5.length:Int),x5,x0,x1,x2,x3,x4,[],x6,x7,x8)
def kO:List (List Int):=((Lp.res aJ (jU x0 x1 x2 x3 x4 x5 x6 x7 x8)).2.2.2.2.2.2.2.2.2).1
def kP:Bool:=allT [fW x3,leN x4.length (1048576:Nat),leN x6.length (1048576:Nat),leN x7.length (1048576:Nat),leN x8.length (1048576:Nat),Lp.fin aJ (jU x0 x1 x2 x3 x4 x5 x6 x7 x8)]
end
def zr:List SV→List Entry→Option Out
 | [.one ⟨true,[.val (.int .i64 x0),.ref 0,.ref 1,.ref 2,.ref 3,.val (.int .i64 x1),.ref 4,.ref 5,.val (.int .i64 x2)]⟩],[.row false 2 (.int .i64) x3,.row false 169 (.pair (.int .i64) (.pair (.int .i64) (.int .i64))) x4,.row false 24 (.sl 2 (.int .i64)) x5,.row false 100 (.pair (.int .i64) (.pair (.int .i64) (.int .i64))) x6,.row false 173 (.pair (.int .i64) (.int .i64)) x7,.row false 176 (.pair (.int .i64) (.int .i64)) x8]=>some ⟨(.one ⟨true,[(.val (.int .i64 x0)),(.ref 6),(.ref 7),(.ref 8),(.ref 9),(.val (.int .i64 x1)),(.ref 10),(.ref 11),(.val (.int .i64 x2))]⟩),[(.row false 2 asg x3),(.row false 169 ase x4),(.row false 24 (CTy.sl (2:TypeId) asg) x5),(.row false 100 ase x6),(.row false 173 asf x7),(.row false 176 asf x8)],[(.row true 2 asg x3),(.row true 169 ase x4),(.tree 24 (CTy.sl (2:Nat) asg) (kO x0 x1 x2 x3 x4 x5 x6 x7 x8) none),(.row true 100 ase x6),(.row true 173 asf x7),(.row true 176 asf x8)],[(kP x0 x1 x2 x3 x4 x5 x6 x7 x8)]⟩
 |_,_=>none
def ez:PF Tryz.prog:=PF.ofG Tryz.prog [PF.trees Tryz.prog,bw,PF.lend bw,PF.fz bw,iE,PF.lend iE,PF.fz iE,jB,PF.lend jB,PF.fz jB,nk,PF.lend nk,PF.fz nk,nj,PF.lend nj,PF.fz nj,ay,PF.lend ay,PF.fz ay] [aJ.F] aS 55 Tryz.f55 Tryz.func55 (LOk.fnT (l:= [aT Tryz.f55 0]) (by kernel_rfl) (.cons Hn (.nil _))) zr (by
 intro vs es r h;unfold zr at h;split at h
 ·cases h;kernel_rfl
 ·cases h)
def ak(x3:Int)(x4:List Int):Bool:=Int.tmod (Option.getD x4[Int.toNat x3]? (0:Int)) (3:Int)==(1:Int)
def oY(x3:Int)(x4:List Int):Bool:=allT [leI (0:Int) x3,ltI x3 (↑x4.length:Int),ltN x3.toNat x4.length]
def wJ:List SV→List Entry→Option Out
 | [.one ⟨true,[.val (.int .i64 _x0),.ref 0,.ref 1,.ref 2,.ref 3,.val (.int .i64 _x1),.ref 4,.ref 5,.val (.int .i64 _x2)]⟩,.one ⟨false,[.val (.int .i64 x3)]⟩],[.row false 2 (.int .i64) x4,.row false 169 (.pair (.int .i64) (.pair (.int .i64) (.int .i64))) x5,.row false 24 (.sl 2 (.int .i64)) x6,.row false 100 (.pair (.int .i64) (.pair (.int .i64) (.int .i64))) x7,.row false 173 (.pair (.int .i64) (.int .i64)) x8,.row false 176 (.pair (.int .i64) (.int .i64)) x9]=>some ⟨(.one ⟨false,[(.val (.bool (ak x3 x4)))]⟩),[(.row false 2 asg x4),(.row false 169 ase x5),(.row false 24 (CTy.sl (2:TypeId) asg) x6),(.row false 100 ase x7),(.row false 173 asf x8),(.row false 176 asf x9)],[],[(oY x3 x4)]⟩
 |_,_=>none
def pe:PF Tryz.prog:=PF.ofG Tryz.prog [] [] aS 201 Tryz.f201 Tryz.func201 (fun c _=>LOk.nil c) wJ (by
 intro vs es r h;unfold wJ at h;split at h
 ·cases h;kernel_rfl
 ·cases h)
section
variable (x0 x1 x2 x3:Int)(x4:List Int)(x5:List (Int×Int×Int))(x6:List (List Int))(x7:List (Int×Int×Int))(x8 x9:List (Int×Int))
def aB:Bool:= !adD x1 x4 (DD x1 x4 x5 (0:Int)) (DD x1 x4 x5 (1:Int)) x0
def g9:List Int:=bif ac x1 x0 x4&&true then Option.getD x6[Int.toNat x0]? (AK (CTy.sl (2:TypeId) asg))else []
def aW:Bool:=bif ac x1 x0 x4 then !Qg (g9 x0 x1 x4 x6) x7 else false
def qr:List (Int×Int×Int):=bif ac x1 x0 x4&&true then x7 else x7
def ln:Int:=bif !ak x0 x4 then(0:Int)else bif x2 !=(3:Int)then(1:Int)else bif aB x0 x1 x4 x5 then(2:Int)else bif aW x0 x1 x4 x6 x7 then(3:Int)else(0:Int)
def qI:Int:=bif !ak x0 x4 then x1 else bif x2 !=(3:Int)then x1 else bif aB x0 x1 x4 x5 then x1 else bif aW x0 x1 x4 x6 x7 then x1 else x1
def qJ:Int:=bif !ak x0 x4 then x2 else bif x2 !=(3:Int)then x2 else bif aB x0 x1 x4 x5 then x2 else bif aW x0 x1 x4 x6 x7 then x2 else x2
def qK:Int:=bif !ak x0 x4 then x3 else bif x2 !=(3:Int)then x3 else bif aB x0 x1 x4 x5 then x3 else bif aW x0 x1 x4 x6 x7 then x3 else x3
def qL:List Int:=bif !ak x0 x4 then ah7 x1 x4 x0 else bif x2 !=(3:Int)then x4 else bif aB x0 x1 x4 x5 then x4 else bif aW x0 x1 x4 x6 x7 then x4 else ah7 x1 x4 x0
def qM:List (Int×(Int×Int)):=bif !ak x0 x4 then x5 else bif x2 !=(3:Int)then x5 else bif aB x0 x1 x4 x5 then x5 else bif aW x0 x1 x4 x6 x7 then x5 else x5
def qN:List (Int×(Int×Int)):=bif !ak x0 x4 then x7 else bif x2 !=(3:Int)then x7 else bif aB x0 x1 x4 x5 then x7 else bif aW x0 x1 x4 x6 x7 then qr x0 x1 x4 x7 else qr x0 x1 x4 x7
def qO:List (Int×Int):=bif !ak x0 x4 then x8 else bif x2 !=(3:Int)then x8 else bif aB x0 x1 x4 x5 then x8 else bif aW x0 x1 x4 x6 x7 then x8 else x8
def qP:List (Int×Int):=bif !ak x0 x4 then x9 else bif x2 !=(3:Int)then x9 else bif aB x0 x1 x4 x5 then x9 else bif aW x0 x1 x4 x6 x7 then x9 else x9
def lq:Bool:=allT [oY x0 x4,!ak x0 x4||(x2 !=(3:Int)||isT x1 x4&&ahZ x1 x5),!ak x0 x4||(x2 !=(3:Int)||Yu x1 x4 (DD x1 x4 x5 (0:Int)) (DD x1 x4 x5 (1:Int)) x0),!ak x0 x4||(x2 !=(3:Int)||(aB x0 x1 x4 x5||bT x0 x4)),!ak x0 x4||(x2 !=(3:Int)||(aB x0 x1 x4 x5||(!(ac x1 x0 x4&&true)||leI (0:Int) x0))),!ak x0 x4||(x2 !=(3:Int)||(aB x0 x1 x4 x5||(!(ac x1 x0 x4&&true)||ltI x0 (↑x6.length:Int)))),!ak x0 x4||(x2 !=(3:Int)||(aB x0 x1 x4 x5||(!(ac x1 x0 x4&&true)||ltN x0.toNat x6.length))),!ak x0 x4||(x2 !=(3:Int)||(aB x0 x1 x4 x5||(!(ac x1 x0 x4&&true)||ab4 (g9 x0 x1 x4 x6) x7))),!!ak x0 x4||ZJ x1 x4 x0,!ak x0 x4||(x2 !=(3:Int)||(aB x0 x1 x4 x5||(aW x0 x1 x4 x6 x7||ZJ x1 x4 x0)))]
end
def Ab:List SV→List Entry→Option Out
 | [.one ⟨false,[.ptr 0 0]⟩,.one ⟨false,[.val (.int .i64 x0)]⟩],[.box 33 [.val (.int .i64 x1),.ref 1,.ref 2,.ref 3,.ref 4,.val (.int .i64 x2),.ref 5,.ref 6,.val (.int .i64 x3)],.row true 2 (.int .i64) x4,.row true 169 (.pair (.int .i64) (.pair (.int .i64) (.int .i64))) x5,.row false 24 (.sl 2 (.int .i64)) x6,.row true 100 (.pair (.int .i64) (.pair (.int .i64) (.int .i64))) x7,.row true 173 (.pair (.int .i64) (.int .i64)) x8,.row true 176 (.pair (.int .i64) (.int .i64)) x9]=>some ⟨(.one ⟨false,[(.val (.int .i64 (ln x0 x1 x2 x4 x5 x6 x7)))]⟩),[(.box 33 [(.val (.int .i64 (qI x0 x1 x2 x4 x5 x6 x7))),(.ref 7),(.ref 8),(.ref 3),(.ref 9),(.val (.int .i64 (qJ x0 x1 x2 x4 x5 x6 x7))),(.ref 10),(.ref 11),(.val (.int .i64 (qK x0 x1 x2 x3 x4 x5 x6 x7)))]),.gone,.gone,(.row false 24 (CTy.sl (2:TypeId) asg) x6),.gone,.gone,.gone],[(.row true 2 asg (qL x0 x1 x2 x4 x5 x6 x7)),(.row true 169 ase (qM x0 x1 x2 x4 x5 x6 x7)),(.row true 100 ase (qN x0 x1 x2 x4 x5 x6 x7)),(.row true 173 asf (qO x0 x1 x2 x4 x5 x6 x7 x8)),(.row true 176 asf (qP x0 x1 x2 x4 x5 x6 x7 x9))],[(lq x0 x1 x2 x4 x5 x6 x7)]⟩
 |_,_=>none
def Au:PF Tryz.prog:=PF.ofGK Tryz.prog [Gj,PF.lend Gj,PF.fz Gj,pe,PF.lend pe,PF.fz pe,TK,PF.lend TK,PF.fz TK,mV,PF.lend mV,PF.fz mV,nW,PF.lend nW,PF.fz nW,cD,PF.lend cD,PF.fz cD] [] aS 152 Tryz.f152 Tryz.func152 (fun c _=>LOk.nil c) Ab (by
 intro vs es r h;unfold Ab at h;split at h
 ·cases h;kernel_rfl
 ·cases h)
section
variable (x0 x1 x2 x3 x4 x5:Int)(x6:List Int)(x7:List (Int×Int×Int))(x8:List (List Int))(x9:List (Int×Int×Int))(x10 x11:List (Int×Int))
def aC:List Int:=Option.getD x8[Int.toNat x0]? (AK (CTy.sl (2:TypeId) asg))
def mT:List (List Int):=List.set x8 x0.toNat (bif kM (aC x0 x8) x1 x2 then QY (aC x0 x8) x1 x2 else aC x0 x8)
def nL:Int:=bif !ac x3 x0 x6 then(4:Int)else bif !kM (aC x0 x8) x1 x2 then(5:Int)else(0:Int)
def nM:Int:=bif !ac x3 x0 x6 then x3 else bif !kM (aC x0 x8) x1 x2 then x3 else x3
def nN:Int:=bif !ac x3 x0 x6 then x4 else bif !kM (aC x0 x8) x1 x2 then x4 else x4
def nO:Int:=bif !ac x3 x0 x6 then x5 else bif !kM (aC x0 x8) x1 x2 then x5 else x5
def nP:List Int:=bif !ac x3 x0 x6 then x6 else bif !kM (aC x0 x8) x1 x2 then x6 else x6
def nQ:List (Int×(Int×Int)):=bif !ac x3 x0 x6 then x7 else bif !kM (aC x0 x8) x1 x2 then x7 else x7
def nR:List (List Int):=bif !ac x3 x0 x6 then x8 else bif !kM (aC x0 x8) x1 x2 then mT x0 x1 x2 x8 else mT x0 x1 x2 x8
def nT:List (Int×(Int×Int)):=bif !ac x3 x0 x6 then x9 else bif !kM (aC x0 x8) x1 x2 then x9 else x9
def nU:List (Int×Int):=bif !ac x3 x0 x6 then x10 else bif !kM (aC x0 x8) x1 x2 then x10 else x10
def nV:List (Int×Int):=bif !ac x3 x0 x6 then x11 else bif !kM (aC x0 x8) x1 x2 then x11 else x11
def mS:Bool:=allT [bT x0 x6,!ac x3 x0 x6||leI (0:Int) x0,!ac x3 x0 x6||ltI x0 (↑x8.length:Int),!ac x3 x0 x6||ltN x0.toNat x8.length,!ac x3 x0 x6||ahv (aC x0 x8) x1 x2]
end
def vz:List SV→List Entry→Option Out
 | [.one ⟨false,[.ptr 0 0]⟩,.one ⟨false,[.val (.int .i64 x0)]⟩,.one ⟨true,[.val (.int .i64 x1),.val (.int .i64 x2)]⟩],[.box 33 [.val (.int .i64 x3),.ref 1,.ref 2,.ref 3,.ref 4,.val (.int .i64 x4),.ref 5,.ref 6,.val (.int .i64 x5)],.row true 2 (.int .i64) x6,.row true 169 (.pair (.int .i64) (.pair (.int .i64) (.int .i64))) x7,.tree 24 (.sl 2 (.int .i64)) x8 none,.row true 100 (.pair (.int .i64) (.pair (.int .i64) (.int .i64))) x9,.row true 173 (.pair (.int .i64) (.int .i64)) x10,.row true 176 (.pair (.int .i64) (.int .i64)) x11]=>some ⟨(.one ⟨false,[(.val (.int .i64 (nL x0 x1 x2 x3 x6 x8)))]⟩),[(.box 33 [(.val (.int .i64 (nM x0 x1 x2 x3 x6 x8))),(.ref 1),(.ref 2),(.ref 3),(.ref 4),(.val (.int .i64 (nN x0 x1 x2 x3 x4 x6 x8))),(.ref 5),(.ref 6),(.val (.int .i64 (nO x0 x1 x2 x3 x5 x6 x8)))]),(.row true 2 asg (nP x0 x1 x2 x3 x6 x8)),(.row true 169 ase (nQ x0 x1 x2 x3 x6 x7 x8)),(.tree 24 (CTy.sl (2:TypeId) asg) (nR x0 x1 x2 x3 x6 x8) none),(.row true 100 ase (nT x0 x1 x2 x3 x6 x8 x9)),(.row true 173 asf (nU x0 x1 x2 x3 x6 x8 x10)),(.row true 176 asf (nV x0 x1 x2 x3 x6 x8 x11))],[],[(mS x0 x1 x2 x3 x6 x8)]⟩
 |_,_=>none
def nY:PF Tryz.prog:=PF.ofG Tryz.prog [PF.trees Tryz.prog,Jk,PF.lend Jk,PF.fz Jk,cD,PF.lend cD,PF.fz cD] [] aS 153 Tryz.f153 Tryz.func153 (fun c _=>LOk.nil c) vz (by
 intro vs es r h;unfold vz at h;split at h
 ·cases h;kernel_rfl
 ·cases h)
section
variable (x0 x1:Int)(x2:Bool)(x3 x4 x5:Int)(x6:List Int)(x7:List (Int×Int×Int))(x8:List (List Int))(x9:List (Int×Int×Int))(x10 x11:List (Int×Int))
def aQ:Bool:=vdC x4 x0 x1 x2 !=(0:Int)
def aV:Bool:=bif x0==(1:Int)then !ahb x10 x11 x5 else false
def dr:Bool:=x0==(1:Int)&&true
def oO:Int:=bif aQ x0 x1 x2 x4 then(6:Int)else bif aV x0 x5 x10 x11 then(7:Int)else(0:Int)
def oP:Int:=bif aQ x0 x1 x2 x4 then x3 else bif aV x0 x5 x10 x11 then x3 else x3
def oQ:Int:=bif aQ x0 x1 x2 x4 then x4 else bif aV x0 x5 x10 x11 then x4 else nxC x4 x0 x1 x2
def oR:Int:=bif aQ x0 x1 x2 x4 then x5 else bif aV x0 x5 x10 x11 then x5 else x5
def oS:List Int:=bif aQ x0 x1 x2 x4 then x6 else bif aV x0 x5 x10 x11 then x6 else x6
def oT:List (Int×(Int×Int)):=bif aQ x0 x1 x2 x4 then x7 else bif aV x0 x5 x10 x11 then x7 else x7
def oU:List (List Int):=bif aQ x0 x1 x2 x4 then x8 else bif aV x0 x5 x10 x11 then x8 else x8
def oV:List (Int×(Int×Int)):=bif aQ x0 x1 x2 x4 then x9 else bif aV x0 x5 x10 x11 then x9 else x9
def oW:List (Int×Int):=bif aQ x0 x1 x2 x4 then x10 else bif aV x0 x5 x10 x11 then bif dr x0 then x10 else x10 else bif dr x0 then x10 else x10
def oX:List (Int×Int):=bif aQ x0 x1 x2 x4 then x11 else bif aV x0 x5 x10 x11 then bif dr x0 then x11 else x11 else bif dr x0 then x11 else x11
def nK:Bool:=allT [ab6 x4 x0,aQ x0 x1 x2 x4||(!dr x0||leN x10.length (9223372036854775807:Nat)&&leN x11.length (9223372036854775807:Nat)),aQ x0 x1 x2 x4||(aV x0 x5 x10 x11||ab6 x4 x0)]
end
def wI:List SV→List Entry→Option Out
 | [.one ⟨false,[.ptr 0 0]⟩,.one ⟨true,[.val (.int .i64 x0),.val (.int .i64 x1),.val (.bool x2)]⟩],[.box 33 [.val (.int .i64 x3),.ref 1,.ref 2,.ref 3,.ref 4,.val (.int .i64 x4),.ref 5,.ref 6,.val (.int .i64 x5)],.row true 2 (.int .i64) x6,.row true 169 (.pair (.int .i64) (.pair (.int .i64) (.int .i64))) x7,.tree 24 (.sl 2 (.int .i64)) x8 none,.row true 100 (.pair (.int .i64) (.pair (.int .i64) (.int .i64))) x9,.row true 173 (.pair (.int .i64) (.int .i64)) x10,.row true 176 (.pair (.int .i64) (.int .i64)) x11]=>some ⟨(.one ⟨false,[(.val (.int .i64 (oO x0 x1 x2 x4 x5 x10 x11)))]⟩),[(.box 33 [(.val (.int .i64 (oP x0 x1 x2 x3 x4 x5 x10 x11))),(.ref 1),(.ref 2),(.ref 3),(.ref 4),(.val (.int .i64 (oQ x0 x1 x2 x4 x5 x10 x11))),(.ref 5),(.ref 6),(.val (.int .i64 (oR x0 x1 x2 x4 x5 x10 x11)))]),(.row true 2 asg (oS x0 x1 x2 x4 x5 x6 x10 x11)),(.row true 169 ase (oT x0 x1 x2 x4 x5 x7 x10 x11)),(.tree 24 (CTy.sl (2:TypeId) asg) (oU x0 x1 x2 x4 x5 x8 x10 x11) none),(.row true 100 ase (oV x0 x1 x2 x4 x5 x9 x10 x11)),(.row true 173 asf (oW x0 x1 x2 x4 x5 x10 x11)),(.row true 176 asf (oX x0 x1 x2 x4 x5 x10 x11))],[],[(nK x0 x1 x2 x4 x5 x10 x11)]⟩
 |_,_=>none
def pd:PF Tryz.prog:=PF.ofG Tryz.prog [PF.trees Tryz.prog,HN,PG,PF.lend PG,PF.fz PG,Kk] [] aS 154 Tryz.f154 Tryz.func154 (fun c _=>LOk.nil c) wI (by
 intro vs es r h;unfold wI at h;split at h
 ·cases h;kernel_rfl
 ·cases h)
section
variable (x0 x1 x2 x3 x4 x5:Int)(x6:Bool)(x7 x8 x9:Int)(x10:List Int)(x11:List (Int×Int×Int))(x12:List (List Int))(x13:List (Int×Int×Int))(x14 x15:List (Int×Int))
def da:Int:=bif x0==(0:Int)then ln x1 x7 x8 x10 x11 x12 x13 else bif x0==(1:Int)then nL x1 x2 x3 x7 x10 x12 else oO x4 x5 x6 x8 x9 x14 x15
def db:Int:=bif x0==(0:Int)then qI x1 x7 x8 x10 x11 x12 x13 else bif x0==(1:Int)then nM x1 x2 x3 x7 x10 x12 else oP x4 x5 x6 x7 x8 x9 x14 x15
def dc:Int:=bif x0==(0:Int)then qJ x1 x7 x8 x10 x11 x12 x13 else bif x0==(1:Int)then nN x1 x2 x3 x7 x8 x10 x12 else oQ x4 x5 x6 x8 x9 x14 x15
def dd:Int:=bif x0==(0:Int)then qK x1 x7 x8 x9 x10 x11 x12 x13 else bif x0==(1:Int)then nO x1 x2 x3 x7 x9 x10 x12 else oR x4 x5 x6 x8 x9 x14 x15
def de:List Int:=bif x0==(0:Int)then qL x1 x7 x8 x10 x11 x12 x13 else bif x0==(1:Int)then nP x1 x2 x3 x7 x10 x12 else oS x4 x5 x6 x8 x9 x10 x14 x15
def df:List (Int×(Int×Int)):=bif x0==(0:Int)then qM x1 x7 x8 x10 x11 x12 x13 else bif x0==(1:Int)then nQ x1 x2 x3 x7 x10 x11 x12 else oT x4 x5 x6 x8 x9 x11 x14 x15
def dg:List (List Int):=bif x0==(0:Int)then x12 else bif x0==(1:Int)then nR x1 x2 x3 x7 x10 x12 else oU x4 x5 x6 x8 x9 x12 x14 x15
def dh:List (Int×(Int×Int)):=bif x0==(0:Int)then qN x1 x7 x8 x10 x11 x12 x13 else bif x0==(1:Int)then nT x1 x2 x3 x7 x10 x12 x13 else oV x4 x5 x6 x8 x9 x13 x14 x15
def di:List (Int×Int):=bif x0==(0:Int)then qO x1 x7 x8 x10 x11 x12 x13 x14 else bif x0==(1:Int)then nU x1 x2 x3 x7 x10 x12 x14 else oW x4 x5 x6 x8 x9 x14 x15
def dj:List (Int×Int):=bif x0==(0:Int)then qP x1 x7 x8 x10 x11 x12 x13 x15 else bif x0==(1:Int)then nV x1 x2 x3 x7 x10 x12 x15 else oX x4 x5 x6 x8 x9 x14 x15
def ey:Bool:=allT [!x0==(0:Int)||lq x1 x7 x8 x10 x11 x12 x13,x0==(0:Int)||(!x0==(1:Int)||mS x1 x2 x3 x7 x10 x12),x0==(0:Int)||(x0==(1:Int)||nK x4 x5 x6 x8 x9 x14 x15)]
end
def Ac:List SV→List Entry→Option Out
 | [.one ⟨false,[.ptr 0 0]⟩,.one ⟨true,[.val (.int .i64 x0),.val (.int .i64 x1),.val (.int .i64 x2),.val (.int .i64 x3),.val (.int .i64 x4),.val (.int .i64 x5),.val (.bool x6)]⟩],[.box 33 [.val (.int .i64 x7),.ref 1,.ref 2,.ref 3,.ref 4,.val (.int .i64 x8),.ref 5,.ref 6,.val (.int .i64 x9)],.row true 2 (.int .i64) x10,.row true 169 (.pair (.int .i64) (.pair (.int .i64) (.int .i64))) x11,.tree 24 (.sl 2 (.int .i64)) x12 none,.row true 100 (.pair (.int .i64) (.pair (.int .i64) (.int .i64))) x13,.row true 173 (.pair (.int .i64) (.int .i64)) x14,.row true 176 (.pair (.int .i64) (.int .i64)) x15]=>some ⟨(.one ⟨false,[(.val (.int .i64 (da x0 x1 x2 x3 x4 x5 x6 x7 x8 x9 x10 x11 x12 x13 x14 x15)))]⟩),[(.box 33 [(.val (.int .i64 (db x0 x1 x2 x3 x4 x5 x6 x7 x8 x9 x10 x11 x12 x13 x14 x15))),(.ref 7),(.ref 8),(.ref 9),(.ref 10),(.val (.int .i64 (dc x0 x1 x2 x3 x4 x5 x6 x7 x8 x9 x10 x11 x12 x13 x14 x15))),(.ref 11),(.ref 12),(.val (.int .i64 (dd x0 x1 x2 x3 x4 x5 x6 x7 x8 x9 x10 x11 x12 x13 x14 x15)))]),.gone,.gone,.gone,.gone,.gone,.gone],[(.row true 2 asg (de x0 x1 x2 x3 x4 x5 x6 x7 x8 x9 x10 x11 x12 x13 x14 x15)),(.row true 169 ase (df x0 x1 x2 x3 x4 x5 x6 x7 x8 x9 x10 x11 x12 x13 x14 x15)),(.tree 24 (CTy.sl (2:TypeId) asg) (dg x0 x1 x2 x3 x4 x5 x6 x7 x8 x9 x10 x12 x14 x15) none),(.row true 100 ase (dh x0 x1 x2 x3 x4 x5 x6 x7 x8 x9 x10 x11 x12 x13 x14 x15)),(.row true 173 asf (di x0 x1 x2 x3 x4 x5 x6 x7 x8 x9 x10 x11 x12 x13 x14 x15)),(.row true 176 asf (dj x0 x1 x2 x3 x4 x5 x6 x7 x8 x9 x10 x11 x12 x13 x14 x15))],[(ey x0 x1 x2 x3 x4 x5 x6 x7 x8 x9 x10 x11 x12 x13 x14 x15)]⟩
 |_,_=>none
def fg:PF Tryz.prog:=PF.ofG Tryz.prog [PF.trees Tryz.prog,Au,PF.lendT Au,nY,PF.lend nY,PF.fz nY,pd,PF.lend pd,PF.fz pd] [] aS 56 Tryz.f56 Tryz.func56 (fun c _=>LOk.nil c) Ac (by
 intro vs es r h;unfold Ac at h;split at h
 ·cases h;kernel_rfl
 ·cases h)
abbrev lW:=Int×Int×List (Int×(Int×((Int×Int)×(Int×(Int×Bool)))))×List Int×Int×Int×Int×List Int×List (Int×(Int×Int))×List (List Int)×List (Int×(Int×Int))×List (Int×Int)×List (Int×Int)
def wh(y0:Int)(y2:List (Int×(Int×((Int×Int)×(Int×(Int×Bool)))))):Int×Int×(Int×Int)×Int×Int×Bool:=Option.getD y2[Int.toNat y0]? ((0:Int),(0:Int),((0:Int),(0:Int)),(0:Int),(0:Int),false)
def dK(y0:Int)(y2:List (Int×(Int×((Int×Int)×(Int×(Int×Bool)))))):Int:=(wh y0 y2).1
def wi(y0:Int)(y2:List (Int×(Int×((Int×Int)×(Int×(Int×Bool)))))):Int×(Int×Int)×Int×Int×Bool:=(wh y0 y2).2
def dL(y0:Int)(y2:List (Int×(Int×((Int×Int)×(Int×(Int×Bool)))))):Int:=(wi y0 y2).1
def pG(y0:Int)(y2:List (Int×(Int×((Int×Int)×(Int×(Int×Bool)))))):(Int×Int)×Int×Int×Bool:=(wi y0 y2).2
def dM(y0:Int)(y2:List (Int×(Int×((Int×Int)×(Int×(Int×Bool)))))):Int:=(pG y0 y2).1.1
def dN(y0:Int)(y2:List (Int×(Int×((Int×Int)×(Int×(Int×Bool)))))):Int:=(pG y0 y2).1.2
def dO(y0:Int)(y2:List (Int×(Int×((Int×Int)×(Int×(Int×Bool)))))):Int:=((pG y0 y2).2).1
def be(y0:Int)(y2:List (Int×(Int×((Int×Int)×(Int×(Int×Bool)))))):Int×Bool:=(pG y0 y2).2.2
def se(y0:Int)(y2:List (Int×(Int×((Int×Int)×(Int×(Int×Bool))))))(y4 y5 y6:Int)(y7:List Int)(y8:List (Int×(Int×Int)))(y9:List (List Int))(y10:List (Int×(Int×Int)))(y11 y12:List (Int×Int)):List Int:= [da (dK y0 y2) (dL y0 y2) (dM y0 y2) (dN y0 y2) (dO y0 y2) ((be y0 y2).1) ((be y0 y2).2) y4 y5 y6 y7 y8 y9 y10 y11 y12]
def DX(y0 y1:Int):Bool:=ltI y0 y1
def DY(y0:Int):Bool:=leI (0:Int) y0
def DZ(y0:Int)(y2:List (Int×(Int×((Int×Int)×(Int×(Int×Bool)))))):Bool:=ltI y0 (↑y2.length:Int)
def Ea(y0:Int)(y2:List (Int×(Int×((Int×Int)×(Int×(Int×Bool)))))):Bool:=ltN y0.toNat y2.length
def Eb(y0:Int)(y2:List (Int×(Int×((Int×Int)×(Int×(Int×Bool))))))(y4 y5 y6:Int)(y7:List Int)(y8:List (Int×(Int×Int)))(y9:List (List Int))(y10:List (Int×(Int×Int)))(y11 y12:List (Int×Int)):Bool:=ey (dK y0 y2) (dL y0 y2) (dM y0 y2) (dN y0 y2) (dO y0 y2) ((be y0 y2).1) ((be y0 y2).2) y4 y5 y6 y7 y8 y9 y10 y11 y12
def Ec(y0:Int)(y2:List (Int×(Int×((Int×Int)×(Int×(Int×Bool))))))(y3:List Int)(y4 y5 y6:Int)(y7:List Int)(y8:List (Int×(Int×Int)))(y9:List (List Int))(y10:List (Int×(Int×Int)))(y11 y12:List (Int×Int)):Bool:=leN (List.length y3 + List.length (se y0 y2 y4 y5 y6 y7 y8 y9 y10 y11 y12)) (9223372036854775807:Nat)
def Ed(y0:Int)(y2:List (Int×(Int×((Int×Int)×(Int×(Int×Bool))))))(y3:List Int)(y4 y5 y6:Int)(y7:List Int)(y8:List (Int×(Int×Int)))(y9:List (List Int))(y10:List (Int×(Int×Int)))(y11 y12:List (Int×Int)):Bool:=leN ((List.length y3 + List.length (se y0 y2 y4 y5 y6 y7 y8 y9 y10 y11 y12)) * (8:Nat)) (140737488355328:Nat)
def Ee(y0:Int):Int:=IntKind.wrap .i64 (y0 + (1:Int))
def Ef(y0:Int)(y2:List (Int×(Int×((Int×Int)×(Int×(Int×Bool))))))(y3:List Int)(y4 y5 y6:Int)(y7:List Int)(y8:List (Int×(Int×Int)))(y9:List (List Int))(y10:List (Int×(Int×Int)))(y11 y12:List (Int×Int)):List Int:=y3++se y0 y2 y4 y5 y6 y7 y8 y9 y10 y11 y12
def Eg(y0:Int)(y2:List (Int×(Int×((Int×Int)×(Int×(Int×Bool))))))(y4 y5 y6:Int)(y7:List Int)(y8:List (Int×(Int×Int)))(y9:List (List Int))(y10:List (Int×(Int×Int)))(y11 y12:List (Int×Int)):Int:=db (dK y0 y2) (dL y0 y2) (dM y0 y2) (dN y0 y2) (dO y0 y2) ((be y0 y2).1) ((be y0 y2).2) y4 y5 y6 y7 y8 y9 y10 y11 y12
def BV(y0:Int)(y2:List (Int×(Int×((Int×Int)×(Int×(Int×Bool))))))(y4 y5 y6:Int)(y7:List Int)(y8:List (Int×(Int×Int)))(y9:List (List Int))(y10:List (Int×(Int×Int)))(y11 y12:List (Int×Int)):Int:=dc (dK y0 y2) (dL y0 y2) (dM y0 y2) (dN y0 y2) (dO y0 y2) ((be y0 y2).1) ((be y0 y2).2) y4 y5 y6 y7 y8 y9 y10 y11 y12
def BW(y0:Int)(y2:List (Int×(Int×((Int×Int)×(Int×(Int×Bool))))))(y4 y5 y6:Int)(y7:List Int)(y8:List (Int×(Int×Int)))(y9:List (List Int))(y10:List (Int×(Int×Int)))(y11 y12:List (Int×Int)):Int:=dd (dK y0 y2) (dL y0 y2) (dM y0 y2) (dN y0 y2) (dO y0 y2) ((be y0 y2).1) ((be y0 y2).2) y4 y5 y6 y7 y8 y9 y10 y11 y12
def BX(y0:Int)(y2:List (Int×(Int×((Int×Int)×(Int×(Int×Bool))))))(y4 y5 y6:Int)(y7:List Int)(y8:List (Int×(Int×Int)))(y9:List (List Int))(y10:List (Int×(Int×Int)))(y11 y12:List (Int×Int)):List Int:=de (dK y0 y2) (dL y0 y2) (dM y0 y2) (dN y0 y2) (dO y0 y2) ((be y0 y2).1) ((be y0 y2).2) y4 y5 y6 y7 y8 y9 y10 y11 y12
def BZ(y0:Int)(y2:List (Int×(Int×((Int×Int)×(Int×(Int×Bool))))))(y4 y5 y6:Int)(y7:List Int)(y8:List (Int×(Int×Int)))(y9:List (List Int))(y10:List (Int×(Int×Int)))(y11 y12:List (Int×Int)):List (Int×(Int×Int)):=df (dK y0 y2) (dL y0 y2) (dM y0 y2) (dN y0 y2) (dO y0 y2) ((be y0 y2).1) ((be y0 y2).2) y4 y5 y6 y7 y8 y9 y10 y11 y12
def Ca(y0:Int)(y2:List (Int×(Int×((Int×Int)×(Int×(Int×Bool))))))(y4 y5 y6:Int)(y7:List Int)(y9:List (List Int))(y11 y12:List (Int×Int)):List (List Int):=dg (dK y0 y2) (dL y0 y2) (dM y0 y2) (dN y0 y2) (dO y0 y2) ((be y0 y2).1) ((be y0 y2).2) y4 y5 y6 y7 y9 y11 y12
def Cb(y0:Int)(y2:List (Int×(Int×((Int×Int)×(Int×(Int×Bool))))))(y4 y5 y6:Int)(y7:List Int)(y8:List (Int×(Int×Int)))(y9:List (List Int))(y10:List (Int×(Int×Int)))(y11 y12:List (Int×Int)):List (Int×(Int×Int)):=dh (dK y0 y2) (dL y0 y2) (dM y0 y2) (dN y0 y2) (dO y0 y2) ((be y0 y2).1) ((be y0 y2).2) y4 y5 y6 y7 y8 y9 y10 y11 y12
def Cc(y0:Int)(y2:List (Int×(Int×((Int×Int)×(Int×(Int×Bool))))))(y4 y5 y6:Int)(y7:List Int)(y8:List (Int×(Int×Int)))(y9:List (List Int))(y10:List (Int×(Int×Int)))(y11 y12:List (Int×Int)):List (Int×Int):=di (dK y0 y2) (dL y0 y2) (dM y0 y2) (dN y0 y2) (dO y0 y2) ((be y0 y2).1) ((be y0 y2).2) y4 y5 y6 y7 y8 y9 y10 y11 y12
def Cd(y0:Int)(y2:List (Int×(Int×((Int×Int)×(Int×(Int×Bool))))))(y4 y5 y6:Int)(y7:List Int)(y8:List (Int×(Int×Int)))(y9:List (List Int))(y10:List (Int×(Int×Int)))(y11 y12:List (Int×Int)):List (Int×Int):=dj (dK y0 y2) (dL y0 y2) (dM y0 y2) (dN y0 y2) (dO y0 y2) ((be y0 y2).1) ((be y0 y2).2) y4 y5 y6 y7 y8 y9 y10 y11 y12
def afl:lW→List (Nat×SV)
 |(y0,y1,_,_,_,_,_,_,_,_,_,_,_)=> [(23,(.one ⟨false,[(.val (.int .i64 y0))]⟩)),(22,(.one ⟨false,[(.val (.int .i64 y1))]⟩)),(21,(.one ⟨false,[(.ref 0)]⟩)),(9,(.one ⟨false,[(.ref 1)]⟩)),(8,(.one ⟨false,[(.ptr 2 0)]⟩))]
def afd:lW→List (Nat×Entry)
 |(_,_,y2,y3,y4,y5,y6,y7,y8,y9,y10,y11,y12)=> [(0,(.row false 49 asd y2)),(2,(.box 33 [(.val (.int .i64 y4)),(.ref 3),(.ref 4),(.ref 5),(.ref 6),(.val (.int .i64 y5)),(.ref 7),(.ref 8),(.val (.int .i64 y6))])),(1,(.row true 2 asg y3)),(3,(.row true 2 asg y7)),(4,(.row true 169 ase y8)),(5,(.tree 24 (CTy.sl (2:Nat) asg) y9 none)),(6,(.row true 100 ase y10)),(7,(.row true 173 asf y11)),(8,(.row true 176 asf y12))]
def afB:Nat→lW→List (Nat×SV)
 |_,(_,_,_,_,_,_,_,_,_,_,_,_,_)=> [(9,(.one ⟨false,[(.ref 1)]⟩))]
def aft:Nat→lW→List (Nat×Entry)
 |_,(_,_,y2,y3,y4,y5,y6,y7,y8,y9,y10,y11,y12)=> [(0,(.row false 49 asd y2)),(1,(.row true 2 asg y3)),(2,(.box 33 [(.val (.int .i64 y4)),(.ref 3),(.ref 4),(.ref 5),(.ref 6),(.val (.int .i64 y5)),(.ref 7),(.ref 8),(.val (.int .i64 y6))])),(3,(.row true 2 asg y7)),(4,(.row true 169 ase y8)),(5,(.tree 24 (CTy.sl (2:Nat) asg) y9 none)),(6,(.row true 100 ase y10)),(7,(.row true 173 asf y11)),(8,(.row true 176 asf y12))]
def CN:lW→LT lW
 |(y0,y1,y2,y3,y4,y5,y6,y7,y8,y9,y10,y11,y12)=> .ite (DX y0 y1) (.need [(DY y0),(DZ y0 y2),(Ea y0 y2)] (.need [(Eb y0 y2 y4 y5 y6 y7 y8 y9 y10 y11 y12),(Ec y0 y2 y3 y4 y5 y6 y7 y8 y9 y10 y11 y12),(Ed y0 y2 y3 y4 y5 y6 y7 y8 y9 y10 y11 y12)] (.nrm ((Ee y0),y1,y2,(Ef y0 y2 y3 y4 y5 y6 y7 y8 y9 y10 y11 y12),(Eg y0 y2 y4 y5 y6 y7 y8 y9 y10 y11 y12),(BV y0 y2 y4 y5 y6 y7 y8 y9 y10 y11 y12),(BW y0 y2 y4 y5 y6 y7 y8 y9 y10 y11 y12),(BX y0 y2 y4 y5 y6 y7 y8 y9 y10 y11 y12),(BZ y0 y2 y4 y5 y6 y7 y8 y9 y10 y11 y12),(Ca y0 y2 y4 y5 y6 y7 y9 y11 y12),(Cb y0 y2 y4 y5 y6 y7 y8 y9 y10 y11 y12),(Cc y0 y2 y4 y5 y6 y7 y8 y9 y10 y11 y12),(Cd y0 y2 y4 y5 y6 y7 y8 y9 y10 y11 y12)) [(0,0),(1,640),(2,2),(3,512),(4,513),(5,514),(6,515),(7,516),(8,517)]))) (.ext 0 [(0,0),(1,1),(2,2),(3,3),(4,4),(5,5),(6,6),(7,7),(8,8)])
def NX(s:St):Option lW:=
 (match s.look 23 with
 |some ⟨none,(.one ⟨false,[(.val (.int .i64 y0))]⟩)⟩=>
 (match s.look 22 with
 |some ⟨none,(.one ⟨false,[(.val (.int .i64 y1))]⟩)⟩=>
 (match s.look 21 with
 |some ⟨none,(.one ⟨false,[(.ref 6)]⟩)⟩=>
 (match s.look 9 with
 |some ⟨none,(.one ⟨false,[(.ref 1408)]⟩)⟩=>
 (match s.look 8 with
 |some ⟨none,(.one ⟨false,[(.ptr 1280 0)]⟩)⟩=>
 (match s.ent 6 with
 |some (.row false 49 (.pair (.int .i64) (.pair (.int .i64) (.pair (.pair (.int .i64) (.int .i64)) (.pair (.int .i64) (.pair (.int .i64) .bool))))) y2)=>
 (match s.ent 1280 with
 |some (.box 33 [(.val (.int .i64 y4)),(.ref 1216),(.ref 1217),(.ref 1218),(.ref 1219),(.val (.int .i64 y5)),(.ref 1220),(.ref 1221),(.val (.int .i64 y6))])=>
 (match s.ent 1408 with
 |some (.row true 2 (.int .i64) y3)=>
 (match s.ent 1216 with
 |some (.row true 2 (.int .i64) y7)=>
 (match s.ent 1217 with
 |some (.row true 169 (.pair (.int .i64) (.pair (.int .i64) (.int .i64))) y8)=>
 (match s.ent 1218 with
 |some (.tree 24 (.sl 2 (.int .i64)) y9 none)=>
 (match s.ent 1219 with
 |some (.row true 100 (.pair (.int .i64) (.pair (.int .i64) (.int .i64))) y10)=>
 (match s.ent 1220 with
 |some (.row true 173 (.pair (.int .i64) (.int .i64)) y11)=>
 (match s.ent 1221 with
 |some (.row true 176 (.pair (.int .i64) (.int .i64)) y12)=>
 some (y0,y1,y2,y3,y4,y5,y6,y7,y8,y9,y10,y11,y12)
 |_=>none)
 |_=>none)
 |_=>none)
 |_=>none)
 |_=>none)
 |_=>none)
 |_=>none)
 |_=>none)
 |_=>none)
 |_=>none)
 |_=>none)
 |_=>none)
 |_=>none)
 |_=>none)
def dP:Lp lW where
 h:=⟨[24,25,26,11,27,28,29,30,31,9,32,23],[0,2],[1,3,4,5,6,7,8],[]⟩
 JL:=afl
 JE:=afd
 XL:=afB
 XE:=aft
 q:=fun j=>match j with | _=> .exit 0
 tags:= [0]
 lt:=CN
 fuel:=fun(y0,y1,y2,y3,y4,y5,y6,y7,y8,y9,y10,y11,y12)=>y0.natAbs + y1.natAbs + y2.length + y3.length + y4.natAbs + y5.natAbs + y6.natAbs + y7.length + y8.length + y9.length + y10.length + y11.length + y12.length
 fix:=fun(_,y1,y2,_,_,_,_,_,_,_,_,_,_) (y0,_,_,y3,y4,y5,y6,y7,y8,y9,y10,y11,y12)=>(y0,y1,y2,y3,y4,y5,y6,y7,y8,y9,y10,y11,y12)
 σ:= [(0,6),(2,1280),(1,1408),(3,1216),(4,1217),(5,1218),(6,1219),(7,1220),(8,1221)]
 rd:=NX
theorem adf:LoopOk Tryz.prog (fun k=>Nat.blt k Tryz.f12.ntmps) dP.F (aT Tryz.f12 0):=by
 refine Lp.ok (tbl:= [PF.trees Tryz.prog,Bz,PF.lend Bz,PF.fz Bz,ez,PF.lend ez,PF.fz ez,fg,PF.lend fg,PF.fz fg]) (lf:= []) aS dP (by kernel_rfl) (LOk.nil _) (fun _=>rfl) (fun _ _=>rfl) ?_ ?_ ?_ ?_ (fun _=>rfl) ?_
 ·rintro⟨y0,y1,y2,y3,y4,y5,y6,y7,y8,y9,y10,y11,y12⟩;kernel_rfl
 ·rintro⟨y0,y1,y2,y3,y4,y5,y6,y7,y8,y9,y10,y11,y12⟩;kernel_rfl
 ·intro s x h
  have h:NX s=some x:=h
  unfold NX at h
  repeat' split at h
  all_goals cases h
  exact⟨aa (by assumption) rfl (aa (by assumption) rfl (aa (by assumption) rfl (aa (by assumption) rfl (aa (by assumption) rfl (rfl))))),ab rfl (by assumption) rfl (ab rfl (by assumption) rfl (ab rfl (by assumption) rfl (ab rfl (by assumption) rfl (ab rfl (by assumption) rfl (ab rfl (by assumption) rfl (ab rfl (by assumption) rfl (ab rfl (by assumption) rfl (ab rfl (by assumption) rfl (rfl)))))))))⟩
 ·rintro⟨y0,y1,y2,y3,y4,y5,y6,y7,y8,y9,y10,y11,y12⟩;kernel_rfl
 ·rintro⟨y0,y1,y2,y3,y4,y5,y6,y7,y8,y9,y10,y11,y12⟩ z;exact(And.intro rfl trivial)
section
variable (x0 x1 x2:Int)(x3:List Int)(x4:List (Int×Int×Int))(x5:List (List Int))(x6:List (Int×Int×Int))(x7 x8:List (Int×Int))(x9:List (Int×Int×(Int×Int)×Int×Int×Bool))
def iq:Bool:=wm x0 x1 x2 x3 x4 x5 x6 x7 x8 x9 !=(0:Int)
def DM:Int×Int×List (Int×Int×(Int×Int)×Int×Int×Bool)×List Int×Int×Int×Int×List Int×List (Int×Int×Int)×List (List Int)×List (Int×Int×Int)×List (Int×Int)×List (Int×Int):=((0:Int),(↑x9.length:Int),x9,[],x0,x1,x2,x3,x4,kO x0 x1 x2 x3 x4 x5 x6 x7 x8,x6,x7,x8)
def Tx:List Int×Int×Int×Int×List Int×List (Int×Int×Int)×List (List Int)×List (Int×Int×Int)×List (Int×Int)×List (Int×Int):=(Lp.res dP (DM x0 x1 x2 x3 x4 x5 x6 x7 x8 x9)).2.2.2.2
def Ty:Int×Int×Int×List Int×List (Int×Int×Int)×List (List Int)×List (Int×Int×Int)×List (Int×Int)×List (Int×Int):=(Tx x0 x1 x2 x3 x4 x5 x6 x7 x8 x9).2
def Tz:Int×Int×List Int×List (Int×Int×Int)×List (List Int)×List (Int×Int×Int)×List (Int×Int)×List (Int×Int):=(Ty x0 x1 x2 x3 x4 x5 x6 x7 x8 x9).2
def TA:Int×List Int×List (Int×Int×Int)×List (List Int)×List (Int×Int×Int)×List (Int×Int)×List (Int×Int):=(Tz x0 x1 x2 x3 x4 x5 x6 x7 x8 x9).2
def TB:List Int×List (Int×Int×Int)×List (List Int)×List (Int×Int×Int)×List (Int×Int)×List (Int×Int):=(TA x0 x1 x2 x3 x4 x5 x6 x7 x8 x9).2
def TC:List (Int×Int×Int)×List (List Int)×List (Int×Int×Int)×List (Int×Int)×List (Int×Int):=(TB x0 x1 x2 x3 x4 x5 x6 x7 x8 x9).2
def TD:List (List Int)×List (Int×Int×Int)×List (Int×Int)×List (Int×Int):=(TC x0 x1 x2 x3 x4 x5 x6 x7 x8 x9).2
def TE:List (Int×Int×Int)×List (Int×Int)×List (Int×Int):=(TD x0 x1 x2 x3 x4 x5 x6 x7 x8 x9).2
def RZ:List (Int×Int)×List (Int×Int):=(TE x0 x1 x2 x3 x4 x5 x6 x7 x8 x9).2
def KJ:Int:=bif iq x0 x1 x2 x3 x4 x5 x6 x7 x8 x9 then(0:Int)else (Ty x0 x1 x2 x3 x4 x5 x6 x7 x8 x9).1
def KK:Int:=bif iq x0 x1 x2 x3 x4 x5 x6 x7 x8 x9 then(0:Int)else (Tz x0 x1 x2 x3 x4 x5 x6 x7 x8 x9).1
def KL:Int:=bif iq x0 x1 x2 x3 x4 x5 x6 x7 x8 x9 then(0:Int)else (TA x0 x1 x2 x3 x4 x5 x6 x7 x8 x9).1
def KM:Int:=bif iq x0 x1 x2 x3 x4 x5 x6 x7 x8 x9 then wm x0 x1 x2 x3 x4 x5 x6 x7 x8 x9 else(0:Int)
def KN:List Int:=bif iq x0 x1 x2 x3 x4 x5 x6 x7 x8 x9 then []else (TB x0 x1 x2 x3 x4 x5 x6 x7 x8 x9).1
def KO:List (Int×(Int×Int)):=bif iq x0 x1 x2 x3 x4 x5 x6 x7 x8 x9 then []else (TC x0 x1 x2 x3 x4 x5 x6 x7 x8 x9).1
def KP:List (List Int):=bif iq x0 x1 x2 x3 x4 x5 x6 x7 x8 x9 then []else (TD x0 x1 x2 x3 x4 x5 x6 x7 x8 x9).1
def KQ:List (Int×(Int×Int)):=bif iq x0 x1 x2 x3 x4 x5 x6 x7 x8 x9 then []else (TE x0 x1 x2 x3 x4 x5 x6 x7 x8 x9).1
def KR:List (Int×Int):=bif iq x0 x1 x2 x3 x4 x5 x6 x7 x8 x9 then []else (RZ x0 x1 x2 x3 x4 x5 x6 x7 x8 x9).1
def KS:List (Int×Int):=bif iq x0 x1 x2 x3 x4 x5 x6 x7 x8 x9 then []else (RZ x0 x1 x2 x3 x4 x5 x6 x7 x8 x9).2
def Is:List Int:=bif iq x0 x1 x2 x3 x4 x5 x6 x7 x8 x9 then []else (Tx x0 x1 x2 x3 x4 x5 x6 x7 x8 x9).1
def It:Bool:=allT [Br x0 x1 x2 x3 x4 x5 x6 x7 x8 x9,iq x0 x1 x2 x3 x4 x5 x6 x7 x8 x9||kP x0 x1 x2 x3 x4 x5 x6 x7 x8,iq x0 x1 x2 x3 x4 x5 x6 x7 x8 x9||Lp.fin dP (DM x0 x1 x2 x3 x4 x5 x6 x7 x8 x9)]
end
def ab8:List SV→List Entry→Option Out
 | [.one ⟨true,[.val (.int .i64 x0),.ref 0,.ref 1,.ref 2,.ref 3,.val (.int .i64 x1),.ref 4,.ref 5,.val (.int .i64 x2)]⟩,.one ⟨false,[.ref 6]⟩],[.row false 2 (.int .i64) x3,.row false 169 (.pair (.int .i64) (.pair (.int .i64) (.int .i64))) x4,.row false 24 (.sl 2 (.int .i64)) x5,.row false 100 (.pair (.int .i64) (.pair (.int .i64) (.int .i64))) x6,.row false 173 (.pair (.int .i64) (.int .i64)) x7,.row false 176 (.pair (.int .i64) (.int .i64)) x8,.row false 49 (.pair (.int .i64) (.pair (.int .i64) (.pair (.pair (.int .i64) (.int .i64)) (.pair (.int .i64) (.pair (.int .i64) (.bool)))))) x9]=>some ⟨(.tup [⟨true,[(.val (.int .i64 (KJ x0 x1 x2 x3 x4 x5 x6 x7 x8 x9))),(.ref 7),(.ref 8),(.ref 9),(.ref 10),(.val (.int .i64 (KK x0 x1 x2 x3 x4 x5 x6 x7 x8 x9))),(.ref 11),(.ref 12),(.val (.int .i64 (KL x0 x1 x2 x3 x4 x5 x6 x7 x8 x9)))]⟩,⟨false,[(.ref 13)]⟩,⟨false,[(.val (.int .i64 (KM x0 x1 x2 x3 x4 x5 x6 x7 x8 x9)))]⟩]),[(.row false 2 asg x3),(.row false 169 ase x4),(.row false 24 (CTy.sl (2:TypeId) asg) x5),(.row false 100 ase x6),(.row false 173 asf x7),(.row false 176 asf x8),(.row false 49 asd x9)],[(.row true 2 asg (KN x0 x1 x2 x3 x4 x5 x6 x7 x8 x9)),(.row true 169 ase (KO x0 x1 x2 x3 x4 x5 x6 x7 x8 x9)),(.tree 24 (CTy.sl (2:Nat) asg) (KP x0 x1 x2 x3 x4 x5 x6 x7 x8 x9) none),(.row true 100 ase (KQ x0 x1 x2 x3 x4 x5 x6 x7 x8 x9)),(.row true 173 asf (KR x0 x1 x2 x3 x4 x5 x6 x7 x8 x9)),(.row true 176 asf (KS x0 x1 x2 x3 x4 x5 x6 x7 x8 x9)),(.row true 2 asg (Is x0 x1 x2 x3 x4 x5 x6 x7 x8 x9))],[(It x0 x1 x2 x3 x4 x5 x6 x7 x8 x9)]⟩
 |_,_=>none
def Vx:PF Tryz.prog:=PF.ofG Tryz.prog [PF.trees Tryz.prog,Bz,PF.lend Bz,PF.fz Bz,ez,PF.lend ez,PF.fz ez,fg,PF.lend fg,PF.fz fg] [dP.F] aS 12 Tryz.f12 Tryz.func12 (LOk.fnT (l:= [aT Tryz.f12 0]) (by kernel_rfl) (.cons adf (.nil _))) ab8 (by
 intro vs es r h;unfold ab8 at h;split at h
 ·cases h;kernel_rfl
 ·cases h)
section
variable (x0 x1 x2 x3 x4 x5 x6 x7 x8:Int)(x9:Bool)(x10:List Int)(x11:List (Int×Int×Int))(x12:List (List Int))(x13:List (Int×Int×Int))(x14 x15:List (Int×Int))
def g8:List (Int×Int×(Int×Int)×Int×Int×Bool):= [(x3,x4,(x5,x6),x7,x8,x9)]
def LK:Int:=KM x0 x1 x2 x10 x11 x12 x13 x14 x15 (g8 x3 x4 x5 x6 x7 x8 x9)
def eX:Bool:=LK x0 x1 x2 x3 x4 x5 x6 x7 x8 x9 x10 x11 x12 x13 x14 x15 !=(0:Int)
def Gd:List Int:=Is x0 x1 x2 x10 x11 x12 x13 x14 x15 (g8 x3 x4 x5 x6 x7 x8 x9)
def Nc:Int:=bif eX x0 x1 x2 x3 x4 x5 x6 x7 x8 x9 x10 x11 x12 x13 x14 x15 then(0:Int)else KJ x0 x1 x2 x10 x11 x12 x13 x14 x15 (g8 x3 x4 x5 x6 x7 x8 x9)
def Nd:Int:=bif eX x0 x1 x2 x3 x4 x5 x6 x7 x8 x9 x10 x11 x12 x13 x14 x15 then(0:Int)else KK x0 x1 x2 x10 x11 x12 x13 x14 x15 (g8 x3 x4 x5 x6 x7 x8 x9)
def Nf:Int:=bif eX x0 x1 x2 x3 x4 x5 x6 x7 x8 x9 x10 x11 x12 x13 x14 x15 then(0:Int)else KL x0 x1 x2 x10 x11 x12 x13 x14 x15 (g8 x3 x4 x5 x6 x7 x8 x9)
def Ng:Int:=bif eX x0 x1 x2 x3 x4 x5 x6 x7 x8 x9 x10 x11 x12 x13 x14 x15 then(0:Int)else Option.getD (Gd x0 x1 x2 x3 x4 x5 x6 x7 x8 x9 x10 x11 x12 x13 x14 x15)[Int.toNat (0:Int)]? (0:Int)
def Nh:Int:=bif eX x0 x1 x2 x3 x4 x5 x6 x7 x8 x9 x10 x11 x12 x13 x14 x15 then LK x0 x1 x2 x3 x4 x5 x6 x7 x8 x9 x10 x11 x12 x13 x14 x15 else(0:Int)
def Ni:List Int:=bif eX x0 x1 x2 x3 x4 x5 x6 x7 x8 x9 x10 x11 x12 x13 x14 x15 then []else KN x0 x1 x2 x10 x11 x12 x13 x14 x15 (g8 x3 x4 x5 x6 x7 x8 x9)
def Nj:List (Int×(Int×Int)):=bif eX x0 x1 x2 x3 x4 x5 x6 x7 x8 x9 x10 x11 x12 x13 x14 x15 then []else KO x0 x1 x2 x10 x11 x12 x13 x14 x15 (g8 x3 x4 x5 x6 x7 x8 x9)
def Nk:List (List Int):=bif eX x0 x1 x2 x3 x4 x5 x6 x7 x8 x9 x10 x11 x12 x13 x14 x15 then []else KP x0 x1 x2 x10 x11 x12 x13 x14 x15 (g8 x3 x4 x5 x6 x7 x8 x9)
def Nl:List (Int×(Int×Int)):=bif eX x0 x1 x2 x3 x4 x5 x6 x7 x8 x9 x10 x11 x12 x13 x14 x15 then []else KQ x0 x1 x2 x10 x11 x12 x13 x14 x15 (g8 x3 x4 x5 x6 x7 x8 x9)
def Nn:List (Int×Int):=bif eX x0 x1 x2 x3 x4 x5 x6 x7 x8 x9 x10 x11 x12 x13 x14 x15 then []else KR x0 x1 x2 x10 x11 x12 x13 x14 x15 (g8 x3 x4 x5 x6 x7 x8 x9)
def LH:List (Int×Int):=bif eX x0 x1 x2 x3 x4 x5 x6 x7 x8 x9 x10 x11 x12 x13 x14 x15 then []else KS x0 x1 x2 x10 x11 x12 x13 x14 x15 (g8 x3 x4 x5 x6 x7 x8 x9)
def LJ:Bool:=allT [It x0 x1 x2 x10 x11 x12 x13 x14 x15 (g8 x3 x4 x5 x6 x7 x8 x9),eX x0 x1 x2 x3 x4 x5 x6 x7 x8 x9 x10 x11 x12 x13 x14 x15||leI (0:Int) (0:Int),eX x0 x1 x2 x3 x4 x5 x6 x7 x8 x9 x10 x11 x12 x13 x14 x15||ltI (0:Int) (↑(List.length (Gd x0 x1 x2 x3 x4 x5 x6 x7 x8 x9 x10 x11 x12 x13 x14 x15)):Int),eX x0 x1 x2 x3 x4 x5 x6 x7 x8 x9 x10 x11 x12 x13 x14 x15||ltN (Int.toNat (0:Int)) (List.length (Gd x0 x1 x2 x3 x4 x5 x6 x7 x8 x9 x10 x11 x12 x13 x14 x15))]
end
def aaW:List SV→List Entry→Option Out
 | [.one ⟨true,[.val (.int .i64 x0),.ref 0,.ref 1,.ref 2,.ref 3,.val (.int .i64 x1),.ref 4,.ref 5,.val (.int .i64 x2)]⟩,.one ⟨true,[.val (.int .i64 x3),.val (.int .i64 x4),.val (.int .i64 x5),.val (.int .i64 x6),.val (.int .i64 x7),.val (.int .i64 x8),.val (.bool x9)]⟩],[.row false 2 (.int .i64) x10,.row false 169 (.pair (.int .i64) (.pair (.int .i64) (.int .i64))) x11,.row false 24 (.sl 2 (.int .i64)) x12,.row false 100 (.pair (.int .i64) (.pair (.int .i64) (.int .i64))) x13,.row false 173 (.pair (.int .i64) (.int .i64)) x14,.row false 176 (.pair (.int .i64) (.int .i64)) x15]=>some ⟨(.tup [⟨true,[(.val (.int .i64 (Nc x0 x1 x2 x3 x4 x5 x6 x7 x8 x9 x10 x11 x12 x13 x14 x15))),(.ref 6),(.ref 7),(.ref 8),(.ref 9),(.val (.int .i64 (Nd x0 x1 x2 x3 x4 x5 x6 x7 x8 x9 x10 x11 x12 x13 x14 x15))),(.ref 10),(.ref 11),(.val (.int .i64 (Nf x0 x1 x2 x3 x4 x5 x6 x7 x8 x9 x10 x11 x12 x13 x14 x15)))]⟩,⟨false,[(.val (.int .i64 (Ng x0 x1 x2 x3 x4 x5 x6 x7 x8 x9 x10 x11 x12 x13 x14 x15)))]⟩,⟨false,[(.val (.int .i64 (Nh x0 x1 x2 x3 x4 x5 x6 x7 x8 x9 x10 x11 x12 x13 x14 x15)))]⟩]),[(.row false 2 asg x10),(.row false 169 ase x11),(.row false 24 (CTy.sl (2:TypeId) asg) x12),(.row false 100 ase x13),(.row false 173 asf x14),(.row false 176 asf x15)],[(.row true 2 asg (Ni x0 x1 x2 x3 x4 x5 x6 x7 x8 x9 x10 x11 x12 x13 x14 x15)),(.row true 169 ase (Nj x0 x1 x2 x3 x4 x5 x6 x7 x8 x9 x10 x11 x12 x13 x14 x15)),(.tree 24 (CTy.sl (2:Nat) asg) (Nk x0 x1 x2 x3 x4 x5 x6 x7 x8 x9 x10 x11 x12 x13 x14 x15) none),(.row true 100 ase (Nl x0 x1 x2 x3 x4 x5 x6 x7 x8 x9 x10 x11 x12 x13 x14 x15)),(.row true 173 asf (Nn x0 x1 x2 x3 x4 x5 x6 x7 x8 x9 x10 x11 x12 x13 x14 x15)),(.row true 176 asf (LH x0 x1 x2 x3 x4 x5 x6 x7 x8 x9 x10 x11 x12 x13 x14 x15))],[(LJ x0 x1 x2 x3 x4 x5 x6 x7 x8 x9 x10 x11 x12 x13 x14 x15)]⟩
 |_,_=>none
def ajg:PF Tryz.prog:=PF.ofG Tryz.prog [PF.trees Tryz.prog,Vx,PF.lend Vx,PF.fz Vx] [] aS 18 Tryz.f18 Tryz.func18 (fun c _=>LOk.nil c) aaW (by
 intro vs es r h;unfold aaW at h;split at h
 ·cases h;kernel_rfl
 ·cases h)
section
variable (x3 x4 x5 x6 x7 x8:Int)(x9:Bool)(x10:List Int)(x12:List (List Int))
def oZ:Bool:=bif x5==(0:Int)then bif x6==(0:Int)then true else false else false
def pa:Bool:=bif x7==(0:Int)then bif x8==(0:Int)then bif x9==false then true else false else false else false
def jV:Bool:=bif x3==(0:Int)then bif bif LF x10 x4 then oZ x5 x6 else false then pa x7 x8 x9 else false else bif x3==(1:Int)then bif bif LF x10 x4 then rsB (bI (bif LF x10 x4&&true then Option.getD x12[Int.toNat (0:Int)]? (AK (CTy.sl (2:TypeId) asg))else [])) x5 x6 else false then pa x7 x8 x9 else false else bif x3==(2:Int)then bif bif x4==(0:Int)then oZ x5 x6 else false then agT x7 x8 else false else false
def jW:Bool:=allT [!x3==(0:Int)||leN x10.length (9223372036854775807:Nat),x3==(0:Int)||(!x3==(1:Int)||leN x10.length (9223372036854775807:Nat)),x3==(0:Int)||(!x3==(1:Int)||(!(LF x10 x4&&true)||leI (0:Int) (0:Int))),x3==(0:Int)||(!x3==(1:Int)||(!(LF x10 x4&&true)||ltI (0:Int) (↑x12.length:Int))),x3==(0:Int)||(!x3==(1:Int)||(!(LF x10 x4&&true)||ltN (Int.toNat (0:Int)) x12.length))]
end
def xz:List SV→List Entry→Option Out
 | [.one ⟨true,[.val (.int .i64 _x0),.ref 0,.ref 1,.ref 2,.ref 3,.val (.int .i64 _x1),.ref 4,.ref 5,.val (.int .i64 _x2)]⟩,.one ⟨true,[.val (.int .i64 x3),.val (.int .i64 x4),.val (.int .i64 x5),.val (.int .i64 x6),.val (.int .i64 x7),.val (.int .i64 x8),.val (.bool x9)]⟩],[.row false 2 (.int .i64) x10,.row false 169 (.pair (.int .i64) (.pair (.int .i64) (.int .i64))) x11,.row false 24 (.sl 2 (.int .i64)) x12,.row false 100 (.pair (.int .i64) (.pair (.int .i64) (.int .i64))) x13,.row false 173 (.pair (.int .i64) (.int .i64)) x14,.row false 176 (.pair (.int .i64) (.int .i64)) x15]=>some ⟨(.one ⟨false,[(.val (.bool (jV x3 x4 x5 x6 x7 x8 x9 x10 x12)))]⟩),[(.row false 2 asg x10),(.row false 169 ase x11),(.row false 24 (CTy.sl (2:TypeId) asg) x12),(.row false 100 ase x13),(.row false 173 asf x14),(.row false 176 asf x15)],[],[(jW x3 x4 x10 x12)]⟩
 |_,_=>none
def pL:PF Tryz.prog:=PF.ofG Tryz.prog [cC,PF.lend cC,PF.fz cC,PH,ZK,aK,PF.lend aK,PF.fz aK] [] aS 99 Tryz.f99 Tryz.func99 (fun c _=>LOk.nil c) xz (by
 intro vs es r h;unfold xz at h;split at h
 ·cases h;kernel_rfl
 ·cases h)
def zw(x0 x1 x2 x3 x4 x5 x6 x7 x8:Int)(x9:Bool)(x10:List Int)(x11:List (Int×Int×Int))(x12:List (List Int))(x13:List (Int×Int×Int))(x14 x15:List (Int×Int)):Bool:=bif nX x0 x10 x11 x12 x13 x1 x14 x15 x2 then jV x3 x4 x5 x6 x7 x8 x9 x10 x12 else false
def DV(x0 x1 x2 x3 x4:Int)(x10:List Int)(x11:List (Int×Int×Int))(x12:List (List Int))(x13:List (Int×Int×Int))(x14 x15:List (Int×Int)):Bool:=allT [zC (9223372036854775807:Nat) x10 x11 x12 x13 x14 x15,!(nX x0 x10 x11 x12 x13 x1 x14 x15 x2&&true)||jW x3 x4 x10 x12]
def WG:List SV→List Entry→Option Out
 | [.one ⟨true,[.val (.int .i64 x0),.ref 0,.ref 1,.ref 2,.ref 3,.val (.int .i64 x1),.ref 4,.ref 5,.val (.int .i64 x2)]⟩,.one ⟨true,[.val (.int .i64 x3),.val (.int .i64 x4),.val (.int .i64 x5),.val (.int .i64 x6),.val (.int .i64 x7),.val (.int .i64 x8),.val (.bool x9)]⟩],[.row false 2 (.int .i64) x10,.row false 169 (.pair (.int .i64) (.pair (.int .i64) (.int .i64))) x11,.row false 24 (.sl 2 (.int .i64)) x12,.row false 100 (.pair (.int .i64) (.pair (.int .i64) (.int .i64))) x13,.row false 173 (.pair (.int .i64) (.int .i64)) x14,.row false 176 (.pair (.int .i64) (.int .i64)) x15]=>some ⟨(.one ⟨false,[(.val (.bool (zw x0 x1 x2 x3 x4 x5 x6 x7 x8 x9 x10 x11 x12 x13 x14 x15)))]⟩),[(.row false 2 asg x10),(.row false 169 ase x11),(.row false 24 (CTy.sl (2:TypeId) asg) x12),(.row false 100 ase x13),(.row false 173 asf x14),(.row false 176 asf x15)],[],[(DV x0 x1 x2 x3 x4 x10 x11 x12 x13 x14 x15)]⟩
 |_,_=>none
def PM:PF Tryz.prog:=PF.ofG Tryz.prog [IX,PF.lend IX,PF.fz IX,pL,PF.lend pL,PF.fz pL] [] aS 34 Tryz.f34 Tryz.func34 (fun c _=>LOk.nil c) WG (by
 intro vs es r h;unfold WG at h;split at h
 ·cases h;kernel_rfl
 ·cases h)
end Go.SX

namespace Go.SX
open Go.Proofs
set_option maxRecDepth 100000
abbrev LI:=List Int
abbrev L3:=List (Int×Int×Int)
abbrev L2:=List (Int×Int)
def wg(b:List Int):(List (List Int))→Nat ⊕ (List (List Int))
 |y4=>(.inr (y4++ [(b)]))
def rj(y1 y2 y3:Int)(y5:List Int)(y6:List (Int×(Int×Int)))(y7:List (List Int))(y8:List (Int×(Int×Int)))(y9 y10:List (Int×Int))(i:Nat):(List (List Int))→nh
 |y4=>((i:Int),y1,y2,y3,y4,y5,y6,y7,y8,y9,y10)
def PY:nh→List (List Int)
 |(_,_,_,_,y4,_,_,_,_,_,_)=>y4
theorem aiA(y1 y2 y3:Int)(y5:List Int)(y6:List (Int×(Int×Int)))(y7:List (List Int))(y8:List (Int×(Int×Int)))(y9 y10:List (Int×Int))(y4:List (List Int))(hn:y7.length≤9223372036854775807)(hl:y7.length≤4)(hA: ∀ x∈y7,x.length≤12)(h0:y4= []):
  gj.fin ((0:Int),y1,y2,y3,y4,y5,y6,y7,y8,y9,y10)=true∧gj.res ((0:Int),y1,y2,y3,y4,y5,y6,y7,y8,y9,y10)=((aU (wg) 0 y7 0 y4).1,(rj y1 y2 y3 y5 y6 y7 y8 y9 y10) (aU (wg) 0 y7 0 y4).2.1 (aU (wg) 0 y7 0 y4).2.2):=by
 have key:=gj.along (rj y1 y2 y3 y5 y6 y7 y8 y9 y10) PY (wg) 0 (fun i a=>a.length≤i) y7 y4 (by subst h0;simp) (by simp only [gj,rj];omega) (fun i b a hb hI=> ?_) (fun a hI=> ?_)
 ·exact key
 ·obtain y4:=a
  have hlt:=(List.getElem?_eq_some_iff.1 hb).1
  have hget: ∀ d,Option.getD y7[i]? d=b:=fun d=>by rw [hb];rfl
  have hw:=vu hlt hn
  have hdec:ltI (i:Int) (y7.length:Int)=true:=et (by omega)
  have hnn:leI (0:Int) (i:Int)=true:=dk (by omega)
  have hltd:ltN i y7.length=true:=fJ hlt
  refine⟨?_,?_,?_,?_⟩
  ·have hb2:=hA b (List.mem_of_getElem? hb)
   have h5:leN b.length 1048576=true:=br (by omega)
   have h6:leN (a.length + 1) 9223372036854775807=true:=br (by omega)
   have h7:leN ((a.length + 1) * 24) 140737488355328=true:=br (by omega)
   simp [rg,BQ,GX,GY,GZ,Ha,Hb,Hc,Hd,Es,gj,LT.nds,allT,rj,hdec,hnn,hltd,jT,hget,h5,h6,h7]
  ·simp [rg,BQ,GX,GY,GZ,Ha,Hb,Hc,Hd,Es,gj,LT.each,rj,PY,hw,jT,hget]
  ·simp only [rg,BQ,GX,GY,GZ,Ha,Hb,Hc,Hd,Es,gj,LT.fn,rj,PY,wg,Int.toNat_natCast,hdec,hnn,hltd,hget,cond_true,Bool.cond_self,jT,hget]
  ·intro a' hf;simp only [wg,Sum.inr.injEq]at hf;subst hf;simp;omega
 ·obtain y4:=a
  simp [rg,BQ,GX,GY,GZ,Ha,Hb,Hc,Hd,Es,gj,LT.out,rj]
def arh(ps:LI)(fs:L3)(rs:List LI)(lf:L3)(pl ls:L2):Prop:=ps.length≤4∧1≤ps.length∧fs.length≤100∧rs.length≤4∧(∀ x∈rs,1≤x.length∧x.length≤12)∧lf.length≤100∧pl.length≤10000∧ls.length≤10000
theorem aoI(n mode day:Int){ps:LI}{fs:L3}{rs:List LI}{lf:L3}{pl ls:L2}(h:arh ps fs rs lf pl ls):
  nx n mode day ps fs rs lf pl ls=rs∧SD n mode day ps fs rs lf pl ls=true:=by
 obtain⟨h1,_,h2,h3,h4,h5,h6,h7⟩:=h
 obtain⟨w1,w2⟩:=aiA n mode day ps fs rs lf pl ls [] (by omega) h3 (fun x hx=>(h4 x hx).2) rfl
 rw [ko (f:=wg) (g:=fun a b=>a++ [b]) (fun b a=>rfl),Uz (fun x=>x)]at w2
 refine⟨by simp only [nx,QN,w2,rj,List.nil_append,List.map_id'],?_⟩
 have w3:Lp.fin gj (QN n mode day ps fs rs lf pl ls)=true:=w1
 have e1:leN ps.length 1048576=true:=br (by omega)
 have e2:leN (0 + fs.length) 9223372036854775807=true:=br (by omega)
 have e3:leN ((0 + fs.length) * 24) 140737488355328=true:=br (by omega)
 have e4:leN (0 + lf.length) 9223372036854775807=true:=br (by omega)
 have e5:leN ((0 + lf.length) * 24) 140737488355328=true:=br (by omega)
 have e6:leN (0 + pl.length) 9223372036854775807=true:=br (by omega)
 have e7:leN ((0 + pl.length) * 16) 140737488355328=true:=br (by omega)
 have e8:leN (0 + ls.length) 9223372036854775807=true:=br (by omega)
 have e9:leN ((0 + ls.length) * 16) 140737488355328=true:=br (by omega)
 simp only [SD,w3,e1,e2,e3,e4,e5,e6,e7,e8,e9,allT,cond_true]
def b8(b:List Int):(List (List Int))→Nat ⊕ (List (List Int))
 |y8=>(.inr (y8++ [(b)]))
def bL(y2:List (List Int))(y3 y4 y5:Int)(y6:List Int)(y7 y9:List (Int×(Int×Int)))(y10 y11:List (Int×Int))(i:Nat):(List (List Int))→bg
 |y8=>((i:Int),(↑y2.length:Int),y2,y3,y4,y5,y6,y7,y8,y9,y10,y11)
def mZ:bg→List (List Int)
 |(_,_,_,_,_,_,_,_,y8,_,_,_)=>y8
theorem JN(y2:List (List Int))(y3 y4 y5:Int)(y6:List Int)(y7 y9:List (Int×(Int×Int)))(y10 y11:List (Int×Int))(y8:List (List Int))(hn:y2.length≤9223372036854775807)(hl:y2.length≤4)(hA: ∀ x∈y2,1≤x.length∧x.length≤12)(h0:y8= []):
  aJ.fin ((0:Int),(↑y2.length:Int),y2,y3,y4,y5,y6,y7,y8,y9,y10,y11)=true∧aJ.res ((0:Int),(↑y2.length:Int),y2,y3,y4,y5,y6,y7,y8,y9,y10,y11)=((aU (b8) 0 y2 0 y8).1,(bL y2 y3 y4 y5 y6 y7 y9 y10 y11) (aU (b8) 0 y2 0 y8).2.1 (aU (b8) 0 y2 0 y8).2.2):=by
 have key:=aJ.along (bL y2 y3 y4 y5 y6 y7 y9 y10 y11) mZ (b8) 0 (fun i a=>a.length≤i) y2 y8 (by subst h0;simp) (by simp only [aJ,bL];omega) (fun i b a hb hI=> ?_) (fun a hI=> ?_)
 ·exact key
 ·obtain y8:=a
  have hlt:=(List.getElem?_eq_some_iff.1 hb).1
  have hget: ∀ d,Option.getD y2[i]? d=b:=fun d=>by rw [hb];rfl
  have hw:=vu hlt hn
  have hdec:ltI (i:Int) (y2.length:Int)=true:=et (by omega)
  have hnn:leI (0:Int) (i:Int)=true:=dk (by omega)
  have hltd:ltN i y2.length=true:=fJ hlt
  refine⟨?_,?_,?_,?_⟩
  ·have hb2:=hA b (List.mem_of_getElem? hb)
   have h5:leN b.length 1048576=true:=br (by omega)
   have h4:leN 1 b.length=true:=br (by omega)
   have h6:leN (a.length + 1) 9223372036854775807=true:=br (by omega)
   have h7:leN ((a.length + 1) * 24) 140737488355328=true:=br (by omega)
   simp [bt,fM,fN,fO,fP,fQ,fR,fS,fT,fU,ft,aJ,LT.nds,allT,bL,hdec,hnn,hltd,jT,hget,h4,h5,h6,h7]
  ·simp [bt,fM,fN,fO,fP,fQ,fR,fS,fT,fU,ft,aJ,LT.each,bL,mZ,hw,jT,hget]
  ·simp only [bt,fM,fN,fO,fP,fQ,fR,fS,fT,fU,ft,aJ,LT.fn,bL,mZ,b8,Int.toNat_natCast,hdec,hnn,hltd,hget,cond_true,Bool.cond_self,jT,hget]
  ·intro a' hf;simp only [b8,Sum.inr.injEq]at hf;subst hf;simp;omega
 ·obtain y8:=a
  simp [bt,fM,fN,fO,fP,fQ,fR,fS,fT,fU,ft,aJ,LT.out,bL]
theorem amj(n mode day:Int){ps:LI}{fs:L3}{rs:List LI}{lf:L3}{pl ls:L2}(h:arh ps fs rs lf pl ls):
  kO n mode day ps fs rs lf pl ls=rs∧kP n mode day ps fs rs lf pl ls=true:=by
 obtain⟨h1,h1',h2,h3,h4,h5,h6,h7⟩:=h
 obtain⟨w1,w2⟩:=JN rs n mode day ps fs lf pl ls [] (by omega) h3 h4 rfl
 rw [ko (f:=b8) (g:=fun a b=>a++ [b]) (fun b a=>rfl),Uz (fun x=>x)]at w2
 refine⟨by simp only [kO,jU,w2,bL,List.nil_append,List.map_id'],?_⟩
 have w3:Lp.fin aJ (jU n mode day ps fs rs lf pl ls)=true:=w1
 have e0:leN 1 ps.length=true:=br (by omega)
 have e1:leN ps.length 1048576=true:=br (by omega)
 have e2:leN fs.length 1048576=true:=br (by omega)
 have e3:leN lf.length 1048576=true:=br (by omega)
 have e4:leN pl.length 1048576=true:=br (by omega)
 have e5:leN ls.length 1048576=true:=br (by omega)
 simp [kP,w3,fW,e0,e1,e2,e3,e4,e5,allT]
abbrev RX:=Int×Int×(Int×Int)×Int×Int×Bool
def Vf(ps:LI)(rs:List LI)(k t rk row ck role:Int)(key:Bool):Bool:=bif k==0 then LF ps t&&((rk==0&&row==0)&&(ck==0&&(role==0&&key==false)))else bif k==1 then(LF ps t&&rsB (rowsR rs) rk row)&&(ck==0&&(role==0&&key==false))else bif k==2 then(t==0&&(rk==0&&row==0))&&agT ck role else false
theorem aqg{ls:L2}(h:okLk ls=true):ls.length≤8:=by
 simp only [okLk,Bool.and_eq_true,c8]at h;exact h.1
structure RideF (n mode day:Int) (ps:LI) (fs:L3) (rs:List LI) (lf:L3) (pl ls:L2):Prop where
 hT:isT n ps=true
 hF:okFs n fs=true
 hl:rs.length=ps.length
 hR:rsOk rs=true
 hL:lfOk (rowsR rs) lf=true
 hM:0≤mode∧mode≤5
 hP:okPl pl=true
 hK:okLk ls=true
 hD:inR day 0 100000=true
 n1:2≤n∧n≤8
 lp:1≤ps.length∧ps.length≤4
 lfs:fs.length≤8
 llf:lf.length≤8
 lpl:pl.length≤12
 lls:ls.length≤8
 hA: ∀ x∈rs,areR x=true∧(x.length:Int)=rowsR rs
theorem akG{n mode day:Int}{ps:LI}{fs:L3}{rs:List LI}{lf:L3}{pl ls:L2}(h:nX n ps fs rs lf mode pl ls day=true):RideF n mode day ps fs rs lf pl ls:=by
 obtain⟨h1,h2,h3,h4,h5,h6,h7,h8,h9⟩:=aor.1 h
 have h1':=h1
 simp only [isT,Bool.and_eq_true,re]at h1'
 refine⟨h1,h2,h3,h4,h5,re.1 h6,h7,h8,h9,h1'.1.1,by omega,anm h2,aqb h5,akl h7,aqg h8,fun x hx=> ?_⟩
 simp only [rsOk,List.all_eq_true,Bool.and_eq_true,beq_iff_eq]at h4
 exact h4 x hx
theorem RideF.cp{n mode day:Int}{ps:LI}{fs:L3}{rs:List LI}{lf:L3}{pl ls:L2}(h:RideF n mode day ps fs rs lf pl ls):arh ps fs rs lf pl ls:=by
 have:=h.lp;have:=h.lfs;have:=h.llf;have:=h.lpl;have:=h.lls;have:=h.hl
 refine⟨by omega,by omega,by omega,by omega,fun x hx=> ?_,by omega,by omega,by omega⟩
 have:=(DU.1 (h.hA x hx).1).1
 omega
theorem apl{rs:List LI}{ps:LI}(hl:rs.length=ps.length)(hp:1≤ps.length∧ps.length≤4)(t:Int):a6 t 0 (IntKind.i64.wrap ((rs.length:Int) - 1))=LF ps t:=by
 rw [a6,vt,hl,aj (by omega) (by omega),LF]
theorem anJ(rs:List LI):zp rs=rowsR rs:=by
 simp only [zp,jT];rfl
theorem alT(n mode day k t rk row ck role:Int)(key:Bool)(ps:LI)(fs:L3)(rs:List LI)(lf:L3)(pl ls:L2)(hN:zC 9223372036854775807 ps fs rs lf pl ls=true):
  ux n mode day k t rk row ck role key ps fs rs lf pl ls=(nX n ps fs rs lf mode pl ls day&&Vf ps rs k t rk row ck role key)∧
  zE n mode day k t ps fs rs lf pl ls=true:=by
 cases hO:nX n ps fs rs lf mode pl ls day with
 |false=>simp [ux,zE,hO,hN,allT]
 |true=>
  have f:=akG hO
  have hw:=apl f.hl f.lp t
  have n1:ltI 0 (rs.length:Int)=true:=et (by have:=f.hl;have:=f.lp;omega)
  have n2:ltN 0 rs.length=true:=fJ (by have:=f.hl;have:=f.lp;omega)
  refine⟨?_,?_⟩
  ·simp only [ux,HX,Ok,Ol,hO,hw,anJ,Vf,beq_self_eq_true,Bool.not_true,cond_false,cond_true,Bool.true_and]
   cases k==0 <;> cases k==1 <;> cases k==2 <;> cases LF ps t <;> cases rk==0 <;> cases row==0 <;> cases ck==0 <;> cases role==0 <;> cases key <;> cases t==0 <;> simp
  ·simp [zE,zq,hO,hN,allT,n1,n2]
theorem alA{n mode day:Int}(k t rk row ck role:Int)(key:Bool){ps:LI}{fs:L3}{rs:List LI}{lf:L3}{pl ls:L2}(f:RideF n mode day ps fs rs lf pl ls):
  jV k t rk row ck role key ps rs=Vf ps rs k t rk row ck role key∧jW k t ps rs=true:=by
 have n1:ltI 0 (rs.length:Int)=true:=et (by have:=f.hl;have:=f.lp;omega)
 have n2:ltN 0 rs.length=true:=fJ (by have:=f.hl;have:=f.lp;omega)
 have n3:leN ps.length 9223372036854775807=true:=br (by have:=f.lp;omega)
 refine⟨?_,?_⟩
 ·simp only [jV,oZ,pa,Vf,bI,jT,Bool.and_true]
  cases hh:LF ps t with
  |false=>cases k==0 <;> cases k==1 <;> cases k==2 <;> cases rk==0 <;> cases row==0 <;> cases ck==0 <;> cases role==0 <;> cases key <;> cases t==0 <;> simp
  |true=>
   simp only [cond_true,Int.toNat_zero,show ((rs[0]?.getD []).length:Int)=rowsR rs from rfl]
   cases k==0 <;> cases k==1 <;> cases k==2 <;> cases rk==0 <;> cases row==0 <;> cases ck==0 <;> cases role==0 <;> cases key <;> cases t==0 <;> simp
 ·simp [jW,allT,n1,n2,n3]
theorem ajX{n mode day:Int}(k t rk row ck role:Int)(key:Bool){ps:LI}{fs:L3}{rs:List LI}{lf:L3}{pl ls:L2}(f:RideF n mode day ps fs rs lf pl ls):
  lI k t rk row ck role key ps rs=Vf ps rs k t rk row ck role key∧lJ k t ps rs=true:=
 alA k t rk row ck role key f
def Mw(n t:Int)(ps:LI):Bool:=cZ n t ps
theorem aju(n t:Int)(ps:LI):ac n t ps=Mw n t ps:=rfl
def abg(n mode:Int)(ps:LI)(fs:L3)(rs:List LI)(lf:L3)(t:Int):Int:=bif !(Int.tmod (ps[t.toNat]?.getD 0) 3==1)then 0 else bif mode !=3 then 1 else bif !adD n ps (DD n ps fs 0) (DD n ps fs 1) t then 2 else bif Mw n t ps&& !Qg (rs[t.toNat]?.getD []) lf then 3 else 0
theorem RideF.rd{n mode day:Int}{ps:LI}{fs:L3}{rs:List LI}{lf:L3}{pl ls:L2}(f:RideF n mode day ps fs rs lf pl ls){t:Int}(ht:LF ps t=true):
  ab4 (rs[t.toNat]?.getD []) lf=true∧areR (rs[t.toNat]?.getD [])=true∧((rs[t.toNat]?.getD []).length:Int)=rowsR rs:=by
 have h:=Zl.1 ht
 have hlt:t.toNat < rs.length:=by have:=f.hl;omega
 rw [List.getElem?_eq_getElem hlt,Option.getD_some]
 obtain⟨h1,h2⟩:=f.hA _ (List.getElem_mem hlt)
 refine⟨?_,h1,h2⟩
 rw [ab4,h1,h2,f.hL];rfl
theorem RideF.tn{n mode day:Int}{ps:LI}{fs:L3}{rs:List LI}{lf:L3}{pl ls:L2}(f:RideF n mode day ps fs rs lf pl ls){t:Int}(ht:LF ps t=true):
  leI 0 t=true∧ltI t (ps.length:Int)=true∧ltN t.toNat ps.length=true∧ltI t (rs.length:Int)=true∧ltN t.toNat rs.length=true:=by
 have h:=Zl.1 ht
 have:=f.hl
 exact⟨dk h.1,et (by omega),fJ (by omega),et (by omega),fJ (by omega)⟩
theorem RideF.perm{n mode day:Int}{ps:LI}{fs:L3}{rs:List LI}{lf:L3}{pl ls:L2}(f:RideF n mode day ps fs rs lf pl ls){t:Int}(ht:LF ps t=true):
  ahZ n fs=true∧Yu n ps (DD n ps fs 0) (DD n ps fs 1) t=true:=by
 have hF:=aqJ f.n1 f.hF
 exact⟨hF,by rw [Yu,ZJ,f.hT,ht,amU n ps fs 0 f.hT hF,amU n ps fs 1 f.hT hF];rfl⟩
theorem aoH{n mode day:Int}{ps:LI}{fs:L3}{rs:List LI}{lf:L3}{pl ls:L2}(f:RideF n mode day ps fs rs lf pl ls){t:Int}(ht:LF ps t=true):
  GW n mode t ps fs rs lf=abg n mode ps fs rs lf t∧QM n mode t ps fs rs lf=true:=by
 obtain⟨t1,t2,t3,t4,t5⟩:=f.tn ht
 obtain⟨p1,p2⟩:=f.perm ht
 have hrd:=(f.rd ht).1
 refine⟨?_,?_⟩
 ·simp only [GW,rY,TU,NG,jT,abg,Mw,bne]
  cases cZ n t ps <;> rfl
 ·simp only [QM,NG,jT,BR,t1,t2,t3,t4,t5,p1,p2,hrd,f.hT,allT,Bool.or_true,Bool.and_self,cond_true]
theorem aoh{n mode day:Int}{ps:LI}{fs:L3}{rs:List LI}{lf:L3}{pl ls:L2}(f:RideF n mode day ps fs rs lf pl ls){t:Int}(ht:LF ps t=true):
  ln t n mode ps fs rs lf=abg n mode ps fs rs lf t∧lq t n mode ps fs rs lf=true:=by
 obtain⟨t1,t2,t3,t4,t5⟩:=f.tn ht
 obtain⟨p1,p2⟩:=f.perm ht
 have hrd:=(f.rd ht).1
 have e1:bT t ps=true:=by simp only [bT,t1,t2,t3,allT,cond_true]
 refine⟨?_,?_⟩
 ·simp only [ln,ak,aB,g9,aW,jT,abg,aju]
  cases Mw n t ps <;> rfl
 ·have hm:ZJ n ps t=true:=by rw [ZJ,f.hT,ht];rfl
  cases hs:Mw n t ps <;>
  simp only [lq,oY,g9,aW,aju,hs,jT,e1,t1,t2,t3,t4,t5,p1,p2,hrd,hm,f.hT,allT,Bool.or_true,Bool.and_self,cond_true,cond_false,Bool.not_false,Bool.not_true,Bool.false_and,Bool.true_and,Bool.true_or,Bool.false_or]
end Go.SX

namespace Go.SX
open Go.Proofs
set_option maxRecDepth 100000
def stV(n mode day:Int)(ps:LI)(fs:L3)(rs:List LI)(lf:L3)(pl ls:L2)(k t rk row ck role:Int)(key:Bool):Int:=bif k==0 then abg n mode ps fs rs lf t else bif k==1 then(bif !Mw n t ps then 4 else bif !kM (rs[t.toNat]?.getD []) rk row then 5 else 0)else bif vdC mode ck role key !=0 then 6 else bif ck==1&& !ahb pl ls day then 7 else 0
def stP(n mode:Int)(ps:LI)(fs:L3)(rs:List LI)(lf:L3)(k t:Int):LI:=bif k==0&&abg n mode ps fs rs lf t==0 then ah7 n ps t else ps
def stR(n:Int)(ps:LI)(rs:List LI)(k t rk row:Int):List LI:=bif !(k==0)&&(k==1&&(Mw n t ps&&kM (rs[t.toNat]?.getD []) rk row))then rs.set t.toNat (QY (rs[t.toNat]?.getD []) rk row)else rs
def stM(mode day:Int)(pl ls:L2)(k ck role:Int)(key:Bool):Int:=bif k==0||(k==1||(vdC mode ck role key !=0||(ck==1&& !ahb pl ls day)))then mode else nxC mode ck role key
theorem Se{ps:LI}{rs:List LI}{k t rk row ck role:Int}{key:Bool}(h:Vf ps rs k t rk row ck role key=true):
  (k=0∧LF ps t=true)∨(k=1∧LF ps t=true∧rsB (rowsR rs) rk row=true)∨(k=2∧agT ck role=true):=by
 simp only [Vf]at h
 cases h0:k==0 with
 |true=>rw [h0]at h;simp at h;exact .inl ⟨beq_iff_eq.1 h0,h.1⟩
 |false=>
  cases h1:k==1 with
  |true=>rw [h0,h1]at h;simp at h;exact .inr (.inl ⟨beq_iff_eq.1 h1,h.1.1,h.1.2⟩)
  |false=>
   cases h2:k==2 with
   |true=>rw [h0,h1,h2]at h;simp at h;exact .inr (.inr ⟨beq_iff_eq.1 h2,h.2⟩)
   |false=>rw [h0,h1,h2]at h;cases h
theorem akM{α:Type}(b:Bool)(x:α):(bif b then x else x)=x:=by cases b <;> rfl
theorem anK{n mode day:Int}{ps:LI}{fs:L3}{rs:List LI}{lf:L3}{pl ls:L2}(f:RideF n mode day ps fs rs lf pl ls){k t rk row ck role:Int}{key:Bool}(h:Vf ps rs k t rk row ck role key=true):
  QO n mode day k t rk row ck role key ps fs rs lf pl ls=n∧QP n mode day k t rk row ck role key ps fs rs lf pl ls=stM mode day pl ls k ck role key∧
  QQ n mode day k t rk row ck role key ps fs rs lf pl ls=day∧QR n mode day k t rk row ck role key ps fs rs lf pl ls=stV n mode day ps fs rs lf pl ls k t rk row ck role key∧
  QS n mode day k t rk row ck role key ps fs rs lf pl ls=stP n mode ps fs rs lf k t∧QT n mode day k t rk row ck role key ps fs rs lf pl ls=fs∧
  QU n mode day k t rk row ck role key ps fs rs lf pl ls=stR n ps rs k t rk row∧QV n mode day k t rk row ck role key ps fs rs lf pl ls=lf∧
  QW n mode day k t rk row ck role key ps fs rs lf pl ls=pl∧QX n mode day k t rk row ck role key ps fs rs lf pl ls=ls∧
  NH n mode day k t rk row ck role key ps fs rs lf pl ls=true:=by
 obtain⟨o1,o2⟩:=aoI n mode day f.cp
 simp only [lF,gK,jS,lG,QO,QP,QQ,QR,QS,QT,QU,QV,QW,QX,NH,o1,o2,jT,stM,stV,stP,stR]
 rcases Se h with⟨rfl,ht⟩ | ⟨rfl,ht,hr⟩ | ⟨rfl,hc⟩
 ·obtain⟨m1,m2⟩:=aoH f ht
  have hm:ZJ n ps t=true:=by rw [ZJ,f.hT,ht];rfl
  simp [m1,m2,hm,allT]
 ·obtain⟨t1,t2,t3,t4,t5⟩:=f.tn ht
  obtain⟨_,r1,r2⟩:=f.rd ht
  have hrn:ahv (rs[t.toNat]?.getD []) rk row=true:=by rw [ahv,r1,r2,hr];rfl
  have e1:BR t ps=true:=by simp only [BR,t1,t2,t3,allT,cond_true]
  simp only [show ∀ x y,cZ x y ps=Mw x y ps from fun _ _=>rfl]
  cases Mw n t ps <;> cases kM (rs[t.toNat]?.getD []) rk row <;> simp [t1,t2,t3,t4,t5,hrn,e1,allT]
 ·have hv:ab6 mode ck=true:=by
   have:=f.hM
   simp only [agT,Bool.and_eq_true]at hc
   rw [ab6,hc.1,re.2 (by omega)];rfl
  have l1:pl.length≤9223372036854775807:=by have:=f.lpl;omega
  have l2:ls.length≤9223372036854775807:=by have:=f.lls;omega
  cases vdC mode ck role key !=0 <;> cases ck==1 <;> cases ahb pl ls day <;> simp [hv,l1,l2,allT]
theorem aqm(rs:List LI)(i:Nat)(h:i < rs.length):rs.set i (rs[i]?.getD [])=rs:=by
 rw [List.getElem?_eq_getElem h,Option.getD_some];exact List.set_getElem_self h
theorem aaA{n mode day:Int}{ps:LI}{fs:L3}{rs:List LI}{lf:L3}{pl ls:L2}(f:RideF n mode day ps fs rs lf pl ls){k t rk row ck role:Int}{key:Bool}(h:Vf ps rs k t rk row ck role key=true):
  da k t rk row ck role key n mode day ps fs rs lf pl ls=stV n mode day ps fs rs lf pl ls k t rk row ck role key∧
  db k t rk row ck role key n mode day ps fs rs lf pl ls=n∧dc k t rk row ck role key n mode day ps fs rs lf pl ls=stM mode day pl ls k ck role key∧
  dd k t rk row ck role key n mode day ps fs rs lf pl ls=day∧de k t rk row ck role key n mode day ps fs rs lf pl ls=stP n mode ps fs rs lf k t∧
  df k t rk row ck role key n mode day ps fs rs lf pl ls=fs∧dg k t rk row ck role key n mode day ps rs pl ls=stR n ps rs k t rk row∧
  dh k t rk row ck role key n mode day ps fs rs lf pl ls=lf∧di k t rk row ck role key n mode day ps fs rs lf pl ls=pl∧
  dj k t rk row ck role key n mode day ps fs rs lf pl ls=ls∧ey k t rk row ck role key n mode day ps fs rs lf pl ls=true:=by
 rcases Se h with⟨rfl,ht⟩ | ⟨rfl,ht,hr⟩ | ⟨rfl,hc⟩
 ·obtain⟨m1,m2⟩:=aoh f ht
  refine⟨?_,?_,?_,?_,?_,?_,?_,?_,?_,?_,?_⟩
  ·simp [da,m1,stV]
  ·simp [db,qI,akM]
  ·simp [dc,qJ,akM,stM]
  ·simp [dd,qK,akM]
  ·simp only [de,qL,aB,g9,aW,ak,jT,aju,stP,abg]
   cases hs:Mw n t ps <;> cases Int.tmod (ps[t.toNat]?.getD 0) 3==1 <;> cases mode !=3 <;> cases adD n ps (DD n ps fs 0) (DD n ps fs 1) t <;> cases hb:Qg (rs[t.toNat]?.getD []) lf <;> simp [hb]
  ·simp [df,qM,akM]
  ·simp [dg,stR]
  ·simp [dh,qN,qr,akM]
  ·simp [di,qO,akM]
  ·simp [dj,qP,akM]
  ·simp [ey,m2,allT]
 ·obtain⟨t1,t2,t3,t4,t5⟩:=f.tn ht
  obtain⟨_,r1,r2⟩:=f.rd ht
  have hrn:ahv (rs[t.toNat]?.getD []) rk row=true:=by rw [ahv,r1,r2,hr];rfl
  have e1:bT t ps=true:=by simp only [bT,t1,t2,t3,allT,cond_true]
  have hset:=aqm rs t.toNat (by have:=HL.1 t5;omega)
  simp only [da,db,dc,dd,de,df,dg,dh,di,dj,ey,aC,mT,nL,nM,nN,nO,nP,nQ,nR,nT,nU,nV,mS,jT,aju,stM,stV,stP,stR]
  cases Mw n t ps <;> cases kM (rs[t.toNat]?.getD []) rk row <;> simp [t1,t2,t3,t4,t5,hrn,e1,hset,allT]
 ·have hv:ab6 mode ck=true:=by
   have:=f.hM
   simp only [agT,Bool.and_eq_true]at hc
   rw [ab6,hc.1,re.2 (by omega)];rfl
  have l1:pl.length≤9223372036854775807:=by have:=f.lpl;omega
  have l2:ls.length≤9223372036854775807:=by have:=f.lls;omega
  simp only [da,db,dc,dd,de,df,dg,dh,di,dj,ey,aQ,aV,dr,oO,oP,oQ,oR,oS,oT,oU,oV,oW,oX,nK,stM,stV,stP,stR]
  cases vdC mode ck role key !=0 <;> cases ck==1 <;> cases ahb pl ls day <;> simp [hv,l1,l2,allT]
end Go.SX

namespace Go.SX
open Go.Proofs
set_option maxRecDepth 100000
theorem ahD(st:LI)(k row:Int):(QY st k row).length=st.length:=by
 unfold QY;cases k==0||k==1 <;> simp
theorem aoK{st:LI}{k row:Int}(h:areR st=true)(hk:(k=0∨k=1)∨k=2∨k=3):areR (QY st k row)=true:=by
 obtain⟨h1,h2⟩:=DU.1 h
 refine DU.2 ⟨by rw [ahD];exact h1,fun v hv=> ?_⟩
 unfold QY at hv
 rcases hk with hk | rfl | rfl
 ·rw [show (k==0||k==1)=true from by rcases hk with rfl | rfl <;> rfl,cond_true]at hv
  rcases List.mem_or_eq_of_mem_set hv with hv | rfl
  ·exact h2 v hv
  ·omega
 ·simp at hv;omega
 ·simp at hv;omega
theorem aru{rs:List LI}{i:Nat}{v:LI}(h:rsOk rs=true)(hv:areR v=true)(hl:(v.length:Int)=rowsR rs)(hi:i < rs.length):rowsR (rs.set i v)=rowsR rs∧rsOk (rs.set i v)=true:=by
 have h1:rowsR (rs.set i v)=rowsR rs:=by
  unfold rowsR
  rw [List.getElem?_set]
  cases i with
  |zero=>rw [if_pos rfl,if_pos hi,Option.getD_some];exact hl
  |succ i=>simp
 refine⟨h1,?_⟩
 simp only [rsOk,List.all_eq_true,Bool.and_eq_true,beq_iff_eq]at h ⊢
 intro x hx
 rw [h1]
 rcases List.mem_or_eq_of_mem_set hx with hx | rfl
 ·exact h x hx
 ·exact⟨hv,hl⟩
theorem aq4: ∀ a:Fin 10,0≤toC (a.val:Int)∧toC (a.val:Int)≤5:=by decide
theorem aoL{n mode day:Int}{ps:LI}{fs:L3}{rs:List LI}{lf:L3}{pl ls:L2}(f:RideF n mode day ps fs rs lf pl ls){k t rk row ck role:Int}{key:Bool}(h:Vf ps rs k t rk row ck role key=true):
  RideF n (stM mode day pl ls k ck role key) day (stP n mode ps fs rs lf k t) fs (stR n ps rs k t rk row) lf pl ls∧rowsR (stR n ps rs k t rk row)=rowsR rs∧(stP n mode ps fs rs lf k t).length=ps.length:=by
 have hp:isT n (stP n mode ps fs rs lf k t)=true∧(stP n mode ps fs rs lf k t).length=ps.length:=by
  unfold stP
  cases k==0&&abg n mode ps fs rs lf t==0 with
  |true=>exact⟨aqN f.hT t,aiT n ps t⟩
  |false=>exact⟨f.hT,rfl⟩
 have hr:rsOk (stR n ps rs k t rk row)=true∧rowsR (stR n ps rs k t rk row)=rowsR rs∧(stR n ps rs k t rk row).length=rs.length:=by
  unfold stR
  cases hc: !(k==0)&&(k==1&&(Mw n t ps&&kM (rs[t.toNat]?.getD []) rk row))with
  |false=>exact⟨f.hR,rfl,rfl⟩
  |true=>
   simp only [Bool.and_eq_true,beq_iff_eq]at hc
   rcases Se h with⟨rfl,_⟩ | ⟨rfl,ht,hb⟩ | ⟨rfl,_⟩
   ·simp at hc
   ·obtain⟨_,r1,r2⟩:=f.rd ht
    have hrn:ahv (rs[t.toNat]?.getD []) rk row=true:=by rw [ahv,r1,r2,hb];rfl
    have hk:=(akI hrn).2.2
    have hi:t.toNat < rs.length:=HL.1 (f.tn ht).2.2.2.2
    obtain⟨q1,q2⟩:=aru (v:=QY (rs[t.toNat]?.getD []) rk row) f.hR (aoK r1 (by rcases hk with hk | hk;exact .inl hk.1;exact .inr hk.1)) (by rw [ahD];exact r2) hi
    exact⟨q2,q1,by simp⟩
   ·have:=hc.2.1;cases this
 have hm:0≤stM mode day pl ls k ck role key∧stM mode day pl ls k ck role key≤5:=by
  unfold stM
  cases hc:k==0||(k==1||(vdC mode ck role key !=0||(ck==1&& !ahb pl ls day)))with
  |true=>exact f.hM
  |false=>
   rcases Se h with⟨rfl,_⟩ | ⟨rfl,_,_⟩ | ⟨rfl,hcm⟩
   ·simp at hc
   ·simp at hc
   ·rw [cond_false,nxC]
    cases vdC mode ck role key==0 with
    |false=>exact f.hM
    |true=>
     simp only [agT,Bool.and_eq_true,re]at hcm
     have:=aq4 ⟨ck.toNat,by omega⟩
     simp only [Int.toNat_of_nonneg hcm.1.1]at this
     exact this
 refine⟨⟨hp.1,f.hF,by rw [hr.2.2,hp.2];exact f.hl,hr.1,by rw [hr.2.1];exact f.hL,hm,f.hP,f.hK,f.hD,f.n1,by rw [hp.2];exact f.lp,f.lfs,f.llf,f.lpl,f.lls,fun x hx=> ?_⟩,hr.2.1,hp.2⟩
 have h4:=hr.1
 simp only [rsOk,List.all_eq_true,Bool.and_eq_true,beq_iff_eq]at h4
 exact h4 x hx
end Go.SX

namespace Go.SX
open Go.Proofs
set_option maxRecDepth 100000
theorem anR{A B S:Type}{f:B→A→Nat ⊕ A}{g:S→B→S}{emb:S→A}{Inv:S→Prop}{e:Nat}: ∀ {r:List B} {i:Nat} {s:S},(∀ b∈r,∀ s,Inv s→f b (emb s)= .inr (emb (g s b))∧Inv (g s b))→Inv s→
  aU f e r i (emb s)=(e,i + r.length,emb (r.foldl g s))∧Inv (r.foldl g s)
 | [],i,s,_,h=>⟨rfl,h⟩
 |b::r,i,s,hf,h=>by
  obtain⟨h1,h2⟩:=hf b (by simp) s h
  obtain⟨g1,g2⟩:=anR (r:=r) (i:=i + 1) (s:=g s b) (e:=e) (fun c hc=>hf c (by simp [hc])) h2
  refine⟨?_,g2⟩
  simp only [aU,h1,g1,List.foldl_cons,List.length_cons]
  rw [Nat.add_right_comm,Nat.add_assoc]
abbrev RS:=Int×LI×List LI×LI×Int
def isX(ps:LI)(rs:List LI)(x:RX):Bool:=Vf ps rs x.1 x.2.1 x.2.2.1.1 x.2.2.1.2 x.2.2.2.1 x.2.2.2.2.1 x.2.2.2.2.2
def vX(n day:Int)(fs lf:L3)(pl ls:L2)(s:RS)(x:RX):Int:=stV n s.1 day s.2.1 fs s.2.2.1 lf pl ls x.1 x.2.1 x.2.2.1.1 x.2.2.1.2 x.2.2.2.1 x.2.2.2.2.1 x.2.2.2.2.2
def stX(n day:Int)(fs lf:L3)(pl ls:L2)(s:RS)(x:RX):RS:=(stM s.1 day pl ls x.1 x.2.2.2.1 x.2.2.2.2.1 x.2.2.2.2.2,stP n s.1 s.2.1 fs s.2.2.1 lf x.1 x.2.1,stR n s.2.1 s.2.2.1 x.1 x.2.1 x.2.2.1.1 x.2.2.1.2,s.2.2.2.1++ [vX n day fs lf pl ls s x],bif x.1==0&&(vX n day fs lf pl ls s x==0&&Mw n x.2.1 s.2.1)then IntKind.i64.wrap (s.2.2.2.2 + 1)else s.2.2.2.2)
theorem ap7{ps ps':LI}{rs rs':List LI}(h1:ps'.length=ps.length)(h2:rowsR rs'=rowsR rs)(x:RX):isX ps' rs' x=isX ps rs x:=by
 simp only [isX,Vf,LF,h1,h2]
def al0(n day:Int)(fs lf:L3)(pl ls:L2)(ps0:LI)(rs0:List LI)(i:Nat)(s:RS):Prop:=RideF n s.1 day s.2.1 fs s.2.2.1 lf pl ls∧s.2.1.length=ps0.length∧rowsR s.2.2.1=rowsR rs0∧s.2.2.2.1.length≤i
theorem ZO{n day:Int}{fs lf:L3}{pl ls:L2}{ps0:LI}{rs0:List LI}{i:Nat}{s:RS}(hI:al0 n day fs lf pl ls ps0 rs0 i s){x:RX}(hx:isX ps0 rs0 x=true):
  isX s.2.1 s.2.2.1 x=true∧al0 n day fs lf pl ls ps0 rs0 (i + 1) (stX n day fs lf pl ls s x):=by
 obtain⟨f,h1,h2,h3⟩:=hI
 have hx':isX s.2.1 s.2.2.1 x=true:=by rw [ap7 h1 h2];exact hx
 obtain⟨k1,k2,k3⟩:=aoL f hx'
 refine⟨hx',k1,by rw [← h1];exact k3,by rw [← h2];exact k2,?_⟩
 simp only [stX,List.length_append,List.length_cons,List.length_nil];omega
end Go.SX

namespace Go.SX
open Go.Proofs
set_option maxRecDepth 100000
abbrev rb:=Int×List Int×Int×Int
section
variable (y0:Int)(y1:List Int)
def JW:Bool:=bif ltI y0 (↑y1.length:Int)then ltI y0 (64:Int)else false
def Xl:Bool:=leI (0:Int) y0
def Xm:Bool:=ltI y0 (↑y1.length:Int)
def Xn:Bool:=ltN y0.toNat y1.length
end
def Xo:Bool:=neI (2147483647:Int) (0:Int)
def Xp(y0:Int):Int:=IntKind.wrap .i64 (y0 + (1:Int))
def Xq(y0:Int)(y1:List Int)(y3:Int):Int:=Int.tmod (IntKind.wrap .i64 (IntKind.wrap .i64 (y3 * (59:Int)) + IntKind.wrap .i64 (Option.getD y1[Int.toNat y0]? (0:Int)))) (2147483647:Int)
def afm:rb→List (Nat×SV)
 |(y0,_,_,_)=> [(4,(.one ⟨false,[(.val (.int .i64 y0))]⟩)),(0,(.one ⟨false,[(.ref 0)]⟩)),(3,(.one ⟨false,[(.ptr 1 0)]⟩))]
def afe:rb→List (Nat×Entry)
 |(_,y1,y2,y3)=> [(0,(.row false 5 ash y1)),(1,(.box 157 [(.ref 0),(.val (.int .i64 y2)),(.val (.int .i64 y3))]))]
def afC:Nat→rb→List (Nat×SV)
 |_,(_,_,_,_)=> []
def afu:Nat→rb→List (Nat×Entry)
 |_,(_,y1,y2,y3)=> [(0,(.row false 5 ash y1)),(1,(.box 157 [(.ref 0),(.val (.int .i64 y2)),(.val (.int .i64 y3))]))]
def CO:rb→LT rb
 |(y0,y1,y2,y3)=> .ite (JW y0 y1) (.need [(Xl y0),(Xm y0 y1),(Xn y0 y1),(Xo)] (.nrm ((Xp y0),y1,y2,(Xq y0 y1 y3)) [(0,0),(1,1)])) (.ext 0 [(0,0),(1,1)])
def NY(s:St):Option rb:=
 (match s.look 4 with
 |some ⟨none,(.one ⟨false,[(.val (.int .i64 y0))]⟩)⟩=>
 (match s.look 0 with
 |some ⟨none,(.one ⟨false,[(.ref 0)]⟩)⟩=>
 (match s.look 3 with
 |some ⟨none,(.one ⟨false,[(.ptr 320 0)]⟩)⟩=>
 (match s.ent 0 with
 |some (.row false 5 (.int IntKind.u8) y1)=>
 (match s.ent 320 with
 |some (.box 157 [(.ref 0),(.val (.int .i64 y2)),(.val (.int .i64 y3))])=>
 some (y0,y1,y2,y3)
 |_=>none)
 |_=>none)
 |_=>none)
 |_=>none)
 |_=>none)
def mw:Lp rb where
 h:=⟨[8,9,10,11,12,13,14,15,18,19,20,21,22,23,24,25,26,27,28,29,30,31,32,16,17,4],[0,1],[],[]⟩
 JL:=afm
 JE:=afe
 XL:=afC
 XE:=afu
 q:=fun j=>match j with | _=> .exit 0
 tags:= [0]
 lt:=CO
 fuel:=fun(y0,y1,y2,y3)=>y0.natAbs + y1.length + y2.natAbs + y3.natAbs
 fix:=fun(_,y1,y2,_) (y0,_,_,y3)=>(y0,y1,y2,y3)
 σ:= [(0,0),(1,320)]
 rd:=NY
theorem adg:LoopOk Tryz.prog (fun k=>Nat.blt k Tryz.f50.ntmps) mw.F (aT Tryz.f50 0):=by
 refine Lp.ok (tbl:= []) (lf:= []) aS mw (by kernel_rfl) (LOk.nil _) (fun _=>rfl) (fun _ _=>rfl) ?_ ?_ ?_ ?_ (fun _=>rfl) ?_
 ·rintro⟨y0,y1,y2,y3⟩;kernel_rfl
 ·rintro⟨y0,y1,y2,y3⟩;kernel_rfl
 ·intro s x h
  have h:NY s=some x:=h
  unfold NY at h
  repeat' split at h
  all_goals cases h
  exact⟨aa (by assumption) rfl (aa (by assumption) rfl (aa (by assumption) rfl (rfl))),ab rfl (by assumption) rfl (ab rfl (by assumption) rfl (rfl))⟩
 ·rintro⟨y0,y1,y2,y3⟩;kernel_rfl
 ·rintro⟨y0,y1,y2,y3⟩ z;exact(And.intro rfl trivial)
section
variable (x0:List Int)
def IM:Int×List Int×Int×Int:=((0:Int),x0,(0:Int),(52021:Int))
def Le:Int:=(Lp.res mw (IM x0)).2.2.2.2
def Qm:Bool:=allT [Lp.fin mw (IM x0)]
end
def acb:List SV→List Entry→Option Out
 | [.one ⟨false,[.ref 0]⟩],[.row false 5 (.int .u8) x0]=>some ⟨(.one ⟨false,[(.ptr 1 0)]⟩),[(.row false 5 ash x0)],[(.box 157 [(.ref 0),(.val (.int .i64 (0:Int))),(.val (.int .i64 (Le x0)))])],[(Qm x0)]⟩
 |_,_=>none
def akq:PF Tryz.prog:=PF.ofG Tryz.prog [] [mw.F] aS 50 Tryz.f50 Tryz.func50 (LOk.fnT (l:= [aT Tryz.f50 0]) (by kernel_rfl) (.cons adg (.nil _))) acb (by
 intro vs es r h;unfold acb at h;split at h
 ·cases h;kernel_rfl
 ·cases h)
section
variable (x0 x1 x2:Int)(x3:List Int)
def DO:Int:=IntKind.wrap .i64 (x1 + (1:Int))
def IO:Bool:=bif leI x0 (256:Int)then Int.tmod (DO x1) (2:Int)==(0:Int)else false
def DP:Int:=IntKind.wrap .i64 (DO x1 - (1:Int))
def vl:Int:=Int.tmod (IntKind.wrap .i64 (IntKind.wrap .i64 (x2 * (48271:Int)) + (29:Int))) (2147483647:Int)
def jl:Int:=bif leI x0 (1:Int)then(0:Int)else Int.tmod (bif ltI x1 (↑x3.length:Int)then bif IO x0 x1 then IntKind.wrap .i64 (Option.getD x3[Int.toNat (DP x1)]? (0:Int))else IntKind.wrap .i64 (IntKind.wrap .i64 (Int.tdiv (vl x2) (31:Int)) + IntKind.wrap .i64 (Option.getD x3[Int.toNat x1]? (0:Int)))else IntKind.wrap .i64 (Int.tdiv (vl x2) (31:Int))) x0
def CY:Int:=bif leI x0 (1:Int)then x1 else bif ltI x1 (↑x3.length:Int)then DO x1 else x1
def CZ:Int:=bif leI x0 (1:Int)then x2 else bif ltI x1 (↑x3.length:Int)then vl x2 else vl x2
def Da:Bool:=allT [leI x0 (1:Int)||neI (2147483647:Int) (0:Int),leI x0 (1:Int)||neI (31:Int) (0:Int),leI x0 (1:Int)||(!ltI x1 (↑x3.length:Int)||leI (0:Int) x1),leI x0 (1:Int)||(!ltI x1 (↑x3.length:Int)||ltI x1 (↑x3.length:Int)),leI x0 (1:Int)||(!ltI x1 (↑x3.length:Int)||ltN x1.toNat x3.length),leI x0 (1:Int)||(!ltI x1 (↑x3.length:Int)||(!(leI x0 (256:Int)&&true)||neI (2:Int) (0:Int))),leI x0 (1:Int)||(!ltI x1 (↑x3.length:Int)||(!IO x0 x1||leI (0:Int) (DP x1))),leI x0 (1:Int)||(!ltI x1 (↑x3.length:Int)||(!IO x0 x1||ltI (DP x1) (↑x3.length:Int))),leI x0 (1:Int)||(!ltI x1 (↑x3.length:Int)||(!IO x0 x1||ltN (Int.toNat (DP x1)) x3.length)),leI x0 (1:Int)||neI x0 (0:Int)]
end
def acd:List SV→List Entry→Option Out
 | [.one ⟨false,[.ptr 0 0]⟩,.one ⟨false,[.val (.int .i64 x0)]⟩],[.box 157 [.ref 1,.val (.int .i64 x1),.val (.int .i64 x2)],.row false 5 (.int .u8) x3]=>some ⟨(.one ⟨false,[(.val (.int .i64 (jl x0 x1 x2 x3)))]⟩),[(.box 157 [(.ref 1),(.val (.int .i64 (CY x0 x1 x3))),(.val (.int .i64 (CZ x0 x1 x2 x3)))]),(.row false 5 ash x3)],[],[(Da x0 x1 x3)]⟩
 |_,_=>none
def PR:PF Tryz.prog:=PF.ofG Tryz.prog [] [] aS 52 Tryz.f52 Tryz.func52 (fun c _=>LOk.nil c) acd (by
 intro vs es r h;unfold acd at h;split at h
 ·cases h;kernel_rfl
 ·cases h)
section
variable (x0 x1:Int)(x2 x3:List Int)
def Qn:Int:=Option.getD x2[Int.toNat (jl (↑x2.length:Int) x0 x1 x3)]? (0:Int)
def VX:Int:=CY (↑x2.length:Int) x0 x3
def VY:Int:=CZ (↑x2.length:Int) x0 x1 x3
def Qo:Bool:=allT [Da (↑x2.length:Int) x0 x3,leI (0:Int) (jl (↑x2.length:Int) x0 x1 x3),ltI (jl (↑x2.length:Int) x0 x1 x3) (↑x2.length:Int),ltN (Int.toNat (jl (↑x2.length:Int) x0 x1 x3)) x2.length]
end
def ace:List SV→List Entry→Option Out
 | [.one ⟨false,[.ptr 0 0]⟩,.one ⟨false,[.ref 1]⟩],[.box 157 [.ref 2,.val (.int .i64 x0),.val (.int .i64 x1)],.row false 2 (.int .i64) x2,.row false 5 (.int .u8) x3]=>some ⟨(.one ⟨false,[(.val (.int .i64 (Qn x0 x1 x2 x3)))]⟩),[(.box 157 [(.ref 2),(.val (.int .i64 (VX x0 x2 x3))),(.val (.int .i64 (VY x0 x1 x2 x3)))]),(.row false 2 asg x2),(.row false 5 ash x3)],[],[(Qo x0 x1 x2 x3)]⟩
 |_,_=>none
def akr:PF Tryz.prog:=PF.ofG Tryz.prog [PR,PF.lend PR,PF.fz PR] [] aS 67 Tryz.f67 Tryz.func67 (fun c _=>LOk.nil c) ace (by
 intro vs es r h;unfold ace at h;split at h
 ·cases h;kernel_rfl
 ·cases h)
end Go.SX

namespace Go.SX
open Go.Proofs
set_option maxRecDepth 100000
def aD(a s:Int)(c:List Int):Bool:=(leI 0 a&&leI a 4096)&&((leI 0 s&&ltI s 2147483647)&&(leN c.length 4096&&c.all fun x=>inR x 0 255))
theorem adY{a s:Int}{c:List Int}:aD a s c=true↔(0≤a∧a≤4096)∧(0≤s∧s < 2147483647)∧c.length≤4096∧ ∀ x∈c,0≤x∧x≤255:=by
 simp only [aD,Bool.and_eq_true,aE,aH,c8,List.all_eq_true,re]
theorem aac{x n:Int}(h:0≤x)(hn:0 < n):0≤Int.tmod x n∧Int.tmod x n < n:=by
 rw [Int.tmod_eq_emod_of_nonneg h]
 exact⟨Int.emod_nonneg _ (by omega),Int.emod_lt_of_pos _ hn⟩
theorem apO{code:List Int}(hb: ∀ x∈code,0≤x∧x≤255)(i:Nat):0≤(code[i]?.getD 0)∧(code[i]?.getD 0)≤255:=by
 cases h:code[i]? with
 |none=>simp
 |some x=>exact hb x (List.mem_of_getElem? h)
def nxV(n a s:Int)(c:List Int):Int:=jl n a s c
def nxA(n a:Int)(c:List Int):Int:=CY n a c
def nxS(n a s:Int)(c:List Int):Int:=CZ n a s c
theorem ahi(n:Int){a s:Int}{code:List Int}(h:aD a s code=true):
  Da n a code=true∧aD (nxA n a code) (nxS n a s code) code=true∧0≤nxV n a s code∧(1≤n→nxV n a s code < n):=by
 obtain⟨⟨h0,h1⟩,⟨s0,s1⟩,hn,hb⟩:=adY.1 h
 have hw1:IntKind.i64.wrap (s * 48271)=s * 48271:=aj (by omega) (by omega)
 have hw2:IntKind.i64.wrap (s * 48271 + 29)=s * 48271 + 29:=aj (by omega) (by omega)
 have hw3:IntKind.i64.wrap (a + 1)=a + 1:=aj (by omega) (by omega)
 have hw4:IntKind.i64.wrap (a + 1 - 1)=a:=by rw [aj (by omega) (by omega)];omega
 obtain⟨t0,t1⟩:=aac (x:=s * 48271 + 29) (n:=2147483647) (by omega) (by omega)
 have hd0:0≤Int.tdiv (Int.tmod (s * 48271 + 29) 2147483647) 31:=Int.tdiv_nonneg t0 (by omega)
 have hd1:Int.tdiv (Int.tmod (s * 48271 + 29) 2147483647) 31≤2147483647:=by
  rw [Int.tdiv_eq_ediv_of_nonneg t0];omega
 have hw7:IntKind.i64.wrap (Int.tdiv (Int.tmod (s * 48271 + 29) 2147483647) 31)=Int.tdiv (Int.tmod (s * 48271 + 29) 2147483647) 31:=aj (by omega) (by omega)
 have q1:neI 2147483647 0=true:=by decide
 have q2:neI 31 0=true:=by decide
 have q3:neI 2 0=true:=by decide
 simp only [nxA,nxS,nxV]
 by_cases hq:n≤1
 ·have d:leI n 1=true:=dk hq
  refine⟨by simp [Da,allT,d],?_,by simp [jl,d],fun h=>by simp [jl,d];omega⟩
  simp only [CY,CZ,d,cond_true]
  exact h
 ·have d:leI n 1=false:=arH (by omega)
  have q4:neI n 0=true:=aiV (by omega)
  by_cases hl:a < (code.length:Int)
  ·have dl:ltI a (code.length:Int)=true:=et hl
   obtain⟨c0,c1⟩:=apO hb a.toNat
   have hw5:IntKind.i64.wrap (code[a.toNat]?.getD 0)=code[a.toNat]?.getD 0:=aj (by omega) (by omega)
   have hw6:IntKind.i64.wrap (Int.tdiv (Int.tmod (s * 48271 + 29) 2147483647) 31 + code[a.toNat]?.getD 0)=Int.tdiv (Int.tmod (s * 48271 + 29) 2147483647) 31 + code[a.toNat]?.getD 0:=aj (by omega) (by omega)
   have dn:ltN a.toNat code.length=true:=fJ (by omega)
   have dz:leI 0 a=true:=dk h0
   have hwa:IntKind.i64.wrap a=a:=aj (by omega) (by omega)
   refine⟨?_,?_,?_⟩
   ·simp [Da,DO,DP,allT,d,dl,dn,hw3,hw4,hwa,dz,q1,q2,q3,q4]
   ·simp only [CY,CZ,DO,vl,d,dl,cond_true,cond_false,hw1,hw2,hw3]
    exact adY.2 ⟨⟨by omega,by omega⟩,⟨t0,t1⟩,hn,hb⟩
   ·simp only [jl,IO,DP,DO,vl,d,dl,cond_true,cond_false,hw1,hw2,hw3,hw4,hw5,hw7,hw6]
    cases (bif leI n 256 then Int.tmod (a + 1) 2==0 else false)with
    |true=>
     obtain⟨m0,m1⟩:=aac (x:=code[a.toNat]?.getD 0) (n:=n) c0 (by omega)
     exact⟨m0,fun _=>m1⟩
    |false=>
     obtain⟨m0,m1⟩:=aac (x:=Int.tdiv (Int.tmod (s * 48271 + 29) 2147483647) 31 + code[a.toNat]?.getD 0) (n:=n) (by omega) (by omega)
     exact⟨m0,fun _=>m1⟩
  ·have dl:ltI a (code.length:Int)=false:=aj8 (by omega)
   refine⟨?_,?_,?_⟩
   ·simp [Da,allT,d,dl,q1,q2,q4]
   ·simp only [CY,CZ,vl,d,dl,cond_false,hw1,hw2]
    exact adY.2 ⟨⟨h0,h1⟩,⟨t0,t1⟩,hn,hb⟩
   ·simp only [jl,vl,d,dl,cond_false,hw1,hw2,hw7]
    obtain⟨m0,m1⟩:=aac (x:=Int.tdiv (Int.tmod (s * 48271 + 29) 2147483647) 31) (n:=n) hd0 (by omega)
    exact⟨m0,fun _=>m1⟩
theorem ajc(x0 x1 x2:Int)(x3:List Int)(h:aD x1 x2 x3=true):jl x0 x1 x2 x3=nxV x0 x1 x2 x3∧CY x0 x1 x3=nxA x0 x1 x3∧CZ x0 x1 x2 x3=nxS x0 x1 x2 x3∧Da x0 x1 x3=true:=⟨rfl,rfl,rfl,(ahi x0 h).1⟩
def acG:List SV→List Entry→Option Out
 | [.one ⟨false,[.ptr 0 0]⟩,.one ⟨false,[.val (.int .i64 x0)]⟩],[.box 157 [.ref 1,.val (.int .i64 x1),.val (.int .i64 x2)],.row false 5 (.int .u8) x3]=>some ⟨(.one ⟨false,[(.val (.int .i64 (nxV x0 x1 x2 x3)))]⟩),[(.box 157 [(.ref 1),(.val (.int .i64 (nxA x0 x1 x3))),(.val (.int .i64 (nxS x0 x1 x2 x3)))]),(.row false 5 ash x3)],[],[aD x1 x2 x3]⟩
 |_,_=>none
def ar:PF Tryz.prog:=PF.alt PR acG (by
 intro args es o h hnd;unfold acG at h;split at h
 ·rename_i x0 x1 x2 x3
  cases h
  have hnd:=gO hnd
  have hh:=ajc x0 x1 x2 x3 hnd
  obtain⟨e0,e1,e2,en⟩:=hh
  exact jO rfl (gn en) (by simp only [e0] <;> rfl) (by simp only [e1,e2] <;> rfl) rfl
 ·cases h)
def pkV(a s:Int)(l c:List Int):Int:=Qn a s l c
def pkA(a:Int)(l c:List Int):Int:=VX a l c
def pkS(a s:Int)(l c:List Int):Int:=VY a s l c
theorem apb{a s:Int}{l code:List Int}(h:(aD a s code&&leN 1 l.length)=true):
  Qo a s l code=true∧aD (pkA a l code) (pkS a s l code) code=true∧pkV a s l code∈l:=by
 simp only [Bool.and_eq_true,c8]at h
 obtain⟨n3,n1,n0,nl⟩:=ahi (l.length:Int) h.1
 have nl:=nl (by omega)
 simp only [nxV]at n0 nl
 refine⟨?_,n1,?_⟩
 ·have t1:leI 0 (jl (l.length:Int) a s code)=true:=dk n0
  have t2:ltI (jl (l.length:Int) a s code) (l.length:Int)=true:=et nl
  have t3:ltN (jl (l.length:Int) a s code).toNat l.length=true:=fJ (by omega)
  simp only [Qo,allT,n3,t1,t2,t3,cond_true]
 ·have hlt:(jl (l.length:Int) a s code).toNat < l.length:=by omega
  simp only [pkV,Qn,List.getElem?_eq_getElem hlt,Option.getD_some]
  exact List.getElem_mem hlt
theorem ajd(x0 x1:Int)(x2 x3:List Int)(h:(aD x0 x1 x3&&leN 1 x2.length)=true):Qn x0 x1 x2 x3=pkV x0 x1 x2 x3∧VX x0 x2 x3=pkA x0 x2 x3∧VY x0 x1 x2 x3=pkS x0 x1 x2 x3∧Qo x0 x1 x2 x3=true:=⟨rfl,rfl,rfl,(apb h).1⟩
def acH:List SV→List Entry→Option Out
 | [.one ⟨false,[.ptr 0 0]⟩,.one ⟨false,[.ref 1]⟩],[.box 157 [.ref 2,.val (.int .i64 x0),.val (.int .i64 x1)],.row false 2 (.int .i64) x2,.row false 5 (.int .u8) x3]=>some ⟨(.one ⟨false,[(.val (.int .i64 (pkV x0 x1 x2 x3)))]⟩),[(.box 157 [(.ref 2),(.val (.int .i64 (pkA x0 x2 x3))),(.val (.int .i64 (pkS x0 x1 x2 x3)))]),(.row false 2 asg x2),(.row false 5 ash x3)],[],[aD x0 x1 x3&&leN 1 x2.length]⟩
 |_,_=>none
def au:PF Tryz.prog:=PF.alt akr acH (by
 intro args es o h hnd;unfold acH at h;split at h
 ·rename_i x0 x1 x2 x3
  cases h
  have hnd:=gO hnd
  have hh:=ajd x0 x1 x2 x3 hnd
  obtain⟨e0,e1,e2,en⟩:=hh
  exact jO rfl (gn en) (by simp only [e0] <;> rfl) (by simp only [e1,e2] <;> rfl) rfl
 ·cases h)
def apk(b:Int)(a:Nat×Int):Nat ⊕ (Nat×Int):=bif decide (a.1 < 64)then .inr (a.1 + 1,Int.tmod (a.2 * 59 + b) 2147483647)else .inl 0
def frS(c:List Int):Int:=Le c
theorem ame(code:List Int)(h:aD 0 0 code=true):Qm code=true∧aD 0 (frS code) code=true:=by
 obtain⟨_,_,hn,hb⟩:=adY.1 h
 have key:=air (lt:=CO) (fun i (a:Nat×Int)=>((i:Int),code,(0:Int),a.2)) apk 0 (fun i a=>a.1=i∧0≤a.2∧a.2 < 2147483647) code (fun i b a he hI=>⟨?_,fun a' hf=> ?_⟩) (fun a hI=> ?_) code 0 (0,52021) rfl (by simp) (by decide)
 ·have hres:=mw.run key (aom (by simp only [mw];omega))
  have r1:mw.fin ((0:Int),code,(0:Int),(52021:Int))=true:=hres.1
  have r2:mw.res ((0:Int),code,(0:Int),(52021:Int))=_:=hres.2
  have inv: ∀ (r:List Int) (i:Nat) (a:Nat×Int),(∀ x∈r,0≤x∧x≤255)→0≤a.2∧a.2 < 2147483647→0≤(aU apk 0 r i a).2.2.2∧(aU apk 0 r i a).2.2.2 < 2147483647:=by
   intro r
   induction r with
   |nil=>intro i a _ h;exact h
   |cons b r ih=>
    intro i a hx h
    simp only [aU,apk]
    cases decide (a.1 < 64)with
    |false=>exact h
    |true=>
     have hb:=hx b (by simp)
     exact ih _ _ (fun x hm=>hx x (by simp [hm])) (aac (by omega) (by omega))
  obtain⟨q0,q1⟩:=inv code 0 (0,52021) hb (by decide)
  refine⟨by simp [Qm,IM,allT,r1],adY.2 ⟨by decide,⟨?_,?_⟩,hn,hb⟩⟩
  ·simp only [frS,Le,IM,r2];exact q0
  ·simp only [frS,Le,IM,r2];exact q1
 ·obtain⟨hlt,he⟩:=List.getElem?_eq_some_iff.1 he
  subst he
  obtain⟨h1,h2,h3⟩:=hI
  have hw:=vu hlt (by omega)
  obtain⟨c0,c1⟩:=hb code[i] (List.getElem_mem hlt)
  have hw1:IntKind.i64.wrap (a.2 * 59)=a.2 * 59:=aj (by omega) (by omega)
  have hw2:IntKind.i64.wrap code[i]=code[i]:=aj (by omega) (by omega)
  have hw3:IntKind.i64.wrap (a.2 * 59 + code[i])=a.2 * 59 + code[i]:=aj (by omega) (by omega)
  have q1:neI 2147483647 0=true:=by decide
  have q2:ltI (i:Int) (code.length:Int)=true:=et (by omega)
  have q3:leI 0 (i:Int)=true:=dk (by omega)
  have q4:ltN i code.length=true:=fJ hlt
  simp only [apk,h1]
  by_cases h64:i < 64
  ·have d:decide (i < 64)=true:=decide_eq_true h64
   have d':ltI (i:Int) 64=true:=et (by omega)
   simp [CO,LT.out,allT,JW,Xl,Xm,Xn,Xo,Xp,Xq,hlt,hw,d,d',hw1,hw2,hw3,q1,q2,q3,q4]
  ·have d:decide (i < 64)=false:=decide_eq_false h64
   have d':ltI (i:Int) 64=false:=aj8 (by omega)
   simp [CO,LT.out,JW,d,d']
 ·simp only [apk]at hf
  obtain⟨h1,h2,h3⟩:=hI
  obtain⟨c0,c1⟩:=hb b (List.mem_of_getElem? he)
  cases hd:decide (a.1 < 64)with
  |false=>rw [hd]at hf;cases hf
  |true=>
   rw [hd]at hf
   simp only [cond_true,Sum.inr.injEq]at hf
   subst hf
   obtain⟨m0,m1⟩:=aac (x:=a.2 * 59 + b) (n:=2147483647) (by omega) (by omega)
   exact⟨by simp [h1],m0,m1⟩
 ·simp [CO,LT.out,JW]
theorem ajb(x0:List Int)(h:aD 0 0 x0=true):Le x0=frS x0∧Qm x0=true:=⟨rfl,(ame x0 h).1⟩
def acF:List SV→List Entry→Option Out
 | [.one ⟨false,[.ref 0]⟩],[.row false 5 (.int .u8) x0]=>some ⟨(.one ⟨false,[(.ptr 1 0)]⟩),[(.row false 5 ash x0)],[(.box 157 [(.ref 0),(.val (.int .i64 (0:Int))),(.val (.int .i64 (frS x0)))])],[aD 0 0 x0]⟩
 |_,_=>none
def Vs:PF Tryz.prog:=PF.alt akq acF (by
 intro args es o h hnd;unfold acF at h;split at h
 ·rename_i x0
  cases h
  have hnd:=gO hnd
  have hh:=ajb x0 hnd
  obtain⟨e0,en⟩:=hh
  exact jO rfl (gn en) rfl rfl (by simp only [e0] <;> rfl)
 ·cases h)
end Go.SX

namespace Go.SX
open Go.Proofs
set_option maxRecDepth 100000
abbrev rc:=Int×Int×Int×Int×Int×List Int×List Int
section
variable (y0 y1 y2 y3 y4:Int)(y5 y6:List Int)
def Wc:Int:=pkV y3 y4 [(0:Int),(1:Int),(1:Int),(2:Int)] y6
def Dg:List Int:= [IntKind.wrap .i64 (IntKind.wrap .i64 ((3:Int) * Int.tmod y1 y2) + Wc y3 y4 y6)]
def Dh:Int:=pkA y3 [(0:Int),(1:Int),(1:Int),(2:Int)] y6
def HZ:Int:=pkS y3 y4 [(0:Int),(1:Int),(1:Int),(2:Int)] y6
def Qq:Bool:=ltI (0:Int) y0
def Xr:Bool:=aD y3 y4 y6&&leN (1:Nat) (List.length [(0:Int),(1:Int),(1:Int),(2:Int)])
def Xs:Bool:=neI y2 (0:Int)
def Xt:Bool:=leN (List.length y5 + List.length (Dg y1 y2 y3 y4 y6)) (9223372036854775807:Nat)
def Xu:Bool:=leN ((List.length y5 + List.length (Dg y1 y2 y3 y4 y6)) * (8:Nat)) (140737488355328:Nat)
end
def Qr:Bool:=neI (2:Int) (0:Int)
section
variable (y0 y1 y2 y3 y4:Int)(y5 y6:List Int)
def Xv:Bool:=aD (Dh y3 y6) (HZ y3 y4 y6) y6
def Xw:Int:=IntKind.wrap .i64 (y0 - (1:Int))
def ahC:Int:=IntKind.wrap .i64 (IntKind.wrap .i64 (IntKind.wrap .i64 (y1 + (1:Int)) + IntKind.wrap .i64 (Int.tdiv (Wc y3 y4 y6) (2:Int))) + IntKind.wrap .i64 (Int.tdiv (nxV (3:Int) (Dh y3 y6) (HZ y3 y4 y6) y6) (2:Int)))
def Xx:Int:=nxA (3:Int) (Dh y3 y6) y6
def Wa:Int:=nxS (3:Int) (Dh y3 y6) (HZ y3 y4 y6) y6
def Wb:List Int:=y5++Dg y1 y2 y3 y4 y6
end
def afn:rc→List (Nat×SV)
 |(y0,y1,y2,_,_,_,_)=> [(6,(.one ⟨false,[(.val (.int .i64 y0))]⟩)),(0,(.one ⟨false,[(.ptr 0 0)]⟩)),(4,(.one ⟨false,[(.ref 1)]⟩)),(5,(.one ⟨false,[(.val (.int .i64 y1))]⟩)),(3,(.one ⟨false,[(.val (.int .i64 y2))]⟩))]
def aff:rc→List (Nat×Entry)
 |(_,_,_,y3,y4,y5,y6)=> [(0,(.box 157 [(.ref 2),(.val (.int .i64 y3)),(.val (.int .i64 y4))])),(2,(.row false 5 ash y6)),(1,(.row true 2 asg y5))]
def afD:Nat→rc→List (Nat×SV)
 |_,(_,_,_,_,_,_,_)=> [(4,(.one ⟨false,[(.ref 1)]⟩))]
def afv:Nat→rc→List (Nat×Entry)
 |_,(_,_,_,y3,y4,y5,y6)=> [(0,(.box 157 [(.ref 2),(.val (.int .i64 y3)),(.val (.int .i64 y4))])),(1,(.row true 2 asg y5)),(2,(.row false 5 ash y6))]
def NN:rc→LT rc
 |(y0,y1,y2,y3,y4,y5,y6)=> .ite (Qq y0) (.need [(Xr y3 y4 y6)] (.need [(Xs y2),(Xt y1 y2 y3 y4 y5 y6),(Xu y1 y2 y3 y4 y5 y6)] (.need [(Qr),(Xv y3 y4 y6),(Qr)] (.nrm ((Xw y0),(ahC y1 y3 y4 y6),y2,(Xx y3 y6),(Wa y3 y4 y6),(Wb y1 y2 y3 y4 y5 y6),y6) [(0,0),(1,960),(2,2)])))) (.ext 0 [(0,0),(1,1),(2,2)])
def NZ(s:St):Option rc:=
 (match s.look 6 with
 |some ⟨none,(.one ⟨false,[(.val (.int .i64 y0))]⟩)⟩=>
 (match s.look 0 with
 |some ⟨none,(.one ⟨false,[(.ptr 0 0)]⟩)⟩=>
 (match s.look 4 with
 |some ⟨none,(.one ⟨false,[(.ref 512)]⟩)⟩=>
 (match s.look 5 with
 |some ⟨none,(.one ⟨false,[(.val (.int .i64 y1))]⟩)⟩=>
 (match s.look 3 with
 |some ⟨none,(.one ⟨false,[(.val (.int .i64 y2))]⟩)⟩=>
 (match s.ent 0 with
 |some (.box 157 [(.ref 1),(.val (.int .i64 y3)),(.val (.int .i64 y4))])=>
 (match s.ent 1 with
 |some (.row false 5 (.int IntKind.u8) y6)=>
 (match s.ent 512 with
 |some (.row true 2 (.int .i64) y5)=>
 some (y0,y1,y2,y3,y4,y5,y6)
 |_=>none)
 |_=>none)
 |_=>none)
 |_=>none)
 |_=>none)
 |_=>none)
 |_=>none)
 |_=>none)
def ir:Lp rc where
 h:=⟨[20,21,24,25,26,7,27,28,29,30,31,32,33,34,35,4,36,37,38,39,40,41,42,43,44,5,22,23,6],[0,2],[1],[]⟩
 JL:=afn
 JE:=aff
 XL:=afD
 XE:=afv
 q:=fun j=>match j with | _=> .exit 0
 tags:= [0]
 lt:=NN
 fuel:=fun(y0,y1,y2,y3,y4,y5,y6)=>y0.natAbs + y1.natAbs + y2.natAbs + y3.natAbs + y4.natAbs + y5.length + y6.length
 fix:=fun(_,_,y2,_,_,_,y6) (y0,y1,_,y3,y4,y5,_)=>(y0,y1,y2,y3,y4,y5,y6)
 σ:= [(0,0),(2,1),(1,512)]
 rd:=NZ
theorem adh:LoopOk Tryz.prog (fun k=>Nat.blt k Tryz.f137.ntmps) ir.F (aT Tryz.f137 0):=by
 refine Lp.ok (tbl:= [ar,PF.lend ar,PF.fz ar,au,PF.lend au,PF.fz au]) (lf:= []) aS ir (by kernel_rfl) (LOk.nil _) (fun _=>rfl) (fun _ _=>rfl) ?_ ?_ ?_ ?_ (fun _=>rfl) ?_
 ·rintro⟨y0,y1,y2,y3,y4,y5,y6⟩;kernel_rfl
 ·rintro⟨y0,y1,y2,y3,y4,y5,y6⟩;kernel_rfl
 ·intro s x h
  have h:NZ s=some x:=h
  unfold NZ at h
  repeat' split at h
  all_goals cases h
  exact⟨aa (by assumption) rfl (aa (by assumption) rfl (aa (by assumption) rfl (aa (by assumption) rfl (aa (by assumption) rfl (rfl))))),ab rfl (by assumption) rfl (ab rfl (by assumption) rfl (ab rfl (by assumption) rfl (rfl)))⟩
 ·rintro⟨y0,y1,y2,y3,y4,y5,y6⟩;kernel_rfl
 ·rintro⟨y0,y1,y2,y3,y4,y5,y6⟩ z;exact(And.intro rfl trivial)
section
variable (x0 x1:Int)(x2:List Int)
def b4:Int:=IntKind.wrap .i64 ((2:Int) + nxV (5:Int) x0 x1 x2)
def jj:Int:=ajW (b4 x0 x1 x2) (4:Int) (b4 x0 x1 x2) (4:Int)
def lE:Int:=nxA (b4 x0 x1 x2) (nxA (5:Int) x0 x2) x2
def ql:Int:=nxS (b4 x0 x1 x2) (nxA (5:Int) x0 x2) (nxS (5:Int) x0 x1 x2) x2
def DQ:Int×Int×Int×Int×Int×List Int×List Int:=(IntKind.wrap .i64 ((1:Int) + nxV (jj x0 x1 x2) (lE x0 x1 x2) (ql x0 x1 x2) x2),nxV (b4 x0 x1 x2) (nxA (5:Int) x0 x2) (nxS (5:Int) x0 x1 x2) x2,b4 x0 x1 x2,nxA (jj x0 x1 x2) (lE x0 x1 x2) x2,nxS (jj x0 x1 x2) (lE x0 x1 x2) (ql x0 x1 x2) x2,[],x2)
def IP:Int×Int×List Int×List Int:=(Lp.res ir (DQ x0 x1 x2)).2.2.2.2
def b5:Int:=(IP x0 x1 x2).1
def vm:Int×List Int×List Int:=(IP x0 x1 x2).2
def Nx:Int:=nxV (40:Int) (b5 x0 x1 x2) ((vm x0 x1 x2).1) x2
def gI:Bool:=Nx x0 x1 x2==(0:Int)
def i9:Int:=nxS (40:Int) (b5 x0 x1 x2) ((vm x0 x1 x2).1) x2
def gp:Bool:=Nx x0 x1 x2==(1:Int)
def lQ:Bool:=Nx x0 x1 x2==(2:Int)
def BE:Bool:=Nx x0 x1 x2==(3:Int)
def ZZ:Int:=IntKind.wrap .i64 ((3:Int) * b4 x0 x1 x2)
def BF:List Int:= [(-1:Int),IntKind.wrap .i64 (ZZ x0 x1 x2 - (1:Int)),ZZ x0 x1 x2]
def lR:List Int:=((vm x0 x1 x2).2).1
def jQ:Int:=IntKind.wrap .i64 ((4:Int) + nxV (2:Int) (nxA (40:Int) (b5 x0 x1 x2) x2) (i9 x0 x1 x2) x2)
def LS:Bool:=aD (nxA (40:Int) (b5 x0 x1 x2) x2) (i9 x0 x1 x2) x2
def jm:Int:=bif gI x0 x1 x2 then pkV (nxA (40:Int) (b5 x0 x1 x2) x2) (i9 x0 x1 x2) [(1:Int),(8:Int),(9:Int)] x2 else bif gp x0 x1 x2 then b4 x0 x1 x2 else bif lQ x0 x1 x2 then b4 x0 x1 x2 else bif BE x0 x1 x2 then b4 x0 x1 x2 else b4 x0 x1 x2
def lP:Int:=bif gI x0 x1 x2 then pkA (nxA (40:Int) (b5 x0 x1 x2) x2) [(1:Int),(8:Int),(9:Int)] x2 else bif gp x0 x1 x2 then pkA (nxA (40:Int) (b5 x0 x1 x2) x2) (BF x0 x1 x2) x2 else bif lQ x0 x1 x2 then nxA (2:Int) (nxA (40:Int) (b5 x0 x1 x2) x2) x2 else bif BE x0 x1 x2 then nxA (40:Int) (b5 x0 x1 x2) x2 else nxA (40:Int) (b5 x0 x1 x2) x2
def yH:Int:=bif gI x0 x1 x2 then pkS (nxA (40:Int) (b5 x0 x1 x2) x2) (i9 x0 x1 x2) [(1:Int),(8:Int),(9:Int)] x2 else bif gp x0 x1 x2 then pkS (nxA (40:Int) (b5 x0 x1 x2) x2) (i9 x0 x1 x2) (BF x0 x1 x2) x2 else bif lQ x0 x1 x2 then nxS (2:Int) (nxA (40:Int) (b5 x0 x1 x2) x2) (i9 x0 x1 x2) x2 else bif BE x0 x1 x2 then i9 x0 x1 x2 else i9 x0 x1 x2
def p7:List Int:=bif gI x0 x1 x2 then lR x0 x1 x2 else bif gp x0 x1 x2 then List.set (lR x0 x1 x2) (Int.toNat (0:Int)) (pkV (nxA (40:Int) (b5 x0 x1 x2) x2) (i9 x0 x1 x2) (BF x0 x1 x2) x2)else bif lQ x0 x1 x2 then List.replicate (Int.toNat (jQ x0 x1 x2)) (0:Int)else bif BE x0 x1 x2 then []else lR x0 x1 x2
def VZ:Bool:=allT [aD x0 x1 x2,aD (nxA (5:Int) x0 x2) (nxS (5:Int) x0 x1 x2) x2,aD (lE x0 x1 x2) (ql x0 x1 x2) x2,Lp.fin ir (DQ x0 x1 x2),aD (b5 x0 x1 x2) ((vm x0 x1 x2).1) x2,!gI x0 x1 x2||LS x0 x1 x2&&leN (1:Nat) (List.length [(1:Int),(8:Int),(9:Int)]),gI x0 x1 x2||(!gp x0 x1 x2||LS x0 x1 x2&&leN (1:Nat) (List.length (BF x0 x1 x2))),gI x0 x1 x2||(!gp x0 x1 x2||leI (0:Int) (0:Int)),gI x0 x1 x2||(!gp x0 x1 x2||ltI (0:Int) (↑(List.length (lR x0 x1 x2)):Int)),gI x0 x1 x2||(!gp x0 x1 x2||ltN (Int.toNat (0:Int)) (List.length (lR x0 x1 x2))),gI x0 x1 x2||(gp x0 x1 x2||(!lQ x0 x1 x2||LS x0 x1 x2)),gI x0 x1 x2||(gp x0 x1 x2||(!lQ x0 x1 x2||leI (0:Int) (jQ x0 x1 x2))),gI x0 x1 x2||(gp x0 x1 x2||(!lQ x0 x1 x2||leI (jQ x0 x1 x2) (jQ x0 x1 x2))),gI x0 x1 x2||(gp x0 x1 x2||(!lQ x0 x1 x2||leI ((↑(8:Nat):Int) * jQ x0 x1 x2) (281474976710656:Int))),gI x0 x1 x2||(gp x0 x1 x2||(!lQ x0 x1 x2||leI (jQ x0 x1 x2) (9223372036854775807:Int)))]
end
def acf:List SV→List Entry→Option Out
 | [.one ⟨false,[.ptr 0 0]⟩],[.box 157 [.ref 1,.val (.int .i64 x0),.val (.int .i64 x1)],.row false 5 (.int .u8) x2]=>some ⟨(.one ⟨true,[(.val (.int .i64 (jm x0 x1 x2))),(.ref 2)]⟩),[(.box 157 [(.ref 1),(.val (.int .i64 (lP x0 x1 x2))),(.val (.int .i64 (yH x0 x1 x2)))]),(.row false 5 ash x2)],[(.row true 2 asg (p7 x0 x1 x2))],[(VZ x0 x1 x2)]⟩
 |_,_=>none
def aks:PF Tryz.prog:=PF.ofG Tryz.prog [ar,PF.lend ar,PF.fz ar,au,PF.lend au,PF.fz au] [ir.F] aS 137 Tryz.f137 Tryz.func137 (LOk.fnT (l:= [aT Tryz.f137 0]) (by kernel_rfl) (.cons adh (.nil _))) acf (by
 intro vs es r h;unfold acf at h;split at h
 ·cases h;kernel_rfl
 ·cases h)
abbrev jy:=Int×Int×Int×Int×List (Int×(Int×Int))×List Int
section
variable (y0 y1 y2 y3:Int)(y4:List (Int×(Int×Int)))(y5:List Int)
def dA:Bool:=nxV (6:Int) y2 y3 y5==(0:Int)
def Fu:Bool:=aD (nxA (6:Int) y2 y5) (nxS (6:Int) y2 y3 y5) y5
def rJ:Int:=nxA (2:Int) (nxA (6:Int) y2 y5) y5
def xc:Int:=nxS (2:Int) (nxA (6:Int) y2 y5) (nxS (6:Int) y2 y3 y5) y5
def rL:List (Int×Int×Int):= [(y0,nxV (2:Int) (nxA (6:Int) y2 y5) (nxS (6:Int) y2 y3 y5) y5,nxV (2:Int) (rJ y2 y5) (xc y2 y3 y5) y5)]
def kF:Bool:=nxV (6:Int) y2 y3 y5==(1:Int)
def nq:Bool:=nxV (4:Int) (nxA (6:Int) y2 y5) (nxS (6:Int) y2 y3 y5) y5==(0:Int)
def nr:Int:=nxA (4:Int) (nxA (6:Int) y2 y5) y5
def rM:Int:=nxS (4:Int) (nxA (6:Int) y2 y5) (nxS (6:Int) y2 y3 y5) y5
def rN:List (Int×Int×Int):= [(y0,(0:Int),(0:Int)),(y0,(1:Int),IntKind.wrap .i64 (Int.tdiv (nxV (3:Int) (nr y2 y5) (rM y2 y3 y5) y5) (2:Int)))]
def GM:Bool:=bif ltI y0 y1 then ltI y0 (7:Int)else false
def OS:Bool:=aD y2 y3 y5
def OT:Bool:= !dA y2 y3 y5||Fu y2 y3 y5
def OU:Bool:= !dA y2 y3 y5||aD (rJ y2 y5) (xc y2 y3 y5) y5
def OV:Bool:= !dA y2 y3 y5||leN (List.length y4 + List.length (rL y0 y2 y3 y5)) (9223372036854775807:Nat)
def OW:Bool:= !dA y2 y3 y5||leN ((List.length y4 + List.length (rL y0 y2 y3 y5)) * (24:Nat)) (140737488355328:Nat)
def OX:Bool:=dA y2 y3 y5||(!kF y2 y3 y5||Fu y2 y3 y5)
def OY:Bool:=dA y2 y3 y5||(!kF y2 y3 y5||(!nq y2 y3 y5||aD (nr y2 y5) (rM y2 y3 y5) y5))
def OZ:Bool:=dA y2 y3 y5||(!kF y2 y3 y5||(!nq y2 y3 y5||neI (2:Int) (0:Int)))
def Pa:Bool:=dA y2 y3 y5||(!kF y2 y3 y5||(!nq y2 y3 y5||leN (List.length y4 + List.length (rN y0 y2 y3 y5)) (9223372036854775807:Nat)))
def MN:Bool:=dA y2 y3 y5||(!kF y2 y3 y5||(!nq y2 y3 y5||leN ((List.length y4 + List.length (rN y0 y2 y3 y5)) * (24:Nat)) (140737488355328:Nat)))
def MO:Bool:=dA y2 y3 y5
def rI:Int:=IntKind.wrap .i64 (y0 + (1:Int))
def MP:Int:=nxA (2:Int) (rJ y2 y5) y5
def MQ:Int:=nxS (2:Int) (rJ y2 y5) (xc y2 y3 y5) y5
def MR:List (Int×(Int×Int)):=y4++rL y0 y2 y3 y5
def MS:Bool:=kF y2 y3 y5
def MT:Bool:=nq y2 y3 y5
def MU:Int:=nxA (3:Int) (nr y2 y5) y5
def MV:Int:=nxS (3:Int) (nr y2 y5) (rM y2 y3 y5) y5
def MW:List (Int×(Int×Int)):=y4++rN y0 y2 y3 y5
def MX:Int:=nr y2 y5
def MY:Int:=rM y2 y3 y5
def MZ:Int:=nxA (6:Int) y2 y5
def Na:Int:=nxS (6:Int) y2 y3 y5
end
def XN:jy→List (Nat×SV)
 |(y0,y1,_,_,_,_)=> [(6,(.one ⟨false,[(.val (.int .i64 y0))]⟩)),(1,(.one ⟨false,[(.val (.int .i64 y1))]⟩)),(0,(.one ⟨false,[(.ptr 0 0)]⟩)),(5,(.one ⟨false,[(.ref 1)]⟩))]
def XF:jy→List (Nat×Entry)
 |(_,_,y2,y3,y4,y5)=> [(0,(.box 157 [(.ref 2),(.val (.int .i64 y2)),(.val (.int .i64 y3))])),(2,(.row false 5 ash y5)),(1,(.row true 169 ase y4))]
def Yb:Nat→jy→List (Nat×SV)
 |_,(_,_,_,_,_,_)=> [(5,(.one ⟨false,[(.ref 1)]⟩))]
def XU:Nat→jy→List (Nat×Entry)
 |_,(_,_,y2,y3,y4,y5)=> [(0,(.box 157 [(.ref 2),(.val (.int .i64 y2)),(.val (.int .i64 y3))])),(1,(.row true 169 ase y4)),(2,(.row false 5 ash y5))]
def wX:jy→LT jy
 |(y0,y1,y2,y3,y4,y5)=> .ite (GM y0 y1) (.need [(OS y2 y3 y5)] (.need [(OT y2 y3 y5),(OU y2 y3 y5),(OV y0 y2 y3 y4 y5),(OW y0 y2 y3 y4 y5),(OX y2 y3 y5),(OY y2 y3 y5),(OZ y2 y3 y5),(Pa y0 y2 y3 y4 y5),(MN y0 y2 y3 y4 y5)] (.ite (MO y2 y3 y5) (.nrm ((rI y0),y1,(MP y2 y5),(MQ y2 y3 y5),(MR y0 y2 y3 y4 y5),y5) [(0,0),(1,1280),(2,2)]) (.ite (MS y2 y3 y5) (.ite (MT y2 y3 y5) (.nrm ((rI y0),y1,(MU y2 y5),(MV y2 y3 y5),(MW y0 y2 y3 y4 y5),y5) [(0,0),(1,1664),(2,2)]) (.nrm ((rI y0),y1,(MX y2 y5),(MY y2 y3 y5),y4,y5) [(0,0),(1,1),(2,2)])) (.nrm ((rI y0),y1,(MZ y2 y5),(Na y2 y3 y5),y4,y5) [(0,0),(1,1),(2,2)]))))) (.ext 0 [(0,0),(1,1),(2,2)])
def Fm(s:St):Option jy:=
 (match s.look 6 with
 |some ⟨none,(.one ⟨false,[(.val (.int .i64 y0))]⟩)⟩=>
 (match s.look 1 with
 |some ⟨none,(.one ⟨false,[(.val (.int .i64 y1))]⟩)⟩=>
 (match s.look 0 with
 |some ⟨none,(.one ⟨false,[(.ptr 0 0)]⟩)⟩=>
 (match s.look 5 with
 |some ⟨none,(.one ⟨false,[(.ref 256)]⟩)⟩=>
 (match s.ent 0 with
 |some (.box 157 [(.ref 1),(.val (.int .i64 y2)),(.val (.int .i64 y3))])=>
 (match s.ent 1 with
 |some (.row false 5 (.int IntKind.u8) y5)=>
 (match s.ent 256 with
 |some (.row true 169 (.pair (.int .i64) (.pair (.int .i64) (.int .i64))) y4)=>
 some (y0,y1,y2,y3,y4,y5)
 |_=>none)
 |_=>none)
 |_=>none)
 |_=>none)
 |_=>none)
 |_=>none)
 |_=>none)
def b6:Lp jy where
 h:=⟨[9,10,11,12,13,14,15,18,19,21,20,22,23,24,25,26,27,28,29,30,5,32,31,33,34,35,36,37,38,39,40,41,42,43,44,45,16,17,6],[0,2],[1],[]⟩
 JL:=XN
 JE:=XF
 XL:=Yb
 XE:=XU
 q:=fun j=>match j with | _=> .exit 0
 tags:= [0]
 lt:=wX
 fuel:=fun(y0,y1,y2,y3,y4,y5)=>y0.natAbs + y1.natAbs + y2.natAbs + y3.natAbs + y4.length + y5.length
 fix:=fun(_,y1,_,_,_,y5) (y0,_,y2,y3,y4,_)=>(y0,y1,y2,y3,y4,y5)
 σ:= [(0,0),(2,1),(1,256)]
 rd:=Fm
theorem Vl:LoopOk Tryz.prog (fun k=>Nat.blt k Tryz.f138.ntmps) b6.F (aT Tryz.f138 0):=by
 refine Lp.ok (tbl:= [ar,PF.lend ar,PF.fz ar,au,PF.lend au,PF.fz au]) (lf:= []) aS b6 (by kernel_rfl) (LOk.nil _) (fun _=>rfl) (fun _ _=>rfl) ?_ ?_ ?_ ?_ (fun _=>rfl) ?_
 ·rintro⟨y0,y1,y2,y3,y4,y5⟩;kernel_rfl
 ·rintro⟨y0,y1,y2,y3,y4,y5⟩;kernel_rfl
 ·intro s x h
  have h:Fm s=some x:=h
  unfold Fm at h
  repeat' split at h
  all_goals cases h
  exact⟨aa (by assumption) rfl (aa (by assumption) rfl (aa (by assumption) rfl (aa (by assumption) rfl (rfl)))),ab rfl (by assumption) rfl (ab rfl (by assumption) rfl (ab rfl (by assumption) rfl (rfl)))⟩
 ·rintro⟨y0,y1,y2,y3,y4,y5⟩;kernel_rfl
 ·rintro⟨y0,y1,y2,y3,y4,y5⟩ z;exact(And.intro (And.intro rfl (And.intro (And.intro rfl rfl) rfl)) trivial)
abbrev jz:=Int×Int×Int×List (Int×(Int×Int))×List Int
section
variable (y0 y1 y2:Int)(y4:List Int)
def rO:List (Int×Int×Int):= [(IntKind.wrap .i64 (Int.tdiv y0 (2:Int)),Int.tmod y0 (2:Int),(1:Int))]
def zF:Bool:=aD y1 y2 y4
def zG:Bool:=ltI y0 (IntKind.wrap .i64 ((8:Int) + nxV (2:Int) y1 y2 y4))
end
def GN:Bool:=neI (2:Int) (0:Int)
section
variable (y0 y1 y2:Int)(y3:List (Int×(Int×Int)))(y4:List Int)
def Pb:Bool:=leN (List.length y3 + List.length (rO y0)) (9223372036854775807:Nat)
def Pc:Bool:=leN ((List.length y3 + List.length (rO y0)) * (24:Nat)) (140737488355328:Nat)
def Pf:Int:=IntKind.wrap .i64 (y0 + (1:Int))
def zH:Int:=nxA (2:Int) y1 y4
def zI:Int:=nxS (2:Int) y1 y2 y4
def Pg:List (Int×(Int×Int)):=y3++rO y0
end
def XO:jz→List (Nat×SV)
 |(y0,_,_,_,_)=> [(7,(.one ⟨false,[(.val (.int .i64 y0))]⟩)),(0,(.one ⟨false,[(.ptr 0 0)]⟩)),(5,(.one ⟨false,[(.ref 1)]⟩))]
def XG:jz→List (Nat×Entry)
 |(_,y1,y2,y3,y4)=> [(0,(.box 157 [(.ref 2),(.val (.int .i64 y1)),(.val (.int .i64 y2))])),(2,(.row false 5 ash y4)),(1,(.row true 169 ase y3))]
def Yc:Nat→jz→List (Nat×SV)
 |_,(_,_,_,_,_)=> [(5,(.one ⟨false,[(.ref 1)]⟩))]
def XV:Nat→jz→List (Nat×Entry)
 |_,(_,y1,y2,y3,y4)=> [(0,(.box 157 [(.ref 2),(.val (.int .i64 (zH y1 y4))),(.val (.int .i64 (zI y1 y2 y4)))])),(1,(.row true 169 ase y3)),(2,(.row false 5 ash y4))]
def wY:jz→LT jz
 |(y0,y1,y2,y3,y4)=> .need [(zF y1 y2 y4)] (.ite (zG y0 y1 y2 y4) (.need [(GN),(GN),(Pb y0 y3),(Pc y0 y3)] (.nrm ((Pf y0),(zH y1 y4),(zI y1 y2 y4),(Pg y0 y3),y4) [(0,0),(1,832),(2,2)])) (.ext 0 [(0,0),(1,1),(2,2)]))
def Fo(s:St):Option jz:=
 (match s.look 7 with
 |some ⟨none,(.one ⟨false,[(.val (.int .i64 y0))]⟩)⟩=>
 (match s.look 0 with
 |some ⟨none,(.one ⟨false,[(.ptr 0 0)]⟩)⟩=>
 (match s.look 5 with
 |some ⟨none,(.one ⟨false,[(.ref 896)]⟩)⟩=>
 (match s.ent 0 with
 |some (.box 157 [(.ref 1),(.val (.int .i64 y1)),(.val (.int .i64 y2))])=>
 (match s.ent 1 with
 |some (.row false 5 (.int IntKind.u8) y4)=>
 (match s.ent 896 with
 |some (.row true 169 (.pair (.int .i64) (.pair (.int .i64) (.int .i64))) y3)=>
 some (y0,y1,y2,y3,y4)
 |_=>none)
 |_=>none)
 |_=>none)
 |_=>none)
 |_=>none)
 |_=>none)
def b7:Lp jz where
 h:=⟨[66,67,68,69,70,73,74,75,76,77,78,79,80,5,71,72,7],[0,2],[1],[]⟩
 JL:=XO
 JE:=XG
 XL:=Yc
 XE:=XV
 q:=fun j=>match j with | _=> .exit 4
 tags:= [0]
 lt:=wY
 fuel:=fun(y0,y1,y2,y3,y4)=>y0.natAbs + y1.natAbs + y2.natAbs + y3.length + y4.length
 fix:=fun(_,_,_,_,y4) (y0,y1,y2,y3,_)=>(y0,y1,y2,y3,y4)
 σ:= [(0,0),(2,1),(1,896)]
 rd:=Fo
theorem Vm:LoopOk Tryz.prog (fun k=>Nat.blt k Tryz.f138.ntmps) b7.F (aT Tryz.f138 1):=by
 refine Lp.ok (tbl:= [ar,PF.lend ar,PF.fz ar,au,PF.lend au,PF.fz au]) (lf:= []) aS b7 (by kernel_rfl) (LOk.nil _) (fun _=>rfl) (fun _ _=>rfl) ?_ ?_ ?_ ?_ (fun _=>rfl) ?_
 ·rintro⟨y0,y1,y2,y3,y4⟩;kernel_rfl
 ·rintro⟨y0,y1,y2,y3,y4⟩;kernel_rfl
 ·intro s x h
  have h:Fo s=some x:=h
  unfold Fo at h
  repeat' split at h
  all_goals cases h
  exact⟨aa (by assumption) rfl (aa (by assumption) rfl (aa (by assumption) rfl (rfl))),ab rfl (by assumption) rfl (ab rfl (by assumption) rfl (ab rfl (by assumption) rfl (rfl)))⟩
 ·rintro⟨y0,y1,y2,y3,y4⟩;kernel_rfl
 ·rintro⟨y0,y1,y2,y3,y4⟩ z;exact(And.intro rfl trivial)
section
variable (x0 x1 x2:Int)(x3:List Int)
def Rz:List (Int×Int×Int)×List Int:=([],x3)
def Dx:Int×Int×Int×Int×List (Int×Int×Int)×List Int:=((0:Int),x0,x1,x2,Rz x3)
def wa:Int×Int×List (Int×Int×Int)×List Int:=(Lp.res b6 (Dx x0 x1 x2 x3)).2.2.2
def dw:Int:=(wa x0 x1 x2 x3).1
def Dy:Int×List (Int×Int×Int)×List Int:=(wa x0 x1 x2 x3).2
def ry:Int:=(Dy x0 x1 x2 x3).1
def RA:Int:=nxV (40:Int) (dw x0 x1 x2 x3) (ry x0 x1 x2 x3) x3
def gd:Bool:=RA x0 x1 x2 x3==(0:Int)
def wb:List Int:= [(-1:Int),(0:Int),x0]
def wc:Int:=pkA (nxA (40:Int) (dw x0 x1 x2 x3) x3) (wb x0) x3
def uy:Int:=pkA (wc x0 x1 x2 x3) [(0:Int),(1:Int),(2:Int)] x3
def qA:Bool:=RA x0 x1 x2 x3==(1:Int)
def qB:Int:=nxS (40:Int) (dw x0 x1 x2 x3) (ry x0 x1 x2 x3) x3
def AQ:Int×Int×Int×List (Int×Int×Int)×List Int:=((0:Int),nxA (40:Int) (dw x0 x1 x2 x3) x3,qB x0 x1 x2 x3,Rz x3)
def uz:Int×Int×List (Int×Int×Int)×List Int:=(Lp.res b7 (AQ x0 x1 x2 x3)).2.2
def AR:Int:=(uz x0 x1 x2 x3).1
def AU:Int:=pkS (nxA (40:Int) (dw x0 x1 x2 x3) x3) (qB x0 x1 x2 x3) (wb x0) x3
def AV:Int:=pkS (wc x0 x1 x2 x3) (AU x0 x1 x2 x3) [(0:Int),(1:Int),(2:Int)] x3
def qC:Int×List (Int×Int×Int)×List Int:=(uz x0 x1 x2 x3).2
def j9:List (Int×Int×Int):=((Dy x0 x1 x2 x3).2).1
def qD:List (Int×Int×Int):= [(pkV (nxA (40:Int) (dw x0 x1 x2 x3) x3) (qB x0 x1 x2 x3) (wb x0) x3,pkV (wc x0 x1 x2 x3) (AU x0 x1 x2 x3) [(0:Int),(1:Int),(2:Int)] x3,nxV (3:Int) (uy x0 x1 x2 x3) (AV x0 x1 x2 x3) x3)]
def yU:Int:=bif gd x0 x1 x2 x3 then nxA (3:Int) (uy x0 x1 x2 x3) x3 else bif qA x0 x1 x2 x3 then zH (AR x0 x1 x2 x3) x3 else nxA (40:Int) (dw x0 x1 x2 x3) x3
def yV:Int:=bif gd x0 x1 x2 x3 then nxS (3:Int) (uy x0 x1 x2 x3) (AV x0 x1 x2 x3) x3 else bif qA x0 x1 x2 x3 then zI (AR x0 x1 x2 x3) ((qC x0 x1 x2 x3).1) x3 else qB x0 x1 x2 x3
def yW:List (Int×(Int×Int)):=bif gd x0 x1 x2 x3 then j9 x0 x1 x2 x3++qD x0 x1 x2 x3 else bif qA x0 x1 x2 x3 then ((qC x0 x1 x2 x3).2).1else j9 x0 x1 x2 x3
def Lf:Bool:=allT [Lp.fin b6 (Dx x0 x1 x2 x3),aD (dw x0 x1 x2 x3) (ry x0 x1 x2 x3) x3,!gd x0 x1 x2 x3||aD (nxA (40:Int) (dw x0 x1 x2 x3) x3) (qB x0 x1 x2 x3) x3&&leN (1:Nat) (List.length (wb x0)),!gd x0 x1 x2 x3||aD (wc x0 x1 x2 x3) (AU x0 x1 x2 x3) x3&&leN (1:Nat) (List.length [(0:Int),(1:Int),(2:Int)]),!gd x0 x1 x2 x3||aD (uy x0 x1 x2 x3) (AV x0 x1 x2 x3) x3,!gd x0 x1 x2 x3||leN (List.length (j9 x0 x1 x2 x3) + List.length (qD x0 x1 x2 x3)) (9223372036854775807:Nat),!gd x0 x1 x2 x3||leN ((List.length (j9 x0 x1 x2 x3) + List.length (qD x0 x1 x2 x3)) * (24:Nat)) (140737488355328:Nat),gd x0 x1 x2 x3||(!qA x0 x1 x2 x3||Lp.fin b7 (AQ x0 x1 x2 x3))]
end
def SK:List SV→List Entry→Option Out
 | [.one ⟨false,[.ptr 0 0]⟩,.one ⟨false,[.val (.int .i64 x0)]⟩],[.box 157 [.ref 1,.val (.int .i64 x1),.val (.int .i64 x2)],.row false 5 (.int .u8) x3]=>some ⟨(.one ⟨false,[(.ref 2)]⟩),[(.box 157 [(.ref 1),(.val (.int .i64 (yU x0 x1 x2 x3))),(.val (.int .i64 (yV x0 x1 x2 x3)))]),(.row false 5 ash x3)],[(.row true 169 ase (yW x0 x1 x2 x3))],[(Lf x0 x1 x2 x3)]⟩
 |_,_=>none
def ady:PF Tryz.prog:=PF.ofG Tryz.prog [ar,PF.lend ar,PF.fz ar,au,PF.lend au,PF.fz au] [b6.F,b7.F] aS 138 Tryz.f138 Tryz.func138 (LOk.fnT (l:= [aT Tryz.f138 0,aT Tryz.f138 1]) (by kernel_rfl) (.cons Vl (.cons Vm (.nil _)))) SK (by
 intro vs es r h;unfold SK at h;split at h
 ·cases h;kernel_rfl
 ·cases h)
abbrev gY:=Int×Int×Int×Int×List (Int×(Int×Int))×List Int
section
variable (y0 y1 y2 y3:Int)(y4:List (Int×(Int×Int)))(y5:List Int)
def cF:Bool:=nxV (6:Int) y2 y3 y5==(0:Int)
def rP:Bool:=aD (nxA (6:Int) y2 y5) (nxS (6:Int) y2 y3 y5) y5
def kH:Int:=nxA (2:Int) (nxA (6:Int) y2 y5) y5
def nt:Int:=nxS (2:Int) (nxA (6:Int) y2 y5) (nxS (6:Int) y2 y3 y5) y5
def nu:List (Int×Int×Int):= [(y0,nxV (2:Int) (nxA (6:Int) y2 y5) (nxS (6:Int) y2 y3 y5) y5,nxV (2:Int) (kH y2 y5) (nt y2 y3 y5) y5)]
def i4:Bool:=nxV (6:Int) y2 y3 y5==(1:Int)
def kI:Bool:=bif nxV (4:Int) (nxA (6:Int) y2 y5) (nxS (6:Int) y2 y3 y5) y5==(0:Int)then ltI (↑y4.length:Int) (6:Int)else false
def i5:Int:=nxA (4:Int) (nxA (6:Int) y2 y5) y5
def kJ:Int:=nxS (4:Int) (nxA (6:Int) y2 y5) (nxS (6:Int) y2 y3 y5) y5
def nv:List (Int×Int×Int):= [(y0,(0:Int),(1:Int)),(y0,(1:Int),nxV (2:Int) (i5 y2 y5) (kJ y2 y3 y5) y5)]
def zJ:Bool:=bif ltI y0 y1 then ltI y0 (7:Int)else false
def zK:Bool:=aD y2 y3 y5
def zL:Bool:= !cF y2 y3 y5||rP y2 y3 y5
def zM:Bool:= !cF y2 y3 y5||aD (kH y2 y5) (nt y2 y3 y5) y5
def zN:Bool:= !cF y2 y3 y5||leN (List.length y4 + List.length (nu y0 y2 y3 y5)) (9223372036854775807:Nat)
def zO:Bool:= !cF y2 y3 y5||leN ((List.length y4 + List.length (nu y0 y2 y3 y5)) * (24:Nat)) (140737488355328:Nat)
def zP:Bool:=cF y2 y3 y5||(!i4 y2 y3 y5||rP y2 y3 y5)
def zQ:Bool:=cF y2 y3 y5||(!i4 y2 y3 y5||(!kI y2 y3 y4 y5||aD (i5 y2 y5) (kJ y2 y3 y5) y5))
def zR:Bool:=cF y2 y3 y5||(!i4 y2 y3 y5||(!kI y2 y3 y4 y5||leN (List.length y4 + List.length (nv y0 y2 y3 y5)) (9223372036854775807:Nat)))
def zS:Bool:=cF y2 y3 y5||(!i4 y2 y3 y5||(!kI y2 y3 y4 y5||leN ((List.length y4 + List.length (nv y0 y2 y3 y5)) * (24:Nat)) (140737488355328:Nat)))
def xf:Bool:=cF y2 y3 y5
def kG:Int:=IntKind.wrap .i64 (y0 + (1:Int))
def xg:Int:=nxA (2:Int) (kH y2 y5) y5
def xh:Int:=nxS (2:Int) (kH y2 y5) (nt y2 y3 y5) y5
def xj:List (Int×(Int×Int)):=y4++nu y0 y2 y3 y5
def xk:Bool:=i4 y2 y3 y5
def xl:Bool:=kI y2 y3 y4 y5
def xm:Int:=nxA (2:Int) (i5 y2 y5) y5
def xo:Int:=nxS (2:Int) (i5 y2 y5) (kJ y2 y3 y5) y5
def xt:List (Int×(Int×Int)):=y4++nv y0 y2 y3 y5
def xu:Int:=i5 y2 y5
def xw:Int:=kJ y2 y3 y5
def xx:Int:=nxA (6:Int) y2 y5
def xy:Int:=nxS (6:Int) y2 y3 y5
end
def XP:gY→List (Nat×SV)
 |(y0,y1,_,_,_,_)=> [(6,(.one ⟨false,[(.val (.int .i64 y0))]⟩)),(1,(.one ⟨false,[(.val (.int .i64 y1))]⟩)),(0,(.one ⟨false,[(.ptr 0 0)]⟩)),(5,(.one ⟨false,[(.ref 1)]⟩))]
def XH:gY→List (Nat×Entry)
 |(_,_,y2,y3,y4,y5)=> [(0,(.box 157 [(.ref 2),(.val (.int .i64 y2)),(.val (.int .i64 y3))])),(2,(.row false 5 ash y5)),(1,(.row true 100 ase y4))]
def Yd:Nat→gY→List (Nat×SV)
 |_,(_,_,_,_,_,_)=> [(5,(.one ⟨false,[(.ref 1)]⟩))]
def XW:Nat→gY→List (Nat×Entry)
 |_,(_,_,y2,y3,y4,y5)=> [(0,(.box 157 [(.ref 2),(.val (.int .i64 y2)),(.val (.int .i64 y3))])),(1,(.row true 100 ase y4)),(2,(.row false 5 ash y5))]
def Ff:gY→LT gY
 |(y0,y1,y2,y3,y4,y5)=> .ite (zJ y0 y1) (.need [(zK y2 y3 y5)] (.need [(zL y2 y3 y5),(zM y2 y3 y5),(zN y0 y2 y3 y4 y5),(zO y0 y2 y3 y4 y5),(zP y2 y3 y5),(zQ y2 y3 y4 y5),(zR y0 y2 y3 y4 y5),(zS y0 y2 y3 y4 y5)] (.ite (xf y2 y3 y5) (.nrm ((kG y0),y1,(xg y2 y5),(xh y2 y3 y5),(xj y0 y2 y3 y4 y5),y5) [(0,0),(1,1280),(2,2)]) (.ite (xk y2 y3 y5) (.ite (xl y2 y3 y4 y5) (.nrm ((kG y0),y1,(xm y2 y5),(xo y2 y3 y5),(xt y0 y2 y3 y4 y5),y5) [(0,0),(1,1920),(2,2)]) (.nrm ((kG y0),y1,(xu y2 y5),(xw y2 y3 y5),y4,y5) [(0,0),(1,1),(2,2)])) (.nrm ((kG y0),y1,(xx y2 y5),(xy y2 y3 y5),y4,y5) [(0,0),(1,1),(2,2)]))))) (.ext 0 [(0,0),(1,1),(2,2)])
def Fp(s:St):Option gY:=
 (match s.look 6 with
 |some ⟨none,(.one ⟨false,[(.val (.int .i64 y0))]⟩)⟩=>
 (match s.look 1 with
 |some ⟨none,(.one ⟨false,[(.val (.int .i64 y1))]⟩)⟩=>
 (match s.look 0 with
 |some ⟨none,(.one ⟨false,[(.ptr 0 0)]⟩)⟩=>
 (match s.look 5 with
 |some ⟨none,(.one ⟨false,[(.ref 256)]⟩)⟩=>
 (match s.ent 0 with
 |some (.box 157 [(.ref 1),(.val (.int .i64 y2)),(.val (.int .i64 y3))])=>
 (match s.ent 1 with
 |some (.row false 5 (.int IntKind.u8) y5)=>
 (match s.ent 256 with
 |some (.row true 100 (.pair (.int .i64) (.pair (.int .i64) (.int .i64))) y4)=>
 some (y0,y1,y2,y3,y4,y5)
 |_=>none)
 |_=>none)
 |_=>none)
 |_=>none)
 |_=>none)
 |_=>none)
 |_=>none)
def eC:Lp gY where
 h:=⟨[9,10,11,12,13,14,15,18,19,21,20,22,23,24,25,26,27,28,29,30,5,32,31,33,34,35,36,37,38,39,40,41,42,43,44,45,46,47,48,49,16,17,6],[0,2],[1],[]⟩
 JL:=XP
 JE:=XH
 XL:=Yd
 XE:=XW
 q:=fun j=>match j with | _=> .exit 0
 tags:= [0]
 lt:=Ff
 fuel:=fun(y0,y1,y2,y3,y4,y5)=>y0.natAbs + y1.natAbs + y2.natAbs + y3.natAbs + y4.length + y5.length
 fix:=fun(_,y1,_,_,_,y5) (y0,_,y2,y3,y4,_)=>(y0,y1,y2,y3,y4,y5)
 σ:= [(0,0),(2,1),(1,256)]
 rd:=Fp
theorem Vn:LoopOk Tryz.prog (fun k=>Nat.blt k Tryz.f139.ntmps) eC.F (aT Tryz.f139 0):=by
 refine Lp.ok (tbl:= [ar,PF.lend ar,PF.fz ar,au,PF.lend au,PF.fz au]) (lf:= []) aS eC (by kernel_rfl) (LOk.nil _) (fun _=>rfl) (fun _ _=>rfl) ?_ ?_ ?_ ?_ (fun _=>rfl) ?_
 ·rintro⟨y0,y1,y2,y3,y4,y5⟩;kernel_rfl
 ·rintro⟨y0,y1,y2,y3,y4,y5⟩;kernel_rfl
 ·intro s x h
  have h:Fp s=some x:=h
  unfold Fp at h
  repeat' split at h
  all_goals cases h
  exact⟨aa (by assumption) rfl (aa (by assumption) rfl (aa (by assumption) rfl (aa (by assumption) rfl (rfl)))),ab rfl (by assumption) rfl (ab rfl (by assumption) rfl (ab rfl (by assumption) rfl (rfl)))⟩
 ·rintro⟨y0,y1,y2,y3,y4,y5⟩;kernel_rfl
 ·rintro⟨y0,y1,y2,y3,y4,y5⟩ z;exact(And.intro (And.intro rfl (And.intro (And.intro rfl rfl) rfl)) trivial)
abbrev gZ:=Int×Int×Int×List (Int×(Int×Int))×List Int
section
variable (y0 y1 y2:Int)(y4:List Int)
def kK:List (Int×Int×Int):= [(IntKind.wrap .i64 (Int.tdiv y0 (2:Int)),Int.tmod y0 (2:Int),(0:Int))]
def th:Bool:=aD y1 y2 y4
def ti:Bool:=ltI y0 (IntKind.wrap .i64 ((8:Int) + nxV (2:Int) y1 y2 y4))
end
def pt:Bool:=neI (2:Int) (0:Int)
section
variable (y0 y1 y2:Int)(y3:List (Int×(Int×Int)))(y4:List Int)
def tj:Bool:=leN (List.length y3 + List.length (kK y0)) (9223372036854775807:Nat)
def tk:Bool:=leN ((List.length y3 + List.length (kK y0)) * (24:Nat)) (140737488355328:Nat)
def tl:Int:=IntKind.wrap .i64 (y0 + (1:Int))
def lS:Int:=nxA (2:Int) y1 y4
def lT:Int:=nxS (2:Int) y1 y2 y4
def tm:List (Int×(Int×Int)):=y3++kK y0
end
def XQ:gZ→List (Nat×SV)
 |(y0,_,_,_,_)=> [(7,(.one ⟨false,[(.val (.int .i64 y0))]⟩)),(0,(.one ⟨false,[(.ptr 0 0)]⟩)),(5,(.one ⟨false,[(.ref 1)]⟩))]
def XI:gZ→List (Nat×Entry)
 |(_,y1,y2,y3,y4)=> [(0,(.box 157 [(.ref 2),(.val (.int .i64 y1)),(.val (.int .i64 y2))])),(2,(.row false 5 ash y4)),(1,(.row true 100 ase y3))]
def Ye:Nat→gZ→List (Nat×SV)
 |_,(_,_,_,_,_)=> [(5,(.one ⟨false,[(.ref 1)]⟩))]
def XX:Nat→gZ→List (Nat×Entry)
 |_,(_,y1,y2,y3,y4)=> [(0,(.box 157 [(.ref 2),(.val (.int .i64 (lS y1 y4))),(.val (.int .i64 (lT y1 y2 y4)))])),(1,(.row true 100 ase y3)),(2,(.row false 5 ash y4))]
def Fg:gZ→LT gZ
 |(y0,y1,y2,y3,y4)=> .need [(th y1 y2 y4)] (.ite (ti y0 y1 y2 y4) (.need [(pt),(pt),(tj y0 y3),(tk y0 y3)] (.nrm ((tl y0),(lS y1 y4),(lT y1 y2 y4),(tm y0 y3),y4) [(0,0),(1,832),(2,2)])) (.ext 0 [(0,0),(1,1),(2,2)]))
def Fq(s:St):Option gZ:=
 (match s.look 7 with
 |some ⟨none,(.one ⟨false,[(.val (.int .i64 y0))]⟩)⟩=>
 (match s.look 0 with
 |some ⟨none,(.one ⟨false,[(.ptr 0 0)]⟩)⟩=>
 (match s.look 5 with
 |some ⟨none,(.one ⟨false,[(.ref 896)]⟩)⟩=>
 (match s.ent 0 with
 |some (.box 157 [(.ref 1),(.val (.int .i64 y1)),(.val (.int .i64 y2))])=>
 (match s.ent 1 with
 |some (.row false 5 (.int IntKind.u8) y4)=>
 (match s.ent 896 with
 |some (.row true 100 (.pair (.int .i64) (.pair (.int .i64) (.int .i64))) y3)=>
 some (y0,y1,y2,y3,y4)
 |_=>none)
 |_=>none)
 |_=>none)
 |_=>none)
 |_=>none)
 |_=>none)
def eD:Lp gZ where
 h:=⟨[70,71,72,73,74,77,78,79,80,81,82,83,84,5,75,76,7],[0,2],[1],[]⟩
 JL:=XQ
 JE:=XI
 XL:=Ye
 XE:=XX
 q:=fun j=>match j with | _=> .exit 4
 tags:= [0]
 lt:=Fg
 fuel:=fun(y0,y1,y2,y3,y4)=>y0.natAbs + y1.natAbs + y2.natAbs + y3.length + y4.length
 fix:=fun(_,_,_,_,y4) (y0,y1,y2,y3,_)=>(y0,y1,y2,y3,y4)
 σ:= [(0,0),(2,1),(1,896)]
 rd:=Fq
theorem Vo:LoopOk Tryz.prog (fun k=>Nat.blt k Tryz.f139.ntmps) eD.F (aT Tryz.f139 1):=by
 refine Lp.ok (tbl:= [ar,PF.lend ar,PF.fz ar,au,PF.lend au,PF.fz au]) (lf:= []) aS eD (by kernel_rfl) (LOk.nil _) (fun _=>rfl) (fun _ _=>rfl) ?_ ?_ ?_ ?_ (fun _=>rfl) ?_
 ·rintro⟨y0,y1,y2,y3,y4⟩;kernel_rfl
 ·rintro⟨y0,y1,y2,y3,y4⟩;kernel_rfl
 ·intro s x h
  have h:Fq s=some x:=h
  unfold Fq at h
  repeat' split at h
  all_goals cases h
  exact⟨aa (by assumption) rfl (aa (by assumption) rfl (aa (by assumption) rfl (rfl))),ab rfl (by assumption) rfl (ab rfl (by assumption) rfl (ab rfl (by assumption) rfl (rfl)))⟩
 ·rintro⟨y0,y1,y2,y3,y4⟩;kernel_rfl
 ·rintro⟨y0,y1,y2,y3,y4⟩ z;exact(And.intro rfl trivial)
section
variable (x0 x1 x2:Int)(x3:List Int)
def oh:List (Int×Int×Int)×List Int:=([],x3)
def kY:Int×Int×Int×Int×List (Int×Int×Int)×List Int:=((0:Int),x0,x1,x2,oh x3)
def oi:Int×Int×List (Int×Int×Int)×List Int:=(Lp.res eC (kY x0 x1 x2 x3)).2.2.2
def cP:Int:=(oi x0 x1 x2 x3).1
def oj:Int×List (Int×Int×Int)×List Int:=(oi x0 x1 x2 x3).2
def kZ:Int:=(oj x0 x1 x2 x3).1
def ol:Int:=nxV (40:Int) (cP x0 x1 x2 x3) (kZ x0 x1 x2 x3) x3
def cQ:Bool:=ol x0 x1 x2 x3==(0:Int)
def ju:List Int:= [(-1:Int),(0:Int),x0]
def jv:Int:=pkA (nxA (40:Int) (cP x0 x1 x2 x3) x3) (ju x0) x3
def iL:Int:=pkA (jv x0 x1 x2 x3) [(0:Int),(1:Int),(2:Int)] x3
def iM:Bool:=ol x0 x1 x2 x3==(1:Int)
def gQ:Int:=nxS (40:Int) (cP x0 x1 x2 x3) (kZ x0 x1 x2 x3) x3
def ke:Int×Int×Int×List (Int×Int×Int)×List Int:=((0:Int),nxA (40:Int) (cP x0 x1 x2 x3) x3,gQ x0 x1 x2 x3,oh x3)
def mG:Int×Int×List (Int×Int×Int)×List Int:=(Lp.res eD (ke x0 x1 x2 x3)).2.2
def mH:Int:=(mG x0 x1 x2 x3).1
def kf:Int:=pkS (nxA (40:Int) (cP x0 x1 x2 x3) x3) (gQ x0 x1 x2 x3) (ju x0) x3
def kg:Int:=pkS (jv x0 x1 x2 x3) (kf x0 x1 x2 x3) [(0:Int),(1:Int),(2:Int)] x3
def mI:Int×List (Int×Int×Int)×List Int:=(mG x0 x1 x2 x3).2
def iN:List (Int×Int×Int):=((oj x0 x1 x2 x3).2).1
def kh:List (Int×Int×Int):= [(pkV (nxA (40:Int) (cP x0 x1 x2 x3) x3) (gQ x0 x1 x2 x3) (ju x0) x3,pkV (jv x0 x1 x2 x3) (kf x0 x1 x2 x3) [(0:Int),(1:Int),(2:Int)] x3,nxV (3:Int) (iL x0 x1 x2 x3) (kg x0 x1 x2 x3) x3)]
def ka:Int:=bif cQ x0 x1 x2 x3 then nxA (3:Int) (iL x0 x1 x2 x3) x3 else bif iM x0 x1 x2 x3 then lS (mH x0 x1 x2 x3) x3 else nxA (40:Int) (cP x0 x1 x2 x3) x3
def kb:Int:=bif cQ x0 x1 x2 x3 then nxS (3:Int) (iL x0 x1 x2 x3) (kg x0 x1 x2 x3) x3 else bif iM x0 x1 x2 x3 then lT (mH x0 x1 x2 x3) ((mI x0 x1 x2 x3).1) x3 else gQ x0 x1 x2 x3
def kd:List (Int×(Int×Int)):=bif cQ x0 x1 x2 x3 then iN x0 x1 x2 x3++kh x0 x1 x2 x3 else bif iM x0 x1 x2 x3 then ((mI x0 x1 x2 x3).2).1else iN x0 x1 x2 x3
def p8:Bool:=allT [Lp.fin eC (kY x0 x1 x2 x3),aD (cP x0 x1 x2 x3) (kZ x0 x1 x2 x3) x3,!cQ x0 x1 x2 x3||aD (nxA (40:Int) (cP x0 x1 x2 x3) x3) (gQ x0 x1 x2 x3) x3&&leN (1:Nat) (List.length (ju x0)),!cQ x0 x1 x2 x3||aD (jv x0 x1 x2 x3) (kf x0 x1 x2 x3) x3&&leN (1:Nat) (List.length [(0:Int),(1:Int),(2:Int)]),!cQ x0 x1 x2 x3||aD (iL x0 x1 x2 x3) (kg x0 x1 x2 x3) x3,!cQ x0 x1 x2 x3||leN (List.length (iN x0 x1 x2 x3) + List.length (kh x0 x1 x2 x3)) (9223372036854775807:Nat),!cQ x0 x1 x2 x3||leN ((List.length (iN x0 x1 x2 x3) + List.length (kh x0 x1 x2 x3)) * (24:Nat)) (140737488355328:Nat),cQ x0 x1 x2 x3||(!iM x0 x1 x2 x3||Lp.fin eD (ke x0 x1 x2 x3))]
end
def SL:List SV→List Entry→Option Out
 | [.one ⟨false,[.ptr 0 0]⟩,.one ⟨false,[.val (.int .i64 x0)]⟩],[.box 157 [.ref 1,.val (.int .i64 x1),.val (.int .i64 x2)],.row false 5 (.int .u8) x3]=>some ⟨(.one ⟨false,[(.ref 2)]⟩),[(.box 157 [(.ref 1),(.val (.int .i64 (ka x0 x1 x2 x3))),(.val (.int .i64 (kb x0 x1 x2 x3)))]),(.row false 5 ash x3)],[(.row true 100 ase (kd x0 x1 x2 x3))],[(p8 x0 x1 x2 x3)]⟩
 |_,_=>none
def adz:PF Tryz.prog:=PF.ofG Tryz.prog [ar,PF.lend ar,PF.fz ar,au,PF.lend au,PF.fz au] [eC.F,eD.F] aS 139 Tryz.f139 Tryz.func139 (LOk.fnT (l:= [aT Tryz.f139 0,aT Tryz.f139 1]) (by kernel_rfl) (.cons Vn (.cons Vo (.nil _)))) SL (by
 intro vs es r h;unfold SL at h;split at h
 ·cases h;kernel_rfl
 ·cases h)
abbrev oy:=Int×List (Int×Int)×Int×Int×List Int
section
variable (y0:Int)(y1:List (Int×Int))(y2 y3:Int)(y4:List Int)
def sq:List Int:= [(1:Int),(7:Int),(30:Int),IntKind.wrap .i64 ((1:Int) + nxV (40:Int) y2 y3 y4),(366:Int)]
def sr:Int:=pkA (nxA (40:Int) y2 y4) (sq y2 y3 y4) y4
def wA:Int:=pkS (nxA (40:Int) y2 y4) (nxS (40:Int) y2 y3 y4) (sq y2 y3 y4) y4
def wB:List (Int×Int):= [(pkV (nxA (40:Int) y2 y4) (nxS (40:Int) y2 y3 y4) (sq y2 y3 y4) y4,nxV (60:Int) (sr y2 y3 y4) (wA y2 y3 y4) y4)]
def JZ:Bool:=ltI (0:Int) y0
def Ka:Bool:=aD y2 y3 y4
def Kb:Bool:=aD (nxA (40:Int) y2 y4) (nxS (40:Int) y2 y3 y4) y4&&leN (1:Nat) (List.length (sq y2 y3 y4))
def Kc:Bool:=aD (sr y2 y3 y4) (wA y2 y3 y4) y4
def Kd:Bool:=leN (List.length y1 + List.length (wB y2 y3 y4)) (9223372036854775807:Nat)
def Ke:Bool:=leN ((List.length y1 + List.length (wB y2 y3 y4)) * (16:Nat)) (140737488355328:Nat)
def Kf:Int:=IntKind.wrap .i64 (y0 - (1:Int))
def Kg:List (Int×Int):=y1++wB y2 y3 y4
def Kh:Int:=nxA (60:Int) (sr y2 y3 y4) y4
def Ki:Int:=nxS (60:Int) (sr y2 y3 y4) (wA y2 y3 y4) y4
end
def afp:oy→List (Nat×SV)
 |(y0,_,_,_,_)=> [(4,(.one ⟨false,[(.val (.int .i64 y0))]⟩)),(3,(.one ⟨false,[(.ref 0)]⟩)),(0,(.one ⟨false,[(.ptr 1 0)]⟩))]
def afh:oy→List (Nat×Entry)
 |(_,y1,y2,y3,y4)=> [(1,(.box 157 [(.ref 2),(.val (.int .i64 y2)),(.val (.int .i64 y3))])),(2,(.row false 5 ash y4)),(0,(.row true 173 asf y1))]
def afF:Nat→oy→List (Nat×SV)
 |_,(_,_,_,_,_)=> [(3,(.one ⟨false,[(.ref 0)]⟩))]
def afx:Nat→oy→List (Nat×Entry)
 |_,(_,y1,y2,y3,y4)=> [(0,(.row true 173 asf y1)),(1,(.box 157 [(.ref 2),(.val (.int .i64 y2)),(.val (.int .i64 y3))])),(2,(.row false 5 ash y4))]
def NO:oy→LT oy
 |(y0,y1,y2,y3,y4)=> .ite (JZ y0) (.need [(Ka y2 y3 y4),(Kb y2 y3 y4),(Kc y2 y3 y4),(Kd y1 y2 y3 y4),(Ke y1 y2 y3 y4)] (.nrm ((Kf y0),(Kg y1 y2 y3 y4),(Kh y2 y3 y4),(Ki y2 y3 y4),y4) [(0,896),(1,1),(2,2)])) (.ext 0 [(0,0),(1,1),(2,2)])
def Ob(s:St):Option oy:=
 (match s.look 4 with
 |some ⟨none,(.one ⟨false,[(.val (.int .i64 y0))]⟩)⟩=>
 (match s.look 3 with
 |some ⟨none,(.one ⟨false,[(.ref 256)]⟩)⟩=>
 (match s.look 0 with
 |some ⟨none,(.one ⟨false,[(.ptr 0 0)]⟩)⟩=>
 (match s.ent 0 with
 |some (.box 157 [(.ref 1),(.val (.int .i64 y2)),(.val (.int .i64 y3))])=>
 (match s.ent 1 with
 |some (.row false 5 (.int IntKind.u8) y4)=>
 (match s.ent 256 with
 |some (.row true 173 (.pair (.int .i64) (.int .i64)) y1)=>
 some (y0,y1,y2,y3,y4)
 |_=>none)
 |_=>none)
 |_=>none)
 |_=>none)
 |_=>none)
 |_=>none)
def kz:Lp oy where
 h:=⟨[9,10,13,14,15,16,17,18,19,20,21,22,23,24,3,11,12,4],[1,2],[0],[]⟩
 JL:=afp
 JE:=afh
 XL:=afF
 XE:=afx
 q:=fun j=>match j with | _=> .exit 0
 tags:= [0]
 lt:=NO
 fuel:=fun(y0,y1,y2,y3,y4)=>y0.natAbs + y1.length + y2.natAbs + y3.natAbs + y4.length
 fix:=fun(_,_,_,_,y4) (y0,y1,y2,y3,_)=>(y0,y1,y2,y3,y4)
 σ:= [(1,0),(2,1),(0,256)]
 rd:=Ob
theorem adj:LoopOk Tryz.prog (fun k=>Nat.blt k Tryz.f140.ntmps) kz.F (aT Tryz.f140 0):=by
 refine Lp.ok (tbl:= [ar,PF.lend ar,PF.fz ar,au,PF.lend au,PF.fz au]) (lf:= []) aS kz (by kernel_rfl) (LOk.nil _) (fun _=>rfl) (fun _ _=>rfl) ?_ ?_ ?_ ?_ (fun _=>rfl) ?_
 ·rintro⟨y0,y1,y2,y3,y4⟩;kernel_rfl
 ·rintro⟨y0,y1,y2,y3,y4⟩;kernel_rfl
 ·intro s x h
  have h:Ob s=some x:=h
  unfold Ob at h
  repeat' split at h
  all_goals cases h
  exact⟨aa (by assumption) rfl (aa (by assumption) rfl (aa (by assumption) rfl (rfl))),ab rfl (by assumption) rfl (ab rfl (by assumption) rfl (ab rfl (by assumption) rfl (rfl)))⟩
 ·rintro⟨y0,y1,y2,y3,y4⟩;kernel_rfl
 ·rintro⟨y0,y1,y2,y3,y4⟩ z;exact(And.intro rfl trivial)
abbrev oz:=Int×Int×Int×List (Int×Int)×List Int
section
variable (y0 y1 y2:Int)(y3:List (Int×Int))(y4:List Int)
def su:List (Int×Int):= [(IntKind.wrap .i64 ((1:Int) + y0),(0:Int))]
def EJ:Bool:=aD y1 y2 y4
def EK:Bool:=ltI y0 (IntKind.wrap .i64 ((12:Int) + nxV (2:Int) y1 y2 y4))
def EL:Bool:=leN (List.length y3 + List.length (su y0)) (9223372036854775807:Nat)
def EM:Bool:=leN ((List.length y3 + List.length (su y0)) * (16:Nat)) (140737488355328:Nat)
def EN:Int:=IntKind.wrap .i64 (y0 + (1:Int))
def uK:Int:=nxA (2:Int) y1 y4
def uL:Int:=nxS (2:Int) y1 y2 y4
def EO:List (Int×Int):=y3++su y0
end
def afq:oz→List (Nat×SV)
 |(y0,_,_,_,_)=> [(5,(.one ⟨false,[(.val (.int .i64 y0))]⟩)),(0,(.one ⟨false,[(.ptr 0 0)]⟩)),(3,(.one ⟨false,[(.ref 1)]⟩))]
def afi:oz→List (Nat×Entry)
 |(_,y1,y2,y3,y4)=> [(0,(.box 157 [(.ref 2),(.val (.int .i64 y1)),(.val (.int .i64 y2))])),(2,(.row false 5 ash y4)),(1,(.row true 173 asf y3))]
def afG:Nat→oz→List (Nat×SV)
 |_,(_,_,_,_,_)=> [(3,(.one ⟨false,[(.ref 1)]⟩))]
def afy:Nat→oz→List (Nat×Entry)
 |_,(_,y1,y2,y3,y4)=> [(0,(.box 157 [(.ref 2),(.val (.int .i64 (uK y1 y4))),(.val (.int .i64 (uL y1 y2 y4)))])),(1,(.row true 173 asf y3)),(2,(.row false 5 ash y4))]
def NP:oz→LT oz
 |(y0,y1,y2,y3,y4)=> .need [(EJ y1 y2 y4)] (.ite (EK y0 y1 y2 y4) (.need [(EL y0 y3),(EM y0 y3)] (.nrm ((EN y0),(uK y1 y4),(uL y1 y2 y4),(EO y0 y3),y4) [(0,0),(1,704),(2,2)])) (.ext 0 [(0,0),(1,1),(2,2)]))
def Oc(s:St):Option oz:=
 (match s.look 5 with
 |some ⟨none,(.one ⟨false,[(.val (.int .i64 y0))]⟩)⟩=>
 (match s.look 0 with
 |some ⟨none,(.one ⟨false,[(.ptr 0 0)]⟩)⟩=>
 (match s.look 3 with
 |some ⟨none,(.one ⟨false,[(.ref 1024)]⟩)⟩=>
 (match s.ent 0 with
 |some (.box 157 [(.ref 1),(.val (.int .i64 y1)),(.val (.int .i64 y2))])=>
 (match s.ent 1 with
 |some (.row false 5 (.int IntKind.u8) y4)=>
 (match s.ent 1024 with
 |some (.row true 173 (.pair (.int .i64) (.int .i64)) y3)=>
 some (y0,y1,y2,y3,y4)
 |_=>none)
 |_=>none)
 |_=>none)
 |_=>none)
 |_=>none)
 |_=>none)
def kA:Lp oz where
 h:=⟨[42,43,44,45,46,49,50,51,52,53,54,3,47,48,5],[0,2],[1],[]⟩
 JL:=afq
 JE:=afi
 XL:=afG
 XE:=afy
 q:=fun j=>match j with | _=> .exit 3
 tags:= [0]
 lt:=NP
 fuel:=fun(y0,y1,y2,y3,y4)=>y0.natAbs + y1.natAbs + y2.natAbs + y3.length + y4.length
 fix:=fun(_,_,_,_,y4) (y0,y1,y2,y3,_)=>(y0,y1,y2,y3,y4)
 σ:= [(0,0),(2,1),(1,1024)]
 rd:=Oc
theorem adk:LoopOk Tryz.prog (fun k=>Nat.blt k Tryz.f140.ntmps) kA.F (aT Tryz.f140 1):=by
 refine Lp.ok (tbl:= [ar,PF.lend ar,PF.fz ar,au,PF.lend au,PF.fz au]) (lf:= []) aS kA (by kernel_rfl) (LOk.nil _) (fun _=>rfl) (fun _ _=>rfl) ?_ ?_ ?_ ?_ (fun _=>rfl) ?_
 ·rintro⟨y0,y1,y2,y3,y4⟩;kernel_rfl
 ·rintro⟨y0,y1,y2,y3,y4⟩;kernel_rfl
 ·intro s x h
  have h:Oc s=some x:=h
  unfold Oc at h
  repeat' split at h
  all_goals cases h
  exact⟨aa (by assumption) rfl (aa (by assumption) rfl (aa (by assumption) rfl (rfl))),ab rfl (by assumption) rfl (ab rfl (by assumption) rfl (ab rfl (by assumption) rfl (rfl)))⟩
 ·rintro⟨y0,y1,y2,y3,y4⟩;kernel_rfl
 ·rintro⟨y0,y1,y2,y3,y4⟩ z;exact(And.intro rfl trivial)
section
variable (x0 x1:Int)(x2:List Int)
def vq:Int×List (Int×Int)×Int×Int×List Int:=(nxV (5:Int) x0 x1 x2,[],nxA (5:Int) x0 x2,nxS (5:Int) x0 x1 x2,x2)
def zZ:List (Int×Int)×Int×Int×List Int:=(Lp.res kz (vq x0 x1 x2)).2.2
def qn:Int×Int×List Int:=(zZ x0 x1 x2).2
def vr:Int:=((qn x0 x1 x2).2).1
def z8:Int:=nxV (40:Int) ((qn x0 x1 x2).1) (vr x0 x1 x2) x2
def jR:Bool:=z8 x0 x1 x2==(0:Int)
def nb:Int:=nxA (40:Int) ((qn x0 x1 x2).1) x2
def rW:Int:=pkA (nb x0 x1 x2) [(0:Int),(1:Int),(367:Int)] x2
def rX:Bool:=z8 x0 x1 x2==(1:Int)
def qo:Int:=nxS (40:Int) ((qn x0 x1 x2).1) (vr x0 x1 x2) x2
def tp:Int×Int×Int×List (Int×Int)×List Int:=((0:Int),nb x0 x1 x2,qo x0 x1 x2,[],x2)
def wx:Int×Int×List (Int×Int)×List Int:=(Lp.res kA (tp x0 x1 x2)).2.2
def wy:Int:=(wx x0 x1 x2).1
def tq:Int:=pkS (nb x0 x1 x2) (qo x0 x1 x2) [(0:Int),(1:Int),(367:Int)] x2
def wz:Int×List (Int×Int)×List Int:=(wx x0 x1 x2).2
def qE:List (Int×Int):=(zZ x0 x1 x2).1
def tt:List (Int×Int):= [(pkV (nb x0 x1 x2) (qo x0 x1 x2) [(0:Int),(1:Int),(367:Int)] x2,pkV (rW x0 x1 x2) (tq x0 x1 x2) [(-1:Int),(100000:Int),(100001:Int)] x2)]
def uH:Int:=bif jR x0 x1 x2 then pkA (rW x0 x1 x2) [(-1:Int),(100000:Int),(100001:Int)] x2 else bif rX x0 x1 x2 then uK (wy x0 x1 x2) x2 else nb x0 x1 x2
def uI:Int:=bif jR x0 x1 x2 then pkS (rW x0 x1 x2) (tq x0 x1 x2) [(-1:Int),(100000:Int),(100001:Int)] x2 else bif rX x0 x1 x2 then uL (wy x0 x1 x2) ((wz x0 x1 x2).1) x2 else qo x0 x1 x2
def uJ:List (Int×Int):=bif jR x0 x1 x2 then qE x0 x1 x2++tt x0 x1 x2 else bif rX x0 x1 x2 then ((wz x0 x1 x2).2).1else qE x0 x1 x2
def Dt:Bool:=allT [aD x0 x1 x2,Lp.fin kz (vq x0 x1 x2),aD ((qn x0 x1 x2).1) (vr x0 x1 x2) x2,!jR x0 x1 x2||aD (nb x0 x1 x2) (qo x0 x1 x2) x2&&leN (1:Nat) (List.length [(0:Int),(1:Int),(367:Int)]),!jR x0 x1 x2||aD (rW x0 x1 x2) (tq x0 x1 x2) x2&&leN (1:Nat) (List.length [(-1:Int),(100000:Int),(100001:Int)]),!jR x0 x1 x2||leN (List.length (qE x0 x1 x2) + List.length (tt x0 x1 x2)) (9223372036854775807:Nat),!jR x0 x1 x2||leN ((List.length (qE x0 x1 x2) + List.length (tt x0 x1 x2)) * (16:Nat)) (140737488355328:Nat),jR x0 x1 x2||(!rX x0 x1 x2||Lp.fin kA (tp x0 x1 x2))]
end
def acq:List SV→List Entry→Option Out
 | [.one ⟨false,[.ptr 0 0]⟩],[.box 157 [.ref 1,.val (.int .i64 x0),.val (.int .i64 x1)],.row false 5 (.int .u8) x2]=>some ⟨(.one ⟨false,[(.ref 2)]⟩),[(.box 157 [(.ref 1),(.val (.int .i64 (uH x0 x1 x2))),(.val (.int .i64 (uI x0 x1 x2)))]),(.row false 5 ash x2)],[(.row true 173 asf (uJ x0 x1 x2))],[(Dt x0 x1 x2)]⟩
 |_,_=>none
def akA:PF Tryz.prog:=PF.ofG Tryz.prog [ar,PF.lend ar,PF.fz ar,au,PF.lend au,PF.fz au] [kz.F,kA.F] aS 140 Tryz.f140 Tryz.func140 (LOk.fnT (l:= [aT Tryz.f140 0,aT Tryz.f140 1]) (by kernel_rfl) (.cons adj (.cons adk (.nil _)))) acq (by
 intro vs es r h;unfold acq at h;split at h
 ·cases h;kernel_rfl
 ·cases h)
abbrev iF:=Int×Int×List (Int×Int)×Int×Int×List Int
section
variable (y0 y1:Int)(y2:List (Int×Int))(y3 y4:Int)(y5:List Int)
def pu:List (Int×Int):= [(nxV (4:Int) y3 y4 y5,y1)]
def AW:Bool:=ltI (0:Int) y0
def AX:Bool:=aD y3 y4 y5
def AY:Bool:=leN (List.length y2 + List.length (pu y1 y3 y4 y5)) (9223372036854775807:Nat)
def AZ:Bool:=leN ((List.length y2 + List.length (pu y1 y3 y4 y5)) * (16:Nat)) (140737488355328:Nat)
def Ba:Bool:=aD (nxA (4:Int) y3 y5) (nxS (4:Int) y3 y4 y5) y5
def Bb:Int:=IntKind.wrap .i64 (y0 - (1:Int))
def Bc:Int:=IntKind.wrap .i64 (IntKind.wrap .i64 (y1 + (1:Int)) + nxV (3:Int) (nxA (4:Int) y3 y5) (nxS (4:Int) y3 y4 y5) y5)
def Bd:List (Int×Int):=y2++pu y1 y3 y4 y5
def Be:Int:=nxA (3:Int) (nxA (4:Int) y3 y5) y5
def Bf:Int:=nxS (3:Int) (nxA (4:Int) y3 y5) (nxS (4:Int) y3 y4 y5) y5
end
def YU:iF→List (Nat×SV)
 |(y0,y1,_,_,_,_)=> [(5,(.one ⟨false,[(.val (.int .i64 y0))]⟩)),(3,(.one ⟨false,[(.ref 0)]⟩)),(0,(.one ⟨false,[(.ptr 1 0)]⟩)),(4,(.one ⟨false,[(.val (.int .i64 y1))]⟩))]
def YR:iF→List (Nat×Entry)
 |(_,_,y2,y3,y4,y5)=> [(1,(.box 157 [(.ref 2),(.val (.int .i64 y3)),(.val (.int .i64 y4))])),(2,(.row false 5 ash y5)),(0,(.row true 176 asf y2))]
def Zi:Nat→iF→List (Nat×SV)
 |_,(_,_,_,_,_,_)=> [(3,(.one ⟨false,[(.ref 0)]⟩))]
def Zf:Nat→iF→List (Nat×Entry)
 |_,(_,_,y2,y3,y4,y5)=> [(0,(.row true 176 asf y2)),(1,(.box 157 [(.ref 2),(.val (.int .i64 y3)),(.val (.int .i64 y4))])),(2,(.row false 5 ash y5))]
def Gg:iF→LT iF
 |(y0,y1,y2,y3,y4,y5)=> .ite (AW y0) (.need [(AX y3 y4 y5),(AY y1 y2 y3 y4 y5),(AZ y1 y2 y3 y4 y5)] (.need [(Ba y3 y4 y5)] (.nrm ((Bb y0),(Bc y1 y3 y4 y5),(Bd y1 y2 y3 y4 y5),(Be y3 y5),(Bf y3 y4 y5),y5) [(0,576),(1,1),(2,2)]))) (.ext 0 [(0,0),(1,1),(2,2)])
def Gn(s:St):Option iF:=
 (match s.look 5 with
 |some ⟨none,(.one ⟨false,[(.val (.int .i64 y0))]⟩)⟩=>
 (match s.look 3 with
 |some ⟨none,(.one ⟨false,[(.ref 256)]⟩)⟩=>
 (match s.look 0 with
 |some ⟨none,(.one ⟨false,[(.ptr 0 0)]⟩)⟩=>
 (match s.look 4 with
 |some ⟨none,(.one ⟨false,[(.val (.int .i64 y1))]⟩)⟩=>
 (match s.ent 0 with
 |some (.box 157 [(.ref 1),(.val (.int .i64 y3)),(.val (.int .i64 y4))])=>
 (match s.ent 1 with
 |some (.row false 5 (.int IntKind.u8) y5)=>
 (match s.ent 256 with
 |some (.row true 176 (.pair (.int .i64) (.int .i64)) y2)=>
 some (y0,y1,y2,y3,y4,y5)
 |_=>none)
 |_=>none)
 |_=>none)
 |_=>none)
 |_=>none)
 |_=>none)
 |_=>none)
def fH:Lp iF where
 h:=⟨[13,14,17,18,19,20,21,22,23,3,24,25,26,27,28,4,15,16,5],[1,2],[0],[]⟩
 JL:=YU
 JE:=YR
 XL:=Zi
 XE:=Zf
 q:=fun j=>match j with | _=> .exit 0
 tags:= [0]
 lt:=Gg
 fuel:=fun(y0,y1,y2,y3,y4,y5)=>y0.natAbs + y1.natAbs + y2.length + y3.natAbs + y4.natAbs + y5.length
 fix:=fun(_,_,_,_,_,y5) (y0,y1,y2,y3,y4,_)=>(y0,y1,y2,y3,y4,y5)
 σ:= [(1,0),(2,1),(0,256)]
 rd:=Gn
theorem WB:LoopOk Tryz.prog (fun k=>Nat.blt k Tryz.f141.ntmps) fH.F (aT Tryz.f141 0):=by
 refine Lp.ok (tbl:= [ar,PF.lend ar,PF.fz ar,au,PF.lend au,PF.fz au]) (lf:= []) aS fH (by kernel_rfl) (LOk.nil _) (fun _=>rfl) (fun _ _=>rfl) ?_ ?_ ?_ ?_ (fun _=>rfl) ?_
 ·rintro⟨y0,y1,y2,y3,y4,y5⟩;kernel_rfl
 ·rintro⟨y0,y1,y2,y3,y4,y5⟩;kernel_rfl
 ·intro s x h
  have h:Gn s=some x:=h
  unfold Gn at h
  repeat' split at h
  all_goals cases h
  exact⟨aa (by assumption) rfl (aa (by assumption) rfl (aa (by assumption) rfl (aa (by assumption) rfl (rfl)))),ab rfl (by assumption) rfl (ab rfl (by assumption) rfl (ab rfl (by assumption) rfl (rfl)))⟩
 ·rintro⟨y0,y1,y2,y3,y4,y5⟩;kernel_rfl
 ·rintro⟨y0,y1,y2,y3,y4,y5⟩ z;exact(And.intro rfl trivial)
abbrev iG:=Int×Int×Int×List (Int×Int)×List Int
section
variable (y0 y1 y2:Int)(y4:List Int)
def lU:List (Int×Int):= [(y0,IntKind.wrap .i64 ((1:Int) + Int.tmod y0 (3:Int)))]
def uA:Bool:=aD y1 y2 y4
def uB:Bool:=ltI y0 (IntKind.wrap .i64 ((8:Int) + nxV (2:Int) y1 y2 y4))
end
def uC:Bool:=neI (3:Int) (0:Int)
section
variable (y0 y1 y2:Int)(y3:List (Int×Int))(y4:List Int)
def uD:Bool:=leN (List.length y3 + List.length (lU y0)) (9223372036854775807:Nat)
def uE:Bool:=leN ((List.length y3 + List.length (lU y0)) * (16:Nat)) (140737488355328:Nat)
def uF:Int:=IntKind.wrap .i64 (y0 + (1:Int))
def mJ:Int:=nxA (2:Int) y1 y4
def mK:Int:=nxS (2:Int) y1 y2 y4
def uG:List (Int×Int):=y3++lU y0
end
def YV:iG→List (Nat×SV)
 |(y0,_,_,_,_)=> [(6,(.one ⟨false,[(.val (.int .i64 y0))]⟩)),(0,(.one ⟨false,[(.ptr 0 0)]⟩)),(3,(.one ⟨false,[(.ref 1)]⟩))]
def YS:iG→List (Nat×Entry)
 |(_,y1,y2,y3,y4)=> [(0,(.box 157 [(.ref 2),(.val (.int .i64 y1)),(.val (.int .i64 y2))])),(2,(.row false 5 ash y4)),(1,(.row true 176 asf y3))]
def Zj:Nat→iG→List (Nat×SV)
 |_,(_,_,_,_,_)=> [(3,(.one ⟨false,[(.ref 1)]⟩))]
def Zg:Nat→iG→List (Nat×Entry)
 |_,(_,y1,y2,y3,y4)=> [(0,(.box 157 [(.ref 2),(.val (.int .i64 (mJ y1 y4))),(.val (.int .i64 (mK y1 y2 y4)))])),(1,(.row true 176 asf y3)),(2,(.row false 5 ash y4))]
def Gh:iG→LT iG
 |(y0,y1,y2,y3,y4)=> .need [(uA y1 y2 y4)] (.ite (uB y0 y1 y2 y4) (.need [(uC),(uD y0 y3),(uE y0 y3)] (.nrm ((uF y0),(mJ y1 y4),(mK y1 y2 y4),(uG y0 y3),y4) [(0,0),(1,832),(2,2)])) (.ext 0 [(0,0),(1,1),(2,2)]))
def Gp(s:St):Option iG:=
 (match s.look 6 with
 |some ⟨none,(.one ⟨false,[(.val (.int .i64 y0))]⟩)⟩=>
 (match s.look 0 with
 |some ⟨none,(.one ⟨false,[(.ptr 0 0)]⟩)⟩=>
 (match s.look 3 with
 |some ⟨none,(.one ⟨false,[(.ref 1280)]⟩)⟩=>
 (match s.ent 0 with
 |some (.box 157 [(.ref 1),(.val (.int .i64 y1)),(.val (.int .i64 y2))])=>
 (match s.ent 1 with
 |some (.row false 5 (.int IntKind.u8) y4)=>
 (match s.ent 1280 with
 |some (.row true 176 (.pair (.int .i64) (.int .i64)) y3)=>
 some (y0,y1,y2,y3,y4)
 |_=>none)
 |_=>none)
 |_=>none)
 |_=>none)
 |_=>none)
 |_=>none)
def fI:Lp iG where
 h:=⟨[46,47,48,49,50,53,54,55,56,57,58,59,60,3,51,52,6],[0,2],[1],[]⟩
 JL:=YV
 JE:=YS
 XL:=Zj
 XE:=Zg
 q:=fun j=>match j with | _=> .exit 3
 tags:= [0]
 lt:=Gh
 fuel:=fun(y0,y1,y2,y3,y4)=>y0.natAbs + y1.natAbs + y2.natAbs + y3.length + y4.length
 fix:=fun(_,_,_,_,y4) (y0,y1,y2,y3,_)=>(y0,y1,y2,y3,y4)
 σ:= [(0,0),(2,1),(1,1280)]
 rd:=Gp
theorem WC:LoopOk Tryz.prog (fun k=>Nat.blt k Tryz.f141.ntmps) fI.F (aT Tryz.f141 1):=by
 refine Lp.ok (tbl:= [ar,PF.lend ar,PF.fz ar,au,PF.lend au,PF.fz au]) (lf:= []) aS fI (by kernel_rfl) (LOk.nil _) (fun _=>rfl) (fun _ _=>rfl) ?_ ?_ ?_ ?_ (fun _=>rfl) ?_
 ·rintro⟨y0,y1,y2,y3,y4⟩;kernel_rfl
 ·rintro⟨y0,y1,y2,y3,y4⟩;kernel_rfl
 ·intro s x h
  have h:Gp s=some x:=h
  unfold Gp at h
  repeat' split at h
  all_goals cases h
  exact⟨aa (by assumption) rfl (aa (by assumption) rfl (aa (by assumption) rfl (rfl))),ab rfl (by assumption) rfl (ab rfl (by assumption) rfl (ab rfl (by assumption) rfl (rfl)))⟩
 ·rintro⟨y0,y1,y2,y3,y4⟩;kernel_rfl
 ·rintro⟨y0,y1,y2,y3,y4⟩ z;exact(And.intro rfl trivial)
section
variable (x0 x1:Int)(x2:List Int)
def mn:Int×Int×List (Int×Int)×Int×Int×List Int:=(nxV (5:Int) (nxA (3:Int) x0 x2) (nxS (3:Int) x0 x1 x2) x2,IntKind.wrap .i64 ((1:Int) + nxV (3:Int) x0 x1 x2),[],nxA (5:Int) (nxA (3:Int) x0 x2) x2,nxS (5:Int) (nxA (3:Int) x0 x2) (nxS (3:Int) x0 x1 x2) x2,x2)
def p9:List (Int×Int)×Int×Int×List Int:=(Lp.res fH (mn x0 x1 x2)).2.2.2
def i6:Int×Int×List Int:=(p9 x0 x1 x2).2
def mo:Int:=((i6 x0 x1 x2).2).1
def mp:Int:=nxV (40:Int) ((i6 x0 x1 x2).1) (mo x0 x1 x2) x2
def cA:Bool:=mp x0 x1 x2==(0:Int)
def fD:Int:=nxA (40:Int) ((i6 x0 x1 x2).1) x2
def ki:Int:=pkA (fD x0 x1 x2) [(-1:Int),(0:Int),(23:Int),(24:Int)] x2
def gT:Bool:=mp x0 x1 x2==(1:Int)
def gU:Int:=nxS (40:Int) ((i6 x0 x1 x2).1) (mo x0 x1 x2) x2
def lc:Int×Int×Int×List (Int×Int)×List Int:=((0:Int),fD x0 x1 x2,gU x0 x1 x2,[],x2)
def om:Int×Int×List (Int×Int)×List Int:=(Lp.res fI (lc x0 x1 x2)).2.2
def oo:Int:=(om x0 x1 x2).1
def ip:Bool:=mp x0 x1 x2==(2:Int)
def ld:Int:=pkS (fD x0 x1 x2) (gU x0 x1 x2) [(-1:Int),(0:Int),(23:Int),(24:Int)] x2
def oq:Int×List (Int×Int)×List Int:=(om x0 x1 x2).2
def ce:List (Int×Int):=(p9 x0 x1 x2).1
def lg:List (Int×Int):= [(pkV (fD x0 x1 x2) (gU x0 x1 x2) [(-1:Int),(0:Int),(23:Int),(24:Int)] x2,pkV (ki x0 x1 x2) (ld x0 x1 x2) [(0:Int),(999:Int),(1000:Int)] x2)]
def lx:Int:=bif cA x0 x1 x2 then pkA (ki x0 x1 x2) [(0:Int),(999:Int),(1000:Int)] x2 else bif gT x0 x1 x2 then mJ (oo x0 x1 x2) x2 else bif ip x0 x1 x2 then fD x0 x1 x2 else fD x0 x1 x2
def ly:Int:=bif cA x0 x1 x2 then pkS (ki x0 x1 x2) (ld x0 x1 x2) [(0:Int),(999:Int),(1000:Int)] x2 else bif gT x0 x1 x2 then mK (oo x0 x1 x2) ((oq x0 x1 x2).1) x2 else bif ip x0 x1 x2 then gU x0 x1 x2 else gU x0 x1 x2
def lz:List (Int×Int):=bif cA x0 x1 x2 then ce x0 x1 x2++lg x0 x1 x2 else bif gT x0 x1 x2 then ((oq x0 x1 x2).2).1else bif ip x0 x1 x2 then ce x0 x1 x2++ce x0 x1 x2 else ce x0 x1 x2
def q8:Bool:=allT [aD x0 x1 x2,aD (nxA (3:Int) x0 x2) (nxS (3:Int) x0 x1 x2) x2,Lp.fin fH (mn x0 x1 x2),aD ((i6 x0 x1 x2).1) (mo x0 x1 x2) x2,!cA x0 x1 x2||aD (fD x0 x1 x2) (gU x0 x1 x2) x2&&leN (1:Nat) (List.length [(-1:Int),(0:Int),(23:Int),(24:Int)]),!cA x0 x1 x2||aD (ki x0 x1 x2) (ld x0 x1 x2) x2&&leN (1:Nat) (List.length [(0:Int),(999:Int),(1000:Int)]),!cA x0 x1 x2||leN (List.length (ce x0 x1 x2) + List.length (lg x0 x1 x2)) (9223372036854775807:Nat),!cA x0 x1 x2||leN ((List.length (ce x0 x1 x2) + List.length (lg x0 x1 x2)) * (16:Nat)) (140737488355328:Nat),cA x0 x1 x2||(!gT x0 x1 x2||Lp.fin fI (lc x0 x1 x2)),cA x0 x1 x2||(gT x0 x1 x2||(!ip x0 x1 x2||leN (List.length (ce x0 x1 x2) + List.length (ce x0 x1 x2)) (9223372036854775807:Nat))),cA x0 x1 x2||(gT x0 x1 x2||(!ip x0 x1 x2||leN ((List.length (ce x0 x1 x2) + List.length (ce x0 x1 x2)) * (16:Nat)) (140737488355328:Nat)))]
end
def TZ:List SV→List Entry→Option Out
 | [.one ⟨false,[.ptr 0 0]⟩],[.box 157 [.ref 1,.val (.int .i64 x0),.val (.int .i64 x1)],.row false 5 (.int .u8) x2]=>some ⟨(.one ⟨false,[(.ref 2)]⟩),[(.box 157 [(.ref 1),(.val (.int .i64 (lx x0 x1 x2))),(.val (.int .i64 (ly x0 x1 x2)))]),(.row false 5 ash x2)],[(.row true 176 asf (lz x0 x1 x2))],[(q8 x0 x1 x2)]⟩
 |_,_=>none
def aeE:PF Tryz.prog:=PF.ofG Tryz.prog [ar,PF.lend ar,PF.fz ar,au,PF.lend au,PF.fz au] [fH.F,fI.F] aS 141 Tryz.f141 Tryz.func141 (LOk.fnT (l:= [aT Tryz.f141 0,aT Tryz.f141 1]) (by kernel_rfl) (.cons WB (.cons WC (.nil _)))) TZ (by
 intro vs es r h;unfold TZ at h;split at h
 ·cases h;kernel_rfl
 ·cases h)
abbrev oA:=Int×Int×List Int
section
variable (y0 y1:Int)(y2:List Int)
def QH:Bool:=ltI (0:Int) y0
def QI:Bool:=leN (List.length y2 + List.length [y1]) (9223372036854775807:Nat)
def QJ:Bool:=leN ((List.length y2 + List.length [y1]) * (8:Nat)) (140737488355328:Nat)
def QK:Int:=IntKind.wrap .i64 (y0 - (1:Int))
def QL:List Int:=y2++ [y1]
end
def afs:oA→List (Nat×SV)
 |(y0,y1,_)=> [(0,(.one ⟨false,[(.val (.int .i64 y0))]⟩)),(5,(.one ⟨false,[(.ref 0)]⟩)),(1,(.one ⟨false,[(.val (.int .i64 y1))]⟩))]
def afk:oA→List (Nat×Entry)
 |(_,_,y2)=> [(0,(.row true 2 asg y2))]
def afI:Nat→oA→List (Nat×SV)
 |_,(_,_,_)=> [(5,(.one ⟨false,[(.ref 0)]⟩))]
def afA:Nat→oA→List (Nat×Entry)
 |_,(_,_,y2)=> [(0,(.row true 2 asg y2))]
def NQ:oA→LT oA
 |(y0,y1,y2)=> .ite (QH y0) (.need [(QI y1 y2),(QJ y1 y2)] (.nrm ((QK y0),y1,(QL y1 y2)) [(0,384)])) (.ext 0 [(0,0)])
def Oe(s:St):Option oA:=
 (match s.look 0 with
 |some ⟨none,(.one ⟨false,[(.val (.int .i64 y0))]⟩)⟩=>
 (match s.look 5 with
 |some ⟨none,(.one ⟨false,[(.ref 128)]⟩)⟩=>
 (match s.look 1 with
 |some ⟨none,(.one ⟨false,[(.val (.int .i64 y1))]⟩)⟩=>
 (match s.ent 128 with
 |some (.row true 2 (.int .i64) y2)=>
 some (y0,y1,y2)
 |_=>none)
 |_=>none)
 |_=>none)
 |_=>none)
def kB:Lp oA where
 h:=⟨[7,8,11,12,13,14,5,9,10,0],[],[0],[]⟩
 JL:=afs
 JE:=afk
 XL:=afI
 XE:=afA
 q:=fun j=>match j with | _=> .exit 0
 tags:= [0]
 lt:=NQ
 fuel:=fun(y0,y1,y2)=>y0.natAbs + y1.natAbs + y2.length
 fix:=fun(_,y1,_) (y0,_,y2)=>(y0,y1,y2)
 σ:= [(0,128)]
 rd:=Oe
theorem adm:LoopOk Tryz.prog (fun k=>Nat.blt k Tryz.f74.ntmps) kB.F (aT Tryz.f74 0):=by
 refine Lp.ok (tbl:= []) (lf:= []) aS kB (by kernel_rfl) (LOk.nil _) (fun _=>rfl) (fun _ _=>rfl) ?_ ?_ ?_ ?_ (fun _=>rfl) ?_
 ·rintro⟨y0,y1,y2⟩;kernel_rfl
 ·rintro⟨y0,y1,y2⟩;kernel_rfl
 ·intro s x h
  have h:Oe s=some x:=h
  unfold Oe at h
  repeat' split at h
  all_goals cases h
  exact⟨aa (by assumption) rfl (aa (by assumption) rfl (aa (by assumption) rfl (rfl))),ab rfl (by assumption) rfl (rfl)⟩
 ·rintro⟨y0,y1,y2⟩;kernel_rfl
 ·rintro⟨y0,y1,y2⟩ z;exact(And.intro rfl trivial)
section
variable (x0 x1:Int)
def Aa:Int×Int×List Int:=(x0,x1,[])
def qg:List Int:=(Lp.res kB (Aa x0 x1)).2.2.2
def GV:Bool:=allT [Lp.fin kB (Aa x0 x1)]
end
def act:List SV→List Entry→Option Out
 | [.one ⟨false,[.val (.int .i64 x0)]⟩,.one ⟨false,[.val (.int .i64 x1)]⟩],[]=>some ⟨(.one ⟨false,[(.ref 0)]⟩),[],[(.row true 2 asg (qg x0 x1))],[(GV x0 x1)]⟩
 |_,_=>none
def akB:PF Tryz.prog:=PF.ofG Tryz.prog [] [kB.F] aS 74 Tryz.f74 Tryz.func74 (LOk.fnT (l:= [aT Tryz.f74 0]) (by kernel_rfl) (.cons adm (.nil _))) act (by
 intro vs es r h;unfold act at h;split at h
 ·cases h;kernel_rfl
 ·cases h)
section
variable (x0 x1 x2:Int)(x3:List Int)
def vb:Bool:=ltI (nxV (4:Int) x1 x2 x3) (2:Int)
def gJ:Int:=bif vb x1 x2 x3 then nxA x0 (nxA (4:Int) x1 x3) x3 else nxA (4:Int) x1 x3
def FV:Int:=bif vb x1 x2 x3 then nxS x0 (nxA (4:Int) x1 x3) (nxS (4:Int) x1 x2 x3) x3 else nxS (4:Int) x1 x2 x3
def Mq:Int:=nxV (40:Int) (gJ x0 x1 x2 x3) (FV x0 x1 x2 x3) x3
def qY:Bool:=Mq x0 x1 x2 x3==(0:Int)
def qZ:Int:=nxS (40:Int) (gJ x0 x1 x2 x3) (FV x0 x1 x2 x3) x3
def vc:Bool:=Mq x0 x1 x2 x3==(1:Int)
def Mr:Int:=bif vb x1 x2 x3 then nxV (4:Int) x1 x2 x3 else nxV (4:Int) x1 x2 x3
def Mt:Int:=bif vb x1 x2 x3 then nxV x0 (nxA (4:Int) x1 x3) (nxS (4:Int) x1 x2 x3) x3 else(0:Int)
def AB:List Int:= [(-1:Int),x0,(1:Int)]
def Lg:Bool:=aD (nxA (40:Int) (gJ x0 x1 x2 x3) x3) (qZ x0 x1 x2 x3) x3
def Ib:Int:=bif qY x0 x1 x2 x3 then pkV (nxA (40:Int) (gJ x0 x1 x2 x3) x3) (qZ x0 x1 x2 x3) [(-1:Int),(4:Int),(2:Int)] x3 else bif vc x0 x1 x2 x3 then Mr x1 x2 x3 else Mr x1 x2 x3
def Ic:Int:=bif qY x0 x1 x2 x3 then Mt x0 x1 x2 x3 else bif vc x0 x1 x2 x3 then pkV (nxA (40:Int) (gJ x0 x1 x2 x3) x3) (qZ x0 x1 x2 x3) (AB x0) x3 else Mt x0 x1 x2 x3
def Dn:Int:=bif qY x0 x1 x2 x3 then pkA (nxA (40:Int) (gJ x0 x1 x2 x3) x3) [(-1:Int),(4:Int),(2:Int)] x3 else bif vc x0 x1 x2 x3 then pkA (nxA (40:Int) (gJ x0 x1 x2 x3) x3) (AB x0) x3 else nxA (40:Int) (gJ x0 x1 x2 x3) x3
def Do:Int:=bif qY x0 x1 x2 x3 then pkS (nxA (40:Int) (gJ x0 x1 x2 x3) x3) (qZ x0 x1 x2 x3) [(-1:Int),(4:Int),(2:Int)] x3 else bif vc x0 x1 x2 x3 then pkS (nxA (40:Int) (gJ x0 x1 x2 x3) x3) (qZ x0 x1 x2 x3) (AB x0) x3 else qZ x0 x1 x2 x3
def Oo:Bool:=allT [aD x1 x2 x3,!vb x1 x2 x3||aD (nxA (4:Int) x1 x3) (nxS (4:Int) x1 x2 x3) x3,aD (gJ x0 x1 x2 x3) (FV x0 x1 x2 x3) x3,!qY x0 x1 x2 x3||Lg x0 x1 x2 x3&&leN (1:Nat) (List.length [(-1:Int),(4:Int),(2:Int)]),qY x0 x1 x2 x3||(!vc x0 x1 x2 x3||Lg x0 x1 x2 x3&&leN (1:Nat) (List.length (AB x0)))]
end
def UH:List SV→List Entry→Option Out
 | [.one ⟨false,[.ptr 0 0]⟩,.one ⟨false,[.val (.int .i64 x0)]⟩],[.box 157 [.ref 1,.val (.int .i64 x1),.val (.int .i64 x2)],.row false 5 (.int .u8) x3]=>some ⟨(.one ⟨true,[(.val (.int .i64 (Ib x0 x1 x2 x3))),(.val (.int .i64 (Ic x0 x1 x2 x3)))]⟩),[(.box 157 [(.ref 1),(.val (.int .i64 (Dn x0 x1 x2 x3))),(.val (.int .i64 (Do x0 x1 x2 x3)))]),(.row false 5 ash x3)],[],[(Oo x0 x1 x2 x3)]⟩
 |_,_=>none
def af6:PF Tryz.prog:=PF.ofG Tryz.prog [ar,PF.lend ar,PF.fz ar,au,PF.lend au,PF.fz au] [] aS 142 Tryz.f142 Tryz.func142 (fun c _=>LOk.nil c) UH (by
 intro vs es r h;unfold UH at h;split at h
 ·cases h;kernel_rfl
 ·cases h)
section
variable (x0 x1:Int)(x2:List Int)
def vn:Int:=pkA (nxA (10:Int) x0 x2) [(0:Int),(1:Int),(2:Int),(3:Int),(3:Int)] x2
def NB:Int:=pkS (nxA (10:Int) x0 x2) (nxS (10:Int) x0 x1 x2) [(0:Int),(1:Int),(2:Int),(3:Int),(3:Int)] x2
def NC:Int:=nxS (3:Int) (vn x0 x2) (NB x0 x1 x2) x2
def TR:Int:=nxV (60:Int) (nxA (3:Int) (vn x0 x2) x2) (NC x0 x1 x2) x2
def vo:Bool:=TR x0 x1 x2==(0:Int)
def qm:Int:=nxA (60:Int) (nxA (3:Int) (vn x0 x2) x2) x2
def vp:Int:=nxS (60:Int) (nxA (3:Int) (vn x0 x2) x2) (NC x0 x1 x2) x2
def zY:Bool:=TR x0 x1 x2==(1:Int)
def TS:Int:=pkV (nxA (10:Int) x0 x2) (nxS (10:Int) x0 x1 x2) [(0:Int),(1:Int),(2:Int),(3:Int),(3:Int)] x2
def ND:Bool:=ltI (0:Int) (nxV (3:Int) (vn x0 x2) (NB x0 x1 x2) x2)
def Qx:Int:=bif vo x0 x1 x2 then pkV (qm x0 x2) (vp x0 x1 x2) [(-1:Int),(10:Int)] x2 else bif zY x0 x1 x2 then nxV (10:Int) x0 x1 x2 else nxV (10:Int) x0 x1 x2
def Qy:Int:=bif vo x0 x1 x2 then TS x0 x1 x2 else bif zY x0 x1 x2 then pkV (qm x0 x2) (vp x0 x1 x2) [(-1:Int),(4:Int)] x2 else TS x0 x1 x2
def Qz:Bool:=bif vo x0 x1 x2 then ND x0 x1 x2 else bif zY x0 x1 x2 then ND x0 x1 x2 else ND x0 x1 x2
def Lj:Int:=bif vo x0 x1 x2 then pkA (qm x0 x2) [(-1:Int),(10:Int)] x2 else bif zY x0 x1 x2 then pkA (qm x0 x2) [(-1:Int),(4:Int)] x2 else qm x0 x2
def Lk:Int:=bif vo x0 x1 x2 then pkS (qm x0 x2) (vp x0 x1 x2) [(-1:Int),(10:Int)] x2 else bif zY x0 x1 x2 then pkS (qm x0 x2) (vp x0 x1 x2) [(-1:Int),(4:Int)] x2 else vp x0 x1 x2
def Wh:Bool:=allT [aD x0 x1 x2,aD (nxA (10:Int) x0 x2) (nxS (10:Int) x0 x1 x2) x2&&leN (1:Nat) (List.length [(0:Int),(1:Int),(2:Int),(3:Int),(3:Int)]),aD (vn x0 x2) (NB x0 x1 x2) x2,aD (nxA (3:Int) (vn x0 x2) x2) (NC x0 x1 x2) x2,!vo x0 x1 x2||aD (qm x0 x2) (vp x0 x1 x2) x2&&leN (1:Nat) (List.length [(-1:Int),(10:Int)]),vo x0 x1 x2||(!zY x0 x1 x2||aD (qm x0 x2) (vp x0 x1 x2) x2&&leN (1:Nat) (List.length [(-1:Int),(4:Int)]))]
end
def ack:List SV→List Entry→Option Out
 | [.one ⟨false,[.ptr 0 0]⟩],[.box 157 [.ref 1,.val (.int .i64 x0),.val (.int .i64 x1)],.row false 5 (.int .u8) x2]=>some ⟨(.one ⟨true,[(.val (.int .i64 (Qx x0 x1 x2))),(.val (.int .i64 (Qy x0 x1 x2))),(.val (.bool (Qz x0 x1 x2)))]⟩),[(.box 157 [(.ref 1),(.val (.int .i64 (Lj x0 x1 x2))),(.val (.int .i64 (Lk x0 x1 x2)))]),(.row false 5 ash x2)],[],[(Wh x0 x1 x2)]⟩
 |_,_=>none
def akw:PF Tryz.prog:=PF.ofG Tryz.prog [ar,PF.lend ar,PF.fz ar,au,PF.lend au,PF.fz au] [] aS 143 Tryz.f143 Tryz.func143 (fun c _=>LOk.nil c) ack (by
 intro vs es r h;unfold ack at h;split at h
 ·cases h;kernel_rfl
 ·cases h)
end Go.SX

namespace Go.SX
open Go.Proofs
set_option maxRecDepth 100000
theorem Lp.inv{X:Type}(p:Lp X)(I Q:Nat→X→Prop)
  (hs: ∀ k x,I (k + 1) x→(∃ j,(p.lt x).out=some (.inl j)∧Q j x)∨ ∃ y,(p.lt x).out=some (.inr y)∧I k y)
  (he: ∀ x,I 0 x→ ∃ j,(p.lt x).out=some (.inl j)∧Q j x) (N:Nat) (x:X) (hN:N≤999) (h:I N x):
  p.fin x=true∧ ∃ j y,p.res x=(j,y)∧Q j y:=by
 have key: ∀ (k:Nat) (x:X),I k x→ ∃ j y,Re p.lt (k + 1) x=some (j,y)∧Q j y:=by
  intro k
  induction k with
  |zero=>
   intro x h
   obtain⟨j,h1,h2⟩:=he x h
   exact⟨j,x,ahw _ h1,h2⟩
  |succ k ih=>
   intro x h
   rcases hs k x h with⟨j,h1,h2⟩ | ⟨y,h1,h2⟩
   ·exact⟨j,x,ahw _ h1,h2⟩
   ·obtain⟨j,z,h3,h4⟩:=ih y h2
    exact⟨j,z,by rw [alP _ h1];exact h3,h4⟩
 obtain⟨j,y,h1,h2⟩:=key N x h
 obtain⟨r1,r2⟩:=p.run h1 (aom (by omega))
 exact⟨r1,j,y,r2,h2⟩
theorem gq{n a s:Int}{c:List Int}(h:aD a s c=true):aD (nxA n a c) (nxS n a s c) c=true:=(ahi n h).2.1
theorem ot{a s x:Int}{l c:List Int}(h:aD a s c=true):aD (pkA a (x::l) c) (pkS a s (x::l) c) c=true:=(apb (l:=x::l) (by rw [h];rfl)).2.1
theorem ZL{n a s:Int}{c:List Int}(h:aD a s c=true)(hn:1≤n):0≤nxV n a s c∧nxV n a s c < n:=⟨(ahi n h).2.2.1,(ahi n h).2.2.2 hn⟩
theorem qt{C:Type}(x:C)(l:List C):leN 1 (x::l).length=true:=br (by simp)
theorem ap9(c:List Int)(bl:Int)(hbl:bl≠0)(K:Nat)(hK:K≤100)(p a s:Int)(h:aD a s c=true):
  ir.fin ((K:Int),p,bl,a,s,[],c)=true∧ ∃ j y,ir.res ((K:Int),p,bl,a,s,[],c)=(j,y)∧aD y.2.2.2.1 y.2.2.2.2.1 c=true∧y.2.2.2.2.2.1.length=K:=by
 refine ir.inv (fun k x=>x.1=(k:Int)∧x.2.2.1=bl∧aD x.2.2.2.1 x.2.2.2.2.1 c=true∧x.2.2.2.2.2.1.length + k=K∧x.2.2.2.2.2.2=c) (fun _ y=>aD y.2.2.2.1 y.2.2.2.2.1 c=true∧y.2.2.2.2.2.1.length=K)
  (fun k x hx=> .inr ?_) (fun x hx=> ?_) K _ (by omega) ⟨rfl,rfl,h,by simp,rfl⟩
 ·obtain⟨y0,y1,y2,y3,y4,y5,y6⟩:=x
  obtain⟨h0,h1,h2,h3,h4⟩:=hx
  simp only at h0 h1 h2 h3 h4
  subst h0 h1 h4
  have t1:ltI 0 ((k + 1:Nat):Int)=true:=et (by omega)
  have t2:neI y2 0=true:=aiV hbl
  have t3:neI 2 0=true:=by decide
  have t4:=ot (x:=0) (l:= [1,1,2]) h2
  have t5:leN (y5.length + 1) 9223372036854775807=true:=br (by omega)
  have t6:leN ((y5.length + 1) * 8) 140737488355328=true:=br (by omega)
  have t7:=qt (0:Int) [1,1,2]
  refine⟨?_,?_,?_⟩
  rotate_left
  ·simp only [ir,NN,LT.out,allT,Qq,Xr,Xs,Xt,Xu,Qr,Xv,Dg,Dh,HZ,List.length_singleton,t1,t2,t3,t4,t5,t6,t7,h2,cond_true,Bool.and_self]
   rfl
  ·have s9:aD (Xx y3 y6) (Wa y3 y4 y6) y6=true:=gq (n:=3) t4
   refine⟨?_,rfl,s9,?_,rfl⟩
   ·simp only [Xw];rw [aj (by omega) (by omega)];omega
   ·simp only [Wb,Dg,List.length_append,List.length_singleton];omega
 ·obtain⟨y0,y1,y2,y3,y4,y5,y6⟩:=x
  obtain⟨h0,h1,h2,h3,h4⟩:=hx
  simp only at h0 h1 h2 h3 h4
  subst h0 h1 h4
  exact⟨0,by simp [ir,NN,LT.out,Qq],h2,by simpa using h3⟩
theorem aj0(a s:Int)(c:List Int)(h:aD a s c=true):
  VZ a s c=true∧aD (lP a s c) (yH a s c) c=true∧(p7 a s c).length≤9:=by
 have n1:=ZL (n:=5) h (by omega)
 have s1:=gq (n:=5) h
 have a0:b4 a s c=2 + nxV 5 a s c:=by simp only [b4];rw [aj (by omega) (by omega)]
 have s2:=gq (n:=b4 a s c) s1
 have a1:2≤jj a s c∧jj a s c≤4:=by
  simp only [jj,ajt]
  cases hl:ltI (b4 a s c) 4 with
  |true=>have:=aH.1 hl;simp only [cond_true];omega
  |false=>simp
 have n2:=ZL (n:=jj a s c) s2 (by omega)
 have s3:=gq (n:=jj a s c) s2
 obtain⟨r1,j,y,r2,r3,r4⟩:=ap9 c (b4 a s c) (by omega) (1 + nxV (jj a s c) (lE a s c) (ql a s c) c).toNat
  (by simp only [lE,ql];omega) (nxV (b4 a s c) (nxA 5 a c) (nxS 5 a s c) c) _ _ s3
 have e4:DQ a s c=(((1 + nxV (jj a s c) (lE a s c) (ql a s c) c).toNat:Int),nxV (b4 a s c) (nxA 5 a c) (nxS 5 a s c) c,b4 a s c,
   nxA (jj a s c) (lE a s c) c,nxS (jj a s c) (lE a s c) (ql a s c) c,[],c):=by
  simp only [DQ,lE,ql]
  rw [aj (by omega) (by omega)]
  rw [show (((1 + nxV (jj a s c) (nxA (b4 a s c) (nxA 5 a c) c) (nxS (b4 a s c) (nxA 5 a c) (nxS 5 a s c) c) c).toNat:Nat):Int)=1 + nxV (jj a s c) (nxA (b4 a s c) (nxA 5 a c) c) (nxS (b4 a s c) (nxA 5 a c) (nxS 5 a s c) c) c by omega]
 have f1:Lp.fin ir (DQ a s c)=true:=by rw [e4];exact r1
 have f2:Lp.res ir (DQ a s c)=(j,y):=by rw [e4];exact r2
 have g6:b5 a s c=y.2.2.2.1:=by simp only [b5,IP,f2]
 have g7:(vm a s c).1=y.2.2.2.2.1:=by simp only [vm,IP,f2]
 have g16:lR a s c=y.2.2.2.2.2.1:=by simp only [lR,vm,IP,f2]
 have s4:aD (b5 a s c) ((vm a s c).1) c=true:=by rw [g6,g7];exact r3
 have s5:=gq (n:=40) s4
 have n5:=ZL (n:=2) s5 (by omega)
 have hK:1≤(lR a s c).length∧(lR a s c).length≤4:=by
  rw [g16,r4];simp only [lE,ql];omega
 have a17:4≤jQ a s c∧jQ a s c≤5:=by
  simp only [jQ,i9];rw [aj (by omega) (by omega)];omega
 have t1:ltI 0 (((lR a s c).length:Nat):Int)=true:=et (by omega)
 have t2:ltN 0 (lR a s c).length=true:=fJ (by omega)
 have t3:leI 0 (jQ a s c)=true:=dk (by omega)
 have t4:leI ((8:Nat) * jQ a s c) 281474976710656=true:=dk (by omega)
 have t5:leI (jQ a s c) 9223372036854775807=true:=dk (by omega)
 have a18:LS a s c=true:=s5
 have s2':aD (lE a s c) (ql a s c) c=true:=s2
 refine⟨?_,?_,?_⟩
 ·simp only [VZ,allT,h,s1,s2',f1,s4,a18,BF,qt,t1,t2,t3,t4,t5,aj1,Int.toNat_zero,Bool.or_true,Bool.and_self,cond_true]
 ·have s5':aD (nxA 40 (b5 a s c) c) (i9 a s c) c=true:=s5
  have hnx: ∀ n,aD (nxA n (nxA 40 (b5 a s c) c) c) (nxS n (nxA 40 (b5 a s c) c) (i9 a s c) c) c=true:=fun n=>gq s5'
  have hpk: ∀ x l,aD (pkA (nxA 40 (b5 a s c) c) (x::l) c) (pkS (nxA 40 (b5 a s c) c) (i9 a s c) (x::l) c) c=true:=fun x l=>ot s5'
  simp only [lP,yH,BF]
  cases gI a s c <;> cases gp a s c <;> cases lQ a s c <;> cases BE a s c <;> simp only [cond_true,cond_false,s5',hnx,hpk]
 ·simp only [p7]
  cases gI a s c <;> cases gp a s c <;> cases lQ a s c <;> cases BE a s c <;> simp only [cond_true,cond_false,List.length_set,List.length_replicate,List.length_nil] <;> omega
def acI:List SV→List Entry→Option Out
 | [.one ⟨false,[.ptr 0 0]⟩],[.box 157 [.ref 1,.val (.int .i64 x0),.val (.int .i64 x1)],.row false 5 (.int .u8) x2]=>some ⟨(.one ⟨true,[(.val (.int .i64 (jm x0 x1 x2))),(.ref 2)]⟩),[(.box 157 [(.ref 1),(.val (.int .i64 (lP x0 x1 x2))),(.val (.int .i64 (yH x0 x1 x2)))]),(.row false 5 ash x2)],[(.row true 2 asg (p7 x0 x1 x2))],[aD x0 x1 x2]⟩
 |_,_=>none
def uf:PF Tryz.prog:=PF.alt aks acI (by
 intro args es o h hnd;unfold acI at h;split at h
 ·rename_i x0 x1 x2
  cases h
  have hnd:=gO hnd
  have hh:=(aj0 x0 x1 x2 hnd).1
  have en:=hh
  exact jO rfl (gn en) rfl rfl rfl
 ·cases h)
theorem ama(c:List Int)(bl a s:Int)(h:aD a s c=true):
  b6.fin ((0:Int),bl,a,s,[],c)=true∧ ∃ j y,b6.res ((0:Int),bl,a,s,[],c)=(j,y)∧aD y.2.2.1 y.2.2.2.1 c=true∧y.2.2.2.2.1.length≤14:=by
 refine b6.inv (fun k x=>x.1=7 - (k:Int)∧k≤7∧aD x.2.2.1 x.2.2.2.1 c=true∧x.2.2.2.2.1.length + 2 * k≤14∧x.2.2.2.2.2=c) (fun _ y=>aD y.2.2.1 y.2.2.2.1 c=true∧y.2.2.2.2.1.length≤14)
  (fun k x hx=> ?_) (fun x hx=> ?_) 7 _ (by omega) ⟨by simp,by omega,h,by simp,rfl⟩
 ·obtain⟨y0,y1,y2,y3,y4,y5⟩:=x
  obtain⟨h0,h1,h2,h3,h4⟩:=hx
  simp only at h0 h1 h2 h3 h4
  subst h4
  have s1:=gq (n:=6) h2
  have s2:=gq (n:=2) s1
  have s3:=gq (n:=4) s1
  have s2':aD (rJ y2 y5) (xc y2 y3 y5) y5=true:=s2
  have s3':aD (nr y2 y5) (rM y2 y3 y5) y5=true:=s3
  have sA:aD (MP y2 y5) (MQ y2 y3 y5) y5=true:=gq (n:=2) s2
  have sB:aD (MU y2 y5) (MV y2 y3 y5) y5=true:=gq (n:=3) s3
  have sC:aD (MX y2 y5) (MY y2 y3 y5) y5=true:=s3
  have sD:aD (MZ y2 y5) (Na y2 y3 y5) y5=true:=s1
  have hw:IntKind.i64.wrap (y0 + 1)=y0 + 1:=aj (by omega) (by omega)
  have t3:neI 2 0=true:=by decide
  have t5:leN (y4.length + 1) 9223372036854775807=true:=br (by omega)
  have t6:leN ((y4.length + 1) * 24) 140737488355328=true:=br (by omega)
  have t7:leN (y4.length + 2) 9223372036854775807=true:=br (by omega)
  have t8:leN ((y4.length + 2) * 24) 140737488355328=true:=br (by omega)
  cases hc:GM y0 y1 with
  |false=>exact .inl ⟨0,by simp [b6,wX,LT.out,hc],h2,by simp only;omega⟩
  |true=>
   right
   cases c0:dA y2 y3 y5 <;> cases c5:kF y2 y3 y5 <;> cases c6:nq y2 y3 y5
   all_goals
    refine⟨?_,?_,?_⟩
    rotate_left
    ·simp only [b6,wX,LT.out,allT,hc,OS,OT,OU,OV,OW,OX,OY,OZ,Pa,MN,MO,MS,MT,Fu,rL,rN,List.length_cons,List.length_nil,Nat.zero_add,Nat.reduceAdd,c0,c5,c6,h2,s1,s2',s3',t3,t5,t6,t7,t8,cond_true,cond_false,Bool.or_true,Bool.true_or,Bool.or_false,Bool.not_true,Bool.not_false,Bool.and_self]
     try rfl
    ·refine⟨?_,by omega,?_,?_,rfl⟩
     ·simp only [rI,hw];omega
     ·simp only [sA,sB,sC,sD]
     ·simp only [MR,MW,rL,rN,List.length_append,List.length_cons,List.length_nil];omega
 ·obtain⟨y0,y1,y2,y3,y4,y5⟩:=x
  obtain⟨h0,h1,h2,h3,h4⟩:=hx
  simp only at h0 h1 h2 h3 h4
  have t1:ltI y0 7=false:=aj8 (by omega)
  refine⟨0,?_,h2,by simp only;omega⟩
  simp only [b6,wX,LT.out,GM,t1]
  cases ltI y0 y1 <;> rfl
theorem amb(c:List Int)(a s:Int)(h:aD a s c=true):
  b7.fin ((0:Int),a,s,[],c)=true∧ ∃ j y,b7.res ((0:Int),a,s,[],c)=(j,y)∧aD y.2.1 y.2.2.1 c=true∧y.2.2.2.1.length≤14:=by
 refine b7.inv (fun k x=>x.1=9 - (k:Int)∧k≤9∧aD x.2.1 x.2.2.1 c=true∧x.2.2.2.1.length + k≤9∧x.2.2.2.2=c) (fun _ y=>aD y.2.1 y.2.2.1 c=true∧y.2.2.2.1.length≤14)
  (fun k x hx=> ?_) (fun x hx=> ?_) 9 _ (by omega) ⟨by simp,by omega,h,by simp,rfl⟩
 ·obtain⟨y0,y1,y2,y3,y4⟩:=x
  obtain⟨h0,h1,h2,h3,h4⟩:=hx
  simp only at h0 h1 h2 h3 h4
  subst h4
  have s1:=gq (n:=2) h2
  have hw:IntKind.i64.wrap (y0 + 1)=y0 + 1:=aj (by omega) (by omega)
  have t3:neI 2 0=true:=by decide
  have t5:leN (y3.length + 1) 9223372036854775807=true:=br (by omega)
  have t6:leN ((y3.length + 1) * 24) 140737488355328=true:=br (by omega)
  cases hc:zG y0 y1 y2 y4 with
  |false=>exact .inl ⟨0,by simp [b7,wY,LT.out,hc,allT,zF,h2],h2,by simp only;omega⟩
  |true=>
   right
   refine⟨?_,?_,?_⟩
   rotate_left
   ·simp only [b7,wY,LT.out,allT,hc,zF,GN,Pb,Pc,rO,List.length_singleton,h2,t3,t5,t6,cond_true]
    rfl
   ·refine⟨?_,by omega,s1,?_,rfl⟩
    ·simp only [Pf,hw];omega
    ·simp only [Pg,rO,List.length_append,List.length_singleton];omega
 ·obtain⟨y0,y1,y2,y3,y4⟩:=x
  obtain⟨h0,h1,h2,h3,h4⟩:=hx
  simp only at h0 h1 h2 h3 h4
  subst h4
  have n1:=ZL (n:=2) h2 (by omega)
  have t1:zG y0 y1 y2 y4=false:=by
   simp only [zG];rw [aj (by omega) (by omega)];exact aj8 (by omega)
  exact⟨0,by simp [b7,wY,LT.out,t1,allT,zF,h2],h2,by simp only;omega⟩
theorem ae1(bl a s:Int)(c:List Int)(h:aD a s c=true):
  Lf bl a s c=true∧aD (yU bl a s c) (yV bl a s c) c=true∧(yW bl a s c).length≤15:=by
 obtain⟨r1,j,y,r2,r3,r4⟩:=ama c bl a s h
 have f1:Lp.fin b6 (Dx bl a s c)=true:=r1
 have f2:Lp.res b6 (Dx bl a s c)=(j,y):=r2
 have g3:dw bl a s c=y.2.2.1:=by simp only [dw,wa,f2]
 have g5:ry bl a s c=y.2.2.2.1:=by simp only [ry,Dy,wa,f2]
 have g19:j9 bl a s c=y.2.2.2.2.1:=by simp only [j9,Dy,wa,f2]
 have s1:aD (dw bl a s c) (ry bl a s c) c=true:=by rw [g3,g5];exact r3
 have s2:aD (nxA 40 (dw bl a s c) c) (qB bl a s c) c=true:=gq s1
 have s3:aD (wc bl a s c) (AU bl a s c) c=true:=ot s2
 have s4:aD (uy bl a s c) (AV bl a s c) c=true:=ot s3
 obtain⟨q1,j',z,q2,q3,q4⟩:=amb c _ _ s2
 have f3:Lp.fin b7 (AQ bl a s c)=true:=q1
 have f4:Lp.res b7 (AQ bl a s c)=(j',z):=q2
 have g15:AR bl a s c=z.2.1:=by simp only [AR,uz,f4]
 have g18:(qC bl a s c).1=z.2.2.1:=by simp only [qC,uz,f4]
 have g18':((qC bl a s c).2).1=z.2.2.2.1:=by simp only [qC,uz,f4]
 have l20:(qD bl a s c).length=1:=rfl
 have t5:leN ((j9 bl a s c).length + (qD bl a s c).length) 9223372036854775807=true:=br (by rw [g19,l20];omega)
 have t6:leN (((j9 bl a s c).length + (qD bl a s c).length) * 24) 140737488355328=true:=br (by rw [g19,l20];omega)
 refine⟨?_,?_,?_⟩
 ·simp only [Lf,allT,f1,s1,s2,s3,s4,f3,t5,t6,wb,qt,Bool.or_true,Bool.and_self,cond_true]
 ·simp only [yU,yV]
  cases gd bl a s c with
  |true=>exact gq s4
  |false=>
   cases qA bl a s c with
   |true=>
    simp only [cond_true,cond_false,g15,g18,zH,zI]
    exact gq q3
   |false=>exact s2
 ·simp only [yW]
  cases gd bl a s c with
  |true=>simp only [cond_true,List.length_append,g19,l20];omega
  |false=>
   cases qA bl a s c with
   |true=>simp only [cond_true,cond_false,g18'];omega
   |false=>simp only [cond_false,g19];omega
def SQ:List SV→List Entry→Option Out
 | [.one ⟨false,[.ptr 0 0]⟩,.one ⟨false,[.val (.int .i64 x0)]⟩],[.box 157 [.ref 1,.val (.int .i64 x1),.val (.int .i64 x2)],.row false 5 (.int .u8) x3]=>some ⟨(.one ⟨false,[(.ref 2)]⟩),[(.box 157 [(.ref 1),(.val (.int .i64 (yU x0 x1 x2 x3))),(.val (.int .i64 (yV x0 x1 x2 x3)))]),(.row false 5 ash x3)],[(.row true 169 ase (yW x0 x1 x2 x3))],[aD x1 x2 x3]⟩
 |_,_=>none
def j7:PF Tryz.prog:=PF.alt ady SQ (by
 intro args es o h hnd;unfold SQ at h;split at h
 ·rename_i x0 x1 x2 x3
  cases h
  have hnd:=gO hnd
  have hh:=(ae1 x0 x1 x2 x3 hnd).1
  have en:=hh
  exact jO rfl (gn en) rfl rfl rfl
 ·cases h)
theorem DE{b:Bool}{l:List Bool}:allT (b::l)=true↔b=true∧allT l=true:=by cases b <;> simp [allT]
theorem DF:allT []=true↔True:=by simp [allT]
theorem qF{t:Bool}{a a' s s':Int}{c:List Int}(h:aD a s c=true)(h':aD a' s' c=true):aD (bif t then a else a') (bif t then s else s') c=true:=by cases t <;> assumption
theorem l7{α:Type}{t:Bool}{l l':List α}{n:Nat}(h:l.length≤n)(h':l'.length≤n):(bif t then l else l').length≤n:=by cases t <;> assumption
def LT.ok{X:Type}(J:X→Prop)(Q:Nat→Prop):LT X→Prop
 | .nrm x _=>J x
 | .ext j _=>Q j
 | .need nd t=>allT nd=true∧t.ok J Q
 | .ite b t e=>(b=true→t.ok J Q)∧(b=false→e.ok J Q)
theorem LT.ok_out{X:Type}{J:X→Prop}{Q:Nat→Prop}: ∀ {t:LT X},t.ok J Q→(∃ j,t.out=some (.inl j)∧Q j)∨ ∃ y,t.out=some (.inr y)∧J y
 | .nrm x _,h=> .inr ⟨x,rfl,h⟩
 | .ext j _,h=> .inl ⟨j,rfl,h⟩
 | .need nd t,h=>by
  simp only [LT.ok]at h
  simp only [LT.out,h.1,cond_true]
  exact LT.ok_out (t:=t) h.2
 | .ite b t e,h=>by
  simp only [LT.ok]at h
  simp only [LT.out]
  cases b with
  |true=>exact LT.ok_out (t:=t) (h.1 rfl)
  |false=>exact LT.ok_out (t:=e) (h.2 rfl)
theorem Lp.inv2{X:Type}(p:Lp X)(I:Nat→X→Prop)(Q:X→Prop)(hs: ∀ k x,I (k + 1) x→(p.lt x).ok (I k) (fun _=>Q x))(he: ∀ x,I 0 x→(p.lt x).ok (fun _=>False) (fun _=>Q x))
  (N:Nat) (x:X) (hN:N≤999) (h:I N x):p.fin x=true∧ ∃ j y,p.res x=(j,y)∧Q y:=
 p.inv I (fun _ y=>Q y) (fun k x hx=>LT.ok_out (hs k x hx)) (fun x hx=>by
  rcases LT.ok_out (he x hx)with h | ⟨_,_,h⟩
  ·exact h
  ·exact h.elim) N x hN h
 attribute [local irreducible] nxA nxS nxV pkA pkS pkV
theorem adF(c:List Int)(x:oy)(hx:match x with | (y0,y1,y2,y3,y4)=>y0≤((5:Nat):Int)∧aD y2 y3 y4=true∧y1.length + (5:Nat)≤5∧y4=c):
  kz.fin x=true∧ ∃ j y,kz.res x=(j,y)∧(match y with | (y0,y1,y2,y3,y4)=>aD y2 y3 c=true∧y1.length≤5∧c=y4):=by
 refine kz.inv2 (fun k x=>match x with | (y0,y1,y2,y3,y4)=>y0≤(k:Int)∧aD y2 y3 y4=true∧y1.length + k≤5∧y4=c) (fun y=>match y with | (y0,y1,y2,y3,y4)=>aD y2 y3 c=true∧y1.length≤5∧c=y4) (fun k x hx=> ?_) (fun x hx=> ?_) 5 x (by omega) hx
 ·obtain⟨y0,y1,y2,y3,y4⟩:=x
  obtain⟨h0,h1,h2,rfl⟩:=hx
  skip
  simp only [kz,NO,LT.ok,DE,DF,and_true,sq,sr,wA,wB,JZ,Ka,Kb,Kc,Kd,Ke,Kf,Kg,Kh,Ki,Bool.or_eq_true,Bool.and_eq_true]
  repeat' (first | refine And.intro ?_ ?_ | intro _)
  all_goals first
   |assumption
   |exact trivial
   |rfl
   |omega
   |(repeat (first | assumption | apply gq | apply ot | apply qF | refine Or.inr ?_ | refine And.intro ?_ ?_ | exact trivial | exact qt _ _ | rfl)
     done)
   |((repeat refine Or.inr ?_)
     exact br (by simp only [List.length_append,List.length_cons,List.length_nil];omega))
   |(simp only [List.length_append,List.length_cons,List.length_nil]
     omega)
   |((repeat refine Or.inr ?_)
     exact br (by omega))
   |(repeat' apply l7
     all_goals first | omega | (simp only [List.length_append,List.length_cons,List.length_nil];omega))
   |(try simp only [Bool.or_false,Bool.false_eq_true,Bool.and_eq_true,aH,aE,aI,aN]at *
     rw [aj (by omega) (by omega)]
     omega)
   |(try simp only [Bool.or_false,Bool.false_eq_true,Bool.and_eq_true,aH,aE,aI,aN]at *
     rw [aj (by omega) (by omega)]
     simp only [List.length_append,List.length_cons,List.length_nil]
     omega)
   |(simp only [Bool.or_false,Bool.false_eq_true,Bool.and_eq_true,aH,aE,aI,aN]at *
     omega)
   |(exfalso
     simp only [Bool.or_false,Bool.false_eq_true,Bool.and_eq_true,aH,aE,aI,aN]at *
     omega)
   |(exfalso;simp_all;done)
 ·obtain⟨y0,y1,y2,y3,y4⟩:=x
  obtain⟨h0,h1,h2,rfl⟩:=hx
  skip
  skip
  simp only [kz,NO,LT.ok,DE,DF,and_true,sq,sr,wA,wB,JZ,Ka,Kb,Kc,Kd,Ke,Kf,Kg,Kh,Ki,Bool.or_eq_true,Bool.and_eq_true]
  repeat' (first | refine And.intro ?_ ?_ | intro _)
  all_goals first
   |assumption
   |exact trivial
   |rfl
   |omega
   |(repeat (first | assumption | apply gq | apply ot | apply qF | refine Or.inr ?_ | refine And.intro ?_ ?_ | exact trivial | exact qt _ _ | rfl)
     done)
   |((repeat refine Or.inr ?_)
     exact br (by simp only [List.length_append,List.length_cons,List.length_nil];omega))
   |(simp only [List.length_append,List.length_cons,List.length_nil]
     omega)
   |((repeat refine Or.inr ?_)
     exact br (by omega))
   |(repeat' apply l7
     all_goals first | omega | (simp only [List.length_append,List.length_cons,List.length_nil];omega))
   |(try simp only [Bool.or_false,Bool.false_eq_true,Bool.and_eq_true,aH,aE,aI,aN]at *
     rw [aj (by omega) (by omega)]
     omega)
   |(try simp only [Bool.or_false,Bool.false_eq_true,Bool.and_eq_true,aH,aE,aI,aN]at *
     rw [aj (by omega) (by omega)]
     simp only [List.length_append,List.length_cons,List.length_nil]
     omega)
   |(simp only [Bool.or_false,Bool.false_eq_true,Bool.and_eq_true,aH,aE,aI,aN]at *
     omega)
   |(exfalso
     simp only [Bool.or_false,Bool.false_eq_true,Bool.and_eq_true,aH,aE,aI,aN]at *
     omega)
   |(exfalso;simp_all;done)
theorem adG(c:List Int)(x:oz)(hx:match x with | (y0,y1,y2,y3,y4)=>y0=(13:Int) - (13:Nat)∧(13:Nat)≤13∧aD y1 y2 y4=true∧y3.length + (13:Nat)≤13∧y4=c):
  kA.fin x=true∧ ∃ j y,kA.res x=(j,y)∧(match y with | (y0,y1,y2,y3,y4)=>aD y1 y2 c=true∧y3.length≤13∧c=y4):=by
 refine kA.inv2 (fun k x=>match x with | (y0,y1,y2,y3,y4)=>y0=(13:Int) - k∧k≤13∧aD y1 y2 y4=true∧y3.length + k≤13∧y4=c) (fun y=>match y with | (y0,y1,y2,y3,y4)=>aD y1 y2 c=true∧y3.length≤13∧c=y4) (fun k x hx=> ?_) (fun x hx=> ?_) 13 x (by omega) hx
 ·obtain⟨y0,y1,y2,y3,y4⟩:=x
  obtain⟨h0,h5,h1,h2,rfl⟩:=hx
  have nn:=ZL (n:=2) h1 (by omega);have hw:IntKind.i64.wrap (12 + nxV 2 y1 y2 y4)=12 + nxV 2 y1 y2 y4:=aj (by omega) (by omega)
  simp only [kA,NP,LT.ok,DE,DF,and_true,su,EJ,EK,EL,EM,EN,uK,uL,EO,Bool.or_eq_true,Bool.and_eq_true]
  repeat' (first | refine And.intro ?_ ?_ | intro _)
  all_goals first
   |assumption
   |exact trivial
   |rfl
   |omega
   |(repeat (first | assumption | apply gq | apply ot | apply qF | refine Or.inr ?_ | refine And.intro ?_ ?_ | exact trivial | exact qt _ _ | rfl)
     done)
   |((repeat refine Or.inr ?_)
     exact br (by simp only [List.length_append,List.length_cons,List.length_nil];omega))
   |(simp only [List.length_append,List.length_cons,List.length_nil]
     omega)
   |((repeat refine Or.inr ?_)
     exact br (by omega))
   |(repeat' apply l7
     all_goals first | omega | (simp only [List.length_append,List.length_cons,List.length_nil];omega))
   |(try simp only [Bool.or_false,Bool.false_eq_true,Bool.and_eq_true,aH,aE,aI,aN]at *
     rw [aj (by omega) (by omega)]
     omega)
   |(try simp only [Bool.or_false,Bool.false_eq_true,Bool.and_eq_true,aH,aE,aI,aN]at *
     rw [aj (by omega) (by omega)]
     simp only [List.length_append,List.length_cons,List.length_nil]
     omega)
   |(simp only [Bool.or_false,Bool.false_eq_true,Bool.and_eq_true,aH,aE,aI,aN]at *
     omega)
   |(exfalso
     simp only [Bool.or_false,Bool.false_eq_true,Bool.and_eq_true,aH,aE,aI,aN]at *
     omega)
   |(exfalso;simp_all;done)
 ·obtain⟨y0,y1,y2,y3,y4⟩:=x
  obtain⟨h0,h5,h1,h2,rfl⟩:=hx
  have nn:=ZL (n:=2) h1 (by omega);have hw:IntKind.i64.wrap (12 + nxV 2 y1 y2 y4)=12 + nxV 2 y1 y2 y4:=aj (by omega) (by omega)
  skip
  simp only [kA,NP,LT.ok,DE,DF,and_true,su,EJ,EK,EL,EM,EN,uK,uL,EO,Bool.or_eq_true,Bool.and_eq_true]
  repeat' (first | refine And.intro ?_ ?_ | intro _)
  all_goals first
   |assumption
   |exact trivial
   |rfl
   |omega
   |(repeat (first | assumption | apply gq | apply ot | apply qF | refine Or.inr ?_ | refine And.intro ?_ ?_ | exact trivial | exact qt _ _ | rfl)
     done)
   |((repeat refine Or.inr ?_)
     exact br (by simp only [List.length_append,List.length_cons,List.length_nil];omega))
   |(simp only [List.length_append,List.length_cons,List.length_nil]
     omega)
   |((repeat refine Or.inr ?_)
     exact br (by omega))
   |(repeat' apply l7
     all_goals first | omega | (simp only [List.length_append,List.length_cons,List.length_nil];omega))
   |(try simp only [Bool.or_false,Bool.false_eq_true,Bool.and_eq_true,aH,aE,aI,aN]at *
     rw [aj (by omega) (by omega)]
     omega)
   |(try simp only [Bool.or_false,Bool.false_eq_true,Bool.and_eq_true,aH,aE,aI,aN]at *
     rw [aj (by omega) (by omega)]
     simp only [List.length_append,List.length_cons,List.length_nil]
     omega)
   |(simp only [Bool.or_false,Bool.false_eq_true,Bool.and_eq_true,aH,aE,aI,aN]at *
     omega)
   |(exfalso
     simp only [Bool.or_false,Bool.false_eq_true,Bool.and_eq_true,aH,aE,aI,aN]at *
     omega)
   |(exfalso;simp_all;done)
theorem Xz(a s:Int)(c:List Int)(h:aD a s c=true):Dt a s c=true∧aD (uH a s c) (uI a s c) c=true∧(uJ a s c).length≤20:=by
 have n5:=ZL (n:=5) h (by omega)
 obtain⟨f0,j0,⟨z0,z1,z2,z3,z4⟩,g0,hq0⟩:=adF c (vq a s c) (by
  simp only [vq,zZ,qn,vr,z8,jR,nb,rW,rX,qo,tp,wx,wy,tq,wz,qE,tt,uH,uI,uJ,Dt]
  repeat' refine And.intro ?_ ?_
  all_goals first
   |assumption
   |exact trivial
   |rfl
   |omega
   |(repeat (first | assumption | apply gq | apply ot | apply qF | refine Or.inr ?_ | refine And.intro ?_ ?_ | exact trivial | exact qt _ _ | rfl | apply l7)
     done)
   |((repeat refine Or.inr ?_)
     exact br (by simp only [List.length_append,List.length_cons,List.length_nil];omega))
   |(simp only [List.length_append,List.length_cons,List.length_nil]
     omega)
   |((repeat refine Or.inr ?_)
     exact br (by omega))
   |(repeat' apply l7
     all_goals first | omega | (simp only [List.length_append,List.length_cons,List.length_nil];omega))
   |(try simp only [Bool.or_false,Bool.false_eq_true,Bool.and_eq_true,aH,aE,aI,aN]at *
     rw [aj (by omega) (by omega)]
     omega)
   |(try simp only [Bool.or_false,Bool.false_eq_true,Bool.and_eq_true,aH,aE,aI,aN]at *
     rw [aj (by omega) (by omega)]
     simp only [List.length_append,List.length_cons,List.length_nil]
     omega)
   |(simp only [Bool.or_false,Bool.false_eq_true,Bool.and_eq_true,aH,aE,aI,aN]at *
     omega)
   |(exfalso
     simp only [Bool.or_false,Bool.false_eq_true,Bool.and_eq_true,aH,aE,aI,aN]at *
     omega)
   |(exfalso;simp_all;done))
 obtain⟨p1,p2,rfl⟩:=hq0
 simp only [vq,zZ,qn,vr,z8,jR,nb,rW,rX,qo,tp,wx,wy,tq,wz,qE,tt,uH,uI,uJ,Dt]at f0 g0
 obtain⟨f1,j1,⟨u0,u1,u2,u3,u4⟩,g1,hq1⟩:=adG c (tp a s c) (by
  simp only [vq,zZ,qn,vr,z8,jR,nb,rW,rX,qo,tp,wx,wy,tq,wz,qE,tt,uH,uI,uJ,Dt,f0,g0,su,EJ,EK,EL,EM,EN,uK,uL,EO]
  repeat' refine And.intro ?_ ?_
  all_goals first
   |assumption
   |exact trivial
   |rfl
   |omega
   |(repeat (first | assumption | apply gq | apply ot | apply qF | refine Or.inr ?_ | refine And.intro ?_ ?_ | exact trivial | exact qt _ _ | rfl | apply l7)
     done)
   |((repeat refine Or.inr ?_)
     exact br (by simp only [List.length_append,List.length_cons,List.length_nil];omega))
   |(simp only [List.length_append,List.length_cons,List.length_nil]
     omega)
   |((repeat refine Or.inr ?_)
     exact br (by omega))
   |(repeat' apply l7
     all_goals first | omega | (simp only [List.length_append,List.length_cons,List.length_nil];omega))
   |(try simp only [Bool.or_false,Bool.false_eq_true,Bool.and_eq_true,aH,aE,aI,aN]at *
     rw [aj (by omega) (by omega)]
     omega)
   |(try simp only [Bool.or_false,Bool.false_eq_true,Bool.and_eq_true,aH,aE,aI,aN]at *
     rw [aj (by omega) (by omega)]
     simp only [List.length_append,List.length_cons,List.length_nil]
     omega)
   |(simp only [Bool.or_false,Bool.false_eq_true,Bool.and_eq_true,aH,aE,aI,aN]at *
     omega)
   |(exfalso
     simp only [Bool.or_false,Bool.false_eq_true,Bool.and_eq_true,aH,aE,aI,aN]at *
     omega)
   |(exfalso;simp_all;done))
 obtain⟨p3,p4,rfl⟩:=hq1
 simp only [vq,zZ,qn,vr,z8,jR,nb,rW,rX,qo,tp,wx,wy,tq,wz,qE,tt,uH,uI,uJ,Dt,f0,g0]at f1 g1
 refine⟨?_,?_,?_⟩
 all_goals simp only [vq,zZ,qn,vr,z8,jR,nb,rW,rX,qo,tp,wx,wy,tq,wz,qE,tt,uH,uI,uJ,Dt,f0,g0,f1,g1,sq,sr,wA,wB,JZ,Ka,Kb,Kc,Kd,Ke,Kf,Kg,Kh,Ki,su,EJ,EK,EL,EM,EN,uK,uL,EO,DE,DF,and_true,Bool.or_eq_true,Bool.and_eq_true]
 all_goals repeat' refine And.intro ?_ ?_
 all_goals first
   |assumption
   |exact trivial
   |rfl
   |omega
   |(repeat (first | assumption | apply gq | apply ot | apply qF | refine Or.inr ?_ | refine And.intro ?_ ?_ | exact trivial | exact qt _ _ | rfl | apply l7)
     done)
   |((repeat refine Or.inr ?_)
     exact br (by simp only [List.length_append,List.length_cons,List.length_nil];omega))
   |(simp only [List.length_append,List.length_cons,List.length_nil]
     omega)
   |((repeat refine Or.inr ?_)
     exact br (by omega))
   |(repeat' apply l7
     all_goals first | omega | (simp only [List.length_append,List.length_cons,List.length_nil];omega))
   |(try simp only [Bool.or_false,Bool.false_eq_true,Bool.and_eq_true,aH,aE,aI,aN]at *
     rw [aj (by omega) (by omega)]
     omega)
   |(try simp only [Bool.or_false,Bool.false_eq_true,Bool.and_eq_true,aH,aE,aI,aN]at *
     rw [aj (by omega) (by omega)]
     simp only [List.length_append,List.length_cons,List.length_nil]
     omega)
   |(simp only [Bool.or_false,Bool.false_eq_true,Bool.and_eq_true,aH,aE,aI,aN]at *
     omega)
   |(exfalso
     simp only [Bool.or_false,Bool.false_eq_true,Bool.and_eq_true,aH,aE,aI,aN]at *
     omega)
   |(exfalso;simp_all;done)
theorem WE(c:List Int)(x:iF)(hx:match x with | (y0,y1,y2,y3,y4,y5)=>y0≤((5:Nat):Int)∧aD y3 y4 y5=true∧y2.length + (5:Nat)≤5∧y5=c):
  fH.fin x=true∧ ∃ j y,fH.res x=(j,y)∧(match y with | (y0,y1,y2,y3,y4,y5)=>aD y3 y4 c=true∧y2.length≤5∧c=y5):=by
 refine fH.inv2 (fun k x=>match x with | (y0,y1,y2,y3,y4,y5)=>y0≤(k:Int)∧aD y3 y4 y5=true∧y2.length + k≤5∧y5=c) (fun y=>match y with | (y0,y1,y2,y3,y4,y5)=>aD y3 y4 c=true∧y2.length≤5∧c=y5) (fun k x hx=> ?_) (fun x hx=> ?_) 5 x (by omega) hx
 ·obtain⟨y0,y1,y2,y3,y4,y5⟩:=x
  obtain⟨h0,h1,h2,rfl⟩:=hx
  skip
  simp only [fH,Gg,LT.ok,DE,DF,and_true,pu,AW,AX,AY,AZ,Ba,Bb,Bc,Bd,Be,Bf,Bool.or_eq_true,Bool.and_eq_true]
  repeat' (first | refine And.intro ?_ ?_ | intro _)
  all_goals first
   |assumption
   |exact trivial
   |rfl
   |omega
   |(repeat (first | assumption | apply gq | apply ot | apply qF | refine Or.inr ?_ | refine And.intro ?_ ?_ | exact trivial | exact qt _ _ | rfl)
     done)
   |((repeat refine Or.inr ?_)
     exact br (by simp only [List.length_append,List.length_cons,List.length_nil];omega))
   |(simp only [List.length_append,List.length_cons,List.length_nil]
     omega)
   |((repeat refine Or.inr ?_)
     exact br (by omega))
   |(repeat' apply l7
     all_goals first | omega | (simp only [List.length_append,List.length_cons,List.length_nil];omega))
   |(try simp only [Bool.or_false,Bool.false_eq_true,Bool.and_eq_true,aH,aE,aI,aN]at *
     rw [aj (by omega) (by omega)]
     omega)
   |(try simp only [Bool.or_false,Bool.false_eq_true,Bool.and_eq_true,aH,aE,aI,aN]at *
     rw [aj (by omega) (by omega)]
     simp only [List.length_append,List.length_cons,List.length_nil]
     omega)
   |(simp only [Bool.or_false,Bool.false_eq_true,Bool.and_eq_true,aH,aE,aI,aN]at *
     omega)
   |(exfalso
     simp only [Bool.or_false,Bool.false_eq_true,Bool.and_eq_true,aH,aE,aI,aN]at *
     omega)
   |(exfalso;simp_all;done)
 ·obtain⟨y0,y1,y2,y3,y4,y5⟩:=x
  obtain⟨h0,h1,h2,rfl⟩:=hx
  skip
  skip
  simp only [fH,Gg,LT.ok,DE,DF,and_true,pu,AW,AX,AY,AZ,Ba,Bb,Bc,Bd,Be,Bf,Bool.or_eq_true,Bool.and_eq_true]
  repeat' (first | refine And.intro ?_ ?_ | intro _)
  all_goals first
   |assumption
   |exact trivial
   |rfl
   |omega
   |(repeat (first | assumption | apply gq | apply ot | apply qF | refine Or.inr ?_ | refine And.intro ?_ ?_ | exact trivial | exact qt _ _ | rfl)
     done)
   |((repeat refine Or.inr ?_)
     exact br (by simp only [List.length_append,List.length_cons,List.length_nil];omega))
   |(simp only [List.length_append,List.length_cons,List.length_nil]
     omega)
   |((repeat refine Or.inr ?_)
     exact br (by omega))
   |(repeat' apply l7
     all_goals first | omega | (simp only [List.length_append,List.length_cons,List.length_nil];omega))
   |(try simp only [Bool.or_false,Bool.false_eq_true,Bool.and_eq_true,aH,aE,aI,aN]at *
     rw [aj (by omega) (by omega)]
     omega)
   |(try simp only [Bool.or_false,Bool.false_eq_true,Bool.and_eq_true,aH,aE,aI,aN]at *
     rw [aj (by omega) (by omega)]
     simp only [List.length_append,List.length_cons,List.length_nil]
     omega)
   |(simp only [Bool.or_false,Bool.false_eq_true,Bool.and_eq_true,aH,aE,aI,aN]at *
     omega)
   |(exfalso
     simp only [Bool.or_false,Bool.false_eq_true,Bool.and_eq_true,aH,aE,aI,aN]at *
     omega)
   |(exfalso;simp_all;done)
theorem WF(c:List Int)(x:iG)(hx:match x with | (y0,y1,y2,y3,y4)=>y0=(9:Int) - (9:Nat)∧(9:Nat)≤9∧aD y1 y2 y4=true∧y3.length + (9:Nat)≤9∧y4=c):
  fI.fin x=true∧ ∃ j y,fI.res x=(j,y)∧(match y with | (y0,y1,y2,y3,y4)=>aD y1 y2 c=true∧y3.length≤9∧c=y4):=by
 refine fI.inv2 (fun k x=>match x with | (y0,y1,y2,y3,y4)=>y0=(9:Int) - k∧k≤9∧aD y1 y2 y4=true∧y3.length + k≤9∧y4=c) (fun y=>match y with | (y0,y1,y2,y3,y4)=>aD y1 y2 c=true∧y3.length≤9∧c=y4) (fun k x hx=> ?_) (fun x hx=> ?_) 9 x (by omega) hx
 ·obtain⟨y0,y1,y2,y3,y4⟩:=x
  obtain⟨h0,h5,h1,h2,rfl⟩:=hx
  have nn:=ZL (n:=2) h1 (by omega);have hw:IntKind.i64.wrap (8 + nxV 2 y1 y2 y4)=8 + nxV 2 y1 y2 y4:=aj (by omega) (by omega)
  simp only [fI,Gh,LT.ok,DE,DF,and_true,lU,uA,uB,uC,uD,uE,uF,mJ,mK,uG,Bool.or_eq_true,Bool.and_eq_true]
  repeat' (first | refine And.intro ?_ ?_ | intro _)
  all_goals first
   |assumption
   |exact trivial
   |rfl
   |omega
   |(repeat (first | assumption | apply gq | apply ot | apply qF | refine Or.inr ?_ | refine And.intro ?_ ?_ | exact trivial | exact qt _ _ | rfl)
     done)
   |((repeat refine Or.inr ?_)
     exact br (by simp only [List.length_append,List.length_cons,List.length_nil];omega))
   |(simp only [List.length_append,List.length_cons,List.length_nil]
     omega)
   |((repeat refine Or.inr ?_)
     exact br (by omega))
   |(repeat' apply l7
     all_goals first | omega | (simp only [List.length_append,List.length_cons,List.length_nil];omega))
   |(try simp only [Bool.or_false,Bool.false_eq_true,Bool.and_eq_true,aH,aE,aI,aN]at *
     rw [aj (by omega) (by omega)]
     omega)
   |(try simp only [Bool.or_false,Bool.false_eq_true,Bool.and_eq_true,aH,aE,aI,aN]at *
     rw [aj (by omega) (by omega)]
     simp only [List.length_append,List.length_cons,List.length_nil]
     omega)
   |(simp only [Bool.or_false,Bool.false_eq_true,Bool.and_eq_true,aH,aE,aI,aN]at *
     omega)
   |(exfalso
     simp only [Bool.or_false,Bool.false_eq_true,Bool.and_eq_true,aH,aE,aI,aN]at *
     omega)
   |(exfalso;simp_all;done)
 ·obtain⟨y0,y1,y2,y3,y4⟩:=x
  obtain⟨h0,h5,h1,h2,rfl⟩:=hx
  have nn:=ZL (n:=2) h1 (by omega);have hw:IntKind.i64.wrap (8 + nxV 2 y1 y2 y4)=8 + nxV 2 y1 y2 y4:=aj (by omega) (by omega)
  skip
  simp only [fI,Gh,LT.ok,DE,DF,and_true,lU,uA,uB,uC,uD,uE,uF,mJ,mK,uG,Bool.or_eq_true,Bool.and_eq_true]
  repeat' (first | refine And.intro ?_ ?_ | intro _)
  all_goals first
   |assumption
   |exact trivial
   |rfl
   |omega
   |(repeat (first | assumption | apply gq | apply ot | apply qF | refine Or.inr ?_ | refine And.intro ?_ ?_ | exact trivial | exact qt _ _ | rfl)
     done)
   |((repeat refine Or.inr ?_)
     exact br (by simp only [List.length_append,List.length_cons,List.length_nil];omega))
   |(simp only [List.length_append,List.length_cons,List.length_nil]
     omega)
   |((repeat refine Or.inr ?_)
     exact br (by omega))
   |(repeat' apply l7
     all_goals first | omega | (simp only [List.length_append,List.length_cons,List.length_nil];omega))
   |(try simp only [Bool.or_false,Bool.false_eq_true,Bool.and_eq_true,aH,aE,aI,aN]at *
     rw [aj (by omega) (by omega)]
     omega)
   |(try simp only [Bool.or_false,Bool.false_eq_true,Bool.and_eq_true,aH,aE,aI,aN]at *
     rw [aj (by omega) (by omega)]
     simp only [List.length_append,List.length_cons,List.length_nil]
     omega)
   |(simp only [Bool.or_false,Bool.false_eq_true,Bool.and_eq_true,aH,aE,aI,aN]at *
     omega)
   |(exfalso
     simp only [Bool.or_false,Bool.false_eq_true,Bool.and_eq_true,aH,aE,aI,aN]at *
     omega)
   |(exfalso;simp_all;done)
theorem QB(a s:Int)(c:List Int)(h:aD a s c=true):q8 a s c=true∧aD (lx a s c) (ly a s c) c=true∧(lz a s c).length≤20:=by
 have n5:=ZL (n:=5) (gq (n:=3) h) (by omega)
 obtain⟨f0,j0,⟨z0,z1,z2,z3,z4,z5⟩,g0,hq0⟩:=WE c (mn a s c) (by
  simp only [mn,p9,i6,mo,mp,cA,fD,ki,gT,gU,lc,om,oo,ip,ld,oq,ce,lg,lx,ly,lz,q8]
  repeat' refine And.intro ?_ ?_
  all_goals first
   |assumption
   |exact trivial
   |rfl
   |omega
   |(repeat (first | assumption | apply gq | apply ot | apply qF | refine Or.inr ?_ | refine And.intro ?_ ?_ | exact trivial | exact qt _ _ | rfl | apply l7)
     done)
   |((repeat refine Or.inr ?_)
     exact br (by simp only [List.length_append,List.length_cons,List.length_nil];omega))
   |(simp only [List.length_append,List.length_cons,List.length_nil]
     omega)
   |((repeat refine Or.inr ?_)
     exact br (by omega))
   |(repeat' apply l7
     all_goals first | omega | (simp only [List.length_append,List.length_cons,List.length_nil];omega))
   |(try simp only [Bool.or_false,Bool.false_eq_true,Bool.and_eq_true,aH,aE,aI,aN]at *
     rw [aj (by omega) (by omega)]
     omega)
   |(try simp only [Bool.or_false,Bool.false_eq_true,Bool.and_eq_true,aH,aE,aI,aN]at *
     rw [aj (by omega) (by omega)]
     simp only [List.length_append,List.length_cons,List.length_nil]
     omega)
   |(simp only [Bool.or_false,Bool.false_eq_true,Bool.and_eq_true,aH,aE,aI,aN]at *
     omega)
   |(exfalso
     simp only [Bool.or_false,Bool.false_eq_true,Bool.and_eq_true,aH,aE,aI,aN]at *
     omega)
   |(exfalso;simp_all;done))
 obtain⟨p1,p2,rfl⟩:=hq0
 simp only [mn,p9,i6,mo,mp,cA,fD,ki,gT,gU,lc,om,oo,ip,ld,oq,ce,lg,lx,ly,lz,q8]at f0 g0
 obtain⟨f1,j1,⟨u0,u1,u2,u3,u4⟩,g1,hq1⟩:=WF c (lc a s c) (by
  simp only [mn,p9,i6,mo,mp,cA,fD,ki,gT,gU,lc,om,oo,ip,ld,oq,ce,lg,lx,ly,lz,q8,f0,g0,lU,uA,uB,uC,uD,uE,uF,mJ,mK,uG]
  repeat' refine And.intro ?_ ?_
  all_goals first
   |assumption
   |exact trivial
   |rfl
   |omega
   |(repeat (first | assumption | apply gq | apply ot | apply qF | refine Or.inr ?_ | refine And.intro ?_ ?_ | exact trivial | exact qt _ _ | rfl | apply l7)
     done)
   |((repeat refine Or.inr ?_)
     exact br (by simp only [List.length_append,List.length_cons,List.length_nil];omega))
   |(simp only [List.length_append,List.length_cons,List.length_nil]
     omega)
   |((repeat refine Or.inr ?_)
     exact br (by omega))
   |(repeat' apply l7
     all_goals first | omega | (simp only [List.length_append,List.length_cons,List.length_nil];omega))
   |(try simp only [Bool.or_false,Bool.false_eq_true,Bool.and_eq_true,aH,aE,aI,aN]at *
     rw [aj (by omega) (by omega)]
     omega)
   |(try simp only [Bool.or_false,Bool.false_eq_true,Bool.and_eq_true,aH,aE,aI,aN]at *
     rw [aj (by omega) (by omega)]
     simp only [List.length_append,List.length_cons,List.length_nil]
     omega)
   |(simp only [Bool.or_false,Bool.false_eq_true,Bool.and_eq_true,aH,aE,aI,aN]at *
     omega)
   |(exfalso
     simp only [Bool.or_false,Bool.false_eq_true,Bool.and_eq_true,aH,aE,aI,aN]at *
     omega)
   |(exfalso;simp_all;done))
 obtain⟨p3,p4,rfl⟩:=hq1
 simp only [mn,p9,i6,mo,mp,cA,fD,ki,gT,gU,lc,om,oo,ip,ld,oq,ce,lg,lx,ly,lz,q8,f0,g0]at f1 g1
 refine⟨?_,?_,?_⟩
 all_goals simp only [mn,p9,i6,mo,mp,cA,fD,ki,gT,gU,lc,om,oo,ip,ld,oq,ce,lg,lx,ly,lz,q8,f0,g0,f1,g1,pu,AW,AX,AY,AZ,Ba,Bb,Bc,Bd,Be,Bf,lU,uA,uB,uC,uD,uE,uF,mJ,mK,uG,DE,DF,and_true,Bool.or_eq_true,Bool.and_eq_true]
 all_goals repeat' refine And.intro ?_ ?_
 all_goals first
   |assumption
   |exact trivial
   |rfl
   |omega
   |(repeat (first | assumption | apply gq | apply ot | apply qF | refine Or.inr ?_ | refine And.intro ?_ ?_ | exact trivial | exact qt _ _ | rfl | apply l7)
     done)
   |((repeat refine Or.inr ?_)
     exact br (by simp only [List.length_append,List.length_cons,List.length_nil];omega))
   |(simp only [List.length_append,List.length_cons,List.length_nil]
     omega)
   |((repeat refine Or.inr ?_)
     exact br (by omega))
   |(repeat' apply l7
     all_goals first | omega | (simp only [List.length_append,List.length_cons,List.length_nil];omega))
   |(try simp only [Bool.or_false,Bool.false_eq_true,Bool.and_eq_true,aH,aE,aI,aN]at *
     rw [aj (by omega) (by omega)]
     omega)
   |(try simp only [Bool.or_false,Bool.false_eq_true,Bool.and_eq_true,aH,aE,aI,aN]at *
     rw [aj (by omega) (by omega)]
     simp only [List.length_append,List.length_cons,List.length_nil]
     omega)
   |(simp only [Bool.or_false,Bool.false_eq_true,Bool.and_eq_true,aH,aE,aI,aN]at *
     omega)
   |(exfalso
     simp only [Bool.or_false,Bool.false_eq_true,Bool.and_eq_true,aH,aE,aI,aN]at *
     omega)
   |(exfalso;simp_all;done)
theorem We(c:List Int)(x:gY)(hx:match x with | (y0,y1,y2,y3,y4,y5)=>y0=(7:Int) - (7:Nat)∧(7:Nat)≤7∧aD y2 y3 y5=true∧y4.length + 2 * (7:Nat)≤14∧y5=c):
  eC.fin x=true∧ ∃ j y,eC.res x=(j,y)∧(match y with | (y0,y1,y2,y3,y4,y5)=>aD y2 y3 c=true∧y4.length≤14∧c=y5):=by
 refine eC.inv2 (fun k x=>match x with | (y0,y1,y2,y3,y4,y5)=>y0=(7:Int) - k∧k≤7∧aD y2 y3 y5=true∧y4.length + 2 * k≤14∧y5=c) (fun y=>match y with | (y0,y1,y2,y3,y4,y5)=>aD y2 y3 c=true∧y4.length≤14∧c=y5) (fun k x hx=> ?_) (fun x hx=> ?_) 7 x (by omega) hx
 ·obtain⟨y0,y1,y2,y3,y4,y5⟩:=x
  obtain⟨h0,h5,h1,h2,rfl⟩:=hx
  skip
  simp only [eC,Ff,LT.ok,DE,DF,and_true,cF,rP,kH,nt,nu,i4,kI,i5,kJ,nv,zJ,zK,zL,zM,zN,zO,zP,zQ,zR,zS,xf,kG,xg,xh,xj,xk,xl,xm,xo,xt,xu,xw,xx,xy,Bool.or_eq_true,Bool.and_eq_true]
  repeat' (first | refine And.intro ?_ ?_ | intro _)
  all_goals first
   |assumption
   |exact trivial
   |rfl
   |omega
   |(repeat (first | assumption | apply gq | apply ot | apply qF | refine Or.inr ?_ | refine And.intro ?_ ?_ | exact trivial | exact qt _ _ | rfl)
     done)
   |((repeat refine Or.inr ?_)
     exact br (by simp only [List.length_append,List.length_cons,List.length_nil];omega))
   |(simp only [List.length_append,List.length_cons,List.length_nil]
     omega)
   |((repeat refine Or.inr ?_)
     exact br (by omega))
   |(repeat' apply l7
     all_goals first | omega | (simp only [List.length_append,List.length_cons,List.length_nil];omega))
   |(try simp only [Bool.or_false,Bool.false_eq_true,Bool.and_eq_true,aH,aE,aI,aN]at *
     rw [aj (by omega) (by omega)]
     omega)
   |(try simp only [Bool.or_false,Bool.false_eq_true,Bool.and_eq_true,aH,aE,aI,aN]at *
     rw [aj (by omega) (by omega)]
     simp only [List.length_append,List.length_cons,List.length_nil]
     omega)
   |(simp only [Bool.or_false,Bool.false_eq_true,Bool.and_eq_true,aH,aE,aI,aN]at *
     omega)
   |(exfalso
     simp only [Bool.or_false,Bool.false_eq_true,Bool.and_eq_true,aH,aE,aI,aN]at *
     omega)
   |(exfalso;simp_all;done)
 ·obtain⟨y0,y1,y2,y3,y4,y5⟩:=x
  obtain⟨h0,h5,h1,h2,rfl⟩:=hx
  skip
  have e0:(bif ltI y0 y1 then ltI y0 7 else false)=false:=by rw [show ltI y0 7=false from aj8 (by omega)];cases ltI y0 y1 <;> rfl
  simp only [eC,Ff,LT.ok,DE,DF,and_true,cF,rP,kH,nt,nu,i4,kI,i5,kJ,nv,zJ,zK,zL,zM,zN,zO,zP,zQ,zR,zS,xf,kG,xg,xh,xj,xk,xl,xm,xo,xt,xu,xw,xx,xy,Bool.or_eq_true,Bool.and_eq_true]
  repeat' (first | refine And.intro ?_ ?_ | intro _)
  all_goals first
   |assumption
   |exact trivial
   |rfl
   |omega
   |(repeat (first | assumption | apply gq | apply ot | apply qF | refine Or.inr ?_ | refine And.intro ?_ ?_ | exact trivial | exact qt _ _ | rfl)
     done)
   |((repeat refine Or.inr ?_)
     exact br (by simp only [List.length_append,List.length_cons,List.length_nil];omega))
   |(simp only [List.length_append,List.length_cons,List.length_nil]
     omega)
   |((repeat refine Or.inr ?_)
     exact br (by omega))
   |(repeat' apply l7
     all_goals first | omega | (simp only [List.length_append,List.length_cons,List.length_nil];omega))
   |(try simp only [Bool.or_false,Bool.false_eq_true,Bool.and_eq_true,aH,aE,aI,aN]at *
     rw [aj (by omega) (by omega)]
     omega)
   |(try simp only [Bool.or_false,Bool.false_eq_true,Bool.and_eq_true,aH,aE,aI,aN]at *
     rw [aj (by omega) (by omega)]
     simp only [List.length_append,List.length_cons,List.length_nil]
     omega)
   |(simp only [Bool.or_false,Bool.false_eq_true,Bool.and_eq_true,aH,aE,aI,aN]at *
     omega)
   |(exfalso
     simp only [Bool.or_false,Bool.false_eq_true,Bool.and_eq_true,aH,aE,aI,aN]at *
     omega)
   |(exfalso;simp_all;done)
theorem Wf(c:List Int)(x:gZ)(hx:match x with | (y0,y1,y2,y3,y4)=>y0=(9:Int) - (9:Nat)∧(9:Nat)≤9∧aD y1 y2 y4=true∧y3.length + (9:Nat)≤9∧y4=c):
  eD.fin x=true∧ ∃ j y,eD.res x=(j,y)∧(match y with | (y0,y1,y2,y3,y4)=>aD y1 y2 c=true∧y3.length≤9∧c=y4):=by
 refine eD.inv2 (fun k x=>match x with | (y0,y1,y2,y3,y4)=>y0=(9:Int) - k∧k≤9∧aD y1 y2 y4=true∧y3.length + k≤9∧y4=c) (fun y=>match y with | (y0,y1,y2,y3,y4)=>aD y1 y2 c=true∧y3.length≤9∧c=y4) (fun k x hx=> ?_) (fun x hx=> ?_) 9 x (by omega) hx
 ·obtain⟨y0,y1,y2,y3,y4⟩:=x
  obtain⟨h0,h5,h1,h2,rfl⟩:=hx
  have nn:=ZL (n:=2) h1 (by omega);have hw:IntKind.i64.wrap (8 + nxV 2 y1 y2 y4)=8 + nxV 2 y1 y2 y4:=aj (by omega) (by omega)
  simp only [eD,Fg,LT.ok,DE,DF,and_true,kK,th,ti,pt,tj,tk,tl,lS,lT,tm,Bool.or_eq_true,Bool.and_eq_true]
  repeat' (first | refine And.intro ?_ ?_ | intro _)
  all_goals first
   |assumption
   |exact trivial
   |rfl
   |omega
   |(repeat (first | assumption | apply gq | apply ot | apply qF | refine Or.inr ?_ | refine And.intro ?_ ?_ | exact trivial | exact qt _ _ | rfl)
     done)
   |((repeat refine Or.inr ?_)
     exact br (by simp only [List.length_append,List.length_cons,List.length_nil];omega))
   |(simp only [List.length_append,List.length_cons,List.length_nil]
     omega)
   |((repeat refine Or.inr ?_)
     exact br (by omega))
   |(repeat' apply l7
     all_goals first | omega | (simp only [List.length_append,List.length_cons,List.length_nil];omega))
   |(try simp only [Bool.or_false,Bool.false_eq_true,Bool.and_eq_true,aH,aE,aI,aN]at *
     rw [aj (by omega) (by omega)]
     omega)
   |(try simp only [Bool.or_false,Bool.false_eq_true,Bool.and_eq_true,aH,aE,aI,aN]at *
     rw [aj (by omega) (by omega)]
     simp only [List.length_append,List.length_cons,List.length_nil]
     omega)
   |(simp only [Bool.or_false,Bool.false_eq_true,Bool.and_eq_true,aH,aE,aI,aN]at *
     omega)
   |(exfalso
     simp only [Bool.or_false,Bool.false_eq_true,Bool.and_eq_true,aH,aE,aI,aN]at *
     omega)
   |(exfalso;simp_all;done)
 ·obtain⟨y0,y1,y2,y3,y4⟩:=x
  obtain⟨h0,h5,h1,h2,rfl⟩:=hx
  have nn:=ZL (n:=2) h1 (by omega);have hw:IntKind.i64.wrap (8 + nxV 2 y1 y2 y4)=8 + nxV 2 y1 y2 y4:=aj (by omega) (by omega)
  skip
  simp only [eD,Fg,LT.ok,DE,DF,and_true,kK,th,ti,pt,tj,tk,tl,lS,lT,tm,Bool.or_eq_true,Bool.and_eq_true]
  repeat' (first | refine And.intro ?_ ?_ | intro _)
  all_goals first
   |assumption
   |exact trivial
   |rfl
   |omega
   |(repeat (first | assumption | apply gq | apply ot | apply qF | refine Or.inr ?_ | refine And.intro ?_ ?_ | exact trivial | exact qt _ _ | rfl)
     done)
   |((repeat refine Or.inr ?_)
     exact br (by simp only [List.length_append,List.length_cons,List.length_nil];omega))
   |(simp only [List.length_append,List.length_cons,List.length_nil]
     omega)
   |((repeat refine Or.inr ?_)
     exact br (by omega))
   |(repeat' apply l7
     all_goals first | omega | (simp only [List.length_append,List.length_cons,List.length_nil];omega))
   |(try simp only [Bool.or_false,Bool.false_eq_true,Bool.and_eq_true,aH,aE,aI,aN]at *
     rw [aj (by omega) (by omega)]
     omega)
   |(try simp only [Bool.or_false,Bool.false_eq_true,Bool.and_eq_true,aH,aE,aI,aN]at *
     rw [aj (by omega) (by omega)]
     simp only [List.length_append,List.length_cons,List.length_nil]
     omega)
   |(simp only [Bool.or_false,Bool.false_eq_true,Bool.and_eq_true,aH,aE,aI,aN]at *
     omega)
   |(exfalso
     simp only [Bool.or_false,Bool.false_eq_true,Bool.and_eq_true,aH,aE,aI,aN]at *
     omega)
   |(exfalso;simp_all;done)
theorem Ph(b a s:Int)(c:List Int)(h:aD a s c=true):p8 b a s c=true∧aD (ka b a s c) (kb b a s c) c=true∧(kd b a s c).length≤20:=by
 skip
 obtain⟨f0,j0,⟨z0,z1,z2,z3,z4,z5⟩,g0,hq0⟩:=We c (kY b a s c) (by
  simp only [oh,kY,oi,cP,oj,kZ,ol,cQ,ju,jv,iL,iM,gQ,ke,mG,mH,kf,kg,mI,iN,kh,ka,kb,kd,p8]
  repeat' refine And.intro ?_ ?_
  all_goals first
   |assumption
   |exact trivial
   |rfl
   |omega
   |(repeat (first | assumption | apply gq | apply ot | apply qF | refine Or.inr ?_ | refine And.intro ?_ ?_ | exact trivial | exact qt _ _ | rfl | apply l7)
     done)
   |((repeat refine Or.inr ?_)
     exact br (by simp only [List.length_append,List.length_cons,List.length_nil];omega))
   |(simp only [List.length_append,List.length_cons,List.length_nil]
     omega)
   |((repeat refine Or.inr ?_)
     exact br (by omega))
   |(repeat' apply l7
     all_goals first | omega | (simp only [List.length_append,List.length_cons,List.length_nil];omega))
   |(try simp only [Bool.or_false,Bool.false_eq_true,Bool.and_eq_true,aH,aE,aI,aN]at *
     rw [aj (by omega) (by omega)]
     omega)
   |(try simp only [Bool.or_false,Bool.false_eq_true,Bool.and_eq_true,aH,aE,aI,aN]at *
     rw [aj (by omega) (by omega)]
     simp only [List.length_append,List.length_cons,List.length_nil]
     omega)
   |(simp only [Bool.or_false,Bool.false_eq_true,Bool.and_eq_true,aH,aE,aI,aN]at *
     omega)
   |(exfalso
     simp only [Bool.or_false,Bool.false_eq_true,Bool.and_eq_true,aH,aE,aI,aN]at *
     omega)
   |(exfalso;simp_all;done))
 obtain⟨p1,p2,rfl⟩:=hq0
 simp only [oh,kY,oi,cP,oj,kZ,ol,cQ,ju,jv,iL,iM,gQ,ke,mG,mH,kf,kg,mI,iN,kh,ka,kb,kd,p8]at f0 g0
 obtain⟨f1,j1,⟨u0,u1,u2,u3,u4⟩,g1,hq1⟩:=Wf c (ke b a s c) (by
  simp only [oh,kY,oi,cP,oj,kZ,ol,cQ,ju,jv,iL,iM,gQ,ke,mG,mH,kf,kg,mI,iN,kh,ka,kb,kd,p8,f0,g0,kK,th,ti,pt,tj,tk,tl,lS,lT,tm]
  repeat' refine And.intro ?_ ?_
  all_goals first
   |assumption
   |exact trivial
   |rfl
   |omega
   |(repeat (first | assumption | apply gq | apply ot | apply qF | refine Or.inr ?_ | refine And.intro ?_ ?_ | exact trivial | exact qt _ _ | rfl | apply l7)
     done)
   |((repeat refine Or.inr ?_)
     exact br (by simp only [List.length_append,List.length_cons,List.length_nil];omega))
   |(simp only [List.length_append,List.length_cons,List.length_nil]
     omega)
   |((repeat refine Or.inr ?_)
     exact br (by omega))
   |(repeat' apply l7
     all_goals first | omega | (simp only [List.length_append,List.length_cons,List.length_nil];omega))
   |(try simp only [Bool.or_false,Bool.false_eq_true,Bool.and_eq_true,aH,aE,aI,aN]at *
     rw [aj (by omega) (by omega)]
     omega)
   |(try simp only [Bool.or_false,Bool.false_eq_true,Bool.and_eq_true,aH,aE,aI,aN]at *
     rw [aj (by omega) (by omega)]
     simp only [List.length_append,List.length_cons,List.length_nil]
     omega)
   |(simp only [Bool.or_false,Bool.false_eq_true,Bool.and_eq_true,aH,aE,aI,aN]at *
     omega)
   |(exfalso
     simp only [Bool.or_false,Bool.false_eq_true,Bool.and_eq_true,aH,aE,aI,aN]at *
     omega)
   |(exfalso;simp_all;done))
 obtain⟨p3,p4,rfl⟩:=hq1
 simp only [oh,kY,oi,cP,oj,kZ,ol,cQ,ju,jv,iL,iM,gQ,ke,mG,mH,kf,kg,mI,iN,kh,ka,kb,kd,p8,f0,g0]at f1 g1
 refine⟨?_,?_,?_⟩
 all_goals simp only [oh,kY,oi,cP,oj,kZ,ol,cQ,ju,jv,iL,iM,gQ,ke,mG,mH,kf,kg,mI,iN,kh,ka,kb,kd,p8,f0,g0,f1,g1,cF,rP,kH,nt,nu,i4,kI,i5,kJ,nv,zJ,zK,zL,zM,zN,zO,zP,zQ,zR,zS,xf,kG,xg,xh,xj,xk,xl,xm,xo,xt,xu,xw,xx,xy,kK,th,ti,pt,tj,tk,tl,lS,lT,tm,DE,DF,and_true,Bool.or_eq_true,Bool.and_eq_true]
 all_goals repeat' refine And.intro ?_ ?_
 all_goals first
   |assumption
   |exact trivial
   |rfl
   |omega
   |(repeat (first | assumption | apply gq | apply ot | apply qF | refine Or.inr ?_ | refine And.intro ?_ ?_ | exact trivial | exact qt _ _ | rfl | apply l7)
     done)
   |((repeat refine Or.inr ?_)
     exact br (by simp only [List.length_append,List.length_cons,List.length_nil];omega))
   |(simp only [List.length_append,List.length_cons,List.length_nil]
     omega)
   |((repeat refine Or.inr ?_)
     exact br (by omega))
   |(repeat' apply l7
     all_goals first | omega | (simp only [List.length_append,List.length_cons,List.length_nil];omega))
   |(try simp only [Bool.or_false,Bool.false_eq_true,Bool.and_eq_true,aH,aE,aI,aN]at *
     rw [aj (by omega) (by omega)]
     omega)
   |(try simp only [Bool.or_false,Bool.false_eq_true,Bool.and_eq_true,aH,aE,aI,aN]at *
     rw [aj (by omega) (by omega)]
     simp only [List.length_append,List.length_cons,List.length_nil]
     omega)
   |(simp only [Bool.or_false,Bool.false_eq_true,Bool.and_eq_true,aH,aE,aI,aN]at *
     omega)
   |(exfalso
     simp only [Bool.or_false,Bool.false_eq_true,Bool.and_eq_true,aH,aE,aI,aN]at *
     omega)
   |(exfalso;simp_all;done)
theorem RB(b a s:Int)(c:List Int)(h:aD a s c=true):Oo b a s c=true∧aD (Dn b a s c) (Do b a s c) c=true:=by
 skip
 refine⟨?_,?_⟩
 all_goals simp only [vb,gJ,FV,Mq,qY,qZ,vc,Mr,Mt,AB,Lg,Ib,Ic,Dn,Do,Oo,DE,DF,and_true,Bool.or_eq_true,Bool.and_eq_true]
 all_goals repeat' refine And.intro ?_ ?_
 all_goals first
   |assumption
   |exact trivial
   |rfl
   |omega
   |(repeat (first | assumption | apply gq | apply ot | apply qF | refine Or.inr ?_ | refine And.intro ?_ ?_ | exact trivial | exact qt _ _ | rfl | apply l7)
     done)
   |((repeat refine Or.inr ?_)
     exact br (by simp only [List.length_append,List.length_cons,List.length_nil];omega))
   |(simp only [List.length_append,List.length_cons,List.length_nil]
     omega)
   |((repeat refine Or.inr ?_)
     exact br (by omega))
   |(repeat' apply l7
     all_goals first | omega | (simp only [List.length_append,List.length_cons,List.length_nil];omega))
   |(try simp only [Bool.or_false,Bool.false_eq_true,Bool.and_eq_true,aH,aE,aI,aN]at *
     rw [aj (by omega) (by omega)]
     omega)
   |(try simp only [Bool.or_false,Bool.false_eq_true,Bool.and_eq_true,aH,aE,aI,aN]at *
     rw [aj (by omega) (by omega)]
     simp only [List.length_append,List.length_cons,List.length_nil]
     omega)
   |(simp only [Bool.or_false,Bool.false_eq_true,Bool.and_eq_true,aH,aE,aI,aN]at *
     omega)
   |(exfalso
     simp only [Bool.or_false,Bool.false_eq_true,Bool.and_eq_true,aH,aE,aI,aN]at *
     omega)
   |(exfalso;simp_all;done)
theorem Xy(a s:Int)(c:List Int)(h:aD a s c=true):Wh a s c=true∧aD (Lj a s c) (Lk a s c) c=true:=by
 skip
 refine⟨?_,?_⟩
 all_goals simp only [vn,NB,NC,TR,vo,qm,vp,zY,TS,ND,Qx,Qy,Qz,Lj,Lk,Wh,DE,DF,and_true,Bool.or_eq_true,Bool.and_eq_true]
 all_goals repeat' refine And.intro ?_ ?_
 all_goals first
   |assumption
   |exact trivial
   |rfl
   |omega
   |(repeat (first | assumption | apply gq | apply ot | apply qF | refine Or.inr ?_ | refine And.intro ?_ ?_ | exact trivial | exact qt _ _ | rfl | apply l7)
     done)
   |((repeat refine Or.inr ?_)
     exact br (by simp only [List.length_append,List.length_cons,List.length_nil];omega))
   |(simp only [List.length_append,List.length_cons,List.length_nil]
     omega)
   |((repeat refine Or.inr ?_)
     exact br (by omega))
   |(repeat' apply l7
     all_goals first | omega | (simp only [List.length_append,List.length_cons,List.length_nil];omega))
   |(try simp only [Bool.or_false,Bool.false_eq_true,Bool.and_eq_true,aH,aE,aI,aN]at *
     rw [aj (by omega) (by omega)]
     omega)
   |(try simp only [Bool.or_false,Bool.false_eq_true,Bool.and_eq_true,aH,aE,aI,aN]at *
     rw [aj (by omega) (by omega)]
     simp only [List.length_append,List.length_cons,List.length_nil]
     omega)
   |(simp only [Bool.or_false,Bool.false_eq_true,Bool.and_eq_true,aH,aE,aI,aN]at *
     omega)
   |(exfalso
     simp only [Bool.or_false,Bool.false_eq_true,Bool.and_eq_true,aH,aE,aI,aN]at *
     omega)
   |(exfalso;simp_all;done)
theorem adH(r:Int)(x:oA)(hx:match x with | (y0,y1,y2)=>y0≤((500:Nat):Int)∧0≤y0∧(y2.length:Int) + y0=r∧r≤500):
  kB.fin x=true∧ ∃ j y,kB.res x=(j,y)∧(match y with | (y0,y1,y2)=>(y2.length:Int)=r):=by
 refine kB.inv2 (fun k x=>match x with | (y0,y1,y2)=>y0≤(k:Int)∧0≤y0∧(y2.length:Int) + y0=r∧r≤500) (fun y=>match y with | (y0,y1,y2)=>(y2.length:Int)=r) (fun k x hx=> ?_) (fun x hx=> ?_) 500 x (by omega) hx
 ·obtain⟨y0,y1,y2⟩:=x
  obtain⟨h0,h1,h2,h3⟩:=hx
  skip
  simp only [kB,NQ,LT.ok,DE,DF,and_true,QH,QI,QJ,QK,QL,Bool.or_eq_true,Bool.and_eq_true]
  repeat' (first | refine And.intro ?_ ?_ | intro _)
  all_goals first
   |assumption
   |exact trivial
   |rfl
   |omega
   |(repeat (first | assumption | apply gq | apply ot | apply qF | refine Or.inr ?_ | refine And.intro ?_ ?_ | exact trivial | exact qt _ _ | rfl)
     done)
   |((repeat refine Or.inr ?_)
     exact br (by simp only [List.length_append,List.length_cons,List.length_nil];omega))
   |(simp only [List.length_append,List.length_cons,List.length_nil]
     omega)
   |((repeat refine Or.inr ?_)
     exact br (by omega))
   |(repeat' apply l7
     all_goals first | omega | (simp only [List.length_append,List.length_cons,List.length_nil];omega))
   |(try simp only [Bool.or_false,Bool.false_eq_true,Bool.and_eq_true,aH,aE,aI,aN]at *
     rw [aj (by omega) (by omega)]
     omega)
   |(try simp only [Bool.or_false,Bool.false_eq_true,Bool.and_eq_true,aH,aE,aI,aN]at *
     rw [aj (by omega) (by omega)]
     simp only [List.length_append,List.length_cons,List.length_nil]
     omega)
   |(simp only [Bool.or_false,Bool.false_eq_true,Bool.and_eq_true,aH,aE,aI,aN]at *
     omega)
   |(exfalso
     simp only [Bool.or_false,Bool.false_eq_true,Bool.and_eq_true,aH,aE,aI,aN]at *
     omega)
   |(exfalso;simp_all;done)
 ·obtain⟨y0,y1,y2⟩:=x
  obtain⟨h0,h1,h2,h3⟩:=hx
  skip
  skip
  simp only [kB,NQ,LT.ok,DE,DF,and_true,QH,QI,QJ,QK,QL,Bool.or_eq_true,Bool.and_eq_true]
  repeat' (first | refine And.intro ?_ ?_ | intro _)
  all_goals first
   |assumption
   |exact trivial
   |rfl
   |omega
   |(repeat (first | assumption | apply gq | apply ot | apply qF | refine Or.inr ?_ | refine And.intro ?_ ?_ | exact trivial | exact qt _ _ | rfl)
     done)
   |((repeat refine Or.inr ?_)
     exact br (by simp only [List.length_append,List.length_cons,List.length_nil];omega))
   |(simp only [List.length_append,List.length_cons,List.length_nil]
     omega)
   |((repeat refine Or.inr ?_)
     exact br (by omega))
   |(repeat' apply l7
     all_goals first | omega | (simp only [List.length_append,List.length_cons,List.length_nil];omega))
   |(try simp only [Bool.or_false,Bool.false_eq_true,Bool.and_eq_true,aH,aE,aI,aN]at *
     rw [aj (by omega) (by omega)]
     omega)
   |(try simp only [Bool.or_false,Bool.false_eq_true,Bool.and_eq_true,aH,aE,aI,aN]at *
     rw [aj (by omega) (by omega)]
     simp only [List.length_append,List.length_cons,List.length_nil]
     omega)
   |(simp only [Bool.or_false,Bool.false_eq_true,Bool.and_eq_true,aH,aE,aI,aN]at *
     omega)
   |(exfalso
     simp only [Bool.or_false,Bool.false_eq_true,Bool.and_eq_true,aH,aE,aI,aN]at *
     omega)
   |(exfalso;simp_all;done)
theorem XA(r s:Int)(h:(leI 0 r&&leI r 500)=true):GV r s=true∧((qg r s).length:Int)=r:=by
 simp only [Bool.and_eq_true,aE]at h
 obtain⟨f0,j0,⟨z0,z1,z2⟩,g0,hq0⟩:=adH r (Aa r s) (by
  simp only [Aa,qg,GV]
  refine⟨by omega,by omega,by simp,by omega⟩)
 simp only [Aa,qg,GV]at f0 g0
 refine⟨?_,?_⟩
 ·simp only [Aa,qg,GV,f0,g0,allT,cond_true]
 ·simp only [Aa,qg,GV,f0,g0];exact hq0
def acO:List SV→List Entry→Option Out
 | [.one ⟨false,[.ptr 0 0]⟩],[.box 157 [.ref 1,.val (.int .i64 x0),.val (.int .i64 x1)],.row false 5 (.int .u8) x2]=>some ⟨(.one ⟨false,[(.ref 2)]⟩),[(.box 157 [(.ref 1),(.val (.int .i64 (uH x0 x1 x2))),(.val (.int .i64 (uI x0 x1 x2)))]),(.row false 5 ash x2)],[(.row true 173 asf (uJ x0 x1 x2))],[aD x0 x1 x2]⟩
 |_,_=>none
def ug:PF Tryz.prog:=PF.alt akA acO (by
 intro args es o h hnd;unfold acO at h;split at h
 ·rename_i x0 x1 x2
  cases h
  have hnd:=gO hnd
  have hh:=(Xz x0 x1 x2 hnd).1
  have en:=hh
  exact jO rfl (gn en) rfl rfl rfl
 ·cases h)
def Ub:List SV→List Entry→Option Out
 | [.one ⟨false,[.ptr 0 0]⟩],[.box 157 [.ref 1,.val (.int .i64 x0),.val (.int .i64 x1)],.row false 5 (.int .u8) x2]=>some ⟨(.one ⟨false,[(.ref 2)]⟩),[(.box 157 [(.ref 1),(.val (.int .i64 (lx x0 x1 x2))),(.val (.int .i64 (ly x0 x1 x2)))]),(.row false 5 ash x2)],[(.row true 176 asf (lz x0 x1 x2))],[aD x0 x1 x2]⟩
 |_,_=>none
def lr:PF Tryz.prog:=PF.alt aeE Ub (by
 intro args es o h hnd;unfold Ub at h;split at h
 ·rename_i x0 x1 x2
  cases h
  have hnd:=gO hnd
  have hh:=(QB x0 x1 x2 hnd).1
  have en:=hh
  exact jO rfl (gn en) rfl rfl rfl
 ·cases h)
def SR:List SV→List Entry→Option Out
 | [.one ⟨false,[.ptr 0 0]⟩,.one ⟨false,[.val (.int .i64 x0)]⟩],[.box 157 [.ref 1,.val (.int .i64 x1),.val (.int .i64 x2)],.row false 5 (.int .u8) x3]=>some ⟨(.one ⟨false,[(.ref 2)]⟩),[(.box 157 [(.ref 1),(.val (.int .i64 (ka x0 x1 x2 x3))),(.val (.int .i64 (kb x0 x1 x2 x3)))]),(.row false 5 ash x3)],[(.row true 100 ase (kd x0 x1 x2 x3))],[aD x1 x2 x3]⟩
 |_,_=>none
def j8:PF Tryz.prog:=PF.alt adz SR (by
 intro args es o h hnd;unfold SR at h;split at h
 ·rename_i x0 x1 x2 x3
  cases h
  have hnd:=gO hnd
  have hh:=(Ph x0 x1 x2 x3 hnd).1
  have en:=hh
  exact jO rfl (gn en) rfl rfl rfl
 ·cases h)
def UK:List SV→List Entry→Option Out
 | [.one ⟨false,[.ptr 0 0]⟩,.one ⟨false,[.val (.int .i64 x0)]⟩],[.box 157 [.ref 1,.val (.int .i64 x1),.val (.int .i64 x2)],.row false 5 (.int .u8) x3]=>some ⟨(.one ⟨true,[(.val (.int .i64 (Ib x0 x1 x2 x3))),(.val (.int .i64 (Ic x0 x1 x2 x3)))]⟩),[(.box 157 [(.ref 1),(.val (.int .i64 (Dn x0 x1 x2 x3))),(.val (.int .i64 (Do x0 x1 x2 x3)))]),(.row false 5 ash x3)],[],[aD x1 x2 x3]⟩
 |_,_=>none
def NR:PF Tryz.prog:=PF.alt af6 UK (by
 intro args es o h hnd;unfold UK at h;split at h
 ·rename_i x0 x1 x2 x3
  cases h
  have hnd:=gO hnd
  have hh:=(RB x0 x1 x2 x3 hnd).1
  have en:=hh
  exact jO rfl (gn en) rfl rfl rfl
 ·cases h)
def acM:List SV→List Entry→Option Out
 | [.one ⟨false,[.ptr 0 0]⟩],[.box 157 [.ref 1,.val (.int .i64 x0),.val (.int .i64 x1)],.row false 5 (.int .u8) x2]=>some ⟨(.one ⟨true,[(.val (.int .i64 (Qx x0 x1 x2))),(.val (.int .i64 (Qy x0 x1 x2))),(.val (.bool (Qz x0 x1 x2)))]⟩),[(.box 157 [(.ref 1),(.val (.int .i64 (Lj x0 x1 x2))),(.val (.int .i64 (Lk x0 x1 x2)))]),(.row false 5 ash x2)],[],[aD x0 x1 x2]⟩
 |_,_=>none
def Vu:PF Tryz.prog:=PF.alt akw acM (by
 intro args es o h hnd;unfold acM at h;split at h
 ·rename_i x0 x1 x2
  cases h
  have hnd:=gO hnd
  have hh:=(Xy x0 x1 x2 hnd).1
  have en:=hh
  exact jO rfl (gn en) rfl rfl rfl
 ·cases h)
def acP:List SV→List Entry→Option Out
 | [.one ⟨false,[.val (.int .i64 x0)]⟩,.one ⟨false,[.val (.int .i64 x1)]⟩],[]=>some ⟨(.one ⟨false,[(.ref 0)]⟩),[],[(.row true 2 asg (qg x0 x1))],[leI 0 x0&&leI x0 500]⟩
 |_,_=>none
def Vv:PF Tryz.prog:=PF.alt akB acP (by
 intro args es o h hnd;unfold acP at h;split at h
 ·rename_i x0 x1
  cases h
  have hnd:=gO hnd
  have hh:=(XA x0 x1 hnd).1
  have en:=hh
  exact jO rfl (gn en) rfl rfl rfl
 ·cases h)
end Go.SX

namespace Go.SX
open Go.Proofs
set_option maxRecDepth 100000
def ajM(n day:Int)(fs lf:L3)(pl ls:L2)(s:RS):LI×Int×Int×Int×LI×L3×List LI×L3×L2×L2:=(s.2.2.2.1,n,s.1,day,s.2.1,fs,s.2.2.1,lf,pl,ls)
def lZ(b:Int×(Int×((Int×Int)×(Int×(Int×Bool))))):(List Int×Int×Int×Int×List Int×List (Int×(Int×Int))×List (List Int)×List (Int×(Int×Int))×List (Int×Int)×List (Int×Int))→Nat ⊕ (List Int×Int×Int×Int×List Int×List (Int×(Int×Int))×List (List Int)×List (Int×(Int×Int))×List (Int×Int)×List (Int×Int))
 |(y3,y4,y5,y6,y7,y8,y9,y10,y11,y12)=>(.inr ((y3++([da b.1 (b.2.1) (b.2.2.1.1) (b.2.2.1.2) (b.2.2.2.1) (b.2.2.2.2.1) b.2.2.2.2.2 y4 y5 y6 y7 y8 y9 y10 y11 y12])),(db b.1 (b.2.1) (b.2.2.1.1) (b.2.2.1.2) (b.2.2.2.1) (b.2.2.2.2.1) b.2.2.2.2.2 y4 y5 y6 y7 y8 y9 y10 y11 y12),(dc b.1 (b.2.1) (b.2.2.1.1) (b.2.2.1.2) (b.2.2.2.1) (b.2.2.2.2.1) b.2.2.2.2.2 y4 y5 y6 y7 y8 y9 y10 y11 y12),(dd b.1 (b.2.1) (b.2.2.1.1) (b.2.2.1.2) (b.2.2.2.1) (b.2.2.2.2.1) b.2.2.2.2.2 y4 y5 y6 y7 y8 y9 y10 y11 y12),(de b.1 (b.2.1) (b.2.2.1.1) (b.2.2.1.2) (b.2.2.2.1) (b.2.2.2.2.1) b.2.2.2.2.2 y4 y5 y6 y7 y8 y9 y10 y11 y12),(df b.1 (b.2.1) (b.2.2.1.1) (b.2.2.1.2) (b.2.2.2.1) (b.2.2.2.2.1) b.2.2.2.2.2 y4 y5 y6 y7 y8 y9 y10 y11 y12),(dg b.1 (b.2.1) (b.2.2.1.1) (b.2.2.1.2) (b.2.2.2.1) (b.2.2.2.2.1) b.2.2.2.2.2 y4 y5 y6 y7 y9 y11 y12),(dh b.1 (b.2.1) (b.2.2.1.1) (b.2.2.1.2) (b.2.2.2.1) (b.2.2.2.2.1) b.2.2.2.2.2 y4 y5 y6 y7 y8 y9 y10 y11 y12),(di b.1 (b.2.1) (b.2.2.1.1) (b.2.2.1.2) (b.2.2.2.1) (b.2.2.2.2.1) b.2.2.2.2.2 y4 y5 y6 y7 y8 y9 y10 y11 y12),(dj b.1 (b.2.1) (b.2.2.1.1) (b.2.2.1.2) (b.2.2.2.1) (b.2.2.2.2.1) b.2.2.2.2.2 y4 y5 y6 y7 y8 y9 y10 y11 y12)))
def mM(y2:List (Int×(Int×((Int×Int)×(Int×(Int×Bool))))))(i:Nat):(List Int×Int×Int×Int×List Int×List (Int×(Int×Int))×List (List Int)×List (Int×(Int×Int))×List (Int×Int)×List (Int×Int))→lW
 |(y3,y4,y5,y6,y7,y8,y9,y10,y11,y12)=>((i:Int),(↑y2.length:Int),y2,y3,y4,y5,y6,y7,y8,y9,y10,y11,y12)
def NU:lW→List Int×Int×Int×Int×List Int×List (Int×(Int×Int))×List (List Int)×List (Int×(Int×Int))×List (Int×Int)×List (Int×Int)
 |(_,_,_,y3,y4,y5,y6,y7,y8,y9,y10,y11,y12)=>(y3,y4,y5,y6,y7,y8,y9,y10,y11,y12)
theorem ahF(y2:List (Int×(Int×((Int×Int)×(Int×(Int×Bool))))))(y3:List Int)(y4 y5 y6:Int)(y7:List Int)(y8:List (Int×(Int×Int)))(y9:List (List Int))(y10:List (Int×(Int×Int)))(y11 y12:List (Int×Int))(hn:y2.length≤9223372036854775807)(n day:Int)(fs lf:L3)(pl ls:L2)(ps0:LI)(rs0:List LI)(hX: ∀ x∈y2,isX ps0 rs0 x=true)(s0:RS)(hs0:(y3,y4,y5,y6,y7,y8,y9,y10,y11,y12)=ajM n day fs lf pl ls s0)(hi0:al0 n day fs lf pl ls ps0 rs0 0 s0)(h200:y2.length≤200):
  dP.fin ((0:Int),(↑y2.length:Int),y2,y3,y4,y5,y6,y7,y8,y9,y10,y11,y12)=true∧dP.res ((0:Int),(↑y2.length:Int),y2,y3,y4,y5,y6,y7,y8,y9,y10,y11,y12)=((aU (lZ) 0 y2 0 (y3,y4,y5,y6,y7,y8,y9,y10,y11,y12)).1,(mM y2) (aU (lZ) 0 y2 0 (y3,y4,y5,y6,y7,y8,y9,y10,y11,y12)).2.1 (aU (lZ) 0 y2 0 (y3,y4,y5,y6,y7,y8,y9,y10,y11,y12)).2.2):=by
 have key:=dP.along (mM y2) NU (lZ) 0 (fun i a=> ∃ s,a=ajM n day fs lf pl ls s∧al0 n day fs lf pl ls ps0 rs0 i s) y2 (y3,y4,y5,y6,y7,y8,y9,y10,y11,y12) ⟨s0,hs0,hi0⟩ (by simp only [dP,mM];omega) (fun i b a hb hI=> ?_) (fun a hI=> ?_)
 ·exact key
 ·obtain⟨y3,y4,y5,y6,y7,y8,y9,y10,y11,y12⟩:=a
  have hlt:=(List.getElem?_eq_some_iff.1 hb).1
  have hget: ∀ d,Option.getD y2[i]? d=b:=fun d=>by rw [hb];rfl
  have hw:=vu hlt hn
  have hdec:ltI (i:Int) (y2.length:Int)=true:=et (by omega)
  have hnn:leI (0:Int) (i:Int)=true:=dk (by omega)
  have hltd:ltN i y2.length=true:=fJ hlt
  refine⟨?_,?_,?_,?_⟩
  ·have hm:=hX b (List.mem_of_getElem? hb)
   obtain⟨s,he,hI⟩:=hI
   obtain⟨hx,_⟩:=ZO hI hm
   obtain⟨o0,o1,o2,o3,o4,o5,o6,o7,o8,o9,o10⟩:=aaA hI.1 hx
   simp only [ajM,Prod.mk.injEq]at he
   obtain⟨rfl,rfl,rfl,rfl,rfl,rfl,rfl,rfl,rfl,rfl⟩:=he
   have hlen:s.2.2.2.1.length≤i:=hI.2.2.2
   have h6:leN (s.2.2.2.1.length + 1) 9223372036854775807=true:=br (by omega)
   have h7:leN ((s.2.2.2.1.length + 1) * 8) 140737488355328=true:=br (by omega)
   simp [wh,dK,wi,dL,pG,dM,dN,dO,be,se,DX,DY,DZ,Ea,Eb,Ec,Ed,Ee,Ef,Eg,BV,BW,BX,BZ,Ca,Cb,Cc,Cd,CN,dP,LT.nds,allT,mM,ajM,hdec,hnn,hltd,hget,o0,o1,o2,o3,o4,o5,o6,o7,o8,o9,o10,h6,h7]
  ·simp [wh,dK,wi,dL,pG,dM,dN,dO,be,se,DX,DY,DZ,Ea,Eb,Ec,Ed,Ee,Ef,Eg,BV,BW,BX,BZ,Ca,Cb,Cc,Cd,CN,dP,LT.each,mM,NU,hw]
  ·simp only [wh,dK,wi,dL,pG,dM,dN,dO,be,se,DX,DY,DZ,Ea,Eb,Ec,Ed,Ee,Ef,Eg,BV,BW,BX,BZ,Ca,Cb,Cc,Cd,CN,dP,LT.fn,mM,NU,lZ,Int.toNat_natCast,hdec,hnn,hltd,hget,cond_true,Bool.cond_self]
  ·intro a' hf
   obtain⟨s,he,hI⟩:=hI
   have hm:=hX b (List.mem_of_getElem? hb)
   obtain⟨hx,hk⟩:=ZO hI hm
   obtain⟨o0,o1,o2,o3,o4,o5,o6,o7,o8,o9,o10⟩:=aaA hI.1 hx
   refine⟨stX n day fs lf pl ls s b,?_,hk⟩
   rw [he]at hf
   simp only [ajM,lZ,Sum.inr.injEq,o0,o1,o2,o3,o4,o5,o6,o7,o8,o9]at hf
   rw [← hf]
   rfl
 ·obtain⟨y3,y4,y5,y6,y7,y8,y9,y10,y11,y12⟩:=a
  simp [wh,dK,wi,dL,pG,dM,dN,dO,be,se,DX,DY,DZ,Ea,Eb,Ec,Ed,Ee,Ef,Eg,BV,BW,BX,BZ,Ca,Cb,Cc,Cd,CN,dP,LT.out,mM]
end Go.SX
