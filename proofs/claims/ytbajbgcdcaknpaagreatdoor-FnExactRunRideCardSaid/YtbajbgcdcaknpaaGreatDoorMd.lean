/- What functions of the program come to, and what that says in plain words: part 4. -/
import Derived.Test.YtbajbgcdcaknpaaGreatDoorMc
import Derived.Test.YtbajbgcdcaknpaaGreatDoorTXh
import Derived.Test.YtbajbgcdcaknpaaGreatDoorProg
import Derived.Test.YtbajbgcdcaknpaaGreatDoorTXk
import Derived.Test.YtbajbgcdcaknpaaGreatDoorTXi
set_option linter.unusedSimpArgs false
set_option linter.unusedVariables false
namespace Go.SX
open Go.Proofs
set_option maxRecDepth 100000
section
variable (x3 x4 x5 x6 x7 x8:Int)(x9:Bool)(x10:List Int)(x12:List (List Int))
def sZ:Bool:=bif x5==(0:Int)then bif x6==(0:Int)then true else false else false
def s5:Bool:=bif x7==(0:Int)then bif x8==(0:Int)then bif x9==false then true else false else false else false
def lq:Bool:=bif x3==(0:Int)then bif bif Oj x10 x4 then sZ x5 x6 else false then s5 x7 x8 x9 else false else bif x3==(1:Int)then bif bif Oj x10 x4 then rsB (cY (bif Oj x10 x4&&true then Option.getD x12[Int.toNat (0:Int)]? (wu (CTy.sl (2:Nat) axl))else [])) x5 x6 else false then s5 x7 x8 x9 else false else bif x3==(2:Int)then bif bif x4==(0:Int)then sZ x5 x6 else false then ak4 x7 x8 else false else false
def lr:Bool:=allT [!x3==(0:Int)||leN x10.length (9223372036854775807:Nat),x3==(0:Int)||(!x3==(1:Int)||leN x10.length (9223372036854775807:Nat)),x3==(0:Int)||(!x3==(1:Int)||(!(Oj x10 x4&&true)||leI (0:Int) (0:Int))),x3==(0:Int)||(!x3==(1:Int)||(!(Oj x10 x4&&true)||ltI (0:Int) (↑x12.length:Int))),x3==(0:Int)||(!x3==(1:Int)||(!(Oj x10 x4&&true)||ltN (Int.toNat (0:Int)) x12.length))]
end
def tp:List SV→List Entry→Option Out
 | [(.one ⟨true,[(.val (.int .i64 _x0)),(.ref 0),(.ref 1),(.ref 2),(.ref 3),(.val (.int .i64 _x1)),(.ref 4),(.ref 5),(.val (.int .i64 _x2))]⟩),(.one ⟨true,[(.val (.int .i64 x3)),(.val (.int .i64 x4)),(.val (.int .i64 x5)),(.val (.int .i64 x6)),(.val (.int .i64 x7)),(.val (.int .i64 x8)),(.val (.bool x9))]⟩)],[(.row false 2 (.int .i64) x10),(.row false 169 (.pair (.int .i64) (.pair (.int .i64) (.int .i64))) x11),(.row false 24 (.sl 2 (.int .i64)) x12),(.row false 100 (.pair (.int .i64) (.pair (.int .i64) (.int .i64))) x13),(.row false 173 (.pair (.int .i64) (.int .i64)) x14),(.row false 176 (.pair (.int .i64) (.int .i64)) x15)]=>some ⟨(.one ⟨false,[(.val (.bool (lq x3 x4 x5 x6 x7 x8 x9 x10 x12)))]⟩),[(.row false 2 axl x10),(.row false 169 axj x11),(.row false 24 (CTy.sl (2:Nat) axl) x12),(.row false 100 axj x13),(.row false 173 axk x14),(.row false 176 axk x15)],[],[(lr x3 x4 x10 x12)]⟩
 |_,_=>none
def lv:PF Tryz.prog:=PF.ofG Tryz.prog [lR,PF.lend lR,PF.fz lR,adA,amw,aH,PF.lend aH,PF.fz aH] [] aq 99 Tryz.f99 Tryz.func99 (fun c _=>LOk.nil c) tp (by
 intro vs es r h;unfold tp at h;split at h
 ·cases h;kernel_rfl
 ·cases h)
def yq(x0 x1 x2 x3 x4 x5:Int)(x6:Bool)(x10:List Int)(x12:List (List Int)):Bool:= !lq x0 x1 x2 x3 x4 x5 x6 x10 x12
def Hn(x0 x1:Int)(x10:List Int)(x12:List (List Int)):Bool:=allT [lr x0 x1 x10 x12]
def OP:List SV→List Entry→Option Out
 | [(.one ⟨true,[(.val (.int .i64 x0)),(.val (.int .i64 x1)),(.val (.int .i64 x2)),(.val (.int .i64 x3)),(.val (.int .i64 x4)),(.val (.int .i64 x5)),(.val (.bool x6))]⟩),(.one ⟨false,[(.ptr 0 0)]⟩)],[(.box 33 [(.val (.int .i64 x7)),(.ref 1),(.ref 2),(.ref 3),(.ref 4),(.val (.int .i64 x8)),(.ref 5),(.ref 6),(.val (.int .i64 x9))]),(.row false 2 (.int .i64) x10),(.row false 169 (.pair (.int .i64) (.pair (.int .i64) (.int .i64))) x11),(.row false 24 (.sl 2 (.int .i64)) x12),(.row false 100 (.pair (.int .i64) (.pair (.int .i64) (.int .i64))) x13),(.row false 173 (.pair (.int .i64) (.int .i64)) x14),(.row false 176 (.pair (.int .i64) (.int .i64)) x15)]=>some ⟨(.one ⟨false,[(.val (.bool (yq x0 x1 x2 x3 x4 x5 x6 x10 x12)))]⟩),[(.box 33 [(.val (.int .i64 x7)),(.ref 1),(.ref 2),(.ref 3),(.ref 4),(.val (.int .i64 x8)),(.ref 5),(.ref 6),(.val (.int .i64 x9))]),(.row false 2 axl x10),(.row false 169 axj x11),(.row false 24 (CTy.sl (2:Nat) axl) x12),(.row false 100 axj x13),(.row false 173 axk x14),(.row false 176 axk x15)],[],[(Hn x0 x1 x10 x12)]⟩
 |_,_=>none
def nk:PF Tryz.prog:=PF.ofG Tryz.prog [lv,PF.lend lv,PF.fz lv] [] aq 145 Tryz.f145 Tryz.func145 (fun c _=>LOk.nil c) OP (by
 intro vs es r h;unfold OP at h;split at h
 ·cases h;kernel_rfl
 ·cases h)
abbrev aU:=Int×Int×Int×Int×Int×List (Int×(Int×((Int×Int)×(Int×(Int×Bool)))))×List Int×List (Int×(Int×Int))×List (List Int)×List (Int×(Int×Int))×List (Int×Int)×List (Int×Int)
def cP(y0:Int)(y5:List (Int×(Int×((Int×Int)×(Int×(Int×Bool)))))):Int×Int×(Int×Int)×Int×Int×Bool:=Option.getD y5[Int.toNat y0]? ((0:Int),(0:Int),((0:Int),(0:Int)),(0:Int),(0:Int),false)
def cQ(y0:Int)(y5:List (Int×(Int×((Int×Int)×(Int×(Int×Bool)))))):Int:=(cP y0 y5).1
def cR(y0:Int)(y5:List (Int×(Int×((Int×Int)×(Int×(Int×Bool)))))):Int×(Int×Int)×Int×Int×Bool:=(cP y0 y5).2
def cS(y0:Int)(y5:List (Int×(Int×((Int×Int)×(Int×(Int×Bool)))))):Int:=(cR y0 y5).1
def bo(y0:Int)(y5:List (Int×(Int×((Int×Int)×(Int×(Int×Bool)))))):(Int×Int)×Int×Int×Bool:=(cR y0 y5).2
def cT(y0:Int)(y5:List (Int×(Int×((Int×Int)×(Int×(Int×Bool)))))):Int×Bool:=(bo y0 y5).2.2
def fm(y0 y1:Int):Bool:=ltI y0 y1
def fo(y0:Int):Bool:=leI (0:Int) y0
def fq(y0:Int)(y5:List (Int×(Int×((Int×Int)×(Int×(Int×Bool)))))):Bool:=ltI y0 (↑y5.length:Int)
def ft(y0:Int)(y5:List (Int×(Int×((Int×Int)×(Int×(Int×Bool)))))):Bool:=ltN y0.toNat y5.length
def fu(y0:Int)(y5:List (Int×(Int×((Int×Int)×(Int×(Int×Bool))))))(y6:List Int)(y8:List (List Int)):Bool:=Hn (cQ y0 y5) (cS y0 y5) y6 y8
def fv(y0:Int)(y5:List (Int×(Int×((Int×Int)×(Int×(Int×Bool))))))(y6:List Int)(y8:List (List Int)):Bool:=yq (cQ y0 y5) (cS y0 y5) ((bo y0 y5).1.1) ((bo y0 y5).1.2) (((bo y0 y5).2).1) ((cT y0 y5).1) ((cT y0 y5).2) y6 y8
def fw(y0:Int):Int:=IntKind.wrap .i64 (y0 + (1:Int))
def Kj:aU→List (Nat×SV)
 |(y0,y1,_,_,_,_,_,_,_,_,_,_)=> [(8,(.one ⟨false,[(.val (.int .i64 y0))]⟩)),(7,(.one ⟨false,[(.val (.int .i64 y1))]⟩)),(1,(.one ⟨false,[(.clo 145 [0])]⟩)),(0,(.one ⟨false,[(.ref 1)]⟩))]
def Ki:aU→List (Nat×Entry)
 |(_,_,y2,y3,y4,y5,y6,y7,y8,y9,y10,y11)=> [(0,(.box 33 [(.val (.int .i64 y2)),(.ref 2),(.ref 3),(.ref 4),(.ref 5),(.val (.int .i64 y3)),(.ref 6),(.ref 7),(.val (.int .i64 y4))])),(1,(.row false 49 axi y5)),(2,(.row false 2 axl y6)),(3,(.row false 169 axj y7)),(4,(.row false 24 (CTy.sl (2:Nat) axl) y8)),(5,(.row false 100 axj y9)),(6,(.row false 173 axk y10)),(7,(.row false 176 axk y11))]
def Kl:Nat→aU→List (Nat×SV)
 |0,(y0,_,_,_,_,_,_,_,_,_,_,_)=> [(4,(.one ⟨false,[(.val (.int .i64 y0))]⟩))]
 |_,(_,_,_,_,_,_,_,_,_,_,_,_)=> []
def Kk:Nat→aU→List (Nat×Entry)
 |0,(_,_,y2,y3,y4,y5,y6,y7,y8,y9,y10,y11)=> [(0,(.box 33 [(.val (.int .i64 y2)),(.ref 2),(.ref 3),(.ref 4),(.ref 5),(.val (.int .i64 y3)),(.ref 6),(.ref 7),(.val (.int .i64 y4))])),(1,(.row false 49 axi y5)),(2,(.row false 2 axl y6)),(3,(.row false 169 axj y7)),(4,(.row false 24 (CTy.sl (2:Nat) axl) y8)),(5,(.row false 100 axj y9)),(6,(.row false 173 axk y10)),(7,(.row false 176 axk y11))]
 |_,(_,_,y2,y3,y4,y5,y6,y7,y8,y9,y10,y11)=> [(0,(.box 33 [(.val (.int .i64 y2)),(.ref 2),(.ref 3),(.ref 4),(.ref 5),(.val (.int .i64 y3)),(.ref 6),(.ref 7),(.val (.int .i64 y4))])),(1,(.row false 49 axi y5)),(2,(.row false 2 axl y6)),(3,(.row false 169 axj y7)),(4,(.row false 24 (CTy.sl (2:Nat) axl) y8)),(5,(.row false 100 axj y9)),(6,(.row false 173 axk y10)),(7,(.row false 176 axk y11))]
def eO:aU→LT aU
 |(y0,y1,y2,y3,y4,y5,y6,y7,y8,y9,y10,y11)=> .ite (fm y0 y1) (.need [(fo y0),(fq y0 y5),(ft y0 y5),(fu y0 y5 y6 y8)] (.ite (fv y0 y5 y6 y8) (.ext 0 [(0,0),(1,1),(2,2),(3,3),(4,4),(5,5),(6,6),(7,7)]) (.nrm ((fw y0),y1,y2,y3,y4,y5,y6,y7,y8,y9,y10,y11) [(0,0),(1,1),(2,2),(3,3),(4,4),(5,5),(6,6),(7,7)]))) (.ext 1 [(0,0),(1,1),(2,2),(3,3),(4,4),(5,5),(6,6),(7,7)])
def my(s:St):Option aU:=
 (match s.look 8 with
 |some ⟨none,(.one ⟨false,[(.val (.int .i64 y0))]⟩)⟩=>
 (match s.look 7 with
 |some ⟨none,(.one ⟨false,[(.val (.int .i64 y1))]⟩)⟩=>
 (match s.look 1 with
 |some ⟨none,(.one ⟨false,[(.clo 145 [1])]⟩)⟩=>
 (match s.look 0 with
 |some ⟨none,(.one ⟨false,[(.ref 0)]⟩)⟩=>
 (match s.ent 1 with
 |some (.box 33 [(.val (.int .i64 y2)),(.ref 2),(.ref 3),(.ref 4),(.ref 5),(.val (.int .i64 y3)),(.ref 6),(.ref 7),(.val (.int .i64 y4))])=>
 (match s.ent 0 with
 |some (.row false 49 (.pair (.int .i64) (.pair (.int .i64) (.pair (.pair (.int .i64) (.int .i64)) (.pair (.int .i64) (.pair (.int .i64) .bool))))) y5)=>
 (match s.ent 2 with
 |some (.row false 2 (.int .i64) y6)=>
 (match s.ent 3 with
 |some (.row false 169 (.pair (.int .i64) (.pair (.int .i64) (.int .i64))) y7)=>
 (match s.ent 4 with
 |some (.row false 24 (.sl 2 (.int .i64)) y8)=>
 (match s.ent 5 with
 |some (.row false 100 (.pair (.int .i64) (.pair (.int .i64) (.int .i64))) y9)=>
 (match s.ent 6 with
 |some (.row false 173 (.pair (.int .i64) (.int .i64)) y10)=>
 (match s.ent 7 with
 |some (.row false 176 (.pair (.int .i64) (.int .i64)) y11)=>
 some (y0,y1,y2,y3,y4,y5,y6,y7,y8,y9,y10,y11)
 |_=>none)
 |_=>none)
 |_=>none)
 |_=>none)
 |_=>none)
 |_=>none)
 |_=>none)
 |_=>none)
 |_=>none)
 |_=>none)
 |_=>none)
 |_=>none)
def ah:Lp aU where
 h:=⟨[9,10,5,11,12,13,14,15,16,17,4,18,8],[0,1,2,3,4,5,6,7],[],[]⟩
 JL:=Kj
 JE:=Ki
 XL:=Kl
 XE:=Kk
 q:=fun j=>match j with | 0=> .ret | _=> .exit 0
 tags:= [0,1]
 lt:=eO
 fuel:=fun(y0,y1,y2,y3,y4,y5,y6,y7,y8,y9,y10,y11)=>y0.natAbs + y1.natAbs + y2.natAbs + y3.natAbs + y4.natAbs + y5.length + y6.length + y7.length + y8.length + y9.length + y10.length + y11.length
 fix:=fun(_,y1,y2,y3,y4,y5,y6,y7,y8,y9,y10,y11) (y0,_,_,_,_,_,_,_,_,_,_,_)=>(y0,y1,y2,y3,y4,y5,y6,y7,y8,y9,y10,y11)
 σ:= [(0,1),(1,0),(2,2),(3,3),(4,4),(5,5),(6,6),(7,7)]
 rd:=my
theorem IG:LoopOk Tryz.prog (fun k=>Nat.blt k Tryz.f200.ntmps) ah.F (au Tryz.f200 0):=by
 refine Lp.ok (tbl:= [nk,PF.lend nk,PF.fz nk]) (lf:= []) aq ah (by kernel_rfl) (LOk.nil _) (fun _=>rfl) (fun j _=>by unfold ah;match j with | 0=>rfl | _ + 1=>rfl) ?_ ?_ ?_ ?_ (fun _=>rfl) ?_
 ·rintro⟨y0,y1,y2,y3,y4,y5,y6,y7,y8,y9,y10,y11⟩;kernel_rfl
 ·rintro⟨y0,y1,y2,y3,y4,y5,y6,y7,y8,y9,y10,y11⟩;kernel_rfl
 ·intro s x h
  have h:my s=some x:=h
  unfold my at h
  repeat' split at h
  all_goals cases h
  exact⟨aa (by assumption) rfl (aa (by assumption) rfl (aa (by assumption) rfl (aa (by assumption) rfl (rfl)))),ab rfl (by assumption) rfl (ab rfl (by assumption) rfl (ab rfl (by assumption) rfl (ab rfl (by assumption) rfl (ab rfl (by assumption) rfl (ab rfl (by assumption) rfl (ab rfl (by assumption) rfl (ab rfl (by assumption) rfl (rfl))))))))⟩
 ·rintro⟨y0,y1,y2,y3,y4,y5,y6,y7,y8,y9,y10,y11⟩;kernel_rfl
 ·rintro⟨y0,y1,y2,y3,y4,y5,y6,y7,y8,y9,y10,y11⟩ z;exact(And.intro (And.intro trivial rfl) trivial)
section
variable (x0:List (Int×Int×(Int×Int)×Int×Int×Bool))(x1 x2 x3:Int)(x4:List Int)(x5:List (Int×Int×Int))(x6:List (List Int))(x7:List (Int×Int×Int))(x8 x9:List (Int×Int))
def gk:Int×Int×Int×Int×Int×List (Int×Int×(Int×Int)×Int×Int×Bool)×List Int×List (Int×Int×Int)×List (List Int)×List (Int×Int×Int)×List (Int×Int)×List (Int×Int):=((0:Int),(↑x0.length:Int),x1,x2,x3,x0,x4,x5,x6,x7,x8,x9)
def gm:Bool:=Nat.beq ((Lp.res ah (gk x0 x1 x2 x3 x4 x5 x6 x7 x8 x9)).1) (0:Nat)
def p7:Int:=bif gm x0 x1 x2 x3 x4 x5 x6 x7 x8 x9 then ((Lp.res ah (gk x0 x1 x2 x3 x4 x5 x6 x7 x8 x9)).2).1else(-1:Int)
def zy:Int:=bif gm x0 x1 x2 x3 x4 x5 x6 x7 x8 x9 then x1 else x1
def zA:Int:=bif gm x0 x1 x2 x3 x4 x5 x6 x7 x8 x9 then x2 else x2
def zB:Int:=bif gm x0 x1 x2 x3 x4 x5 x6 x7 x8 x9 then x3 else x3
def p8:Bool:=allT [Lp.fin ah (gk x0 x1 x2 x3 x4 x5 x6 x7 x8 x9)]
end
def yD:List SV→List Entry→Option Out
 | [(.one ⟨false,[(.ref 0)]⟩),(.one ⟨false,[(.clo 145 [1])]⟩)],[(.row false 49 (.pair (.int .i64) (.pair (.int .i64) (.pair (.pair (.int .i64) (.int .i64)) (.pair (.int .i64) (.pair (.int .i64) .bool))))) x0),(.box 33 [(.val (.int .i64 x1)),(.ref 2),(.ref 3),(.ref 4),(.ref 5),(.val (.int .i64 x2)),(.ref 6),(.ref 7),(.val (.int .i64 x3))]),(.row false 2 (.int .i64) x4),(.row false 169 (.pair (.int .i64) (.pair (.int .i64) (.int .i64))) x5),(.row false 24 (.sl 2 (.int .i64)) x6),(.row false 100 (.pair (.int .i64) (.pair (.int .i64) (.int .i64))) x7),(.row false 173 (.pair (.int .i64) (.int .i64)) x8),(.row false 176 (.pair (.int .i64) (.int .i64)) x9)]=>some ⟨(.one ⟨false,[(.val (.int .i64 (p7 x0 x1 x2 x3 x4 x5 x6 x7 x8 x9)))]⟩),[(.row false 49 axi x0),(.box 33 [(.val (.int .i64 (zy x0 x1 x2 x3 x4 x5 x6 x7 x8 x9))),(.ref 2),(.ref 3),(.ref 4),(.ref 5),(.val (.int .i64 (zA x0 x1 x2 x3 x4 x5 x6 x7 x8 x9))),(.ref 6),(.ref 7),(.val (.int .i64 (zB x0 x1 x2 x3 x4 x5 x6 x7 x8 x9)))]),(.row false 2 axl x4),(.row false 169 axj x5),(.row false 24 (CTy.sl (2:Nat) axl) x6),(.row false 100 axj x7),(.row false 173 axk x8),(.row false 176 axk x9)],[],[(p8 x0 x1 x2 x3 x4 x5 x6 x7 x8 x9)]⟩
 |_,_=>none
def pY:PF Tryz.prog:=PF.ofG Tryz.prog [nk,PF.lend nk,PF.fz nk] [ah.F] aq 200 Tryz.f200 Tryz.func200 (LOk.fnT (l:= [au Tryz.f200 0]) (by kernel_rfl) (.cons IG (.nil _))) yD (by
 intro vs es r h;unfold yD at h;split at h
 ·cases h;kernel_rfl
 ·cases h)
section
variable (x0:List (Int×Int×(Int×Int)×Int×Int×Bool))(x1 x2 x3:Int)(x4:List Int)(x5:List (Int×Int×Int))(x6:List (List Int))(x7:List (Int×Int×Int))(x8 x9:List (Int×Int))
def iT:Bool:=leI (0:Int) (p7 x0 x1 x2 x3 x4 x5 x6 x7 x8 x9)
def Lb:Int:=zy x0 x1 x2 x3 x4 x5 x6 x7 x8 x9
def Lc:Int:=zA x0 x1 x2 x3 x4 x5 x6 x7 x8 x9
def Ld:Int:=zB x0 x1 x2 x3 x4 x5 x6 x7 x8 x9
def mT:Bool:=allT [p8 x0 x1 x2 x3 x4 x5 x6 x7 x8 x9]
end
def vH:List SV→List Entry→Option Out
 | [(.one ⟨false,[(.ref 0)]⟩),(.one ⟨false,[(.clo 145 [1])]⟩)],[(.row false 49 (.pair (.int .i64) (.pair (.int .i64) (.pair (.pair (.int .i64) (.int .i64)) (.pair (.int .i64) (.pair (.int .i64) .bool))))) x0),(.box 33 [(.val (.int .i64 x1)),(.ref 2),(.ref 3),(.ref 4),(.ref 5),(.val (.int .i64 x2)),(.ref 6),(.ref 7),(.val (.int .i64 x3))]),(.row false 2 (.int .i64) x4),(.row false 169 (.pair (.int .i64) (.pair (.int .i64) (.int .i64))) x5),(.row false 24 (.sl 2 (.int .i64)) x6),(.row false 100 (.pair (.int .i64) (.pair (.int .i64) (.int .i64))) x7),(.row false 173 (.pair (.int .i64) (.int .i64)) x8),(.row false 176 (.pair (.int .i64) (.int .i64)) x9)]=>some ⟨(.one ⟨false,[(.val (.bool (iT x0 x1 x2 x3 x4 x5 x6 x7 x8 x9)))]⟩),[(.row false 49 axi x0),(.box 33 [(.val (.int .i64 (Lb x0 x1 x2 x3 x4 x5 x6 x7 x8 x9))),(.ref 2),(.ref 3),(.ref 4),(.ref 5),(.val (.int .i64 (Lc x0 x1 x2 x3 x4 x5 x6 x7 x8 x9))),(.ref 6),(.ref 7),(.val (.int .i64 (Ld x0 x1 x2 x3 x4 x5 x6 x7 x8 x9)))]),(.row false 2 axl x4),(.row false 169 axj x5),(.row false 24 (CTy.sl (2:Nat) axl) x6),(.row false 100 axj x7),(.row false 173 axk x8),(.row false 176 axk x9)],[],[(mT x0 x1 x2 x3 x4 x5 x6 x7 x8 x9)]⟩
 |_,_=>none
def mP:PF Tryz.prog:=PF.ofG Tryz.prog [pY,PF.lend pY,PF.fz pY] [] aq 144 Tryz.f144 Tryz.func144 (fun c _=>LOk.nil c) vH (by
 intro vs es r h;unfold vH at h;split at h
 ·cases h;kernel_rfl
 ·cases h)
section
variable (x0 x1 x2:Int)(x3:List Int)(x4:List (Int×Int×Int))(x5:List (List Int))(x6:List (Int×Int×Int))(x7 x8:List (Int×Int))(x9:List (Int×Int×(Int×Int)×Int×Int×Bool))
def RQ:Bool:=ltI (200:Int) (↑x9.length:Int)
def xA:Int:=bif !qP x0 x3 x4 x5 x6 x1 x7 x8 x2 then(1:Int)else bif RQ x9 then(3:Int)else bif iT x9 x0 x1 x2 x3 x4 x5 x6 x7 x8 then(2:Int)else(0:Int)
def Cu:Bool:=allT [rb (9223372036854775807:Nat) x3 x4 x5 x6 x7 x8,!qP x0 x3 x4 x5 x6 x1 x7 x8 x2||(RQ x9||mT x9 x0 x1 x2 x3 x4 x5 x6 x7 x8)]
end
def abo:List SV→List Entry→Option Out
 | [.one ⟨true,[.val (.int .i64 x0),.ref 0,.ref 1,.ref 2,.ref 3,.val (.int .i64 x1),.ref 4,.ref 5,.val (.int .i64 x2)]⟩,.one ⟨false,[.ref 6]⟩],[.row false 2 (.int .i64) x3,.row false 169 (.pair (.int .i64) (.pair (.int .i64) (.int .i64))) x4,.row false 24 (.sl 2 (.int .i64)) x5,.row false 100 (.pair (.int .i64) (.pair (.int .i64) (.int .i64))) x6,.row false 173 (.pair (.int .i64) (.int .i64)) x7,.row false 176 (.pair (.int .i64) (.int .i64)) x8,.row false 49 (.pair (.int .i64) (.pair (.int .i64) (.pair (.pair (.int .i64) (.int .i64)) (.pair (.int .i64) (.pair (.int .i64) (.bool)))))) x9]=>some ⟨(.one ⟨false,[(.val (.int .i64 (xA x0 x1 x2 x3 x4 x5 x6 x7 x8 x9)))]⟩),[(.row false 2 axl x3),(.row false 169 axj x4),(.row false 24 (CTy.sl (2:TypeId) axl) x5),(.row false 100 axj x6),(.row false 173 axk x7),(.row false 176 axk x8),(.row false 49 axi x9)],[],[(Cu x0 x1 x2 x3 x4 x5 x6 x7 x8 x9)]⟩
 |_,_=>none
def CG:PF Tryz.prog:=PF.ofG Tryz.prog [aaV,PF.lend aaV,PF.fz aaV,mP,PF.lend mP,PF.fz mP] [] aq 54 Tryz.f54 Tryz.func54 (fun c _=>LOk.nil c) abo (by
 intro vs es r h;unfold abo at h;split at h
 ·cases h;kernel_rfl
 ·cases h)
abbrev aV:=Int×Int×List (List Int)×Int×Int×Int×List Int×List (Int×(Int×Int))×List (List Int)×List (Int×(Int×Int))×List (Int×Int)×List (Int×Int)
section
variable (y0 y1:Int)(y2 y8:List (List Int))
def bd:List Int:=Option.getD y2[Int.toNat y0]? (wu (CTy.sl (2:Nat) axl))
def fG:Bool:=ltI y0 y1
def fH:Bool:=leI (0:Int) y0
def fI:Bool:=ltI y0 (↑y2.length:Int)
def fJ:Bool:=ltN y0.toNat y2.length
def fK:Bool:=leN (1:Nat) (List.length (bd y0 y2))&&leN (List.length (bd y0 y2)) (1048576:Nat)
def fL:Bool:=leN (List.length y8 + List.length [bd y0 y2]) (9223372036854775807:Nat)
def fM:Bool:=leN ((List.length y8 + List.length [bd y0 y2]) * (24:Nat)) (140737488355328:Nat)
def fN:Int:=IntKind.wrap .i64 (y0 + (1:Int))
def fO:List (List Int):=y8++ [bd y0 y2]
end
def KS:aV→List (Nat×SV)
 |(y0,y1,_,_,_,_,_,_,_,_,_,_)=> [(31,(.one ⟨false,[(.val (.int .i64 y0))]⟩)),(30,(.one ⟨false,[(.val (.int .i64 y1))]⟩)),(29,(.one ⟨false,[(.ref 0)]⟩)),(3,(.one ⟨false,[(.ptr 1 0)]⟩))]
def KR:aV→List (Nat×Entry)
 |(_,_,y2,y3,y4,y5,y6,y7,y8,y9,y10,y11)=> [(0,(.row false 24 (CTy.sl (2:Nat) axl) y2)),(1,(.box 33 [(.val (.int .i64 y3)),(.ref 2),(.ref 3),(.ref 4),(.ref 5),(.val (.int .i64 y4)),(.ref 6),(.ref 7),(.val (.int .i64 y5))])),(2,(.row true 2 axl y6)),(3,(.row true 169 axj y7)),(5,(.row true 100 axj y9)),(6,(.row true 173 axk y10)),(7,(.row true 176 axk y11)),(4,(.tree 24 (CTy.sl (2:Nat) axl) y8 none))]
def KU:Nat→aV→List (Nat×SV)
 |_,(_,_,_,_,_,_,_,_,_,_,_,_)=> []
def KT:Nat→aV→List (Nat×Entry)
 |_,(_,_,y2,y3,y4,y5,y6,y7,y8,y9,y10,y11)=> [(0,(.row false 24 (CTy.sl (2:Nat) axl) y2)),(1,(.box 33 [(.val (.int .i64 y3)),(.ref 2),(.ref 3),(.ref 4),(.ref 5),(.val (.int .i64 y4)),(.ref 6),(.ref 7),(.val (.int .i64 y5))])),(2,(.row true 2 axl y6)),(3,(.row true 169 axj y7)),(4,(.tree 24 (CTy.sl (2:Nat) axl) y8 none)),(5,(.row true 100 axj y9)),(6,(.row true 173 axk y10)),(7,(.row true 176 axk y11))]
def fl:aV→LT aV
 |(y0,y1,y2,y3,y4,y5,y6,y7,y8,y9,y10,y11)=> .ite (fG y0 y1) (.need [(fH y0),(fI y0 y2),(fJ y0 y2)] (.need [(fK y0 y2),(fL y0 y2 y8),(fM y0 y2 y8)] (.nrm ((fN y0),y1,y2,y3,y4,y5,y6,y7,(fO y0 y2 y8),y9,y10,y11) [(0,0),(1,1),(2,2),(3,3),(4,640),(5,5),(6,6),(7,7)]))) (.ext 0 [(0,0),(1,1),(2,2),(3,3),(4,4),(5,5),(6,6),(7,7)])
def mS(s:St):Option aV:=
 (match s.look 31 with
 |some ⟨none,(.one ⟨false,[(.val (.int .i64 y0))]⟩)⟩=>
 (match s.look 30 with
 |some ⟨none,(.one ⟨false,[(.val (.int .i64 y1))]⟩)⟩=>
 (match s.look 29 with
 |some ⟨none,(.one ⟨false,[(.ref 2)]⟩)⟩=>
 (match s.look 3 with
 |some ⟨none,(.one ⟨false,[(.ptr 640 0)]⟩)⟩=>
 (match s.ent 2 with
 |some (.row false 24 (.sl 2 (.int .i64)) y2)=>
 (match s.ent 640 with
 |some (.box 33 [(.val (.int .i64 y3)),(.ref 896),(.ref 1216),(.ref 2432),(.ref 1408),(.val (.int .i64 y4)),(.ref 1856),(.ref 2048),(.val (.int .i64 y5))])=>
 (match s.ent 896 with
 |some (.row true 2 (.int .i64) y6)=>
 (match s.ent 1216 with
 |some (.row true 169 (.pair (.int .i64) (.pair (.int .i64) (.int .i64))) y7)=>
 (match s.ent 1408 with
 |some (.row true 100 (.pair (.int .i64) (.pair (.int .i64) (.int .i64))) y9)=>
 (match s.ent 1856 with
 |some (.row true 173 (.pair (.int .i64) (.int .i64)) y10)=>
 (match s.ent 2048 with
 |some (.row true 176 (.pair (.int .i64) (.int .i64)) y11)=>
 (match s.ent 2432 with
 |some (.tree 24 (.sl 2 (.int .i64)) y8 none)=>
 some (y0,y1,y2,y3,y4,y5,y6,y7,y8,y9,y10,y11)
 |_=>none)
 |_=>none)
 |_=>none)
 |_=>none)
 |_=>none)
 |_=>none)
 |_=>none)
 |_=>none)
 |_=>none)
 |_=>none)
 |_=>none)
 |_=>none)
def ax:Lp aV where
 h:=⟨[32,33,34,5,35,36,37,38,39,40,41,42,31],[0,1,2,3,5,6,7],[4],[]⟩
 JL:=KS
 JE:=KR
 XL:=KU
 XE:=KT
 q:=fun j=>match j with | _=> .exit 0
 tags:= [0]
 lt:=fl
 fuel:=fun(y0,y1,y2,y3,y4,y5,y6,y7,y8,y9,y10,y11)=>y0.natAbs + y1.natAbs + y2.length + y3.natAbs + y4.natAbs + y5.natAbs + y6.length + y7.length + y8.length + y9.length + y10.length + y11.length
 fix:=fun(_,y1,y2,y3,y4,y5,y6,y7,_,y9,y10,y11) (y0,_,_,_,_,_,_,_,y8,_,_,_)=>(y0,y1,y2,y3,y4,y5,y6,y7,y8,y9,y10,y11)
 σ:= [(0,2),(1,640),(2,896),(3,1216),(5,1408),(6,1856),(7,2048),(4,2432)]
 rd:=mS
theorem Kc:LoopOk Tryz.prog (fun k=>Nat.blt k Tryz.f55.ntmps) ax.F (au Tryz.f55 0):=by
 refine Lp.ok (tbl:= [PF.trees Tryz.prog,bg,PF.lend bg,PF.fz bg,ir,PF.lend ir,PF.fz ir,jl,PF.lend jl,PF.fz jl,nj,PF.lend nj,PF.fz nj,ni,PF.lend ni,PF.fz ni,ai,PF.lend ai,PF.fz ai]) (lf:= []) aq ax (by kernel_rfl) (LOk.nil _) (fun _=>rfl) (fun _ _=>rfl) ?_ ?_ ?_ ?_ (fun _=>rfl) ?_
 ·rintro⟨y0,y1,y2,y3,y4,y5,y6,y7,y8,y9,y10,y11⟩;kernel_rfl
 ·rintro⟨y0,y1,y2,y3,y4,y5,y6,y7,y8,y9,y10,y11⟩;kernel_rfl
 ·intro s x h
  have h:mS s=some x:=h
  unfold mS at h
  repeat' split at h
  all_goals cases h
  exact⟨aa (by assumption) rfl (aa (by assumption) rfl (aa (by assumption) rfl (aa (by assumption) rfl (rfl)))),ab rfl (by assumption) rfl (ab rfl (by assumption) rfl (ab rfl (by assumption) rfl (ab rfl (by assumption) rfl (ab rfl (by assumption) rfl (ab rfl (by assumption) rfl (ab rfl (by assumption) rfl (ab rfl (by assumption) rfl (rfl))))))))⟩
 ·rintro⟨y0,y1,y2,y3,y4,y5,y6,y7,y8,y9,y10,y11⟩;kernel_rfl
 ·rintro⟨y0,y1,y2,y3,y4,y5,y6,y7,y8,y9,y10,y11⟩ z;exact(And.intro rfl trivial)
section
variable (x0 x1 x2:Int)(x3:List Int)(x4:List (Int×Int×Int))(x5:List (List Int))(x6:List (Int×Int×Int))(x7 x8:List (Int×Int))
def jV:Int×Int×List (List Int)×Int×Int×Int×List Int×List (Int×Int×Int)×List (List Int)×List (Int×Int×Int)×List (Int×Int)×List (Int×Int):=((0:Int),(↑x5.length:Int),x5,x0,x1,x2,x3,x4,[],x6,x7,x8)
def kB:List (List Int):=((Lp.res ax (jV x0 x1 x2 x3 x4 x5 x6 x7 x8)).2.2.2.2.2.2.2.2.2).1
def kC:Bool:=allT [fP x3,leN x4.length (1048576:Nat),leN x6.length (1048576:Nat),leN x7.length (1048576:Nat),leN x8.length (1048576:Nat),Lp.fin ax (jV x0 x1 x2 x3 x4 x5 x6 x7 x8)]
end
def Aa:List SV→List Entry→Option Out
 | [.one ⟨true,[.val (.int .i64 x0),.ref 0,.ref 1,.ref 2,.ref 3,.val (.int .i64 x1),.ref 4,.ref 5,.val (.int .i64 x2)]⟩],[.row false 2 (.int .i64) x3,.row false 169 (.pair (.int .i64) (.pair (.int .i64) (.int .i64))) x4,.row false 24 (.sl 2 (.int .i64)) x5,.row false 100 (.pair (.int .i64) (.pair (.int .i64) (.int .i64))) x6,.row false 173 (.pair (.int .i64) (.int .i64)) x7,.row false 176 (.pair (.int .i64) (.int .i64)) x8]=>some ⟨(.one ⟨true,[(.val (.int .i64 x0)),(.ref 6),(.ref 7),(.ref 8),(.ref 9),(.val (.int .i64 x1)),(.ref 10),(.ref 11),(.val (.int .i64 x2))]⟩),[(.row false 2 axl x3),(.row false 169 axj x4),(.row false 24 (CTy.sl (2:TypeId) axl) x5),(.row false 100 axj x6),(.row false 173 axk x7),(.row false 176 axk x8)],[(.row true 2 axl x3),(.row true 169 axj x4),(.tree 24 (CTy.sl (2:Nat) axl) (kB x0 x1 x2 x3 x4 x5 x6 x7 x8) none),(.row true 100 axj x6),(.row true 173 axk x7),(.row true 176 axk x8)],[(kC x0 x1 x2 x3 x4 x5 x6 x7 x8)]⟩
 |_,_=>none
def et:PF Tryz.prog:=PF.ofG Tryz.prog [PF.trees Tryz.prog,bg,PF.lend bg,PF.fz bg,ir,PF.lend ir,PF.fz ir,jl,PF.lend jl,PF.fz jl,nj,PF.lend nj,PF.fz nj,ni,PF.lend ni,PF.fz ni,ai,PF.lend ai,PF.fz ai] [ax.F] aq 55 Tryz.f55 Tryz.func55 (LOk.fnT (l:= [au Tryz.f55 0]) (by kernel_rfl) (.cons Kc (.nil _))) Aa (by
 intro vs es r h;unfold Aa at h;split at h
 ·cases h;kernel_rfl
 ·cases h)
def ad(x3:Int)(x4:List Int):Bool:=Int.tmod (Option.getD x4[Int.toNat x3]? (0:Int)) (3:Int)==(1:Int)
def oI(x3:Int)(x4:List Int):Bool:=allT [leI (0:Int) x3,ltI x3 (↑x4.length:Int),ltN x3.toNat x4.length]
def xX:List SV→List Entry→Option Out
 | [.one ⟨true,[.val (.int .i64 _x0),.ref 0,.ref 1,.ref 2,.ref 3,.val (.int .i64 _x1),.ref 4,.ref 5,.val (.int .i64 _x2)]⟩,.one ⟨false,[.val (.int .i64 x3)]⟩],[.row false 2 (.int .i64) x4,.row false 169 (.pair (.int .i64) (.pair (.int .i64) (.int .i64))) x5,.row false 24 (.sl 2 (.int .i64)) x6,.row false 100 (.pair (.int .i64) (.pair (.int .i64) (.int .i64))) x7,.row false 173 (.pair (.int .i64) (.int .i64)) x8,.row false 176 (.pair (.int .i64) (.int .i64)) x9]=>some ⟨(.one ⟨false,[(.val (.bool (ad x3 x4)))]⟩),[(.row false 2 axl x4),(.row false 169 axj x5),(.row false 24 (CTy.sl (2:TypeId) axl) x6),(.row false 100 axj x7),(.row false 173 axk x8),(.row false 176 axk x9)],[],[(oI x3 x4)]⟩
 |_,_=>none
def oO:PF Tryz.prog:=PF.ofG Tryz.prog [] [] aq 201 Tryz.f201 Tryz.func201 (fun c _=>LOk.nil c) xX (by
 intro vs es r h;unfold xX at h;split at h
 ·cases h;kernel_rfl
 ·cases h)
section
variable (x0 x1 x2 x3:Int)(x4:List Int)(x5:List (Int×Int×Int))(x6:List (List Int))(x7:List (Int×Int×Int))(x8 x9:List (Int×Int))
def ak:Bool:= !aje x1 x4 (HO x1 x4 x5 (0:Int)) (HO x1 x4 x5 (1:Int)) x0
def gN:List Int:=bif ac x1 x0 x4&&true then Option.getD x6[Int.toNat x0]? (wu (CTy.sl (2:TypeId) axl))else []
def aF:Bool:=bif ac x1 x0 x4 then !aa7 (gN x0 x1 x4 x6) x7 else false
def qO:List (Int×Int×Int):=bif ac x1 x0 x4&&true then x7 else x7
def kS:Int:=bif !ad x0 x4 then(0:Int)else bif x2 !=(3:Int)then(1:Int)else bif ak x0 x1 x4 x5 then(2:Int)else bif aF x0 x1 x4 x6 x7 then(3:Int)else(0:Int)
def rj:Int:=bif !ad x0 x4 then x1 else bif x2 !=(3:Int)then x1 else bif ak x0 x1 x4 x5 then x1 else bif aF x0 x1 x4 x6 x7 then x1 else x1
def rl:Int:=bif !ad x0 x4 then x2 else bif x2 !=(3:Int)then x2 else bif ak x0 x1 x4 x5 then x2 else bif aF x0 x1 x4 x6 x7 then x2 else x2
def rm:Int:=bif !ad x0 x4 then x3 else bif x2 !=(3:Int)then x3 else bif ak x0 x1 x4 x5 then x3 else bif aF x0 x1 x4 x6 x7 then x3 else x3
def rn:List Int:=bif !ad x0 x4 then amu x1 x4 x0 else bif x2 !=(3:Int)then x4 else bif ak x0 x1 x4 x5 then x4 else bif aF x0 x1 x4 x6 x7 then x4 else amu x1 x4 x0
def ro:List (Int×(Int×Int)):=bif !ad x0 x4 then x5 else bif x2 !=(3:Int)then x5 else bif ak x0 x1 x4 x5 then x5 else bif aF x0 x1 x4 x6 x7 then x5 else x5
def rp:List (Int×(Int×Int)):=bif !ad x0 x4 then x7 else bif x2 !=(3:Int)then x7 else bif ak x0 x1 x4 x5 then x7 else bif aF x0 x1 x4 x6 x7 then qO x0 x1 x4 x7 else qO x0 x1 x4 x7
def rq:List (Int×Int):=bif !ad x0 x4 then x8 else bif x2 !=(3:Int)then x8 else bif ak x0 x1 x4 x5 then x8 else bif aF x0 x1 x4 x6 x7 then x8 else x8
def rr:List (Int×Int):=bif !ad x0 x4 then x9 else bif x2 !=(3:Int)then x9 else bif ak x0 x1 x4 x5 then x9 else bif aF x0 x1 x4 x6 x7 then x9 else x9
def kT:Bool:=allT [oI x0 x4,!ad x0 x4||(x2 !=(3:Int)||isT x1 x4&&amk x1 x5),!ad x0 x4||(x2 !=(3:Int)||aa6 x1 x4 (HO x1 x4 x5 (0:Int)) (HO x1 x4 x5 (1:Int)) x0),!ad x0 x4||(x2 !=(3:Int)||(ak x0 x1 x4 x5||bF x0 x4)),!ad x0 x4||(x2 !=(3:Int)||(ak x0 x1 x4 x5||(!(ac x1 x0 x4&&true)||leI (0:Int) x0))),!ad x0 x4||(x2 !=(3:Int)||(ak x0 x1 x4 x5||(!(ac x1 x0 x4&&true)||ltI x0 (↑x6.length:Int)))),!ad x0 x4||(x2 !=(3:Int)||(ak x0 x1 x4 x5||(!(ac x1 x0 x4&&true)||ltN x0.toNat x6.length))),!ad x0 x4||(x2 !=(3:Int)||(ak x0 x1 x4 x5||(!(ac x1 x0 x4&&true)||alG (gN x0 x1 x4 x6) x7))),!!ad x0 x4||acz x1 x4 x0,!ad x0 x4||(x2 !=(3:Int)||(ak x0 x1 x4 x5||(aF x0 x1 x4 x6 x7||acz x1 x4 x0)))]
end
def AU:List SV→List Entry→Option Out
 | [.one ⟨false,[.ptr 0 0]⟩,.one ⟨false,[.val (.int .i64 x0)]⟩],[.box 33 [.val (.int .i64 x1),.ref 1,.ref 2,.ref 3,.ref 4,.val (.int .i64 x2),.ref 5,.ref 6,.val (.int .i64 x3)],.row true 2 (.int .i64) x4,.row true 169 (.pair (.int .i64) (.pair (.int .i64) (.int .i64))) x5,.row false 24 (.sl 2 (.int .i64)) x6,.row true 100 (.pair (.int .i64) (.pair (.int .i64) (.int .i64))) x7,.row true 173 (.pair (.int .i64) (.int .i64)) x8,.row true 176 (.pair (.int .i64) (.int .i64)) x9]=>some ⟨(.one ⟨false,[(.val (.int .i64 (kS x0 x1 x2 x4 x5 x6 x7)))]⟩),[(.box 33 [(.val (.int .i64 (rj x0 x1 x2 x4 x5 x6 x7))),(.ref 7),(.ref 8),(.ref 3),(.ref 9),(.val (.int .i64 (rl x0 x1 x2 x4 x5 x6 x7))),(.ref 10),(.ref 11),(.val (.int .i64 (rm x0 x1 x2 x3 x4 x5 x6 x7)))]),.gone,.gone,(.row false 24 (CTy.sl (2:TypeId) axl) x6),.gone,.gone,.gone],[(.row true 2 axl (rn x0 x1 x2 x4 x5 x6 x7)),(.row true 169 axj (ro x0 x1 x2 x4 x5 x6 x7)),(.row true 100 axj (rp x0 x1 x2 x4 x5 x6 x7)),(.row true 173 axk (rq x0 x1 x2 x4 x5 x6 x7 x8)),(.row true 176 axk (rr x0 x1 x2 x4 x5 x6 x7 x9))],[(kT x0 x1 x2 x4 x5 x6 x7)]⟩
 |_,_=>none
def BU:PF Tryz.prog:=PF.ofGK Tryz.prog [Yj,PF.lend Yj,PF.fz Yj,oO,PF.lend oO,PF.fz oO,Wg,PF.lend Wg,PF.fz Wg,mN,PF.lend mN,PF.fz mN,nT,PF.lend nT,PF.fz nT,cD,PF.lend cD,PF.fz cD] [] aq 152 Tryz.f152 Tryz.func152 (fun c _=>LOk.nil c) AU (by
 intro vs es r h;unfold AU at h;split at h
 ·cases h;kernel_rfl
 ·cases h)
section
variable (x0 x1 x2 x3 x4 x5:Int)(x6:List Int)(x7:List (Int×Int×Int))(x8:List (List Int))(x9:List (Int×Int×Int))(x10 x11:List (Int×Int))
def al:List Int:=Option.getD x8[Int.toNat x0]? (wu (CTy.sl (2:TypeId) axl))
def mL:List (List Int):=List.set x8 x0.toNat (bif kK (al x0 x8) x1 x2 then Tg (al x0 x8) x1 x2 else al x0 x8)
def nJ:Int:=bif !ac x3 x0 x6 then(4:Int)else bif !kK (al x0 x8) x1 x2 then(5:Int)else(0:Int)
def nK:Int:=bif !ac x3 x0 x6 then x3 else bif !kK (al x0 x8) x1 x2 then x3 else x3
def nL:Int:=bif !ac x3 x0 x6 then x4 else bif !kK (al x0 x8) x1 x2 then x4 else x4
def nM:Int:=bif !ac x3 x0 x6 then x5 else bif !kK (al x0 x8) x1 x2 then x5 else x5
def nN:List Int:=bif !ac x3 x0 x6 then x6 else bif !kK (al x0 x8) x1 x2 then x6 else x6
def nO:List (Int×(Int×Int)):=bif !ac x3 x0 x6 then x7 else bif !kK (al x0 x8) x1 x2 then x7 else x7
def nP:List (List Int):=bif !ac x3 x0 x6 then x8 else bif !kK (al x0 x8) x1 x2 then mL x0 x1 x2 x8 else mL x0 x1 x2 x8
def nQ:List (Int×(Int×Int)):=bif !ac x3 x0 x6 then x9 else bif !kK (al x0 x8) x1 x2 then x9 else x9
def nR:List (Int×Int):=bif !ac x3 x0 x6 then x10 else bif !kK (al x0 x8) x1 x2 then x10 else x10
def nS:List (Int×Int):=bif !ac x3 x0 x6 then x11 else bif !kK (al x0 x8) x1 x2 then x11 else x11
def mK:Bool:=allT [bF x0 x6,!ac x3 x0 x6||leI (0:Int) x0,!ac x3 x0 x6||ltI x0 (↑x8.length:Int),!ac x3 x0 x6||ltN x0.toNat x8.length,!ac x3 x0 x6||alK (al x0 x8) x1 x2]
end
def wn:List SV→List Entry→Option Out
 | [.one ⟨false,[.ptr 0 0]⟩,.one ⟨false,[.val (.int .i64 x0)]⟩,.one ⟨true,[.val (.int .i64 x1),.val (.int .i64 x2)]⟩],[.box 33 [.val (.int .i64 x3),.ref 1,.ref 2,.ref 3,.ref 4,.val (.int .i64 x4),.ref 5,.ref 6,.val (.int .i64 x5)],.row true 2 (.int .i64) x6,.row true 169 (.pair (.int .i64) (.pair (.int .i64) (.int .i64))) x7,.tree 24 (.sl 2 (.int .i64)) x8 none,.row true 100 (.pair (.int .i64) (.pair (.int .i64) (.int .i64))) x9,.row true 173 (.pair (.int .i64) (.int .i64)) x10,.row true 176 (.pair (.int .i64) (.int .i64)) x11]=>some ⟨(.one ⟨false,[(.val (.int .i64 (nJ x0 x1 x2 x3 x6 x8)))]⟩),[(.box 33 [(.val (.int .i64 (nK x0 x1 x2 x3 x6 x8))),(.ref 1),(.ref 2),(.ref 3),(.ref 4),(.val (.int .i64 (nL x0 x1 x2 x3 x4 x6 x8))),(.ref 5),(.ref 6),(.val (.int .i64 (nM x0 x1 x2 x3 x5 x6 x8)))]),(.row true 2 axl (nN x0 x1 x2 x3 x6 x8)),(.row true 169 axj (nO x0 x1 x2 x3 x6 x7 x8)),(.tree 24 (CTy.sl (2:TypeId) axl) (nP x0 x1 x2 x3 x6 x8) none),(.row true 100 axj (nQ x0 x1 x2 x3 x6 x8 x9)),(.row true 173 axk (nR x0 x1 x2 x3 x6 x8 x10)),(.row true 176 axk (nS x0 x1 x2 x3 x6 x8 x11))],[],[(mK x0 x1 x2 x3 x6 x8)]⟩
 |_,_=>none
def nV:PF Tryz.prog:=PF.ofG Tryz.prog [PF.trees Tryz.prog,LD,PF.lend LD,PF.fz LD,cD,PF.lend cD,PF.fz cD] [] aq 153 Tryz.f153 Tryz.func153 (fun c _=>LOk.nil c) wn (by
 intro vs es r h;unfold wn at h;split at h
 ·cases h;kernel_rfl
 ·cases h)
section
variable (x0 x1:Int)(x2:Bool)(x3 x4 x5:Int)(x6:List Int)(x7:List (Int×Int×Int))(x8:List (List Int))(x9:List (Int×Int×Int))(x10 x11:List (Int×Int))
def aB:Bool:=vdC x4 x0 x1 x2 !=(0:Int)
def aE:Bool:=bif x0==(1:Int)then !ams x10 x11 x5 else false
def dm:Bool:=x0==(1:Int)&&true
def oy:Int:=bif aB x0 x1 x2 x4 then(6:Int)else bif aE x0 x5 x10 x11 then(7:Int)else(0:Int)
def oz:Int:=bif aB x0 x1 x2 x4 then x3 else bif aE x0 x5 x10 x11 then x3 else x3
def oA:Int:=bif aB x0 x1 x2 x4 then x4 else bif aE x0 x5 x10 x11 then x4 else nxC x4 x0 x1 x2
def oB:Int:=bif aB x0 x1 x2 x4 then x5 else bif aE x0 x5 x10 x11 then x5 else x5
def oC:List Int:=bif aB x0 x1 x2 x4 then x6 else bif aE x0 x5 x10 x11 then x6 else x6
def oD:List (Int×(Int×Int)):=bif aB x0 x1 x2 x4 then x7 else bif aE x0 x5 x10 x11 then x7 else x7
def oE:List (List Int):=bif aB x0 x1 x2 x4 then x8 else bif aE x0 x5 x10 x11 then x8 else x8
def oF:List (Int×(Int×Int)):=bif aB x0 x1 x2 x4 then x9 else bif aE x0 x5 x10 x11 then x9 else x9
def oG:List (Int×Int):=bif aB x0 x1 x2 x4 then x10 else bif aE x0 x5 x10 x11 then bif dm x0 then x10 else x10 else bif dm x0 then x10 else x10
def oH:List (Int×Int):=bif aB x0 x1 x2 x4 then x11 else bif aE x0 x5 x10 x11 then bif dm x0 then x11 else x11 else bif dm x0 then x11 else x11
def nI:Bool:=allT [ae7 x4 x0,aB x0 x1 x2 x4||(!dm x0||leN x10.length (9223372036854775807:Nat)&&leN x11.length (9223372036854775807:Nat)),aB x0 x1 x2 x4||(aE x0 x5 x10 x11||ae7 x4 x0)]
end
def xW:List SV→List Entry→Option Out
 | [.one ⟨false,[.ptr 0 0]⟩,.one ⟨true,[.val (.int .i64 x0),.val (.int .i64 x1),.val (.bool x2)]⟩],[.box 33 [.val (.int .i64 x3),.ref 1,.ref 2,.ref 3,.ref 4,.val (.int .i64 x4),.ref 5,.ref 6,.val (.int .i64 x5)],.row true 2 (.int .i64) x6,.row true 169 (.pair (.int .i64) (.pair (.int .i64) (.int .i64))) x7,.tree 24 (.sl 2 (.int .i64)) x8 none,.row true 100 (.pair (.int .i64) (.pair (.int .i64) (.int .i64))) x9,.row true 173 (.pair (.int .i64) (.int .i64)) x10,.row true 176 (.pair (.int .i64) (.int .i64)) x11]=>some ⟨(.one ⟨false,[(.val (.int .i64 (oy x0 x1 x2 x4 x5 x10 x11)))]⟩),[(.box 33 [(.val (.int .i64 (oz x0 x1 x2 x3 x4 x5 x10 x11))),(.ref 1),(.ref 2),(.ref 3),(.ref 4),(.val (.int .i64 (oA x0 x1 x2 x4 x5 x10 x11))),(.ref 5),(.ref 6),(.val (.int .i64 (oB x0 x1 x2 x4 x5 x10 x11)))]),(.row true 2 axl (oC x0 x1 x2 x4 x5 x6 x10 x11)),(.row true 169 axj (oD x0 x1 x2 x4 x5 x7 x10 x11)),(.tree 24 (CTy.sl (2:TypeId) axl) (oE x0 x1 x2 x4 x5 x8 x10 x11) none),(.row true 100 axj (oF x0 x1 x2 x4 x5 x9 x10 x11)),(.row true 173 axk (oG x0 x1 x2 x4 x5 x10 x11)),(.row true 176 axk (oH x0 x1 x2 x4 x5 x10 x11))],[],[(nI x0 x1 x2 x4 x5 x10 x11)]⟩
 |_,_=>none
def oN:PF Tryz.prog:=PF.ofG Tryz.prog [PF.trees Tryz.prog,KC,Sk,PF.lend Sk,PF.fz Sk,Mr] [] aq 154 Tryz.f154 Tryz.func154 (fun c _=>LOk.nil c) xW (by
 intro vs es r h;unfold xW at h;split at h
 ·cases h;kernel_rfl
 ·cases h)
section
variable (x0 x1 x2 x3 x4 x5:Int)(x6:Bool)(x7 x8 x9:Int)(x10:List Int)(x11:List (Int×Int×Int))(x12:List (List Int))(x13:List (Int×Int×Int))(x14 x15:List (Int×Int))
def cZ:Int:=bif x0==(0:Int)then kS x1 x7 x8 x10 x11 x12 x13 else bif x0==(1:Int)then nJ x1 x2 x3 x7 x10 x12 else oy x4 x5 x6 x8 x9 x14 x15
def c8:Int:=bif x0==(0:Int)then rj x1 x7 x8 x10 x11 x12 x13 else bif x0==(1:Int)then nK x1 x2 x3 x7 x10 x12 else oz x4 x5 x6 x7 x8 x9 x14 x15
def c9:Int:=bif x0==(0:Int)then rl x1 x7 x8 x10 x11 x12 x13 else bif x0==(1:Int)then nL x1 x2 x3 x7 x8 x10 x12 else oA x4 x5 x6 x8 x9 x14 x15
def da:Int:=bif x0==(0:Int)then rm x1 x7 x8 x9 x10 x11 x12 x13 else bif x0==(1:Int)then nM x1 x2 x3 x7 x9 x10 x12 else oB x4 x5 x6 x8 x9 x14 x15
def db:List Int:=bif x0==(0:Int)then rn x1 x7 x8 x10 x11 x12 x13 else bif x0==(1:Int)then nN x1 x2 x3 x7 x10 x12 else oC x4 x5 x6 x8 x9 x10 x14 x15
def dc:List (Int×(Int×Int)):=bif x0==(0:Int)then ro x1 x7 x8 x10 x11 x12 x13 else bif x0==(1:Int)then nO x1 x2 x3 x7 x10 x11 x12 else oD x4 x5 x6 x8 x9 x11 x14 x15
def dd:List (List Int):=bif x0==(0:Int)then x12 else bif x0==(1:Int)then nP x1 x2 x3 x7 x10 x12 else oE x4 x5 x6 x8 x9 x12 x14 x15
def de:List (Int×(Int×Int)):=bif x0==(0:Int)then rp x1 x7 x8 x10 x11 x12 x13 else bif x0==(1:Int)then nQ x1 x2 x3 x7 x10 x12 x13 else oF x4 x5 x6 x8 x9 x13 x14 x15
def df:List (Int×Int):=bif x0==(0:Int)then rq x1 x7 x8 x10 x11 x12 x13 x14 else bif x0==(1:Int)then nR x1 x2 x3 x7 x10 x12 x14 else oG x4 x5 x6 x8 x9 x14 x15
def dg:List (Int×Int):=bif x0==(0:Int)then rr x1 x7 x8 x10 x11 x12 x13 x15 else bif x0==(1:Int)then nS x1 x2 x3 x7 x10 x12 x15 else oH x4 x5 x6 x8 x9 x14 x15
def eq:Bool:=allT [!x0==(0:Int)||kT x1 x7 x8 x10 x11 x12 x13,x0==(0:Int)||(!x0==(1:Int)||mK x1 x2 x3 x7 x10 x12),x0==(0:Int)||(x0==(1:Int)||nI x4 x5 x6 x8 x9 x14 x15)]
end
def AV:List SV→List Entry→Option Out
 | [.one ⟨false,[.ptr 0 0]⟩,.one ⟨true,[.val (.int .i64 x0),.val (.int .i64 x1),.val (.int .i64 x2),.val (.int .i64 x3),.val (.int .i64 x4),.val (.int .i64 x5),.val (.bool x6)]⟩],[.box 33 [.val (.int .i64 x7),.ref 1,.ref 2,.ref 3,.ref 4,.val (.int .i64 x8),.ref 5,.ref 6,.val (.int .i64 x9)],.row true 2 (.int .i64) x10,.row true 169 (.pair (.int .i64) (.pair (.int .i64) (.int .i64))) x11,.tree 24 (.sl 2 (.int .i64)) x12 none,.row true 100 (.pair (.int .i64) (.pair (.int .i64) (.int .i64))) x13,.row true 173 (.pair (.int .i64) (.int .i64)) x14,.row true 176 (.pair (.int .i64) (.int .i64)) x15]=>some ⟨(.one ⟨false,[(.val (.int .i64 (cZ x0 x1 x2 x3 x4 x5 x6 x7 x8 x9 x10 x11 x12 x13 x14 x15)))]⟩),[(.box 33 [(.val (.int .i64 (c8 x0 x1 x2 x3 x4 x5 x6 x7 x8 x9 x10 x11 x12 x13 x14 x15))),(.ref 7),(.ref 8),(.ref 9),(.ref 10),(.val (.int .i64 (c9 x0 x1 x2 x3 x4 x5 x6 x7 x8 x9 x10 x11 x12 x13 x14 x15))),(.ref 11),(.ref 12),(.val (.int .i64 (da x0 x1 x2 x3 x4 x5 x6 x7 x8 x9 x10 x11 x12 x13 x14 x15)))]),.gone,.gone,.gone,.gone,.gone,.gone],[(.row true 2 axl (db x0 x1 x2 x3 x4 x5 x6 x7 x8 x9 x10 x11 x12 x13 x14 x15)),(.row true 169 axj (dc x0 x1 x2 x3 x4 x5 x6 x7 x8 x9 x10 x11 x12 x13 x14 x15)),(.tree 24 (CTy.sl (2:TypeId) axl) (dd x0 x1 x2 x3 x4 x5 x6 x7 x8 x9 x10 x12 x14 x15) none),(.row true 100 axj (de x0 x1 x2 x3 x4 x5 x6 x7 x8 x9 x10 x11 x12 x13 x14 x15)),(.row true 173 axk (df x0 x1 x2 x3 x4 x5 x6 x7 x8 x9 x10 x11 x12 x13 x14 x15)),(.row true 176 axk (dg x0 x1 x2 x3 x4 x5 x6 x7 x8 x9 x10 x11 x12 x13 x14 x15))],[(eq x0 x1 x2 x3 x4 x5 x6 x7 x8 x9 x10 x11 x12 x13 x14 x15)]⟩
 |_,_=>none
def fj:PF Tryz.prog:=PF.ofG Tryz.prog [PF.trees Tryz.prog,BU,PF.lendT BU,nV,PF.lend nV,PF.fz nV,oN,PF.lend oN,PF.fz oN] [] aq 56 Tryz.f56 Tryz.func56 (fun c _=>LOk.nil c) AV (by
 intro vs es r h;unfold AV at h;split at h
 ·cases h;kernel_rfl
 ·cases h)
abbrev lC:=Int×Int×List (Int×(Int×((Int×Int)×(Int×(Int×Bool)))))×List Int×Int×Int×Int×List Int×List (Int×(Int×Int))×List (List Int)×List (Int×(Int×Int))×List (Int×Int)×List (Int×Int)
def xu(y0:Int)(y2:List (Int×(Int×((Int×Int)×(Int×(Int×Bool)))))):Int×Int×(Int×Int)×Int×Int×Bool:=Option.getD y2[Int.toNat y0]? ((0:Int),(0:Int),((0:Int),(0:Int)),(0:Int),(0:Int),false)
def dI(y0:Int)(y2:List (Int×(Int×((Int×Int)×(Int×(Int×Bool)))))):Int:=(xu y0 y2).1
def xw(y0:Int)(y2:List (Int×(Int×((Int×Int)×(Int×(Int×Bool)))))):Int×(Int×Int)×Int×Int×Bool:=(xu y0 y2).2
def dJ(y0:Int)(y2:List (Int×(Int×((Int×Int)×(Int×(Int×Bool)))))):Int:=(xw y0 y2).1
def pI(y0:Int)(y2:List (Int×(Int×((Int×Int)×(Int×(Int×Bool)))))):(Int×Int)×Int×Int×Bool:=(xw y0 y2).2
def dK(y0:Int)(y2:List (Int×(Int×((Int×Int)×(Int×(Int×Bool)))))):Int:=(pI y0 y2).1.1
def dL(y0:Int)(y2:List (Int×(Int×((Int×Int)×(Int×(Int×Bool)))))):Int:=(pI y0 y2).1.2
def dM(y0:Int)(y2:List (Int×(Int×((Int×Int)×(Int×(Int×Bool)))))):Int:=((pI y0 y2).2).1
def aS(y0:Int)(y2:List (Int×(Int×((Int×Int)×(Int×(Int×Bool)))))):Int×Bool:=(pI y0 y2).2.2
def tc(y0:Int)(y2:List (Int×(Int×((Int×Int)×(Int×(Int×Bool))))))(y4 y5 y6:Int)(y7:List Int)(y8:List (Int×(Int×Int)))(y9:List (List Int))(y10:List (Int×(Int×Int)))(y11 y12:List (Int×Int)):List Int:= [cZ (dI y0 y2) (dJ y0 y2) (dK y0 y2) (dL y0 y2) (dM y0 y2) ((aS y0 y2).1) ((aS y0 y2).2) y4 y5 y6 y7 y8 y9 y10 y11 y12]
def Fu(y0 y1:Int):Bool:=ltI y0 y1
def Fv(y0:Int):Bool:=leI (0:Int) y0
def Fw(y0:Int)(y2:List (Int×(Int×((Int×Int)×(Int×(Int×Bool)))))):Bool:=ltI y0 (↑y2.length:Int)
def Fx(y0:Int)(y2:List (Int×(Int×((Int×Int)×(Int×(Int×Bool)))))):Bool:=ltN y0.toNat y2.length
def Fy(y0:Int)(y2:List (Int×(Int×((Int×Int)×(Int×(Int×Bool))))))(y4 y5 y6:Int)(y7:List Int)(y8:List (Int×(Int×Int)))(y9:List (List Int))(y10:List (Int×(Int×Int)))(y11 y12:List (Int×Int)):Bool:=eq (dI y0 y2) (dJ y0 y2) (dK y0 y2) (dL y0 y2) (dM y0 y2) ((aS y0 y2).1) ((aS y0 y2).2) y4 y5 y6 y7 y8 y9 y10 y11 y12
def Fz(y0:Int)(y2:List (Int×(Int×((Int×Int)×(Int×(Int×Bool))))))(y3:List Int)(y4 y5 y6:Int)(y7:List Int)(y8:List (Int×(Int×Int)))(y9:List (List Int))(y10:List (Int×(Int×Int)))(y11 y12:List (Int×Int)):Bool:=leN (List.length y3 + List.length (tc y0 y2 y4 y5 y6 y7 y8 y9 y10 y11 y12)) (9223372036854775807:Nat)
def FA(y0:Int)(y2:List (Int×(Int×((Int×Int)×(Int×(Int×Bool))))))(y3:List Int)(y4 y5 y6:Int)(y7:List Int)(y8:List (Int×(Int×Int)))(y9:List (List Int))(y10:List (Int×(Int×Int)))(y11 y12:List (Int×Int)):Bool:=leN ((List.length y3 + List.length (tc y0 y2 y4 y5 y6 y7 y8 y9 y10 y11 y12)) * (8:Nat)) (140737488355328:Nat)
def FB(y0:Int):Int:=IntKind.wrap .i64 (y0 + (1:Int))
def FC(y0:Int)(y2:List (Int×(Int×((Int×Int)×(Int×(Int×Bool))))))(y3:List Int)(y4 y5 y6:Int)(y7:List Int)(y8:List (Int×(Int×Int)))(y9:List (List Int))(y10:List (Int×(Int×Int)))(y11 y12:List (Int×Int)):List Int:=y3++tc y0 y2 y4 y5 y6 y7 y8 y9 y10 y11 y12
def FD(y0:Int)(y2:List (Int×(Int×((Int×Int)×(Int×(Int×Bool))))))(y4 y5 y6:Int)(y7:List Int)(y8:List (Int×(Int×Int)))(y9:List (List Int))(y10:List (Int×(Int×Int)))(y11 y12:List (Int×Int)):Int:=c8 (dI y0 y2) (dJ y0 y2) (dK y0 y2) (dL y0 y2) (dM y0 y2) ((aS y0 y2).1) ((aS y0 y2).2) y4 y5 y6 y7 y8 y9 y10 y11 y12
def Dc(y0:Int)(y2:List (Int×(Int×((Int×Int)×(Int×(Int×Bool))))))(y4 y5 y6:Int)(y7:List Int)(y8:List (Int×(Int×Int)))(y9:List (List Int))(y10:List (Int×(Int×Int)))(y11 y12:List (Int×Int)):Int:=c9 (dI y0 y2) (dJ y0 y2) (dK y0 y2) (dL y0 y2) (dM y0 y2) ((aS y0 y2).1) ((aS y0 y2).2) y4 y5 y6 y7 y8 y9 y10 y11 y12
def Dd(y0:Int)(y2:List (Int×(Int×((Int×Int)×(Int×(Int×Bool))))))(y4 y5 y6:Int)(y7:List Int)(y8:List (Int×(Int×Int)))(y9:List (List Int))(y10:List (Int×(Int×Int)))(y11 y12:List (Int×Int)):Int:=da (dI y0 y2) (dJ y0 y2) (dK y0 y2) (dL y0 y2) (dM y0 y2) ((aS y0 y2).1) ((aS y0 y2).2) y4 y5 y6 y7 y8 y9 y10 y11 y12
def De(y0:Int)(y2:List (Int×(Int×((Int×Int)×(Int×(Int×Bool))))))(y4 y5 y6:Int)(y7:List Int)(y8:List (Int×(Int×Int)))(y9:List (List Int))(y10:List (Int×(Int×Int)))(y11 y12:List (Int×Int)):List Int:=db (dI y0 y2) (dJ y0 y2) (dK y0 y2) (dL y0 y2) (dM y0 y2) ((aS y0 y2).1) ((aS y0 y2).2) y4 y5 y6 y7 y8 y9 y10 y11 y12
def Df(y0:Int)(y2:List (Int×(Int×((Int×Int)×(Int×(Int×Bool))))))(y4 y5 y6:Int)(y7:List Int)(y8:List (Int×(Int×Int)))(y9:List (List Int))(y10:List (Int×(Int×Int)))(y11 y12:List (Int×Int)):List (Int×(Int×Int)):=dc (dI y0 y2) (dJ y0 y2) (dK y0 y2) (dL y0 y2) (dM y0 y2) ((aS y0 y2).1) ((aS y0 y2).2) y4 y5 y6 y7 y8 y9 y10 y11 y12
def Dg(y0:Int)(y2:List (Int×(Int×((Int×Int)×(Int×(Int×Bool))))))(y4 y5 y6:Int)(y7:List Int)(y9:List (List Int))(y11 y12:List (Int×Int)):List (List Int):=dd (dI y0 y2) (dJ y0 y2) (dK y0 y2) (dL y0 y2) (dM y0 y2) ((aS y0 y2).1) ((aS y0 y2).2) y4 y5 y6 y7 y9 y11 y12
def Dh(y0:Int)(y2:List (Int×(Int×((Int×Int)×(Int×(Int×Bool))))))(y4 y5 y6:Int)(y7:List Int)(y8:List (Int×(Int×Int)))(y9:List (List Int))(y10:List (Int×(Int×Int)))(y11 y12:List (Int×Int)):List (Int×(Int×Int)):=de (dI y0 y2) (dJ y0 y2) (dK y0 y2) (dL y0 y2) (dM y0 y2) ((aS y0 y2).1) ((aS y0 y2).2) y4 y5 y6 y7 y8 y9 y10 y11 y12
def Di(y0:Int)(y2:List (Int×(Int×((Int×Int)×(Int×(Int×Bool))))))(y4 y5 y6:Int)(y7:List Int)(y8:List (Int×(Int×Int)))(y9:List (List Int))(y10:List (Int×(Int×Int)))(y11 y12:List (Int×Int)):List (Int×Int):=df (dI y0 y2) (dJ y0 y2) (dK y0 y2) (dL y0 y2) (dM y0 y2) ((aS y0 y2).1) ((aS y0 y2).2) y4 y5 y6 y7 y8 y9 y10 y11 y12
def Dj(y0:Int)(y2:List (Int×(Int×((Int×Int)×(Int×(Int×Bool))))))(y4 y5 y6:Int)(y7:List Int)(y8:List (Int×(Int×Int)))(y9:List (List Int))(y10:List (Int×(Int×Int)))(y11 y12:List (Int×Int)):List (Int×Int):=dg (dI y0 y2) (dJ y0 y2) (dK y0 y2) (dL y0 y2) (dM y0 y2) ((aS y0 y2).1) ((aS y0 y2).2) y4 y5 y6 y7 y8 y9 y10 y11 y12
def ajo:lC→List (Nat×SV)
 |(y0,y1,_,_,_,_,_,_,_,_,_,_,_)=> [(23,(.one ⟨false,[(.val (.int .i64 y0))]⟩)),(22,(.one ⟨false,[(.val (.int .i64 y1))]⟩)),(21,(.one ⟨false,[(.ref 0)]⟩)),(9,(.one ⟨false,[(.ref 1)]⟩)),(8,(.one ⟨false,[(.ptr 2 0)]⟩))]
def ajh:lC→List (Nat×Entry)
 |(_,_,y2,y3,y4,y5,y6,y7,y8,y9,y10,y11,y12)=> [(0,(.row false 49 axi y2)),(2,(.box 33 [(.val (.int .i64 y4)),(.ref 3),(.ref 4),(.ref 5),(.ref 6),(.val (.int .i64 y5)),(.ref 7),(.ref 8),(.val (.int .i64 y6))])),(1,(.row true 2 axl y3)),(3,(.row true 2 axl y7)),(4,(.row true 169 axj y8)),(5,(.tree 24 (CTy.sl (2:Nat) axl) y9 none)),(6,(.row true 100 axj y10)),(7,(.row true 173 axk y11)),(8,(.row true 176 axk y12))]
def ajC:Nat→lC→List (Nat×SV)
 |_,(_,_,_,_,_,_,_,_,_,_,_,_,_)=> [(9,(.one ⟨false,[(.ref 1)]⟩))]
def ajv:Nat→lC→List (Nat×Entry)
 |_,(_,_,y2,y3,y4,y5,y6,y7,y8,y9,y10,y11,y12)=> [(0,(.row false 49 axi y2)),(1,(.row true 2 axl y3)),(2,(.box 33 [(.val (.int .i64 y4)),(.ref 3),(.ref 4),(.ref 5),(.ref 6),(.val (.int .i64 y5)),(.ref 7),(.ref 8),(.val (.int .i64 y6))])),(3,(.row true 2 axl y7)),(4,(.row true 169 axj y8)),(5,(.tree 24 (CTy.sl (2:Nat) axl) y9 none)),(6,(.row true 100 axj y10)),(7,(.row true 173 axk y11)),(8,(.row true 176 axk y12))]
def Ec:lC→LT lC
 |(y0,y1,y2,y3,y4,y5,y6,y7,y8,y9,y10,y11,y12)=> .ite (Fu y0 y1) (.need [(Fv y0),(Fw y0 y2),(Fx y0 y2)] (.need [(Fy y0 y2 y4 y5 y6 y7 y8 y9 y10 y11 y12),(Fz y0 y2 y3 y4 y5 y6 y7 y8 y9 y10 y11 y12),(FA y0 y2 y3 y4 y5 y6 y7 y8 y9 y10 y11 y12)] (.nrm ((FB y0),y1,y2,(FC y0 y2 y3 y4 y5 y6 y7 y8 y9 y10 y11 y12),(FD y0 y2 y4 y5 y6 y7 y8 y9 y10 y11 y12),(Dc y0 y2 y4 y5 y6 y7 y8 y9 y10 y11 y12),(Dd y0 y2 y4 y5 y6 y7 y8 y9 y10 y11 y12),(De y0 y2 y4 y5 y6 y7 y8 y9 y10 y11 y12),(Df y0 y2 y4 y5 y6 y7 y8 y9 y10 y11 y12),(Dg y0 y2 y4 y5 y6 y7 y9 y11 y12),(Dh y0 y2 y4 y5 y6 y7 y8 y9 y10 y11 y12),(Di y0 y2 y4 y5 y6 y7 y8 y9 y10 y11 y12),(Dj y0 y2 y4 y5 y6 y7 y8 y9 y10 y11 y12)) [(0,0),(1,640),(2,2),(3,512),(4,513),(5,514),(6,515),(7,516),(8,517)]))) (.ext 0 [(0,0),(1,1),(2,2),(3,3),(4,4),(5,5),(6,6),(7,7),(8,8)])
def Qu(s:St):Option lC:=
 (match s.look 23 with
 |some ⟨none,(.one ⟨false,[(.val (.int .i64 y0))]⟩)⟩=>
 (match s.look 22 with
 |some ⟨none,(.one ⟨false,[(.val (.int .i64 y1))]⟩)⟩=>
 (match s.look 21 with
 |some ⟨none,(.one ⟨false,[(.ref 6)]⟩)⟩=>
 (match s.look 9 with
 |some ⟨none,(.one ⟨false,[(.ref 1408)]⟩)⟩=>
 (match s.look 8 with
 |some ⟨none,(.one ⟨false,[(.ptr 1280 0)]⟩)⟩=>
 (match s.ent 6 with
 |some (.row false 49 (.pair (.int .i64) (.pair (.int .i64) (.pair (.pair (.int .i64) (.int .i64)) (.pair (.int .i64) (.pair (.int .i64) .bool))))) y2)=>
 (match s.ent 1280 with
 |some (.box 33 [(.val (.int .i64 y4)),(.ref 1216),(.ref 1217),(.ref 1218),(.ref 1219),(.val (.int .i64 y5)),(.ref 1220),(.ref 1221),(.val (.int .i64 y6))])=>
 (match s.ent 1408 with
 |some (.row true 2 (.int .i64) y3)=>
 (match s.ent 1216 with
 |some (.row true 2 (.int .i64) y7)=>
 (match s.ent 1217 with
 |some (.row true 169 (.pair (.int .i64) (.pair (.int .i64) (.int .i64))) y8)=>
 (match s.ent 1218 with
 |some (.tree 24 (.sl 2 (.int .i64)) y9 none)=>
 (match s.ent 1219 with
 |some (.row true 100 (.pair (.int .i64) (.pair (.int .i64) (.int .i64))) y10)=>
 (match s.ent 1220 with
 |some (.row true 173 (.pair (.int .i64) (.int .i64)) y11)=>
 (match s.ent 1221 with
 |some (.row true 176 (.pair (.int .i64) (.int .i64)) y12)=>
 some (y0,y1,y2,y3,y4,y5,y6,y7,y8,y9,y10,y11,y12)
 |_=>none)
 |_=>none)
 |_=>none)
 |_=>none)
 |_=>none)
 |_=>none)
 |_=>none)
 |_=>none)
 |_=>none)
 |_=>none)
 |_=>none)
 |_=>none)
 |_=>none)
 |_=>none)
def dN:Lp lC where
 h:=⟨[24,25,26,11,27,28,29,30,31,9,32,23],[0,2],[1,3,4,5,6,7,8],[]⟩
 JL:=ajo
 JE:=ajh
 XL:=ajC
 XE:=ajv
 q:=fun j=>match j with | _=> .exit 0
 tags:= [0]
 lt:=Ec
 fuel:=fun(y0,y1,y2,y3,y4,y5,y6,y7,y8,y9,y10,y11,y12)=>y0.natAbs + y1.natAbs + y2.length + y3.length + y4.natAbs + y5.natAbs + y6.natAbs + y7.length + y8.length + y9.length + y10.length + y11.length + y12.length
 fix:=fun(_,y1,y2,_,_,_,_,_,_,_,_,_,_) (y0,_,_,y3,y4,y5,y6,y7,y8,y9,y10,y11,y12)=>(y0,y1,y2,y3,y4,y5,y6,y7,y8,y9,y10,y11,y12)
 σ:= [(0,6),(2,1280),(1,1408),(3,1216),(4,1217),(5,1218),(6,1219),(7,1220),(8,1221)]
 rd:=Qu
theorem agK:LoopOk Tryz.prog (fun k=>Nat.blt k Tryz.f12.ntmps) dN.F (au Tryz.f12 0):=by
 refine Lp.ok (tbl:= [PF.trees Tryz.prog,CG,PF.lend CG,PF.fz CG,et,PF.lend et,PF.fz et,fj,PF.lend fj,PF.fz fj]) (lf:= []) aq dN (by kernel_rfl) (LOk.nil _) (fun _=>rfl) (fun _ _=>rfl) ?_ ?_ ?_ ?_ (fun _=>rfl) ?_
 ·rintro⟨y0,y1,y2,y3,y4,y5,y6,y7,y8,y9,y10,y11,y12⟩;kernel_rfl
 ·rintro⟨y0,y1,y2,y3,y4,y5,y6,y7,y8,y9,y10,y11,y12⟩;kernel_rfl
 ·intro s x h
  have h:Qu s=some x:=h
  unfold Qu at h
  repeat' split at h
  all_goals cases h
  exact⟨aa (by assumption) rfl (aa (by assumption) rfl (aa (by assumption) rfl (aa (by assumption) rfl (aa (by assumption) rfl (rfl))))),ab rfl (by assumption) rfl (ab rfl (by assumption) rfl (ab rfl (by assumption) rfl (ab rfl (by assumption) rfl (ab rfl (by assumption) rfl (ab rfl (by assumption) rfl (ab rfl (by assumption) rfl (ab rfl (by assumption) rfl (ab rfl (by assumption) rfl (rfl)))))))))⟩
 ·rintro⟨y0,y1,y2,y3,y4,y5,y6,y7,y8,y9,y10,y11,y12⟩;kernel_rfl
 ·rintro⟨y0,y1,y2,y3,y4,y5,y6,y7,y8,y9,y10,y11,y12⟩ z;exact(And.intro rfl trivial)
section
variable (x0 x1 x2:Int)(x3:List Int)(x4:List (Int×Int×Int))(x5:List (List Int))(x6:List (Int×Int×Int))(x7 x8:List (Int×Int))(x9:List (Int×Int×(Int×Int)×Int×Int×Bool))
def hZ:Bool:=xA x0 x1 x2 x3 x4 x5 x6 x7 x8 x9 !=(0:Int)
def Fo:Int×Int×List (Int×Int×(Int×Int)×Int×Int×Bool)×List Int×Int×Int×Int×List Int×List (Int×Int×Int)×List (List Int)×List (Int×Int×Int)×List (Int×Int)×List (Int×Int):=((0:Int),(↑x9.length:Int),x9,[],x0,x1,x2,x3,x4,kB x0 x1 x2 x3 x4 x5 x6 x7 x8,x6,x7,x8)
def VQ:List Int×Int×Int×Int×List Int×List (Int×Int×Int)×List (List Int)×List (Int×Int×Int)×List (Int×Int)×List (Int×Int):=(Lp.res dN (Fo x0 x1 x2 x3 x4 x5 x6 x7 x8 x9)).2.2.2.2
def VR:Int×Int×Int×List Int×List (Int×Int×Int)×List (List Int)×List (Int×Int×Int)×List (Int×Int)×List (Int×Int):=(VQ x0 x1 x2 x3 x4 x5 x6 x7 x8 x9).2
def VS:Int×Int×List Int×List (Int×Int×Int)×List (List Int)×List (Int×Int×Int)×List (Int×Int)×List (Int×Int):=(VR x0 x1 x2 x3 x4 x5 x6 x7 x8 x9).2
def VT:Int×List Int×List (Int×Int×Int)×List (List Int)×List (Int×Int×Int)×List (Int×Int)×List (Int×Int):=(VS x0 x1 x2 x3 x4 x5 x6 x7 x8 x9).2
def VU:List Int×List (Int×Int×Int)×List (List Int)×List (Int×Int×Int)×List (Int×Int)×List (Int×Int):=(VT x0 x1 x2 x3 x4 x5 x6 x7 x8 x9).2
def VV:List (Int×Int×Int)×List (List Int)×List (Int×Int×Int)×List (Int×Int)×List (Int×Int):=(VU x0 x1 x2 x3 x4 x5 x6 x7 x8 x9).2
def VW:List (List Int)×List (Int×Int×Int)×List (Int×Int)×List (Int×Int):=(VV x0 x1 x2 x3 x4 x5 x6 x7 x8 x9).2
def VX:List (Int×Int×Int)×List (Int×Int)×List (Int×Int):=(VW x0 x1 x2 x3 x4 x5 x6 x7 x8 x9).2
def TP:List (Int×Int)×List (Int×Int):=(VX x0 x1 x2 x3 x4 x5 x6 x7 x8 x9).2
def RG:Int:=bif hZ x0 x1 x2 x3 x4 x5 x6 x7 x8 x9 then(0:Int)else (VR x0 x1 x2 x3 x4 x5 x6 x7 x8 x9).1
def RH:Int:=bif hZ x0 x1 x2 x3 x4 x5 x6 x7 x8 x9 then(0:Int)else (VS x0 x1 x2 x3 x4 x5 x6 x7 x8 x9).1
def RI:Int:=bif hZ x0 x1 x2 x3 x4 x5 x6 x7 x8 x9 then(0:Int)else (VT x0 x1 x2 x3 x4 x5 x6 x7 x8 x9).1
def RJ:Int:=bif hZ x0 x1 x2 x3 x4 x5 x6 x7 x8 x9 then xA x0 x1 x2 x3 x4 x5 x6 x7 x8 x9 else(0:Int)
def RK:List Int:=bif hZ x0 x1 x2 x3 x4 x5 x6 x7 x8 x9 then []else (VU x0 x1 x2 x3 x4 x5 x6 x7 x8 x9).1
def RL:List (Int×(Int×Int)):=bif hZ x0 x1 x2 x3 x4 x5 x6 x7 x8 x9 then []else (VV x0 x1 x2 x3 x4 x5 x6 x7 x8 x9).1
def RM:List (List Int):=bif hZ x0 x1 x2 x3 x4 x5 x6 x7 x8 x9 then []else (VW x0 x1 x2 x3 x4 x5 x6 x7 x8 x9).1
def RN:List (Int×(Int×Int)):=bif hZ x0 x1 x2 x3 x4 x5 x6 x7 x8 x9 then []else (VX x0 x1 x2 x3 x4 x5 x6 x7 x8 x9).1
def RO:List (Int×Int):=bif hZ x0 x1 x2 x3 x4 x5 x6 x7 x8 x9 then []else (TP x0 x1 x2 x3 x4 x5 x6 x7 x8 x9).1
def RP:List (Int×Int):=bif hZ x0 x1 x2 x3 x4 x5 x6 x7 x8 x9 then []else (TP x0 x1 x2 x3 x4 x5 x6 x7 x8 x9).2
def Pv:List Int:=bif hZ x0 x1 x2 x3 x4 x5 x6 x7 x8 x9 then []else (VQ x0 x1 x2 x3 x4 x5 x6 x7 x8 x9).1
def Pw:Bool:=allT [Cu x0 x1 x2 x3 x4 x5 x6 x7 x8 x9,hZ x0 x1 x2 x3 x4 x5 x6 x7 x8 x9||kC x0 x1 x2 x3 x4 x5 x6 x7 x8,hZ x0 x1 x2 x3 x4 x5 x6 x7 x8 x9||Lp.fin dN (Fo x0 x1 x2 x3 x4 x5 x6 x7 x8 x9)]
end
def afc:List SV→List Entry→Option Out
 | [.one ⟨true,[.val (.int .i64 x0),.ref 0,.ref 1,.ref 2,.ref 3,.val (.int .i64 x1),.ref 4,.ref 5,.val (.int .i64 x2)]⟩,.one ⟨false,[.ref 6]⟩],[.row false 2 (.int .i64) x3,.row false 169 (.pair (.int .i64) (.pair (.int .i64) (.int .i64))) x4,.row false 24 (.sl 2 (.int .i64)) x5,.row false 100 (.pair (.int .i64) (.pair (.int .i64) (.int .i64))) x6,.row false 173 (.pair (.int .i64) (.int .i64)) x7,.row false 176 (.pair (.int .i64) (.int .i64)) x8,.row false 49 (.pair (.int .i64) (.pair (.int .i64) (.pair (.pair (.int .i64) (.int .i64)) (.pair (.int .i64) (.pair (.int .i64) (.bool)))))) x9]=>some ⟨(.tup [⟨true,[(.val (.int .i64 (RG x0 x1 x2 x3 x4 x5 x6 x7 x8 x9))),(.ref 7),(.ref 8),(.ref 9),(.ref 10),(.val (.int .i64 (RH x0 x1 x2 x3 x4 x5 x6 x7 x8 x9))),(.ref 11),(.ref 12),(.val (.int .i64 (RI x0 x1 x2 x3 x4 x5 x6 x7 x8 x9)))]⟩,⟨false,[(.ref 13)]⟩,⟨false,[(.val (.int .i64 (RJ x0 x1 x2 x3 x4 x5 x6 x7 x8 x9)))]⟩]),[(.row false 2 axl x3),(.row false 169 axj x4),(.row false 24 (CTy.sl (2:TypeId) axl) x5),(.row false 100 axj x6),(.row false 173 axk x7),(.row false 176 axk x8),(.row false 49 axi x9)],[(.row true 2 axl (RK x0 x1 x2 x3 x4 x5 x6 x7 x8 x9)),(.row true 169 axj (RL x0 x1 x2 x3 x4 x5 x6 x7 x8 x9)),(.tree 24 (CTy.sl (2:Nat) axl) (RM x0 x1 x2 x3 x4 x5 x6 x7 x8 x9) none),(.row true 100 axj (RN x0 x1 x2 x3 x4 x5 x6 x7 x8 x9)),(.row true 173 axk (RO x0 x1 x2 x3 x4 x5 x6 x7 x8 x9)),(.row true 176 axk (RP x0 x1 x2 x3 x4 x5 x6 x7 x8 x9)),(.row true 2 axl (Pv x0 x1 x2 x3 x4 x5 x6 x7 x8 x9))],[(Pw x0 x1 x2 x3 x4 x5 x6 x7 x8 x9)]⟩
 |_,_=>none
def aoW:PF Tryz.prog:=PF.ofG Tryz.prog [PF.trees Tryz.prog,CG,PF.lend CG,PF.fz CG,et,PF.lend et,PF.fz et,fj,PF.lend fj,PF.fz fj] [dN.F] aq 12 Tryz.f12 Tryz.func12 (LOk.fnT (l:= [au Tryz.f12 0]) (by kernel_rfl) (.cons agK (.nil _))) afc (by
 intro vs es r h;unfold afc at h;split at h
 ·cases h;kernel_rfl
 ·cases h)
section
variable (x3 x4 x5 x6 x7 x8:Int)(x9:Bool)(x10:List Int)(x12:List (List Int))
def oJ:Bool:=bif x5==(0:Int)then bif x6==(0:Int)then true else false else false
def oK:Bool:=bif x7==(0:Int)then bif x8==(0:Int)then bif x9==false then true else false else false else false
def zi:Bool:=bif x3==(0:Int)then bif bif Oj x10 x4 then oJ x5 x6 else false then oK x7 x8 x9 else false else bif x3==(1:Int)then bif bif Oj x10 x4 then rsB (cY (bif Oj x10 x4&&true then Option.getD x12[Int.toNat (0:Int)]? (wu (CTy.sl (2:TypeId) axl))else [])) x5 x6 else false then oK x7 x8 x9 else false else bif x3==(2:Int)then bif bif x4==(0:Int)then oJ x5 x6 else false then ak4 x7 x8 else false else false
def zj:Bool:=allT [!x3==(0:Int)||leN x10.length (9223372036854775807:Nat),x3==(0:Int)||(!x3==(1:Int)||leN x10.length (9223372036854775807:Nat)),x3==(0:Int)||(!x3==(1:Int)||(!(Oj x10 x4&&true)||leI (0:Int) (0:Int))),x3==(0:Int)||(!x3==(1:Int)||(!(Oj x10 x4&&true)||ltI (0:Int) (↑x12.length:Int))),x3==(0:Int)||(!x3==(1:Int)||(!(Oj x10 x4&&true)||ltN (Int.toNat (0:Int)) x12.length))]
end
end Go.SX

namespace Go.SX
open Go.Proofs
set_option maxRecDepth 100000
abbrev LI:=List Int
abbrev L3:=List (Int×Int×Int)
abbrev L2:=List (Int×Int)
def xt(b:List Int):(List (List Int))→Nat ⊕ (List (List Int))
 |y4=>(.inr (y4++ [(b)]))
def rJ(y1 y2 y3:Int)(y5:List Int)(y6:List (Int×(Int×Int)))(y7:List (List Int))(y8:List (Int×(Int×Int)))(y9 y10:List (Int×Int))(i:Nat):(List (List Int))→mY
 |y4=>((i:Int),y1,y2,y3,y4,y5,y6,y7,y8,y9,y10)
def Sz:mY→List (List Int)
 |(_,_,_,_,y4,_,_,_,_,_,_)=>y4
theorem am9(y1 y2 y3:Int)(y5:List Int)(y6:List (Int×(Int×Int)))(y7:List (List Int))(y8:List (Int×(Int×Int)))(y9 y10:List (Int×Int))(y4:List (List Int))(hn:y7.length≤9223372036854775807)(hl:y7.length≤4)(hA: ∀ x∈y7,x.length≤12)(h0:y4= []):
  gd.fin ((0:Int),y1,y2,y3,y4,y5,y6,y7,y8,y9,y10)=true∧gd.res ((0:Int),y1,y2,y3,y4,y5,y6,y7,y8,y9,y10)=((ae (xt) 0 y7 0 y4).1,(rJ y1 y2 y3 y5 y6 y7 y8 y9 y10) (ae (xt) 0 y7 0 y4).2.1 (ae (xt) 0 y7 0 y4).2.2):=by
 have key:=gd.along (rJ y1 y2 y3 y5 y6 y7 y8 y9 y10) Sz (xt) 0 (fun i a=>a.length≤i) y7 y4 (by subst h0;simp) (by simp only [gd,rJ];omega) (fun i b a hb hI=> ?_) (fun a hI=> ?_)
 ·exact key
 ·obtain y4:=a
  have hlt:=(List.getElem?_eq_some_iff.1 hb).1
  have hget: ∀ d,Option.getD y7[i]? d=b:=fun d=>by rw [hb];rfl
  have hw:=oW hlt hn
  have hdec:ltI (i:Int) (y7.length:Int)=true:=bZ (by omega)
  have hnn:leI (0:Int) (i:Int)=true:=bC (by omega)
  have hltd:ltN i y7.length=true:=cB hlt
  refine⟨?_,?_,?_,?_⟩
  ·have hb2:=hA b (List.mem_of_getElem? hb)
   have h5:leN b.length 1048576=true:=fk (by omega)
   have h6:leN (a.length + 1) 9223372036854775807=true:=fk (by omega)
   have h7:leN ((a.length + 1) * 24) 140737488355328=true:=fk (by omega)
   simp [rE,CV,Ju,Jv,Jw,Jz,JA,JB,JC,Gt,gd,LT.nds,allT,rJ,hdec,hnn,hltd,Km,hget,h5,h6,h7]
  ·simp [rE,CV,Ju,Jv,Jw,Jz,JA,JB,JC,Gt,gd,LT.each,rJ,Sz,hw,Km,hget]
  ·simp only [rE,CV,Ju,Jv,Jw,Jz,JA,JB,JC,Gt,gd,LT.fn,rJ,Sz,xt,Int.toNat_natCast,hdec,hnn,hltd,hget,cond_true,Bool.cond_self,Km,hget]
  ·intro a' hf;simp only [xt,Sum.inr.injEq]at hf;subst hf;simp;omega
 ·obtain y4:=a
  simp [rE,CV,Ju,Jv,Jw,Jz,JA,JB,JC,Gt,gd,LT.out,rJ]
def awp(ps:LI)(fs:L3)(rs:List LI)(lf:L3)(pl ls:L2):Prop:=ps.length≤4∧1≤ps.length∧fs.length≤100∧rs.length≤4∧(∀ x∈rs,1≤x.length∧x.length≤12)∧lf.length≤100∧pl.length≤10000∧ls.length≤10000
theorem apk(n mode day:Int){ps:LI}{fs:L3}{rs:List LI}{lf:L3}{pl ls:L2}(h:awp ps fs rs lf pl ls):
  lN n mode day ps fs rs lf pl ls=rs∧Ps n mode day ps fs rs lf pl ls=true:=by
 obtain⟨h1,_,h2,h3,h4,h5,h6,h7⟩:=h
 obtain⟨w1,w2⟩:=am9 n mode day ps fs rs lf pl ls [] (by omega) h3 (fun x hx=>(h4 x hx).2) rfl
 rw [iP (f:=xt) (g:=fun a b=>a++ [b]) (fun b a=>rfl),Xj (fun x=>x)]at w2
 refine⟨by simp only [lN,Te,w2,rJ,List.nil_append,List.map_id'],?_⟩
 have w3:Lp.fin gd (Te n mode day ps fs rs lf pl ls)=true:=w1
 have e1:leN ps.length 1048576=true:=fk (by omega)
 have e2:leN (0 + fs.length) 9223372036854775807=true:=fk (by omega)
 have e3:leN ((0 + fs.length) * 24) 140737488355328=true:=fk (by omega)
 have e4:leN (0 + lf.length) 9223372036854775807=true:=fk (by omega)
 have e5:leN ((0 + lf.length) * 24) 140737488355328=true:=fk (by omega)
 have e6:leN (0 + pl.length) 9223372036854775807=true:=fk (by omega)
 have e7:leN ((0 + pl.length) * 16) 140737488355328=true:=fk (by omega)
 have e8:leN (0 + ls.length) 9223372036854775807=true:=fk (by omega)
 have e9:leN ((0 + ls.length) * 16) 140737488355328=true:=fk (by omega)
 simp only [Ps,w3,e1,e2,e3,e4,e5,e6,e7,e8,e9,allT,cond_true]
def bU(b:List Int):(List (List Int))→Nat ⊕ (List (List Int))
 |y8=>(.inr (y8++ [(b)]))
def bt(y2:List (List Int))(y3 y4 y5:Int)(y6:List Int)(y7 y9:List (Int×(Int×Int)))(y10 y11:List (Int×Int))(i:Nat):(List (List Int))→aV
 |y8=>((i:Int),(↑y2.length:Int),y2,y3,y4,y5,y6,y7,y8,y9,y10,y11)
def mR:aV→List (List Int)
 |(_,_,_,_,_,_,_,_,y8,_,_,_)=>y8
theorem Mc(y2:List (List Int))(y3 y4 y5:Int)(y6:List Int)(y7 y9:List (Int×(Int×Int)))(y10 y11:List (Int×Int))(y8:List (List Int))(hn:y2.length≤9223372036854775807)(hl:y2.length≤4)(hA: ∀ x∈y2,1≤x.length∧x.length≤12)(h0:y8= []):
  ax.fin ((0:Int),(↑y2.length:Int),y2,y3,y4,y5,y6,y7,y8,y9,y10,y11)=true∧ax.res ((0:Int),(↑y2.length:Int),y2,y3,y4,y5,y6,y7,y8,y9,y10,y11)=((ae (bU) 0 y2 0 y8).1,(bt y2 y3 y4 y5 y6 y7 y9 y10 y11) (ae (bU) 0 y2 0 y8).2.1 (ae (bU) 0 y2 0 y8).2.2):=by
 have key:=ax.along (bt y2 y3 y4 y5 y6 y7 y9 y10 y11) mR (bU) 0 (fun i a=>a.length≤i) y2 y8 (by subst h0;simp) (by simp only [ax,bt];omega) (fun i b a hb hI=> ?_) (fun a hI=> ?_)
 ·exact key
 ·obtain y8:=a
  have hlt:=(List.getElem?_eq_some_iff.1 hb).1
  have hget: ∀ d,Option.getD y2[i]? d=b:=fun d=>by rw [hb];rfl
  have hw:=oW hlt hn
  have hdec:ltI (i:Int) (y2.length:Int)=true:=bZ (by omega)
  have hnn:leI (0:Int) (i:Int)=true:=bC (by omega)
  have hltd:ltN i y2.length=true:=cB hlt
  refine⟨?_,?_,?_,?_⟩
  ·have hb2:=hA b (List.mem_of_getElem? hb)
   have h5:leN b.length 1048576=true:=fk (by omega)
   have h4:leN 1 b.length=true:=fk (by omega)
   have h6:leN (a.length + 1) 9223372036854775807=true:=fk (by omega)
   have h7:leN ((a.length + 1) * 24) 140737488355328=true:=fk (by omega)
   simp [bd,fG,fH,fI,fJ,fK,fL,fM,fN,fO,fl,ax,LT.nds,allT,bt,hdec,hnn,hltd,Km,hget,h4,h5,h6,h7]
  ·simp [bd,fG,fH,fI,fJ,fK,fL,fM,fN,fO,fl,ax,LT.each,bt,mR,hw,Km,hget]
  ·simp only [bd,fG,fH,fI,fJ,fK,fL,fM,fN,fO,fl,ax,LT.fn,bt,mR,bU,Int.toNat_natCast,hdec,hnn,hltd,hget,cond_true,Bool.cond_self,Km,hget]
  ·intro a' hf;simp only [bU,Sum.inr.injEq]at hf;subst hf;simp;omega
 ·obtain y8:=a
  simp [bd,fG,fH,fI,fJ,fK,fL,fM,fN,fO,fl,ax,LT.out,bt]
theorem aqT(n mode day:Int){ps:LI}{fs:L3}{rs:List LI}{lf:L3}{pl ls:L2}(h:awp ps fs rs lf pl ls):
  kB n mode day ps fs rs lf pl ls=rs∧kC n mode day ps fs rs lf pl ls=true:=by
 obtain⟨h1,h1',h2,h3,h4,h5,h6,h7⟩:=h
 obtain⟨w1,w2⟩:=Mc rs n mode day ps fs lf pl ls [] (by omega) h3 h4 rfl
 rw [iP (f:=bU) (g:=fun a b=>a++ [b]) (fun b a=>rfl),Xj (fun x=>x)]at w2
 refine⟨by simp only [kB,jV,w2,bt,List.nil_append,List.map_id'],?_⟩
 have w3:Lp.fin ax (jV n mode day ps fs rs lf pl ls)=true:=w1
 have e0:leN 1 ps.length=true:=fk (by omega)
 have e1:leN ps.length 1048576=true:=fk (by omega)
 have e2:leN fs.length 1048576=true:=fk (by omega)
 have e3:leN lf.length 1048576=true:=fk (by omega)
 have e4:leN pl.length 1048576=true:=fk (by omega)
 have e5:leN ls.length 1048576=true:=fk (by omega)
 simp [kC,w3,fP,e0,e1,e2,e3,e4,e5,allT]
abbrev RX:=Int×Int×(Int×Int)×Int×Int×Bool
def aeg(ps:LI)(rs:List LI)(k t rk row ck role:Int)(key:Bool):Bool:=bif k==0 then Oj ps t&&((rk==0&&row==0)&&(ck==0&&(role==0&&key==false)))else bif k==1 then(Oj ps t&&rsB (rowsR rs) rk row)&&(ck==0&&(role==0&&key==false))else bif k==2 then(t==0&&(rk==0&&row==0))&&ak4 ck role else false
theorem avg{ls:L2}(h:okLk ls=true):ls.length≤8:=by
 simp only [okLk,Bool.and_eq_true,bT]at h;exact h.1
structure RideF (n mode day:Int) (ps:LI) (fs:L3) (rs:List LI) (lf:L3) (pl ls:L2):Prop where
 hT:isT n ps=true
 hF:okFs n fs=true
 hl:rs.length=ps.length
 hR:rsOk rs=true
 hL:lfOk (rowsR rs) lf=true
 hM:0≤mode∧mode≤5
 hP:okPl pl=true
 hK:okLk ls=true
 hD:inR day 0 100000=true
 n1:2≤n∧n≤8
 lp:1≤ps.length∧ps.length≤4
 lfs:fs.length≤8
 llf:lf.length≤8
 lpl:pl.length≤12
 lls:ls.length≤8
 hA: ∀ x∈rs,areR x=true∧(x.length:Int)=rowsR rs
theorem arb{n mode day:Int}{ps:LI}{fs:L3}{rs:List LI}{lf:L3}{pl ls:L2}(h:qP n ps fs rs lf mode pl ls day=true):RideF n mode day ps fs rs lf pl ls:=by
 obtain⟨h1,h2,h3,h4,h5,h6,h7,h8,h9⟩:=ati.1 h
 have h1':=h1
 simp only [isT,Bool.and_eq_true,sR]at h1'
 refine⟨h1,h2,h3,h4,h5,sR.1 h6,h7,h8,h9,h1'.1.1,by omega,ar3 h2,avb h5,aoT h7,avg h8,fun x hx=> ?_⟩
 simp only [rsOk,List.all_eq_true,Bool.and_eq_true,beq_iff_eq]at h4
 exact h4 x hx
theorem RideF.cp{n mode day:Int}{ps:LI}{fs:L3}{rs:List LI}{lf:L3}{pl ls:L2}(h:RideF n mode day ps fs rs lf pl ls):awp ps fs rs lf pl ls:=by
 have:=h.lp;have:=h.lfs;have:=h.llf;have:=h.lpl;have:=h.lls;have:=h.hl
 refine⟨by omega,by omega,by omega,by omega,fun x hx=> ?_,by omega,by omega,by omega⟩
 have:=(Ft.1 (h.hA x hx).1).1
 omega
theorem RideF.rN{n mode day:Int}{ps:LI}{fs:L3}{rs:List LI}{lf:L3}{pl ls:L2}(h:RideF n mode day ps fs rs lf pl ls):rb 9223372036854775807 ps fs rs lf pl ls=true:=by
 have:=h.lp;have:=h.lfs;have:=h.llf;have:=h.lpl;have:=h.lls;have:=h.hl
 refine xN.2 ⟨by omega,by omega,⟨by omega,fun x hx=> ?_⟩,by omega,by omega,by omega⟩
 have:=(Ft.1 (h.hA x hx).1).1
 omega
theorem aue{rs:List LI}{ps:LI}(hl:rs.length=ps.length)(hp:1≤ps.length∧ps.length≤4)(t:Int):aL t 0 (IntKind.i64.wrap ((rs.length:Int) - 1))=Oj ps t:=by
 rw [aL,vK,hl,aw (by omega) (by omega),Oj]
theorem ass(rs:List LI):z7 rs=rowsR rs:=by
 simp only [z7,Km];rfl
theorem aqs(n mode day k t rk row ck role:Int)(key:Bool)(ps:LI)(fs:L3)(rs:List LI)(lf:L3)(pl ls:L2)(hN:rb 9223372036854775807 ps fs rs lf pl ls=true):
  Av n mode day k t rk row ck role key ps fs rs lf pl ls=(qP n ps fs rs lf mode pl ls day&&aeg ps rs k t rk row ck role key)∧
  Gz n mode day k t ps fs rs lf pl ls=true:=by
 cases hO:qP n ps fs rs lf mode pl ls day with
 |false=>simp [Av,Gz,hO,hN,allT]
 |true=>
  have f:=arb hO
  have hw:=aue f.hl f.lp t
  have n1:ltI 0 (rs.length:Int)=true:=bZ (by have:=f.hl;have:=f.lp;omega)
  have n2:ltN 0 rs.length=true:=cB (by have:=f.hl;have:=f.lp;omega)
  refine⟨?_,?_⟩
  ·simp only [Av,KL,QG,QH,hO,hw,ass,aeg,beq_self_eq_true,Bool.not_true,cond_false,cond_true,Bool.true_and]
   cases k==0 <;> cases k==1 <;> cases k==2 <;> cases Oj ps t <;> cases rk==0 <;> cases row==0 <;> cases ck==0 <;> cases role==0 <;> cases key <;> cases t==0 <;> simp
  ·simp [Gz,z8,hO,hN,allT,n1,n2]
theorem auj{n mode day:Int}(k t rk row ck role:Int)(key:Bool){ps:LI}{fs:L3}{rs:List LI}{lf:L3}{pl ls:L2}(f:RideF n mode day ps fs rs lf pl ls):
  zi k t rk row ck role key ps rs=aeg ps rs k t rk row ck role key∧zj k t ps rs=true:=by
 have n1:ltI 0 (rs.length:Int)=true:=bZ (by have:=f.hl;have:=f.lp;omega)
 have n2:ltN 0 rs.length=true:=cB (by have:=f.hl;have:=f.lp;omega)
 have n3:leN ps.length 9223372036854775807=true:=fk (by have:=f.lp;omega)
 refine⟨?_,?_⟩
 ·simp only [zi,oJ,oK,aeg,cY,Km,Bool.and_true]
  cases hh:Oj ps t with
  |false=>cases k==0 <;> cases k==1 <;> cases k==2 <;> cases rk==0 <;> cases row==0 <;> cases ck==0 <;> cases role==0 <;> cases key <;> cases t==0 <;> simp
  |true=>
   simp only [cond_true,Int.toNat_zero,show ((rs[0]?.getD []).length:Int)=rowsR rs from rfl]
   cases k==0 <;> cases k==1 <;> cases k==2 <;> cases rk==0 <;> cases row==0 <;> cases ck==0 <;> cases role==0 <;> cases key <;> cases t==0 <;> simp
 ·simp [zj,allT,n1,n2,n3]
theorem aoB{n mode day:Int}(k t rk row ck role:Int)(key:Bool){ps:LI}{fs:L3}{rs:List LI}{lf:L3}{pl ls:L2}(f:RideF n mode day ps fs rs lf pl ls):
  lq k t rk row ck role key ps rs=aeg ps rs k t rk row ck role key∧lr k t ps rs=true:=
 auj k t rk row ck role key f
def QK(n t:Int)(ps:LI):Bool:=cv n t ps
theorem an8(n t:Int)(ps:LI):ac n t ps=QK n t ps:=rfl
def anD(n mode:Int)(ps:LI)(fs:L3)(rs:List LI)(lf:L3)(t:Int):Int:=bif !(Int.tmod (ps[t.toNat]?.getD 0) 3==1)then 0 else bif mode !=3 then 1 else bif !aje n ps (HO n ps fs 0) (HO n ps fs 1) t then 2 else bif QK n t ps&& !aa7 (rs[t.toNat]?.getD []) lf then 3 else 0
theorem RideF.rd{n mode day:Int}{ps:LI}{fs:L3}{rs:List LI}{lf:L3}{pl ls:L2}(f:RideF n mode day ps fs rs lf pl ls){t:Int}(ht:Oj ps t=true):
  alG (rs[t.toNat]?.getD []) lf=true∧areR (rs[t.toNat]?.getD [])=true∧((rs[t.toNat]?.getD []).length:Int)=rowsR rs:=by
 have h:=XK.1 ht
 have hlt:t.toNat < rs.length:=by have:=f.hl;omega
 rw [List.getElem?_eq_getElem hlt,Option.getD_some]
 obtain⟨h1,h2⟩:=f.hA _ (List.getElem_mem hlt)
 refine⟨?_,h1,h2⟩
 rw [alG,h1,h2,f.hL];rfl
theorem RideF.tn{n mode day:Int}{ps:LI}{fs:L3}{rs:List LI}{lf:L3}{pl ls:L2}(f:RideF n mode day ps fs rs lf pl ls){t:Int}(ht:Oj ps t=true):
  leI 0 t=true∧ltI t (ps.length:Int)=true∧ltN t.toNat ps.length=true∧ltI t (rs.length:Int)=true∧ltN t.toNat rs.length=true:=by
 have h:=XK.1 ht
 have:=f.hl
 exact⟨bC h.1,bZ (by omega),cB (by omega),bZ (by omega),cB (by omega)⟩
theorem RideF.perm{n mode day:Int}{ps:LI}{fs:L3}{rs:List LI}{lf:L3}{pl ls:L2}(f:RideF n mode day ps fs rs lf pl ls){t:Int}(ht:Oj ps t=true):
  amk n fs=true∧aa6 n ps (HO n ps fs 0) (HO n ps fs 1) t=true:=by
 have hF:=avP f.n1 f.hF
 exact⟨hF,by rw [aa6,acz,f.hT,ht,arw n ps fs 0 f.hT hF,arw n ps fs 1 f.hT hF];rfl⟩
theorem atz{n mode day:Int}{ps:LI}{fs:L3}{rs:List LI}{lf:L3}{pl ls:L2}(f:RideF n mode day ps fs rs lf pl ls){t:Int}(ht:Oj ps t=true):
  Jt n mode t ps fs rs lf=anD n mode ps fs rs lf t∧Td n mode t ps fs rs lf=true:=by
 obtain⟨t1,t2,t3,t4,t5⟩:=f.tn ht
 obtain⟨p1,p2⟩:=f.perm ht
 have hrd:=(f.rd ht).1
 refine⟨?_,?_⟩
 ·simp only [Jt,sX,Wq,PT,Km,anD,QK,bne]
  cases cv n t ps <;> rfl
 ·simp only [Td,PT,Km,qV,t1,t2,t3,t4,t5,p1,p2,hrd,f.hT,allT,Bool.or_true,Bool.and_self,cond_true]
theorem as9{n mode day:Int}{ps:LI}{fs:L3}{rs:List LI}{lf:L3}{pl ls:L2}(f:RideF n mode day ps fs rs lf pl ls){t:Int}(ht:Oj ps t=true):
  kS t n mode ps fs rs lf=anD n mode ps fs rs lf t∧kT t n mode ps fs rs lf=true:=by
 obtain⟨t1,t2,t3,t4,t5⟩:=f.tn ht
 obtain⟨p1,p2⟩:=f.perm ht
 have hrd:=(f.rd ht).1
 have e1:bF t ps=true:=by simp only [bF,t1,t2,t3,allT,cond_true]
 refine⟨?_,?_⟩
 ·simp only [kS,ad,ak,gN,aF,Km,anD,an8]
  cases QK n t ps <;> rfl
 ·have hm:acz n ps t=true:=by rw [acz,f.hT,ht];rfl
  cases hs:QK n t ps <;>
  simp only [kT,oI,gN,aF,an8,hs,Km,e1,t1,t2,t3,t4,t5,p1,p2,hrd,hm,f.hT,allT,Bool.or_true,Bool.and_self,cond_true,cond_false,Bool.not_false,Bool.not_true,Bool.false_and,Bool.true_and,Bool.true_or,Bool.false_or]
end Go.SX

namespace Go.SX
open Go.Proofs
set_option maxRecDepth 100000
def stV(n mode day:Int)(ps:LI)(fs:L3)(rs:List LI)(lf:L3)(pl ls:L2)(k t rk row ck role:Int)(key:Bool):Int:=bif k==0 then anD n mode ps fs rs lf t else bif k==1 then(bif !QK n t ps then 4 else bif !kK (rs[t.toNat]?.getD []) rk row then 5 else 0)else bif vdC mode ck role key !=0 then 6 else bif ck==1&& !ams pl ls day then 7 else 0
def stP(n mode:Int)(ps:LI)(fs:L3)(rs:List LI)(lf:L3)(k t:Int):LI:=bif k==0&&anD n mode ps fs rs lf t==0 then amu n ps t else ps
def stR(n:Int)(ps:LI)(rs:List LI)(k t rk row:Int):List LI:=bif !(k==0)&&(k==1&&(QK n t ps&&kK (rs[t.toNat]?.getD []) rk row))then rs.set t.toNat (Tg (rs[t.toNat]?.getD []) rk row)else rs
def stM(mode day:Int)(pl ls:L2)(k ck role:Int)(key:Bool):Int:=bif k==0||(k==1||(vdC mode ck role key !=0||(ck==1&& !ams pl ls day)))then mode else nxC mode ck role key
theorem TU{ps:LI}{rs:List LI}{k t rk row ck role:Int}{key:Bool}(h:aeg ps rs k t rk row ck role key=true):
  (k=0∧Oj ps t=true)∨(k=1∧Oj ps t=true∧rsB (rowsR rs) rk row=true)∨(k=2∧ak4 ck role=true):=by
 simp only [aeg]at h
 cases h0:k==0 with
 |true=>rw [h0]at h;simp at h;exact .inl ⟨beq_iff_eq.1 h0,h.1⟩
 |false=>
  cases h1:k==1 with
  |true=>rw [h0,h1]at h;simp at h;exact .inr (.inl ⟨beq_iff_eq.1 h1,h.1.1,h.1.2⟩)
  |false=>
   cases h2:k==2 with
   |true=>rw [h0,h1,h2]at h;simp at h;exact .inr (.inr ⟨beq_iff_eq.1 h2,h.2⟩)
   |false=>rw [h0,h1,h2]at h;cases h
theorem api{α:Type}(b:Bool)(x:α):(bif b then x else x)=x:=by cases b <;> rfl
theorem ag7{n mode day:Int}{ps:LI}{fs:L3}{rs:List LI}{lf:L3}{pl ls:L2}(f:RideF n mode day ps fs rs lf pl ls){k t rk row ck role:Int}{key:Bool}(h:aeg ps rs k t rk row ck role key=true):
  NA n mode day k t rk row ck role key ps fs rs lf pl ls=n∧NB n mode day k t rk row ck role key ps fs rs lf pl ls=stM mode day pl ls k ck role key∧
  NC n mode day k t rk row ck role key ps fs rs lf pl ls=day∧JS n mode day k t rk row ck role key ps fs rs lf pl ls=stV n mode day ps fs rs lf pl ls k t rk row ck role key∧
  ND n mode day k t rk row ck role key ps fs rs lf pl ls=stP n mode ps fs rs lf k t∧NE n mode day k t rk row ck role key ps fs rs lf pl ls=fs∧
  NF n mode day k t rk row ck role key ps fs rs lf pl ls=stR n ps rs k t rk row∧NG n mode day k t rk row ck role key ps fs rs lf pl ls=lf∧
  NH n mode day k t rk row ck role key ps fs rs lf pl ls=pl∧NI n mode day k t rk row ck role key ps fs rs lf pl ls=ls∧
  PU n mode day k t rk row ck role key ps fs rs lf pl ls=true:=by
 obtain⟨o1,o2⟩:=apk n mode day f.cp
 simp only [kY,gC,jQ,kZ,NA,NB,NC,JS,ND,NE,NF,NG,NH,NI,PU,o1,o2,Km,stM,stV,stP,stR]
 rcases TU h with⟨rfl,ht⟩ | ⟨rfl,ht,hr⟩ | ⟨rfl,hc⟩
 ·obtain⟨m1,m2⟩:=atz f ht
  have hm:acz n ps t=true:=by rw [acz,f.hT,ht];rfl
  simp [m1,m2,hm,allT]
 ·obtain⟨t1,t2,t3,t4,t5⟩:=f.tn ht
  obtain⟨_,r1,r2⟩:=f.rd ht
  have hrn:alK (rs[t.toNat]?.getD []) rk row=true:=by rw [alK,r1,r2,hr];rfl
  have e1:qV t ps=true:=by simp only [qV,t1,t2,t3,allT,cond_true]
  simp only [show ∀ x y,cv x y ps=QK x y ps from fun _ _=>rfl]
  cases QK n t ps <;> cases kK (rs[t.toNat]?.getD []) rk row <;> simp [t1,t2,t3,t4,t5,hrn,e1,allT]
 ·have hv:ae7 mode ck=true:=by
   have:=f.hM
   simp only [ak4,Bool.and_eq_true]at hc
   rw [ae7,hc.1,sR.2 (by omega)];rfl
  have l1:pl.length≤9223372036854775807:=by have:=f.lpl;omega
  have l2:ls.length≤9223372036854775807:=by have:=f.lls;omega
  cases vdC mode ck role key !=0 <;> cases ck==1 <;> cases ams pl ls day <;> simp [hv,l1,l2,allT]
theorem avn(rs:List LI)(i:Nat)(h:i < rs.length):rs.set i (rs[i]?.getD [])=rs:=by
 rw [List.getElem?_eq_getElem h,Option.getD_some];exact List.set_getElem_self h
theorem adm{n mode day:Int}{ps:LI}{fs:L3}{rs:List LI}{lf:L3}{pl ls:L2}(f:RideF n mode day ps fs rs lf pl ls){k t rk row ck role:Int}{key:Bool}(h:aeg ps rs k t rk row ck role key=true):
  cZ k t rk row ck role key n mode day ps fs rs lf pl ls=stV n mode day ps fs rs lf pl ls k t rk row ck role key∧
  c8 k t rk row ck role key n mode day ps fs rs lf pl ls=n∧c9 k t rk row ck role key n mode day ps fs rs lf pl ls=stM mode day pl ls k ck role key∧
  da k t rk row ck role key n mode day ps fs rs lf pl ls=day∧db k t rk row ck role key n mode day ps fs rs lf pl ls=stP n mode ps fs rs lf k t∧
  dc k t rk row ck role key n mode day ps fs rs lf pl ls=fs∧dd k t rk row ck role key n mode day ps rs pl ls=stR n ps rs k t rk row∧
  de k t rk row ck role key n mode day ps fs rs lf pl ls=lf∧df k t rk row ck role key n mode day ps fs rs lf pl ls=pl∧
  dg k t rk row ck role key n mode day ps fs rs lf pl ls=ls∧eq k t rk row ck role key n mode day ps fs rs lf pl ls=true:=by
 rcases TU h with⟨rfl,ht⟩ | ⟨rfl,ht,hr⟩ | ⟨rfl,hc⟩
 ·obtain⟨m1,m2⟩:=as9 f ht
  refine⟨?_,?_,?_,?_,?_,?_,?_,?_,?_,?_,?_⟩
  ·simp [cZ,m1,stV]
  ·simp [c8,rj,api]
  ·simp [c9,rl,api,stM]
  ·simp [da,rm,api]
  ·simp only [db,rn,ak,gN,aF,ad,Km,an8,stP,anD]
   cases hs:QK n t ps <;> cases Int.tmod (ps[t.toNat]?.getD 0) 3==1 <;> cases mode !=3 <;> cases aje n ps (HO n ps fs 0) (HO n ps fs 1) t <;> cases hb:aa7 (rs[t.toNat]?.getD []) lf <;> simp [hb]
  ·simp [dc,ro,api]
  ·simp [dd,stR]
  ·simp [de,rp,qO,api]
  ·simp [df,rq,api]
  ·simp [dg,rr,api]
  ·simp [eq,m2,allT]
 ·obtain⟨t1,t2,t3,t4,t5⟩:=f.tn ht
  obtain⟨_,r1,r2⟩:=f.rd ht
  have hrn:alK (rs[t.toNat]?.getD []) rk row=true:=by rw [alK,r1,r2,hr];rfl
  have e1:bF t ps=true:=by simp only [bF,t1,t2,t3,allT,cond_true]
  have hset:=avn rs t.toNat (by have:=aq0.1 t5;omega)
  simp only [cZ,c8,c9,da,db,dc,dd,de,df,dg,eq,al,mL,nJ,nK,nL,nM,nN,nO,nP,nQ,nR,nS,mK,Km,an8,stM,stV,stP,stR]
  cases QK n t ps <;> cases kK (rs[t.toNat]?.getD []) rk row <;> simp [t1,t2,t3,t4,t5,hrn,e1,hset,allT]
 ·have hv:ae7 mode ck=true:=by
   have:=f.hM
   simp only [ak4,Bool.and_eq_true]at hc
   rw [ae7,hc.1,sR.2 (by omega)];rfl
  have l1:pl.length≤9223372036854775807:=by have:=f.lpl;omega
  have l2:ls.length≤9223372036854775807:=by have:=f.lls;omega
  simp only [cZ,c8,c9,da,db,dc,dd,de,df,dg,eq,aB,aE,dm,oy,oz,oA,oB,oC,oD,oE,oF,oG,oH,nI,stM,stV,stP,stR]
  cases vdC mode ck role key !=0 <;> cases ck==1 <;> cases ams pl ls day <;> simp [hv,l1,l2,allT]
end Go.SX

namespace Go.SX
open Go.Proofs
set_option maxRecDepth 100000
theorem alQ(st:LI)(k row:Int):(Tg st k row).length=st.length:=by
 unfold Tg;cases k==0||k==1 <;> simp
theorem atB{st:LI}{k row:Int}(h:areR st=true)(hk:(k=0∨k=1)∨k=2∨k=3):areR (Tg st k row)=true:=by
 obtain⟨h1,h2⟩:=Ft.1 h
 refine Ft.2 ⟨by rw [alQ];exact h1,fun v hv=> ?_⟩
 unfold Tg at hv
 rcases hk with hk | rfl | rfl
 ·rw [show (k==0||k==1)=true from by rcases hk with rfl | rfl <;> rfl,cond_true]at hv
  rcases List.mem_or_eq_of_mem_set hv with hv | rfl
  ·exact h2 v hv
  ·omega
 ·simp at hv;omega
 ·simp at hv;omega
theorem awB{rs:List LI}{i:Nat}{v:LI}(h:rsOk rs=true)(hv:areR v=true)(hl:(v.length:Int)=rowsR rs)(hi:i < rs.length):rowsR (rs.set i v)=rowsR rs∧rsOk (rs.set i v)=true:=by
 have h1:rowsR (rs.set i v)=rowsR rs:=by
  unfold rowsR
  rw [List.getElem?_set]
  cases i with
  |zero=>rw [if_pos rfl,if_pos hi,Option.getD_some];exact hl
  |succ i=>simp
 refine⟨h1,?_⟩
 simp only [rsOk,List.all_eq_true,Bool.and_eq_true,beq_iff_eq]at h ⊢
 intro x hx
 rw [h1]
 rcases List.mem_or_eq_of_mem_set hx with hx | rfl
 ·exact h x hx
 ·exact⟨hv,hl⟩
theorem awf: ∀ a:Fin 10,0≤toC (a.val:Int)∧toC (a.val:Int)≤5:=by decide
theorem atC{n mode day:Int}{ps:LI}{fs:L3}{rs:List LI}{lf:L3}{pl ls:L2}(f:RideF n mode day ps fs rs lf pl ls){k t rk row ck role:Int}{key:Bool}(h:aeg ps rs k t rk row ck role key=true):
  RideF n (stM mode day pl ls k ck role key) day (stP n mode ps fs rs lf k t) fs (stR n ps rs k t rk row) lf pl ls∧rowsR (stR n ps rs k t rk row)=rowsR rs∧(stP n mode ps fs rs lf k t).length=ps.length:=by
 have hp:isT n (stP n mode ps fs rs lf k t)=true∧(stP n mode ps fs rs lf k t).length=ps.length:=by
  unfold stP
  cases k==0&&anD n mode ps fs rs lf t==0 with
  |true=>exact⟨avT f.hT t,anv n ps t⟩
  |false=>exact⟨f.hT,rfl⟩
 have hr:rsOk (stR n ps rs k t rk row)=true∧rowsR (stR n ps rs k t rk row)=rowsR rs∧(stR n ps rs k t rk row).length=rs.length:=by
  unfold stR
  cases hc: !(k==0)&&(k==1&&(QK n t ps&&kK (rs[t.toNat]?.getD []) rk row))with
  |false=>exact⟨f.hR,rfl,rfl⟩
  |true=>
   simp only [Bool.and_eq_true,beq_iff_eq]at hc
   rcases TU h with⟨rfl,_⟩ | ⟨rfl,ht,hb⟩ | ⟨rfl,_⟩
   ·simp at hc
   ·obtain⟨_,r1,r2⟩:=f.rd ht
    have hrn:alK (rs[t.toNat]?.getD []) rk row=true:=by rw [alK,r1,r2,hb];rfl
    have hk:=(ape hrn).2.2
    have hi:t.toNat < rs.length:=aq0.1 (f.tn ht).2.2.2.2
    obtain⟨q1,q2⟩:=awB (v:=Tg (rs[t.toNat]?.getD []) rk row) f.hR (atB r1 (by rcases hk with hk | hk;exact .inl hk.1;exact .inr hk.1)) (by rw [alQ];exact r2) hi
    exact⟨q2,q1,by simp⟩
   ·have:=hc.2.1;cases this
 have hm:0≤stM mode day pl ls k ck role key∧stM mode day pl ls k ck role key≤5:=by
  unfold stM
  cases hc:k==0||(k==1||(vdC mode ck role key !=0||(ck==1&& !ams pl ls day)))with
  |true=>exact f.hM
  |false=>
   rcases TU h with⟨rfl,_⟩ | ⟨rfl,_,_⟩ | ⟨rfl,hcm⟩
   ·simp at hc
   ·simp at hc
   ·rw [cond_false,nxC]
    cases vdC mode ck role key==0 with
    |false=>exact f.hM
    |true=>
     simp only [ak4,Bool.and_eq_true,sR]at hcm
     have:=awf ⟨ck.toNat,by omega⟩
     simp only [Int.toNat_of_nonneg hcm.1.1]at this
     exact this
 refine⟨⟨hp.1,f.hF,by rw [hr.2.2,hp.2];exact f.hl,hr.1,by rw [hr.2.1];exact f.hL,hm,f.hP,f.hK,f.hD,f.n1,by rw [hp.2];exact f.lp,f.lfs,f.llf,f.lpl,f.lls,fun x hx=> ?_⟩,hr.2.1,hp.2⟩
 have h4:=hr.1
 simp only [rsOk,List.all_eq_true,Bool.and_eq_true,beq_iff_eq]at h4
 exact h4 x hx
end Go.SX

namespace Go.SX
open Go.Proofs
set_option maxRecDepth 100000
def Cs(y2 y3 y4:Int)(y8:List Int)(y9:List (Int×(Int×Int)))(y10:List (List Int))(y11:List (Int×(Int×Int)))(y12 y13:List (Int×Int))(b:Int×(Int×((Int×Int)×(Int×(Int×Bool))))):(Unit)→Nat ⊕ (Unit)
 |_=>(bif(!Av y2 y3 y4 b.1 (b.2.1) (b.2.2.1.1) (b.2.2.1.2) (b.2.2.2.1) (b.2.2.2.2.1) b.2.2.2.2.2 y8 y9 y10 y11 y12 y13)then(.inl 0)else(.inr ()))
def vf(y1:List (Int×(Int×((Int×Int)×(Int×(Int×Bool))))))(y2 y3 y4 y5 y6 y7:Int)(y8:List Int)(y9:List (Int×(Int×Int)))(y10:List (List Int))(y11:List (Int×(Int×Int)))(y12 y13:List (Int×Int))(y14:List Int)(y15:List (Int×(Int×Int)))(y16:List (List Int))(y17:List (Int×(Int×Int)))(y18 y19:List (Int×Int))(i:Nat):(Unit)→mZ
 |_=>((i:Int),y1,y2,y3,y4,y5,y6,y7,y8,y9,y10,y11,y12,y13,y14,y15,y16,y17,y18,y19)
def SA:mZ→Unit
 |(_,_,_,_,_,_,_,_,_,_,_,_,_,_,_,_,_,_,_,_)=>()
theorem ana(y1:List (Int×(Int×((Int×Int)×(Int×(Int×Bool))))))(y2 y3 y4 y5 y6 y7:Int)(y8:List Int)(y9:List (Int×(Int×Int)))(y10:List (List Int))(y11:List (Int×(Int×Int)))(y12 y13:List (Int×Int))(y14:List Int)(y15:List (Int×(Int×Int)))(y16:List (List Int))(y17:List (Int×(Int×Int)))(y18 y19:List (Int×Int)) (hn:y1.length≤9223372036854775807) (f:RideF y2 y3 y4 y8 y9 y10 y11 y12 y13):
  eM.fin ((0:Int),y1,y2,y3,y4,y5,y6,y7,y8,y9,y10,y11,y12,y13,y14,y15,y16,y17,y18,y19)=true∧eM.res ((0:Int),y1,y2,y3,y4,y5,y6,y7,y8,y9,y10,y11,y12,y13,y14,y15,y16,y17,y18,y19)=((ae (Cs y2 y3 y4 y8 y9 y10 y11 y12 y13) 1 y1 0 ()).1,(vf y1 y2 y3 y4 y5 y6 y7 y8 y9 y10 y11 y12 y13 y14 y15 y16 y17 y18 y19) (ae (Cs y2 y3 y4 y8 y9 y10 y11 y12 y13) 1 y1 0 ()).2.1 (ae (Cs y2 y3 y4 y8 y9 y10 y11 y12 y13) 1 y1 0 ()).2.2):=by
 have key:=eM.along (vf y1 y2 y3 y4 y5 y6 y7 y8 y9 y10 y11 y12 y13 y14 y15 y16 y17 y18 y19) SA (Cs y2 y3 y4 y8 y9 y10 y11 y12 y13) 1 (fun _ _=>True) y1 () (by trivial) (by simp only [eM,vf];omega) (fun i b a hb hI=> ?_) (fun a hI=> ?_)
 ·exact key
 ·obtain⟨⟩:=a
  have hlt:=(List.getElem?_eq_some_iff.1 hb).1
  have hget: ∀ d,Option.getD y1[i]? d=b:=fun d=>by rw [hb];rfl
  have hw:=oW hlt hn
  have hdec:ltI (i:Int) (y1.length:Int)=true:=bZ (by omega)
  have hnn:leI (0:Int) (i:Int)=true:=bC (by omega)
  have hltd:ltN i y1.length=true:=cB hlt
  refine⟨?_,?_,?_,?_⟩
  ·have e:=(aqs y2 y3 y4 b.1 b.2.1 b.2.2.1.1 b.2.2.1.2 b.2.2.2.1 b.2.2.2.2.1 b.2.2.2.2.2 y8 y9 y10 y11 y12 y13 f.rN).2
   simp [Ay,Az,AA,AB,rF,AC,CW,JF,JG,JH,JI,JJ,Gu,eM,LT.nds,allT,vf,hdec,hnn,hltd,hget,e]
  ·simp [Ay,Az,AA,AB,rF,AC,CW,JF,JG,JH,JI,JJ,Gu,eM,LT.each,vf,SA,hw]
  ·simp only [Ay,Az,AA,AB,rF,AC,CW,JF,JG,JH,JI,JJ,Gu,eM,LT.fn,vf,SA,Cs,Int.toNat_natCast,hdec,hnn,hltd,hget,cond_true,Bool.cond_self]
  ·exact fun _ _=>trivial
 ·obtain⟨⟩:=a
  simp [Ay,Az,AA,AB,rF,AC,CW,JF,JG,JH,JI,JJ,Gu,eM,LT.out,vf]
theorem aps{A B S:Type}{f:B→A→Nat ⊕ A}{g:S→B→S}{emb:S→A}{Inv:S→Prop}{e:Nat}: ∀ {r:List B} {i:Nat} {s:S},(∀ b∈r,∀ s,Inv s→f b (emb s)= .inr (emb (g s b))∧Inv (g s b))→Inv s→
  ae f e r i (emb s)=(e,i + r.length,emb (r.foldl g s))∧Inv (r.foldl g s)
 | [],i,s,_,h=>⟨rfl,h⟩
 |b::r,i,s,hf,h=>by
  obtain⟨h1,h2⟩:=hf b (by simp) s h
  obtain⟨g1,g2⟩:=aps (r:=r) (i:=i + 1) (s:=g s b) (e:=e) (fun c hc=>hf c (by simp [hc])) h2
  refine⟨?_,g2⟩
  simp only [ae,h1,g1,List.foldl_cons,List.length_cons]
  rw [Nat.add_right_comm,Nat.add_assoc]
abbrev RS:=Int×LI×List LI×LI×Int
def isX(ps:LI)(rs:List LI)(x:RX):Bool:=aeg ps rs x.1 x.2.1 x.2.2.1.1 x.2.2.1.2 x.2.2.2.1 x.2.2.2.2.1 x.2.2.2.2.2
def vX(n day:Int)(fs lf:L3)(pl ls:L2)(s:RS)(x:RX):Int:=stV n s.1 day s.2.1 fs s.2.2.1 lf pl ls x.1 x.2.1 x.2.2.1.1 x.2.2.1.2 x.2.2.2.1 x.2.2.2.2.1 x.2.2.2.2.2
def stX(n day:Int)(fs lf:L3)(pl ls:L2)(s:RS)(x:RX):RS:=(stM s.1 day pl ls x.1 x.2.2.2.1 x.2.2.2.2.1 x.2.2.2.2.2,stP n s.1 s.2.1 fs s.2.2.1 lf x.1 x.2.1,stR n s.2.1 s.2.2.1 x.1 x.2.1 x.2.2.1.1 x.2.2.1.2,s.2.2.2.1++ [vX n day fs lf pl ls s x],bif x.1==0&&(vX n day fs lf pl ls s x==0&&QK n x.2.1 s.2.1)then IntKind.i64.wrap (s.2.2.2.2 + 1)else s.2.2.2.2)
theorem au8{ps ps':LI}{rs rs':List LI}(h1:ps'.length=ps.length)(h2:rowsR rs'=rowsR rs)(x:RX):isX ps' rs' x=isX ps rs x:=by
 simp only [isX,aeg,Oj,h1,h2]
def al3(n day:Int)(fs lf:L3)(pl ls:L2)(ps0:LI)(rs0:List LI)(i:Nat)(s:RS):Prop:=RideF n s.1 day s.2.1 fs s.2.2.1 lf pl ls∧s.2.1.length=ps0.length∧rowsR s.2.2.1=rowsR rs0∧s.2.2.2.1.length≤i
theorem Od{n day:Int}{fs lf:L3}{pl ls:L2}{ps0:LI}{rs0:List LI}{i:Nat}{s:RS}(hI:al3 n day fs lf pl ls ps0 rs0 i s){x:RX}(hx:isX ps0 rs0 x=true):
  isX s.2.1 s.2.2.1 x=true∧al3 n day fs lf pl ls ps0 rs0 (i + 1) (stX n day fs lf pl ls s x):=by
 obtain⟨f,h1,h2,h3⟩:=hI
 have hx':isX s.2.1 s.2.2.1 x=true:=by rw [au8 h1 h2];exact hx
 obtain⟨k1,k2,k3⟩:=atC f hx'
 refine⟨hx',k1,by rw [← h1];exact k3,by rw [← h2];exact k2,?_⟩
 simp only [stX,List.length_append,List.length_cons,List.length_nil];omega
end Go.SX

namespace Go.SX
open Go.Proofs
set_option maxRecDepth 100000
def amc(n day:Int)(fs lf:L3)(pl ls:L2)(s:RS):Int×Int×Int×Int×LI×LI×L3×List LI×L3×L2×L2:=(s.2.2.2.2,n,s.1,day,s.2.2.2.1,s.2.1,fs,s.2.2.1,lf,pl,ls)
def qx(b:Int×(Int×((Int×Int)×(Int×(Int×Bool))))):(Int×Int×Int×Int×List Int×List Int×List (Int×(Int×Int))×List (List Int)×List (Int×(Int×Int))×List (Int×Int)×List (Int×Int))→Nat ⊕ (Int×Int×Int×Int×List Int×List Int×List (Int×(Int×Int))×List (List Int)×List (Int×(Int×Int))×List (Int×Int)×List (Int×Int))
 |(y1,y3,y4,y5,y6,y7,y8,y9,y10,y11,y12)=>(.inr ((bif bif(bif(b.1)==(0:Int)then(JS y3 y4 y5 b.1 (b.2.1) (b.2.2.1.1) (b.2.2.1.2) (b.2.2.2.1) (b.2.2.2.2.1) b.2.2.2.2.2 y7 y8 y9 y10 y11 y12)==(0:Int)else false)then cv y3 (b.2.1) y7 else false then IntKind.wrap .i64 (y1 + (1:Int))else y1),(NA y3 y4 y5 b.1 (b.2.1) (b.2.2.1.1) (b.2.2.1.2) (b.2.2.2.1) (b.2.2.2.2.1) b.2.2.2.2.2 y7 y8 y9 y10 y11 y12),(NB y3 y4 y5 b.1 (b.2.1) (b.2.2.1.1) (b.2.2.1.2) (b.2.2.2.1) (b.2.2.2.2.1) b.2.2.2.2.2 y7 y8 y9 y10 y11 y12),(NC y3 y4 y5 b.1 (b.2.1) (b.2.2.1.1) (b.2.2.1.2) (b.2.2.2.1) (b.2.2.2.2.1) b.2.2.2.2.2 y7 y8 y9 y10 y11 y12),(y6++([(JS y3 y4 y5 b.1 (b.2.1) (b.2.2.1.1) (b.2.2.1.2) (b.2.2.2.1) (b.2.2.2.2.1) b.2.2.2.2.2 y7 y8 y9 y10 y11 y12)])),(ND y3 y4 y5 b.1 (b.2.1) (b.2.2.1.1) (b.2.2.1.2) (b.2.2.2.1) (b.2.2.2.2.1) b.2.2.2.2.2 y7 y8 y9 y10 y11 y12),(NE y3 y4 y5 b.1 (b.2.1) (b.2.2.1.1) (b.2.2.1.2) (b.2.2.2.1) (b.2.2.2.2.1) b.2.2.2.2.2 y7 y8 y9 y10 y11 y12),(NF y3 y4 y5 b.1 (b.2.1) (b.2.2.1.1) (b.2.2.1.2) (b.2.2.2.1) (b.2.2.2.2.1) b.2.2.2.2.2 y7 y8 y9 y10 y11 y12),(NG y3 y4 y5 b.1 (b.2.1) (b.2.2.1.1) (b.2.2.1.2) (b.2.2.2.1) (b.2.2.2.2.1) b.2.2.2.2.2 y7 y8 y9 y10 y11 y12),(NH y3 y4 y5 b.1 (b.2.1) (b.2.2.1.1) (b.2.2.1.2) (b.2.2.2.1) (b.2.2.2.2.1) b.2.2.2.2.2 y7 y8 y9 y10 y11 y12),(NI y3 y4 y5 b.1 (b.2.1) (b.2.2.1.1) (b.2.2.1.2) (b.2.2.2.1) (b.2.2.2.2.1) b.2.2.2.2.2 y7 y8 y9 y10 y11 y12)))
def ov(y2:List (Int×(Int×((Int×Int)×(Int×(Int×Bool))))))(i:Nat):(Int×Int×Int×Int×List Int×List Int×List (Int×(Int×Int))×List (List Int)×List (Int×(Int×Int))×List (Int×Int)×List (Int×Int))→m0
 |(y1,y3,y4,y5,y6,y7,y8,y9,y10,y11,y12)=>((i:Int),y1,y2,y3,y4,y5,y6,y7,y8,y9,y10,y11,y12)
def SB:m0→Int×Int×Int×Int×List Int×List Int×List (Int×(Int×Int))×List (List Int)×List (Int×(Int×Int))×List (Int×Int)×List (Int×Int)
 |(_,y1,_,y3,y4,y5,y6,y7,y8,y9,y10,y11,y12)=>(y1,y3,y4,y5,y6,y7,y8,y9,y10,y11,y12)
theorem anb(y2:List (Int×(Int×((Int×Int)×(Int×(Int×Bool))))))(y1 y3 y4 y5:Int)(y6 y7:List Int)(y8:List (Int×(Int×Int)))(y9:List (List Int))(y10:List (Int×(Int×Int)))(y11 y12:List (Int×Int))(hn:y2.length≤9223372036854775807)(n day:Int)(fs lf:L3)(pl ls:L2)(ps0:LI)(rs0:List LI)(hX: ∀ x∈y2,isX ps0 rs0 x=true)(s0:RS)(hs0:(y1,y3,y4,y5,y6,y7,y8,y9,y10,y11,y12)=amc n day fs lf pl ls s0)(hi0:al3 n day fs lf pl ls ps0 rs0 0 s0)(h200:y2.length≤200):
  eN.fin ((0:Int),y1,y2,y3,y4,y5,y6,y7,y8,y9,y10,y11,y12)=true∧eN.res ((0:Int),y1,y2,y3,y4,y5,y6,y7,y8,y9,y10,y11,y12)=((ae (qx) 0 y2 0 (y1,y3,y4,y5,y6,y7,y8,y9,y10,y11,y12)).1,(ov y2) (ae (qx) 0 y2 0 (y1,y3,y4,y5,y6,y7,y8,y9,y10,y11,y12)).2.1 (ae (qx) 0 y2 0 (y1,y3,y4,y5,y6,y7,y8,y9,y10,y11,y12)).2.2):=by
 have key:=eN.along (ov y2) SB (qx) 0 (fun i a=> ∃ s,a=amc n day fs lf pl ls s∧al3 n day fs lf pl ls ps0 rs0 i s) y2 (y1,y3,y4,y5,y6,y7,y8,y9,y10,y11,y12) ⟨s0,hs0,hi0⟩ (by simp only [eN,ov];omega) (fun i b a hb hI=> ?_) (fun a hI=> ?_)
 ·exact key
 ·obtain⟨y1,y3,y4,y5,y6,y7,y8,y9,y10,y11,y12⟩:=a
  have hlt:=(List.getElem?_eq_some_iff.1 hb).1
  have hget: ∀ d,Option.getD y2[i]? d=b:=fun d=>by rw [hb];rfl
  have hw:=oW hlt hn
  have hdec:ltI (i:Int) (y2.length:Int)=true:=bZ (by omega)
  have hnn:leI (0:Int) (i:Int)=true:=bC (by omega)
  have hltd:ltN i y2.length=true:=cB hlt
  refine⟨?_,?_,?_,?_⟩
  ·have hm:=hX b (List.mem_of_getElem? hb)
   obtain⟨s,he,hI⟩:=hI
   obtain⟨hx,_⟩:=Od hI hm
   obtain⟨o0,o1,o2,o3,o4,o5,o6,o7,o8,o9,o10⟩:=ag7 hI.1 hx
   simp only [amc,Prod.mk.injEq]at he
   obtain⟨rfl,rfl,rfl,rfl,rfl,rfl,rfl,rfl,rfl,rfl,rfl⟩:=he
   have hlen:s.2.2.2.1.length≤i:=hI.2.2.2
   have hst:b.1=0→qV b.2.1 s.2.1=true:=fun h0=>by
    rcases TU hx with⟨_,ht⟩ | ⟨h1,_⟩ | ⟨h1,_⟩
    ·obtain⟨t1,t2,t3,_⟩:=hI.1.tn ht
     simp only [qV,t1,t2,t3,allT,cond_true]
    ·rw [h0]at h1;cases h1
    ·rw [h0]at h1;cases h1
   have hst2:b.1=0→(0≤b.2.1∧b.2.1 < s.2.1.length)∧b.2.1.toNat < s.2.1.length:=fun h0=>by
    rcases TU hx with⟨_,ht⟩ | ⟨h1,_⟩ | ⟨h1,_⟩
    ·have:=XK.1 ht;omega
    ·rw [h0]at h1;cases h1
    ·rw [h0]at h1;cases h1
   have h6:leN (s.2.2.2.1.length + 1) 9223372036854775807=true:=fk (by omega)
   have h7:leN ((s.2.2.2.1.length + 1) * 8) 140737488355328=true:=fk (by omega)
   simp [AD,AE,AF,dV,AG,dl,rG,eZ,fa,fb,aT,xT,xU,qj,tk,xS,CX,CY,JK,JM,JN,JO,JP,JQ,JR,GV,GW,GX,GY,GZ,Ha,Hb,Hc,Hd,He,Hf,Hg,Gv,eN,LT.nds,allT,ov,amc,hdec,hnn,hltd,hget,o0,o1,o2,o3,o4,o5,o6,o7,o8,o9,o10,h6,h7]
   by_cases h0:b.1=0
   ·exact .inr (hst h0)
   ·exact .inl (.inl h0)
  ·simp [AD,AE,AF,dV,AG,dl,rG,eZ,fa,fb,aT,xT,xU,qj,tk,xS,CX,CY,JK,JM,JN,JO,JP,JQ,JR,GV,GW,GX,GY,GZ,Ha,Hb,Hc,Hd,He,Hf,Hg,Gv,eN,LT.each,ov,SB,hw]
  ·simp only [AD,AE,AF,dV,AG,dl,rG,eZ,fa,fb,aT,xT,xU,qj,tk,xS,CX,CY,JK,JM,JN,JO,JP,JQ,JR,GV,GW,GX,GY,GZ,Ha,Hb,Hc,Hd,He,Hf,Hg,Gv,eN,LT.fn,ov,SB,qx,Int.toNat_natCast,hdec,hnn,hltd,hget,cond_true,Bool.cond_self]
  ·intro a' hf
   obtain⟨s,he,hI⟩:=hI
   have hm:=hX b (List.mem_of_getElem? hb)
   obtain⟨hx,hk⟩:=Od hI hm
   obtain⟨o0,o1,o2,o3,o4,o5,o6,o7,o8,o9,o10⟩:=ag7 hI.1 hx
   refine⟨stX n day fs lf pl ls s b,?_,hk⟩
   rw [he]at hf
   simp only [amc,qx,Sum.inr.injEq,o0,o1,o2,o3,o4,o5,o6,o7,o8,o9]at hf
   rw [← hf]
   simp only [amc,stX,vX,QK]
   generalize stV n s.1 day s.2.1 fs s.2.2.1 lf pl ls b.1 b.2.1 b.2.2.1.1 b.2.2.1.2 b.2.2.2.1 b.2.2.2.2.1 b.2.2.2.2.2=v
   cases b.1==0 <;> cases v==0 <;> rfl
 ·obtain⟨y1,y3,y4,y5,y6,y7,y8,y9,y10,y11,y12⟩:=a
  simp [AD,AE,AF,dV,AG,dl,rG,eZ,fa,fb,aT,xT,xU,qj,tk,xS,CX,CY,JK,JM,JN,JO,JP,JQ,JR,GV,GW,GX,GY,GZ,Ha,Hb,Hc,Hd,He,Hf,Hg,Gv,eN,LT.out,ov]
end Go.SX

namespace Go.SX
open Go.Proofs
set_option maxRecDepth 100000
def aop(n day:Int)(fs lf:L3)(pl ls:L2)(s:RS):LI×Int×Int×Int×LI×L3×List LI×L3×L2×L2:=(s.2.2.2.1,n,s.1,day,s.2.1,fs,s.2.2.1,lf,pl,ls)
def lJ(b:Int×(Int×((Int×Int)×(Int×(Int×Bool))))):(List Int×Int×Int×Int×List Int×List (Int×(Int×Int))×List (List Int)×List (Int×(Int×Int))×List (Int×Int)×List (Int×Int))→Nat ⊕ (List Int×Int×Int×Int×List Int×List (Int×(Int×Int))×List (List Int)×List (Int×(Int×Int))×List (Int×Int)×List (Int×Int))
 |(y3,y4,y5,y6,y7,y8,y9,y10,y11,y12)=>(.inr ((y3++([cZ b.1 (b.2.1) (b.2.2.1.1) (b.2.2.1.2) (b.2.2.2.1) (b.2.2.2.2.1) b.2.2.2.2.2 y4 y5 y6 y7 y8 y9 y10 y11 y12])),(c8 b.1 (b.2.1) (b.2.2.1.1) (b.2.2.1.2) (b.2.2.2.1) (b.2.2.2.2.1) b.2.2.2.2.2 y4 y5 y6 y7 y8 y9 y10 y11 y12),(c9 b.1 (b.2.1) (b.2.2.1.1) (b.2.2.1.2) (b.2.2.2.1) (b.2.2.2.2.1) b.2.2.2.2.2 y4 y5 y6 y7 y8 y9 y10 y11 y12),(da b.1 (b.2.1) (b.2.2.1.1) (b.2.2.1.2) (b.2.2.2.1) (b.2.2.2.2.1) b.2.2.2.2.2 y4 y5 y6 y7 y8 y9 y10 y11 y12),(db b.1 (b.2.1) (b.2.2.1.1) (b.2.2.1.2) (b.2.2.2.1) (b.2.2.2.2.1) b.2.2.2.2.2 y4 y5 y6 y7 y8 y9 y10 y11 y12),(dc b.1 (b.2.1) (b.2.2.1.1) (b.2.2.1.2) (b.2.2.2.1) (b.2.2.2.2.1) b.2.2.2.2.2 y4 y5 y6 y7 y8 y9 y10 y11 y12),(dd b.1 (b.2.1) (b.2.2.1.1) (b.2.2.1.2) (b.2.2.2.1) (b.2.2.2.2.1) b.2.2.2.2.2 y4 y5 y6 y7 y9 y11 y12),(de b.1 (b.2.1) (b.2.2.1.1) (b.2.2.1.2) (b.2.2.2.1) (b.2.2.2.2.1) b.2.2.2.2.2 y4 y5 y6 y7 y8 y9 y10 y11 y12),(df b.1 (b.2.1) (b.2.2.1.1) (b.2.2.1.2) (b.2.2.2.1) (b.2.2.2.2.1) b.2.2.2.2.2 y4 y5 y6 y7 y8 y9 y10 y11 y12),(dg b.1 (b.2.1) (b.2.2.1.1) (b.2.2.1.2) (b.2.2.2.1) (b.2.2.2.2.1) b.2.2.2.2.2 y4 y5 y6 y7 y8 y9 y10 y11 y12)))
def mE(y2:List (Int×(Int×((Int×Int)×(Int×(Int×Bool))))))(i:Nat):(List Int×Int×Int×Int×List Int×List (Int×(Int×Int))×List (List Int)×List (Int×(Int×Int))×List (Int×Int)×List (Int×Int))→lC
 |(y3,y4,y5,y6,y7,y8,y9,y10,y11,y12)=>((i:Int),(↑y2.length:Int),y2,y3,y4,y5,y6,y7,y8,y9,y10,y11,y12)
def Qn:lC→List Int×Int×Int×Int×List Int×List (Int×(Int×Int))×List (List Int)×List (Int×(Int×Int))×List (Int×Int)×List (Int×Int)
 |(_,_,_,y3,y4,y5,y6,y7,y8,y9,y10,y11,y12)=>(y3,y4,y5,y6,y7,y8,y9,y10,y11,y12)
theorem alS(y2:List (Int×(Int×((Int×Int)×(Int×(Int×Bool))))))(y3:List Int)(y4 y5 y6:Int)(y7:List Int)(y8:List (Int×(Int×Int)))(y9:List (List Int))(y10:List (Int×(Int×Int)))(y11 y12:List (Int×Int))(hn:y2.length≤9223372036854775807)(n day:Int)(fs lf:L3)(pl ls:L2)(ps0:LI)(rs0:List LI)(hX: ∀ x∈y2,isX ps0 rs0 x=true)(s0:RS)(hs0:(y3,y4,y5,y6,y7,y8,y9,y10,y11,y12)=aop n day fs lf pl ls s0)(hi0:al3 n day fs lf pl ls ps0 rs0 0 s0)(h200:y2.length≤200):
  dN.fin ((0:Int),(↑y2.length:Int),y2,y3,y4,y5,y6,y7,y8,y9,y10,y11,y12)=true∧dN.res ((0:Int),(↑y2.length:Int),y2,y3,y4,y5,y6,y7,y8,y9,y10,y11,y12)=((ae (lJ) 0 y2 0 (y3,y4,y5,y6,y7,y8,y9,y10,y11,y12)).1,(mE y2) (ae (lJ) 0 y2 0 (y3,y4,y5,y6,y7,y8,y9,y10,y11,y12)).2.1 (ae (lJ) 0 y2 0 (y3,y4,y5,y6,y7,y8,y9,y10,y11,y12)).2.2):=by
 have key:=dN.along (mE y2) Qn (lJ) 0 (fun i a=> ∃ s,a=aop n day fs lf pl ls s∧al3 n day fs lf pl ls ps0 rs0 i s) y2 (y3,y4,y5,y6,y7,y8,y9,y10,y11,y12) ⟨s0,hs0,hi0⟩ (by simp only [dN,mE];omega) (fun i b a hb hI=> ?_) (fun a hI=> ?_)
 ·exact key
 ·obtain⟨y3,y4,y5,y6,y7,y8,y9,y10,y11,y12⟩:=a
  have hlt:=(List.getElem?_eq_some_iff.1 hb).1
  have hget: ∀ d,Option.getD y2[i]? d=b:=fun d=>by rw [hb];rfl
  have hw:=oW hlt hn
  have hdec:ltI (i:Int) (y2.length:Int)=true:=bZ (by omega)
  have hnn:leI (0:Int) (i:Int)=true:=bC (by omega)
  have hltd:ltN i y2.length=true:=cB hlt
  refine⟨?_,?_,?_,?_⟩
  ·have hm:=hX b (List.mem_of_getElem? hb)
   obtain⟨s,he,hI⟩:=hI
   obtain⟨hx,_⟩:=Od hI hm
   obtain⟨o0,o1,o2,o3,o4,o5,o6,o7,o8,o9,o10⟩:=adm hI.1 hx
   simp only [aop,Prod.mk.injEq]at he
   obtain⟨rfl,rfl,rfl,rfl,rfl,rfl,rfl,rfl,rfl,rfl⟩:=he
   have hlen:s.2.2.2.1.length≤i:=hI.2.2.2
   have h6:leN (s.2.2.2.1.length + 1) 9223372036854775807=true:=fk (by omega)
   have h7:leN ((s.2.2.2.1.length + 1) * 8) 140737488355328=true:=fk (by omega)
   simp [xu,dI,xw,dJ,pI,dK,dL,dM,aS,tc,Fu,Fv,Fw,Fx,Fy,Fz,FA,FB,FC,FD,Dc,Dd,De,Df,Dg,Dh,Di,Dj,Ec,dN,LT.nds,allT,mE,aop,hdec,hnn,hltd,hget,o0,o1,o2,o3,o4,o5,o6,o7,o8,o9,o10,h6,h7]
  ·simp [xu,dI,xw,dJ,pI,dK,dL,dM,aS,tc,Fu,Fv,Fw,Fx,Fy,Fz,FA,FB,FC,FD,Dc,Dd,De,Df,Dg,Dh,Di,Dj,Ec,dN,LT.each,mE,Qn,hw]
  ·simp only [xu,dI,xw,dJ,pI,dK,dL,dM,aS,tc,Fu,Fv,Fw,Fx,Fy,Fz,FA,FB,FC,FD,Dc,Dd,De,Df,Dg,Dh,Di,Dj,Ec,dN,LT.fn,mE,Qn,lJ,Int.toNat_natCast,hdec,hnn,hltd,hget,cond_true,Bool.cond_self]
  ·intro a' hf
   obtain⟨s,he,hI⟩:=hI
   have hm:=hX b (List.mem_of_getElem? hb)
   obtain⟨hx,hk⟩:=Od hI hm
   obtain⟨o0,o1,o2,o3,o4,o5,o6,o7,o8,o9,o10⟩:=adm hI.1 hx
   refine⟨stX n day fs lf pl ls s b,?_,hk⟩
   rw [he]at hf
   simp only [aop,lJ,Sum.inr.injEq,o0,o1,o2,o3,o4,o5,o6,o7,o8,o9]at hf
   rw [← hf]
   rfl
 ·obtain⟨y3,y4,y5,y6,y7,y8,y9,y10,y11,y12⟩:=a
  simp [xu,dI,xw,dJ,pI,dK,dL,dM,aS,tc,Fu,Fv,Fw,Fx,Fy,Fz,FA,FB,FC,FD,Dc,Dd,De,Df,Dg,Dh,Di,Dj,Ec,dN,LT.out,mE]
end Go.SX

namespace Go.SX
open Go.Proofs
set_option maxRecDepth 100000
def cW(y6:List Int)(y8:List (List Int))(b:Int×(Int×((Int×Int)×(Int×(Int×Bool))))):(Unit)→Nat ⊕ (Unit)
 |_=>(bif(yq b.1 (b.2.1) (b.2.2.1.1) (b.2.2.1.2) (b.2.2.2.1) (b.2.2.2.2.1) b.2.2.2.2.2 y6 y8)then(.inl 0)else(.inr ()))
def bL(y2 y3 y4:Int)(y5:List (Int×(Int×((Int×Int)×(Int×(Int×Bool))))))(y6:List Int)(y7:List (Int×(Int×Int)))(y8:List (List Int))(y9:List (Int×(Int×Int)))(y10 y11:List (Int×Int))(i:Nat):(Unit)→aU
 |_=>((i:Int),(↑y5.length:Int),y2,y3,y4,y5,y6,y7,y8,y9,y10,y11)
def mw:aU→Unit
 |(_,_,_,_,_,_,_,_,_,_,_,_)=>()
theorem Lg(y2 y3 y4:Int)(y5:List (Int×(Int×((Int×Int)×(Int×(Int×Bool))))))(y6:List Int)(y7:List (Int×(Int×Int)))(y8:List (List Int))(y9:List (Int×(Int×Int)))(y10 y11:List (Int×Int)) (hn:y5.length≤9223372036854775807) (f:RideF y2 y3 y4 y6 y7 y8 y9 y10 y11):
  ah.fin ((0:Int),(↑y5.length:Int),y2,y3,y4,y5,y6,y7,y8,y9,y10,y11)=true∧ah.res ((0:Int),(↑y5.length:Int),y2,y3,y4,y5,y6,y7,y8,y9,y10,y11)=((ae (cW y6 y8) 1 y5 0 ()).1,(bL y2 y3 y4 y5 y6 y7 y8 y9 y10 y11) (ae (cW y6 y8) 1 y5 0 ()).2.1 (ae (cW y6 y8) 1 y5 0 ()).2.2):=by
 have key:=ah.along (bL y2 y3 y4 y5 y6 y7 y8 y9 y10 y11) mw (cW y6 y8) 1 (fun _ _=>True) y5 () (by trivial) (by simp only [ah,bL];omega) (fun i b a hb hI=> ?_) (fun a hI=> ?_)
 ·exact key
 ·obtain⟨⟩:=a
  have hlt:=(List.getElem?_eq_some_iff.1 hb).1
  have hget: ∀ d,Option.getD y5[i]? d=b:=fun d=>by rw [hb];rfl
  have hw:=oW hlt hn
  have hdec:ltI (i:Int) (y5.length:Int)=true:=bZ (by omega)
  have hnn:leI (0:Int) (i:Int)=true:=bC (by omega)
  have hltd:ltN i y5.length=true:=cB hlt
  refine⟨?_,?_,?_,?_⟩
  ·have e:=(aoB b.1 b.2.1 b.2.2.1.1 b.2.2.1.2 b.2.2.2.1 b.2.2.2.2.1 b.2.2.2.2.2 f).2
   simp [cP,cQ,cR,cS,bo,cT,fm,fo,fq,ft,fu,fv,fw,eO,ah,LT.nds,allT,bL,Hn,hdec,hnn,hltd,hget,e]
  ·simp [cP,cQ,cR,cS,bo,cT,fm,fo,fq,ft,fu,fv,fw,eO,ah,LT.each,bL,mw,hw]
  ·simp only [cP,cQ,cR,cS,bo,cT,fm,fo,fq,ft,fu,fv,fw,eO,ah,LT.fn,bL,mw,cW,Int.toNat_natCast,hdec,hnn,hltd,hget,cond_true,Bool.cond_self]
  ·exact fun _ _=>trivial
 ·obtain⟨⟩:=a
  simp [cP,cQ,cR,cS,bo,cT,fm,fo,fq,ft,fu,fv,fw,eO,ah,LT.out,bL]
def aok(ps:LI)(rs:List LI)(xs:List RX):Bool:=xs.any fun x=> !isX ps rs x
def rrC(n mode day:Int)(ps:LI)(fs:L3)(rs:List LI)(lf:L3)(pl ls:L2)(xs:List RX):Int:=bif !qP n ps fs rs lf mode pl ls day then 1 else bif ltI 200 (xs.length:Int)then 3 else bif aok ps rs xs then 2 else 0
def rrE(n mode day:Int)(ps:LI)(fs:L3)(rs:List LI)(lf:L3)(pl ls:L2)(xs:List RX):RS:=xs.foldl (stX n day fs lf pl ls) (mode,ps,rs,[],0)
def rrB(n mode day:Int)(ps:LI)(fs:L3)(rs:List LI)(lf:L3)(pl ls:L2)(xs:List RX):Bool:=rrC n mode day ps fs rs lf pl ls xs==0
def rrN(n mode day:Int)(ps:LI)(fs:L3)(rs:List LI)(lf:L3)(pl ls:L2)(xs:List RX):Int:=bif rrB n mode day ps fs rs lf pl ls xs then n else 0
def rrM(n mode day:Int)(ps:LI)(fs:L3)(rs:List LI)(lf:L3)(pl ls:L2)(xs:List RX):Int:=bif rrB n mode day ps fs rs lf pl ls xs then(rrE n mode day ps fs rs lf pl ls xs).1 else 0
def rrD(n mode day:Int)(ps:LI)(fs:L3)(rs:List LI)(lf:L3)(pl ls:L2)(xs:List RX):Int:=bif rrB n mode day ps fs rs lf pl ls xs then day else 0
def rrP(n mode day:Int)(ps:LI)(fs:L3)(rs:List LI)(lf:L3)(pl ls:L2)(xs:List RX):LI:=bif rrB n mode day ps fs rs lf pl ls xs then(rrE n mode day ps fs rs lf pl ls xs).2.1 else []
def rrF(n mode day:Int)(ps:LI)(fs:L3)(rs:List LI)(lf:L3)(pl ls:L2)(xs:List RX):L3:=bif rrB n mode day ps fs rs lf pl ls xs then fs else []
def rrR(n mode day:Int)(ps:LI)(fs:L3)(rs:List LI)(lf:L3)(pl ls:L2)(xs:List RX):List LI:=bif rrB n mode day ps fs rs lf pl ls xs then(rrE n mode day ps fs rs lf pl ls xs).2.2.1 else []
def rrL(n mode day:Int)(ps:LI)(fs:L3)(rs:List LI)(lf:L3)(pl ls:L2)(xs:List RX):L3:=bif rrB n mode day ps fs rs lf pl ls xs then lf else []
def YE(n mode day:Int)(ps:LI)(fs:L3)(rs:List LI)(lf:L3)(pl ls:L2)(xs:List RX):L2:=bif rrB n mode day ps fs rs lf pl ls xs then pl else []
def ZL(n mode day:Int)(ps:LI)(fs:L3)(rs:List LI)(lf:L3)(pl ls:L2)(xs:List RX):L2:=bif rrB n mode day ps fs rs lf pl ls xs then ls else []
def rrV(n mode day:Int)(ps:LI)(fs:L3)(rs:List LI)(lf:L3)(pl ls:L2)(xs:List RX):LI:=bif rrB n mode day ps fs rs lf pl ls xs then(rrE n mode day ps fs rs lf pl ls xs).2.2.2.1 else []
def rrT(n mode day:Int)(ps:LI)(fs:L3)(rs:List LI)(lf:L3)(pl ls:L2)(xs:List RX):Int:=bif rrB n mode day ps fs rs lf pl ls xs then(rrE n mode day ps fs rs lf pl ls xs).2.2.2.2 else 0
theorem auL{ps:LI}{rs:List LI}{xs:List RX}(h:aok ps rs xs=false): ∀ x∈xs,isX ps rs x=true:=by
 simp only [aok,List.any_eq_false,Bool.not_eq_true',Bool.not_eq_false]at h
 exact h
theorem asb{n mode day:Int}{ps:LI}{fs:L3}{rs:List LI}{lf:L3}{pl ls:L2}(f:RideF n mode day ps fs rs lf pl ls):al3 n day fs lf pl ls ps rs 0 (mode,ps,rs,[],0):=
 ⟨f,rfl,rfl,Nat.le_refl _⟩
theorem avK{n day:Int}{fs lf:L3}{pl ls:L2}{ps0:LI}{rs0:List LI}{i:Nat}{s:RS}(hI:al3 n day fs lf pl ls ps0 rs0 i s){b:RX}(hm:isX ps0 rs0 b=true):
  qx b (amc n day fs lf pl ls s)= .inr (amc n day fs lf pl ls (stX n day fs lf pl ls s b)):=by
 obtain⟨hx,_⟩:=Od hI hm
 obtain⟨o0,o1,o2,o3,o4,o5,o6,o7,o8,o9,o10⟩:=ag7 hI.1 hx
 simp only [amc,qx,o0,o1,o2,o3,o4,o5,o6,o7,o8,o9,stX,vX,QK]
 generalize stV n s.1 day s.2.1 fs s.2.2.1 lf pl ls b.1 b.2.1 b.2.2.1.1 b.2.2.1.2 b.2.2.2.1 b.2.2.2.2.1 b.2.2.2.2.2=v
 cases b.1==0 <;> cases v==0 <;> rfl
theorem atA(n mode day:Int)(ps:LI)(fs:L3)(rs:List LI)(lf:L3)(pl ls:L2)(xs:List RX)(hN:rb 9223372036854775807 ps fs rs lf pl ls=true):
  HB n mode day ps fs rs lf pl ls xs=rrN n mode day ps fs rs lf pl ls xs∧HC n mode day ps fs rs lf pl ls xs=rrM n mode day ps fs rs lf pl ls xs∧
  HD n mode day ps fs rs lf pl ls xs=rrD n mode day ps fs rs lf pl ls xs∧Lk n mode day ps fs rs lf pl ls xs=rrT n mode day ps fs rs lf pl ls xs∧
  HE n mode day ps fs rs lf pl ls xs=rrC n mode day ps fs rs lf pl ls xs∧HF n mode day ps fs rs lf pl ls xs=rrP n mode day ps fs rs lf pl ls xs∧
  HG n mode day ps fs rs lf pl ls xs=rrF n mode day ps fs rs lf pl ls xs∧HH n mode day ps fs rs lf pl ls xs=rrR n mode day ps fs rs lf pl ls xs∧
  HI n mode day ps fs rs lf pl ls xs=rrL n mode day ps fs rs lf pl ls xs∧HJ n mode day ps fs rs lf pl ls xs=YE n mode day ps fs rs lf pl ls xs∧
  EF n mode day ps fs rs lf pl ls xs=ZL n mode day ps fs rs lf pl ls xs∧EG n mode day ps fs rs lf pl ls xs=rrV n mode day ps fs rs lf pl ls xs∧
  EH n mode day ps fs rs lf pl ls xs=true:=by
 cases hO:qP n ps fs rs lf mode pl ls day with
 |false=>
  have hc:rrC n mode day ps fs rs lf pl ls xs=1:=by simp [rrC,hO]
  have hb:rrB n mode day ps fs rs lf pl ls xs=false:=by rw [rrB,hc];rfl
  simp [HB,HC,HD,Lk,HE,HF,HG,HH,HI,HJ,EF,EG,EH,rrN,rrM,rrD,rrT,rrP,rrF,rrR,rrL,YE,ZL,rrV,hO,hc,hb,hN,allT]
 |true=>
  have f:=arb hO
  cases h2:ip xs with
  |true=>
   have h2':ltI 200 (xs.length:Int)=true:=h2
   have hc:rrC n mode day ps fs rs lf pl ls xs=3:=by simp only [rrC,hO,h2',Bool.not_true,cond_false,cond_true]
   have hb:rrB n mode day ps fs rs lf pl ls xs=false:=by rw [rrB,hc];rfl
   simp [HB,HC,HD,Lk,HE,HF,HG,HH,HI,HJ,EF,EG,EH,rrN,rrM,rrD,rrT,rrP,rrF,rrR,rrL,YE,ZL,rrV,hO,h2,hc,hb,hN,allT]
  |false=>
   have h2':ltI 200 (xs.length:Int)=false:=h2
   have hl:xs.length≤200:=by have:=It.1 h2';omega
   obtain⟨w1,w2⟩:=ana xs n mode day 0 0 0 ps fs rs lf pl ls [] [] [] [] [] [] (by omega) f
   rw [jp (P:=fun x=> !isX ps rs x) (j:=0) (fun b=>by
    simp only [Cs,(aqs n mode day b.1 b.2.1 b.2.2.1.1 b.2.2.1.2 b.2.2.2.1 b.2.2.2.2.1 b.2.2.2.2.2 ps fs rs lf pl ls hN).1,hO,Bool.true_and];rfl)]at w2
   have a2:iq n mode day ps fs rs lf pl ls xs=aok ps rs xs:=by
    rw [iq,Tf,w2]
    show Nat.beq (bif aok ps rs xs then 0 else 1) 0=_
    cases aok ps rs xs <;> rfl
   have w1':Lp.fin eM (Tf n mode day ps fs rs lf pl ls xs)=true:=w1
   cases hB:aok ps rs xs with
   |true=>
    have hc:rrC n mode day ps fs rs lf pl ls xs=2:=by simp only [rrC,hO,h2',hB,Bool.not_true,cond_false,cond_true]
    have hb:rrB n mode day ps fs rs lf pl ls xs=false:=by rw [rrB,hc];rfl
    rw [hB]at a2
    simp [HB,HC,HD,Lk,HE,HF,HG,HH,HI,HJ,EF,EG,EH,rrN,rrM,rrD,rrT,rrP,rrF,rrR,rrL,YE,ZL,rrV,hO,h2,a2,w1',hc,hb,hN,allT]
   |false=>
    have hX:=auL hB
    have hc:rrC n mode day ps fs rs lf pl ls xs=0:=by simp only [rrC,hO,h2',hB,Bool.not_true,cond_false]
    have hb:rrB n mode day ps fs rs lf pl ls xs=true:=by rw [rrB,hc];rfl
    obtain⟨o1,o2⟩:=apk n mode day f.cp
    obtain⟨v1,v2⟩:=anb xs 0 n mode day [] ps fs rs lf pl ls (by omega) n day fs lf pl ls ps rs hX (mode,ps,rs,[],0) rfl (asb f) hl
    have hw:=(aps (e:=0) (i:=0) (r:=xs) (f:=qx) (g:=stX n day fs lf pl ls) (emb:=amc n day fs lf pl ls) (Inv:=fun s=> ∃ i,al3 n day fs lf pl ls ps rs i s)
     (fun b hb s hs=>by obtain⟨i,hI⟩:=hs;exact⟨avK hI (hX b hb),_,(Od hI (hX b hb)).2⟩) ⟨0,asb f⟩).1
    rw [show ((0:Int),n,mode,day,([]:LI),ps,fs,rs,lf,pl,ls)=amc n day fs lf pl ls (mode,ps,rs,[],0) from rfl,hw]at v2
    rw [hB]at a2
    have v1':Lp.fin eN (JD n mode day ps fs rs lf pl ls xs)=true:=by rw [JD,o1];exact v1
    have v2':Lp.res eN (JD n mode day ps fs rs lf pl ls xs)=(0,ov xs xs.length (amc n day fs lf pl ls (rrE n mode day ps fs rs lf pl ls xs))):=by
     rw [JD,o1,v2];simp only [Nat.zero_add];rfl
    simp only [HB,HC,HD,Lk,HE,HF,HG,HH,HI,HJ,EF,EG,EH,YZ,Za,Zb,Zc,Zd,Ze,Wr,Ws,Wt,Wu,v2',v1',w1',o2,ov,amc,rrN,rrM,rrD,rrT,rrP,rrF,rrR,rrL,YE,ZL,rrV,hO,h2,a2,hc,hb,hN,allT,Bool.not_true,cond_false,cond_true,Bool.or_true,Bool.and_self,and_self]
theorem arN(n mode day:Int)(ps:LI)(fs:L3)(rs:List LI)(lf:L3)(pl ls:L2)(xs:List RX)(hN:rb 9223372036854775807 ps fs rs lf pl ls=true):
  xA n mode day ps fs rs lf pl ls xs=rrC n mode day ps fs rs lf pl ls xs∧Cu n mode day ps fs rs lf pl ls xs=true:=by
 cases hO:qP n ps fs rs lf mode pl ls day with
 |false=>simp [xA,Cu,rrC,hO,hN,allT]
 |true=>
  have f:=arb hO
  cases h2:RQ xs with
  |true=>
   have h2':ltI 200 (xs.length:Int)=true:=h2
   simp only [xA,Cu,rrC,hO,hN,h2,h2',allT,Bool.not_true,cond_false,cond_true,Bool.or_true,Bool.true_or,and_self,Bool.false_or]
  |false=>
   have h2':ltI 200 (xs.length:Int)=false:=h2
   have hl:xs.length≤200:=by have:=It.1 h2';omega
   obtain⟨w1,w2⟩:=Lg n mode day xs ps fs rs lf pl ls (by omega) f
   rw [jp (P:=fun x=> !isX ps rs x) (j:=0) (fun b=>by
    simp only [cW,yq,(aoB b.1 b.2.1 b.2.2.1.1 b.2.2.1.2 b.2.2.2.1 b.2.2.2.2.1 b.2.2.2.2.2 f).1];rfl)]at w2
   have w1':Lp.fin ah (gk xs n mode day ps fs rs lf pl ls)=true:=w1
   have e:iT xs n mode day ps fs rs lf pl ls=aok ps rs xs:=by
    rw [iT,p7,gm,gk,w2]
    show leI 0 (bif Nat.beq (bif aok ps rs xs then 0 else 1) 0 then _ else(-1:Int))=_
    cases aok ps rs xs with
    |true=>exact bC (Int.natCast_nonneg _)
    |false=>rfl
   simp only [xA,Cu,mT,p8,rrC,hO,hN,h2,h2',e,w1',allT,Bool.not_true,cond_false,cond_true,Bool.or_true,Bool.true_or,and_self,Bool.false_or]
theorem asd{n mode day:Int}{ps:LI}{fs:L3}{rs:List LI}{lf:L3}{pl ls:L2}{xs:List RX}(h:rrB n mode day ps fs rs lf pl ls xs=true):
  RideF n mode day ps fs rs lf pl ls∧xs.length≤200∧ ∀ x∈xs,isX ps rs x=true:=by
 simp only [rrB,rrC]at h
 cases hO:qP n ps fs rs lf mode pl ls day with
 |false=>rw [hO]at h;cases h
 |true=>
  cases h2:ltI 200 (xs.length:Int)with
  |true=>rw [hO,h2]at h;cases h
  |false=>
   cases hB:aok ps rs xs with
   |true=>rw [hO,h2,hB]at h;cases h
   |false=>exact⟨arb hO,by have:=It.1 h2;omega,auL hB⟩
theorem avJ{n day:Int}{fs lf:L3}{pl ls:L2}{ps0:LI}{rs0:List LI}{i:Nat}{s:RS}(hI:al3 n day fs lf pl ls ps0 rs0 i s){b:RX}(hm:isX ps0 rs0 b=true):
  lJ b (aop n day fs lf pl ls s)= .inr (aop n day fs lf pl ls (stX n day fs lf pl ls s b)):=by
 obtain⟨hx,_⟩:=Od hI hm
 obtain⟨o0,o1,o2,o3,o4,o5,o6,o7,o8,o9,o10⟩:=adm hI.1 hx
 simp only [aop,lJ,o0,o1,o2,o3,o4,o5,o6,o7,o8,o9]
 rfl
theorem ata(n mode day:Int)(ps:LI)(fs:L3)(rs:List LI)(lf:L3)(pl ls:L2)(xs:List RX)(hN:rb 9223372036854775807 ps fs rs lf pl ls=true):
  RG n mode day ps fs rs lf pl ls xs=rrN n mode day ps fs rs lf pl ls xs∧RH n mode day ps fs rs lf pl ls xs=rrM n mode day ps fs rs lf pl ls xs∧
  RI n mode day ps fs rs lf pl ls xs=rrD n mode day ps fs rs lf pl ls xs∧
  RJ n mode day ps fs rs lf pl ls xs=rrC n mode day ps fs rs lf pl ls xs∧RK n mode day ps fs rs lf pl ls xs=rrP n mode day ps fs rs lf pl ls xs∧
  RL n mode day ps fs rs lf pl ls xs=rrF n mode day ps fs rs lf pl ls xs∧RM n mode day ps fs rs lf pl ls xs=rrR n mode day ps fs rs lf pl ls xs∧
  RN n mode day ps fs rs lf pl ls xs=rrL n mode day ps fs rs lf pl ls xs∧RO n mode day ps fs rs lf pl ls xs=YE n mode day ps fs rs lf pl ls xs∧
  RP n mode day ps fs rs lf pl ls xs=ZL n mode day ps fs rs lf pl ls xs∧Pv n mode day ps fs rs lf pl ls xs=rrV n mode day ps fs rs lf pl ls xs∧
  Pw n mode day ps fs rs lf pl ls xs=true:=by
 obtain⟨c1,c2⟩:=arN n mode day ps fs rs lf pl ls xs hN
 have a0:hZ n mode day ps fs rs lf pl ls xs= !rrB n mode day ps fs rs lf pl ls xs:=by rw [hZ,c1];rfl
 cases hb:rrB n mode day ps fs rs lf pl ls xs with
 |false=>
  rw [hb,Bool.not_false]at a0
  simp only [RG,RH,RI,RJ,RK,RL,RM,RN,RO,RP,Pv,Pw,rrN,rrM,rrD,rrT,rrP,rrF,rrR,rrL,YE,ZL,rrV,hb,c1,c2,a0,allT,cond_true,cond_false,Bool.true_or,and_self]
 |true=>
  rw [hb,Bool.not_true]at a0
  have hc:rrC n mode day ps fs rs lf pl ls xs=0:=beq_iff_eq.1 hb
  obtain⟨f,hl,hX⟩:=asd hb
  obtain⟨o1,o2⟩:=aqT n mode day f.cp
  obtain⟨v1,v2⟩:=alS xs [] n mode day ps fs rs lf pl ls (by omega) n day fs lf pl ls ps rs hX (mode,ps,rs,[],0) rfl (asb f) hl
  have hw:=(aps (e:=0) (i:=0) (r:=xs) (f:=lJ) (g:=stX n day fs lf pl ls) (emb:=aop n day fs lf pl ls) (Inv:=fun s=> ∃ i,al3 n day fs lf pl ls ps rs i s)
   (fun b hb s hs=>by obtain⟨i,hI⟩:=hs;exact⟨avJ hI (hX b hb),_,(Od hI (hX b hb)).2⟩) ⟨0,asb f⟩).1
  change ae lJ 0 xs 0 (([]:LI),n,mode,day,ps,fs,rs,lf,pl,ls)=_ at hw
  rw [hw]at v2
  have v1':Lp.fin dN (Fo n mode day ps fs rs lf pl ls xs)=true:=by rw [Fo,o1];exact v1
  have v2':Lp.res dN (Fo n mode day ps fs rs lf pl ls xs)=(0,mE xs xs.length (aop n day fs lf pl ls (rrE n mode day ps fs rs lf pl ls xs))):=by
   rw [Fo,o1,v2];simp only [Nat.zero_add];rfl
  simp only [RG,RH,RI,RJ,RK,RL,RM,RN,RO,RP,Pv,Pw,VQ,VR,VS,VT,VU,VV,VW,VX,TP,v2',v1',o2,mE,aop,rrN,rrM,rrD,rrT,rrP,rrF,rrR,rrL,YE,ZL,rrV,hb,hc,c1,c2,a0,allT,cond_true,cond_false,Bool.or_true,Bool.and_self,and_self]
theorem auC(n mode day:Int)(ps:LI)(fs:L3)(rs:List LI)(lf:L3)(pl ls:L2)(xs:List RX)(hN:rb 9223372036854775807 ps fs rs lf pl ls=true):
  ag8 n mode day ps fs rs lf pl ls xs=rrN n mode day ps fs rs lf pl ls xs∧ag9 n mode day ps fs rs lf pl ls xs=rrM n mode day ps fs rs lf pl ls xs∧
  aha n mode day ps fs rs lf pl ls xs=rrD n mode day ps fs rs lf pl ls xs∧
  ahb n mode day ps fs rs lf pl ls xs=rrC n mode day ps fs rs lf pl ls xs∧ahc n mode day ps fs rs lf pl ls xs=rrP n mode day ps fs rs lf pl ls xs∧
  ahd n mode day ps fs rs lf pl ls xs=rrF n mode day ps fs rs lf pl ls xs∧ahe n mode day ps fs rs lf pl ls xs=rrR n mode day ps fs rs lf pl ls xs∧
  ahf n mode day ps fs rs lf pl ls xs=rrL n mode day ps fs rs lf pl ls xs∧ahg n mode day ps fs rs lf pl ls xs=YE n mode day ps fs rs lf pl ls xs∧
  ahh n mode day ps fs rs lf pl ls xs=ZL n mode day ps fs rs lf pl ls xs∧ael n mode day ps fs rs lf pl ls xs=rrV n mode day ps fs rs lf pl ls xs∧
  Wo n mode day ps fs rs lf pl ls xs=true:=by
 obtain⟨o0,o1,o2,o3,o4,o5,o6,o7,o8,o9,o10,o11,o12⟩:=atA n mode day ps fs rs lf pl ls xs hN
 exact⟨o0,o1,o2,o4,o5,o6,o7,o8,o9,o10,o11,by simp only [Wo,o12,allT,cond_true]⟩
def af1:List SV→List Entry→Option Out
 | [.one ⟨true,[.val (.int .i64 x0),.ref 0,.ref 1,.ref 2,.ref 3,.val (.int .i64 x1),.ref 4,.ref 5,.val (.int .i64 x2)]⟩,.one ⟨false,[.ref 6]⟩],[.row false 2 (.int .i64) x3,.row false 169 (.pair (.int .i64) (.pair (.int .i64) (.int .i64))) x4,.row false 24 (.sl 2 (.int .i64)) x5,.row false 100 (.pair (.int .i64) (.pair (.int .i64) (.int .i64))) x6,.row false 173 (.pair (.int .i64) (.int .i64)) x7,.row false 176 (.pair (.int .i64) (.int .i64)) x8,.row false 49 (.pair (.int .i64) (.pair (.int .i64) (.pair (.pair (.int .i64) (.int .i64)) (.pair (.int .i64) (.pair (.int .i64) (.bool)))))) x9]=>some ⟨(.tup [⟨true,[(.val (.int .i64 (rrN x0 x1 x2 x3 x4 x5 x6 x7 x8 x9))),(.ref 7),(.ref 8),(.ref 9),(.ref 10),(.val (.int .i64 (rrM x0 x1 x2 x3 x4 x5 x6 x7 x8 x9))),(.ref 11),(.ref 12),(.val (.int .i64 (rrD x0 x1 x2 x3 x4 x5 x6 x7 x8 x9)))]⟩,⟨false,[(.ref 13)]⟩,⟨false,[(.val (.int .i64 (rrC x0 x1 x2 x3 x4 x5 x6 x7 x8 x9)))]⟩]),[(.row false 2 axl x3),(.row false 169 axj x4),(.row false 24 (CTy.sl (2:TypeId) axl) x5),(.row false 100 axj x6),(.row false 173 axk x7),(.row false 176 axk x8),(.row false 49 axi x9)],[(.row true 2 axl (rrP x0 x1 x2 x3 x4 x5 x6 x7 x8 x9)),(.row true 169 axj (rrF x0 x1 x2 x3 x4 x5 x6 x7 x8 x9)),(.row true 24 (CTy.sl (2:Nat) axl) (rrR x0 x1 x2 x3 x4 x5 x6 x7 x8 x9)),(.row true 100 axj (rrL x0 x1 x2 x3 x4 x5 x6 x7 x8 x9)),(.row true 173 axk (YE x0 x1 x2 x3 x4 x5 x6 x7 x8 x9)),(.row true 176 axk (ZL x0 x1 x2 x3 x4 x5 x6 x7 x8 x9)),(.row true 2 axl (rrV x0 x1 x2 x3 x4 x5 x6 x7 x8 x9))],[rb 9223372036854775807 x3 x4 x5 x6 x7 x8]⟩
 |_,_=>none
def Yp:PF Tryz.prog:=PF.alt ao3 af1 (by
 intro args es o h hnd;unfold af1 at h;split at h
 ·rename_i x0 x1 x2 x3 x4 x5 x6 x7 x8 x9
  cases h
  have hnd:=bY hnd
  have hh:=auC x0 x1 x2 x3 x4 x5 x6 x7 x8 x9 hnd
  obtain⟨e0,e1,e2,e3,e4,e5,e6,e7,e8,e9,e10,en⟩:=hh
  exact ek rfl (cg en) (by simp only [e0,e1,e2,e3] <;> rfl) rfl (by simp only [e4,e5,e6,e7,e8,e9,e10] <;> rfl)
 ·cases h)
def afU:List SV→List Entry→Option Out
 | [.one ⟨true,[.val (.int .i64 x0),.ref 0,.ref 1,.ref 2,.ref 3,.val (.int .i64 x1),.ref 4,.ref 5,.val (.int .i64 x2)]⟩,.one ⟨false,[.ref 6]⟩],[.row false 2 (.int .i64) x3,.row false 169 (.pair (.int .i64) (.pair (.int .i64) (.int .i64))) x4,.row false 24 (.sl 2 (.int .i64)) x5,.row false 100 (.pair (.int .i64) (.pair (.int .i64) (.int .i64))) x6,.row false 173 (.pair (.int .i64) (.int .i64)) x7,.row false 176 (.pair (.int .i64) (.int .i64)) x8,.row false 49 (.pair (.int .i64) (.pair (.int .i64) (.pair (.pair (.int .i64) (.int .i64)) (.pair (.int .i64) (.pair (.int .i64) (.bool)))))) x9]=>some ⟨(.tup [⟨true,[(.val (.int .i64 (rrN x0 x1 x2 x3 x4 x5 x6 x7 x8 x9))),(.ref 7),(.ref 8),(.ref 9),(.ref 10),(.val (.int .i64 (rrM x0 x1 x2 x3 x4 x5 x6 x7 x8 x9))),(.ref 11),(.ref 12),(.val (.int .i64 (rrD x0 x1 x2 x3 x4 x5 x6 x7 x8 x9)))]⟩,⟨false,[(.ref 13)]⟩,⟨false,[(.val (.int .i64 (rrC x0 x1 x2 x3 x4 x5 x6 x7 x8 x9)))]⟩]),[(.row false 2 axl x3),(.row false 169 axj x4),(.row false 24 (CTy.sl (2:TypeId) axl) x5),(.row false 100 axj x6),(.row false 173 axk x7),(.row false 176 axk x8),(.row false 49 axi x9)],[(.row true 2 axl (rrP x0 x1 x2 x3 x4 x5 x6 x7 x8 x9)),(.row true 169 axj (rrF x0 x1 x2 x3 x4 x5 x6 x7 x8 x9)),(.tree 24 (CTy.sl (2:Nat) axl) (rrR x0 x1 x2 x3 x4 x5 x6 x7 x8 x9) none),(.row true 100 axj (rrL x0 x1 x2 x3 x4 x5 x6 x7 x8 x9)),(.row true 173 axk (YE x0 x1 x2 x3 x4 x5 x6 x7 x8 x9)),(.row true 176 axk (ZL x0 x1 x2 x3 x4 x5 x6 x7 x8 x9)),(.row true 2 axl (rrV x0 x1 x2 x3 x4 x5 x6 x7 x8 x9))],[rb 9223372036854775807 x3 x4 x5 x6 x7 x8]⟩
 |_,_=>none
def Yi:PF Tryz.prog:=PF.alt aoW afU (by
 intro args es o h hnd;unfold afU at h;split at h
 ·rename_i x0 x1 x2 x3 x4 x5 x6 x7 x8 x9
  cases h
  have hnd:=bY hnd
  have hh:=ata x0 x1 x2 x3 x4 x5 x6 x7 x8 x9 hnd
  obtain⟨e0,e1,e2,e3,e4,e5,e6,e7,e8,e9,e10,en⟩:=hh
  exact ek rfl (cg en) (by simp only [e0,e1,e2,e3] <;> rfl) rfl (by simp only [e4,e5,e6,e7,e8,e9,e10] <;> rfl)
 ·cases h)
end Go.SX

namespace Go.SX
open Go.Proofs
set_option maxRecDepth 100000
section
variable (x0 x1 x2:Int)(x3:List Int)(x4:List (Int×Int×Int))(x5:List (List Int))(x6:List (Int×Int×Int))(x7 x8:List (Int×Int))(x9:List (Int×Int×(Int×Int)×Int×Int×Bool))
def am:Bool:=ltI (lK (1048576:Int) x3 x4 x5 x6 x7 x8) (0:Int)
def ar:Bool:=ltI (szN (lK (1048576:Int) x3 x4 x5 x6 x7 x8) x9.length) (0:Int)
def mt:Bool:= !Ho (rrN x0 x1 x2 x3 x4 x5 x6 x7 x8 x9) (rrM x0 x1 x2 x3 x4 x5 x6 x7 x8 x9) (rrD x0 x1 x2 x3 x4 x5 x6 x7 x8 x9) (rrN x0 x1 x2 x3 x4 x5 x6 x7 x8 x9) (rrM x0 x1 x2 x3 x4 x5 x6 x7 x8 x9) (rrD x0 x1 x2 x3 x4 x5 x6 x7 x8 x9) (rrP x0 x1 x2 x3 x4 x5 x6 x7 x8 x9) (rrF x0 x1 x2 x3 x4 x5 x6 x7 x8 x9) (rrR x0 x1 x2 x3 x4 x5 x6 x7 x8 x9) (rrL x0 x1 x2 x3 x4 x5 x6 x7 x8 x9) (YE x0 x1 x2 x3 x4 x5 x6 x7 x8 x9) (ZL x0 x1 x2 x3 x4 x5 x6 x7 x8 x9) (rrP x0 x1 x2 x3 x4 x5 x6 x7 x8 x9) (rrF x0 x1 x2 x3 x4 x5 x6 x7 x8 x9) (rrR x0 x1 x2 x3 x4 x5 x6 x7 x8 x9) (rrL x0 x1 x2 x3 x4 x5 x6 x7 x8 x9) (YE x0 x1 x2 x3 x4 x5 x6 x7 x8 x9) (ZL x0 x1 x2 x3 x4 x5 x6 x7 x8 x9)
def mu:Bool:=rrC x0 x1 x2 x3 x4 x5 x6 x7 x8 x9 !=rrC x0 x1 x2 x3 x4 x5 x6 x7 x8 x9
def aD:Bool:=bif bif mt x0 x1 x2 x3 x4 x5 x6 x7 x8 x9 then true else !eqL (rrV x0 x1 x2 x3 x4 x5 x6 x7 x8 x9) (rrV x0 x1 x2 x3 x4 x5 x6 x7 x8 x9)then true else mu x0 x1 x2 x3 x4 x5 x6 x7 x8 x9
def aK:Bool:= !Ho x0 x1 x2 x0 x1 x2 x3 x4 x5 x6 x7 x8 x3 x4 x5 x6 x7 x8
def qy:Int:=(1:Int) + (↑(HQ x3 x4 x5 x6 x7 x8):Int)
def dy:Bool:=ltI (qy x3 x4 x5 x6 x7 x8 + (7:Int) * (↑x9.length:Int)) (0:Int)
def qz:Bool:=bif dy x3 x4 x5 x6 x7 x8 x9 then true else mt x0 x1 x2 x3 x4 x5 x6 x7 x8 x9
def qA:Bool:= !mt x0 x1 x2 x3 x4 x5 x6 x7 x8 x9&&true
def gL:List Int:=bif qA x0 x1 x2 x3 x4 x5 x6 x7 x8 x9 then rrV x0 x1 x2 x3 x4 x5 x6 x7 x8 x9 else rrV x0 x1 x2 x3 x4 x5 x6 x7 x8 x9
def bp:Bool:=bif bif qz x0 x1 x2 x3 x4 x5 x6 x7 x8 x9 then true else !eqL (gL x0 x1 x2 x3 x4 x5 x6 x7 x8 x9) (gL x0 x1 x2 x3 x4 x5 x6 x7 x8 x9)then true else mu x0 x1 x2 x3 x4 x5 x6 x7 x8 x9
def bB:List Int:=bif !dy x3 x4 x5 x6 x7 x8 x9&&true then rrP x0 x1 x2 x3 x4 x5 x6 x7 x8 x9 else rrP x0 x1 x2 x3 x4 x5 x6 x7 x8 x9
def oY:List Int:=AH (1:Int) (bB x0 x1 x2 x3 x4 x5 x6 x7 x8 x9)
def bM:List (Int×Int×Int):=bif !dy x3 x4 x5 x6 x7 x8 x9&&true then rrF x0 x1 x2 x3 x4 x5 x6 x7 x8 x9 else rrF x0 x1 x2 x3 x4 x5 x6 x7 x8 x9
def oZ:List (Int×Int×Int):=AJ (1:Int) (bB x0 x1 x2 x3 x4 x5 x6 x7 x8 x9) (bM x0 x1 x2 x3 x4 x5 x6 x7 x8 x9)
def cm:List (List Int):=bif !dy x3 x4 x5 x6 x7 x8 x9&&true then rrR x0 x1 x2 x3 x4 x5 x6 x7 x8 x9 else rrR x0 x1 x2 x3 x4 x5 x6 x7 x8 x9
def pa:List (List Int):=AK (1:Int) (bB x0 x1 x2 x3 x4 x5 x6 x7 x8 x9) (bM x0 x1 x2 x3 x4 x5 x6 x7 x8 x9) (cm x0 x1 x2 x3 x4 x5 x6 x7 x8 x9)
def cX:List (Int×Int×Int):=bif !dy x3 x4 x5 x6 x7 x8 x9&&true then rrL x0 x1 x2 x3 x4 x5 x6 x7 x8 x9 else rrL x0 x1 x2 x3 x4 x5 x6 x7 x8 x9
def pb:List (Int×Int×Int):=AL (1:Int) (bB x0 x1 x2 x3 x4 x5 x6 x7 x8 x9) (bM x0 x1 x2 x3 x4 x5 x6 x7 x8 x9) (cm x0 x1 x2 x3 x4 x5 x6 x7 x8 x9) (cX x0 x1 x2 x3 x4 x5 x6 x7 x8 x9)
def dW:List (Int×Int):=bif !dy x3 x4 x5 x6 x7 x8 x9&&true then YE x0 x1 x2 x3 x4 x5 x6 x7 x8 x9 else YE x0 x1 x2 x3 x4 x5 x6 x7 x8 x9
def pc:List (Int×Int):=AM (1:Int) (bB x0 x1 x2 x3 x4 x5 x6 x7 x8 x9) (bM x0 x1 x2 x3 x4 x5 x6 x7 x8 x9) (cm x0 x1 x2 x3 x4 x5 x6 x7 x8 x9) (cX x0 x1 x2 x3 x4 x5 x6 x7 x8 x9) (dW x0 x1 x2 x3 x4 x5 x6 x7 x8 x9)
def gM:List (Int×Int):=bif !dy x3 x4 x5 x6 x7 x8 x9&&true then ZL x0 x1 x2 x3 x4 x5 x6 x7 x8 x9 else ZL x0 x1 x2 x3 x4 x5 x6 x7 x8 x9
def pd:List (Int×Int):=AO (1:Int) (bB x0 x1 x2 x3 x4 x5 x6 x7 x8 x9) (bM x0 x1 x2 x3 x4 x5 x6 x7 x8 x9) (cm x0 x1 x2 x3 x4 x5 x6 x7 x8 x9) (cX x0 x1 x2 x3 x4 x5 x6 x7 x8 x9) (dW x0 x1 x2 x3 x4 x5 x6 x7 x8 x9) (gM x0 x1 x2 x3 x4 x5 x6 x7 x8 x9)
def pe:Int:=KV (1:Int) (oY x0 x1 x2 x3 x4 x5 x6 x7 x8 x9) (oZ x0 x1 x2 x3 x4 x5 x6 x7 x8 x9) (pa x0 x1 x2 x3 x4 x5 x6 x7 x8 x9) (pb x0 x1 x2 x3 x4 x5 x6 x7 x8 x9) (pc x0 x1 x2 x3 x4 x5 x6 x7 x8 x9) (pd x0 x1 x2 x3 x4 x5 x6 x7 x8 x9)
def bN:Bool:=ltI (pe x0 x1 x2 x3 x4 x5 x6 x7 x8 x9) (0:Int)
def ld:Int:=(1:Int) + (↑(HQ (bB x0 x1 x2 x3 x4 x5 x6 x7 x8 x9) (bM x0 x1 x2 x3 x4 x5 x6 x7 x8 x9) (cm x0 x1 x2 x3 x4 x5 x6 x7 x8 x9) (cX x0 x1 x2 x3 x4 x5 x6 x7 x8 x9) (dW x0 x1 x2 x3 x4 x5 x6 x7 x8 x9) (gM x0 x1 x2 x3 x4 x5 x6 x7 x8 x9)):Int)
def pf:Bool:= !qz x0 x1 x2 x3 x4 x5 x6 x7 x8 x9&&true
def jj:List Int:=bif pf x0 x1 x2 x3 x4 x5 x6 x7 x8 x9 then gL x0 x1 x2 x3 x4 x5 x6 x7 x8 x9 else gL x0 x1 x2 x3 x4 x5 x6 x7 x8 x9
def pg:List Int:=sN (ld x0 x1 x2 x3 x4 x5 x6 x7 x8 x9) (List.length (jj x0 x1 x2 x3 x4 x5 x6 x7 x8 x9))
def ph:Int:=RB (pe x0 x1 x2 x3 x4 x5 x6 x7 x8 x9) (pg x0 x1 x2 x3 x4 x5 x6 x7 x8 x9)
def cn:Bool:=ltI (ph x0 x1 x2 x3 x4 x5 x6 x7 x8 x9) (0:Int)
def cq:Bool:=ph x0 x1 x2 x3 x4 x5 x6 x7 x8 x9 !=ld x0 x1 x2 x3 x4 x5 x6 x7 x8 x9 + (↑(List.length (jj x0 x1 x2 x3 x4 x5 x6 x7 x8 x9)):Int)
def pj:Bool:= !Ho (rrN x0 x1 x2 x3 x4 x5 x6 x7 x8 x9) (rrM x0 x1 x2 x3 x4 x5 x6 x7 x8 x9) (rrD x0 x1 x2 x3 x4 x5 x6 x7 x8 x9) (rrN x0 x1 x2 x3 x4 x5 x6 x7 x8 x9) (rrM x0 x1 x2 x3 x4 x5 x6 x7 x8 x9) (rrD x0 x1 x2 x3 x4 x5 x6 x7 x8 x9) (rrP x0 x1 x2 x3 x4 x5 x6 x7 x8 x9) (rrF x0 x1 x2 x3 x4 x5 x6 x7 x8 x9) (rrR x0 x1 x2 x3 x4 x5 x6 x7 x8 x9) (rrL x0 x1 x2 x3 x4 x5 x6 x7 x8 x9) (YE x0 x1 x2 x3 x4 x5 x6 x7 x8 x9) (ZL x0 x1 x2 x3 x4 x5 x6 x7 x8 x9) (bB x0 x1 x2 x3 x4 x5 x6 x7 x8 x9) (bM x0 x1 x2 x3 x4 x5 x6 x7 x8 x9) (cm x0 x1 x2 x3 x4 x5 x6 x7 x8 x9) (cX x0 x1 x2 x3 x4 x5 x6 x7 x8 x9) (dW x0 x1 x2 x3 x4 x5 x6 x7 x8 x9) (gM x0 x1 x2 x3 x4 x5 x6 x7 x8 x9)
def lg:Bool:=bif bif pj x0 x1 x2 x3 x4 x5 x6 x7 x8 x9 then true else !eqL (rrV x0 x1 x2 x3 x4 x5 x6 x7 x8 x9) (jj x0 x1 x2 x3 x4 x5 x6 x7 x8 x9)then true else mu x0 x1 x2 x3 x4 x5 x6 x7 x8 x9
def lh:Bool:=leN x9.length (9223372036854775807:Nat)
def pk:Bool:=am x3 x4 x5 x6 x7 x8||(ar x3 x4 x5 x6 x7 x8 x9||Lj x3 x4 x5 x6 x7 x8)
def li:Bool:=leN x9.length (1048576:Nat)
def pm:Bool:=am x3 x4 x5 x6 x7 x8||(ar x3 x4 x5 x6 x7 x8 x9||li x9)
def pn:Bool:=am x3 x4 x5 x6 x7 x8||(ar x3 x4 x5 x6 x7 x8 x9||rb (9223372036854775807:Nat) x3 x4 x5 x6 x7 x8)
def po:Bool:=Hq (rrN x0 x1 x2 x3 x4 x5 x6 x7 x8 x9) (rrM x0 x1 x2 x3 x4 x5 x6 x7 x8 x9) (rrN x0 x1 x2 x3 x4 x5 x6 x7 x8 x9) (rrM x0 x1 x2 x3 x4 x5 x6 x7 x8 x9) (rrP x0 x1 x2 x3 x4 x5 x6 x7 x8 x9) (rrF x0 x1 x2 x3 x4 x5 x6 x7 x8 x9) (rrR x0 x1 x2 x3 x4 x5 x6 x7 x8 x9) (rrL x0 x1 x2 x3 x4 x5 x6 x7 x8 x9) (YE x0 x1 x2 x3 x4 x5 x6 x7 x8 x9) (ZL x0 x1 x2 x3 x4 x5 x6 x7 x8 x9) (rrP x0 x1 x2 x3 x4 x5 x6 x7 x8 x9) (rrF x0 x1 x2 x3 x4 x5 x6 x7 x8 x9) (rrR x0 x1 x2 x3 x4 x5 x6 x7 x8 x9) (rrL x0 x1 x2 x3 x4 x5 x6 x7 x8 x9) (YE x0 x1 x2 x3 x4 x5 x6 x7 x8 x9)
def pp:Bool:=leN (List.length (rrV x0 x1 x2 x3 x4 x5 x6 x7 x8 x9)) (9223372036854775807:Nat)
def pq:Bool:=rb (9223372036854775807:Nat) (oY x0 x1 x2 x3 x4 x5 x6 x7 x8 x9) (oZ x0 x1 x2 x3 x4 x5 x6 x7 x8 x9) (pa x0 x1 x2 x3 x4 x5 x6 x7 x8 x9) (pb x0 x1 x2 x3 x4 x5 x6 x7 x8 x9) (pc x0 x1 x2 x3 x4 x5 x6 x7 x8 x9) (pd x0 x1 x2 x3 x4 x5 x6 x7 x8 x9)
def pt:Bool:=bN x0 x1 x2 x3 x4 x5 x6 x7 x8 x9||leN (List.length (pg x0 x1 x2 x3 x4 x5 x6 x7 x8 x9)) (9223372036854775807:Nat)
def wC:Bool:=bif am x3 x4 x5 x6 x7 x8 then true else bif ar x3 x4 x5 x6 x7 x8 x9 then true else bif aD x0 x1 x2 x3 x4 x5 x6 x7 x8 x9 then false else bif aK x0 x1 x2 x3 x4 x5 x6 x7 x8 then false else bif !ZH x9 x9 then false else bif bp x0 x1 x2 x3 x4 x5 x6 x7 x8 x9 then false else bif bN x0 x1 x2 x3 x4 x5 x6 x7 x8 x9 then false else bif cn x0 x1 x2 x3 x4 x5 x6 x7 x8 x9 then false else bif cq x0 x1 x2 x3 x4 x5 x6 x7 x8 x9 then false else bif lg x0 x1 x2 x3 x4 x5 x6 x7 x8 x9 then false else bif bN x0 x1 x2 x3 x4 x5 x6 x7 x8 x9 then false else bif cn x0 x1 x2 x3 x4 x5 x6 x7 x8 x9 then false else bif cq x0 x1 x2 x3 x4 x5 x6 x7 x8 x9 then false else true
def wD:Bool:=allT [UT (1048576:Int) x3 x4 x5,am x3 x4 x5 x6 x7 x8||lh x9&&(leI (-1:Int) (lK (1048576:Int) x3 x4 x5 x6 x7 x8)&&leI (lK (1048576:Int) x3 x4 x5 x6 x7 x8) (1048576:Int)),pk x3 x4 x5 x6 x7 x8 x9,pm x3 x4 x5 x6 x7 x8 x9,pn x3 x4 x5 x6 x7 x8 x9,pk x3 x4 x5 x6 x7 x8 x9,pm x3 x4 x5 x6 x7 x8 x9,pn x3 x4 x5 x6 x7 x8 x9,am x3 x4 x5 x6 x7 x8||(ar x3 x4 x5 x6 x7 x8 x9||po x0 x1 x2 x3 x4 x5 x6 x7 x8 x9),am x3 x4 x5 x6 x7 x8||(ar x3 x4 x5 x6 x7 x8 x9||(!qA x0 x1 x2 x3 x4 x5 x6 x7 x8 x9||pp x0 x1 x2 x3 x4 x5 x6 x7 x8 x9)),am x3 x4 x5 x6 x7 x8||(ar x3 x4 x5 x6 x7 x8 x9||(aD x0 x1 x2 x3 x4 x5 x6 x7 x8 x9||Lj x3 x4 x5 x6 x7 x8)),am x3 x4 x5 x6 x7 x8||(ar x3 x4 x5 x6 x7 x8 x9||(aD x0 x1 x2 x3 x4 x5 x6 x7 x8 x9||Hq x0 x1 x0 x1 x3 x4 x5 x6 x7 x8 x3 x4 x5 x6 x7)),am x3 x4 x5 x6 x7 x8||(ar x3 x4 x5 x6 x7 x8 x9||(aD x0 x1 x2 x3 x4 x5 x6 x7 x8 x9||(aK x0 x1 x2 x3 x4 x5 x6 x7 x8||li x9))),am x3 x4 x5 x6 x7 x8||(ar x3 x4 x5 x6 x7 x8 x9||(aD x0 x1 x2 x3 x4 x5 x6 x7 x8 x9||(aK x0 x1 x2 x3 x4 x5 x6 x7 x8||lh x9))),am x3 x4 x5 x6 x7 x8||(ar x3 x4 x5 x6 x7 x8 x9||(aD x0 x1 x2 x3 x4 x5 x6 x7 x8 x9||(aK x0 x1 x2 x3 x4 x5 x6 x7 x8||(!ZH x9 x9||Rp (1:Int) (HQ x3 x4 x5 x6 x7 x8)&&rb (9223372036854775807:Nat) x3 x4 x5 x6 x7 x8)))),am x3 x4 x5 x6 x7 x8||(ar x3 x4 x5 x6 x7 x8 x9||(aD x0 x1 x2 x3 x4 x5 x6 x7 x8 x9||(aK x0 x1 x2 x3 x4 x5 x6 x7 x8||(!ZH x9 x9||EY (7:Nat) (qy x3 x4 x5 x6 x7 x8) x9.length&&lh x9)))),am x3 x4 x5 x6 x7 x8||(ar x3 x4 x5 x6 x7 x8 x9||(aD x0 x1 x2 x3 x4 x5 x6 x7 x8 x9||(aK x0 x1 x2 x3 x4 x5 x6 x7 x8||(!ZH x9 x9||(!(!dy x3 x4 x5 x6 x7 x8 x9&&true)||po x0 x1 x2 x3 x4 x5 x6 x7 x8 x9))))),am x3 x4 x5 x6 x7 x8||(ar x3 x4 x5 x6 x7 x8 x9||(aD x0 x1 x2 x3 x4 x5 x6 x7 x8 x9||(aK x0 x1 x2 x3 x4 x5 x6 x7 x8||(!ZH x9 x9||(!pf x0 x1 x2 x3 x4 x5 x6 x7 x8 x9||leN (List.length (gL x0 x1 x2 x3 x4 x5 x6 x7 x8 x9)) (9223372036854775807:Nat)))))),am x3 x4 x5 x6 x7 x8||(ar x3 x4 x5 x6 x7 x8 x9||(aD x0 x1 x2 x3 x4 x5 x6 x7 x8 x9||(aK x0 x1 x2 x3 x4 x5 x6 x7 x8||(!ZH x9 x9||(bp x0 x1 x2 x3 x4 x5 x6 x7 x8 x9||Rp (1:Int) (HQ (bB x0 x1 x2 x3 x4 x5 x6 x7 x8 x9) (bM x0 x1 x2 x3 x4 x5 x6 x7 x8 x9) (cm x0 x1 x2 x3 x4 x5 x6 x7 x8 x9) (cX x0 x1 x2 x3 x4 x5 x6 x7 x8 x9) (dW x0 x1 x2 x3 x4 x5 x6 x7 x8 x9) (gM x0 x1 x2 x3 x4 x5 x6 x7 x8 x9))&&rb (9223372036854775807:Nat) (bB x0 x1 x2 x3 x4 x5 x6 x7 x8 x9) (bM x0 x1 x2 x3 x4 x5 x6 x7 x8 x9) (cm x0 x1 x2 x3 x4 x5 x6 x7 x8 x9) (cX x0 x1 x2 x3 x4 x5 x6 x7 x8 x9) (dW x0 x1 x2 x3 x4 x5 x6 x7 x8 x9) (gM x0 x1 x2 x3 x4 x5 x6 x7 x8 x9)))))),am x3 x4 x5 x6 x7 x8||(ar x3 x4 x5 x6 x7 x8 x9||(aD x0 x1 x2 x3 x4 x5 x6 x7 x8 x9||(aK x0 x1 x2 x3 x4 x5 x6 x7 x8||(!ZH x9 x9||(bp x0 x1 x2 x3 x4 x5 x6 x7 x8 x9||Rp (ld x0 x1 x2 x3 x4 x5 x6 x7 x8 x9) (List.length (jj x0 x1 x2 x3 x4 x5 x6 x7 x8 x9))))))),am x3 x4 x5 x6 x7 x8||(ar x3 x4 x5 x6 x7 x8 x9||(aD x0 x1 x2 x3 x4 x5 x6 x7 x8 x9||(aK x0 x1 x2 x3 x4 x5 x6 x7 x8||(!ZH x9 x9||(bp x0 x1 x2 x3 x4 x5 x6 x7 x8 x9||pq x0 x1 x2 x3 x4 x5 x6 x7 x8 x9))))),am x3 x4 x5 x6 x7 x8||(ar x3 x4 x5 x6 x7 x8 x9||(aD x0 x1 x2 x3 x4 x5 x6 x7 x8 x9||(aK x0 x1 x2 x3 x4 x5 x6 x7 x8||(!ZH x9 x9||(bp x0 x1 x2 x3 x4 x5 x6 x7 x8 x9||pt x0 x1 x2 x3 x4 x5 x6 x7 x8 x9))))),am x3 x4 x5 x6 x7 x8||(ar x3 x4 x5 x6 x7 x8 x9||(aD x0 x1 x2 x3 x4 x5 x6 x7 x8 x9||(aK x0 x1 x2 x3 x4 x5 x6 x7 x8||(!ZH x9 x9||(bp x0 x1 x2 x3 x4 x5 x6 x7 x8 x9||(bN x0 x1 x2 x3 x4 x5 x6 x7 x8 x9||(cn x0 x1 x2 x3 x4 x5 x6 x7 x8 x9||(cq x0 x1 x2 x3 x4 x5 x6 x7 x8 x9||Lj x3 x4 x5 x6 x7 x8)))))))),am x3 x4 x5 x6 x7 x8||(ar x3 x4 x5 x6 x7 x8 x9||(aD x0 x1 x2 x3 x4 x5 x6 x7 x8 x9||(aK x0 x1 x2 x3 x4 x5 x6 x7 x8||(!ZH x9 x9||(bp x0 x1 x2 x3 x4 x5 x6 x7 x8 x9||(bN x0 x1 x2 x3 x4 x5 x6 x7 x8 x9||(cn x0 x1 x2 x3 x4 x5 x6 x7 x8 x9||(cq x0 x1 x2 x3 x4 x5 x6 x7 x8 x9||li x9)))))))),am x3 x4 x5 x6 x7 x8||(ar x3 x4 x5 x6 x7 x8 x9||(aD x0 x1 x2 x3 x4 x5 x6 x7 x8 x9||(aK x0 x1 x2 x3 x4 x5 x6 x7 x8||(!ZH x9 x9||(bp x0 x1 x2 x3 x4 x5 x6 x7 x8 x9||(bN x0 x1 x2 x3 x4 x5 x6 x7 x8 x9||(cn x0 x1 x2 x3 x4 x5 x6 x7 x8 x9||(cq x0 x1 x2 x3 x4 x5 x6 x7 x8 x9||rb (9223372036854775807:Nat) x3 x4 x5 x6 x7 x8)))))))),am x3 x4 x5 x6 x7 x8||(ar x3 x4 x5 x6 x7 x8 x9||(aD x0 x1 x2 x3 x4 x5 x6 x7 x8 x9||(aK x0 x1 x2 x3 x4 x5 x6 x7 x8||(!ZH x9 x9||(bp x0 x1 x2 x3 x4 x5 x6 x7 x8 x9||(bN x0 x1 x2 x3 x4 x5 x6 x7 x8 x9||(cn x0 x1 x2 x3 x4 x5 x6 x7 x8 x9||(cq x0 x1 x2 x3 x4 x5 x6 x7 x8 x9||Hq (rrN x0 x1 x2 x3 x4 x5 x6 x7 x8 x9) (rrM x0 x1 x2 x3 x4 x5 x6 x7 x8 x9) (rrN x0 x1 x2 x3 x4 x5 x6 x7 x8 x9) (rrM x0 x1 x2 x3 x4 x5 x6 x7 x8 x9) (rrP x0 x1 x2 x3 x4 x5 x6 x7 x8 x9) (rrF x0 x1 x2 x3 x4 x5 x6 x7 x8 x9) (rrR x0 x1 x2 x3 x4 x5 x6 x7 x8 x9) (rrL x0 x1 x2 x3 x4 x5 x6 x7 x8 x9) (YE x0 x1 x2 x3 x4 x5 x6 x7 x8 x9) (ZL x0 x1 x2 x3 x4 x5 x6 x7 x8 x9) (bB x0 x1 x2 x3 x4 x5 x6 x7 x8 x9) (bM x0 x1 x2 x3 x4 x5 x6 x7 x8 x9) (cm x0 x1 x2 x3 x4 x5 x6 x7 x8 x9) (cX x0 x1 x2 x3 x4 x5 x6 x7 x8 x9) (dW x0 x1 x2 x3 x4 x5 x6 x7 x8 x9))))))))),am x3 x4 x5 x6 x7 x8||(ar x3 x4 x5 x6 x7 x8 x9||(aD x0 x1 x2 x3 x4 x5 x6 x7 x8 x9||(aK x0 x1 x2 x3 x4 x5 x6 x7 x8||(!ZH x9 x9||(bp x0 x1 x2 x3 x4 x5 x6 x7 x8 x9||(bN x0 x1 x2 x3 x4 x5 x6 x7 x8 x9||(cn x0 x1 x2 x3 x4 x5 x6 x7 x8 x9||(cq x0 x1 x2 x3 x4 x5 x6 x7 x8 x9||(!(!pj x0 x1 x2 x3 x4 x5 x6 x7 x8 x9&&true)||pp x0 x1 x2 x3 x4 x5 x6 x7 x8 x9))))))))),am x3 x4 x5 x6 x7 x8||(ar x3 x4 x5 x6 x7 x8 x9||(aD x0 x1 x2 x3 x4 x5 x6 x7 x8 x9||(aK x0 x1 x2 x3 x4 x5 x6 x7 x8||(!ZH x9 x9||(bp x0 x1 x2 x3 x4 x5 x6 x7 x8 x9||(bN x0 x1 x2 x3 x4 x5 x6 x7 x8 x9||(cn x0 x1 x2 x3 x4 x5 x6 x7 x8 x9||(cq x0 x1 x2 x3 x4 x5 x6 x7 x8 x9||(lg x0 x1 x2 x3 x4 x5 x6 x7 x8 x9||pq x0 x1 x2 x3 x4 x5 x6 x7 x8 x9))))))))),am x3 x4 x5 x6 x7 x8||(ar x3 x4 x5 x6 x7 x8 x9||(aD x0 x1 x2 x3 x4 x5 x6 x7 x8 x9||(aK x0 x1 x2 x3 x4 x5 x6 x7 x8||(!ZH x9 x9||(bp x0 x1 x2 x3 x4 x5 x6 x7 x8 x9||(bN x0 x1 x2 x3 x4 x5 x6 x7 x8 x9||(cn x0 x1 x2 x3 x4 x5 x6 x7 x8 x9||(cq x0 x1 x2 x3 x4 x5 x6 x7 x8 x9||(lg x0 x1 x2 x3 x4 x5 x6 x7 x8 x9||pt x0 x1 x2 x3 x4 x5 x6 x7 x8 x9)))))))))]
end
def Ts:List SV→List Entry→Option Out
 | [.one ⟨true,[.val (.int .i64 x0),.ref 0,.ref 1,.ref 2,.ref 3,.val (.int .i64 x1),.ref 4,.ref 5,.val (.int .i64 x2)]⟩,.one ⟨false,[.ref 6]⟩],[.row false 2 (.int .i64) x3,.row false 206 (.pair (.int .i64) (.pair (.int .i64) (.int .i64))) x4,.row false 24 (.sl 2 (.int .i64)) x5,.row false 208 (.pair (.int .i64) (.pair (.int .i64) (.int .i64))) x6,.row false 210 (.pair (.int .i64) (.int .i64)) x7,.row false 212 (.pair (.int .i64) (.int .i64)) x8,.row false 83 (.pair (.int .i64) (.pair (.int .i64) (.pair (.pair (.int .i64) (.int .i64)) (.pair (.int .i64) (.pair (.int .i64) (.bool)))))) x9]=>some ⟨(.one ⟨false,[(.val (.bool (wC x0 x1 x2 x3 x4 x5 x6 x7 x8 x9)))]⟩),[(.row false 2 axl x3),(.row false 206 axj x4),(.row false 24 (CTy.sl (2:TypeId) axl) x5),(.row false 208 axj x6),(.row false 210 axk x7),(.row false 212 axk x8),(.row false 83 axi x9)],[],[(wD x0 x1 x2 x3 x4 x5 x6 x7 x8 x9)]⟩
 |_,_=>none
def ae2:PF Tryz.prog:=PF.ofG Tryz.prog [PF.trees Tryz.prog,Yi,PF.lend Yi,PF.fz Yi,Yp,PF.lend Yp,PF.fz Yp,aaY,PF.lend aaY,PF.fz aaY,Ql,PF.lend Ql,PF.fz Ql,aaZ,PF.lend aaZ,PF.fz aaZ,Qm,PF.lend Qm,PF.fz Qm,aaX,PF.lend aaX,PF.fz aaX,Qg,PF.lend Qg,PF.fz Qg,Wi,PF.lend Wi,PF.fz Wi,Wh,PF.lend Wh,PF.fz Wh,kX,PF.lend kX,PF.fz kX,MW,PF.lend MW,PF.fz MW,iS,PF.lend iS,PF.fz iS,iR,PF.lend iR,PF.fz iR] [] aq 9 Tryz.f9 Tryz.func9 (fun c _=>LOk.nil c) Ts (by
 intro vs es r h;unfold Ts at h;split at h
 ·cases h;kernel_rfl
 ·cases h)
end Go.SX

namespace Go.SX
open Go.Proofs
set_option maxRecDepth 100000
def jq(k:Int)(n:Nat):Int:=bif ltI (k - (n:Int)) 0 then -1 else k - (n:Int)
theorem Hl{k:Int}{n:Nat}(h:ltI (jq k n) 0=false):(n:Int)≤k∧0≤jq k n∧jq k n≤k:=by
 have h0:=It.1 h
 unfold jq at h0 ⊢
 cases hz:ltI (k - (n:Int)) 0 with
 |true=>rw [hz]at h0;simp at h0
 |false=>have:=It.1 hz;simp;omega
theorem ahk{k:Int}{n:Nat}(hk:0≤k∧k≤1048576)(hn:n≤9223372036854775807):(bif ltI (IntKind.i64.wrap (k - (n:Int))) 0 then(-1:Int)else IntKind.i64.wrap (k - (n:Int)))=jq k n:=by
 rw [aw (by omega) (by omega)];rfl
theorem auH(ps:List Int)(fs:List (Int×Int×Int))(rs:List (List Int))(lf:List (Int×Int×Int))(pl ls:List (Int×Int))(h:rb 9223372036854775807 ps fs rs lf pl ls=true):
  UT 1048576 ps fs rs=true∧(ltI (lK 1048576 ps fs rs lf pl ls) 0=false→rb 1048576 ps fs rs lf pl ls=true):=by
 obtain⟨h1,h2,⟨h3,h4⟩,h5,h6,h7⟩:=xN.1 h
 have q1:leN ps.length 9223372036854775807=true:=fk h1
 have q3:ahi 9223372036854775807 rs=true:=ahj.2 ⟨h3,h4⟩
 have e1:szV 1048576 ps=jq 1048576 ps.length:=rfl
 have p1:leI (-1) 1048576=true:=bC (by omega)
 have p2:leI 1048576 1048576=true:=bC (by omega)
 have n1:ltI (-1) 0=true:=bZ (by omega)
 simp only [UT,lK,Sa,e1,q1,q3,p1,p2,allT,Bool.and_true,Bool.true_and,cond_true]
 cases a1:ltI (jq 1048576 ps.length) 0 with
 |true=>simp [n1]
 |false=>
  obtain⟨b1,c1,d1⟩:=Hl a1
  have e2:fD (jq 1048576 ps.length) fs=jq (jq 1048576 ps.length) fs.length:=ahk ⟨c1,d1⟩ h2
  rw [e2]
  cases a2:ltI (jq (jq 1048576 ps.length) fs.length) 0 with
  |true=>simp [n1]
  |false=>
   obtain⟨b2,c2,d2⟩:=Hl a2
   have p3:leI (-1) (jq (jq 1048576 ps.length) fs.length)=true:=bC (by omega)
   have p4:leI (jq (jq 1048576 ps.length) fs.length) 1048576=true:=bC (by omega)
   rw [p3,p4]
   refine⟨rfl,?_⟩
   simp only [cond_false]
   cases a3:ltI (QL (jq (jq 1048576 ps.length) fs.length) rs) 0 with
   |true=>simp [n1]
   |false=>
    obtain⟨b3,c3,d3⟩:=apn (by omega) a3
    obtain⟨b3,b4⟩:=ahj.1 b3
    have e4:vz (QL (jq (jq 1048576 ps.length) fs.length) rs) lf=jq (QL (jq (jq 1048576 ps.length) fs.length) rs) lf.length:=ahk ⟨c3,by omega⟩ h5
    rw [e4,cond_false]
    cases a4:ltI (jq (QL (jq (jq 1048576 ps.length) fs.length) rs) lf.length) 0 with
    |true=>simp [n1]
    |false=>
     obtain⟨b5,c5,d5⟩:=Hl a4
     have e5:MV (jq (QL (jq (jq 1048576 ps.length) fs.length) rs) lf.length) pl=jq (jq (QL (jq (jq 1048576 ps.length) fs.length) rs) lf.length) pl.length:=ahk ⟨c5,by omega⟩ h6
     rw [e5,cond_false]
     cases a5:ltI (jq (jq (QL (jq (jq 1048576 ps.length) fs.length) rs) lf.length) pl.length) 0 with
     |true=>simp [n1]
     |false=>
      obtain⟨b6,c6,d6⟩:=Hl a5
      have e6:RZ (jq (jq (QL (jq (jq 1048576 ps.length) fs.length) rs) lf.length) pl.length) ls=jq (jq (jq (QL (jq (jq 1048576 ps.length) fs.length) rs) lf.length) pl.length) ls.length:=ahk ⟨c6,by omega⟩ h7
      rw [e6,cond_false]
      cases a6:ltI (jq (jq (jq (QL (jq (jq 1048576 ps.length) fs.length) rs) lf.length) pl.length) ls.length) 0 with
      |true=>simp [n1]
      |false=>
       obtain⟨b7,c7,d7⟩:=Hl a6
       exact fun _=>xN.2 ⟨by omega,by omega,⟨b3,b4⟩,by omega,by omega,by omega⟩
theorem asw(ps:List Int)(fs:List (Int×Int×Int))(rs:List (List Int))(lf:List (Int×Int×Int))(pl ls:List (Int×Int))(h:rb 1048576 ps fs rs lf pl ls=true):Lj ps fs rs lf pl ls=true:=by
 simp only [rb,Bool.and_eq_true]at h
 obtain⟨h1,h2,h3,h4,h5,h6⟩:=h
 simp only [Lj,allT,h1,h2,h3,h4,h5,h6,cond_true]
theorem agy(n mode day:Int)(ps:List Int)(fs:List (Int×Int×Int))(rs:List (List Int))(lf:List (Int×Int×Int))(pl ls:List (Int×Int))(h:rb 9223372036854775807 ps fs rs lf pl ls=true):
  Ho n mode day n mode day ps fs rs lf pl ls ps fs rs lf pl ls=true∧Hq n mode n mode ps fs rs lf pl ls ps fs rs lf pl=true:=by
 simp only [rb,Bool.and_eq_true]at h
 obtain⟨h1,h2,h3,h4,h5,h6⟩:=h
 have e1:eqT n n ps ps=true:=by simp [eqT,eqL]
 have e2:TD fs fs=true:=by simp [TD]
 have e3:aqJ rs rs=true:=by simp [aqJ]
 have e4:TD lf lf=true:=by simp [TD]
 have e5:amf pl pl=true:=by simp [amf]
 have e6:amf ls ls=true:=by simp [amf]
 simp [Ho,Hq,allT,e1,e2,e3,e4,e5,e6,h1,h2,h3,h4,h5,h6]
theorem avj{ps:List Int}{fs:List (Int×Int×Int)}{rs:List (List Int)}{lf:List (Int×Int×Int)}{pl ls:List (Int×Int)}(h1:ps.length≤maxLen)(h2:fs.length≤maxLen)(h3:rs.length≤maxLen)(h4: ∀ x∈rs,x.length≤maxLen)(h5:lf.length≤maxLen)(h6:pl.length≤maxLen)(h7:ls.length≤maxLen):rb 9223372036854775807 ps fs rs lf pl ls=true:=
 xN.2 ⟨h1,h2,⟨h3,h4⟩,h5,h6,h7⟩
theorem aql{n day:Int}{fs lf:L3}{pl ls:L2}{ps0:LI}{rs0:List LI}: ∀ {r:List RX} {i:Nat} {s:RS},al3 n day fs lf pl ls ps0 rs0 i s→(∀ x∈r,isX ps0 rs0 x=true)→al3 n day fs lf pl ls ps0 rs0 (i + r.length) (r.foldl (stX n day fs lf pl ls) s)
 | [],i,s,h,_=>h
 |x::r,i,s,h,hx=>by
  have h1:=(Od h (hx x (by simp))).2
  have h2:=aql (r:=r) h1 (fun y hy=>hx y (by simp [hy]))
  rw [List.foldl_cons,List.length_cons,show i + (r.length + 1)=i + 1 + r.length by omega]
  exact h2
theorem RideF.rK{n mode day:Int}{ps:LI}{fs:L3}{rs:List LI}{lf:L3}{pl ls:L2}(h:RideF n mode day ps fs rs lf pl ls):rb 1048576 ps fs rs lf pl ls=true:=by
 have:=h.lp;have:=h.lfs;have:=h.llf;have:=h.lpl;have:=h.lls;have:=h.hl
 refine xN.2 ⟨by omega,by omega,⟨by omega,fun x hx=> ?_⟩,by omega,by omega,by omega⟩
 have:=(Ft.1 (h.hA x hx).1).1
 omega
theorem avl(n mode day:Int)(ps:LI)(fs:L3)(rs:List LI)(lf:L3)(pl ls:L2)(xs:List RX):
  rb 1048576 (rrP n mode day ps fs rs lf pl ls xs) (rrF n mode day ps fs rs lf pl ls xs) (rrR n mode day ps fs rs lf pl ls xs) (rrL n mode day ps fs rs lf pl ls xs) (YE n mode day ps fs rs lf pl ls xs) (ZL n mode day ps fs rs lf pl ls xs)=true∧(rrV n mode day ps fs rs lf pl ls xs).length≤200:=by
 cases hb:rrB n mode day ps fs rs lf pl ls xs with
 |false=>simp only [rrP,rrF,rrR,rrL,YE,ZL,rrV,hb,cond_false];exact⟨rfl,by simp⟩
 |true=>
  obtain⟨f,hl,hX⟩:=asd hb
  obtain⟨g,_,_,h4⟩:=aql (r:=xs) (asb f) hX
  simp only [rrP,rrF,rrR,rrL,YE,ZL,rrV,hb,cond_true]
  refine⟨g.rK,?_⟩
  simp only [rrE];omega
theorem auG(ps:LI)(fs:L3)(rs:List LI)(lf:L3)(pl ls:L2)(h:rb 9223372036854775807 ps fs rs lf pl ls=true):lK 1048576 ps fs rs lf pl ls≤1048576:=by
 obtain⟨h1,h2,⟨h3,h4⟩,h5,h6,h7⟩:=xN.1 h
 have e1:szV 1048576 ps=jq 1048576 ps.length:=rfl
 simp only [lK,Sa,e1]
 cases a1:ltI (jq 1048576 ps.length) 0 with
 |true=>simp
 |false=>
  obtain⟨b1,c1,d1⟩:=Hl a1
  have e2:fD (jq 1048576 ps.length) fs=jq (jq 1048576 ps.length) fs.length:=ahk ⟨c1,d1⟩ h2
  rw [e2]
  cases a2:ltI (jq (jq 1048576 ps.length) fs.length) 0 with
  |true=>simp
  |false=>
   obtain⟨b2,c2,d2⟩:=Hl a2
   simp only [cond_false]
   cases a3:ltI (QL (jq (jq 1048576 ps.length) fs.length) rs) 0 with
   |true=>simp
   |false=>
    obtain⟨b3,c3,d3⟩:=apn (by omega) a3
    have e4:vz (QL (jq (jq 1048576 ps.length) fs.length) rs) lf=jq (QL (jq (jq 1048576 ps.length) fs.length) rs) lf.length:=ahk ⟨c3,by omega⟩ h5
    rw [e4,cond_false]
    cases a4:ltI (jq (QL (jq (jq 1048576 ps.length) fs.length) rs) lf.length) 0 with
    |true=>simp
    |false=>
     obtain⟨b5,c5,d5⟩:=Hl a4
     have e5:MV (jq (QL (jq (jq 1048576 ps.length) fs.length) rs) lf.length) pl=jq (jq (QL (jq (jq 1048576 ps.length) fs.length) rs) lf.length) pl.length:=ahk ⟨c5,by omega⟩ h6
     rw [e5,cond_false]
     cases a5:ltI (jq (jq (QL (jq (jq 1048576 ps.length) fs.length) rs) lf.length) pl.length) 0 with
     |true=>simp
     |false=>
      obtain⟨b6,c6,d6⟩:=Hl a5
      have e6:RZ (jq (jq (QL (jq (jq 1048576 ps.length) fs.length) rs) lf.length) pl.length) ls=jq (jq (jq (QL (jq (jq 1048576 ps.length) fs.length) rs) lf.length) pl.length) ls.length:=ahk ⟨c6,by omega⟩ h7
      rw [e6,cond_false]
      cases a6:ltI (jq (jq (jq (QL (jq (jq 1048576 ps.length) fs.length) rs) lf.length) pl.length) ls.length) 0 with
      |true=>simp
      |false=>
       obtain⟨b7,c7,d7⟩:=Hl a6
       rw [cond_false];omega
theorem arX(n:Int)(ps:LI)(fs:L3)(rs:List LI)(lf:L3)(mode:Int)(pl ls:L2)(day:Int)(xs:List RX)(wps:wfD (.sl 2 (.int .i64)) ps)(wfs:wfD (.sl 206 (.pair (.int .i64) (.pair (.int .i64) (.int .i64)))) fs)(wrs:wfD (.sl 24 (.sl 2 (.int .i64))) rs)(wlf:wfD (.sl 208 (.pair (.int .i64) (.pair (.int .i64) (.int .i64)))) lf)(wpl:wfD (.sl 210 (.pair (.int .i64) (.int .i64))) pl)(wls:wfD (.sl 212 (.pair (.int .i64) (.int .i64))) ls)(wxs:wfD (.sl 83 (.pair (.int .i64) (.pair (.int .i64) (.pair (.pair (.int .i64) (.int .i64)) (.pair (.int .i64) (.pair (.int .i64) (.bool))))))) xs):
  wC n mode day ps fs rs lf pl ls xs=true∧wD n mode day ps fs rs lf pl ls xs=true:=by
 have hN:rb 9223372036854775807 ps fs rs lf pl ls=true:=avj wps.1 wfs.1 wrs.1 (fun x hx=>(wrs.2 x hx).1) wlf.1 wpl.1 wls.1
 obtain⟨s1,s2⟩:=auH ps fs rs lf pl ls hN
 obtain⟨g1,g2⟩:=agy n mode day ps fs rs lf pl ls hN
 have eX: ∀ l:List RX,ZH l l=true:=aua
 cases r0:ltI (lK 1048576 ps fs rs lf pl ls) 0 with
 |true=>simp [wC,wD,am,ar,mt,mu,aD,aK,qy,dy,qz,qA,gL,bp,bB,oY,bM,oZ,cm,pa,cX,pb,dW,pc,gM,pd,pe,bN,ld,pf,jj,pg,ph,cn,cq,pj,lg,lh,pk,li,pm,pn,po,pp,pq,pt,r0,s1,allT]
 |false=>
  have hK:=s2 r0
  have tR:=asw _ _ _ _ _ _ hK
  have i2:leI (-1) (lK 1048576 ps fs rs lf pl ls)=true:=bC (by have:=It.1 r0;omega)
  have i3:leI (lK 1048576 ps fs rs lf pl ls) 1048576=true:=bC (auG ps fs rs lf pl ls hN)
  have l1:leN xs.length 9223372036854775807=true:=fk wxs.1
  cases r1:ltI (szN (lK 1048576 ps fs rs lf pl ls) xs.length) 0 with
  |true=>simp [wC,wD,am,ar,mt,mu,aD,aK,qy,dy,qz,qA,gL,bp,bB,oY,bM,oZ,cm,pa,cX,pb,dW,pc,gM,pd,pe,bN,ld,pf,jj,pg,ph,cn,cq,pj,lg,lh,pk,li,pm,pn,po,pp,pq,pt,r0,r1,s1,l1,i2,i3,hN,tR,allT]
  |false=>
   have lx:xs.length≤1048576:=by
    have h2:=Sg.1 i3
    unfold szN at r1
    cases hz:ltI (lK 1048576 ps fs rs lf pl ls - (xs.length:Int)) 0 with
    |true=>rw [hz]at r1;cases r1
    |false=>have:=It.1 hz;omega
   have l2:leN xs.length 1048576=true:=fk lx
   have hT:=anC hK
   obtain⟨q1,q2⟩:=avl n mode day ps fs rs lf pl ls xs
   generalize hP:rrP n mode day ps fs rs lf pl ls xs=P at q1
   generalize hF:rrF n mode day ps fs rs lf pl ls xs=F at q1
   generalize hR:rrR n mode day ps fs rs lf pl ls xs=R at q1
   generalize hL:rrL n mode day ps fs rs lf pl ls xs=L at q1
   generalize hPl:YE n mode day ps fs rs lf pl ls xs=Pl at q1
   generalize hLs:ZL n mode day ps fs rs lf pl ls xs=Ls at q1
   generalize hV:rrV n mode day ps fs rs lf pl ls xs=V at q2
   have q3:rb 9223372036854775807 P F R L Pl Ls=true:=atr q1 (by omega)
   have q4:=anC q1
   have e1: ∀ a b c,Ho a b c a b c P F R L Pl Ls P F R L Pl Ls=true:=fun a b c=>(agy a b c P F R L Pl Ls q3).1
   have e2: ∀ a b,Hq a b a b P F R L Pl Ls P F R L Pl=true:=fun a b=>(agy a b 0 P F R L Pl Ls q3).2
   have k1:Rp 1 (HQ ps fs rs lf pl ls)=true:=BT.2 (by omega)
   have k2:ltI (1 + (HQ ps fs rs lf pl ls:Int)) 0=false:=aal (by omega)
   have m1:Rp 1 (HQ P F R L Pl Ls)=true:=BT.2 (by omega)
   have m2:ltI (1 + (HQ P F R L Pl Ls:Int)) 0=false:=aal (by omega)
   have hU:=arL 1 P F R L Pl Ls (by rw [m1,q3];rfl)
   have nU:=atg (k:=1) q3
   have uM:=q3
   have xk1:EY 7 (1 + (HQ ps fs rs lf pl ls:Int)) xs.length=true:=rX.2 (by omega)
   have xk2:ltI (1 + (HQ ps fs rs lf pl ls:Int) + 7 * (xs.length:Int)) 0=false:=aal (by omega)
   have v1:Rp (1 + (HQ P F R L Pl Ls:Int)) V.length=true:=BT.2 (by omega)
   have v2:leN V.length 9223372036854775807=true:=fk (by omega)
   have v3:leN (sN (1 + (HQ P F R L Pl Ls:Int)) V.length).length 9223372036854775807=true:=fk (by rw [Ll];omega)
   have v4:RB (1 + (HQ P F R L Pl Ls:Int)) (sN (1 + (HQ P F R L Pl Ls:Int)) V.length)=1 + (HQ P F R L Pl Ls:Int) + (V.length:Int):=aoA _ _ v1
   have v5:ltI (1 + (HQ P F R L Pl Ls:Int) + (V.length:Int)) 0=false:=aal (by omega)
   have v6:eqL V V=true:=by simp [eqL]
   have v7:V.length=V.length:=rfl
   have r_a0:=Eq.refl (am ps fs rs lf pl ls)
   conv at r_a0=>rhs;simp only [am,cond_true,cond_false,Bool.cond_self,Bool.not_true,Bool.not_false,Bool.true_or,Bool.or_true,Bool.false_or,Bool.or_false,Bool.and_self,Bool.and_true,Bool.true_and,Bool.false_and,Bool.and_false,bne_self_eq_false,beq_self_eq_true,allT,r0,s1,tR,hN,g1,g2,i2,i3,eX,l1,l2,r1,hP,hF,hR,hL,hPl,hLs,e1,e2,k1,k2,m1,m2,hU,nU,uM,hV,v1,v2,v3,v4,v5,v6,v7,xk1,xk2]
   have r_a1:=Eq.refl (ar ps fs rs lf pl ls xs)
   conv at r_a1=>rhs;simp only [ar,cond_true,cond_false,Bool.cond_self,Bool.not_true,Bool.not_false,Bool.true_or,Bool.or_true,Bool.false_or,Bool.or_false,Bool.and_self,Bool.and_true,Bool.true_and,Bool.false_and,Bool.and_false,bne_self_eq_false,beq_self_eq_true,allT,r0,s1,tR,hN,g1,g2,i2,i3,eX,l1,l2,r1,hP,hF,hR,hL,hPl,hLs,e1,e2,k1,k2,m1,m2,hU,nU,uM,hV,v1,v2,v3,v4,v5,v6,v7,xk1,xk2,r_a0]
   have r_a2:=Eq.refl (mt n mode day ps fs rs lf pl ls xs)
   conv at r_a2=>rhs;simp only [mt,cond_true,cond_false,Bool.cond_self,Bool.not_true,Bool.not_false,Bool.true_or,Bool.or_true,Bool.false_or,Bool.or_false,Bool.and_self,Bool.and_true,Bool.true_and,Bool.false_and,Bool.and_false,bne_self_eq_false,beq_self_eq_true,allT,r0,s1,tR,hN,g1,g2,i2,i3,eX,l1,l2,r1,hP,hF,hR,hL,hPl,hLs,e1,e2,k1,k2,m1,m2,hU,nU,uM,hV,v1,v2,v3,v4,v5,v6,v7,xk1,xk2,r_a0,r_a1]
   have r_a3:=Eq.refl (mu n mode day ps fs rs lf pl ls xs)
   conv at r_a3=>rhs;simp only [mu,cond_true,cond_false,Bool.cond_self,Bool.not_true,Bool.not_false,Bool.true_or,Bool.or_true,Bool.false_or,Bool.or_false,Bool.and_self,Bool.and_true,Bool.true_and,Bool.false_and,Bool.and_false,bne_self_eq_false,beq_self_eq_true,allT,r0,s1,tR,hN,g1,g2,i2,i3,eX,l1,l2,r1,hP,hF,hR,hL,hPl,hLs,e1,e2,k1,k2,m1,m2,hU,nU,uM,hV,v1,v2,v3,v4,v5,v6,v7,xk1,xk2,r_a0,r_a1,r_a2]
   have r_a4:=Eq.refl (aD n mode day ps fs rs lf pl ls xs)
   conv at r_a4=>rhs;simp only [aD,cond_true,cond_false,Bool.cond_self,Bool.not_true,Bool.not_false,Bool.true_or,Bool.or_true,Bool.false_or,Bool.or_false,Bool.and_self,Bool.and_true,Bool.true_and,Bool.false_and,Bool.and_false,bne_self_eq_false,beq_self_eq_true,allT,r0,s1,tR,hN,g1,g2,i2,i3,eX,l1,l2,r1,hP,hF,hR,hL,hPl,hLs,e1,e2,k1,k2,m1,m2,hU,nU,uM,hV,v1,v2,v3,v4,v5,v6,v7,xk1,xk2,r_a0,r_a1,r_a2,r_a3]
   have r_a5:=Eq.refl (aK n mode day ps fs rs lf pl ls)
   conv at r_a5=>rhs;simp only [aK,cond_true,cond_false,Bool.cond_self,Bool.not_true,Bool.not_false,Bool.true_or,Bool.or_true,Bool.false_or,Bool.or_false,Bool.and_self,Bool.and_true,Bool.true_and,Bool.false_and,Bool.and_false,bne_self_eq_false,beq_self_eq_true,allT,r0,s1,tR,hN,g1,g2,i2,i3,eX,l1,l2,r1,hP,hF,hR,hL,hPl,hLs,e1,e2,k1,k2,m1,m2,hU,nU,uM,hV,v1,v2,v3,v4,v5,v6,v7,xk1,xk2,r_a0,r_a1,r_a2,r_a3,r_a4]
   have r_a6:=Eq.refl (qy ps fs rs lf pl ls)
   conv at r_a6=>rhs;simp only [qy,cond_true,cond_false,Bool.cond_self,Bool.not_true,Bool.not_false,Bool.true_or,Bool.or_true,Bool.false_or,Bool.or_false,Bool.and_self,Bool.and_true,Bool.true_and,Bool.false_and,Bool.and_false,bne_self_eq_false,beq_self_eq_true,allT,r0,s1,tR,hN,g1,g2,i2,i3,eX,l1,l2,r1,hP,hF,hR,hL,hPl,hLs,e1,e2,k1,k2,m1,m2,hU,nU,uM,hV,v1,v2,v3,v4,v5,v6,v7,xk1,xk2,r_a0,r_a1,r_a2,r_a3,r_a4,r_a5]
   have r_a7:=Eq.refl (dy ps fs rs lf pl ls xs)
   conv at r_a7=>rhs;simp only [dy,cond_true,cond_false,Bool.cond_self,Bool.not_true,Bool.not_false,Bool.true_or,Bool.or_true,Bool.false_or,Bool.or_false,Bool.and_self,Bool.and_true,Bool.true_and,Bool.false_and,Bool.and_false,bne_self_eq_false,beq_self_eq_true,allT,r0,s1,tR,hN,g1,g2,i2,i3,eX,l1,l2,r1,hP,hF,hR,hL,hPl,hLs,e1,e2,k1,k2,m1,m2,hU,nU,uM,hV,v1,v2,v3,v4,v5,v6,v7,xk1,xk2,r_a0,r_a1,r_a2,r_a3,r_a4,r_a5,r_a6]
   have r_a8:=Eq.refl (qz n mode day ps fs rs lf pl ls xs)
   conv at r_a8=>rhs;simp only [qz,cond_true,cond_false,Bool.cond_self,Bool.not_true,Bool.not_false,Bool.true_or,Bool.or_true,Bool.false_or,Bool.or_false,Bool.and_self,Bool.and_true,Bool.true_and,Bool.false_and,Bool.and_false,bne_self_eq_false,beq_self_eq_true,allT,r0,s1,tR,hN,g1,g2,i2,i3,eX,l1,l2,r1,hP,hF,hR,hL,hPl,hLs,e1,e2,k1,k2,m1,m2,hU,nU,uM,hV,v1,v2,v3,v4,v5,v6,v7,xk1,xk2,r_a0,r_a1,r_a2,r_a3,r_a4,r_a5,r_a6,r_a7]
   have r_a9:=Eq.refl (qA n mode day ps fs rs lf pl ls xs)
   conv at r_a9=>rhs;simp only [qA,cond_true,cond_false,Bool.cond_self,Bool.not_true,Bool.not_false,Bool.true_or,Bool.or_true,Bool.false_or,Bool.or_false,Bool.and_self,Bool.and_true,Bool.true_and,Bool.false_and,Bool.and_false,bne_self_eq_false,beq_self_eq_true,allT,r0,s1,tR,hN,g1,g2,i2,i3,eX,l1,l2,r1,hP,hF,hR,hL,hPl,hLs,e1,e2,k1,k2,m1,m2,hU,nU,uM,hV,v1,v2,v3,v4,v5,v6,v7,xk1,xk2,r_a0,r_a1,r_a2,r_a3,r_a4,r_a5,r_a6,r_a7,r_a8]
   have r_a10:=Eq.refl (gL n mode day ps fs rs lf pl ls xs)
   conv at r_a10=>rhs;simp only [gL,cond_true,cond_false,Bool.cond_self,Bool.not_true,Bool.not_false,Bool.true_or,Bool.or_true,Bool.false_or,Bool.or_false,Bool.and_self,Bool.and_true,Bool.true_and,Bool.false_and,Bool.and_false,bne_self_eq_false,beq_self_eq_true,allT,r0,s1,tR,hN,g1,g2,i2,i3,eX,l1,l2,r1,hP,hF,hR,hL,hPl,hLs,e1,e2,k1,k2,m1,m2,hU,nU,uM,hV,v1,v2,v3,v4,v5,v6,v7,xk1,xk2,r_a0,r_a1,r_a2,r_a3,r_a4,r_a5,r_a6,r_a7,r_a8,r_a9]
   have r_a11:=Eq.refl (bp n mode day ps fs rs lf pl ls xs)
   conv at r_a11=>rhs;simp only [bp,cond_true,cond_false,Bool.cond_self,Bool.not_true,Bool.not_false,Bool.true_or,Bool.or_true,Bool.false_or,Bool.or_false,Bool.and_self,Bool.and_true,Bool.true_and,Bool.false_and,Bool.and_false,bne_self_eq_false,beq_self_eq_true,allT,r0,s1,tR,hN,g1,g2,i2,i3,eX,l1,l2,r1,hP,hF,hR,hL,hPl,hLs,e1,e2,k1,k2,m1,m2,hU,nU,uM,hV,v1,v2,v3,v4,v5,v6,v7,xk1,xk2,r_a0,r_a1,r_a2,r_a3,r_a4,r_a5,r_a6,r_a7,r_a8,r_a9,r_a10]
   have r_a12:=Eq.refl (bB n mode day ps fs rs lf pl ls xs)
   conv at r_a12=>rhs;simp only [bB,cond_true,cond_false,Bool.cond_self,Bool.not_true,Bool.not_false,Bool.true_or,Bool.or_true,Bool.false_or,Bool.or_false,Bool.and_self,Bool.and_true,Bool.true_and,Bool.false_and,Bool.and_false,bne_self_eq_false,beq_self_eq_true,allT,r0,s1,tR,hN,g1,g2,i2,i3,eX,l1,l2,r1,hP,hF,hR,hL,hPl,hLs,e1,e2,k1,k2,m1,m2,hU,nU,uM,hV,v1,v2,v3,v4,v5,v6,v7,xk1,xk2,r_a0,r_a1,r_a2,r_a3,r_a4,r_a5,r_a6,r_a7,r_a8,r_a9,r_a10,r_a11]
   have r_a13:=Eq.refl (oY n mode day ps fs rs lf pl ls xs)
   conv at r_a13=>rhs;simp only [oY,cond_true,cond_false,Bool.cond_self,Bool.not_true,Bool.not_false,Bool.true_or,Bool.or_true,Bool.false_or,Bool.or_false,Bool.and_self,Bool.and_true,Bool.true_and,Bool.false_and,Bool.and_false,bne_self_eq_false,beq_self_eq_true,allT,r0,s1,tR,hN,g1,g2,i2,i3,eX,l1,l2,r1,hP,hF,hR,hL,hPl,hLs,e1,e2,k1,k2,m1,m2,hU,nU,uM,hV,v1,v2,v3,v4,v5,v6,v7,xk1,xk2,r_a0,r_a1,r_a2,r_a3,r_a4,r_a5,r_a6,r_a7,r_a8,r_a9,r_a10,r_a11,r_a12]
   have r_a14:=Eq.refl (bM n mode day ps fs rs lf pl ls xs)
   conv at r_a14=>rhs;simp only [bM,cond_true,cond_false,Bool.cond_self,Bool.not_true,Bool.not_false,Bool.true_or,Bool.or_true,Bool.false_or,Bool.or_false,Bool.and_self,Bool.and_true,Bool.true_and,Bool.false_and,Bool.and_false,bne_self_eq_false,beq_self_eq_true,allT,r0,s1,tR,hN,g1,g2,i2,i3,eX,l1,l2,r1,hP,hF,hR,hL,hPl,hLs,e1,e2,k1,k2,m1,m2,hU,nU,uM,hV,v1,v2,v3,v4,v5,v6,v7,xk1,xk2,r_a0,r_a1,r_a2,r_a3,r_a4,r_a5,r_a6,r_a7,r_a8,r_a9,r_a10,r_a11,r_a12,r_a13]
   have r_a15:=Eq.refl (oZ n mode day ps fs rs lf pl ls xs)
   conv at r_a15=>rhs;simp only [oZ,cond_true,cond_false,Bool.cond_self,Bool.not_true,Bool.not_false,Bool.true_or,Bool.or_true,Bool.false_or,Bool.or_false,Bool.and_self,Bool.and_true,Bool.true_and,Bool.false_and,Bool.and_false,bne_self_eq_false,beq_self_eq_true,allT,r0,s1,tR,hN,g1,g2,i2,i3,eX,l1,l2,r1,hP,hF,hR,hL,hPl,hLs,e1,e2,k1,k2,m1,m2,hU,nU,uM,hV,v1,v2,v3,v4,v5,v6,v7,xk1,xk2,r_a0,r_a1,r_a2,r_a3,r_a4,r_a5,r_a6,r_a7,r_a8,r_a9,r_a10,r_a11,r_a12,r_a13,r_a14]
   have r_a16:=Eq.refl (cm n mode day ps fs rs lf pl ls xs)
   conv at r_a16=>rhs;simp only [cm,cond_true,cond_false,Bool.cond_self,Bool.not_true,Bool.not_false,Bool.true_or,Bool.or_true,Bool.false_or,Bool.or_false,Bool.and_self,Bool.and_true,Bool.true_and,Bool.false_and,Bool.and_false,bne_self_eq_false,beq_self_eq_true,allT,r0,s1,tR,hN,g1,g2,i2,i3,eX,l1,l2,r1,hP,hF,hR,hL,hPl,hLs,e1,e2,k1,k2,m1,m2,hU,nU,uM,hV,v1,v2,v3,v4,v5,v6,v7,xk1,xk2,r_a0,r_a1,r_a2,r_a3,r_a4,r_a5,r_a6,r_a7,r_a8,r_a9,r_a10,r_a11,r_a12,r_a13,r_a14,r_a15]
   have r_a17:=Eq.refl (pa n mode day ps fs rs lf pl ls xs)
   conv at r_a17=>rhs;simp only [pa,cond_true,cond_false,Bool.cond_self,Bool.not_true,Bool.not_false,Bool.true_or,Bool.or_true,Bool.false_or,Bool.or_false,Bool.and_self,Bool.and_true,Bool.true_and,Bool.false_and,Bool.and_false,bne_self_eq_false,beq_self_eq_true,allT,r0,s1,tR,hN,g1,g2,i2,i3,eX,l1,l2,r1,hP,hF,hR,hL,hPl,hLs,e1,e2,k1,k2,m1,m2,hU,nU,uM,hV,v1,v2,v3,v4,v5,v6,v7,xk1,xk2,r_a0,r_a1,r_a2,r_a3,r_a4,r_a5,r_a6,r_a7,r_a8,r_a9,r_a10,r_a11,r_a12,r_a13,r_a14,r_a15,r_a16]
   have r_a18:=Eq.refl (cX n mode day ps fs rs lf pl ls xs)
   conv at r_a18=>rhs;simp only [cX,cond_true,cond_false,Bool.cond_self,Bool.not_true,Bool.not_false,Bool.true_or,Bool.or_true,Bool.false_or,Bool.or_false,Bool.and_self,Bool.and_true,Bool.true_and,Bool.false_and,Bool.and_false,bne_self_eq_false,beq_self_eq_true,allT,r0,s1,tR,hN,g1,g2,i2,i3,eX,l1,l2,r1,hP,hF,hR,hL,hPl,hLs,e1,e2,k1,k2,m1,m2,hU,nU,uM,hV,v1,v2,v3,v4,v5,v6,v7,xk1,xk2,r_a0,r_a1,r_a2,r_a3,r_a4,r_a5,r_a6,r_a7,r_a8,r_a9,r_a10,r_a11,r_a12,r_a13,r_a14,r_a15,r_a16,r_a17]
   have r_a19:=Eq.refl (pb n mode day ps fs rs lf pl ls xs)
   conv at r_a19=>rhs;simp only [pb,cond_true,cond_false,Bool.cond_self,Bool.not_true,Bool.not_false,Bool.true_or,Bool.or_true,Bool.false_or,Bool.or_false,Bool.and_self,Bool.and_true,Bool.true_and,Bool.false_and,Bool.and_false,bne_self_eq_false,beq_self_eq_true,allT,r0,s1,tR,hN,g1,g2,i2,i3,eX,l1,l2,r1,hP,hF,hR,hL,hPl,hLs,e1,e2,k1,k2,m1,m2,hU,nU,uM,hV,v1,v2,v3,v4,v5,v6,v7,xk1,xk2,r_a0,r_a1,r_a2,r_a3,r_a4,r_a5,r_a6,r_a7,r_a8,r_a9,r_a10,r_a11,r_a12,r_a13,r_a14,r_a15,r_a16,r_a17,r_a18]
   have r_a20:=Eq.refl (dW n mode day ps fs rs lf pl ls xs)
   conv at r_a20=>rhs;simp only [dW,cond_true,cond_false,Bool.cond_self,Bool.not_true,Bool.not_false,Bool.true_or,Bool.or_true,Bool.false_or,Bool.or_false,Bool.and_self,Bool.and_true,Bool.true_and,Bool.false_and,Bool.and_false,bne_self_eq_false,beq_self_eq_true,allT,r0,s1,tR,hN,g1,g2,i2,i3,eX,l1,l2,r1,hP,hF,hR,hL,hPl,hLs,e1,e2,k1,k2,m1,m2,hU,nU,uM,hV,v1,v2,v3,v4,v5,v6,v7,xk1,xk2,r_a0,r_a1,r_a2,r_a3,r_a4,r_a5,r_a6,r_a7,r_a8,r_a9,r_a10,r_a11,r_a12,r_a13,r_a14,r_a15,r_a16,r_a17,r_a18,r_a19]
   have r_a21:=Eq.refl (pc n mode day ps fs rs lf pl ls xs)
   conv at r_a21=>rhs;simp only [pc,cond_true,cond_false,Bool.cond_self,Bool.not_true,Bool.not_false,Bool.true_or,Bool.or_true,Bool.false_or,Bool.or_false,Bool.and_self,Bool.and_true,Bool.true_and,Bool.false_and,Bool.and_false,bne_self_eq_false,beq_self_eq_true,allT,r0,s1,tR,hN,g1,g2,i2,i3,eX,l1,l2,r1,hP,hF,hR,hL,hPl,hLs,e1,e2,k1,k2,m1,m2,hU,nU,uM,hV,v1,v2,v3,v4,v5,v6,v7,xk1,xk2,r_a0,r_a1,r_a2,r_a3,r_a4,r_a5,r_a6,r_a7,r_a8,r_a9,r_a10,r_a11,r_a12,r_a13,r_a14,r_a15,r_a16,r_a17,r_a18,r_a19,r_a20]
   have r_a22:=Eq.refl (gM n mode day ps fs rs lf pl ls xs)
   conv at r_a22=>rhs;simp only [gM,cond_true,cond_false,Bool.cond_self,Bool.not_true,Bool.not_false,Bool.true_or,Bool.or_true,Bool.false_or,Bool.or_false,Bool.and_self,Bool.and_true,Bool.true_and,Bool.false_and,Bool.and_false,bne_self_eq_false,beq_self_eq_true,allT,r0,s1,tR,hN,g1,g2,i2,i3,eX,l1,l2,r1,hP,hF,hR,hL,hPl,hLs,e1,e2,k1,k2,m1,m2,hU,nU,uM,hV,v1,v2,v3,v4,v5,v6,v7,xk1,xk2,r_a0,r_a1,r_a2,r_a3,r_a4,r_a5,r_a6,r_a7,r_a8,r_a9,r_a10,r_a11,r_a12,r_a13,r_a14,r_a15,r_a16,r_a17,r_a18,r_a19,r_a20,r_a21]
   have r_a23:=Eq.refl (pd n mode day ps fs rs lf pl ls xs)
   conv at r_a23=>rhs;simp only [pd,cond_true,cond_false,Bool.cond_self,Bool.not_true,Bool.not_false,Bool.true_or,Bool.or_true,Bool.false_or,Bool.or_false,Bool.and_self,Bool.and_true,Bool.true_and,Bool.false_and,Bool.and_false,bne_self_eq_false,beq_self_eq_true,allT,r0,s1,tR,hN,g1,g2,i2,i3,eX,l1,l2,r1,hP,hF,hR,hL,hPl,hLs,e1,e2,k1,k2,m1,m2,hU,nU,uM,hV,v1,v2,v3,v4,v5,v6,v7,xk1,xk2,r_a0,r_a1,r_a2,r_a3,r_a4,r_a5,r_a6,r_a7,r_a8,r_a9,r_a10,r_a11,r_a12,r_a13,r_a14,r_a15,r_a16,r_a17,r_a18,r_a19,r_a20,r_a21,r_a22]
   have r_a24:=Eq.refl (pe n mode day ps fs rs lf pl ls xs)
   conv at r_a24=>rhs;simp only [pe,cond_true,cond_false,Bool.cond_self,Bool.not_true,Bool.not_false,Bool.true_or,Bool.or_true,Bool.false_or,Bool.or_false,Bool.and_self,Bool.and_true,Bool.true_and,Bool.false_and,Bool.and_false,bne_self_eq_false,beq_self_eq_true,allT,r0,s1,tR,hN,g1,g2,i2,i3,eX,l1,l2,r1,hP,hF,hR,hL,hPl,hLs,e1,e2,k1,k2,m1,m2,hU,nU,uM,hV,v1,v2,v3,v4,v5,v6,v7,xk1,xk2,r_a0,r_a1,r_a2,r_a3,r_a4,r_a5,r_a6,r_a7,r_a8,r_a9,r_a10,r_a11,r_a12,r_a13,r_a14,r_a15,r_a16,r_a17,r_a18,r_a19,r_a20,r_a21,r_a22,r_a23]
   have r_a25:=Eq.refl (bN n mode day ps fs rs lf pl ls xs)
   conv at r_a25=>rhs;simp only [bN,cond_true,cond_false,Bool.cond_self,Bool.not_true,Bool.not_false,Bool.true_or,Bool.or_true,Bool.false_or,Bool.or_false,Bool.and_self,Bool.and_true,Bool.true_and,Bool.false_and,Bool.and_false,bne_self_eq_false,beq_self_eq_true,allT,r0,s1,tR,hN,g1,g2,i2,i3,eX,l1,l2,r1,hP,hF,hR,hL,hPl,hLs,e1,e2,k1,k2,m1,m2,hU,nU,uM,hV,v1,v2,v3,v4,v5,v6,v7,xk1,xk2,r_a0,r_a1,r_a2,r_a3,r_a4,r_a5,r_a6,r_a7,r_a8,r_a9,r_a10,r_a11,r_a12,r_a13,r_a14,r_a15,r_a16,r_a17,r_a18,r_a19,r_a20,r_a21,r_a22,r_a23,r_a24]
   have r_a26:=Eq.refl (ld n mode day ps fs rs lf pl ls xs)
   conv at r_a26=>rhs;simp only [ld,cond_true,cond_false,Bool.cond_self,Bool.not_true,Bool.not_false,Bool.true_or,Bool.or_true,Bool.false_or,Bool.or_false,Bool.and_self,Bool.and_true,Bool.true_and,Bool.false_and,Bool.and_false,bne_self_eq_false,beq_self_eq_true,allT,r0,s1,tR,hN,g1,g2,i2,i3,eX,l1,l2,r1,hP,hF,hR,hL,hPl,hLs,e1,e2,k1,k2,m1,m2,hU,nU,uM,hV,v1,v2,v3,v4,v5,v6,v7,xk1,xk2,r_a0,r_a1,r_a2,r_a3,r_a4,r_a5,r_a6,r_a7,r_a8,r_a9,r_a10,r_a11,r_a12,r_a13,r_a14,r_a15,r_a16,r_a17,r_a18,r_a19,r_a20,r_a21,r_a22,r_a23,r_a24,r_a25]
   have r_a27:=Eq.refl (pf n mode day ps fs rs lf pl ls xs)
   conv at r_a27=>rhs;simp only [pf,cond_true,cond_false,Bool.cond_self,Bool.not_true,Bool.not_false,Bool.true_or,Bool.or_true,Bool.false_or,Bool.or_false,Bool.and_self,Bool.and_true,Bool.true_and,Bool.false_and,Bool.and_false,bne_self_eq_false,beq_self_eq_true,allT,r0,s1,tR,hN,g1,g2,i2,i3,eX,l1,l2,r1,hP,hF,hR,hL,hPl,hLs,e1,e2,k1,k2,m1,m2,hU,nU,uM,hV,v1,v2,v3,v4,v5,v6,v7,xk1,xk2,r_a0,r_a1,r_a2,r_a3,r_a4,r_a5,r_a6,r_a7,r_a8,r_a9,r_a10,r_a11,r_a12,r_a13,r_a14,r_a15,r_a16,r_a17,r_a18,r_a19,r_a20,r_a21,r_a22,r_a23,r_a24,r_a25,r_a26]
   have r_a28:=Eq.refl (jj n mode day ps fs rs lf pl ls xs)
   conv at r_a28=>rhs;simp only [jj,cond_true,cond_false,Bool.cond_self,Bool.not_true,Bool.not_false,Bool.true_or,Bool.or_true,Bool.false_or,Bool.or_false,Bool.and_self,Bool.and_true,Bool.true_and,Bool.false_and,Bool.and_false,bne_self_eq_false,beq_self_eq_true,allT,r0,s1,tR,hN,g1,g2,i2,i3,eX,l1,l2,r1,hP,hF,hR,hL,hPl,hLs,e1,e2,k1,k2,m1,m2,hU,nU,uM,hV,v1,v2,v3,v4,v5,v6,v7,xk1,xk2,r_a0,r_a1,r_a2,r_a3,r_a4,r_a5,r_a6,r_a7,r_a8,r_a9,r_a10,r_a11,r_a12,r_a13,r_a14,r_a15,r_a16,r_a17,r_a18,r_a19,r_a20,r_a21,r_a22,r_a23,r_a24,r_a25,r_a26,r_a27]
   have r_a29:=Eq.refl (pg n mode day ps fs rs lf pl ls xs)
   conv at r_a29=>rhs;simp only [pg,cond_true,cond_false,Bool.cond_self,Bool.not_true,Bool.not_false,Bool.true_or,Bool.or_true,Bool.false_or,Bool.or_false,Bool.and_self,Bool.and_true,Bool.true_and,Bool.false_and,Bool.and_false,bne_self_eq_false,beq_self_eq_true,allT,r0,s1,tR,hN,g1,g2,i2,i3,eX,l1,l2,r1,hP,hF,hR,hL,hPl,hLs,e1,e2,k1,k2,m1,m2,hU,nU,uM,hV,v1,v2,v3,v4,v5,v6,v7,xk1,xk2,r_a0,r_a1,r_a2,r_a3,r_a4,r_a5,r_a6,r_a7,r_a8,r_a9,r_a10,r_a11,r_a12,r_a13,r_a14,r_a15,r_a16,r_a17,r_a18,r_a19,r_a20,r_a21,r_a22,r_a23,r_a24,r_a25,r_a26,r_a27,r_a28]
   have r_a30:=Eq.refl (ph n mode day ps fs rs lf pl ls xs)
   conv at r_a30=>rhs;simp only [ph,cond_true,cond_false,Bool.cond_self,Bool.not_true,Bool.not_false,Bool.true_or,Bool.or_true,Bool.false_or,Bool.or_false,Bool.and_self,Bool.and_true,Bool.true_and,Bool.false_and,Bool.and_false,bne_self_eq_false,beq_self_eq_true,allT,r0,s1,tR,hN,g1,g2,i2,i3,eX,l1,l2,r1,hP,hF,hR,hL,hPl,hLs,e1,e2,k1,k2,m1,m2,hU,nU,uM,hV,v1,v2,v3,v4,v5,v6,v7,xk1,xk2,r_a0,r_a1,r_a2,r_a3,r_a4,r_a5,r_a6,r_a7,r_a8,r_a9,r_a10,r_a11,r_a12,r_a13,r_a14,r_a15,r_a16,r_a17,r_a18,r_a19,r_a20,r_a21,r_a22,r_a23,r_a24,r_a25,r_a26,r_a27,r_a28,r_a29]
   have r_a31:=Eq.refl (cn n mode day ps fs rs lf pl ls xs)
   conv at r_a31=>rhs;simp only [cn,cond_true,cond_false,Bool.cond_self,Bool.not_true,Bool.not_false,Bool.true_or,Bool.or_true,Bool.false_or,Bool.or_false,Bool.and_self,Bool.and_true,Bool.true_and,Bool.false_and,Bool.and_false,bne_self_eq_false,beq_self_eq_true,allT,r0,s1,tR,hN,g1,g2,i2,i3,eX,l1,l2,r1,hP,hF,hR,hL,hPl,hLs,e1,e2,k1,k2,m1,m2,hU,nU,uM,hV,v1,v2,v3,v4,v5,v6,v7,xk1,xk2,r_a0,r_a1,r_a2,r_a3,r_a4,r_a5,r_a6,r_a7,r_a8,r_a9,r_a10,r_a11,r_a12,r_a13,r_a14,r_a15,r_a16,r_a17,r_a18,r_a19,r_a20,r_a21,r_a22,r_a23,r_a24,r_a25,r_a26,r_a27,r_a28,r_a29,r_a30]
   have r_a32:=Eq.refl (cq n mode day ps fs rs lf pl ls xs)
   conv at r_a32=>rhs;simp only [cq,cond_true,cond_false,Bool.cond_self,Bool.not_true,Bool.not_false,Bool.true_or,Bool.or_true,Bool.false_or,Bool.or_false,Bool.and_self,Bool.and_true,Bool.true_and,Bool.false_and,Bool.and_false,bne_self_eq_false,beq_self_eq_true,allT,r0,s1,tR,hN,g1,g2,i2,i3,eX,l1,l2,r1,hP,hF,hR,hL,hPl,hLs,e1,e2,k1,k2,m1,m2,hU,nU,uM,hV,v1,v2,v3,v4,v5,v6,v7,xk1,xk2,r_a0,r_a1,r_a2,r_a3,r_a4,r_a5,r_a6,r_a7,r_a8,r_a9,r_a10,r_a11,r_a12,r_a13,r_a14,r_a15,r_a16,r_a17,r_a18,r_a19,r_a20,r_a21,r_a22,r_a23,r_a24,r_a25,r_a26,r_a27,r_a28,r_a29,r_a30,r_a31]
   have r_a33:=Eq.refl (pj n mode day ps fs rs lf pl ls xs)
   conv at r_a33=>rhs;simp only [pj,cond_true,cond_false,Bool.cond_self,Bool.not_true,Bool.not_false,Bool.true_or,Bool.or_true,Bool.false_or,Bool.or_false,Bool.and_self,Bool.and_true,Bool.true_and,Bool.false_and,Bool.and_false,bne_self_eq_false,beq_self_eq_true,allT,r0,s1,tR,hN,g1,g2,i2,i3,eX,l1,l2,r1,hP,hF,hR,hL,hPl,hLs,e1,e2,k1,k2,m1,m2,hU,nU,uM,hV,v1,v2,v3,v4,v5,v6,v7,xk1,xk2,r_a0,r_a1,r_a2,r_a3,r_a4,r_a5,r_a6,r_a7,r_a8,r_a9,r_a10,r_a11,r_a12,r_a13,r_a14,r_a15,r_a16,r_a17,r_a18,r_a19,r_a20,r_a21,r_a22,r_a23,r_a24,r_a25,r_a26,r_a27,r_a28,r_a29,r_a30,r_a31,r_a32]
   have r_a34:=Eq.refl (lg n mode day ps fs rs lf pl ls xs)
   conv at r_a34=>rhs;simp only [lg,cond_true,cond_false,Bool.cond_self,Bool.not_true,Bool.not_false,Bool.true_or,Bool.or_true,Bool.false_or,Bool.or_false,Bool.and_self,Bool.and_true,Bool.true_and,Bool.false_and,Bool.and_false,bne_self_eq_false,beq_self_eq_true,allT,r0,s1,tR,hN,g1,g2,i2,i3,eX,l1,l2,r1,hP,hF,hR,hL,hPl,hLs,e1,e2,k1,k2,m1,m2,hU,nU,uM,hV,v1,v2,v3,v4,v5,v6,v7,xk1,xk2,r_a0,r_a1,r_a2,r_a3,r_a4,r_a5,r_a6,r_a7,r_a8,r_a9,r_a10,r_a11,r_a12,r_a13,r_a14,r_a15,r_a16,r_a17,r_a18,r_a19,r_a20,r_a21,r_a22,r_a23,r_a24,r_a25,r_a26,r_a27,r_a28,r_a29,r_a30,r_a31,r_a32,r_a33]
   have r_a35:=Eq.refl (lh xs)
   conv at r_a35=>rhs;simp only [lh,cond_true,cond_false,Bool.cond_self,Bool.not_true,Bool.not_false,Bool.true_or,Bool.or_true,Bool.false_or,Bool.or_false,Bool.and_self,Bool.and_true,Bool.true_and,Bool.false_and,Bool.and_false,bne_self_eq_false,beq_self_eq_true,allT,r0,s1,tR,hN,g1,g2,i2,i3,eX,l1,l2,r1,hP,hF,hR,hL,hPl,hLs,e1,e2,k1,k2,m1,m2,hU,nU,uM,hV,v1,v2,v3,v4,v5,v6,v7,xk1,xk2,r_a0,r_a1,r_a2,r_a3,r_a4,r_a5,r_a6,r_a7,r_a8,r_a9,r_a10,r_a11,r_a12,r_a13,r_a14,r_a15,r_a16,r_a17,r_a18,r_a19,r_a20,r_a21,r_a22,r_a23,r_a24,r_a25,r_a26,r_a27,r_a28,r_a29,r_a30,r_a31,r_a32,r_a33,r_a34]
   have r_a36:=Eq.refl (pk ps fs rs lf pl ls xs)
   conv at r_a36=>rhs;simp only [pk,cond_true,cond_false,Bool.cond_self,Bool.not_true,Bool.not_false,Bool.true_or,Bool.or_true,Bool.false_or,Bool.or_false,Bool.and_self,Bool.and_true,Bool.true_and,Bool.false_and,Bool.and_false,bne_self_eq_false,beq_self_eq_true,allT,r0,s1,tR,hN,g1,g2,i2,i3,eX,l1,l2,r1,hP,hF,hR,hL,hPl,hLs,e1,e2,k1,k2,m1,m2,hU,nU,uM,hV,v1,v2,v3,v4,v5,v6,v7,xk1,xk2,r_a0,r_a1,r_a2,r_a3,r_a4,r_a5,r_a6,r_a7,r_a8,r_a9,r_a10,r_a11,r_a12,r_a13,r_a14,r_a15,r_a16,r_a17,r_a18,r_a19,r_a20,r_a21,r_a22,r_a23,r_a24,r_a25,r_a26,r_a27,r_a28,r_a29,r_a30,r_a31,r_a32,r_a33,r_a34,r_a35]
   have r_a37:=Eq.refl (li xs)
   conv at r_a37=>rhs;simp only [li,cond_true,cond_false,Bool.cond_self,Bool.not_true,Bool.not_false,Bool.true_or,Bool.or_true,Bool.false_or,Bool.or_false,Bool.and_self,Bool.and_true,Bool.true_and,Bool.false_and,Bool.and_false,bne_self_eq_false,beq_self_eq_true,allT,r0,s1,tR,hN,g1,g2,i2,i3,eX,l1,l2,r1,hP,hF,hR,hL,hPl,hLs,e1,e2,k1,k2,m1,m2,hU,nU,uM,hV,v1,v2,v3,v4,v5,v6,v7,xk1,xk2,r_a0,r_a1,r_a2,r_a3,r_a4,r_a5,r_a6,r_a7,r_a8,r_a9,r_a10,r_a11,r_a12,r_a13,r_a14,r_a15,r_a16,r_a17,r_a18,r_a19,r_a20,r_a21,r_a22,r_a23,r_a24,r_a25,r_a26,r_a27,r_a28,r_a29,r_a30,r_a31,r_a32,r_a33,r_a34,r_a35,r_a36]
   have r_a38:=Eq.refl (pm ps fs rs lf pl ls xs)
   conv at r_a38=>rhs;simp only [pm,cond_true,cond_false,Bool.cond_self,Bool.not_true,Bool.not_false,Bool.true_or,Bool.or_true,Bool.false_or,Bool.or_false,Bool.and_self,Bool.and_true,Bool.true_and,Bool.false_and,Bool.and_false,bne_self_eq_false,beq_self_eq_true,allT,r0,s1,tR,hN,g1,g2,i2,i3,eX,l1,l2,r1,hP,hF,hR,hL,hPl,hLs,e1,e2,k1,k2,m1,m2,hU,nU,uM,hV,v1,v2,v3,v4,v5,v6,v7,xk1,xk2,r_a0,r_a1,r_a2,r_a3,r_a4,r_a5,r_a6,r_a7,r_a8,r_a9,r_a10,r_a11,r_a12,r_a13,r_a14,r_a15,r_a16,r_a17,r_a18,r_a19,r_a20,r_a21,r_a22,r_a23,r_a24,r_a25,r_a26,r_a27,r_a28,r_a29,r_a30,r_a31,r_a32,r_a33,r_a34,r_a35,r_a36,r_a37]
   have r_a39:=Eq.refl (pn ps fs rs lf pl ls xs)
   conv at r_a39=>rhs;simp only [pn,cond_true,cond_false,Bool.cond_self,Bool.not_true,Bool.not_false,Bool.true_or,Bool.or_true,Bool.false_or,Bool.or_false,Bool.and_self,Bool.and_true,Bool.true_and,Bool.false_and,Bool.and_false,bne_self_eq_false,beq_self_eq_true,allT,r0,s1,tR,hN,g1,g2,i2,i3,eX,l1,l2,r1,hP,hF,hR,hL,hPl,hLs,e1,e2,k1,k2,m1,m2,hU,nU,uM,hV,v1,v2,v3,v4,v5,v6,v7,xk1,xk2,r_a0,r_a1,r_a2,r_a3,r_a4,r_a5,r_a6,r_a7,r_a8,r_a9,r_a10,r_a11,r_a12,r_a13,r_a14,r_a15,r_a16,r_a17,r_a18,r_a19,r_a20,r_a21,r_a22,r_a23,r_a24,r_a25,r_a26,r_a27,r_a28,r_a29,r_a30,r_a31,r_a32,r_a33,r_a34,r_a35,r_a36,r_a37,r_a38]
   have r_a40:=Eq.refl (po n mode day ps fs rs lf pl ls xs)
   conv at r_a40=>rhs;simp only [po,cond_true,cond_false,Bool.cond_self,Bool.not_true,Bool.not_false,Bool.true_or,Bool.or_true,Bool.false_or,Bool.or_false,Bool.and_self,Bool.and_true,Bool.true_and,Bool.false_and,Bool.and_false,bne_self_eq_false,beq_self_eq_true,allT,r0,s1,tR,hN,g1,g2,i2,i3,eX,l1,l2,r1,hP,hF,hR,hL,hPl,hLs,e1,e2,k1,k2,m1,m2,hU,nU,uM,hV,v1,v2,v3,v4,v5,v6,v7,xk1,xk2,r_a0,r_a1,r_a2,r_a3,r_a4,r_a5,r_a6,r_a7,r_a8,r_a9,r_a10,r_a11,r_a12,r_a13,r_a14,r_a15,r_a16,r_a17,r_a18,r_a19,r_a20,r_a21,r_a22,r_a23,r_a24,r_a25,r_a26,r_a27,r_a28,r_a29,r_a30,r_a31,r_a32,r_a33,r_a34,r_a35,r_a36,r_a37,r_a38,r_a39]
   have r_a41:=Eq.refl (pp n mode day ps fs rs lf pl ls xs)
   conv at r_a41=>rhs;simp only [pp,cond_true,cond_false,Bool.cond_self,Bool.not_true,Bool.not_false,Bool.true_or,Bool.or_true,Bool.false_or,Bool.or_false,Bool.and_self,Bool.and_true,Bool.true_and,Bool.false_and,Bool.and_false,bne_self_eq_false,beq_self_eq_true,allT,r0,s1,tR,hN,g1,g2,i2,i3,eX,l1,l2,r1,hP,hF,hR,hL,hPl,hLs,e1,e2,k1,k2,m1,m2,hU,nU,uM,hV,v1,v2,v3,v4,v5,v6,v7,xk1,xk2,r_a0,r_a1,r_a2,r_a3,r_a4,r_a5,r_a6,r_a7,r_a8,r_a9,r_a10,r_a11,r_a12,r_a13,r_a14,r_a15,r_a16,r_a17,r_a18,r_a19,r_a20,r_a21,r_a22,r_a23,r_a24,r_a25,r_a26,r_a27,r_a28,r_a29,r_a30,r_a31,r_a32,r_a33,r_a34,r_a35,r_a36,r_a37,r_a38,r_a39,r_a40]
   have r_a42:=Eq.refl (pq n mode day ps fs rs lf pl ls xs)
   conv at r_a42=>rhs;simp only [pq,cond_true,cond_false,Bool.cond_self,Bool.not_true,Bool.not_false,Bool.true_or,Bool.or_true,Bool.false_or,Bool.or_false,Bool.and_self,Bool.and_true,Bool.true_and,Bool.false_and,Bool.and_false,bne_self_eq_false,beq_self_eq_true,allT,r0,s1,tR,hN,g1,g2,i2,i3,eX,l1,l2,r1,hP,hF,hR,hL,hPl,hLs,e1,e2,k1,k2,m1,m2,hU,nU,uM,hV,v1,v2,v3,v4,v5,v6,v7,xk1,xk2,r_a0,r_a1,r_a2,r_a3,r_a4,r_a5,r_a6,r_a7,r_a8,r_a9,r_a10,r_a11,r_a12,r_a13,r_a14,r_a15,r_a16,r_a17,r_a18,r_a19,r_a20,r_a21,r_a22,r_a23,r_a24,r_a25,r_a26,r_a27,r_a28,r_a29,r_a30,r_a31,r_a32,r_a33,r_a34,r_a35,r_a36,r_a37,r_a38,r_a39,r_a40,r_a41]
   have r_a43:=Eq.refl (pt n mode day ps fs rs lf pl ls xs)
   conv at r_a43=>rhs;simp only [pt,cond_true,cond_false,Bool.cond_self,Bool.not_true,Bool.not_false,Bool.true_or,Bool.or_true,Bool.false_or,Bool.or_false,Bool.and_self,Bool.and_true,Bool.true_and,Bool.false_and,Bool.and_false,bne_self_eq_false,beq_self_eq_true,allT,r0,s1,tR,hN,g1,g2,i2,i3,eX,l1,l2,r1,hP,hF,hR,hL,hPl,hLs,e1,e2,k1,k2,m1,m2,hU,nU,uM,hV,v1,v2,v3,v4,v5,v6,v7,xk1,xk2,r_a0,r_a1,r_a2,r_a3,r_a4,r_a5,r_a6,r_a7,r_a8,r_a9,r_a10,r_a11,r_a12,r_a13,r_a14,r_a15,r_a16,r_a17,r_a18,r_a19,r_a20,r_a21,r_a22,r_a23,r_a24,r_a25,r_a26,r_a27,r_a28,r_a29,r_a30,r_a31,r_a32,r_a33,r_a34,r_a35,r_a36,r_a37,r_a38,r_a39,r_a40,r_a41,r_a42]
   refine⟨?_,?_⟩ <;> simp only [wC,wD,cond_true,cond_false,Bool.cond_self,Bool.not_true,Bool.not_false,Bool.true_or,Bool.or_true,Bool.false_or,Bool.or_false,Bool.and_self,Bool.and_true,Bool.true_and,Bool.false_and,Bool.and_false,bne_self_eq_false,beq_self_eq_true,allT,r0,s1,tR,hN,g1,g2,i2,i3,eX,l1,l2,r1,hP,hF,hR,hL,hPl,hLs,e1,e2,k1,k2,m1,m2,hU,nU,uM,hV,v1,v2,v3,v4,v5,v6,v7,xk1,xk2,r_a0,r_a1,r_a2,r_a3,r_a4,r_a5,r_a6,r_a7,r_a8,r_a9,r_a10,r_a11,r_a12,r_a13,r_a14,r_a15,r_a16,r_a17,r_a18,r_a19,r_a20,r_a21,r_a22,r_a23,r_a24,r_a25,r_a26,r_a27,r_a28,r_a29,r_a30,r_a31,r_a32,r_a33,r_a34,r_a35,r_a36,r_a37,r_a38,r_a39,r_a40,r_a41,r_a42,r_a43]
end Go.SX
