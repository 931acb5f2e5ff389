/- What functions of the program come to, and what that says in plain words: part 3. -/
import Derived.Test.YtbajbgcdcaknpaaGreatDoorMb
import Derived.Test.YtbajbgcdcaknpaaGreatDoorTXh
import Derived.Test.YtbajbgcdcaknpaaGreatDoorProg
import Derived.Test.YtbajbgcdcaknpaaGreatDoorTXk
set_option linter.unusedSimpArgs false
set_option linter.unusedVariables false
namespace Go.SX
open Go.Proofs Go.Proofs.Tryz
set_option maxRecDepth 100000
section
variable (x3 x4 x5 x6 x7 x8:Int)(x9:Bool)(x10:List Int)(x12:List (List Int))
def uc:Bool:=bif x5==(0:Int)then bif x6==(0:Int)then true else false else false
def ud:Bool:=bif x7==(0:Int)then bif x8==(0:Int)then bif x9==false then true else false else false else false
def mv:Bool:=bif x3==(0:Int)then bif bif Pa x10 x4 then uc x5 x6 else false then ud x7 x8 x9 else false else bif x3==(1:Int)then bif bif Pa x10 x4 then rsB (dx (bif Pa x10 x4&&true then Option.getD x12[Int.toNat (0:Int)]? (DA (CTy.sl (2:Nat) ajn))else [])) x5 x6 else false then ud x7 x8 x9 else false else bif x3==(2:Int)then bif bif x4==(0:Int)then uc x5 x6 else false then amL x7 x8 else false else false
def mw:Bool:=allT [!x3==(0:Int)||leN x10.length (9223372036854775807:Nat),x3==(0:Int)||(!x3==(1:Int)||leN x10.length (9223372036854775807:Nat)),x3==(0:Int)||(!x3==(1:Int)||(!(Pa x10 x4&&true)||leI (0:Int) (0:Int))),x3==(0:Int)||(!x3==(1:Int)||(!(Pa x10 x4&&true)||ltI (0:Int) (↑x12.length:Int))),x3==(0:Int)||(!x3==(1:Int)||(!(Pa x10 x4&&true)||ltN (Int.toNat (0:Int)) x12.length))]
end
def uy:List SV→List Entry→Option Out
 | [.one ⟨true,[.val (.int .i64 _x0),.ref 0,.ref 1,.ref 2,.ref 3,.val (.int .i64 _x1),.ref 4,.ref 5,.val (.int .i64 _x2)]⟩,.one ⟨true,[.val (.int .i64 x3),.val (.int .i64 x4),.val (.int .i64 x5),.val (.int .i64 x6),.val (.int .i64 x7),.val (.int .i64 x8),.val (.bool x9)]⟩],[.row false 2 (.int .i64) x10,.row false 169 (.pair (.int .i64) (.pair (.int .i64) (.int .i64))) x11,.row false 24 (.sl 2 (.int .i64)) x12,.row false 100 (.pair (.int .i64) (.pair (.int .i64) (.int .i64))) x13,.row false 173 (.pair (.int .i64) (.int .i64)) x14,.row false 176 (.pair (.int .i64) (.int .i64)) x15]=>some ⟨.one ⟨false,[.val (.bool (mv x3 x4 x5 x6 x7 x8 x9 x10 x12))]⟩,[.row false 2 ajn x10,.row false 169 adk x11,.row false 24 (CTy.sl (2:Nat) ajn) x12,.row false 100 adk x13,.row false 173 aiq x14,.row false 176 aiq x15],[],[mw x3 x4 x10 x12]⟩
 |_,_=>none
def mz:PF prog:=PF.ofG prog [mX,PF.lend mX,PF.fz mX,afK,aoc,aW,PF.lend aW,PF.fz aW] [] aO 99 f99 func99 (fun c _=>LOk.nil c) uy (by
 intro vs es r h;unfold uy at h;split at h
 ·cases h;kernel_rfl
 ·cases h)
def zL(x0 x1 x2 x3 x4 x5:Int)(x6:Bool)(x10:List Int)(x12:List (List Int)):Bool:= !mv x0 x1 x2 x3 x4 x5 x6 x10 x12
def ID(x0 x1:Int)(x10:List Int)(x12:List (List Int)):Bool:=allT [mw x0 x1 x10 x12]
def Rs:List SV→List Entry→Option Out
 | [.one ⟨true,[.val (.int .i64 x0),.val (.int .i64 x1),.val (.int .i64 x2),.val (.int .i64 x3),.val (.int .i64 x4),.val (.int .i64 x5),.val (.bool x6)]⟩,.one ⟨false,[.ptr 0 0]⟩],[.box 33 [.val (.int .i64 x7),.ref 1,.ref 2,.ref 3,.ref 4,.val (.int .i64 x8),.ref 5,.ref 6,.val (.int .i64 x9)],.row false 2 (.int .i64) x10,.row false 169 (.pair (.int .i64) (.pair (.int .i64) (.int .i64))) x11,.row false 24 (.sl 2 (.int .i64)) x12,.row false 100 (.pair (.int .i64) (.pair (.int .i64) (.int .i64))) x13,.row false 173 (.pair (.int .i64) (.int .i64)) x14,.row false 176 (.pair (.int .i64) (.int .i64)) x15]=>some ⟨.one ⟨false,[.val (.bool (zL x0 x1 x2 x3 x4 x5 x6 x10 x12))]⟩,[.box 33 [.val (.int .i64 x7),.ref 1,.ref 2,.ref 3,.ref 4,.val (.int .i64 x8),.ref 5,.ref 6,.val (.int .i64 x9)],.row false 2 ajn x10,.row false 169 adk x11,.row false 24 (CTy.sl (2:Nat) ajn) x12,.row false 100 adk x13,.row false 173 aiq x14,.row false 176 aiq x15],[],[ID x0 x1 x10 x12]⟩
 |_,_=>none
def oB:PF prog:=PF.ofG prog [mz,PF.lend mz,PF.fz mz] [] aO 145 f145 func145 (fun c _=>LOk.nil c) Rs (by
 intro vs es r h;unfold Rs at h;split at h
 ·cases h;kernel_rfl
 ·cases h)
abbrev bk:=Int×Int×Int×Int×Int×List (Int×(Int×((Int×Int)×(Int×(Int×Bool)))))×List Int×List (Int×(Int×Int))×List (List Int)×List (Int×(Int×Int))×List (Int×Int)×List (Int×Int)
def df(y0:Int)(y5:List (Int×(Int×((Int×Int)×(Int×(Int×Bool)))))):Int×Int×(Int×Int)×Int×Int×Bool:=Option.getD y5[Int.toNat y0]? ((0:Int),(0:Int),((0:Int),(0:Int)),(0:Int),(0:Int),false)
def dg(y0:Int)(y5:List (Int×(Int×((Int×Int)×(Int×(Int×Bool)))))):Int:=(df y0 y5).1
def dh(y0:Int)(y5:List (Int×(Int×((Int×Int)×(Int×(Int×Bool)))))):Int×(Int×Int)×Int×Int×Bool:=(df y0 y5).2
def di(y0:Int)(y5:List (Int×(Int×((Int×Int)×(Int×(Int×Bool)))))):Int:=(dh y0 y5).1
def bN(y0:Int)(y5:List (Int×(Int×((Int×Int)×(Int×(Int×Bool)))))):(Int×Int)×Int×Int×Bool:=(dh y0 y5).2
def dj(y0:Int)(y5:List (Int×(Int×((Int×Int)×(Int×(Int×Bool)))))):Int×Bool:=(bN y0 y5).2.2
def fP(y0 y1:Int):Bool:=ltI y0 y1
def fQ(y0:Int):Bool:=leI (0:Int) y0
def fR(y0:Int)(y5:List (Int×(Int×((Int×Int)×(Int×(Int×Bool)))))):Bool:=ltI y0 (↑y5.length:Int)
def fS(y0:Int)(y5:List (Int×(Int×((Int×Int)×(Int×(Int×Bool)))))):Bool:=ltN y0.toNat y5.length
def fT(y0:Int)(y5:List (Int×(Int×((Int×Int)×(Int×(Int×Bool))))))(y6:List Int)(y8:List (List Int)):Bool:=ID (dg y0 y5) (di y0 y5) y6 y8
def fU(y0:Int)(y5:List (Int×(Int×((Int×Int)×(Int×(Int×Bool))))))(y6:List Int)(y8:List (List Int)):Bool:=zL (dg y0 y5) (di y0 y5) ((bN y0 y5).1.1) ((bN y0 y5).1.2) (((bN y0 y5).2).1) ((dj y0 y5).1) ((dj y0 y5).2) y6 y8
def fW(y0:Int):Int:=IntKind.wrap .i64 (y0 + (1:Int))
def LJ:bk→List (Nat×SV)
 |(y0,y1,_,_,_,_,_,_,_,_,_,_)=> [(8,(.one ⟨false,[.val (.int .i64 y0)]⟩)),(7,(.one ⟨false,[.val (.int .i64 y1)]⟩)),(1,(.one ⟨false,[.clo 145 [0]]⟩)),(0,(.one ⟨false,[.ref 1]⟩))]
def LH:bk→List (Nat×Entry)
 |(_,_,y2,y3,y4,y5,y6,y7,y8,y9,y10,y11)=> [(0,(.box 33 [.val (.int .i64 y2),.ref 2,.ref 3,.ref 4,.ref 5,.val (.int .i64 y3),.ref 6,.ref 7,.val (.int .i64 y4)])),(1,(.row false 49 abL y5)),(2,(.row false 2 ajn y6)),(3,(.row false 169 adk y7)),(4,(.row false 24 (CTy.sl (2:Nat) ajn) y8)),(5,(.row false 100 adk y9)),(6,(.row false 173 aiq y10)),(7,(.row false 176 aiq y11))]
def LL:Nat→bk→List (Nat×SV)
 |0,(y0,_,_,_,_,_,_,_,_,_,_,_)=> [(4,(.one ⟨false,[.val (.int .i64 y0)]⟩))]
 |_,(_,_,_,_,_,_,_,_,_,_,_,_)=> []
def LK:Nat→bk→List (Nat×Entry)
 |0,(_,_,y2,y3,y4,y5,y6,y7,y8,y9,y10,y11)=> [(0,(.box 33 [.val (.int .i64 y2),.ref 2,.ref 3,.ref 4,.ref 5,.val (.int .i64 y3),.ref 6,.ref 7,.val (.int .i64 y4)])),(1,(.row false 49 abL y5)),(2,(.row false 2 ajn y6)),(3,(.row false 169 adk y7)),(4,(.row false 24 (CTy.sl (2:Nat) ajn) y8)),(5,(.row false 100 adk y9)),(6,(.row false 173 aiq y10)),(7,(.row false 176 aiq y11))]
 |_,(_,_,y2,y3,y4,y5,y6,y7,y8,y9,y10,y11)=> [(0,(.box 33 [.val (.int .i64 y2),.ref 2,.ref 3,.ref 4,.ref 5,.val (.int .i64 y3),.ref 6,.ref 7,.val (.int .i64 y4)])),(1,(.row false 49 abL y5)),(2,(.row false 2 ajn y6)),(3,(.row false 169 adk y7)),(4,(.row false 24 (CTy.sl (2:Nat) ajn) y8)),(5,(.row false 100 adk y9)),(6,(.row false 173 aiq y10)),(7,(.row false 176 aiq y11))]
def fh:bk→LT bk
 |(y0,y1,y2,y3,y4,y5,y6,y7,y8,y9,y10,y11)=> .ite (fP y0 y1) (.need [fQ y0,fR y0 y5,fS y0 y5,fT y0 y5 y6 y8] (.ite (fU y0 y5 y6 y8) (.ext 0 [(0,0),(1,1),(2,2),(3,3),(4,4),(5,5),(6,6),(7,7)]) (.nrm ((fW y0),y1,y2,y3,y4,y5,y6,y7,y8,y9,y10,y11) [(0,0),(1,1),(2,2),(3,3),(4,4),(5,5),(6,6),(7,7)]))) (.ext 1 [(0,0),(1,1),(2,2),(3,3),(4,4),(5,5),(6,6),(7,7)])
def nC(s:St):Option bk:=
 (match s.look 8 with
 |some ⟨none,.one ⟨false,[.val (.int .i64 y0)]⟩⟩=>
 (match s.look 7 with
 |some ⟨none,.one ⟨false,[.val (.int .i64 y1)]⟩⟩=>
 (match s.look 1 with
 |some ⟨none,.one ⟨false,[.clo 145 [1]]⟩⟩=>
 (match s.look 0 with
 |some ⟨none,.one ⟨false,[.ref 0]⟩⟩=>
 (match s.ent 1 with
 |some (.box 33 [.val (.int .i64 y2),.ref 2,.ref 3,.ref 4,.ref 5,.val (.int .i64 y3),.ref 6,.ref 7,.val (.int .i64 y4)])=>
 (match s.ent 0 with
 |some (.row false 49 (.pair (.int .i64) (.pair (.int .i64) (.pair (.pair (.int .i64) (.int .i64)) (.pair (.int .i64) (.pair (.int .i64) .bool))))) y5)=>
 (match s.ent 2 with
 |some (.row false 2 (.int .i64) y6)=>
 (match s.ent 3 with
 |some (.row false 169 (.pair (.int .i64) (.pair (.int .i64) (.int .i64))) y7)=>
 (match s.ent 4 with
 |some (.row false 24 (.sl 2 (.int .i64)) y8)=>
 (match s.ent 5 with
 |some (.row false 100 (.pair (.int .i64) (.pair (.int .i64) (.int .i64))) y9)=>
 (match s.ent 6 with
 |some (.row false 173 (.pair (.int .i64) (.int .i64)) y10)=>
 (match s.ent 7 with
 |some (.row false 176 (.pair (.int .i64) (.int .i64)) y11)=>
 some (y0,y1,y2,y3,y4,y5,y6,y7,y8,y9,y10,y11)
 |_=>none)
 |_=>none)
 |_=>none)
 |_=>none)
 |_=>none)
 |_=>none)
 |_=>none)
 |_=>none)
 |_=>none)
 |_=>none)
 |_=>none)
 |_=>none)
def ax:Lp bk where
 h:=⟨[9,10,5,11,12,13,14,15,16,17,4,18,8],[0,1,2,3,4,5,6,7],[],[]⟩
 JL:=LJ
 JE:=LH
 XL:=LL
 XE:=LK
 q:=fun j=>match j with | 0=> .ret | _=> .exit 0
 tags:= [0,1]
 lt:=fh
 fuel:=fun(y0,y1,y2,y3,y4,y5,y6,y7,y8,y9,y10,y11)=>y0.natAbs + y1.natAbs + y2.natAbs + y3.natAbs + y4.natAbs + y5.length + y6.length + y7.length + y8.length + y9.length + y10.length + y11.length
 fix:=fun(_,y1,y2,y3,y4,y5,y6,y7,y8,y9,y10,y11) (y0,_,_,_,_,_,_,_,_,_,_,_)=>(y0,y1,y2,y3,y4,y5,y6,y7,y8,y9,y10,y11)
 σ:= [(0,1),(1,0),(2,2),(3,3),(4,4),(5,5),(6,6),(7,7)]
 rd:=nC
theorem Ke:LoopOk prog (fun k=>Nat.blt k Tryz.f200.ntmps) ax.F (aK f200 0):=by
 refine Lp.ok (tbl:= [oB,PF.lend oB,PF.fz oB]) (lf:= []) aO ax (by kernel_rfl) (LOk.nil _) (fun _=>rfl) (fun j _=>by unfold ax;match j with | 0=>rfl | _ + 1=>rfl) ?_ ?_ ?_ ?_ (fun _=>rfl) ?_
 ·rintro⟨y0,y1,y2,y3,y4,y5,y6,y7,y8,y9,y10,y11⟩;kernel_rfl
 ·rintro⟨y0,y1,y2,y3,y4,y5,y6,y7,y8,y9,y10,y11⟩;kernel_rfl
 ·intro s x h
  have h:nC s=some x:=h
  unfold nC at h
  repeat' split at h
  all_goals cases h
  exact⟨aa (by assumption) rfl (aa (by assumption) rfl (aa (by assumption) rfl (aa (by assumption) rfl (rfl)))),ab rfl (by assumption) rfl (ab rfl (by assumption) rfl (ab rfl (by assumption) rfl (ab rfl (by assumption) rfl (ab rfl (by assumption) rfl (ab rfl (by assumption) rfl (ab rfl (by assumption) rfl (ab rfl (by assumption) rfl (rfl))))))))⟩
 ·rintro⟨y0,y1,y2,y3,y4,y5,y6,y7,y8,y9,y10,y11⟩;kernel_rfl
 ·rintro⟨y0,y1,y2,y3,y4,y5,y6,y7,y8,y9,y10,y11⟩ z;exact(And.intro (And.intro trivial rfl) trivial)
section
variable (x0:List (Int×Int×(Int×Int)×Int×Int×Bool))(x1 x2 x3:Int)(x4:List Int)(x5:List (Int×Int×Int))(x6:List (List Int))(x7:List (Int×Int×Int))(x8 x9:List (Int×Int))
def gN:Int×Int×Int×Int×Int×List (Int×Int×(Int×Int)×Int×Int×Bool)×List Int×List (Int×Int×Int)×List (List Int)×List (Int×Int×Int)×List (Int×Int)×List (Int×Int):=((0:Int),(↑x0.length:Int),x1,x2,x3,x0,x4,x5,x6,x7,x8,x9)
def gO:Bool:=Nat.beq ((Lp.res ax (gN x0 x1 x2 x3 x4 x5 x6 x7 x8 x9)).1) (0:Nat)
def ra:Int:=bif gO x0 x1 x2 x3 x4 x5 x6 x7 x8 x9 then ((Lp.res ax (gN x0 x1 x2 x3 x4 x5 x6 x7 x8 x9)).2).1else(-1:Int)
def Bf:Int:=bif gO x0 x1 x2 x3 x4 x5 x6 x7 x8 x9 then x1 else x1
def Bg:Int:=bif gO x0 x1 x2 x3 x4 x5 x6 x7 x8 x9 then x2 else x2
def Bh:Int:=bif gO x0 x1 x2 x3 x4 x5 x6 x7 x8 x9 then x3 else x3
def rb:Bool:=allT [Lp.fin ax (gN x0 x1 x2 x3 x4 x5 x6 x7 x8 x9)]
end
def Ae:List SV→List Entry→Option Out
 | [.one ⟨false,[.ref 0]⟩,.one ⟨false,[.clo 145 [1]]⟩],[.row false 49 (.pair (.int .i64) (.pair (.int .i64) (.pair (.pair (.int .i64) (.int .i64)) (.pair (.int .i64) (.pair (.int .i64) .bool))))) x0,.box 33 [.val (.int .i64 x1),.ref 2,.ref 3,.ref 4,.ref 5,.val (.int .i64 x2),.ref 6,.ref 7,.val (.int .i64 x3)],.row false 2 (.int .i64) x4,.row false 169 (.pair (.int .i64) (.pair (.int .i64) (.int .i64))) x5,.row false 24 (.sl 2 (.int .i64)) x6,.row false 100 (.pair (.int .i64) (.pair (.int .i64) (.int .i64))) x7,.row false 173 (.pair (.int .i64) (.int .i64)) x8,.row false 176 (.pair (.int .i64) (.int .i64)) x9]=>some ⟨.one ⟨false,[.val (.int .i64 (ra x0 x1 x2 x3 x4 x5 x6 x7 x8 x9))]⟩,[.row false 49 abL x0,.box 33 [.val (.int .i64 (Bf x0 x1 x2 x3 x4 x5 x6 x7 x8 x9)),.ref 2,.ref 3,.ref 4,.ref 5,.val (.int .i64 (Bg x0 x1 x2 x3 x4 x5 x6 x7 x8 x9)),.ref 6,.ref 7,.val (.int .i64 (Bh x0 x1 x2 x3 x4 x5 x6 x7 x8 x9))],.row false 2 ajn x4,.row false 169 adk x5,.row false 24 (CTy.sl (2:Nat) ajn) x6,.row false 100 adk x7,.row false 173 aiq x8,.row false 176 aiq x9],[],[rb x0 x1 x2 x3 x4 x5 x6 x7 x8 x9]⟩
 |_,_=>none
def qX:PF prog:=PF.ofG prog [oB,PF.lend oB,PF.fz oB] [ax.F] aO 200 f200 func200 (LOk.fnT (l:= [aK f200 0]) (by kernel_rfl) (.cons Ke (.nil _))) Ae (by
 intro vs es r h;unfold Ae at h;split at h
 ·cases h;kernel_rfl
 ·cases h)
section
variable (x0:List (Int×Int×(Int×Int)×Int×Int×Bool))(x1 x2 x3:Int)(x4:List Int)(x5:List (Int×Int×Int))(x6:List (List Int))(x7:List (Int×Int×Int))(x8 x9:List (Int×Int))
def jO:Bool:=leI (0:Int) (ra x0 x1 x2 x3 x4 x5 x6 x7 x8 x9)
def MT:Int:=Bf x0 x1 x2 x3 x4 x5 x6 x7 x8 x9
def MU:Int:=Bg x0 x1 x2 x3 x4 x5 x6 x7 x8 x9
def MV:Int:=Bh x0 x1 x2 x3 x4 x5 x6 x7 x8 x9
def oj:Bool:=allT [rb x0 x1 x2 x3 x4 x5 x6 x7 x8 x9]
end
def xM:List SV→List Entry→Option Out
 | [.one ⟨false,[.ref 0]⟩,.one ⟨false,[.clo 145 [1]]⟩],[.row false 49 (.pair (.int .i64) (.pair (.int .i64) (.pair (.pair (.int .i64) (.int .i64)) (.pair (.int .i64) (.pair (.int .i64) .bool))))) x0,.box 33 [.val (.int .i64 x1),.ref 2,.ref 3,.ref 4,.ref 5,.val (.int .i64 x2),.ref 6,.ref 7,.val (.int .i64 x3)],.row false 2 (.int .i64) x4,.row false 169 (.pair (.int .i64) (.pair (.int .i64) (.int .i64))) x5,.row false 24 (.sl 2 (.int .i64)) x6,.row false 100 (.pair (.int .i64) (.pair (.int .i64) (.int .i64))) x7,.row false 173 (.pair (.int .i64) (.int .i64)) x8,.row false 176 (.pair (.int .i64) (.int .i64)) x9]=>some ⟨.one ⟨false,[.val (.bool (jO x0 x1 x2 x3 x4 x5 x6 x7 x8 x9))]⟩,[.row false 49 abL x0,.box 33 [.val (.int .i64 (MT x0 x1 x2 x3 x4 x5 x6 x7 x8 x9)),.ref 2,.ref 3,.ref 4,.ref 5,.val (.int .i64 (MU x0 x1 x2 x3 x4 x5 x6 x7 x8 x9)),.ref 6,.ref 7,.val (.int .i64 (MV x0 x1 x2 x3 x4 x5 x6 x7 x8 x9))],.row false 2 ajn x4,.row false 169 adk x5,.row false 24 (CTy.sl (2:Nat) ajn) x6,.row false 100 adk x7,.row false 173 aiq x8,.row false 176 aiq x9],[],[oj x0 x1 x2 x3 x4 x5 x6 x7 x8 x9]⟩
 |_,_=>none
def oe:PF prog:=PF.ofG prog [qX,PF.lend qX,PF.fz qX] [] aO 144 f144 func144 (fun c _=>LOk.nil c) xM (by
 intro vs es r h;unfold xM at h;split at h
 ·cases h;kernel_rfl
 ·cases h)
section
variable (x0 x1 x2:Int)(x3:List Int)(x4:List (Int×Int×Int))(x5:List (List Int))(x6:List (Int×Int×Int))(x7 x8:List (Int×Int))(x9:List (Int×Int×(Int×Int)×Int×Int×Bool))
def UB:Bool:=ltI (200:Int) (↑x9.length:Int)
def za:Int:=bif !kO x0 x3 x4 x5 x6 x1 x7 x8 x2 then(1:Int)else bif UB x9 then(3:Int)else bif jO x9 x0 x1 x2 x3 x4 x5 x6 x7 x8 then(2:Int)else(0:Int)
def Eg:Bool:=allT [rV (9223372036854775807:Nat) x3 x4 x5 x6 x7 x8,!kO x0 x3 x4 x5 x6 x1 x7 x8 x2||(UB x9||oj x9 x0 x1 x2 x3 x4 x5 x6 x7 x8)]
end
def adS:List SV→List Entry→Option Out
 | [.one ⟨true,[.val (.int .i64 x0),.ref 0,.ref 1,.ref 2,.ref 3,.val (.int .i64 x1),.ref 4,.ref 5,.val (.int .i64 x2)]⟩,.one ⟨false,[.ref 6]⟩],[.row false 2 (.int .i64) x3,.row false 169 (.pair (.int .i64) (.pair (.int .i64) (.int .i64))) x4,.row false 24 (.sl 2 (.int .i64)) x5,.row false 100 (.pair (.int .i64) (.pair (.int .i64) (.int .i64))) x6,.row false 173 (.pair (.int .i64) (.int .i64)) x7,.row false 176 (.pair (.int .i64) (.int .i64)) x8,.row false 49 (.pair (.int .i64) (.pair (.int .i64) (.pair (.pair (.int .i64) (.int .i64)) (.pair (.int .i64) (.pair (.int .i64) (.bool)))))) x9]=>some ⟨.one ⟨false,[.val (.int .i64 (za x0 x1 x2 x3 x4 x5 x6 x7 x8 x9))]⟩,[.row false 2 ajn x3,.row false 169 adk x4,.row false 24 (CTy.sl (2:TypeId) ajn) x5,.row false 100 adk x6,.row false 173 aiq x7,.row false 176 aiq x8,.row false 49 abL x9],[],[Eg x0 x1 x2 x3 x4 x5 x6 x7 x8 x9]⟩
 |_,_=>none
def En:PF prog:=PF.ofG prog [rM,PF.lend rM,PF.fz rM,oe,PF.lend oe,PF.fz oe] [] aO 54 f54 func54 (fun c _=>LOk.nil c) adS (by
 intro vs es r h;unfold adS at h;split at h
 ·cases h;kernel_rfl
 ·cases h)
abbrev bm:=Int×Int×List (List Int)×Int×Int×Int×List Int×List (Int×(Int×Int))×List (List Int)×List (Int×(Int×Int))×List (Int×Int)×List (Int×Int)
section
variable (y0 y1:Int)(y2 y8:List (List Int))
def bA:List Int:=Option.getD y2[Int.toNat y0]? (DA (CTy.sl (2:Nat) ajn))
def gj:Bool:=ltI y0 y1
def gk:Bool:=leI (0:Int) y0
def gm:Bool:=ltI y0 (↑y2.length:Int)
def gn:Bool:=ltN y0.toNat y2.length
def gp:Bool:=leN (1:Nat) (List.length (bA y0 y2))&&leN (List.length (bA y0 y2)) (1048576:Nat)
def gq:Bool:=leN (List.length y8 + List.length [bA y0 y2]) (9223372036854775807:Nat)
def gr:Bool:=leN ((List.length y8 + List.length [bA y0 y2]) * (24:Nat)) (140737488355328:Nat)
def gt:Int:=IntKind.wrap .i64 (y0 + (1:Int))
def gu:List (List Int):=y8++ [bA y0 y2]
end
def MH:bm→List (Nat×SV)
 |(y0,y1,_,_,_,_,_,_,_,_,_,_)=> [(31,(.one ⟨false,[.val (.int .i64 y0)]⟩)),(30,(.one ⟨false,[.val (.int .i64 y1)]⟩)),(29,(.one ⟨false,[.ref 0]⟩)),(3,(.one ⟨false,[.ptr 1 0]⟩))]
def MG:bm→List (Nat×Entry)
 |(_,_,y2,y3,y4,y5,y6,y7,y8,y9,y10,y11)=> [(0,(.row false 24 (CTy.sl (2:Nat) ajn) y2)),(1,(.box 33 [.val (.int .i64 y3),.ref 2,.ref 3,.ref 4,.ref 5,.val (.int .i64 y4),.ref 6,.ref 7,.val (.int .i64 y5)])),(2,(.row true 2 ajn y6)),(3,(.row true 169 adk y7)),(5,(.row true 100 adk y9)),(6,(.row true 173 aiq y10)),(7,(.row true 176 aiq y11)),(4,(.tree 24 (CTy.sl (2:Nat) ajn) y8 none))]
def MJ:Nat→bm→List (Nat×SV)
 |_,(_,_,_,_,_,_,_,_,_,_,_,_)=> []
def MI:Nat→bm→List (Nat×Entry)
 |_,(_,_,y2,y3,y4,y5,y6,y7,y8,y9,y10,y11)=> [(0,(.row false 24 (CTy.sl (2:Nat) ajn) y2)),(1,(.box 33 [.val (.int .i64 y3),.ref 2,.ref 3,.ref 4,.ref 5,.val (.int .i64 y4),.ref 6,.ref 7,.val (.int .i64 y5)])),(2,(.row true 2 ajn y6)),(3,(.row true 169 adk y7)),(4,(.tree 24 (CTy.sl (2:Nat) ajn) y8 none)),(5,(.row true 100 adk y9)),(6,(.row true 173 aiq y10)),(7,(.row true 176 aiq y11))]
def fO:bm→LT bm
 |(y0,y1,y2,y3,y4,y5,y6,y7,y8,y9,y10,y11)=> .ite (gj y0 y1) (.need [gk y0,gm y0 y2,gn y0 y2] (.need [gp y0 y2,gq y0 y2 y8,gr y0 y2 y8] (.nrm ((gt y0),y1,y2,y3,y4,y5,y6,y7,gu y0 y2 y8,y9,y10,y11) [(0,0),(1,1),(2,2),(3,3),(4,640),(5,5),(6,6),(7,7)]))) (.ext 0 [(0,0),(1,1),(2,2),(3,3),(4,4),(5,5),(6,6),(7,7)])
def oi(s:St):Option bm:=
 (match s.look 31 with
 |some ⟨none,.one ⟨false,[.val (.int .i64 y0)]⟩⟩=>
 (match s.look 30 with
 |some ⟨none,.one ⟨false,[.val (.int .i64 y1)]⟩⟩=>
 (match s.look 29 with
 |some ⟨none,.one ⟨false,[.ref 2]⟩⟩=>
 (match s.look 3 with
 |some ⟨none,.one ⟨false,[.ptr 640 0]⟩⟩=>
 (match s.ent 2 with
 |some (.row false 24 (.sl 2 (.int .i64)) y2)=>
 (match s.ent 640 with
 |some (.box 33 [.val (.int .i64 y3),.ref 896,.ref 1216,.ref 2432,.ref 1408,.val (.int .i64 y4),.ref 1856,.ref 2048,.val (.int .i64 y5)])=>
 (match s.ent 896 with
 |some (.row true 2 (.int .i64) y6)=>
 (match s.ent 1216 with
 |some (.row true 169 (.pair (.int .i64) (.pair (.int .i64) (.int .i64))) y7)=>
 (match s.ent 1408 with
 |some (.row true 100 (.pair (.int .i64) (.pair (.int .i64) (.int .i64))) y9)=>
 (match s.ent 1856 with
 |some (.row true 173 (.pair (.int .i64) (.int .i64)) y10)=>
 (match s.ent 2048 with
 |some (.row true 176 (.pair (.int .i64) (.int .i64)) y11)=>
 (match s.ent 2432 with
 |some (.tree 24 (.sl 2 (.int .i64)) y8 none)=>
 some (y0,y1,y2,y3,y4,y5,y6,y7,y8,y9,y10,y11)
 |_=>none)
 |_=>none)
 |_=>none)
 |_=>none)
 |_=>none)
 |_=>none)
 |_=>none)
 |_=>none)
 |_=>none)
 |_=>none)
 |_=>none)
 |_=>none)
def aH:Lp bm where
 h:=⟨[32,33,34,5,35,36,37,38,39,40,41,42,31],[0,1,2,3,5,6,7],[4],[]⟩
 JL:=MH
 JE:=MG
 XL:=MJ
 XE:=MI
 q:=fun j=>match j with | _=> .exit 0
 tags:= [0]
 lt:=fO
 fuel:=fun(y0,y1,y2,y3,y4,y5,y6,y7,y8,y9,y10,y11)=>y0.natAbs + y1.natAbs + y2.length + y3.natAbs + y4.natAbs + y5.natAbs + y6.length + y7.length + y8.length + y9.length + y10.length + y11.length
 fix:=fun(_,y1,y2,y3,y4,y5,y6,y7,_,y9,y10,y11) (y0,_,_,_,_,_,_,_,y8,_,_,_)=>(y0,y1,y2,y3,y4,y5,y6,y7,y8,y9,y10,y11)
 σ:= [(0,2),(1,640),(2,896),(3,1216),(5,1408),(6,1856),(7,2048),(4,2432)]
 rd:=oi
theorem LB:LoopOk prog (fun k=>Nat.blt k Tryz.f55.ntmps) aH.F (aK f55 0):=by
 refine Lp.ok (tbl:= [PF.trees prog,bD,PF.lend bD,PF.fz bD,jf,PF.lend jf,PF.fz jf,kq,PF.lend kq,PF.fz kq,oA,PF.lend oA,PF.fz oA,oz,PF.lend oz,PF.fz oz,ay,PF.lend ay,PF.fz ay]) (lf:= []) aO aH (by kernel_rfl) (LOk.nil _) (fun _=>rfl) (fun _ _=>rfl) ?_ ?_ ?_ ?_ (fun _=>rfl) ?_
 ·rintro⟨y0,y1,y2,y3,y4,y5,y6,y7,y8,y9,y10,y11⟩;kernel_rfl
 ·rintro⟨y0,y1,y2,y3,y4,y5,y6,y7,y8,y9,y10,y11⟩;kernel_rfl
 ·intro s x h
  have h:oi s=some x:=h
  unfold oi at h
  repeat' split at h
  all_goals cases h
  exact⟨aa (by assumption) rfl (aa (by assumption) rfl (aa (by assumption) rfl (aa (by assumption) rfl (rfl)))),ab rfl (by assumption) rfl (ab rfl (by assumption) rfl (ab rfl (by assumption) rfl (ab rfl (by assumption) rfl (ab rfl (by assumption) rfl (ab rfl (by assumption) rfl (ab rfl (by assumption) rfl (ab rfl (by assumption) rfl (rfl))))))))⟩
 ·rintro⟨y0,y1,y2,y3,y4,y5,y6,y7,y8,y9,y10,y11⟩;kernel_rfl
 ·rintro⟨y0,y1,y2,y3,y4,y5,y6,y7,y8,y9,y10,y11⟩ z;exact(And.intro rfl trivial)
section
variable (x0 x1 x2:Int)(x3:List Int)(x4:List (Int×Int×Int))(x5:List (List Int))(x6:List (Int×Int×Int))(x7 x8:List (Int×Int))
def kJ:Int×Int×List (List Int)×Int×Int×Int×List Int×List (Int×Int×Int)×List (List Int)×List (Int×Int×Int)×List (Int×Int)×List (Int×Int):=((0:Int),(↑x5.length:Int),x5,x0,x1,x2,x3,x4,[],x6,x7,x8)
def lI:List (List Int):=((Lp.res aH (kJ x0 x1 x2 x3 x4 x5 x6 x7 x8)).2.2.2.2.2.2.2.2.2).1
def lJ:Bool:=allT [gv x3,leN x4.length (1048576:Nat),leN x6.length (1048576:Nat),leN x7.length (1048576:Nat),leN x8.length (1048576:Nat),Lp.fin aH (kJ x0 x1 x2 x3 x4 x5 x6 x7 x8)]
end
def BU:List SV→List Entry→Option Out
 | [.one ⟨true,[.val (.int .i64 x0),.ref 0,.ref 1,.ref 2,.ref 3,.val (.int .i64 x1),.ref 4,.ref 5,.val (.int .i64 x2)]⟩],[.row false 2 (.int .i64) x3,.row false 169 (.pair (.int .i64) (.pair (.int .i64) (.int .i64))) x4,.row false 24 (.sl 2 (.int .i64)) x5,.row false 100 (.pair (.int .i64) (.pair (.int .i64) (.int .i64))) x6,.row false 173 (.pair (.int .i64) (.int .i64)) x7,.row false 176 (.pair (.int .i64) (.int .i64)) x8]=>some ⟨.one ⟨true,[.val (.int .i64 x0),.ref 6,.ref 7,.ref 8,.ref 9,.val (.int .i64 x1),.ref 10,.ref 11,.val (.int .i64 x2)]⟩,[.row false 2 ajn x3,.row false 169 adk x4,.row false 24 (CTy.sl (2:TypeId) ajn) x5,.row false 100 adk x6,.row false 173 aiq x7,.row false 176 aiq x8],[.row true 2 ajn x3,.row true 169 adk x4,.tree 24 (CTy.sl (2:Nat) ajn) (lI x0 x1 x2 x3 x4 x5 x6 x7 x8) none,.row true 100 adk x6,.row true 173 aiq x7,.row true 176 aiq x8],[lJ x0 x1 x2 x3 x4 x5 x6 x7 x8]⟩
 |_,_=>none
def eS:PF prog:=PF.ofG prog [PF.trees prog,bD,PF.lend bD,PF.fz bD,jf,PF.lend jf,PF.fz jf,kq,PF.lend kq,PF.fz kq,oA,PF.lend oA,PF.fz oA,oz,PF.lend oz,PF.fz oz,ay,PF.lend ay,PF.fz ay] [aH.F] aO 55 f55 func55 (LOk.fnT (l:= [aK f55 0]) (by kernel_rfl) (.cons LB (.nil _))) BU (by
 intro vs es r h;unfold BU at h;split at h
 ·cases h;kernel_rfl
 ·cases h)
def ad(x3:Int)(x4:List Int):Bool:=Int.tmod (Option.getD x4[Int.toNat x3]? (0:Int)) (3:Int)==(1:Int)
def ql(x3:Int)(x4:List Int):Bool:=allT [leI (0:Int) x3,ltI x3 (↑x4.length:Int),ltN x3.toNat x4.length]
def zx:List SV→List Entry→Option Out
 | [.one ⟨true,[.val (.int .i64 _x0),.ref 0,.ref 1,.ref 2,.ref 3,.val (.int .i64 _x1),.ref 4,.ref 5,.val (.int .i64 _x2)]⟩,.one ⟨false,[.val (.int .i64 x3)]⟩],[.row false 2 (.int .i64) x4,.row false 169 (.pair (.int .i64) (.pair (.int .i64) (.int .i64))) x5,.row false 24 (.sl 2 (.int .i64)) x6,.row false 100 (.pair (.int .i64) (.pair (.int .i64) (.int .i64))) x7,.row false 173 (.pair (.int .i64) (.int .i64)) x8,.row false 176 (.pair (.int .i64) (.int .i64)) x9]=>some ⟨.one ⟨false,[.val (.bool (ad x3 x4))]⟩,[.row false 2 ajn x4,.row false 169 adk x5,.row false 24 (CTy.sl (2:TypeId) ajn) x6,.row false 100 adk x7,.row false 173 aiq x8,.row false 176 aiq x9],[],[ql x3 x4]⟩
 |_,_=>none
def qr:PF prog:=PF.ofG prog [] [] aO 201 f201 func201 (fun c _=>LOk.nil c) zx (by
 intro vs es r h;unfold zx at h;split at h
 ·cases h;kernel_rfl
 ·cases h)
section
variable (x0 x1 x2 x3:Int)(x4:List Int)(x5:List (Int×Int×Int))(x6:List (List Int))(x7:List (Int×Int×Int))(x8 x9:List (Int×Int))
def aC:Bool:= !Zx x1 x4 (xR x1 x4 x5 (0:Int)) (xR x1 x4 x5 (1:Int)) x0
def iC:List Int:=bif ac x1 x0 x4&&true then Option.getD x6[Int.toNat x0]? (DA (CTy.sl (2:TypeId) ajn))else []
def aT:Bool:=bif ac x1 x0 x4 then !Xm (iC x0 x1 x4 x6) x7 else false
def sc:List (Int×Int×Int):=bif ac x1 x0 x4&&true then x7 else x7
def md:Int:=bif !ad x0 x4 then(0:Int)else bif x2 !=(3:Int)then(1:Int)else bif aC x0 x1 x4 x5 then(2:Int)else bif aT x0 x1 x4 x6 x7 then(3:Int)else(0:Int)
def sy:Int:=bif !ad x0 x4 then x1 else bif x2 !=(3:Int)then x1 else bif aC x0 x1 x4 x5 then x1 else bif aT x0 x1 x4 x6 x7 then x1 else x1
def sz:Int:=bif !ad x0 x4 then x2 else bif x2 !=(3:Int)then x2 else bif aC x0 x1 x4 x5 then x2 else bif aT x0 x1 x4 x6 x7 then x2 else x2
def sE:Int:=bif !ad x0 x4 then x3 else bif x2 !=(3:Int)then x3 else bif aC x0 x1 x4 x5 then x3 else bif aT x0 x1 x4 x6 x7 then x3 else x3
def sF:List Int:=bif !ad x0 x4 then ahl x1 x4 x0 else bif x2 !=(3:Int)then x4 else bif aC x0 x1 x4 x5 then x4 else bif aT x0 x1 x4 x6 x7 then x4 else ahl x1 x4 x0
def sG:List (Int×(Int×Int)):=bif !ad x0 x4 then x5 else bif x2 !=(3:Int)then x5 else bif aC x0 x1 x4 x5 then x5 else bif aT x0 x1 x4 x6 x7 then x5 else x5
def sH:List (Int×(Int×Int)):=bif !ad x0 x4 then x7 else bif x2 !=(3:Int)then x7 else bif aC x0 x1 x4 x5 then x7 else bif aT x0 x1 x4 x6 x7 then sc x0 x1 x4 x7 else sc x0 x1 x4 x7
def sI:List (Int×Int):=bif !ad x0 x4 then x8 else bif x2 !=(3:Int)then x8 else bif aC x0 x1 x4 x5 then x8 else bif aT x0 x1 x4 x6 x7 then x8 else x8
def sJ:List (Int×Int):=bif !ad x0 x4 then x9 else bif x2 !=(3:Int)then x9 else bif aC x0 x1 x4 x5 then x9 else bif aT x0 x1 x4 x6 x7 then x9 else x9
def me:Bool:=allT [ql x0 x4,!ad x0 x4||(x2 !=(3:Int)||isT x1 x4&&an2 x1 x5),!ad x0 x4||(x2 !=(3:Int)||adC x1 x4 (xR x1 x4 x5 (0:Int)) (xR x1 x4 x5 (1:Int)) x0),!ad x0 x4||(x2 !=(3:Int)||(aC x0 x1 x4 x5||bq x0 x4)),!ad x0 x4||(x2 !=(3:Int)||(aC x0 x1 x4 x5||(!(ac x1 x0 x4&&true)||leI (0:Int) x0))),!ad x0 x4||(x2 !=(3:Int)||(aC x0 x1 x4 x5||(!(ac x1 x0 x4&&true)||ltI x0 (↑x6.length:Int)))),!ad x0 x4||(x2 !=(3:Int)||(aC x0 x1 x4 x5||(!(ac x1 x0 x4&&true)||ltN x0.toNat x6.length))),!ad x0 x4||(x2 !=(3:Int)||(aC x0 x1 x4 x5||(!(ac x1 x0 x4&&true)||akk (iC x0 x1 x4 x6) x7))),!!ad x0 x4||aeW x1 x4 x0,!ad x0 x4||(x2 !=(3:Int)||(aC x0 x1 x4 x5||(aT x0 x1 x4 x6 x7||aeW x1 x4 x0)))]
end
def CO:List SV→List Entry→Option Out
 | [.one ⟨false,[.ptr 0 0]⟩,.one ⟨false,[.val (.int .i64 x0)]⟩],[.box 33 [.val (.int .i64 x1),.ref 1,.ref 2,.ref 3,.ref 4,.val (.int .i64 x2),.ref 5,.ref 6,.val (.int .i64 x3)],.row true 2 (.int .i64) x4,.row true 169 (.pair (.int .i64) (.pair (.int .i64) (.int .i64))) x5,.row false 24 (.sl 2 (.int .i64)) x6,.row true 100 (.pair (.int .i64) (.pair (.int .i64) (.int .i64))) x7,.row true 173 (.pair (.int .i64) (.int .i64)) x8,.row true 176 (.pair (.int .i64) (.int .i64)) x9]=>some ⟨.one ⟨false,[.val (.int .i64 (md x0 x1 x2 x4 x5 x6 x7))]⟩,[.box 33 [.val (.int .i64 (sy x0 x1 x2 x4 x5 x6 x7)),.ref 7,.ref 8,.ref 3,.ref 9,.val (.int .i64 (sz x0 x1 x2 x4 x5 x6 x7)),.ref 10,.ref 11,.val (.int .i64 (sE x0 x1 x2 x3 x4 x5 x6 x7))],.gone,.gone,.row false 24 (CTy.sl (2:TypeId) ajn) x6,.gone,.gone,.gone],[.row true 2 ajn (sF x0 x1 x2 x4 x5 x6 x7),.row true 169 adk (sG x0 x1 x2 x4 x5 x6 x7),.row true 100 adk (sH x0 x1 x2 x4 x5 x6 x7),.row true 173 aiq (sI x0 x1 x2 x4 x5 x6 x7 x8),.row true 176 aiq (sJ x0 x1 x2 x4 x5 x6 x7 x9)],[me x0 x1 x2 x4 x5 x6 x7]⟩
 |_,_=>none
def Dj:PF prog:=PF.ofGK prog [aaR,PF.lend aaR,PF.fz aaR,qr,PF.lend qr,PF.fz qr,YT,PF.lend YT,PF.fz YT,oc,PF.lend oc,PF.fz oc,pg,PF.lend pg,PF.fz pg,aP,PF.lend aP,PF.fz aP] [] aO 152 f152 func152 (fun c _=>LOk.nil c) CO (by
 intro vs es r h;unfold CO at h;split at h
 ·cases h;kernel_rfl
 ·cases h)
section
variable (x0 x1 x2 x3 x4 x5:Int)(x6:List Int)(x7:List (Int×Int×Int))(x8:List (List Int))(x9:List (Int×Int×Int))(x10 x11:List (Int×Int))
def aD:List Int:=Option.getD x8[Int.toNat x0]? (DA (CTy.sl (2:TypeId) ajn))
def nY:List (List Int):=List.set x8 x0.toNat (bif lG (aD x0 x8) x1 x2 then Ui (aD x0 x8) x1 x2 else aD x0 x8)
def oW:Int:=bif !ac x3 x0 x6 then(4:Int)else bif !lG (aD x0 x8) x1 x2 then(5:Int)else(0:Int)
def oX:Int:=bif !ac x3 x0 x6 then x3 else bif !lG (aD x0 x8) x1 x2 then x3 else x3
def oY:Int:=bif !ac x3 x0 x6 then x4 else bif !lG (aD x0 x8) x1 x2 then x4 else x4
def oZ:Int:=bif !ac x3 x0 x6 then x5 else bif !lG (aD x0 x8) x1 x2 then x5 else x5
def pa:List Int:=bif !ac x3 x0 x6 then x6 else bif !lG (aD x0 x8) x1 x2 then x6 else x6
def pb:List (Int×(Int×Int)):=bif !ac x3 x0 x6 then x7 else bif !lG (aD x0 x8) x1 x2 then x7 else x7
def pc:List (List Int):=bif !ac x3 x0 x6 then x8 else bif !lG (aD x0 x8) x1 x2 then nY x0 x1 x2 x8 else nY x0 x1 x2 x8
def pd:List (Int×(Int×Int)):=bif !ac x3 x0 x6 then x9 else bif !lG (aD x0 x8) x1 x2 then x9 else x9
def pe:List (Int×Int):=bif !ac x3 x0 x6 then x10 else bif !lG (aD x0 x8) x1 x2 then x10 else x10
def pf:List (Int×Int):=bif !ac x3 x0 x6 then x11 else bif !lG (aD x0 x8) x1 x2 then x11 else x11
def nX:Bool:=allT [bq x0 x6,!ac x3 x0 x6||leI (0:Int) x0,!ac x3 x0 x6||ltI x0 (↑x8.length:Int),!ac x3 x0 x6||ltN x0.toNat x8.length,!ac x3 x0 x6||ann (aD x0 x8) x1 x2]
end
def yg:List SV→List Entry→Option Out
 | [.one ⟨false,[.ptr 0 0]⟩,.one ⟨false,[.val (.int .i64 x0)]⟩,.one ⟨true,[.val (.int .i64 x1),.val (.int .i64 x2)]⟩],[.box 33 [.val (.int .i64 x3),.ref 1,.ref 2,.ref 3,.ref 4,.val (.int .i64 x4),.ref 5,.ref 6,.val (.int .i64 x5)],.row true 2 (.int .i64) x6,.row true 169 (.pair (.int .i64) (.pair (.int .i64) (.int .i64))) x7,.tree 24 (.sl 2 (.int .i64)) x8 none,.row true 100 (.pair (.int .i64) (.pair (.int .i64) (.int .i64))) x9,.row true 173 (.pair (.int .i64) (.int .i64)) x10,.row true 176 (.pair (.int .i64) (.int .i64)) x11]=>some ⟨.one ⟨false,[.val (.int .i64 (oW x0 x1 x2 x3 x6 x8))]⟩,[.box 33 [.val (.int .i64 (oX x0 x1 x2 x3 x6 x8)),.ref 1,.ref 2,.ref 3,.ref 4,.val (.int .i64 (oY x0 x1 x2 x3 x4 x6 x8)),.ref 5,.ref 6,.val (.int .i64 (oZ x0 x1 x2 x3 x5 x6 x8))],.row true 2 ajn (pa x0 x1 x2 x3 x6 x8),.row true 169 adk (pb x0 x1 x2 x3 x6 x7 x8),.tree 24 (CTy.sl (2:TypeId) ajn) (pc x0 x1 x2 x3 x6 x8) none,.row true 100 adk (pd x0 x1 x2 x3 x6 x8 x9),.row true 173 aiq (pe x0 x1 x2 x3 x6 x8 x10),.row true 176 aiq (pf x0 x1 x2 x3 x6 x8 x11)],[],[nX x0 x1 x2 x3 x6 x8]⟩
 |_,_=>none
def ph:PF prog:=PF.ofG prog [PF.trees prog,Ny,PF.lend Ny,PF.fz Ny,aP,PF.lend aP,PF.fz aP] [] aO 153 f153 func153 (fun c _=>LOk.nil c) yg (by
 intro vs es r h;unfold yg at h;split at h
 ·cases h;kernel_rfl
 ·cases h)
section
variable (x0 x1:Int)(x2:Bool)(x3 x4 x5:Int)(x6:List Int)(x7:List (Int×Int×Int))(x8:List (List Int))(x9:List (Int×Int×Int))(x10 x11:List (Int×Int))
def aQ:Bool:=vdC x4 x0 x1 x2 !=(0:Int)
def aS:Bool:=bif x0==(1:Int)then !an9 x10 x11 x5 else false
def dM:Bool:=x0==(1:Int)&&true
def qb:Int:=bif aQ x0 x1 x2 x4 then(6:Int)else bif aS x0 x5 x10 x11 then(7:Int)else(0:Int)
def qc:Int:=bif aQ x0 x1 x2 x4 then x3 else bif aS x0 x5 x10 x11 then x3 else x3
def qd:Int:=bif aQ x0 x1 x2 x4 then x4 else bif aS x0 x5 x10 x11 then x4 else nxC x4 x0 x1 x2
def qe:Int:=bif aQ x0 x1 x2 x4 then x5 else bif aS x0 x5 x10 x11 then x5 else x5
def qf:List Int:=bif aQ x0 x1 x2 x4 then x6 else bif aS x0 x5 x10 x11 then x6 else x6
def qg:List (Int×(Int×Int)):=bif aQ x0 x1 x2 x4 then x7 else bif aS x0 x5 x10 x11 then x7 else x7
def qh:List (List Int):=bif aQ x0 x1 x2 x4 then x8 else bif aS x0 x5 x10 x11 then x8 else x8
def qi:List (Int×(Int×Int)):=bif aQ x0 x1 x2 x4 then x9 else bif aS x0 x5 x10 x11 then x9 else x9
def qj:List (Int×Int):=bif aQ x0 x1 x2 x4 then x10 else bif aS x0 x5 x10 x11 then bif dM x0 then x10 else x10 else bif dM x0 then x10 else x10
def qk:List (Int×Int):=bif aQ x0 x1 x2 x4 then x11 else bif aS x0 x5 x10 x11 then bif dM x0 then x11 else x11 else bif dM x0 then x11 else x11
def oV:Bool:=allT [aho x4 x0,aQ x0 x1 x2 x4||(!dM x0||leN x10.length (9223372036854775807:Nat)&&leN x11.length (9223372036854775807:Nat)),aQ x0 x1 x2 x4||(aS x0 x5 x10 x11||aho x4 x0)]
end
def zw:List SV→List Entry→Option Out
 | [.one ⟨false,[.ptr 0 0]⟩,.one ⟨true,[.val (.int .i64 x0),.val (.int .i64 x1),.val (.bool x2)]⟩],[.box 33 [.val (.int .i64 x3),.ref 1,.ref 2,.ref 3,.ref 4,.val (.int .i64 x4),.ref 5,.ref 6,.val (.int .i64 x5)],.row true 2 (.int .i64) x6,.row true 169 (.pair (.int .i64) (.pair (.int .i64) (.int .i64))) x7,.tree 24 (.sl 2 (.int .i64)) x8 none,.row true 100 (.pair (.int .i64) (.pair (.int .i64) (.int .i64))) x9,.row true 173 (.pair (.int .i64) (.int .i64)) x10,.row true 176 (.pair (.int .i64) (.int .i64)) x11]=>some ⟨.one ⟨false,[.val (.int .i64 (qb x0 x1 x2 x4 x5 x10 x11))]⟩,[.box 33 [.val (.int .i64 (qc x0 x1 x2 x3 x4 x5 x10 x11)),.ref 1,.ref 2,.ref 3,.ref 4,.val (.int .i64 (qd x0 x1 x2 x4 x5 x10 x11)),.ref 5,.ref 6,.val (.int .i64 (qe x0 x1 x2 x4 x5 x10 x11))],.row true 2 ajn (qf x0 x1 x2 x4 x5 x6 x10 x11),.row true 169 adk (qg x0 x1 x2 x4 x5 x7 x10 x11),.tree 24 (CTy.sl (2:TypeId) ajn) (qh x0 x1 x2 x4 x5 x8 x10 x11) none,.row true 100 adk (qi x0 x1 x2 x4 x5 x9 x10 x11),.row true 173 aiq (qj x0 x1 x2 x4 x5 x10 x11),.row true 176 aiq (qk x0 x1 x2 x4 x5 x10 x11)],[],[oV x0 x1 x2 x4 x5 x10 x11]⟩
 |_,_=>none
def qq:PF prog:=PF.ofG prog [PF.trees prog,Mg,UQ,PF.lend UQ,PF.fz UQ,OC] [] aO 154 f154 func154 (fun c _=>LOk.nil c) zw (by
 intro vs es r h;unfold zw at h;split at h
 ·cases h;kernel_rfl
 ·cases h)
section
variable (x0 x1 x2 x3 x4 x5:Int)(x6:Bool)(x7 x8 x9:Int)(x10:List Int)(x11:List (Int×Int×Int))(x12:List (List Int))(x13:List (Int×Int×Int))(x14 x15:List (Int×Int))
def dy:Int:=bif x0==(0:Int)then md x1 x7 x8 x10 x11 x12 x13 else bif x0==(1:Int)then oW x1 x2 x3 x7 x10 x12 else qb x4 x5 x6 x8 x9 x14 x15
def dA:Int:=bif x0==(0:Int)then sy x1 x7 x8 x10 x11 x12 x13 else bif x0==(1:Int)then oX x1 x2 x3 x7 x10 x12 else qc x4 x5 x6 x7 x8 x9 x14 x15
def dB:Int:=bif x0==(0:Int)then sz x1 x7 x8 x10 x11 x12 x13 else bif x0==(1:Int)then oY x1 x2 x3 x7 x8 x10 x12 else qd x4 x5 x6 x8 x9 x14 x15
def dC:Int:=bif x0==(0:Int)then sE x1 x7 x8 x9 x10 x11 x12 x13 else bif x0==(1:Int)then oZ x1 x2 x3 x7 x9 x10 x12 else qe x4 x5 x6 x8 x9 x14 x15
def dD:List Int:=bif x0==(0:Int)then sF x1 x7 x8 x10 x11 x12 x13 else bif x0==(1:Int)then pa x1 x2 x3 x7 x10 x12 else qf x4 x5 x6 x8 x9 x10 x14 x15
def dE:List (Int×(Int×Int)):=bif x0==(0:Int)then sG x1 x7 x8 x10 x11 x12 x13 else bif x0==(1:Int)then pb x1 x2 x3 x7 x10 x11 x12 else qg x4 x5 x6 x8 x9 x11 x14 x15
def dF:List (List Int):=bif x0==(0:Int)then x12 else bif x0==(1:Int)then pc x1 x2 x3 x7 x10 x12 else qh x4 x5 x6 x8 x9 x12 x14 x15
def dG:List (Int×(Int×Int)):=bif x0==(0:Int)then sH x1 x7 x8 x10 x11 x12 x13 else bif x0==(1:Int)then pd x1 x2 x3 x7 x10 x12 x13 else qi x4 x5 x6 x8 x9 x13 x14 x15
def dH:List (Int×Int):=bif x0==(0:Int)then sI x1 x7 x8 x10 x11 x12 x13 x14 else bif x0==(1:Int)then pe x1 x2 x3 x7 x10 x12 x14 else qj x4 x5 x6 x8 x9 x14 x15
def dI:List (Int×Int):=bif x0==(0:Int)then sJ x1 x7 x8 x10 x11 x12 x13 x15 else bif x0==(1:Int)then pf x1 x2 x3 x7 x10 x12 x15 else qk x4 x5 x6 x8 x9 x14 x15
def eR:Bool:=allT [!x0==(0:Int)||me x1 x7 x8 x10 x11 x12 x13,x0==(0:Int)||(!x0==(1:Int)||nX x1 x2 x3 x7 x10 x12),x0==(0:Int)||(x0==(1:Int)||oV x4 x5 x6 x8 x9 x14 x15)]
end
def CP:List SV→List Entry→Option Out
 | [.one ⟨false,[.ptr 0 0]⟩,.one ⟨true,[.val (.int .i64 x0),.val (.int .i64 x1),.val (.int .i64 x2),.val (.int .i64 x3),.val (.int .i64 x4),.val (.int .i64 x5),.val (.bool x6)]⟩],[.box 33 [.val (.int .i64 x7),.ref 1,.ref 2,.ref 3,.ref 4,.val (.int .i64 x8),.ref 5,.ref 6,.val (.int .i64 x9)],.row true 2 (.int .i64) x10,.row true 169 (.pair (.int .i64) (.pair (.int .i64) (.int .i64))) x11,.tree 24 (.sl 2 (.int .i64)) x12 none,.row true 100 (.pair (.int .i64) (.pair (.int .i64) (.int .i64))) x13,.row true 173 (.pair (.int .i64) (.int .i64)) x14,.row true 176 (.pair (.int .i64) (.int .i64)) x15]=>some ⟨.one ⟨false,[.val (.int .i64 (dy x0 x1 x2 x3 x4 x5 x6 x7 x8 x9 x10 x11 x12 x13 x14 x15))]⟩,[.box 33 [.val (.int .i64 (dA x0 x1 x2 x3 x4 x5 x6 x7 x8 x9 x10 x11 x12 x13 x14 x15)),.ref 7,.ref 8,.ref 9,.ref 10,.val (.int .i64 (dB x0 x1 x2 x3 x4 x5 x6 x7 x8 x9 x10 x11 x12 x13 x14 x15)),.ref 11,.ref 12,.val (.int .i64 (dC x0 x1 x2 x3 x4 x5 x6 x7 x8 x9 x10 x11 x12 x13 x14 x15))],.gone,.gone,.gone,.gone,.gone,.gone],[.row true 2 ajn (dD x0 x1 x2 x3 x4 x5 x6 x7 x8 x9 x10 x11 x12 x13 x14 x15),.row true 169 adk (dE x0 x1 x2 x3 x4 x5 x6 x7 x8 x9 x10 x11 x12 x13 x14 x15),.tree 24 (CTy.sl (2:TypeId) ajn) (dF x0 x1 x2 x3 x4 x5 x6 x7 x8 x9 x10 x12 x14 x15) none,.row true 100 adk (dG x0 x1 x2 x3 x4 x5 x6 x7 x8 x9 x10 x11 x12 x13 x14 x15),.row true 173 aiq (dH x0 x1 x2 x3 x4 x5 x6 x7 x8 x9 x10 x11 x12 x13 x14 x15),.row true 176 aiq (dI x0 x1 x2 x3 x4 x5 x6 x7 x8 x9 x10 x11 x12 x13 x14 x15)],[eR x0 x1 x2 x3 x4 x5 x6 x7 x8 x9 x10 x11 x12 x13 x14 x15]⟩
 |_,_=>none
def fJ:PF prog:=PF.ofG prog [PF.trees prog,Dj,PF.lendT Dj,ph,PF.lend ph,PF.fz ph,qq,PF.lend qq,PF.fz qq] [] aO 56 f56 func56 (fun c _=>LOk.nil c) CP (by
 intro vs es r h;unfold CP at h;split at h
 ·cases h;kernel_rfl
 ·cases h)
abbrev mM:=Int×Int×List (Int×(Int×((Int×Int)×(Int×(Int×Bool)))))×List Int×Int×Int×Int×List Int×List (Int×(Int×Int))×List (List Int)×List (Int×(Int×Int))×List (Int×Int)×List (Int×Int)
def yV(y0:Int)(y2:List (Int×(Int×((Int×Int)×(Int×(Int×Bool)))))):Int×Int×(Int×Int)×Int×Int×Bool:=Option.getD y2[Int.toNat y0]? ((0:Int),(0:Int),((0:Int),(0:Int)),(0:Int),(0:Int),false)
def ee(y0:Int)(y2:List (Int×(Int×((Int×Int)×(Int×(Int×Bool)))))):Int:=(yV y0 y2).1
def yW(y0:Int)(y2:List (Int×(Int×((Int×Int)×(Int×(Int×Bool)))))):Int×(Int×Int)×Int×Int×Bool:=(yV y0 y2).2
def ef(y0:Int)(y2:List (Int×(Int×((Int×Int)×(Int×(Int×Bool)))))):Int:=(yW y0 y2).1
def qV(y0:Int)(y2:List (Int×(Int×((Int×Int)×(Int×(Int×Bool)))))):(Int×Int)×Int×Int×Bool:=(yW y0 y2).2
def eg(y0:Int)(y2:List (Int×(Int×((Int×Int)×(Int×(Int×Bool)))))):Int:=(qV y0 y2).1.1
def ei(y0:Int)(y2:List (Int×(Int×((Int×Int)×(Int×(Int×Bool)))))):Int:=(qV y0 y2).1.2
def ej(y0:Int)(y2:List (Int×(Int×((Int×Int)×(Int×(Int×Bool)))))):Int:=((qV y0 y2).2).1
def bi(y0:Int)(y2:List (Int×(Int×((Int×Int)×(Int×(Int×Bool)))))):Int×Bool:=(qV y0 y2).2.2
def ug(y0:Int)(y2:List (Int×(Int×((Int×Int)×(Int×(Int×Bool))))))(y4 y5 y6:Int)(y7:List Int)(y8:List (Int×(Int×Int)))(y9:List (List Int))(y10:List (Int×(Int×Int)))(y11 y12:List (Int×Int)):List Int:= [dy (ee y0 y2) (ef y0 y2) (eg y0 y2) (ei y0 y2) (ej y0 y2) ((bi y0 y2).1) ((bi y0 y2).2) y4 y5 y6 y7 y8 y9 y10 y11 y12]
def Hc(y0 y1:Int):Bool:=ltI y0 y1
def Hd(y0:Int):Bool:=leI (0:Int) y0
def He(y0:Int)(y2:List (Int×(Int×((Int×Int)×(Int×(Int×Bool)))))):Bool:=ltI y0 (↑y2.length:Int)
def Hf(y0:Int)(y2:List (Int×(Int×((Int×Int)×(Int×(Int×Bool)))))):Bool:=ltN y0.toNat y2.length
def Hg(y0:Int)(y2:List (Int×(Int×((Int×Int)×(Int×(Int×Bool))))))(y4 y5 y6:Int)(y7:List Int)(y8:List (Int×(Int×Int)))(y9:List (List Int))(y10:List (Int×(Int×Int)))(y11 y12:List (Int×Int)):Bool:=eR (ee y0 y2) (ef y0 y2) (eg y0 y2) (ei y0 y2) (ej y0 y2) ((bi y0 y2).1) ((bi y0 y2).2) y4 y5 y6 y7 y8 y9 y10 y11 y12
def Hh(y0:Int)(y2:List (Int×(Int×((Int×Int)×(Int×(Int×Bool))))))(y3:List Int)(y4 y5 y6:Int)(y7:List Int)(y8:List (Int×(Int×Int)))(y9:List (List Int))(y10:List (Int×(Int×Int)))(y11 y12:List (Int×Int)):Bool:=leN (List.length y3 + List.length (ug y0 y2 y4 y5 y6 y7 y8 y9 y10 y11 y12)) (9223372036854775807:Nat)
def Hi(y0:Int)(y2:List (Int×(Int×((Int×Int)×(Int×(Int×Bool))))))(y3:List Int)(y4 y5 y6:Int)(y7:List Int)(y8:List (Int×(Int×Int)))(y9:List (List Int))(y10:List (Int×(Int×Int)))(y11 y12:List (Int×Int)):Bool:=leN ((List.length y3 + List.length (ug y0 y2 y4 y5 y6 y7 y8 y9 y10 y11 y12)) * (8:Nat)) (140737488355328:Nat)
def Hj(y0:Int):Int:=IntKind.wrap .i64 (y0 + (1:Int))
def Hk(y0:Int)(y2:List (Int×(Int×((Int×Int)×(Int×(Int×Bool))))))(y3:List Int)(y4 y5 y6:Int)(y7:List Int)(y8:List (Int×(Int×Int)))(y9:List (List Int))(y10:List (Int×(Int×Int)))(y11 y12:List (Int×Int)):List Int:=y3++ug y0 y2 y4 y5 y6 y7 y8 y9 y10 y11 y12
def Hl(y0:Int)(y2:List (Int×(Int×((Int×Int)×(Int×(Int×Bool))))))(y4 y5 y6:Int)(y7:List Int)(y8:List (Int×(Int×Int)))(y9:List (List Int))(y10:List (Int×(Int×Int)))(y11 y12:List (Int×Int)):Int:=dA (ee y0 y2) (ef y0 y2) (eg y0 y2) (ei y0 y2) (ej y0 y2) ((bi y0 y2).1) ((bi y0 y2).2) y4 y5 y6 y7 y8 y9 y10 y11 y12
def EO(y0:Int)(y2:List (Int×(Int×((Int×Int)×(Int×(Int×Bool))))))(y4 y5 y6:Int)(y7:List Int)(y8:List (Int×(Int×Int)))(y9:List (List Int))(y10:List (Int×(Int×Int)))(y11 y12:List (Int×Int)):Int:=dB (ee y0 y2) (ef y0 y2) (eg y0 y2) (ei y0 y2) (ej y0 y2) ((bi y0 y2).1) ((bi y0 y2).2) y4 y5 y6 y7 y8 y9 y10 y11 y12
def EP(y0:Int)(y2:List (Int×(Int×((Int×Int)×(Int×(Int×Bool))))))(y4 y5 y6:Int)(y7:List Int)(y8:List (Int×(Int×Int)))(y9:List (List Int))(y10:List (Int×(Int×Int)))(y11 y12:List (Int×Int)):Int:=dC (ee y0 y2) (ef y0 y2) (eg y0 y2) (ei y0 y2) (ej y0 y2) ((bi y0 y2).1) ((bi y0 y2).2) y4 y5 y6 y7 y8 y9 y10 y11 y12
def EQ(y0:Int)(y2:List (Int×(Int×((Int×Int)×(Int×(Int×Bool))))))(y4 y5 y6:Int)(y7:List Int)(y8:List (Int×(Int×Int)))(y9:List (List Int))(y10:List (Int×(Int×Int)))(y11 y12:List (Int×Int)):List Int:=dD (ee y0 y2) (ef y0 y2) (eg y0 y2) (ei y0 y2) (ej y0 y2) ((bi y0 y2).1) ((bi y0 y2).2) y4 y5 y6 y7 y8 y9 y10 y11 y12
def ER(y0:Int)(y2:List (Int×(Int×((Int×Int)×(Int×(Int×Bool))))))(y4 y5 y6:Int)(y7:List Int)(y8:List (Int×(Int×Int)))(y9:List (List Int))(y10:List (Int×(Int×Int)))(y11 y12:List (Int×Int)):List (Int×(Int×Int)):=dE (ee y0 y2) (ef y0 y2) (eg y0 y2) (ei y0 y2) (ej y0 y2) ((bi y0 y2).1) ((bi y0 y2).2) y4 y5 y6 y7 y8 y9 y10 y11 y12
def ES(y0:Int)(y2:List (Int×(Int×((Int×Int)×(Int×(Int×Bool))))))(y4 y5 y6:Int)(y7:List Int)(y9:List (List Int))(y11 y12:List (Int×Int)):List (List Int):=dF (ee y0 y2) (ef y0 y2) (eg y0 y2) (ei y0 y2) (ej y0 y2) ((bi y0 y2).1) ((bi y0 y2).2) y4 y5 y6 y7 y9 y11 y12
def ET(y0:Int)(y2:List (Int×(Int×((Int×Int)×(Int×(Int×Bool))))))(y4 y5 y6:Int)(y7:List Int)(y8:List (Int×(Int×Int)))(y9:List (List Int))(y10:List (Int×(Int×Int)))(y11 y12:List (Int×Int)):List (Int×(Int×Int)):=dG (ee y0 y2) (ef y0 y2) (eg y0 y2) (ei y0 y2) (ej y0 y2) ((bi y0 y2).1) ((bi y0 y2).2) y4 y5 y6 y7 y8 y9 y10 y11 y12
def EU(y0:Int)(y2:List (Int×(Int×((Int×Int)×(Int×(Int×Bool))))))(y4 y5 y6:Int)(y7:List Int)(y8:List (Int×(Int×Int)))(y9:List (List Int))(y10:List (Int×(Int×Int)))(y11 y12:List (Int×Int)):List (Int×Int):=dH (ee y0 y2) (ef y0 y2) (eg y0 y2) (ei y0 y2) (ej y0 y2) ((bi y0 y2).1) ((bi y0 y2).2) y4 y5 y6 y7 y8 y9 y10 y11 y12
def EV(y0:Int)(y2:List (Int×(Int×((Int×Int)×(Int×(Int×Bool))))))(y4 y5 y6:Int)(y7:List Int)(y8:List (Int×(Int×Int)))(y9:List (List Int))(y10:List (Int×(Int×Int)))(y11 y12:List (Int×Int)):List (Int×Int):=dI (ee y0 y2) (ef y0 y2) (eg y0 y2) (ei y0 y2) (ej y0 y2) ((bi y0 y2).1) ((bi y0 y2).2) y4 y5 y6 y7 y8 y9 y10 y11 y12
def ak2:mM→List (Nat×SV)
 |(y0,y1,_,_,_,_,_,_,_,_,_,_,_)=> [(23,(.one ⟨false,[.val (.int .i64 y0)]⟩)),(22,(.one ⟨false,[.val (.int .i64 y1)]⟩)),(21,(.one ⟨false,[.ref 0]⟩)),(9,(.one ⟨false,[.ref 1]⟩)),(8,(.one ⟨false,[.ptr 2 0]⟩))]
def akU:mM→List (Nat×Entry)
 |(_,_,y2,y3,y4,y5,y6,y7,y8,y9,y10,y11,y12)=> [(0,(.row false 49 abL y2)),(2,(.box 33 [.val (.int .i64 y4),.ref 3,.ref 4,.ref 5,.ref 6,.val (.int .i64 y5),.ref 7,.ref 8,.val (.int .i64 y6)])),(1,(.row true 2 ajn y3)),(3,(.row true 2 ajn y7)),(4,(.row true 169 adk y8)),(5,(.tree 24 (CTy.sl (2:Nat) ajn) y9 none)),(6,(.row true 100 adk y10)),(7,(.row true 173 aiq y11)),(8,(.row true 176 aiq y12))]
def ali:Nat→mM→List (Nat×SV)
 |_,(_,_,_,_,_,_,_,_,_,_,_,_,_)=> [(9,(.one ⟨false,[.ref 1]⟩))]
def ala:Nat→mM→List (Nat×Entry)
 |_,(_,_,y2,y3,y4,y5,y6,y7,y8,y9,y10,y11,y12)=> [(0,(.row false 49 abL y2)),(1,(.row true 2 ajn y3)),(2,(.box 33 [.val (.int .i64 y4),.ref 3,.ref 4,.ref 5,.ref 6,.val (.int .i64 y5),.ref 7,.ref 8,.val (.int .i64 y6)])),(3,(.row true 2 ajn y7)),(4,(.row true 169 adk y8)),(5,(.tree 24 (CTy.sl (2:Nat) ajn) y9 none)),(6,(.row true 100 adk y10)),(7,(.row true 173 aiq y11)),(8,(.row true 176 aiq y12))]
def FF:mM→LT mM
 |(y0,y1,y2,y3,y4,y5,y6,y7,y8,y9,y10,y11,y12)=> .ite (Hc y0 y1) (.need [Hd y0,He y0 y2,Hf y0 y2] (.need [Hg y0 y2 y4 y5 y6 y7 y8 y9 y10 y11 y12,Hh y0 y2 y3 y4 y5 y6 y7 y8 y9 y10 y11 y12,Hi y0 y2 y3 y4 y5 y6 y7 y8 y9 y10 y11 y12] (.nrm ((Hj y0),y1,y2,Hk y0 y2 y3 y4 y5 y6 y7 y8 y9 y10 y11 y12,Hl y0 y2 y4 y5 y6 y7 y8 y9 y10 y11 y12,EO y0 y2 y4 y5 y6 y7 y8 y9 y10 y11 y12,EP y0 y2 y4 y5 y6 y7 y8 y9 y10 y11 y12,EQ y0 y2 y4 y5 y6 y7 y8 y9 y10 y11 y12,ER y0 y2 y4 y5 y6 y7 y8 y9 y10 y11 y12,ES y0 y2 y4 y5 y6 y7 y9 y11 y12,ET y0 y2 y4 y5 y6 y7 y8 y9 y10 y11 y12,EU y0 y2 y4 y5 y6 y7 y8 y9 y10 y11 y12,(EV y0 y2 y4 y5 y6 y7 y8 y9 y10 y11 y12)) [(0,0),(1,640),(2,2),(3,512),(4,513),(5,514),(6,515),(7,516),(8,517)]))) (.ext 0 [(0,0),(1,1),(2,2),(3,3),(4,4),(5,5),(6,6),(7,7),(8,8)])
def Tj(s:St):Option mM:=
 (match s.look 23 with
 |some ⟨none,.one ⟨false,[.val (.int .i64 y0)]⟩⟩=>
 (match s.look 22 with
 |some ⟨none,.one ⟨false,[.val (.int .i64 y1)]⟩⟩=>
 (match s.look 21 with
 |some ⟨none,.one ⟨false,[.ref 6]⟩⟩=>
 (match s.look 9 with
 |some ⟨none,.one ⟨false,[.ref 1408]⟩⟩=>
 (match s.look 8 with
 |some ⟨none,.one ⟨false,[.ptr 1280 0]⟩⟩=>
 (match s.ent 6 with
 |some (.row false 49 (.pair (.int .i64) (.pair (.int .i64) (.pair (.pair (.int .i64) (.int .i64)) (.pair (.int .i64) (.pair (.int .i64) .bool))))) y2)=>
 (match s.ent 1280 with
 |some (.box 33 [.val (.int .i64 y4),.ref 1216,.ref 1217,.ref 1218,.ref 1219,.val (.int .i64 y5),.ref 1220,.ref 1221,.val (.int .i64 y6)])=>
 (match s.ent 1408 with
 |some (.row true 2 (.int .i64) y3)=>
 (match s.ent 1216 with
 |some (.row true 2 (.int .i64) y7)=>
 (match s.ent 1217 with
 |some (.row true 169 (.pair (.int .i64) (.pair (.int .i64) (.int .i64))) y8)=>
 (match s.ent 1218 with
 |some (.tree 24 (.sl 2 (.int .i64)) y9 none)=>
 (match s.ent 1219 with
 |some (.row true 100 (.pair (.int .i64) (.pair (.int .i64) (.int .i64))) y10)=>
 (match s.ent 1220 with
 |some (.row true 173 (.pair (.int .i64) (.int .i64)) y11)=>
 (match s.ent 1221 with
 |some (.row true 176 (.pair (.int .i64) (.int .i64)) y12)=>
 some (y0,y1,y2,y3,y4,y5,y6,y7,y8,y9,y10,y11,y12)
 |_=>none)
 |_=>none)
 |_=>none)
 |_=>none)
 |_=>none)
 |_=>none)
 |_=>none)
 |_=>none)
 |_=>none)
 |_=>none)
 |_=>none)
 |_=>none)
 |_=>none)
 |_=>none)
def ek:Lp mM where
 h:=⟨[24,25,26,11,27,28,29,30,31,9,32,23],[0,2],[1,3,4,5,6,7,8],[]⟩
 JL:=ak2
 JE:=akU
 XL:=ali
 XE:=ala
 q:=fun j=>match j with | _=> .exit 0
 tags:= [0]
 lt:=FF
 fuel:=fun(y0,y1,y2,y3,y4,y5,y6,y7,y8,y9,y10,y11,y12)=>y0.natAbs + y1.natAbs + y2.length + y3.length + y4.natAbs + y5.natAbs + y6.natAbs + y7.length + y8.length + y9.length + y10.length + y11.length + y12.length
 fix:=fun(_,y1,y2,_,_,_,_,_,_,_,_,_,_) (y0,_,_,y3,y4,y5,y6,y7,y8,y9,y10,y11,y12)=>(y0,y1,y2,y3,y4,y5,y6,y7,y8,y9,y10,y11,y12)
 σ:= [(0,6),(2,1280),(1,1408),(3,1216),(4,1217),(5,1218),(6,1219),(7,1220),(8,1221)]
 rd:=Tj
theorem aiz:LoopOk prog (fun k=>Nat.blt k Tryz.f12.ntmps) ek.F (aK f12 0):=by
 refine Lp.ok (tbl:= [PF.trees prog,En,PF.lend En,PF.fz En,eS,PF.lend eS,PF.fz eS,fJ,PF.lend fJ,PF.fz fJ]) (lf:= []) aO ek (by kernel_rfl) (LOk.nil _) (fun _=>rfl) (fun _ _=>rfl) ?_ ?_ ?_ ?_ (fun _=>rfl) ?_
 ·rintro⟨y0,y1,y2,y3,y4,y5,y6,y7,y8,y9,y10,y11,y12⟩;kernel_rfl
 ·rintro⟨y0,y1,y2,y3,y4,y5,y6,y7,y8,y9,y10,y11,y12⟩;kernel_rfl
 ·intro s x h
  have h:Tj s=some x:=h
  unfold Tj at h
  repeat' split at h
  all_goals cases h
  exact⟨aa (by assumption) rfl (aa (by assumption) rfl (aa (by assumption) rfl (aa (by assumption) rfl (aa (by assumption) rfl (rfl))))),ab rfl (by assumption) rfl (ab rfl (by assumption) rfl (ab rfl (by assumption) rfl (ab rfl (by assumption) rfl (ab rfl (by assumption) rfl (ab rfl (by assumption) rfl (ab rfl (by assumption) rfl (ab rfl (by assumption) rfl (ab rfl (by assumption) rfl (rfl)))))))))⟩
 ·rintro⟨y0,y1,y2,y3,y4,y5,y6,y7,y8,y9,y10,y11,y12⟩;kernel_rfl
 ·rintro⟨y0,y1,y2,y3,y4,y5,y6,y7,y8,y9,y10,y11,y12⟩ z;exact(And.intro rfl trivial)
section
variable (x0 x1 x2:Int)(x3:List Int)(x4:List (Int×Int×Int))(x5:List (List Int))(x6:List (Int×Int×Int))(x7 x8:List (Int×Int))(x9:List (Int×Int×(Int×Int)×Int×Int×Bool))
def iR:Bool:=za x0 x1 x2 x3 x4 x5 x6 x7 x8 x9 !=(0:Int)
def GN:Int×Int×List (Int×Int×(Int×Int)×Int×Int×Bool)×List Int×Int×Int×Int×List Int×List (Int×Int×Int)×List (List Int)×List (Int×Int×Int)×List (Int×Int)×List (Int×Int):=((0:Int),(↑x9.length:Int),x9,[],x0,x1,x2,x3,x4,lI x0 x1 x2 x3 x4 x5 x6 x7 x8,x6,x7,x8)
def YH:List Int×Int×Int×Int×List Int×List (Int×Int×Int)×List (List Int)×List (Int×Int×Int)×List (Int×Int)×List (Int×Int):=(Lp.res ek (GN x0 x1 x2 x3 x4 x5 x6 x7 x8 x9)).2.2.2.2
def YI:Int×Int×Int×List Int×List (Int×Int×Int)×List (List Int)×List (Int×Int×Int)×List (Int×Int)×List (Int×Int):=(YH x0 x1 x2 x3 x4 x5 x6 x7 x8 x9).2
def YJ:Int×Int×List Int×List (Int×Int×Int)×List (List Int)×List (Int×Int×Int)×List (Int×Int)×List (Int×Int):=(YI x0 x1 x2 x3 x4 x5 x6 x7 x8 x9).2
def YK:Int×List Int×List (Int×Int×Int)×List (List Int)×List (Int×Int×Int)×List (Int×Int)×List (Int×Int):=(YJ x0 x1 x2 x3 x4 x5 x6 x7 x8 x9).2
def YL:List Int×List (Int×Int×Int)×List (List Int)×List (Int×Int×Int)×List (Int×Int)×List (Int×Int):=(YK x0 x1 x2 x3 x4 x5 x6 x7 x8 x9).2
def YM:List (Int×Int×Int)×List (List Int)×List (Int×Int×Int)×List (Int×Int)×List (Int×Int):=(YL x0 x1 x2 x3 x4 x5 x6 x7 x8 x9).2
def YN:List (List Int)×List (Int×Int×Int)×List (Int×Int)×List (Int×Int):=(YM x0 x1 x2 x3 x4 x5 x6 x7 x8 x9).2
def YO:List (Int×Int×Int)×List (Int×Int)×List (Int×Int):=(YN x0 x1 x2 x3 x4 x5 x6 x7 x8 x9).2
def WY:List (Int×Int)×List (Int×Int):=(YO x0 x1 x2 x3 x4 x5 x6 x7 x8 x9).2
def Pj:Int:=bif iR x0 x1 x2 x3 x4 x5 x6 x7 x8 x9 then(0:Int)else (YI x0 x1 x2 x3 x4 x5 x6 x7 x8 x9).1
def Pk:Int:=bif iR x0 x1 x2 x3 x4 x5 x6 x7 x8 x9 then(0:Int)else (YJ x0 x1 x2 x3 x4 x5 x6 x7 x8 x9).1
def Pl:Int:=bif iR x0 x1 x2 x3 x4 x5 x6 x7 x8 x9 then(0:Int)else (YK x0 x1 x2 x3 x4 x5 x6 x7 x8 x9).1
def Pm:Int:=bif iR x0 x1 x2 x3 x4 x5 x6 x7 x8 x9 then za x0 x1 x2 x3 x4 x5 x6 x7 x8 x9 else(0:Int)
def Pn:List Int:=bif iR x0 x1 x2 x3 x4 x5 x6 x7 x8 x9 then []else (YL x0 x1 x2 x3 x4 x5 x6 x7 x8 x9).1
def Po:List (Int×(Int×Int)):=bif iR x0 x1 x2 x3 x4 x5 x6 x7 x8 x9 then []else (YM x0 x1 x2 x3 x4 x5 x6 x7 x8 x9).1
def Pp:List (List Int):=bif iR x0 x1 x2 x3 x4 x5 x6 x7 x8 x9 then []else (YN x0 x1 x2 x3 x4 x5 x6 x7 x8 x9).1
def Pq:List (Int×(Int×Int)):=bif iR x0 x1 x2 x3 x4 x5 x6 x7 x8 x9 then []else (YO x0 x1 x2 x3 x4 x5 x6 x7 x8 x9).1
def Pr:List (Int×Int):=bif iR x0 x1 x2 x3 x4 x5 x6 x7 x8 x9 then []else (WY x0 x1 x2 x3 x4 x5 x6 x7 x8 x9).1
def Ps:List (Int×Int):=bif iR x0 x1 x2 x3 x4 x5 x6 x7 x8 x9 then []else (WY x0 x1 x2 x3 x4 x5 x6 x7 x8 x9).2
def MK:List Int:=bif iR x0 x1 x2 x3 x4 x5 x6 x7 x8 x9 then []else (YH x0 x1 x2 x3 x4 x5 x6 x7 x8 x9).1
def ML:Bool:=allT [Eg x0 x1 x2 x3 x4 x5 x6 x7 x8 x9,iR x0 x1 x2 x3 x4 x5 x6 x7 x8 x9||lJ x0 x1 x2 x3 x4 x5 x6 x7 x8,iR x0 x1 x2 x3 x4 x5 x6 x7 x8 x9||Lp.fin ek (GN x0 x1 x2 x3 x4 x5 x6 x7 x8 x9)]
end
def ahp:List SV→List Entry→Option Out
 | [.one ⟨true,[.val (.int .i64 x0),.ref 0,.ref 1,.ref 2,.ref 3,.val (.int .i64 x1),.ref 4,.ref 5,.val (.int .i64 x2)]⟩,.one ⟨false,[.ref 6]⟩],[.row false 2 (.int .i64) x3,.row false 169 (.pair (.int .i64) (.pair (.int .i64) (.int .i64))) x4,.row false 24 (.sl 2 (.int .i64)) x5,.row false 100 (.pair (.int .i64) (.pair (.int .i64) (.int .i64))) x6,.row false 173 (.pair (.int .i64) (.int .i64)) x7,.row false 176 (.pair (.int .i64) (.int .i64)) x8,.row false 49 (.pair (.int .i64) (.pair (.int .i64) (.pair (.pair (.int .i64) (.int .i64)) (.pair (.int .i64) (.pair (.int .i64) (.bool)))))) x9]=>some ⟨.tup [⟨true,[.val (.int .i64 (Pj x0 x1 x2 x3 x4 x5 x6 x7 x8 x9)),.ref 7,.ref 8,.ref 9,.ref 10,.val (.int .i64 (Pk x0 x1 x2 x3 x4 x5 x6 x7 x8 x9)),.ref 11,.ref 12,.val (.int .i64 (Pl x0 x1 x2 x3 x4 x5 x6 x7 x8 x9))]⟩,⟨false,[.ref 13]⟩,⟨false,[.val (.int .i64 (Pm x0 x1 x2 x3 x4 x5 x6 x7 x8 x9))]⟩],[.row false 2 ajn x3,.row false 169 adk x4,.row false 24 (CTy.sl (2:TypeId) ajn) x5,.row false 100 adk x6,.row false 173 aiq x7,.row false 176 aiq x8,.row false 49 abL x9],[.row true 2 ajn (Pn x0 x1 x2 x3 x4 x5 x6 x7 x8 x9),.row true 169 adk (Po x0 x1 x2 x3 x4 x5 x6 x7 x8 x9),.tree 24 (CTy.sl (2:Nat) ajn) (Pp x0 x1 x2 x3 x4 x5 x6 x7 x8 x9) none,.row true 100 adk (Pq x0 x1 x2 x3 x4 x5 x6 x7 x8 x9),.row true 173 aiq (Pr x0 x1 x2 x3 x4 x5 x6 x7 x8 x9),.row true 176 aiq (Ps x0 x1 x2 x3 x4 x5 x6 x7 x8 x9),.row true 2 ajn (MK x0 x1 x2 x3 x4 x5 x6 x7 x8 x9)],[ML x0 x1 x2 x3 x4 x5 x6 x7 x8 x9]⟩
 |_,_=>none
def UU:PF prog:=PF.ofG prog [PF.trees prog,En,PF.lend En,PF.fz En,eS,PF.lend eS,PF.fz eS,fJ,PF.lend fJ,PF.fz fJ] [ek.F] aO 12 f12 func12 (LOk.fnT (l:= [aK f12 0]) (by kernel_rfl) (.cons aiz (.nil _))) ahp (by
 intro vs es r h;unfold ahp at h;split at h
 ·cases h;kernel_rfl
 ·cases h)
section
variable (x0 x1 x2 x3 x4 x5 x6 x7 x8:Int)(x9:Bool)(x10:List Int)(x11:List (Int×Int×Int))(x12:List (List Int))(x13:List (Int×Int×Int))(x14 x15:List (Int×Int))
def iB:List (Int×Int×(Int×Int)×Int×Int×Bool):= [(x3,x4,(x5,x6),x7,x8,x9)]
def Qy:Int:=Pm x0 x1 x2 x10 x11 x12 x13 x14 x15 (iB x3 x4 x5 x6 x7 x8 x9)
def fE:Bool:=Qy x0 x1 x2 x3 x4 x5 x6 x7 x8 x9 x10 x11 x12 x13 x14 x15 !=(0:Int)
def Ka:List Int:=MK x0 x1 x2 x10 x11 x12 x13 x14 x15 (iB x3 x4 x5 x6 x7 x8 x9)
def Sh:Int:=bif fE x0 x1 x2 x3 x4 x5 x6 x7 x8 x9 x10 x11 x12 x13 x14 x15 then(0:Int)else Pj x0 x1 x2 x10 x11 x12 x13 x14 x15 (iB x3 x4 x5 x6 x7 x8 x9)
def Si:Int:=bif fE x0 x1 x2 x3 x4 x5 x6 x7 x8 x9 x10 x11 x12 x13 x14 x15 then(0:Int)else Pk x0 x1 x2 x10 x11 x12 x13 x14 x15 (iB x3 x4 x5 x6 x7 x8 x9)
def Sj:Int:=bif fE x0 x1 x2 x3 x4 x5 x6 x7 x8 x9 x10 x11 x12 x13 x14 x15 then(0:Int)else Pl x0 x1 x2 x10 x11 x12 x13 x14 x15 (iB x3 x4 x5 x6 x7 x8 x9)
def Sk:Int:=bif fE x0 x1 x2 x3 x4 x5 x6 x7 x8 x9 x10 x11 x12 x13 x14 x15 then(0:Int)else Option.getD (Ka x0 x1 x2 x3 x4 x5 x6 x7 x8 x9 x10 x11 x12 x13 x14 x15)[Int.toNat (0:Int)]? (0:Int)
def Sl:Int:=bif fE x0 x1 x2 x3 x4 x5 x6 x7 x8 x9 x10 x11 x12 x13 x14 x15 then Qy x0 x1 x2 x3 x4 x5 x6 x7 x8 x9 x10 x11 x12 x13 x14 x15 else(0:Int)
def Sm:List Int:=bif fE x0 x1 x2 x3 x4 x5 x6 x7 x8 x9 x10 x11 x12 x13 x14 x15 then []else Pn x0 x1 x2 x10 x11 x12 x13 x14 x15 (iB x3 x4 x5 x6 x7 x8 x9)
def Sn:List (Int×(Int×Int)):=bif fE x0 x1 x2 x3 x4 x5 x6 x7 x8 x9 x10 x11 x12 x13 x14 x15 then []else Po x0 x1 x2 x10 x11 x12 x13 x14 x15 (iB x3 x4 x5 x6 x7 x8 x9)
def So:List (List Int):=bif fE x0 x1 x2 x3 x4 x5 x6 x7 x8 x9 x10 x11 x12 x13 x14 x15 then []else Pp x0 x1 x2 x10 x11 x12 x13 x14 x15 (iB x3 x4 x5 x6 x7 x8 x9)
def Sp:List (Int×(Int×Int)):=bif fE x0 x1 x2 x3 x4 x5 x6 x7 x8 x9 x10 x11 x12 x13 x14 x15 then []else Pq x0 x1 x2 x10 x11 x12 x13 x14 x15 (iB x3 x4 x5 x6 x7 x8 x9)
def Sq:List (Int×Int):=bif fE x0 x1 x2 x3 x4 x5 x6 x7 x8 x9 x10 x11 x12 x13 x14 x15 then []else Pr x0 x1 x2 x10 x11 x12 x13 x14 x15 (iB x3 x4 x5 x6 x7 x8 x9)
def Qw:List (Int×Int):=bif fE x0 x1 x2 x3 x4 x5 x6 x7 x8 x9 x10 x11 x12 x13 x14 x15 then []else Ps x0 x1 x2 x10 x11 x12 x13 x14 x15 (iB x3 x4 x5 x6 x7 x8 x9)
def Qx:Bool:=allT [ML x0 x1 x2 x10 x11 x12 x13 x14 x15 (iB x3 x4 x5 x6 x7 x8 x9),fE x0 x1 x2 x3 x4 x5 x6 x7 x8 x9 x10 x11 x12 x13 x14 x15||leI (0:Int) (0:Int),fE x0 x1 x2 x3 x4 x5 x6 x7 x8 x9 x10 x11 x12 x13 x14 x15||ltI (0:Int) (↑(List.length (Ka x0 x1 x2 x3 x4 x5 x6 x7 x8 x9 x10 x11 x12 x13 x14 x15)):Int),fE x0 x1 x2 x3 x4 x5 x6 x7 x8 x9 x10 x11 x12 x13 x14 x15||ltN (Int.toNat (0:Int)) (List.length (Ka x0 x1 x2 x3 x4 x5 x6 x7 x8 x9 x10 x11 x12 x13 x14 x15))]
end
def af2:List SV→List Entry→Option Out
 | [.one ⟨true,[.val (.int .i64 x0),.ref 0,.ref 1,.ref 2,.ref 3,.val (.int .i64 x1),.ref 4,.ref 5,.val (.int .i64 x2)]⟩,.one ⟨true,[.val (.int .i64 x3),.val (.int .i64 x4),.val (.int .i64 x5),.val (.int .i64 x6),.val (.int .i64 x7),.val (.int .i64 x8),.val (.bool x9)]⟩],[.row false 2 (.int .i64) x10,.row false 169 (.pair (.int .i64) (.pair (.int .i64) (.int .i64))) x11,.row false 24 (.sl 2 (.int .i64)) x12,.row false 100 (.pair (.int .i64) (.pair (.int .i64) (.int .i64))) x13,.row false 173 (.pair (.int .i64) (.int .i64)) x14,.row false 176 (.pair (.int .i64) (.int .i64)) x15]=>some ⟨.tup [⟨true,[.val (.int .i64 (Sh x0 x1 x2 x3 x4 x5 x6 x7 x8 x9 x10 x11 x12 x13 x14 x15)),.ref 6,.ref 7,.ref 8,.ref 9,.val (.int .i64 (Si x0 x1 x2 x3 x4 x5 x6 x7 x8 x9 x10 x11 x12 x13 x14 x15)),.ref 10,.ref 11,.val (.int .i64 (Sj x0 x1 x2 x3 x4 x5 x6 x7 x8 x9 x10 x11 x12 x13 x14 x15))]⟩,⟨false,[.val (.int .i64 (Sk x0 x1 x2 x3 x4 x5 x6 x7 x8 x9 x10 x11 x12 x13 x14 x15))]⟩,⟨false,[.val (.int .i64 (Sl x0 x1 x2 x3 x4 x5 x6 x7 x8 x9 x10 x11 x12 x13 x14 x15))]⟩],[.row false 2 ajn x10,.row false 169 adk x11,.row false 24 (CTy.sl (2:TypeId) ajn) x12,.row false 100 adk x13,.row false 173 aiq x14,.row false 176 aiq x15],[.row true 2 ajn (Sm x0 x1 x2 x3 x4 x5 x6 x7 x8 x9 x10 x11 x12 x13 x14 x15),.row true 169 adk (Sn x0 x1 x2 x3 x4 x5 x6 x7 x8 x9 x10 x11 x12 x13 x14 x15),.tree 24 (CTy.sl (2:Nat) ajn) (So x0 x1 x2 x3 x4 x5 x6 x7 x8 x9 x10 x11 x12 x13 x14 x15) none,.row true 100 adk (Sp x0 x1 x2 x3 x4 x5 x6 x7 x8 x9 x10 x11 x12 x13 x14 x15),.row true 173 aiq (Sq x0 x1 x2 x3 x4 x5 x6 x7 x8 x9 x10 x11 x12 x13 x14 x15),.row true 176 aiq (Qw x0 x1 x2 x3 x4 x5 x6 x7 x8 x9 x10 x11 x12 x13 x14 x15)],[Qx x0 x1 x2 x3 x4 x5 x6 x7 x8 x9 x10 x11 x12 x13 x14 x15]⟩
 |_,_=>none
def apv:PF prog:=PF.ofG prog [PF.trees prog,UU,PF.lend UU,PF.fz UU] [] aO 18 f18 func18 (fun c _=>LOk.nil c) af2 (by
 intro vs es r h;unfold af2 at h;split at h
 ·cases h;kernel_rfl
 ·cases h)
section
variable (x3 x4 x5 x6 x7 x8:Int)(x9:Bool)(x10:List Int)(x12:List (List Int))
def qm:Bool:=bif x5==(0:Int)then bif x6==(0:Int)then true else false else false
def qn:Bool:=bif x7==(0:Int)then bif x8==(0:Int)then bif x9==false then true else false else false else false
def AX:Bool:=bif x3==(0:Int)then bif bif Pa x10 x4 then qm x5 x6 else false then qn x7 x8 x9 else false else bif x3==(1:Int)then bif bif Pa x10 x4 then rsB (dx (bif Pa x10 x4&&true then Option.getD x12[Int.toNat (0:Int)]? (DA (CTy.sl (2:TypeId) ajn))else [])) x5 x6 else false then qn x7 x8 x9 else false else bif x3==(2:Int)then bif bif x4==(0:Int)then qm x5 x6 else false then amL x7 x8 else false else false
def AY:Bool:=allT [!x3==(0:Int)||leN x10.length (9223372036854775807:Nat),x3==(0:Int)||(!x3==(1:Int)||leN x10.length (9223372036854775807:Nat)),x3==(0:Int)||(!x3==(1:Int)||(!(Pa x10 x4&&true)||leI (0:Int) (0:Int))),x3==(0:Int)||(!x3==(1:Int)||(!(Pa x10 x4&&true)||ltI (0:Int) (↑x12.length:Int))),x3==(0:Int)||(!x3==(1:Int)||(!(Pa x10 x4&&true)||ltN (Int.toNat (0:Int)) x12.length))]
end
abbrev LI:=List Int
abbrev L3:=List (Int×Int×Int)
abbrev L2:=List (Int×Int)
def yU(b:List Int):(List (List Int))→Nat ⊕ (List (List Int))
 |y4=>(.inr (y4++ [b]))
def tf(y1 y2 y3:Int)(y5:List Int)(y6:List (Int×(Int×Int)))(y7:List (List Int))(y8:List (Int×(Int×Int)))(y9 y10:List (Int×Int))(i:Nat):(List (List Int))→ou
 |y4=>((i:Int),y1,y2,y3,y4,y5,y6,y7,y8,y9,y10)
def Vg:ou→List (List Int)
 |(_,_,_,_,y4,_,_,_,_,_,_)=>y4
theorem aoG(y1 y2 y3:Int)(y5:List Int)(y6:List (Int×(Int×Int)))(y7:List (List Int))(y8:List (Int×(Int×Int)))(y9 y10:List (Int×Int))(y4:List (List Int))(hn:y7.length≤9223372036854775807)(hl:y7.length≤4)(hA: ∀ x∈y7,x.length≤12)(h0:y4= []):
  gH.fin ((0:Int),y1,y2,y3,y4,y5,y6,y7,y8,y9,y10)=true∧gH.res ((0:Int),y1,y2,y3,y4,y5,y6,y7,y8,y9,y10)=((aN (yU) 0 y7 0 y4).1,(tf y1 y2 y3 y5 y6 y7 y8 y9 y10) (aN (yU) 0 y7 0 y4).2.1 (aN (yU) 0 y7 0 y4).2.2):=by
 have cH:=gH.along (tf y1 y2 y3 y5 y6 y7 y8 y9 y10) Vg (yU) 0 (fun i a=>a.length≤i) y7 y4 (by subst h0;simp) (by simp only [gH,tf];omega) (fun i b a hb hI=> ?_) (fun a hI=> ?_)
 ·exact cH
 ·obtain y4:=a
  have dd:=(List.getElem?_eq_some_iff.1 hb).1
  have gc: ∀ d,Option.getD y7[i]? d=b:=fun d=>by rw [hb];rfl
  have hw:=tQ dd hn
  have bW:ltI (i:Int) (y7.length:Int)=true:=du (by omega)
  have pY:leI (0:Int) (i:Int)=true:=ct (by omega)
  have dw:ltN i y7.length=true:=ec dd
  refine⟨?_,?_,?_,?_⟩
  ·have hb2:=hA b (List.mem_of_getElem? hb)
   have h5:leN b.length 1048576=true:=bY (by omega)
   have h6:leN (a.length + 1) 9223372036854775807=true:=bY (by omega)
   have h7:leN ((a.length + 1) * 24) 140737488355328=true:=bY (by omega)
   simp [ta,EF,KV,KW,KX,KY,KZ,La,Lb,HC,gH,LT.nds,allT,tf,bW,pY,dw,Ha,gc,h5,h6,h7]
  ·simp [ta,EF,KV,KW,KX,KY,KZ,La,Lb,HC,gH,LT.each,tf,Vg,hw,Ha,gc]
  ·simp only [ta,EF,KV,KW,KX,KY,KZ,La,Lb,HC,gH,LT.fn,tf,Vg,yU,Int.toNat_natCast,bW,pY,dw,gc,cond_true,Bool.cond_self,Ha,gc]
  ·intro a' hf;simp only [yU,Sum.inr.injEq]at hf;subst hf;simp;omega
 ·obtain y4:=a
  simp [ta,EF,KV,KW,KX,KY,KZ,La,Lb,HC,gH,LT.out,tf]
def ax1(ps:LI)(fs:L3)(rs:List LI)(lf:L3)(pl ls:L2):Prop:=ps.length≤4∧1≤ps.length∧fs.length≤100∧rs.length≤4∧(∀ x∈rs,1≤x.length∧x.length≤12)∧lf.length≤100∧pl.length≤10000∧ls.length≤10000
theorem aq1(n mode day:Int){ps:LI}{fs:L3}{rs:List LI}{lf:L3}{pl ls:L2}(h:ax1 ps fs rs lf pl ls):
  mS n mode day ps fs rs lf pl ls=rs∧Sd n mode day ps fs rs lf pl ls=true:=by
 obtain⟨h1,_,h2,h3,h4,h5,h6,h7⟩:=h
 obtain⟨w1,w2⟩:=aoG n mode day ps fs rs lf pl ls [] (by omega) h3 (fun x hx=>(h4 x hx).2) rfl
 rw [jI (f:=yU) (g:=fun a b=>a++ [b]) (fun b a=>rfl),ZT (fun x=>x)]at w2
 refine⟨by simp only [mS,Wb,w2,tf,List.nil_append,List.map_id'],?_⟩
 have w3:Lp.fin gH (Wb n mode day ps fs rs lf pl ls)=true:=w1
 have e1:leN ps.length 1048576=true:=bY (by omega)
 have e2:leN (0 + fs.length) 9223372036854775807=true:=bY (by omega)
 have e3:leN ((0 + fs.length) * 24) 140737488355328=true:=bY (by omega)
 have e4:leN (0 + lf.length) 9223372036854775807=true:=bY (by omega)
 have e5:leN ((0 + lf.length) * 24) 140737488355328=true:=bY (by omega)
 have e6:leN (0 + pl.length) 9223372036854775807=true:=bY (by omega)
 have e7:leN ((0 + pl.length) * 16) 140737488355328=true:=bY (by omega)
 have e8:leN (0 + ls.length) 9223372036854775807=true:=bY (by omega)
 have e9:leN ((0 + ls.length) * 16) 140737488355328=true:=bY (by omega)
 simp only [Sd,w3,e1,e2,e3,e4,e5,e6,e7,e8,e9,allT,cond_true]
def cu(b:List Int):(List (List Int))→Nat ⊕ (List (List Int))
 |y8=>(.inr (y8++ [b]))
def bR(y2:List (List Int))(y3 y4 y5:Int)(y6:List Int)(y7 y9:List (Int×(Int×Int)))(y10 y11:List (Int×Int))(i:Nat):(List (List Int))→bm
 |y8=>((i:Int),(↑y2.length:Int),y2,y3,y4,y5,y6,y7,y8,y9,y10,y11)
def oh:bm→List (List Int)
 |(_,_,_,_,_,_,_,_,y8,_,_,_)=>y8
theorem NY(y2:List (List Int))(y3 y4 y5:Int)(y6:List Int)(y7 y9:List (Int×(Int×Int)))(y10 y11:List (Int×Int))(y8:List (List Int))(hn:y2.length≤9223372036854775807)(hl:y2.length≤4)(hA: ∀ x∈y2,1≤x.length∧x.length≤12)(h0:y8= []):
  aH.fin ((0:Int),(↑y2.length:Int),y2,y3,y4,y5,y6,y7,y8,y9,y10,y11)=true∧aH.res ((0:Int),(↑y2.length:Int),y2,y3,y4,y5,y6,y7,y8,y9,y10,y11)=((aN (cu) 0 y2 0 y8).1,(bR y2 y3 y4 y5 y6 y7 y9 y10 y11) (aN (cu) 0 y2 0 y8).2.1 (aN (cu) 0 y2 0 y8).2.2):=by
 have cH:=aH.along (bR y2 y3 y4 y5 y6 y7 y9 y10 y11) oh (cu) 0 (fun i a=>a.length≤i) y2 y8 (by subst h0;simp) (by simp only [aH,bR];omega) (fun i b a hb hI=> ?_) (fun a hI=> ?_)
 ·exact cH
 ·obtain y8:=a
  have dd:=(List.getElem?_eq_some_iff.1 hb).1
  have gc: ∀ d,Option.getD y2[i]? d=b:=fun d=>by rw [hb];rfl
  have hw:=tQ dd hn
  have bW:ltI (i:Int) (y2.length:Int)=true:=du (by omega)
  have pY:leI (0:Int) (i:Int)=true:=ct (by omega)
  have dw:ltN i y2.length=true:=ec dd
  refine⟨?_,?_,?_,?_⟩
  ·have hb2:=hA b (List.mem_of_getElem? hb)
   have h5:leN b.length 1048576=true:=bY (by omega)
   have h4:leN 1 b.length=true:=bY (by omega)
   have h6:leN (a.length + 1) 9223372036854775807=true:=bY (by omega)
   have h7:leN ((a.length + 1) * 24) 140737488355328=true:=bY (by omega)
   simp [bA,gj,gk,gm,gn,gp,gq,gr,gt,gu,fO,aH,LT.nds,allT,bR,bW,pY,dw,Ha,gc,h4,h5,h6,h7]
  ·simp [bA,gj,gk,gm,gn,gp,gq,gr,gt,gu,fO,aH,LT.each,bR,oh,hw,Ha,gc]
  ·simp only [bA,gj,gk,gm,gn,gp,gq,gr,gt,gu,fO,aH,LT.fn,bR,oh,cu,Int.toNat_natCast,bW,pY,dw,gc,cond_true,Bool.cond_self,Ha,gc]
  ·intro a' hf;simp only [cu,Sum.inr.injEq]at hf;subst hf;simp;omega
 ·obtain y8:=a
  simp [bA,gj,gk,gm,gn,gp,gq,gr,gt,gu,fO,aH,LT.out,bR]
theorem asz(n mode day:Int){ps:LI}{fs:L3}{rs:List LI}{lf:L3}{pl ls:L2}(h:ax1 ps fs rs lf pl ls):
  lI n mode day ps fs rs lf pl ls=rs∧lJ n mode day ps fs rs lf pl ls=true:=by
 obtain⟨h1,h1',h2,h3,h4,h5,h6,h7⟩:=h
 obtain⟨w1,w2⟩:=NY rs n mode day ps fs lf pl ls [] (by omega) h3 h4 rfl
 rw [jI (f:=cu) (g:=fun a b=>a++ [b]) (fun b a=>rfl),ZT (fun x=>x)]at w2
 refine⟨by simp only [lI,kJ,w2,bR,List.nil_append,List.map_id'],?_⟩
 have w3:Lp.fin aH (kJ n mode day ps fs rs lf pl ls)=true:=w1
 have e0:leN 1 ps.length=true:=bY (by omega)
 have e1:leN ps.length 1048576=true:=bY (by omega)
 have e2:leN fs.length 1048576=true:=bY (by omega)
 have e3:leN lf.length 1048576=true:=bY (by omega)
 have e4:leN pl.length 1048576=true:=bY (by omega)
 have e5:leN ls.length 1048576=true:=bY (by omega)
 simp [lJ,w3,gv,e0,e1,e2,e3,e4,e5,allT]
abbrev RX:=Int×Int×(Int×Int)×Int×Int×Bool
def aez(ps:LI)(rs:List LI)(k t rk row ck role:Int)(cH:Bool):Bool:=bif k==0 then Pa ps t&&((rk==0&&row==0)&&(ck==0&&(role==0&&cH==false)))else bif k==1 then(Pa ps t&&rsB (rowsR rs) rk row)&&(ck==0&&(role==0&&cH==false))else bif k==2 then(t==0&&(rk==0&&row==0))&&amL ck role else false
theorem awX{ls:L2}(h:okLk ls=true):ls.length≤8:=by
 simp only [okLk,Bool.and_eq_true,dT]at h;exact h.1
structure RideF (n mode day:Int) (ps:LI) (fs:L3) (rs:List LI) (lf:L3) (pl ls:L2):Prop where
 hT:isT n ps=true
 hF:okFs n fs=true
 hl:rs.length=ps.length
 hR:rsOk rs=true
 hL:lfOk (rowsR rs) lf=true
 hM:0≤mode∧mode≤5
 hP:okPl pl=true
 hK:okLk ls=true
 hD:inR day 0 100000=true
 n1:2≤n∧n≤8
 lp:1≤ps.length∧ps.length≤4
 lfs:fs.length≤8
 llf:lf.length≤8
 lpl:pl.length≤12
 lls:ls.length≤8
 hA: ∀ x∈rs,areR x=true∧(x.length:Int)=rowsR rs
theorem aqT{n mode day:Int}{ps:LI}{fs:L3}{rs:List LI}{lf:L3}{pl ls:L2}(h:kO n ps fs rs lf mode pl ls day=true):RideF n mode day ps fs rs lf pl ls:=by
 obtain⟨h1,h2,h3,h4,h5,h6,h7,h8,h9⟩:=alK.1 h
 have h1':=h1
 simp only [isT,Bool.and_eq_true,sa]at h1'
 refine⟨h1,h2,h3,h4,h5,sa.1 h6,h7,h8,h9,h1'.1.1,by omega,atL h2,awS h5,aqy h7,awX h8,fun x hx=> ?_⟩
 simp only [rsOk,List.all_eq_true,Bool.and_eq_true,beq_iff_eq]at h4
 exact h4 x hx
theorem RideF.cp{n mode day:Int}{ps:LI}{fs:L3}{rs:List LI}{lf:L3}{pl ls:L2}(h:RideF n mode day ps fs rs lf pl ls):ax1 ps fs rs lf pl ls:=by
 have:=h.lp;have:=h.lfs;have:=h.llf;have:=h.lpl;have:=h.lls;have:=h.hl
 refine⟨by omega,by omega,by omega,by omega,fun x hx=> ?_,by omega,by omega,by omega⟩
 have:=(GZ.1 (h.hA x hx).1).1
 omega
theorem RideF.rN{n mode day:Int}{ps:LI}{fs:L3}{rs:List LI}{lf:L3}{pl ls:L2}(h:RideF n mode day ps fs rs lf pl ls):rV 9223372036854775807 ps fs rs lf pl ls=true:=by
 have:=h.lp;have:=h.lfs;have:=h.llf;have:=h.lpl;have:=h.lls;have:=h.hl
 refine TO.2 ⟨by omega,by omega,⟨by omega,fun x hx=> ?_⟩,by omega,by omega,by omega⟩
 have:=(GZ.1 (h.hA x hx).1).1
 omega
theorem avU{rs:List LI}{ps:LI}(hl:rs.length=ps.length)(hp:1≤ps.length∧ps.length≤4)(t:Int):aZ t 0 (IntKind.i64.wrap ((rs.length:Int) - 1))=Pa ps t:=by
 rw [aZ,xZ,hl,aw (by omega) (by omega),Pa]
theorem at8(rs:List LI):BR rs=rowsR rs:=by
 simp only [BR,Ha];rfl
theorem aoz(n mode day k t rk row ck role:Int)(cH:Bool)(ps:LI)(fs:L3)(rs:List LI)(lf:L3)(pl ls:L2)(hN:rV 9223372036854775807 ps fs rs lf pl ls=true):
  wU n mode day k t rk row ck role cH ps fs rs lf pl ls=(kO n ps fs rs lf mode pl ls day&&aez ps rs k t rk row ck role cH)∧
  Ce n mode day k t ps fs rs lf pl ls=true:=by
 cases hO:kO n ps fs rs lf mode pl ls day with
 |false=>simp [wU,Ce,hO,hN,allT]
 |true=>
  have f:=aqT hO
  have hw:=avU f.hl f.lp t
  have n1:ltI 0 (rs.length:Int)=true:=du (by have:=f.hl;have:=f.lp;omega)
  have n2:ltN 0 rs.length=true:=ec (by have:=f.hl;have:=f.lp;omega)
  refine⟨?_,?_⟩
  ·simp only [wU,Mn,Tw,Tx,hO,hw,at8,aez,beq_self_eq_true,Bool.not_true,cond_false,cond_true,Bool.true_and]
   cases k==0 <;> cases k==1 <;> cases k==2 <;> cases Pa ps t <;> cases rk==0 <;> cases row==0 <;> cases ck==0 <;> cases role==0 <;> cases cH <;> cases t==0 <;> simp
  ·simp [Ce,BS,hO,hN,allT,n1,n2]
theorem avZ{n mode day:Int}(k t rk row ck role:Int)(cH:Bool){ps:LI}{fs:L3}{rs:List LI}{lf:L3}{pl ls:L2}(f:RideF n mode day ps fs rs lf pl ls):
  AX k t rk row ck role cH ps rs=aez ps rs k t rk row ck role cH∧AY k t ps rs=true:=by
 have n1:ltI 0 (rs.length:Int)=true:=du (by have:=f.hl;have:=f.lp;omega)
 have n2:ltN 0 rs.length=true:=ec (by have:=f.hl;have:=f.lp;omega)
 have n3:leN ps.length 9223372036854775807=true:=bY (by have:=f.lp;omega)
 refine⟨?_,?_⟩
 ·simp only [AX,qm,qn,aez,dx,Ha,Bool.and_true]
  cases hh:Pa ps t with
  |false=>cases k==0 <;> cases k==1 <;> cases k==2 <;> cases rk==0 <;> cases row==0 <;> cases ck==0 <;> cases role==0 <;> cases cH <;> cases t==0 <;> simp
  |true=>
   simp only [cond_true,Int.toNat_zero,show ((rs[0]?.getD []).length:Int)=rowsR rs from rfl]
   cases k==0 <;> cases k==1 <;> cases k==2 <;> cases rk==0 <;> cases row==0 <;> cases ck==0 <;> cases role==0 <;> cases cH <;> cases t==0 <;> simp
 ·simp [AY,allT,n1,n2,n3]
theorem aqc{n mode day:Int}(k t rk row ck role:Int)(cH:Bool){ps:LI}{fs:L3}{rs:List LI}{lf:L3}{pl ls:L2}(f:RideF n mode day ps fs rs lf pl ls):
  mv k t rk row ck role cH ps rs=aez ps rs k t rk row ck role cH∧mw k t ps rs=true:=
 avZ k t rk row ck role cH f
def DX(n t:Int)(ps:LI):Bool:=bX n t ps
theorem amV(n t:Int)(ps:LI):ac n t ps=DX n t ps:=rfl
def acu(n mode:Int)(ps:LI)(fs:L3)(rs:List LI)(lf:L3)(t:Int):Int:=bif !(Int.tmod (ps[t.toNat]?.getD 0) 3==1)then 0 else bif mode !=3 then 1 else bif !Zx n ps (xR n ps fs 0) (xR n ps fs 1) t then 2 else bif DX n t ps&& !Xm (rs[t.toNat]?.getD []) lf then 3 else 0
theorem RideF.rd{n mode day:Int}{ps:LI}{fs:L3}{rs:List LI}{lf:L3}{pl ls:L2}(f:RideF n mode day ps fs rs lf pl ls){t:Int}(ht:Pa ps t=true):
  akk (rs[t.toNat]?.getD []) lf=true∧areR (rs[t.toNat]?.getD [])=true∧((rs[t.toNat]?.getD []).length:Int)=rowsR rs:=by
 have h:=Pb.1 ht
 have dd:t.toNat < rs.length:=by have:=f.hl;omega
 rw [List.getElem?_eq_getElem dd,Option.getD_some]
 obtain⟨h1,h2⟩:=f.hA _ (List.getElem_mem dd)
 refine⟨?_,h1,h2⟩
 rw [akk,h1,h2,f.hL];rfl
theorem RideF.tn{n mode day:Int}{ps:LI}{fs:L3}{rs:List LI}{lf:L3}{pl ls:L2}(f:RideF n mode day ps fs rs lf pl ls){t:Int}(ht:Pa ps t=true):
  leI 0 t=true∧ltI t (ps.length:Int)=true∧ltN t.toNat ps.length=true∧ltI t (rs.length:Int)=true∧ltN t.toNat rs.length=true:=by
 have h:=Pb.1 ht
 have:=f.hl
 exact⟨ct h.1,du (by omega),ec (by omega),du (by omega),ec (by omega)⟩
theorem RideF.perm{n mode day:Int}{ps:LI}{fs:L3}{rs:List LI}{lf:L3}{pl ls:L2}(f:RideF n mode day ps fs rs lf pl ls){t:Int}(ht:Pa ps t=true):
  an2 n fs=true∧adC n ps (xR n ps fs 0) (xR n ps fs 1) t=true:=by
 have hF:=axu f.n1 f.hF
 exact⟨hF,by rw [adC,aeW,f.hT,ht,atf n ps fs 0 f.hT hF,atf n ps fs 1 f.hT hF];rfl⟩
theorem ava{n mode day:Int}{ps:LI}{fs:L3}{rs:List LI}{lf:L3}{pl ls:L2}(f:RideF n mode day ps fs rs lf pl ls){t:Int}(ht:Pa ps t=true):
  KU n mode t ps fs rs lf=acu n mode ps fs rs lf t∧Wa n mode t ps fs rs lf=true:=by
 obtain⟨t1,t2,t3,t4,t5⟩:=f.tn ht
 obtain⟨p1,p2⟩:=f.perm ht
 have hrd:=(f.rd ht).1
 refine⟨?_,?_⟩
 ·simp only [KU,ua,Zd,SM,Ha,acu,DX,bne]
  cases bX n t ps <;> rfl
 ·simp only [Wa,SM,Ha,sv,t1,t2,t3,t4,t5,p1,p2,hrd,f.hT,allT,Bool.or_true,Bool.and_self,cond_true]
theorem auL{n mode day:Int}{ps:LI}{fs:L3}{rs:List LI}{lf:L3}{pl ls:L2}(f:RideF n mode day ps fs rs lf pl ls){t:Int}(ht:Pa ps t=true):
  md t n mode ps fs rs lf=acu n mode ps fs rs lf t∧me t n mode ps fs rs lf=true:=by
 obtain⟨t1,t2,t3,t4,t5⟩:=f.tn ht
 obtain⟨p1,p2⟩:=f.perm ht
 have hrd:=(f.rd ht).1
 have e1:bq t ps=true:=by simp only [bq,t1,t2,t3,allT,cond_true]
 refine⟨?_,?_⟩
 ·simp only [md,ad,aC,iC,aT,Ha,acu,amV]
  cases DX n t ps <;> rfl
 ·have hm:aeW n ps t=true:=by rw [aeW,f.hT,ht];rfl
  cases hs:DX n t ps <;>
  simp only [me,ql,iC,aT,amV,hs,Ha,e1,t1,t2,t3,t4,t5,p1,p2,hrd,hm,f.hT,allT,Bool.or_true,Bool.and_self,cond_true,cond_false,Bool.not_false,Bool.not_true,Bool.false_and,Bool.true_and,Bool.true_or,Bool.false_or]
def stV(n mode day:Int)(ps:LI)(fs:L3)(rs:List LI)(lf:L3)(pl ls:L2)(k t rk row ck role:Int)(cH:Bool):Int:=bif k==0 then acu n mode ps fs rs lf t else bif k==1 then(bif !DX n t ps then 4 else bif !lG (rs[t.toNat]?.getD []) rk row then 5 else 0)else bif vdC mode ck role cH !=0 then 6 else bif ck==1&& !an9 pl ls day then 7 else 0
def stP(n mode:Int)(ps:LI)(fs:L3)(rs:List LI)(lf:L3)(k t:Int):LI:=bif k==0&&acu n mode ps fs rs lf t==0 then ahl n ps t else ps
def stR(n:Int)(ps:LI)(rs:List LI)(k t rk row:Int):List LI:=bif !(k==0)&&(k==1&&(DX n t ps&&lG (rs[t.toNat]?.getD []) rk row))then rs.set t.toNat (Ui (rs[t.toNat]?.getD []) rk row)else rs
def stM(mode day:Int)(pl ls:L2)(k ck role:Int)(cH:Bool):Int:=bif k==0||(k==1||(vdC mode ck role cH !=0||(ck==1&& !an9 pl ls day)))then mode else nxC mode ck role cH
theorem SW{ps:LI}{rs:List LI}{k t rk row ck role:Int}{cH:Bool}(h:aez ps rs k t rk row ck role cH=true):
  (k=0∧Pa ps t=true)∨(k=1∧Pa ps t=true∧rsB (rowsR rs) rk row=true)∨(k=2∧amL ck role=true):=by
 simp only [aez]at h
 cases h0:k==0 with
 |true=>rw [h0]at h;simp at h;exact .inl ⟨beq_iff_eq.1 h0,h.1⟩
 |false=>
  cases h1:k==1 with
  |true=>rw [h0,h1]at h;simp at h;exact .inr (.inl ⟨beq_iff_eq.1 h1,h.1.1,h.1.2⟩)
  |false=>
   cases h2:k==2 with
   |true=>rw [h0,h1,h2]at h;simp at h;exact .inr (.inr ⟨beq_iff_eq.1 h2,h.2⟩)
   |false=>rw [h0,h1,h2]at h;cases h
theorem aqZ{α:Type}(b:Bool)(x:α):(bif b then x else x)=x:=by cases b <;> rfl
theorem aiZ{n mode day:Int}{ps:LI}{fs:L3}{rs:List LI}{lf:L3}{pl ls:L2}(f:RideF n mode day ps fs rs lf pl ls){k t rk row ck role:Int}{cH:Bool}(h:aez ps rs k t rk row ck role cH=true):
  Qg n mode day k t rk row ck role cH ps fs rs lf pl ls=n∧Qh n mode day k t rk row ck role cH ps fs rs lf pl ls=stM mode day pl ls k ck role cH∧
  Qi n mode day k t rk row ck role cH ps fs rs lf pl ls=day∧Lq n mode day k t rk row ck role cH ps fs rs lf pl ls=stV n mode day ps fs rs lf pl ls k t rk row ck role cH∧
  Qj n mode day k t rk row ck role cH ps fs rs lf pl ls=stP n mode ps fs rs lf k t∧Qk n mode day k t rk row ck role cH ps fs rs lf pl ls=fs∧
  Ql n mode day k t rk row ck role cH ps fs rs lf pl ls=stR n ps rs k t rk row∧Qm n mode day k t rk row ck role cH ps fs rs lf pl ls=lf∧
  Qn n mode day k t rk row ck role cH ps fs rs lf pl ls=pl∧Qo n mode day k t rk row ck role cH ps fs rs lf pl ls=ls∧
  SN n mode day k t rk row ck role cH ps fs rs lf pl ls=true:=by
 obtain⟨o1,o2⟩:=aq1 n mode day f.cp
 simp only [mr,ic,kG,mt,Qg,Qh,Qi,Lq,Qj,Qk,Ql,Qm,Qn,Qo,SN,o1,o2,Ha,stM,stV,stP,stR]
 rcases SW h with⟨rfl,ht⟩ | ⟨rfl,ht,hr⟩ | ⟨rfl,hc⟩
 ·obtain⟨m1,m2⟩:=ava f ht
  have hm:aeW n ps t=true:=by rw [aeW,f.hT,ht];rfl
  simp [m1,m2,hm,allT]
 ·obtain⟨t1,t2,t3,t4,t5⟩:=f.tn ht
  obtain⟨_,r1,r2⟩:=f.rd ht
  have hrn:ann (rs[t.toNat]?.getD []) rk row=true:=by rw [ann,r1,r2,hr];rfl
  have e1:sv t ps=true:=by simp only [sv,t1,t2,t3,allT,cond_true]
  simp only [show ∀ x y,bX x y ps=DX x y ps from fun _ _=>rfl]
  cases DX n t ps <;> cases lG (rs[t.toNat]?.getD []) rk row <;> simp [t1,t2,t3,t4,t5,hrn,e1,allT]
 ·have hv:aho mode ck=true:=by
   have:=f.hM
   simp only [amL,Bool.and_eq_true]at hc
   rw [aho,hc.1,sa.2 (by omega)];rfl
  have l1:pl.length≤9223372036854775807:=by have:=f.lpl;omega
  have l2:ls.length≤9223372036854775807:=by have:=f.lls;omega
  cases vdC mode ck role cH !=0 <;> cases ck==1 <;> cases an9 pl ls day <;> simp [hv,l1,l2,allT]
theorem aw5(rs:List LI)(i:Nat)(h:i < rs.length):rs.set i (rs[i]?.getD [])=rs:=by
 rw [List.getElem?_eq_getElem h,Option.getD_some];exact List.set_getElem_self h
theorem afD{n mode day:Int}{ps:LI}{fs:L3}{rs:List LI}{lf:L3}{pl ls:L2}(f:RideF n mode day ps fs rs lf pl ls){k t rk row ck role:Int}{cH:Bool}(h:aez ps rs k t rk row ck role cH=true):
  dy k t rk row ck role cH n mode day ps fs rs lf pl ls=stV n mode day ps fs rs lf pl ls k t rk row ck role cH∧
  dA k t rk row ck role cH n mode day ps fs rs lf pl ls=n∧dB k t rk row ck role cH n mode day ps fs rs lf pl ls=stM mode day pl ls k ck role cH∧
  dC k t rk row ck role cH n mode day ps fs rs lf pl ls=day∧dD k t rk row ck role cH n mode day ps fs rs lf pl ls=stP n mode ps fs rs lf k t∧
  dE k t rk row ck role cH n mode day ps fs rs lf pl ls=fs∧dF k t rk row ck role cH n mode day ps rs pl ls=stR n ps rs k t rk row∧
  dG k t rk row ck role cH n mode day ps fs rs lf pl ls=lf∧dH k t rk row ck role cH n mode day ps fs rs lf pl ls=pl∧
  dI k t rk row ck role cH n mode day ps fs rs lf pl ls=ls∧eR k t rk row ck role cH n mode day ps fs rs lf pl ls=true:=by
 rcases SW h with⟨rfl,ht⟩ | ⟨rfl,ht,hr⟩ | ⟨rfl,hc⟩
 ·obtain⟨m1,m2⟩:=auL f ht
  refine⟨?_,?_,?_,?_,?_,?_,?_,?_,?_,?_,?_⟩
  ·simp [dy,m1,stV]
  ·simp [dA,sy,aqZ]
  ·simp [dB,sz,aqZ,stM]
  ·simp [dC,sE,aqZ]
  ·simp only [dD,sF,aC,iC,aT,ad,Ha,amV,stP,acu]
   cases hs:DX n t ps <;> cases Int.tmod (ps[t.toNat]?.getD 0) 3==1 <;> cases mode !=3 <;> cases Zx n ps (xR n ps fs 0) (xR n ps fs 1) t <;> cases hb:Xm (rs[t.toNat]?.getD []) lf <;> simp [hb]
  ·simp [dE,sG,aqZ]
  ·simp [dF,stR]
  ·simp [dG,sH,sc,aqZ]
  ·simp [dH,sI,aqZ]
  ·simp [dI,sJ,aqZ]
  ·simp [eR,m2,allT]
 ·obtain⟨t1,t2,t3,t4,t5⟩:=f.tn ht
  obtain⟨_,r1,r2⟩:=f.rd ht
  have hrn:ann (rs[t.toNat]?.getD []) rk row=true:=by rw [ann,r1,r2,hr];rfl
  have e1:bq t ps=true:=by simp only [bq,t1,t2,t3,allT,cond_true]
  have hset:=aw5 rs t.toNat (by have:=ZN.1 t5;omega)
  simp only [dy,dA,dB,dC,dD,dE,dF,dG,dH,dI,eR,aD,nY,oW,oX,oY,oZ,pa,pb,pc,pd,pe,pf,nX,Ha,amV,stM,stV,stP,stR]
  cases DX n t ps <;> cases lG (rs[t.toNat]?.getD []) rk row <;> simp [t1,t2,t3,t4,t5,hrn,e1,hset,allT]
 ·have hv:aho mode ck=true:=by
   have:=f.hM
   simp only [amL,Bool.and_eq_true]at hc
   rw [aho,hc.1,sa.2 (by omega)];rfl
  have l1:pl.length≤9223372036854775807:=by have:=f.lpl;omega
  have l2:ls.length≤9223372036854775807:=by have:=f.lls;omega
  simp only [dy,dA,dB,dC,dD,dE,dF,dG,dH,dI,eR,aQ,aS,dM,qb,qc,qd,qe,qf,qg,qh,qi,qj,qk,oV,stM,stV,stP,stR]
  cases vdC mode ck role cH !=0 <;> cases ck==1 <;> cases an9 pl ls day <;> simp [hv,l1,l2,allT]
theorem anv(st:LI)(k row:Int):(Ui st k row).length=st.length:=by
 unfold Ui;cases k==0||k==1 <;> simp
theorem ave{st:LI}{k row:Int}(h:areR st=true)(hk:(k=0∨k=1)∨k=2∨k=3):areR (Ui st k row)=true:=by
 obtain⟨h1,h2⟩:=GZ.1 h
 refine GZ.2 ⟨by rw [anv];exact h1,fun v hv=> ?_⟩
 unfold Ui at hv
 rcases hk with hk | rfl | rfl
 ·rw [show (k==0||k==1)=true from by rcases hk with rfl | rfl <;> rfl,cond_true]at hv
  rcases List.mem_or_eq_of_mem_set hv with hv | rfl
  ·exact h2 v hv
  ·omega
 ·simp at hv;omega
 ·simp at hv;omega
theorem ayf{rs:List LI}{i:Nat}{v:LI}(h:rsOk rs=true)(hv:areR v=true)(hl:(v.length:Int)=rowsR rs)(hi:i < rs.length):rowsR (rs.set i v)=rowsR rs∧rsOk (rs.set i v)=true:=by
 have h1:rowsR (rs.set i v)=rowsR rs:=by
  unfold rowsR
  rw [List.getElem?_set]
  cases i with
  |zero=>rw [if_pos rfl,if_pos hi,Option.getD_some];exact hl
  |succ i=>simp
 refine⟨h1,?_⟩
 simp only [rsOk,List.all_eq_true,Bool.and_eq_true,beq_iff_eq]at h ⊢
 intro x hx
 rw [h1]
 rcases List.mem_or_eq_of_mem_set hx with hx | rfl
 ·exact h x hx
 ·exact⟨hv,hl⟩
theorem axQ: ∀ a:Fin 10,0≤toC (a.val:Int)∧toC (a.val:Int)≤5:=by decide
theorem avf{n mode day:Int}{ps:LI}{fs:L3}{rs:List LI}{lf:L3}{pl ls:L2}(f:RideF n mode day ps fs rs lf pl ls){k t rk row ck role:Int}{cH:Bool}(h:aez ps rs k t rk row ck role cH=true):
  RideF n (stM mode day pl ls k ck role cH) day (stP n mode ps fs rs lf k t) fs (stR n ps rs k t rk row) lf pl ls∧rowsR (stR n ps rs k t rk row)=rowsR rs∧(stP n mode ps fs rs lf k t).length=ps.length:=by
 have hp:isT n (stP n mode ps fs rs lf k t)=true∧(stP n mode ps fs rs lf k t).length=ps.length:=by
  unfold stP
  cases k==0&&acu n mode ps fs rs lf t==0 with
  |true=>exact⟨axy f.hT t,ao3 n ps t⟩
  |false=>exact⟨f.hT,rfl⟩
 have hr:rsOk (stR n ps rs k t rk row)=true∧rowsR (stR n ps rs k t rk row)=rowsR rs∧(stR n ps rs k t rk row).length=rs.length:=by
  unfold stR
  cases hc: !(k==0)&&(k==1&&(DX n t ps&&lG (rs[t.toNat]?.getD []) rk row))with
  |false=>exact⟨f.hR,rfl,rfl⟩
  |true=>
   simp only [Bool.and_eq_true,beq_iff_eq]at hc
   rcases SW h with⟨rfl,_⟩ | ⟨rfl,ht,hb⟩ | ⟨rfl,_⟩
   ·simp at hc
   ·obtain⟨_,r1,r2⟩:=f.rd ht
    have hrn:ann (rs[t.toNat]?.getD []) rk row=true:=by rw [ann,r1,r2,hb];rfl
    have hk:=(aqV hrn).2.2
    have hi:t.toNat < rs.length:=ZN.1 (f.tn ht).2.2.2.2
    obtain⟨q1,q2⟩:=ayf (v:=Ui (rs[t.toNat]?.getD []) rk row) f.hR (ave r1 (by rcases hk with hk | hk;exact .inl hk.1;exact .inr hk.1)) (by rw [anv];exact r2) hi
    exact⟨q2,q1,by simp⟩
   ·have:=hc.2.1;cases this
 have hm:0≤stM mode day pl ls k ck role cH∧stM mode day pl ls k ck role cH≤5:=by
  unfold stM
  cases hc:k==0||(k==1||(vdC mode ck role cH !=0||(ck==1&& !an9 pl ls day)))with
  |true=>exact f.hM
  |false=>
   rcases SW h with⟨rfl,_⟩ | ⟨rfl,_,_⟩ | ⟨rfl,hcm⟩
   ·simp at hc
   ·simp at hc
   ·rw [cond_false,nxC]
    cases vdC mode ck role cH==0 with
    |false=>exact f.hM
    |true=>
     simp only [amL,Bool.and_eq_true,sa]at hcm
     have:=axQ ⟨ck.toNat,by omega⟩
     simp only [Int.toNat_of_nonneg hcm.1.1]at this
     exact this
 refine⟨⟨hp.1,f.hF,by rw [hr.2.2,hp.2];exact f.hl,hr.1,by rw [hr.2.1];exact f.hL,hm,f.hP,f.hK,f.hD,f.n1,by rw [hp.2];exact f.lp,f.lfs,f.llf,f.lpl,f.lls,fun x hx=> ?_⟩,hr.2.1,hp.2⟩
 have h4:=hr.1
 simp only [rsOk,List.all_eq_true,Bool.and_eq_true,beq_iff_eq]at h4
 exact h4 x hx
def Ee(y2 y3 y4:Int)(y8:List Int)(y9:List (Int×(Int×Int)))(y10:List (List Int))(y11:List (Int×(Int×Int)))(y12 y13:List (Int×Int))(b:Int×(Int×((Int×Int)×(Int×(Int×Bool))))):(Unit)→Nat ⊕ (Unit)
 |_=>(bif(!wU y2 y3 y4 b.1 (b.2.1) (b.2.2.1.1) (b.2.2.1.2) (b.2.2.2.1) (b.2.2.2.2.1) b.2.2.2.2.2 y8 y9 y10 y11 y12 y13)then(.inl 0)else(.inr ()))
def xx(y1:List (Int×(Int×((Int×Int)×(Int×(Int×Bool))))))(y2 y3 y4 y5 y6 y7:Int)(y8:List Int)(y9:List (Int×(Int×Int)))(y10:List (List Int))(y11:List (Int×(Int×Int)))(y12 y13:List (Int×Int))(y14:List Int)(y15:List (Int×(Int×Int)))(y16:List (List Int))(y17:List (Int×(Int×Int)))(y18 y19:List (Int×Int))(i:Nat):(Unit)→ov
 |_=>((i:Int),y1,y2,y3,y4,y5,y6,y7,y8,y9,y10,y11,y12,y13,y14,y15,y16,y17,y18,y19)
def Vh:ov→Unit
 |(_,_,_,_,_,_,_,_,_,_,_,_,_,_,_,_,_,_,_,_)=>()
theorem aoH(y1:List (Int×(Int×((Int×Int)×(Int×(Int×Bool))))))(y2 y3 y4 y5 y6 y7:Int)(y8:List Int)(y9:List (Int×(Int×Int)))(y10:List (List Int))(y11:List (Int×(Int×Int)))(y12 y13:List (Int×Int))(y14:List Int)(y15:List (Int×(Int×Int)))(y16:List (List Int))(y17:List (Int×(Int×Int)))(y18 y19:List (Int×Int)) (hn:y1.length≤9223372036854775807) (f:RideF y2 y3 y4 y8 y9 y10 y11 y12 y13):
  ff.fin ((0:Int),y1,y2,y3,y4,y5,y6,y7,y8,y9,y10,y11,y12,y13,y14,y15,y16,y17,y18,y19)=true∧ff.res ((0:Int),y1,y2,y3,y4,y5,y6,y7,y8,y9,y10,y11,y12,y13,y14,y15,y16,y17,y18,y19)=((aN (Ee y2 y3 y4 y8 y9 y10 y11 y12 y13) 1 y1 0 ()).1,(xx y1 y2 y3 y4 y5 y6 y7 y8 y9 y10 y11 y12 y13 y14 y15 y16 y17 y18 y19) (aN (Ee y2 y3 y4 y8 y9 y10 y11 y12 y13) 1 y1 0 ()).2.1 (aN (Ee y2 y3 y4 y8 y9 y10 y11 y12 y13) 1 y1 0 ()).2.2):=by
 have cH:=ff.along (xx y1 y2 y3 y4 y5 y6 y7 y8 y9 y10 y11 y12 y13 y14 y15 y16 y17 y18 y19) Vh (Ee y2 y3 y4 y8 y9 y10 y11 y12 y13) 1 (fun _ _=>True) y1 () (by trivial) (by simp only [ff,xx];omega) (fun i b a hb hI=> ?_) (fun a hI=> ?_)
 ·exact cH
 ·obtain⟨⟩:=a
  have dd:=(List.getElem?_eq_some_iff.1 hb).1
  have gc: ∀ d,Option.getD y1[i]? d=b:=fun d=>by rw [hb];rfl
  have hw:=tQ dd hn
  have bW:ltI (i:Int) (y1.length:Int)=true:=du (by omega)
  have pY:leI (0:Int) (i:Int)=true:=ct (by omega)
  have dw:ltN i y1.length=true:=ec dd
  refine⟨?_,?_,?_,?_⟩
  ·have e:=(aoz y2 y3 y4 b.1 b.2.1 b.2.2.1.1 b.2.2.1.2 b.2.2.2.1 b.2.2.2.2.1 b.2.2.2.2.2 y8 y9 y10 y11 y12 y13 f.rN).2
   simp [Cv,Cw,Cx,Cy,tb,Cz,EG,Ld,Le,Lf,Lg,Lh,HD,ff,LT.nds,allT,xx,bW,pY,dw,gc,e]
  ·simp [Cv,Cw,Cx,Cy,tb,Cz,EG,Ld,Le,Lf,Lg,Lh,HD,ff,LT.each,xx,Vh,hw]
  ·simp only [Cv,Cw,Cx,Cy,tb,Cz,EG,Ld,Le,Lf,Lg,Lh,HD,ff,LT.fn,xx,Vh,Ee,Int.toNat_natCast,bW,pY,dw,gc,cond_true,Bool.cond_self]
  ·exact fun _ _=>trivial
 ·obtain⟨⟩:=a
  simp [Cv,Cw,Cx,Cy,tb,Cz,EG,Ld,Le,Lf,Lg,Lh,HD,ff,LT.out,xx]
theorem aq6{A B S:Type}{f:B→A→Nat ⊕ A}{g:S→B→S}{emb:S→A}{Inv:S→Prop}{e:Nat}: ∀ {r:List B} {i:Nat} {s:S},(∀ b∈r,∀ s,Inv s→f b (emb s)= .inr (emb (g s b))∧Inv (g s b))→Inv s→
  aN f e r i (emb s)=(e,i + r.length,emb (r.foldl g s))∧Inv (r.foldl g s)
 | [],i,s,_,h=>⟨rfl,h⟩
 |b::r,i,s,hf,h=>by
  obtain⟨h1,h2⟩:=hf b (by simp) s h
  obtain⟨g1,g2⟩:=aq6 (r:=r) (i:=i + 1) (s:=g s b) (e:=e) (fun c hc=>hf c (by simp [hc])) h2
  refine⟨?_,g2⟩
  simp only [aN,h1,g1,List.foldl_cons,List.length_cons]
  rw [Nat.add_right_comm,Nat.add_assoc]
abbrev RS:=Int×LI×List LI×LI×Int
def isX(ps:LI)(rs:List LI)(x:RX):Bool:=aez ps rs x.1 x.2.1 x.2.2.1.1 x.2.2.1.2 x.2.2.2.1 x.2.2.2.2.1 x.2.2.2.2.2
def vX(n day:Int)(fs lf:L3)(pl ls:L2)(s:RS)(x:RX):Int:=stV n s.1 day s.2.1 fs s.2.2.1 lf pl ls x.1 x.2.1 x.2.2.1.1 x.2.2.1.2 x.2.2.2.1 x.2.2.2.2.1 x.2.2.2.2.2
def stX(n day:Int)(fs lf:L3)(pl ls:L2)(s:RS)(x:RX):RS:=(stM s.1 day pl ls x.1 x.2.2.2.1 x.2.2.2.2.1 x.2.2.2.2.2,stP n s.1 s.2.1 fs s.2.2.1 lf x.1 x.2.1,stR n s.2.1 s.2.2.1 x.1 x.2.1 x.2.2.1.1 x.2.2.1.2,s.2.2.2.1++ [vX n day fs lf pl ls s x],bif x.1==0&&(vX n day fs lf pl ls s x==0&&DX n x.2.1 s.2.1)then IntKind.i64.wrap (s.2.2.2.2 + 1)else s.2.2.2.2)
theorem awO{ps ps':LI}{rs rs':List LI}(h1:ps'.length=ps.length)(h2:rowsR rs'=rowsR rs)(x:RX):isX ps' rs' x=isX ps rs x:=by
 simp only [isX,aez,Pa,h1,h2]
def ajO(n day:Int)(fs lf:L3)(pl ls:L2)(ps0:LI)(rs0:List LI)(i:Nat)(s:RS):Prop:=RideF n s.1 day s.2.1 fs s.2.2.1 lf pl ls∧s.2.1.length=ps0.length∧rowsR s.2.2.1=rowsR rs0∧s.2.2.2.1.length≤i
theorem GQ{n day:Int}{fs lf:L3}{pl ls:L2}{ps0:LI}{rs0:List LI}{i:Nat}{s:RS}(hI:ajO n day fs lf pl ls ps0 rs0 i s){x:RX}(hx:isX ps0 rs0 x=true):
  isX s.2.1 s.2.2.1 x=true∧ajO n day fs lf pl ls ps0 rs0 (i + 1) (stX n day fs lf pl ls s x):=by
 obtain⟨f,h1,h2,h3⟩:=hI
 have hx':isX s.2.1 s.2.2.1 x=true:=by rw [awO h1 h2];exact hx
 obtain⟨k1,k2,k3⟩:=avf f hx'
 refine⟨hx',k1,by rw [← h1];exact k3,by rw [← h2];exact k2,?_⟩
 simp only [stX,List.length_append,List.length_cons,List.length_nil];omega
abbrev sX:=Int×List Int×Int×Int
section
variable (y0:Int)(y1:List Int)
def Ok:Bool:=bif ltI y0 (↑y1.length:Int)then ltI y0 (64:Int)else false
def acx:Bool:=leI (0:Int) y0
def acy:Bool:=ltI y0 (↑y1.length:Int)
def acz:Bool:=ltN y0.toNat y1.length
end
def acA:Bool:=neI (2147483647:Int) (0:Int)
def acB(y0:Int):Int:=IntKind.wrap .i64 (y0 + (1:Int))
def acC(y0:Int)(y1:List Int)(y3:Int):Int:=Int.tmod (IntKind.wrap .i64 (IntKind.wrap .i64 (y3 * (59:Int)) + IntKind.wrap .i64 (Option.getD y1[Int.toNat y0]? (0:Int)))) (2147483647:Int)
def ak3:sX→List (Nat×SV)
 |(y0,_,_,_)=> [(4,(.one ⟨false,[.val (.int .i64 y0)]⟩)),(0,(.one ⟨false,[.ref 0]⟩)),(3,(.one ⟨false,[.ptr 1 0]⟩))]
def akV:sX→List (Nat×Entry)
 |(_,y1,y2,y3)=> [(0,(.row false 5 aj7 y1)),(1,(.box 157 [.ref 0,.val (.int .i64 y2),.val (.int .i64 y3)]))]
def alj:Nat→sX→List (Nat×SV)
 |_,(_,_,_,_)=> []
def alb:Nat→sX→List (Nat×Entry)
 |_,(_,y1,y2,y3)=> [(0,(.row false 5 aj7 y1)),(1,(.box 157 [.ref 0,.val (.int .i64 y2),.val (.int .i64 y3)]))]
def FG:sX→LT sX
 |(y0,y1,y2,y3)=> .ite (Ok y0 y1) (.need [acx y0,acy y0 y1,acz y0 y1,acA] (.nrm ((acB y0),y1,y2,(acC y0 y1 y3)) [(0,0),(1,1)])) (.ext 0 [(0,0),(1,1)])
def Tk(s:St):Option sX:=
 (match s.look 4 with
 |some ⟨none,.one ⟨false,[.val (.int .i64 y0)]⟩⟩=>
 (match s.look 0 with
 |some ⟨none,.one ⟨false,[.ref 0]⟩⟩=>
 (match s.look 3 with
 |some ⟨none,.one ⟨false,[.ptr 320 0]⟩⟩=>
 (match s.ent 0 with
 |some (.row false 5 (.int IntKind.u8) y1)=>
 (match s.ent 320 with
 |some (.box 157 [.ref 0,.val (.int .i64 y2),.val (.int .i64 y3)])=>
 some (y0,y1,y2,y3)
 |_=>none)
 |_=>none)
 |_=>none)
 |_=>none)
 |_=>none)
def nz:Lp sX where
 h:=⟨[8,9,10,11,12,13,14,15,18,19,20,21,22,23,24,25,26,27,28,29,30,31,32,16,17,4],[0,1],[],[]⟩
 JL:=ak3
 JE:=akV
 XL:=alj
 XE:=alb
 q:=fun j=>match j with | _=> .exit 0
 tags:= [0]
 lt:=FG
 fuel:=fun(y0,y1,y2,y3)=>y0.natAbs + y1.length + y2.natAbs + y3.natAbs
 fix:=fun(_,y1,y2,_) (y0,_,_,y3)=>(y0,y1,y2,y3)
 σ:= [(0,0),(1,320)]
 rd:=Tk
theorem aiA:LoopOk prog (fun k=>Nat.blt k Tryz.f50.ntmps) nz.F (aK f50 0):=by
 refine Lp.ok (tbl:= []) (lf:= []) aO nz (by kernel_rfl) (LOk.nil _) (fun _=>rfl) (fun _ _=>rfl) ?_ ?_ ?_ ?_ (fun _=>rfl) ?_
 ·rintro⟨y0,y1,y2,y3⟩;kernel_rfl
 ·rintro⟨y0,y1,y2,y3⟩;kernel_rfl
 ·intro s x h
  have h:Tk s=some x:=h
  unfold Tk at h
  repeat' split at h
  all_goals cases h
  exact⟨aa (by assumption) rfl (aa (by assumption) rfl (aa (by assumption) rfl (rfl))),ab rfl (by assumption) rfl (ab rfl (by assumption) rfl (rfl))⟩
 ·rintro⟨y0,y1,y2,y3⟩;kernel_rfl
 ·rintro⟨y0,y1,y2,y3⟩ z;exact(And.intro rfl trivial)
section
variable (x0:List Int)
def MW:Int×List Int×Int×Int:=((0:Int),x0,(0:Int),(52021:Int))
def PM:Int:=(Lp.res nz (MW x0)).2.2.2.2
def VA:Bool:=allT [Lp.fin nz (MW x0)]
end
def aht:List SV→List Entry→Option Out
 | [.one ⟨false,[.ref 0]⟩],[.row false 5 (.int .u8) x0]=>some ⟨.one ⟨false,[.ptr 1 0]⟩,[.row false 5 aj7 x0],[.box 157 [.ref 0,.val (.int .i64 (0:Int)),.val (.int .i64 (PM x0))]],[VA x0]⟩
 |_,_=>none
def aqE:PF prog:=PF.ofG prog [] [nz.F] aO 50 f50 func50 (LOk.fnT (l:= [aK f50 0]) (by kernel_rfl) (.cons aiA (.nil _))) aht (by
 intro vs es r h;unfold aht at h;split at h
 ·cases h;kernel_rfl
 ·cases h)
section
variable (x0 x1 x2:Int)(x3:List Int)
def GS:Int:=IntKind.wrap .i64 (x1 + (1:Int))
def MX:Bool:=bif leI x0 (256:Int)then Int.tmod (GS x1) (2:Int)==(0:Int)else false
def GU:Int:=IntKind.wrap .i64 (GS x1 - (1:Int))
def xS:Int:=Int.tmod (IntKind.wrap .i64 (IntKind.wrap .i64 (x2 * (48271:Int)) + (29:Int))) (2147483647:Int)
def jW:Int:=bif leI x0 (1:Int)then(0:Int)else Int.tmod (bif ltI x1 (↑x3.length:Int)then bif MX x0 x1 then IntKind.wrap .i64 (Option.getD x3[Int.toNat (GU x1)]? (0:Int))else IntKind.wrap .i64 (IntKind.wrap .i64 (Int.tdiv (xS x2) (31:Int)) + IntKind.wrap .i64 (Option.getD x3[Int.toNat x1]? (0:Int)))else IntKind.wrap .i64 (Int.tdiv (xS x2) (31:Int))) x0
def FQ:Int:=bif leI x0 (1:Int)then x1 else bif ltI x1 (↑x3.length:Int)then GS x1 else x1
def FR:Int:=bif leI x0 (1:Int)then x2 else bif ltI x1 (↑x3.length:Int)then xS x2 else xS x2
def FS:Bool:=allT [leI x0 (1:Int)||neI (2147483647:Int) (0:Int),leI x0 (1:Int)||neI (31:Int) (0:Int),leI x0 (1:Int)||(!ltI x1 (↑x3.length:Int)||leI (0:Int) x1),leI x0 (1:Int)||(!ltI x1 (↑x3.length:Int)||ltI x1 (↑x3.length:Int)),leI x0 (1:Int)||(!ltI x1 (↑x3.length:Int)||ltN x1.toNat x3.length),leI x0 (1:Int)||(!ltI x1 (↑x3.length:Int)||(!(leI x0 (256:Int)&&true)||neI (2:Int) (0:Int))),leI x0 (1:Int)||(!ltI x1 (↑x3.length:Int)||(!MX x0 x1||leI (0:Int) (GU x1))),leI x0 (1:Int)||(!ltI x1 (↑x3.length:Int)||(!MX x0 x1||ltI (GU x1) (↑x3.length:Int))),leI x0 (1:Int)||(!ltI x1 (↑x3.length:Int)||(!MX x0 x1||ltN (Int.toNat (GU x1)) x3.length)),leI x0 (1:Int)||neI x0 (0:Int)]
end
def ahu:List SV→List Entry→Option Out
 | [.one ⟨false,[.ptr 0 0]⟩,.one ⟨false,[.val (.int .i64 x0)]⟩],[.box 157 [.ref 1,.val (.int .i64 x1),.val (.int .i64 x2)],.row false 5 (.int .u8) x3]=>some ⟨.one ⟨false,[.val (.int .i64 (jW x0 x1 x2 x3))]⟩,[.box 157 [.ref 1,.val (.int .i64 (FQ x0 x1 x3)),.val (.int .i64 (FR x0 x1 x2 x3))],.row false 5 aj7 x3],[],[FS x0 x1 x3]⟩
 |_,_=>none
def UZ:PF prog:=PF.ofG prog [] [] aO 52 f52 func52 (fun c _=>LOk.nil c) ahu (by
 intro vs es r h;unfold ahu at h;split at h
 ·cases h;kernel_rfl
 ·cases h)
section
variable (x0 x1:Int)(x2 x3:List Int)
def VB:Int:=Option.getD x2[Int.toNat (jW (↑x2.length:Int) x0 x1 x3)]? (0:Int)
def abk:Int:=FQ (↑x2.length:Int) x0 x3
def abl:Int:=FR (↑x2.length:Int) x0 x1 x3
def VC:Bool:=allT [FS (↑x2.length:Int) x0 x3,leI (0:Int) (jW (↑x2.length:Int) x0 x1 x3),ltI (jW (↑x2.length:Int) x0 x1 x3) (↑x2.length:Int),ltN (Int.toNat (jW (↑x2.length:Int) x0 x1 x3)) x2.length]
end
def ahv:List SV→List Entry→Option Out
 | [.one ⟨false,[.ptr 0 0]⟩,.one ⟨false,[.ref 1]⟩],[.box 157 [.ref 2,.val (.int .i64 x0),.val (.int .i64 x1)],.row false 2 (.int .i64) x2,.row false 5 (.int .u8) x3]=>some ⟨.one ⟨false,[.val (.int .i64 (VB x0 x1 x2 x3))]⟩,[.box 157 [.ref 2,.val (.int .i64 (abk x0 x2 x3)),.val (.int .i64 (abl x0 x1 x2 x3))],.row false 2 ajn x2,.row false 5 aj7 x3],[],[VC x0 x1 x2 x3]⟩
 |_,_=>none
def aqF:PF prog:=PF.ofG prog [UZ,PF.lend UZ,PF.fz UZ] [] aO 67 f67 func67 (fun c _=>LOk.nil c) ahv (by
 intro vs es r h;unfold ahv at h;split at h
 ·cases h;kernel_rfl
 ·cases h)
def aB(a s:Int)(c:List Int):Bool:=(leI 0 a&&leI a 4096)&&((leI 0 s&&ltI s 2147483647)&&(leN c.length 4096&&c.all fun x=>inR x 0 255))
theorem ajv{a s:Int}{c:List Int}:aB a s c=true↔(0≤a∧a≤4096)∧(0≤s∧s < 2147483647)∧c.length≤4096∧ ∀ x∈c,0≤x∧x≤255:=by
 simp only [aB,Bool.and_eq_true,Sx,Xz,dT,List.all_eq_true,sa]
theorem afc{x n:Int}(h:0≤x)(hn:0 < n):0≤Int.tmod x n∧Int.tmod x n < n:=by
 rw [Int.tmod_eq_emod_of_nonneg h]
 exact⟨Int.emod_nonneg _ (by omega),Int.emod_lt_of_pos _ hn⟩
theorem awu{code:List Int}(hb: ∀ x∈code,0≤x∧x≤255)(i:Nat):0≤(code[i]?.getD 0)∧(code[i]?.getD 0)≤255:=by
 cases h:code[i]? with
 |none=>simp
 |some x=>exact hb x (List.mem_of_getElem? h)
def nxV(n a s:Int)(c:List Int):Int:=jW n a s c
def nxA(n a:Int)(c:List Int):Int:=FQ n a c
def nxS(n a s:Int)(c:List Int):Int:=FR n a s c
theorem am9(n:Int){a s:Int}{code:List Int}(h:aB a s code=true):
  FS n a code=true∧aB (nxA n a code) (nxS n a s code) code=true∧0≤nxV n a s code∧(1≤n→nxV n a s code < n):=by
 obtain⟨⟨h0,h1⟩,⟨s0,s1⟩,hn,hb⟩:=ajv.1 h
 have hw1:IntKind.i64.wrap (s * 48271)=s * 48271:=aw (by omega) (by omega)
 have hw2:IntKind.i64.wrap (s * 48271 + 29)=s * 48271 + 29:=aw (by omega) (by omega)
 have hw3:IntKind.i64.wrap (a + 1)=a + 1:=aw (by omega) (by omega)
 have hw4:IntKind.i64.wrap (a + 1 - 1)=a:=by rw [aw (by omega) (by omega)];omega
 obtain⟨t0,t1⟩:=afc (x:=s * 48271 + 29) (n:=2147483647) (by omega) (by omega)
 have hd0:0≤Int.tdiv (Int.tmod (s * 48271 + 29) 2147483647) 31:=Int.tdiv_nonneg t0 (by omega)
 have hd1:Int.tdiv (Int.tmod (s * 48271 + 29) 2147483647) 31≤2147483647:=by
  rw [Int.tdiv_eq_ediv_of_nonneg t0];omega
 have hw7:IntKind.i64.wrap (Int.tdiv (Int.tmod (s * 48271 + 29) 2147483647) 31)=Int.tdiv (Int.tmod (s * 48271 + 29) 2147483647) 31:=aw (by omega) (by omega)
 have q1:neI 2147483647 0=true:=by decide
 have q2:neI 31 0=true:=by decide
 have q3:neI 2 0=true:=by decide
 simp only [nxA,nxS,nxV]
 by_cases hq:n≤1
 ·have d:leI n 1=true:=ct hq
  refine⟨by simp [FS,allT,d],?_,by simp [jW,d],fun h=>by simp [jW,d];omega⟩
  simp only [FQ,FR,d,cond_true]
  exact h
 ·have d:leI n 1=false:=ayr (by omega)
  have q4:neI n 0=true:=ao5 (by omega)
  by_cases hl:a < (code.length:Int)
  ·have dl:ltI a (code.length:Int)=true:=du hl
   obtain⟨c0,c1⟩:=awu hb a.toNat
   have hw5:IntKind.i64.wrap (code[a.toNat]?.getD 0)=code[a.toNat]?.getD 0:=aw (by omega) (by omega)
   have hw6:IntKind.i64.wrap (Int.tdiv (Int.tmod (s * 48271 + 29) 2147483647) 31 + code[a.toNat]?.getD 0)=Int.tdiv (Int.tmod (s * 48271 + 29) 2147483647) 31 + code[a.toNat]?.getD 0:=aw (by omega) (by omega)
   have dn:ltN a.toNat code.length=true:=ec (by omega)
   have dz:leI 0 a=true:=ct h0
   have hwa:IntKind.i64.wrap a=a:=aw (by omega) (by omega)
   refine⟨?_,?_,?_⟩
   ·simp [FS,GS,GU,allT,d,dl,dn,hw3,hw4,hwa,dz,q1,q2,q3,q4]
   ·simp only [FQ,FR,GS,xS,d,dl,cond_true,cond_false,hw1,hw2,hw3]
    exact ajv.2 ⟨⟨by omega,by omega⟩,⟨t0,t1⟩,hn,hb⟩
   ·simp only [jW,MX,GU,GS,xS,d,dl,cond_true,cond_false,hw1,hw2,hw3,hw4,hw5,hw7,hw6]
    cases (bif leI n 256 then Int.tmod (a + 1) 2==0 else false)with
    |true=>
     obtain⟨m0,m1⟩:=afc (x:=code[a.toNat]?.getD 0) (n:=n) c0 (by omega)
     exact⟨m0,fun _=>m1⟩
    |false=>
     obtain⟨m0,m1⟩:=afc (x:=Int.tdiv (Int.tmod (s * 48271 + 29) 2147483647) 31 + code[a.toNat]?.getD 0) (n:=n) (by omega) (by omega)
     exact⟨m0,fun _=>m1⟩
  ·have dl:ltI a (code.length:Int)=false:=akN (by omega)
   refine⟨?_,?_,?_⟩
   ·simp [FS,allT,d,dl,q1,q2,q4]
   ·simp only [FQ,FR,xS,d,dl,cond_false,hw1,hw2]
    exact ajv.2 ⟨⟨h0,h1⟩,⟨t0,t1⟩,hn,hb⟩
   ·simp only [jW,xS,d,dl,cond_false,hw1,hw2,hw7]
    obtain⟨m0,m1⟩:=afc (x:=Int.tdiv (Int.tmod (s * 48271 + 29) 2147483647) 31) (n:=n) hd0 (by omega)
    exact⟨m0,fun _=>m1⟩
theorem apq(x0 x1 x2:Int)(x3:List Int)(h:aB x1 x2 x3=true):jW x0 x1 x2 x3=nxV x0 x1 x2 x3∧FQ x0 x1 x3=nxA x0 x1 x3∧FR x0 x1 x2 x3=nxS x0 x1 x2 x3∧FS x0 x1 x3=true:=⟨rfl,rfl,rfl,(am9 x0 h).1⟩
def ahZ:List SV→List Entry→Option Out
 | [.one ⟨false,[.ptr 0 0]⟩,.one ⟨false,[.val (.int .i64 x0)]⟩],[.box 157 [.ref 1,.val (.int .i64 x1),.val (.int .i64 x2)],.row false 5 (.int .u8) x3]=>some ⟨.one ⟨false,[.val (.int .i64 (nxV x0 x1 x2 x3))]⟩,[.box 157 [.ref 1,.val (.int .i64 (nxA x0 x1 x3)),.val (.int .i64 (nxS x0 x1 x2 x3))],.row false 5 aj7 x3],[],[aB x1 x2 x3]⟩
 |_,_=>none
def ae:PF prog:=PF.alt UZ ahZ (by
 intro args es o h bz;unfold ahZ at h;split at h
 ·rename_i x0 x1 x2 x3
  cases h
  have bz:=fM bz
  have hh:=apq x0 x1 x2 x3 bz
  obtain⟨e0,e1,e2,en⟩:=hh
  exact jK rfl (fj en) (by simp only [e0] <;> rfl) (by simp only [e1,e2] <;> rfl) rfl
 ·cases h)
def pkV(a s:Int)(l c:List Int):Int:=VB a s l c
def pkA(a:Int)(l c:List Int):Int:=abk a l c
def pkS(a s:Int)(l c:List Int):Int:=abl a s l c
theorem avG{a s:Int}{l code:List Int}(h:(aB a s code&&leN 1 l.length)=true):
  VC a s l code=true∧aB (pkA a l code) (pkS a s l code) code=true∧pkV a s l code∈l:=by
 simp only [Bool.and_eq_true,dT]at h
 obtain⟨n3,n1,n0,nl⟩:=am9 (l.length:Int) h.1
 have nl:=nl (by omega)
 simp only [nxV]at n0 nl
 refine⟨?_,n1,?_⟩
 ·have t1:leI 0 (jW (l.length:Int) a s code)=true:=ct n0
  have t2:ltI (jW (l.length:Int) a s code) (l.length:Int)=true:=du nl
  have t3:ltN (jW (l.length:Int) a s code).toNat l.length=true:=ec (by omega)
  simp only [VC,allT,n3,t1,t2,t3,cond_true]
 ·have dd:(jW (l.length:Int) a s code).toNat < l.length:=by omega
  simp only [pkV,VB,List.getElem?_eq_getElem dd,Option.getD_some]
  exact List.getElem_mem dd
theorem apr(x0 x1:Int)(x2 x3:List Int)(h:(aB x0 x1 x3&&leN 1 x2.length)=true):VB x0 x1 x2 x3=pkV x0 x1 x2 x3∧abk x0 x2 x3=pkA x0 x2 x3∧abl x0 x1 x2 x3=pkS x0 x1 x2 x3∧VC x0 x1 x2 x3=true:=⟨rfl,rfl,rfl,(avG h).1⟩
def ah0:List SV→List Entry→Option Out
 | [.one ⟨false,[.ptr 0 0]⟩,.one ⟨false,[.ref 1]⟩],[.box 157 [.ref 2,.val (.int .i64 x0),.val (.int .i64 x1)],.row false 2 (.int .i64) x2,.row false 5 (.int .u8) x3]=>some ⟨.one ⟨false,[.val (.int .i64 (pkV x0 x1 x2 x3))]⟩,[.box 157 [.ref 2,.val (.int .i64 (pkA x0 x2 x3)),.val (.int .i64 (pkS x0 x1 x2 x3))],.row false 2 ajn x2,.row false 5 aj7 x3],[],[aB x0 x1 x3&&leN 1 x2.length]⟩
 |_,_=>none
def ar:PF prog:=PF.alt aqF ah0 (by
 intro args es o h bz;unfold ah0 at h;split at h
 ·rename_i x0 x1 x2 x3
  cases h
  have bz:=fM bz
  have hh:=apr x0 x1 x2 x3 bz
  obtain⟨e0,e1,e2,en⟩:=hh
  exact jK rfl (fj en) (by simp only [e0] <;> rfl) (by simp only [e1,e2] <;> rfl) rfl
 ·cases h)
def avS(b:Int)(a:Nat×Int):Nat ⊕ (Nat×Int):=bif decide (a.1 < 64)then .inr (a.1 + 1,Int.tmod (a.2 * 59 + b) 2147483647)else .inl 0
def frS(c:List Int):Int:=PM c
theorem avv(code:List Int)(h:aB 0 0 code=true):VA code=true∧aB 0 (frS code) code=true:=by
 obtain⟨_,_,hn,hb⟩:=ajv.1 h
 have cH:=aow (lt:=FG) (fun i (a:Nat×Int)=>((i:Int),code,(0:Int),a.2)) avS 0 (fun i a=>a.1=i∧0≤a.2∧a.2 < 2147483647) code (fun i b a he hI=>⟨?_,fun a' hf=> ?_⟩) (fun a hI=> ?_) code 0 (0,52021) rfl (by simp) (by decide)
 ·have hres:=nz.run cH (auP (by simp only [nz];omega))
  have r1:nz.fin ((0:Int),code,(0:Int),(52021:Int))=true:=hres.1
  have r2:nz.res ((0:Int),code,(0:Int),(52021:Int))=_:=hres.2
  have inv: ∀ (r:List Int) (i:Nat) (a:Nat×Int),(∀ x∈r,0≤x∧x≤255)→0≤a.2∧a.2 < 2147483647→0≤(aN avS 0 r i a).2.2.2∧(aN avS 0 r i a).2.2.2 < 2147483647:=by
   intro r
   induction r with
   |nil=>intro i a _ h;exact h
   |cons b r ih=>
    intro i a hx h
    simp only [aN,avS]
    cases decide (a.1 < 64)with
    |false=>exact h
    |true=>
     have hb:=hx b (by simp)
     exact ih _ _ (fun x hm=>hx x (by simp [hm])) (afc (by omega) (by omega))
  obtain⟨q0,q1⟩:=inv code 0 (0,52021) hb (by decide)
  refine⟨by simp [VA,MW,allT,r1],ajv.2 ⟨by decide,⟨?_,?_⟩,hn,hb⟩⟩
  ·simp only [frS,PM,MW,r2];exact q0
  ·simp only [frS,PM,MW,r2];exact q1
 ·obtain⟨dd,he⟩:=List.getElem?_eq_some_iff.1 he
  subst he
  obtain⟨h1,h2,h3⟩:=hI
  have hw:=tQ dd (by omega)
  obtain⟨c0,c1⟩:=hb code[i] (List.getElem_mem dd)
  have hw1:IntKind.i64.wrap (a.2 * 59)=a.2 * 59:=aw (by omega) (by omega)
  have hw2:IntKind.i64.wrap code[i]=code[i]:=aw (by omega) (by omega)
  have hw3:IntKind.i64.wrap (a.2 * 59 + code[i])=a.2 * 59 + code[i]:=aw (by omega) (by omega)
  have q1:neI 2147483647 0=true:=by decide
  have q2:ltI (i:Int) (code.length:Int)=true:=du (by omega)
  have q3:leI 0 (i:Int)=true:=ct (by omega)
  have q4:ltN i code.length=true:=ec dd
  simp only [avS,h1]
  by_cases h64:i < 64
  ·have d:decide (i < 64)=true:=decide_eq_true h64
   have d':ltI (i:Int) 64=true:=du (by omega)
   simp [FG,LT.out,allT,Ok,acx,acy,acz,acA,acB,acC,dd,hw,d,d',hw1,hw2,hw3,q1,q2,q3,q4]
  ·have d:decide (i < 64)=false:=decide_eq_false h64
   have d':ltI (i:Int) 64=false:=akN (by omega)
   simp [FG,LT.out,Ok,d,d']
 ·simp only [avS]at hf
  obtain⟨h1,h2,h3⟩:=hI
  obtain⟨c0,c1⟩:=hb b (List.mem_of_getElem? he)
  cases hd:decide (a.1 < 64)with
  |false=>rw [hd]at hf;cases hf
  |true=>
   rw [hd]at hf
   simp only [cond_true,Sum.inr.injEq]at hf
   subst hf
   obtain⟨m0,m1⟩:=afc (x:=a.2 * 59 + b) (n:=2147483647) (by omega) (by omega)
   exact⟨by simp [h1],m0,m1⟩
 ·simp [FG,LT.out,Ok]
theorem app(x0:List Int)(h:aB 0 0 x0=true):PM x0=frS x0∧VA x0=true:=⟨rfl,(avv x0 h).1⟩
def ahY:List SV→List Entry→Option Out
 | [.one ⟨false,[.ref 0]⟩],[.row false 5 (.int .u8) x0]=>some ⟨.one ⟨false,[.ptr 1 0]⟩,[.row false 5 aj7 x0],[.box 157 [.ref 0,.val (.int .i64 (0:Int)),.val (.int .i64 (frS x0))]],[aB 0 0 x0]⟩
 |_,_=>none
def Kk:PF prog:=PF.alt aqE ahY (by
 intro args es o h bz;unfold ahY at h;split at h
 ·rename_i x0
  cases h
  have bz:=fM bz
  have hh:=app x0 bz
  obtain⟨e0,en⟩:=hh
  exact jK rfl (fj en) rfl rfl (by simp only [e0] <;> rfl)
 ·cases h)
abbrev sY:=Int×Int×Int×Int×Int×List Int×List Int
section
variable (y0 y1 y2 y3 y4:Int)(y5 y6:List Int)
def abp:Int:=pkV y3 y4 [(0:Int),(1:Int),(1:Int),(2:Int)] y6
def FY:List Int:= [IntKind.wrap .i64 (IntKind.wrap .i64 ((3:Int) * Int.tmod y1 y2) + abp y3 y4 y6)]
def FZ:Int:=pkA y3 [(0:Int),(1:Int),(1:Int),(2:Int)] y6
def Mp:Int:=pkS y3 y4 [(0:Int),(1:Int),(1:Int),(2:Int)] y6
def VE:Bool:=ltI (0:Int) y0
def acD:Bool:=aB y3 y4 y6&&leN (1:Nat) (List.length [(0:Int),(1:Int),(1:Int),(2:Int)])
def acE:Bool:=neI y2 (0:Int)
def acF:Bool:=leN (List.length y5 + List.length (FY y1 y2 y3 y4 y6)) (9223372036854775807:Nat)
def acG:Bool:=leN ((List.length y5 + List.length (FY y1 y2 y3 y4 y6)) * (8:Nat)) (140737488355328:Nat)
end
def VF:Bool:=neI (2:Int) (0:Int)
section
variable (y0 y1 y2 y3 y4:Int)(y5 y6:List Int)
def acH:Bool:=aB (FZ y3 y6) (Mp y3 y4 y6) y6
def acI:Int:=IntKind.wrap .i64 (y0 - (1:Int))
def anu:Int:=IntKind.wrap .i64 (IntKind.wrap .i64 (IntKind.wrap .i64 (y1 + (1:Int)) + IntKind.wrap .i64 (Int.tdiv (abp y3 y4 y6) (2:Int))) + IntKind.wrap .i64 (Int.tdiv (nxV (3:Int) (FZ y3 y6) (Mp y3 y4 y6) y6) (2:Int)))
def acJ:Int:=nxA (3:Int) (FZ y3 y6) y6
def abn:Int:=nxS (3:Int) (FZ y3 y6) (Mp y3 y4 y6) y6
def abo:List Int:=y5++FY y1 y2 y3 y4 y6
end
def ak4:sY→List (Nat×SV)
 |(y0,y1,y2,_,_,_,_)=> [(6,(.one ⟨false,[.val (.int .i64 y0)]⟩)),(0,(.one ⟨false,[.ptr 0 0]⟩)),(4,(.one ⟨false,[.ref 1]⟩)),(5,(.one ⟨false,[.val (.int .i64 y1)]⟩)),(3,(.one ⟨false,[.val (.int .i64 y2)]⟩))]
def akW:sY→List (Nat×Entry)
 |(_,_,_,y3,y4,y5,y6)=> [(0,(.box 157 [.ref 2,.val (.int .i64 y3),.val (.int .i64 y4)])),(2,(.row false 5 aj7 y6)),(1,(.row true 2 ajn y5))]
def alk:Nat→sY→List (Nat×SV)
 |_,(_,_,_,_,_,_,_)=> [(4,(.one ⟨false,[.ref 1]⟩))]
def alc:Nat→sY→List (Nat×Entry)
 |_,(_,_,_,y3,y4,y5,y6)=> [(0,(.box 157 [.ref 2,.val (.int .i64 y3),.val (.int .i64 y4)])),(1,(.row true 2 ajn y5)),(2,(.row false 5 aj7 y6))]
def Tb:sY→LT sY
 |(y0,y1,y2,y3,y4,y5,y6)=> .ite (VE y0) (.need [acD y3 y4 y6] (.need [acE y2,acF y1 y2 y3 y4 y5 y6,acG y1 y2 y3 y4 y5 y6] (.need [VF,acH y3 y4 y6,VF] (.nrm ((acI y0),anu y1 y3 y4 y6,y2,acJ y3 y6,abn y3 y4 y6,abo y1 y2 y3 y4 y5 y6,y6) [(0,0),(1,960),(2,2)])))) (.ext 0 [(0,0),(1,1),(2,2)])
def Tl(s:St):Option sY:=
 (match s.look 6 with
 |some ⟨none,.one ⟨false,[.val (.int .i64 y0)]⟩⟩=>
 (match s.look 0 with
 |some ⟨none,.one ⟨false,[.ptr 0 0]⟩⟩=>
 (match s.look 4 with
 |some ⟨none,.one ⟨false,[.ref 512]⟩⟩=>
 (match s.look 5 with
 |some ⟨none,.one ⟨false,[.val (.int .i64 y1)]⟩⟩=>
 (match s.look 3 with
 |some ⟨none,.one ⟨false,[.val (.int .i64 y2)]⟩⟩=>
 (match s.ent 0 with
 |some (.box 157 [.ref 1,.val (.int .i64 y3),.val (.int .i64 y4)])=>
 (match s.ent 1 with
 |some (.row false 5 (.int IntKind.u8) y6)=>
 (match s.ent 512 with
 |some (.row true 2 (.int .i64) y5)=>
 some (y0,y1,y2,y3,y4,y5,y6)
 |_=>none)
 |_=>none)
 |_=>none)
 |_=>none)
 |_=>none)
 |_=>none)
 |_=>none)
 |_=>none)
def iS:Lp sY where
 h:=⟨[20,21,24,25,26,7,27,28,29,30,31,32,33,34,35,4,36,37,38,39,40,41,42,43,44,5,22,23,6],[0,2],[1],[]⟩
 JL:=ak4
 JE:=akW
 XL:=alk
 XE:=alc
 q:=fun j=>match j with | _=> .exit 0
 tags:= [0]
 lt:=Tb
 fuel:=fun(y0,y1,y2,y3,y4,y5,y6)=>y0.natAbs + y1.natAbs + y2.natAbs + y3.natAbs + y4.natAbs + y5.length + y6.length
 fix:=fun(_,_,y2,_,_,_,y6) (y0,y1,_,y3,y4,y5,_)=>(y0,y1,y2,y3,y4,y5,y6)
 σ:= [(0,0),(2,1),(1,512)]
 rd:=Tl
theorem aiB:LoopOk prog (fun k=>Nat.blt k Tryz.f137.ntmps) iS.F (aK f137 0):=by
 refine Lp.ok (tbl:= [ae,PF.lend ae,PF.fz ae,ar,PF.lend ar,PF.fz ar]) (lf:= []) aO iS (by kernel_rfl) (LOk.nil _) (fun _=>rfl) (fun _ _=>rfl) ?_ ?_ ?_ ?_ (fun _=>rfl) ?_
 ·rintro⟨y0,y1,y2,y3,y4,y5,y6⟩;kernel_rfl
 ·rintro⟨y0,y1,y2,y3,y4,y5,y6⟩;kernel_rfl
 ·intro s x h
  have h:Tl s=some x:=h
  unfold Tl at h
  repeat' split at h
  all_goals cases h
  exact⟨aa (by assumption) rfl (aa (by assumption) rfl (aa (by assumption) rfl (aa (by assumption) rfl (aa (by assumption) rfl (rfl))))),ab rfl (by assumption) rfl (ab rfl (by assumption) rfl (ab rfl (by assumption) rfl (rfl)))⟩
 ·rintro⟨y0,y1,y2,y3,y4,y5,y6⟩;kernel_rfl
 ·rintro⟨y0,y1,y2,y3,y4,y5,y6⟩ z;exact(And.intro rfl trivial)
section
variable (x0 x1:Int)(x2:List Int)
def cj:Int:=IntKind.wrap .i64 ((2:Int) + nxV (5:Int) x0 x1 x2)
def jU:Int:=an1 (cj x0 x1 x2) (4:Int) (cj x0 x1 x2) (4:Int)
def mq:Int:=nxA (cj x0 x1 x2) (nxA (5:Int) x0 x2) x2
def rR:Int:=nxS (cj x0 x1 x2) (nxA (5:Int) x0 x2) (nxS (5:Int) x0 x1 x2) x2
def GV:Int×Int×Int×Int×Int×List Int×List Int:=(IntKind.wrap .i64 ((1:Int) + nxV (jU x0 x1 x2) (mq x0 x1 x2) (rR x0 x1 x2) x2),nxV (cj x0 x1 x2) (nxA (5:Int) x0 x2) (nxS (5:Int) x0 x1 x2) x2,cj x0 x1 x2,nxA (jU x0 x1 x2) (mq x0 x1 x2) x2,nxS (jU x0 x1 x2) (mq x0 x1 x2) (rR x0 x1 x2) x2,[],x2)
def MY:Int×Int×List Int×List Int:=(Lp.res iS (GV x0 x1 x2)).2.2.2.2
def cm:Int:=(MY x0 x1 x2).1
def xT:Int×List Int×List Int:=(MY x0 x1 x2).2
def SD:Int:=nxV (40:Int) (cm x0 x1 x2) ((xT x0 x1 x2).1) x2
def ia:Bool:=SD x0 x1 x2==(0:Int)
def jJ:Int:=nxS (40:Int) (cm x0 x1 x2) ((xT x0 x1 x2).1) x2
def gM:Bool:=SD x0 x1 x2==(1:Int)
def mE:Bool:=SD x0 x1 x2==(2:Int)
def Es:Bool:=SD x0 x1 x2==(3:Int)
def ae9:Int:=IntKind.wrap .i64 ((3:Int) * cj x0 x1 x2)
def Et:List Int:= [(-1:Int),IntKind.wrap .i64 (ae9 x0 x1 x2 - (1:Int)),ae9 x0 x1 x2]
def mF:List Int:=((xT x0 x1 x2).2).1
def kE:Int:=IntKind.wrap .i64 ((4:Int) + nxV (2:Int) (nxA (40:Int) (cm x0 x1 x2) x2) (jJ x0 x1 x2) x2)
def QM:Bool:=aB (nxA (40:Int) (cm x0 x1 x2) x2) (jJ x0 x1 x2) x2
def jX:Int:=bif ia x0 x1 x2 then pkV (nxA (40:Int) (cm x0 x1 x2) x2) (jJ x0 x1 x2) [(1:Int),(8:Int),(9:Int)] x2 else bif gM x0 x1 x2 then cj x0 x1 x2 else bif mE x0 x1 x2 then cj x0 x1 x2 else bif Es x0 x1 x2 then cj x0 x1 x2 else cj x0 x1 x2
def mD:Int:=bif ia x0 x1 x2 then pkA (nxA (40:Int) (cm x0 x1 x2) x2) [(1:Int),(8:Int),(9:Int)] x2 else bif gM x0 x1 x2 then pkA (nxA (40:Int) (cm x0 x1 x2) x2) (Et x0 x1 x2) x2 else bif mE x0 x1 x2 then nxA (2:Int) (nxA (40:Int) (cm x0 x1 x2) x2) x2 else bif Es x0 x1 x2 then nxA (40:Int) (cm x0 x1 x2) x2 else nxA (40:Int) (cm x0 x1 x2) x2
def Bi:Int:=bif ia x0 x1 x2 then pkS (nxA (40:Int) (cm x0 x1 x2) x2) (jJ x0 x1 x2) [(1:Int),(8:Int),(9:Int)] x2 else bif gM x0 x1 x2 then pkS (nxA (40:Int) (cm x0 x1 x2) x2) (jJ x0 x1 x2) (Et x0 x1 x2) x2 else bif mE x0 x1 x2 then nxS (2:Int) (nxA (40:Int) (cm x0 x1 x2) x2) (jJ x0 x1 x2) x2 else bif Es x0 x1 x2 then jJ x0 x1 x2 else jJ x0 x1 x2
def ro:List Int:=bif ia x0 x1 x2 then mF x0 x1 x2 else bif gM x0 x1 x2 then List.set (mF x0 x1 x2) (Int.toNat (0:Int)) (pkV (nxA (40:Int) (cm x0 x1 x2) x2) (jJ x0 x1 x2) (Et x0 x1 x2) x2)else bif mE x0 x1 x2 then List.replicate (Int.toNat (kE x0 x1 x2)) (0:Int)else bif Es x0 x1 x2 then []else mF x0 x1 x2
def abm:Bool:=allT [aB x0 x1 x2,aB (nxA (5:Int) x0 x2) (nxS (5:Int) x0 x1 x2) x2,aB (mq x0 x1 x2) (rR x0 x1 x2) x2,Lp.fin iS (GV x0 x1 x2),aB (cm x0 x1 x2) ((xT x0 x1 x2).1) x2,!ia x0 x1 x2||QM x0 x1 x2&&leN (1:Nat) (List.length [(1:Int),(8:Int),(9:Int)]),ia x0 x1 x2||(!gM x0 x1 x2||QM x0 x1 x2&&leN (1:Nat) (List.length (Et x0 x1 x2))),ia x0 x1 x2||(!gM x0 x1 x2||leI (0:Int) (0:Int)),ia x0 x1 x2||(!gM x0 x1 x2||ltI (0:Int) (↑(List.length (mF x0 x1 x2)):Int)),ia x0 x1 x2||(!gM x0 x1 x2||ltN (Int.toNat (0:Int)) (List.length (mF x0 x1 x2))),ia x0 x1 x2||(gM x0 x1 x2||(!mE x0 x1 x2||QM x0 x1 x2)),ia x0 x1 x2||(gM x0 x1 x2||(!mE x0 x1 x2||leI (0:Int) (kE x0 x1 x2))),ia x0 x1 x2||(gM x0 x1 x2||(!mE x0 x1 x2||leI (kE x0 x1 x2) (kE x0 x1 x2))),ia x0 x1 x2||(gM x0 x1 x2||(!mE x0 x1 x2||leI ((↑(8:Nat):Int) * kE x0 x1 x2) (281474976710656:Int))),ia x0 x1 x2||(gM x0 x1 x2||(!mE x0 x1 x2||leI (kE x0 x1 x2) (9223372036854775807:Int)))]
end
def ahw:List SV→List Entry→Option Out
 | [.one ⟨false,[.ptr 0 0]⟩],[.box 157 [.ref 1,.val (.int .i64 x0),.val (.int .i64 x1)],.row false 5 (.int .u8) x2]=>some ⟨.one ⟨true,[.val (.int .i64 (jX x0 x1 x2)),.ref 2]⟩,[.box 157 [.ref 1,.val (.int .i64 (mD x0 x1 x2)),.val (.int .i64 (Bi x0 x1 x2))],.row false 5 aj7 x2],[.row true 2 ajn (ro x0 x1 x2)],[abm x0 x1 x2]⟩
 |_,_=>none
def aqG:PF prog:=PF.ofG prog [ae,PF.lend ae,PF.fz ae,ar,PF.lend ar,PF.fz ar] [iS.F] aO 137 f137 func137 (LOk.fnT (l:= [aK f137 0]) (by kernel_rfl) (.cons aiB (.nil _))) ahw (by
 intro vs es r h;unfold ahw at h;split at h
 ·cases h;kernel_rfl
 ·cases h)
abbrev kk:=Int×Int×Int×Int×List (Int×(Int×Int))×List Int
section
variable (y0 y1 y2 y3:Int)(y4:List (Int×(Int×Int)))(y5:List Int)
def dS:Bool:=nxV (6:Int) y2 y3 y5==(0:Int)
def Ja:Bool:=aB (nxA (6:Int) y2 y5) (nxS (6:Int) y2 y3 y5) y5
def tK:Int:=nxA (2:Int) (nxA (6:Int) y2 y5) y5
def zQ:Int:=nxS (2:Int) (nxA (6:Int) y2 y5) (nxS (6:Int) y2 y3 y5) y5
def tL:List (Int×Int×Int):= [(y0,nxV (2:Int) (nxA (6:Int) y2 y5) (nxS (6:Int) y2 y3 y5) y5,nxV (2:Int) (tK y2 y5) (zQ y2 y3 y5) y5)]
def ly:Bool:=nxV (6:Int) y2 y3 y5==(1:Int)
def oC:Bool:=nxV (4:Int) (nxA (6:Int) y2 y5) (nxS (6:Int) y2 y3 y5) y5==(0:Int)
def oD:Int:=nxA (4:Int) (nxA (6:Int) y2 y5) y5
def tM:Int:=nxS (4:Int) (nxA (6:Int) y2 y5) (nxS (6:Int) y2 y3 y5) y5
def tN:List (Int×Int×Int):= [(y0,(0:Int),(0:Int)),(y0,(1:Int),IntKind.wrap .i64 (Int.tdiv (nxV (3:Int) (oD y2 y5) (tM y2 y3 y5) y5) (2:Int)))]
def KL:Bool:=bif ltI y0 y1 then ltI y0 (7:Int)else false
def TU:Bool:=aB y2 y3 y5
def TV:Bool:= !dS y2 y3 y5||Ja y2 y3 y5
def TW:Bool:= !dS y2 y3 y5||aB (tK y2 y5) (zQ y2 y3 y5) y5
def TX:Bool:= !dS y2 y3 y5||leN (List.length y4 + List.length (tL y0 y2 y3 y5)) (9223372036854775807:Nat)
def TY:Bool:= !dS y2 y3 y5||leN ((List.length y4 + List.length (tL y0 y2 y3 y5)) * (24:Nat)) (140737488355328:Nat)
def TZ:Bool:=dS y2 y3 y5||(!ly y2 y3 y5||Ja y2 y3 y5)
def Ua:Bool:=dS y2 y3 y5||(!ly y2 y3 y5||(!oC y2 y3 y5||aB (oD y2 y5) (tM y2 y3 y5) y5))
def Ub:Bool:=dS y2 y3 y5||(!ly y2 y3 y5||(!oC y2 y3 y5||neI (2:Int) (0:Int)))
def Uc:Bool:=dS y2 y3 y5||(!ly y2 y3 y5||(!oC y2 y3 y5||leN (List.length y4 + List.length (tN y0 y2 y3 y5)) (9223372036854775807:Nat)))
def RM:Bool:=dS y2 y3 y5||(!ly y2 y3 y5||(!oC y2 y3 y5||leN ((List.length y4 + List.length (tN y0 y2 y3 y5)) * (24:Nat)) (140737488355328:Nat)))
def RN:Bool:=dS y2 y3 y5
def tJ:Int:=IntKind.wrap .i64 (y0 + (1:Int))
def RO:Int:=nxA (2:Int) (tK y2 y5) y5
def RP:Int:=nxS (2:Int) (tK y2 y5) (zQ y2 y3 y5) y5
def RQ:List (Int×(Int×Int)):=y4++tL y0 y2 y3 y5
def RR:Bool:=ly y2 y3 y5
def RT:Bool:=oC y2 y3 y5
def RU:Int:=nxA (3:Int) (oD y2 y5) y5
def RW:Int:=nxS (3:Int) (oD y2 y5) (tM y2 y3 y5) y5
def RY:List (Int×(Int×Int)):=y4++tN y0 y2 y3 y5
def RZ:Int:=oD y2 y5
def Sa:Int:=tM y2 y3 y5
def Sb:Int:=nxA (6:Int) y2 y5
def Sc:Int:=nxS (6:Int) y2 y3 y5
end
def acZ:kk→List (Nat×SV)
 |(y0,y1,_,_,_,_)=> [(6,(.one ⟨false,[.val (.int .i64 y0)]⟩)),(1,(.one ⟨false,[.val (.int .i64 y1)]⟩)),(0,(.one ⟨false,[.ptr 0 0]⟩)),(5,(.one ⟨false,[.ref 1]⟩))]
def acR:kk→List (Nat×Entry)
 |(_,_,y2,y3,y4,y5)=> [(0,(.box 157 [.ref 2,.val (.int .i64 y2),.val (.int .i64 y3)])),(2,(.row false 5 aj7 y5)),(1,(.row true 169 adk y4))]
def adg:Nat→kk→List (Nat×SV)
 |_,(_,_,_,_,_,_)=> [(5,(.one ⟨false,[.ref 1]⟩))]
def ac7:Nat→kk→List (Nat×Entry)
 |_,(_,_,y2,y3,y4,y5)=> [(0,(.box 157 [.ref 2,.val (.int .i64 y2),.val (.int .i64 y3)])),(1,(.row true 169 adk y4)),(2,(.row false 5 aj7 y5))]
def zM:kk→LT kk
 |(y0,y1,y2,y3,y4,y5)=> .ite (KL y0 y1) (.need [TU y2 y3 y5] (.need [TV y2 y3 y5,TW y2 y3 y5,TX y0 y2 y3 y4 y5,TY y0 y2 y3 y4 y5,TZ y2 y3 y5,Ua y2 y3 y5,Ub y2 y3 y5,Uc y0 y2 y3 y4 y5,RM y0 y2 y3 y4 y5] (.ite (RN y2 y3 y5) (.nrm ((tJ y0),y1,RO y2 y5,RP y2 y3 y5,RQ y0 y2 y3 y4 y5,y5) [(0,0),(1,1280),(2,2)]) (.ite (RR y2 y3 y5) (.ite (RT y2 y3 y5) (.nrm ((tJ y0),y1,RU y2 y5,RW y2 y3 y5,RY y0 y2 y3 y4 y5,y5) [(0,0),(1,1664),(2,2)]) (.nrm ((tJ y0),y1,RZ y2 y5,Sa y2 y3 y5,y4,y5) [(0,0),(1,1),(2,2)])) (.nrm ((tJ y0),y1,Sb y2 y5,Sc y2 y3 y5,y4,y5) [(0,0),(1,1),(2,2)]))))) (.ext 0 [(0,0),(1,1),(2,2)])
def IP(s:St):Option kk:=
 (match s.look 6 with
 |some ⟨none,.one ⟨false,[.val (.int .i64 y0)]⟩⟩=>
 (match s.look 1 with
 |some ⟨none,.one ⟨false,[.val (.int .i64 y1)]⟩⟩=>
 (match s.look 0 with
 |some ⟨none,.one ⟨false,[.ptr 0 0]⟩⟩=>
 (match s.look 5 with
 |some ⟨none,.one ⟨false,[.ref 256]⟩⟩=>
 (match s.ent 0 with
 |some (.box 157 [.ref 1,.val (.int .i64 y2),.val (.int .i64 y3)])=>
 (match s.ent 1 with
 |some (.row false 5 (.int IntKind.u8) y5)=>
 (match s.ent 256 with
 |some (.row true 169 (.pair (.int .i64) (.pair (.int .i64) (.int .i64))) y4)=>
 some (y0,y1,y2,y3,y4,y5)
 |_=>none)
 |_=>none)
 |_=>none)
 |_=>none)
 |_=>none)
 |_=>none)
 |_=>none)
def cn:Lp kk where
 h:=⟨[9,10,11,12,13,14,15,18,19,21,20,22,23,24,25,26,27,28,29,30,5,32,31,33,34,35,36,37,38,39,40,41,42,43,44,45,16,17,6],[0,2],[1],[]⟩
 JL:=acZ
 JE:=acR
 XL:=adg
 XE:=ac7
 q:=fun j=>match j with | _=> .exit 0
 tags:= [0]
 lt:=zM
 fuel:=fun(y0,y1,y2,y3,y4,y5)=>y0.natAbs + y1.natAbs + y2.natAbs + y3.natAbs + y4.length + y5.length
 fix:=fun(_,y1,_,_,_,y5) (y0,_,y2,y3,y4,_)=>(y0,y1,y2,y3,y4,y5)
 σ:= [(0,0),(2,1),(1,256)]
 rd:=IP
theorem aaL:LoopOk prog (fun k=>Nat.blt k Tryz.f138.ntmps) cn.F (aK f138 0):=by
 refine Lp.ok (tbl:= [ae,PF.lend ae,PF.fz ae,ar,PF.lend ar,PF.fz ar]) (lf:= []) aO cn (by kernel_rfl) (LOk.nil _) (fun _=>rfl) (fun _ _=>rfl) ?_ ?_ ?_ ?_ (fun _=>rfl) ?_
 ·rintro⟨y0,y1,y2,y3,y4,y5⟩;kernel_rfl
 ·rintro⟨y0,y1,y2,y3,y4,y5⟩;kernel_rfl
 ·intro s x h
  have h:IP s=some x:=h
  unfold IP at h
  repeat' split at h
  all_goals cases h
  exact⟨aa (by assumption) rfl (aa (by assumption) rfl (aa (by assumption) rfl (aa (by assumption) rfl (rfl)))),ab rfl (by assumption) rfl (ab rfl (by assumption) rfl (ab rfl (by assumption) rfl (rfl)))⟩
 ·rintro⟨y0,y1,y2,y3,y4,y5⟩;kernel_rfl
 ·rintro⟨y0,y1,y2,y3,y4,y5⟩ z;exact(And.intro (And.intro rfl (And.intro (And.intro rfl rfl) rfl)) trivial)
abbrev km:=Int×Int×Int×List (Int×(Int×Int))×List Int
section
variable (y0 y1 y2:Int)(y4:List Int)
def tO:List (Int×Int×Int):= [(IntKind.wrap .i64 (Int.tdiv y0 (2:Int)),Int.tmod y0 (2:Int),(1:Int))]
def Cf:Bool:=aB y1 y2 y4
def Cg:Bool:=ltI y0 (IntKind.wrap .i64 ((8:Int) + nxV (2:Int) y1 y2 y4))
end
def KM:Bool:=neI (2:Int) (0:Int)
section
variable (y0 y1 y2:Int)(y3:List (Int×(Int×Int)))(y4:List Int)
def Ud:Bool:=leN (List.length y3 + List.length (tO y0)) (9223372036854775807:Nat)
def Ue:Bool:=leN ((List.length y3 + List.length (tO y0)) * (24:Nat)) (140737488355328:Nat)
def Uf:Int:=IntKind.wrap .i64 (y0 + (1:Int))
def Ch:Int:=nxA (2:Int) y1 y4
def Ci:Int:=nxS (2:Int) y1 y2 y4
def Ug:List (Int×(Int×Int)):=y3++tO y0
end
def ac0:km→List (Nat×SV)
 |(y0,_,_,_,_)=> [(7,(.one ⟨false,[.val (.int .i64 y0)]⟩)),(0,(.one ⟨false,[.ptr 0 0]⟩)),(5,(.one ⟨false,[.ref 1]⟩))]
def acS:km→List (Nat×Entry)
 |(_,y1,y2,y3,y4)=> [(0,(.box 157 [.ref 2,.val (.int .i64 y1),.val (.int .i64 y2)])),(2,(.row false 5 aj7 y4)),(1,(.row true 169 adk y3))]
def adh:Nat→km→List (Nat×SV)
 |_,(_,_,_,_,_)=> [(5,(.one ⟨false,[.ref 1]⟩))]
def ac8:Nat→km→List (Nat×Entry)
 |_,(_,y1,y2,y3,y4)=> [(0,(.box 157 [.ref 2,.val (.int .i64 (Ch y1 y4)),.val (.int .i64 (Ci y1 y2 y4))])),(1,(.row true 169 adk y3)),(2,(.row false 5 aj7 y4))]
def zN:km→LT km
 |(y0,y1,y2,y3,y4)=> .need [Cf y1 y2 y4] (.ite (Cg y0 y1 y2 y4) (.need [KM,KM,Ud y0 y3,Ue y0 y3] (.nrm ((Uf y0),Ch y1 y4,Ci y1 y2 y4,Ug y0 y3,y4) [(0,0),(1,832),(2,2)])) (.ext 0 [(0,0),(1,1),(2,2)]))
def IQ(s:St):Option km:=
 (match s.look 7 with
 |some ⟨none,.one ⟨false,[.val (.int .i64 y0)]⟩⟩=>
 (match s.look 0 with
 |some ⟨none,.one ⟨false,[.ptr 0 0]⟩⟩=>
 (match s.look 5 with
 |some ⟨none,.one ⟨false,[.ref 896]⟩⟩=>
 (match s.ent 0 with
 |some (.box 157 [.ref 1,.val (.int .i64 y1),.val (.int .i64 y2)])=>
 (match s.ent 1 with
 |some (.row false 5 (.int IntKind.u8) y4)=>
 (match s.ent 896 with
 |some (.row true 169 (.pair (.int .i64) (.pair (.int .i64) (.int .i64))) y3)=>
 some (y0,y1,y2,y3,y4)
 |_=>none)
 |_=>none)
 |_=>none)
 |_=>none)
 |_=>none)
 |_=>none)
def cq:Lp km where
 h:=⟨[66,67,68,69,70,73,74,75,76,77,78,79,80,5,71,72,7],[0,2],[1],[]⟩
 JL:=ac0
 JE:=acS
 XL:=adh
 XE:=ac8
 q:=fun j=>match j with | _=> .exit 4
 tags:= [0]
 lt:=zN
 fuel:=fun(y0,y1,y2,y3,y4)=>y0.natAbs + y1.natAbs + y2.natAbs + y3.length + y4.length
 fix:=fun(_,_,_,_,y4) (y0,y1,y2,y3,_)=>(y0,y1,y2,y3,y4)
 σ:= [(0,0),(2,1),(1,896)]
 rd:=IQ
theorem aaM:LoopOk prog (fun k=>Nat.blt k Tryz.f138.ntmps) cq.F (aK f138 1):=by
 refine Lp.ok (tbl:= [ae,PF.lend ae,PF.fz ae,ar,PF.lend ar,PF.fz ar]) (lf:= []) aO cq (by kernel_rfl) (LOk.nil _) (fun _=>rfl) (fun _ _=>rfl) ?_ ?_ ?_ ?_ (fun _=>rfl) ?_
 ·rintro⟨y0,y1,y2,y3,y4⟩;kernel_rfl
 ·rintro⟨y0,y1,y2,y3,y4⟩;kernel_rfl
 ·intro s x h
  have h:IQ s=some x:=h
  unfold IQ at h
  repeat' split at h
  all_goals cases h
  exact⟨aa (by assumption) rfl (aa (by assumption) rfl (aa (by assumption) rfl (rfl))),ab rfl (by assumption) rfl (ab rfl (by assumption) rfl (ab rfl (by assumption) rfl (rfl)))⟩
 ·rintro⟨y0,y1,y2,y3,y4⟩;kernel_rfl
 ·rintro⟨y0,y1,y2,y3,y4⟩ z;exact(And.intro rfl trivial)
section
variable (x0 x1 x2:Int)(x3:List Int)
def Wv:List (Int×Int×Int)×List Int:=([],x3)
def Gy:Int×Int×Int×Int×List (Int×Int×Int)×List Int:=((0:Int),x0,x1,x2,Wv x3)
def yP:Int×Int×List (Int×Int×Int)×List Int:=(Lp.res cn (Gy x0 x1 x2 x3)).2.2.2
def dP:Int:=(yP x0 x1 x2 x3).1
def Gz:Int×List (Int×Int×Int)×List Int:=(yP x0 x1 x2 x3).2
def tv:Int:=(Gz x0 x1 x2 x3).1
def Ww:Int:=nxV (40:Int) (dP x0 x1 x2 x3) (tv x0 x1 x2 x3) x3
def gB:Bool:=Ww x0 x1 x2 x3==(0:Int)
def yQ:List Int:= [(-1:Int),(0:Int),x0]
def yR:Int:=pkA (nxA (40:Int) (dP x0 x1 x2 x3) x3) (yQ x0) x3
def wV:Int:=pkA (yR x0 x1 x2 x3) [(0:Int),(1:Int),(2:Int)] x3
def sm:Bool:=Ww x0 x1 x2 x3==(1:Int)
def sn:Int:=nxS (40:Int) (dP x0 x1 x2 x3) (tv x0 x1 x2 x3) x3
def DE:Int×Int×Int×List (Int×Int×Int)×List Int:=((0:Int),nxA (40:Int) (dP x0 x1 x2 x3) x3,sn x0 x1 x2 x3,Wv x3)
def wW:Int×Int×List (Int×Int×Int)×List Int:=(Lp.res cq (DE x0 x1 x2 x3)).2.2
def DF:Int:=(wW x0 x1 x2 x3).1
def DG:Int:=pkS (nxA (40:Int) (dP x0 x1 x2 x3) x3) (sn x0 x1 x2 x3) (yQ x0) x3
def DH:Int:=pkS (yR x0 x1 x2 x3) (DG x0 x1 x2 x3) [(0:Int),(1:Int),(2:Int)] x3
def sq:Int×List (Int×Int×Int)×List Int:=(wW x0 x1 x2 x3).2
def kP:List (Int×Int×Int):=((Gz x0 x1 x2 x3).2).1
def sr:List (Int×Int×Int):= [(pkV (nxA (40:Int) (dP x0 x1 x2 x3) x3) (sn x0 x1 x2 x3) (yQ x0) x3,pkV (yR x0 x1 x2 x3) (DG x0 x1 x2 x3) [(0:Int),(1:Int),(2:Int)] x3,nxV (3:Int) (wV x0 x1 x2 x3) (DH x0 x1 x2 x3) x3)]
def Bv:Int:=bif gB x0 x1 x2 x3 then nxA (3:Int) (wV x0 x1 x2 x3) x3 else bif sm x0 x1 x2 x3 then Ch (DF x0 x1 x2 x3) x3 else nxA (40:Int) (dP x0 x1 x2 x3) x3
def Bw:Int:=bif gB x0 x1 x2 x3 then nxS (3:Int) (wV x0 x1 x2 x3) (DH x0 x1 x2 x3) x3 else bif sm x0 x1 x2 x3 then Ci (DF x0 x1 x2 x3) ((sq x0 x1 x2 x3).1) x3 else sn x0 x1 x2 x3
def Bx:List (Int×(Int×Int)):=bif gB x0 x1 x2 x3 then kP x0 x1 x2 x3++sr x0 x1 x2 x3 else bif sm x0 x1 x2 x3 then ((sq x0 x1 x2 x3).2).1else kP x0 x1 x2 x3
def PN:Bool:=allT [Lp.fin cn (Gy x0 x1 x2 x3),aB (dP x0 x1 x2 x3) (tv x0 x1 x2 x3) x3,!gB x0 x1 x2 x3||aB (nxA (40:Int) (dP x0 x1 x2 x3) x3) (sn x0 x1 x2 x3) x3&&leN (1:Nat) (List.length (yQ x0)),!gB x0 x1 x2 x3||aB (yR x0 x1 x2 x3) (DG x0 x1 x2 x3) x3&&leN (1:Nat) (List.length [(0:Int),(1:Int),(2:Int)]),!gB x0 x1 x2 x3||aB (wV x0 x1 x2 x3) (DH x0 x1 x2 x3) x3,!gB x0 x1 x2 x3||leN (List.length (kP x0 x1 x2 x3) + List.length (sr x0 x1 x2 x3)) (9223372036854775807:Nat),!gB x0 x1 x2 x3||leN ((List.length (kP x0 x1 x2 x3) + List.length (sr x0 x1 x2 x3)) * (24:Nat)) (140737488355328:Nat),gB x0 x1 x2 x3||(!sm x0 x1 x2 x3||Lp.fin cq (DE x0 x1 x2 x3))]
end
def XQ:List SV→List Entry→Option Out
 | [.one ⟨false,[.ptr 0 0]⟩,.one ⟨false,[.val (.int .i64 x0)]⟩],[.box 157 [.ref 1,.val (.int .i64 x1),.val (.int .i64 x2)],.row false 5 (.int .u8) x3]=>some ⟨.one ⟨false,[.ref 2]⟩,[.box 157 [.ref 1,.val (.int .i64 (Bv x0 x1 x2 x3)),.val (.int .i64 (Bw x0 x1 x2 x3))],.row false 5 aj7 x3],[.row true 169 adk (Bx x0 x1 x2 x3)],[PN x0 x1 x2 x3]⟩
 |_,_=>none
def aiS:PF prog:=PF.ofG prog [ae,PF.lend ae,PF.fz ae,ar,PF.lend ar,PF.fz ar] [cn.F,cq.F] aO 138 f138 func138 (LOk.fnT (l:= [aK f138 0,aK f138 1]) (by kernel_rfl) (.cons aaL (.cons aaM (.nil _)))) XQ (by
 intro vs es r h;unfold XQ at h;split at h
 ·cases h;kernel_rfl
 ·cases h)
abbrev iz:=Int×Int×Int×Int×List (Int×(Int×Int))×List Int
section
variable (y0 y1 y2 y3:Int)(y4:List (Int×(Int×Int)))(y5:List Int)
def cQ:Bool:=nxV (6:Int) y2 y3 y5==(0:Int)
def tP:Bool:=aB (nxA (6:Int) y2 y5) (nxS (6:Int) y2 y3 y5) y5
def lA:Int:=nxA (2:Int) (nxA (6:Int) y2 y5) y5
def oE:Int:=nxS (2:Int) (nxA (6:Int) y2 y5) (nxS (6:Int) y2 y3 y5) y5
def oF:List (Int×Int×Int):= [(y0,nxV (2:Int) (nxA (6:Int) y2 y5) (nxS (6:Int) y2 y3 y5) y5,nxV (2:Int) (lA y2 y5) (oE y2 y3 y5) y5)]
def jD:Bool:=nxV (6:Int) y2 y3 y5==(1:Int)
def lB:Bool:=bif nxV (4:Int) (nxA (6:Int) y2 y5) (nxS (6:Int) y2 y3 y5) y5==(0:Int)then ltI (↑y4.length:Int) (6:Int)else false
def jE:Int:=nxA (4:Int) (nxA (6:Int) y2 y5) y5
def lC:Int:=nxS (4:Int) (nxA (6:Int) y2 y5) (nxS (6:Int) y2 y3 y5) y5
def oG:List (Int×Int×Int):= [(y0,(0:Int),(1:Int)),(y0,(1:Int),nxV (2:Int) (jE y2 y5) (lC y2 y3 y5) y5)]
def Cj:Bool:=bif ltI y0 y1 then ltI y0 (7:Int)else false
def Ck:Bool:=aB y2 y3 y5
def Cl:Bool:= !cQ y2 y3 y5||tP y2 y3 y5
def Cm:Bool:= !cQ y2 y3 y5||aB (lA y2 y5) (oE y2 y3 y5) y5
def Cn:Bool:= !cQ y2 y3 y5||leN (List.length y4 + List.length (oF y0 y2 y3 y5)) (9223372036854775807:Nat)
def Co:Bool:= !cQ y2 y3 y5||leN ((List.length y4 + List.length (oF y0 y2 y3 y5)) * (24:Nat)) (140737488355328:Nat)
def Cp:Bool:=cQ y2 y3 y5||(!jD y2 y3 y5||tP y2 y3 y5)
def Cq:Bool:=cQ y2 y3 y5||(!jD y2 y3 y5||(!lB y2 y3 y4 y5||aB (jE y2 y5) (lC y2 y3 y5) y5))
def Cr:Bool:=cQ y2 y3 y5||(!jD y2 y3 y5||(!lB y2 y3 y4 y5||leN (List.length y4 + List.length (oG y0 y2 y3 y5)) (9223372036854775807:Nat)))
def Cs:Bool:=cQ y2 y3 y5||(!jD y2 y3 y5||(!lB y2 y3 y4 y5||leN ((List.length y4 + List.length (oG y0 y2 y3 y5)) * (24:Nat)) (140737488355328:Nat)))
def zR:Bool:=cQ y2 y3 y5
def lz:Int:=IntKind.wrap .i64 (y0 + (1:Int))
def zS:Int:=nxA (2:Int) (lA y2 y5) y5
def zT:Int:=nxS (2:Int) (lA y2 y5) (oE y2 y3 y5) y5
def zU:List (Int×(Int×Int)):=y4++oF y0 y2 y3 y5
def zV:Bool:=jD y2 y3 y5
def zW:Bool:=lB y2 y3 y4 y5
def zX:Int:=nxA (2:Int) (jE y2 y5) y5
def zY:Int:=nxS (2:Int) (jE y2 y5) (lC y2 y3 y5) y5
def zZ:List (Int×(Int×Int)):=y4++oG y0 y2 y3 y5
def Aa:Int:=jE y2 y5
def Ab:Int:=lC y2 y3 y5
def Ac:Int:=nxA (6:Int) y2 y5
def Ad:Int:=nxS (6:Int) y2 y3 y5
end
def ac1:iz→List (Nat×SV)
 |(y0,y1,_,_,_,_)=> [(6,(.one ⟨false,[.val (.int .i64 y0)]⟩)),(1,(.one ⟨false,[.val (.int .i64 y1)]⟩)),(0,(.one ⟨false,[.ptr 0 0]⟩)),(5,(.one ⟨false,[.ref 1]⟩))]
def acT:iz→List (Nat×Entry)
 |(_,_,y2,y3,y4,y5)=> [(0,(.box 157 [.ref 2,.val (.int .i64 y2),.val (.int .i64 y3)])),(2,(.row false 5 aj7 y5)),(1,(.row true 100 adk y4))]
def adi:Nat→iz→List (Nat×SV)
 |_,(_,_,_,_,_,_)=> [(5,(.one ⟨false,[.ref 1]⟩))]
def ac9:Nat→iz→List (Nat×Entry)
 |_,(_,_,y2,y3,y4,y5)=> [(0,(.box 157 [.ref 2,.val (.int .i64 y2),.val (.int .i64 y3)])),(1,(.row true 100 adk y4)),(2,(.row false 5 aj7 y5))]
def IE:iz→LT iz
 |(y0,y1,y2,y3,y4,y5)=> .ite (Cj y0 y1) (.need [Ck y2 y3 y5] (.need [Cl y2 y3 y5,Cm y2 y3 y5,Cn y0 y2 y3 y4 y5,Co y0 y2 y3 y4 y5,Cp y2 y3 y5,Cq y2 y3 y4 y5,Cr y0 y2 y3 y4 y5,Cs y0 y2 y3 y4 y5] (.ite (zR y2 y3 y5) (.nrm ((lz y0),y1,zS y2 y5,zT y2 y3 y5,zU y0 y2 y3 y4 y5,y5) [(0,0),(1,1280),(2,2)]) (.ite (zV y2 y3 y5) (.ite (zW y2 y3 y4 y5) (.nrm ((lz y0),y1,zX y2 y5,zY y2 y3 y5,zZ y0 y2 y3 y4 y5,y5) [(0,0),(1,1920),(2,2)]) (.nrm ((lz y0),y1,Aa y2 y5,Ab y2 y3 y5,y4,y5) [(0,0),(1,1),(2,2)])) (.nrm ((lz y0),y1,Ac y2 y5,Ad y2 y3 y5,y4,y5) [(0,0),(1,1),(2,2)]))))) (.ext 0 [(0,0),(1,1),(2,2)])
def IR(s:St):Option iz:=
 (match s.look 6 with
 |some ⟨none,.one ⟨false,[.val (.int .i64 y0)]⟩⟩=>
 (match s.look 1 with
 |some ⟨none,.one ⟨false,[.val (.int .i64 y1)]⟩⟩=>
 (match s.look 0 with
 |some ⟨none,.one ⟨false,[.ptr 0 0]⟩⟩=>
 (match s.look 5 with
 |some ⟨none,.one ⟨false,[.ref 256]⟩⟩=>
 (match s.ent 0 with
 |some (.box 157 [.ref 1,.val (.int .i64 y2),.val (.int .i64 y3)])=>
 (match s.ent 1 with
 |some (.row false 5 (.int IntKind.u8) y5)=>
 (match s.ent 256 with
 |some (.row true 100 (.pair (.int .i64) (.pair (.int .i64) (.int .i64))) y4)=>
 some (y0,y1,y2,y3,y4,y5)
 |_=>none)
 |_=>none)
 |_=>none)
 |_=>none)
 |_=>none)
 |_=>none)
 |_=>none)
def eV:Lp iz where
 h:=⟨[9,10,11,12,13,14,15,18,19,21,20,22,23,24,25,26,27,28,29,30,5,32,31,33,34,35,36,37,38,39,40,41,42,43,44,45,46,47,48,49,16,17,6],[0,2],[1],[]⟩
 JL:=ac1
 JE:=acT
 XL:=adi
 XE:=ac9
 q:=fun j=>match j with | _=> .exit 0
 tags:= [0]
 lt:=IE
 fuel:=fun(y0,y1,y2,y3,y4,y5)=>y0.natAbs + y1.natAbs + y2.natAbs + y3.natAbs + y4.length + y5.length
 fix:=fun(_,y1,_,_,_,y5) (y0,_,y2,y3,y4,_)=>(y0,y1,y2,y3,y4,y5)
 σ:= [(0,0),(2,1),(1,256)]
 rd:=IR
theorem aaN:LoopOk prog (fun k=>Nat.blt k Tryz.f139.ntmps) eV.F (aK f139 0):=by
 refine Lp.ok (tbl:= [ae,PF.lend ae,PF.fz ae,ar,PF.lend ar,PF.fz ar]) (lf:= []) aO eV (by kernel_rfl) (LOk.nil _) (fun _=>rfl) (fun _ _=>rfl) ?_ ?_ ?_ ?_ (fun _=>rfl) ?_
 ·rintro⟨y0,y1,y2,y3,y4,y5⟩;kernel_rfl
 ·rintro⟨y0,y1,y2,y3,y4,y5⟩;kernel_rfl
 ·intro s x h
  have h:IR s=some x:=h
  unfold IR at h
  repeat' split at h
  all_goals cases h
  exact⟨aa (by assumption) rfl (aa (by assumption) rfl (aa (by assumption) rfl (aa (by assumption) rfl (rfl)))),ab rfl (by assumption) rfl (ab rfl (by assumption) rfl (ab rfl (by assumption) rfl (rfl)))⟩
 ·rintro⟨y0,y1,y2,y3,y4,y5⟩;kernel_rfl
 ·rintro⟨y0,y1,y2,y3,y4,y5⟩ z;exact(And.intro (And.intro rfl (And.intro (And.intro rfl rfl) rfl)) trivial)
abbrev iA:=Int×Int×Int×List (Int×(Int×Int))×List Int
section
variable (y0 y1 y2:Int)(y4:List Int)
def lD:List (Int×Int×Int):= [(IntKind.wrap .i64 (Int.tdiv y0 (2:Int)),Int.tmod y0 (2:Int),(0:Int))]
def vr:Bool:=aB y1 y2 y4
def vt:Bool:=ltI y0 (IntKind.wrap .i64 ((8:Int) + nxV (2:Int) y1 y2 y4))
end
def qG:Bool:=neI (2:Int) (0:Int)
section
variable (y0 y1 y2:Int)(y3:List (Int×(Int×Int)))(y4:List Int)
def vu:Bool:=leN (List.length y3 + List.length (lD y0)) (9223372036854775807:Nat)
def vv:Bool:=leN ((List.length y3 + List.length (lD y0)) * (24:Nat)) (140737488355328:Nat)
def vz:Int:=IntKind.wrap .i64 (y0 + (1:Int))
def mG:Int:=nxA (2:Int) y1 y4
def mH:Int:=nxS (2:Int) y1 y2 y4
def vA:List (Int×(Int×Int)):=y3++lD y0
end
def ac2:iA→List (Nat×SV)
 |(y0,_,_,_,_)=> [(7,(.one ⟨false,[.val (.int .i64 y0)]⟩)),(0,(.one ⟨false,[.ptr 0 0]⟩)),(5,(.one ⟨false,[.ref 1]⟩))]
def acU:iA→List (Nat×Entry)
 |(_,y1,y2,y3,y4)=> [(0,(.box 157 [.ref 2,.val (.int .i64 y1),.val (.int .i64 y2)])),(2,(.row false 5 aj7 y4)),(1,(.row true 100 adk y3))]
def adj:Nat→iA→List (Nat×SV)
 |_,(_,_,_,_,_)=> [(5,(.one ⟨false,[.ref 1]⟩))]
def ada:Nat→iA→List (Nat×Entry)
 |_,(_,y1,y2,y3,y4)=> [(0,(.box 157 [.ref 2,.val (.int .i64 (mG y1 y4)),.val (.int .i64 (mH y1 y2 y4))])),(1,(.row true 100 adk y3)),(2,(.row false 5 aj7 y4))]
def IF:iA→LT iA
 |(y0,y1,y2,y3,y4)=> .need [vr y1 y2 y4] (.ite (vt y0 y1 y2 y4) (.need [qG,qG,vu y0 y3,vv y0 y3] (.nrm ((vz y0),mG y1 y4,mH y1 y2 y4,vA y0 y3,y4) [(0,0),(1,832),(2,2)])) (.ext 0 [(0,0),(1,1),(2,2)]))
def IU(s:St):Option iA:=
 (match s.look 7 with
 |some ⟨none,.one ⟨false,[.val (.int .i64 y0)]⟩⟩=>
 (match s.look 0 with
 |some ⟨none,.one ⟨false,[.ptr 0 0]⟩⟩=>
 (match s.look 5 with
 |some ⟨none,.one ⟨false,[.ref 896]⟩⟩=>
 (match s.ent 0 with
 |some (.box 157 [.ref 1,.val (.int .i64 y1),.val (.int .i64 y2)])=>
 (match s.ent 1 with
 |some (.row false 5 (.int IntKind.u8) y4)=>
 (match s.ent 896 with
 |some (.row true 100 (.pair (.int .i64) (.pair (.int .i64) (.int .i64))) y3)=>
 some (y0,y1,y2,y3,y4)
 |_=>none)
 |_=>none)
 |_=>none)
 |_=>none)
 |_=>none)
 |_=>none)
def eW:Lp iA where
 h:=⟨[70,71,72,73,74,77,78,79,80,81,82,83,84,5,75,76,7],[0,2],[1],[]⟩
 JL:=ac2
 JE:=acU
 XL:=adj
 XE:=ada
 q:=fun j=>match j with | _=> .exit 4
 tags:= [0]
 lt:=IF
 fuel:=fun(y0,y1,y2,y3,y4)=>y0.natAbs + y1.natAbs + y2.natAbs + y3.length + y4.length
 fix:=fun(_,_,_,_,y4) (y0,y1,y2,y3,_)=>(y0,y1,y2,y3,y4)
 σ:= [(0,0),(2,1),(1,896)]
 rd:=IU
theorem aaO:LoopOk prog (fun k=>Nat.blt k Tryz.f139.ntmps) eW.F (aK f139 1):=by
 refine Lp.ok (tbl:= [ae,PF.lend ae,PF.fz ae,ar,PF.lend ar,PF.fz ar]) (lf:= []) aO eW (by kernel_rfl) (LOk.nil _) (fun _=>rfl) (fun _ _=>rfl) ?_ ?_ ?_ ?_ (fun _=>rfl) ?_
 ·rintro⟨y0,y1,y2,y3,y4⟩;kernel_rfl
 ·rintro⟨y0,y1,y2,y3,y4⟩;kernel_rfl
 ·intro s x h
  have h:IU s=some x:=h
  unfold IU at h
  repeat' split at h
  all_goals cases h
  exact⟨aa (by assumption) rfl (aa (by assumption) rfl (aa (by assumption) rfl (rfl))),ab rfl (by assumption) rfl (ab rfl (by assumption) rfl (ab rfl (by assumption) rfl (rfl)))⟩
 ·rintro⟨y0,y1,y2,y3,y4⟩;kernel_rfl
 ·rintro⟨y0,y1,y2,y3,y4⟩ z;exact(And.intro rfl trivial)
section
variable (x0 x1 x2:Int)(x3:List Int)
def pq:List (Int×Int×Int)×List Int:=([],x3)
def lS:Int×Int×Int×Int×List (Int×Int×Int)×List Int:=((0:Int),x0,x1,x2,pq x3)
def pt:Int×Int×List (Int×Int×Int)×List Int:=(Lp.res eV (lS x0 x1 x2 x3)).2.2.2
def da:Int:=(pt x0 x1 x2 x3).1
def pu:Int×List (Int×Int×Int)×List Int:=(pt x0 x1 x2 x3).2
def lT:Int:=(pu x0 x1 x2 x3).1
def pv:Int:=nxV (40:Int) (da x0 x1 x2 x3) (lT x0 x1 x2 x3) x3
def db:Bool:=pv x0 x1 x2 x3==(0:Int)
def kg:List Int:= [(-1:Int),(0:Int),x0]
def kh:Int:=pkA (nxA (40:Int) (da x0 x1 x2 x3) x3) (kg x0) x3
def jn:Int:=pkA (kh x0 x1 x2 x3) [(0:Int),(1:Int),(2:Int)] x3
def jo:Bool:=pv x0 x1 x2 x3==(1:Int)
def im:Int:=nxS (40:Int) (da x0 x1 x2 x3) (lT x0 x1 x2 x3) x3
def kT:Int×Int×Int×List (Int×Int×Int)×List Int:=((0:Int),nxA (40:Int) (da x0 x1 x2 x3) x3,im x0 x1 x2 x3,pq x3)
def nI:Int×Int×List (Int×Int×Int)×List Int:=(Lp.res eW (kT x0 x1 x2 x3)).2.2
def nJ:Int:=(nI x0 x1 x2 x3).1
def kU:Int:=pkS (nxA (40:Int) (da x0 x1 x2 x3) x3) (im x0 x1 x2 x3) (kg x0) x3
def kV:Int:=pkS (kh x0 x1 x2 x3) (kU x0 x1 x2 x3) [(0:Int),(1:Int),(2:Int)] x3
def nK:Int×List (Int×Int×Int)×List Int:=(nI x0 x1 x2 x3).2
def jp:List (Int×Int×Int):=((pu x0 x1 x2 x3).2).1
def kW:List (Int×Int×Int):= [(pkV (nxA (40:Int) (da x0 x1 x2 x3) x3) (im x0 x1 x2 x3) (kg x0) x3,pkV (kh x0 x1 x2 x3) (kU x0 x1 x2 x3) [(0:Int),(1:Int),(2:Int)] x3,nxV (3:Int) (jn x0 x1 x2 x3) (kV x0 x1 x2 x3) x3)]
def kQ:Int:=bif db x0 x1 x2 x3 then nxA (3:Int) (jn x0 x1 x2 x3) x3 else bif jo x0 x1 x2 x3 then mG (nJ x0 x1 x2 x3) x3 else nxA (40:Int) (da x0 x1 x2 x3) x3
def kR:Int:=bif db x0 x1 x2 x3 then nxS (3:Int) (jn x0 x1 x2 x3) (kV x0 x1 x2 x3) x3 else bif jo x0 x1 x2 x3 then mH (nJ x0 x1 x2 x3) ((nK x0 x1 x2 x3).1) x3 else im x0 x1 x2 x3
def kS:List (Int×(Int×Int)):=bif db x0 x1 x2 x3 then jp x0 x1 x2 x3++kW x0 x1 x2 x3 else bif jo x0 x1 x2 x3 then ((nK x0 x1 x2 x3).2).1else jp x0 x1 x2 x3
def rp:Bool:=allT [Lp.fin eV (lS x0 x1 x2 x3),aB (da x0 x1 x2 x3) (lT x0 x1 x2 x3) x3,!db x0 x1 x2 x3||aB (nxA (40:Int) (da x0 x1 x2 x3) x3) (im x0 x1 x2 x3) x3&&leN (1:Nat) (List.length (kg x0)),!db x0 x1 x2 x3||aB (kh x0 x1 x2 x3) (kU x0 x1 x2 x3) x3&&leN (1:Nat) (List.length [(0:Int),(1:Int),(2:Int)]),!db x0 x1 x2 x3||aB (jn x0 x1 x2 x3) (kV x0 x1 x2 x3) x3,!db x0 x1 x2 x3||leN (List.length (jp x0 x1 x2 x3) + List.length (kW x0 x1 x2 x3)) (9223372036854775807:Nat),!db x0 x1 x2 x3||leN ((List.length (jp x0 x1 x2 x3) + List.length (kW x0 x1 x2 x3)) * (24:Nat)) (140737488355328:Nat),db x0 x1 x2 x3||(!jo x0 x1 x2 x3||Lp.fin eW (kT x0 x1 x2 x3))]
end
def XR:List SV→List Entry→Option Out
 | [.one ⟨false,[.ptr 0 0]⟩,.one ⟨false,[.val (.int .i64 x0)]⟩],[.box 157 [.ref 1,.val (.int .i64 x1),.val (.int .i64 x2)],.row false 5 (.int .u8) x3]=>some ⟨.one ⟨false,[.ref 2]⟩,[.box 157 [.ref 1,.val (.int .i64 (kQ x0 x1 x2 x3)),.val (.int .i64 (kR x0 x1 x2 x3))],.row false 5 aj7 x3],[.row true 100 adk (kS x0 x1 x2 x3)],[rp x0 x1 x2 x3]⟩
 |_,_=>none
def aiT:PF prog:=PF.ofG prog [ae,PF.lend ae,PF.fz ae,ar,PF.lend ar,PF.fz ar] [eV.F,eW.F] aO 139 f139 func139 (LOk.fnT (l:= [aK f139 0,aK f139 1]) (by kernel_rfl) (.cons aaN (.cons aaO (.nil _)))) XR (by
 intro vs es r h;unfold XR at h;split at h
 ·cases h;kernel_rfl
 ·cases h)
abbrev pF:=Int×List (Int×Int)×Int×Int×List Int
section
variable (y0:Int)(y1:List (Int×Int))(y2 y3:Int)(y4:List Int)
def uq:List Int:= [(1:Int),(7:Int),(30:Int),IntKind.wrap .i64 ((1:Int) + nxV (40:Int) y2 y3 y4),(366:Int)]
def ur:Int:=pkA (nxA (40:Int) y2 y4) (uq y2 y3 y4) y4
def zo:Int:=pkS (nxA (40:Int) y2 y4) (nxS (40:Int) y2 y3 y4) (uq y2 y3 y4) y4
def zp:List (Int×Int):= [(pkV (nxA (40:Int) y2 y4) (nxS (40:Int) y2 y3 y4) (uq y2 y3 y4) y4,nxV (60:Int) (ur y2 y3 y4) (zo y2 y3 y4) y4)]
def On:Bool:=ltI (0:Int) y0
def Oo:Bool:=aB y2 y3 y4
def Oq:Bool:=aB (nxA (40:Int) y2 y4) (nxS (40:Int) y2 y3 y4) y4&&leN (1:Nat) (List.length (uq y2 y3 y4))
def Ot:Bool:=aB (ur y2 y3 y4) (zo y2 y3 y4) y4
def Ou:Bool:=leN (List.length y1 + List.length (zp y2 y3 y4)) (9223372036854775807:Nat)
def Ov:Bool:=leN ((List.length y1 + List.length (zp y2 y3 y4)) * (16:Nat)) (140737488355328:Nat)
def Ow:Int:=IntKind.wrap .i64 (y0 - (1:Int))
def Ox:List (Int×Int):=y1++zp y2 y3 y4
def Oy:Int:=nxA (60:Int) (ur y2 y3 y4) y4
def Oz:Int:=nxS (60:Int) (ur y2 y3 y4) (zo y2 y3 y4) y4
end
def ak6:pF→List (Nat×SV)
 |(y0,_,_,_,_)=> [(4,(.one ⟨false,[.val (.int .i64 y0)]⟩)),(3,(.one ⟨false,[.ref 0]⟩)),(0,(.one ⟨false,[.ptr 1 0]⟩))]
def akY:pF→List (Nat×Entry)
 |(_,y1,y2,y3,y4)=> [(1,(.box 157 [.ref 2,.val (.int .i64 y2),.val (.int .i64 y3)])),(2,(.row false 5 aj7 y4)),(0,(.row true 173 aiq y1))]
def aln:Nat→pF→List (Nat×SV)
 |_,(_,_,_,_,_)=> [(3,(.one ⟨false,[.ref 0]⟩))]
def ale:Nat→pF→List (Nat×Entry)
 |_,(_,y1,y2,y3,y4)=> [(0,(.row true 173 aiq y1)),(1,(.box 157 [.ref 2,.val (.int .i64 y2),.val (.int .i64 y3)])),(2,(.row false 5 aj7 y4))]
def Tc:pF→LT pF
 |(y0,y1,y2,y3,y4)=> .ite (On y0) (.need [Oo y2 y3 y4,Oq y2 y3 y4,Ot y2 y3 y4,Ou y1 y2 y3 y4,Ov y1 y2 y3 y4] (.nrm ((Ow y0),Ox y1 y2 y3 y4,Oy y2 y3 y4,Oz y2 y3 y4,y4) [(0,896),(1,1),(2,2)])) (.ext 0 [(0,0),(1,1),(2,2)])
def Tn(s:St):Option pF:=
 (match s.look 4 with
 |some ⟨none,.one ⟨false,[.val (.int .i64 y0)]⟩⟩=>
 (match s.look 3 with
 |some ⟨none,.one ⟨false,[.ref 256]⟩⟩=>
 (match s.look 0 with
 |some ⟨none,.one ⟨false,[.ptr 0 0]⟩⟩=>
 (match s.ent 0 with
 |some (.box 157 [.ref 1,.val (.int .i64 y2),.val (.int .i64 y3)])=>
 (match s.ent 1 with
 |some (.row false 5 (.int IntKind.u8) y4)=>
 (match s.ent 256 with
 |some (.row true 173 (.pair (.int .i64) (.int .i64)) y1)=>
 some (y0,y1,y2,y3,y4)
 |_=>none)
 |_=>none)
 |_=>none)
 |_=>none)
 |_=>none)
 |_=>none)
def lq:Lp pF where
 h:=⟨[9,10,13,14,15,16,17,18,19,20,21,22,23,24,3,11,12,4],[1,2],[0],[]⟩
 JL:=ak6
 JE:=akY
 XL:=aln
 XE:=ale
 q:=fun j=>match j with | _=> .exit 0
 tags:= [0]
 lt:=Tc
 fuel:=fun(y0,y1,y2,y3,y4)=>y0.natAbs + y1.length + y2.natAbs + y3.natAbs + y4.length
 fix:=fun(_,_,_,_,y4) (y0,y1,y2,y3,_)=>(y0,y1,y2,y3,y4)
 σ:= [(1,0),(2,1),(0,256)]
 rd:=Tn
theorem aiD:LoopOk prog (fun k=>Nat.blt k Tryz.f140.ntmps) lq.F (aK f140 0):=by
 refine Lp.ok (tbl:= [ae,PF.lend ae,PF.fz ae,ar,PF.lend ar,PF.fz ar]) (lf:= []) aO lq (by kernel_rfl) (LOk.nil _) (fun _=>rfl) (fun _ _=>rfl) ?_ ?_ ?_ ?_ (fun _=>rfl) ?_
 ·rintro⟨y0,y1,y2,y3,y4⟩;kernel_rfl
 ·rintro⟨y0,y1,y2,y3,y4⟩;kernel_rfl
 ·intro s x h
  have h:Tn s=some x:=h
  unfold Tn at h
  repeat' split at h
  all_goals cases h
  exact⟨aa (by assumption) rfl (aa (by assumption) rfl (aa (by assumption) rfl (rfl))),ab rfl (by assumption) rfl (ab rfl (by assumption) rfl (ab rfl (by assumption) rfl (rfl)))⟩
 ·rintro⟨y0,y1,y2,y3,y4⟩;kernel_rfl
 ·rintro⟨y0,y1,y2,y3,y4⟩ z;exact(And.intro rfl trivial)
abbrev pG:=Int×Int×Int×List (Int×Int)×List Int
section
variable (y0 y1 y2:Int)(y3:List (Int×Int))(y4:List Int)
def ut:List (Int×Int):= [(IntKind.wrap .i64 ((1:Int) + y0),(0:Int))]
def HU:Bool:=aB y1 y2 y4
def HV:Bool:=ltI y0 (IntKind.wrap .i64 ((12:Int) + nxV (2:Int) y1 y2 y4))
def HW:Bool:=leN (List.length y3 + List.length (ut y0)) (9223372036854775807:Nat)
def HX:Bool:=leN ((List.length y3 + List.length (ut y0)) * (16:Nat)) (140737488355328:Nat)
def HY:Int:=IntKind.wrap .i64 (y0 + (1:Int))
def xl:Int:=nxA (2:Int) y1 y4
def xm:Int:=nxS (2:Int) y1 y2 y4
def HZ:List (Int×Int):=y3++ut y0
end
def ak7:pG→List (Nat×SV)
 |(y0,_,_,_,_)=> [(5,(.one ⟨false,[.val (.int .i64 y0)]⟩)),(0,(.one ⟨false,[.ptr 0 0]⟩)),(3,(.one ⟨false,[.ref 1]⟩))]
def akZ:pG→List (Nat×Entry)
 |(_,y1,y2,y3,y4)=> [(0,(.box 157 [.ref 2,.val (.int .i64 y1),.val (.int .i64 y2)])),(2,(.row false 5 aj7 y4)),(1,(.row true 173 aiq y3))]
def alo:Nat→pG→List (Nat×SV)
 |_,(_,_,_,_,_)=> [(3,(.one ⟨false,[.ref 1]⟩))]
def alf:Nat→pG→List (Nat×Entry)
 |_,(_,y1,y2,y3,y4)=> [(0,(.box 157 [.ref 2,.val (.int .i64 (xl y1 y4)),.val (.int .i64 (xm y1 y2 y4))])),(1,(.row true 173 aiq y3)),(2,(.row false 5 aj7 y4))]
def Td:pG→LT pG
 |(y0,y1,y2,y3,y4)=> .need [HU y1 y2 y4] (.ite (HV y0 y1 y2 y4) (.need [HW y0 y3,HX y0 y3] (.nrm ((HY y0),xl y1 y4,xm y1 y2 y4,HZ y0 y3,y4) [(0,0),(1,704),(2,2)])) (.ext 0 [(0,0),(1,1),(2,2)]))
def To(s:St):Option pG:=
 (match s.look 5 with
 |some ⟨none,.one ⟨false,[.val (.int .i64 y0)]⟩⟩=>
 (match s.look 0 with
 |some ⟨none,.one ⟨false,[.ptr 0 0]⟩⟩=>
 (match s.look 3 with
 |some ⟨none,.one ⟨false,[.ref 1024]⟩⟩=>
 (match s.ent 0 with
 |some (.box 157 [.ref 1,.val (.int .i64 y1),.val (.int .i64 y2)])=>
 (match s.ent 1 with
 |some (.row false 5 (.int IntKind.u8) y4)=>
 (match s.ent 1024 with
 |some (.row true 173 (.pair (.int .i64) (.int .i64)) y3)=>
 some (y0,y1,y2,y3,y4)
 |_=>none)
 |_=>none)
 |_=>none)
 |_=>none)
 |_=>none)
 |_=>none)
def lr:Lp pG where
 h:=⟨[42,43,44,45,46,49,50,51,52,53,54,3,47,48,5],[0,2],[1],[]⟩
 JL:=ak7
 JE:=akZ
 XL:=alo
 XE:=alf
 q:=fun j=>match j with | _=> .exit 3
 tags:= [0]
 lt:=Td
 fuel:=fun(y0,y1,y2,y3,y4)=>y0.natAbs + y1.natAbs + y2.natAbs + y3.length + y4.length
 fix:=fun(_,_,_,_,y4) (y0,y1,y2,y3,_)=>(y0,y1,y2,y3,y4)
 σ:= [(0,0),(2,1),(1,1024)]
 rd:=To
theorem aiE:LoopOk prog (fun k=>Nat.blt k Tryz.f140.ntmps) lr.F (aK f140 1):=by
 refine Lp.ok (tbl:= [ae,PF.lend ae,PF.fz ae,ar,PF.lend ar,PF.fz ar]) (lf:= []) aO lr (by kernel_rfl) (LOk.nil _) (fun _=>rfl) (fun _ _=>rfl) ?_ ?_ ?_ ?_ (fun _=>rfl) ?_
 ·rintro⟨y0,y1,y2,y3,y4⟩;kernel_rfl
 ·rintro⟨y0,y1,y2,y3,y4⟩;kernel_rfl
 ·intro s x h
  have h:To s=some x:=h
  unfold To at h
  repeat' split at h
  all_goals cases h
  exact⟨aa (by assumption) rfl (aa (by assumption) rfl (aa (by assumption) rfl (rfl))),ab rfl (by assumption) rfl (ab rfl (by assumption) rfl (ab rfl (by assumption) rfl (rfl)))⟩
 ·rintro⟨y0,y1,y2,y3,y4⟩;kernel_rfl
 ·rintro⟨y0,y1,y2,y3,y4⟩ z;exact(And.intro rfl trivial)
section
variable (x0 x1:Int)(x2:List Int)
def xX:Int×List (Int×Int)×Int×Int×List Int:=(nxV (5:Int) x0 x1 x2,[],nxA (5:Int) x0 x2,nxS (5:Int) x0 x1 x2,x2)
def CL:List (Int×Int)×Int×Int×List Int:=(Lp.res lq (xX x0 x1 x2)).2.2
def rT:Int×Int×List Int:=(CL x0 x1 x2).2
def xY:Int:=((rT x0 x1 x2).2).1
def CM:Int:=nxV (40:Int) ((rT x0 x1 x2).1) (xY x0 x1 x2) x2
def kF:Bool:=CM x0 x1 x2==(0:Int)
def ol:Int:=nxA (40:Int) ((rT x0 x1 x2).1) x2
def tY:Int:=pkA (ol x0 x1 x2) [(0:Int),(1:Int),(367:Int)] x2
def tZ:Bool:=CM x0 x1 x2==(1:Int)
def rU:Int:=nxS (40:Int) ((rT x0 x1 x2).1) (xY x0 x1 x2) x2
def vB:Int×Int×Int×List (Int×Int)×List Int:=((0:Int),ol x0 x1 x2,rU x0 x1 x2,[],x2)
def zl:Int×Int×List (Int×Int)×List Int:=(Lp.res lr (vB x0 x1 x2)).2.2
def zm:Int:=(zl x0 x1 x2).1
def vC:Int:=pkS (ol x0 x1 x2) (rU x0 x1 x2) [(0:Int),(1:Int),(367:Int)] x2
def zn:Int×List (Int×Int)×List Int:=(zl x0 x1 x2).2
def su:List (Int×Int):=(CL x0 x1 x2).1
def vD:List (Int×Int):= [(pkV (ol x0 x1 x2) (rU x0 x1 x2) [(0:Int),(1:Int),(367:Int)] x2,pkV (tY x0 x1 x2) (vC x0 x1 x2) [(-1:Int),(100000:Int),(100001:Int)] x2)]
def xh:Int:=bif kF x0 x1 x2 then pkA (tY x0 x1 x2) [(-1:Int),(100000:Int),(100001:Int)] x2 else bif tZ x0 x1 x2 then xl (zm x0 x1 x2) x2 else ol x0 x1 x2
def xj:Int:=bif kF x0 x1 x2 then pkS (tY x0 x1 x2) (vC x0 x1 x2) [(-1:Int),(100000:Int),(100001:Int)] x2 else bif tZ x0 x1 x2 then xm (zm x0 x1 x2) ((zn x0 x1 x2).1) x2 else rU x0 x1 x2
def xk:List (Int×Int):=bif kF x0 x1 x2 then su x0 x1 x2++vD x0 x1 x2 else bif tZ x0 x1 x2 then ((zn x0 x1 x2).2).1else su x0 x1 x2
def Gk:Bool:=allT [aB x0 x1 x2,Lp.fin lq (xX x0 x1 x2),aB ((rT x0 x1 x2).1) (xY x0 x1 x2) x2,!kF x0 x1 x2||aB (ol x0 x1 x2) (rU x0 x1 x2) x2&&leN (1:Nat) (List.length [(0:Int),(1:Int),(367:Int)]),!kF x0 x1 x2||aB (tY x0 x1 x2) (vC x0 x1 x2) x2&&leN (1:Nat) (List.length [(-1:Int),(100000:Int),(100001:Int)]),!kF x0 x1 x2||leN (List.length (su x0 x1 x2) + List.length (vD x0 x1 x2)) (9223372036854775807:Nat),!kF x0 x1 x2||leN ((List.length (su x0 x1 x2) + List.length (vD x0 x1 x2)) * (16:Nat)) (140737488355328:Nat),kF x0 x1 x2||(!tZ x0 x1 x2||Lp.fin lr (vB x0 x1 x2))]
end
def ahH:List SV→List Entry→Option Out
 | [.one ⟨false,[.ptr 0 0]⟩],[.box 157 [.ref 1,.val (.int .i64 x0),.val (.int .i64 x1)],.row false 5 (.int .u8) x2]=>some ⟨.one ⟨false,[.ref 2]⟩,[.box 157 [.ref 1,.val (.int .i64 (xh x0 x1 x2)),.val (.int .i64 (xj x0 x1 x2))],.row false 5 aj7 x2],[.row true 173 aiq (xk x0 x1 x2)],[Gk x0 x1 x2]⟩
 |_,_=>none
def aqO:PF prog:=PF.ofG prog [ae,PF.lend ae,PF.fz ae,ar,PF.lend ar,PF.fz ar] [lq.F,lr.F] aO 140 f140 func140 (LOk.fnT (l:= [aK f140 0,aK f140 1]) (by kernel_rfl) (.cons aiD (.cons aiE (.nil _)))) ahH (by
 intro vs es r h;unfold ahH at h;split at h
 ·cases h;kernel_rfl
 ·cases h)
abbrev jg:=Int×Int×List (Int×Int)×Int×Int×List Int
section
variable (y0 y1:Int)(y2:List (Int×Int))(y3 y4:Int)(y5:List Int)
def qH:List (Int×Int):= [(nxV (4:Int) y3 y4 y5,y1)]
def DI:Bool:=ltI (0:Int) y0
def DJ:Bool:=aB y3 y4 y5
def DK:Bool:=leN (List.length y2 + List.length (qH y1 y3 y4 y5)) (9223372036854775807:Nat)
def DL:Bool:=leN ((List.length y2 + List.length (qH y1 y3 y4 y5)) * (16:Nat)) (140737488355328:Nat)
def DM:Bool:=aB (nxA (4:Int) y3 y5) (nxS (4:Int) y3 y4 y5) y5
def DN:Int:=IntKind.wrap .i64 (y0 - (1:Int))
def DO:Int:=IntKind.wrap .i64 (IntKind.wrap .i64 (y1 + (1:Int)) + nxV (3:Int) (nxA (4:Int) y3 y5) (nxS (4:Int) y3 y4 y5) y5)
def DP:List (Int×Int):=y2++qH y1 y3 y4 y5
def DQ:Int:=nxA (3:Int) (nxA (4:Int) y3 y5) y5
def DR:Int:=nxS (3:Int) (nxA (4:Int) y3 y5) (nxS (4:Int) y3 y4 y5) y5
end
def ad5:jg→List (Nat×SV)
 |(y0,y1,_,_,_,_)=> [(5,(.one ⟨false,[.val (.int .i64 y0)]⟩)),(3,(.one ⟨false,[.ref 0]⟩)),(0,(.one ⟨false,[.ptr 1 0]⟩)),(4,(.one ⟨false,[.val (.int .i64 y1)]⟩))]
def ad1:jg→List (Nat×Entry)
 |(_,_,y2,y3,y4,y5)=> [(1,(.box 157 [.ref 2,.val (.int .i64 y3),.val (.int .i64 y4)])),(2,(.row false 5 aj7 y5)),(0,(.row true 176 aiq y2))]
def ael:Nat→jg→List (Nat×SV)
 |_,(_,_,_,_,_,_)=> [(3,(.one ⟨false,[.ref 0]⟩))]
def aeh:Nat→jg→List (Nat×Entry)
 |_,(_,_,y2,y3,y4,y5)=> [(0,(.row true 176 aiq y2)),(1,(.box 157 [.ref 2,.val (.int .i64 y3),.val (.int .i64 y4)])),(2,(.row false 5 aj7 y5))]
def Kf:jg→LT jg
 |(y0,y1,y2,y3,y4,y5)=> .ite (DI y0) (.need [DJ y3 y4 y5,DK y1 y2 y3 y4 y5,DL y1 y2 y3 y4 y5] (.need [DM y3 y4 y5] (.nrm ((DN y0),DO y1 y3 y4 y5,DP y1 y2 y3 y4 y5,DQ y3 y5,DR y3 y4 y5,y5) [(0,576),(1,1),(2,2)]))) (.ext 0 [(0,0),(1,1),(2,2)])
def Kq(s:St):Option jg:=
 (match s.look 5 with
 |some ⟨none,.one ⟨false,[.val (.int .i64 y0)]⟩⟩=>
 (match s.look 3 with
 |some ⟨none,.one ⟨false,[.ref 256]⟩⟩=>
 (match s.look 0 with
 |some ⟨none,.one ⟨false,[.ptr 0 0]⟩⟩=>
 (match s.look 4 with
 |some ⟨none,.one ⟨false,[.val (.int .i64 y1)]⟩⟩=>
 (match s.ent 0 with
 |some (.box 157 [.ref 1,.val (.int .i64 y3),.val (.int .i64 y4)])=>
 (match s.ent 1 with
 |some (.row false 5 (.int IntKind.u8) y5)=>
 (match s.ent 256 with
 |some (.row true 176 (.pair (.int .i64) (.int .i64)) y2)=>
 some (y0,y1,y2,y3,y4,y5)
 |_=>none)
 |_=>none)
 |_=>none)
 |_=>none)
 |_=>none)
 |_=>none)
 |_=>none)
def gf:Lp jg where
 h:=⟨[13,14,17,18,19,20,21,22,23,3,24,25,26,27,28,4,15,16,5],[1,2],[0],[]⟩
 JL:=ad5
 JE:=ad1
 XL:=ael
 XE:=aeh
 q:=fun j=>match j with | _=> .exit 0
 tags:= [0]
 lt:=Kf
 fuel:=fun(y0,y1,y2,y3,y4,y5)=>y0.natAbs + y1.natAbs + y2.length + y3.natAbs + y4.natAbs + y5.length
 fix:=fun(_,_,_,_,_,y5) (y0,y1,y2,y3,y4,_)=>(y0,y1,y2,y3,y4,y5)
 σ:= [(1,0),(2,1),(0,256)]
 rd:=Kq
theorem abW:LoopOk prog (fun k=>Nat.blt k Tryz.f141.ntmps) gf.F (aK f141 0):=by
 refine Lp.ok (tbl:= [ae,PF.lend ae,PF.fz ae,ar,PF.lend ar,PF.fz ar]) (lf:= []) aO gf (by kernel_rfl) (LOk.nil _) (fun _=>rfl) (fun _ _=>rfl) ?_ ?_ ?_ ?_ (fun _=>rfl) ?_
 ·rintro⟨y0,y1,y2,y3,y4,y5⟩;kernel_rfl
 ·rintro⟨y0,y1,y2,y3,y4,y5⟩;kernel_rfl
 ·intro s x h
  have h:Kq s=some x:=h
  unfold Kq at h
  repeat' split at h
  all_goals cases h
  exact⟨aa (by assumption) rfl (aa (by assumption) rfl (aa (by assumption) rfl (aa (by assumption) rfl (rfl)))),ab rfl (by assumption) rfl (ab rfl (by assumption) rfl (ab rfl (by assumption) rfl (rfl)))⟩
 ·rintro⟨y0,y1,y2,y3,y4,y5⟩;kernel_rfl
 ·rintro⟨y0,y1,y2,y3,y4,y5⟩ z;exact(And.intro rfl trivial)
abbrev jh:=Int×Int×Int×List (Int×Int)×List Int
section
variable (y0 y1 y2:Int)(y4:List Int)
def mI:List (Int×Int):= [(y0,IntKind.wrap .i64 ((1:Int) + Int.tmod y0 (3:Int)))]
def wX:Bool:=aB y1 y2 y4
def wY:Bool:=ltI y0 (IntKind.wrap .i64 ((8:Int) + nxV (2:Int) y1 y2 y4))
end
def wZ:Bool:=neI (3:Int) (0:Int)
section
variable (y0 y1 y2:Int)(y3:List (Int×Int))(y4:List Int)
def xa:Bool:=leN (List.length y3 + List.length (mI y0)) (9223372036854775807:Nat)
def xc:Bool:=leN ((List.length y3 + List.length (mI y0)) * (16:Nat)) (140737488355328:Nat)
def xf:Int:=IntKind.wrap .i64 (y0 + (1:Int))
def nL:Int:=nxA (2:Int) y1 y4
def nM:Int:=nxS (2:Int) y1 y2 y4
def xg:List (Int×Int):=y3++mI y0
end
def ad6:jh→List (Nat×SV)
 |(y0,_,_,_,_)=> [(6,(.one ⟨false,[.val (.int .i64 y0)]⟩)),(0,(.one ⟨false,[.ptr 0 0]⟩)),(3,(.one ⟨false,[.ref 1]⟩))]
def ad2:jh→List (Nat×Entry)
 |(_,y1,y2,y3,y4)=> [(0,(.box 157 [.ref 2,.val (.int .i64 y1),.val (.int .i64 y2)])),(2,(.row false 5 aj7 y4)),(1,(.row true 176 aiq y3))]
def aem:Nat→jh→List (Nat×SV)
 |_,(_,_,_,_,_)=> [(3,(.one ⟨false,[.ref 1]⟩))]
def aei:Nat→jh→List (Nat×Entry)
 |_,(_,y1,y2,y3,y4)=> [(0,(.box 157 [.ref 2,.val (.int .i64 (nL y1 y4)),.val (.int .i64 (nM y1 y2 y4))])),(1,(.row true 176 aiq y3)),(2,(.row false 5 aj7 y4))]
def Kg:jh→LT jh
 |(y0,y1,y2,y3,y4)=> .need [wX y1 y2 y4] (.ite (wY y0 y1 y2 y4) (.need [wZ,xa y0 y3,xc y0 y3] (.nrm ((xf y0),nL y1 y4,nM y1 y2 y4,xg y0 y3,y4) [(0,0),(1,832),(2,2)])) (.ext 0 [(0,0),(1,1),(2,2)]))
def Kr(s:St):Option jh:=
 (match s.look 6 with
 |some ⟨none,.one ⟨false,[.val (.int .i64 y0)]⟩⟩=>
 (match s.look 0 with
 |some ⟨none,.one ⟨false,[.ptr 0 0]⟩⟩=>
 (match s.look 3 with
 |some ⟨none,.one ⟨false,[.ref 1280]⟩⟩=>
 (match s.ent 0 with
 |some (.box 157 [.ref 1,.val (.int .i64 y1),.val (.int .i64 y2)])=>
 (match s.ent 1 with
 |some (.row false 5 (.int IntKind.u8) y4)=>
 (match s.ent 1280 with
 |some (.row true 176 (.pair (.int .i64) (.int .i64)) y3)=>
 some (y0,y1,y2,y3,y4)
 |_=>none)
 |_=>none)
 |_=>none)
 |_=>none)
 |_=>none)
 |_=>none)
def gg:Lp jh where
 h:=⟨[46,47,48,49,50,53,54,55,56,57,58,59,60,3,51,52,6],[0,2],[1],[]⟩
 JL:=ad6
 JE:=ad2
 XL:=aem
 XE:=aei
 q:=fun j=>match j with | _=> .exit 3
 tags:= [0]
 lt:=Kg
 fuel:=fun(y0,y1,y2,y3,y4)=>y0.natAbs + y1.natAbs + y2.natAbs + y3.length + y4.length
 fix:=fun(_,_,_,_,y4) (y0,y1,y2,y3,_)=>(y0,y1,y2,y3,y4)
 σ:= [(0,0),(2,1),(1,1280)]
 rd:=Kr
theorem abX:LoopOk prog (fun k=>Nat.blt k Tryz.f141.ntmps) gg.F (aK f141 1):=by
 refine Lp.ok (tbl:= [ae,PF.lend ae,PF.fz ae,ar,PF.lend ar,PF.fz ar]) (lf:= []) aO gg (by kernel_rfl) (LOk.nil _) (fun _=>rfl) (fun _ _=>rfl) ?_ ?_ ?_ ?_ (fun _=>rfl) ?_
 ·rintro⟨y0,y1,y2,y3,y4⟩;kernel_rfl
 ·rintro⟨y0,y1,y2,y3,y4⟩;kernel_rfl
 ·intro s x h
  have h:Kr s=some x:=h
  unfold Kr at h
  repeat' split at h
  all_goals cases h
  exact⟨aa (by assumption) rfl (aa (by assumption) rfl (aa (by assumption) rfl (rfl))),ab rfl (by assumption) rfl (ab rfl (by assumption) rfl (ab rfl (by assumption) rfl (rfl)))⟩
 ·rintro⟨y0,y1,y2,y3,y4⟩;kernel_rfl
 ·rintro⟨y0,y1,y2,y3,y4⟩ z;exact(And.intro rfl trivial)
section
variable (x0 x1:Int)(x2:List Int)
def np:Int×Int×List (Int×Int)×Int×Int×List Int:=(nxV (5:Int) (nxA (3:Int) x0 x2) (nxS (3:Int) x0 x1 x2) x2,IntKind.wrap .i64 ((1:Int) + nxV (3:Int) x0 x1 x2),[],nxA (5:Int) (nxA (3:Int) x0 x2) x2,nxS (5:Int) (nxA (3:Int) x0 x2) (nxS (3:Int) x0 x1 x2) x2,x2)
def rq:List (Int×Int)×Int×Int×List Int:=(Lp.res gf (np x0 x1 x2)).2.2.2
def jF:Int×Int×List Int:=(rq x0 x1 x2).2
def nq:Int:=((jF x0 x1 x2).2).1
def nr:Int:=nxV (40:Int) ((jF x0 x1 x2).1) (nq x0 x1 x2) x2
def cM:Bool:=nr x0 x1 x2==(0:Int)
def fX:Int:=nxA (40:Int) ((jF x0 x1 x2).1) x2
def kX:Int:=pkA (fX x0 x1 x2) [(-1:Int),(0:Int),(23:Int),(24:Int)] x2
def iq:Bool:=nr x0 x1 x2==(1:Int)
def ir:Int:=nxS (40:Int) ((jF x0 x1 x2).1) (nq x0 x1 x2) x2
def lU:Int×Int×Int×List (Int×Int)×List Int:=((0:Int),fX x0 x1 x2,ir x0 x1 x2,[],x2)
def pw:Int×Int×List (Int×Int)×List Int:=(Lp.res gg (lU x0 x1 x2)).2.2
def px:Int:=(pw x0 x1 x2).1
def iQ:Bool:=nr x0 x1 x2==(2:Int)
def lV:Int:=pkS (fX x0 x1 x2) (ir x0 x1 x2) [(-1:Int),(0:Int),(23:Int),(24:Int)] x2
def py:Int×List (Int×Int)×List Int:=(pw x0 x1 x2).2
def cz:List (Int×Int):=(rq x0 x1 x2).1
def lW:List (Int×Int):= [(pkV (fX x0 x1 x2) (ir x0 x1 x2) [(-1:Int),(0:Int),(23:Int),(24:Int)] x2,pkV (kX x0 x1 x2) (lV x0 x1 x2) [(0:Int),(999:Int),(1000:Int)] x2)]
def mj:Int:=bif cM x0 x1 x2 then pkA (kX x0 x1 x2) [(0:Int),(999:Int),(1000:Int)] x2 else bif iq x0 x1 x2 then nL (px x0 x1 x2) x2 else bif iQ x0 x1 x2 then fX x0 x1 x2 else fX x0 x1 x2
def ml:Int:=bif cM x0 x1 x2 then pkS (kX x0 x1 x2) (lV x0 x1 x2) [(0:Int),(999:Int),(1000:Int)] x2 else bif iq x0 x1 x2 then nM (px x0 x1 x2) ((py x0 x1 x2).1) x2 else bif iQ x0 x1 x2 then ir x0 x1 x2 else ir x0 x1 x2
def mm:List (Int×Int):=bif cM x0 x1 x2 then cz x0 x1 x2++lW x0 x1 x2 else bif iq x0 x1 x2 then ((py x0 x1 x2).2).1else bif iQ x0 x1 x2 then cz x0 x1 x2++cz x0 x1 x2 else cz x0 x1 x2
def sU:Bool:=allT [aB x0 x1 x2,aB (nxA (3:Int) x0 x2) (nxS (3:Int) x0 x1 x2) x2,Lp.fin gf (np x0 x1 x2),aB ((jF x0 x1 x2).1) (nq x0 x1 x2) x2,!cM x0 x1 x2||aB (fX x0 x1 x2) (ir x0 x1 x2) x2&&leN (1:Nat) (List.length [(-1:Int),(0:Int),(23:Int),(24:Int)]),!cM x0 x1 x2||aB (kX x0 x1 x2) (lV x0 x1 x2) x2&&leN (1:Nat) (List.length [(0:Int),(999:Int),(1000:Int)]),!cM x0 x1 x2||leN (List.length (cz x0 x1 x2) + List.length (lW x0 x1 x2)) (9223372036854775807:Nat),!cM x0 x1 x2||leN ((List.length (cz x0 x1 x2) + List.length (lW x0 x1 x2)) * (16:Nat)) (140737488355328:Nat),cM x0 x1 x2||(!iq x0 x1 x2||Lp.fin gg (lU x0 x1 x2)),cM x0 x1 x2||(iq x0 x1 x2||(!iQ x0 x1 x2||leN (List.length (cz x0 x1 x2) + List.length (cz x0 x1 x2)) (9223372036854775807:Nat))),cM x0 x1 x2||(iq x0 x1 x2||(!iQ x0 x1 x2||leN ((List.length (cz x0 x1 x2) + List.length (cz x0 x1 x2)) * (16:Nat)) (140737488355328:Nat)))]
end
def Zn:List SV→List Entry→Option Out
 | [.one ⟨false,[.ptr 0 0]⟩],[.box 157 [.ref 1,.val (.int .i64 x0),.val (.int .i64 x1)],.row false 5 (.int .u8) x2]=>some ⟨.one ⟨false,[.ref 2]⟩,[.box 157 [.ref 1,.val (.int .i64 (mj x0 x1 x2)),.val (.int .i64 (ml x0 x1 x2))],.row false 5 aj7 x2],[.row true 176 aiq (mm x0 x1 x2)],[sU x0 x1 x2]⟩
 |_,_=>none
def akj:PF prog:=PF.ofG prog [ae,PF.lend ae,PF.fz ae,ar,PF.lend ar,PF.fz ar] [gf.F,gg.F] aO 141 f141 func141 (LOk.fnT (l:= [aK f141 0,aK f141 1]) (by kernel_rfl) (.cons abW (.cons abX (.nil _)))) Zn (by
 intro vs es r h;unfold Zn at h;split at h
 ·cases h;kernel_rfl
 ·cases h)
abbrev pH:=Int×Int×List Int
section
variable (y0 y1:Int)(y2:List Int)
def VV:Bool:=ltI (0:Int) y0
def VW:Bool:=leN (List.length y2 + List.length [y1]) (9223372036854775807:Nat)
def VX:Bool:=leN ((List.length y2 + List.length [y1]) * (8:Nat)) (140737488355328:Nat)
def VY:Int:=IntKind.wrap .i64 (y0 - (1:Int))
def VZ:List Int:=y2++ [y1]
end
def ak9:pH→List (Nat×SV)
 |(y0,y1,_)=> [(0,(.one ⟨false,[.val (.int .i64 y0)]⟩)),(5,(.one ⟨false,[.ref 0]⟩)),(1,(.one ⟨false,[.val (.int .i64 y1)]⟩))]
def ak1:pH→List (Nat×Entry)
 |(_,_,y2)=> [(0,(.row true 2 ajn y2))]
def alq:Nat→pH→List (Nat×SV)
 |_,(_,_,_)=> [(5,(.one ⟨false,[.ref 0]⟩))]
def alh:Nat→pH→List (Nat×Entry)
 |_,(_,_,y2)=> [(0,(.row true 2 ajn y2))]
def Te:pH→LT pH
 |(y0,y1,y2)=> .ite (VV y0) (.need [VW y1 y2,VX y1 y2] (.nrm ((VY y0),y1,(VZ y1 y2)) [(0,384)])) (.ext 0 [(0,0)])
def Tq(s:St):Option pH:=
 (match s.look 0 with
 |some ⟨none,.one ⟨false,[.val (.int .i64 y0)]⟩⟩=>
 (match s.look 5 with
 |some ⟨none,.one ⟨false,[.ref 128]⟩⟩=>
 (match s.look 1 with
 |some ⟨none,.one ⟨false,[.val (.int .i64 y1)]⟩⟩=>
 (match s.ent 128 with
 |some (.row true 2 (.int .i64) y2)=>
 some (y0,y1,y2)
 |_=>none)
 |_=>none)
 |_=>none)
 |_=>none)
def lu:Lp pH where
 h:=⟨[7,8,11,12,13,14,5,9,10,0],[],[0],[]⟩
 JL:=ak9
 JE:=ak1
 XL:=alq
 XE:=alh
 q:=fun j=>match j with | _=> .exit 0
 tags:= [0]
 lt:=Te
 fuel:=fun(y0,y1,y2)=>y0.natAbs + y1.natAbs + y2.length
 fix:=fun(_,y1,_) (y0,_,y2)=>(y0,y1,y2)
 σ:= [(0,128)]
 rd:=Tq
theorem aiG:LoopOk prog (fun k=>Nat.blt k Tryz.f74.ntmps) lu.F (aK f74 0):=by
 refine Lp.ok (tbl:= []) (lf:= []) aO lu (by kernel_rfl) (LOk.nil _) (fun _=>rfl) (fun _ _=>rfl) ?_ ?_ ?_ ?_ (fun _=>rfl) ?_
 ·rintro⟨y0,y1,y2⟩;kernel_rfl
 ·rintro⟨y0,y1,y2⟩;kernel_rfl
 ·intro s x h
  have h:Tq s=some x:=h
  unfold Tq at h
  repeat' split at h
  all_goals cases h
  exact⟨aa (by assumption) rfl (aa (by assumption) rfl (aa (by assumption) rfl (rfl))),ab rfl (by assumption) rfl (rfl)⟩
 ·rintro⟨y0,y1,y2⟩;kernel_rfl
 ·rintro⟨y0,y1,y2⟩ z;exact(And.intro rfl trivial)
section
variable (x0 x1:Int)
def CN:Int×Int×List Int:=(x0,x1,[])
def rF:List Int:=(Lp.res lu (CN x0 x1)).2.2.2
def KT:Bool:=allT [Lp.fin lu (CN x0 x1)]
end
def ahK:List SV→List Entry→Option Out
 | [.one ⟨false,[.val (.int .i64 x0)]⟩,.one ⟨false,[.val (.int .i64 x1)]⟩],[]=>some ⟨.one ⟨false,[.ref 0]⟩,[],[.row true 2 ajn (rF x0 x1)],[KT x0 x1]⟩
 |_,_=>none
def aqP:PF prog:=PF.ofG prog [] [lu.F] aO 74 f74 func74 (LOk.fnT (l:= [aK f74 0]) (by kernel_rfl) (.cons aiG (.nil _))) ahK (by
 intro vs es r h;unfold ahK at h;split at h
 ·cases h;kernel_rfl
 ·cases h)
section
variable (x0 x1 x2:Int)(x3:List Int)
def xF:Bool:=ltI (nxV (4:Int) x1 x2 x3) (2:Int)
def ib:Int:=bif xF x1 x2 x3 then nxA x0 (nxA (4:Int) x1 x3) x3 else nxA (4:Int) x1 x3
def JS:Int:=bif xF x1 x2 x3 then nxS x0 (nxA (4:Int) x1 x3) (nxS (4:Int) x1 x2 x3) x3 else nxS (4:Int) x1 x2 x3
def Rk:Int:=nxV (40:Int) (ib x0 x1 x2 x3) (JS x0 x1 x2 x3) x3
def sS:Bool:=Rk x0 x1 x2 x3==(0:Int)
def sT:Int:=nxS (40:Int) (ib x0 x1 x2 x3) (JS x0 x1 x2 x3) x3
def xG:Bool:=Rk x0 x1 x2 x3==(1:Int)
def Rl:Int:=bif xF x1 x2 x3 then nxV (4:Int) x1 x2 x3 else nxV (4:Int) x1 x2 x3
def Rm:Int:=bif xF x1 x2 x3 then nxV x0 (nxA (4:Int) x1 x3) (nxS (4:Int) x1 x2 x3) x3 else(0:Int)
def Ds:List Int:= [(-1:Int),x0,(1:Int)]
def PO:Bool:=aB (nxA (40:Int) (ib x0 x1 x2 x3) x3) (sT x0 x1 x2 x3) x3
def Mr:Int:=bif sS x0 x1 x2 x3 then pkV (nxA (40:Int) (ib x0 x1 x2 x3) x3) (sT x0 x1 x2 x3) [(-1:Int),(4:Int),(2:Int)] x3 else bif xG x0 x1 x2 x3 then Rl x1 x2 x3 else Rl x1 x2 x3
def Mt:Int:=bif sS x0 x1 x2 x3 then Rm x0 x1 x2 x3 else bif xG x0 x1 x2 x3 then pkV (nxA (40:Int) (ib x0 x1 x2 x3) x3) (sT x0 x1 x2 x3) (Ds x0) x3 else Rm x0 x1 x2 x3
def Ge:Int:=bif sS x0 x1 x2 x3 then pkA (nxA (40:Int) (ib x0 x1 x2 x3) x3) [(-1:Int),(4:Int),(2:Int)] x3 else bif xG x0 x1 x2 x3 then pkA (nxA (40:Int) (ib x0 x1 x2 x3) x3) (Ds x0) x3 else nxA (40:Int) (ib x0 x1 x2 x3) x3
def Gf:Int:=bif sS x0 x1 x2 x3 then pkS (nxA (40:Int) (ib x0 x1 x2 x3) x3) (sT x0 x1 x2 x3) [(-1:Int),(4:Int),(2:Int)] x3 else bif xG x0 x1 x2 x3 then pkS (nxA (40:Int) (ib x0 x1 x2 x3) x3) (sT x0 x1 x2 x3) (Ds x0) x3 else sT x0 x1 x2 x3
def TA:Bool:=allT [aB x1 x2 x3,!xF x1 x2 x3||aB (nxA (4:Int) x1 x3) (nxS (4:Int) x1 x2 x3) x3,aB (ib x0 x1 x2 x3) (JS x0 x1 x2 x3) x3,!sS x0 x1 x2 x3||PO x0 x1 x2 x3&&leN (1:Nat) (List.length [(-1:Int),(4:Int),(2:Int)]),sS x0 x1 x2 x3||(!xG x0 x1 x2 x3||PO x0 x1 x2 x3&&leN (1:Nat) (List.length (Ds x0)))]
end
def ZZ:List SV→List Entry→Option Out
 | [.one ⟨false,[.ptr 0 0]⟩,.one ⟨false,[.val (.int .i64 x0)]⟩],[.box 157 [.ref 1,.val (.int .i64 x1),.val (.int .i64 x2)],.row false 5 (.int .u8) x3]=>some ⟨.one ⟨true,[.val (.int .i64 (Mr x0 x1 x2 x3)),.val (.int .i64 (Mt x0 x1 x2 x3))]⟩,[.box 157 [.ref 1,.val (.int .i64 (Ge x0 x1 x2 x3)),.val (.int .i64 (Gf x0 x1 x2 x3))],.row false 5 aj7 x3],[],[TA x0 x1 x2 x3]⟩
 |_,_=>none
def alQ:PF prog:=PF.ofG prog [ae,PF.lend ae,PF.fz ae,ar,PF.lend ar,PF.fz ar] [] aO 142 f142 func142 (fun c _=>LOk.nil c) ZZ (by
 intro vs es r h;unfold ZZ at h;split at h
 ·cases h;kernel_rfl
 ·cases h)
section
variable (x0 x1:Int)(x2:List Int)
def xU:Int:=pkA (nxA (10:Int) x0 x2) [(0:Int),(1:Int),(2:Int),(3:Int),(3:Int)] x2
def SH:Int:=pkS (nxA (10:Int) x0 x2) (nxS (10:Int) x0 x1 x2) [(0:Int),(1:Int),(2:Int),(3:Int),(3:Int)] x2
def SI:Int:=nxS (3:Int) (xU x0 x2) (SH x0 x1 x2) x2
def Za:Int:=nxV (60:Int) (nxA (3:Int) (xU x0 x2) x2) (SI x0 x1 x2) x2
def xV:Bool:=Za x0 x1 x2==(0:Int)
def rS:Int:=nxA (60:Int) (nxA (3:Int) (xU x0 x2) x2) x2
def xW:Int:=nxS (60:Int) (nxA (3:Int) (xU x0 x2) x2) (SI x0 x1 x2) x2
def CJ:Bool:=Za x0 x1 x2==(1:Int)
def Zb:Int:=pkV (nxA (10:Int) x0 x2) (nxS (10:Int) x0 x1 x2) [(0:Int),(1:Int),(2:Int),(3:Int),(3:Int)] x2
def SJ:Bool:=ltI (0:Int) (nxV (3:Int) (xU x0 x2) (SH x0 x1 x2) x2)
def VL:Int:=bif xV x0 x1 x2 then pkV (rS x0 x2) (xW x0 x1 x2) [(-1:Int),(10:Int)] x2 else bif CJ x0 x1 x2 then nxV (10:Int) x0 x1 x2 else nxV (10:Int) x0 x1 x2
def VM:Int:=bif xV x0 x1 x2 then Zb x0 x1 x2 else bif CJ x0 x1 x2 then pkV (rS x0 x2) (xW x0 x1 x2) [(-1:Int),(4:Int)] x2 else Zb x0 x1 x2
def VN:Bool:=bif xV x0 x1 x2 then SJ x0 x1 x2 else bif CJ x0 x1 x2 then SJ x0 x1 x2 else SJ x0 x1 x2
def PR:Int:=bif xV x0 x1 x2 then pkA (rS x0 x2) [(-1:Int),(10:Int)] x2 else bif CJ x0 x1 x2 then pkA (rS x0 x2) [(-1:Int),(4:Int)] x2 else rS x0 x2
def PS:Int:=bif xV x0 x1 x2 then pkS (rS x0 x2) (xW x0 x1 x2) [(-1:Int),(10:Int)] x2 else bif CJ x0 x1 x2 then pkS (rS x0 x2) (xW x0 x1 x2) [(-1:Int),(4:Int)] x2 else xW x0 x1 x2
def abu:Bool:=allT [aB x0 x1 x2,aB (nxA (10:Int) x0 x2) (nxS (10:Int) x0 x1 x2) x2&&leN (1:Nat) (List.length [(0:Int),(1:Int),(2:Int),(3:Int),(3:Int)]),aB (xU x0 x2) (SH x0 x1 x2) x2,aB (nxA (3:Int) (xU x0 x2) x2) (SI x0 x1 x2) x2,!xV x0 x1 x2||aB (rS x0 x2) (xW x0 x1 x2) x2&&leN (1:Nat) (List.length [(-1:Int),(10:Int)]),xV x0 x1 x2||(!CJ x0 x1 x2||aB (rS x0 x2) (xW x0 x1 x2) x2&&leN (1:Nat) (List.length [(-1:Int),(4:Int)]))]
end
def ahB:List SV→List Entry→Option Out
 | [.one ⟨false,[.ptr 0 0]⟩],[.box 157 [.ref 1,.val (.int .i64 x0),.val (.int .i64 x1)],.row false 5 (.int .u8) x2]=>some ⟨.one ⟨true,[.val (.int .i64 (VL x0 x1 x2)),.val (.int .i64 (VM x0 x1 x2)),.val (.bool (VN x0 x1 x2))]⟩,[.box 157 [.ref 1,.val (.int .i64 (PR x0 x1 x2)),.val (.int .i64 (PS x0 x1 x2))],.row false 5 aj7 x2],[],[abu x0 x1 x2]⟩
 |_,_=>none
def aqK:PF prog:=PF.ofG prog [ae,PF.lend ae,PF.fz ae,ar,PF.lend ar,PF.fz ar] [] aO 143 f143 func143 (fun c _=>LOk.nil c) ahB (by
 intro vs es r h;unfold ahB at h;split at h
 ·cases h;kernel_rfl
 ·cases h)
theorem Lp.inv{X:Type}(p:Lp X)(I Q:Nat→X→Prop)
  (hs: ∀ k x,I (k + 1) x→(∃ j,(p.lt x).out=some (.inl j)∧Q j x)∨ ∃ y,(p.lt x).out=some (.inr y)∧I k y)
  (he: ∀ x,I 0 x→ ∃ j,(p.lt x).out=some (.inl j)∧Q j x) (N:Nat) (x:X) (hN:N≤999) (h:I N x):
  p.fin x=true∧ ∃ j y,p.res x=(j,y)∧Q j y:=by
 have cH: ∀ (k:Nat) (x:X),I k x→ ∃ j y,Wh p.lt (k + 1) x=some (j,y)∧Q j y:=by
  intro k
  induction k with
  |zero=>
   intro x h
   obtain⟨j,h1,h2⟩:=he x h
   exact⟨j,x,ano _ h1,h2⟩
  |succ k ih=>
   intro x h
   rcases hs k x h with⟨j,h1,h2⟩ | ⟨y,h1,h2⟩
   ·exact⟨j,x,ano _ h1,h2⟩
   ·obtain⟨j,z,h3,h4⟩:=ih y h2
    exact⟨j,z,by rw [ar6 _ h1];exact h3,h4⟩
 obtain⟨j,y,h1,h2⟩:=cH N x h
 obtain⟨r1,r2⟩:=p.run h1 (auP (by omega))
 exact⟨r1,j,y,r2,h2⟩
theorem fN{n a s:Int}{c:List Int}(h:aB a s c=true):aB (nxA n a c) (nxS n a s c) c=true:=(am9 n h).2.1
theorem pz{a s x:Int}{l c:List Int}(h:aB a s c=true):aB (pkA a (x::l) c) (pkS a s (x::l) c) c=true:=(avG (l:=x::l) (by rw [h];rfl)).2.1
theorem aaW{n a s:Int}{c:List Int}(h:aB a s c=true)(hn:1≤n):0≤nxV n a s c∧nxV n a s c < n:=⟨(am9 n h).2.2.1,(am9 n h).2.2.2 hn⟩
theorem sd{C:Type}(x:C)(l:List C):leN 1 (x::l).length=true:=bY (by simp)
theorem awQ(c:List Int)(bl:Int)(hbl:bl≠0)(K:Nat)(hK:K≤100)(p a s:Int)(h:aB a s c=true):
  iS.fin ((K:Int),p,bl,a,s,[],c)=true∧ ∃ j y,iS.res ((K:Int),p,bl,a,s,[],c)=(j,y)∧aB y.2.2.2.1 y.2.2.2.2.1 c=true∧y.2.2.2.2.2.1.length=K:=by
 refine iS.inv (fun k x=>x.1=(k:Int)∧x.2.2.1=bl∧aB x.2.2.2.1 x.2.2.2.2.1 c=true∧x.2.2.2.2.2.1.length + k=K∧x.2.2.2.2.2.2=c) (fun _ y=>aB y.2.2.2.1 y.2.2.2.2.1 c=true∧y.2.2.2.2.2.1.length=K)
  (fun k x hx=> .inr ?_) (fun x hx=> ?_) K _ (by omega) ⟨rfl,rfl,h,by simp,rfl⟩
 ·obtain⟨y0,y1,y2,y3,y4,y5,y6⟩:=x
  obtain⟨h0,h1,h2,h3,h4⟩:=hx
  simp only at h0 h1 h2 h3 h4
  subst h0 h1 h4
  have t1:ltI 0 ((k + 1:Nat):Int)=true:=du (by omega)
  have t2:neI y2 0=true:=ao5 hbl
  have t3:neI 2 0=true:=by decide
  have t4:=pz (x:=0) (l:= [1,1,2]) h2
  have t5:leN (y5.length + 1) 9223372036854775807=true:=bY (by omega)
  have t6:leN ((y5.length + 1) * 8) 140737488355328=true:=bY (by omega)
  have t7:=sd (0:Int) [1,1,2]
  refine⟨?_,?_,?_⟩
  rotate_left
  ·simp only [iS,Tb,LT.out,allT,VE,acD,acE,acF,acG,VF,acH,FY,FZ,Mp,List.length_singleton,t1,t2,t3,t4,t5,t6,t7,h2,cond_true,Bool.and_self]
   rfl
  ·have s9:aB (acJ y3 y6) (abn y3 y4 y6) y6=true:=fN (n:=3) t4
   refine⟨?_,rfl,s9,?_,rfl⟩
   ·simp only [acI];rw [aw (by omega) (by omega)];omega
   ·simp only [abo,FY,List.length_append,List.length_singleton];omega
 ·obtain⟨y0,y1,y2,y3,y4,y5,y6⟩:=x
  obtain⟨h0,h1,h2,h3,h4⟩:=hx
  simp only at h0 h1 h2 h3 h4
  subst h0 h1 h4
  exact⟨0,by simp [iS,Tb,LT.out,VE],h2,by simpa using h3⟩
theorem aqf(a s:Int)(c:List Int)(h:aB a s c=true):
  abm a s c=true∧aB (mD a s c) (Bi a s c) c=true∧(ro a s c).length≤9:=by
 have n1:=aaW (n:=5) h (by omega)
 have s1:=fN (n:=5) h
 have a0:cj a s c=2 + nxV 5 a s c:=by simp only [cj];rw [aw (by omega) (by omega)]
 have s2:=fN (n:=cj a s c) s1
 have a1:2≤jU a s c∧jU a s c≤4:=by
  simp only [jU,amU]
  cases hl:ltI (cj a s c) 4 with
  |true=>have:=Xz.1 hl;simp only [cond_true];omega
  |false=>simp
 have n2:=aaW (n:=jU a s c) s2 (by omega)
 have s3:=fN (n:=jU a s c) s2
 obtain⟨r1,j,y,r2,r3,r4⟩:=awQ c (cj a s c) (by omega) (1 + nxV (jU a s c) (mq a s c) (rR a s c) c).toNat
  (by simp only [mq,rR];omega) (nxV (cj a s c) (nxA 5 a c) (nxS 5 a s c) c) _ _ s3
 have e4:GV a s c=(((1 + nxV (jU a s c) (mq a s c) (rR a s c) c).toNat:Int),nxV (cj a s c) (nxA 5 a c) (nxS 5 a s c) c,cj a s c,
   nxA (jU a s c) (mq a s c) c,nxS (jU a s c) (mq a s c) (rR a s c) c,[],c):=by
  simp only [GV,mq,rR]
  rw [aw (by omega) (by omega)]
  rw [show (((1 + nxV (jU a s c) (nxA (cj a s c) (nxA 5 a c) c) (nxS (cj a s c) (nxA 5 a c) (nxS 5 a s c) c) c).toNat:Nat):Int)=1 + nxV (jU a s c) (nxA (cj a s c) (nxA 5 a c) c) (nxS (cj a s c) (nxA 5 a c) (nxS 5 a s c) c) c by omega]
 have f1:Lp.fin iS (GV a s c)=true:=by rw [e4];exact r1
 have f2:Lp.res iS (GV a s c)=(j,y):=by rw [e4];exact r2
 have g6:cm a s c=y.2.2.2.1:=by simp only [cm,MY,f2]
 have g7:(xT a s c).1=y.2.2.2.2.1:=by simp only [xT,MY,f2]
 have g16:mF a s c=y.2.2.2.2.2.1:=by simp only [mF,xT,MY,f2]
 have s4:aB (cm a s c) ((xT a s c).1) c=true:=by rw [g6,g7];exact r3
 have s5:=fN (n:=40) s4
 have n5:=aaW (n:=2) s5 (by omega)
 have hK:1≤(mF a s c).length∧(mF a s c).length≤4:=by
  rw [g16,r4];simp only [mq,rR];omega
 have a17:4≤kE a s c∧kE a s c≤5:=by
  simp only [kE,jJ];rw [aw (by omega) (by omega)];omega
 have t1:ltI 0 (((mF a s c).length:Nat):Int)=true:=du (by omega)
 have t2:ltN 0 (mF a s c).length=true:=ec (by omega)
 have t3:leI 0 (kE a s c)=true:=ct (by omega)
 have t4:leI ((8:Nat) * kE a s c) 281474976710656=true:=ct (by omega)
 have t5:leI (kE a s c) 9223372036854775807=true:=ct (by omega)
 have a18:QM a s c=true:=s5
 have s2':aB (mq a s c) (rR a s c) c=true:=s2
 refine⟨?_,?_,?_⟩
 ·simp only [abm,allT,h,s1,s2',f1,s4,a18,Et,sd,t1,t2,t3,t4,t5,am0,Int.toNat_zero,Bool.or_true,Bool.and_self,cond_true]
 ·have s5':aB (nxA 40 (cm a s c) c) (jJ a s c) c=true:=s5
  have hnx: ∀ n,aB (nxA n (nxA 40 (cm a s c) c) c) (nxS n (nxA 40 (cm a s c) c) (jJ a s c) c) c=true:=fun n=>fN s5'
  have hpk: ∀ x l,aB (pkA (nxA 40 (cm a s c) c) (x::l) c) (pkS (nxA 40 (cm a s c) c) (jJ a s c) (x::l) c) c=true:=fun x l=>pz s5'
  simp only [mD,Bi,Et]
  cases ia a s c <;> cases gM a s c <;> cases mE a s c <;> cases Es a s c <;> simp only [cond_true,cond_false,s5',hnx,hpk]
 ·simp only [ro]
  cases ia a s c <;> cases gM a s c <;> cases mE a s c <;> cases Es a s c <;> simp only [cond_true,cond_false,List.length_set,List.length_replicate,List.length_nil] <;> omega
def ah1:List SV→List Entry→Option Out
 | [.one ⟨false,[.ptr 0 0]⟩],[.box 157 [.ref 1,.val (.int .i64 x0),.val (.int .i64 x1)],.row false 5 (.int .u8) x2]=>some ⟨.one ⟨true,[.val (.int .i64 (jX x0 x1 x2)),.ref 2]⟩,[.box 157 [.ref 1,.val (.int .i64 (mD x0 x1 x2)),.val (.int .i64 (Bi x0 x1 x2))],.row false 5 aj7 x2],[.row true 2 ajn (ro x0 x1 x2)],[aB x0 x1 x2]⟩
 |_,_=>none
def wE:PF prog:=PF.alt aqG ah1 (by
 intro args es o h bz;unfold ah1 at h;split at h
 ·rename_i x0 x1 x2
  cases h
  have bz:=fM bz
  have hh:=(aqf x0 x1 x2 bz).1
  have en:=hh
  exact jK rfl (fj en) rfl rfl rfl
 ·cases h)
theorem asr(c:List Int)(bl a s:Int)(h:aB a s c=true):
  cn.fin ((0:Int),bl,a,s,[],c)=true∧ ∃ j y,cn.res ((0:Int),bl,a,s,[],c)=(j,y)∧aB y.2.2.1 y.2.2.2.1 c=true∧y.2.2.2.2.1.length≤14:=by
 refine cn.inv (fun k x=>x.1=7 - (k:Int)∧k≤7∧aB x.2.2.1 x.2.2.2.1 c=true∧x.2.2.2.2.1.length + 2 * k≤14∧x.2.2.2.2.2=c) (fun _ y=>aB y.2.2.1 y.2.2.2.1 c=true∧y.2.2.2.2.1.length≤14)
  (fun k x hx=> ?_) (fun x hx=> ?_) 7 _ (by omega) ⟨by simp,by omega,h,by simp,rfl⟩
 ·obtain⟨y0,y1,y2,y3,y4,y5⟩:=x
  obtain⟨h0,h1,h2,h3,h4⟩:=hx
  simp only at h0 h1 h2 h3 h4
  subst h4
  have s1:=fN (n:=6) h2
  have s2:=fN (n:=2) s1
  have s3:=fN (n:=4) s1
  have s2':aB (tK y2 y5) (zQ y2 y3 y5) y5=true:=s2
  have s3':aB (oD y2 y5) (tM y2 y3 y5) y5=true:=s3
  have sA:aB (RO y2 y5) (RP y2 y3 y5) y5=true:=fN (n:=2) s2
  have sB:aB (RU y2 y5) (RW y2 y3 y5) y5=true:=fN (n:=3) s3
  have sC:aB (RZ y2 y5) (Sa y2 y3 y5) y5=true:=s3
  have sD:aB (Sb y2 y5) (Sc y2 y3 y5) y5=true:=s1
  have hw:IntKind.i64.wrap (y0 + 1)=y0 + 1:=aw (by omega) (by omega)
  have t3:neI 2 0=true:=by decide
  have t5:leN (y4.length + 1) 9223372036854775807=true:=bY (by omega)
  have t6:leN ((y4.length + 1) * 24) 140737488355328=true:=bY (by omega)
  have t7:leN (y4.length + 2) 9223372036854775807=true:=bY (by omega)
  have t8:leN ((y4.length + 2) * 24) 140737488355328=true:=bY (by omega)
  cases hc:KL y0 y1 with
  |false=>exact .inl ⟨0,by simp [cn,zM,LT.out,hc],h2,by simp only;omega⟩
  |true=>
   right
   cases c0:dS y2 y3 y5 <;> cases c5:ly y2 y3 y5 <;> cases c6:oC y2 y3 y5
   all_goals
    refine⟨?_,?_,?_⟩
    rotate_left
    ·simp only [cn,zM,LT.out,allT,hc,TU,TV,TW,TX,TY,TZ,Ua,Ub,Uc,RM,RN,RR,RT,Ja,tL,tN,List.length_cons,List.length_nil,Nat.zero_add,Nat.reduceAdd,c0,c5,c6,h2,s1,s2',s3',t3,t5,t6,t7,t8,cond_true,cond_false,Bool.or_true,Bool.true_or,Bool.or_false,Bool.not_true,Bool.not_false,Bool.and_self]
     try rfl
    ·refine⟨?_,by omega,?_,?_,rfl⟩
     ·simp only [tJ,hw];omega
     ·simp only [sA,sB,sC,sD]
     ·simp only [RQ,RY,tL,tN,List.length_append,List.length_cons,List.length_nil];omega
 ·obtain⟨y0,y1,y2,y3,y4,y5⟩:=x
  obtain⟨h0,h1,h2,h3,h4⟩:=hx
  simp only at h0 h1 h2 h3 h4
  have t1:ltI y0 7=false:=akN (by omega)
  refine⟨0,?_,h2,by simp only;omega⟩
  simp only [cn,zM,LT.out,KL,t1]
  cases ltI y0 y1 <;> rfl
theorem ass(c:List Int)(a s:Int)(h:aB a s c=true):
  cq.fin ((0:Int),a,s,[],c)=true∧ ∃ j y,cq.res ((0:Int),a,s,[],c)=(j,y)∧aB y.2.1 y.2.2.1 c=true∧y.2.2.2.1.length≤14:=by
 refine cq.inv (fun k x=>x.1=9 - (k:Int)∧k≤9∧aB x.2.1 x.2.2.1 c=true∧x.2.2.2.1.length + k≤9∧x.2.2.2.2=c) (fun _ y=>aB y.2.1 y.2.2.1 c=true∧y.2.2.2.1.length≤14)
  (fun k x hx=> ?_) (fun x hx=> ?_) 9 _ (by omega) ⟨by simp,by omega,h,by simp,rfl⟩
 ·obtain⟨y0,y1,y2,y3,y4⟩:=x
  obtain⟨h0,h1,h2,h3,h4⟩:=hx
  simp only at h0 h1 h2 h3 h4
  subst h4
  have s1:=fN (n:=2) h2
  have hw:IntKind.i64.wrap (y0 + 1)=y0 + 1:=aw (by omega) (by omega)
  have t3:neI 2 0=true:=by decide
  have t5:leN (y3.length + 1) 9223372036854775807=true:=bY (by omega)
  have t6:leN ((y3.length + 1) * 24) 140737488355328=true:=bY (by omega)
  cases hc:Cg y0 y1 y2 y4 with
  |false=>exact .inl ⟨0,by simp [cq,zN,LT.out,hc,allT,Cf,h2],h2,by simp only;omega⟩
  |true=>
   right
   refine⟨?_,?_,?_⟩
   rotate_left
   ·simp only [cq,zN,LT.out,allT,hc,Cf,KM,Ud,Ue,tO,List.length_singleton,h2,t3,t5,t6,cond_true]
    rfl
   ·refine⟨?_,by omega,s1,?_,rfl⟩
    ·simp only [Uf,hw];omega
    ·simp only [Ug,tO,List.length_append,List.length_singleton];omega
 ·obtain⟨y0,y1,y2,y3,y4⟩:=x
  obtain⟨h0,h1,h2,h3,h4⟩:=hx
  simp only at h0 h1 h2 h3 h4
  subst h4
  have n1:=aaW (n:=2) h2 (by omega)
  have t1:Cg y0 y1 y2 y4=false:=by
   simp only [Cg];rw [aw (by omega) (by omega)];exact akN (by omega)
  exact⟨0,by simp [cq,zN,LT.out,t1,allT,Cf,h2],h2,by simp only;omega⟩
theorem akH(bl a s:Int)(c:List Int)(h:aB a s c=true):
  PN bl a s c=true∧aB (Bv bl a s c) (Bw bl a s c) c=true∧(Bx bl a s c).length≤15:=by
 obtain⟨r1,j,y,r2,r3,r4⟩:=asr c bl a s h
 have f1:Lp.fin cn (Gy bl a s c)=true:=r1
 have f2:Lp.res cn (Gy bl a s c)=(j,y):=r2
 have g3:dP bl a s c=y.2.2.1:=by simp only [dP,yP,f2]
 have g5:tv bl a s c=y.2.2.2.1:=by simp only [tv,Gz,yP,f2]
 have g19:kP bl a s c=y.2.2.2.2.1:=by simp only [kP,Gz,yP,f2]
 have s1:aB (dP bl a s c) (tv bl a s c) c=true:=by rw [g3,g5];exact r3
 have s2:aB (nxA 40 (dP bl a s c) c) (sn bl a s c) c=true:=fN s1
 have s3:aB (yR bl a s c) (DG bl a s c) c=true:=pz s2
 have s4:aB (wV bl a s c) (DH bl a s c) c=true:=pz s3
 obtain⟨q1,j',z,q2,q3,q4⟩:=ass c _ _ s2
 have f3:Lp.fin cq (DE bl a s c)=true:=q1
 have f4:Lp.res cq (DE bl a s c)=(j',z):=q2
 have g15:DF bl a s c=z.2.1:=by simp only [DF,wW,f4]
 have g18:(sq bl a s c).1=z.2.2.1:=by simp only [sq,wW,f4]
 have g18':((sq bl a s c).2).1=z.2.2.2.1:=by simp only [sq,wW,f4]
 have l20:(sr bl a s c).length=1:=rfl
 have t5:leN ((kP bl a s c).length + (sr bl a s c).length) 9223372036854775807=true:=bY (by rw [g19,l20];omega)
 have t6:leN (((kP bl a s c).length + (sr bl a s c).length) * 24) 140737488355328=true:=bY (by rw [g19,l20];omega)
 refine⟨?_,?_,?_⟩
 ·simp only [PN,allT,f1,s1,s2,s3,s4,f3,t5,t6,yQ,sd,Bool.or_true,Bool.and_self,cond_true]
 ·simp only [Bv,Bw]
  cases gB bl a s c with
  |true=>exact fN s4
  |false=>
   cases sm bl a s c with
   |true=>
    simp only [cond_true,cond_false,g15,g18,Ch,Ci]
    exact fN q3
   |false=>exact s2
 ·simp only [Bx]
  cases gB bl a s c with
  |true=>simp only [cond_true,List.length_append,g19,l20];omega
  |false=>
   cases sm bl a s c with
   |true=>simp only [cond_true,cond_false,g18'];omega
   |false=>simp only [cond_false,g19];omega
def XW:List SV→List Entry→Option Out
 | [.one ⟨false,[.ptr 0 0]⟩,.one ⟨false,[.val (.int .i64 x0)]⟩],[.box 157 [.ref 1,.val (.int .i64 x1),.val (.int .i64 x2)],.row false 5 (.int .u8) x3]=>some ⟨.one ⟨false,[.ref 2]⟩,[.box 157 [.ref 1,.val (.int .i64 (Bv x0 x1 x2 x3)),.val (.int .i64 (Bw x0 x1 x2 x3))],.row false 5 aj7 x3],[.row true 169 adk (Bx x0 x1 x2 x3)],[aB x1 x2 x3]⟩
 |_,_=>none
def kM:PF prog:=PF.alt aiS XW (by
 intro args es o h bz;unfold XW at h;split at h
 ·rename_i x0 x1 x2 x3
  cases h
  have bz:=fM bz
  have hh:=(akH x0 x1 x2 x3 bz).1
  have en:=hh
  exact jK rfl (fj en) rfl rfl rfl
 ·cases h)
theorem S1:(∀ b:Bool,(b||false)=b)∧((false=true)=False)∧(∀ a b:Bool,((a&&b)=true)=(a=true∧b=true))∧(∀ a b:Int,(ltI a b=true)=(a < b))∧(∀ a b:Int,(leI a b=true)=(a≤b))∧(∀ a b:Int,(ltI a b=false)=(b≤a))∧(∀ a b:Int,(leI a b=false)=(b < a)):=by and_intros <;> intros <;> simp
theorem S2:(∀ (α:Type) (a b:List α),(a++b).length=a.length + b.length)∧(∀ (α:Type) (a:α) (l:List α),(a::l).length=l.length + 1)∧(∀ α:Type,([]:List α).length=0):=by and_intros <;> intros <;> simp
theorem aya{a b:Bool}(h:b=true):(a||b)=true:=by rw [h,Bool.or_true]
theorem EK{b:Bool}{l:List Bool}:allT (b::l)=true↔b=true∧allT l=true:=by cases b <;> simp [allT]
theorem EL:allT []=true↔True:=by simp [allT]
theorem rH{t:Bool}{a a' s s':Int}{c:List Int}(h:aB a s c=true)(h':aB a' s' c=true):aB (bif t then a else a') (bif t then s else s') c=true:=by cases t <;> assumption
theorem mT{α:Type}{t:Bool}{l l':List α}{n:Nat}(h:l.length≤n)(h':l'.length≤n):(bif t then l else l').length≤n:=by cases t <;> assumption
def LT.ok{X:Type}(J:X→Prop)(Q:Nat→Prop):LT X→Prop
 | .nrm x _=>J x
 | .ext j _=>Q j
 | .need nd t=>allT nd=true∧t.ok J Q
 | .ite b t e=>(b=true→t.ok J Q)∧(b=false→e.ok J Q)
theorem LT.ok_out{X:Type}{J:X→Prop}{Q:Nat→Prop}: ∀ {t:LT X},t.ok J Q→(∃ j,t.out=some (.inl j)∧Q j)∨ ∃ y,t.out=some (.inr y)∧J y
 | .nrm x _,h=> .inr ⟨x,rfl,h⟩
 | .ext j _,h=> .inl ⟨j,rfl,h⟩
 | .need nd t,h=>by
  simp only [LT.ok]at h
  simp only [LT.out,h.1,cond_true]
  exact LT.ok_out (t:=t) h.2
 | .ite b t e,h=>by
  simp only [LT.ok]at h
  simp only [LT.out]
  cases b with
  |true=>exact LT.ok_out (t:=t) (h.1 rfl)
  |false=>exact LT.ok_out (t:=e) (h.2 rfl)
theorem Lp.inv2{X:Type}(p:Lp X)(I:Nat→X→Prop)(Q:X→Prop)(hs: ∀ k x,I (k + 1) x→(p.lt x).ok (I k) (fun _=>Q x))(he: ∀ x,I 0 x→(p.lt x).ok (fun _=>False) (fun _=>Q x))
  (N:Nat) (x:X) (hN:N≤999) (h:I N x):p.fin x=true∧ ∃ j y,p.res x=(j,y)∧Q y:=
 p.inv I (fun _ y=>Q y) (fun k x hx=>LT.ok_out (hs k x hx)) (fun x hx=>by
  rcases LT.ok_out (he x hx)with h | ⟨_,_,h⟩
  ·exact h
  ·exact h.elim) N x hN h
 attribute [local irreducible] nxA nxS nxV pkA pkS pkV
theorem aja(c:List Int)(x:pF)(hx:match x with | (y0,y1,y2,y3,y4)=>y0≤((5:Nat):Int)∧aB y2 y3 y4=true∧y1.length + (5:Nat)≤5∧y4=c):
  lq.fin x=true∧ ∃ j y,lq.res x=(j,y)∧(match y with | (y0,y1,y2,y3,y4)=>aB y2 y3 c=true∧y1.length≤5∧c=y4):=by
 refine lq.inv2 (fun k x=>match x with | (y0,y1,y2,y3,y4)=>y0≤(k:Int)∧aB y2 y3 y4=true∧y1.length + k≤5∧y4=c) (fun y=>match y with | (y0,y1,y2,y3,y4)=>aB y2 y3 c=true∧y1.length≤5∧c=y4) (fun k x hx=> ?_) (fun x hx=> ?_) 5 x (by omega) hx
 ·obtain⟨y0,y1,y2,y3,y4⟩:=x
  obtain⟨h0,h1,h2,rfl⟩:=hx
  skip
  simp only [lq,Tc,LT.ok,EK,EL,and_true,uq,ur,zo,zp,On,Oo,Oq,Ot,Ou,Ov,Ow,Ox,Oy,Oz,Bool.or_eq_true,Bool.and_eq_true]
  repeat' (first | refine And.intro ?_ ?_ | intro _)
  all_goals first
   |omega
   |(repeat (first | assumption | apply fN | apply pz | apply rH | refine Or.inr ?_ | refine And.intro ?_ ?_ | exact trivial | exact sd _ _ | rfl)
     done)
   |((repeat refine Or.inr ?_)
     exact bY (by first | omega | (simp only [S2];omega)))
   |(simp only [S2]
     omega)
   |(repeat' apply mT
     all_goals first | omega | (simp only [S2];omega))
   |(try simp only [S1]at *
     rw [aw (by omega) (by omega)]
     first | omega | (simp only [S2];omega))
   |(simp only [S1]at *
     first | omega | (exfalso;omega))
   |(exfalso;simp_all;done)
 ·obtain⟨y0,y1,y2,y3,y4⟩:=x
  obtain⟨h0,h1,h2,rfl⟩:=hx
  skip
  skip
  simp only [lq,Tc,LT.ok,EK,EL,and_true,uq,ur,zo,zp,On,Oo,Oq,Ot,Ou,Ov,Ow,Ox,Oy,Oz,Bool.or_eq_true,Bool.and_eq_true]
  repeat' (first | refine And.intro ?_ ?_ | intro _)
  all_goals first
   |omega
   |(repeat (first | assumption | apply fN | apply pz | apply rH | refine Or.inr ?_ | refine And.intro ?_ ?_ | exact trivial | exact sd _ _ | rfl)
     done)
   |((repeat refine Or.inr ?_)
     exact bY (by first | omega | (simp only [S2];omega)))
   |(simp only [S2]
     omega)
   |(repeat' apply mT
     all_goals first | omega | (simp only [S2];omega))
   |(try simp only [S1]at *
     rw [aw (by omega) (by omega)]
     first | omega | (simp only [S2];omega))
   |(simp only [S1]at *
     first | omega | (exfalso;omega))
   |(exfalso;simp_all;done)
theorem ajb(c:List Int)(x:pG)(hx:match x with | (y0,y1,y2,y3,y4)=>y0=(13:Int) - (13:Nat)∧(13:Nat)≤13∧aB y1 y2 y4=true∧y3.length + (13:Nat)≤13∧y4=c):
  lr.fin x=true∧ ∃ j y,lr.res x=(j,y)∧(match y with | (y0,y1,y2,y3,y4)=>aB y1 y2 c=true∧y3.length≤13∧c=y4):=by
 refine lr.inv2 (fun k x=>match x with | (y0,y1,y2,y3,y4)=>y0=(13:Int) - k∧k≤13∧aB y1 y2 y4=true∧y3.length + k≤13∧y4=c) (fun y=>match y with | (y0,y1,y2,y3,y4)=>aB y1 y2 c=true∧y3.length≤13∧c=y4) (fun k x hx=> ?_) (fun x hx=> ?_) 13 x (by omega) hx
 ·obtain⟨y0,y1,y2,y3,y4⟩:=x
  obtain⟨h0,h5,h1,h2,rfl⟩:=hx
  have nn:=aaW (n:=2) h1 (by omega);have hw:IntKind.i64.wrap (12 + nxV 2 y1 y2 y4)=12 + nxV 2 y1 y2 y4:=aw (by omega) (by omega)
  simp only [lr,Td,LT.ok,EK,EL,and_true,ut,HU,HV,HW,HX,HY,xl,xm,HZ,Bool.or_eq_true,Bool.and_eq_true]
  repeat' (first | refine And.intro ?_ ?_ | intro _)
  all_goals first
   |omega
   |(repeat (first | assumption | apply fN | apply pz | apply rH | refine Or.inr ?_ | refine And.intro ?_ ?_ | exact trivial | exact sd _ _ | rfl)
     done)
   |((repeat refine Or.inr ?_)
     exact bY (by first | omega | (simp only [S2];omega)))
   |(simp only [S2]
     omega)
   |(repeat' apply mT
     all_goals first | omega | (simp only [S2];omega))
   |(try simp only [S1]at *
     rw [aw (by omega) (by omega)]
     first | omega | (simp only [S2];omega))
   |(simp only [S1]at *
     first | omega | (exfalso;omega))
   |(exfalso;simp_all;done)
 ·obtain⟨y0,y1,y2,y3,y4⟩:=x
  obtain⟨h0,h5,h1,h2,rfl⟩:=hx
  have nn:=aaW (n:=2) h1 (by omega);have hw:IntKind.i64.wrap (12 + nxV 2 y1 y2 y4)=12 + nxV 2 y1 y2 y4:=aw (by omega) (by omega)
  skip
  simp only [lr,Td,LT.ok,EK,EL,and_true,ut,HU,HV,HW,HX,HY,xl,xm,HZ,Bool.or_eq_true,Bool.and_eq_true]
  repeat' (first | refine And.intro ?_ ?_ | intro _)
  all_goals first
   |omega
   |(repeat (first | assumption | apply fN | apply pz | apply rH | refine Or.inr ?_ | refine And.intro ?_ ?_ | exact trivial | exact sd _ _ | rfl)
     done)
   |((repeat refine Or.inr ?_)
     exact bY (by first | omega | (simp only [S2];omega)))
   |(simp only [S2]
     omega)
   |(repeat' apply mT
     all_goals first | omega | (simp only [S2];omega))
   |(try simp only [S1]at *
     rw [aw (by omega) (by omega)]
     first | omega | (simp only [S2];omega))
   |(simp only [S1]at *
     first | omega | (exfalso;omega))
   |(exfalso;simp_all;done)
theorem acL(a s:Int)(c:List Int)(h:aB a s c=true):Gk a s c=true∧aB (xh a s c) (xj a s c) c=true∧(xk a s c).length≤20:=by
 have n5:=aaW (n:=5) h (by omega)
 obtain⟨f0,j0,⟨z0,z1,z2,z3,z4⟩,g0,hq0⟩:=aja c (xX a s c) (by
  simp only [xX,CL,rT,xY,CM,kF,ol,tY,tZ,rU,vB,zl,zm,vC,zn,su,vD,xh,xj,xk,Gk]
  repeat' refine And.intro ?_ ?_
  all_goals first
   |omega
   |(repeat (first | assumption | apply fN | apply pz | apply rH | refine Or.inr ?_ | refine And.intro ?_ ?_ | exact trivial | exact sd _ _ | rfl | apply mT)
     done)
   |((repeat refine Or.inr ?_)
     exact bY (by first | omega | (simp only [S2];omega)))
   |(simp only [S2]
     omega)
   |(repeat' apply mT
     all_goals first | omega | (simp only [S2];omega))
   |(try simp only [S1]at *
     rw [aw (by omega) (by omega)]
     first | omega | (simp only [S2];omega))
   |(simp only [S1]at *
     first | omega | (exfalso;omega))
   |(exfalso;simp_all;done))
 obtain⟨p1,p2,rfl⟩:=hq0
 simp only [xX,CL,rT,xY,CM,kF,ol,tY,tZ,rU,vB,zl,zm,vC,zn,su,vD,xh,xj,xk,Gk]at f0 g0
 obtain⟨f1,j1,⟨u0,u1,u2,u3,u4⟩,g1,hq1⟩:=ajb c (vB a s c) (by
  simp only [xX,CL,rT,xY,CM,kF,ol,tY,tZ,rU,vB,zl,zm,vC,zn,su,vD,xh,xj,xk,Gk,f0,g0,ut,HU,HV,HW,HX,HY,xl,xm,HZ]
  repeat' refine And.intro ?_ ?_
  all_goals first
   |omega
   |(repeat (first | assumption | apply fN | apply pz | apply rH | refine Or.inr ?_ | refine And.intro ?_ ?_ | exact trivial | exact sd _ _ | rfl | apply mT)
     done)
   |((repeat refine Or.inr ?_)
     exact bY (by first | omega | (simp only [S2];omega)))
   |(simp only [S2]
     omega)
   |(repeat' apply mT
     all_goals first | omega | (simp only [S2];omega))
   |(try simp only [S1]at *
     rw [aw (by omega) (by omega)]
     first | omega | (simp only [S2];omega))
   |(simp only [S1]at *
     first | omega | (exfalso;omega))
   |(exfalso;simp_all;done))
 obtain⟨p3,p4,rfl⟩:=hq1
 simp only [xX,CL,rT,xY,CM,kF,ol,tY,tZ,rU,vB,zl,zm,vC,zn,su,vD,xh,xj,xk,Gk,f0,g0]at f1 g1
 refine⟨?_,?_,?_⟩
 all_goals simp only [xX,CL,rT,xY,CM,kF,ol,tY,tZ,rU,vB,zl,zm,vC,zn,su,vD,xh,xj,xk,Gk,f0,g0,f1,g1,uq,ur,zo,zp,On,Oo,Oq,Ot,Ou,Ov,Ow,Ox,Oy,Oz,ut,HU,HV,HW,HX,HY,xl,xm,HZ,EK,EL,and_true,Bool.or_eq_true,Bool.and_eq_true]
 all_goals repeat' refine And.intro ?_ ?_
 all_goals first
   |omega
   |(repeat (first | assumption | apply fN | apply pz | apply rH | refine Or.inr ?_ | refine And.intro ?_ ?_ | exact trivial | exact sd _ _ | rfl | apply mT)
     done)
   |((repeat refine Or.inr ?_)
     exact bY (by first | omega | (simp only [S2];omega)))
   |(simp only [S2]
     omega)
   |(repeat' apply mT
     all_goals first | omega | (simp only [S2];omega))
   |(try simp only [S1]at *
     rw [aw (by omega) (by omega)]
     first | omega | (simp only [S2];omega))
   |(simp only [S1]at *
     first | omega | (exfalso;omega))
   |(exfalso;simp_all;done)
theorem abY(c:List Int)(x:jg)(hx:match x with | (y0,y1,y2,y3,y4,y5)=>y0≤((5:Nat):Int)∧aB y3 y4 y5=true∧y2.length + (5:Nat)≤5∧y5=c):
  gf.fin x=true∧ ∃ j y,gf.res x=(j,y)∧(match y with | (y0,y1,y2,y3,y4,y5)=>aB y3 y4 c=true∧y2.length≤5∧c=y5):=by
 refine gf.inv2 (fun k x=>match x with | (y0,y1,y2,y3,y4,y5)=>y0≤(k:Int)∧aB y3 y4 y5=true∧y2.length + k≤5∧y5=c) (fun y=>match y with | (y0,y1,y2,y3,y4,y5)=>aB y3 y4 c=true∧y2.length≤5∧c=y5) (fun k x hx=> ?_) (fun x hx=> ?_) 5 x (by omega) hx
 ·obtain⟨y0,y1,y2,y3,y4,y5⟩:=x
  obtain⟨h0,h1,h2,rfl⟩:=hx
  skip
  simp only [gf,Kf,LT.ok,EK,EL,and_true,qH,DI,DJ,DK,DL,DM,DN,DO,DP,DQ,DR,Bool.or_eq_true,Bool.and_eq_true]
  repeat' (first | refine And.intro ?_ ?_ | intro _)
  all_goals first
   |omega
   |(repeat (first | assumption | apply fN | apply pz | apply rH | refine Or.inr ?_ | refine And.intro ?_ ?_ | exact trivial | exact sd _ _ | rfl)
     done)
   |((repeat refine Or.inr ?_)
     exact bY (by first | omega | (simp only [S2];omega)))
   |(simp only [S2]
     omega)
   |(repeat' apply mT
     all_goals first | omega | (simp only [S2];omega))
   |(try simp only [S1]at *
     rw [aw (by omega) (by omega)]
     first | omega | (simp only [S2];omega))
   |(simp only [S1]at *
     first | omega | (exfalso;omega))
   |(exfalso;simp_all;done)
 ·obtain⟨y0,y1,y2,y3,y4,y5⟩:=x
  obtain⟨h0,h1,h2,rfl⟩:=hx
  skip
  skip
  simp only [gf,Kf,LT.ok,EK,EL,and_true,qH,DI,DJ,DK,DL,DM,DN,DO,DP,DQ,DR,Bool.or_eq_true,Bool.and_eq_true]
  repeat' (first | refine And.intro ?_ ?_ | intro _)
  all_goals first
   |omega
   |(repeat (first | assumption | apply fN | apply pz | apply rH | refine Or.inr ?_ | refine And.intro ?_ ?_ | exact trivial | exact sd _ _ | rfl)
     done)
   |((repeat refine Or.inr ?_)
     exact bY (by first | omega | (simp only [S2];omega)))
   |(simp only [S2]
     omega)
   |(repeat' apply mT
     all_goals first | omega | (simp only [S2];omega))
   |(try simp only [S1]at *
     rw [aw (by omega) (by omega)]
     first | omega | (simp only [S2];omega))
   |(simp only [S1]at *
     first | omega | (exfalso;omega))
   |(exfalso;simp_all;done)
theorem abZ(c:List Int)(x:jh)(hx:match x with | (y0,y1,y2,y3,y4)=>y0=(9:Int) - (9:Nat)∧(9:Nat)≤9∧aB y1 y2 y4=true∧y3.length + (9:Nat)≤9∧y4=c):
  gg.fin x=true∧ ∃ j y,gg.res x=(j,y)∧(match y with | (y0,y1,y2,y3,y4)=>aB y1 y2 c=true∧y3.length≤9∧c=y4):=by
 refine gg.inv2 (fun k x=>match x with | (y0,y1,y2,y3,y4)=>y0=(9:Int) - k∧k≤9∧aB y1 y2 y4=true∧y3.length + k≤9∧y4=c) (fun y=>match y with | (y0,y1,y2,y3,y4)=>aB y1 y2 c=true∧y3.length≤9∧c=y4) (fun k x hx=> ?_) (fun x hx=> ?_) 9 x (by omega) hx
 ·obtain⟨y0,y1,y2,y3,y4⟩:=x
  obtain⟨h0,h5,h1,h2,rfl⟩:=hx
  have nn:=aaW (n:=2) h1 (by omega);have hw:IntKind.i64.wrap (8 + nxV 2 y1 y2 y4)=8 + nxV 2 y1 y2 y4:=aw (by omega) (by omega)
  simp only [gg,Kg,LT.ok,EK,EL,and_true,mI,wX,wY,wZ,xa,xc,xf,nL,nM,xg,Bool.or_eq_true,Bool.and_eq_true]
  repeat' (first | refine And.intro ?_ ?_ | intro _)
  all_goals first
   |omega
   |(repeat (first | assumption | apply fN | apply pz | apply rH | refine Or.inr ?_ | refine And.intro ?_ ?_ | exact trivial | exact sd _ _ | rfl)
     done)
   |((repeat refine Or.inr ?_)
     exact bY (by first | omega | (simp only [S2];omega)))
   |(simp only [S2]
     omega)
   |(repeat' apply mT
     all_goals first | omega | (simp only [S2];omega))
   |(try simp only [S1]at *
     rw [aw (by omega) (by omega)]
     first | omega | (simp only [S2];omega))
   |(simp only [S1]at *
     first | omega | (exfalso;omega))
   |(exfalso;simp_all;done)
 ·obtain⟨y0,y1,y2,y3,y4⟩:=x
  obtain⟨h0,h5,h1,h2,rfl⟩:=hx
  have nn:=aaW (n:=2) h1 (by omega);have hw:IntKind.i64.wrap (8 + nxV 2 y1 y2 y4)=8 + nxV 2 y1 y2 y4:=aw (by omega) (by omega)
  skip
  simp only [gg,Kg,LT.ok,EK,EL,and_true,mI,wX,wY,wZ,xa,xc,xf,nL,nM,xg,Bool.or_eq_true,Bool.and_eq_true]
  repeat' (first | refine And.intro ?_ ?_ | intro _)
  all_goals first
   |omega
   |(repeat (first | assumption | apply fN | apply pz | apply rH | refine Or.inr ?_ | refine And.intro ?_ ?_ | exact trivial | exact sd _ _ | rfl)
     done)
   |((repeat refine Or.inr ?_)
     exact bY (by first | omega | (simp only [S2];omega)))
   |(simp only [S2]
     omega)
   |(repeat' apply mT
     all_goals first | omega | (simp only [S2];omega))
   |(try simp only [S1]at *
     rw [aw (by omega) (by omega)]
     first | omega | (simp only [S2];omega))
   |(simp only [S1]at *
     first | omega | (exfalso;omega))
   |(exfalso;simp_all;done)
theorem VP(a s:Int)(c:List Int)(h:aB a s c=true):sU a s c=true∧aB (mj a s c) (ml a s c) c=true∧(mm a s c).length≤20:=by
 have n5:=aaW (n:=5) (fN (n:=3) h) (by omega)
 obtain⟨f0,j0,⟨z0,z1,z2,z3,z4,z5⟩,g0,hq0⟩:=abY c (np a s c) (by
  simp only [np,rq,jF,nq,nr,cM,fX,kX,iq,ir,lU,pw,px,iQ,lV,py,cz,lW,mj,ml,mm,sU]
  repeat' refine And.intro ?_ ?_
  all_goals first
   |omega
   |(repeat (first | assumption | apply fN | apply pz | apply rH | refine Or.inr ?_ | refine And.intro ?_ ?_ | exact trivial | exact sd _ _ | rfl | apply mT)
     done)
   |((repeat refine Or.inr ?_)
     exact bY (by first | omega | (simp only [S2];omega)))
   |(simp only [S2]
     omega)
   |(repeat' apply mT
     all_goals first | omega | (simp only [S2];omega))
   |(try simp only [S1]at *
     rw [aw (by omega) (by omega)]
     first | omega | (simp only [S2];omega))
   |(simp only [S1]at *
     first | omega | (exfalso;omega))
   |(exfalso;simp_all;done))
 obtain⟨p1,p2,rfl⟩:=hq0
 simp only [np,rq,jF,nq,nr,cM,fX,kX,iq,ir,lU,pw,px,iQ,lV,py,cz,lW,mj,ml,mm,sU]at f0 g0
 obtain⟨f1,j1,⟨u0,u1,u2,u3,u4⟩,g1,hq1⟩:=abZ c (lU a s c) (by
  simp only [np,rq,jF,nq,nr,cM,fX,kX,iq,ir,lU,pw,px,iQ,lV,py,cz,lW,mj,ml,mm,sU,f0,g0,mI,wX,wY,wZ,xa,xc,xf,nL,nM,xg]
  repeat' refine And.intro ?_ ?_
  all_goals first
   |omega
   |(repeat (first | assumption | apply fN | apply pz | apply rH | refine Or.inr ?_ | refine And.intro ?_ ?_ | exact trivial | exact sd _ _ | rfl | apply mT)
     done)
   |((repeat refine Or.inr ?_)
     exact bY (by first | omega | (simp only [S2];omega)))
   |(simp only [S2]
     omega)
   |(repeat' apply mT
     all_goals first | omega | (simp only [S2];omega))
   |(try simp only [S1]at *
     rw [aw (by omega) (by omega)]
     first | omega | (simp only [S2];omega))
   |(simp only [S1]at *
     first | omega | (exfalso;omega))
   |(exfalso;simp_all;done))
 obtain⟨p3,p4,rfl⟩:=hq1
 simp only [np,rq,jF,nq,nr,cM,fX,kX,iq,ir,lU,pw,px,iQ,lV,py,cz,lW,mj,ml,mm,sU,f0,g0]at f1 g1
 refine⟨?_,?_,?_⟩
 all_goals simp only [np,rq,jF,nq,nr,cM,fX,kX,iq,ir,lU,pw,px,iQ,lV,py,cz,lW,mj,ml,mm,sU,f0,g0,f1,g1,qH,DI,DJ,DK,DL,DM,DN,DO,DP,DQ,DR,mI,wX,wY,wZ,xa,xc,xf,nL,nM,xg,EK,EL,and_true,Bool.or_eq_true,Bool.and_eq_true]
 all_goals repeat' refine And.intro ?_ ?_
 all_goals first
   |omega
   |(repeat (first | assumption | apply fN | apply pz | apply rH | refine Or.inr ?_ | refine And.intro ?_ ?_ | exact trivial | exact sd _ _ | rfl | apply mT)
     done)
   |((repeat refine Or.inr ?_)
     exact bY (by first | omega | (simp only [S2];omega)))
   |(simp only [S2]
     omega)
   |(repeat' apply mT
     all_goals first | omega | (simp only [S2];omega))
   |(try simp only [S1]at *
     rw [aw (by omega) (by omega)]
     first | omega | (simp only [S2];omega))
   |(simp only [S1]at *
     first | omega | (exfalso;omega))
   |(exfalso;simp_all;done)
theorem abr(c:List Int)(x:iz)(hx:match x with | (y0,y1,y2,y3,y4,y5)=>y0=(7:Int) - (7:Nat)∧(7:Nat)≤7∧aB y2 y3 y5=true∧y4.length + 2 * (7:Nat)≤14∧y5=c):
  eV.fin x=true∧ ∃ j y,eV.res x=(j,y)∧(match y with | (y0,y1,y2,y3,y4,y5)=>aB y2 y3 c=true∧y4.length≤14∧c=y5):=by
 refine eV.inv2 (fun k x=>match x with | (y0,y1,y2,y3,y4,y5)=>y0=(7:Int) - k∧k≤7∧aB y2 y3 y5=true∧y4.length + 2 * k≤14∧y5=c) (fun y=>match y with | (y0,y1,y2,y3,y4,y5)=>aB y2 y3 c=true∧y4.length≤14∧c=y5) (fun k x hx=> ?_) (fun x hx=> ?_) 7 x (by omega) hx
 ·obtain⟨y0,y1,y2,y3,y4,y5⟩:=x
  obtain⟨h0,h5,h1,h2,rfl⟩:=hx
  skip
  simp only [eV,IE,LT.ok,EK,EL,and_true,cQ,tP,lA,oE,oF,jD,lB,jE,lC,oG,Cj,Ck,Cl,Cm,Cn,Co,Cp,Cq,Cr,Cs,zR,lz,zS,zT,zU,zV,zW,zX,zY,zZ,Aa,Ab,Ac,Ad,Bool.or_eq_true,Bool.and_eq_true]
  repeat' (first | refine And.intro ?_ ?_ | intro _)
  all_goals first
   |omega
   |(repeat (first | assumption | apply fN | apply pz | apply rH | refine Or.inr ?_ | refine And.intro ?_ ?_ | exact trivial | exact sd _ _ | rfl)
     done)
   |((repeat refine Or.inr ?_)
     exact bY (by first | omega | (simp only [S2];omega)))
   |(simp only [S2]
     omega)
   |(repeat' apply mT
     all_goals first | omega | (simp only [S2];omega))
   |(try simp only [S1]at *
     rw [aw (by omega) (by omega)]
     first | omega | (simp only [S2];omega))
   |(simp only [S1]at *
     first | omega | (exfalso;omega))
   |(exfalso;simp_all;done)
 ·obtain⟨y0,y1,y2,y3,y4,y5⟩:=x
  obtain⟨h0,h5,h1,h2,rfl⟩:=hx
  skip
  have e0:(bif ltI y0 y1 then ltI y0 7 else false)=false:=by rw [show ltI y0 7=false from akN (by omega)];cases ltI y0 y1 <;> rfl
  simp only [eV,IE,LT.ok,EK,EL,and_true,cQ,tP,lA,oE,oF,jD,lB,jE,lC,oG,Cj,Ck,Cl,Cm,Cn,Co,Cp,Cq,Cr,Cs,zR,lz,zS,zT,zU,zV,zW,zX,zY,zZ,Aa,Ab,Ac,Ad,Bool.or_eq_true,Bool.and_eq_true]
  repeat' (first | refine And.intro ?_ ?_ | intro _)
  all_goals first
   |omega
   |(repeat (first | assumption | apply fN | apply pz | apply rH | refine Or.inr ?_ | refine And.intro ?_ ?_ | exact trivial | exact sd _ _ | rfl)
     done)
   |((repeat refine Or.inr ?_)
     exact bY (by first | omega | (simp only [S2];omega)))
   |(simp only [S2]
     omega)
   |(repeat' apply mT
     all_goals first | omega | (simp only [S2];omega))
   |(try simp only [S1]at *
     rw [aw (by omega) (by omega)]
     first | omega | (simp only [S2];omega))
   |(simp only [S1]at *
     first | omega | (exfalso;omega))
   |(exfalso;simp_all;done)
theorem abs(c:List Int)(x:iA)(hx:match x with | (y0,y1,y2,y3,y4)=>y0=(9:Int) - (9:Nat)∧(9:Nat)≤9∧aB y1 y2 y4=true∧y3.length + (9:Nat)≤9∧y4=c):
  eW.fin x=true∧ ∃ j y,eW.res x=(j,y)∧(match y with | (y0,y1,y2,y3,y4)=>aB y1 y2 c=true∧y3.length≤9∧c=y4):=by
 refine eW.inv2 (fun k x=>match x with | (y0,y1,y2,y3,y4)=>y0=(9:Int) - k∧k≤9∧aB y1 y2 y4=true∧y3.length + k≤9∧y4=c) (fun y=>match y with | (y0,y1,y2,y3,y4)=>aB y1 y2 c=true∧y3.length≤9∧c=y4) (fun k x hx=> ?_) (fun x hx=> ?_) 9 x (by omega) hx
 ·obtain⟨y0,y1,y2,y3,y4⟩:=x
  obtain⟨h0,h5,h1,h2,rfl⟩:=hx
  have nn:=aaW (n:=2) h1 (by omega);have hw:IntKind.i64.wrap (8 + nxV 2 y1 y2 y4)=8 + nxV 2 y1 y2 y4:=aw (by omega) (by omega)
  simp only [eW,IF,LT.ok,EK,EL,and_true,lD,vr,vt,qG,vu,vv,vz,mG,mH,vA,Bool.or_eq_true,Bool.and_eq_true]
  repeat' (first | refine And.intro ?_ ?_ | intro _)
  all_goals first
   |omega
   |(repeat (first | assumption | apply fN | apply pz | apply rH | refine Or.inr ?_ | refine And.intro ?_ ?_ | exact trivial | exact sd _ _ | rfl)
     done)
   |((repeat refine Or.inr ?_)
     exact bY (by first | omega | (simp only [S2];omega)))
   |(simp only [S2]
     omega)
   |(repeat' apply mT
     all_goals first | omega | (simp only [S2];omega))
   |(try simp only [S1]at *
     rw [aw (by omega) (by omega)]
     first | omega | (simp only [S2];omega))
   |(simp only [S1]at *
     first | omega | (exfalso;omega))
   |(exfalso;simp_all;done)
 ·obtain⟨y0,y1,y2,y3,y4⟩:=x
  obtain⟨h0,h5,h1,h2,rfl⟩:=hx
  have nn:=aaW (n:=2) h1 (by omega);have hw:IntKind.i64.wrap (8 + nxV 2 y1 y2 y4)=8 + nxV 2 y1 y2 y4:=aw (by omega) (by omega)
  skip
  simp only [eW,IF,LT.ok,EK,EL,and_true,lD,vr,vt,qG,vu,vv,vz,mG,mH,vA,Bool.or_eq_true,Bool.and_eq_true]
  repeat' (first | refine And.intro ?_ ?_ | intro _)
  all_goals first
   |omega
   |(repeat (first | assumption | apply fN | apply pz | apply rH | refine Or.inr ?_ | refine And.intro ?_ ?_ | exact trivial | exact sd _ _ | rfl)
     done)
   |((repeat refine Or.inr ?_)
     exact bY (by first | omega | (simp only [S2];omega)))
   |(simp only [S2]
     omega)
   |(repeat' apply mT
     all_goals first | omega | (simp only [S2];omega))
   |(try simp only [S1]at *
     rw [aw (by omega) (by omega)]
     first | omega | (simp only [S2];omega))
   |(simp only [S1]at *
     first | omega | (exfalso;omega))
   |(exfalso;simp_all;done)
theorem Uh(b a s:Int)(c:List Int)(h:aB a s c=true):rp b a s c=true∧aB (kQ b a s c) (kR b a s c) c=true∧(kS b a s c).length≤20:=by
 skip
 obtain⟨f0,j0,⟨z0,z1,z2,z3,z4,z5⟩,g0,hq0⟩:=abr c (lS b a s c) (by
  simp only [pq,lS,pt,da,pu,lT,pv,db,kg,kh,jn,jo,im,kT,nI,nJ,kU,kV,nK,jp,kW,kQ,kR,kS,rp]
  repeat' refine And.intro ?_ ?_
  all_goals first
   |omega
   |(repeat (first | assumption | apply fN | apply pz | apply rH | refine Or.inr ?_ | refine And.intro ?_ ?_ | exact trivial | exact sd _ _ | rfl | apply mT)
     done)
   |((repeat refine Or.inr ?_)
     exact bY (by first | omega | (simp only [S2];omega)))
   |(simp only [S2]
     omega)
   |(repeat' apply mT
     all_goals first | omega | (simp only [S2];omega))
   |(try simp only [S1]at *
     rw [aw (by omega) (by omega)]
     first | omega | (simp only [S2];omega))
   |(simp only [S1]at *
     first | omega | (exfalso;omega))
   |(exfalso;simp_all;done))
 obtain⟨p1,p2,rfl⟩:=hq0
 simp only [pq,lS,pt,da,pu,lT,pv,db,kg,kh,jn,jo,im,kT,nI,nJ,kU,kV,nK,jp,kW,kQ,kR,kS,rp]at f0 g0
 obtain⟨f1,j1,⟨u0,u1,u2,u3,u4⟩,g1,hq1⟩:=abs c (kT b a s c) (by
  simp only [pq,lS,pt,da,pu,lT,pv,db,kg,kh,jn,jo,im,kT,nI,nJ,kU,kV,nK,jp,kW,kQ,kR,kS,rp,f0,g0,lD,vr,vt,qG,vu,vv,vz,mG,mH,vA]
  repeat' refine And.intro ?_ ?_
  all_goals first
   |omega
   |(repeat (first | assumption | apply fN | apply pz | apply rH | refine Or.inr ?_ | refine And.intro ?_ ?_ | exact trivial | exact sd _ _ | rfl | apply mT)
     done)
   |((repeat refine Or.inr ?_)
     exact bY (by first | omega | (simp only [S2];omega)))
   |(simp only [S2]
     omega)
   |(repeat' apply mT
     all_goals first | omega | (simp only [S2];omega))
   |(try simp only [S1]at *
     rw [aw (by omega) (by omega)]
     first | omega | (simp only [S2];omega))
   |(simp only [S1]at *
     first | omega | (exfalso;omega))
   |(exfalso;simp_all;done))
 obtain⟨p3,p4,rfl⟩:=hq1
 simp only [pq,lS,pt,da,pu,lT,pv,db,kg,kh,jn,jo,im,kT,nI,nJ,kU,kV,nK,jp,kW,kQ,kR,kS,rp,f0,g0]at f1 g1
 refine⟨?_,?_,?_⟩
 all_goals simp only [pq,lS,pt,da,pu,lT,pv,db,kg,kh,jn,jo,im,kT,nI,nJ,kU,kV,nK,jp,kW,kQ,kR,kS,rp,f0,g0,f1,g1,cQ,tP,lA,oE,oF,jD,lB,jE,lC,oG,Cj,Ck,Cl,Cm,Cn,Co,Cp,Cq,Cr,Cs,zR,lz,zS,zT,zU,zV,zW,zX,zY,zZ,Aa,Ab,Ac,Ad,lD,vr,vt,qG,vu,vv,vz,mG,mH,vA,EK,EL,and_true,Bool.or_eq_true,Bool.and_eq_true]
 all_goals repeat' refine And.intro ?_ ?_
 all_goals first
   |omega
   |(repeat (first | assumption | apply fN | apply pz | apply rH | refine Or.inr ?_ | refine And.intro ?_ ?_ | exact trivial | exact sd _ _ | rfl | apply mT)
     done)
   |((repeat refine Or.inr ?_)
     exact bY (by first | omega | (simp only [S2];omega)))
   |(simp only [S2]
     omega)
   |(repeat' apply mT
     all_goals first | omega | (simp only [S2];omega))
   |(try simp only [S1]at *
     rw [aw (by omega) (by omega)]
     first | omega | (simp only [S2];omega))
   |(simp only [S1]at *
     first | omega | (exfalso;omega))
   |(exfalso;simp_all;done)
theorem Wx(b a s:Int)(c:List Int)(h:aB a s c=true):TA b a s c=true∧aB (Ge b a s c) (Gf b a s c) c=true:=by
 skip
 refine⟨?_,?_⟩
 all_goals simp only [xF,ib,JS,Rk,sS,sT,xG,Rl,Rm,Ds,PO,Mr,Mt,Ge,Gf,TA,EK,EL,and_true,Bool.or_eq_true,Bool.and_eq_true]
 all_goals repeat' refine And.intro ?_ ?_
 all_goals first
   |omega
   |(repeat (first | assumption | apply fN | apply pz | apply rH | refine Or.inr ?_ | refine And.intro ?_ ?_ | exact trivial | exact sd _ _ | rfl | apply mT)
     done)
   |((repeat refine Or.inr ?_)
     exact bY (by first | omega | (simp only [S2];omega)))
   |(simp only [S2]
     omega)
   |(repeat' apply mT
     all_goals first | omega | (simp only [S2];omega))
   |(try simp only [S1]at *
     rw [aw (by omega) (by omega)]
     first | omega | (simp only [S2];omega))
   |(simp only [S1]at *
     first | omega | (exfalso;omega))
   |(exfalso;simp_all;done)
theorem acK(a s:Int)(c:List Int)(h:aB a s c=true):abu a s c=true∧aB (PR a s c) (PS a s c) c=true:=by
 skip
 refine⟨?_,?_⟩
 all_goals simp only [xU,SH,SI,Za,xV,rS,xW,CJ,Zb,SJ,VL,VM,VN,PR,PS,abu,EK,EL,and_true,Bool.or_eq_true,Bool.and_eq_true]
 all_goals repeat' refine And.intro ?_ ?_
 all_goals first
   |omega
   |(repeat (first | assumption | apply fN | apply pz | apply rH | refine Or.inr ?_ | refine And.intro ?_ ?_ | exact trivial | exact sd _ _ | rfl | apply mT)
     done)
   |((repeat refine Or.inr ?_)
     exact bY (by first | omega | (simp only [S2];omega)))
   |(simp only [S2]
     omega)
   |(repeat' apply mT
     all_goals first | omega | (simp only [S2];omega))
   |(try simp only [S1]at *
     rw [aw (by omega) (by omega)]
     first | omega | (simp only [S2];omega))
   |(simp only [S1]at *
     first | omega | (exfalso;omega))
   |(exfalso;simp_all;done)
theorem ajc(r:Int)(x:pH)(hx:match x with | (y0,y1,y2)=>y0≤((500:Nat):Int)∧0≤y0∧(y2.length:Int) + y0=r∧r≤500):
  lu.fin x=true∧ ∃ j y,lu.res x=(j,y)∧(match y with | (y0,y1,y2)=>(y2.length:Int)=r):=by
 refine lu.inv2 (fun k x=>match x with | (y0,y1,y2)=>y0≤(k:Int)∧0≤y0∧(y2.length:Int) + y0=r∧r≤500) (fun y=>match y with | (y0,y1,y2)=>(y2.length:Int)=r) (fun k x hx=> ?_) (fun x hx=> ?_) 500 x (by omega) hx
 ·obtain⟨y0,y1,y2⟩:=x
  obtain⟨h0,h1,h2,h3⟩:=hx
  skip
  simp only [lu,Te,LT.ok,EK,EL,and_true,VV,VW,VX,VY,VZ,Bool.or_eq_true,Bool.and_eq_true]
  repeat' (first | refine And.intro ?_ ?_ | intro _)
  all_goals first
   |omega
   |(repeat (first | assumption | apply fN | apply pz | apply rH | refine Or.inr ?_ | refine And.intro ?_ ?_ | exact trivial | exact sd _ _ | rfl)
     done)
   |((repeat refine Or.inr ?_)
     exact bY (by first | omega | (simp only [S2];omega)))
   |(simp only [S2]
     omega)
   |(repeat' apply mT
     all_goals first | omega | (simp only [S2];omega))
   |(try simp only [S1]at *
     rw [aw (by omega) (by omega)]
     first | omega | (simp only [S2];omega))
   |(simp only [S1]at *
     first | omega | (exfalso;omega))
   |(exfalso;simp_all;done)
 ·obtain⟨y0,y1,y2⟩:=x
  obtain⟨h0,h1,h2,h3⟩:=hx
  skip
  skip
  simp only [lu,Te,LT.ok,EK,EL,and_true,VV,VW,VX,VY,VZ,Bool.or_eq_true,Bool.and_eq_true]
  repeat' (first | refine And.intro ?_ ?_ | intro _)
  all_goals first
   |omega
   |(repeat (first | assumption | apply fN | apply pz | apply rH | refine Or.inr ?_ | refine And.intro ?_ ?_ | exact trivial | exact sd _ _ | rfl)
     done)
   |((repeat refine Or.inr ?_)
     exact bY (by first | omega | (simp only [S2];omega)))
   |(simp only [S2]
     omega)
   |(repeat' apply mT
     all_goals first | omega | (simp only [S2];omega))
   |(try simp only [S1]at *
     rw [aw (by omega) (by omega)]
     first | omega | (simp only [S2];omega))
   |(simp only [S1]at *
     first | omega | (exfalso;omega))
   |(exfalso;simp_all;done)
theorem acM(r s:Int)(h:(leI 0 r&&leI r 500)=true):KT r s=true∧((rF r s).length:Int)=r:=by
 simp only [Bool.and_eq_true,Sx]at h
 obtain⟨f0,j0,⟨z0,z1,z2⟩,g0,hq0⟩:=ajc r (CN r s) (by
  simp only [CN,rF,KT]
  refine⟨by omega,by omega,by simp,by omega⟩)
 simp only [CN,rF,KT]at f0 g0
 refine⟨?_,?_⟩
 ·simp only [CN,rF,KT,f0,g0,allT,cond_true]
 ·simp only [CN,rF,KT,f0,g0];exact hq0
def ah7:List SV→List Entry→Option Out
 | [.one ⟨false,[.ptr 0 0]⟩],[.box 157 [.ref 1,.val (.int .i64 x0),.val (.int .i64 x1)],.row false 5 (.int .u8) x2]=>some ⟨.one ⟨false,[.ref 2]⟩,[.box 157 [.ref 1,.val (.int .i64 (xh x0 x1 x2)),.val (.int .i64 (xj x0 x1 x2))],.row false 5 aj7 x2],[.row true 173 aiq (xk x0 x1 x2)],[aB x0 x1 x2]⟩
 |_,_=>none
def wF:PF prog:=PF.alt aqO ah7 (by
 intro args es o h bz;unfold ah7 at h;split at h
 ·rename_i x0 x1 x2
  cases h
  have bz:=fM bz
  have hh:=(acL x0 x1 x2 bz).1
  have en:=hh
  exact jK rfl (fj en) rfl rfl rfl
 ·cases h)
def Zo:List SV→List Entry→Option Out
 | [.one ⟨false,[.ptr 0 0]⟩],[.box 157 [.ref 1,.val (.int .i64 x0),.val (.int .i64 x1)],.row false 5 (.int .u8) x2]=>some ⟨.one ⟨false,[.ref 2]⟩,[.box 157 [.ref 1,.val (.int .i64 (mj x0 x1 x2)),.val (.int .i64 (ml x0 x1 x2))],.row false 5 aj7 x2],[.row true 176 aiq (mm x0 x1 x2)],[aB x0 x1 x2]⟩
 |_,_=>none
def mf:PF prog:=PF.alt akj Zo (by
 intro args es o h bz;unfold Zo at h;split at h
 ·rename_i x0 x1 x2
  cases h
  have bz:=fM bz
  have hh:=(VP x0 x1 x2 bz).1
  have en:=hh
  exact jK rfl (fj en) rfl rfl rfl
 ·cases h)
def XX:List SV→List Entry→Option Out
 | [.one ⟨false,[.ptr 0 0]⟩,.one ⟨false,[.val (.int .i64 x0)]⟩],[.box 157 [.ref 1,.val (.int .i64 x1),.val (.int .i64 x2)],.row false 5 (.int .u8) x3]=>some ⟨.one ⟨false,[.ref 2]⟩,[.box 157 [.ref 1,.val (.int .i64 (kQ x0 x1 x2 x3)),.val (.int .i64 (kR x0 x1 x2 x3))],.row false 5 aj7 x3],[.row true 100 adk (kS x0 x1 x2 x3)],[aB x1 x2 x3]⟩
 |_,_=>none
def kN:PF prog:=PF.alt aiT XX (by
 intro args es o h bz;unfold XX at h;split at h
 ·rename_i x0 x1 x2 x3
  cases h
  have bz:=fM bz
  have hh:=(Uh x0 x1 x2 x3 bz).1
  have en:=hh
  exact jK rfl (fj en) rfl rfl rfl
 ·cases h)
def aad:List SV→List Entry→Option Out
 | [.one ⟨false,[.ptr 0 0]⟩,.one ⟨false,[.val (.int .i64 x0)]⟩],[.box 157 [.ref 1,.val (.int .i64 x1),.val (.int .i64 x2)],.row false 5 (.int .u8) x3]=>some ⟨.one ⟨true,[.val (.int .i64 (Mr x0 x1 x2 x3)),.val (.int .i64 (Mt x0 x1 x2 x3))]⟩,[.box 157 [.ref 1,.val (.int .i64 (Ge x0 x1 x2 x3)),.val (.int .i64 (Gf x0 x1 x2 x3))],.row false 5 aj7 x3],[],[aB x1 x2 x3]⟩
 |_,_=>none
def Tf:PF prog:=PF.alt alQ aad (by
 intro args es o h bz;unfold aad at h;split at h
 ·rename_i x0 x1 x2 x3
  cases h
  have bz:=fM bz
  have hh:=(Wx x0 x1 x2 x3 bz).1
  have en:=hh
  exact jK rfl (fj en) rfl rfl rfl
 ·cases h)
def ah5:List SV→List Entry→Option Out
 | [.one ⟨false,[.ptr 0 0]⟩],[.box 157 [.ref 1,.val (.int .i64 x0),.val (.int .i64 x1)],.row false 5 (.int .u8) x2]=>some ⟨.one ⟨true,[.val (.int .i64 (VL x0 x1 x2)),.val (.int .i64 (VM x0 x1 x2)),.val (.bool (VN x0 x1 x2))]⟩,[.box 157 [.ref 1,.val (.int .i64 (PR x0 x1 x2)),.val (.int .i64 (PS x0 x1 x2))],.row false 5 aj7 x2],[],[aB x0 x1 x2]⟩
 |_,_=>none
def aaU:PF prog:=PF.alt aqK ah5 (by
 intro args es o h bz;unfold ah5 at h;split at h
 ·rename_i x0 x1 x2
  cases h
  have bz:=fM bz
  have hh:=(acK x0 x1 x2 bz).1
  have en:=hh
  exact jK rfl (fj en) rfl rfl rfl
 ·cases h)
def ah8:List SV→List Entry→Option Out
 | [.one ⟨false,[.val (.int .i64 x0)]⟩,.one ⟨false,[.val (.int .i64 x1)]⟩],[]=>some ⟨.one ⟨false,[.ref 0]⟩,[],[.row true 2 ajn (rF x0 x1)],[leI 0 x0&&leI x0 500]⟩
 |_,_=>none
def aaV:PF prog:=PF.alt aqP ah8 (by
 intro args es o h bz;unfold ah8 at h;split at h
 ·rename_i x0 x1
  cases h
  have bz:=fM bz
  have hh:=(acM x0 x1 bz).1
  have en:=hh
  exact jK rfl (fj en) rfl rfl rfl
 ·cases h)
end Go.SX
namespace Go.SX
open Go.Proofs Go.Proofs.Tryz
set_option maxRecDepth 100000
def anU(n day:Int)(fs lf:L3)(pl ls:L2)(s:RS):Int×Int×Int×Int×LI×LI×L3×List LI×L3×L2×L2:=(s.2.2.2.2,n,s.1,day,s.2.2.2.1,s.2.1,fs,s.2.2.1,lf,pl,ls)
def rY(b:Int×(Int×((Int×Int)×(Int×(Int×Bool))))):(Int×Int×Int×Int×List Int×List Int×List (Int×(Int×Int))×List (List Int)×List (Int×(Int×Int))×List (Int×Int)×List (Int×Int))→Nat ⊕ (Int×Int×Int×Int×List Int×List Int×List (Int×(Int×Int))×List (List Int)×List (Int×(Int×Int))×List (Int×Int)×List (Int×Int))
 |(y1,y3,y4,y5,y6,y7,y8,y9,y10,y11,y12)=>(.inr ((bif bif(bif(b.1)==(0:Int)then(Lq y3 y4 y5 b.1 (b.2.1) (b.2.2.1.1) (b.2.2.1.2) (b.2.2.2.1) (b.2.2.2.2.1) b.2.2.2.2.2 y7 y8 y9 y10 y11 y12)==(0:Int)else false)then bX y3 (b.2.1) y7 else false then IntKind.wrap .i64 (y1 + (1:Int))else y1),Qg y3 y4 y5 b.1 (b.2.1) (b.2.2.1.1) (b.2.2.1.2) (b.2.2.2.1) (b.2.2.2.2.1) b.2.2.2.2.2 y7 y8 y9 y10 y11 y12,Qh y3 y4 y5 b.1 (b.2.1) (b.2.2.1.1) (b.2.2.1.2) (b.2.2.2.1) (b.2.2.2.2.1) b.2.2.2.2.2 y7 y8 y9 y10 y11 y12,Qi y3 y4 y5 b.1 (b.2.1) (b.2.2.1.1) (b.2.2.1.2) (b.2.2.2.1) (b.2.2.2.2.1) b.2.2.2.2.2 y7 y8 y9 y10 y11 y12,y6++([Lq y3 y4 y5 b.1 (b.2.1) (b.2.2.1.1) (b.2.2.1.2) (b.2.2.2.1) (b.2.2.2.2.1) b.2.2.2.2.2 y7 y8 y9 y10 y11 y12]),Qj y3 y4 y5 b.1 (b.2.1) (b.2.2.1.1) (b.2.2.1.2) (b.2.2.2.1) (b.2.2.2.2.1) b.2.2.2.2.2 y7 y8 y9 y10 y11 y12,Qk y3 y4 y5 b.1 (b.2.1) (b.2.2.1.1) (b.2.2.1.2) (b.2.2.2.1) (b.2.2.2.2.1) b.2.2.2.2.2 y7 y8 y9 y10 y11 y12,Ql y3 y4 y5 b.1 (b.2.1) (b.2.2.1.1) (b.2.2.1.2) (b.2.2.2.1) (b.2.2.2.2.1) b.2.2.2.2.2 y7 y8 y9 y10 y11 y12,Qm y3 y4 y5 b.1 (b.2.1) (b.2.2.1.1) (b.2.2.1.2) (b.2.2.2.1) (b.2.2.2.2.1) b.2.2.2.2.2 y7 y8 y9 y10 y11 y12,Qn y3 y4 y5 b.1 (b.2.1) (b.2.2.1.1) (b.2.2.1.2) (b.2.2.2.1) (b.2.2.2.2.1) b.2.2.2.2.2 y7 y8 y9 y10 y11 y12,(Qo y3 y4 y5 b.1 (b.2.1) (b.2.2.1.1) (b.2.2.1.2) (b.2.2.2.1) (b.2.2.2.2.1) b.2.2.2.2.2 y7 y8 y9 y10 y11 y12)))
def pX(y2:List (Int×(Int×((Int×Int)×(Int×(Int×Bool))))))(i:Nat):(Int×Int×Int×Int×List Int×List Int×List (Int×(Int×Int))×List (List Int)×List (Int×(Int×Int))×List (Int×Int)×List (Int×Int))→ow
 |(y1,y3,y4,y5,y6,y7,y8,y9,y10,y11,y12)=>((i:Int),y1,y2,y3,y4,y5,y6,y7,y8,y9,y10,y11,y12)
def Vi:ow→Int×Int×Int×Int×List Int×List Int×List (Int×(Int×Int))×List (List Int)×List (Int×(Int×Int))×List (Int×Int)×List (Int×Int)
 |(_,y1,_,y3,y4,y5,y6,y7,y8,y9,y10,y11,y12)=>(y1,y3,y4,y5,y6,y7,y8,y9,y10,y11,y12)
theorem aoI(y2:List (Int×(Int×((Int×Int)×(Int×(Int×Bool))))))(y1 y3 y4 y5:Int)(y6 y7:List Int)(y8:List (Int×(Int×Int)))(y9:List (List Int))(y10:List (Int×(Int×Int)))(y11 y12:List (Int×Int))(hn:y2.length≤9223372036854775807)(n day:Int)(fs lf:L3)(pl ls:L2)(ps0:LI)(rs0:List LI)(hX: ∀ x∈y2,isX ps0 rs0 x=true)(s0:RS)(hs0:(y1,y3,y4,y5,y6,y7,y8,y9,y10,y11,y12)=anU n day fs lf pl ls s0)(hi0:ajO n day fs lf pl ls ps0 rs0 0 s0)(h200:y2.length≤200):
  fg.fin ((0:Int),y1,y2,y3,y4,y5,y6,y7,y8,y9,y10,y11,y12)=true∧fg.res ((0:Int),y1,y2,y3,y4,y5,y6,y7,y8,y9,y10,y11,y12)=((aN (rY) 0 y2 0 (y1,y3,y4,y5,y6,y7,y8,y9,y10,y11,y12)).1,(pX y2) (aN (rY) 0 y2 0 (y1,y3,y4,y5,y6,y7,y8,y9,y10,y11,y12)).2.1 (aN (rY) 0 y2 0 (y1,y3,y4,y5,y6,y7,y8,y9,y10,y11,y12)).2.2):=by
 have cH:=fg.along (pX y2) Vi (rY) 0 (fun i a=> ∃ s,a=anU n day fs lf pl ls s∧ajO n day fs lf pl ls ps0 rs0 i s) y2 (y1,y3,y4,y5,y6,y7,y8,y9,y10,y11,y12) ⟨s0,hs0,hi0⟩ (by simp only [fg,pX];omega) (fun i b a hb hI=> ?_) (fun a hI=> ?_)
 ·exact cH
 ·obtain⟨y1,y3,y4,y5,y6,y7,y8,y9,y10,y11,y12⟩:=a
  have dd:=(List.getElem?_eq_some_iff.1 hb).1
  have gc: ∀ d,Option.getD y2[i]? d=b:=fun d=>by rw [hb];rfl
  have hw:=tQ dd hn
  have bW:ltI (i:Int) (y2.length:Int)=true:=du (by omega)
  have pY:leI (0:Int) (i:Int)=true:=ct (by omega)
  have dw:ltN i y2.length=true:=ec dd
  refine⟨?_,?_,?_,?_⟩
  ·have hm:=hX b (List.mem_of_getElem? hb)
   obtain⟨s,he,hI⟩:=hI
   obtain⟨hx,_⟩:=GQ hI hm
   obtain⟨o0,o1,o2,o3,o4,o5,o6,o7,o8,o9,o10⟩:=aiZ hI.1 hx
   simp only [anU,Prod.mk.injEq]at he
   obtain⟨rfl,rfl,rfl,rfl,rfl,rfl,rfl,rfl,rfl,rfl,rfl⟩:=he
   have tS:s.2.2.2.1.length≤i:=hI.2.2.2
   have hst:b.1=0→sv b.2.1 s.2.1=true:=fun h0=>by
    rcases SW hx with⟨_,ht⟩ | ⟨h1,_⟩ | ⟨h1,_⟩
    ·obtain⟨t1,t2,t3,_⟩:=hI.1.tn ht
     simp only [sv,t1,t2,t3,allT,cond_true]
    ·rw [h0]at h1;cases h1
    ·rw [h0]at h1;cases h1
   have hst2:b.1=0→(0≤b.2.1∧b.2.1 < s.2.1.length)∧b.2.1.toNat < s.2.1.length:=fun h0=>by
    rcases SW hx with⟨_,ht⟩ | ⟨h1,_⟩ | ⟨h1,_⟩
    ·have:=Pb.1 ht;omega
    ·rw [h0]at h1;cases h1
    ·rw [h0]at h1;cases h1
   have h6:leN (s.2.2.2.1.length + 1) 9223372036854775807=true:=bY (by omega)
   have h7:leN ((s.2.2.2.1.length + 1) * 8) 140737488355328=true:=bY (by omega)
   simp [CA,CB,CC,eA,CD,dL,tc,fA,fB,fC,bj,zt,zu,rG,ux,zr,EH,EI,Li,Lj,Lk,Ll,Lm,Ln,Lo,Im,Io,Ip,Iq,Ir,Is,It,Iu,Iv,Iw,Ix,Iy,HE,fg,LT.nds,allT,pX,anU,bW,pY,dw,gc,o0,o1,o2,o3,o4,o5,o6,o7,o8,o9,o10,h6,h7]
   by_cases h0:b.1=0
   ·exact .inr (hst h0)
   ·exact .inl (.inl h0)
  ·simp [CA,CB,CC,eA,CD,dL,tc,fA,fB,fC,bj,zt,zu,rG,ux,zr,EH,EI,Li,Lj,Lk,Ll,Lm,Ln,Lo,Im,Io,Ip,Iq,Ir,Is,It,Iu,Iv,Iw,Ix,Iy,HE,fg,LT.each,pX,Vi,hw]
  ·simp only [CA,CB,CC,eA,CD,dL,tc,fA,fB,fC,bj,zt,zu,rG,ux,zr,EH,EI,Li,Lj,Lk,Ll,Lm,Ln,Lo,Im,Io,Ip,Iq,Ir,Is,It,Iu,Iv,Iw,Ix,Iy,HE,fg,LT.fn,pX,Vi,rY,Int.toNat_natCast,bW,pY,dw,gc,cond_true,Bool.cond_self]
  ·intro a' hf
   obtain⟨s,he,hI⟩:=hI
   have hm:=hX b (List.mem_of_getElem? hb)
   obtain⟨hx,hk⟩:=GQ hI hm
   obtain⟨o0,o1,o2,o3,o4,o5,o6,o7,o8,o9,o10⟩:=aiZ hI.1 hx
   refine⟨stX n day fs lf pl ls s b,?_,hk⟩
   rw [he]at hf
   simp only [anU,rY,Sum.inr.injEq,o0,o1,o2,o3,o4,o5,o6,o7,o8,o9]at hf
   rw [← hf]
   simp only [anU,stX,vX,DX]
   generalize stV n s.1 day s.2.1 fs s.2.2.1 lf pl ls b.1 b.2.1 b.2.2.1.1 b.2.2.1.2 b.2.2.2.1 b.2.2.2.2.1 b.2.2.2.2.2=v
   cases b.1==0 <;> cases v==0 <;> rfl
 ·obtain⟨y1,y3,y4,y5,y6,y7,y8,y9,y10,y11,y12⟩:=a
  simp [CA,CB,CC,eA,CD,dL,tc,fA,fB,fC,bj,zt,zu,rG,ux,zr,EH,EI,Li,Lj,Lk,Ll,Lm,Ln,Lo,Im,Io,Ip,Iq,Ir,Is,It,Iu,Iv,Iw,Ix,Iy,HE,fg,LT.out,pX]
def apY(n day:Int)(fs lf:L3)(pl ls:L2)(s:RS):LI×Int×Int×Int×LI×L3×List LI×L3×L2×L2:=(s.2.2.2.1,n,s.1,day,s.2.1,fs,s.2.2.1,lf,pl,ls)
def mP(b:Int×(Int×((Int×Int)×(Int×(Int×Bool))))):(List Int×Int×Int×Int×List Int×List (Int×(Int×Int))×List (List Int)×List (Int×(Int×Int))×List (Int×Int)×List (Int×Int))→Nat ⊕ (List Int×Int×Int×Int×List Int×List (Int×(Int×Int))×List (List Int)×List (Int×(Int×Int))×List (Int×Int)×List (Int×Int))
 |(y3,y4,y5,y6,y7,y8,y9,y10,y11,y12)=>(.inr ((y3++([dy b.1 (b.2.1) (b.2.2.1.1) (b.2.2.1.2) (b.2.2.2.1) (b.2.2.2.2.1) b.2.2.2.2.2 y4 y5 y6 y7 y8 y9 y10 y11 y12])),dA b.1 (b.2.1) (b.2.2.1.1) (b.2.2.1.2) (b.2.2.2.1) (b.2.2.2.2.1) b.2.2.2.2.2 y4 y5 y6 y7 y8 y9 y10 y11 y12,dB b.1 (b.2.1) (b.2.2.1.1) (b.2.2.1.2) (b.2.2.2.1) (b.2.2.2.2.1) b.2.2.2.2.2 y4 y5 y6 y7 y8 y9 y10 y11 y12,dC b.1 (b.2.1) (b.2.2.1.1) (b.2.2.1.2) (b.2.2.2.1) (b.2.2.2.2.1) b.2.2.2.2.2 y4 y5 y6 y7 y8 y9 y10 y11 y12,dD b.1 (b.2.1) (b.2.2.1.1) (b.2.2.1.2) (b.2.2.2.1) (b.2.2.2.2.1) b.2.2.2.2.2 y4 y5 y6 y7 y8 y9 y10 y11 y12,dE b.1 (b.2.1) (b.2.2.1.1) (b.2.2.1.2) (b.2.2.2.1) (b.2.2.2.2.1) b.2.2.2.2.2 y4 y5 y6 y7 y8 y9 y10 y11 y12,dF b.1 (b.2.1) (b.2.2.1.1) (b.2.2.1.2) (b.2.2.2.1) (b.2.2.2.2.1) b.2.2.2.2.2 y4 y5 y6 y7 y9 y11 y12,dG b.1 (b.2.1) (b.2.2.1.1) (b.2.2.1.2) (b.2.2.2.1) (b.2.2.2.2.1) b.2.2.2.2.2 y4 y5 y6 y7 y8 y9 y10 y11 y12,dH b.1 (b.2.1) (b.2.2.1.1) (b.2.2.1.2) (b.2.2.2.1) (b.2.2.2.2.1) b.2.2.2.2.2 y4 y5 y6 y7 y8 y9 y10 y11 y12,(dI b.1 (b.2.1) (b.2.2.1.1) (b.2.2.1.2) (b.2.2.2.1) (b.2.2.2.2.1) b.2.2.2.2.2 y4 y5 y6 y7 y8 y9 y10 y11 y12)))
def nQ(y2:List (Int×(Int×((Int×Int)×(Int×(Int×Bool))))))(i:Nat):(List Int×Int×Int×Int×List Int×List (Int×(Int×Int))×List (List Int)×List (Int×(Int×Int))×List (Int×Int)×List (Int×Int))→mM
 |(y3,y4,y5,y6,y7,y8,y9,y10,y11,y12)=>((i:Int),(↑y2.length:Int),y2,y3,y4,y5,y6,y7,y8,y9,y10,y11,y12)
def Tg:mM→List Int×Int×Int×Int×List Int×List (Int×(Int×Int))×List (List Int)×List (Int×(Int×Int))×List (Int×Int)×List (Int×Int)
 |(_,_,_,y3,y4,y5,y6,y7,y8,y9,y10,y11,y12)=>(y3,y4,y5,y6,y7,y8,y9,y10,y11,y12)
theorem anA(y2:List (Int×(Int×((Int×Int)×(Int×(Int×Bool))))))(y3:List Int)(y4 y5 y6:Int)(y7:List Int)(y8:List (Int×(Int×Int)))(y9:List (List Int))(y10:List (Int×(Int×Int)))(y11 y12:List (Int×Int))(hn:y2.length≤9223372036854775807)(n day:Int)(fs lf:L3)(pl ls:L2)(ps0:LI)(rs0:List LI)(hX: ∀ x∈y2,isX ps0 rs0 x=true)(s0:RS)(hs0:(y3,y4,y5,y6,y7,y8,y9,y10,y11,y12)=apY n day fs lf pl ls s0)(hi0:ajO n day fs lf pl ls ps0 rs0 0 s0)(h200:y2.length≤200):
  ek.fin ((0:Int),(↑y2.length:Int),y2,y3,y4,y5,y6,y7,y8,y9,y10,y11,y12)=true∧ek.res ((0:Int),(↑y2.length:Int),y2,y3,y4,y5,y6,y7,y8,y9,y10,y11,y12)=((aN (mP) 0 y2 0 (y3,y4,y5,y6,y7,y8,y9,y10,y11,y12)).1,(nQ y2) (aN (mP) 0 y2 0 (y3,y4,y5,y6,y7,y8,y9,y10,y11,y12)).2.1 (aN (mP) 0 y2 0 (y3,y4,y5,y6,y7,y8,y9,y10,y11,y12)).2.2):=by
 have cH:=ek.along (nQ y2) Tg (mP) 0 (fun i a=> ∃ s,a=apY n day fs lf pl ls s∧ajO n day fs lf pl ls ps0 rs0 i s) y2 (y3,y4,y5,y6,y7,y8,y9,y10,y11,y12) ⟨s0,hs0,hi0⟩ (by simp only [ek,nQ];omega) (fun i b a hb hI=> ?_) (fun a hI=> ?_)
 ·exact cH
 ·obtain⟨y3,y4,y5,y6,y7,y8,y9,y10,y11,y12⟩:=a
  have dd:=(List.getElem?_eq_some_iff.1 hb).1
  have gc: ∀ d,Option.getD y2[i]? d=b:=fun d=>by rw [hb];rfl
  have hw:=tQ dd hn
  have bW:ltI (i:Int) (y2.length:Int)=true:=du (by omega)
  have pY:leI (0:Int) (i:Int)=true:=ct (by omega)
  have dw:ltN i y2.length=true:=ec dd
  refine⟨?_,?_,?_,?_⟩
  ·have hm:=hX b (List.mem_of_getElem? hb)
   obtain⟨s,he,hI⟩:=hI
   obtain⟨hx,_⟩:=GQ hI hm
   obtain⟨o0,o1,o2,o3,o4,o5,o6,o7,o8,o9,o10⟩:=afD hI.1 hx
   simp only [apY,Prod.mk.injEq]at he
   obtain⟨rfl,rfl,rfl,rfl,rfl,rfl,rfl,rfl,rfl,rfl⟩:=he
   have tS:s.2.2.2.1.length≤i:=hI.2.2.2
   have h6:leN (s.2.2.2.1.length + 1) 9223372036854775807=true:=bY (by omega)
   have h7:leN ((s.2.2.2.1.length + 1) * 8) 140737488355328=true:=bY (by omega)
   simp [yV,ee,yW,ef,qV,eg,ei,ej,bi,ug,Hc,Hd,He,Hf,Hg,Hh,Hi,Hj,Hk,Hl,EO,EP,EQ,ER,ES,ET,EU,EV,FF,ek,LT.nds,allT,nQ,apY,bW,pY,dw,gc,o0,o1,o2,o3,o4,o5,o6,o7,o8,o9,o10,h6,h7]
  ·simp [yV,ee,yW,ef,qV,eg,ei,ej,bi,ug,Hc,Hd,He,Hf,Hg,Hh,Hi,Hj,Hk,Hl,EO,EP,EQ,ER,ES,ET,EU,EV,FF,ek,LT.each,nQ,Tg,hw]
  ·simp only [yV,ee,yW,ef,qV,eg,ei,ej,bi,ug,Hc,Hd,He,Hf,Hg,Hh,Hi,Hj,Hk,Hl,EO,EP,EQ,ER,ES,ET,EU,EV,FF,ek,LT.fn,nQ,Tg,mP,Int.toNat_natCast,bW,pY,dw,gc,cond_true,Bool.cond_self]
  ·intro a' hf
   obtain⟨s,he,hI⟩:=hI
   have hm:=hX b (List.mem_of_getElem? hb)
   obtain⟨hx,hk⟩:=GQ hI hm
   obtain⟨o0,o1,o2,o3,o4,o5,o6,o7,o8,o9,o10⟩:=afD hI.1 hx
   refine⟨stX n day fs lf pl ls s b,?_,hk⟩
   rw [he]at hf
   simp only [apY,mP,Sum.inr.injEq,o0,o1,o2,o3,o4,o5,o6,o7,o8,o9]at hf
   rw [← hf]
   rfl
 ·obtain⟨y3,y4,y5,y6,y7,y8,y9,y10,y11,y12⟩:=a
  simp [yV,ee,yW,ef,qV,eg,ei,ej,bi,ug,Hc,Hd,He,Hf,Hg,Hh,Hi,Hj,Hk,Hl,EO,EP,EQ,ER,ES,ET,EU,EV,FF,ek,LT.out,nQ]
end Go.SX
