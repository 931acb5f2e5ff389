/- What functions of the program come to, and what that says in plain words: part 3. -/
import Derived.Test.YtbbfgoobcjlooaaGreatDoorMb
import Derived.Test.YtbbfgoobcjlooaaGreatDoorTXh
import Derived.Test.YtbbfgoobcjlooaaGreatDoorProg
set_option linter.unusedSimpArgs false
set_option linter.unusedVariables false
namespace Go.SX
open Go.Proofs Go.Proofs.Tryz
set_option maxRecDepth 100000
def ml(x0:ByteArray)(x1:List ByteArray):Bool:= !mu x1 x0
def mm(x1:List ByteArray):Bool:=allT [leN x1.length (9223372036854775807:Nat)]
def sE:List SV→List Entry→Option Out
 | [.one ⟨false,[.val (.string x0)]⟩,.one ⟨false,[.ptr 0 0]⟩],[.box 60 [.ref 1],.row true 9 (.str) x1]=>some ⟨.one ⟨false,[.val (.bool (ml x0 x1))]⟩,[.box 60 [.ref 1],.row true 9 agS x1],[],[mm x1]⟩
 |_,_=>none
def cS:PF prog:=PF.ofG prog [aH,PF.lend aH,PF.fz aH] [] aQ 236 f236 func236 (fun c _=>LOk.nil c) sE (by
 intro vs es r h;unfold sE at h;split at h
 ·cases h;kernel_rfl
 ·cases h)
abbrev bo:=Int×Int×List ByteArray×List ByteArray
section
variable (y0 y1:Int)(y2 y3:List ByteArray)
def gO:Bool:=ltI y0 y1
def gP:Bool:=leI (0:Int) y0
def gQ:Bool:=ltI y0 (↑y2.length:Int)
def gR:Bool:=ltN y0.toNat y2.length
def dP:Bool:=mm y3
def gS:Bool:=ml (Option.getD y2[Int.toNat y0]? ByteArray.empty) y3
def kS:Int:=IntKind.wrap .i64 (y0 + (1:Int))
end
def Gp:bo→List (Nat×SV)
 |(y0,y1,_,_)=> [(8,(.one ⟨false,[.val (.int .i64 y0)]⟩)),(7,(.one ⟨false,[.val (.int .i64 y1)]⟩)),(1,(.one ⟨false,[.clo 236 [0]]⟩)),(0,(.one ⟨false,[.ref 1]⟩))]
def Gl:bo→List (Nat×Entry)
 |(_,_,y2,y3)=> [(0,(.box 60 [.ref 2])),(1,(.row true 9 agS y2)),(2,(.row true 9 agS y3))]
def Gw:Nat→bo→List (Nat×SV)
 |0,(y0,_,_,_)=> [(4,(.one ⟨false,[.val (.int .i64 y0)]⟩))]
 |_,(_,_,_,_)=> []
def Gt:Nat→bo→List (Nat×Entry)
 |0,(_,_,y2,y3)=> [(0,(.box 60 [.ref 2])),(1,(.row true 9 agS y2)),(2,(.row true 9 agS y3))]
 |_,(_,_,y2,y3)=> [(0,(.box 60 [.ref 2])),(1,(.row true 9 agS y2)),(2,(.row true 9 agS y3))]
def gx:bo→LT bo
 |(y0,y1,y2,y3)=> .ite (gO y0 y1) (.need [gP y0,gQ y0 y2,gR y0 y2,dP y3] (.ite (gS y0 y2 y3) (.ext 0 [(0,0),(1,1),(2,2)]) (.nrm ((kS y0),y1,y2,y3) [(0,0),(1,1),(2,2)]))) (.ext 1 [(0,0),(1,1),(2,2)])
def pJ(s:St):Option bo:=
 (match s.look 8 with
 |some ⟨none,.one ⟨false,[.val (.int .i64 y0)]⟩⟩=>
 (match s.look 7 with
 |some ⟨none,.one ⟨false,[.val (.int .i64 y1)]⟩⟩=>
 (match s.look 1 with
 |some ⟨none,.one ⟨false,[.clo 236 [1]]⟩⟩=>
 (match s.look 0 with
 |some ⟨none,.one ⟨false,[.ref 0]⟩⟩=>
 (match s.ent 1 with
 |some (.box 60 [.ref 2])=>
 (match s.ent 0 with
 |some (.row true 9 (.str) y2)=>
 (match s.ent 2 with
 |some (.row true 9 (.str) y3)=>
 some (y0,y1,y2,y3)
 |_=>none)
 |_=>none)
 |_=>none)
 |_=>none)
 |_=>none)
 |_=>none)
 |_=>none)
def ai:Lp bo where
 h:=⟨[9,10,5,11,12,13,14,15,16,17,4,18,8],[0,1,2],[],[]⟩
 JL:=Gp
 JE:=Gl
 XL:=Gw
 XE:=Gt
 q:=fun j=>match j with | 0=> .ret | _=> .exit 0
 tags:= [0,1]
 lt:=gx
 fuel:=fun(y0,y1,y2,y3)=>y0.natAbs + y1.natAbs + y2.length + y3.length
 fix:=fun(_,y1,y2,y3) (y0,_,_,_)=>(y0,y1,y2,y3)
 σ:= [(0,1),(1,0),(2,2)]
 rd:=pJ
theorem FK:LoopOk prog (fun k=>Nat.blt k Tryz.f264.ntmps) ai.F (aS f264 0):=by
 refine Lp.ok (tbl:= [cS,PF.lend cS,PF.fz cS]) (lf:= []) aQ ai (by kernel_rfl) (LOk.nil _) (fun _=>rfl) (fun j _=>by unfold ai;match j with | 0=>rfl | _ + 1=>rfl) ?_ ?_ ?_ ?_ (fun _=>rfl) ?_
 ·rintro⟨y0,y1,y2,y3⟩;kernel_rfl
 ·rintro⟨y0,y1,y2,y3⟩;kernel_rfl
 ·intro s x h
  have h:pJ s=some x:=h
  unfold pJ at h
  repeat' split at h
  all_goals cases h
  exact⟨aa (by assumption) rfl (aa (by assumption) rfl (aa (by assumption) rfl (aa (by assumption) rfl (rfl)))),ab rfl (by assumption) rfl (ab rfl (by assumption) rfl (ab rfl (by assumption) rfl (rfl)))⟩
 ·rintro⟨y0,y1,y2,y3⟩;kernel_rfl
 ·rintro⟨y0,y1,y2,y3⟩ z;exact(And.intro (And.intro trivial rfl) trivial)
section
variable (x0 x1:List ByteArray)
def iD:Int×Int×List ByteArray×List ByteArray:=((0:Int),(↑x0.length:Int),x0,x1)
def me:Bool:=Nat.beq ((Lp.res ai (iD x0 x1)).1) (0:Nat)
def rD:Int:=bif me x0 x1 then ((Lp.res ai (iD x0 x1)).2).1else(-1:Int)
def yP:List ByteArray:=bif me x0 x1 then x0 else x0
def yQ:List ByteArray:=bif me x0 x1 then x1 else x1
def rE:Bool:=allT [Lp.fin ai (iD x0 x1)]
end
def yc:List SV→List Entry→Option Out
 | [.one ⟨false,[.ref 0]⟩,.one ⟨false,[.clo 236 [1]]⟩],[.row true 9 (.str) x0,.box 60 [.ref 2],.row true 9 (.str) x1]=>some ⟨.one ⟨false,[.val (.int .i64 (rD x0 x1))]⟩,[.row true 9 agS (yP x0 x1),.box 60 [.ref 2],.row true 9 agS (yQ x0 x1)],[],[rE x0 x1]⟩
 |_,_=>none
def ro:PF prog:=PF.ofG prog [cS,PF.lend cS,PF.fz cS] [ai.F] aQ 264 f264 func264 (LOk.fnT (l:= [aS f264 0]) (by kernel_rfl) (.cons FK (.nil _))) yc (by
 intro vs es r h;unfold yc at h;split at h
 ·cases h;kernel_rfl
 ·cases h)
section
variable (x0 x1:List ByteArray)
def db:Bool:=leI (0:Int) (rD x0 x1)
def cj:List ByteArray:=yP x0 x1
def kO:List ByteArray:=yQ x0 x1
def kP:Bool:=allT [rE x0 x1]
end
def wB:List SV→List Entry→Option Out
 | [.one ⟨false,[.ref 0]⟩,.one ⟨false,[.clo 236 [1]]⟩],[.row true 9 (.str) x0,.box 60 [.ref 2],.row true 9 (.str) x1]=>some ⟨.one ⟨false,[.val (.bool (db x0 x1))]⟩,[.row true 9 agS (cj x0 x1),.box 60 [.ref 2],.row true 9 agS (kO x0 x1)],[],[kP x0 x1]⟩
 |_,_=>none
def dN:PF prog:=PF.ofG prog [ro,PF.lend ro,PF.fz ro] [] aQ 235 f235 func235 (fun c _=>LOk.nil c) wB (by
 intro vs es r h;unfold wB at h;split at h
 ·cases h;kernel_rfl
 ·cases h)
def mn(x0:ByteArray)(x1:List ByteArray):Bool:= !mu x1 x0
def mo(x1:List ByteArray):Bool:=allT [leN x1.length (9223372036854775807:Nat)]
def sF:List SV→List Entry→Option Out
 | [.one ⟨false,[.val (.string x0)]⟩,.one ⟨false,[.ptr 0 0]⟩],[.box 60 [.ref 1],.row true 9 (.str) x1]=>some ⟨.one ⟨false,[.val (.bool (mn x0 x1))]⟩,[.box 60 [.ref 1],.row true 9 agS x1],[],[mo x1]⟩
 |_,_=>none
def cT:PF prog:=PF.ofG prog [aH,PF.lend aH,PF.fz aH] [] aQ 237 f237 func237 (fun c _=>LOk.nil c) sF (by
 intro vs es r h;unfold sF at h;split at h
 ·cases h;kernel_rfl
 ·cases h)
abbrev bp:=Int×Int×List ByteArray×List ByteArray
section
variable (y0 y1:Int)(y2 y3:List ByteArray)
def gT:Bool:=ltI y0 y1
def gU:Bool:=leI (0:Int) y0
def gV:Bool:=ltI y0 (↑y2.length:Int)
def gW:Bool:=ltN y0.toNat y2.length
def dQ:Bool:=mo y3
def gX:Bool:=mn (Option.getD y2[Int.toNat y0]? ByteArray.empty) y3
def kT:Int:=IntKind.wrap .i64 (y0 + (1:Int))
end
def Gq:bp→List (Nat×SV)
 |(y0,y1,_,_)=> [(8,(.one ⟨false,[.val (.int .i64 y0)]⟩)),(7,(.one ⟨false,[.val (.int .i64 y1)]⟩)),(1,(.one ⟨false,[.clo 237 [0]]⟩)),(0,(.one ⟨false,[.ref 1]⟩))]
def Gm:bp→List (Nat×Entry)
 |(_,_,y2,y3)=> [(0,(.box 60 [.ref 2])),(1,(.row true 9 agS y2)),(2,(.row true 9 agS y3))]
def Gx:Nat→bp→List (Nat×SV)
 |0,(y0,_,_,_)=> [(4,(.one ⟨false,[.val (.int .i64 y0)]⟩))]
 |_,(_,_,_,_)=> []
def Gu:Nat→bp→List (Nat×Entry)
 |0,(_,_,y2,y3)=> [(0,(.box 60 [.ref 2])),(1,(.row true 9 agS y2)),(2,(.row true 9 agS y3))]
 |_,(_,_,y2,y3)=> [(0,(.box 60 [.ref 2])),(1,(.row true 9 agS y2)),(2,(.row true 9 agS y3))]
def gy:bp→LT bp
 |(y0,y1,y2,y3)=> .ite (gT y0 y1) (.need [gU y0,gV y0 y2,gW y0 y2,dQ y3] (.ite (gX y0 y2 y3) (.ext 0 [(0,0),(1,1),(2,2)]) (.nrm ((kT y0),y1,y2,y3) [(0,0),(1,1),(2,2)]))) (.ext 1 [(0,0),(1,1),(2,2)])
def pK(s:St):Option bp:=
 (match s.look 8 with
 |some ⟨none,.one ⟨false,[.val (.int .i64 y0)]⟩⟩=>
 (match s.look 7 with
 |some ⟨none,.one ⟨false,[.val (.int .i64 y1)]⟩⟩=>
 (match s.look 1 with
 |some ⟨none,.one ⟨false,[.clo 237 [1]]⟩⟩=>
 (match s.look 0 with
 |some ⟨none,.one ⟨false,[.ref 0]⟩⟩=>
 (match s.ent 1 with
 |some (.box 60 [.ref 2])=>
 (match s.ent 0 with
 |some (.row true 9 (.str) y2)=>
 (match s.ent 2 with
 |some (.row true 9 (.str) y3)=>
 some (y0,y1,y2,y3)
 |_=>none)
 |_=>none)
 |_=>none)
 |_=>none)
 |_=>none)
 |_=>none)
 |_=>none)
def aj:Lp bp where
 h:=⟨[9,10,5,11,12,13,14,15,16,17,4,18,8],[0,1,2],[],[]⟩
 JL:=Gq
 JE:=Gm
 XL:=Gx
 XE:=Gu
 q:=fun j=>match j with | 0=> .ret | _=> .exit 0
 tags:= [0,1]
 lt:=gy
 fuel:=fun(y0,y1,y2,y3)=>y0.natAbs + y1.natAbs + y2.length + y3.length
 fix:=fun(_,y1,y2,y3) (y0,_,_,_)=>(y0,y1,y2,y3)
 σ:= [(0,1),(1,0),(2,2)]
 rd:=pK
theorem FL:LoopOk prog (fun k=>Nat.blt k Tryz.f264.ntmps) aj.F (aS f264 0):=by
 refine Lp.ok (tbl:= [cT,PF.lend cT,PF.fz cT]) (lf:= []) aQ aj (by kernel_rfl) (LOk.nil _) (fun _=>rfl) (fun j _=>by unfold aj;match j with | 0=>rfl | _ + 1=>rfl) ?_ ?_ ?_ ?_ (fun _=>rfl) ?_
 ·rintro⟨y0,y1,y2,y3⟩;kernel_rfl
 ·rintro⟨y0,y1,y2,y3⟩;kernel_rfl
 ·intro s x h
  have h:pK s=some x:=h
  unfold pK at h
  repeat' split at h
  all_goals cases h
  exact⟨aa (by assumption) rfl (aa (by assumption) rfl (aa (by assumption) rfl (aa (by assumption) rfl (rfl)))),ab rfl (by assumption) rfl (ab rfl (by assumption) rfl (ab rfl (by assumption) rfl (rfl)))⟩
 ·rintro⟨y0,y1,y2,y3⟩;kernel_rfl
 ·rintro⟨y0,y1,y2,y3⟩ z;exact(And.intro (And.intro trivial rfl) trivial)
section
variable (x0 x1:List ByteArray)
def iE:Int×Int×List ByteArray×List ByteArray:=((0:Int),(↑x0.length:Int),x0,x1)
def mf:Bool:=Nat.beq ((Lp.res aj (iE x0 x1)).1) (0:Nat)
def rF:Int:=bif mf x0 x1 then ((Lp.res aj (iE x0 x1)).2).1else(-1:Int)
def yR:List ByteArray:=bif mf x0 x1 then x0 else x0
def yS:List ByteArray:=bif mf x0 x1 then x1 else x1
def rG:Bool:=allT [Lp.fin aj (iE x0 x1)]
end
def yf:List SV→List Entry→Option Out
 | [.one ⟨false,[.ref 0]⟩,.one ⟨false,[.clo 237 [1]]⟩],[.row true 9 (.str) x0,.box 60 [.ref 2],.row true 9 (.str) x1]=>some ⟨.one ⟨false,[.val (.int .i64 (rF x0 x1))]⟩,[.row true 9 agS (yR x0 x1),.box 60 [.ref 2],.row true 9 agS (yS x0 x1)],[],[rG x0 x1]⟩
 |_,_=>none
def rp:PF prog:=PF.ofG prog [cT,PF.lend cT,PF.fz cT] [aj.F] aQ 264 f264 func264 (LOk.fnT (l:= [aS f264 0]) (by kernel_rfl) (.cons FL (.nil _))) yf (by
 intro vs es r h;unfold yf at h;split at h
 ·cases h;kernel_rfl
 ·cases h)
section
variable (x0 x1:List ByteArray)
def kQ:Bool:=leI (0:Int) (rF x0 x1)
def wK:List ByteArray:=yR x0 x1
def wL:List ByteArray:=yS x0 x1
def kR:Bool:=allT [rG x0 x1]
end
def wC:List SV→List Entry→Option Out
 | [.one ⟨false,[.ref 0]⟩,.one ⟨false,[.clo 237 [1]]⟩],[.row true 9 (.str) x0,.box 60 [.ref 2],.row true 9 (.str) x1]=>some ⟨.one ⟨false,[.val (.bool (kQ x0 x1))]⟩,[.row true 9 agS (wK x0 x1),.box 60 [.ref 2],.row true 9 agS (wL x0 x1)],[],[kR x0 x1]⟩
 |_,_=>none
def dO:PF prog:=PF.ofG prog [rp,PF.lend rp,PF.fz rp] [] aQ 235 f235 func235 (fun c _=>LOk.nil c) wC (by
 intro vs es r h;unfold wC at h;split at h
 ·cases h;kernel_rfl
 ·cases h)
section
variable (x0:Int)(x1:ByteArray)(x5 x6:List ByteArray)
def jg:Bool:=bif x0==(1:Int)then !mu x5 x1 else false
def eL:Bool:=bif jg x0 x1 x5 then !mu x6 x1 else false
def jM:Bool:=allT [!(x0==(1:Int)&&true)||leN x5.length (9223372036854775807:Nat),!(jg x0 x1 x5&&true)||leN x6.length (9223372036854775807:Nat)]
end
def pN:List SV→List Entry→Option Out
 | [.one ⟨true,[.val (.int .i64 x0),.val (.string x1),.val (.int .i64 _x2)]⟩,.one ⟨false,[.ptr 0 0]⟩],[.box 63 [.val (.string x3),.ref 1,.ref 2,.ref 3,.val (.string x4),.ref 4],.row false 9 (.str) x5,.row false 9 (.str) x6,.row false 9 (.str) x7,.row false 204 (.pair .str (.sl (178:Nat) (.pair (.int .i64) (.pair .str (.int .i64))))) x8]=>some ⟨.one ⟨false,[.val (.bool (eL x0 x1 x5 x6))]⟩,[.box 63 [.val (.string x3),.ref 1,.ref 2,.ref 3,.val (.string x4),.ref 4],.row false 9 agS x5,.row false 9 agS x6,.row false 9 agS x7,.row false 204 (CTy.pair CTy.str (CTy.sl (178:Nat) aeH)) x8],[],[jM x0 x1 x5 x6]⟩
 |_,_=>none
def bX:PF prog:=PF.ofG prog [aH,PF.lend aH,PF.fz aH] [] aQ 265 f265 func265 (fun c _=>LOk.nil c) pN (by
 intro vs es r h;unfold pN at h;split at h
 ·cases h;kernel_rfl
 ·cases h)
abbrev bG:=Int×Int×ByteArray×ByteArray×List (Int×(ByteArray×Int))×List ByteArray×List ByteArray×List ByteArray×List (ByteArray×(List (Int×(ByteArray×Int))))
section
variable (y0 y1:Int)(y4:List (Int×(ByteArray×Int)))(y5 y6:List ByteArray)
def bz:Int×ByteArray×Int:=Option.getD y4[Int.toNat y0]? ((0:Int),ByteArray.empty,(0:Int))
def jF:Bool:=ltI y0 y1
def nv:Bool:=leI (0:Int) y0
def nx:Bool:=ltI y0 (↑y4.length:Int)
def ny:Bool:=ltN y0.toNat y4.length
def jG:Bool:=jM ((bz y0 y4).1) (((bz y0 y4).2).1) y5 y6
def jH:Bool:=eL ((bz y0 y4).1) (((bz y0 y4).2).1) y5 y6
def sx:Int:=IntKind.wrap .i64 (y0 + (1:Int))
end
def IX:bG→List (Nat×SV)
 |(y0,y1,_,_,_,_,_,_,_)=> [(8,(.one ⟨false,[.val (.int .i64 y0)]⟩)),(7,(.one ⟨false,[.val (.int .i64 y1)]⟩)),(1,(.one ⟨false,[.clo 265 [0]]⟩)),(0,(.one ⟨false,[.ref 1]⟩))]
def IQ:bG→List (Nat×Entry)
 |(_,_,y2,y3,y4,y5,y6,y7,y8)=> [(0,(.box 63 [.val (.string y2),.ref 2,.ref 3,.ref 4,.val (.string y3),.ref 5])),(1,(.row false 178 aeH y4)),(2,(.row false 9 agS y5)),(3,(.row false 9 agS y6)),(4,(.row false 9 agS y7)),(5,(.row false 204 (CTy.pair CTy.str (CTy.sl (178:Nat) aeH)) y8))]
def Ji:Nat→bG→List (Nat×SV)
 |0,(y0,_,_,_,_,_,_,_,_)=> [(4,(.one ⟨false,[.val (.int .i64 y0)]⟩))]
 |_,(_,_,_,_,_,_,_,_,_)=> []
def Jd:Nat→bG→List (Nat×Entry)
 |0,(_,_,y2,y3,y4,y5,y6,y7,y8)=> [(0,(.box 63 [.val (.string y2),.ref 2,.ref 3,.ref 4,.val (.string y3),.ref 5])),(1,(.row false 178 aeH y4)),(2,(.row false 9 agS y5)),(3,(.row false 9 agS y6)),(4,(.row false 9 agS y7)),(5,(.row false 204 (CTy.pair CTy.str (CTy.sl (178:Nat) aeH)) y8))]
 |_,(_,_,y2,y3,y4,y5,y6,y7,y8)=> [(0,(.box 63 [.val (.string y2),.ref 2,.ref 3,.ref 4,.val (.string y3),.ref 5])),(1,(.row false 178 aeH y4)),(2,(.row false 9 agS y5)),(3,(.row false 9 agS y6)),(4,(.row false 9 agS y7)),(5,(.row false 204 (CTy.pair CTy.str (CTy.sl (178:Nat) aeH)) y8))]
def jb:bG→LT bG
 |(y0,y1,y2,y3,y4,y5,y6,y7,y8)=> .ite (jF y0 y1) (.need [nv y0,nx y0 y4,ny y0 y4,jG y0 y4 y5 y6] (.ite (jH y0 y4 y5 y6) (.ext 0 [(0,0),(1,1),(2,2),(3,3),(4,4),(5,5)]) (.nrm ((sx y0),y1,y2,y3,y4,y5,y6,y7,y8) [(0,0),(1,1),(2,2),(3,3),(4,4),(5,5)]))) (.ext 1 [(0,0),(1,1),(2,2),(3,3),(4,4),(5,5)])
def rA(s:St):Option bG:=
 (match s.look 8 with
 |some ⟨none,.one ⟨false,[.val (.int .i64 y0)]⟩⟩=>
 (match s.look 7 with
 |some ⟨none,.one ⟨false,[.val (.int .i64 y1)]⟩⟩=>
 (match s.look 1 with
 |some ⟨none,.one ⟨false,[.clo 265 [1]]⟩⟩=>
 (match s.look 0 with
 |some ⟨none,.one ⟨false,[.ref 0]⟩⟩=>
 (match s.ent 1 with
 |some (.box 63 [.val (.string y2),.ref 2,.ref 3,.ref 4,.val (.string y3),.ref 5])=>
 (match s.ent 0 with
 |some (.row false 178 (.pair (.int .i64) (.pair .str (.int .i64))) y4)=>
 (match s.ent 2 with
 |some (.row false 9 (.str) y5)=>
 (match s.ent 3 with
 |some (.row false 9 (.str) y6)=>
 (match s.ent 4 with
 |some (.row false 9 (.str) y7)=>
 (match s.ent 5 with
 |some (.row false 204 (.pair .str (.sl (178:Nat) (.pair (.int .i64) (.pair .str (.int .i64))))) y8)=>
 some (y0,y1,y2,y3,y4,y5,y6,y7,y8)
 |_=>none)
 |_=>none)
 |_=>none)
 |_=>none)
 |_=>none)
 |_=>none)
 |_=>none)
 |_=>none)
 |_=>none)
 |_=>none)
def aE:Lp bG where
 h:=⟨[9,10,5,11,12,13,14,15,16,17,4,18,8],[0,1,2,3,4,5],[],[]⟩
 JL:=IX
 JE:=IQ
 XL:=Ji
 XE:=Jd
 q:=fun j=>match j with | 0=> .ret | _=> .exit 0
 tags:= [0,1]
 lt:=jb
 fuel:=fun(y0,y1,y2,y3,y4,y5,y6,y7,y8)=>y0.natAbs + y1.natAbs + y2.size + y3.size + y4.length + y5.length + y6.length + y7.length + y8.length
 fix:=fun(_,y1,y2,y3,y4,y5,y6,y7,y8) (y0,_,_,_,_,_,_,_,_)=>(y0,y1,y2,y3,y4,y5,y6,y7,y8)
 σ:= [(0,1),(1,0),(2,2),(3,3),(4,4),(5,5)]
 rd:=rA
theorem HN:LoopOk prog (fun k=>Nat.blt k Tryz.f214.ntmps) aE.F (aS f214 0):=by
 refine Lp.ok (tbl:= [bX,PF.lend bX,PF.fz bX]) (lf:= []) aQ aE (by kernel_rfl) (LOk.nil _) (fun _=>rfl) (fun j _=>by unfold aE;match j with | 0=>rfl | _ + 1=>rfl) ?_ ?_ ?_ ?_ (fun _=>rfl) ?_
 ·rintro⟨y0,y1,y2,y3,y4,y5,y6,y7,y8⟩;kernel_rfl
 ·rintro⟨y0,y1,y2,y3,y4,y5,y6,y7,y8⟩;kernel_rfl
 ·intro s x h
  have h:rA s=some x:=h
  unfold rA at h
  repeat' split at h
  all_goals cases h
  exact⟨aa (by assumption) rfl (aa (by assumption) rfl (aa (by assumption) rfl (aa (by assumption) rfl (rfl)))),ab rfl (by assumption) rfl (ab rfl (by assumption) rfl (ab rfl (by assumption) rfl (ab rfl (by assumption) rfl (ab rfl (by assumption) rfl (ab rfl (by assumption) rfl (rfl))))))⟩
 ·rintro⟨y0,y1,y2,y3,y4,y5,y6,y7,y8⟩;kernel_rfl
 ·rintro⟨y0,y1,y2,y3,y4,y5,y6,y7,y8⟩ z;exact(And.intro (And.intro trivial rfl) trivial)
section
variable (x0:List (Int×ByteArray×Int))(x1 x2:ByteArray)(x3 x4 x5:List ByteArray)(x6:List (ByteArray×List (Int×ByteArray×Int)))
def ko:Int×Int×ByteArray×ByteArray×List (Int×ByteArray×Int)×List ByteArray×List ByteArray×List ByteArray×List (ByteArray×List (Int×ByteArray×Int)):=((0:Int),(↑x0.length:Int),x1,x2,x0,x3,x4,x5,x6)
def oV:Bool:=Nat.beq ((Lp.res aE (ko x0 x1 x2 x3 x4 x5 x6)).1) (0:Nat)
def um:Int:=bif oV x0 x1 x2 x3 x4 x5 x6 then ((Lp.res aE (ko x0 x1 x2 x3 x4 x5 x6)).2).1else(-1:Int)
def Cn:ByteArray:=bif oV x0 x1 x2 x3 x4 x5 x6 then x1 else x1
def Co:ByteArray:=bif oV x0 x1 x2 x3 x4 x5 x6 then x2 else x2
def uo:Bool:=allT [Lp.fin aE (ko x0 x1 x2 x3 x4 x5 x6)]
end
def Bq:List SV→List Entry→Option Out
 | [.one ⟨false,[.ref 0]⟩,.one ⟨false,[.clo 265 [1]]⟩],[.row false 178 (.pair (.int .i64) (.pair .str (.int .i64))) x0,.box 63 [.val (.string x1),.ref 2,.ref 3,.ref 4,.val (.string x2),.ref 5],.row false 9 (.str) x3,.row false 9 (.str) x4,.row false 9 (.str) x5,.row false 204 (.pair .str (.sl (178:Nat) (.pair (.int .i64) (.pair .str (.int .i64))))) x6]=>some ⟨.one ⟨false,[.val (.int .i64 (um x0 x1 x2 x3 x4 x5 x6))]⟩,[.row false 178 aeH x0,.box 63 [.val (.string (Cn x0 x1 x2 x3 x4 x5 x6)),.ref 2,.ref 3,.ref 4,.val (.string (Co x0 x1 x2 x3 x4 x5 x6)),.ref 5],.row false 9 agS x3,.row false 9 agS x4,.row false 9 agS x5,.row false 204 (CTy.pair CTy.str (CTy.sl (178:Nat) aeH)) x6],[],[uo x0 x1 x2 x3 x4 x5 x6]⟩
 |_,_=>none
def uf:PF prog:=PF.ofG prog [bX,PF.lend bX,PF.fz bX] [aE.F] aQ 214 f214 func214 (LOk.fnT (l:= [aS f214 0]) (by kernel_rfl) (.cons HN (.nil _))) Bq (by
 intro vs es r h;unfold Bq at h;split at h
 ·cases h;kernel_rfl
 ·cases h)
section
variable (x0:List (Int×ByteArray×Int))(x1 x2:ByteArray)(x3 x4 x5:List ByteArray)(x6:List (ByteArray×List (Int×ByteArray×Int)))
def sq:Bool:=leI (0:Int) (um x0 x1 x2 x3 x4 x5 x6)
def Kl:ByteArray:=Cn x0 x1 x2 x3 x4 x5 x6
def Km:ByteArray:=Co x0 x1 x2 x3 x4 x5 x6
def sr:Bool:=allT [uo x0 x1 x2 x3 x4 x5 x6]
end
def zk:List SV→List Entry→Option Out
 | [.one ⟨false,[.ref 0]⟩,.one ⟨false,[.clo 265 [1]]⟩],[.row false 178 (.pair (.int .i64) (.pair .str (.int .i64))) x0,.box 63 [.val (.string x1),.ref 2,.ref 3,.ref 4,.val (.string x2),.ref 5],.row false 9 (.str) x3,.row false 9 (.str) x4,.row false 9 (.str) x5,.row false 204 (.pair .str (.sl (178:Nat) (.pair (.int .i64) (.pair .str (.int .i64))))) x6]=>some ⟨.one ⟨false,[.val (.bool (sq x0 x1 x2 x3 x4 x5 x6))]⟩,[.row false 178 aeH x0,.box 63 [.val (.string (Kl x0 x1 x2 x3 x4 x5 x6)),.ref 2,.ref 3,.ref 4,.val (.string (Km x0 x1 x2 x3 x4 x5 x6)),.ref 5],.row false 9 agS x3,.row false 9 agS x4,.row false 9 agS x5,.row false 204 (CTy.pair CTy.str (CTy.sl (178:Nat) aeH)) x6],[],[sr x0 x1 x2 x3 x4 x5 x6]⟩
 |_,_=>none
def se:PF prog:=PF.ofG prog [uf,PF.lend uf,PF.fz uf] [] aQ 159 f159 func159 (fun c _=>LOk.nil c) zk (by
 intro vs es r h;unfold zk at h;split at h
 ·cases h;kernel_rfl
 ·cases h)
def dr(x0 x1:ByteArray)(x3 x4 x5:List ByteArray)(x6:List (ByteArray×List (Int×ByteArray×Int)))(x7:List (Int×ByteArray×Int)):Bool:=sq x7 x0 x1 x3 x4 x5 x6
def fo(x0 x1:ByteArray)(x3 x4 x5:List ByteArray)(x6:List (ByteArray×List (Int×ByteArray×Int)))(x7:List (Int×ByteArray×Int)):Bool:=allT [sr x7 x0 x1 x3 x4 x5 x6]
def qB:List SV→List Entry→Option Out
 | [.one ⟨true,[.val (.string x0),.ref 0,.ref 1,.ref 2,.val (.string x1),.ref 3]⟩,.one ⟨true,[.val (.string _x2),.ref 4]⟩],[.row false 9 (.str) x3,.row false 9 (.str) x4,.row false 9 (.str) x5,.row false 204 (.pair .str (.sl (178:Nat) (.pair (.int .i64) (.pair .str (.int .i64))))) x6,.row false 178 (.pair (.int .i64) (.pair .str (.int .i64))) x7]=>some ⟨.one ⟨false,[.val (.bool (dr x0 x1 x3 x4 x5 x6 x7))]⟩,[.row false 9 agS x3,.row false 9 agS x4,.row false 9 agS x5,.row false 204 (CTy.pair CTy.str (CTy.sl (178:Nat) aeH)) x6,.row false 178 aeH x7],[],[fo x0 x1 x3 x4 x5 x6 x7]⟩
 |_,_=>none
def cn:PF prog:=PF.ofG prog [se,PF.lend se,PF.fz se] [] aQ 238 f238 func238 (fun c _=>LOk.nil c) qB (by
 intro vs es r h;unfold qB at h;split at h
 ·cases h;kernel_rfl
 ·cases h)
abbrev bF:=Int×Int×ByteArray×ByteArray×List ByteArray×List ByteArray×List ByteArray×List (ByteArray×(List (Int×(ByteArray×Int))))
def cM(y0:Int)(y7:List (ByteArray×(List (Int×(ByteArray×Int))))):List (Int×ByteArray×Int):=(Option.getD y7[Int.toNat y0]? (xt (CTy.pair CTy.str (CTy.sl (178:Nat) aeH)))).2
def jC(y0 y1:Int):Bool:=ltI y0 y1
def nr(y0:Int):Bool:=leI (0:Int) y0
def nt(y0:Int)(y7:List (ByteArray×(List (Int×(ByteArray×Int))))):Bool:=ltI y0 (↑y7.length:Int)
def nu(y0:Int)(y7:List (ByteArray×(List (Int×(ByteArray×Int))))):Bool:=ltN y0.toNat y7.length
def jD(y0:Int)(y2 y3:ByteArray)(y4 y5 y6:List ByteArray)(y7:List (ByteArray×(List (Int×(ByteArray×Int))))):Bool:=fo y2 y3 y4 y5 y6 y7 (cM y0 y7)
def jE(y0:Int)(y2 y3:ByteArray)(y4 y5 y6:List ByteArray)(y7:List (ByteArray×(List (Int×(ByteArray×Int))))):Bool:=dr y2 y3 y4 y5 y6 y7 (cM y0 y7)
def sw(y0:Int):Int:=IntKind.wrap .i64 (y0 + (1:Int))
def IV:bF→List (Nat×SV)
 |(y0,y1,y2,y3,_,_,_,_)=> [(8,(.one ⟨false,[.val (.int .i64 y0)]⟩)),(7,(.one ⟨false,[.val (.int .i64 y1)]⟩)),(1,(.one ⟨false,[.bnd 238 [(0,some (.string y2)),(0,none),(1,none),(2,none),(0,some (.string y3)),(3,none)]]⟩)),(0,(.one ⟨false,[.ref 3]⟩))]
def IO:bF→List (Nat×Entry)
 |(_,_,_,_,y4,y5,y6,y7)=> [(0,(.row false 9 agS y4)),(1,(.row false 9 agS y5)),(2,(.row false 9 agS y6)),(3,(.row false 204 (CTy.pair CTy.str (CTy.sl (178:Nat) aeH)) y7))]
def Jg:Nat→bF→List (Nat×SV)
 |0,(y0,_,_,_,_,_,_,_)=> [(4,(.one ⟨false,[.val (.int .i64 y0)]⟩))]
 |_,(_,_,_,_,_,_,_,_)=> []
def Jb:Nat→bF→List (Nat×Entry)
 |0,(_,_,_,_,y4,y5,y6,y7)=> [(0,(.row false 9 agS y4)),(1,(.row false 9 agS y5)),(2,(.row false 9 agS y6)),(3,(.row false 204 (CTy.pair CTy.str (CTy.sl (178:Nat) aeH)) y7))]
 |_,(_,_,_,_,y4,y5,y6,y7)=> [(0,(.row false 9 agS y4)),(1,(.row false 9 agS y5)),(2,(.row false 9 agS y6)),(3,(.row false 204 (CTy.pair CTy.str (CTy.sl (178:Nat) aeH)) y7))]
def ja:bF→LT bF
 |(y0,y1,y2,y3,y4,y5,y6,y7)=> .ite (jC y0 y1) (.need [nr y0,nt y0 y7,nu y0 y7,jD y0 y2 y3 y4 y5 y6 y7] (.ite (jE y0 y2 y3 y4 y5 y6 y7) (.ext 0 [(0,0),(1,1),(2,2),(3,3)]) (.nrm ((sw y0),y1,y2,y3,y4,y5,y6,y7) [(0,0),(1,1),(2,2),(3,3)]))) (.ext 1 [(0,0),(1,1),(2,2),(3,3)])
def ry(s:St):Option bF:=
 (match s.look 8 with
 |some ⟨none,.one ⟨false,[.val (.int .i64 y0)]⟩⟩=>
 (match s.look 7 with
 |some ⟨none,.one ⟨false,[.val (.int .i64 y1)]⟩⟩=>
 (match s.look 1 with
 |some ⟨none,.one ⟨false,[.bnd 238 [(0,some (.string y2)),(1,none),(2,none),(3,none),(0,some (.string y3)),(0,none)]]⟩⟩=>
 (match s.look 0 with
 |some ⟨none,.one ⟨false,[.ref 0]⟩⟩=>
 (match s.ent 1 with
 |some (.row false 9 (.str) y4)=>
 (match s.ent 2 with
 |some (.row false 9 (.str) y5)=>
 (match s.ent 3 with
 |some (.row false 9 (.str) y6)=>
 (match s.ent 0 with
 |some (.row false 204 (.pair .str (.sl (178:Nat) (.pair (.int .i64) (.pair .str (.int .i64))))) y7)=>
 some (y0,y1,y2,y3,y4,y5,y6,y7)
 |_=>none)
 |_=>none)
 |_=>none)
 |_=>none)
 |_=>none)
 |_=>none)
 |_=>none)
 |_=>none)
def aD:Lp bF where
 h:=⟨[9,10,5,11,12,13,14,15,16,17,4,18,8],[0,1,2,3],[],[]⟩
 JL:=IV
 JE:=IO
 XL:=Jg
 XE:=Jb
 q:=fun j=>match j with | 0=> .ret | _=> .exit 0
 tags:= [0,1]
 lt:=ja
 fuel:=fun(y0,y1,y2,y3,y4,y5,y6,y7)=>y0.natAbs + y1.natAbs + y2.size + y3.size + y4.length + y5.length + y6.length + y7.length
 fix:=fun(_,y1,y2,y3,y4,y5,y6,y7) (y0,_,_,_,_,_,_,_)=>(y0,y1,y2,y3,y4,y5,y6,y7)
 σ:= [(0,1),(1,2),(2,3),(3,0)]
 rd:=ry
theorem HL:LoopOk prog (fun k=>Nat.blt k Tryz.f262.ntmps) aD.F (aS f262 0):=by
 refine Lp.ok (tbl:= [cn,PF.lend cn,PF.fz cn]) (lf:= []) aQ aD (by kernel_rfl) (LOk.nil _) (fun _=>rfl) (fun j _=>by unfold aD;match j with | 0=>rfl | _ + 1=>rfl) ?_ ?_ ?_ ?_ (fun _=>rfl) ?_
 ·rintro⟨y0,y1,y2,y3,y4,y5,y6,y7⟩;kernel_rfl
 ·rintro⟨y0,y1,y2,y3,y4,y5,y6,y7⟩;kernel_rfl
 ·intro s x h
  have h:ry s=some x:=h
  unfold ry at h
  repeat' split at h
  all_goals cases h
  exact⟨aa (by assumption) rfl (aa (by assumption) rfl (aa (by assumption) rfl (aa (by assumption) rfl (rfl)))),ab rfl (by assumption) rfl (ab rfl (by assumption) rfl (ab rfl (by assumption) rfl (ab rfl (by assumption) rfl (rfl))))⟩
 ·rintro⟨y0,y1,y2,y3,y4,y5,y6,y7⟩;kernel_rfl
 ·rintro⟨y0,y1,y2,y3,y4,y5,y6,y7⟩ z;exact(And.intro (And.intro trivial rfl) trivial)
section
variable (x0 x1:ByteArray)(x2:List (ByteArray×List (Int×ByteArray×Int)))(x3 x4 x5:List ByteArray)
def kn:Int×Int×ByteArray×ByteArray×List ByteArray×List ByteArray×List ByteArray×List (ByteArray×List (Int×ByteArray×Int)):=((0:Int),(↑x2.length:Int),x0,x1,x3,x4,x5,x2)
def uk:Int:=bif Nat.beq ((Lp.res aD (kn x0 x1 x2 x3 x4 x5)).1) (0:Nat)then ((Lp.res aD (kn x0 x1 x2 x3 x4 x5)).2).1else(-1:Int)
def ul:Bool:=allT [Lp.fin aD (kn x0 x1 x2 x3 x4 x5)]
end
def Bo:List SV→List Entry→Option Out
 | [.one ⟨false,[.ref 0]⟩,.one ⟨false,[.bnd 238 [(0,some (.string x0)),(1,none),(2,none),(3,none),(0,some (.string x1)),(0,none)]]⟩],[.row false 204 (.pair .str (.sl (178:Nat) (.pair (.int .i64) (.pair .str (.int .i64))))) x2,.row false 9 (.str) x3,.row false 9 (.str) x4,.row false 9 (.str) x5]=>some ⟨.one ⟨false,[.val (.int .i64 (uk x0 x1 x2 x3 x4 x5))]⟩,[.row false 204 (CTy.pair CTy.str (CTy.sl (178:Nat) aeH)) x2,.row false 9 agS x3,.row false 9 agS x4,.row false 9 agS x5],[],[ul x0 x1 x2 x3 x4 x5]⟩
 |_,_=>none
def ud:PF prog:=PF.ofG prog [cn,PF.lend cn,PF.fz cn] [aD.F] aQ 262 f262 func262 (LOk.fnT (l:= [aS f262 0]) (by kernel_rfl) (.cons HL (.nil _))) Bo (by
 intro vs es r h;unfold Bo at h;split at h
 ·cases h;kernel_rfl
 ·cases h)
def ng(x0 x1:ByteArray)(x2:List (ByteArray×List (Int×ByteArray×Int)))(x3 x4 x5:List ByteArray):Bool:=leI (0:Int) (uk x0 x1 x2 x3 x4 x5)
def nh(x0 x1:ByteArray)(x2:List (ByteArray×List (Int×ByteArray×Int)))(x3 x4 x5:List ByteArray):Bool:=allT [ul x0 x1 x2 x3 x4 x5]
def zi:List SV→List Entry→Option Out
 | [.one ⟨false,[.ref 0]⟩,.one ⟨false,[.bnd 238 [(0,some (.string x0)),(1,none),(2,none),(3,none),(0,some (.string x1)),(0,none)]]⟩],[.row false 204 (.pair .str (.sl (178:Nat) (.pair (.int .i64) (.pair .str (.int .i64))))) x2,.row false 9 (.str) x3,.row false 9 (.str) x4,.row false 9 (.str) x5]=>some ⟨.one ⟨false,[.val (.bool (ng x0 x1 x2 x3 x4 x5))]⟩,[.row false 204 (CTy.pair CTy.str (CTy.sl (178:Nat) aeH)) x2,.row false 9 agS x3,.row false 9 agS x4,.row false 9 agS x5],[],[nh x0 x1 x2 x3 x4 x5]⟩
 |_,_=>none
def fR:PF prog:=PF.ofG prog [ud,PF.lend ud,PF.fz ud] [] aQ 229 f229 func229 (fun c _=>LOk.nil c) zi (by
 intro vs es r h;unfold zi at h;split at h
 ·cases h;kernel_rfl
 ·cases h)
abbrev ba:=Int×Int×List (ByteArray×(List (Int×(ByteArray×Int))))×List ByteArray
def bq(y0:Int)(y2:List (ByteArray×(List (Int×(ByteArray×Int))))):List ByteArray:= [(Option.getD y2[Int.toNat y0]? (xt (CTy.pair CTy.str (CTy.sl (178:Nat) aeH)))).1]
def fv(y0 y1:Int):Bool:=ltI y0 y1
def fw(y0:Int):Bool:=leI (0:Int) y0
def fy(y0:Int)(y2:List (ByteArray×(List (Int×(ByteArray×Int))))):Bool:=ltI y0 (↑y2.length:Int)
def fA(y0:Int)(y2:List (ByteArray×(List (Int×(ByteArray×Int))))):Bool:=ltN y0.toNat y2.length
def fB(y0:Int)(y2:List (ByteArray×(List (Int×(ByteArray×Int)))))(y3:List ByteArray):Bool:=leN (List.length y3 + List.length (bq y0 y2)) (9223372036854775807:Nat)
def fC(y0:Int)(y2:List (ByteArray×(List (Int×(ByteArray×Int)))))(y3:List ByteArray):Bool:=leN ((List.length y3 + List.length (bq y0 y2)) * (16:Nat)) (140737488355328:Nat)
def fD(y0:Int):Int:=IntKind.wrap .i64 (y0 + (1:Int))
def fE(y0:Int)(y2:List (ByteArray×(List (Int×(ByteArray×Int)))))(y3:List ByteArray):List ByteArray:=y3++bq y0 y2
def Fk:ba→List (Nat×SV)
 |(y0,y1,_,_)=> [(10,(.one ⟨false,[.val (.int .i64 y0)]⟩)),(9,(.one ⟨false,[.val (.int .i64 y1)]⟩)),(8,(.one ⟨false,[.ref 0]⟩)),(3,(.one ⟨false,[.ptr 1 0]⟩))]
def Fj:ba→List (Nat×Entry)
 |(_,_,y2,y3)=> [(0,(.row false 204 (CTy.pair CTy.str (CTy.sl (178:Nat) aeH)) y2)),(1,(.box 60 [.ref 2])),(2,(.row true 9 agS y3))]
def Fo:Nat→ba→List (Nat×SV)
 |_,(_,_,_,_)=> []
def Fm:Nat→ba→List (Nat×Entry)
 |_,(_,_,y2,y3)=> [(0,(.row false 204 (CTy.pair CTy.str (CTy.sl (178:Nat) aeH)) y2)),(1,(.box 60 [.ref 2])),(2,(.row true 9 agS y3))]
def fm:ba→LT ba
 |(y0,y1,y2,y3)=> .ite (fv y0 y1) (.need [fw y0,fy y0 y2,fA y0 y2] (.need [fB y0 y2 y3,fC y0 y2 y3] (.nrm ((fD y0),y1,y2,(fE y0 y2 y3)) [(0,0),(1,1),(2,640)]))) (.ext 0 [(0,0),(1,1),(2,2)])
def oK(s:St):Option ba:=
 (match s.look 10 with
 |some ⟨none,.one ⟨false,[.val (.int .i64 y0)]⟩⟩=>
 (match s.look 9 with
 |some ⟨none,.one ⟨false,[.val (.int .i64 y1)]⟩⟩=>
 (match s.look 8 with
 |some ⟨none,.one ⟨false,[.ref 3]⟩⟩=>
 (match s.look 3 with
 |some ⟨none,.one ⟨false,[.ptr 448 0]⟩⟩=>
 (match s.ent 3 with
 |some (.row false 204 (.pair .str (.sl (178:Nat) (.pair (.int .i64) (.pair .str (.int .i64))))) y2)=>
 (match s.ent 448 with
 |some (.box 60 [.ref 449])=>
 (match s.ent 449 with
 |some (.row true 9 (.str) y3)=>
 some (y0,y1,y2,y3)
 |_=>none)
 |_=>none)
 |_=>none)
 |_=>none)
 |_=>none)
 |_=>none)
 |_=>none)
def ak:Lp ba where
 h:=⟨[11,12,13,5,14,15,16,17,18,19,10],[0,1],[2],[]⟩
 JL:=Fk
 JE:=Fj
 XL:=Fo
 XE:=Fm
 q:=fun j=>match j with | _=> .exit 0
 tags:= [0]
 lt:=fm
 fuel:=fun(y0,y1,y2,y3)=>y0.natAbs + y1.natAbs + y2.length + y3.length
 fix:=fun(_,y1,y2,_) (y0,_,_,y3)=>(y0,y1,y2,y3)
 σ:= [(0,3),(1,448),(2,449)]
 rd:=oK
theorem EC:LoopOk prog (fun k=>Nat.blt k Tryz.f184.ntmps) ak.F (aS f184 0):=by
 refine Lp.ok (tbl:= [ci,PF.lend ci,PF.fz ci,CZ,PF.lend CZ,PF.fz CZ,eA,PF.lend eA,PF.fz eA,aH,PF.lend aH,PF.fz aH,dg,PF.lend dg,PF.fz dg,dN,PF.lend dN,PF.fz dN,dO,PF.lend dO,PF.fz dO,fR,PF.lend fR,PF.fz fR]) (lf:= []) aQ ak (by kernel_rfl) (LOk.nil _) (fun _=>rfl) (fun _ _=>rfl) ?_ ?_ ?_ ?_ (fun _=>rfl) ?_
 ·rintro⟨y0,y1,y2,y3⟩;kernel_rfl
 ·rintro⟨y0,y1,y2,y3⟩;kernel_rfl
 ·intro s x h
  have h:oK s=some x:=h
  unfold oK at h
  repeat' split at h
  all_goals cases h
  exact⟨aa (by assumption) rfl (aa (by assumption) rfl (aa (by assumption) rfl (aa (by assumption) rfl (rfl)))),ab rfl (by assumption) rfl (ab rfl (by assumption) rfl (ab rfl (by assumption) rfl (rfl)))⟩
 ·rintro⟨y0,y1,y2,y3⟩;kernel_rfl
 ·rintro⟨y0,y1,y2,y3⟩ z;exact(And.intro rfl trivial)
def kL(x1:ByteArray):Bool:=
 !ByteArray.toList x1==ByteArray.toList { data:= #[] }
section
variable (x0 x1:ByteArray)(x2 x3 x4:List ByteArray)(x5:List (ByteArray×List (Int×ByteArray×Int)))
def dL:Bool:=bif bif kL x1 then !mu x2 x1 else false then !mu x3 x1 else false
def kM:Int×Int×List (ByteArray×List (Int×ByteArray×Int))×List ByteArray:=((0:Int),(↑x5.length:Int),x5,[])
def am:List ByteArray:=(Lp.res ak (kM x5)).2.2.2.2
def ao:List ByteArray:=List.flatten [x3,x4]
def kN:Bool:=kQ (kO (am x5) (ao x3 x4)) (cj (am x5) (ao x3 x4))
def lh:Int:=bif rS (aZ x2 x3 x4)then(1:Int)else bif dL x1 x2 x3 then(2:Int)else bif db (am x5) (ao x3 x4)then(3:Int)else bif rS (cj (am x5) (ao x3 x4))then(4:Int)else bif kN x3 x4 x5 then(5:Int)else bif ng x0 x1 x5 x2 x3 x4 then(6:Int)else(0:Int)
def li:Bool:=allT [Lp.fin ak (kM x5),leN (List.length [x3,x4]) (1000:Nat)&&leN (Hr [x3,x4]) (2000000:Nat),lj x2 x3 x4,leN (List.length (aZ x2 x3 x4)) (9223372036854775807:Nat),rS (aZ x2 x3 x4)||(!(kL x1&&true)||leN x2.length (9223372036854775807:Nat)),rS (aZ x2 x3 x4)||(!((bif kL x1 then !mu x2 x1 else false)&&true)||leN x3.length (9223372036854775807:Nat)),rS (aZ x2 x3 x4)||(dL x1 x2 x3||kP (am x5) (ao x3 x4)),rS (aZ x2 x3 x4)||(dL x1 x2 x3||(db (am x5) (ao x3 x4)||leN (List.length (cj (am x5) (ao x3 x4))) (9223372036854775807:Nat))),rS (aZ x2 x3 x4)||(dL x1 x2 x3||(db (am x5) (ao x3 x4)||(rS (cj (am x5) (ao x3 x4))||kR (kO (am x5) (ao x3 x4)) (cj (am x5) (ao x3 x4))))),rS (aZ x2 x3 x4)||(dL x1 x2 x3||(db (am x5) (ao x3 x4)||(rS (cj (am x5) (ao x3 x4))||(kN x3 x4 x5||nh x0 x1 x5 x2 x3 x4))))]
end
def wO:List SV→List Entry→Option Out
 | [.one ⟨true,[.val (.string x0),.ref 0,.ref 1,.ref 2,.val (.string x1),.ref 3]⟩],[.row false 9 (.str) x2,.row false 9 (.str) x3,.row false 9 (.str) x4,.row false 204 (.pair (.str) (.sl 178 (.pair (.int .i64) (.pair (.str) (.int .i64))))) x5]=>some ⟨.one ⟨false,[.val (.int .i64 (lh x0 x1 x2 x3 x4 x5))]⟩,[.row false 9 agS x2,.row false 9 agS x3,.row false 9 agS x4,.row false 204 (CTy.pair CTy.str (CTy.sl (178:TypeId) aeH)) x5],[],[li x0 x1 x2 x3 x4 x5]⟩
 |_,_=>none
def qt:PF prog:=PF.ofG prog [ci,PF.lend ci,PF.fz ci,CZ,PF.lend CZ,PF.fz CZ,eA,PF.lend eA,PF.fz eA,aH,PF.lend aH,PF.fz aH,dg,PF.lend dg,PF.fz dg,dN,PF.lend dN,PF.fz dN,dO,PF.lend dO,PF.fz dO,fR,PF.lend fR,PF.fz fR] [ak.F] aQ 184 f184 func184 (LOk.fnT (l:= [aS f184 0]) (by kernel_rfl) (.cons EC (.nil _))) wO (by
 intro vs es r h;unfold wO at h;split at h
 ·cases h;kernel_rfl
 ·cases h)
def RC(x0 x1:ByteArray)(x2 x3 x4:List ByteArray)(x5:List (ByteArray×List (Int×ByteArray×Int))):Bool:=bif Ft x0 x1 x2 x3 x4 x5 then lh x0 x1 x2 x3 x4 x5==(0:Int)else false
def RD(x0 x1:ByteArray)(x2 x3 x4:List ByteArray)(x5:List (ByteArray×List (Int×ByteArray×Int))):Bool:=allT [JU x0 x1 x2 x3 x4 x5,!(Ft x0 x1 x2 x3 x4 x5&&true)||li x0 x1 x2 x3 x4 x5]
def XB:List SV→List Entry→Option Out
 | [.one ⟨true,[.val (.string x0),.ref 0,.ref 1,.ref 2,.val (.string x1),.ref 3]⟩],[.row false 9 (.str) x2,.row false 9 (.str) x3,.row false 9 (.str) x4,.row false 204 (.pair (.str) (.sl 178 (.pair (.int .i64) (.pair (.str) (.int .i64))))) x5]=>some ⟨.one ⟨false,[.val (.bool (RC x0 x1 x2 x3 x4 x5))]⟩,[.row false 9 agS x2,.row false 9 agS x3,.row false 9 agS x4,.row false 204 (CTy.pair CTy.str (CTy.sl (178:TypeId) aeH)) x5],[],[RD x0 x1 x2 x3 x4 x5]⟩
 |_,_=>none
def ahd:PF prog:=PF.ofG prog [Pl,PF.lend Pl,PF.fz Pl,qt,PF.lend qt,PF.fz qt] [] aQ 115 f115 func115 (fun c _=>LOk.nil c) XB (by
 intro vs es r h;unfold XB at h;split at h
 ·cases h;kernel_rfl
 ·cases h)
theorem akm{ins vs os:List ByteArray}(h1:OR ins=true)(h2:OR vs=true)(h3:OR os=true):
  leN ins.length 9223372036854775807=true∧leN vs.length 9223372036854775807=true∧leN os.length 9223372036854775807=true:=by
 simp only [OR,Bool.and_eq_true]at h1 h2 h3
 exact⟨h1.1,h2.1,h3.1⟩
def prOk(nm:ByteArray)(ins vs os:List ByteArray)(g:ByteArray)(ls:List LN):Bool:=leN nm.size 9223372036854775807&&(OR ins&&(OR vs&&(OR os&&(leN g.size 9223372036854775807&&(leN (ins.length + vs.length + os.length) 2000000&&WK ls)))))
theorem Sr{nm:ByteArray}{ins vs os:List ByteArray}{g:ByteArray}{ls:List LN}:prOk nm ins vs os g ls=true↔
  nm.size≤9223372036854775807∧OR ins=true∧OR vs=true∧OR os=true∧g.size≤9223372036854775807∧ins.length + vs.length + os.length≤2000000∧WK ls=true:=by
 simp only [prOk,Bool.and_eq_true,fQ]
def sW(b:ByteArray×(List (Int×(ByteArray×Int)))):(Unit)→Nat ⊕ (Unit)
 |_=>(bif(bif(!mH b.1)then true else !adD (bif !(!mH b.1)&&true then b.2else []))then(.inl 0)else(.inr ()))
def rR(y1 y2:ByteArray)(y3 y4 y5:List ByteArray)(y6:List (ByteArray×(List (Int×(ByteArray×Int)))))(i:Nat):(Unit)→lL
 |_=>((i:Int),y1,y2,y3,y4,y5,y6)
def JB:lL→Unit
 |(_,_,_,_,_,_,_)=>()
theorem aaT(y1 y2:ByteArray)(y3 y4 y5:List ByteArray)(y6:List (ByteArray×(List (Int×(ByteArray×Int))))) (hn:y6.length≤9223372036854775807) (hA: ∀ l∈y6,l.1.size≤9223372036854775807∧QW l.2=true):
  er.fin ((0:Int),y1,y2,y3,y4,y5,y6)=true∧er.res ((0:Int),y1,y2,y3,y4,y5,y6)=((aq (sW) 1 y6 0 ()).1,(rR y1 y2 y3 y4 y5 y6) (aq (sW) 1 y6 0 ()).2.1 (aq (sW) 1 y6 0 ()).2.2):=by
 have jT:=er.along (rR y1 y2 y3 y4 y5 y6) JB (sW) 1 (fun _ _=>True) y6 () (by trivial) (by simp only [er,rR];omega) (fun i b a hb hI=> ?_) (fun a hI=> ?_)
 ·exact jT
 ·obtain⟨⟩:=a
  have fa:=(List.getElem?_eq_some_iff.1 hb).1
  have jS: ∀ d,Option.getD y6[i]? d=b:=fun d=>by rw [hb];rfl
  have hw:=wM fa hn
  have cq:ltI (i:Int) (y6.length:Int)=true:=eQ (by omega)
  have xl:leI (0:Int) (i:Int)=true:=cw (by omega)
  have iU:ltN i y6.length=true:=ib fa
  refine⟨?_,?_,?_,?_⟩
  ·have hg2:mG (i:Int) y6=b:=by simp only [mG,Int.toNat_natCast];exact jS _
   have hm:=hA b (List.mem_of_getElem? hb)
   obtain⟨q1,q2⟩:=Ng b.1 hm.1
   have e0:vb (i:Int) y6=true:=cq
   have e1:vc (i:Int) y6=true:=by simp only [vc,Int.toNat_natCast];exact iU
   have e3:je (i:Int) y6= !mM b.1:=by simp only [je,hg2,q1]
   have e4:rH (i:Int) y6=bif mM b.1 then b.2 else []:=by simp only [rH,e3,hg2];cases mM b.1 <;> rfl
   have h7:QW b.2=true:=hm.2
   have h8:QW []=true:=rfl
   simp only [ww,EZ,Fa,Fb,Fc,Fd,Fe,Ff,AK,Fg,yH,er,LT.nds,allT,rR,e0,e1,e3,e4,hg2,q2,xl,cond_true,Bool.or_true]
   cases mM b.1 <;> simp [LT.nds,h7,h8]
  ·simp [vb,vc,mG,je,rH,ww,EZ,Fa,Fb,Fc,Fd,Fe,Ff,AK,Fg,yH,er,LT.each,rR,JB,hw]
  ·have hg2:mG (i:Int) y6=b:=by simp only [mG,Int.toNat_natCast];exact jS _
   have e0:vb (i:Int) y6=true:=cq
   simp only [er,yH,ww,AK,je,rH,LT.fn,rR,JB,sW,e0,hg2,cond_true]
  ·exact fun _ _=>trivial
 ·obtain⟨⟩:=a
  simp [vb,vc,mG,je,rH,ww,EZ,Fa,Fb,Fc,Fd,Fe,Ff,AK,Fg,yH,er,LT.out,rR]
theorem ahw(nm:ByteArray)(ins vs os:List ByteArray)(g:ByteArray)(ls:List LN)(h:prOk nm ins vs os g ls=true):
  FO nm g ins vs os ls=afV nm ins vs os g ls∧Ku nm g ins vs os ls=true:=by
 obtain⟨h1,h2,h3,h4,h5,h6,h7⟩:=Sr.1 h
 obtain⟨hn,hA⟩:=MZ.1 h7
 obtain⟨w1,w2⟩:=aaT nm g ins vs os ls (by omega) hA
 have e0:(aq sW 1 ls 0 ())=(aq (fun(k:LN) (_:Unit)=>bif !lineB k then(.inl 0:Nat ⊕ Unit)else .inr ()) 1 ls 0 ()):=by
  refine TC fun b hb a=> ?_
  simp only [sW,(Ng b.1 (hA b hb).1).1,lineB]
  cases mM b.1 <;> simp
 rw [e0,iS (P:=fun k=> !lineB k) (j:=0) (fun k=>rfl)]at w2
 have e5:(ls.any fun k=> !lineB k)= !ls.all lineB:=by simp [List.all_eq_not_any_not]
 rw [e5]at w2
 obtain⟨q1,q2⟩:=Ng nm h1
 obtain⟨q3,q4⟩:=Ng g h5
 have c1:inR (ins.length:Int) 1 20=inR (ins.length:Int) ((1:Nat):Int) 20:=rfl
 have c0:inR (vs.length:Int) 0 20=inR (vs.length:Int) ((0:Nat):Int) 20:=rfl
 have c2:inR (os.length:Int) 1 20=inR (os.length:Int) ((1:Nat):Int) 20:=rfl
 refine⟨?_,?_⟩
 ·simp only [FO,Od,Oe,Of,Og,Oh,IA,w2,q1,q3,bA,VI,Nd,afV,aeR,c0,c1,c2]
  generalize mM nm=p1
  generalize ins.all mM=p2
  generalize inR (ins.length:Int) ((1:Nat):Int) 20=p3
  generalize vs.all mM=p4
  generalize inR (vs.length:Int) ((0:Nat):Int) 20=p5
  generalize os.all mM=p6
  generalize inR (os.length:Int) ((1:Nat):Int) 20=p7
  generalize (g.toList== [])=p8
  generalize mM g=p9
  generalize ls.all lineB=p10
  generalize inR (ls.length:Int) 1 40=p11
  cases p1 <;> cases p2 <;> cases p3 <;> simp <;> cases p4 <;> cases p5 <;> simp <;> cases p6 <;> cases p7 <;> simp <;> cases p8 <;> cases p9 <;> simp <;> cases p10 <;> simp [Nat.beq]
 ·simp only [Ku,IA,w1,q2,q4,h2,h3,h4,allT,Bool.or_true,cond_true]
theorem OK:(∀ m:Nat,leI 0 (m:Int)=true)∧leI 0 (-1)=false:=⟨fun m=>cw (by omega),rfl⟩
theorem Tj{α:Type}(l:List α)(p:α→Bool):(l.any fun k=> !p k)= !l.all p:=by simp [List.all_eq_not_any_not]
def fM(b:ByteArray×(List (Int×(ByteArray×Int)))):(Unit)→Nat ⊕ (Unit)
 |_=>(bif(cB b.2)then(.inl 0)else(.inr ()))
def cN(y2:List (ByteArray×(List (Int×(ByteArray×Int)))))(i:Nat):(Unit)→bD
 |_=>((i:Int),(↑y2.length:Int),y2)
def rq:bD→Unit
 |(_,_,_)=>()
theorem Kz(y2:List (ByteArray×(List (Int×(ByteArray×Int))))) (hn:y2.length≤9223372036854775807):
  aB.fin ((0:Int),(↑y2.length:Int),y2)=true∧aB.res ((0:Int),(↑y2.length:Int),y2)=((aq (fM) 1 y2 0 ()).1,(cN y2) (aq (fM) 1 y2 0 ()).2.1 (aq (fM) 1 y2 0 ()).2.2):=by
 have jT:=aB.along (cN y2) rq (fM) 1 (fun _ _=>True) y2 () (by trivial) (by simp only [aB,cN];omega) (fun i b a hb hI=> ?_) (fun a hI=> ?_)
 ·exact jT
 ·obtain⟨⟩:=a
  have fa:=(List.getElem?_eq_some_iff.1 hb).1
  have jS: ∀ d,Option.getD y2[i]? d=b:=fun d=>by rw [hb];rfl
  have hw:=wM fa hn
  have cq:ltI (i:Int) (y2.length:Int)=true:=eQ (by omega)
  have xl:leI (0:Int) (i:Int)=true:=cw (by omega)
  have iU:ltN i y2.length=true:=ib fa
  refine⟨?_,?_,?_,?_⟩
  ·simp only [jy,ni,nj,nk,iY,aB,LT.nds,allT,cN,cq,xl,iU,Int.toNat_natCast,cond_true,Bool.and_self]
   cases fS (i:Int) y2 <;> simp [LT.nds]
  ·simp [jy,ni,nj,nk,fS,su,iY,aB,LT.each,cN,rq,hw]
  ·have hg2:fS (i:Int) y2=cB b.2:=by
    simp only [fS,Int.toNat_natCast];exact congrArg (fun z:LN=>cB z.2) (jS _)
   simp only [jy,iY,aB,LT.fn,cN,rq,fM,cq,hg2,cond_true]
  ·exact fun _ _=>trivial
 ·obtain⟨⟩:=a
  simp [jy,ni,nj,nk,fS,su,iY,aB,LT.out,cN]
theorem anX(ins vs os:List ByteArray)(ls:List LN)(hn:ls.length≤1048576):
  kg ins vs os ls=(leN ins.length 20&&(leN vs.length 20&&(leN os.length 20&&(leN ls.length 40&&ls.all fun l=>leN l.2.length 40))))∧kh ins vs os ls=true:=by
 obtain⟨w1,w2⟩:=Kz ls (by omega)
 have hc: ∀ (k:Nat) (m:Nat),leI (m:Int) (k:Int)=leN m k:=fun k m=>by rw [Bool.eq_iff_iff,Ee,fQ];omega
 have hc20: ∀ m:Nat,leI (m:Int) 20=leN m 20:=fun m=>hc 20 m
 have hc40: ∀ m:Nat,leI (m:Int) 40=leN m 40:=fun m=>hc 40 m
 rw [iS (P:=fun k=> !leN k.2.length 40) (j:=0) (fun k=>by
  simp only [fM,cB]
  have:ltI 40 (k.2.length:Int)= !leN k.2.length 40:=by rw [Tq,hc40]
  rw [this]),Tj]at w2
 simp only [kg,kh,oW,sm,sn,ug,uh,oT,w1,w2,allT,cN,hc20,hc40,Bool.or_true,cond_true]
 refine⟨?_,trivial⟩
 generalize (ls.all fun k=>leN k.2.length 40)=q
 cases leN ins.length 20 <;> cases leN vs.length 20 <;> cases leN os.length 20 <;> cases leN ls.length 40 <;> cases q <;> simp [Nat.beq,OK.1,OK.2]
def fN(b:ByteArray×(List (Int×(ByteArray×Int)))):(Unit)→Nat ⊕ (Unit)
 |_=>(bif(xX b.1 b.2)then(.inl 0)else(.inr ()))
def cO(y2:List (ByteArray×(List (Int×(ByteArray×Int)))))(i:Nat):(Unit)→bE
 |_=>((i:Int),(↑y2.length:Int),y2)
def rr:bE→Unit
 |(_,_,_)=>()
theorem KA(y2:List (ByteArray×(List (Int×(ByteArray×Int))))) (hn:y2.length≤9223372036854775807) (hA: ∀ l∈y2,QW l.2=true):
  aC.fin ((0:Int),(↑y2.length:Int),y2)=true∧aC.res ((0:Int),(↑y2.length:Int),y2)=((aq (fN) 1 y2 0 ()).1,(cO y2) (aq (fN) 1 y2 0 ()).2.1 (aq (fN) 1 y2 0 ()).2.2):=by
 have jT:=aC.along (cO y2) rr (fN) 1 (fun _ _=>True) y2 () (by trivial) (by simp only [aC,cO];omega) (fun i b a hb hI=> ?_) (fun a hI=> ?_)
 ·exact jT
 ·obtain⟨⟩:=a
  have fa:=(List.getElem?_eq_some_iff.1 hb).1
  have jS: ∀ d,Option.getD y2[i]? d=b:=fun d=>by rw [hb];rfl
  have hw:=wM fa hn
  have cq:ltI (i:Int) (y2.length:Int)=true:=eQ (by omega)
  have xl:leI (0:Int) (i:Int)=true:=cw (by omega)
  have iU:ltN i y2.length=true:=ib fa
  refine⟨?_,?_,?_,?_⟩
  ·have hg2:bZ (i:Int) y2=b:=by simp only [bZ,Int.toNat_natCast];exact jS _
   have hm:=hA b (List.mem_of_getElem? hb)
   have h4:jA (i:Int) y2=true:=by simp only [jA,hg2,Ez,hm,allT,cond_true]
   simp only [jz,nn,np,nq,iZ,aC,LT.nds,allT,cO,h4,cq,xl,iU,Int.toNat_natCast,cond_true,Bool.and_self]
   cases jB (i:Int) y2 <;> simp [LT.nds]
  ·simp [bZ,jz,nn,np,nq,jA,jB,sv,iZ,aC,LT.each,cO,rr,hw]
  ·have hg2:bZ (i:Int) y2=b:=by simp only [bZ,Int.toNat_natCast];exact jS _
   simp only [jz,jB,iZ,aC,LT.fn,cO,rr,fN,cq,hg2,cond_true]
  ·exact fun _ _=>trivial
 ·obtain⟨⟩:=a
  simp [bZ,jz,nn,np,nq,jA,jB,sv,iZ,aC,LT.out,cO]
theorem agU(nm:ByteArray)(ins vs os:List ByteArray)(g:ByteArray)(ls:List LN)(h:prOk nm ins vs os g ls=true):
  Ft nm g ins vs os ls=afV nm ins vs os g ls∧JU nm g ins vs os ls=true:=by
 obtain⟨h1,h2,h3,h4,h5,h6,h7⟩:=Sr.1 h
 obtain⟨hn,hA⟩:=MZ.1 h7
 obtain⟨w1,w2⟩:=KA ls (by omega) (fun l hl=>(hA l hl).2)
 rw [iS (P:=fun k=> !lineB k) (j:=0) (fun k=>by simp only [fN,xX]),Tj]at w2
 obtain⟨s1,s2⟩:=anX ins vs os ls hn
 have t1:Hr [ins,vs,os]≤2000000:=by simp [Hr];omega
 have t2: [ins,vs,os].flatten.length≤2000000:=by simp;omega
 have hfl: [ins,vs,os].flatten.all mM=(ins.all mM&&(vs.all mM&&os.all mM)):=by simp [List.all_append,Bool.and_assoc]
 have hcont:ne ls= !ls.all lineB∧nf ls=true:=by
  simp only [ne,nf,ui,uj,oU,w1,w2,allT,cO]
  cases ls.all lineB <;> simp [Nat.beq,OK.1,OK.2]
 refine⟨?_,?_⟩
 ·have hz: ∀ m k:Nat,inR (m:Int) 1 (k:Int)=(ltI 0 (m:Int)&&leN m k):=fun m k=>by
   rw [Bool.eq_iff_iff,GA,Bool.and_eq_true,agm,fQ];omega
  have hz0: ∀ m k:Nat,inR (m:Int) ((0:Nat):Int) (k:Int)=leN m k:=fun m k=>by
   rw [Bool.eq_iff_iff,GA,fQ];omega
  have c1:inR (ins.length:Int) ((1:Nat):Int) 20=(ltI 0 (ins.length:Int)&&leN ins.length 20):=hz _ 20
  have c2:inR (os.length:Int) ((1:Nat):Int) 20=(ltI 0 (os.length:Int)&&leN os.length 20):=hz _ 20
  have c3:inR (ls.length:Int) 1 40=(ltI 0 (ls.length:Int)&&leN ls.length 40):=hz _ 40
  have c4:inR (vs.length:Int) ((0:Nat):Int) 20=leN vs.length 20:=hz0 _ 20
  have hl40:ls.all lineB=true→(ls.all fun l=>leN l.2.length 40)=true:=fun hl=>by
   rw [List.all_eq_true]at hl ⊢
   intro l hm
   exact dx (ZP (hl l hm)).2.1
  simp only [Ft,Do,Id,NG,NH,Tp,s1,hcont.1,Nd,afV,aeR,c1,c2,c3,c4]
  cases hq:ls.all lineB with
  |false=>simp
  |true=>
   rw [hl40 hq]
   cases mM nm with
   |false=>simp
   |true=>
    simp only [Bool.and_true,cond_true,hfl]
    generalize ins.all mM=p2
    generalize vs.all mM=p4
    generalize os.all mM=p6
    generalize (g.toList== [])=p8
    generalize mM g=p9
    generalize ltI 0 (ins.length:Int)=r1
    generalize ltI 0 (os.length:Int)=r2
    generalize ltI 0 (ls.length:Int)=r3
    generalize leN ins.length 20=r4
    generalize leN vs.length 20=r5
    generalize leN os.length 20=r6
    generalize leN ls.length 40=r7
    cases p2 <;> simp <;> cases p4 <;> simp <;> cases p6 <;> simp <;> cases r1 <;> simp <;> cases r2 <;> simp <;> cases r3 <;> simp <;> cases r4 <;> simp <;> cases r5 <;> simp <;> cases r6 <;> simp <;> cases r7 <;> simp <;> cases p8 <;> simp
 ·simp only [JU,Do,Id,s2,hcont.2,Tp,allT,Bool.or_true,cond_true]
  cases mM nm with
  |false=>simp
  |true=>
   have t4:leN [ins,vs,os].flatten.length 9223372036854775807=true:=dx (by omega)
   have t5:leN (Hr [ins,vs,os]) 2000000=true:=dx t1
   have t6:leN [ins,vs,os].length 1000=true:=rfl
   simp only [Bool.and_true,cond_true,t4,t5,t6,Bool.and_self,Bool.or_true]
theorem aoT(l:List ByteArray)(s:ByteArray):ltI (iI l s) 0= !mu l s:=by rw [Tq,Qf]
theorem afJ(s:ByteArray)(ins vs:List ByteArray)(h1:leN ins.length 9223372036854775807=true)(h2:leN vs.length 9223372036854775807=true):
  rJ s ins vs=Vb ins vs s∧CE s ins vs=true:=by
 simp only [rJ,CE,Qf,h1,h2,Vb,allT,Bool.or_true,cond_true,and_true]
 cases mu ins s <;> rfl
def madeB(vs os:List ByteArray)(l:LN):Bool:=mu vs l.1||mu os l.1
def mV(y5 y6:List ByteArray)(b:ByteArray×(List (Int×(ByteArray×Int)))):(List ByteArray)→Nat ⊕ (List ByteArray)
 |y3=>(bif(bif ltI (iI y5 b.1) (0:Int)then ltI (iI y6 b.1) (0:Int)else false)then(.inl 0)else(.inr (y3++ [b.1])))
def qp(y1 y2:ByteArray)(y4 y5 y6:List ByteArray)(y7:List (ByteArray×(List (Int×(ByteArray×Int)))))(i:Nat):(List ByteArray)→mS
 |y3=>((i:Int),y1,y2,y3,y4,y5,y6,y7)
def KN:mS→List ByteArray
 |(_,_,_,y3,_,_,_,_)=>y3
theorem adi(y1 y2:ByteArray)(y4 y5 y6:List ByteArray)(y7:List (ByteArray×(List (Int×(ByteArray×Int)))))(y3:List ByteArray)(hn:y7.length≤9223372036854775807)(hv:leN y5.length 9223372036854775807=true)(ho:leN y6.length 9223372036854775807=true)(hN:y7.length≤1048576)(h3:y3.length=0):
  dy.fin ((0:Int),y1,y2,y3,y4,y5,y6,y7)=true∧dy.res ((0:Int),y1,y2,y3,y4,y5,y6,y7)=((aq (mV y5 y6) 1 y7 0 y3).1,(qp y1 y2 y4 y5 y6 y7) (aq (mV y5 y6) 1 y7 0 y3).2.1 (aq (mV y5 y6) 1 y7 0 y3).2.2):=by
 have jT:=dy.along (qp y1 y2 y4 y5 y6 y7) KN (mV y5 y6) 1 (fun i a=>a.length=i) y7 y3 h3 (by simp only [dy,qp];omega) (fun i b a hb hI=> ?_) (fun a hI=> ?_)
 ·exact jT
 ·obtain y3:=a
  have fa:=(List.getElem?_eq_some_iff.1 hb).1
  have jS: ∀ d,Option.getD y7[i]? d=b:=fun d=>by rw [hb];rfl
  have hw:=wM fa hn
  have cq:ltI (i:Int) (y7.length:Int)=true:=eQ (by omega)
  have xl:leI (0:Int) (i:Int)=true:=cw (by omega)
  have iU:ltN i y7.length=true:=ib fa
  refine⟨?_,?_,?_,?_⟩
  ·have hg2:iF (i:Int) y7=b.1:=by simp only [iF,Int.toNat_natCast];exact congrArg Prod.fst (jS _)
   have l1: ∀ s:ByteArray,leN (a.length + List.length [s]) 9223372036854775807=true:=fun s=>dx (by rw [List.length_singleton];omega)
   have l2: ∀ s:ByteArray,leN ((a.length + List.length [s]) * 16) 140737488355328=true:=fun s=>dx (by rw [List.length_singleton];omega)
   simp only [xL,Cr,Cs,Ct,Cu,Cv,Cw,Cx,Cy,Cz,AD,dy,LT.nds,allT,qp,cq,xl,iU,hg2,hv,ho,l1,l2,Int.toNat_natCast,cond_true,Bool.or_true,Bool.and_self]
   generalize (bif ltI (iI y5 b.1) 0 then ltI (iI y6 b.1) 0 else false)=q
   cases q <;> simp [LT.nds]
  ·simp [iF,xL,Cr,Cs,Ct,Cu,Cv,Cw,Cx,Cy,Cz,AD,dy,LT.each,qp,KN,hw]
  ·have hg2:iF (i:Int) y7=b.1:=by simp only [iF,Int.toNat_natCast];exact congrArg Prod.fst (jS _)
   simp only [xL,Cr,Cs,Ct,Cu,Cv,Cw,Cx,Cy,Cz,AD,dy,LT.fn,qp,KN,mV,cq,hg2,cond_true]
  ·intro a' hf
   simp only [mV]at hf
   revert hf
   generalize (bif ltI (iI y5 b.1) 0 then ltI (iI y6 b.1) 0 else false)=q
   cases q with
   |true=>intro hf;cases hf
   |false=>intro hf;simp only [cond_false,Sum.inr.injEq]at hf;subst hf;simp [hI]
 ·obtain y3:=a
  simp [iF,xL,Cr,Cs,Ct,Cu,Cv,Cw,Cx,Cy,Cz,AD,dy,LT.out,qp]
theorem aeq(vs os:List ByteArray): ∀ (ls:List LN) (i:Nat) (acc:List ByteArray),(aq (mV vs os) 1 ls i acc).1=(bif !ls.all (madeB vs os)then 0 else 1)∧
  (ls.all (madeB vs os)=true→(aq (mV vs os) 1 ls i acc).2.2=acc++ls.map Prod.fst)
 | [],i,acc=>by simp [aq]
 |l::r,i,acc=>by
  have hf:mV vs os l acc=bif madeB vs os l then .inr (acc++ [l.1])else .inl 0:=by
   simp only [mV,aoT,madeB]
   cases mu vs l.1 <;> cases mu os l.1 <;> rfl
  obtain⟨h1,h2⟩:=aeq vs os r (i + 1) (acc++ [l.1])
  simp only [aq,hf,List.all_cons]
  cases hm:madeB vs os l with
  |false=>simp
  |true=>
   simp only [cond_true,Bool.true_and]
   refine⟨h1,fun h=> ?_⟩
   rw [h2 h];simp
theorem al9(k:Nat)(u v:ByteArray)(ins vs os:List ByteArray)(ls:List LN)(l:LN)(hl:ls[k]? =some l)(hn:l.2.length≤1048576)(h1:leN ins.length 9223372036854775807=true)(h2:leN vs.length 9223372036854775807=true):
  dG.fin ((0:Int),(k:Int),u,v,ins,vs,os,ls)=true∧(dG.res ((0:Int),(k:Int),u,v,ins,vs,os,ls)).1=bif !l.2.all (usedB ins vs)then 0 else 1:=by
 have hkl:=(List.getElem?_eq_some_iff.1 hl).1
 have hgl: ∀ d,Option.getD ls[k]? d=l:=fun d=>by rw [hl];rfl
 have ha2:wj (k:Int) ls=l.2:=by simp only [wj,Int.toNat_natCast];exact congrArg Prod.snd (hgl _)
 have c0:HX (k:Int)=true:=cw (by omega)
 have c1:HY (k:Int) ls=true:=eQ (by omega)
 have c2:CO (k:Int) ls=true:=by simp only [CO,Int.toNat_natCast];exact ib hkl
 have jT:=dG.along2 (fun i (_:Unit)=>((i:Int),(k:Int),u,v,ins,vs,os,ls)) (fun _=>()) (fun(b:TM) (_:Unit)=>bif !usedB ins vs b then .inl 0 else .inr ()) 1 (fun _ _=>True) l.2 () trivial (by omega)
  (fun i b a hb hI=> ?_) (fun a hI=> ?_)
 ·rw [iS (P:=fun b=> !usedB ins vs b) (j:=0) (fun b=>rfl),Tj]at jT
  exact⟨jT.1,by rw [show ((0:Int),(k:Int),u,v,ins,vs,os,ls)=(((0:Nat):Int),(k:Int),u,v,ins,vs,os,ls) from rfl,jT.2]⟩
 ·have fa:=(List.getElem?_eq_some_iff.1 hb).1
  have hw:IntKind.i64.wrap ((i:Int) + 1)=((i + 1:Nat):Int):=by rw [aT (by omega) (by omega)];omega
  have xl:leI (0:Int) (i:Int)=true:=cw (by omega)
  have hg2:wk (i:Int) (k:Int) ls=b:=by simp only [wk,ha2,Int.toNat_natCast,hb,Option.getD_some]
  have hg3:tD (i:Int) (k:Int) ls=true:=by simp only [tD,ha2];exact eQ (by omega)
  have c4:OP (i:Int)=true:=xl
  have c5:HZ (i:Int) (k:Int) ls=true:=by simp only [HZ,ha2,Int.toNat_natCast];exact ib fa
  obtain⟨r1,r2⟩:=afJ b.2.1 ins vs h1 h2
  have c6:Ia (i:Int) (k:Int) ins vs ls=true:=by simp only [Ia,hg2,r2,Bool.or_true]
  have c7:Ib (i:Int) (k:Int) ins vs ls= !usedB ins vs b:=by
   simp only [Ib,GW,hg2,r1,usedB]
   cases b.1==1 <;> simp
  have c8:OQ (i:Int)=((i + 1:Nat):Int):=hw
  refine⟨?_,?_,?_,fun _ _=>trivial⟩
  ·simp only [dG,vQ,LT.nds,allT,c0,c1,c2,c4,c5,c6,c7,hg3,cond_true,Bool.and_self]
   cases usedB ins vs b <;> simp [LT.nds]
  ·simp only [dG,vQ,LT.each,c7,c8,hg3]
   cases usedB ins vs b <;> simp [LT.each]
  ·simp only [dG,vQ,LT.fn,c7,hg3,cond_true]
 ·have cq:tD (l.2.length:Int) (k:Int) ls=false:=by simp only [tD,ha2];exact Na (by omega)
  simp [dG,vQ,LT.out,allT,c0,c1,c2,cq]
theorem anZ(u v:ByteArray)(ins vs os:List ByteArray)(ls:List LN)(hN:ls.length≤1048576)(hL: ∀ l∈ls,l.2.length≤1048576)(h1:leN ins.length 9223372036854775807=true)(h2:leN vs.length 9223372036854775807=true):
  dU.fin ((0:Int),u,v,ins,vs,os,ls)=true∧(dU.res ((0:Int),u,v,ins,vs,os,ls)).1=bif !ls.all (fun l=>l.2.all (usedB ins vs))then 0 else 1:=by
 have jT:=dU.along2 (fun i (_:Unit)=>((i:Int),u,v,ins,vs,os,ls)) (fun _=>()) (fun(b:LN) (_:Unit)=>bif !b.2.all (usedB ins vs)then .inl 0 else .inr ()) 1 (fun _ _=>True) ls () trivial (by omega)
  (fun i b a hb hI=> ?_) (fun a hI=> ?_)
 ·rw [iS (P:=fun b:LN=> !b.2.all (usedB ins vs)) (j:=0) (fun b=>rfl),Tj]at jT
  exact⟨jT.1,by rw [show ((0:Int),u,v,ins,vs,os,ls)=(((0:Nat):Int),u,v,ins,vs,os,ls) from rfl,jT.2]⟩
 ·have fa:=(List.getElem?_eq_some_iff.1 hb).1
  have hw:IntKind.i64.wrap ((i:Int) + 1)=((i + 1:Nat):Int):=by rw [aT (by omega) (by omega)];omega
  obtain⟨k1,k2⟩:=al9 i u v ins vs os ls b hb (hL b (List.mem_of_getElem? hb)) h1 h2
  have c0:ME (i:Int) ls=true:=eQ (by omega)
  have c1:SE (i:Int) u v ins vs os ls=true:=k1
  have c2:MF (i:Int) u v ins vs os ls= !b.2.all (usedB ins vs):=by
   simp only [MF,Lb,k2]
   cases b.2.all (usedB ins vs) <;> rfl
  have c3:SF (i:Int)=((i + 1:Nat):Int):=hw
  refine⟨?_,?_,?_,fun _ _=>trivial⟩
  ·simp only [dU,AE,LT.nds,allT,c0,c1,c2,cond_true]
   cases b.2.all (usedB ins vs) <;> simp [LT.nds]
  ·simp only [dU,AE,LT.each,c0,c2,c3]
   cases b.2.all (usedB ins vs) <;> simp [LT.each]
  ·simp only [dU,AE,LT.fn,c0,c2,cond_true]
 ·have cq:ME (ls.length:Int) ls=false:=Na (by omega)
  simp [dU,AE,LT.out,cq]
theorem ajw(nm:ByteArray)(ins vs os:List ByteArray)(g:ByteArray)(ls:List LN)(h:prOk nm ins vs os g ls=true):
  (LR nm g ins vs os ls==0)=am2 ins vs os g ls∧LU nm g ins vs os ls=true:=by
 obtain⟨h1,h2,h3,h4,h5,h6,h7⟩:=Sr.1 h
 obtain⟨hn,hA⟩:=MZ.1 h7
 have hL: ∀ l∈ls,l.2.length≤1048576:=fun l hl=>(Nh.1 (hA l hl).2).1
 obtain⟨l1,l2,l3⟩:=akm h2 h3 h4
 obtain⟨w1,w2⟩:=adi nm g ins vs os ls [] (by omega) l2 l3 hn rfl
 obtain⟨t1,t2⟩:=aeq vs os ls 0 []
 obtain⟨u1,u2⟩:=anZ nm g ins vs os ls hn hL l1 l2
 obtain⟨r1,r2⟩:=afJ g ins vs l1 l2
 have a4:FR nm g ins vs os ls= !ls.all (madeB vs os):=by
  simp only [FR,Bj,Kv,w2,t1]
  cases ls.all (madeB vs os) <;> rfl
 have a5:ls.all (madeB vs os)=true→Bk nm g ins vs os ls=ls.map Prod.fst:=fun hm=>by
  simp only [Bk,Bj,Kv,w2,qp]
  rw [t2 hm];rfl
 have a6:ls.all (madeB vs os)=true→Kw nm g ins vs os ls= !leN (vs.length + os.length) ls.length:=fun hm=>by
  simp only [Kw,a5 hm,List.length_map]
  rw [aT (by omega) (by omega),Bool.eq_iff_iff,agm,Bool.not_eq_true',← Bool.not_eq_true,fQ]
  omega
 have e7:(Lp.res dU (Kx nm g ins vs os ls)).1=bif !ls.all (fun l=>l.2.all (usedB ins vs))then 0 else 1:=u2
 have e8:Lp.fin dU (Kx nm g ins vs os ls)=true:=u1
 have hnil:(g.toList==ByteArray.toList { data:= #[] })=(g.toList== []):=by rw [Nd]
 refine⟨?_,?_⟩
 ·simp only [LR,vm,xK,hnil,r1,a4,e7,am2]
  cases hm:ls.all (madeB vs os)with
  |false=>
   have hm2:(ls.all fun l=>mu vs l.1||mu os l.1)=false:=hm
   rw [hm2]
   generalize rS (ins++vs++os)=p1
   generalize (g.toList== [])=p2
   generalize Vb ins vs g=p3
   cases p1 <;> cases p2 <;> cases p3 <;> rfl
  |true=>
   have hm2:(ls.all fun l=>mu vs l.1||mu os l.1)=true:=hm
   rw [hm2,a5 hm,a6 hm]
   generalize rS (ins++vs++os)=p1
   generalize (g.toList== [])=p2
   generalize Vb ins vs g=p3
   generalize rS (ls.map Prod.fst)=p4
   generalize leN (vs.length + os.length) ls.length=p5
   generalize (ls.all fun l=>l.2.all (usedB ins vs))=p6
   cases p1 <;> cases p2 <;> cases p3 <;> cases p4 <;> cases p5 <;> cases p6 <;> rfl
 ·have f1:leN (ins.length + vs.length + os.length) 2000000=true:=dx h6
  have f2:leN (ins++vs++os).length 9223372036854775807=true:=dx (by simp;omega)
  have f3:Lp.fin dy (Bj nm g ins vs os ls)=true:=w1
  simp only [LU,vm,xK,f1,f2,f3,r2,a4,e8,allT,Bool.or_true,cond_true]
  cases hm:ls.all (madeB vs os)with
  |false=>simp
  |true=>
   have f4:leN (ls.map Prod.fst).length 9223372036854775807=true:=dx (by rw [List.length_map];omega)
   rw [a5 hm,f4]
   simp
def cJ(b:ByteArray×(List (Int×(ByteArray×Int)))):(List ByteArray)→Nat ⊕ (List ByteArray)
 |y3=>(.inr (y3++([b.1])))
def bJ(y2:List (ByteArray×(List (Int×(ByteArray×Int)))))(i:Nat):(List ByteArray)→ba
 |y3=>((i:Int),(↑y2.length:Int),y2,y3)
def oI:ba→List ByteArray
 |(_,_,_,y3)=>y3
theorem Gf(y2:List (ByteArray×(List (Int×(ByteArray×Int)))))(y3:List ByteArray)(hn:y2.length≤9223372036854775807)(hN:y2.length≤1048576)(h3:y3.length=0):
  ak.fin ((0:Int),(↑y2.length:Int),y2,y3)=true∧ak.res ((0:Int),(↑y2.length:Int),y2,y3)=((aq (cJ) 0 y2 0 y3).1,(bJ y2) (aq (cJ) 0 y2 0 y3).2.1 (aq (cJ) 0 y2 0 y3).2.2):=by
 have jT:=ak.along (bJ y2) oI (cJ) 0 (fun i a=>a.length=i) y2 y3 h3 (by simp only [ak,bJ];omega) (fun i b a hb hI=> ?_) (fun a hI=> ?_)
 ·exact jT
 ·obtain y3:=a
  have fa:=(List.getElem?_eq_some_iff.1 hb).1
  have jS: ∀ d,Option.getD y2[i]? d=b:=fun d=>by rw [hb];rfl
  have hw:=wM fa hn
  have cq:ltI (i:Int) (y2.length:Int)=true:=eQ (by omega)
  have xl:leI (0:Int) (i:Int)=true:=cw (by omega)
  have iU:ltN i y2.length=true:=ib fa
  refine⟨?_,?_,?_,?_⟩
  ·have hg2:bq (i:Int) y2= [b.1]:=by simp only [bq,Int.toNat_natCast];exact congrArg (fun z:LN=> [z.1]) (jS _)
   have l1: ∀ s:ByteArray,leN (a.length + List.length [s]) 9223372036854775807=true:=fun s=>dx (by rw [List.length_singleton];omega)
   have l2: ∀ s:ByteArray,leN ((a.length + List.length [s]) * 16) 140737488355328=true:=fun s=>dx (by rw [List.length_singleton];omega)
   simp only [fv,fw,fy,fA,fB,fC,fD,fE,fm,ak,LT.nds,allT,bJ,cq,xl,iU,hg2,l1,l2,Int.toNat_natCast,cond_true,Bool.and_self]
  ·simp [bq,fv,fw,fy,fA,fB,fC,fD,fE,fm,ak,LT.each,bJ,oI,hw]
  ·have hg2:bq (i:Int) y2= [b.1]:=by simp only [bq,Int.toNat_natCast];exact congrArg (fun z:LN=> [z.1]) (jS _)
   simp only [fv,fw,fy,fA,fB,fC,fD,fE,fm,ak,LT.fn,bJ,oI,cJ,cq,hg2,cond_true]
  ·intro a' hf
   simp only [cJ,Sum.inr.injEq]at hf
   subst hf;simp [hI]
 ·obtain y3:=a
  simp [bq,fv,fw,fy,fA,fB,fC,fD,fE,fm,ak,LT.out,bJ]
theorem aj2: ∀ (ls:List LN) (acc:List ByteArray),ls.foldl (fun a l=>a++ [l.1]) acc=acc++ls.map Prod.fst
 | [],acc=>by simp
 |l::r,acc=>by rw [List.foldl_cons,aj2 r];simp
def gD(y3:List ByteArray)(b:ByteArray):(Unit)→Nat ⊕ (Unit)
 |_=>(bif(ml b y3)then(.inl 0)else(.inr ()))
def ce(y2 y3:List ByteArray)(i:Nat):(Unit)→bo
 |_=>((i:Int),(↑y2.length:Int),y2,y3)
def pG:bo→Unit
 |(_,_,_,_)=>()
theorem Ht(y2 y3:List ByteArray) (hn:y2.length≤9223372036854775807) (hm:leN y3.length 9223372036854775807=true):
  ai.fin ((0:Int),(↑y2.length:Int),y2,y3)=true∧ai.res ((0:Int),(↑y2.length:Int),y2,y3)=((aq (gD y3) 1 y2 0 ()).1,(ce y2 y3) (aq (gD y3) 1 y2 0 ()).2.1 (aq (gD y3) 1 y2 0 ()).2.2):=by
 have jT:=ai.along (ce y2 y3) pG (gD y3) 1 (fun _ _=>True) y2 () (by trivial) (by simp only [ai,ce];omega) (fun i b a hb hI=> ?_) (fun a hI=> ?_)
 ·exact jT
 ·obtain⟨⟩:=a
  have fa:=(List.getElem?_eq_some_iff.1 hb).1
  have jS: ∀ d,Option.getD y2[i]? d=b:=fun d=>by rw [hb];rfl
  have hw:=wM fa hn
  have cq:ltI (i:Int) (y2.length:Int)=true:=eQ (by omega)
  have xl:leI (0:Int) (i:Int)=true:=cw (by omega)
  have iU:ltN i y2.length=true:=ib fa
  refine⟨?_,?_,?_,?_⟩
  ·have h4:dP y3=true:=by simp only [dP,mm,hm,allT,cond_true]
   simp only [gO,gP,gQ,gR,gx,ai,LT.nds,allT,ce,h4,cq,xl,iU,Int.toNat_natCast,cond_true,Bool.and_self]
   cases gS (i:Int) y2 y3 <;> simp [LT.nds]
  ·simp [gO,gP,gQ,gR,dP,gS,kS,gx,ai,LT.each,ce,pG,hw]
  ·simp only [gO,gP,gQ,gR,dP,gS,kS,gx,ai,LT.fn,ce,pG,gD,Int.toNat_natCast,cq,xl,iU,jS,cond_true,Bool.cond_self]
  ·exact fun _ _=>trivial
 ·obtain⟨⟩:=a
  simp [gO,gP,gQ,gR,dP,gS,kS,gx,ai,LT.out,ce]
def gE(y3:List ByteArray)(b:ByteArray):(Unit)→Nat ⊕ (Unit)
 |_=>(bif(mn b y3)then(.inl 0)else(.inr ()))
def cf(y2 y3:List ByteArray)(i:Nat):(Unit)→bp
 |_=>((i:Int),(↑y2.length:Int),y2,y3)
def pH:bp→Unit
 |(_,_,_,_)=>()
theorem Hu(y2 y3:List ByteArray) (hn:y2.length≤9223372036854775807) (hm:leN y3.length 9223372036854775807=true):
  aj.fin ((0:Int),(↑y2.length:Int),y2,y3)=true∧aj.res ((0:Int),(↑y2.length:Int),y2,y3)=((aq (gE y3) 1 y2 0 ()).1,(cf y2 y3) (aq (gE y3) 1 y2 0 ()).2.1 (aq (gE y3) 1 y2 0 ()).2.2):=by
 have jT:=aj.along (cf y2 y3) pH (gE y3) 1 (fun _ _=>True) y2 () (by trivial) (by simp only [aj,cf];omega) (fun i b a hb hI=> ?_) (fun a hI=> ?_)
 ·exact jT
 ·obtain⟨⟩:=a
  have fa:=(List.getElem?_eq_some_iff.1 hb).1
  have jS: ∀ d,Option.getD y2[i]? d=b:=fun d=>by rw [hb];rfl
  have hw:=wM fa hn
  have cq:ltI (i:Int) (y2.length:Int)=true:=eQ (by omega)
  have xl:leI (0:Int) (i:Int)=true:=cw (by omega)
  have iU:ltN i y2.length=true:=ib fa
  refine⟨?_,?_,?_,?_⟩
  ·have h4:dQ y3=true:=by simp only [dQ,mo,hm,allT,cond_true]
   simp only [gT,gU,gV,gW,gy,aj,LT.nds,allT,cf,h4,cq,xl,iU,Int.toNat_natCast,cond_true,Bool.and_self]
   cases gX (i:Int) y2 y3 <;> simp [LT.nds]
  ·simp [gT,gU,gV,gW,dQ,gX,kT,gy,aj,LT.each,cf,pH,hw]
  ·simp only [gT,gU,gV,gW,dQ,gX,kT,gy,aj,LT.fn,cf,pH,gE,Int.toNat_natCast,cq,xl,iU,jS,cond_true,Bool.cond_self]
  ·exact fun _ _=>trivial
 ·obtain⟨⟩:=a
  simp [gT,gU,gV,gW,dQ,gX,kT,gy,aj,LT.out,cf]
theorem aov(a b:List ByteArray)(ha:leN a.length 9223372036854775807=true)(hb:leN b.length 9223372036854775807=true):
  db a b=(a.any fun s=> !mu b s)∧cj a b=a∧kO a b=b∧kP a b=true:=by
 obtain⟨w1,w2⟩:=Ht a b (fQ.1 ha) hb
 rw [iS (P:=fun s=> !mu b s) (j:=0) (fun s=>rfl)]at w2
 refine⟨?_,Bool.cond_self _ _,Bool.cond_self _ _,?_⟩
 ·simp only [db,rD,iD,me,w2,ce]
  cases (a.any fun s=> !mu b s) <;> simp [Nat.beq,OK.1,OK.2]
 ·simp only [kP,rE,iD,w1,allT,cond_true]
theorem aow(a b:List ByteArray)(ha:leN a.length 9223372036854775807=true)(hb:leN b.length 9223372036854775807=true):
  kQ a b=(a.any fun s=> !mu b s)∧wK a b=a∧wL a b=b∧kR a b=true:=by
 obtain⟨w1,w2⟩:=Hu a b (fQ.1 ha) hb
 rw [iS (P:=fun s=> !mu b s) (j:=0) (fun s=>rfl)]at w2
 refine⟨?_,Bool.cond_self _ _,Bool.cond_self _ _,?_⟩
 ·simp only [kQ,rF,iE,mf,w2,cf]
  cases (a.any fun s=> !mu b s) <;> simp [Nat.beq,OK.1,OK.2]
 ·simp only [kR,rG,iE,w1,allT,cond_true]
def fP(y5 y6:List ByteArray)(b:Int×(ByteArray×Int)):(Unit)→Nat ⊕ (Unit)
 |_=>(bif(eL b.1 (b.2.1) y5 y6)then(.inl 0)else(.inr ()))
def cQ(y2 y3:ByteArray)(y4:List (Int×(ByteArray×Int)))(y5 y6 y7:List ByteArray)(y8:List (ByteArray×(List (Int×(ByteArray×Int)))))(i:Nat):(Unit)→bG
 |_=>((i:Int),(↑y4.length:Int),y2,y3,y4,y5,y6,y7,y8)
def ru:bG→Unit
 |(_,_,_,_,_,_,_,_,_)=>()
theorem KC(y2 y3:ByteArray)(y4:List (Int×(ByteArray×Int)))(y5 y6 y7:List ByteArray)(y8:List (ByteArray×(List (Int×(ByteArray×Int))))) (hn:y4.length≤9223372036854775807) (h5:leN y5.length 9223372036854775807=true) (h6:leN y6.length 9223372036854775807=true):
  aE.fin ((0:Int),(↑y4.length:Int),y2,y3,y4,y5,y6,y7,y8)=true∧aE.res ((0:Int),(↑y4.length:Int),y2,y3,y4,y5,y6,y7,y8)=((aq (fP y5 y6) 1 y4 0 ()).1,(cQ y2 y3 y4 y5 y6 y7 y8) (aq (fP y5 y6) 1 y4 0 ()).2.1 (aq (fP y5 y6) 1 y4 0 ()).2.2):=by
 have jT:=aE.along (cQ y2 y3 y4 y5 y6 y7 y8) ru (fP y5 y6) 1 (fun _ _=>True) y4 () (by trivial) (by simp only [aE,cQ];omega) (fun i b a hb hI=> ?_) (fun a hI=> ?_)
 ·exact jT
 ·obtain⟨⟩:=a
  have fa:=(List.getElem?_eq_some_iff.1 hb).1
  have jS: ∀ d,Option.getD y4[i]? d=b:=fun d=>by rw [hb];rfl
  have hw:=wM fa hn
  have cq:ltI (i:Int) (y4.length:Int)=true:=eQ (by omega)
  have xl:leI (0:Int) (i:Int)=true:=cw (by omega)
  have iU:ltN i y4.length=true:=ib fa
  refine⟨?_,?_,?_,?_⟩
  ·have hg2:bz (i:Int) y4=b:=by simp only [bz,Int.toNat_natCast];exact jS _
   have h4:jG (i:Int) y4 y5 y6=true:=by simp only [jG,jM,h5,h6,allT,Bool.or_true,cond_true]
   simp only [jF,nv,nx,ny,jb,aE,LT.nds,allT,cQ,h4,cq,xl,iU,Int.toNat_natCast,cond_true,Bool.and_self]
   cases jH (i:Int) y4 y5 y6 <;> simp [LT.nds]
  ·simp [bz,jF,nv,nx,ny,jG,jH,sx,jb,aE,LT.each,cQ,ru,hw]
  ·have hg2:bz (i:Int) y4=b:=by simp only [bz,Int.toNat_natCast];exact jS _
   simp only [jF,jH,jb,aE,LT.fn,cQ,ru,fP,cq,hg2,cond_true]
  ·exact fun _ _=>trivial
 ·obtain⟨⟩:=a
  simp [bz,jF,nv,nx,ny,jG,jH,sx,jb,aE,LT.out,cQ]
theorem ahK(u v:ByteArray)(ins vs os:List ByteArray)(ls:List LN)(ts:List TM)(hn:ts.length≤1048576)(h1:leN ins.length 9223372036854775807=true)(h2:leN vs.length 9223372036854775807=true):
  dr u v ins vs os ls ts= !ts.all (usedB ins vs)∧fo u v ins vs os ls ts=true:=by
 obtain⟨w1,w2⟩:=KC u v ts ins vs os ls (by omega) h1 h2
 rw [iS (P:=fun b=> !usedB ins vs b) (j:=0) (fun b=>by
  simp only [fP,eL,jg,usedB,Vb]
  cases b.1==1 <;> cases mu ins b.2.1 <;> cases mu vs b.2.1 <;> rfl),Tj]at w2
 refine⟨?_,?_⟩
 ·simp only [dr,sq,um,ko,oV,w2,cQ]
  cases ts.all (usedB ins vs) <;> simp [Nat.beq,OK.1,OK.2]
 ·simp only [fo,sr,uo,ko,w1,allT,cond_true]
def fO(y2 y3:ByteArray)(y4 y5 y6:List ByteArray)(y7:List (ByteArray×(List (Int×(ByteArray×Int)))))(b:ByteArray×(List (Int×(ByteArray×Int)))):(Unit)→Nat ⊕ (Unit)
 |_=>(bif(dr y2 y3 y4 y5 y6 y7 b.2)then(.inl 0)else(.inr ()))
def cP(y2 y3:ByteArray)(y4 y5 y6:List ByteArray)(y7:List (ByteArray×(List (Int×(ByteArray×Int)))))(i:Nat):(Unit)→bF
 |_=>((i:Int),(↑y7.length:Int),y2,y3,y4,y5,y6,y7)
def rt:bF→Unit
 |(_,_,_,_,_,_,_,_)=>()
theorem KB(y2 y3:ByteArray)(y4 y5 y6:List ByteArray)(y7:List (ByteArray×(List (Int×(ByteArray×Int))))) (hn:y7.length≤9223372036854775807) (hL: ∀ l∈y7,l.2.length≤1048576) (h4:leN y4.length 9223372036854775807=true) (h5:leN y5.length 9223372036854775807=true):
  aD.fin ((0:Int),(↑y7.length:Int),y2,y3,y4,y5,y6,y7)=true∧aD.res ((0:Int),(↑y7.length:Int),y2,y3,y4,y5,y6,y7)=((aq (fO y2 y3 y4 y5 y6 y7) 1 y7 0 ()).1,(cP y2 y3 y4 y5 y6 y7) (aq (fO y2 y3 y4 y5 y6 y7) 1 y7 0 ()).2.1 (aq (fO y2 y3 y4 y5 y6 y7) 1 y7 0 ()).2.2):=by
 have jT:=aD.along (cP y2 y3 y4 y5 y6 y7) rt (fO y2 y3 y4 y5 y6 y7) 1 (fun _ _=>True) y7 () (by trivial) (by simp only [aD,cP];omega) (fun i b a hb hI=> ?_) (fun a hI=> ?_)
 ·exact jT
 ·obtain⟨⟩:=a
  have fa:=(List.getElem?_eq_some_iff.1 hb).1
  have jS: ∀ d,Option.getD y7[i]? d=b:=fun d=>by rw [hb];rfl
  have hw:=wM fa hn
  have cq:ltI (i:Int) (y7.length:Int)=true:=eQ (by omega)
  have xl:leI (0:Int) (i:Int)=true:=cw (by omega)
  have iU:ltN i y7.length=true:=ib fa
  refine⟨?_,?_,?_,?_⟩
  ·have hg2:cM (i:Int) y7=b.2:=by simp only [cM,Int.toNat_natCast];exact congrArg Prod.snd (jS _)
   have k4:jD (i:Int) y2 y3 y4 y5 y6 y7=true:=by simp only [jD,hg2];exact(ahK y2 y3 y4 y5 y6 y7 b.2 (hL b (List.mem_of_getElem? hb)) h4 h5).2
   simp only [jC,nr,nt,nu,ja,aD,LT.nds,allT,cP,k4,cq,xl,iU,Int.toNat_natCast,cond_true,Bool.and_self]
   cases jE (i:Int) y2 y3 y4 y5 y6 y7 <;> simp [LT.nds]
  ·simp [cM,jC,nr,nt,nu,jD,jE,sw,ja,aD,LT.each,cP,rt,hw]
  ·have hg2:cM (i:Int) y7=b.2:=by simp only [cM,Int.toNat_natCast];exact congrArg Prod.snd (jS _)
   simp only [jC,jE,ja,aD,LT.fn,cP,rt,fO,cq,hg2,cond_true]
  ·exact fun _ _=>trivial
 ·obtain⟨⟩:=a
  simp [cM,jC,nr,nt,nu,jD,jE,sw,ja,aD,LT.out,cP]
theorem anY(u v:ByteArray)(ins vs os:List ByteArray)(ls:List LN)(hN:ls.length≤1048576)(hL: ∀ l∈ls,l.2.length≤1048576)(h1:leN ins.length 9223372036854775807=true)(h2:leN vs.length 9223372036854775807=true):
  ng u v ls ins vs os= !ls.all (fun l=>l.2.all (usedB ins vs))∧nh u v ls ins vs os=true:=by
 obtain⟨w1,w2⟩:=KB u v ins vs os ls (by omega) hL h1 h2
 rw [TC (g:=fun(b:LN) (_:Unit)=>bif !b.2.all (usedB ins vs)then(.inl 0:Nat ⊕ Unit)else .inr ()) (fun b hb a=>by
  simp only [fO,(ahK u v ins vs os ls b.2 (hL b hb) h1 h2).1]),iS (P:=fun b:LN=> !b.2.all (usedB ins vs)) (j:=0) (fun b=>rfl),Tj]at w2
 refine⟨?_,?_⟩
 ·simp only [ng,uk,kn,w2,cP]
  cases ls.all (fun l=>l.2.all (usedB ins vs)) <;> simp [Nat.beq,OK.1,OK.2]
 ·simp only [nh,ul,kn,w1,allT,cond_true]
theorem ajg(nm:ByteArray)(ins vs os:List ByteArray)(g:ByteArray)(ls:List LN)(h:prOk nm ins vs os g ls=true):
  (lh nm g ins vs os ls==0)=am2 ins vs os g ls∧li nm g ins vs os ls=true:=by
 obtain⟨h1,h2,h3,h4,h5,h6,h7⟩:=Sr.1 h
 obtain⟨hn,hA⟩:=MZ.1 h7
 have hL: ∀ l∈ls,l.2.length≤1048576:=fun l hl=>(Nh.1 (hA l hl).2).1
 obtain⟨l1,l2,l3⟩:=akm h2 h3 h4
 obtain⟨w1,w2⟩:=Gf ls [] (by omega) hn rfl
 rw [JS (f:=cJ) (g:=fun a (l:LN)=>a++ [l.1]) (fun b a=>rfl),aj2]at w2
 have a3:am ls=ls.map Prod.fst:=by
  simp only [am,kM,w2,bJ,List.nil_append]
 have a4:ao vs os=vs++os:=by simp [ao]
 have n0:aZ ins vs os=ins++vs++os:=by simp [aZ,gF]
 have k1:leN (ls.map Prod.fst).length 9223372036854775807=true:=dx (by rw [List.length_map];omega)
 have k2:leN (vs++os).length 9223372036854775807=true:=dx (by rw [List.length_append];omega)
 obtain⟨s1,s2,s3,s4⟩:=aov (ls.map Prod.fst) (vs++os) k1 k2
 obtain⟨v1,v2,v3,v4⟩:=aow (vs++os) (ls.map Prod.fst) k2 k1
 obtain⟨u1,u2⟩:=anY nm g ins vs os ls hn hL l1 l2
 have hnil:(g.toList==ByteArray.toList { data:= #[] })=(g.toList== []):=by rw [Nd]
 have hmade:((ls.map Prod.fst).any fun s=> !mu (vs++os) s)= !ls.all (fun l=>mu vs l.1||mu os l.1):=by
  rw [Tj,List.all_map]
  congr 2
  funext l
  simp only [Function.comp,afu]
 have a5:kN vs os ls=(vs++os).any fun s=> !mu (ls.map Prod.fst) s:=by
  simp only [kN,a3,a4,s2,s3,v1]
 refine⟨?_,?_⟩
 ·simp only [lh,n0,dL,kL,hnil,a3,a4,s1,s2,u1,hmade,a5,am2,Vb]
  cases p1:rS (ins++vs++os)with
  |true=>rfl
  |false=>
   cases p3:(ls.all fun l=>mu vs l.1||mu os l.1)with
   |false=>
    generalize (g.toList== [])=q1
    generalize mu ins g=q2
    generalize mu vs g=q3
    cases q1 <;> cases q2 <;> cases q3 <;> rfl
   |true=>
    cases p4:rS (ls.map Prod.fst)with
    |true=>
     generalize (g.toList== [])=q1
     generalize mu ins g=q2
     generalize mu vs g=q3
     cases q1 <;> cases q2 <;> cases q3 <;> rfl
    |false=>
     rw [anG p1 p3 p4]
     generalize (g.toList== [])=q1
     generalize mu ins g=q2
     generalize mu vs g=q3
     generalize leN (vs.length + os.length) ls.length=q4
     generalize (ls.all fun l=>l.2.all (usedB ins vs))=q5
     cases q1 <;> cases q2 <;> cases q3 <;> cases q4 <;> cases q5 <;> rfl
 ·have f1:Lp.fin ak (kM ls)=true:=w1
  have f2:(leN [vs,os].length 1000&&leN (Hr [vs,os]) 2000000)=true:=by
   rw [Bool.and_eq_true];exact⟨rfl,dx (by simp [Hr];omega)⟩
  have f3:lj ins vs os=true:=by
   have:(leN [ins,vs,os].length 1000&&leN (Hr [ins,vs,os]) 2000000)=true:=by
    rw [Bool.and_eq_true];exact⟨rfl,dx (by simp [Hr];omega)⟩
   simp only [lj,gF,this,allT,cond_true]
  have f4:leN (ins++vs++os).length 9223372036854775807=true:=dx (by simp;omega)
  simp only [li,f1,f2,f3,n0,f4,a3,a4,s2,s3,s4,v2,v3,v4,u2,l1,l2,k1,k2,allT,Bool.or_true,cond_true]
def Cp(nm:ByteArray)(ins vs os:List ByteArray)(g:ByteArray)(ls:List LN):Bool:=afV nm ins vs os g ls&&am2 ins vs os g ls
theorem ajy(nm:ByteArray)(ins vs os:List ByteArray)(g:ByteArray)(ls:List LN)(h:prOk nm ins vs os g ls=true):
  Su nm g ins vs os ls=Cp nm ins vs os g ls∧Sv nm g ins vs os ls=true:=by
 obtain⟨a1,a2⟩:=ahw nm ins vs os g ls h
 obtain⟨b1,b2⟩:=ajw nm ins vs os g ls h
 simp only [Su,Sv,a1,a2,b1,b2,Cp,allT,Bool.or_true,cond_true,and_true]
 cases afV nm ins vs os g ls <;> rfl
theorem ajh(nm:ByteArray)(ins vs os:List ByteArray)(g:ByteArray)(ls:List LN)(h:prOk nm ins vs os g ls=true):
  RC nm g ins vs os ls=Cp nm ins vs os g ls∧RD nm g ins vs os ls=true:=by
 obtain⟨a1,a2⟩:=agU nm ins vs os g ls h
 obtain⟨b1,b2⟩:=ajg nm ins vs os g ls h
 simp only [RC,RD,a1,a2,b1,b2,Cp,allT,Bool.or_true,cond_true,and_true]
 cases afV nm ins vs os g ls <;> rfl
def Yu:List SV→List Entry→Option Out
 | [.one ⟨true,[.val (.string x0),.ref 0,.ref 1,.ref 2,.val (.string x1),.ref 3]⟩],[.row false 9 (.str) x2,.row false 9 (.str) x3,.row false 9 (.str) x4,.row false 204 (.pair (.str) (.sl 178 (.pair (.int .i64) (.pair (.str) (.int .i64))))) x5]=>some ⟨.one ⟨false,[.val (.bool (Cp x0 x2 x3 x4 x1 x5))]⟩,[.row false 9 agS x2,.row false 9 agS x3,.row false 9 agS x4,.row false 204 (CTy.pair CTy.str (CTy.sl (178:TypeId) aeH)) x5],[],[prOk x0 x2 x3 x4 x1 x5]⟩
 |_,_=>none
def Sg:PF prog:=PF.alt ahj Yu (by
 intro args es o h da;unfold Yu at h;split at h
 ·rename_i x0 x1 x2 x3 x4 x5
  cases h
  have da:=pb da
  have hh:=ajy x0 x2 x3 x4 x1 x5 da
  obtain⟨e0,en⟩:=hh
  exact tU rfl (pc en) (by simp only [e0] <;> rfl) rfl rfl
 ·cases h)
def Yo:List SV→List Entry→Option Out
 | [.one ⟨true,[.val (.string x0),.ref 0,.ref 1,.ref 2,.val (.string x1),.ref 3]⟩],[.row false 9 (.str) x2,.row false 9 (.str) x3,.row false 9 (.str) x4,.row false 204 (.pair (.str) (.sl 178 (.pair (.int .i64) (.pair (.str) (.int .i64))))) x5]=>some ⟨.one ⟨false,[.val (.bool (Cp x0 x2 x3 x4 x1 x5))]⟩,[.row false 9 agS x2,.row false 9 agS x3,.row false 9 agS x4,.row false 204 (CTy.pair CTy.str (CTy.sl (178:TypeId) aeH)) x5],[],[prOk x0 x2 x3 x4 x1 x5]⟩
 |_,_=>none
def Sb:PF prog:=PF.alt ahd Yo (by
 intro args es o h da;unfold Yo at h;split at h
 ·rename_i x0 x1 x2 x3 x4 x5
  cases h
  have da:=pb da
  have hh:=ajh x0 x2 x3 x4 x1 x5 da
  obtain⟨e0,en⟩:=hh
  exact tU rfl (pc en) (by simp only [e0] <;> rfl) rfl rfl
 ·cases h)
def lnSz(l:LN):Prop:=l.1.size≤9223372036854775807∧l.2.length≤9223372036854775807∧ ∀ t∈l.2,t.2.1.size≤9223372036854775807
def agi(k:Int)(l:LN):Int:=Hw l.1 k l.2
theorem ada{l:LN}{k:Int}(h:lnSz l)(hk:0≤k∧k≤1048576):
  PG l.1 k l.2=true∧(ltI (agi k l) 0=false→agi k l=k - l.1.size - l.2.length - ah8 l.2∧(l.1.size:Int) + l.2.length + ah8 l.2≤k):=by
 obtain⟨h1,h2,h3⟩:=h
 have ha:yB l.1 k=k - (l.1.size:Int):=by simp only [yB];exact aT (by omega) (by omega)
 simp only [agi,Hw,PG,ha]
 cases e:ltI (k - (l.1.size:Int)) 0 with
 |true=>exact⟨rfl,fun h=>absurd (show ltI (-1) 0=false from h) (by decide)⟩
 |false=>
  have e2:=zM.1 e
  have t1:leI (-1) (k - (l.1.size:Int))=true:=cw (by omega)
  have t2:leI (k - (l.1.size:Int)) 1048576=true:=cw (by omega)
  refine⟨by simp only [dx h2,t1,t2,allT,Bool.false_or,Bool.and_self,cond_true],?_⟩
  cases e3:ltI (ajE (k - (l.1.size:Int)) l.2) 0 with
  |true=>exact fun h=>absurd (show ltI (-1) 0=false from h) (by decide)
  |false=>
   intro _
   obtain⟨q1,q2⟩:=al6 h3 (by omega) e3
   simp only [cond_false]
   omega
def afN:Int→List LN→Int
 |k,[]=>k
 |k,l::r=>bif ltI (agi k l) 0 then -1 else afN (agi k l) r
def al2(k:Int)(ls:List LN):Int:=bif ltI (k - ls.length) 0 then -1 else afN (k - ls.length) ls
def totL:List LN→Nat
 | []=>0
 |l::r=>l.1.size + l.2.length + ah8 l.2 + totL r
def tp(b:ByteArray×(List (Int×(ByteArray×Int)))):(Int)→Nat ⊕ (Int)
 |y1=>(bif(ltI (Hw b.1 y1 b.2) (0:Int))then(.inl 0)else(.inr (Hw b.1 y1 b.2)))
def rN(y2:List (ByteArray×(List (Int×(ByteArray×Int)))))(i:Nat):(Int)→oO
 |y1=>((i:Int),y1,y2)
def Ml:oO→Int
 |(_,y1,_)=>y1
theorem aek(y2:List (ByteArray×(List (Int×(ByteArray×Int)))))(y1:Int)(hn:y2.length≤9223372036854775807)(hA: ∀ l∈y2,lnSz l)(h1:0≤y1∧y1≤1048576):
  eS.fin ((0:Int),y1,y2)=true∧eS.res ((0:Int),y1,y2)=((aq (tp) 1 y2 0 y1).1,(rN y2) (aq (tp) 1 y2 0 y1).2.1 (aq (tp) 1 y2 0 y1).2.2):=by
 have jT:=eS.along (rN y2) Ml (tp) 1 (fun _ a=>0≤a∧a≤1048576) y2 y1 h1 (by simp only [eS,rN];omega) (fun i b a hb hI=> ?_) (fun a hI=> ?_)
 ·exact jT
 ·obtain y1:=a
  have fa:=(List.getElem?_eq_some_iff.1 hb).1
  have jS: ∀ d,Option.getD y2[i]? d=b:=fun d=>by rw [hb];rfl
  have hw:=wM fa hn
  have cq:ltI (i:Int) (y2.length:Int)=true:=eQ (by omega)
  have xl:leI (0:Int) (i:Int)=true:=cw (by omega)
  have iU:ltN i y2.length=true:=ib fa
  refine⟨?_,?_,?_,?_⟩
  ·have hg2:mZ (i:Int) y2=b:=by simp only [mZ,Int.toNat_natCast];exact jS _
   have h3:DK (i:Int) a y2=true:=by simp only [DK,hg2];exact(ada (hA b (List.mem_of_getElem? hb)) hI).1
   simp only [zE,Ip,Iq,BT,eS,LT.nds,allT,rN,h3,cq,xl,iU,Int.toNat_natCast,cond_true,Bool.and_self]
   cases DL (i:Int) a y2 <;> simp [LT.nds]
  ·simp [mZ,BI,zE,Ip,Iq,DK,DL,DM,NQ,Ir,BT,eS,LT.each,rN,Ml,hw]
  ·have hg2:mZ (i:Int) y2=b:=by simp only [mZ,Int.toNat_natCast];exact jS _
   simp only [zE,DL,Ir,BI,BT,eS,LT.fn,rN,Ml,tp,cq,hg2,cond_true]
  ·intro a' hf
   have hs:=(ada (hA b (List.mem_of_getElem? hb)) hI).2
   have hf':(bif ltI (agi a b) 0 then(.inl 0:Nat ⊕ Int)else .inr (agi a b))= .inr a':=hf
   cases e:ltI (agi a b) 0 with
   |true=>rw [e]at hf';cases hf'
   |false=>
    rw [e]at hf'
    simp only [cond_false,Sum.inr.injEq]at hf'
    subst hf'
    obtain⟨q1,q2⟩:=hs e
    omega
 ·obtain y1:=a
  simp [mZ,BI,zE,Ip,Iq,DK,DL,DM,NQ,Ir,BT,eS,LT.out,rN]
theorem akW: ∀ (r:List LN) (i:Nat) (k:Int),(bif Nat.beq (aq tp 1 r i k).1 0 then -1 else(aq tp 1 r i k).2.2)=afN k r
 | [],i,k=>rfl
 |t::r,i,k=>by
  have hf:tp t k=bif ltI (agi k t) 0 then .inl 0 else .inr (agi k t):=rfl
  simp only [aq,hf,afN]
  cases h:ltI (agi k t) 0 with
  |true=>rfl
  |false=>simp only [cond_false];exact akW r (i + 1) _
theorem afO: ∀ (r:List LN) (k:Int),(∀ t∈r,lnSz t)→0≤k→k≤1048576→ltI (afN k r) 0=false→afN k r=k - totL r∧(totL r:Int)≤k
 | [],k,_,h0,h1,_=>by simp [afN,totL];omega
 |t::r,k,hs,h0,h1,h=>by
  have hz:=(ada (hs t (by simp)) ⟨h0,h1⟩).2
  simp only [afN]at h ⊢
  cases h2:ltI (agi k t) 0 with
  |true=>rw [h2]at h;exact absurd (show ltI (-1) 0=false from h) (by decide)
  |false=>
   obtain⟨z1,z2⟩:=hz h2
   have h3:=zM.1 h2
   rw [h2,cond_false]at h
   obtain⟨q1,q2⟩:=afO r _ (fun t ht=>hs t (by simp [ht])) h3 (by omega) h
   rw [cond_false,q1]
   simp only [totL]
   omega
theorem aoy(k:Int)(xs:List LN)(hn:xs.length≤9223372036854775807)(hA: ∀ l∈xs,lnSz l)(hk:0≤k∧k≤1048576):
  FE k xs=al2 k xs∧Jn k xs=true:=by
 have hw:IntKind.i64.wrap (k - (xs.length:Int))=k - (xs.length:Int):=aT (by omega) (by omega)
 have e:DM= -1:=rfl
 cases h2:ltI (k - (xs.length:Int)) 0 with
 |true=>simp only [FE,Jn,Hk,hw,h2,al2,allT,Bool.true_or,cond_true,and_self]
 |false=>
  have h3:=zM.1 h2
  obtain⟨w1,w2⟩:=aek xs (k - (xs.length:Int)) hn hA ⟨h3,by omega⟩
  have hs:=akW xs 0 (k - (xs.length:Int))
  simp only [FE,Jn,Hk,LC,hw,h2,w1,w2,rN,allT,Bool.or_true,cond_true,cond_false,al2,e,hs,and_self]
theorem al3{k:Int}{xs:List LN}(hA: ∀ l∈xs,lnSz l)(hk:k≤1048576)(h:ltI (al2 k xs) 0=false):al2 k xs=k - xs.length - totL xs∧(xs.length:Int) + totL xs≤k:=by
 simp only [al2]at h ⊢
 cases h2:ltI (k - (xs.length:Int)) 0 with
 |true=>rw [h2]at h;simp at h
 |false=>
  have h3:=zM.1 h2
  rw [h2,cond_false]at h
  obtain⟨q1,q2⟩:=afO xs _ hA h3 (by omega) h
  rw [cond_false,q1]
  omega
theorem ahI: ∀ {ls:List LN} {l:LN},l∈ls→l.2.length≤totL ls
 |a::r,l,h=>by
  simp only [totL]
  rcases List.mem_cons.1 h with rfl | h
  ·omega
  ·have:=ahI h;omega
structure PrSz (nm:ByteArray) (ins vs os:List ByteArray) (g:ByteArray) (ls:List LN):Prop where
 n:nm.size≤9223372036854775807
 i0:ins.length≤9223372036854775807
 i1: ∀ t∈ins,t.size≤9223372036854775807
 v0:vs.length≤9223372036854775807
 v1: ∀ t∈vs,t.size≤9223372036854775807
 o0:os.length≤9223372036854775807
 o1: ∀ t∈os,t.size≤9223372036854775807
 g0:g.size≤9223372036854775807
 l0:ls.length≤9223372036854775807
 l1: ∀ l∈ls,lnSz l
structure PrFit (nm:ByteArray) (ins vs os:List ByteArray) (g:ByteArray) (ls:List LN) (k z:Int):Prop where
 zz:0≤z∧z≤k
 sum:(nm.size:Int) + ins.length + vs.length + os.length + g.size + ls.length + totL ls + z≤k
 pr:prOk nm ins vs os g ls=true
theorem ahH{l:List ByteArray}(h0:l.length≤9223372036854775807)(h1: ∀ t∈l,t.size≤9223372036854775807):OR l=true:=by
 simp only [OR,Bool.and_eq_true,List.all_eq_true]
 exact⟨dx h0,fun t ht=>dx (h1 t ht)⟩
theorem ZT{P:Prop}(h:ltI (-1) 0=false):P:=absurd h (by decide)
theorem al4{nm:ByteArray}{ins vs os:List ByteArray}{g:ByteArray}{ls:List LN}(h:PrSz nm ins vs os g ls):
  rZ nm g 1048576 ins vs os ls=true∧(ltI (iu nm g 1048576 ins vs os ls) 0=false→PrFit nm ins vs os g ls 1048576 (iu nm g 1048576 ins vs os ls)):=by
 obtain⟨n0,i0,i1,v0,v1,o0,o1,g0,l0,l1⟩:=h
 have a0:cY nm 1048576=1048576 - (nm.size:Int):=by simp only [cY];exact aT (by omega) (by omega)
 cases e0:ltI (1048576 - (nm.size:Int)) 0 with
 |true=>
  simp only [iu,rZ,a0,e0,allT,Bool.true_or,cond_true,true_and]
  exact ZT
 |false=>
 have z0:=zM.1 e0
 generalize hk0:1048576 - (nm.size:Int)=k0 at a0 e0 z0
 have t0:leI (-1) k0=true:=cw (by omega)
 have t1:leI k0 1048576=true:=cw (by omega)
 cases e1:ltI (Lr k0 ins) 0 with
 |true=>
  simp only [iu,rZ,a0,e0,e1,t0,t1,dx i0,allT,Bool.true_or,Bool.or_true,Bool.and_self,cond_true,cond_false,true_and]
  exact ZT
 |false=>
 have z1:=zM.1 e1
 obtain⟨p1,p2⟩:=adb i1 (by omega) e1
 generalize hk1:Lr k0 ins=k1 at e1 z1 p1
 have t2:leI (-1) k1=true:=cw (by omega)
 have t3:leI k1 1048576=true:=cw (by omega)
 have a1:DN nm 1048576 ins vs=ltI (Lr k1 vs) 0:=by simp only [DN,a0,hk1]
 cases e2:ltI (Lr k1 vs) 0 with
 |true=>
  simp only [iu,rZ,a0,a1,e0,e1,e2,hk1,t0,t1,t2,t3,dx i0,dx v0,allT,Bool.true_or,Bool.or_true,Bool.and_self,cond_true,cond_false,true_and]
  exact ZT
 |false=>
 have z2:=zM.1 e2
 obtain⟨p3,p4⟩:=adb v1 (by omega) e2
 generalize hk2:Lr k1 vs=k2 at e2 z2 p3 a1
 have t4:leI (-1) k2=true:=cw (by omega)
 have t5:leI k2 1048576=true:=cw (by omega)
 have a2:Is nm 1048576 ins vs os=ltI (Lr k2 os) 0:=by simp only [Is,a0,hk1,hk2]
 cases e3:ltI (Lr k2 os) 0 with
 |true=>
  simp only [iu,rZ,a0,a1,a2,e0,e1,e2,e3,hk1,hk2,t0,t1,t2,t3,t4,t5,dx i0,dx v0,dx o0,allT,Bool.true_or,Bool.or_true,Bool.and_self,cond_true,cond_false,true_and]
  exact ZT
 |false=>
 have z3:=zM.1 e3
 obtain⟨p5,p6⟩:=adb o1 (by omega) e3
 generalize hk3:Lr k2 os=k3 at e3 z3 p5 a2
 have a3:zF nm g 1048576 ins vs os=k3 - (g.size:Int):=by
  simp only [zF,a0,hk1,hk2,hk3];exact aT (by omega) (by omega)
 cases e4:ltI (k3 - (g.size:Int)) 0 with
 |true=>
  simp only [iu,rZ,DO,a0,a1,a2,a3,e0,e1,e2,e3,e4,hk1,hk2,hk3,t0,t1,t2,t3,t4,t5,dx i0,dx v0,dx o0,allT,Bool.true_or,Bool.or_true,Bool.and_self,cond_true,cond_false,true_and]
  exact ZT
 |false=>
 have z4:=zM.1 e4
 obtain⟨s1,s2⟩:=aoy (k3 - (g.size:Int)) ls l0 l1 ⟨z4,by omega⟩
 refine⟨by simp only [rZ,DO,a0,a1,a2,a3,e0,e1,e2,e3,e4,hk1,hk2,hk3,s2,t0,t1,t2,t3,t4,t5,dx i0,dx v0,dx o0,allT,Bool.true_or,Bool.or_true,Bool.and_self,cond_true,cond_false],?_⟩
 simp only [iu,DO,a0,a1,a2,a3,e0,e1,e2,e3,e4,hk1,hk2,hk3,s1,cond_false]
 cases e5:ltI (al2 (k3 - (g.size:Int)) ls) 0 with
 |true=>exact ZT
 |false=>
  intro _
  obtain⟨p7,p8⟩:=al3 l1 (by omega) e5
  have z5:=zM.1 e5
  simp only [cond_false]
  refine⟨⟨z5,by omega⟩,by omega,?_⟩
  refine Sr.2 ⟨n0,ahH i0 i1,ahH v0 v1,ahH o0 o1,g0,by omega,?_⟩
  refine MZ.2 ⟨by omega,fun l hl=>⟨(l1 l hl).1,Nh.2 ⟨?_,(l1 l hl).2.2⟩⟩⟩
  have:=ahI hl
  omega
def vG(y1:List (ByteArray×(List (Int×(ByteArray×Int)))))(b:Nat):(List (ByteArray×(List (Int×(ByteArray×Int)))))→Nat ⊕ (List (ByteArray×(List (Int×(ByteArray×Int)))))
 |y2=>(.inr (List.set y2 b ((Option.getD y1[b]? (xt (CTy.pair CTy.str (CTy.sl (175:Nat) aeH)))).1,(Option.getD y1[b]? (xt (CTy.pair CTy.str (CTy.sl (175:Nat) aeH)))).2)))
def rP(y1:List (ByteArray×(List (Int×(ByteArray×Int)))))(i:Nat):(List (ByteArray×(List (Int×(ByteArray×Int)))))→oQ
 |y2=>((i:Int),y1,y2)
def Mn:oQ→List (ByteArray×(List (Int×(ByteArray×Int))))
 |(_,_,y2)=>y2
theorem aem(y1 y2:List (ByteArray×(List (Int×(ByteArray×Int)))))(hn:y1.length≤9223372036854775807)(hl:y2.length=y1.length)(hA: ∀ l∈y1,leN l.2.length 1048576=true):
  iv.fin ((0:Int),y1,y2)=true∧iv.res ((0:Int),y1,y2)=((aq (vG y1) 0 (List.range y1.length) 0 y2).1,(rP y1) (aq (vG y1) 0 (List.range y1.length) 0 y2).2.1 (aq (vG y1) 0 (List.range y1.length) 0 y2).2.2):=by
 have jT:=iv.along (rP y1) Mn (vG y1) 0 (fun _ a=>a.length=y1.length) (List.range y1.length) y2 hl (by simp only [iv,rP,List.length_range];omega) (fun i b a hb hI=> ?_) (fun a hI=> ?_)
 ·exact jT
 ·obtain y2:=a
  obtain⟨rfl,fa⟩:=oJ hb
  have hw:IntKind.i64.wrap ((b:Int) + 1)=((b + 1:Nat):Int):=by rw [aT (by omega) (by omega)];omega
  have cq:ltI (b:Int) (y1.length:Int)=true:=eQ (by omega)
  have xl:leI (0:Int) (b:Int)=true:=cw (by omega)
  have iU:ltN b y1.length=true:=ib (by omega)
  refine⟨?_,?_,?_,?_⟩
  ·have Fs: ∀ d:LN,(Option.getD y1[b]? d)∈y1:=fun d=>by rw [List.getElem?_eq_getElem fa];exact List.getElem_mem fa
   have h3:zJ (b:Int) y1=true:=by simp only [zJ,Ua,tZ,Int.toNat_natCast,allT];exact congrArg (fun z:Bool=>bif z then true else false) (hA _ (Fs _))
   simp only [zH,zI,DW,DX,DY,BV,iv,LT.nds,allT,rP,h3,hI,cq,xl,iU,Int.toNat_natCast,cond_true,Bool.and_self]
  ·simp [tZ,zH,zI,DW,zJ,DX,DY,Iv,Iw,BV,iv,LT.each,rP,Mn,hw,hI]
  ·simp only [tZ,zH,zI,DW,zJ,DX,DY,Iv,Iw,BV,iv,LT.fn,rP,Mn,vG,Int.toNat_natCast,cq,cond_true]
  ·intro a' hf;simp only [vG,Sum.inr.injEq]at hf;subst hf;simpa using hI
 ·obtain y2:=a
  simp [tZ,zH,zI,DW,zJ,DX,DY,Iv,Iw,BV,iv,LT.out,rP,List.length_range]
def zm(y1 y2:List (ByteArray×(List (Int×(ByteArray×Int)))))(b:Nat):(Unit)→Nat ⊕ (Unit)
 |_=>(bif(!Lj ((Option.getD y1[b]? (xt (CTy.pair CTy.str (CTy.sl (178:Nat) aeH)))).1) ((Option.getD y2[b]? (xt (CTy.pair CTy.str (CTy.sl (178:Nat) aeH)))).1) ((Option.getD y1[b]? (xt (CTy.pair CTy.str (CTy.sl (178:Nat) aeH)))).2) ((Option.getD y2[b]? (xt (CTy.pair CTy.str (CTy.sl (178:Nat) aeH)))).2))then(.inl 0)else(.inr ()))
def uq(y1 y2:List (ByteArray×(List (Int×(ByteArray×Int)))))(i:Nat):(Unit)→oM
 |_=>((i:Int),y1,y2)
def Mj:oM→Unit
 |(_,_,_)=>()
theorem aei(y1 y2:List (ByteArray×(List (Int×(ByteArray×Int))))) (hn:y1.length≤9223372036854775807) (he:y2.length=y1.length) (hA: ∀ l∈y1,leN l.2.length 9223372036854775807=true):
  gr.fin ((0:Int),y1,y2)=true∧gr.res ((0:Int),y1,y2)=((aq (zm y1 y2) 1 (List.range y1.length) 0 ()).1,(uq y1 y2) (aq (zm y1 y2) 1 (List.range y1.length) 0 ()).2.1 (aq (zm y1 y2) 1 (List.range y1.length) 0 ()).2.2):=by
 have jT:=gr.along (uq y1 y2) Mj (zm y1 y2) 1 (fun _ _=>True) (List.range y1.length) () (by trivial) (by simp only [gr,uq,List.length_range];omega) (fun i b a hb hI=> ?_) (fun a hI=> ?_)
 ·exact jT
 ·obtain⟨⟩:=a
  obtain⟨rfl,fa⟩:=oJ hb
  have hw:IntKind.i64.wrap ((b:Int) + 1)=((b + 1:Nat):Int):=by rw [aT (by omega) (by omega)];omega
  have cq:ltI (b:Int) (y1.length:Int)=true:=eQ (by omega)
  have xl:leI (0:Int) (b:Int)=true:=cw (by omega)
  have iU:ltN b y1.length=true:=ib (by omega)
  refine⟨?_,?_,?_,?_⟩
  ·have Fs: ∀ d:LN,(Option.getD y1[b]? d)∈y1:=fun d=>by rw [List.getElem?_eq_getElem fa];exact List.getElem_mem fa
   have h5:zx (b:Int) y1 y2=true:=by
    have q:leN (List.length ((pC (b:Int) y1).2)) 9223372036854775807=true:=by simp only [pC,Int.toNat_natCast];exact hA _ (Fs _)
    simp only [zx,TZ,q,allT,Bool.or_true,cond_true]
   simp only [zu,zw,Dx,Dy,Dz,BQ,gr,LT.nds,allT,uq,h5,he,cq,xl,iU,Int.toNat_natCast,cond_true,Bool.and_self]
   cases DA (b:Int) y1 y2 <;> simp [LT.nds]
  ·simp [pC,xC,zu,zw,Dx,Dy,Dz,zx,DA,Ie,BQ,gr,LT.each,uq,Mj,hw,he]
  ·simp only [pC,xC,zu,zw,Dx,Dy,Dz,zx,DA,Ie,BQ,gr,LT.fn,uq,Mj,zm,Int.toNat_natCast,cq,cond_true]
  ·exact fun _ _=>trivial
 ·obtain⟨⟩:=a
  simp [pC,xC,zu,zw,Dx,Dy,Dz,zx,DA,Ie,BQ,gr,LT.out,uq,List.length_range]
theorem al7(xs:List LN)(hn:xs.length≤1048576)(hA: ∀ l∈xs,leN l.2.length 1048576=true):Jo xs=xs∧NR xs=true:=by
 have hr:(List.replicate (Int.toNat (xs.length:Int)) (((⟨#[]⟩:ByteArray),[]):LN)).length=xs.length:=by simp
 obtain⟨w1,w2⟩:=aem xs (List.replicate (Int.toNat (xs.length:Int)) (((⟨#[]⟩:ByteArray),[]):LN)) (by omega) hr hA
 have hc:=Vk (C:=LN) (xs:=xs) (d:=xt (CTy.pair CTy.str (CTy.sl (175:Nat) aeH))) (g:=fun x:LN=>(x.1,x.2)) (f:=vG xs) (e:=0) (fun b a=>rfl) hr
 have kK:xs.map (fun x:LN=>(x.1,x.2))=xs:=List.map_id' xs
 rw [kK]at hc
 rw [hc]at w2
 refine⟨?_,?_⟩
 ·simp only [Jo,wJ,LI,w2,rP]
 ·have q1:leI 0 (xs.length:Int)=true:=cw (by omega)
  have q2:leI (xs.length:Int) (xs.length:Int)=true:=cw (by omega)
  have q3:leI (((40:Nat):Int) * (xs.length:Int)) 281474976710656=true:=cw (by omega)
  have q4:leI (xs.length:Int) 9223372036854775807=true:=cw (by omega)
  simp only [NR,wJ,LI,w1,q1,q2,q3,q4,allT,cond_true]
theorem ai5(xs:List LN)(hn:xs.length≤9223372036854775807)(hA: ∀ l∈xs,leN l.2.length 9223372036854775807=true):NK xs xs=true∧NL xs xs=true:=by
 obtain⟨w1,w2⟩:=aei xs xs hn rfl hA
 have h3: ∀ a:LN,(!Lj a.1 a.1 a.2 a.2)=false:=fun a=>by simp [Lj,RN,amJ]
 rw [iS (P:=fun _=>false) (j:=0) (fun b=>by simp only [zm,h3])]at w2
 have hf:((List.range xs.length).any fun _=>false)=false:=by simp
 rw [hf]at w2
 have a0:Lz xs xs=false:=by simp [Lz]
 simp only [NK,NL,Ql,a0,w1,w2,allT]
 simp [Nat.beq]
theorem amY{nm:ByteArray}{ins vs os:List ByteArray}{g:ByteArray}{ls:List LN}(h:PrSz nm ins vs os g ls):
  JY nm g nm g ins vs os ls ins vs os ls=true∧JZ nm g nm g ins vs os ls ins vs os ls=true:=by
 obtain⟨e1,e2⟩:=ai5 ls h.l0 (fun l hl=>dx (h.l1 l hl).2.1)
 have a0:vL nm nm=false:=by simp [vL]
 have a1:Ig g g=false:=by simp [Ig]
 simp only [JY,JZ,a0,a1,amH,e1,e2,dx h.i0,dx h.v0,dx h.o0,allT,Bool.not_true,Bool.or_true,cond_true,cond_false,and_self]
theorem aoq{nm:ByteArray}{ins vs os:List ByteArray}{g:ByteArray}{ls:List LN}{z:Int}(h:PrFit nm ins vs os g ls 1048576 z)(h2:PrSz nm ins vs os g ls):
  Jo ls=ls∧aX ls=ls∧Bf ins vs os ls=true:=by
 have hs:=h.sum
 have hz:=h.zz
 obtain⟨t1,t2⟩:=al7 ls (by omega) (fun l hl=>by have:=ahI hl;exact dx (by omega))
 refine⟨t1,t1,?_⟩
 simp only [Bf,t2,dx (show ins.length≤1048576 by omega),dx (show vs.length≤1048576 by omega),dx (show os.length≤1048576 by omega),allT,cond_true]
abbrev qi:=Int×Int×List (ByteArray×(List (Int×(ByteArray×Int))))
def ri(y0 y1:Int)(y2:List (ByteArray×(List (Int×(ByteArray×Int))))):List (ByteArray×List (Int×ByteArray×Int)):=List.set y2 y0.toNat (nS y1,(Option.getD y2[Int.toNat y0]? (xt (CTy.pair CTy.str (CTy.sl (178:Nat) aeH)))).2)
def yz(y1:Int):Int:=IntKind.wrap .i64 (y1 + (1:Int))
def rj(y0 y1:Int)(y2:List (ByteArray×(List (Int×(ByteArray×Int))))):ByteArray×List (Int×ByteArray×Int):=Option.getD (ri y0 y1 y2)[Int.toNat y0]? (xt (CTy.pair CTy.str (CTy.sl (178:Nat) aeH)))
def EV(y0:Int)(y2:List (ByteArray×(List (Int×(ByteArray×Int))))):Bool:=ltI y0 (↑y2.length:Int)
def QN(y1:Int):Bool:=leI (0:Int) y1&&leI y1 (9223372036854775807:Int)
def KE(y0:Int):Bool:=leI (0:Int) y0
def QO(y0:Int)(y2:List (ByteArray×(List (Int×(ByteArray×Int))))):Bool:=ltN y0.toNat y2.length
def QP(y0 y1:Int)(y2:List (ByteArray×(List (Int×(ByteArray×Int))))):Bool:=ltI y0 (↑(List.length (ri y0 y1 y2)):Int)
def QQ(y0 y1:Int)(y2:List (ByteArray×(List (Int×(ByteArray×Int))))):Bool:=ltN y0.toNat (List.length (ri y0 y1 y2))
def KF(y0 y1:Int)(y2:List (ByteArray×(List (Int×(ByteArray×Int))))):Bool:=Zs (3:Nat) (yz y1) (List.length ((rj y0 y1 y2).2))&&leN (List.length ((rj y0 y1 y2).2)) (9223372036854775807:Nat)
def QR(y0:Int):Int:=IntKind.wrap .i64 (y0 + (1:Int))
def Af(y0 y1:Int)(y2:List (ByteArray×(List (Int×(ByteArray×Int))))):Int:=yz y1 + (3:Int) * (↑(List.length ((rj y0 y1 y2).2)):Int)
def Ag(y0 y1:Int)(y2:List (ByteArray×(List (Int×(ByteArray×Int))))):List (ByteArray×(List (Int×(ByteArray×Int)))):=List.set (ri y0 y1 y2) y0.toNat ((rj y0 y1 y2).1,OX (yz y1) ((rj y0 y1 y2).2))
def Yh:qi→List (Nat×SV)
 |(y0,y1,_)=> [(5,(.one ⟨false,[.val (.int .i64 y0)]⟩)),(0,(.one ⟨false,[.ref 0]⟩)),(1,(.one ⟨false,[.val (.int .i64 y1)]⟩))]
def XZ:qi→List (Nat×Entry)
 |(_,_,y2)=> [(0,(.tree 204 (CTy.pair CTy.str (CTy.sl (178:Nat) aeH)) y2 none))]
def YH:Nat→qi→List (Nat×SV)
 |_,(_,y1,_)=> [(1,(.one ⟨false,[.val (.int .i64 y1)]⟩))]
def Yz:Nat→qi→List (Nat×Entry)
 |_,(_,_,y2)=> [(0,(.tree 204 (CTy.pair CTy.str (CTy.sl (178:Nat) aeH)) y2 none))]
def yD:qi→LT qi
 |(y0,y1,y2)=> .ite (EV y0 y2) (.need [QN y1,KE y0,EV y0 y2,QO y0 y2] (.need [KE y0,QP y0 y1 y2,QQ y0 y1 y2,KF y0 y1 y2] (.nrm ((QR y0),Af y0 y1 y2,(Ag y0 y1 y2)) [(0,0)]))) (.ext 0 [(0,0)])
def JF(s:St):Option qi:=
 (match s.look 5 with
 |some ⟨none,.one ⟨false,[.val (.int .i64 y0)]⟩⟩=>
 (match s.look 0 with
 |some ⟨none,.one ⟨false,[.ref 0]⟩⟩=>
 (match s.look 1 with
 |some ⟨none,.one ⟨false,[.val (.int .i64 y1)]⟩⟩=>
 (match s.ent 0 with
 |some (.tree 204 (.pair .str (.sl (178:Nat) (.pair (.int .i64) (.pair .str (.int .i64))))) y2 none)=>
 some (y0,y1,y2)
 |_=>none)
 |_=>none)
 |_=>none)
 |_=>none)
def gG:Lp qi where
 h:=⟨[6,7,8,9,12,13,14,15,16,17,18,19,1,20,21,22,23,24,25,26,10,11,5],[0],[],[]⟩
 JL:=Yh
 JE:=XZ
 XL:=YH
 XE:=Yz
 q:=fun j=>match j with | _=> .exit 0
 tags:= [0]
 lt:=yD
 fuel:=fun(y0,y1,y2)=>y0.natAbs + y1.natAbs + y2.length
 fix:=fun(_,_,_) (y0,y1,y2)=>(y0,y1,y2)
 σ:= [(0,0)]
 rd:=JF
theorem VK:LoopOk prog (fun k=>Nat.blt k Tryz.f138.ntmps) gG.F (aS f138 0):=by
 refine Lp.ok (tbl:= [PF.trees prog,LL,Bh,PF.lend Bh,PF.fz Bh]) (lf:= []) aQ gG (by kernel_rfl) (LOk.nil _) (fun _=>rfl) (fun _ _=>rfl) ?_ ?_ ?_ ?_ (fun _=>rfl) ?_
 ·rintro⟨y0,y1,y2⟩;kernel_rfl
 ·rintro⟨y0,y1,y2⟩;kernel_rfl
 ·intro s x h
  have h:JF s=some x:=h
  unfold JF at h
  repeat' split at h
  all_goals cases h
  exact⟨aa (by assumption) rfl (aa (by assumption) rfl (aa (by assumption) rfl (rfl))),ab rfl (by assumption) rfl (rfl)⟩
 ·rintro⟨y0,y1,y2⟩;kernel_rfl
 ·rintro⟨y0,y1,y2⟩ z;exact(And.intro rfl trivial)
section
variable (x0:Int)(x1:List (ByteArray×List (Int×ByteArray×Int)))
def Im:Int×Int×List (ByteArray×List (Int×ByteArray×Int)):=((0:Int),x0,x1)
def NO:Int×List (ByteArray×List (Int×ByteArray×Int)):=(Lp.res gG (Im x0 x1)).2.2
def Kc:Int:=(NO x0 x1).1
def UQ:List (ByteArray×(List (Int×(ByteArray×Int)))):=(NO x0 x1).2
def Kd:Bool:=allT [Lp.fin gG (Im x0 x1)]
end
def Uq:List SV→List Entry→Option Out
 | [.one ⟨false,[.ref 0]⟩,.one ⟨false,[.val (.int .i64 x0)]⟩],[.tree 204 (.pair (.str) (.sl 178 (.pair (.int .i64) (.pair (.str) (.int .i64))))) x1 none]=>some ⟨.one ⟨false,[.val (.int .i64 (Kc x0 x1))]⟩,[.tree 204 (CTy.pair CTy.str (CTy.sl (178:Nat) aeH)) (UQ x0 x1) none],[],[Kd x0 x1]⟩
 |_,_=>none
def Pn:PF prog:=PF.ofG prog [PF.trees prog,LL,Bh,PF.lend Bh,PF.fz Bh] [gG.F] aQ 138 f138 func138 (LOk.fnT (l:= [aS f138 0]) (by kernel_rfl) (.cons VK (.nil _))) Uq (by
 intro vs es r h;unfold Uq at h;split at h
 ·cases h;kernel_rfl
 ·cases h)
section
variable (x2:Int)(x3 x4 x5:List ByteArray)(x6:List (ByteArray×List (Int×ByteArray×Int)))
def lc:Int:=Kc (dh (dh (dh x2 x3) x4) x5) x6
def act:List ByteArray:=GH x2 x3
def acu:List ByteArray:=GH (dh x2 x3) x4
def acv:List ByteArray:=GH (dh (dh x2 x3) x4) x5
def acw:List (ByteArray×(List (Int×(ByteArray×Int)))):=UQ (dh (dh (dh x2 x3) x4) x5) x6
def GG:Bool:=allT [xD x2 x3,xD (dh x2 x3) x4,xD (dh (dh x2 x3) x4) x5,Kd (dh (dh (dh x2 x3) x4) x5) x6]
end
def Rk:List SV→List Entry→Option Out
 | [.one ⟨true,[.val (.string _x0),.ref 0,.ref 1,.ref 2,.val (.string _x1),.ref 3]⟩,.one ⟨false,[.val (.int .i64 x2)]⟩],[.row true 9 (.str) x3,.row true 9 (.str) x4,.row true 9 (.str) x5,.tree 204 (.pair (.str) (.sl 178 (.pair (.int .i64) (.pair (.str) (.int .i64))))) x6 none]=>some ⟨.one ⟨false,[.val (.int .i64 (lc x2 x3 x4 x5 x6))]⟩,[.row true 9 agS (act x2 x3),.row true 9 agS (acu x2 x3 x4),.row true 9 agS (acv x2 x3 x4 x5),.tree 204 (CTy.pair CTy.str (CTy.sl (178:Nat) aeH)) (acw x2 x3 x4 x5 x6) none],[],[GG x2 x3 x4 x5 x6]⟩
 |_,_=>none
def Mh:PF prog:=PF.ofG prog [PF.trees prog,Mi,PF.lend Mi,PF.fz Mi,Pn,PF.lend Pn,PF.fz Pn] [] aQ 63 f63 func63 (fun c _=>LOk.nil c) Rk (by
 intro vs es r h;unfold Rk at h;split at h
 ·cases h;kernel_rfl
 ·cases h)
theorem afk{A B:Type}(f:B→A→Nat ⊕ A)(e:Nat)(Inv:Nat→A→Prop): ∀ (xs:List B) (i:Nat) (a:A),Inv i a→(∀ j b a,xs[j]? =some b→Inv (i + j) a→ ∃ a',f b a= .inr a'∧Inv (i + j + 1) a')→
  (aq f e xs i a).1=e∧(aq f e xs i a).2.1=i + xs.length∧Inv (i + xs.length) (aq f e xs i a).2.2
 | [],i,a,h,_=>⟨rfl,rfl,h⟩
 |b::r,i,a,h,hs=>by
  obtain⟨a',h1,h2⟩:=hs 0 b a rfl h
  have ih:=afk f e Inv r (i + 1) a' h2 (fun j b a hb hI=>by
   have:=hs (j + 1) b a (by simpa using hb) (by rw [show i + (j + 1)=i + 1 + j by omega];exact hI)
   rw [show i + (j + 1) + 1=i + 1 + j + 1 by omega]at this
   exact this)
  simp only [aq,h1,List.length_cons]
  rw [show i + (r.length + 1)=i + 1 + r.length by omega]
  exact ih
theorem aeO(k:Int)(xs:List ByteArray)(h0:0≤k)(h1:k + xs.length≤9000000000000000000)(hn:xs.length≤1048576):dh k xs=k + xs.length∧xD k xs=true:=by
 have hst: ∀ i b (a:Int×List ByteArray),(List.range xs.length)[i]? =some b→(a.2.length=xs.length∧0≤a.1∧a.1 + ((xs.length - i:Nat):Int)=k + xs.length)→
   ∃ a',(fun(b:Nat) (a:Int×List ByteArray)=>(.inr (wS a.1,wT (b:Int) a.1 a.2):Nat ⊕ (Int×List ByteArray))) b a= .inr a'∧(a'.2.length=xs.length∧0≤a'.1∧a'.1 + ((xs.length - (i + 1):Nat):Int)=k + xs.length):=by
  intro i b a hb hI
  obtain⟨rfl,fa⟩:=oJ hb
  obtain⟨i1,i2,i3⟩:=hI
  refine⟨_,rfl,?_⟩
  have hw:IntKind.i64.wrap (a.1 + 1)=a.1 + 1:=aT (by omega) (by omega)
  simp only [wS,wT,List.length_set,hw]
  refine⟨i1,by omega,by omega⟩
 have jT:=eN.along2 (fun i (a:Int×List ByteArray)=>((i:Int),a.1,a.2)) (fun x=>x.2) (fun(b:Nat) (a:Int×List ByteArray)=> .inr (wS a.1,wT (b:Int) a.1 a.2)) 0
  (fun i a=>a.2.length=xs.length∧0≤a.1∧a.1 + ((xs.length - i:Nat):Int)=k + xs.length) (List.range xs.length) (k,xs) ⟨rfl,h0,by simp⟩ (by rw [List.length_range];omega) (fun i b a hb hI=> ?_) (fun a hI=> ?_)
 ·obtain⟨_,q1,q2,q3,q4⟩:=afk (fun(b:Nat) (a:Int×List ByteArray)=>(.inr (wS a.1,wT (b:Int) a.1 a.2):Nat ⊕ (Int×List ByteArray))) 0
   (fun i a=>a.2.length=xs.length∧0≤a.1∧a.1 + ((xs.length - i:Nat):Int)=k + xs.length) (List.range xs.length) 0 (k,xs) ⟨rfl,h0,by simp⟩ (fun j b a hb hI=>by rw [Nat.zero_add]at hI ⊢;exact hst j b a hb hI)
  obtain⟨w1,w2⟩:=jT
  refine⟨?_,?_⟩
  ·have w2':eN.res ((0:Int),k,xs)=_:=w2
   simp only [dh,KG,EW,w2']
   rw [Nat.zero_add,List.length_range,Nat.sub_self]at q4
   simpa using q4
  ·have w1':eN.fin ((0:Int),k,xs)=true:=w1
   simp only [xD,EW,w1',allT,cond_true]
 ·obtain⟨a',ha,hI'⟩:=hst i b a hb hI
  obtain⟨rfl,fa⟩:=oJ hb
  obtain⟨i1,i2,i3⟩:=hI
  have hw:IntKind.i64.wrap ((b:Int) + 1)=((b + 1:Nat):Int):=by rw [aT (by omega) (by omega)];omega
  have c0:CM (b:Int) a.2=true:=eQ (by omega)
  have c1:OL a.1=true:=(Bool.and_eq_true _ _).mpr ⟨cw (by omega),cw (by omega)⟩
  have c2:OM (b:Int)=true:=cw (by omega)
  have c3:ON (b:Int) a.2=true:=ib (by simp only [Int.toNat_natCast];omega)
  have c4:OO (b:Int)=((b + 1:Nat):Int):=hw
  refine⟨?_,?_,?_,fun a'' hf=> ?_⟩
  ·simp only [eN,vP,LT.nds,allT,c0,c1,c2,c3,cond_true,Bool.and_self]
  ·simp only [eN,vP,LT.each,c0,c4,Bool.and_true,and_self]
  ·simp only [eN,vP,LT.fn,c0,cond_true]
  ·have hq:=ha.symm.trans hf
   simp only [Sum.inr.injEq]at hq
   subst hq
   exact hI'
 ·have cq:CM (((List.range xs.length).length:Nat):Int) a.2=false:=Na (by rw [List.length_range];have:=hI.1;omega)
  simp only [eN,vP,LT.out,cq]
  rfl
def mkL:List LN→Nat
 | []=>0
 |l::r=>1 + 3 * l.2.length + mkL r
theorem anL: ∀ ls:List LN,mkL ls≤ls.length + 3 * totL ls
 | []=>by simp [mkL]
 |l::r=>by have:=anL r;simp only [mkL,totL,List.length_cons];omega
def am9(ls:List LN)(K:Int)(i:Nat)(a:Int×List LN):Prop:=a.2.length=ls.length∧a.2.drop i=ls.drop i∧0≤a.1∧a.1 + (mkL (ls.drop i):Nat)=K
def aoh(b:Nat)(a:Int×List LN):Nat ⊕ (Int×List LN):= .inr (Af (b:Int) a.1 a.2,Ag (b:Int) a.1 a.2)
theorem akq{ls:List LN}{K:Int}{i:Nat}{a:Int×List LN}(fa:i < ls.length)(hK:K≤9000000000000000000)(hI:am9 ls K i a):
  (KF (i:Int) a.1 a.2=true∧(ri (i:Int) a.1 a.2).length=ls.length∧a.1≤9000000000000000000)∧am9 ls K (i + 1) (Af (i:Int) a.1 a.2,Ag (i:Int) a.1 a.2):=by
 obtain⟨i1,i2,i3,i4⟩:=hI
 have hd:ls.drop i=ls[i]::ls.drop (i + 1):=List.drop_eq_getElem_cons fa
 have hm:mkL (ls.drop i)=1 + 3 * ls[i].2.length + mkL (ls.drop (i + 1)):=by rw [hd];rfl
 have hg:a.2[i]? =some ls[i]:=by
  have h1:(a.2.drop i)[0]? =a.2[i]? :=by rw [List.getElem?_drop];rfl
  rw [← h1,i2,hd];rfl
 have jS: ∀ d:LN,Option.getD a.2[i]? d=ls[i]:=fun d=>by rw [hg];rfl
 have hA0:ri (i:Int) a.1 a.2=List.set a.2 i (nS a.1,ls[i].2):=by
  simp only [ri,Int.toNat_natCast];exact congrArg (fun z:LN=>List.set a.2 i (nS a.1,z.2)) (jS _)
 have hA1:yz a.1=a.1 + 1:=by simp only [yz];exact aT (by omega) (by omega)
 have hq: ∀ (t:LN) (d:LN),Option.getD (List.set a.2 i t)[i]? d=t:=fun t d=>by rw [List.getElem?_set_self (by omega)];rfl
 have hA2:rj (i:Int) a.1 a.2=(nS a.1,ls[i].2):=by
  simp only [rj,hA0,Int.toNat_natCast];exact hq _ _
 refine⟨⟨?_,by rw [hA0,List.length_set];exact i1,by omega⟩,?_,?_,?_,?_⟩
 ·simp only [KF,hA1,hA2]
  rw [Rg.2 ⟨by omega,by omega⟩,dx (by omega)];rfl
 ·simp only [Ag,hA0,List.length_set];exact i1
 ·simp only [Ag,hA0,Int.toNat_natCast]
  rw [List.drop_set,if_pos (by omega),List.drop_set,if_pos (by omega),← List.drop_drop,i2,List.drop_drop]
 ·simp only [Af,hA1,hA2];omega
 ·simp only [Af,hA1,hA2];omega
theorem anI(k:Int)(ls:List LN)(h0:0≤k)(h1:k + (mkL ls:Nat)≤9000000000000000000)(hn:ls.length≤1048576):Kc k ls=k + (mkL ls:Nat)∧Kd k ls=true:=by
 have hi0:am9 ls (k + (mkL ls:Nat)) 0 (k,ls):=⟨rfl,rfl,h0,rfl⟩
 have jT:=gG.along2 (fun i (a:Int×List LN)=>((i:Int),a.1,a.2)) (fun x=>x.2) aoh 0 (am9 ls (k + (mkL ls:Nat))) (List.range ls.length) (k,ls) hi0 (by rw [List.length_range];omega) (fun i b a hb hI=> ?_) (fun a hI=> ?_)
 ·obtain⟨_,q1,q2⟩:=afk aoh 0 (am9 ls (k + (mkL ls:Nat))) (List.range ls.length) 0 (k,ls) hi0 (fun j b a hb hI=>by
   obtain⟨rfl,fa⟩:=oJ hb
   rw [Nat.zero_add]at hI ⊢
   exact⟨_,rfl,(akq fa h1 hI).2⟩)
  obtain⟨w1,w2⟩:=jT
  refine⟨?_,?_⟩
  ·have w2':gG.res ((0:Int),k,ls)=_:=w2
   simp only [Kc,NO,Im,w2']
   have q4:=q2.2.2.2
   rw [Nat.zero_add,List.length_range,List.drop_length]at q4
   simpa [mkL] using q4
  ·have w1':gG.fin ((0:Int),k,ls)=true:=w1
   simp only [Kd,Im,w1',allT,cond_true]
 ·obtain⟨rfl,fa⟩:=oJ hb
  obtain⟨⟨s1,s2,s3⟩,s4⟩:=akq fa h1 hI
  obtain⟨i1,i2,i3,i4⟩:=hI
  have hw:IntKind.i64.wrap ((b:Int) + 1)=((b + 1:Nat):Int):=by rw [aT (by omega) (by omega)];omega
  have c0:EV (b:Int) a.2=true:=eQ (by omega)
  have c1:QN a.1=true:=(Bool.and_eq_true _ _).mpr ⟨cw (by omega),cw (by omega)⟩
  have c2:KE (b:Int)=true:=cw (by omega)
  have c3:QO (b:Int) a.2=true:=ib (by simp only [Int.toNat_natCast];omega)
  have c4:QP (b:Int) a.1 a.2=true:=eQ (by omega)
  have c5:QQ (b:Int) a.1 a.2=true:=ib (by simp only [Int.toNat_natCast];omega)
  have c7:QR (b:Int)=((b + 1:Nat):Int):=hw
  refine⟨?_,?_,?_,fun a'' hf=> ?_⟩
  ·simp only [gG,yD,LT.nds,allT,c0,c1,c2,c3,c4,c5,s1,cond_true,Bool.and_self]
  ·simp only [gG,yD,LT.each,c0,c7,Bool.and_true,and_self]
  ·simp only [gG,yD,LT.fn,c0,cond_true,aoh]
  ·simp only [aoh,Sum.inr.injEq]at hf
   subst hf
   exact s4
 ·have cq:EV (((List.range ls.length).length:Nat):Int) a.2=false:=Na (by rw [List.length_range];have:=hI.1;omega)
  simp only [gG,yD,LT.out,cq]
  rfl
theorem alL{nm:ByteArray}{ins vs os:List ByteArray}{g:ByteArray}{ls:List LN}{z:Int}(h:PrFit nm ins vs os g ls 1048576 z):
  GG 1 ins vs os ls=true∧0≤lc 1 ins vs os ls∧lc 1 ins vs os ls≤5000000:=by
 have hs:=h.sum
 have hz:=h.zz
 have hm:=anL ls
 obtain⟨a1,a2⟩:=aeO 1 ins (by omega) (by omega) (by omega)
 obtain⟨b1,b2⟩:=aeO (1 + ins.length) vs (by omega) (by omega) (by omega)
 obtain⟨c1,c2⟩:=aeO (1 + ins.length + vs.length) os (by omega) (by omega) (by omega)
 obtain⟨d1,d2⟩:=anI (1 + ins.length + vs.length + os.length) ls (by omega) (by omega) (by omega)
 simp only [GG,lc,a1,a2,b1,b2,c1,c2,d1,d2,allT,cond_true,true_and]
 omega
def PH(x0:List Int)(x1:List (Int×Int×Int)):Bool:=allT [leN x0.length (1048576:Nat),leN ((0:Nat) + List.length x1) (9223372036854775807:Nat),leN (((0:Nat) + List.length x1) * (24:Nat)) (140737488355328:Nat)]
def aba:List SV→List Entry→Option Out
 | [.one ⟨true,[.ref 0,.ref 1]⟩],[.row false 2 (.int .i64) x0,.row false 172 (.pair (.int .i64) (.pair (.int .i64) (.int .i64))) x1]=>some ⟨.one ⟨true,[.ref 2,.ref 3]⟩,[.row false 2 afY x0,.row false 172 aaK x1],[.row true 2 afY x0,.row true 172 aaK x1],[PH x0 x1]⟩
 |_,_=>none
def xZ:PF prog:=PF.ofG prog [nb,PF.lend nb,PF.fz nb] [] aQ 179 f179 func179 (fun c _=>LOk.nil c) aba (by
 intro vs es r h;unfold aba at h;split at h
 ·cases h;kernel_rfl
 ·cases h)
def rU(x2:ByteArray)(x3 x4:List ByteArray)(x7 x9:List Int):Int:=bif leI (0:Int) (iI x3 x2)then Option.getD x9[Int.toNat (iI x3 x2)]? (0:Int)else Option.getD x7[Int.toNat (iI x4 x2)]? (0:Int)
def rV(x2:ByteArray)(x3 x4:List ByteArray)(x7 x9:List Int):Bool:=allT [leN x3.length (9223372036854775807:Nat),!leI (0:Int) (iI x3 x2)||leI (0:Int) (iI x3 x2),!leI (0:Int) (iI x3 x2)||ltI (iI x3 x2) (↑x9.length:Int),!leI (0:Int) (iI x3 x2)||ltN (Int.toNat (iI x3 x2)) x9.length,leI (0:Int) (iI x3 x2)||leN x4.length (9223372036854775807:Nat),leI (0:Int) (iI x3 x2)||leI (0:Int) (iI x4 x2),leI (0:Int) (iI x3 x2)||ltI (iI x4 x2) (↑x7.length:Int),leI (0:Int) (iI x3 x2)||ltN (Int.toNat (iI x4 x2)) x7.length]
def Wy:List SV→List Entry→Option Out
 | [.one ⟨true,[.val (.string _x0),.ref 0,.ref 1,.ref 2,.val (.string _x1),.ref 3]⟩,.one ⟨true,[.ref 4,.ref 5]⟩,.one ⟨false,[.ref 6]⟩,.one ⟨false,[.val (.string x2)]⟩],[.row false 9 (.str) x3,.row false 9 (.str) x4,.row false 9 (.str) x5,.row false 204 (.pair (.str) (.sl 178 (.pair (.int .i64) (.pair (.str) (.int .i64))))) x6,.row false 2 (.int .i64) x7,.row false 172 (.pair (.int .i64) (.pair (.int .i64) (.int .i64))) x8,.row false 2 (.int .i64) x9]=>some ⟨.one ⟨false,[.val (.int .i64 (rU x2 x3 x4 x7 x9))]⟩,[.row false 9 agS x3,.row false 9 agS x4,.row false 9 agS x5,.row false 204 (CTy.pair CTy.str (CTy.sl (178:TypeId) aeH)) x6,.row false 2 afY x7,.row false 172 aaK x8,.row false 2 afY x9],[],[rV x2 x3 x4 x7 x9]⟩
 |_,_=>none
def dD:PF prog:=PF.ofG prog [bV,PF.lend bV,PF.fz bV] [] aQ 181 f181 func181 (fun c _=>LOk.nil c) Wy (by
 intro vs es r h;unfold Wy at h;split at h
 ·cases h;kernel_rfl
 ·cases h)
abbrev tj:=Int×Int×List (Int×(ByteArray×Int))×List Int×ByteArray×ByteArray×List Int×List ByteArray×List ByteArray×List ByteArray×List (ByteArray×(List (Int×(ByteArray×Int))))×List Int×List (Int×(Int×Int))
section
variable (y0 y1:Int)(y2:List (Int×(ByteArray×Int)))(y3 y6:List Int)(y7 y8:List ByteArray)(y11:List Int)(y12:List (Int×(Int×Int)))
def dW:Int×ByteArray×Int:=Option.getD y2[Int.toNat y0]? ((0:Int),ByteArray.empty,(0:Int))
def GY:Int:=IntKind.wrap .i64 ((↑y3.length:Int) - mr ((dW y0 y2).1))
def iz:List Int:=List.drop (Int.toNat (GY y0 y2 y3)) (List.take (Int.toNat (↑y3.length:Int)) y3)
def GZ:List Int:=List.drop (Int.toNat (0:Int)) (List.take (Int.toNat (GY y0 y2 y3)) y3)
def aV:Bool:=(dW y0 y2).1==(1:Int)
def bQ:Bool:=(dW y0 y2).1==(2:Int)
def bR:Bool:=(dW y0 y2).1==(3:Int)
def bS:Bool:=(dW y0 y2).1==(4:Int)
def MG:Bool:=ltI (0:Int) (↑(List.length (iz y0 y2 y3)):Int)
def MH:Bool:=ltN (Int.toNat (0:Int)) (List.length (iz y0 y2 y3))
def cv:Bool:=(dW y0 y2).1==(5:Int)
def QU:Bool:=ltI (1:Int) (↑(List.length (iz y0 y2 y3)):Int)
def QV:Bool:=ltN (Int.toNat (1:Int)) (List.length (iz y0 y2 y3))
def gC:Bool:=(dW y0 y2).1==(6:Int)
def Lc:Int:=Option.getD (iz y0 y2 y3)[Int.toNat (0:Int)]? (0:Int)
def lP:Int×Int×Int:=Option.getD y12[Int.toNat y1]? ((0:Int),(0:Int),(0:Int))
def Ld:List Int:= [bif aV y0 y2 then rU (((dW y0 y2).2).1) y7 y8 y11 y6 else bif bQ y0 y2 then(1:Int)else bif bR y0 y2 then(0:Int)else bif bS y0 y2 then IntKind.wrap .i64 ((1:Int) - Lc y0 y2 y3)else bif cv y0 y2 then IntKind.wrap .i64 (↑(BitVec.toNat (BitVec.ofInt (IntKind.bits IntKind.i64) (Lc y0 y2 y3)&&& BitVec.ofInt (IntKind.bits IntKind.i64) (Option.getD (iz y0 y2 y3)[Int.toNat (1:Int)]? (0:Int)))):Int)else bif gC y0 y2 then IntKind.wrap .i64 (↑(BitVec.toNat (BitVec.ofInt (IntKind.bits IntKind.i64) (Lc y0 y2 y3)||| BitVec.ofInt (IntKind.bits IntKind.i64) (Option.getD (iz y0 y2 y3)[Int.toNat (1:Int)]? (0:Int)))):Int)else gz ((dW y0 y2).1) ((dW y0 y2).2.2) ((lP y1 y12).1) (((lP y1 y12).2).1) ((lP y1 y12).2.2) (iz y0 y2 y3)]
def Ty:Bool:=ltI y0 (↑y2.length:Int)
def ad9:Bool:=leI (0:Int) y0
def aea:Bool:=ltN y0.toNat y2.length
def Tz:Bool:=leI (0:Int) (GY y0 y2 y3)
def TA:Bool:=leI (GY y0 y2 y3) (↑y3.length:Int)
def aeb:Bool:=leI (↑y3.length:Int) (↑y3.length:Int)
def aec:Bool:=leN (List.length (iz y0 y2 y3)) (1048576:Nat)
end
def aed:Bool:=leI (0:Int) (0:Int)
section
variable (y0 y1:Int)(y2:List (Int×(ByteArray×Int)))(y3 y6:List Int)(y7 y8 y9:List ByteArray)(y11:List Int)(y12:List (Int×(Int×Int)))
def aee:Bool:=leN (List.length (GZ y0 y2 y3)) (1048576:Nat)
def aef:Bool:= !aV y0 y2||rV (((dW y0 y2).2).1) y7 y8 y11 y6
def acI:Bool:=aV y0 y2||(bQ y0 y2||(bR y0 y2||(!bS y0 y2||leI (0:Int) (0:Int))))
def acJ:Bool:=aV y0 y2||(bQ y0 y2||(bR y0 y2||(!bS y0 y2||MG y0 y2 y3)))
def acK:Bool:=aV y0 y2||(bQ y0 y2||(bR y0 y2||(!bS y0 y2||MH y0 y2 y3)))
def acL:Bool:=aV y0 y2||(bQ y0 y2||(bR y0 y2||(bS y0 y2||(!cv y0 y2||leI (0:Int) (0:Int)))))
def acM:Bool:=aV y0 y2||(bQ y0 y2||(bR y0 y2||(bS y0 y2||(!cv y0 y2||MG y0 y2 y3))))
def acN:Bool:=aV y0 y2||(bQ y0 y2||(bR y0 y2||(bS y0 y2||(!cv y0 y2||MH y0 y2 y3))))
def acO:Bool:=aV y0 y2||(bQ y0 y2||(bR y0 y2||(bS y0 y2||(!cv y0 y2||leI (0:Int) (1:Int)))))
def acP:Bool:=aV y0 y2||(bQ y0 y2||(bR y0 y2||(bS y0 y2||(!cv y0 y2||QU y0 y2 y3))))
def acQ:Bool:=aV y0 y2||(bQ y0 y2||(bR y0 y2||(bS y0 y2||(!cv y0 y2||QV y0 y2 y3))))
def acR:Bool:=aV y0 y2||(bQ y0 y2||(bR y0 y2||(bS y0 y2||(cv y0 y2||(!gC y0 y2||leI (0:Int) (0:Int))))))
def acS:Bool:=aV y0 y2||(bQ y0 y2||(bR y0 y2||(bS y0 y2||(cv y0 y2||(!gC y0 y2||MG y0 y2 y3)))))
def acT:Bool:=aV y0 y2||(bQ y0 y2||(bR y0 y2||(bS y0 y2||(cv y0 y2||(!gC y0 y2||MH y0 y2 y3)))))
def acU:Bool:=aV y0 y2||(bQ y0 y2||(bR y0 y2||(bS y0 y2||(cv y0 y2||(!gC y0 y2||leI (0:Int) (1:Int))))))
def acV:Bool:=aV y0 y2||(bQ y0 y2||(bR y0 y2||(bS y0 y2||(cv y0 y2||(!gC y0 y2||QU y0 y2 y3)))))
def acW:Bool:=aV y0 y2||(bQ y0 y2||(bR y0 y2||(bS y0 y2||(cv y0 y2||(!gC y0 y2||QV y0 y2 y3)))))
def SG:Bool:=aV y0 y2||(bQ y0 y2||(bR y0 y2||(bS y0 y2||(cv y0 y2||(gC y0 y2||leI (0:Int) y1)))))
def SH:Bool:=aV y0 y2||(bQ y0 y2||(bR y0 y2||(bS y0 y2||(cv y0 y2||(gC y0 y2||ltI y1 (↑y12.length:Int))))))
def SI:Bool:=aV y0 y2||(bQ y0 y2||(bR y0 y2||(bS y0 y2||(cv y0 y2||(gC y0 y2||ltN y1.toNat y12.length)))))
def acX:Bool:=aV y0 y2||(bQ y0 y2||(bR y0 y2||(bS y0 y2||(cv y0 y2||(gC y0 y2||ke (iz y0 y2 y3))))))
def acY:Bool:=leN (List.length (GZ y0 y2 y3) + List.length (Ld y0 y1 y2 y3 y6 y7 y8 y11 y12)) (9223372036854775807:Nat)
def acZ:Bool:=leN ((List.length (GZ y0 y2 y3) + List.length (Ld y0 y1 y2 y3 y6 y7 y8 y11 y12)) * (8:Nat)) (140737488355328:Nat)
def ac0:Int:=IntKind.wrap .i64 (y0 + (1:Int))
def ac1:Int:=bif aV y0 y2 then y1 else bif bQ y0 y2 then y1 else bif bR y0 y2 then y1 else bif bS y0 y2 then y1 else bif cv y0 y2 then y1 else bif gC y0 y2 then y1 else IntKind.wrap .i64 (y1 + (1:Int))
def ac2:List Int:=GZ y0 y2 y3++Ld y0 y1 y2 y3 y6 y7 y8 y11 y12
def ac3:List Int:=bif aV y0 y2 then y6 else y6
def ac4:List ByteArray:=bif aV y0 y2 then y7 else y7
def ac5:List ByteArray:=bif aV y0 y2 then y8 else y8
def ac6:List ByteArray:=bif aV y0 y2 then y9 else y9
end
def ac7(y0:Int)(y2:List (Int×(ByteArray×Int)))(y10:List (ByteArray×(List (Int×(ByteArray×Int))))):List (ByteArray×(List (Int×(ByteArray×Int)))):=bif aV y0 y2 then y10 else y10
def ac8(y0:Int)(y2:List (Int×(ByteArray×Int)))(y11:List Int):List Int:=bif aV y0 y2 then y11 else y11
def ac9(y0 y1:Int)(y2:List (Int×(ByteArray×Int)))(y3:List Int)(y12:List (Int×(Int×Int))):List (Int×(Int×Int)):=bif aV y0 y2 then y12 else bif bQ y0 y2 then y12 else bif bR y0 y2 then y12 else bif bS y0 y2 then y12 else bif cv y0 y2 then y12 else bif gC y0 y2 then y12 else List.set y12 y1.toNat (io ((dW y0 y2).1) ((dW y0 y2).2.2) ((lP y1 y12).1) (((lP y1 y12).2).1) ((lP y1 y12).2.2) (iz y0 y2 y3),ip ((dW y0 y2).1) (((lP y1 y12).2).1) ((lP y1 y12).2.2) (iz y0 y2 y3),iq ((dW y0 y2).1) ((dW y0 y2).2.2) ((lP y1 y12).1) ((lP y1 y12).2.2) (iz y0 y2 y3))
def abQ:tj→List (Nat×SV)
 |(y0,y1,_,_,_,_,_,_,_,_,_,_,_)=> [(12,(.one ⟨false,[.val (.int .i64 y0)]⟩)),(3,(.one ⟨false,[.ref 0]⟩)),(11,(.one ⟨false,[.ref 1]⟩)),(5,(.one ⟨false,[.ptr 2 0]⟩)),(6,(.one ⟨false,[.ptr 3 0]⟩)),(2,(.one ⟨false,[.ref 4]⟩)),(4,(.one ⟨false,[.val (.int .i64 y1)]⟩))]
def abG:tj→List (Nat×Entry)
 |(_,_,y2,y3,y4,y5,y6,y7,y8,y9,y10,y11,y12)=> [(0,(.row true 178 aeH y2)),(2,(.box 63 [.val (.string y4),.ref 5,.ref 6,.ref 7,.val (.string y5),.ref 8])),(3,(.box 48 [.ref 9,.ref 10])),(4,(.row true 2 afY y6)),(5,(.row true 9 agS y7)),(6,(.row true 9 agS y8)),(7,(.row true 9 agS y9)),(8,(.row true 204 (CTy.pair CTy.str (CTy.sl (178:Nat) aeH)) y10)),(9,(.row true 2 afY y11)),(10,(.row true 172 aaK y12)),(1,(.row true 2 afY y3))]
def aca:Nat→tj→List (Nat×SV)
 |_,(_,_,_,_,_,_,_,_,_,_,_,_,_)=> [(11,(.one ⟨false,[.ref 1]⟩))]
def ab0:Nat→tj→List (Nat×Entry)
 |_,(_,_,y2,y3,y4,y5,y6,y7,y8,y9,y10,y11,y12)=> [(0,(.row true 178 aeH y2)),(1,(.row true 2 afY y3)),(2,(.box 63 [.val (.string y4),.ref 5,.ref 6,.ref 7,.val (.string y5),.ref 8])),(3,(.box 48 [.ref 9,.ref 10])),(4,(.row true 2 afY y6)),(5,(.row true 9 agS y7)),(6,(.row true 9 agS y8)),(7,(.row true 9 agS y9)),(8,(.row true 204 (CTy.pair CTy.str (CTy.sl (178:Nat) aeH)) y10)),(9,(.row true 2 afY y11)),(10,(.row true 172 aaK y12))]
def acy:tj→LT tj
 |(y0,y1,y2,y3,y4,y5,y6,y7,y8,y9,y10,y11,y12)=> .ite (Ty y0 y2) (.need [ad9 y0,Ty y0 y2,aea y0 y2] (.need [Tz y0 y2 y3,TA y0 y2 y3,aeb y3,aec y0 y2 y3] (.need [aed,Tz y0 y2 y3,TA y0 y2 y3,aee y0 y2 y3] (.need [aef y0 y2 y6 y7 y8 y11,acI y0 y2,acJ y0 y2 y3,acK y0 y2 y3,acL y0 y2,acM y0 y2 y3,acN y0 y2 y3,acO y0 y2,acP y0 y2 y3,acQ y0 y2 y3,acR y0 y2,acS y0 y2 y3,acT y0 y2 y3,acU y0 y2,acV y0 y2 y3,acW y0 y2 y3,SG y0 y1 y2,SH y0 y1 y2 y12,SI y0 y1 y2 y12,acX y0 y2 y3,SG y0 y1 y2,SH y0 y1 y2 y12,SI y0 y1 y2 y12] (.need [acY y0 y1 y2 y3 y6 y7 y8 y11 y12,acZ y0 y1 y2 y3 y6 y7 y8 y11 y12] (.nrm ((ac0 y0),ac1 y0 y1 y2,y2,ac2 y0 y1 y2 y3 y6 y7 y8 y11 y12,y4,y5,ac3 y0 y2 y6,ac4 y0 y2 y7,ac5 y0 y2 y8,ac6 y0 y2 y9,ac7 y0 y2 y10,ac8 y0 y2 y11,(ac9 y0 y1 y2 y3 y12)) [(0,0),(1,4544),(2,2),(3,3),(4,4),(5,5),(6,6),(7,7),(8,8),(9,9),(10,10)])))))) (.ext 0 [(0,0),(1,1),(2,2),(3,3),(4,4),(5,5),(6,6),(7,7),(8,8),(9,9),(10,10)])
def My(s:St):Option tj:=
 (match s.look 12 with
 |some ⟨none,.one ⟨false,[.val (.int .i64 y0)]⟩⟩=>
 (match s.look 3 with
 |some ⟨none,.one ⟨false,[.ref 7]⟩⟩=>
 (match s.look 11 with
 |some ⟨none,.one ⟨false,[.ref 768]⟩⟩=>
 (match s.look 5 with
 |some ⟨none,.one ⟨false,[.ptr 576 0]⟩⟩=>
 (match s.look 6 with
 |some ⟨none,.one ⟨false,[.ptr 640 0]⟩⟩=>
 (match s.look 2 with
 |some ⟨none,.one ⟨false,[.ref 6]⟩⟩=>
 (match s.look 4 with
 |some ⟨none,.one ⟨false,[.val (.int .i64 y1)]⟩⟩=>
 (match s.ent 7 with
 |some (.row true 178 (.pair (.int .i64) (.pair .str (.int .i64))) y2)=>
 (match s.ent 576 with
 |some (.box 63 [.val (.string y4),.ref 0,.ref 1,.ref 2,.val (.string y5),.ref 3])=>
 (match s.ent 640 with
 |some (.box 48 [.ref 4,.ref 5])=>
 (match s.ent 6 with
 |some (.row true 2 (.int .i64) y6)=>
 (match s.ent 0 with
 |some (.row true 9 (.str) y7)=>
 (match s.ent 1 with
 |some (.row true 9 (.str) y8)=>
 (match s.ent 2 with
 |some (.row true 9 (.str) y9)=>
 (match s.ent 3 with
 |some (.row true 204 (.pair .str (.sl (178:Nat) (.pair (.int .i64) (.pair .str (.int .i64))))) y10)=>
 (match s.ent 4 with
 |some (.row true 2 (.int .i64) y11)=>
 (match s.ent 5 with
 |some (.row true 172 (.pair (.int .i64) (.pair (.int .i64) (.int .i64))) y12)=>
 (match s.ent 768 with
 |some (.row true 2 (.int .i64) y3)=>
 some (y0,y1,y2,y3,y4,y5,y6,y7,y8,y9,y10,y11,y12)
 |_=>none)
 |_=>none)
 |_=>none)
 |_=>none)
 |_=>none)
 |_=>none)
 |_=>none)
 |_=>none)
 |_=>none)
 |_=>none)
 |_=>none)
 |_=>none)
 |_=>none)
 |_=>none)
 |_=>none)
 |_=>none)
 |_=>none)
 |_=>none)
def BO:Lp tj where
 h:=⟨[20,21,22,23,26,27,28,29,13,30,31,32,33,34,35,14,36,37,38,39,15,40,41,42,43,11,16,44,45,66,65,67,68,69,70,71,72,74,73,76,75,78,77,79,80,81,82,84,83,85,86,87,88,89,90,91,93,92,94,95,96,97,98,99,100,47,48,49,50,51,52,53,54,46,55,56,18,17,57,58,59,60,61,62,63,64,4,101,102,103,104,24,25,12],[0,2,3,4,5,6,7,8,9,10],[1],[]⟩
 JL:=abQ
 JE:=abG
 XL:=aca
 XE:=ab0
 q:=fun j=>match j with | _=> .exit 0
 tags:= [0]
 lt:=acy
 fuel:=fun(y0,y1,y2,y3,y4,y5,y6,y7,y8,y9,y10,y11,y12)=>y0.natAbs + y1.natAbs + y2.length + y3.length + y4.size + y5.size + y6.length + y7.length + y8.length + y9.length + y10.length + y11.length + y12.length
 fix:=fun(_,_,y2,_,y4,y5,_,_,_,_,_,_,_) (y0,y1,_,y3,_,_,y6,y7,y8,y9,y10,y11,y12)=>(y0,y1,y2,y3,y4,y5,y6,y7,y8,y9,y10,y11,y12)
 σ:= [(0,7),(2,576),(3,640),(4,6),(5,0),(6,1),(7,2),(8,3),(9,4),(10,5),(1,768)]
 rd:=My
theorem Zo:LoopOk prog (fun k=>Nat.blt k Tryz.f180.ntmps) BO.F (aS f180 0):=by
 refine Lp.ok (tbl:= [PF.mark prog,nb,PF.lend nb,PF.fz nb,dD,PF.lend dD,PF.fz dD,pU,PF.lend pU,PF.fz pU,Dd]) (lf:= []) aQ BO (by kernel_rfl) (LOk.nil _) (fun _=>rfl) (fun _ _=>rfl) ?_ ?_ ?_ ?_ (fun _=>rfl) ?_
 ·rintro⟨y0,y1,y2,y3,y4,y5,y6,y7,y8,y9,y10,y11,y12⟩;kernel_rfl
 ·rintro⟨y0,y1,y2,y3,y4,y5,y6,y7,y8,y9,y10,y11,y12⟩;kernel_rfl
 ·intro s x h
  have h:My s=some x:=h
  unfold My at h
  repeat' split at h
  all_goals cases h
  exact⟨aa (by assumption) rfl (aa (by assumption) rfl (aa (by assumption) rfl (aa (by assumption) rfl (aa (by assumption) rfl (aa (by assumption) rfl (aa (by assumption) rfl (rfl))))))),ab rfl (by assumption) rfl (ab rfl (by assumption) rfl (ab rfl (by assumption) rfl (ab rfl (by assumption) rfl (ab rfl (by assumption) rfl (ab rfl (by assumption) rfl (ab rfl (by assumption) rfl (ab rfl (by assumption) rfl (ab rfl (by assumption) rfl (ab rfl (by assumption) rfl (ab rfl (by assumption) rfl (rfl)))))))))))⟩
 ·rintro⟨y0,y1,y2,y3,y4,y5,y6,y7,y8,y9,y10,y11,y12⟩;kernel_rfl
 ·rintro⟨y0,y1,y2,y3,y4,y5,y6,y7,y8,y9,y10,y11,y12⟩ z;exact(And.intro rfl trivial)
section
variable (x0 x1:ByteArray)(x2:Int)(x3 x4 x5:List ByteArray)(x6:List (ByteArray×List (Int×ByteArray×Int)))(x7:List Int)(x8:List (Int×Int×Int))(x9:List Int)(x10:List (Int×ByteArray×Int))
def WN:Int×Int×List (Int×ByteArray×Int)×List Int×ByteArray×ByteArray×List Int×List ByteArray×List ByteArray×List ByteArray×List (ByteArray×List (Int×ByteArray×Int))×List Int×List (Int×Int×Int):=((0:Int),x2,x10,[],x0,x1,x9,x3,x4,x5,x6,x7,x8)
def WO:List Int×ByteArray×ByteArray×List Int×List ByteArray×List ByteArray×List ByteArray×List (ByteArray×List (Int×ByteArray×Int))×List Int×List (Int×Int×Int):=(Lp.res BO (WN x0 x1 x2 x3 x4 x5 x6 x7 x8 x9 x10)).2.2.2.2
def QE:List Int:=(WO x0 x1 x2 x3 x4 x5 x6 x7 x8 x9 x10).1
def WP:List Int×List ByteArray×List ByteArray×List ByteArray×List (ByteArray×List (Int×ByteArray×Int))×List Int×List (Int×Int×Int):=(WO x0 x1 x2 x3 x4 x5 x6 x7 x8 x9 x10).2.2.2
def WQ:List ByteArray×List ByteArray×List ByteArray×List (ByteArray×List (Int×ByteArray×Int))×List Int×List (Int×Int×Int):=(WP x0 x1 x2 x3 x4 x5 x6 x7 x8 x9 x10).2
def WR:List ByteArray×List ByteArray×List (ByteArray×List (Int×ByteArray×Int))×List Int×List (Int×Int×Int):=(WQ x0 x1 x2 x3 x4 x5 x6 x7 x8 x9 x10).2
def WS:List ByteArray×List (ByteArray×List (Int×ByteArray×Int))×List Int×List (Int×Int×Int):=(WR x0 x1 x2 x3 x4 x5 x6 x7 x8 x9 x10).2
def WT:List (ByteArray×List (Int×ByteArray×Int))×List Int×List (Int×Int×Int):=(WS x0 x1 x2 x3 x4 x5 x6 x7 x8 x9 x10).2
def WU:List Int×List (Int×Int×Int):=(WT x0 x1 x2 x3 x4 x5 x6 x7 x8 x9 x10).2
def ahx:Int:=Option.getD (QE x0 x1 x2 x3 x4 x5 x6 x7 x8 x9 x10)[Int.toNat (0:Int)]? (0:Int)
def ahy:List ByteArray:=(WQ x0 x1 x2 x3 x4 x5 x6 x7 x8 x9 x10).1
def ahz:List ByteArray:=(WR x0 x1 x2 x3 x4 x5 x6 x7 x8 x9 x10).1
def ahA:List ByteArray:=(WS x0 x1 x2 x3 x4 x5 x6 x7 x8 x9 x10).1
def ahB:List (ByteArray×(List (Int×(ByteArray×Int)))):=(WT x0 x1 x2 x3 x4 x5 x6 x7 x8 x9 x10).1
def ahC:List Int:=(WU x0 x1 x2 x3 x4 x5 x6 x7 x8 x9 x10).1
def ahD:List (Int×(Int×Int)):=(WU x0 x1 x2 x3 x4 x5 x6 x7 x8 x9 x10).2
def ahE:List Int:=(WP x0 x1 x2 x3 x4 x5 x6 x7 x8 x9 x10).1
def ahF:Bool:=allT [Lp.fin BO (WN x0 x1 x2 x3 x4 x5 x6 x7 x8 x9 x10),ltI (0:Int) (↑(List.length (QE x0 x1 x2 x3 x4 x5 x6 x7 x8 x9 x10)):Int),ltN (Int.toNat (0:Int)) (List.length (QE x0 x1 x2 x3 x4 x5 x6 x7 x8 x9 x10))]
end
def XV:List SV→List Entry→Option Out
 | [.one ⟨true,[.val (.string x0),.ref 0,.ref 1,.ref 2,.val (.string x1),.ref 3]⟩,.one ⟨true,[.ref 4,.ref 5]⟩,.one ⟨false,[.ref 6]⟩,.one ⟨false,[.ref 7]⟩,.one ⟨false,[.val (.int .i64 x2)]⟩],[.row true 9 (.str) x3,.row true 9 (.str) x4,.row true 9 (.str) x5,.row true 204 (.pair (.str) (.sl 178 (.pair (.int .i64) (.pair (.str) (.int .i64))))) x6,.row true 2 (.int .i64) x7,.row true 172 (.pair (.int .i64) (.pair (.int .i64) (.int .i64))) x8,.row true 2 (.int .i64) x9,.row true 178 (.pair (.int .i64) (.pair (.str) (.int .i64))) x10]=>some ⟨.one ⟨false,[.val (.int .i64 (ahx x0 x1 x2 x3 x4 x5 x6 x7 x8 x9 x10))]⟩,[.row true 9 agS (ahy x0 x1 x2 x3 x4 x5 x6 x7 x8 x9 x10),.row true 9 agS (ahz x0 x1 x2 x3 x4 x5 x6 x7 x8 x9 x10),.row true 9 agS (ahA x0 x1 x2 x3 x4 x5 x6 x7 x8 x9 x10),.row true 204 (CTy.pair CTy.str (CTy.sl (178:Nat) aeH)) (ahB x0 x1 x2 x3 x4 x5 x6 x7 x8 x9 x10),.row true 2 afY (ahC x0 x1 x2 x3 x4 x5 x6 x7 x8 x9 x10),.row true 172 aaK (ahD x0 x1 x2 x3 x4 x5 x6 x7 x8 x9 x10),.row true 2 afY (ahE x0 x1 x2 x3 x4 x5 x6 x7 x8 x9 x10),.row true 178 aeH x10],[],[ahF x0 x1 x2 x3 x4 x5 x6 x7 x8 x9 x10]⟩
 |_,_=>none
def vW:PF prog:=PF.ofG prog [PF.mark prog,nb,PF.lend nb,PF.fz nb,dD,PF.lend dD,PF.fz dD,pU,PF.lend pU,PF.fz pU,Dd] [BO.F] aQ 180 f180 func180 (LOk.fnT (l:= [aS f180 0]) (by kernel_rfl) (.cons Zo (.nil _))) XV (by
 intro vs es r h;unfold XV at h;split at h
 ·cases h;kernel_rfl
 ·cases h)
abbrev lq:=Int×Int×List (Int×(ByteArray×Int))×List Int×ByteArray×ByteArray×List Int×List ByteArray×List ByteArray×List ByteArray×List (ByteArray×(List (Int×(ByteArray×Int))))×List Int×List (Int×(Int×Int))
section
variable (y0 y1:Int)(y2:List (Int×(ByteArray×Int)))(y3 y6:List Int)(y7 y8:List ByteArray)(y11:List Int)(y12:List (Int×(Int×Int)))
def bt:Int×ByteArray×Int:=Option.getD y2[Int.toNat y0]? ((0:Int),ByteArray.empty,(0:Int))
def qg:Int:=IntKind.wrap .i64 ((↑y3.length:Int) - mr ((bt y0 y2).1))
def ch:List Int:=List.drop (Int.toNat (qg y0 y2 y3)) (List.take (Int.toNat (↑y3.length:Int)) y3)
def qh:List Int:=List.drop (Int.toNat (0:Int)) (List.take (Int.toNat (qg y0 y2 y3)) y3)
def az:Bool:=(bt y0 y2).1==(1:Int)
def aI:Bool:=(bt y0 y2).1==(2:Int)
def aJ:Bool:=(bt y0 y2).1==(3:Int)
def aK:Bool:=(bt y0 y2).1==(4:Int)
def iQ:Bool:=ltI (0:Int) (↑(List.length (ch y0 y2 y3)):Int)
def iR:Bool:=ltN (Int.toNat (0:Int)) (List.length (ch y0 y2 y3))
def aP:Bool:=(bt y0 y2).1==(5:Int)
def pv:Bool:=ltI (1:Int) (↑(List.length (ch y0 y2 y3)):Int)
def pw:Bool:=ltN (Int.toNat (1:Int)) (List.length (ch y0 y2 y3))
def bT:Bool:=(bt y0 y2).1==(6:Int)
def sU:Int:=Option.getD (ch y0 y2 y3)[Int.toNat (0:Int)]? (0:Int)
def dv:Int×Int×Int:=Option.getD y12[Int.toNat y1]? ((0:Int),(0:Int),(0:Int))
def bh:List Int:= [bif az y0 y2 then rU (((bt y0 y2).2).1) y7 y8 y11 y6 else bif aI y0 y2 then(1:Int)else bif aJ y0 y2 then(0:Int)else bif aK y0 y2 then IntKind.wrap .i64 ((1:Int) - sU y0 y2 y3)else bif aP y0 y2 then IntKind.wrap .i64 (↑(BitVec.toNat (BitVec.ofInt (IntKind.bits IntKind.i64) (sU y0 y2 y3)&&& BitVec.ofInt (IntKind.bits IntKind.i64) (Option.getD (ch y0 y2 y3)[Int.toNat (1:Int)]? (0:Int)))):Int)else bif bT y0 y2 then IntKind.wrap .i64 (↑(BitVec.toNat (BitVec.ofInt (IntKind.bits IntKind.i64) (sU y0 y2 y3)||| BitVec.ofInt (IntKind.bits IntKind.i64) (Option.getD (ch y0 y2 y3)[Int.toNat (1:Int)]? (0:Int)))):Int)else gz ((bt y0 y2).1) ((bt y0 y2).2.2) ((dv y1 y12).1) (((dv y1 y12).2).1) ((dv y1 y12).2.2) (ch y0 y2 y3)]
def dS:Bool:=ltI y0 (↑y2.length:Int)
def ly:Bool:=leI (0:Int) y0
def lz:Bool:=ltN y0.toNat y2.length
def jJ:Bool:=leI (0:Int) (qg y0 y2 y3)
def jK:Bool:=leI (qg y0 y2 y3) (↑y3.length:Int)
def lA:Bool:=leI (↑y3.length:Int) (↑y3.length:Int)
def lB:Bool:=leN (List.length (ch y0 y2 y3)) (1048576:Nat)
end
def lC:Bool:=leI (0:Int) (0:Int)
section
variable (y0 y1:Int)(y2:List (Int×(ByteArray×Int)))(y3 y6:List Int)(y7 y8:List ByteArray)(y11:List Int)(y12:List (Int×(Int×Int)))
def lD:Bool:=leN (List.length (qh y0 y2 y3)) (1048576:Nat)
def lE:Bool:= !az y0 y2||rV (((bt y0 y2).2).1) y7 y8 y11 y6
def kq:Bool:=az y0 y2||(aI y0 y2||(aJ y0 y2||(!aK y0 y2||leI (0:Int) (0:Int))))
def kr:Bool:=az y0 y2||(aI y0 y2||(aJ y0 y2||(!aK y0 y2||iQ y0 y2 y3)))
def kt:Bool:=az y0 y2||(aI y0 y2||(aJ y0 y2||(!aK y0 y2||iR y0 y2 y3)))
def ku:Bool:=az y0 y2||(aI y0 y2||(aJ y0 y2||(aK y0 y2||(!aP y0 y2||leI (0:Int) (0:Int)))))
def kv:Bool:=az y0 y2||(aI y0 y2||(aJ y0 y2||(aK y0 y2||(!aP y0 y2||iQ y0 y2 y3))))
def kw:Bool:=az y0 y2||(aI y0 y2||(aJ y0 y2||(aK y0 y2||(!aP y0 y2||iR y0 y2 y3))))
def kx:Bool:=az y0 y2||(aI y0 y2||(aJ y0 y2||(aK y0 y2||(!aP y0 y2||leI (0:Int) (1:Int)))))
def ky:Bool:=az y0 y2||(aI y0 y2||(aJ y0 y2||(aK y0 y2||(!aP y0 y2||pv y0 y2 y3))))
def kz:Bool:=az y0 y2||(aI y0 y2||(aJ y0 y2||(aK y0 y2||(!aP y0 y2||pw y0 y2 y3))))
def kA:Bool:=az y0 y2||(aI y0 y2||(aJ y0 y2||(aK y0 y2||(aP y0 y2||(!bT y0 y2||leI (0:Int) (0:Int))))))
def kB:Bool:=az y0 y2||(aI y0 y2||(aJ y0 y2||(aK y0 y2||(aP y0 y2||(!bT y0 y2||iQ y0 y2 y3)))))
def kC:Bool:=az y0 y2||(aI y0 y2||(aJ y0 y2||(aK y0 y2||(aP y0 y2||(!bT y0 y2||iR y0 y2 y3)))))
def kD:Bool:=az y0 y2||(aI y0 y2||(aJ y0 y2||(aK y0 y2||(aP y0 y2||(!bT y0 y2||leI (0:Int) (1:Int))))))
def kE:Bool:=az y0 y2||(aI y0 y2||(aJ y0 y2||(aK y0 y2||(aP y0 y2||(!bT y0 y2||pv y0 y2 y3)))))
def kF:Bool:=az y0 y2||(aI y0 y2||(aJ y0 y2||(aK y0 y2||(aP y0 y2||(!bT y0 y2||pw y0 y2 y3)))))
def iK:Bool:=az y0 y2||(aI y0 y2||(aJ y0 y2||(aK y0 y2||(aP y0 y2||(bT y0 y2||leI (0:Int) y1)))))
def iL:Bool:=az y0 y2||(aI y0 y2||(aJ y0 y2||(aK y0 y2||(aP y0 y2||(bT y0 y2||ltI y1 (↑y12.length:Int))))))
def iM:Bool:=az y0 y2||(aI y0 y2||(aJ y0 y2||(aK y0 y2||(aP y0 y2||(bT y0 y2||ltN y1.toNat y12.length)))))
def kG:Bool:=az y0 y2||(aI y0 y2||(aJ y0 y2||(aK y0 y2||(aP y0 y2||(bT y0 y2||ke (ch y0 y2 y3))))))
def kH:Bool:=leN (List.length (qh y0 y2 y3) + List.length (bh y0 y1 y2 y3 y6 y7 y8 y11 y12)) (9223372036854775807:Nat)
def kI:Bool:=leN ((List.length (qh y0 y2 y3) + List.length (bh y0 y1 y2 y3 y6 y7 y8 y11 y12)) * (8:Nat)) (140737488355328:Nat)
def iN:Int:=IntKind.wrap .i64 (y0 + (1:Int))
def bL:Int:=bif az y0 y2 then y1 else bif aI y0 y2 then y1 else bif aJ y0 y2 then y1 else bif aK y0 y2 then y1 else bif aP y0 y2 then y1 else bif bT y0 y2 then y1 else IntKind.wrap .i64 (y1 + (1:Int))
def iO:List Int:=qh y0 y2 y3++bh y0 y1 y2 y3 y6 y7 y8 y11 y12
def iP:List Int:=bif az y0 y2 then y11 else y11
def bM:List (Int×(Int×Int)):=bif az y0 y2 then y12 else bif aI y0 y2 then y12 else bif aJ y0 y2 then y12 else bif aK y0 y2 then y12 else bif aP y0 y2 then y12 else bif bT y0 y2 then y12 else List.set y12 y1.toNat (io ((bt y0 y2).1) ((bt y0 y2).2.2) ((dv y1 y12).1) (((dv y1 y12).2).1) ((dv y1 y12).2.2) (ch y0 y2 y3),ip ((bt y0 y2).1) (((dv y1 y12).2).1) ((dv y1 y12).2.2) (ch y0 y2 y3),iq ((bt y0 y2).1) ((bt y0 y2).2.2) ((dv y1 y12).1) ((dv y1 y12).2.2) (ch y0 y2 y3))
end
def TI:lq→List (Nat×SV)
 |(y0,y1,_,_,_,_,_,_,_,_,_,_,_)=> [(12,(.one ⟨false,[.val (.int .i64 y0)]⟩)),(3,(.one ⟨false,[.ref 0]⟩)),(11,(.one ⟨false,[.ref 1]⟩)),(5,(.one ⟨false,[.ptr 2 0]⟩)),(6,(.one ⟨false,[.ptr 3 0]⟩)),(2,(.one ⟨false,[.ref 4]⟩)),(4,(.one ⟨false,[.val (.int .i64 y1)]⟩))]
def TF:lq→List (Nat×Entry)
 |(_,_,y2,y3,y4,y5,y6,y7,y8,y9,y10,y11,y12)=> [(0,(.row false 178 aeH y2)),(2,(.box 63 [.val (.string y4),.ref 5,.ref 6,.ref 7,.val (.string y5),.ref 8])),(3,(.box 48 [.ref 9,.ref 10])),(4,(.row false 2 afY y6)),(5,(.row false 9 agS y7)),(6,(.row false 9 agS y8)),(7,(.row false 9 agS y9)),(8,(.row false 204 (CTy.pair CTy.str (CTy.sl (178:Nat) aeH)) y10)),(9,(.row true 2 afY y11)),(10,(.row true 172 aaK y12)),(1,(.row true 2 afY y3))]
def TP:Nat→lq→List (Nat×SV)
 |_,(_,_,_,_,_,_,_,_,_,_,_,_,_)=> [(11,(.one ⟨false,[.ref 1]⟩))]
def TL:Nat→lq→List (Nat×Entry)
 |_,(_,_,y2,y3,y4,y5,y6,y7,y8,y9,y10,y11,y12)=> [(0,(.row false 178 aeH y2)),(1,(.row true 2 afY y3)),(2,(.box 63 [.val (.string y4),.ref 5,.ref 6,.ref 7,.val (.string y5),.ref 8])),(3,(.box 48 [.ref 9,.ref 10])),(4,(.row false 2 afY y6)),(5,(.row false 9 agS y7)),(6,(.row false 9 agS y8)),(7,(.row false 9 agS y9)),(8,(.row false 204 (CTy.pair CTy.str (CTy.sl (178:Nat) aeH)) y10)),(9,(.row true 2 afY y11)),(10,(.row true 172 aaK y12))]
def eJ:lq→LT lq
 |(y0,y1,y2,y3,y4,y5,y6,y7,y8,y9,y10,y11,y12)=> .ite (dS y0 y2) (.need [ly y0,dS y0 y2,lz y0 y2] (.need [jJ y0 y2 y3,jK y0 y2 y3,lA y3,lB y0 y2 y3] (.need [lC,jJ y0 y2 y3,jK y0 y2 y3,lD y0 y2 y3] (.need [lE y0 y2 y6 y7 y8 y11,kq y0 y2,kr y0 y2 y3,kt y0 y2 y3,ku y0 y2,kv y0 y2 y3,kw y0 y2 y3,kx y0 y2,ky y0 y2 y3,kz y0 y2 y3,kA y0 y2,kB y0 y2 y3,kC y0 y2 y3,kD y0 y2,kE y0 y2 y3,kF y0 y2 y3,iK y0 y1 y2,iL y0 y1 y2 y12,iM y0 y1 y2 y12,kG y0 y2 y3,iK y0 y1 y2,iL y0 y1 y2 y12,iM y0 y1 y2 y12] (.need [kH y0 y1 y2 y3 y6 y7 y8 y11 y12,kI y0 y1 y2 y3 y6 y7 y8 y11 y12] (.nrm ((iN y0),bL y0 y1 y2,y2,iO y0 y1 y2 y3 y6 y7 y8 y11 y12,y4,y5,y6,y7,y8,y9,y10,iP y0 y2 y11,(bM y0 y1 y2 y3 y12)) [(0,0),(1,4544),(2,2),(3,3),(4,4),(5,5),(6,6),(7,7),(8,8),(9,9),(10,10)])))))) (.ext 0 [(0,0),(1,1),(2,2),(3,3),(4,4),(5,5),(6,6),(7,7),(8,8),(9,9),(10,10)])
def EI(s:St):Option lq:=
 (match s.look 12 with
 |some ⟨none,.one ⟨false,[.val (.int .i64 y0)]⟩⟩=>
 (match s.look 3 with
 |some ⟨none,.one ⟨false,[.ref 7]⟩⟩=>
 (match s.look 11 with
 |some ⟨none,.one ⟨false,[.ref 768]⟩⟩=>
 (match s.look 5 with
 |some ⟨none,.one ⟨false,[.ptr 576 0]⟩⟩=>
 (match s.look 6 with
 |some ⟨none,.one ⟨false,[.ptr 640 0]⟩⟩=>
 (match s.look 2 with
 |some ⟨none,.one ⟨false,[.ref 6]⟩⟩=>
 (match s.look 4 with
 |some ⟨none,.one ⟨false,[.val (.int .i64 y1)]⟩⟩=>
 (match s.ent 7 with
 |some (.row false 178 (.pair (.int .i64) (.pair .str (.int .i64))) y2)=>
 (match s.ent 576 with
 |some (.box 63 [.val (.string y4),.ref 0,.ref 1,.ref 2,.val (.string y5),.ref 3])=>
 (match s.ent 640 with
 |some (.box 48 [.ref 4,.ref 5])=>
 (match s.ent 6 with
 |some (.row false 2 (.int .i64) y6)=>
 (match s.ent 0 with
 |some (.row false 9 (.str) y7)=>
 (match s.ent 1 with
 |some (.row false 9 (.str) y8)=>
 (match s.ent 2 with
 |some (.row false 9 (.str) y9)=>
 (match s.ent 3 with
 |some (.row false 204 (.pair .str (.sl (178:Nat) (.pair (.int .i64) (.pair .str (.int .i64))))) y10)=>
 (match s.ent 4 with
 |some (.row true 2 (.int .i64) y11)=>
 (match s.ent 5 with
 |some (.row true 172 (.pair (.int .i64) (.pair (.int .i64) (.int .i64))) y12)=>
 (match s.ent 768 with
 |some (.row true 2 (.int .i64) y3)=>
 some (y0,y1,y2,y3,y4,y5,y6,y7,y8,y9,y10,y11,y12)
 |_=>none)
 |_=>none)
 |_=>none)
 |_=>none)
 |_=>none)
 |_=>none)
 |_=>none)
 |_=>none)
 |_=>none)
 |_=>none)
 |_=>none)
 |_=>none)
 |_=>none)
 |_=>none)
 |_=>none)
 |_=>none)
 |_=>none)
 |_=>none)
def aY:Lp lq where
 h:=⟨[20,21,22,23,26,27,28,29,13,30,31,32,33,34,35,14,36,37,38,39,15,40,41,42,43,11,16,44,45,66,65,67,68,69,70,71,72,74,73,76,75,78,77,79,80,81,82,84,83,85,86,87,88,89,90,91,93,92,94,95,96,97,98,99,100,47,48,49,50,51,52,53,54,46,55,56,18,17,57,58,59,60,61,62,63,64,4,101,102,103,104,24,25,12],[0,2,3,4,5,6,7,8,9,10],[1],[]⟩
 JL:=TI
 JE:=TF
 XL:=TP
 XE:=TL
 q:=fun j=>match j with | _=> .exit 0
 tags:= [0]
 lt:=eJ
 fuel:=fun(y0,y1,y2,y3,y4,y5,y6,y7,y8,y9,y10,y11,y12)=>y0.natAbs + y1.natAbs + y2.length + y3.length + y4.size + y5.size + y6.length + y7.length + y8.length + y9.length + y10.length + y11.length + y12.length
 fix:=fun(_,_,y2,_,y4,y5,y6,y7,y8,y9,y10,_,_) (y0,y1,_,y3,_,_,_,_,_,_,_,y11,y12)=>(y0,y1,y2,y3,y4,y5,y6,y7,y8,y9,y10,y11,y12)
 σ:= [(0,7),(2,576),(3,640),(4,6),(5,0),(6,1),(7,2),(8,3),(9,4),(10,5),(1,768)]
 rd:=EI
theorem RY:LoopOk prog (fun k=>Nat.blt k Tryz.f180.ntmps) aY.F (aS f180 0):=by
 refine Lp.ok (tbl:= [PF.mark prog,nb,PF.lend nb,PF.fz nb,dD,PF.lend dD,PF.fz dD,pU,PF.lend pU,PF.fz pU,Dd]) (lf:= []) aQ aY (by kernel_rfl) (LOk.nil _) (fun _=>rfl) (fun _ _=>rfl) ?_ ?_ ?_ ?_ (fun _=>rfl) ?_
 ·rintro⟨y0,y1,y2,y3,y4,y5,y6,y7,y8,y9,y10,y11,y12⟩;kernel_rfl
 ·rintro⟨y0,y1,y2,y3,y4,y5,y6,y7,y8,y9,y10,y11,y12⟩;kernel_rfl
 ·intro s x h
  have h:EI s=some x:=h
  unfold EI at h
  repeat' split at h
  all_goals cases h
  exact⟨aa (by assumption) rfl (aa (by assumption) rfl (aa (by assumption) rfl (aa (by assumption) rfl (aa (by assumption) rfl (aa (by assumption) rfl (aa (by assumption) rfl (rfl))))))),ab rfl (by assumption) rfl (ab rfl (by assumption) rfl (ab rfl (by assumption) rfl (ab rfl (by assumption) rfl (ab rfl (by assumption) rfl (ab rfl (by assumption) rfl (ab rfl (by assumption) rfl (ab rfl (by assumption) rfl (ab rfl (by assumption) rfl (ab rfl (by assumption) rfl (ab rfl (by assumption) rfl (rfl)))))))))))⟩
 ·rintro⟨y0,y1,y2,y3,y4,y5,y6,y7,y8,y9,y10,y11,y12⟩;kernel_rfl
 ·rintro⟨y0,y1,y2,y3,y4,y5,y6,y7,y8,y9,y10,y11,y12⟩ z;exact(And.intro rfl trivial)
section
variable (x0 x1:ByteArray)(x2:Int)(x3 x4 x5:List ByteArray)(x6:List (ByteArray×List (Int×ByteArray×Int)))(x7:List Int)(x8:List (Int×Int×Int))(x9:List Int)(x10:List (Int×ByteArray×Int))
def tE:Int×Int×List (Int×ByteArray×Int)×List Int×ByteArray×ByteArray×List Int×List ByteArray×List ByteArray×List ByteArray×List (ByteArray×List (Int×ByteArray×Int))×List Int×List (Int×Int×Int):=((0:Int),x2,x10,[],x0,x1,x9,x3,x4,x5,x6,x7,x8)
def xh:List Int×ByteArray×ByteArray×List Int×List ByteArray×List ByteArray×List ByteArray×List (ByteArray×List (Int×ByteArray×Int))×List Int×List (Int×Int×Int):=(Lp.res aY (tE x0 x1 x2 x3 x4 x5 x6 x7 x8 x9 x10)).2.2.2.2
def xj:List Int:=(xh x0 x1 x2 x3 x4 x5 x6 x7 x8 x9 x10).1
def CP:List Int×List (Int×Int×Int):=(xh x0 x1 x2 x3 x4 x5 x6 x7 x8 x9 x10).2.2.2.2.2.2.2.2
def Ej:Int:=Option.getD (xj x0 x1 x2 x3 x4 x5 x6 x7 x8 x9 x10)[Int.toNat (0:Int)]? (0:Int)
def Ek:List Int:=(CP x0 x1 x2 x3 x4 x5 x6 x7 x8 x9 x10).1
def El:List (Int×(Int×Int)):=(CP x0 x1 x2 x3 x4 x5 x6 x7 x8 x9 x10).2
def Em:Bool:=allT [Lp.fin aY (tE x0 x1 x2 x3 x4 x5 x6 x7 x8 x9 x10),ltI (0:Int) (↑(List.length (xj x0 x1 x2 x3 x4 x5 x6 x7 x8 x9 x10)):Int),ltN (Int.toNat (0:Int)) (List.length (xj x0 x1 x2 x3 x4 x5 x6 x7 x8 x9 x10))]
end
def PM:List SV→List Entry→Option Out
 | [.one ⟨true,[.val (.string x0),.ref 0,.ref 1,.ref 2,.val (.string x1),.ref 3]⟩,.one ⟨true,[.ref 4,.ref 5]⟩,.one ⟨false,[.ref 6]⟩,.one ⟨false,[.ref 7]⟩,.one ⟨false,[.val (.int .i64 x2)]⟩],[.row false 9 (.str) x3,.row false 9 (.str) x4,.row false 9 (.str) x5,.row false 204 (.pair .str (.sl (178:Nat) (.pair (.int .i64) (.pair .str (.int .i64))))) x6,.row true 2 (.int .i64) x7,.row true 172 (.pair (.int .i64) (.pair (.int .i64) (.int .i64))) x8,.row false 2 (.int .i64) x9,.row false 178 (.pair (.int .i64) (.pair .str (.int .i64))) x10]=>some ⟨.one ⟨false,[.val (.int .i64 (Ej x0 x1 x2 x3 x4 x5 x6 x7 x8 x9 x10))]⟩,[.row false 9 agS x3,.row false 9 agS x4,.row false 9 agS x5,.row false 204 (CTy.pair CTy.str (CTy.sl (178:Nat) aeH)) x6,.row true 2 afY (Ek x0 x1 x2 x3 x4 x5 x6 x7 x8 x9 x10),.row true 172 aaK (El x0 x1 x2 x3 x4 x5 x6 x7 x8 x9 x10),.row false 2 afY x9,.row false 178 aeH x10],[],[Em x0 x1 x2 x3 x4 x5 x6 x7 x8 x9 x10]⟩
 |_,_=>none
def mA:PF prog:=PF.ofG prog [PF.mark prog,nb,PF.lend nb,PF.fz nb,dD,PF.lend dD,PF.fz dD,pU,PF.lend pU,PF.fz pU,Dd] [aY.F] aQ 180 f180 func180 (LOk.fnT (l:= [aS f180 0]) (by kernel_rfl) (.cons RY (.nil _))) PM (by
 intro vs es r h;unfold PM at h;split at h
 ·cases h;kernel_rfl
 ·cases h)
abbrev pg:=Int×Int×Int×ByteArray×ByteArray×List ByteArray×List ByteArray×List ByteArray×List (ByteArray×(List (Int×(ByteArray×Int))))
def xk(y1:Int)(y8:List (ByteArray×(List (Int×(ByteArray×Int))))):List (Int×ByteArray×Int):=(Option.getD y8[Int.toNat y1]? (xt (CTy.pair CTy.str (CTy.sl (178:Nat) aeH)))).2
def Eo(y1:Int):Bool:=leI (0:Int) y1
def Ep(y1:Int)(y8:List (ByteArray×(List (Int×(ByteArray×Int))))):Bool:=ltI y1 (↑y8.length:Int)
def Er(y1:Int)(y8:List (ByteArray×(List (Int×(ByteArray×Int))))):Bool:=ltN y1.toNat y8.length
def vo(y0 y1:Int)(y8:List (ByteArray×(List (Int×(ByteArray×Int))))):Bool:=ltI y0 (↑(List.length (xk y1 y8)):Int)
def Qa(y0:Int):Bool:=leI (0:Int) y0
def Qb(y0 y1:Int)(y8:List (ByteArray×(List (Int×(ByteArray×Int))))):Bool:=ltN y0.toNat (List.length (xk y1 y8))
def Qc(y0:Int):Int:=IntKind.wrap .i64 (y0 + (1:Int))
def JQ(y0 y1 y2:Int)(y8:List (ByteArray×(List (Int×(ByteArray×Int))))):Int:=bif leI (7:Int) ((Option.getD (xk y1 y8)[Int.toNat y0]? ((0:Int),ByteArray.empty,(0:Int))).1)then IntKind.wrap .i64 (y2 + (1:Int))else y2
def Xe:pg→List (Nat×SV)
 |(y0,y1,y2,_,_,_,_,_,_)=> [(14,(.one ⟨false,[.val (.int .i64 y0)]⟩)),(3,(.one ⟨false,[.ptr 0 0]⟩)),(11,(.one ⟨false,[.val (.int .i64 y1)]⟩)),(10,(.one ⟨false,[.val (.int .i64 y2)]⟩))]
def WZ:pg→List (Nat×Entry)
 |(_,_,_,y3,y4,y5,y6,y7,y8)=> [(0,(.box 63 [.val (.string y3),.ref 1,.ref 2,.ref 3,.val (.string y4),.ref 4])),(1,(.row false 9 agS y5)),(2,(.row false 9 agS y6)),(3,(.row false 9 agS y7)),(4,(.row false 204 (CTy.pair CTy.str (CTy.sl (178:Nat) aeH)) y8))]
def Xo:Nat→pg→List (Nat×SV)
 |_,(_,_,y2,_,_,_,_,_,_)=> [(10,(.one ⟨false,[.val (.int .i64 y2)]⟩))]
def Xj:Nat→pg→List (Nat×Entry)
 |_,(_,_,_,y3,y4,y5,y6,y7,y8)=> [(0,(.box 63 [.val (.string y3),.ref 1,.ref 2,.ref 3,.val (.string y4),.ref 4])),(1,(.row false 9 agS y5)),(2,(.row false 9 agS y6)),(3,(.row false 9 agS y7)),(4,(.row false 204 (CTy.pair CTy.str (CTy.sl (178:Nat) aeH)) y8))]
def wY:pg→LT pg
 |(y0,y1,y2,y3,y4,y5,y6,y7,y8)=> .need [Eo y1,Ep y1 y8,Er y1 y8] (.ite (vo y0 y1 y8) (.need [Eo y1,Ep y1 y8,Er y1 y8,Qa y0,vo y0 y1 y8,Qb y0 y1 y8] (.nrm ((Qc y0),y1,JQ y0 y1 y2 y8,y3,y4,y5,y6,y7,y8) [(0,0),(1,1),(2,2),(3,3),(4,4)])) (.ext 0 [(0,0),(1,1),(2,2),(3,3),(4,4)]))
def HW(s:St):Option pg:=
 (match s.look 14 with
 |some ⟨none,.one ⟨false,[.val (.int .i64 y0)]⟩⟩=>
 (match s.look 3 with
 |some ⟨none,.one ⟨false,[.ptr 0 0]⟩⟩=>
 (match s.look 11 with
 |some ⟨none,.one ⟨false,[.val (.int .i64 y1)]⟩⟩=>
 (match s.look 10 with
 |some ⟨none,.one ⟨false,[.val (.int .i64 y2)]⟩⟩=>
 (match s.ent 0 with
 |some (.box 63 [.val (.string y3),.ref 4,.ref 5,.ref 6,.val (.string y4),.ref 7])=>
 (match s.ent 4 with
 |some (.row false 9 (.str) y5)=>
 (match s.ent 5 with
 |some (.row false 9 (.str) y6)=>
 (match s.ent 6 with
 |some (.row false 9 (.str) y7)=>
 (match s.ent 7 with
 |some (.row false 204 (.pair .str (.sl (178:Nat) (.pair (.int .i64) (.pair .str (.int .i64))))) y8)=>
 some (y0,y1,y2,y3,y4,y5,y6,y7,y8)
 |_=>none)
 |_=>none)
 |_=>none)
 |_=>none)
 |_=>none)
 |_=>none)
 |_=>none)
 |_=>none)
 |_=>none)
def ft:Lp pg where
 h:=⟨[67,68,69,70,71,72,73,74,75,78,79,80,81,82,83,84,85,86,87,88,89,90,10,76,77,14],[0,1,2,3,4],[],[]⟩
 JL:=Xe
 JE:=WZ
 XL:=Xo
 XE:=Xj
 q:=fun j=>match j with | _=> .exit 2
 tags:= [0]
 lt:=wY
 fuel:=fun(y0,y1,y2,y3,y4,y5,y6,y7,y8)=>y0.natAbs + y1.natAbs + y2.natAbs + y3.size + y4.size + y5.length + y6.length + y7.length + y8.length
 fix:=fun(_,y1,_,y3,y4,y5,y6,y7,y8) (y0,_,y2,_,_,_,_,_,_)=>(y0,y1,y2,y3,y4,y5,y6,y7,y8)
 σ:= [(0,0),(1,4),(2,5),(3,6),(4,7)]
 rd:=HW
theorem UV:LoopOk prog (memN [21,22,23,24,25,28,29,30,31,32,33,34,35,36,37,38,12,39,40,41,42,43,44,45,46,47,13,48,49,50,51,52,53,54,55,56,57,58,59,60,61,62,63,64,65,66,14,67,68,69,70,71,72,73,74,75,78,79,80,81,82,83,84,85,86,87,88,89,90,10,76,77,26,27,11]) ft.F (Zg (aS f113 0) 0):=by
 refine Lp.ok (tbl:= [bV,PF.lend bV,PF.fz bV,xZ,PF.lend xZ,PF.fz xZ,vW,PF.lend vW,PF.fz vW,dD,PF.lend dD,PF.fz dD,mA,PF.lend mA,PF.fz mA]) (lf:= []) aQ ft (by kernel_rfl) (LOk.nil _) (fun _=>rfl) (fun _ _=>rfl) ?_ ?_ ?_ ?_ (fun _=>rfl) ?_
 ·rintro⟨y0,y1,y2,y3,y4,y5,y6,y7,y8⟩;kernel_rfl
 ·rintro⟨y0,y1,y2,y3,y4,y5,y6,y7,y8⟩;kernel_rfl
 ·intro s x h
  have h:HW s=some x:=h
  unfold HW at h
  repeat' split at h
  all_goals cases h
  exact⟨aa (by assumption) rfl (aa (by assumption) rfl (aa (by assumption) rfl (aa (by assumption) rfl (rfl)))),ab rfl (by assumption) rfl (ab rfl (by assumption) rfl (ab rfl (by assumption) rfl (ab rfl (by assumption) rfl (ab rfl (by assumption) rfl (rfl)))))⟩
 ·rintro⟨y0,y1,y2,y3,y4,y5,y6,y7,y8⟩;kernel_rfl
 ·rintro⟨y0,y1,y2,y3,y4,y5,y6,y7,y8⟩ z;exact(And.intro rfl trivial)
abbrev tn:=Int×Int×ByteArray×ByteArray×List Int×List Int×List ByteArray×List ByteArray×List ByteArray×List (ByteArray×(List (Int×(ByteArray×Int))))×List Int×List (Int×(Int×Int))
def MR(y0:Int)(y9:List (ByteArray×(List (Int×(ByteArray×Int))))):Bool:=ltI y0 (↑y9.length:Int)
def MS(y0:Int)(y9:List (ByteArray×(List (Int×(ByteArray×Int))))):Bool:=ltN y0.toNat y9.length
def rL(y0:Int)(y9:List (ByteArray×(List (Int×(ByteArray×Int))))):ByteArray×List (Int×ByteArray×Int):=Option.getD y9[Int.toNat y0]? (xt (CTy.pair CTy.str (CTy.sl (178:Nat) aeH)))
def dm(y0:Int)(y7:List ByteArray)(y9:List (ByteArray×(List (Int×(ByteArray×Int))))):Int:=iI y7 ((rL y0 y9).1)
def xQ(y0 y1:Int)(y2 y3:ByteArray)(y4:List Int)(y6 y7 y8:List ByteArray)(y9:List (ByteArray×(List (Int×(ByteArray×Int)))))(y10:List Int)(y11:List (Int×(Int×Int))):List Int:=Ek y2 y3 y1 y6 y7 y8 y9 y10 y11 y4 ((rL y0 y9).2)
def xR(y0:Int)(y8:List ByteArray)(y9:List (ByteArray×(List (Int×(ByteArray×Int))))):Int:=iI y8 ((rL y0 y9).1)
def MT(y0 y1:Int)(y2 y3:ByteArray)(y6 y7 y8:List ByteArray)(y9:List (ByteArray×(List (Int×(ByteArray×Int))))):Int×Int×Int×ByteArray×ByteArray×List ByteArray×List ByteArray×List ByteArray×List (ByteArray×List (Int×ByteArray×Int)):=((0:Int),y0,y1,y2,y3,y6,y7,y8,y9)
def Ha(y0 y1:Int)(y2 y3:ByteArray)(y4:List Int)(y6 y7 y8:List ByteArray)(y9:List (ByteArray×(List (Int×(ByteArray×Int)))))(y10:List Int)(y11:List (Int×(Int×Int))):Int:=Ej y2 y3 y1 y6 y7 y8 y9 y10 y11 y4 ((rL y0 y9).2)
def En(y0:Int)(y9:List (ByteArray×(List (Int×(ByteArray×Int))))):Bool:=MR y0 y9
def Ou(y0:Int):Bool:=leI (0:Int) y0
def Ov(y0:Int)(y9:List (ByteArray×(List (Int×(ByteArray×Int))))):Bool:=MS y0 y9
def Ow(y0 y1:Int)(y2 y3:ByteArray)(y4:List Int)(y6 y7 y8:List ByteArray)(y9:List (ByteArray×(List (Int×(ByteArray×Int)))))(y10:List Int)(y11:List (Int×(Int×Int))):Bool:=Em y2 y3 y1 y6 y7 y8 y9 y10 y11 y4 ((rL y0 y9).2)
def TB(y7:List ByteArray):Bool:=leN y7.length (9223372036854775807:Nat)
def Ox(y0:Int)(y7:List ByteArray)(y9:List (ByteArray×(List (Int×(ByteArray×Int))))):Bool:= !leI (0:Int) (dm y0 y7 y9)||leI (0:Int) (dm y0 y7 y9)
def Oy(y0 y1:Int)(y2 y3:ByteArray)(y4:List Int)(y6 y7 y8:List ByteArray)(y9:List (ByteArray×(List (Int×(ByteArray×Int)))))(y10:List Int)(y11:List (Int×(Int×Int))):Bool:= !leI (0:Int) (dm y0 y7 y9)||ltI (dm y0 y7 y9) (↑(List.length (xQ y0 y1 y2 y3 y4 y6 y7 y8 y9 y10 y11)):Int)
def Oz(y0 y1:Int)(y2 y3:ByteArray)(y4:List Int)(y6 y7 y8:List ByteArray)(y9:List (ByteArray×(List (Int×(ByteArray×Int)))))(y10:List Int)(y11:List (Int×(Int×Int))):Bool:= !leI (0:Int) (dm y0 y7 y9)||ltN (Int.toNat (dm y0 y7 y9)) (List.length (xQ y0 y1 y2 y3 y4 y6 y7 y8 y9 y10 y11))
def OA(y0:Int)(y7:List ByteArray)(y9:List (ByteArray×(List (Int×(ByteArray×Int))))):Bool:=leI (0:Int) (dm y0 y7 y9)||leI (0:Int) y0
def OB(y0:Int)(y7:List ByteArray)(y9:List (ByteArray×(List (Int×(ByteArray×Int))))):Bool:=leI (0:Int) (dm y0 y7 y9)||MR y0 y9
def MI(y0:Int)(y7:List ByteArray)(y9:List (ByteArray×(List (Int×(ByteArray×Int))))):Bool:=leI (0:Int) (dm y0 y7 y9)||MS y0 y9
def MJ(y0:Int)(y7 y8:List ByteArray)(y9:List (ByteArray×(List (Int×(ByteArray×Int))))):Bool:=leI (0:Int) (dm y0 y7 y9)||leN y8.length (9223372036854775807:Nat)
def MK(y0:Int)(y7 y8:List ByteArray)(y9:List (ByteArray×(List (Int×(ByteArray×Int))))):Bool:=leI (0:Int) (dm y0 y7 y9)||leI (0:Int) (xR y0 y8 y9)
def ML(y0:Int)(y5:List Int)(y7 y8:List ByteArray)(y9:List (ByteArray×(List (Int×(ByteArray×Int))))):Bool:=leI (0:Int) (dm y0 y7 y9)||ltI (xR y0 y8 y9) (↑y5.length:Int)
def MM(y0:Int)(y5:List Int)(y7 y8:List ByteArray)(y9:List (ByteArray×(List (Int×(ByteArray×Int))))):Bool:=leI (0:Int) (dm y0 y7 y9)||ltN (Int.toNat (xR y0 y8 y9)) y5.length
def SJ(y0 y1:Int)(y2 y3:ByteArray)(y6 y7 y8:List ByteArray)(y9:List (ByteArray×(List (Int×(ByteArray×Int))))):Bool:=Lp.fin ft (MT y0 y1 y2 y3 y6 y7 y8 y9)
def SK(y0:Int):Int:=IntKind.wrap .i64 (y0 + (1:Int))
def MN(y0 y1:Int)(y2 y3:ByteArray)(y6 y7 y8:List ByteArray)(y9:List (ByteArray×(List (Int×(ByteArray×Int))))):Int:=((Lp.res ft (MT y0 y1 y2 y3 y6 y7 y8 y9)).2.2.2).1
def MO(y0 y1:Int)(y2 y3:ByteArray)(y4 y5:List Int)(y6 y7 y8:List ByteArray)(y9:List (ByteArray×(List (Int×(ByteArray×Int)))))(y10:List Int)(y11:List (Int×(Int×Int))):List Int:=bif leI (0:Int) (dm y0 y7 y9)then y5 else List.set y5 (Int.toNat (xR y0 y8 y9)) (Ha y0 y1 y2 y3 y4 y6 y7 y8 y9 y10 y11)
def MP(y0 y1:Int)(y2 y3:ByteArray)(y4:List Int)(y6 y7 y8:List ByteArray)(y9:List (ByteArray×(List (Int×(ByteArray×Int)))))(y10:List Int)(y11:List (Int×(Int×Int))):List Int:=bif leI (0:Int) (dm y0 y7 y9)then List.set (xQ y0 y1 y2 y3 y4 y6 y7 y8 y9 y10 y11) (Int.toNat (dm y0 y7 y9)) (Ha y0 y1 y2 y3 y4 y6 y7 y8 y9 y10 y11)else xQ y0 y1 y2 y3 y4 y6 y7 y8 y9 y10 y11
def MQ(y0 y1:Int)(y2 y3:ByteArray)(y4:List Int)(y6 y7 y8:List ByteArray)(y9:List (ByteArray×(List (Int×(ByteArray×Int)))))(y10:List Int)(y11:List (Int×(Int×Int))):List (Int×(Int×Int)):=El y2 y3 y1 y6 y7 y8 y9 y10 y11 y4 ((rL y0 y9).2)
def abR:tn→List (Nat×SV)
 |(y0,y1,_,_,_,_,_,_,_,_,_,_)=> [(11,(.one ⟨false,[.val (.int .i64 y0)]⟩)),(3,(.one ⟨false,[.ptr 0 0]⟩)),(8,(.one ⟨false,[.ptr 1 0]⟩)),(2,(.one ⟨false,[.ref 2]⟩)),(10,(.one ⟨false,[.val (.int .i64 y1)]⟩)),(9,(.one ⟨false,[.ref 3]⟩))]
def abH:tn→List (Nat×Entry)
 |(_,_,y2,y3,y4,y5,y6,y7,y8,y9,y10,y11)=> [(0,(.box 63 [.val (.string y2),.ref 4,.ref 5,.ref 6,.val (.string y3),.ref 7])),(1,(.box 48 [.ref 8,.ref 9])),(2,(.row false 2 afY y4)),(3,(.row true 2 afY y5)),(4,(.row false 9 agS y6)),(5,(.row false 9 agS y7)),(6,(.row false 9 agS y8)),(7,(.row false 204 (CTy.pair CTy.str (CTy.sl (178:Nat) aeH)) y9)),(8,(.row true 2 afY y10)),(9,(.row true 172 aaK y11))]
def acb:Nat→tn→List (Nat×SV)
 |_,(_,_,_,_,_,_,_,_,_,_,_,_)=> []
def ab1:Nat→tn→List (Nat×Entry)
 |_,(_,_,y2,y3,y4,y5,y6,y7,y8,y9,y10,y11)=> [(0,(.box 63 [.val (.string y2),.ref 4,.ref 5,.ref 6,.val (.string y3),.ref 7])),(1,(.box 48 [.ref 8,.ref 9])),(2,(.row false 2 afY y4)),(3,(.row true 2 afY y5)),(4,(.row false 9 agS y6)),(5,(.row false 9 agS y7)),(6,(.row false 9 agS y8)),(7,(.row false 204 (CTy.pair CTy.str (CTy.sl (178:Nat) aeH)) y9)),(8,(.row true 2 afY y10)),(9,(.row true 172 aaK y11))]
def BZ:tn→LT tn
 |(y0,y1,y2,y3,y4,y5,y6,y7,y8,y9,y10,y11)=> .ite (En y0 y9) (.need [Ou y0,En y0 y9,Ov y0 y9,Ow y0 y1 y2 y3 y4 y6 y7 y8 y9 y10 y11] (.need [Ou y0,En y0 y9,Ov y0 y9,TB y7] (.need [Ox y0 y7 y9,Oy y0 y1 y2 y3 y4 y6 y7 y8 y9 y10 y11,Oz y0 y1 y2 y3 y4 y6 y7 y8 y9 y10 y11,OA y0 y7 y9,OB y0 y7 y9,MI y0 y7 y9,MJ y0 y7 y8 y9,MK y0 y7 y8 y9,ML y0 y5 y7 y8 y9,MM y0 y5 y7 y8 y9] (.need [SJ y0 y1 y2 y3 y6 y7 y8 y9] (.nrm ((SK y0),MN y0 y1 y2 y3 y6 y7 y8 y9,y2,y3,y4,MO y0 y1 y2 y3 y4 y5 y6 y7 y8 y9 y10 y11,y6,y7,y8,y9,MP y0 y1 y2 y3 y4 y6 y7 y8 y9 y10 y11,(MQ y0 y1 y2 y3 y4 y6 y7 y8 y9 y10 y11)) [(0,0),(1,1),(2,2),(3,3),(4,4),(5,5),(6,6),(7,7),(8,8),(9,9)]))))) (.ext 0 [(0,0),(1,1),(2,2),(3,3),(4,4),(5,5),(6,6),(7,7),(8,8),(9,9)])
def Mz(s:St):Option tn:=
 (match s.look 11 with
 |some ⟨none,.one ⟨false,[.val (.int .i64 y0)]⟩⟩=>
 (match s.look 3 with
 |some ⟨none,.one ⟨false,[.ptr 512 0]⟩⟩=>
 (match s.look 8 with
 |some ⟨none,.one ⟨false,[.ptr 896 0]⟩⟩=>
 (match s.look 2 with
 |some ⟨none,.one ⟨false,[.ref 6]⟩⟩=>
 (match s.look 10 with
 |some ⟨none,.one ⟨false,[.val (.int .i64 y1)]⟩⟩=>
 (match s.look 9 with
 |some ⟨none,.one ⟨false,[.ref 1216]⟩⟩=>
 (match s.ent 512 with
 |some (.box 63 [.val (.string y2),.ref 0,.ref 1,.ref 2,.val (.string y3),.ref 3])=>
 (match s.ent 896 with
 |some (.box 48 [.ref 832,.ref 833])=>
 (match s.ent 6 with
 |some (.row false 2 (.int .i64) y4)=>
 (match s.ent 1216 with
 |some (.row true 2 (.int .i64) y5)=>
 (match s.ent 0 with
 |some (.row false 9 (.str) y6)=>
 (match s.ent 1 with
 |some (.row false 9 (.str) y7)=>
 (match s.ent 2 with
 |some (.row false 9 (.str) y8)=>
 (match s.ent 3 with
 |some (.row false 204 (.pair .str (.sl (178:Nat) (.pair (.int .i64) (.pair .str (.int .i64))))) y9)=>
 (match s.ent 832 with
 |some (.row true 2 (.int .i64) y10)=>
 (match s.ent 833 with
 |some (.row true 172 (.pair (.int .i64) (.pair (.int .i64) (.int .i64))) y11)=>
 some (y0,y1,y2,y3,y4,y5,y6,y7,y8,y9,y10,y11)
 |_=>none)
 |_=>none)
 |_=>none)
 |_=>none)
 |_=>none)
 |_=>none)
 |_=>none)
 |_=>none)
 |_=>none)
 |_=>none)
 |_=>none)
 |_=>none)
 |_=>none)
 |_=>none)
 |_=>none)
 |_=>none)
def iy:Lp tn where
 h:=⟨[21,22,23,24,25,28,29,30,31,32,33,34,35,36,37,38,12,39,40,41,42,43,44,45,46,47,13,48,49,50,51,52,53,54,55,56,57,58,59,60,61,62,63,64,65,66,14,67,68,69,70,71,72,73,74,75,78,79,80,81,82,83,84,85,86,87,88,89,90,10,76,77,26,27,11],[0,1,2,3,4,5,6,7,8,9],[],[]⟩
 JL:=abR
 JE:=abH
 XL:=acb
 XE:=ab1
 q:=fun j=>match j with | _=> .exit 0
 tags:= [0]
 lt:=BZ
 fuel:=fun(y0,y1,y2,y3,y4,y5,y6,y7,y8,y9,y10,y11)=>y0.natAbs + y1.natAbs + y2.size + y3.size + y4.length + y5.length + y6.length + y7.length + y8.length + y9.length + y10.length + y11.length
 fix:=fun(_,_,y2,y3,y4,_,y6,y7,y8,y9,_,_) (y0,y1,_,_,_,y5,_,_,_,_,y10,y11)=>(y0,y1,y2,y3,y4,y5,y6,y7,y8,y9,y10,y11)
 σ:= [(0,512),(1,896),(2,6),(3,1216),(4,0),(5,1),(6,2),(7,3),(8,832),(9,833)]
 rd:=Mz
theorem Zp:LoopOk prog (fun k=>Nat.blt k Tryz.f113.ntmps) iy.F (aS f113 0):=by
 refine Lp.ok (tbl:= [bV,PF.lend bV,PF.fz bV,xZ,PF.lend xZ,PF.fz xZ,vW,PF.lend vW,PF.fz vW,dD,PF.lend dD,PF.fz dD,mA,PF.lend mA,PF.fz mA]) (lf:= [ft.F]) aQ iy (by kernel_rfl) (LOk.allT (l:= [Zg (aS f113 0) 0]) (by kernel_rfl) (.cons UV (.nil _))) (fun _=>rfl) (fun _ _=>rfl) ?_ ?_ ?_ ?_ (fun _=>rfl) ?_
 ·rintro⟨y0,y1,y2,y3,y4,y5,y6,y7,y8,y9,y10,y11⟩;kernel_rfl
 ·rintro⟨y0,y1,y2,y3,y4,y5,y6,y7,y8,y9,y10,y11⟩;kernel_rfl
 ·intro s x h
  have h:Mz s=some x:=h
  unfold Mz at h
  repeat' split at h
  all_goals cases h
  exact⟨aa (by assumption) rfl (aa (by assumption) rfl (aa (by assumption) rfl (aa (by assumption) rfl (aa (by assumption) rfl (aa (by assumption) rfl (rfl)))))),ab rfl (by assumption) rfl (ab rfl (by assumption) rfl (ab rfl (by assumption) rfl (ab rfl (by assumption) rfl (ab rfl (by assumption) rfl (ab rfl (by assumption) rfl (ab rfl (by assumption) rfl (ab rfl (by assumption) rfl (ab rfl (by assumption) rfl (ab rfl (by assumption) rfl (rfl))))))))))⟩
 ·rintro⟨y0,y1,y2,y3,y4,y5,y6,y7,y8,y9,y10,y11⟩;kernel_rfl
 ·rintro⟨y0,y1,y2,y3,y4,y5,y6,y7,y8,y9,y10,y11⟩ z;exact(And.intro rfl trivial)
def Df(x1:ByteArray):Bool:=
 !ByteArray.toList x1==ByteArray.toList { data:= #[] }
section
variable (x0 x1:ByteArray)(x2 x3 x4:List ByteArray)(x5:List (ByteArray×List (Int×ByteArray×Int)))(x6:List Int)(x7:List (Int×Int×Int))(x8:List Int)
def LW:List Int:=List.replicate (Int.toNat (↑x4.length:Int)) (0:Int)
def Hq:Int×Int×ByteArray×ByteArray×List Int×List Int×List ByteArray×List ByteArray×List ByteArray×List (ByteArray×List (Int×ByteArray×Int))×List Int×List (Int×Int×Int):=((0:Int),(0:Int),x0,x1,x8,LW x4,x2,x3,x4,x5,x6,x7)
def LX:List Int×List ByteArray×List ByteArray×List ByteArray×List (ByteArray×List (Int×ByteArray×Int))×List Int×List (Int×Int×Int):=(Lp.res iy (Hq x0 x1 x2 x3 x4 x5 x6 x7 x8)).2.2.2.2.2.2
def LY:List Int×List (Int×Int×Int):=(LX x0 x1 x2 x3 x4 x5 x6 x7 x8).2.2.2.2.2
def Dg:List Int:=(LY x0 x1 x2 x3 x4 x5 x6 x7 x8).1
def tT:Bool:=bif Df x1 then rU x1 x2 x3 (Dg x0 x1 x2 x3 x4 x5 x6 x7 x8) x8==(0:Int)else false
def LZ:List Int:=bif Df x1&&true then Dg x0 x1 x2 x3 x4 x5 x6 x7 x8 else Dg x0 x1 x2 x3 x4 x5 x6 x7 x8
def Ma:List (Int×Int×Int):=(LY x0 x1 x2 x3 x4 x5 x6 x7 x8).2
def Mb:List (Int×Int×Int):=bif Df x1&&true then Ma x0 x1 x2 x3 x4 x5 x6 x7 x8 else Ma x0 x1 x2 x3 x4 x5 x6 x7 x8
def Px:Bool:=leI (↑x4.length:Int) (↑x4.length:Int)
def Py:Bool:=leI ((↑(8:Nat):Int) * (↑x4.length:Int)) (281474976710656:Int)
def Oo:List Int:=bif tT x0 x1 x2 x3 x4 x5 x6 x7 x8 then LW x4 else (LX x0 x1 x2 x3 x4 x5 x6 x7 x8).1
def Oq:List Int:=bif tT x0 x1 x2 x3 x4 x5 x6 x7 x8 then LZ x0 x1 x2 x3 x4 x5 x6 x7 x8 else LZ x0 x1 x2 x3 x4 x5 x6 x7 x8
def Or:List (Int×(Int×Int)):=bif tT x0 x1 x2 x3 x4 x5 x6 x7 x8 then Mb x0 x1 x2 x3 x4 x5 x6 x7 x8 else Mb x0 x1 x2 x3 x4 x5 x6 x7 x8
def Ot:Bool:=allT [PH x6 x7,leI (0:Int) (↑x4.length:Int),Px x4,Py x4,leI (↑x4.length:Int) (9223372036854775807:Int),Lp.fin iy (Hq x0 x1 x2 x3 x4 x5 x6 x7 x8),!(Df x1&&true)||rV x1 x2 x3 (Dg x0 x1 x2 x3 x4 x5 x6 x7 x8) x8,!tT x0 x1 x2 x3 x4 x5 x6 x7 x8||leI (0:Int) (↑x4.length:Int),!tT x0 x1 x2 x3 x4 x5 x6 x7 x8||Px x4,!tT x0 x1 x2 x3 x4 x5 x6 x7 x8||Py x4,!tT x0 x1 x2 x3 x4 x5 x6 x7 x8||leI (↑x4.length:Int) (9223372036854775807:Int)]
end
def XW:List SV→List Entry→Option Out
 | [.one ⟨true,[.val (.string x0),.ref 0,.ref 1,.ref 2,.val (.string x1),.ref 3]⟩,.one ⟨true,[.ref 4,.ref 5]⟩,.one ⟨false,[.ref 6]⟩],[.row false 9 (.str) x2,.row false 9 (.str) x3,.row false 9 (.str) x4,.row false 204 (.pair (.str) (.sl 178 (.pair (.int .i64) (.pair (.str) (.int .i64))))) x5,.row false 2 (.int .i64) x6,.row false 172 (.pair (.int .i64) (.pair (.int .i64) (.int .i64))) x7,.row false 2 (.int .i64) x8]=>some ⟨.tup [⟨false,[.ref 7]⟩,⟨true,[.ref 8,.ref 9]⟩],[.row false 9 agS x2,.row false 9 agS x3,.row false 9 agS x4,.row false 204 (CTy.pair CTy.str (CTy.sl (178:TypeId) aeH)) x5,.row false 2 afY x6,.row false 172 aaK x7,.row false 2 afY x8],[.row true 2 afY (Oo x0 x1 x2 x3 x4 x5 x6 x7 x8),.row true 2 afY (Oq x0 x1 x2 x3 x4 x5 x6 x7 x8),.row true 172 aaK (Or x0 x1 x2 x3 x4 x5 x6 x7 x8)],[Ot x0 x1 x2 x3 x4 x5 x6 x7 x8]⟩
 |_,_=>none
def Sp:PF prog:=PF.ofG prog [bV,PF.lend bV,PF.fz bV,xZ,PF.lend xZ,PF.fz xZ,vW,PF.lend vW,PF.fz vW,dD,PF.lend dD,PF.fz dD,mA,PF.lend mA,PF.fz mA] [iy.F] aQ 113 f113 func113 (LOk.fnT (l:= [aS f113 0]) (by kernel_rfl) (.cons Zp (.nil _))) XW (by
 intro vs es r h;unfold XW at h;split at h
 ·cases h;kernel_rfl
 ·cases h)
abbrev lM:=Int×List (Int×(ByteArray×Int))×List Int×List (Int×(Int×Int))
section
variable (y0:Int)(y1:List (Int×(ByteArray×Int)))(y3:List (Int×(Int×Int)))
def vn:Int×ByteArray×Int:=Option.getD y1[Int.toNat y0]? ((0:Int),ByteArray.empty,(0:Int))
def rK:Int×Int×Int:=Option.getD y3[Int.toNat y0]? ((0:Int),(0:Int),(0:Int))
def wx:Bool:=ltI y0 (↑y1.length:Int)
def wy:Bool:=leI (0:Int) y0
def AR:Bool:=ltN y0.toNat y1.length
def AU:Bool:=ltI y0 (↑y3.length:Int)
def AV:Bool:=ltN y0.toNat y3.length
def AW:Bool:= !cU ((vn y0 y1).1) ((vn y0 y1).2.2) ((rK y0 y3).1) (((rK y0 y3).2).1) ((rK y0 y3).2.2)
def AX:Int:=IntKind.wrap .i64 (y0 + (1:Int))
end
def Yn:lM→List (Nat×SV)
 |(y0,_,_,_)=> [(6,(.one ⟨false,[.val (.int .i64 y0)]⟩)),(5,(.one ⟨false,[.ref 0]⟩)),(3,(.one ⟨false,[.ptr 1 0]⟩))]
def Yf:lM→List (Nat×Entry)
 |(_,y1,y2,y3)=> [(0,(.row true 178 aeH y1)),(1,(.box 48 [.ref 2,.ref 3])),(2,(.row false 2 afY y2)),(3,(.row false 172 aaK y3))]
def YN:Nat→lM→List (Nat×SV)
 |0,(_,_,_,_)=> [(4,(.one ⟨false,[.val (.bool false)]⟩))]
 |_,(_,_,_,_)=> []
def YF:Nat→lM→List (Nat×Entry)
 |0,(_,y1,y2,y3)=> [(0,(.row true 178 aeH y1)),(1,(.box 48 [.ref 2,.ref 3])),(2,(.row false 2 afY y2)),(3,(.row false 172 aaK y3))]
 |_,(_,y1,y2,y3)=> [(0,(.row true 178 aeH y1)),(1,(.box 48 [.ref 2,.ref 3])),(2,(.row false 2 afY y2)),(3,(.row false 172 aaK y3))]
def yJ:lM→LT lM
 |(y0,y1,y2,y3)=> .ite (wx y0 y1) (.need [wy y0,wx y0 y1,AR y0 y1,wy y0,AU y0 y3,AV y0 y3] (.ite (AW y0 y1 y3) (.ext 0 [(0,0),(1,1),(2,2),(3,3)]) (.nrm ((AX y0),y1,y2,y3) [(0,0),(1,1),(2,2),(3,3)]))) (.ext 1 [(0,0),(1,1),(2,2),(3,3)])
def JM(s:St):Option lM:=
 (match s.look 6 with
 |some ⟨none,.one ⟨false,[.val (.int .i64 y0)]⟩⟩=>
 (match s.look 5 with
 |some ⟨none,.one ⟨false,[.ref 704]⟩⟩=>
 (match s.look 3 with
 |some ⟨none,.one ⟨false,[.ptr 512 0]⟩⟩=>
 (match s.ent 704 with
 |some (.row true 178 (.pair (.int .i64) (.pair .str (.int .i64))) y1)=>
 (match s.ent 512 with
 |some (.box 48 [.ref 4,.ref 5])=>
 (match s.ent 4 with
 |some (.row false 2 (.int .i64) y2)=>
 (match s.ent 5 with
 |some (.row false 172 (.pair (.int .i64) (.pair (.int .i64) (.int .i64))) y3)=>
 some (y0,y1,y2,y3)
 |_=>none)
 |_=>none)
 |_=>none)
 |_=>none)
 |_=>none)
 |_=>none)
 |_=>none)
def dB:Lp lM where
 h:=⟨[24,25,26,27,30,31,32,33,34,35,36,37,38,39,40,4,28,29,6],[0,1,2,3],[],[]⟩
 JL:=Yn
 JE:=Yf
 XL:=YN
 XE:=YF
 q:=fun j=>match j with | 0=> .ret | _=> .exit 0
 tags:= [0,1]
 lt:=yJ
 fuel:=fun(y0,y1,y2,y3)=>y0.natAbs + y1.length + y2.length + y3.length
 fix:=fun(_,y1,y2,y3) (y0,_,_,_)=>(y0,y1,y2,y3)
 σ:= [(0,704),(1,512),(2,4),(3,5)]
 rd:=JM
theorem VQ:LoopOk prog (fun k=>Nat.blt k Tryz.f119.ntmps) dB.F (aS f119 0):=by
 refine Lp.ok (tbl:= [Sn,Bi,PF.lend Bi,PF.fz Bi,vU,PF.lend vU,PF.fz vU]) (lf:= []) aQ dB (by kernel_rfl) (LOk.nil _) (fun _=>rfl) (fun j _=>by unfold dB;match j with | 0=>rfl | _ + 1=>rfl) ?_ ?_ ?_ ?_ (fun _=>rfl) ?_
 ·rintro⟨y0,y1,y2,y3⟩;kernel_rfl
 ·rintro⟨y0,y1,y2,y3⟩;kernel_rfl
 ·intro s x h
  have h:JM s=some x:=h
  unfold JM at h
  repeat' split at h
  all_goals cases h
  exact⟨aa (by assumption) rfl (aa (by assumption) rfl (aa (by assumption) rfl (rfl))),ab rfl (by assumption) rfl (ab rfl (by assumption) rfl (ab rfl (by assumption) rfl (ab rfl (by assumption) rfl (rfl))))⟩
 ·rintro⟨y0,y1,y2,y3⟩;kernel_rfl
 ·rintro⟨y0,y1,y2,y3⟩ z;exact(And.intro (And.intro trivial rfl) trivial)
section
variable (x3:List ByteArray)(x5:List (ByteArray×List (Int×ByteArray×Int)))(x6:List Int)(x7:List (Int×Int×Int))
def zS:Bool:=(↑x7.length:Int)!=(↑(List.length (blL x5)):Int)
def ID:Bool:=bif zS x5 x7 then true else !bitsB (↑x3.length:Int) x6
def IE:Int×List (Int×ByteArray×Int)×List Int×List (Int×Int×Int):=((0:Int),blL x5,x6,x7)
def Bl:Bool:=bif ID x3 x5 x6 x7 then false else bif Nat.beq ((Lp.res dB (IE x5 x6 x7)).1) (0:Nat)then false else true
def FS:Bool:=allT [WK x5,!(!zS x5 x7&&true)||leN x6.length (9223372036854775807:Nat),ID x3 x5 x6 x7||Lp.fin dB (IE x5 x6 x7)]
end
def UA:List SV→List Entry→Option Out
 | [.one ⟨true,[.val (.string _x0),.ref 0,.ref 1,.ref 2,.val (.string _x1),.ref 3]⟩,.one ⟨true,[.ref 4,.ref 5]⟩],[.row false 9 (.str) x2,.row false 9 (.str) x3,.row false 9 (.str) x4,.row false 204 (.pair (.str) (.sl 178 (.pair (.int .i64) (.pair (.str) (.int .i64))))) x5,.row false 2 (.int .i64) x6,.row false 172 (.pair (.int .i64) (.pair (.int .i64) (.int .i64))) x7]=>some ⟨.one ⟨false,[.val (.bool (Bl x3 x5 x6 x7))]⟩,[.row false 9 agS x2,.row false 9 agS x3,.row false 9 agS x4,.row false 204 (CTy.pair CTy.str (CTy.sl (178:TypeId) aeH)) x5,.row false 2 afY x6,.row false 172 aaK x7],[],[FS x3 x5 x6 x7]⟩
 |_,_=>none
def Pt:PF prog:=PF.ofG prog [Sn,Bi,PF.lend Bi,PF.fz Bi,vU,PF.lend vU,PF.fz vU] [dB.F] aQ 119 f119 func119 (LOk.fnT (l:= [aS f119 0]) (by kernel_rfl) (.cons VQ (.nil _))) UA (by
 intro vs es r h;unfold UA at h;split at h
 ·cases h;kernel_rfl
 ·cases h)
def JP(x0 x1:ByteArray)(x2 x3 x4:List ByteArray)(x5:List (ByteArray×List (Int×ByteArray×Int)))(x6:List Int)(x7:List (Int×Int×Int))(x8:List Int):Int:=bif !Cp x0 x2 x3 x4 x1 x5 then(1:Int)else bif bif !Bl x3 x5 x6 x7 then true else !bitsB (↑x2.length:Int) x8 then(2:Int)else(0:Int)
def On(x0 x1:ByteArray)(x2 x3 x4:List ByteArray)(x5:List (ByteArray×List (Int×ByteArray×Int)))(x6:List Int)(x7:List (Int×Int×Int))(x8:List Int):Bool:=allT [prOk x0 x2 x3 x4 x1 x5,!Cp x0 x2 x3 x4 x1 x5||FS x3 x5 x6 x7,!Cp x0 x2 x3 x4 x1 x5||(!(!!Bl x3 x5 x6 x7&&true)||leN x8.length (9223372036854775807:Nat))]
def XU:List SV→List Entry→Option Out
 | [.one ⟨true,[.val (.string x0),.ref 0,.ref 1,.ref 2,.val (.string x1),.ref 3]⟩,.one ⟨true,[.ref 4,.ref 5]⟩,.one ⟨false,[.ref 6]⟩],[.row false 9 (.str) x2,.row false 9 (.str) x3,.row false 9 (.str) x4,.row false 204 (.pair (.str) (.sl 178 (.pair (.int .i64) (.pair (.str) (.int .i64))))) x5,.row false 2 (.int .i64) x6,.row false 172 (.pair (.int .i64) (.pair (.int .i64) (.int .i64))) x7,.row false 2 (.int .i64) x8]=>some ⟨.one ⟨false,[.val (.int .i64 (JP x0 x1 x2 x3 x4 x5 x6 x7 x8))]⟩,[.row false 9 agS x2,.row false 9 agS x3,.row false 9 agS x4,.row false 204 (CTy.pair CTy.str (CTy.sl (178:TypeId) aeH)) x5,.row false 2 afY x6,.row false 172 aaK x7,.row false 2 afY x8],[],[On x0 x1 x2 x3 x4 x5 x6 x7 x8]⟩
 |_,_=>none
def So:PF prog:=PF.ofG prog [Sg,PF.lend Sg,PF.fz Sg,Pt,PF.lend Pt,PF.fz Pt,vU,PF.lend vU,PF.fz vU] [] aQ 112 f112 func112 (fun c _=>LOk.nil c) XU (by
 intro vs es r h;unfold XU at h;split at h
 ·cases h;kernel_rfl
 ·cases h)
section
variable (x0 x1:ByteArray)(x2 x3 x4:List ByteArray)(x5:List (ByteArray×List (Int×ByteArray×Int)))(x6:List Int)(x7:List (Int×Int×Int))(x8:List Int)
def De:Bool:=JP x0 x1 x2 x3 x4 x5 x6 x7 x8 !=(0:Int)
def Sw:Int:=bif De x0 x1 x2 x3 x4 x5 x6 x7 x8 then JP x0 x1 x2 x3 x4 x5 x6 x7 x8 else(0:Int)
def Sx:List Int:=bif De x0 x1 x2 x3 x4 x5 x6 x7 x8 then []else Oo x0 x1 x2 x3 x4 x5 x6 x7 x8
def Sy:List Int:=bif De x0 x1 x2 x3 x4 x5 x6 x7 x8 then []else Oq x0 x1 x2 x3 x4 x5 x6 x7 x8
def Sz:List (Int×(Int×Int)):=bif De x0 x1 x2 x3 x4 x5 x6 x7 x8 then []else Or x0 x1 x2 x3 x4 x5 x6 x7 x8
def SA:Bool:=allT [On x0 x1 x2 x3 x4 x5 x6 x7 x8,De x0 x1 x2 x3 x4 x5 x6 x7 x8||Ot x0 x1 x2 x3 x4 x5 x6 x7 x8]
end
def XN:List SV→List Entry→Option Out
 | [.one ⟨true,[.val (.string x0),.ref 0,.ref 1,.ref 2,.val (.string x1),.ref 3]⟩,.one ⟨true,[.ref 4,.ref 5]⟩,.one ⟨false,[.ref 6]⟩],[.row false 9 (.str) x2,.row false 9 (.str) x3,.row false 9 (.str) x4,.row false 204 (.pair (.str) (.sl 178 (.pair (.int .i64) (.pair (.str) (.int .i64))))) x5,.row false 2 (.int .i64) x6,.row false 172 (.pair (.int .i64) (.pair (.int .i64) (.int .i64))) x7,.row false 2 (.int .i64) x8]=>some ⟨.tup [⟨false,[.ref 7]⟩,⟨true,[.ref 8,.ref 9]⟩,⟨false,[.val (.int .i64 (Sw x0 x1 x2 x3 x4 x5 x6 x7 x8))]⟩],[.row false 9 agS x2,.row false 9 agS x3,.row false 9 agS x4,.row false 204 (CTy.pair CTy.str (CTy.sl (178:TypeId) aeH)) x5,.row false 2 afY x6,.row false 172 aaK x7,.row false 2 afY x8],[.row true 2 afY (Sx x0 x1 x2 x3 x4 x5 x6 x7 x8),.row true 2 afY (Sy x0 x1 x2 x3 x4 x5 x6 x7 x8),.row true 172 aaK (Sz x0 x1 x2 x3 x4 x5 x6 x7 x8)],[SA x0 x1 x2 x3 x4 x5 x6 x7 x8]⟩
 |_,_=>none
def ahk:PF prog:=PF.ofG prog [So,PF.lend So,PF.fz So,Sp,PF.lend Sp,PF.fz Sp] [] aQ 40 f40 func40 (fun c _=>LOk.nil c) XN (by
 intro vs es r h;unfold XN at h;split at h
 ·cases h;kernel_rfl
 ·cases h)
def lg(x0:List Int)(x1:List (Int×Int×Int)):Bool:=allT [leN x0.length (1048576:Nat),leN x1.length (1048576:Nat)]
def wN:List SV→List Entry→Option Out
 | [.one ⟨true,[.ref 0,.ref 1]⟩],[.row false 2 (.int .i64) x0,.row false 172 (.pair (.int .i64) (.pair (.int .i64) (.int .i64))) x1]=>some ⟨.one ⟨true,[.ref 2,.ref 3]⟩,[.row false 2 afY x0,.row false 172 aaK x1],[.row true 2 afY x0,.row true 172 aaK x1],[lg x0 x1]⟩
 |_,_=>none
def xa:PF prog:=PF.ofG prog [Cc,PF.lend Cc,PF.fz Cc,xH,PF.lend xH,PF.fz xH] [] aQ 176 f176 func176 (fun c _=>LOk.nil c) wN (by
 intro vs es r h;unfold wN at h;split at h
 ·cases h;kernel_rfl
 ·cases h)
def zt(x0:List Int)(x3:List ByteArray):Bool:= !bitsB (↑x3.length:Int) x0
def FD(x0:List Int):Bool:=allT [leN x0.length (9223372036854775807:Nat)]
def MV:List SV→List Entry→Option Out
 | [.one ⟨false,[.ref 0]⟩,.one ⟨false,[.ptr 1 0]⟩],[.row false 2 (.int .i64) x0,.box 63 [.val (.string x1),.ref 2,.ref 3,.ref 4,.val (.string x2),.ref 5],.row false 9 (.str) x3,.row false 9 (.str) x4,.row false 9 (.str) x5,.row false 204 (.pair .str (.sl (178:Nat) (.pair (.int .i64) (.pair .str (.int .i64))))) x6]=>some ⟨.one ⟨false,[.val (.bool (zt x0 x3))]⟩,[.row false 2 afY x0,.box 63 [.val (.string x1),.ref 2,.ref 3,.ref 4,.val (.string x2),.ref 5],.row false 9 agS x3,.row false 9 agS x4,.row false 9 agS x5,.row false 204 (CTy.pair CTy.str (CTy.sl (178:Nat) aeH)) x6],[],[FD x0]⟩
 |_,_=>none
def qW:PF prog:=PF.ofG prog [vT,PF.lend vT,PF.fz vT] [] aQ 175 f175 func175 (fun c _=>LOk.nil c) MV (by
 intro vs es r h;unfold MV at h;split at h
 ·cases h;kernel_rfl
 ·cases h)
abbrev bu:=Int×Int×ByteArray×ByteArray×List (List Int)×List ByteArray×List ByteArray×List ByteArray×List (ByteArray×(List (Int×(ByteArray×Int))))
section
variable (y0 y1:Int)(y4:List (List Int))(y5:List ByteArray)
def ct:List Int:=Option.getD y4[Int.toNat y0]? (xt (CTy.sl (2:Nat) afY))
def iA:Bool:=ltI y0 y1
def ma:Bool:=leI (0:Int) y0
def mb:Bool:=ltI y0 (↑y4.length:Int)
def mc:Bool:=ltN y0.toNat y4.length
def iB:Bool:=FD (ct y0 y4)
def iC:Bool:=zt (ct y0 y4) y5
def qQ:Int:=IntKind.wrap .i64 (y0 + (1:Int))
end
def HD:bu→List (Nat×SV)
 |(y0,y1,_,_,_,_,_,_,_)=> [(8,(.one ⟨false,[.val (.int .i64 y0)]⟩)),(7,(.one ⟨false,[.val (.int .i64 y1)]⟩)),(1,(.one ⟨false,[.clo 175 [0]]⟩)),(0,(.one ⟨false,[.ref 1]⟩))]
def HC:bu→List (Nat×Entry)
 |(_,_,y2,y3,y4,y5,y6,y7,y8)=> [(0,(.box 63 [.val (.string y2),.ref 2,.ref 3,.ref 4,.val (.string y3),.ref 5])),(1,(.row false 41 (CTy.sl (2:Nat) afY) y4)),(2,(.row false 9 agS y5)),(3,(.row false 9 agS y6)),(4,(.row false 9 agS y7)),(5,(.row false 204 (CTy.pair CTy.str (CTy.sl (178:Nat) aeH)) y8))]
def HF:Nat→bu→List (Nat×SV)
 |0,(y0,_,_,_,_,_,_,_,_)=> [(4,(.one ⟨false,[.val (.int .i64 y0)]⟩))]
 |_,(_,_,_,_,_,_,_,_,_)=> []
def HE:Nat→bu→List (Nat×Entry)
 |0,(_,_,y2,y3,y4,y5,y6,y7,y8)=> [(0,(.box 63 [.val (.string y2),.ref 2,.ref 3,.ref 4,.val (.string y3),.ref 5])),(1,(.row false 41 (CTy.sl (2:Nat) afY) y4)),(2,(.row false 9 agS y5)),(3,(.row false 9 agS y6)),(4,(.row false 9 agS y7)),(5,(.row false 204 (CTy.pair CTy.str (CTy.sl (178:Nat) aeH)) y8))]
 |_,(_,_,y2,y3,y4,y5,y6,y7,y8)=> [(0,(.box 63 [.val (.string y2),.ref 2,.ref 3,.ref 4,.val (.string y3),.ref 5])),(1,(.row false 41 (CTy.sl (2:Nat) afY) y4)),(2,(.row false 9 agS y5)),(3,(.row false 9 agS y6)),(4,(.row false 9 agS y7)),(5,(.row false 204 (CTy.pair CTy.str (CTy.sl (178:Nat) aeH)) y8))]
def ie:bu→LT bu
 |(y0,y1,y2,y3,y4,y5,y6,y7,y8)=> .ite (iA y0 y1) (.need [ma y0,mb y0 y4,mc y0 y4,iB y0 y4] (.ite (iC y0 y4 y5) (.ext 0 [(0,0),(1,1),(2,2),(3,3),(4,4),(5,5)]) (.nrm ((qQ y0),y1,y2,y3,y4,y5,y6,y7,y8) [(0,0),(1,1),(2,2),(3,3),(4,4),(5,5)]))) (.ext 1 [(0,0),(1,1),(2,2),(3,3),(4,4),(5,5)])
def qw(s:St):Option bu:=
 (match s.look 8 with
 |some ⟨none,.one ⟨false,[.val (.int .i64 y0)]⟩⟩=>
 (match s.look 7 with
 |some ⟨none,.one ⟨false,[.val (.int .i64 y1)]⟩⟩=>
 (match s.look 1 with
 |some ⟨none,.one ⟨false,[.clo 175 [1]]⟩⟩=>
 (match s.look 0 with
 |some ⟨none,.one ⟨false,[.ref 0]⟩⟩=>
 (match s.ent 1 with
 |some (.box 63 [.val (.string y2),.ref 2,.ref 3,.ref 4,.val (.string y3),.ref 5])=>
 (match s.ent 0 with
 |some (.row false 41 (.sl 2 (.int .i64)) y4)=>
 (match s.ent 2 with
 |some (.row false 9 (.str) y5)=>
 (match s.ent 3 with
 |some (.row false 9 (.str) y6)=>
 (match s.ent 4 with
 |some (.row false 9 (.str) y7)=>
 (match s.ent 5 with
 |some (.row false 204 (.pair .str (.sl (178:Nat) (.pair (.int .i64) (.pair .str (.int .i64))))) y8)=>
 some (y0,y1,y2,y3,y4,y5,y6,y7,y8)
 |_=>none)
 |_=>none)
 |_=>none)
 |_=>none)
 |_=>none)
 |_=>none)
 |_=>none)
 |_=>none)
 |_=>none)
 |_=>none)
def aw:Lp bu where
 h:=⟨[9,10,5,11,12,13,14,15,16,17,4,18,8],[0,1,2,3,4,5],[],[]⟩
 JL:=HD
 JE:=HC
 XL:=HF
 XE:=HE
 q:=fun j=>match j with | 0=> .ret | _=> .exit 0
 tags:= [0,1]
 lt:=ie
 fuel:=fun(y0,y1,y2,y3,y4,y5,y6,y7,y8)=>y0.natAbs + y1.natAbs + y2.size + y3.size + y4.length + y5.length + y6.length + y7.length + y8.length
 fix:=fun(_,y1,y2,y3,y4,y5,y6,y7,y8) (y0,_,_,_,_,_,_,_,_)=>(y0,y1,y2,y3,y4,y5,y6,y7,y8)
 σ:= [(0,1),(1,0),(2,2),(3,3),(4,4),(5,5)]
 rd:=qw
theorem GJ:LoopOk prog (fun k=>Nat.blt k Tryz.f217.ntmps) aw.F (aS f217 0):=by
 refine Lp.ok (tbl:= [qW,PF.lend qW,PF.fz qW]) (lf:= []) aQ aw (by kernel_rfl) (LOk.nil _) (fun _=>rfl) (fun j _=>by unfold aw;match j with | 0=>rfl | _ + 1=>rfl) ?_ ?_ ?_ ?_ (fun _=>rfl) ?_
 ·rintro⟨y0,y1,y2,y3,y4,y5,y6,y7,y8⟩;kernel_rfl
 ·rintro⟨y0,y1,y2,y3,y4,y5,y6,y7,y8⟩;kernel_rfl
 ·intro s x h
  have h:qw s=some x:=h
  unfold qw at h
  repeat' split at h
  all_goals cases h
  exact⟨aa (by assumption) rfl (aa (by assumption) rfl (aa (by assumption) rfl (aa (by assumption) rfl (rfl)))),ab rfl (by assumption) rfl (ab rfl (by assumption) rfl (ab rfl (by assumption) rfl (ab rfl (by assumption) rfl (ab rfl (by assumption) rfl (ab rfl (by assumption) rfl (rfl))))))⟩
 ·rintro⟨y0,y1,y2,y3,y4,y5,y6,y7,y8⟩;kernel_rfl
 ·rintro⟨y0,y1,y2,y3,y4,y5,y6,y7,y8⟩ z;exact(And.intro (And.intro trivial rfl) trivial)
section
variable (x0:List (List Int))(x1 x2:ByteArray)(x3 x4 x5:List ByteArray)(x6:List (ByteArray×List (Int×ByteArray×Int)))
def jI:Int×Int×ByteArray×ByteArray×List (List Int)×List ByteArray×List ByteArray×List ByteArray×List (ByteArray×List (Int×ByteArray×Int)):=((0:Int),(↑x0.length:Int),x1,x2,x0,x3,x4,x5,x6)
def nz:Bool:=Nat.beq ((Lp.res aw (jI x0 x1 x2 x3 x4 x5 x6)).1) (0:Nat)
def tb:Int:=bif nz x0 x1 x2 x3 x4 x5 x6 then ((Lp.res aw (jI x0 x1 x2 x3 x4 x5 x6)).2).1else(-1:Int)
def AH:ByteArray:=bif nz x0 x1 x2 x3 x4 x5 x6 then x1 else x1
def AJ:ByteArray:=bif nz x0 x1 x2 x3 x4 x5 x6 then x2 else x2
def tc:Bool:=allT [Lp.fin aw (jI x0 x1 x2 x3 x4 x5 x6)]
end
def zV:List SV→List Entry→Option Out
 | [.one ⟨false,[.ref 0]⟩,.one ⟨false,[.clo 175 [1]]⟩],[.row false 41 (.sl 2 (.int .i64)) x0,.box 63 [.val (.string x1),.ref 2,.ref 3,.ref 4,.val (.string x2),.ref 5],.row false 9 (.str) x3,.row false 9 (.str) x4,.row false 9 (.str) x5,.row false 204 (.pair .str (.sl (178:Nat) (.pair (.int .i64) (.pair .str (.int .i64))))) x6]=>some ⟨.one ⟨false,[.val (.int .i64 (tb x0 x1 x2 x3 x4 x5 x6))]⟩,[.row false 41 (CTy.sl (2:Nat) afY) x0,.box 63 [.val (.string (AH x0 x1 x2 x3 x4 x5 x6)),.ref 2,.ref 3,.ref 4,.val (.string (AJ x0 x1 x2 x3 x4 x5 x6)),.ref 5],.row false 9 agS x3,.row false 9 agS x4,.row false 9 agS x5,.row false 204 (CTy.pair CTy.str (CTy.sl (178:Nat) aeH)) x6],[],[tc x0 x1 x2 x3 x4 x5 x6]⟩
 |_,_=>none
def ta:PF prog:=PF.ofG prog [qW,PF.lend qW,PF.fz qW] [aw.F] aQ 217 f217 func217 (LOk.fnT (l:= [aS f217 0]) (by kernel_rfl) (.cons GJ (.nil _))) zV (by
 intro vs es r h;unfold zV at h;split at h
 ·cases h;kernel_rfl
 ·cases h)
section
variable (x0:List (List Int))(x1 x2:ByteArray)(x3 x4 x5:List ByteArray)(x6:List (ByteArray×List (Int×ByteArray×Int)))
def lY:Bool:=leI (0:Int) (tb x0 x1 x2 x3 x4 x5 x6)
def IH:ByteArray:=AH x0 x1 x2 x3 x4 x5 x6
def II:ByteArray:=AJ x0 x1 x2 x3 x4 x5 x6
def lZ:Bool:=allT [tc x0 x1 x2 x3 x4 x5 x6]
end
def xU:List SV→List Entry→Option Out
 | [.one ⟨false,[.ref 0]⟩,.one ⟨false,[.clo 175 [1]]⟩],[.row false 41 (.sl 2 (.int .i64)) x0,.box 63 [.val (.string x1),.ref 2,.ref 3,.ref 4,.val (.string x2),.ref 5],.row false 9 (.str) x3,.row false 9 (.str) x4,.row false 9 (.str) x5,.row false 204 (.pair .str (.sl (178:Nat) (.pair (.int .i64) (.pair .str (.int .i64))))) x6]=>some ⟨.one ⟨false,[.val (.bool (lY x0 x1 x2 x3 x4 x5 x6))]⟩,[.row false 41 (CTy.sl (2:Nat) afY) x0,.box 63 [.val (.string (IH x0 x1 x2 x3 x4 x5 x6)),.ref 2,.ref 3,.ref 4,.val (.string (II x0 x1 x2 x3 x4 x5 x6)),.ref 5],.row false 9 agS x3,.row false 9 agS x4,.row false 9 agS x5,.row false 204 (CTy.pair CTy.str (CTy.sl (178:Nat) aeH)) x6],[],[lZ x0 x1 x2 x3 x4 x5 x6]⟩
 |_,_=>none
def qP:PF prog:=PF.ofG prog [ta,PF.lend ta,PF.fz ta] [] aQ 163 f163 func163 (fun c _=>LOk.nil c) xU (by
 intro vs es r h;unfold xU at h;split at h
 ·cases h;kernel_rfl
 ·cases h)
def Lv(x0 x1:ByteArray)(x2 x3 x4:List ByteArray)(x5:List (ByteArray×List (Int×ByteArray×Int)))(x6:List Int)(x7:List (Int×Int×Int))(x8:List (List Int)):Int:=bif !Cp x0 x2 x3 x4 x1 x5 then(1:Int)else bif bif !JR (↑x3.length:Int) (blL x5) x6 x7 then true else lY x8 x0 x1 x2 x3 x4 x5 then(2:Int)else(0:Int)
def Lw(x0 x1:ByteArray)(x2 x3 x4:List ByteArray)(x5:List (ByteArray×List (Int×ByteArray×Int)))(x6:List Int)(x7:List (Int×Int×Int))(x8:List (List Int)):Bool:=allT [prOk x0 x2 x3 x4 x1 x5,!Cp x0 x2 x3 x4 x1 x5||WK x5,!Cp x0 x2 x3 x4 x1 x5||leN x6.length (9223372036854775807:Nat)&&(leN (List.length (blL x5)) (9223372036854775807:Nat)&&adv (blL x5)),!Cp x0 x2 x3 x4 x1 x5||(!(!!JR (↑x3.length:Int) (blL x5) x6 x7&&true)||lZ x8 x0 x1 x2 x3 x4 x5)]
def Wi:List SV→List Entry→Option Out
 | [.one ⟨true,[.val (.string x0),.ref 0,.ref 1,.ref 2,.val (.string x1),.ref 3]⟩,.one ⟨true,[.ref 4,.ref 5]⟩,.one ⟨false,[.ref 6]⟩],[.row false 9 (.str) x2,.row false 9 (.str) x3,.row false 9 (.str) x4,.row false 204 (.pair (.str) (.sl 178 (.pair (.int .i64) (.pair (.str) (.int .i64))))) x5,.row false 2 (.int .i64) x6,.row false 172 (.pair (.int .i64) (.pair (.int .i64) (.int .i64))) x7,.row false 41 (.sl 2 (.int .i64)) x8]=>some ⟨.one ⟨false,[.val (.int .i64 (Lv x0 x1 x2 x3 x4 x5 x6 x7 x8))]⟩,[.row false 9 agS x2,.row false 9 agS x3,.row false 9 agS x4,.row false 204 (CTy.pair CTy.str (CTy.sl (178:TypeId) aeH)) x5,.row false 2 afY x6,.row false 172 aaK x7,.row false 41 (CTy.sl (2:TypeId) afY) x8],[],[Lw x0 x1 x2 x3 x4 x5 x6 x7 x8]⟩
 |_,_=>none
def Qr:PF prog:=PF.ofG prog [Sb,PF.lend Sb,PF.fz Sb,qO,PF.lend qO,PF.fz qO,pS,PF.lend pS,PF.fz pS,qP,PF.lend qP,PF.fz qP] [] aQ 110 f110 func110 (fun c _=>LOk.nil c) Wi (by
 intro vs es r h;unfold Wi at h;split at h
 ·cases h;kernel_rfl
 ·cases h)
section
variable (x0 x1 x2:ByteArray)(x3:Int)(x4 x5:List ByteArray)(x8:List Int)(x9:List (Int×Int×Int))(x10 x11:List Int)
def jw:Int:=bif leI (0:Int) (iI x4 x0)then Option.getD x10[Int.toNat (iI x4 x0)]? (0:Int)else Option.getD x8[Int.toNat (iI x5 x0)]? (0:Int)
def FG:ByteArray:=bif leI (0:Int) (iI x4 x0)then x1 else x1
def FH:ByteArray:=bif leI (0:Int) (iI x4 x0)then x2 else x2
def FI:Int:=bif leI (0:Int) (iI x4 x0)then x3 else x3
def oE:List Int:=bif leI (0:Int) (iI x4 x0)then x8 else x8
def oF:List (Int×(Int×Int)):=bif leI (0:Int) (iI x4 x0)then x9 else x9
def oG:List Int:=bif leI (0:Int) (iI x4 x0)then x11 else x11
def jx:Bool:=allT [leN x4.length (9223372036854775807:Nat),!leI (0:Int) (iI x4 x0)||leI (0:Int) (iI x4 x0),!leI (0:Int) (iI x4 x0)||ltI (iI x4 x0) (↑x10.length:Int),!leI (0:Int) (iI x4 x0)||ltN (Int.toNat (iI x4 x0)) x10.length,leI (0:Int) (iI x4 x0)||leN x5.length (9223372036854775807:Nat),leI (0:Int) (iI x4 x0)||leI (0:Int) (iI x5 x0),leI (0:Int) (iI x4 x0)||ltI (iI x5 x0) (↑x8.length:Int),leI (0:Int) (iI x4 x0)||ltN (Int.toNat (iI x5 x0)) x8.length]
end
def uw:List SV→List Entry→Option Out
 | [.one ⟨false,[.ptr 0 0]⟩,.one ⟨false,[.val (.string x0)]⟩],[.box 202 [.val (.string x1),.ref 1,.ref 2,.ref 3,.val (.string x2),.ref 4,.ref 5,.ref 6,.ref 7,.ref 8,.val (.int .i64 x3)],.row false 9 (.str) x4,.row false 9 (.str) x5,.row false 9 (.str) x6,.row false 204 (.pair (.str) (.sl 178 (.pair (.int .i64) (.pair (.str) (.int .i64))))) x7,.row true 2 (.int .i64) x8,.row true 172 (.pair (.int .i64) (.pair (.int .i64) (.int .i64))) x9,.row false 2 (.int .i64) x10,.row true 2 (.int .i64) x11]=>some ⟨.one ⟨false,[.val (.int .i64 (jw x0 x4 x5 x8 x10))]⟩,[.box 202 [.val (.string (FG x0 x1 x4)),.ref 1,.ref 2,.ref 3,.val (.string (FH x0 x2 x4)),.ref 4,.ref 5,.ref 6,.ref 7,.ref 8,.val (.int .i64 (FI x0 x3 x4))],.row false 9 agS x4,.row false 9 agS x5,.row false 9 agS x6,.row false 204 (CTy.pair CTy.str (CTy.sl (178:TypeId) aeH)) x7,.row true 2 afY (oE x0 x4 x8),.row true 172 aaK (oF x0 x4 x9),.row false 2 afY x10,.row true 2 afY (oG x0 x4 x11)],[],[jx x0 x4 x5 x8 x10]⟩
 |_,_=>none
def va:PF prog:=PF.ofG prog [tR] [] aQ 178 f178 func178 (fun c _=>LOk.nil c) uw (by
 intro vs es r h;unfold uw at h;split at h
 ·cases h;kernel_rfl
 ·cases h)
section
variable (x0 x1 x2:ByteArray)(x3:Int)(x4 x5:List ByteArray)(x8:List Int)(x9:List (Int×Int×Int))(x10:List Int)
def oy:Int:=bif leI (0:Int) (iI x4 x0)then Option.getD x10[Int.toNat (iI x4 x0)]? (0:Int)else Option.getD x8[Int.toNat (iI x5 x0)]? (0:Int)
def oz:ByteArray:=bif leI (0:Int) (iI x4 x0)then x1 else x1
def oA:ByteArray:=bif leI (0:Int) (iI x4 x0)then x2 else x2
def oB:Int:=bif leI (0:Int) (iI x4 x0)then x3 else x3
def oC:List (Int×(Int×Int)):=bif leI (0:Int) (iI x4 x0)then x9 else x9
def oD:Bool:=allT [leN x4.length (9223372036854775807:Nat),!leI (0:Int) (iI x4 x0)||leI (0:Int) (iI x4 x0),!leI (0:Int) (iI x4 x0)||ltI (iI x4 x0) (↑x10.length:Int),!leI (0:Int) (iI x4 x0)||ltN (Int.toNat (iI x4 x0)) x10.length,leI (0:Int) (iI x4 x0)||leN x5.length (9223372036854775807:Nat),leI (0:Int) (iI x4 x0)||leI (0:Int) (iI x5 x0),leI (0:Int) (iI x4 x0)||ltI (iI x5 x0) (↑x8.length:Int),leI (0:Int) (iI x4 x0)||ltN (Int.toNat (iI x5 x0)) x8.length]
end
def uv:List SV→List Entry→Option Out
 | [.one ⟨false,[.ptr 0 0]⟩,.one ⟨false,[.val (.string x0)]⟩],[.box 202 [.val (.string x1),.ref 1,.ref 2,.ref 3,.val (.string x2),.ref 4,.ref 5,.ref 6,.ref 7,.ref 8,.val (.int .i64 x3)],.row false 9 (.str) x4,.row false 9 (.str) x5,.row false 9 (.str) x6,.row false 204 (.pair (.str) (.sl 178 (.pair (.int .i64) (.pair (.str) (.int .i64))))) x7,.row false 2 (.int .i64) x8,.row true 172 (.pair (.int .i64) (.pair (.int .i64) (.int .i64))) x9,.row false 2 (.int .i64) x10,.row false 2 (.int .i64) x11]=>some ⟨.one ⟨false,[.val (.int .i64 (oy x0 x4 x5 x8 x10))]⟩,[.box 202 [.val (.string (oz x0 x1 x4)),.ref 1,.ref 2,.ref 3,.val (.string (oA x0 x2 x4)),.ref 4,.ref 5,.ref 6,.ref 7,.ref 8,.val (.int .i64 (oB x0 x3 x4))],.row false 9 agS x4,.row false 9 agS x5,.row false 9 agS x6,.row false 204 (CTy.pair CTy.str (CTy.sl (178:TypeId) aeH)) x7,.row false 2 afY x8,.row true 172 aaK (oC x0 x4 x9),.row false 2 afY x10,.row false 2 afY x11],[],[oD x0 x4 x5 x8 x10]⟩
 |_,_=>none
def FM:PF prog:=PF.ofG prog [tR] [] aQ 178 f178 func178 (fun c _=>LOk.nil c) uv (by
 intro vs es r h;unfold uv at h;split at h
 ·cases h;kernel_rfl
 ·cases h)
section
variable (x0 x2 x5:Int)(x6:List Int)(x12:List (Int×Int×Int))
def aA:Int×Int×Int:=Option.getD x12[Int.toNat x5]? ((0:Int),(0:Int),(0:Int))
def oX:Int:=Dp x0 x2 ((aA x5 x12).1) (((aA x5 x12).2).1) ((aA x5 x12).2.2) x6
def oY:Int:=IntKind.wrap .i64 (x5 + (1:Int))
def oZ:List (Int×(Int×Int)):=List.set x12 x5.toNat (Bc x0 x2 ((aA x5 x12).1) (((aA x5 x12).2).1) ((aA x5 x12).2.2) x6,Bd x0 (((aA x5 x12).2).1) ((aA x5 x12).2.2) x6,Be x0 x2 ((aA x5 x12).1) (((aA x5 x12).2).1) ((aA x5 x12).2.2) x6)
def pa:Bool:=allT [leI (0:Int) x5,ltI x5 (↑x12.length:Int),ltN x5.toNat x12.length,Dq x6,leI (0:Int) x5,ltI x5 (↑x12.length:Int),ltN x5.toNat x12.length]
end
def vv:List SV→List Entry→Option Out
 | [.one ⟨false,[.ptr 0 0]⟩,.one ⟨true,[.val (.int .i64 x0),.val (.string _x1),.val (.int .i64 x2)]⟩,.one ⟨false,[.ref 1]⟩],[.box 202 [.val (.string x3),.ref 2,.ref 3,.ref 4,.val (.string x4),.ref 5,.ref 6,.ref 7,.ref 8,.ref 9,.val (.int .i64 x5)],.row false 2 (.int .i64) x6,.row false 9 (.str) x7,.row false 9 (.str) x8,.row false 9 (.str) x9,.row false 204 (.pair (.str) (.sl 178 (.pair (.int .i64) (.pair (.str) (.int .i64))))) x10,.row false 2 (.int .i64) x11,.row true 172 (.pair (.int .i64) (.pair (.int .i64) (.int .i64))) x12,.row false 2 (.int .i64) x13,.row false 2 (.int .i64) x14]=>some ⟨.one ⟨false,[.val (.int .i64 (oX x0 x2 x5 x6 x12))]⟩,[.box 202 [.val (.string x3),.ref 2,.ref 3,.ref 4,.val (.string x4),.ref 5,.ref 6,.ref 7,.ref 8,.ref 9,.val (.int .i64 (oY x5))],.row false 2 afY x6,.row false 9 agS x7,.row false 9 agS x8,.row false 9 agS x9,.row false 204 (CTy.pair CTy.str (CTy.sl (178:TypeId) aeH)) x10,.row false 2 afY x11,.row true 172 aaK (oZ x0 x2 x5 x6 x12),.row false 2 afY x13,.row false 2 afY x14],[],[pa x5 x6 x12]⟩
 |_,_=>none
def Ge:PF prog:=PF.ofG prog [akz] [] aQ 256 f256 func256 (fun c _=>LOk.nil c) vv (by
 intro vs es r h;unfold vv at h;split at h
 ·cases h;kernel_rfl
 ·cases h)
section
variable (x0:Int)(x1:ByteArray)(x2:Int)(x3 x4:ByteArray)(x5:Int)(x6:List Int)(x7 x8:List ByteArray)(x11:List Int)(x12:List (Int×Int×Int))(x13:List Int)
def jv:Int:=Option.getD x6[Int.toNat (0:Int)]? (0:Int)
def bN:Int:=bif x0==(1:Int)then oy x1 x7 x8 x11 x13 else bif x0==(2:Int)then(1:Int)else bif x0==(3:Int)then(0:Int)else bif x0==(4:Int)then IntKind.wrap .i64 ((1:Int) - jv x6)else bif x0==(5:Int)then IntKind.wrap .i64 (↑(BitVec.toNat (BitVec.ofInt (IntKind.bits IntKind.i64) (jv x6)&&& BitVec.ofInt (IntKind.bits IntKind.i64) (Option.getD x6[Int.toNat (1:Int)]? (0:Int)))):Int)else bif x0==(6:Int)then IntKind.wrap .i64 (↑(BitVec.toNat (BitVec.ofInt (IntKind.bits IntKind.i64) (jv x6)||| BitVec.ofInt (IntKind.bits IntKind.i64) (Option.getD x6[Int.toNat (1:Int)]? (0:Int)))):Int)else oX x0 x2 x5 x6 x12
def fI:ByteArray:=bif x0==(1:Int)then oz x1 x3 x7 else bif x0==(2:Int)then x3 else bif x0==(3:Int)then x3 else bif x0==(4:Int)then x3 else bif x0==(5:Int)then x3 else bif x0==(6:Int)then x3 else x3
def fJ:ByteArray:=bif x0==(1:Int)then oA x1 x4 x7 else bif x0==(2:Int)then x4 else bif x0==(3:Int)then x4 else bif x0==(4:Int)then x4 else bif x0==(5:Int)then x4 else bif x0==(6:Int)then x4 else x4
def bc:Int:=bif x0==(1:Int)then oB x1 x5 x7 else bif x0==(2:Int)then x5 else bif x0==(3:Int)then x5 else bif x0==(4:Int)then x5 else bif x0==(5:Int)then x5 else bif x0==(6:Int)then x5 else oY x5
def bd:List (Int×(Int×Int)):=bif x0==(1:Int)then oC x1 x7 x12 else bif x0==(2:Int)then x12 else bif x0==(3:Int)then x12 else bif x0==(4:Int)then x12 else bif x0==(5:Int)then x12 else bif x0==(6:Int)then x12 else oZ x0 x2 x5 x6 x12
def be:Bool:=allT [!x0==(1:Int)||oD x1 x7 x8 x11 x13,x0==(1:Int)||(x0==(2:Int)||(x0==(3:Int)||(!x0==(4:Int)||leI (0:Int) (0:Int)))),x0==(1:Int)||(x0==(2:Int)||(x0==(3:Int)||(!x0==(4:Int)||ltI (0:Int) (↑x6.length:Int)))),x0==(1:Int)||(x0==(2:Int)||(x0==(3:Int)||(!x0==(4:Int)||ltN (Int.toNat (0:Int)) x6.length))),x0==(1:Int)||(x0==(2:Int)||(x0==(3:Int)||(x0==(4:Int)||(!x0==(5:Int)||leI (0:Int) (0:Int))))),x0==(1:Int)||(x0==(2:Int)||(x0==(3:Int)||(x0==(4:Int)||(!x0==(5:Int)||ltI (0:Int) (↑x6.length:Int))))),x0==(1:Int)||(x0==(2:Int)||(x0==(3:Int)||(x0==(4:Int)||(!x0==(5:Int)||ltN (Int.toNat (0:Int)) x6.length)))),x0==(1:Int)||(x0==(2:Int)||(x0==(3:Int)||(x0==(4:Int)||(!x0==(5:Int)||leI (0:Int) (1:Int))))),x0==(1:Int)||(x0==(2:Int)||(x0==(3:Int)||(x0==(4:Int)||(!x0==(5:Int)||ltI (1:Int) (↑x6.length:Int))))),x0==(1:Int)||(x0==(2:Int)||(x0==(3:Int)||(x0==(4:Int)||(!x0==(5:Int)||ltN (Int.toNat (1:Int)) x6.length)))),x0==(1:Int)||(x0==(2:Int)||(x0==(3:Int)||(x0==(4:Int)||(x0==(5:Int)||(!x0==(6:Int)||leI (0:Int) (0:Int)))))),x0==(1:Int)||(x0==(2:Int)||(x0==(3:Int)||(x0==(4:Int)||(x0==(5:Int)||(!x0==(6:Int)||ltI (0:Int) (↑x6.length:Int)))))),x0==(1:Int)||(x0==(2:Int)||(x0==(3:Int)||(x0==(4:Int)||(x0==(5:Int)||(!x0==(6:Int)||ltN (Int.toNat (0:Int)) x6.length))))),x0==(1:Int)||(x0==(2:Int)||(x0==(3:Int)||(x0==(4:Int)||(x0==(5:Int)||(!x0==(6:Int)||leI (0:Int) (1:Int)))))),x0==(1:Int)||(x0==(2:Int)||(x0==(3:Int)||(x0==(4:Int)||(x0==(5:Int)||(!x0==(6:Int)||ltI (1:Int) (↑x6.length:Int)))))),x0==(1:Int)||(x0==(2:Int)||(x0==(3:Int)||(x0==(4:Int)||(x0==(5:Int)||(!x0==(6:Int)||ltN (Int.toNat (1:Int)) x6.length))))),x0==(1:Int)||(x0==(2:Int)||(x0==(3:Int)||(x0==(4:Int)||(x0==(5:Int)||(x0==(6:Int)||pa x5 x6 x12)))))]
end
def vA:List SV→List Entry→Option Out
 | [.one ⟨false,[.ptr 0 0]⟩,.one ⟨true,[.val (.int .i64 x0),.val (.string x1),.val (.int .i64 x2)]⟩,.one ⟨false,[.ref 1]⟩],[.box 202 [.val (.string x3),.ref 2,.ref 3,.ref 4,.val (.string x4),.ref 5,.ref 6,.ref 7,.ref 8,.ref 9,.val (.int .i64 x5)],.row false 2 (.int .i64) x6,.row false 9 (.str) x7,.row false 9 (.str) x8,.row false 9 (.str) x9,.row false 204 (.pair (.str) (.sl 178 (.pair (.int .i64) (.pair (.str) (.int .i64))))) x10,.row false 2 (.int .i64) x11,.row true 172 (.pair (.int .i64) (.pair (.int .i64) (.int .i64))) x12,.row false 2 (.int .i64) x13,.row false 2 (.int .i64) x14]=>some ⟨.one ⟨false,[.val (.int .i64 (bN x0 x1 x2 x5 x6 x7 x8 x11 x12 x13))]⟩,[.box 202 [.val (.string (fI x0 x1 x3 x7)),.ref 2,.ref 3,.ref 4,.val (.string (fJ x0 x1 x4 x7)),.ref 5,.ref 6,.ref 7,.ref 8,.ref 9,.val (.int .i64 (bc x0 x1 x5 x7))],.row false 2 afY x6,.row false 9 agS x7,.row false 9 agS x8,.row false 9 agS x9,.row false 204 (CTy.pair CTy.str (CTy.sl (178:TypeId) aeH)) x10,.row false 2 afY x11,.row true 172 aaK (bd x0 x1 x2 x5 x6 x7 x12),.row false 2 afY x13,.row false 2 afY x14],[],[be x0 x1 x5 x6 x7 x8 x11 x12 x13]⟩
 |_,_=>none
def vC:PF prog:=PF.ofG prog [FM,Ge] [] aQ 223 f223 func223 (fun c _=>LOk.nil c) vA (by
 intro vs es r h;unfold vA at h;split at h
 ·cases h;kernel_rfl
 ·cases h)
abbrev bx:=Int×Int×List (Int×(ByteArray×Int))×List Int×ByteArray×ByteArray×Int×List ByteArray×List ByteArray×List ByteArray×List (ByteArray×(List (Int×(ByteArray×Int))))×List Int×List (Int×(Int×Int))×List Int×List Int
section
variable (y0 y1:Int)(y2:List (Int×(ByteArray×Int)))(y3:List Int)(y4 y5:ByteArray)(y6:Int)(y7 y8:List ByteArray)(y11:List Int)(y12:List (Int×(Int×Int)))(y13:List Int)
def ac:Int×ByteArray×Int:=Option.getD y2[Int.toNat y0]? ((0:Int),ByteArray.empty,(0:Int))
def aL:Int:=IntKind.wrap .i64 ((↑y3.length:Int) - rX ((ac y0 y2).1))
def ep:List Int:= [bN ((ac y0 y2).1) (((ac y0 y2).2).1) ((ac y0 y2).2.2) y6 (List.drop (Int.toNat (aL y0 y2 y3)) y3) y7 y8 y11 y12 y13]
def eB:Bool:=ltI y0 y1
def eC:Bool:=leI (0:Int) y0
def eD:Bool:=ltI y0 (↑y2.length:Int)
def eE:Bool:=ltN y0.toNat y2.length
def dd:Bool:=leI (0:Int) (aL y0 y2 y3)
def de:Bool:=leI (aL y0 y2 y3) (↑y3.length:Int)
def eF:Bool:=leN (Int.toNat (aL y0 y2 y3)) y3.length
def eG:Bool:=be ((ac y0 y2).1) (((ac y0 y2).2).1) y6 (List.drop (Int.toNat (aL y0 y2 y3)) y3) y7 y8 y11 y12 y13
def eH:Bool:=leN (List.length (List.take (Int.toNat (aL y0 y2 y3)) y3) + List.length (ep y0 y2 y3 y6 y7 y8 y11 y12 y13)) (9223372036854775807:Nat)
def eI:Bool:=leN ((List.length (List.take (Int.toNat (aL y0 y2 y3)) y3) + List.length (ep y0 y2 y3 y6 y7 y8 y11 y12 y13)) * (8:Nat)) (140737488355328:Nat)
def eg:Int:=IntKind.wrap .i64 (y0 + (1:Int))
def ei:List Int:=List.take (Int.toNat (aL y0 y2 y3)) y3++ep y0 y2 y3 y6 y7 y8 y11 y12 y13
def ej:ByteArray:=fI ((ac y0 y2).1) (((ac y0 y2).2).1) y4 y7
def ek:ByteArray:=fJ ((ac y0 y2).1) (((ac y0 y2).2).1) y5 y7
def em:Int:=bc ((ac y0 y2).1) (((ac y0 y2).2).1) y6 y7
def eo:List (Int×(Int×Int)):=bd ((ac y0 y2).1) (((ac y0 y2).2).1) ((ac y0 y2).2.2) y6 (List.drop (Int.toNat (aL y0 y2 y3)) y3) y7 y12
end
def Dj:bx→List (Nat×SV)
 |(y0,y1,_,_,_,_,_,_,_,_,_,_,_,_,_)=> [(13,(.one ⟨false,[.val (.int .i64 y0)]⟩)),(12,(.one ⟨false,[.val (.int .i64 y1)]⟩)),(11,(.one ⟨false,[.ref 0]⟩)),(4,(.one ⟨false,[.ref 1]⟩)),(0,(.one ⟨false,[.ptr 2 0]⟩))]
def Di:bx→List (Nat×Entry)
 |(_,_,y2,y3,y4,y5,y6,y7,y8,y9,y10,y11,y12,y13,y14)=> [(0,(.row false 178 aeH y2)),(2,(.box 202 [.val (.string y4),.ref 3,.ref 4,.ref 5,.val (.string y5),.ref 6,.ref 7,.ref 8,.ref 9,.ref 10,.val (.int .i64 y6)])),(3,(.row false 9 agS y7)),(4,(.row false 9 agS y8)),(5,(.row false 9 agS y9)),(6,(.row false 204 (CTy.pair CTy.str (CTy.sl (178:Nat) aeH)) y10)),(7,(.row true 2 afY y11)),(8,(.row true 172 aaK y12)),(9,(.row false 2 afY y13)),(10,(.row true 2 afY y14)),(1,(.row true 2 afY y3))]
def Dm:Nat→bx→List (Nat×SV)
 |_,(_,_,_,_,_,_,_,_,_,_,_,_,_,_,_)=> [(4,(.one ⟨false,[.ref 1]⟩))]
def Dk:Nat→bx→List (Nat×Entry)
 |_,(_,_,y2,y3,y4,y5,y6,y7,y8,y9,y10,y11,y12,y13,y14)=> [(0,(.row false 178 aeH y2)),(1,(.row true 2 afY y3)),(2,(.box 202 [.val (.string y4),.ref 3,.ref 4,.ref 5,.val (.string y5),.ref 6,.ref 7,.ref 8,.ref 9,.ref 10,.val (.int .i64 y6)])),(3,(.row false 9 agS y7)),(4,(.row false 9 agS y8)),(5,(.row false 9 agS y9)),(6,(.row false 204 (CTy.pair CTy.str (CTy.sl (178:Nat) aeH)) y10)),(7,(.row true 2 afY y11)),(8,(.row true 172 aaK y12)),(9,(.row false 2 afY y13)),(10,(.row true 2 afY y14))]
def et:bx→LT bx
 |(y0,y1,y2,y3,y4,y5,y6,y7,y8,y9,y10,y11,y12,y13,y14)=> .ite (eB y0 y1) (.need [eC y0,eD y0 y2,eE y0 y2] (.need [dd y0 y2 y3,de y0 y2 y3,eF y0 y2 y3,eG y0 y2 y3 y6 y7 y8 y11 y12 y13] (.need [dd y0 y2 y3,de y0 y2 y3,eH y0 y2 y3 y6 y7 y8 y11 y12 y13,eI y0 y2 y3 y6 y7 y8 y11 y12 y13] (.nrm ((eg y0),y1,y2,ei y0 y2 y3 y6 y7 y8 y11 y12 y13,ej y0 y2 y4 y7,ek y0 y2 y5 y7,em y0 y2 y6 y7,y7,y8,y9,y10,y11,eo y0 y2 y3 y6 y7 y12,y13,y14) [(0,0),(1,1600),(2,2),(3,3),(4,4),(5,5),(6,6),(7,7),(8,8),(9,9),(10,10)])))) (.ext 0 [(0,0),(1,1),(2,2),(3,3),(4,4),(5,5),(6,6),(7,7),(8,8),(9,9),(10,10)])
def mB(s:St):Option bx:=
 (match s.look 13 with
 |some ⟨none,.one ⟨false,[.val (.int .i64 y0)]⟩⟩=>
 (match s.look 12 with
 |some ⟨none,.one ⟨false,[.val (.int .i64 y1)]⟩⟩=>
 (match s.look 11 with
 |some ⟨none,.one ⟨false,[.ref 1]⟩⟩=>
 (match s.look 4 with
 |some ⟨none,.one ⟨false,[.ref 768]⟩⟩=>
 (match s.look 0 with
 |some ⟨none,.one ⟨false,[.ptr 0 0]⟩⟩=>
 (match s.ent 1 with
 |some (.row false 178 (.pair (.int .i64) (.pair .str (.int .i64))) y2)=>
 (match s.ent 0 with
 |some (.box 202 [.val (.string y4),.ref 2,.ref 3,.ref 4,.val (.string y5),.ref 5,.ref 6,.ref 7,.ref 8,.ref 9,.val (.int .i64 y6)])=>
 (match s.ent 2 with
 |some (.row false 9 (.str) y7)=>
 (match s.ent 3 with
 |some (.row false 9 (.str) y8)=>
 (match s.ent 4 with
 |some (.row false 9 (.str) y9)=>
 (match s.ent 5 with
 |some (.row false 204 (.pair .str (.sl (178:Nat) (.pair (.int .i64) (.pair .str (.int .i64))))) y10)=>
 (match s.ent 6 with
 |some (.row true 2 (.int .i64) y11)=>
 (match s.ent 7 with
 |some (.row true 172 (.pair (.int .i64) (.pair (.int .i64) (.int .i64))) y12)=>
 (match s.ent 8 with
 |some (.row false 2 (.int .i64) y13)=>
 (match s.ent 9 with
 |some (.row true 2 (.int .i64) y14)=>
 (match s.ent 768 with
 |some (.row true 2 (.int .i64) y3)=>
 some (y0,y1,y2,y3,y4,y5,y6,y7,y8,y9,y10,y11,y12,y13,y14)
 |_=>none)
 |_=>none)
 |_=>none)
 |_=>none)
 |_=>none)
 |_=>none)
 |_=>none)
 |_=>none)
 |_=>none)
 |_=>none)
 |_=>none)
 |_=>none)
 |_=>none)
 |_=>none)
 |_=>none)
 |_=>none)
def al:Lp bx where
 h:=⟨[14,15,16,6,17,18,19,20,21,22,7,23,24,25,26,27,28,8,29,30,31,32,33,34,4,35,13],[0,2,3,4,5,6,7,8,9,10],[1],[]⟩
 JL:=Dj
 JE:=Di
 XL:=Dm
 XE:=Dk
 q:=fun j=>match j with | _=> .exit 0
 tags:= [0]
 lt:=et
 fuel:=fun(y0,y1,y2,y3,y4,y5,y6,y7,y8,y9,y10,y11,y12,y13,y14)=>y0.natAbs + y1.natAbs + y2.length + y3.length + y4.size + y5.size + y6.natAbs + y7.length + y8.length + y9.length + y10.length + y11.length + y12.length + y13.length + y14.length
 fix:=fun(_,y1,y2,_,_,_,_,y7,y8,y9,y10,y11,_,y13,y14) (y0,_,_,y3,y4,y5,y6,_,_,_,_,_,y12,_,_)=>(y0,y1,y2,y3,y4,y5,y6,y7,y8,y9,y10,y11,y12,y13,y14)
 σ:= [(0,1),(2,0),(3,2),(4,3),(5,4),(6,5),(7,6),(8,7),(9,8),(10,9),(1,768)]
 rd:=mB
theorem CQ:LoopOk prog (fun k=>Nat.blt k Tryz.f177.ntmps) al.F (aS f177 0):=by
 refine Lp.ok (tbl:= [PF.views prog,tR,Ki,PF.lendBut 172 (PF.view vC)]) (lf:= []) aQ al (by kernel_rfl) (LOk.nil _) (fun _=>rfl) (fun _ _=>rfl) ?_ ?_ ?_ ?_ (fun _=>rfl) ?_
 ·rintro⟨y0,y1,y2,y3,y4,y5,y6,y7,y8,y9,y10,y11,y12,y13,y14⟩;kernel_rfl
 ·rintro⟨y0,y1,y2,y3,y4,y5,y6,y7,y8,y9,y10,y11,y12,y13,y14⟩;kernel_rfl
 ·intro s x h
  have h:mB s=some x:=h
  unfold mB at h
  repeat' split at h
  all_goals cases h
  exact⟨aa (by assumption) rfl (aa (by assumption) rfl (aa (by assumption) rfl (aa (by assumption) rfl (aa (by assumption) rfl (rfl))))),ab rfl (by assumption) rfl (ab rfl (by assumption) rfl (ab rfl (by assumption) rfl (ab rfl (by assumption) rfl (ab rfl (by assumption) rfl (ab rfl (by assumption) rfl (ab rfl (by assumption) rfl (ab rfl (by assumption) rfl (ab rfl (by assumption) rfl (ab rfl (by assumption) rfl (ab rfl (by assumption) rfl (rfl)))))))))))⟩
 ·rintro⟨y0,y1,y2,y3,y4,y5,y6,y7,y8,y9,y10,y11,y12,y13,y14⟩;kernel_rfl
 ·rintro⟨y0,y1,y2,y3,y4,y5,y6,y7,y8,y9,y10,y11,y12,y13,y14⟩ z;exact(And.intro rfl trivial)
section
variable (x0 x1 x2:ByteArray)(x3:Int)(x4:List (Int×ByteArray×Int))(x5 x6 x7:List ByteArray)(x8:List (ByteArray×List (Int×ByteArray×Int)))(x9:List Int)(x10:List (Int×Int×Int))(x11 x12:List Int)
def bI:Int×Int×List (Int×ByteArray×Int)×List Int×ByteArray×ByteArray×Int×List ByteArray×List ByteArray×List ByteArray×List (ByteArray×List (Int×ByteArray×Int))×List Int×List (Int×Int×Int)×List Int×List Int:=((0:Int),(↑x4.length:Int),x4,[],x1,x2,x3,x5,x6,x7,x8,x9,x10,x11,x12)
def cC:List Int×ByteArray×ByteArray×Int×List ByteArray×List ByteArray×List ByteArray×List (ByteArray×List (Int×ByteArray×Int))×List Int×List (Int×Int×Int)×List Int×List Int:=(Lp.res al (bI x1 x2 x3 x4 x5 x6 x7 x8 x9 x10 x11 x12)).2.2.2.2
def dw:ByteArray×ByteArray×Int×List ByteArray×List ByteArray×List ByteArray×List (ByteArray×List (Int×ByteArray×Int))×List Int×List (Int×Int×Int)×List Int×List Int:=(cC x1 x2 x3 x4 x5 x6 x7 x8 x9 x10 x11 x12).2
def fh:ByteArray×Int×List ByteArray×List ByteArray×List ByteArray×List (ByteArray×List (Int×ByteArray×Int))×List Int×List (Int×Int×Int)×List Int×List Int:=(dw x1 x2 x3 x4 x5 x6 x7 x8 x9 x10 x11 x12).2
def jq:Int×List ByteArray×List ByteArray×List ByteArray×List (ByteArray×List (Int×ByteArray×Int))×List Int×List (Int×Int×Int)×List Int×List Int:=(fh x1 x2 x3 x4 x5 x6 x7 x8 x9 x10 x11 x12).2
def fj:List Int:=(cC x1 x2 x3 x4 x5 x6 x7 x8 x9 x10 x11 x12).1
def jr:Int:=Option.getD (fj x1 x2 x3 x4 x5 x6 x7 x8 x9 x10 x11 x12)[Int.toNat (0:Int)]? (0:Int)
def jt:Bool:=ltI (0:Int) (↑(List.length (fj x1 x2 x3 x4 x5 x6 x7 x8 x9 x10 x11 x12)):Int)
def ju:Bool:=ltN (Int.toNat (0:Int)) (List.length (fj x1 x2 x3 x4 x5 x6 x7 x8 x9 x10 x11 x12))
def jU:ByteArray:=(dw x1 x2 x3 x4 x5 x6 x7 x8 x9 x10 x11 x12).1
def jV:ByteArray:=(fh x1 x2 x3 x4 x5 x6 x7 x8 x9 x10 x11 x12).1
def jW:Int:=(jq x1 x2 x3 x4 x5 x6 x7 x8 x9 x10 x11 x12).1
def jX:List Int:=bif leI (0:Int) (iI x6 x0)then List.set x9 (Int.toNat (iI x6 x0)) (jr x1 x2 x3 x4 x5 x6 x7 x8 x9 x10 x11 x12)else x9
def jY:List (Int×(Int×Int)):=((jq x1 x2 x3 x4 x5 x6 x7 x8 x9 x10 x11 x12).2.2.2.2.2.2).1
def jZ:List Int:=bif leI (0:Int) (iI x6 x0)then x12 else List.set x12 (Int.toNat (iI x7 x0)) (jr x1 x2 x3 x4 x5 x6 x7 x8 x9 x10 x11 x12)
def fH:Bool:=allT [Lp.fin al (bI x1 x2 x3 x4 x5 x6 x7 x8 x9 x10 x11 x12),leN x6.length (9223372036854775807:Nat),!leI (0:Int) (iI x6 x0)||leI (0:Int) (0:Int),!leI (0:Int) (iI x6 x0)||jt x1 x2 x3 x4 x5 x6 x7 x8 x9 x10 x11 x12,!leI (0:Int) (iI x6 x0)||ju x1 x2 x3 x4 x5 x6 x7 x8 x9 x10 x11 x12,!leI (0:Int) (iI x6 x0)||leI (0:Int) (iI x6 x0),!leI (0:Int) (iI x6 x0)||ltI (iI x6 x0) (↑x9.length:Int),!leI (0:Int) (iI x6 x0)||ltN (Int.toNat (iI x6 x0)) x9.length,leI (0:Int) (iI x6 x0)||leN x7.length (9223372036854775807:Nat),leI (0:Int) (iI x6 x0)||leI (0:Int) (0:Int),leI (0:Int) (iI x6 x0)||jt x1 x2 x3 x4 x5 x6 x7 x8 x9 x10 x11 x12,leI (0:Int) (iI x6 x0)||ju x1 x2 x3 x4 x5 x6 x7 x8 x9 x10 x11 x12,leI (0:Int) (iI x6 x0)||leI (0:Int) (iI x7 x0),leI (0:Int) (iI x6 x0)||ltI (iI x7 x0) (↑x12.length:Int),leI (0:Int) (iI x6 x0)||ltN (Int.toNat (iI x7 x0)) x12.length]
end
def vz:List SV→List Entry→Option Out
 | [.one ⟨false,[.ptr 0 0]⟩,.one ⟨true,[.val (.string x0),.ref 1]⟩],[.box 202 [.val (.string x1),.ref 2,.ref 3,.ref 4,.val (.string x2),.ref 5,.ref 6,.ref 7,.ref 8,.ref 9,.val (.int .i64 x3)],.row false 178 (.pair (.int .i64) (.pair (.str) (.int .i64))) x4,.row false 9 (.str) x5,.row false 9 (.str) x6,.row false 9 (.str) x7,.row false 204 (.pair (.str) (.sl 178 (.pair (.int .i64) (.pair (.str) (.int .i64))))) x8,.row true 2 (.int .i64) x9,.row true 172 (.pair (.int .i64) (.pair (.int .i64) (.int .i64))) x10,.row false 2 (.int .i64) x11,.row true 2 (.int .i64) x12]=>some ⟨.tup [],[.box 202 [.val (.string (jU x1 x2 x3 x4 x5 x6 x7 x8 x9 x10 x11 x12)),.ref 2,.ref 3,.ref 4,.val (.string (jV x1 x2 x3 x4 x5 x6 x7 x8 x9 x10 x11 x12)),.ref 5,.ref 6,.ref 7,.ref 8,.ref 9,.val (.int .i64 (jW x1 x2 x3 x4 x5 x6 x7 x8 x9 x10 x11 x12))],.row false 178 aeH x4,.row false 9 agS x5,.row false 9 agS x6,.row false 9 agS x7,.row false 204 (CTy.pair CTy.str (CTy.sl (178:TypeId) aeH)) x8,.row true 2 afY (jX x0 x1 x2 x3 x4 x5 x6 x7 x8 x9 x10 x11 x12),.row true 172 aaK (jY x1 x2 x3 x4 x5 x6 x7 x8 x9 x10 x11 x12),.row false 2 afY x11,.row true 2 afY (jZ x0 x1 x2 x3 x4 x5 x6 x7 x8 x9 x10 x11 x12)],[],[fH x0 x1 x2 x3 x4 x5 x6 x7 x8 x9 x10 x11 x12]⟩
 |_,_=>none
def vB:PF prog:=PF.ofG prog [PF.views prog,tR,Ki,PF.lendBut 172 (PF.view vC)] [al.F] aQ 177 f177 func177 (LOk.fnT (l:= [aS f177 0]) (by kernel_rfl) (.cons CQ (.nil _))) vz (by
 intro vs es r h;unfold vz at h;split at h
 ·cases h;kernel_rfl
 ·cases h)
theorem aic{a b:Int}(ha:a=0∨a=1)(hb:b=0∨b=1):IntKind.i64.wrap ((BitVec.toNat (BitVec.ofInt (IntKind.bits IntKind.i64) a&&& BitVec.ofInt (IntKind.bits IntKind.i64) b):Nat):Int)=anb a b:=by
 rcases ha with rfl | rfl <;> rcases hb with rfl | rfl <;> rfl
theorem akw{a b:Int}(ha:a=0∨a=1)(hb:b=0∨b=1):IntKind.i64.wrap ((BitVec.toNat (BitVec.ofInt (IntKind.bits IntKind.i64) a||| BitVec.ofInt (IntKind.bits IntKind.i64) b):Nat):Int)=orI a b:=by
 rcases ha with rfl | rfl <;> rcases hb with rfl | rfl <;> rfl
theorem akr{a:Int}(ha:a=0∨a=1):IntKind.i64.wrap (1 - a)=1 - a:=by rcases ha with rfl | rfl <;> rfl
theorem PD{l:List ByteArray}{s:ByteArray}(h:mu l s=true):iI l s=(Qx l s:Int):=by simp only [iI,h,cond_true]
theorem aeh(s:ByteArray)(ins vs:List ByteArray)(inp xs:List Int)(hr:Vb ins vs s=true)(h1:leN ins.length 9223372036854775807=true)(h2:leN vs.length 9223372036854775807=true)(hi:inp.length=ins.length)(hx:xs.length=vs.length):
  rU s ins vs xs inp=nmV ins vs inp xs s∧rV s ins vs xs inp=true:=by
 cases h:mu ins s with
 |true=>
  have e:=PD h
  have hp:=VY h
  have l0:leI 0 (Qx ins s:Int)=true:=cw (by omega)
  have l1:ltI (Qx ins s:Int) (inp.length:Int)=true:=eQ (by omega)
  have l2:ltN (Qx ins s) inp.length=true:=ib (by omega)
  refine⟨?_,?_⟩
  ·simp only [rU,nmV,h,e,l0,cond_true];rfl
  ·simp only [rV,e,l0,l1,l2,h1,h2,allT,Int.toNat_natCast,Bool.or_true,Bool.true_or,cond_true]
 |false=>
  have hv:mu vs s=true:=by simpa [Vb,h] using hr
  have e0:leI 0 (iI ins s)=false:=by rw [Qf,h]
  have e:=PD hv
  have hp:=VY hv
  have l0:leI 0 (Qx vs s:Int)=true:=cw (by omega)
  have l1:ltI (Qx vs s:Int) (xs.length:Int)=true:=eQ (by omega)
  have l2:ltN (Qx vs s) xs.length=true:=ib (by omega)
  refine⟨?_,?_⟩
  ·simp only [rU,nmV,h,e0,e,cond_false];rfl
  ·simp only [rV,e0,e,l0,l1,l2,h1,h2,allT,Int.toNat_natCast,Bool.or_true,Bool.true_or,Bool.not_false,cond_true]
theorem aiQ(s:ByteArray)(ins vs:List ByteArray)(inp xs:List Int):oy s ins vs xs inp=rU s ins vs xs inp∧oD s ins vs xs inp=rV s ins vs xs inp:=⟨rfl,rfl⟩
theorem aiR(s:ByteArray)(ins vs:List ByteArray)(inp xs:List Int):jw s ins vs xs inp=rU s ins vs xs inp∧jx s ins vs xs inp=rV s ins vs xs inp:=⟨rfl,rfl⟩
structure TmOk (ins vs:List ByteArray) (inp xs:List Int) (t:TM) (ar:List Int) (k:Nat) (ss:List BS3):Prop where
 hT:termB t.1 t.2.1 t.2.2=true
 ha:bitsB (takesK t.1) ar=true
 hu:usedB ins vs t=true
 h1:leN ins.length 9223372036854775807=true
 h2:leN vs.length 9223372036854775807=true
 hi:inp.length=ins.length
 hx:xs.length=vs.length
 hb:leI 7 t.1=true→k < ss.length∧possB t.1 t.2.2 (stAt ss k).1 (stAt ss k).2.1 (stAt ss k).2.2=true
 hs:ss.length≤100000
theorem aoz{ins vs:List ByteArray}{inp xs:List Int}{kd:Int}{nm:ByteArray}{num:Int}{ar:List Int}{k:Nat}{ss:List BS3}(h:TmOk ins vs inp xs (kd,nm,num) ar k ss)(hk:k≤ss.length)(u v:ByteArray):
  bN kd nm num (k:Int) ar ins vs xs ss inp=tmV ins vs inp xs (kd,nm,num) ar (stAt ss k)∧
  fI kd nm u ins=u∧fJ kd nm v ins=v∧
  bc kd nm (k:Int) ins=((bif leI 7 kd then k + 1 else k:Nat):Int)∧
  bd kd nm num (k:Int) ar ins ss=(bif leI 7 kd then ss.set k (WL kd num ar (stAt ss k))else ss)∧
  be kd nm (k:Int) ar ins vs xs ss inp=true:=by
 obtain⟨hT,ha,hu,h1,h2,hi,hx,hb,hs⟩:=h
 have hkk:=afh hT
 simp only at hT ha hu hb hkk
 have hbits:=(ir.1 ha).1
 have oL:=(ir.1 ha).2
 have a0:=Ra hbits 0
 have a1:=Ra hbits 1
 have hc:kd=1∨kd=2∨kd=3∨kd=4∨kd=5∨kd=6∨(7≤kd∧kd≤12):=by omega
 have c1: ∀ x:ByteArray,oz nm x ins=x:=fun x=>Bool.cond_self _ _
 have c2: ∀ x:ByteArray,oA nm x ins=x:=fun x=>Bool.cond_self _ _
 have c3: ∀ x:Int,oB nm x ins=x:=fun x=>Bool.cond_self _ _
 have c4: ∀ x:List BS3,oC nm ins x=x:=fun x=>Bool.cond_self _ _
 have z00:leI (0:Int) 0=true:=rfl
 have z01:leI (0:Int) 1=true:=rfl
 have e0:jv ar=atZ ar 0:=rfl
 have e1:Option.getD ar[Int.toNat (1:Int)]? (0:Int)=atZ ar 1:=rfl
 rcases hc with rfl | rfl | rfl | rfl | rfl | rfl | hc
 ·have hr:Vb ins vs nm=true:=by simpa [usedB] using hu
  obtain⟨v1,v2⟩:=aeh nm ins vs inp xs hr h1 h2 hi hx
  have q:leI 7 (1:Int)=false:=rfl
  refine⟨?_,?_,?_,?_,?_,?_⟩
  ·simp [bN,tmV,(aiQ nm ins vs inp xs).1,v1]
  ·simp [fI,c1]
  ·simp [fJ,c2]
  ·simp [bc,c3,q]
  ·simp [bd,c4,q]
  ·simp [be,(aiQ nm ins vs inp xs).2,v2,allT]
 ·have q:leI 7 (2:Int)=false:=rfl
  refine⟨rfl,rfl,rfl,?_,?_,?_⟩
  ·simp [bc,q]
  ·simp [bd,q]
  ·simp [be,allT]
 ·have q:leI 7 (3:Int)=false:=rfl
  refine⟨rfl,rfl,rfl,?_,?_,?_⟩
  ·simp [bc,q]
  ·simp [bd,q]
  ·simp [be,allT]
 ·have q:leI 7 (4:Int)=false:=rfl
  have t:takesK 4=1:=rfl
  rw [t]at oL
  have s1:ltI 0 (ar.length:Int)=true:=eQ (by omega)
  have s2:ltN (Int.toNat 0) ar.length=true:=ib (by simp only [Int.toNat_zero];omega)
  refine⟨?_,rfl,rfl,?_,?_,?_⟩
  ·simp [bN,tmV,e0,akr a0]
  ·simp [bc,q]
  ·simp [bd,q]
  ·simp only [be,allT,z00,s1,s2];rfl
 ·have q:leI 7 (5:Int)=false:=rfl
  have t:takesK 5=2:=rfl
  rw [t]at oL
  have s1:ltI 0 (ar.length:Int)=true:=eQ (by omega)
  have s2:ltN (Int.toNat 0) ar.length=true:=ib (by simp only [Int.toNat_zero];omega)
  have s3:ltI 1 (ar.length:Int)=true:=eQ (by omega)
  have s4:ltN (Int.toNat 1) ar.length=true:=ib (by have:(Int.toNat 1)=1:=rfl;omega)
  refine⟨?_,rfl,rfl,?_,?_,?_⟩
  ·have:=aic a0 a1
   simp only [bN,tmV,e0,e1,this];rfl
  ·simp [bc,q]
  ·simp [bd,q]
  ·simp only [be,allT,z00,z01,s1,s2,s3,s4];rfl
 ·have q:leI 7 (6:Int)=false:=rfl
  have t:takesK 6=2:=rfl
  rw [t]at oL
  have s1:ltI 0 (ar.length:Int)=true:=eQ (by omega)
  have s2:ltN (Int.toNat 0) ar.length=true:=ib (by simp only [Int.toNat_zero];omega)
  have s3:ltI 1 (ar.length:Int)=true:=eQ (by omega)
  have s4:ltN (Int.toNat 1) ar.length=true:=ib (by have:(Int.toNat 1)=1:=rfl;omega)
  refine⟨?_,rfl,rfl,?_,?_,?_⟩
  ·have:=akw a0 a1
   simp only [bN,tmV,e0,e1,this];rfl
  ·simp [bc,q]
  ·simp [bd,q]
  ·simp only [be,allT,z00,z01,s1,s2,s3,s4];rfl
 ·have q:leI 7 kd=true:=cw hc.1
  obtain⟨b1,b2⟩:=hb q
  have hB:=SN (t:=(kd,nm,num)) hT q
  simp only at hB
  obtain⟨p0,p1,p2,p3,p4,p5,p6⟩:=ajB hB b2 ha
  have t1:(kd==1)=false:=by simp;omega
  have t2:(kd==2)=false:=by simp;omega
  have t3:(kd==3)=false:=by simp;omega
  have t4:(kd==4)=false:=by simp;omega
  have t5:(kd==5)=false:=by simp;omega
  have t6:(kd==6)=false:=by simp;omega
  have ca:aA (k:Int) ss=stAt ss k:=by simp only [aA,Int.toNat_natCast,stAt]
  have l0:leI 0 (k:Int)=true:=cw (by omega)
  have l1:ltI (k:Int) (ss.length:Int)=true:=eQ (by omega)
  have l2:ltN k ss.length=true:=ib b1
  have hw:IntKind.i64.wrap ((k:Int) + 1)=((k + 1:Nat):Int):=by rw [aT (by omega) (by omega)];omega
  refine⟨?_,?_,?_,?_,?_,?_⟩
  ·simp only [bN,tmV,t1,t2,t3,t4,t5,t6,cond_false,oX,ca,p0,aoA]
  ·simp only [fI,t1,t2,t3,t4,t5,t6,cond_false]
  ·simp only [fJ,t1,t2,t3,t4,t5,t6,cond_false]
  ·simp only [bc,t1,t2,t3,t4,t5,t6,cond_false,q,cond_true,oY,hw]
  ·simp only [bd,t1,t2,t3,t4,t5,t6,cond_false,q,cond_true,oZ,ca,p1,p2,p3,WL,Int.toNat_natCast]
  ·simp only [be,t1,t2,t3,t4,t5,t6,pa,p4,l0,l1,l2,Int.toNat_natCast,allT,Bool.false_or,Bool.not_false,Bool.true_or,Bool.or_true,cond_true]
theorem aja(ins vs:List ByteArray)(inp xs:List Int): ∀ (ts:List TM) (a:LS),ts.foldl (fun a t=>lnS ins vs inp xs t a) a=acx ins vs inp xs ts a
 | [],a=>rfl
 |t::r,a=>by rw [List.foldl_cons,aja ins vs inp xs r];rfl
structure LineH (ins vs:List ByteArray) (inp xs:List Int) (pre post ts:List TM):Prop where
 hi:bitsB ins.length inp=true
 hx:bitsB vs.length xs=true
 ok: ∃ e,htT ts 0=some e
 hu:ts.all (usedB ins vs)=true
 hn:ts.length≤40
 hbl:(pre++blT ts++post).length≤2000
 h1:leN ins.length 9223372036854775807=true
 h2:leN vs.length 9223372036854775807=true
theorem LineH.tm{ins vs:List ByteArray}{inp xs:List Int}{pre post ts:List TM}(h:LineH ins vs inp xs pre post ts){i:Nat}{t:TM}{a:LS}(ht:ts[i]? =some t)(hI:agt pre post ts i a):
  TmOk ins vs inp xs t (a.1.drop (ltk t a.1)) a.2.2 a.2.1∧a.2.2≤a.2.1.length∧a.2.1.length≤2000∧(0≤takesK t.1∧takesK t.1≤a.1.length)∧a.1.length≤40∧agt pre post ts (i + 1) (lnS ins vs inp xs t a):=by
 obtain⟨e,ok⟩:=h.ok
 obtain⟨g1,g2,g3,g4,g5,g6,g7,g8,g9⟩:=aiw (ins:=ins) (vs:=vs) h.hi h.hx ok ht hI
 have hi2:=(ir.1 h.hi).2
 have hx2:=(ir.1 h.hx).2
 have hil:=(List.getElem?_eq_some_iff.1 ht).1
 have hn:=h.hn
 have hbl:=h.hbl
 refine⟨⟨g3,g4,List.all_eq_true.1 h.hu t (List.mem_of_getElem? ht),h.h1,h.h2,by omega,by omega,fun h7=> ?_,by omega⟩,by omega,by omega,g1,by omega,g9⟩
 obtain⟨q1,q2⟩:=g6 h7
 exact⟨by omega,q2⟩
theorem anB{ins vs:List ByteArray}{inp xs:List Int}{pre post ts:List TM}(h:LineH ins vs inp xs pre post ts)(u v:ByteArray)(os:List ByteArray)(ls:List LN)(ou:List Int)(ss:List BS3)(k:Nat)(h0:agt pre post ts 0 ([],ss,k)):
  al.fin ((0:Int),(ts.length:Int),ts,[],u,v,(k:Int),ins,vs,os,ls,xs,ss,inp,ou)=true∧
  al.res ((0:Int),(ts.length:Int),ts,[],u,v,(k:Int),ins,vs,os,ls,xs,ss,inp,ou)=
   (0,((ts.length:Int),(ts.length:Int),ts,(acx ins vs inp xs ts ([],ss,k)).1,u,v,((acx ins vs inp xs ts ([],ss,k)).2.2:Int),ins,vs,os,ls,xs,(acx ins vs inp xs ts ([],ss,k)).2.1,inp,ou)):=by
 have jT:=al.along2 (fun i (a:LS)=>((i:Int),(ts.length:Int),ts,a.1,u,v,(a.2.2:Int),ins,vs,os,ls,xs,a.2.1,inp,ou)) (fun x=>(x.2.2.2.1,x.2.2.2.2.2.2.2.2.2.2.2.2.1,x.2.2.2.2.2.2.1.toNat))
  (fun(t:TM) a=> .inr (lnS ins vs inp xs t a)) 0 (fun i a=>agt pre post ts i a) ts ([],ss,k) h0 (by have:=h.hn;omega) (fun i t a hb hI=> ?_) (fun a hI=> ?_)
 ·rw [JS (g:=fun a t=>lnS ins vs inp xs t a) (fun b a=>rfl),aja]at jT
  simpa using jT
 ·obtain⟨hm,hk,hs,XA,hst,hI2⟩:=h.tm hb hI
  have fa:=(List.getElem?_eq_some_iff.1 hb).1
  have hn:=h.hn
  have hw:IntKind.i64.wrap ((i:Int) + 1)=((i + 1:Nat):Int):=by rw [aT (by omega) (by omega)];omega
  obtain⟨kd,nm,num⟩:=t
  obtain⟨stk,ss',k'⟩:=a
  simp only at hk hs XA hst hm
  have g0:ac (i:Int) ts=(kd,nm,num):=by simp only [ac,Int.toNat_natCast,hb,Option.getD_some]
  have g1:aL (i:Int) ts stk=((ltk (kd,nm,num) stk:Nat):Int):=by
   simp only [aL,g0,amc,ltk]
   rw [aT (by omega) (by omega)];omega
  obtain⟨r0,r1,r2,r3,r4,r5⟩:=aoz hm hk u v
  have g2:ep (i:Int) ts stk (k':Int) ins vs xs ss' inp= [tmV ins vs inp xs (kd,nm,num) (stk.drop (ltk (kd,nm,num) stk)) (stAt ss' k')]:=by
   simp only [ep,g0,g1,Int.toNat_natCast,r0]
  have hlk:ltk (kd,nm,num) stk≤stk.length:=Nat.sub_le _ _
  have l0:ltI (i:Int) (ts.length:Int)=true:=eQ (by omega)
  have l1:leI 0 (i:Int)=true:=cw (by omega)
  have l2:ltN i ts.length=true:=ib fa
  have l3:leI 0 ((ltk (kd,nm,num) stk:Nat):Int)=true:=cw (by omega)
  have l4:leI ((ltk (kd,nm,num) stk:Nat):Int) (stk.length:Int)=true:=cw (by omega)
  have l5:leN (ltk (kd,nm,num) stk) stk.length=true:=dx hlk
  have l6:leN ((List.take (ltk (kd,nm,num) stk) stk).length + 1) 9223372036854775807=true:=dx (by rw [List.length_take];omega)
  have l7:leN (((List.take (ltk (kd,nm,num) stk) stk).length + 1) * 8) 140737488355328=true:=dx (by rw [List.length_take];omega)
  refine⟨?_,?_,?_,fun a' hf=> ?_⟩
  ·simp only [eB,eC,eD,eE,dd,de,eF,eG,eH,eI,eg,ei,ej,ek,em,eo,et,al,LT.nds,allT,g0,g1,g2,r5,l0,l1,l2,l3,l4,l5,l6,l7,List.length_singleton,Int.toNat_natCast,cond_true,Bool.and_self]
  ·simp only [eB,eC,eD,eE,dd,de,eF,eG,eH,eI,eg,ei,ej,ek,em,eo,et,al,LT.each,g0,g1,g2,r1,r2,r3,r4,l0,hw,Int.toNat_natCast,Bool.and_true,and_self]
  ·simp only [eB,eC,eD,eE,dd,de,eF,eG,eH,eI,eg,ei,ej,ek,em,eo,et,al,LT.fn,g0,g1,g2,r3,r4,l0,Int.toNat_natCast,cond_true,lnS]
  ·simp only [Sum.inr.injEq]at hf
   subst hf;exact hI2
 ·have cq:ltI (ts.length:Int) (ts.length:Int)=false:=Na (by omega)
  simp [eB,eC,eD,eE,dd,de,eF,eG,eH,eI,eg,ei,ej,ek,em,eo,et,al,LT.out,cq]
theorem anD{ins vs:List ByteArray}{inp xs:List Int}{pre post ts:List TM}(h:LineH ins vs inp xs pre post ts)(u v:ByteArray)(os:List ByteArray)(ls:List LN)(ss:List BS3)(k:Nat)(h0:agt pre post ts 0 ([],ss,k)):
  aY.fin ((0:Int),(k:Int),ts,[],u,v,inp,ins,vs,os,ls,xs,ss)=true∧
  aY.res ((0:Int),(k:Int),ts,[],u,v,inp,ins,vs,os,ls,xs,ss)=
   (0,((ts.length:Int),((acx ins vs inp xs ts ([],ss,k)).2.2:Int),ts,(acx ins vs inp xs ts ([],ss,k)).1,u,v,inp,ins,vs,os,ls,xs,(acx ins vs inp xs ts ([],ss,k)).2.1)):=by
 have jT:=aY.along2 (fun i (a:LS)=>((i:Int),(a.2.2:Int),ts,a.1,u,v,inp,ins,vs,os,ls,xs,a.2.1)) (fun x=>(x.2.2.2.1,x.2.2.2.2.2.2.2.2.2.2.2.2,x.2.1.toNat))
  (fun(t:TM) a=> .inr (lnS ins vs inp xs t a)) 0 (fun i a=>agt pre post ts i a) ts ([],ss,k) h0 (by have:=h.hn;omega) (fun i t a hb hI=> ?_) (fun a hI=> ?_)
 ·rw [JS (g:=fun a t=>lnS ins vs inp xs t a) (fun b a=>rfl),aja]at jT
  simpa using jT
 ·obtain⟨hm,hk,hs,XA,hst,hI2⟩:=h.tm hb hI
  have fa:=(List.getElem?_eq_some_iff.1 hb).1
  have hn:=h.hn
  have hw:IntKind.i64.wrap ((i:Int) + 1)=((i + 1:Nat):Int):=by rw [aT (by omega) (by omega)];omega
  obtain⟨kd,nm,num⟩:=t
  obtain⟨stk,ss',k'⟩:=a
  simp only at hk hs XA hst hm
  have g0:bt (i:Int) ts=(kd,nm,num):=by simp only [bt,Int.toNat_natCast,hb,Option.getD_some]
  have g1:qg (i:Int) ts stk=((ltk (kd,nm,num) stk:Nat):Int):=by
   simp only [qg,g0,show mr kd=takesK kd from rfl,ltk]
   rw [aT (by omega) (by omega)];omega
  have g2:ch (i:Int) ts stk=stk.drop (ltk (kd,nm,num) stk):=by
   simp only [ch,g1,Int.toNat_natCast,List.take_length]
  have g3:qh (i:Int) ts stk=stk.take (ltk (kd,nm,num) stk):=by
   simp only [qh,g1,Int.toNat_natCast,Int.toNat_zero,List.drop_zero]
  have q4:az (i:Int) ts=(kd==1):=by simp only [az,g0]
  have q5:aI (i:Int) ts=(kd==2):=by simp only [aI,g0]
  have q6:aJ (i:Int) ts=(kd==3):=by simp only [aJ,g0]
  have q7:aK (i:Int) ts=(kd==4):=by simp only [aK,g0]
  have q10:aP (i:Int) ts=(kd==5):=by simp only [aP,g0]
  have q13:bT (i:Int) ts=(kd==6):=by simp only [bT,g0]
  have q15:dv (k':Int) ss'=stAt ss' k':=by simp only [dv,Int.toNat_natCast,stAt]
  obtain⟨hT,ha,hu,h1,h2,hi,hx,hb7,hss⟩:=hm
  have hkk:=afh hT
  simp only at hT ha hu hb7 hkk
  have hbits:=(ir.1 ha).1
  have oL:=(ir.1 ha).2
  generalize hA:stk.drop (ltk (kd,nm,num) stk)=ar at g2 ha hbits oL
  have a0:=Ra hbits 0
  have a1:=Ra hbits 1
  have e14:sU (i:Int) ts stk=atZ ar 0:=by simp only [sU,g2];rfl
  have e1:Option.getD ar[Int.toNat (1:Int)]? (0:Int)=atZ ar 1:=rfl
  have hlk:ltk (kd,nm,num) stk≤stk.length:=Nat.sub_le _ _
  have l0:ltI (i:Int) (ts.length:Int)=true:=eQ (by omega)
  have l1:leI 0 (i:Int)=true:=cw (by omega)
  have l2:ltN i ts.length=true:=ib fa
  have l3:leI 0 ((ltk (kd,nm,num) stk:Nat):Int)=true:=cw (by omega)
  have l4:leI ((ltk (kd,nm,num) stk:Nat):Int) (stk.length:Int)=true:=cw (by omega)
  have l5:leI (stk.length:Int) (stk.length:Int)=true:=cw (by omega)
  have hal:ar.length≤40:=by rw [← hA,List.length_drop];omega
  have l6:leN ar.length 1048576=true:=dx (by omega)
  have l6b:leN (List.take (ltk (kd,nm,num) stk) stk).length 1048576=true:=dx (by rw [List.length_take];omega)
  have l7:leN ((List.take (ltk (kd,nm,num) stk) stk).length + 1) 9223372036854775807=true:=dx (by rw [List.length_take];omega)
  have l8:leN (((List.take (ltk (kd,nm,num) stk) stk).length + 1) * 8) 140737488355328=true:=dx (by rw [List.length_take];omega)
  have z00:leI (0:Int) 0=true:=rfl
  have z01:leI (0:Int) 1=true:=rfl
  have y0:iP (i:Int) ts xs=xs:=Bool.cond_self _ _
  have hfin:bh (i:Int) (k':Int) ts stk inp ins vs xs ss'= [tmV ins vs inp xs (kd,nm,num) ar (stAt ss' k')]∧
    bL (i:Int) (k':Int) ts=((bif leI 7 kd then k' + 1 else k':Nat):Int)∧bM (i:Int) (k':Int) ts stk ss'=(bif leI 7 kd then ss'.set k' (WL kd num ar (stAt ss' k'))else ss')∧
    (aY.lt ((i:Int),(k':Int),ts,stk,u,v,inp,ins,vs,os,ls,xs,ss')).nds=true:=by
   have hc:kd=1∨kd=2∨kd=3∨kd=4∨kd=5∨kd=6∨(7≤kd∧kd≤12):=by omega
   have n29: ∀ z:Int,leN (List.length (List.take (ltk (kd,nm,num) stk) stk) + List.length [z]) 9223372036854775807=true:=fun z=>l7
   have n30: ∀ z:Int,leN ((List.length (List.take (ltk (kd,nm,num) stk) stk) + List.length [z]) * 8) 140737488355328=true:=fun z=>l8
   rcases hc with rfl | rfl | rfl | rfl | rfl | rfl | hc
   ·have hr:Vb ins vs nm=true:=by simpa [usedB] using hu
    obtain⟨v1,v2⟩:=aeh nm ins vs inp xs hr h1 h2 hi hx
    have hv:bh (i:Int) (k':Int) ts stk inp ins vs xs ss'= [tmV ins vs inp xs (1,nm,num) ar (stAt ss' k')]:=by simp [bh,tmV,q4,g0,v1]
    refine⟨hv,?_,?_,?_⟩
    ·simp [bL,q4,show leI 7 (1:Int)=false from rfl]
    ·simp [bM,q4,show leI 7 (1:Int)=false from rfl]
    ·simp only [dS,ly,lz,jJ,jK,lA,lB,lC,lD,lE,kq,kr,kt,ku,kv,kw,kx,ky,kz,kA,kB,kC,kD,kE,kF,iK,iL,iM,kG,kH,kI,iN,bL,iO,iP,bM,eJ,aY,LT.nds,allT,g0,g1,g2,g3,q4,q5,q6,q7,q10,q13,hv,v2,l0,l1,l2,l3,l4,l5,l6,l6b,n29,n30,z00,Int.toNat_natCast];rfl
   ·have hv:bh (i:Int) (k':Int) ts stk inp ins vs xs ss'= [tmV ins vs inp xs (2,nm,num) ar (stAt ss' k')]:=by simp [bh,tmV,q4,q5]
    refine⟨hv,?_,?_,?_⟩
    ·simp [bL,q4,q5,show leI 7 (2:Int)=false from rfl]
    ·simp [bM,q4,q5,show leI 7 (2:Int)=false from rfl]
    ·simp only [dS,ly,lz,jJ,jK,lA,lB,lC,lD,lE,kq,kr,kt,ku,kv,kw,kx,ky,kz,kA,kB,kC,kD,kE,kF,iK,iL,iM,kG,kH,kI,iN,bL,iO,iP,bM,eJ,aY,LT.nds,allT,g0,g1,g2,g3,q4,q5,q6,q7,q10,q13,hv,l0,l1,l2,l3,l4,l5,l6,l6b,n29,n30,z00,Int.toNat_natCast];rfl
   ·have hv:bh (i:Int) (k':Int) ts stk inp ins vs xs ss'= [tmV ins vs inp xs (3,nm,num) ar (stAt ss' k')]:=by simp [bh,tmV,q4,q5,q6]
    refine⟨hv,?_,?_,?_⟩
    ·simp [bL,q4,q5,q6,show leI 7 (3:Int)=false from rfl]
    ·simp [bM,q4,q5,q6,show leI 7 (3:Int)=false from rfl]
    ·simp only [dS,ly,lz,jJ,jK,lA,lB,lC,lD,lE,kq,kr,kt,ku,kv,kw,kx,ky,kz,kA,kB,kC,kD,kE,kF,iK,iL,iM,kG,kH,kI,iN,bL,iO,iP,bM,eJ,aY,LT.nds,allT,g0,g1,g2,g3,q4,q5,q6,q7,q10,q13,hv,l0,l1,l2,l3,l4,l5,l6,l6b,n29,n30,z00,Int.toNat_natCast];rfl
   ·have t:takesK 4=1:=rfl
    rw [t]at oL
    have s1:iQ (i:Int) ts stk=true:=by simp only [iQ,g2];exact eQ (by omega)
    have s2:iR (i:Int) ts stk=true:=by simp only [iR,g2];exact ib (by simp only [Int.toNat_zero];omega)
    have hv:bh (i:Int) (k':Int) ts stk inp ins vs xs ss'= [tmV ins vs inp xs (4,nm,num) ar (stAt ss' k')]:=by simp [bh,tmV,q4,q5,q6,q7,e14,akr a0]
    refine⟨hv,?_,?_,?_⟩
    ·simp [bL,q4,q5,q6,q7,show leI 7 (4:Int)=false from rfl]
    ·simp [bM,q4,q5,q6,q7,show leI 7 (4:Int)=false from rfl]
    ·simp only [dS,ly,lz,jJ,jK,lA,lB,lC,lD,lE,kq,kr,kt,ku,kv,kw,kx,ky,kz,kA,kB,kC,kD,kE,kF,iK,iL,iM,kG,kH,kI,iN,bL,iO,iP,bM,eJ,aY,LT.nds,allT,g0,g1,g2,g3,q4,q5,q6,q7,q10,q13,s1,s2,hv,l0,l1,l2,l3,l4,l5,l6,l6b,n29,n30,z00,Int.toNat_natCast];rfl
   ·have t:takesK 5=2:=rfl
    rw [t]at oL
    have s1:iQ (i:Int) ts stk=true:=by simp only [iQ,g2];exact eQ (by omega)
    have s2:iR (i:Int) ts stk=true:=by simp only [iR,g2];exact ib (by simp only [Int.toNat_zero];omega)
    have s3:pv (i:Int) ts stk=true:=by simp only [pv,g2];exact eQ (by omega)
    have s4:pw (i:Int) ts stk=true:=by simp only [pw,g2];exact ib (by have:(Int.toNat 1)=1:=rfl;omega)
    have hv:bh (i:Int) (k':Int) ts stk inp ins vs xs ss'= [tmV ins vs inp xs (5,nm,num) ar (stAt ss' k')]:=by
     have:=aic a0 a1
     simp only [bh,tmV,q4,q5,q6,q7,q10,e14,g2,e1,this];rfl
    refine⟨hv,?_,?_,?_⟩
    ·simp [bL,q4,q5,q6,q7,q10,show leI 7 (5:Int)=false from rfl]
    ·simp [bM,q4,q5,q6,q7,q10,show leI 7 (5:Int)=false from rfl]
    ·simp only [dS,ly,lz,jJ,jK,lA,lB,lC,lD,lE,kq,kr,kt,ku,kv,kw,kx,ky,kz,kA,kB,kC,kD,kE,kF,iK,iL,iM,kG,kH,kI,iN,bL,iO,iP,bM,eJ,aY,LT.nds,allT,g0,g1,g2,g3,q4,q5,q6,q7,q10,q13,s1,s2,s3,s4,hv,l0,l1,l2,l3,l4,l5,l6,l6b,n29,n30,z00,z01,Int.toNat_natCast];rfl
   ·have t:takesK 6=2:=rfl
    rw [t]at oL
    have s1:iQ (i:Int) ts stk=true:=by simp only [iQ,g2];exact eQ (by omega)
    have s2:iR (i:Int) ts stk=true:=by simp only [iR,g2];exact ib (by simp only [Int.toNat_zero];omega)
    have s3:pv (i:Int) ts stk=true:=by simp only [pv,g2];exact eQ (by omega)
    have s4:pw (i:Int) ts stk=true:=by simp only [pw,g2];exact ib (by have:(Int.toNat 1)=1:=rfl;omega)
    have hv:bh (i:Int) (k':Int) ts stk inp ins vs xs ss'= [tmV ins vs inp xs (6,nm,num) ar (stAt ss' k')]:=by
     have:=akw a0 a1
     simp only [bh,tmV,q4,q5,q6,q7,q10,q13,e14,g2,e1,this];rfl
    refine⟨hv,?_,?_,?_⟩
    ·simp [bL,q4,q5,q6,q7,q10,q13,show leI 7 (6:Int)=false from rfl]
    ·simp [bM,q4,q5,q6,q7,q10,q13,show leI 7 (6:Int)=false from rfl]
    ·simp only [dS,ly,lz,jJ,jK,lA,lB,lC,lD,lE,kq,kr,kt,ku,kv,kw,kx,ky,kz,kA,kB,kC,kD,kE,kF,iK,iL,iM,kG,kH,kI,iN,bL,iO,iP,bM,eJ,aY,LT.nds,allT,g0,g1,g2,g3,q4,q5,q6,q7,q10,q13,s1,s2,s3,s4,hv,l0,l1,l2,l3,l4,l5,l6,l6b,n29,n30,z00,z01,Int.toNat_natCast];rfl
   ·have q:leI 7 kd=true:=cw hc.1
    obtain⟨b1,b2⟩:=hb7 q
    have hB:=SN (t:=(kd,nm,num)) hT q
    simp only at hB
    obtain⟨p0,p1,p2,p3,p4,p5,p6⟩:=ajB hB b2 ha
    have t1:(kd==1)=false:=by simp;omega
    have t2:(kd==2)=false:=by simp;omega
    have t3:(kd==3)=false:=by simp;omega
    have t4:(kd==4)=false:=by simp;omega
    have t5:(kd==5)=false:=by simp;omega
    have t6:(kd==6)=false:=by simp;omega
    have m0:leI 0 (k':Int)=true:=cw (by omega)
    have m1:ltI (k':Int) (ss'.length:Int)=true:=eQ (by omega)
    have m2:ltN k' ss'.length=true:=ib b1
    have hw2:IntKind.i64.wrap ((k':Int) + 1)=((k' + 1:Nat):Int):=by rw [aT (by omega) (by omega)];omega
    have hv:bh (i:Int) (k':Int) ts stk inp ins vs xs ss'= [tmV ins vs inp xs (kd,nm,num) ar (stAt ss' k')]:=by
     simp only [bh,tmV,q4,q5,q6,q7,q10,q13,t1,t2,t3,t4,t5,t6,cond_false,g0,q15,g2,aoA]
    refine⟨hv,?_,?_,?_⟩
    ·simp only [bL,q4,q5,q6,q7,q10,q13,t1,t2,t3,t4,t5,t6,cond_false,q,cond_true,hw2]
    ·simp only [bM,q4,q5,q6,q7,q10,q13,t1,t2,t3,t4,t5,t6,cond_false,q,cond_true,g0,q15,g2,WL,Int.toNat_natCast]
    ·simp only [dS,ly,lz,jJ,jK,lA,lB,lC,lD,lE,kq,kr,kt,ku,kv,kw,kx,ky,kz,kA,kB,kC,kD,kE,kF,iK,iL,iM,kG,kH,kI,iN,bL,iO,iP,bM,eJ,aY,LT.nds,allT,g0,g1,g2,g3,q4,q5,q6,q7,q10,q13,t1,t2,t3,t4,t5,t6,hv,p5,m0,m1,m2,l0,l1,l2,l3,l4,l5,l6,l6b,n29,n30,z00,z01,Int.toNat_natCast];rfl
  obtain⟨f1,f2,f3,f4⟩:=hfin
  refine⟨f4,?_,?_,fun a' hf=> ?_⟩
  ·have c31:iN (i:Int)=((i + 1:Nat):Int):=hw
   have c0:dS (i:Int) ts=true:=l0
   simp only [aY,eJ,LT.each,c0,c31,f2,y0,Int.toNat_natCast]
   simp
  ·have c0:dS (i:Int) ts=true:=l0
   simp only [aY,eJ,LT.fn,c0,cond_true,iO,f1,f2,f3,g3,Int.toNat_natCast,lnS,hA]
  ·simp only [Sum.inr.injEq]at hf
   subst hf;exact hI2
 ·have cq:dS (ts.length:Int) ts=false:=Na (by omega)
  simp only [aY,eJ,LT.out,cq]
  rfl
abbrev bY:=Int×Int×List (ByteArray×(List (Int×(ByteArray×Int))))×ByteArray×ByteArray×Int×List ByteArray×List ByteArray×List ByteArray×List Int×List (Int×(Int×Int))×List Int×List Int
def aM(y0:Int)(y2:List (ByteArray×(List (Int×(ByteArray×Int))))):ByteArray×List (Int×ByteArray×Int):=Option.getD y2[Int.toNat y0]? (xt (CTy.pair CTy.str (CTy.sl (178:Nat) aeH)))
def ge(y0 y1:Int):Bool:=ltI y0 y1
def gf(y0:Int):Bool:=leI (0:Int) y0
def gg(y0:Int)(y2:List (ByteArray×(List (Int×(ByteArray×Int))))):Bool:=ltI y0 (↑y2.length:Int)
def gh(y0:Int)(y2:List (ByteArray×(List (Int×(ByteArray×Int))))):Bool:=ltN y0.toNat y2.length
def gi(y0:Int)(y2:List (ByteArray×(List (Int×(ByteArray×Int)))))(y3 y4:ByteArray)(y5:Int)(y6 y7 y8:List ByteArray)(y9:List Int)(y10:List (Int×(Int×Int)))(y11 y12:List Int):Bool:=fH ((aM y0 y2).1) y3 y4 y5 ((aM y0 y2).2) y6 y7 y8 y2 y9 y10 y11 y12
def gj(y0:Int):Int:=IntKind.wrap .i64 (y0 + (1:Int))
def gk(y0:Int)(y2:List (ByteArray×(List (Int×(ByteArray×Int)))))(y3 y4:ByteArray)(y5:Int)(y6 y7 y8:List ByteArray)(y9:List Int)(y10:List (Int×(Int×Int)))(y11 y12:List Int):ByteArray:=jU y3 y4 y5 ((aM y0 y2).2) y6 y7 y8 y2 y9 y10 y11 y12
def gm(y0:Int)(y2:List (ByteArray×(List (Int×(ByteArray×Int)))))(y3 y4:ByteArray)(y5:Int)(y6 y7 y8:List ByteArray)(y9:List Int)(y10:List (Int×(Int×Int)))(y11 y12:List Int):ByteArray:=jV y3 y4 y5 ((aM y0 y2).2) y6 y7 y8 y2 y9 y10 y11 y12
def gn(y0:Int)(y2:List (ByteArray×(List (Int×(ByteArray×Int)))))(y3 y4:ByteArray)(y5:Int)(y6 y7 y8:List ByteArray)(y9:List Int)(y10:List (Int×(Int×Int)))(y11 y12:List Int):Int:=jW y3 y4 y5 ((aM y0 y2).2) y6 y7 y8 y2 y9 y10 y11 y12
def gp(y0:Int)(y2:List (ByteArray×(List (Int×(ByteArray×Int)))))(y3 y4:ByteArray)(y5:Int)(y6 y7 y8:List ByteArray)(y9:List Int)(y10:List (Int×(Int×Int)))(y11 y12:List Int):List Int:=jX ((aM y0 y2).1) y3 y4 y5 ((aM y0 y2).2) y6 y7 y8 y2 y9 y10 y11 y12
def fF(y0:Int)(y2:List (ByteArray×(List (Int×(ByteArray×Int)))))(y3 y4:ByteArray)(y5:Int)(y6 y7 y8:List ByteArray)(y9:List Int)(y10:List (Int×(Int×Int)))(y11 y12:List Int):List (Int×(Int×Int)):=jY y3 y4 y5 ((aM y0 y2).2) y6 y7 y8 y2 y9 y10 y11 y12
def fG(y0:Int)(y2:List (ByteArray×(List (Int×(ByteArray×Int)))))(y3 y4:ByteArray)(y5:Int)(y6 y7 y8:List ByteArray)(y9:List Int)(y10:List (Int×(Int×Int)))(y11 y12:List Int):List Int:=jZ ((aM y0 y2).1) y3 y4 y5 ((aM y0 y2).2) y6 y7 y8 y2 y9 y10 y11 y12
def FY:bY→List (Nat×SV)
 |(y0,y1,_,_,_,_,_,_,_,_,_,_,_)=> [(24,(.one ⟨false,[.val (.int .i64 y0)]⟩)),(23,(.one ⟨false,[.val (.int .i64 y1)]⟩)),(22,(.one ⟨false,[.ref 0]⟩)),(8,(.one ⟨false,[.ptr 1 0]⟩))]
def FW:bY→List (Nat×Entry)
 |(_,_,y2,y3,y4,y5,y6,y7,y8,y9,y10,y11,y12)=> [(0,(.row false 204 (CTy.pair CTy.str (CTy.sl (178:Nat) aeH)) y2)),(1,(.box 202 [.val (.string y3),.ref 2,.ref 3,.ref 4,.val (.string y4),.ref 0,.ref 5,.ref 6,.ref 7,.ref 8,.val (.int .i64 y5)])),(2,(.row false 9 agS y6)),(3,(.row false 9 agS y7)),(4,(.row false 9 agS y8)),(5,(.row true 2 afY y9)),(6,(.row true 172 aaK y10)),(7,(.row false 2 afY y11)),(8,(.row true 2 afY y12))]
def Gc:Nat→bY→List (Nat×SV)
 |_,(_,_,_,_,_,_,_,_,_,_,_,_,_)=> []
def Ga:Nat→bY→List (Nat×Entry)
 |_,(_,_,y2,y3,y4,y5,y6,y7,y8,y9,y10,y11,y12)=> [(0,(.row false 204 (CTy.pair CTy.str (CTy.sl (178:Nat) aeH)) y2)),(1,(.box 202 [.val (.string y3),.ref 2,.ref 3,.ref 4,.val (.string y4),.ref 0,.ref 5,.ref 6,.ref 7,.ref 8,.val (.int .i64 y5)])),(2,(.row false 9 agS y6)),(3,(.row false 9 agS y7)),(4,(.row false 9 agS y8)),(5,(.row true 2 afY y9)),(6,(.row true 172 aaK y10)),(7,(.row false 2 afY y11)),(8,(.row true 2 afY y12))]
def fL:bY→LT bY
 |(y0,y1,y2,y3,y4,y5,y6,y7,y8,y9,y10,y11,y12)=> .ite (ge y0 y1) (.need [gf y0,gg y0 y2,gh y0 y2] (.need [gi y0 y2 y3 y4 y5 y6 y7 y8 y9 y10 y11 y12] (.nrm ((gj y0),y1,y2,gk y0 y2 y3 y4 y5 y6 y7 y8 y9 y10 y11 y12,gm y0 y2 y3 y4 y5 y6 y7 y8 y9 y10 y11 y12,gn y0 y2 y3 y4 y5 y6 y7 y8 y9 y10 y11 y12,y6,y7,y8,gp y0 y2 y3 y4 y5 y6 y7 y8 y9 y10 y11 y12,fF y0 y2 y3 y4 y5 y6 y7 y8 y9 y10 y11 y12,y11,(fG y0 y2 y3 y4 y5 y6 y7 y8 y9 y10 y11 y12)) [(0,0),(1,1),(2,2),(3,3),(4,4),(5,5),(6,6),(7,7),(8,8)]))) (.ext 0 [(0,0),(1,1),(2,2),(3,3),(4,4),(5,5),(6,6),(7,7),(8,8)])
def pf(s:St):Option bY:=
 (match s.look 24 with
 |some ⟨none,.one ⟨false,[.val (.int .i64 y0)]⟩⟩=>
 (match s.look 23 with
 |some ⟨none,.one ⟨false,[.val (.int .i64 y1)]⟩⟩=>
 (match s.look 22 with
 |some ⟨none,.one ⟨false,[.ref 3]⟩⟩=>
 (match s.look 8 with
 |some ⟨none,.one ⟨false,[.ptr 1344 0]⟩⟩=>
 (match s.ent 3 with
 |some (.row false 204 (.pair .str (.sl (178:Nat) (.pair (.int .i64) (.pair .str (.int .i64))))) y2)=>
 (match s.ent 1344 with
 |some (.box 202 [.val (.string y3),.ref 0,.ref 1,.ref 2,.val (.string y4),.ref 3,.ref 896,.ref 897,.ref 6,.ref 1216,.val (.int .i64 y5)])=>
 (match s.ent 0 with
 |some (.row false 9 (.str) y6)=>
 (match s.ent 1 with
 |some (.row false 9 (.str) y7)=>
 (match s.ent 2 with
 |some (.row false 9 (.str) y8)=>
 (match s.ent 896 with
 |some (.row true 2 (.int .i64) y9)=>
 (match s.ent 897 with
 |some (.row true 172 (.pair (.int .i64) (.pair (.int .i64) (.int .i64))) y10)=>
 (match s.ent 6 with
 |some (.row false 2 (.int .i64) y11)=>
 (match s.ent 1216 with
 |some (.row true 2 (.int .i64) y12)=>
 some (y0,y1,y2,y3,y4,y5,y6,y7,y8,y9,y10,y11,y12)
 |_=>none)
 |_=>none)
 |_=>none)
 |_=>none)
 |_=>none)
 |_=>none)
 |_=>none)
 |_=>none)
 |_=>none)
 |_=>none)
 |_=>none)
 |_=>none)
 |_=>none)
def aF:Lp bY where
 h:=⟨[25,26,27,10,28,29,30,31,24],[0,1,2,3,4,5,6,7,8],[],[]⟩
 JL:=FY
 JE:=FW
 XL:=Gc
 XE:=Ga
 q:=fun j=>match j with | _=> .exit 0
 tags:= [0]
 lt:=fL
 fuel:=fun(y0,y1,y2,y3,y4,y5,y6,y7,y8,y9,y10,y11,y12)=>y0.natAbs + y1.natAbs + y2.length + y3.size + y4.size + y5.natAbs + y6.length + y7.length + y8.length + y9.length + y10.length + y11.length + y12.length
 fix:=fun(_,y1,y2,_,_,_,y6,y7,y8,_,_,y11,_) (y0,_,_,y3,y4,y5,_,_,_,y9,y10,_,y12)=>(y0,y1,y2,y3,y4,y5,y6,y7,y8,y9,y10,y11,y12)
 σ:= [(0,3),(1,1344),(2,0),(3,1),(4,2),(5,896),(6,897),(7,6),(8,1216)]
 rd:=pf
theorem ES:LoopOk prog (fun k=>Nat.blt k Tryz.f111.ntmps) aF.F (aS f111 0):=by
 refine Lp.ok (tbl:= [xa,vB,va]) (lf:= []) aQ aF (by kernel_rfl) (LOk.nil _) (fun _=>rfl) (fun _ _=>rfl) ?_ ?_ ?_ ?_ (fun _=>rfl) ?_
 ·rintro⟨y0,y1,y2,y3,y4,y5,y6,y7,y8,y9,y10,y11,y12⟩;kernel_rfl
 ·rintro⟨y0,y1,y2,y3,y4,y5,y6,y7,y8,y9,y10,y11,y12⟩;kernel_rfl
 ·intro s x h
  have h:pf s=some x:=h
  unfold pf at h
  repeat' split at h
  all_goals cases h
  exact⟨aa (by assumption) rfl (aa (by assumption) rfl (aa (by assumption) rfl (aa (by assumption) rfl (rfl)))),ab rfl (by assumption) rfl (ab rfl (by assumption) rfl (ab rfl (by assumption) rfl (ab rfl (by assumption) rfl (ab rfl (by assumption) rfl (ab rfl (by assumption) rfl (ab rfl (by assumption) rfl (ab rfl (by assumption) rfl (ab rfl (by assumption) rfl (rfl)))))))))⟩
 ·rintro⟨y0,y1,y2,y3,y4,y5,y6,y7,y8,y9,y10,y11,y12⟩;kernel_rfl
 ·rintro⟨y0,y1,y2,y3,y4,y5,y6,y7,y8,y9,y10,y11,y12⟩ z;exact(And.intro rfl trivial)
section
variable (x0 x1:ByteArray)(x2 x3 x4:List ByteArray)(x5:List (ByteArray×List (Int×ByteArray×Int)))(x6:List Int)(x7:List (Int×Int×Int))(x8:List Int)
def di:Bool:= !ByteArray.toList x1==ByteArray.toList (ByteArray.mk #[])
def ic:Int×Int×List (ByteArray×List (Int×ByteArray×Int))×ByteArray×ByteArray×Int×List ByteArray×List ByteArray×List ByteArray×List Int×List (Int×Int×Int)×List Int×List Int:=((0:Int),(↑x5.length:Int),x5,x0,x1,(0:Int),x2,x3,x4,x6,x7,x8,List.replicate (Int.toNat (↑x4.length:Int)) (0:Int))
def lk:List Int×List (Int×Int×Int)×List Int×List Int:=(Lp.res aF (ic x0 x1 x2 x3 x4 x5 x6 x7 x8)).2.2.2.2.2.2.2.2.2.2
def ey:List Int:=(lk x0 x1 x2 x3 x4 x5 x6 x7 x8).1
def ll:List (Int×Int×Int)×List Int×List Int:=(lk x0 x1 x2 x3 x4 x5 x6 x7 x8).2
def qs:List Int:=(ll x0 x1 x2 x3 x4 x5 x6 x7 x8).2.2
def lm:List Int:=bif di x1&&true then oG x1 x2 (qs x0 x1 x2 x3 x4 x5 x6 x7 x8)else qs x0 x1 x2 x3 x4 x5 x6 x7 x8
def ln:List (Int×Int×Int):=(ll x0 x1 x2 x3 x4 x5 x6 x7 x8).1
def lU:List Int:=bif bif di x1 then jw x1 x2 x3 (ey x0 x1 x2 x3 x4 x5 x6 x7 x8) x8==(0:Int)else false then Vl (List.length (lm x0 x1 x2 x3 x4 x5 x6 x7 x8))else lm x0 x1 x2 x3 x4 x5 x6 x7 x8
def lV:List Int:=bif di x1&&true then oE x1 x2 (ey x0 x1 x2 x3 x4 x5 x6 x7 x8)else ey x0 x1 x2 x3 x4 x5 x6 x7 x8
def lW:List (Int×(Int×Int)):=bif di x1&&true then oF x1 x2 (ln x0 x1 x2 x3 x4 x5 x6 x7 x8)else ln x0 x1 x2 x3 x4 x5 x6 x7 x8
def lX:Bool:=allT [lg x6 x7,leI (0:Int) (↑x4.length:Int),leI (↑x4.length:Int) (↑x4.length:Int),leI ((↑(8:Nat):Int) * (↑x4.length:Int)) (281474976710656:Int),leI (↑x4.length:Int) (9223372036854775807:Int),Lp.fin aF (ic x0 x1 x2 x3 x4 x5 x6 x7 x8),!(di x1&&true)||jx x1 x2 x3 (ey x0 x1 x2 x3 x4 x5 x6 x7 x8) x8]
end
def xT:List SV→List Entry→Option Out
 | [.one ⟨true,[.val (.string x0),.ref 0,.ref 1,.ref 2,.val (.string x1),.ref 3]⟩,.one ⟨true,[.ref 4,.ref 5]⟩,.one ⟨false,[.ref 6]⟩],[.row false 9 (.str) x2,.row false 9 (.str) x3,.row false 9 (.str) x4,.row false 204 (.pair (.str) (.sl 178 (.pair (.int .i64) (.pair (.str) (.int .i64))))) x5,.row false 2 (.int .i64) x6,.row false 172 (.pair (.int .i64) (.pair (.int .i64) (.int .i64))) x7,.row false 2 (.int .i64) x8]=>some ⟨.tup [⟨false,[.ref 7]⟩,⟨true,[.ref 8,.ref 9]⟩],[.row false 9 agS x2,.row false 9 agS x3,.row false 9 agS x4,.row false 204 (CTy.pair CTy.str (CTy.sl (178:TypeId) aeH)) x5,.row false 2 afY x6,.row false 172 aaK x7,.row false 2 afY x8],[.row true 2 afY (lU x0 x1 x2 x3 x4 x5 x6 x7 x8),.row true 2 afY (lV x0 x1 x2 x3 x4 x5 x6 x7 x8),.row true 172 aaK (lW x0 x1 x2 x3 x4 x5 x6 x7 x8)],[lX x0 x1 x2 x3 x4 x5 x6 x7 x8]⟩
 |_,_=>none
def IG:PF prog:=PF.ofG prog [xa,vB,va] [aF.F] aQ 111 f111 func111 (LOk.fnT (l:= [aS f111 0]) (by kernel_rfl) (.cons ES (.nil _))) xT (by
 intro vs es r h;unfold xT at h;split at h
 ·cases h;kernel_rfl
 ·cases h)
section
variable (x0 x1:ByteArray)(x2 x3 x4:List ByteArray)(x5:List (ByteArray×List (Int×ByteArray×Int)))(x6:List Int)(x7:List (Int×Int×Int))(x8:List Int)
def Qg:Int:=Lv x0 x1 x2 x3 x4 x5 x6 x7 [x8]
def CW:Bool:=Qg x0 x1 x2 x3 x4 x5 x6 x7 x8 !=(0:Int)
def RE:Int:=bif CW x0 x1 x2 x3 x4 x5 x6 x7 x8 then Qg x0 x1 x2 x3 x4 x5 x6 x7 x8 else(0:Int)
def RF:List Int:=bif CW x0 x1 x2 x3 x4 x5 x6 x7 x8 then []else lU x0 x1 x2 x3 x4 x5 x6 x7 x8
def RG:List Int:=bif CW x0 x1 x2 x3 x4 x5 x6 x7 x8 then []else lV x0 x1 x2 x3 x4 x5 x6 x7 x8
def RH:List (Int×(Int×Int)):=bif CW x0 x1 x2 x3 x4 x5 x6 x7 x8 then []else lW x0 x1 x2 x3 x4 x5 x6 x7 x8
def RI:Bool:=allT [Lw x0 x1 x2 x3 x4 x5 x6 x7 [x8],CW x0 x1 x2 x3 x4 x5 x6 x7 x8||lX x0 x1 x2 x3 x4 x5 x6 x7 x8]
end
def XC:List SV→List Entry→Option Out
 | [.one ⟨true,[.val (.string x0),.ref 0,.ref 1,.ref 2,.val (.string x1),.ref 3]⟩,.one ⟨true,[.ref 4,.ref 5]⟩,.one ⟨false,[.ref 6]⟩],[.row false 9 (.str) x2,.row false 9 (.str) x3,.row false 9 (.str) x4,.row false 204 (.pair (.str) (.sl 178 (.pair (.int .i64) (.pair (.str) (.int .i64))))) x5,.row false 2 (.int .i64) x6,.row false 172 (.pair (.int .i64) (.pair (.int .i64) (.int .i64))) x7,.row false 2 (.int .i64) x8]=>some ⟨.tup [⟨false,[.ref 7]⟩,⟨true,[.ref 8,.ref 9]⟩,⟨false,[.val (.int .i64 (RE x0 x1 x2 x3 x4 x5 x6 x7 x8))]⟩],[.row false 9 agS x2,.row false 9 agS x3,.row false 9 agS x4,.row false 204 (CTy.pair CTy.str (CTy.sl (178:TypeId) aeH)) x5,.row false 2 afY x6,.row false 172 aaK x7,.row false 2 afY x8],[.row true 2 afY (RF x0 x1 x2 x3 x4 x5 x6 x7 x8),.row true 2 afY (RG x0 x1 x2 x3 x4 x5 x6 x7 x8),.row true 172 aaK (RH x0 x1 x2 x3 x4 x5 x6 x7 x8)],[RI x0 x1 x2 x3 x4 x5 x6 x7 x8]⟩
 |_,_=>none
def ahe:PF prog:=PF.ofG prog [Qr,PF.lend Qr,PF.fz Qr,IG] [] aQ 39 f39 func39 (fun c _=>LOk.nil c) XC (by
 intro vs es r h;unfold XC at h;split at h
 ·cases h;kernel_rfl
 ·cases h)
end Go.SX
