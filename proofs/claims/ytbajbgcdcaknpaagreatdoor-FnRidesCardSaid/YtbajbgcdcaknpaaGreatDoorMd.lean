/- What functions of the program come to, and what that says in plain words: part 4. -/
import Derived.Test.YtbajbgcdcaknpaaGreatDoorMc
import Derived.Test.YtbajbgcdcaknpaaGreatDoorTXh
import Derived.Test.YtbajbgcdcaknpaaGreatDoorProg
import Derived.Test.YtbajbgcdcaknpaaGreatDoorTXi
set_option linter.unusedSimpArgs false
set_option linter.unusedVariables false
namespace Go.SX
open Go.Proofs Go.Proofs.Tryz
set_option maxRecDepth 100000
section
variable (x0:List Int)
def mJ:Bool:=nxV 8 0 (frS x0) x0==0
def yp:Int:=nxS 8 0 (frS x0) x0
def CZ:Int:=pkA (nxA 8 0 x0) [(1:Int),(2:Int),(8:Int),(9:Int)] x0
def IO:Int:=pkS (nxA 8 0 x0) (yp x0) [(1:Int),(2:Int),(8:Int),(9:Int)] x0
def mK:Int:=nxA 7 (nxA 8 0 x0) x0
def yq:Int:=nxS 7 (nxA 8 0 x0) (yp x0) x0
def Pq:Int:=pkA (CZ x0) [(0:Int),(1:Int),(4:Int),(5:Int)] x0
def Pr:Int:=pkS (CZ x0) (IO x0) [(0:Int),(1:Int),(4:Int),(5:Int)] x0
def Ps:Bool:=aD (nxA 8 0 x0) (yp x0) x0
def ab:Int:=bif mJ x0 then pkV (nxA 8 0 x0) (yp x0) [(1:Int),(2:Int),(8:Int),(9:Int)] x0 else IntKind.wrap .i64 ((2:Int) + nxV 7 (nxA 8 0 x0) (yp x0) x0)
def aa:Int:=bif mJ x0 then pkV (CZ x0) (IO x0) [(0:Int),(1:Int),(4:Int),(5:Int)] x0 else IntKind.wrap .i64 ((1:Int) + nxV 4 (mK x0) (yq x0) x0)
def ac:Int:=bif mJ x0 then pkV (Pq x0) (Pr x0) [(0:Int),(1:Int),(12:Int),(13:Int)] x0 else IntKind.wrap .i64 ((1:Int) + nxV 12 (nxA 4 (mK x0) x0) (nxS 4 (mK x0) (yq x0) x0) x0)
def KF:Bool:=allT [aD 0 0 x0,aD 0 (frS x0) x0,!mJ x0||Ps x0&&leN 1 (List.length [(1:Int),(2:Int),(8:Int),(9:Int)]),!mJ x0||aD (CZ x0) (IO x0) x0&&leN 1 (List.length [(0:Int),(1:Int),(4:Int),(5:Int)]),!mJ x0||aD (Pq x0) (Pr x0) x0&&leN 1 (List.length [(0:Int),(1:Int),(12:Int),(13:Int)]),mJ x0||Ps x0,mJ x0||aD (mK x0) (yq x0) x0,mJ x0||aD (nxA 4 (mK x0) x0) (nxS 4 (mK x0) (yq x0) x0) x0]
end
def Xm:List SV→List Entry→Option Out
 | [.one ⟨false,[.ref 0]⟩],[.row false 5 (.int .u8) x0]=>some ⟨.tup [⟨false,[.val (.int .i64 (ab x0))]⟩,⟨false,[.val (.int .i64 (aa x0))]⟩,⟨false,[.val (.int .i64 (ac x0))]⟩],[.row false 5 ak9 x0],[],[KF x0]⟩
 |_,_=>none
def QM:PF prog:=PF.ofG prog (T3z [Jk,am,ao]) [] aO 19 f19 func19 (fun c _=>LOk.nil c) Xm (by
 intro vs es r h;unfold Xm at h;split at h
 ·cases h;kernel_rfl
 ·cases h)
section
variable (x0 x1:Int)
def Ye:Int:=IntKind.wrap IntKind.u64 (IntKind.wrap IntKind.u64 x0 * IntKind.wrap IntKind.u64 x1)
def ajb:Int:=IntKind.wrap IntKind.u32 (Int.fdiv (Ye x0 x1) ((2:Int) ^ min (Int.toNat 32) (IntKind.bits IntKind.u64)))
def ajc:Int:=IntKind.wrap IntKind.u32 (Ye x0 x1)
end
def ZB:List SV→List Entry→Option Out
 | [.one ⟨false,[.val (.int .u32 x0)]⟩,.one ⟨false,[.val (.int .u32 x1)]⟩],[]=>some ⟨.tup [⟨false,[.val (.int IntKind.u32 (ajb x0 x1))]⟩,⟨false,[.val (.int IntKind.u32 (ajc x0 x1))]⟩],[],[],[true]⟩
 |_,_=>none
def ajn:PF prog:=PF.ofG prog [] [] aO 213 f213 func213 (fun c _=>LOk.nil c) ZB (by
 intro vs es r h;unfold ZB at h;split at h
 ·cases h;kernel_rfl
 ·cases h)
section
variable (x0 x1:Int)
def Yf:Int:=Int.fdiv x0 ((2:Int) ^ min (Int.toNat 32) (IntKind.bits IntKind.u64))
def Yg:Int:=Int.fdiv x1 ((2:Int) ^ min (Int.toNat 32) (IntKind.bits IntKind.u64))
def Yh:Int:=IntKind.wrap IntKind.u64 (↑(BitVec.toNat (BitVec.ofInt (IntKind.bits IntKind.u64) x1&&& BitVec.ofInt (IntKind.bits IntKind.u64) 4294967295)):Int)
def Yi:Int:=IntKind.wrap IntKind.u64 (↑(BitVec.toNat (BitVec.ofInt (IntKind.bits IntKind.u64) x0&&& BitVec.ofInt (IntKind.bits IntKind.u64) 4294967295)):Int)
def Yj:Int:=IntKind.wrap IntKind.u64 (IntKind.wrap IntKind.u64 (Yf x0 * Yh x1) + Int.fdiv (IntKind.wrap IntKind.u64 (Yi x0 * Yh x1)) ((2:Int) ^ min (Int.toNat 32) (IntKind.bits IntKind.u64)))
def ZM:Int:=IntKind.wrap IntKind.u64 (IntKind.wrap IntKind.u64 (IntKind.wrap IntKind.u64 (Yf x0 * Yg x1) + Int.fdiv (Yj x0 x1) ((2:Int) ^ min (Int.toNat 32) (IntKind.bits IntKind.u64))) + Int.fdiv (IntKind.wrap IntKind.u64 (IntKind.wrap IntKind.u64 (↑(BitVec.toNat (BitVec.ofInt (IntKind.bits IntKind.u64) (Yj x0 x1)&&& BitVec.ofInt (IntKind.bits IntKind.u64) 4294967295)):Int) + IntKind.wrap IntKind.u64 (Yi x0 * Yg x1))) ((2:Int) ^ min (Int.toNat 32) (IntKind.bits IntKind.u64)))
def ZN:Int:=IntKind.wrap IntKind.u64 (x0 * x1)
end
def ZC:List SV→List Entry→Option Out
 | [.one ⟨false,[.val (.int .u64 x0)]⟩,.one ⟨false,[.val (.int .u64 x1)]⟩],[]=>some ⟨.tup [⟨false,[.val (.int IntKind.u64 (ZM x0 x1))]⟩,⟨false,[.val (.int IntKind.u64 (ZN x0 x1))]⟩],[],[],[true]⟩
 |_,_=>none
def ajo:PF prog:=PF.ofG prog [] [] aO 214 f214 func214 (fun c _=>LOk.nil c) ZC (by
 intro vs es r h;unfold ZC at h;split at h
 ·cases h;kernel_rfl
 ·cases h)
def adO(x0 x1:Int):Int:=ZM x0 x1
def We(x0 x1:Int):Int:=ZN x0 x1
def adu:List SV→List Entry→Option Out
 | [.one ⟨false,[.val (.int .u64 x0)]⟩,.one ⟨false,[.val (.int .u64 x1)]⟩],[]=>some ⟨.tup [⟨false,[.val (.int IntKind.u64 (adO x0 x1))]⟩,⟨false,[.val (.int IntKind.u64 (We x0 x1))]⟩],[],[],[true]⟩
 |_,_=>none
def adP:PF prog:=PF.ofG prog [ajn,ajo] [] aO 161 f161 func161 (fun c _=>LOk.nil c) adu (by
 intro vs es r h;unfold adu at h;split at h
 ·cases h;kernel_rfl
 ·cases h)
abbrev cw:=Int×List Int
section
variable (y0:Int)(y1:List Int)
def Uz:Bool:=ltI y0 (↑y1.length:Int)
def Ju:Bool:=leI 0 y0
def Jv:Bool:=leI y0 (↑y1.length:Int)
def Jw:Bool:=leN y0.toNat y1.length
def UA:Int:=IntKind.wrap .i64 (y0 + (↑(List.length (List.take (List.length y1 - Int.toNat y0) (List.take y0.toNat y1))):Int))
def UB:List Int:=MV y1 y0.toNat (List.take y0.toNat y1)
end
def Tz:cw→List (Nat×SV)
 |(y0,_)=> [(8,(.one ⟨false,[.val (.int .i64 y0)]⟩)),(7,(.one ⟨false,[.ref 0]⟩))]
def Ty:cw→List (Nat×Entry)
 |(_,y1)=> [(0,(.row true 2 aj1 y1))]
def TB:Nat→cw→List (Nat×SV)
 |_,(_,_)=> []
def TA:Nat→cw→List (Nat×Entry)
 |_,(_,y1)=> [(0,(.row true 2 aj1 y1))]
def TD:cw→LT cw
 |(y0,y1)=> .ite (Uz y0 y1) (.need [Ju y0,Jv y0 y1,Ju y0,Jv y0 y1,Jw y0 y1,Jw y0 y1] (.nrm ((UA y0 y1),(UB y0 y1)) [(0,0)])) (.ext 0 [(0,0)])
def yM(s:St):Option cw:=
 (match s.look 8 with
 |some ⟨none,.one ⟨false,[.val (.int .i64 y0)]⟩⟩=>
 (match s.look 7 with
 |some ⟨none,.one ⟨false,[.ref 1536]⟩⟩=>
 (match s.ent 1536 with
 |some (.row true 2 (.int .i64) y1)=>
 some (y0,y1)
 |_=>none)
 |_=>none)
 |_=>none)
def cQ:Lp cw where
 h:=⟨[34,35,36,37,38,39,40,41,42,43,44,45,46,8],[0],[],[]⟩
 JL:=Tz
 JE:=Ty
 XL:=TB
 XE:=TA
 q:=fun j=>match j with | _=> .exit 0
 tags:= [0]
 lt:=TD
 fuel:=fun(y0,y1)=>y0.natAbs + y1.length
 fix:=fun(_,_) (y0,y1)=>(y0,y1)
 σ:= [(0,1536)]
 rd:=yM
theorem Sc:LoopOk prog (fun k=>Nat.blt k Tryz.f71.ntmps) cQ.F (aH f71 0):=by
 refine Lp.ok (tbl:= [PF.parts prog,adP]) (lf:= []) aO cQ (by kernel_rfl) (LOk.nil _) (fun _=>rfl) (fun _ _=>rfl) ?_ ?_ ?_ ?_ (fun _=>rfl) ?_
 ·rintro⟨y0,y1⟩;kernel_rfl
 ·rintro⟨y0,y1⟩;kernel_rfl
 ·intro s x h
  have h:yM s=some x:=h
  unfold yM at h
  repeat' split at h
  all_goals cases h
  constructor<;>repeat(first|refine ae (by assumption) rfl ?_|refine af rfl (by assumption) rfl ?_|exact rfl)
 ·rintro⟨y0,y1⟩;kernel_rfl
 ·rintro⟨y0,y1⟩ z;exact(And.intro rfl trivial)
section
variable (x0:Int)(x1:List Int)
def iU:Int:=IntKind.wrap .i64 (We (IntKind.wrap IntKind.u64 (↑x1.length:Int)) (IntKind.wrap IntKind.u64 x0))
def bx:Int×List Int:=((↑(List.length (List.take (List.length (List.replicate (Int.toNat (iU x0 x1)) (0:Int)) - (0:Nat)) x1)):Int),MV (List.replicate (Int.toNat (iU x0 x1)) (0:Int)) (0:Nat) x1)
def aS:List Int:=(Lp.res cQ (bx x0 x1)).2.2
def bq:Bool:=allT [!ltI x0 0,!bif ltI 0 (adO (IntKind.wrap IntKind.u64 (↑x1.length:Int)) (IntKind.wrap IntKind.u64 x0))then true else ltI 9223372036854775807 (We (IntKind.wrap IntKind.u64 (↑x1.length:Int)) (IntKind.wrap IntKind.u64 x0)),leI 0 (iU x0 x1),leI (iU x0 x1) (iU x0 x1),leI ((↑(8:Nat):Int) * iU x0 x1) 281474976710656,leI (iU x0 x1) 9223372036854775807,Lp.fin cQ (bx x0 x1)]
end
def Mc:List SV→List Entry→Option Out
 | [.one ⟨false,[.ref 0]⟩,.one ⟨false,[.val (.int .i64 x0)]⟩],[.row false 2 (.int .i64) x1]=>some ⟨.one ⟨false,[.ref 1]⟩,[.row false 2 aj1 x1],[.row true 2 aj1 (aS x0 x1)],[bq x0 x1]⟩
 |_,_=>none
def mg:PF prog:=PF.ofG prog [PF.parts prog,adP] [cQ.F] aO 71 f71 func71 (LOk.fnT (l:= [aH f71 0]) (by kernel_rfl) (.cons Sc (.nil _))) Mc (by
 intro vs es r h;unfold Mc at h;split at h
 ·cases h;kernel_rfl
 ·cases h)
abbrev nz:=Int×Int×Int×Int×Int×Int×Int×List Int×List (Int×(Int×Int))×List (List Int)×List (Int×(Int×Int))×List (Int×Int)×List (Int×Int)
section
variable (y0 y1 y2 y3:Int)(y7:List Int)(y9:List (List Int))
def uH:List Int:= [IntKind.wrap .i64 (IntKind.wrap .i64 ((3:Int) * IntKind.wrap .i64 (IntKind.wrap .i64 (y2 - (1:Int)) - y0)) + (1:Int))]
def rq:List Int:= [bif y0==0 then(0:Int)else(2:Int)]
def Gx:Bool:=ltI y0 y1
def Gy:Bool:=leN (List.length y7 + List.length (uH y0 y2)) 9223372036854775807
def Gz:Bool:=leN ((List.length y7 + List.length (uH y0 y2)) * 8) 140737488355328
def GA:Bool:=bq y3 (rq y0)
def GC:Bool:=leN (List.length y9 + List.length [aS y3 (rq y0)]) (9223372036854775807:Nat)
def GD:Bool:=leN ((List.length y9 + List.length [aS y3 (rq y0)]) * 24) 140737488355328
def Md:Int:=IntKind.wrap .i64 (y0 + (1:Int))
def Me:List Int:=y7++uH y0 y2
def Mf:List (List Int):=y9++ [aS y3 (rq y0)]
end
def ahE:nz→List (Nat×SV)
 |(y0,y1,y2,y3,_,_,_,_,_,_,_,_,_)=> [(32,(.one ⟨false,[.val (.int .i64 y0)]⟩)),(31,(.one ⟨false,[.val (.int .i64 y1)]⟩)),(8,(.one ⟨false,[.ptr 0 0]⟩)),(0,(.one ⟨false,[.val (.int .i64 y2)]⟩)),(2,(.one ⟨false,[.val (.int .i64 y3)]⟩))]
def ahv:nz→List (Nat×Entry)
 |(_,_,_,_,y4,y5,y6,y7,y8,y9,y10,y11,y12)=> [(0,(.box 33 [.val (.int .i64 y4),.ref 1,.ref 2,.ref 3,.ref 4,.val (.int .i64 y5),.ref 5,.ref 6,.val (.int .i64 y6)])),(2,(.row true 169 adH y8)),(4,(.row true 100 adH y10)),(5,(.row true 173 aej y11)),(6,(.row true 176 aej y12)),(1,(.row true 2 aj1 y7)),(3,(.tree 24 ajI y9 none))]
def ahX:Nat→nz→List (Nat×SV)
 |_,(_,_,_,_,_,_,_,_,_,_,_,_,_)=> []
def ahO:Nat→nz→List (Nat×Entry)
 |_,(_,_,_,_,y4,y5,y6,y7,y8,y9,y10,y11,y12)=> [(0,(.box 33 [.val (.int .i64 y4),.ref 1,.ref 2,.ref 3,.ref 4,.val (.int .i64 y5),.ref 5,.ref 6,.val (.int .i64 y6)])),(1,(.row true 2 aj1 y7)),(2,(.row true 169 adH y8)),(3,(.tree 24 ajI y9 none)),(4,(.row true 100 adH y10)),(5,(.row true 173 aej y11)),(6,(.row true 176 aej y12))]
def Fl:nz→LT nz
 |(y0,y1,y2,y3,y4,y5,y6,y7,y8,y9,y10,y11,y12)=> .ite (Gx y0 y1) (.need [Gy y0 y2 y7,Gz y0 y2 y7] (.need [GA y0 y3,GC y0 y3 y9,GD y0 y3 y9] (.nrm ((Md y0),y1,y2,y3,y4,y5,y6,Me y0 y2 y7,y8,Mf y0 y3 y9,y10,y11,y12) [(0,0),(1,896),(2,2),(3,1856),(4,4),(5,5),(6,6)]))) (.ext 0 [(0,0),(1,1),(2,2),(3,3),(4,4),(5,5),(6,6)])
def QR(s:St):Option nz:=
 (match s.look 32 with
 |some ⟨none,.one ⟨false,[.val (.int .i64 y0)]⟩⟩=>
 (match s.look 31 with
 |some ⟨none,.one ⟨false,[.val (.int .i64 y1)]⟩⟩=>
 (match s.look 8 with
 |some ⟨none,.one ⟨false,[.ptr 1408 0]⟩⟩=>
 (match s.look 0 with
 |some ⟨none,.one ⟨false,[.val (.int .i64 y2)]⟩⟩=>
 (match s.look 2 with
 |some ⟨none,.one ⟨false,[.val (.int .i64 y3)]⟩⟩=>
 (match s.ent 1408 with
 |some (.box 33 [.val (.int .i64 y4),.ref 1280,.ref 1344,.ref 1345,.ref 1346,.val (.int .i64 y5),.ref 1347,.ref 1348,.val (.int .i64 y6)])=>
 (match s.ent 1344 with
 |some (.row true 169 (.pair (.int .i64) (.pair (.int .i64) (.int .i64))) y8)=>
 (match s.ent 1346 with
 |some (.row true 100 (.pair (.int .i64) (.pair (.int .i64) (.int .i64))) y10)=>
 (match s.ent 1347 with
 |some (.row true 173 (.pair (.int .i64) (.int .i64)) y11)=>
 (match s.ent 1348 with
 |some (.row true 176 (.pair (.int .i64) (.int .i64)) y12)=>
 (match s.ent 1280 with
 |some (.row true 2 (.int .i64) y7)=>
 (match s.ent 1345 with
 |some (.tree 24 (.sl 2 (.int .i64)) y9 none)=>
 some (y0,y1,y2,y3,y4,y5,y6,y7,y8,y9,y10,y11,y12)
 |_=>none)
 |_=>none)
 |_=>none)
 |_=>none)
 |_=>none)
 |_=>none)
 |_=>none)
 |_=>none)
 |_=>none)
 |_=>none)
 |_=>none)
 |_=>none)
def gL:Lp nz where
 h:=⟨[33,34,9,35,36,37,38,39,40,41,42,43,44,45,46,47,10,48,49,50,51,52,53,54,55,56,57,58,59,32],[0,2,4,5,6],[1,3],[]⟩
 JL:=ahE
 JE:=ahv
 XL:=ahX
 XE:=ahO
 q:=fun j=>match j with | _=> .exit 0
 tags:= [0]
 lt:=Fl
 fuel:=fun(y0,y1,y2,y3,y4,y5,y6,y7,y8,y9,y10,y11,y12)=>y0.natAbs + y1.natAbs + y2.natAbs + y3.natAbs + y4.natAbs + y5.natAbs + y6.natAbs + y7.length + y8.length + y9.length + y10.length + y11.length + y12.length
 fix:=fun(_,y1,y2,y3,y4,y5,y6,_,y8,_,y10,y11,y12) (y0,_,_,_,_,_,_,y7,_,y9,_,_,_)=>(y0,y1,y2,y3,y4,y5,y6,y7,y8,y9,y10,y11,y12)
 σ:= [(0,1408),(2,1344),(4,1346),(5,1347),(6,1348),(1,1280),(3,1345)]
 rd:=QR
theorem afu:LoopOk prog (fun k=>Nat.blt k Tryz.f20.ntmps) gL.F (aH f20 0):=by
 refine Lp.ok (tbl:= (PF.trees prog::T3z [OS,fl,Ha,mg])) (lf:= []) aO gL (by kernel_rfl) (LOk.nil _) (fun _=>rfl) (fun _ _=>rfl) ?_ ?_ ?_ ?_ (fun _=>rfl) ?_
 ·rintro⟨y0,y1,y2,y3,y4,y5,y6,y7,y8,y9,y10,y11,y12⟩;kernel_rfl
 ·rintro⟨y0,y1,y2,y3,y4,y5,y6,y7,y8,y9,y10,y11,y12⟩;kernel_rfl
 ·intro s x h
  have h:QR s=some x:=h
  unfold QR at h
  repeat' split at h
  all_goals cases h
  constructor<;>repeat(first|refine ae (by assumption) rfl ?_|refine af rfl (by assumption) rfl ?_|exact rfl)
 ·rintro⟨y0,y1,y2,y3,y4,y5,y6,y7,y8,y9,y10,y11,y12⟩;kernel_rfl
 ·rintro⟨y0,y1,y2,y3,y4,y5,y6,y7,y8,y9,y10,y11,y12⟩ z;exact(And.intro rfl trivial)
section
variable (x0 x1 x2:Int)
def adI:Int:=IntKind.wrap .i64 (x0 - (1:Int))
def uu:Bool:=bif bif !IG x0 then true else !bp x1 1 (afi (adI x0) 4 (adI x0) 4)then true else !wX x2
def adJ:Int:=bif uu x0 x1 x2 then(0:Int)else(0:Int)
def Cs:Int×Int×Int×Int×Int×Int×Int×List Int×List (Int×Int×Int)×List (List Int)×List (Int×Int×Int)×List (Int×Int)×List (Int×Int):=((0:Int),x1,x0,x2,x0,(0:Int),(0:Int),[],[],[],[],[],[])
def Gi:List Int×List (Int×Int×Int)×List (List Int)×List (Int×Int×Int)×List (Int×Int)×List (Int×Int):=(Lp.res gL (Cs x0 x1 x2)).2.2.2.2.2.2.2.2
def adK:List (Int×Int×Int):=bif uu x0 x1 x2 then []else []
def adL:List (Int×Int):=bif uu x0 x1 x2 then []else []
def cJ:Int:=bif uu x0 x1 x2 then(0:Int)else x0
def cK:Int:=adJ x0 x1 x2
def cL:Int:=adJ x0 x1 x2
def Sv:Int:=bif uu x0 x1 x2 then(2:Int)else(0:Int)
def tT:List Int:=bif uu x0 x1 x2 then []else (Gi x0 x1 x2).1
def Jb:List (Int×(Int×Int)):=adK x0 x1 x2
def tU:List (List Int):=bif uu x0 x1 x2 then []else ((Gi x0 x1 x2).2.2).1
def Jc:List (Int×(Int×Int)):=adK x0 x1 x2
def Jd:List (Int×Int):=adL x0 x1 x2
def Je:List (Int×Int):=adL x0 x1 x2
def KV:Bool:=allT [uu x0 x1 x2||Lp.fin gL (Cs x0 x1 x2)]
end
def aew:List SV→List Entry→Option Out
 | [.one ⟨false,[.val (.int .i64 x0)]⟩,.one ⟨false,[.val (.int .i64 x1)]⟩,.one ⟨false,[.val (.int .i64 x2)]⟩],[]=>some ⟨.tup [⟨true,[.val (.int .i64 (cJ x0 x1 x2)),.ref 0,.ref 1,.ref 2,.ref 3,.val (.int .i64 (cK x0 x1 x2)),.ref 4,.ref 5,.val (.int .i64 (cL x0 x1 x2))]⟩,⟨false,[.val (.int .i64 (Sv x0 x1 x2))]⟩],[],[.row true 2 aj1 (tT x0 x1 x2),.row true 169 adH (Jb x0 x1 x2),.tree 24 ajI (tU x0 x1 x2) none,.row true 100 adH (Jc x0 x1 x2),.row true 173 aej (Jd x0 x1 x2),.row true 176 aej (Je x0 x1 x2)],[KV x0 x1 x2]⟩
 |_,_=>none
def amx:PF prog:=PF.ofG prog (PF.trees prog::T3z [OS,fl,Ha,mg]) [gL.F] aO 20 f20 func20 (LOk.fnT (l:= [aH f20 0]) (by kernel_rfl) (.cons afu (.nil _))) aew (by
 intro vs es r h;unfold aew at h;split at h
 ·cases h;kernel_rfl
 ·cases h)
abbrev nB:=Int×Int×Int×Int×List Int×List (List Int)
section
variable (y0 y1 y2 y3:Int)(y4:List Int)(y5:List (List Int))
def uR:List Int:= [IntKind.wrap .i64 (IntKind.wrap .i64 ((3:Int) * IntKind.wrap .i64 (IntKind.wrap .i64 (y2 - (1:Int)) - y0)) + (1:Int))]
def uS:List (List Int):= [jm y3 (IntKind.wrap .i64 ((2:Int) * afi y0 1 y0 1))]
def He:Bool:=ltI y0 y1
def Hf:Bool:=leN (List.length y4 + List.length (uR y0 y2)) 9223372036854775807
def Hg:Bool:=leN ((List.length y4 + List.length (uR y0 y2)) * 8) 140737488355328
def Hh:Bool:=leI 0 y3&&leI y3 500
def Hi:Bool:=leN (List.length y5 + List.length (uS y0 y3)) 9223372036854775807
def Hj:Bool:=leN ((List.length y5 + List.length (uS y0 y3)) * 24) 140737488355328
def Mm:Int:=IntKind.wrap .i64 (y0 + (1:Int))
def Mn:List Int:=y4++uR y0 y2
def Mo:List (List Int):=y5++uS y0 y3
end
def ahG:nB→List (Nat×SV)
 |(y0,y1,y2,y3,_,_)=> [(10,(.one ⟨false,[.val (.int .i64 y0)]⟩)),(1,(.one ⟨false,[.val (.int .i64 y1)]⟩)),(8,(.one ⟨false,[.ref 0]⟩)),(0,(.one ⟨false,[.val (.int .i64 y2)]⟩)),(9,(.one ⟨false,[.ref 1]⟩)),(2,(.one ⟨false,[.val (.int .i64 y3)]⟩))]
def ahx:nB→List (Nat×Entry)
 |(_,_,_,_,y4,y5)=> [(0,(.row true 2 aj1 y4)),(1,(.tree 24 ajI y5 none))]
def ahZ:Nat→nB→List (Nat×SV)
 |_,(_,_,_,_,_,_)=> [(8,(.one ⟨false,[.ref 0]⟩)),(9,(.one ⟨false,[.ref 1]⟩))]
def ahQ:Nat→nB→List (Nat×Entry)
 |_,(_,_,_,_,y4,y5)=> [(0,(.row true 2 aj1 y4)),(1,(.tree 24 ajI y5 none))]
def Fo:nB→LT nB
 |(y0,y1,y2,y3,y4,y5)=> .ite (He y0 y1) (.need [Hf y0 y2 y4,Hg y0 y2 y4] (.need [Hh y3,Hi y0 y3 y5,Hj y0 y3 y5] (.nrm ((Mm y0),y1,y2,y3,Mn y0 y2 y4,(Mo y0 y3 y5)) [(0,768),(1,1344)]))) (.ext 0 [(0,0),(1,1)])
def QT(s:St):Option nB:=
 (match s.look 10 with
 |some ⟨none,.one ⟨false,[.val (.int .i64 y0)]⟩⟩=>
 (match s.look 1 with
 |some ⟨none,.one ⟨false,[.val (.int .i64 y1)]⟩⟩=>
 (match s.look 8 with
 |some ⟨none,.one ⟨false,[.ref 1216]⟩⟩=>
 (match s.look 0 with
 |some ⟨none,.one ⟨false,[.val (.int .i64 y2)]⟩⟩=>
 (match s.look 9 with
 |some ⟨none,.one ⟨false,[.ref 1280]⟩⟩=>
 (match s.look 2 with
 |some ⟨none,.one ⟨false,[.val (.int .i64 y3)]⟩⟩=>
 (match s.ent 1216 with
 |some (.row true 2 (.int .i64) y4)=>
 (match s.ent 1280 with
 |some (.tree 24 (.sl 2 (.int .i64)) y5 none)=>
 some (y0,y1,y2,y3,y4,y5)
 |_=>none)
 |_=>none)
 |_=>none)
 |_=>none)
 |_=>none)
 |_=>none)
 |_=>none)
 |_=>none)
def gM:Lp nB where
 h:=⟨[30,31,32,35,36,37,38,39,40,41,42,43,8,44,45,46,47,48,49,50,51,9,33,34,10],[],[0,1],[]⟩
 JL:=ahG
 JE:=ahx
 XL:=ahZ
 XE:=ahQ
 q:=fun j=>match j with | _=> .exit 0
 tags:= [0]
 lt:=Fo
 fuel:=fun(y0,y1,y2,y3,y4,y5)=>y0.natAbs + y1.natAbs + y2.natAbs + y3.natAbs + y4.length + y5.length
 fix:=fun(_,y1,y2,y3,_,_) (y0,_,_,_,y4,y5)=>(y0,y1,y2,y3,y4,y5)
 σ:= [(0,1216),(1,1280)]
 rd:=QT
theorem afw:LoopOk prog (fun k=>Nat.blt k Tryz.f21.ntmps) gM.F (aH f21 0):=by
 refine Lp.ok (tbl:= [PF.trees prog,Jl,jw,Nt]) (lf:= []) aO gM (by kernel_rfl) (LOk.nil _) (fun _=>rfl) (fun _ _=>rfl) ?_ ?_ ?_ ?_ (fun _=>rfl) ?_
 ·rintro⟨y0,y1,y2,y3,y4,y5⟩;kernel_rfl
 ·rintro⟨y0,y1,y2,y3,y4,y5⟩;kernel_rfl
 ·intro s x h
  have h:QT s=some x:=h
  unfold QT at h
  repeat' split at h
  all_goals cases h
  constructor<;>repeat(first|refine ae (by assumption) rfl ?_|refine af rfl (by assumption) rfl ?_|exact rfl)
 ·rintro⟨y0,y1,y2,y3,y4,y5⟩;kernel_rfl
 ·rintro⟨y0,y1,y2,y3,y4,y5⟩ z;exact(And.intro rfl trivial)
section
variable (x0 x1 x2:Int)
def ux:Int:=IntKind.wrap .i64 (x0 - (1:Int))
def iV:Bool:=bif bif !JP x0 then true else !br x1 1 (afi (ux x0) 4 (ux x0) 4)then true else !br x2 1 12
def adQ:Int:=bif iV x0 x1 x2 then(0:Int)else(0:Int)
def Lj:Int×Int×Int×Int×List Int×List (List Int):=((0:Int),x1,x0,x2,[],[])
def Qv:List Int×List (List Int):=(Lp.res gM (Lj x0 x1 x2)).2.2.2.2.2
def adR:List (Int×Int×Int):=bif iV x0 x1 x2 then []else []
def adS:List (Int×Int):=bif iV x0 x1 x2 then []else []
def NJ:Int:=bif iV x0 x1 x2 then(0:Int)else x0
def Ta:Int:=adQ x0 x1 x2
def Tb:Int:=adQ x0 x1 x2
def Fz:Int:=bif iV x0 x1 x2 then(2:Int)else(0:Int)
def NK:List Int:=bif iV x0 x1 x2 then []else (Qv x0 x1 x2).1
def YL:List (Int×(Int×Int)):=adR x0 x1 x2
def NL:List (List Int):=bif iV x0 x1 x2 then []else (Qv x0 x1 x2).2
def YM:List (Int×(Int×Int)):=adR x0 x1 x2
def YN:List (Int×Int):=adS x0 x1 x2
def YO:List (Int×Int):=adS x0 x1 x2
def Li:Bool:=allT [iV x0 x1 x2||Lp.fin gM (Lj x0 x1 x2)]
end
def aeA:List SV→List Entry→Option Out
 | [.one ⟨false,[.val (.int .i64 x0)]⟩,.one ⟨false,[.val (.int .i64 x1)]⟩,.one ⟨false,[.val (.int .i64 x2)]⟩],[]=>some ⟨.tup [⟨true,[.val (.int .i64 (NJ x0 x1 x2)),.ref 0,.ref 1,.ref 2,.ref 3,.val (.int .i64 (Ta x0 x1 x2)),.ref 4,.ref 5,.val (.int .i64 (Tb x0 x1 x2))]⟩,⟨false,[.val (.int .i64 (Fz x0 x1 x2))]⟩],[],[.row true 2 aj1 (NK x0 x1 x2),.row true 169 adH (YL x0 x1 x2),.tree 24 ajI (NL x0 x1 x2) none,.row true 100 adH (YM x0 x1 x2),.row true 173 aej (YN x0 x1 x2),.row true 176 aej (YO x0 x1 x2)],[Li x0 x1 x2]⟩
 |_,_=>none
def amA:PF prog:=PF.ofG prog [PF.trees prog,Jl,jw,Nt] [gM.F] aO 21 f21 func21 (LOk.fnT (l:= [aH f21 0]) (by kernel_rfl) (.cons afw (.nil _))) aeA (by
 intro vs es r h;unfold aeA at h;split at h
 ·cases h;kernel_rfl
 ·cases h)
section
variable (x0:List Int)
def mG:Int:=Rj 0 (frS x0) x0
def mH:Int:=Rk 0 (frS x0) x0
def mI:Int:=Rl 0 (frS x0) x0
def ic:List Int:=zN 0 (frS x0) x0
def yh:List (Int×(Int×Int)):=zO 0 (frS x0) x0
def yj:List (List Int):=uY 0 (frS x0) x0
def yk:List (Int×(Int×Int)):=zP 0 (frS x0) x0
def ym:List (Int×Int):=zQ 0 (frS x0) x0
def yo:List (Int×Int):=yy 0 (frS x0) x0
def IM:Bool:=allT [aD 0 0 x0,aD 0 (frS x0) x0]
end
def Wv:List SV→List Entry→Option Out
 | [.one ⟨false,[.ref 0]⟩],[.row false 5 (.int .u8) x0]=>some ⟨.one ⟨true,[.val (.int .i64 (mG x0)),.ref 1,.ref 2,.ref 3,.ref 4,.val (.int .i64 (mH x0)),.ref 5,.ref 6,.val (.int .i64 (mI x0))]⟩,[.row false 5 ak9 x0],[.row true 2 aj1 (ic x0),.row true 169 adH (yh x0),.row true 24 ajI (yj x0),.row true 100 adH (yk x0),.row true 173 aej (ym x0),.row true 176 aej (yo x0)],[IM x0]⟩
 |_,_=>none
def OU:PF prog:=PF.ofG prog (T3z [Jk,QL]) [] aO 22 f22 func22 (fun c _=>LOk.nil c) Wv (by
 intro vs es r h;unfold Wv at h;split at h
 ·cases h;kernel_rfl
 ·cases h)
abbrev eM:=Int×Int×List (Int×(Int×Int))
section
variable (y0 y1:Int)(y2:List (Int×(Int×Int)))
def ni:Int×Int×Int:=Option.getD y2[Int.toNat y0]? ((0:Int),(0:Int),(0:Int))
def nj:Int×Int×Int:=Option.getD y2[Int.toNat y1]? ((0:Int),(0:Int),(0:Int))
def iu:Bool:=(ni y0 y2).1==(nj y1 y2).1
def iv:Bool:=bif iu y0 y1 y2 then (ni y0 y2).2.2==0 else false
def sK:Bool:=ltI y0 y1
def sL:Bool:=leI 0 y0
def sM:Bool:=ltI y0 (↑y2.length:Int)
def sN:Bool:=ltN y0.toNat y2.length
def sO:Bool:=leI 0 y1
def sP:Bool:=ltI y1 (↑y2.length:Int)
def sQ:Bool:=ltN y1.toNat y2.length
def sR:Bool:= !(iu y0 y1 y2&&true)||leI 0 y0
def sS:Bool:= !(iu y0 y1 y2&&true)||ltI y0 (↑y2.length:Int)
def sU:Bool:= !(iu y0 y1 y2&&true)||ltN y0.toNat y2.length
def rN:Bool:= !(iv y0 y1 y2&&true)||leI 0 y1
def rO:Bool:= !(iv y0 y1 y2&&true)||ltI y1 (↑y2.length:Int)
def rP:Bool:= !(iv y0 y1 y2&&true)||ltN y1.toNat y2.length
def rQ:Bool:=bif iv y0 y1 y2 then (nj y1 y2).2.2==0 else false
def rR:Int:=IntKind.wrap .i64 (y0 + (1:Int))
end
def Xp:eM→List (Nat×SV)
 |(y0,y1,_)=> [(6,(.one ⟨false,[.val (.int .i64 y0)]⟩)),(5,(.one ⟨false,[.val (.int .i64 y1)]⟩)),(1,(.one ⟨false,[.ref 0]⟩))]
def Xo:eM→List (Nat×Entry)
 |(_,_,y2)=> [(0,(.row false 169 adH y2))]
def Xs:Nat→eM→List (Nat×SV)
 |0,(_,_,_)=> [(4,(.one ⟨false,[.val (.bool false)]⟩))]
 |_,(y0,_,_)=> [(6,(.one ⟨false,[.val (.int .i64 y0)]⟩))]
def Xr:Nat→eM→List (Nat×Entry)
 |0,(_,_,y2)=> [(0,(.row false 169 adH y2))]
 |_,(_,_,y2)=> [(0,(.row false 169 adH y2))]
def rv:eM→LT eM
 |(y0,y1,y2)=> .ite (sK y0 y1) (.need [sL y0,sM y0 y2,sN y0 y2,sO y1,sP y1 y2,sQ y1 y2,sR y0 y1 y2,sS y0 y1 y2,sU y0 y1 y2,rN y0 y1 y2,rO y0 y1 y2,rP y0 y1 y2] (.ite (rQ y0 y1 y2) (.ext 0 [(0,0)]) (.nrm ((rR y0),y1,y2) [(0,0)]))) (.ext 1 [(0,0)])
def Fu(s:St):Option eM:=
 (match s.look 6 with
 |some ⟨none,.one ⟨false,[.val (.int .i64 y0)]⟩⟩=>
 (match s.look 5 with
 |some ⟨none,.one ⟨false,[.val (.int .i64 y1)]⟩⟩=>
 (match s.look 1 with
 |some ⟨none,.one ⟨false,[.ref 0]⟩⟩=>
 (match s.ent 0 with
 |some (.row false 169 (.pair (.int .i64) (.pair (.int .i64) (.int .i64))) y2)=>
 some (y0,y1,y2)
 |_=>none)
 |_=>none)
 |_=>none)
 |_=>none)
def bN:Lp eM where
 h:=⟨[13,14,15,18,19,20,21,22,23,24,25,26,27,28,29,30,31,32,33,34,35,36,37,38,39,40,41,42,43,44,4,16,17,6],[0],[],[]⟩
 JL:=Xp
 JE:=Xo
 XL:=Xs
 XE:=Xr
 q:=fun j=>match j with | 0=> .ret | _=> .exit 2
 tags:= [0,1]
 lt:=rv
 fuel:=fun(y0,y1,y2)=>y0.natAbs + y1.natAbs + y2.length
 fix:=fun(_,y1,y2) (y0,_,_)=>(y0,y1,y2)
 σ:= [(0,0)]
 rd:=Fu
theorem Wc:LoopOk prog (memN [7,8,9,10,6,13,14,15,18,19,20,21,22,23,24,25,26,27,28,29,30,31,32,33,34,35,36,37,38,39,40,41,42,43,44,4,16,17,11,12,5]) bN.F (Wb (aH f95 0) 0):=by
 refine Lp.ok (tbl:= (T3z [gN])) (lf:= []) aO bN (by kernel_rfl) (LOk.nil _) (fun _=>rfl) (fun j _=>by unfold bN;match j with | 0=>rfl | _ + 1=>rfl) ?_ ?_ ?_ ?_ (fun _=>rfl) ?_
 ·rintro⟨y0,y1,y2⟩;kernel_rfl
 ·rintro⟨y0,y1,y2⟩;kernel_rfl
 ·intro s x h
  have h:Fu s=some x:=h
  unfold Fu at h
  repeat' split at h
  all_goals cases h
  constructor<;>repeat(first|refine ae (by assumption) rfl ?_|refine af rfl (by assumption) rfl ?_|exact rfl)
 ·rintro⟨y0,y1,y2⟩;kernel_rfl
 ·rintro⟨y0,y1,y2⟩ z;exact(And.intro (And.intro trivial rfl) trivial)
abbrev lc:=Int×List (Int×(Int×Int))
section
variable (y0:Int)(y1:List (Int×(Int×Int)))
def JB:Int×Int×List (Int×Int×Int):=((0:Int),y0,y1)
def Dp:Bool:=ltI y0 (↑y1.length:Int)
def KD:Bool:=Lp.fin bN (JB y0 y1)
def KE:Bool:=Nat.beq ((Lp.res bN (JB y0 y1)).1) 0
def ST:Int:=IntKind.wrap .i64 (y0 + (1:Int))
end
def abw:lc→List (Nat×SV)
 |(y0,_)=> [(5,(.one ⟨false,[.val (.int .i64 y0)]⟩)),(1,(.one ⟨false,[.ref 0]⟩))]
def abr:lc→List (Nat×Entry)
 |(_,y1)=> [(0,(.row false 169 adH y1))]
def abN:Nat→lc→List (Nat×SV)
 |0,(_,_)=> [(4,(.one ⟨false,[.val (.bool false)]⟩))]
 |_,(_,_)=> []
def abI:Nat→lc→List (Nat×Entry)
 |0,(_,y1)=> [(0,(.row false 169 adH y1))]
 |_,(_,y1)=> [(0,(.row false 169 adH y1))]
def vJ:lc→LT lc
 |(y0,y1)=> .ite (Dp y0 y1) (.need [KD y0 y1] (.ite (KE y0 y1) (.ext 0 [(0,0)]) (.nrm ((ST y0),y1) [(0,0)]))) (.ext 1 [(0,0)])
def Jr(s:St):Option lc:=
 (match s.look 5 with
 |some ⟨none,.one ⟨false,[.val (.int .i64 y0)]⟩⟩=>
 (match s.look 1 with
 |some ⟨none,.one ⟨false,[.ref 0]⟩⟩=>
 (match s.ent 0 with
 |some (.row false 169 (.pair (.int .i64) (.pair (.int .i64) (.int .i64))) y1)=>
 some (y0,y1)
 |_=>none)
 |_=>none)
 |_=>none)
def cq:Lp lc where
 h:=⟨[7,8,9,10,6,13,14,15,18,19,20,21,22,23,24,25,26,27,28,29,30,31,32,33,34,35,36,37,38,39,40,41,42,43,44,4,16,17,11,12,5],[0],[],[]⟩
 JL:=abw
 JE:=abr
 XL:=abN
 XE:=abI
 q:=fun j=>match j with | 0=> .ret | _=> .exit 0
 tags:= [0,1]
 lt:=vJ
 fuel:=fun(y0,y1)=>y0.natAbs + y1.length
 fix:=fun(_,y1) (y0,_)=>(y0,y1)
 σ:= [(0,0)]
 rd:=Jr
theorem Zo:LoopOk prog (fun k=>Nat.blt k Tryz.f95.ntmps) cq.F (aH f95 0):=by
 refine Lp.ok (tbl:= (T3z [gN])) (lf:= [bN.F]) aO cq (by kernel_rfl) (LOk.allT (l:= [Wb (aH f95 0) 0]) (by kernel_rfl) (.cons Wc (.nil _))) (fun _=>rfl) (fun j _=>by unfold cq;match j with | 0=>rfl | _ + 1=>rfl) ?_ ?_ ?_ ?_ (fun _=>rfl) ?_
 ·rintro⟨y0,y1⟩;kernel_rfl
 ·rintro⟨y0,y1⟩;kernel_rfl
 ·intro s x h
  have h:Jr s=some x:=h
  unfold Jr at h
  repeat' split at h
  all_goals cases h
  constructor<;>repeat(first|refine ae (by assumption) rfl ?_|refine af rfl (by assumption) rfl ?_|exact rfl)
 ·rintro⟨y0,y1⟩;kernel_rfl
 ·rintro⟨y0,y1⟩ z;exact(And.intro (And.intro trivial rfl) trivial)
section
variable (x0:Int)(x1:List (Int×Int×Int))
def NF:Int×List (Int×Int×Int):=((0:Int),x1)
def NG:Bool:=Nat.beq ((Lp.res cq (NF x1)).1) 0
def IK:Bool:=bif NG x1 then false else inR x0 2 8&&okFs x0 x1
def IL:Bool:=allT [Lp.fin cq (NF x1),NG x1||leN x1.length (9223372036854775807:Nat)]
end
def Wu:List SV→List Entry→Option Out
 | [.one ⟨false,[.val (.int .i64 x0)]⟩,.one ⟨false,[.ref 0]⟩],[.row false 169 (.pair (.int .i64) (.pair (.int .i64) (.int .i64))) x1]=>some ⟨.one ⟨false,[.val (.bool (IK x0 x1))]⟩,[.row false 169 adH x1],[],[IL x1]⟩
 |_,_=>none
def OT:PF prog:=PF.ofG prog (T3z [gN]) [cq.F] aO 95 f95 func95 (LOk.fnT (l:= [aH f95 0]) (by kernel_rfl) (.cons Zo (.nil _))) Wu (by
 intro vs es r h;unfold Wu at h;split at h
 ·cases h;kernel_rfl
 ·cases h)
abbrev bM:=Int×Int×List (Int×(Int×Int))
section
variable (y0 y1:Int)(y2:List (Int×(Int×Int)))
def fR:Int×Int×Int:=Option.getD y2[Int.toNat y0]? ((0:Int),(0:Int),(0:Int))
def fS:Int×Int×Int:=Option.getD y2[Int.toNat y1]? ((0:Int),(0:Int),(0:Int))
def cB:Bool:=(fR y0 y2).1==(fS y1 y2).1
def cC:Bool:=bif cB y0 y1 y2 then (fR y0 y2).2.2==1 else false
def jI:Bool:=ltI y0 y1
def jJ:Bool:=leI 0 y0
def jK:Bool:=ltI y0 (↑y2.length:Int)
def jL:Bool:=ltN y0.toNat y2.length
def jM:Bool:=leI 0 y1
def jN:Bool:=ltI y1 (↑y2.length:Int)
def jO:Bool:=ltN y1.toNat y2.length
def jP:Bool:= !(cB y0 y1 y2&&true)||leI 0 y0
def jQ:Bool:= !(cB y0 y1 y2&&true)||ltI y0 (↑y2.length:Int)
def jR:Bool:= !(cB y0 y1 y2&&true)||ltN y0.toNat y2.length
def jh:Bool:= !(cC y0 y1 y2&&true)||leI 0 y1
def ji:Bool:= !(cC y0 y1 y2&&true)||ltI y1 (↑y2.length:Int)
def jj:Bool:= !(cC y0 y1 y2&&true)||ltN y1.toNat y2.length
def jk:Bool:=bif cC y0 y1 y2 then (fS y1 y2).2.2==1 else false
def jl:Int:=IntKind.wrap .i64 (y0 + (1:Int))
end
def OK:bM→List (Nat×SV)
 |(y0,y1,_)=> [(6,(.one ⟨false,[.val (.int .i64 y0)]⟩)),(5,(.one ⟨false,[.val (.int .i64 y1)]⟩)),(1,(.one ⟨false,[.ref 0]⟩))]
def OJ:bM→List (Nat×Entry)
 |(_,_,y2)=> [(0,(.row false 100 adH y2))]
def OM:Nat→bM→List (Nat×SV)
 |0,(_,_,_)=> [(4,(.one ⟨false,[.val (.bool false)]⟩))]
 |_,(y0,_,_)=> [(6,(.one ⟨false,[.val (.int .i64 y0)]⟩))]
def OL:Nat→bM→List (Nat×Entry)
 |0,(_,_,y2)=> [(0,(.row false 100 adH y2))]
 |_,(_,_,y2)=> [(0,(.row false 100 adH y2))]
def iX:bM→LT bM
 |(y0,y1,y2)=> .ite (jI y0 y1) (.need [jJ y0,jK y0 y2,jL y0 y2,jM y1,jN y1 y2,jO y1 y2,jP y0 y1 y2,jQ y0 y1 y2,jR y0 y1 y2,jh y0 y1 y2,ji y0 y1 y2,jj y0 y1 y2] (.ite (jk y0 y1 y2) (.ext 0 [(0,0)]) (.nrm ((jl y0),y1,y2) [(0,0)]))) (.ext 1 [(0,0)])
def tj(s:St):Option bM:=
 (match s.look 6 with
 |some ⟨none,.one ⟨false,[.val (.int .i64 y0)]⟩⟩=>
 (match s.look 5 with
 |some ⟨none,.one ⟨false,[.val (.int .i64 y1)]⟩⟩=>
 (match s.look 1 with
 |some ⟨none,.one ⟨false,[.ref 0]⟩⟩=>
 (match s.ent 0 with
 |some (.row false 100 (.pair (.int .i64) (.pair (.int .i64) (.int .i64))) y2)=>
 some (y0,y1,y2)
 |_=>none)
 |_=>none)
 |_=>none)
 |_=>none)
def aM:Lp bM where
 h:=⟨[13,14,15,18,19,20,21,22,23,24,25,26,27,28,29,30,31,32,33,34,35,36,37,38,39,40,41,42,43,44,4,16,17,6],[0],[],[]⟩
 JL:=OK
 JE:=OJ
 XL:=OM
 XE:=OL
 q:=fun j=>match j with | 0=> .ret | _=> .exit 2
 tags:= [0,1]
 lt:=iX
 fuel:=fun(y0,y1,y2)=>y0.natAbs + y1.natAbs + y2.length
 fix:=fun(_,y1,y2) (y0,_,_)=>(y0,y1,y2)
 σ:= [(0,0)]
 rd:=tj
theorem Ns:LoopOk prog (memN [7,8,9,10,6,13,14,15,18,19,20,21,22,23,24,25,26,27,28,29,30,31,32,33,34,35,36,37,38,39,40,41,42,43,44,4,16,17,11,12,5]) aM.F (Wb (aH f96 0) 0):=by
 refine Lp.ok (tbl:= (T3z [cU])) (lf:= []) aO aM (by kernel_rfl) (LOk.nil _) (fun _=>rfl) (fun j _=>by unfold aM;match j with | 0=>rfl | _ + 1=>rfl) ?_ ?_ ?_ ?_ (fun _=>rfl) ?_
 ·rintro⟨y0,y1,y2⟩;kernel_rfl
 ·rintro⟨y0,y1,y2⟩;kernel_rfl
 ·intro s x h
  have h:tj s=some x:=h
  unfold tj at h
  repeat' split at h
  all_goals cases h
  constructor<;>repeat(first|refine ae (by assumption) rfl ?_|refine af rfl (by assumption) rfl ?_|exact rfl)
 ·rintro⟨y0,y1,y2⟩;kernel_rfl
 ·rintro⟨y0,y1,y2⟩ z;exact(And.intro (And.intro trivial rfl) trivial)
abbrev dW:=Int×List (Int×(Int×Int))
section
variable (y0:Int)(y1:List (Int×(Int×Int)))
def wC:Int×Int×List (Int×Int×Int):=((0:Int),y0,y1)
def qr:Bool:=ltI y0 (↑y1.length:Int)
def xG:Bool:=Lp.fin aM (wC y0 y1)
def xH:Bool:=Nat.beq ((Lp.res aM (wC y0 y1)).1) 0
def Hd:Int:=IntKind.wrap .i64 (y0 + (1:Int))
end
def RW:dW→List (Nat×SV)
 |(y0,_)=> [(5,(.one ⟨false,[.val (.int .i64 y0)]⟩)),(1,(.one ⟨false,[.ref 0]⟩))]
def RU:dW→List (Nat×Entry)
 |(_,y1)=> [(0,(.row false 100 adH y1))]
def RZ:Nat→dW→List (Nat×SV)
 |0,(_,_)=> [(4,(.one ⟨false,[.val (.bool false)]⟩))]
 |_,(_,_)=> []
def RY:Nat→dW→List (Nat×Entry)
 |0,(_,y1)=> [(0,(.row false 100 adH y1))]
 |_,(_,y1)=> [(0,(.row false 100 adH y1))]
def kJ:dW→LT dW
 |(y0,y1)=> .ite (qr y0 y1) (.need [xG y0 y1] (.ite (xH y0 y1) (.ext 0 [(0,0)]) (.nrm ((Hd y0),y1) [(0,0)]))) (.ext 1 [(0,0)])
def wy(s:St):Option dW:=
 (match s.look 5 with
 |some ⟨none,.one ⟨false,[.val (.int .i64 y0)]⟩⟩=>
 (match s.look 1 with
 |some ⟨none,.one ⟨false,[.ref 0]⟩⟩=>
 (match s.ent 0 with
 |some (.row false 100 (.pair (.int .i64) (.pair (.int .i64) (.int .i64))) y1)=>
 some (y0,y1)
 |_=>none)
 |_=>none)
 |_=>none)
def aU:Lp dW where
 h:=⟨[7,8,9,10,6,13,14,15,18,19,20,21,22,23,24,25,26,27,28,29,30,31,32,33,34,35,36,37,38,39,40,41,42,43,44,4,16,17,11,12,5],[0],[],[]⟩
 JL:=RW
 JE:=RU
 XL:=RZ
 XE:=RY
 q:=fun j=>match j with | 0=> .ret | _=> .exit 0
 tags:= [0,1]
 lt:=kJ
 fuel:=fun(y0,y1)=>y0.natAbs + y1.length
 fix:=fun(_,y1) (y0,_)=>(y0,y1)
 σ:= [(0,0)]
 rd:=wy
theorem PJ:LoopOk prog (fun k=>Nat.blt k Tryz.f96.ntmps) aU.F (aH f96 0):=by
 refine Lp.ok (tbl:= (T3z [cU])) (lf:= [aM.F]) aO aU (by kernel_rfl) (LOk.allT (l:= [Wb (aH f96 0) 0]) (by kernel_rfl) (.cons Ns (.nil _))) (fun _=>rfl) (fun j _=>by unfold aU;match j with | 0=>rfl | _ + 1=>rfl) ?_ ?_ ?_ ?_ (fun _=>rfl) ?_
 ·rintro⟨y0,y1⟩;kernel_rfl
 ·rintro⟨y0,y1⟩;kernel_rfl
 ·intro s x h
  have h:wy s=some x:=h
  unfold wy at h
  repeat' split at h
  all_goals cases h
  constructor<;>repeat(first|refine ae (by assumption) rfl ?_|refine af rfl (by assumption) rfl ?_|exact rfl)
 ·rintro⟨y0,y1⟩;kernel_rfl
 ·rintro⟨y0,y1⟩ z;exact(And.intro (And.intro trivial rfl) trivial)
section
variable (x0:Int)(x1:List (Int×Int×Int))
def zD:Int×List (Int×Int×Int):=((0:Int),x1)
def zE:Bool:=Nat.beq ((Lp.res aU (zD x1)).1) 0
def tD:Bool:=bif zE x1 then false else lfOk x0 x1
def tE:Bool:=allT [Lp.fin aU (zD x1),zE x1||leN x1.length (9223372036854775807:Nat)]
end
def Ke:List SV→List Entry→Option Out
 | [.one ⟨false,[.val (.int .i64 x0)]⟩,.one ⟨false,[.ref 0]⟩],[.row false 100 (.pair (.int .i64) (.pair (.int .i64) (.int .i64))) x1]=>some ⟨.one ⟨false,[.val (.bool (tD x0 x1))]⟩,[.row false 100 adH x1],[],[tE x1]⟩
 |_,_=>none
def BA:PF prog:=PF.ofG prog (T3z [cU]) [aU.F] aO 96 f96 func96 (LOk.fnT (l:= [aH f96 0]) (by kernel_rfl) (.cons PJ (.nil _))) Ke (by
 intro vs es r h;unfold Ke at h;split at h
 ·cases h;kernel_rfl
 ·cases h)
section
variable (x0 x1 x2:Int)(x3:List Int)(x4:List (Int×Int×Int))(x5:List (List Int))(x6:List (Int×Int×Int))(x7 x8:List (Int×Int))
def Rh:Bool:=bif uL x0 x3 x4 x5 x6 x1 x7 x8 x2 then IK x0 x4 else false
def Ri:Bool:= !(Rh x0 x1 x2 x3 x4 x5 x6 x7 x8&&true)
def SU:Bool:=bif Rh x0 x1 x2 x3 x4 x5 x6 x7 x8 then tD (FP x5) x6 else false
def SW:Bool:=allT [uD 9223372036854775807 x3 x4 x5 x6 x7 x8,!(uL x0 x3 x4 x5 x6 x1 x7 x8 x2&&true)||IL x4,Ri x0 x1 x2 x3 x4 x5 x6 x7 x8||xY x5,Ri x0 x1 x2 x3 x4 x5 x6 x7 x8||tE x6]
end
def ZD:List SV→List Entry→Option Out
 | [.one ⟨true,[.val (.int .i64 x0),.ref 0,.ref 1,.ref 2,.ref 3,.val (.int .i64 x1),.ref 4,.ref 5,.val (.int .i64 x2)]⟩],[.row false 2 (.int .i64) x3,.row false 169 (.pair (.int .i64) (.pair (.int .i64) (.int .i64))) x4,.row false 24 (.sl 2 (.int .i64)) x5,.row false 100 (.pair (.int .i64) (.pair (.int .i64) (.int .i64))) x6,.row false 173 (.pair (.int .i64) (.int .i64)) x7,.row false 176 (.pair (.int .i64) (.int .i64)) x8]=>some ⟨.one ⟨false,[.val (.bool (SU x0 x1 x2 x3 x4 x5 x6 x7 x8))]⟩,[.row false 2 aj1 x3,.row false 169 adH x4,.row false 24 (CTy.sl (2:TypeId) aj1) x5,.row false 100 adH x6,.row false 173 aej x7,.row false 176 aej x8],[],[SW x0 x1 x2 x3 x4 x5 x6 x7 x8]⟩
 |_,_=>none
def ajp:PF prog:=PF.ofG prog (T3z [se,xt,OT,BA]) [] aO 26 f26 func26 (fun c _=>LOk.nil c) ZD (by
 intro vs es r h;unfold ZD at h;split at h
 ·cases h;kernel_rfl
 ·cases h)
def oa(y1:Int)(y2:List (Int×(Int×Int)))(b:Nat):(Unit)→Nat ⊕ (Unit)
 |_=>(bif(bif(bif((Option.getD y2[b]? ((0:Int),(0:Int),(0:Int))).1==(Option.getD y2[Int.toNat y1]? ((0:Int),(0:Int),(0:Int))).1)then (Option.getD y2[b]? ((0:Int),(0:Int),(0:Int))).2.2==0 else false)then (Option.getD y2[Int.toNat y1]? ((0:Int),(0:Int),(0:Int))).2.2==0 else false)then(.inl 0)else(.inr ()))
def kq(y1:Int)(y2:List (Int×(Int×Int)))(i:Nat):(Unit)→eM
 |_=>((i:Int),y1,y2)
def Ft:eM→Unit
 |(_,_,_)=>()
theorem Zt(y1:Int)(y2:List (Int×(Int×Int))) (hn:y1≤9223372036854775807) (hb:y1≤(y2.length:Int)) (h1:0≤y1) (h2:y1 < (y2.length:Int)):
  bN.fin ((0:Int),y1,y2)=true∧bN.res ((0:Int),y1,y2)=((aL (oa y1 y2) 1 (List.range y1.toNat) 0 ()).1,(kq y1 y2) (aL (oa y1 y2) 1 (List.range y1.toNat) 0 ()).2.1 (aL (oa y1 y2) 1 (List.range y1.toNat) 0 ()).2.2):=by
 have dC:=bN.along (kq y1 y2) Ft (oa y1 y2) 1 (fun _ _=>True) (List.range y1.toNat) () (by trivial) (by simp only [bN,kq,List.length_range];omega) (fun i b a hb hI=> ?_) (fun a hI=> ?_)
 ·exact dC
 ·obtain⟨⟩:=a
  obtain⟨rfl,eO⟩:=od hb
  have hw:IntKind.i64.wrap ((b:Int) + 1)=((b + 1:Nat):Int):=by rw [ar (by omega) (by omega)];omega
  have cm:ltI (b:Int) y1=true:=eg (by omega)
  have tS:leI (0:Int) (b:Int)=true:=cR (by omega)
  refine⟨?_,?_,?_,?_⟩
  ·have q1:ltI (b:Int) (y2.length:Int)=true:=eg (by omega)
   have q2:ltN b y2.length=true:=gC (by omega)
   have q3:leI 0 y1=true:=cR h1
   have q4:ltI y1 (y2.length:Int)=true:=eg h2
   have q5:ltN y1.toNat y2.length=true:=gC (by omega)
   simp [ni,nj,iu,iv,sK,sL,sM,sN,sO,sP,sQ,sR,sS,sU,rN,rO,rP,rQ,rR,rv,bN,LT.nds,allT,kq,cm,tS,q1,q2,q3,q4,q5]
  ·simp [ni,nj,iu,iv,sK,sL,sM,sN,sO,sP,sQ,sR,sS,sU,rN,rO,rP,rQ,rR,rv,bN,LT.each,kq,Ft,hw]
  ·simp only [ni,nj,iu,iv,sK,sL,sM,sN,sO,sP,sQ,sR,sS,sU,rN,rO,rP,rQ,rR,rv,bN,LT.fn,kq,Ft,oa,Int.toNat_natCast,cm,tS,cond_true,Bool.cond_self]
  ·exact fun _ _=>trivial
 ·obtain⟨⟩:=a
  simp only [ni,nj,iu,iv,sK,sL,sM,sN,sO,sP,sQ,sR,sS,sU,rN,rO,rP,rQ,rR,rv,bN,LT.out,kq,List.length_range,Oy,Sz,cond_false]
theorem ab2(fs:List (Int×Int×Int))(b:Nat)(hb:b < fs.length)(hn:fs.length≤9223372036854775807):
  KD (b:Int) fs=true∧KE (b:Int) fs=alZ 0 fs b:=by
 obtain⟨w1,w2⟩:=Zt (b:Int) fs (by omega) (by omega) (by omega) (by omega)
 rw [kH (P:=fun j=>amV 0 (fAt fs b) (fs[j]?.getD (0,0,0))) (j:=0) (fun j=>by
  simp only [oa,amV,fAt,Int.toNat_natCast]
  cases (fs[j]?.getD (0,0,0)).1==(fs[b]?.getD (0,0,0)).1 <;> cases (fs[j]?.getD (0,0,0)).2.2==0 <;> cases (fs[b]?.getD (0,0,0)).2.2==0 <;> rfl),Int.toNat_natCast,aiV (P:=amV 0 (fAt fs b)) (by omega)]at w2
 have e0:JB (b:Int) fs=((0:Int),(b:Int),fs):=rfl
 refine⟨by simp only [KD,e0,w1],?_⟩
 simp only [KE,e0,w2,alZ]
 rw [show ((fs.take b).any fun g=>g.1==(fAt fs b).1&&(g.2.2==0&&(fAt fs b).2.2==0))=(fs.take b).any (amV 0 (fAt fs b)) from rfl]
 cases (fs.take b).any (amV 0 (fAt fs b)) <;> rfl
theorem ag1(fs:List (Int×Int×Int))(hn:fs.length≤9223372036854775807):
  cq.fin ((0:Int),fs)=true∧(cq.res ((0:Int),fs)).1=bif(List.range fs.length).any (alZ 0 fs)then 0 else 1:=by
 refine Lp.scan cq (fun b=>((b:Int),fs)) fs.length (alZ 0 fs) 1 (by simp only [cq];omega) (fun b hb=> ?_) ?_
 ·obtain⟨i1,i2⟩:=ab2 fs b hb hn
  have cm:ltI (b:Int) (fs.length:Int)=true:=eg (by omega)
  have hw:IntKind.i64.wrap ((b:Int) + 1)=((b + 1:Nat):Int):=by rw [ar (by omega) (by omega)];omega
  refine⟨?_,?_,?_⟩
  ·simp [cq,vJ,LT.nds,allT,Dp,cm,i1]
  ·simp [cq,vJ,LT.each,ST,hw]
  ·simp only [cq,vJ,LT.fn,Dp,cm,i2,cond_true]
 ·simp [cq,vJ,LT.out,Dp]
def gk(y1:Int)(y2:List (Int×(Int×Int)))(b:Nat):(Unit)→Nat ⊕ (Unit)
 |_=>(bif(bif(bif((Option.getD y2[b]? ((0:Int),(0:Int),(0:Int))).1==(Option.getD y2[Int.toNat y1]? ((0:Int),(0:Int),(0:Int))).1)then (Option.getD y2[b]? ((0:Int),(0:Int),(0:Int))).2.2==1 else false)then (Option.getD y2[Int.toNat y1]? ((0:Int),(0:Int),(0:Int))).2.2==1 else false)then(.inl 0)else(.inr ()))
def dV(y1:Int)(y2:List (Int×(Int×Int)))(i:Nat):(Unit)→bM
 |_=>((i:Int),y1,y2)
def ti:bM→Unit
 |(_,_,_)=>()
theorem Qc(y1:Int)(y2:List (Int×(Int×Int))) (hn:y1≤9223372036854775807) (hb:y1≤(y2.length:Int)) (h1:0≤y1) (h2:y1 < (y2.length:Int)):
  aM.fin ((0:Int),y1,y2)=true∧aM.res ((0:Int),y1,y2)=((aL (gk y1 y2) 1 (List.range y1.toNat) 0 ()).1,(dV y1 y2) (aL (gk y1 y2) 1 (List.range y1.toNat) 0 ()).2.1 (aL (gk y1 y2) 1 (List.range y1.toNat) 0 ()).2.2):=by
 have dC:=aM.along (dV y1 y2) ti (gk y1 y2) 1 (fun _ _=>True) (List.range y1.toNat) () (by trivial) (by simp only [aM,dV,List.length_range];omega) (fun i b a hb hI=> ?_) (fun a hI=> ?_)
 ·exact dC
 ·obtain⟨⟩:=a
  obtain⟨rfl,eO⟩:=od hb
  have hw:IntKind.i64.wrap ((b:Int) + 1)=((b + 1:Nat):Int):=by rw [ar (by omega) (by omega)];omega
  have cm:ltI (b:Int) y1=true:=eg (by omega)
  have tS:leI (0:Int) (b:Int)=true:=cR (by omega)
  refine⟨?_,?_,?_,?_⟩
  ·have q1:ltI (b:Int) (y2.length:Int)=true:=eg (by omega)
   have q2:ltN b y2.length=true:=gC (by omega)
   have q3:leI 0 y1=true:=cR h1
   have q4:ltI y1 (y2.length:Int)=true:=eg h2
   have q5:ltN y1.toNat y2.length=true:=gC (by omega)
   simp [fR,fS,cB,cC,jI,jJ,jK,jL,jM,jN,jO,jP,jQ,jR,jh,ji,jj,jk,jl,iX,aM,LT.nds,allT,dV,cm,tS,q1,q2,q3,q4,q5]
  ·simp [fR,fS,cB,cC,jI,jJ,jK,jL,jM,jN,jO,jP,jQ,jR,jh,ji,jj,jk,jl,iX,aM,LT.each,dV,ti,hw]
  ·simp only [fR,fS,cB,cC,jI,jJ,jK,jL,jM,jN,jO,jP,jQ,jR,jh,ji,jj,jk,jl,iX,aM,LT.fn,dV,ti,gk,Int.toNat_natCast,cm,tS,cond_true,Bool.cond_self]
  ·exact fun _ _=>trivial
 ·obtain⟨⟩:=a
  simp only [fR,fS,cB,cC,jI,jJ,jK,jL,jM,jN,jO,jP,jQ,jR,jh,ji,jj,jk,jl,iX,aM,LT.out,dV,List.length_range,Oy,Sz,cond_false]
theorem Sb(fs:List (Int×Int×Int))(b:Nat)(hb:b < fs.length)(hn:fs.length≤9223372036854775807):
  xG (b:Int) fs=true∧xH (b:Int) fs=alZ 1 fs b:=by
 obtain⟨w1,w2⟩:=Qc (b:Int) fs (by omega) (by omega) (by omega) (by omega)
 rw [kH (P:=fun j=>amV 1 (fAt fs b) (fs[j]?.getD (0,0,0))) (j:=0) (fun j=>by
  simp only [gk,amV,fAt,Int.toNat_natCast]
  cases (fs[j]?.getD (0,0,0)).1==(fs[b]?.getD (0,0,0)).1 <;> cases (fs[j]?.getD (0,0,0)).2.2==1 <;> cases (fs[b]?.getD (0,0,0)).2.2==1 <;> rfl),Int.toNat_natCast,aiV (P:=amV 1 (fAt fs b)) (by omega)]at w2
 have e0:wC (b:Int) fs=((0:Int),(b:Int),fs):=rfl
 refine⟨by simp only [xG,e0,w1],?_⟩
 simp only [xH,e0,w2,alZ]
 rw [show ((fs.take b).any fun g=>g.1==(fAt fs b).1&&(g.2.2==1&&(fAt fs b).2.2==1))=(fs.take b).any (amV 1 (fAt fs b)) from rfl]
 cases (fs.take b).any (amV 1 (fAt fs b)) <;> rfl
theorem VB(fs:List (Int×Int×Int))(hn:fs.length≤9223372036854775807):
  aU.fin ((0:Int),fs)=true∧(aU.res ((0:Int),fs)).1=bif(List.range fs.length).any (alZ 1 fs)then 0 else 1:=by
 refine Lp.scan aU (fun b=>((b:Int),fs)) fs.length (alZ 1 fs) 1 (by simp only [aU];omega) (fun b hb=> ?_) ?_
 ·obtain⟨i1,i2⟩:=Sb fs b hb hn
  have cm:ltI (b:Int) (fs.length:Int)=true:=eg (by omega)
  have hw:IntKind.i64.wrap ((b:Int) + 1)=((b + 1:Nat):Int):=by rw [ar (by omega) (by omega)];omega
  refine⟨?_,?_,?_⟩
  ·simp [aU,kJ,LT.nds,allT,qr,cm,i1]
  ·simp [aU,kJ,LT.each,Hd,hw]
  ·simp only [aU,kJ,LT.fn,qr,cm,i2,cond_true]
 ·simp [aU,kJ,LT.out,qr]
theorem aqX(n:Int)(fs:List (Int×Int×Int))(hn:leN fs.length 9223372036854775807=true):IK n fs=(Xc 0 fs []&&(inR n 2 8&&okFs n fs))∧IL fs=true:=by
 obtain⟨w1,w2⟩:=ag1 fs (dD.1 hn)
 rw [akD]at w2
 simp only [IK,IL,NF,NG,w1,w2,hn,allT,Bool.or_true,cond_true]
 cases Xc 0 fs [] <;> simp [Nat.beq]
theorem apR(n:Int)(fs:List (Int×Int×Int))(hn:leN fs.length 9223372036854775807=true):tD n fs=(Xc 1 fs []&&lfOk n fs)∧tE fs=true:=by
 obtain⟨w1,w2⟩:=VB fs (dD.1 hn)
 rw [akD]at w2
 obtain⟨l1,l2⟩:=anX n fs hn
 simp only [tD,tE,zD,zE,w1,w2,l1,l2,allT,Bool.or_true,cond_true]
 cases Xc 1 fs [] <;> simp [Nat.beq,dD.1 hn]
theorem amP(n mode day:Int)(ps:List Int)(fs:List (Int×Int×Int))(rs:List (List Int))(lf:List (Int×Int×Int))(pl ls:List (Int×Int))(h:uD 9223372036854775807 ps fs rs lf pl ls=true):
  SU n mode day ps fs rs lf pl ls=aah n ps fs rs lf mode pl ls day∧SW n mode day ps fs rs lf pl ls=true:=by
 obtain⟨h1,h2,⟨h3,h4⟩,h5,h6,h7⟩:=OA.1 h
 have er:FP rs=rowsR rs:=rfl
 obtain⟨t1,t2⟩:=aqX n fs (dj h2)
 obtain⟨t3,t4⟩:=apR (rowsR rs) lf (dj h5)
 simp only [SU,SW,Rh,Ri,er,t1,t2,t3,t4,h,aah,allT,Bool.or_true,cond_true,Bool.and_true]
 cases ho:uL n ps fs rs lf mode pl ls day with
 |false=>simp
 |true=>
  obtain⟨o1,o2,o3,o4,o5,o6,o7,o8,o9⟩:=ac9.1 ho
  have:=(BX.1 o1).2.1
  have r1:xY rs=true:=by
   have a1:ltI 0 (rs.length:Int)=true:=eg (by omega)
   have a2:ltN 0 rs.length=true:=gC (by omega)
   simp [xY,allT,a1,a2]
  rw [arj o1,o2,o5,r1]
  cases Xc 0 fs [] <;> cases Xc 1 lf [] <;> simp
def ZG:List SV→List Entry→Option Out
 | [.one ⟨true,[.val (.int .i64 x0),.ref 0,.ref 1,.ref 2,.ref 3,.val (.int .i64 x1),.ref 4,.ref 5,.val (.int .i64 x2)]⟩],[.row false 2 (.int .i64) x3,.row false 169 (.pair (.int .i64) (.pair (.int .i64) (.int .i64))) x4,.row false 24 (.sl 2 (.int .i64)) x5,.row false 100 (.pair (.int .i64) (.pair (.int .i64) (.int .i64))) x6,.row false 173 (.pair (.int .i64) (.int .i64)) x7,.row false 176 (.pair (.int .i64) (.int .i64)) x8]=>some ⟨.one ⟨false,[.val (.bool (aah x0 x3 x4 x5 x6 x1 x7 x8 x2))]⟩,[.row false 2 aj1 x3,.row false 169 adH x4,.row false 24 (CTy.sl (2:TypeId) aj1) x5,.row false 100 adH x6,.row false 173 aej x7,.row false 176 aej x8],[],[uD 9223372036854775807 x3 x4 x5 x6 x7 x8]⟩
 |_,_=>none
def SE:PF prog:=PF.alt ajp ZG (by
 intro args es o h bE;unfold ZG at h;split at h
 ·rename_i x0 x1 x2 x3 x4 x5 x6 x7 x8
  cases h
  have bE:=jW bE
  have hh:=amP x0 x1 x2 x3 x4 x5 x6 x7 x8 bE
  obtain⟨e0,en⟩:=hh
  exact nO rfl (iY en) (by simp only [e0] <;> rfl) rfl rfl
 ·cases h)
theorem asN{c:Int}(h:1≤c∧c≤12):c=1∨c=2∨c=3∨c=4∨c=5∨c=6∨c=7∨c=8∨c=9∨c=10∨c=11∨c=12:=by omega
theorem arl(n:Nat):20≤big n:=aos (by omega)
theorem aqO(c v:Int)(h:1≤c∧c≤12):aS c [v]=List.replicate c.toNat v∧bq c [v]=true:=by
 have dC: ∀ (m:Nat) (x:cw) (z:Nat×cw),Ra cQ.lt m x=some z→m≤20→cQ.fin x=true∧cQ.res x=z:=
  fun m x z hr hm=>cQ.run hr (Nat.le_trans hm (arl _))
 rcases asN h with rfl | rfl | rfl | rfl | rfl | rfl | rfl | rfl | rfl | rfl | rfl | rfl
 ·obtain⟨w1,w2⟩:=dC 8 (1,[v]) (0,(1,[v])) (by kernel_rfl) (by decide)
  have e:bx 1 [v]=(1,[v]):=by kernel_rfl
  exact⟨by simp only [aS,e,w2];kernel_rfl,by simp only [bq,e,w1];kernel_rfl⟩
 ·obtain⟨w1,w2⟩:=dC 8 (1,[v,0]) (0,(2,[v,v])) (by kernel_rfl) (by decide)
  have e:bx 2 [v]=(1,[v,0]):=by kernel_rfl
  exact⟨by simp only [aS,e,w2];kernel_rfl,by simp only [bq,e,w1];kernel_rfl⟩
 ·obtain⟨w1,w2⟩:=dC 8 (1,[v,0,0]) (0,(3,[v,v,v])) (by kernel_rfl) (by decide)
  have e:bx 3 [v]=(1,[v,0,0]):=by kernel_rfl
  exact⟨by simp only [aS,e,w2];kernel_rfl,by simp only [bq,e,w1];kernel_rfl⟩
 ·obtain⟨w1,w2⟩:=dC 8 (1,[v,0,0,0]) (0,(4,[v,v,v,v])) (by kernel_rfl) (by decide)
  have e:bx 4 [v]=(1,[v,0,0,0]):=by kernel_rfl
  exact⟨by simp only [aS,e,w2];kernel_rfl,by simp only [bq,e,w1];kernel_rfl⟩
 ·obtain⟨w1,w2⟩:=dC 8 (1,[v,0,0,0,0]) (0,(5,[v,v,v,v,v])) (by kernel_rfl) (by decide)
  have e:bx 5 [v]=(1,[v,0,0,0,0]):=by kernel_rfl
  exact⟨by simp only [aS,e,w2];kernel_rfl,by simp only [bq,e,w1];kernel_rfl⟩
 ·obtain⟨w1,w2⟩:=dC 8 (1,[v,0,0,0,0,0]) (0,(6,[v,v,v,v,v,v])) (by kernel_rfl) (by decide)
  have e:bx 6 [v]=(1,[v,0,0,0,0,0]):=by kernel_rfl
  exact⟨by simp only [aS,e,w2];kernel_rfl,by simp only [bq,e,w1];kernel_rfl⟩
 ·obtain⟨w1,w2⟩:=dC 8 (1,[v,0,0,0,0,0,0]) (0,(7,[v,v,v,v,v,v,v])) (by kernel_rfl) (by decide)
  have e:bx 7 [v]=(1,[v,0,0,0,0,0,0]):=by kernel_rfl
  exact⟨by simp only [aS,e,w2];kernel_rfl,by simp only [bq,e,w1];kernel_rfl⟩
 ·obtain⟨w1,w2⟩:=dC 8 (1,[v,0,0,0,0,0,0,0]) (0,(8,[v,v,v,v,v,v,v,v])) (by kernel_rfl) (by decide)
  have e:bx 8 [v]=(1,[v,0,0,0,0,0,0,0]):=by kernel_rfl
  exact⟨by simp only [aS,e,w2];kernel_rfl,by simp only [bq,e,w1];kernel_rfl⟩
 ·obtain⟨w1,w2⟩:=dC 8 (1,[v,0,0,0,0,0,0,0,0]) (0,(9,[v,v,v,v,v,v,v,v,v])) (by kernel_rfl) (by decide)
  have e:bx 9 [v]=(1,[v,0,0,0,0,0,0,0,0]):=by kernel_rfl
  exact⟨by simp only [aS,e,w2];kernel_rfl,by simp only [bq,e,w1];kernel_rfl⟩
 ·obtain⟨w1,w2⟩:=dC 8 (1,[v,0,0,0,0,0,0,0,0,0]) (0,(10,[v,v,v,v,v,v,v,v,v,v])) (by kernel_rfl) (by decide)
  have e:bx 10 [v]=(1,[v,0,0,0,0,0,0,0,0,0]):=by kernel_rfl
  exact⟨by simp only [aS,e,w2];kernel_rfl,by simp only [bq,e,w1];kernel_rfl⟩
 ·obtain⟨w1,w2⟩:=dC 8 (1,[v,0,0,0,0,0,0,0,0,0,0]) (0,(11,[v,v,v,v,v,v,v,v,v,v,v])) (by kernel_rfl) (by decide)
  have e:bx 11 [v]=(1,[v,0,0,0,0,0,0,0,0,0,0]):=by kernel_rfl
  exact⟨by simp only [aS,e,w2];kernel_rfl,by simp only [bq,e,w1];kernel_rfl⟩
 ·obtain⟨w1,w2⟩:=dC 8 (1,[v,0,0,0,0,0,0,0,0,0,0,0]) (0,(12,[v,v,v,v,v,v,v,v,v,v,v,v])) (by kernel_rfl) (by decide)
  have e:bx 12 [v]=(1,[v,0,0,0,0,0,0,0,0,0,0,0]):=by kernel_rfl
  exact⟨by simp only [aS,e,w2];kernel_rfl,by simp only [bq,e,w1];kernel_rfl⟩
theorem atf(c v:Int)(h:1≤c∧c≤12):jm c v=List.replicate c.toNat v∧xX c v=true:=by
 have dC: ∀ (m:Nat) (x:ld) (z:Nat×ld),Ra eD.lt m x=some z→m≤20→eD.fin x=true∧eD.res x=z:=
  fun m x z hr hm=>eD.run hr (Nat.le_trans hm (arl _))
 have hk: ∀ z,Ra eD.lt 14 (c,v,[])=some z→z.2.2.2=List.replicate c.toNat v→jm c v=List.replicate c.toNat v∧xX c v=true:=by
  intro z hz hq
  obtain⟨w1,w2⟩:=dC 14 (c,v,[]) z hz (by decide)
  exact⟨by simp only [jm,uA,w2];exact hq,by simp only [xX,uA,w1];rfl⟩
 rcases asN h with rfl | rfl | rfl | rfl | rfl | rfl | rfl | rfl | rfl | rfl | rfl | rfl
 ·exact hk (0,(0,v,[v])) (by kernel_rfl) (by kernel_rfl)
 ·exact hk (0,(0,v,[v,v])) (by kernel_rfl) (by kernel_rfl)
 ·exact hk (0,(0,v,[v,v,v])) (by kernel_rfl) (by kernel_rfl)
 ·exact hk (0,(0,v,[v,v,v,v])) (by kernel_rfl) (by kernel_rfl)
 ·exact hk (0,(0,v,[v,v,v,v,v])) (by kernel_rfl) (by kernel_rfl)
 ·exact hk (0,(0,v,[v,v,v,v,v,v])) (by kernel_rfl) (by kernel_rfl)
 ·exact hk (0,(0,v,[v,v,v,v,v,v,v])) (by kernel_rfl) (by kernel_rfl)
 ·exact hk (0,(0,v,[v,v,v,v,v,v,v,v])) (by kernel_rfl) (by kernel_rfl)
 ·exact hk (0,(0,v,[v,v,v,v,v,v,v,v,v])) (by kernel_rfl) (by kernel_rfl)
 ·exact hk (0,(0,v,[v,v,v,v,v,v,v,v,v,v])) (by kernel_rfl) (by kernel_rfl)
 ·exact hk (0,(0,v,[v,v,v,v,v,v,v,v,v,v,v])) (by kernel_rfl) (by kernel_rfl)
 ·exact hk (0,(0,v,[v,v,v,v,v,v,v,v,v,v,v,v])) (by kernel_rfl) (by kernel_rfl)
theorem atq(b:Nat)(h:b < 4):IntKind.i64.wrap ((2:Int) * afi (b:Int) 1 (b:Int) 1)=bif(b:Int)==0 then 0 else 2:=by
 have:b=0∨b=1∨b=2∨b=3:=by omega
 rcases this with rfl | rfl | rfl | rfl <;> rfl
def wM(y2 y3:Int)(b:Nat):(List Int×List (List Int))→Nat ⊕ (List Int×List (List Int))
 |(y4,y5)=>(.inr ((y4++([IntKind.wrap .i64 (IntKind.wrap .i64 ((3:Int) * IntKind.wrap .i64 (IntKind.wrap .i64 (y2 - (1:Int)) - (↑b:Int))) + (1:Int))])),(y5++([jm y3 (IntKind.wrap .i64 ((2:Int) * afi (↑b:Int) 1 (↑b:Int) 1))]))))
def oD(y1 y2 y3:Int)(i:Nat):(List Int×List (List Int))→nB
 |(y4,y5)=>((i:Int),y1,y2,y3,y4,y5)
def QP:nB→List Int×List (List Int)
 |(_,_,_,_,y4,y5)=>(y4,y5)
theorem ajD(y1 y2 y3:Int)(y4:List Int)(y5:List (List Int))(hn:y1≤9223372036854775807)(h4:y1≤4)(hr:1≤y3∧y3≤12)(hp:y4.length=0)(hq:y5.length=0):
  gM.fin ((0:Int),y1,y2,y3,y4,y5)=true∧gM.res ((0:Int),y1,y2,y3,y4,y5)=((aL (wM y2 y3) 0 (List.range y1.toNat) 0 (y4,y5)).1,(oD y1 y2 y3) (aL (wM y2 y3) 0 (List.range y1.toNat) 0 (y4,y5)).2.1 (aL (wM y2 y3) 0 (List.range y1.toNat) 0 (y4,y5)).2.2):=by
 have dC:=gM.along (oD y1 y2 y3) QP (wM y2 y3) 0 (fun i a=>a.1.length=i∧a.2.length=i) (List.range y1.toNat) (y4,y5) ⟨hp,hq⟩ (by simp only [gM,oD,List.length_range];omega) (fun i b a hb hI=> ?_) (fun a hI=> ?_)
 ·exact dC
 ·obtain⟨y4,y5⟩:=a
  obtain⟨rfl,eO⟩:=od hb
  have hw:IntKind.i64.wrap ((b:Int) + 1)=((b + 1:Nat):Int):=by rw [ar (by omega) (by omega)];omega
  have cm:ltI (b:Int) y1=true:=eg (by omega)
  have tS:leI (0:Int) (b:Int)=true:=cR (by omega)
  refine⟨?_,?_,?_,?_⟩
  ·obtain⟨g1,g2⟩:=hI
   simp only at g1 g2
   have l1:leN (y4.length + 1) 9223372036854775807=true:=dj (by omega)
   have l2:leN ((y4.length + 1) * 8) 140737488355328=true:=dj (by omega)
   have l3:leN (y5.length + 1) 9223372036854775807=true:=dj (by omega)
   have l4:leN ((y5.length + 1) * 24) 140737488355328=true:=dj (by omega)
   have l5:(leI 0 y3&&leI y3 500)=true:=by rw [cR (by omega),cR (by omega)];rfl
   simp only [He,Hf,Hg,Hh,Hi,Hj,uR,uS,Fo,gM,LT.nds,allT,oD,cm,List.length_singleton,l1,l2,l3,l4,l5,cond_true]
  ·simp [uR,uS,He,Hf,Hg,Hh,Hi,Hj,Mm,Mn,Mo,Fo,gM,LT.each,oD,QP,hw]
  ·simp only [uR,uS,He,Hf,Hg,Hh,Hi,Hj,Mm,Mn,Mo,Fo,gM,LT.fn,oD,QP,wM,Int.toNat_natCast,cm,tS,cond_true,Bool.cond_self]
  ·intro a' hf
   simp only [wM,Sum.inr.injEq]at hf
   subst hf
   obtain⟨g1,g2⟩:=hI
   simp only at g1 g2
   exact⟨by simp [g1],by simp [g2]⟩
 ·obtain⟨y4,y5⟩:=a
  simp only [uR,uS,He,Hf,Hg,Hh,Hi,Hj,Mm,Mn,Mo,Fo,gM,LT.out,oD,List.length_range,Oy,Sz,cond_false]
def tB(y2 y3:Int)(b:Nat):(List Int×List (List Int))→Nat ⊕ (List Int×List (List Int))
 |(y7,y9)=>(.inr ((y7++([IntKind.wrap .i64 (IntKind.wrap .i64 ((3:Int) * IntKind.wrap .i64 (IntKind.wrap .i64 (y2 - (1:Int)) - (↑b:Int))) + (1:Int))])),(y9++ [aS y3 ([bif(↑b:Int)==0 then(0:Int)else(2:Int)])])))
def ko(y1 y2 y3 y4 y5 y6:Int)(y8 y10:List (Int×(Int×Int)))(y11 y12:List (Int×Int))(i:Nat):(List Int×List (List Int))→nz
 |(y7,y9)=>((i:Int),y1,y2,y3,y4,y5,y6,y7,y8,y9,y10,y11,y12)
def QN:nz→List Int×List (List Int)
 |(_,_,_,_,_,_,_,y7,_,y9,_,_,_)=>(y7,y9)
theorem aai(y1 y2 y3 y4 y5 y6:Int)(y8 y10:List (Int×(Int×Int)))(y11 y12:List (Int×Int))(y7:List Int)(y9:List (List Int))(hn:y1≤9223372036854775807)(h4:y1≤4)(hr:1≤y3∧y3≤12)(hp:y7.length=0)(hq:y9.length=0):
  gL.fin ((0:Int),y1,y2,y3,y4,y5,y6,y7,y8,y9,y10,y11,y12)=true∧gL.res ((0:Int),y1,y2,y3,y4,y5,y6,y7,y8,y9,y10,y11,y12)=((aL (tB y2 y3) 0 (List.range y1.toNat) 0 (y7,y9)).1,(ko y1 y2 y3 y4 y5 y6 y8 y10 y11 y12) (aL (tB y2 y3) 0 (List.range y1.toNat) 0 (y7,y9)).2.1 (aL (tB y2 y3) 0 (List.range y1.toNat) 0 (y7,y9)).2.2):=by
 have dC:=gL.along (ko y1 y2 y3 y4 y5 y6 y8 y10 y11 y12) QN (tB y2 y3) 0 (fun i a=>a.1.length=i∧a.2.length=i) (List.range y1.toNat) (y7,y9) ⟨hp,hq⟩ (by simp only [gL,ko,List.length_range];omega) (fun i b a hb hI=> ?_) (fun a hI=> ?_)
 ·exact dC
 ·obtain⟨y7,y9⟩:=a
  obtain⟨rfl,eO⟩:=od hb
  have hw:IntKind.i64.wrap ((b:Int) + 1)=((b + 1:Nat):Int):=by rw [ar (by omega) (by omega)];omega
  have cm:ltI (b:Int) y1=true:=eg (by omega)
  have tS:leI (0:Int) (b:Int)=true:=cR (by omega)
  refine⟨?_,?_,?_,?_⟩
  ·obtain⟨g1,g2⟩:=hI
   simp only at g1 g2
   have l1:leN (y7.length + 1) 9223372036854775807=true:=dj (by omega)
   have l2:leN ((y7.length + 1) * 8) 140737488355328=true:=dj (by omega)
   have l3:leN (y9.length + 1) 9223372036854775807=true:=dj (by omega)
   have l4:leN ((y9.length + 1) * 24) 140737488355328=true:=dj (by omega)
   have l5:=(aqO y3 (bif(b:Int)==0 then 0 else(2:Int)) hr).2
   simp only [Gx,Gy,Gz,GA,GC,GD,uH,rq,Fl,gL,LT.nds,allT,ko,cm,List.length_singleton,l1,l2,l3,l4,l5,cond_true]
  ·simp [uH,rq,Gx,Gy,Gz,GA,GC,GD,Md,Me,Mf,Fl,gL,LT.each,ko,QN,hw]
  ·simp only [uH,rq,Gx,Gy,Gz,GA,GC,GD,Md,Me,Mf,Fl,gL,LT.fn,ko,QN,tB,Int.toNat_natCast,cm,tS,cond_true,Bool.cond_self]
  ·intro a' hf
   simp only [tB,Sum.inr.injEq]at hf
   subst hf
   obtain⟨g1,g2⟩:=hI
   simp only at g1 g2
   exact⟨by simp [g1],by simp [g2]⟩
 ·obtain⟨y7,y9⟩:=a
  simp only [uH,rq,Gx,Gy,Gz,GA,GC,GD,Md,Me,Mf,Fl,gL,LT.out,ko,List.length_range,Oy,Sz,cond_false]
theorem aaj{A B:Type}{f g:B→A→Nat ⊕ A}{e:Nat}: ∀ {l:List B} {i:Nat} {a:A},(∀ b∈l,∀ a,f b a=g b a)→aL f e l i a=aL g e l i a
 | [],_,_,_=>rfl
 |b::r,i,a,h=>by
  simp only [aL,h b (by simp) a]
  cases g b a with
  |inl j=>rfl
  |inr a'=>exact aaj fun x hx=>h x (by simp [hx])
theorem ajG{A B:Type}{f:B→A→Nat ⊕ A}{g:A→B→A}{e:Nat}(hf: ∀ b a,f b a= .inr (g a b)): ∀ (l:List B) (i:Nat) (a:A),aL f e l i a=(e,i + l.length,l.foldl g a)
 | [],i,a=>rfl
 |b::r,i,a=>by
  simp only [aL,hf,List.foldl_cons]
  rw [ajG hf r]
  simp [Nat.add_assoc,Nat.add_comm 1]
def nrS(n r:Int)(a:List Int×List (List Int))(b:Nat):List Int×List (List Int):=(a.1++ [IntKind.wrap .i64 (IntKind.wrap .i64 ((3:Int) * IntKind.wrap .i64 (IntKind.wrap .i64 (n - (1:Int)) - (b:Int))) + (1:Int))],a.2++ [List.replicate r.toNat (bif(b:Int)==0 then 0 else 2)])
def nrF(n t r:Int):List Int×List (List Int):=(List.range t.toNat).foldl (nrS n r) ([],[])
theorem asI(n r:Int): ∀ (l:List Nat) (a:List Int×List (List Int)) (m:Nat),(∀ x∈a.2,x.length≤m)→r.toNat≤m→(l.foldl (nrS n r) a).1.length=a.1.length + l.length∧(l.foldl (nrS n r) a).2.length=a.2.length + l.length∧ ∀ x∈(l.foldl (nrS n r) a).2,x.length≤m
 | [],a,m,h,_=>⟨rfl,rfl,h⟩
 |b::l,a,m,h,hr=>by
  obtain⟨h1,h2,h3⟩:=asI n r l (nrS n r a b) m (fun x hx=>by
   simp only [nrS,List.mem_append,List.mem_singleton]at hx
   rcases hx with hx | rfl
   ·exact h x hx
   ·rw [List.length_replicate];exact hr) hr
  refine⟨?_,?_,h3⟩
  ·rw [List.foldl_cons,h1];simp [nrS];omega
  ·rw [List.foldl_cons,h2];simp [nrS];omega
theorem agh(x0 x1 x2:Int):uu x0 x1 x2=iV x0 x1 x2:=rfl
theorem arQ(x0 x1 x2:Int): ∃ (T:Bool) (P:List Int) (R:List (List Int)),iV x0 x1 x2=T∧(T=true→P= []∧R= [])∧P.length≤4∧R.length≤4∧(∀ x∈R,x.length≤12)∧
  NK x0 x1 x2=P∧NL x0 x1 x2=R∧tT x0 x1 x2=P∧tU x0 x1 x2=R∧Li x0 x1 x2=true∧KV x0 x1 x2=true:=by
 cases hT:iV x0 x1 x2 with
 |true=>
  refine⟨true,[],[],rfl,fun _=>⟨rfl,rfl⟩,by simp,by simp,fun x hx=>(List.not_mem_nil hx).elim,?_,?_,?_,?_,?_,?_⟩ <;>
   simp only [NK,NL,tT,tU,Li,KV,agh,hT,cond_true,allT,Bool.true_or]
 |false=>
  have hb:(1≤x1∧x1≤4)∧1≤x2∧x2≤12:=by
   have h:=hT
   have hm:afi (ux x0) 4 (ux x0) 4≤4:=by
    rw [af7];cases h:ltI (ux x0) 4 <;> simp;have:=UQ.1 h;omega
   simp only [iV,br,AY]at h
   cases h1:inR x1 1 (afi (ux x0) 4 (ux x0) 4)with
   |false=>rw [h1]at h;simp at h
   |true=>
    cases h2:inR x2 1 12 with
    |false=>rw [h2]at h;simp at h
    |true=>
     have:=oU.1 h1
     have:=oU.1 h2
     omega
  obtain⟨⟨b1,b2⟩,b3⟩:=hb
  obtain⟨w1,w2⟩:=ajD x1 x0 x2 [] [] (by omega) b2 b3 rfl rfl
  obtain⟨v1,v2⟩:=aai x1 x0 x2 x0 0 0 [] [] [] [] [] [] (by omega) b2 b3 rfl rfl
  have hm: ∀ b∈List.range x1.toNat,b < 4:=fun b hb=>by rw [List.mem_range]at hb;omega
  rw [aaj (g:=fun b a=> .inr (nrS x0 x2 a b)) (fun b hb a=>by simp only [wM,nrS,(atf x2 _ b3).1,atq b (hm b hb)]),ajG (g:=nrS x0 x2) (fun b a=>rfl)]at w2
  rw [aaj (g:=fun b a=> .inr (nrS x0 x2 a b)) (fun b hb a=>by simp only [tB,nrS,(aqO x2 _ b3).1]),ajG (g:=nrS x0 x2) (fun b a=>rfl)]at v2
  obtain⟨l1,l2,l3⟩:=asI x0 x2 (List.range x1.toNat) ([],[]) 12 (fun x hx=>(List.not_mem_nil hx).elim) (by omega)
  rw [List.length_range]at l1 l2
  refine⟨false,(nrF x0 x1 x2).1,(nrF x0 x1 x2).2,rfl,(fun h=>by cases h),(by have:(nrF x0 x1 x2).1.length=0 + x1.toNat:=l1;omega),(by have:(nrF x0 x1 x2).2.length=0 + x1.toNat:=l2;omega),l3,?_,?_,?_,?_,?_,?_⟩
  ·simp only [NK,hT,Qv,Lj,w2,oD,cond_false];rfl
  ·simp only [NL,hT,Qv,Lj,w2,oD,cond_false];rfl
  ·simp only [tT,agh,hT,Gi,Cs,v2,ko,cond_false];rfl
  ·simp only [tU,agh,hT,Gi,Cs,v2,ko,cond_false];rfl
  ·simp only [Li,Lj,hT,w1,allT];rfl
  ·simp only [KV,Cs,agh,hT,v1,allT];rfl
section
variable (x0:List Int)
def sc:Bool:=Sv (ab x0) (aa x0) (ac x0)!=Fz (ab x0) (aa x0) (ac x0)
def dG:Bool:=bif sc x0 then true else !xg (cJ (ab x0) (aa x0) (ac x0)) (cK (ab x0) (aa x0) (ac x0)) (cL (ab x0) (aa x0) (ac x0)) (NJ (ab x0) (aa x0) (ac x0)) (Ta (ab x0) (aa x0) (ac x0)) (Tb (ab x0) (aa x0) (ac x0)) (tT (ab x0) (aa x0) (ac x0)) (Jb (ab x0) (aa x0) (ac x0)) (tU (ab x0) (aa x0) (ac x0)) (Jc (ab x0) (aa x0) (ac x0)) (Jd (ab x0) (aa x0) (ac x0)) (Je (ab x0) (aa x0) (ac x0)) (NK (ab x0) (aa x0) (ac x0)) (YL (ab x0) (aa x0) (ac x0)) (NL (ab x0) (aa x0) (ac x0)) (YM (ab x0) (aa x0) (ac x0)) (YN (ab x0) (aa x0) (ac x0)) (YO (ab x0) (aa x0) (ac x0))
def Gk:List (Int×Int×Int):=bif !dG x0&&true then yh x0 else yh x0
def Gl:List (List Int):=bif !dG x0&&true then yj x0 else yj x0
def Gm:List (Int×Int×Int):=bif !dG x0&&true then yk x0 else yk x0
def Gn:List (Int×Int):=bif !dG x0&&true then ym x0 else ym x0
def Gp:List (Int×Int):=bif !dG x0&&true then yo x0 else yo x0
def dH:Bool:=bif dG x0 then true else !uL (mG x0) (ic x0) (yh x0) (yj x0) (yk x0) (mH x0) (ym x0) (yo x0) (mI x0)==uL (mG x0) (bif !dG x0&&true then ic x0 else ic x0) (Gk x0) (Gl x0) (Gm x0) (mH x0) (Gn x0) (Gp x0) (mI x0)
def mU:List Int:=bif !dG x0&&true then bif !dG x0&&true then ic x0 else ic x0 else bif !dG x0&&true then ic x0 else ic x0
def Gq:List (Int×Int×Int):=bif !dG x0&&true then Gk x0 else Gk x0
def DP:List (List Int):=bif !dG x0&&true then Gl x0 else Gl x0
def DQ:List (Int×Int×Int):=bif !dG x0&&true then Gm x0 else Gm x0
def DR:List (Int×Int):=bif !dG x0&&true then Gn x0 else Gn x0
def DS:List (Int×Int):=bif !dG x0&&true then Gp x0 else Gp x0
def DT:List (Int×Int×Int):=bif !dH x0&&true then Gq x0 else Gq x0
def DU:List (List Int):=bif !dH x0&&true then DP x0 else DP x0
def DV:List (Int×Int×Int):=bif !dH x0&&true then DQ x0 else DQ x0
def DW:List (Int×Int):=bif !dH x0&&true then DR x0 else DR x0
def DX:List (Int×Int):=bif !dH x0&&true then DS x0 else DS x0
def kT:Bool:=bif dH x0 then true else !SP (mG x0) (mU x0) (Gq x0) (DP x0) (DQ x0) (mH x0) (DR x0) (DS x0) (mI x0)==SP (mG x0) (bif !dH x0&&true then mU x0 else mU x0) (DT x0) (DU x0) (DV x0) (mH x0) (DW x0) (DX x0) (mI x0)
def vv:List Int:=bif !dH x0&&true then bif !dH x0&&true then mU x0 else mU x0 else bif !dH x0&&true then mU x0 else mU x0
def DY:List (Int×Int×Int):=bif !dH x0&&true then DT x0 else DT x0
def DZ:List (List Int):=bif !dH x0&&true then DU x0 else DU x0
def Ea:List (Int×Int×Int):=bif !dH x0&&true then DV x0 else DV x0
def Eb:List (Int×Int):=bif !dH x0&&true then DW x0 else DW x0
def Ec:List (Int×Int):=bif !dH x0&&true then DX x0 else DX x0
def Oh:List (Int×Int×Int):=bif !kT x0&&true then DY x0 else DY x0
def Oi:List (List Int):=bif !kT x0&&true then DZ x0 else DZ x0
def Oj:List (Int×Int×Int):=bif !kT x0&&true then Ea x0 else Ea x0
def Ok:List (Int×Int):=bif !kT x0&&true then Eb x0 else Eb x0
def Ol:List (Int×Int):=bif !kT x0&&true then Ec x0 else Ec x0
def sn:Bool:=bif kT x0 then true else !BU (mG x0) (mH x0) (mI x0) (vv x0) (DY x0) (DZ x0) (Ea x0) (Eb x0) (Ec x0)==aah (mG x0) (bif !kT x0&&true then vv x0 else vv x0) (Oh x0) (Oi x0) (Oj x0) (mH x0) (Ok x0) (Ol x0) (mI x0)
def mZ:Bool:=Sv (ab x0) (aa x0) (ac x0)!=0
def bf:List Int:=bif !sc x0&&true then tT (ab x0) (aa x0) (ac x0)else tT (ab x0) (aa x0) (ac x0)
def bW:List (Int×Int×Int):=bif !sc x0&&true then Jb (ab x0) (aa x0) (ac x0)else Jb (ab x0) (aa x0) (ac x0)
def bg:List (List Int):=bif !sc x0&&true then tU (ab x0) (aa x0) (ac x0)else tU (ab x0) (aa x0) (ac x0)
def bX:List (Int×Int×Int):=bif !sc x0&&true then Jc (ab x0) (aa x0) (ac x0)else Jc (ab x0) (aa x0) (ac x0)
def bY:List (Int×Int):=bif !sc x0&&true then Jd (ab x0) (aa x0) (ac x0)else Jd (ab x0) (aa x0) (ac x0)
def bZ:List (Int×Int):=bif !sc x0&&true then Je (ab x0) (aa x0) (ac x0)else Je (ab x0) (aa x0) (ac x0)
def dm:Int×Int×(Int×Int)×Int×Int×Bool:=((0:Int),blV (aa x0) 0 (rlS 3301 x0) x0,((0:Int),(0:Int)),(0:Int),(0:Int),false)
def fM:Bool:=bif rrC (cJ (ab x0) (aa x0) (ac x0)) (cK (ab x0) (aa x0) (ac x0)) (cL (ab x0) (aa x0) (ac x0)) (bf x0) (bW x0) (bg x0) (bX x0) (bY x0) (bZ x0) [dm x0]==0 then srV (cJ (ab x0) (aa x0) (ac x0)) (cK (ab x0) (aa x0) (ac x0)) (cL (ab x0) (aa x0) (ac x0)) (bf x0) (bW x0) (bg x0) (bX x0) (bY x0) (bZ x0) (dm x0)==1 else false
def oX:Bool:=bif fM x0 then xg (rrN (cJ (ab x0) (aa x0) (ac x0)) (cK (ab x0) (aa x0) (ac x0)) (cL (ab x0) (aa x0) (ac x0)) (bf x0) (bW x0) (bg x0) (bX x0) (bY x0) (bZ x0) [dm x0]) (rrM (cJ (ab x0) (aa x0) (ac x0)) (cK (ab x0) (aa x0) (ac x0)) (cL (ab x0) (aa x0) (ac x0)) (bf x0) (bW x0) (bg x0) (bX x0) (bY x0) (bZ x0) [dm x0]) (rrD (cJ (ab x0) (aa x0) (ac x0)) (cK (ab x0) (aa x0) (ac x0)) (cL (ab x0) (aa x0) (ac x0)) (bf x0) (bW x0) (bg x0) (bX x0) (bY x0) (bZ x0) [dm x0]) (cJ (ab x0) (aa x0) (ac x0)) (cK (ab x0) (aa x0) (ac x0)) (cL (ab x0) (aa x0) (ac x0)) (rrP (cJ (ab x0) (aa x0) (ac x0)) (cK (ab x0) (aa x0) (ac x0)) (cL (ab x0) (aa x0) (ac x0)) (bf x0) (bW x0) (bg x0) (bX x0) (bY x0) (bZ x0) [dm x0]) (rrF (cJ (ab x0) (aa x0) (ac x0)) (cK (ab x0) (aa x0) (ac x0)) (cL (ab x0) (aa x0) (ac x0)) (bf x0) (bW x0) (bg x0) (bX x0) (bY x0) (bZ x0) [dm x0]) (rrR (cJ (ab x0) (aa x0) (ac x0)) (cK (ab x0) (aa x0) (ac x0)) (cL (ab x0) (aa x0) (ac x0)) (bf x0) (bW x0) (bg x0) (bX x0) (bY x0) (bZ x0) [dm x0]) (rrL (cJ (ab x0) (aa x0) (ac x0)) (cK (ab x0) (aa x0) (ac x0)) (cL (ab x0) (aa x0) (ac x0)) (bf x0) (bW x0) (bg x0) (bX x0) (bY x0) (bZ x0) [dm x0]) (anh (cJ (ab x0) (aa x0) (ac x0)) (cK (ab x0) (aa x0) (ac x0)) (cL (ab x0) (aa x0) (ac x0)) (bf x0) (bW x0) (bg x0) (bX x0) (bY x0) (bZ x0) [dm x0]) (ang (cJ (ab x0) (aa x0) (ac x0)) (cK (ab x0) (aa x0) (ac x0)) (cL (ab x0) (aa x0) (ac x0)) (bf x0) (bW x0) (bg x0) (bX x0) (bY x0) (bZ x0) [dm x0]) (bf x0) (bW x0) (bg x0) (bX x0) (bY x0) (bZ x0)else false
def Ed:List (Int×Int×Int):=bif fM x0&&true then bW x0 else bW x0
def Ee:List (Int×Int×Int):=bif fM x0&&true then bX x0 else bX x0
def Ef:List (Int×Int):=bif fM x0&&true then bY x0 else bY x0
def Eg:List (Int×Int):=bif fM x0&&true then bZ x0 else bZ x0
def Om:Bool:=bif oX x0 then SP (cJ (ab x0) (aa x0) (ac x0)) (bif fM x0&&true then bf x0 else bf x0) (Ed x0) (bif fM x0&&true then bg x0 else bg x0) (Ee x0) (cK (ab x0) (aa x0) (ac x0)) (Ef x0) (Eg x0) (cL (ab x0) (aa x0) (ac x0))else false
def On:List Int:=bif oX x0&&true then bif fM x0&&true then bf x0 else bf x0 else bif fM x0&&true then bf x0 else bf x0
def Oo:List (Int×Int×Int):=bif oX x0&&true then Ed x0 else Ed x0
def Oq:List (List Int):=bif oX x0&&true then bif fM x0&&true then bg x0 else bg x0 else bif fM x0&&true then bg x0 else bg x0
def Ot:List (Int×Int×Int):=bif oX x0&&true then Ee x0 else Ee x0
def Ou:List (Int×Int):=bif oX x0&&true then Ef x0 else Ef x0
def Ov:List (Int×Int):=bif oX x0&&true then Eg x0 else Eg x0
def Nq:Bool:=bif lK x0 then true else bif sn x0 then false else bif mZ x0 then true else bif Om x0 then BU (cJ (ab x0) (aa x0) (ac x0)) (cK (ab x0) (aa x0) (ac x0)) (cL (ab x0) (aa x0) (ac x0)) (On x0) (Oo x0) (Oq x0) (Ot x0) (Ou x0) (Ov x0)else false
def Nr:Bool:=allT [lK x0||KF x0,lK x0||KV (ab x0) (aa x0) (ac x0),lK x0||Li (ab x0) (aa x0) (ac x0),lK x0||IM x0,lK x0||(!(!sc x0&&true)||uD 9223372036854775807 (tT (ab x0) (aa x0) (ac x0)) (Jb (ab x0) (aa x0) (ac x0)) (tU (ab x0) (aa x0) (ac x0)) (Jc (ab x0) (aa x0) (ac x0)) (Jd (ab x0) (aa x0) (ac x0)) (Je (ab x0) (aa x0) (ac x0))),lK x0||(!(!dG x0&&true)||uD 9223372036854775807 (ic x0) (yh x0) (yj x0) (yk x0) (ym x0) (yo x0)),lK x0||(!(!dG x0&&true)||uD 9223372036854775807 (bif !dG x0&&true then ic x0 else ic x0) (Gk x0) (Gl x0) (Gm x0) (Gn x0) (Gp x0)),lK x0||(!(!dH x0&&true)||uD 9223372036854775807 (mU x0) (Gq x0) (DP x0) (DQ x0) (DR x0) (DS x0)),lK x0||(!(!dH x0&&true)||uD 9223372036854775807 (bif !dH x0&&true then mU x0 else mU x0) (DT x0) (DU x0) (DV x0) (DW x0) (DX x0)),lK x0||(!(!kT x0&&true)||BV (mG x0) (mH x0) (mI x0) (vv x0) (DY x0) (DZ x0) (Ea x0) (Eb x0) (Ec x0)),lK x0||(!(!kT x0&&true)||uD 9223372036854775807 (bif !kT x0&&true then vv x0 else vv x0) (Oh x0) (Oi x0) (Oj x0) (Ok x0) (Ol x0)),lK x0||(sn x0||(mZ x0||leN x0.length (4096:Nat))),lK x0||(sn x0||(mZ x0||leI 1 (aa x0)&&leI 0 0)),lK x0||(sn x0||(mZ x0||uD 9223372036854775807 (bf x0) (bW x0) (bg x0) (bX x0) (bY x0) (bZ x0))),lK x0||(sn x0||(mZ x0||(!(fM x0&&true)||uD 9223372036854775807 (rrP (cJ (ab x0) (aa x0) (ac x0)) (cK (ab x0) (aa x0) (ac x0)) (cL (ab x0) (aa x0) (ac x0)) (bf x0) (bW x0) (bg x0) (bX x0) (bY x0) (bZ x0) [dm x0]) (rrF (cJ (ab x0) (aa x0) (ac x0)) (cK (ab x0) (aa x0) (ac x0)) (cL (ab x0) (aa x0) (ac x0)) (bf x0) (bW x0) (bg x0) (bX x0) (bY x0) (bZ x0) [dm x0]) (rrR (cJ (ab x0) (aa x0) (ac x0)) (cK (ab x0) (aa x0) (ac x0)) (cL (ab x0) (aa x0) (ac x0)) (bf x0) (bW x0) (bg x0) (bX x0) (bY x0) (bZ x0) [dm x0]) (rrL (cJ (ab x0) (aa x0) (ac x0)) (cK (ab x0) (aa x0) (ac x0)) (cL (ab x0) (aa x0) (ac x0)) (bf x0) (bW x0) (bg x0) (bX x0) (bY x0) (bZ x0) [dm x0]) (anh (cJ (ab x0) (aa x0) (ac x0)) (cK (ab x0) (aa x0) (ac x0)) (cL (ab x0) (aa x0) (ac x0)) (bf x0) (bW x0) (bg x0) (bX x0) (bY x0) (bZ x0) [dm x0]) (ang (cJ (ab x0) (aa x0) (ac x0)) (cK (ab x0) (aa x0) (ac x0)) (cL (ab x0) (aa x0) (ac x0)) (bf x0) (bW x0) (bg x0) (bX x0) (bY x0) (bZ x0) [dm x0])))),lK x0||(sn x0||(mZ x0||(!(oX x0&&true)||uD 9223372036854775807 (bif fM x0&&true then bf x0 else bf x0) (Ed x0) (bif fM x0&&true then bg x0 else bg x0) (Ee x0) (Ef x0) (Eg x0)))),lK x0||(sn x0||(mZ x0||(!(Om x0&&true)||BV (cJ (ab x0) (aa x0) (ac x0)) (cK (ab x0) (aa x0) (ac x0)) (cL (ab x0) (aa x0) (ac x0)) (On x0) (Oo x0) (Oq x0) (Ot x0) (Ou x0) (Ov x0))))]
end
def aez:List SV→List Entry→Option Out
 | [.one ⟨false,[.ref 0]⟩],[.row false 5 (.int .u8) x0]=>some ⟨.one ⟨false,[.val (.bool (Nq x0))]⟩,[.row false 5 ak9 x0],[],[Nr x0]⟩
 |_,_=>none
def amz:PF prog:=PF.ofG prog (PF.trees prog::T3z [aip,SD,Wf,SH,Wg,QM,amx,amA,OU,lO,se,Wi,SE,afF,sr]) [] aO 4 f4 func4 (fun c _=>LOk.nil c) aez (by
 intro vs es r h;unfold aez at h;split at h
 ·cases h;kernel_rfl
 ·cases h)
theorem aug{c:List Int}(hb: ∀ (i:Nat) (x:Int),c[i]? =some x→0≤x∧x≤255)(h:lK c=false):aD 0 0 c=true:=by
 have:=SA.1 h
 refine agf.2 ⟨by omega,by omega,by omega,fun x hx=> ?_⟩
 obtain⟨i,hi⟩:=List.getElem?_of_mem hx
 exact hb i x hi
theorem atH{n mode day:Int}{ps:LI}{fs:L3}{rs:List LI}{lf:L3}{pl ls:L2}{k t rk row ck role:Int}{dC:Bool}(h:afl ps rs k t rk row ck role dC=true)(hv:(stV n mode day ps fs rs lf pl ls k t rk row ck role dC !=0)=true):
  stM mode day pl ls k ck role dC=mode∧stP n mode ps fs rs lf k t=ps∧stR n ps rs k t rk row=rs:=by
 rcases acZ h with⟨rfl,_⟩ | ⟨rfl,_,_⟩ | ⟨rfl,_⟩
 ·refine⟨rfl,?_,rfl⟩
  have h1:(ak1 n mode ps fs rs lf t==0)=false:=by
   have:(ak1 n mode ps fs rs lf t !=0)=true:=hv
   simpa [bne] using this
  simp only [stP,h1,Bool.and_false,cond_false]
 ·refine⟨rfl,rfl,?_⟩
  simp only [stV]at hv
  simp only [stR]
  cases h1:YY n t ps <;> cases h2:FQ (rs[t.toNat]?.getD []) rk row <;> rw [h1,h2]at hv <;> first | rfl | (exact absurd hv (by simp))
 ·refine⟨?_,rfl,rfl⟩
  simp only [stV]at hv
  simp only [stM]
  cases h1:vdC mode ck role dC !=0 <;> cases h2:ck==1&& !aow pl ls day <;> rw [h1,h2]at hv <;> first | rfl | (exact absurd hv (by simp))
theorem at0(c:List Int)(h:aD 0 0 c=true):KF c=true:=by
 have h1:=(aly c h).2
 have k1:Ps c=true:=iB h1
 have k0:aD (nxA 8 0 c) (yp c) c=true:=k1
 have k2:aD (CZ c) (IO c) c=true:=rZ k0
 have k3:aD (Pq c) (Pr c) c=true:=rZ k2
 have k4:aD (mK c) (yq c) c=true:=iB k0
 have k5:aD (nxA 4 (mK c) c) (nxS 4 (mK c) (yq c) c) c=true:=iB k4
 simp only [KF,h,h1,k1,k2,k3,k4,k5,uM,allT,Bool.or_true,Bool.and_self,cond_true]
theorem atZ(c:List Int)(h:aD 0 0 c=true):IM c=true:=by
 have h1:=(aly c h).2
 simp only [IM,h,h1,allT,cond_true]
theorem aup(c:List Int)(h:aD 0 0 c=true):uD 1000000 (ic c) (yh c) (yj c) (yk c) (ym c) (yo c)=true:=
 (TS 0 (frS c) c (aly c h).2).2.2
theorem asG(n t r:Int)(h:iV n t r=false):(2≤n∧n≤8)∧(1≤t∧t≤4∧t≤n - 1)∧1≤r∧r≤12:=by
 simp only [iV,JP,br,AY]at h
 cases h0:inR n 2 8 with
 |false=>rw [h0]at h;simp at h
 |true=>
  have q0:=oU.1 h0
  have e:ux n=n - 1:=by simp only [ux];exact ar (by omega) (by omega)
  rw [h0,e,af7]at h
  cases h1:inR t 1 (bif ltI (n - 1) 4 then n - 1 else 4)with
  |false=>rw [h1]at h;simp at h
  |true=>
   rw [h1]at h
   cases h2:inR r 1 12 with
   |false=>rw [h2]at h;simp at h
   |true=>
    have q1:=oU.1 h1
    have q2:=oU.1 h2
    refine⟨q0,?_,q2⟩
    cases h3:ltI (n - 1) 4 with
    |true=>have:=UQ.1 h3;rw [h3,cond_true]at q1;omega
    |false=>have:=SA.1 h3;rw [h3,cond_false]at q1;omega
theorem at9(n t r:Int)(hT:iV n t r=false):tT n t r=(nrF n t r).1∧tU n t r=(nrF n t r).2:=by
 obtain⟨_,⟨b1,b2,_⟩,b3⟩:=asG n t r hT
 obtain⟨v1,v2⟩:=aai t n r n 0 0 [] [] [] [] [] [] (by omega) b2 b3 rfl rfl
 rw [aaj (g:=fun b a=> .inr (nrS n r a b)) (fun b hb a=>by simp only [tB,nrS,(aqO r _ b3).1]),ajG (g:=nrS n r) (fun b a=>rfl)]at v2
 constructor
 ·simp only [tT,agh,hT,Gi,Cs,v2,ko,cond_false];rfl
 ·simp only [tU,agh,hT,Gi,Cs,v2,ko,cond_false];rfl
def asH(n t r:Int):Bool:=SP n (nrF n t r).1 [] (nrF n t r).2 [] 0 [] [] 0&&(aah n (nrF n t r).1 [] (nrF n t r).2 [] 0 [] [] 0&&(List.range t.toNat).all fun k=>afl (nrF n t r).1 (nrF n t r).2 0 (k:Int) 0 0 0 0 false&&stV n 0 0 (nrF n t r).1 [] (nrF n t r).2 [] [] [] 0 (k:Int) 0 0 0 0 false==1)
theorem aua:((List.range 7).all fun a=>(List.range 4).all fun b=>(List.range 12).all fun r=> !Nat.ble b a||asH ((a:Int) + 2) ((b:Int) + 1) ((r:Int) + 1))=true:=by kernel_rfl
theorem auz{n t r:Int}(h:(2≤n∧n≤8)∧(1≤t∧t≤4∧t≤n - 1)∧1≤r∧r≤12):asH n t r=true:=by
 have h0:=aua
 simp only [List.all_eq_true,List.mem_range]at h0
 have h1:=h0 (n - 2).toNat (by omega) (t - 1).toNat (by omega) (r - 1).toNat (by omega)
 rw [show (((n - 2).toNat:Int) + 2)=n by omega,show (((t - 1).toNat:Int) + 1)=t by omega,show (((r - 1).toNat:Int) + 1)=r by omega,Nat.ble_eq_true_of_le (by omega:(t - 1).toNat≤(n - 2).toNat)]at h1
 simpa using h1
theorem arO(c:List Int)(w:wfD (.sl 5 (.int .u8)) c):Nq c=true∧Nr c=true:=by
 have hb: ∀ (i:Nat) (x:Int),c[i]? =some x→0≤x∧x≤255:=fun i x hx=>auA (w.2 x (List.mem_of_getElem? hx))
 cases yz:lK c with
 |true=>simp [Nq,Nr,allT,yz]
 |false=>
  have hsrc:=aug hb yz
  have nP:c.length≤4096:=by have:=SA.1 yz;omega
  have Ui:=at0 c hsrc
  have Pv:=atZ c hsrc
  have hM:=aup c hsrc
  have hN:=aqR hM (show 1000000≤9223372036854775807 by omega)
  obtain⟨t0,t1⟩:=akM (mG c) (mH c) (mI c) _ _ _ _ _ _ hN
  have hdr:0≤blV (aa c) 0 (rlS 3301 c) c∧blV (aa c) 0 (rlS 3301 c) c < aa c∨ ¬ 1≤aa c:=by
   by_cases h1:1≤aa c
   ·exact .inl (ar7 h1 fun x hx=>by obtain⟨i,hi⟩:=List.getElem?_of_mem hx;exact hb i x hi)
   ·exact .inr h1
  generalize Tv:ab c=n at *
  generalize Tx:aa c=t at *
  generalize Tw:ac c=r at *
  obtain⟨T,P,R,hT,hn,l1,l2,l3,s4,s6,i4,i6,s10,i10⟩:=arQ n t r
  have e0:cJ n t r=NJ n t r:=rfl
  have e1:cK n t r=Ta n t r:=rfl
  have e2:cL n t r=Tb n t r:=rfl
  have e3:Sv n t r=Fz n t r:=rfl
  have i5:Jb n t r= []:=Bool.cond_self _ _
  have i7:Jc n t r= []:=Bool.cond_self _ _
  have i8:Jd n t r= []:=Bool.cond_self _ _
  have i9:Je n t r= []:=Bool.cond_self _ _
  have s5:YL n t r= []:=Bool.cond_self _ _
  have s7:YM n t r= []:=Bool.cond_self _ _
  have s8:YN n t r= []:=Bool.cond_self _ _
  have s9:YO n t r= []:=Bool.cond_self _ _
  have hR5:uD 9223372036854775807 P [] R [] [] []=true:=OA.2 ⟨by omega,by simp,⟨by omega,fun x hx=>by have:=l3 x hx;omega⟩,by simp,by simp,by simp⟩
  have hL: ∀ a b d,xg a b d a b d P [] R [] [] [] P [] R [] [] []=true:=fun a b d=>aqE a b d _ _ _ _ _ _ hR5
  have r0:=Eq.refl (sc c)
  conv at r0=>rhs;simp only [sc,S0z,allT,Tv,Tx,Tw,yz,Ui,Pv,e0,e1,e2,e3,s4,s6,i4,i6,i5,i7,i8,i9,s5,s7,s8,s9,s10,i10,hL,hR5,t0,t1,hN]
  have r1:=Eq.refl (dG c)
  conv at r1=>rhs;simp only [dG,S0z,allT,Tv,Tx,Tw,yz,Ui,Pv,e0,e1,e2,e3,s4,s6,i4,i6,i5,i7,i8,i9,s5,s7,s8,s9,s10,i10,hL,hR5,t0,t1,hN,r0]
  have r2:=Eq.refl (Gk c)
  conv at r2=>rhs;simp only [Gk,S0z,allT,Tv,Tx,Tw,yz,Ui,Pv,e0,e1,e2,e3,s4,s6,i4,i6,i5,i7,i8,i9,s5,s7,s8,s9,s10,i10,hL,hR5,t0,t1,hN,r0,r1]
  have r3:=Eq.refl (Gl c)
  conv at r3=>rhs;simp only [Gl,S0z,allT,Tv,Tx,Tw,yz,Ui,Pv,e0,e1,e2,e3,s4,s6,i4,i6,i5,i7,i8,i9,s5,s7,s8,s9,s10,i10,hL,hR5,t0,t1,hN,r0,r1,r2]
  have r4:=Eq.refl (Gm c)
  conv at r4=>rhs;simp only [Gm,S0z,allT,Tv,Tx,Tw,yz,Ui,Pv,e0,e1,e2,e3,s4,s6,i4,i6,i5,i7,i8,i9,s5,s7,s8,s9,s10,i10,hL,hR5,t0,t1,hN,r0,r1,r2,r3]
  have r5:=Eq.refl (Gn c)
  conv at r5=>rhs;simp only [Gn,S0z,allT,Tv,Tx,Tw,yz,Ui,Pv,e0,e1,e2,e3,s4,s6,i4,i6,i5,i7,i8,i9,s5,s7,s8,s9,s10,i10,hL,hR5,t0,t1,hN,r0,r1,r2,r3,r4]
  have r6:=Eq.refl (Gp c)
  conv at r6=>rhs;simp only [Gp,S0z,allT,Tv,Tx,Tw,yz,Ui,Pv,e0,e1,e2,e3,s4,s6,i4,i6,i5,i7,i8,i9,s5,s7,s8,s9,s10,i10,hL,hR5,t0,t1,hN,r0,r1,r2,r3,r4,r5]
  have r7:=Eq.refl (dH c)
  conv at r7=>rhs;simp only [dH,S0z,allT,Tv,Tx,Tw,yz,Ui,Pv,e0,e1,e2,e3,s4,s6,i4,i6,i5,i7,i8,i9,s5,s7,s8,s9,s10,i10,hL,hR5,t0,t1,hN,r0,r1,r2,r3,r4,r5,r6]
  have r8:=Eq.refl (mU c)
  conv at r8=>rhs;simp only [mU,S0z,allT,Tv,Tx,Tw,yz,Ui,Pv,e0,e1,e2,e3,s4,s6,i4,i6,i5,i7,i8,i9,s5,s7,s8,s9,s10,i10,hL,hR5,t0,t1,hN,r0,r1,r2,r3,r4,r5,r6,r7]
  have r9:=Eq.refl (Gq c)
  conv at r9=>rhs;simp only [Gq,S0z,allT,Tv,Tx,Tw,yz,Ui,Pv,e0,e1,e2,e3,s4,s6,i4,i6,i5,i7,i8,i9,s5,s7,s8,s9,s10,i10,hL,hR5,t0,t1,hN,r0,r1,r2,r3,r4,r5,r6,r7,r8]
  have r10:=Eq.refl (DP c)
  conv at r10=>rhs;simp only [DP,S0z,allT,Tv,Tx,Tw,yz,Ui,Pv,e0,e1,e2,e3,s4,s6,i4,i6,i5,i7,i8,i9,s5,s7,s8,s9,s10,i10,hL,hR5,t0,t1,hN,r0,r1,r2,r3,r4,r5,r6,r7,r8,r9]
  have r11:=Eq.refl (DQ c)
  conv at r11=>rhs;simp only [DQ,S0z,allT,Tv,Tx,Tw,yz,Ui,Pv,e0,e1,e2,e3,s4,s6,i4,i6,i5,i7,i8,i9,s5,s7,s8,s9,s10,i10,hL,hR5,t0,t1,hN,r0,r1,r2,r3,r4,r5,r6,r7,r8,r9,r10]
  have r12:=Eq.refl (DR c)
  conv at r12=>rhs;simp only [DR,S0z,allT,Tv,Tx,Tw,yz,Ui,Pv,e0,e1,e2,e3,s4,s6,i4,i6,i5,i7,i8,i9,s5,s7,s8,s9,s10,i10,hL,hR5,t0,t1,hN,r0,r1,r2,r3,r4,r5,r6,r7,r8,r9,r10,r11]
  have r13:=Eq.refl (DS c)
  conv at r13=>rhs;simp only [DS,S0z,allT,Tv,Tx,Tw,yz,Ui,Pv,e0,e1,e2,e3,s4,s6,i4,i6,i5,i7,i8,i9,s5,s7,s8,s9,s10,i10,hL,hR5,t0,t1,hN,r0,r1,r2,r3,r4,r5,r6,r7,r8,r9,r10,r11,r12]
  have r14:=Eq.refl (DT c)
  conv at r14=>rhs;simp only [DT,S0z,allT,Tv,Tx,Tw,yz,Ui,Pv,e0,e1,e2,e3,s4,s6,i4,i6,i5,i7,i8,i9,s5,s7,s8,s9,s10,i10,hL,hR5,t0,t1,hN,r0,r1,r2,r3,r4,r5,r6,r7,r8,r9,r10,r11,r12,r13]
  have r15:=Eq.refl (DU c)
  conv at r15=>rhs;simp only [DU,S0z,allT,Tv,Tx,Tw,yz,Ui,Pv,e0,e1,e2,e3,s4,s6,i4,i6,i5,i7,i8,i9,s5,s7,s8,s9,s10,i10,hL,hR5,t0,t1,hN,r0,r1,r2,r3,r4,r5,r6,r7,r8,r9,r10,r11,r12,r13,r14]
  have r16:=Eq.refl (DV c)
  conv at r16=>rhs;simp only [DV,S0z,allT,Tv,Tx,Tw,yz,Ui,Pv,e0,e1,e2,e3,s4,s6,i4,i6,i5,i7,i8,i9,s5,s7,s8,s9,s10,i10,hL,hR5,t0,t1,hN,r0,r1,r2,r3,r4,r5,r6,r7,r8,r9,r10,r11,r12,r13,r14,r15]
  have r17:=Eq.refl (DW c)
  conv at r17=>rhs;simp only [DW,S0z,allT,Tv,Tx,Tw,yz,Ui,Pv,e0,e1,e2,e3,s4,s6,i4,i6,i5,i7,i8,i9,s5,s7,s8,s9,s10,i10,hL,hR5,t0,t1,hN,r0,r1,r2,r3,r4,r5,r6,r7,r8,r9,r10,r11,r12,r13,r14,r15,r16]
  have r18:=Eq.refl (DX c)
  conv at r18=>rhs;simp only [DX,S0z,allT,Tv,Tx,Tw,yz,Ui,Pv,e0,e1,e2,e3,s4,s6,i4,i6,i5,i7,i8,i9,s5,s7,s8,s9,s10,i10,hL,hR5,t0,t1,hN,r0,r1,r2,r3,r4,r5,r6,r7,r8,r9,r10,r11,r12,r13,r14,r15,r16,r17]
  have r19:=Eq.refl (kT c)
  conv at r19=>rhs;simp only [kT,S0z,allT,Tv,Tx,Tw,yz,Ui,Pv,e0,e1,e2,e3,s4,s6,i4,i6,i5,i7,i8,i9,s5,s7,s8,s9,s10,i10,hL,hR5,t0,t1,hN,r0,r1,r2,r3,r4,r5,r6,r7,r8,r9,r10,r11,r12,r13,r14,r15,r16,r17,r18]
  have r20:=Eq.refl (vv c)
  conv at r20=>rhs;simp only [vv,S0z,allT,Tv,Tx,Tw,yz,Ui,Pv,e0,e1,e2,e3,s4,s6,i4,i6,i5,i7,i8,i9,s5,s7,s8,s9,s10,i10,hL,hR5,t0,t1,hN,r0,r1,r2,r3,r4,r5,r6,r7,r8,r9,r10,r11,r12,r13,r14,r15,r16,r17,r18,r19]
  have r21:=Eq.refl (DY c)
  conv at r21=>rhs;simp only [DY,S0z,allT,Tv,Tx,Tw,yz,Ui,Pv,e0,e1,e2,e3,s4,s6,i4,i6,i5,i7,i8,i9,s5,s7,s8,s9,s10,i10,hL,hR5,t0,t1,hN,r0,r1,r2,r3,r4,r5,r6,r7,r8,r9,r10,r11,r12,r13,r14,r15,r16,r17,r18,r19,r20]
  have r22:=Eq.refl (DZ c)
  conv at r22=>rhs;simp only [DZ,S0z,allT,Tv,Tx,Tw,yz,Ui,Pv,e0,e1,e2,e3,s4,s6,i4,i6,i5,i7,i8,i9,s5,s7,s8,s9,s10,i10,hL,hR5,t0,t1,hN,r0,r1,r2,r3,r4,r5,r6,r7,r8,r9,r10,r11,r12,r13,r14,r15,r16,r17,r18,r19,r20,r21]
  have r23:=Eq.refl (Ea c)
  conv at r23=>rhs;simp only [Ea,S0z,allT,Tv,Tx,Tw,yz,Ui,Pv,e0,e1,e2,e3,s4,s6,i4,i6,i5,i7,i8,i9,s5,s7,s8,s9,s10,i10,hL,hR5,t0,t1,hN,r0,r1,r2,r3,r4,r5,r6,r7,r8,r9,r10,r11,r12,r13,r14,r15,r16,r17,r18,r19,r20,r21,r22]
  have r24:=Eq.refl (Eb c)
  conv at r24=>rhs;simp only [Eb,S0z,allT,Tv,Tx,Tw,yz,Ui,Pv,e0,e1,e2,e3,s4,s6,i4,i6,i5,i7,i8,i9,s5,s7,s8,s9,s10,i10,hL,hR5,t0,t1,hN,r0,r1,r2,r3,r4,r5,r6,r7,r8,r9,r10,r11,r12,r13,r14,r15,r16,r17,r18,r19,r20,r21,r22,r23]
  have r25:=Eq.refl (Ec c)
  conv at r25=>rhs;simp only [Ec,S0z,allT,Tv,Tx,Tw,yz,Ui,Pv,e0,e1,e2,e3,s4,s6,i4,i6,i5,i7,i8,i9,s5,s7,s8,s9,s10,i10,hL,hR5,t0,t1,hN,r0,r1,r2,r3,r4,r5,r6,r7,r8,r9,r10,r11,r12,r13,r14,r15,r16,r17,r18,r19,r20,r21,r22,r23,r24]
  have r26:=Eq.refl (Oh c)
  conv at r26=>rhs;simp only [Oh,S0z,allT,Tv,Tx,Tw,yz,Ui,Pv,e0,e1,e2,e3,s4,s6,i4,i6,i5,i7,i8,i9,s5,s7,s8,s9,s10,i10,hL,hR5,t0,t1,hN,r0,r1,r2,r3,r4,r5,r6,r7,r8,r9,r10,r11,r12,r13,r14,r15,r16,r17,r18,r19,r20,r21,r22,r23,r24,r25]
  have r27:=Eq.refl (Oi c)
  conv at r27=>rhs;simp only [Oi,S0z,allT,Tv,Tx,Tw,yz,Ui,Pv,e0,e1,e2,e3,s4,s6,i4,i6,i5,i7,i8,i9,s5,s7,s8,s9,s10,i10,hL,hR5,t0,t1,hN,r0,r1,r2,r3,r4,r5,r6,r7,r8,r9,r10,r11,r12,r13,r14,r15,r16,r17,r18,r19,r20,r21,r22,r23,r24,r25,r26]
  have r28:=Eq.refl (Oj c)
  conv at r28=>rhs;simp only [Oj,S0z,allT,Tv,Tx,Tw,yz,Ui,Pv,e0,e1,e2,e3,s4,s6,i4,i6,i5,i7,i8,i9,s5,s7,s8,s9,s10,i10,hL,hR5,t0,t1,hN,r0,r1,r2,r3,r4,r5,r6,r7,r8,r9,r10,r11,r12,r13,r14,r15,r16,r17,r18,r19,r20,r21,r22,r23,r24,r25,r26,r27]
  have r29:=Eq.refl (Ok c)
  conv at r29=>rhs;simp only [Ok,S0z,allT,Tv,Tx,Tw,yz,Ui,Pv,e0,e1,e2,e3,s4,s6,i4,i6,i5,i7,i8,i9,s5,s7,s8,s9,s10,i10,hL,hR5,t0,t1,hN,r0,r1,r2,r3,r4,r5,r6,r7,r8,r9,r10,r11,r12,r13,r14,r15,r16,r17,r18,r19,r20,r21,r22,r23,r24,r25,r26,r27,r28]
  have r30:=Eq.refl (Ol c)
  conv at r30=>rhs;simp only [Ol,S0z,allT,Tv,Tx,Tw,yz,Ui,Pv,e0,e1,e2,e3,s4,s6,i4,i6,i5,i7,i8,i9,s5,s7,s8,s9,s10,i10,hL,hR5,t0,t1,hN,r0,r1,r2,r3,r4,r5,r6,r7,r8,r9,r10,r11,r12,r13,r14,r15,r16,r17,r18,r19,r20,r21,r22,r23,r24,r25,r26,r27,r28,r29]
  have r31:=Eq.refl (sn c)
  conv at r31=>rhs;simp only [sn,S0z,allT,Tv,Tx,Tw,yz,Ui,Pv,e0,e1,e2,e3,s4,s6,i4,i6,i5,i7,i8,i9,s5,s7,s8,s9,s10,i10,hL,hR5,t0,t1,hN,r0,r1,r2,r3,r4,r5,r6,r7,r8,r9,r10,r11,r12,r13,r14,r15,r16,r17,r18,r19,r20,r21,r22,r23,r24,r25,r26,r27,r28,r29,r30]
  cases hT2:T with
  |true=>
   have h3:Fz n t r=2:=by rw [Fz,hT,hT2];rfl
   have r32:mZ c=true:=by simp only [mZ,e3,h3,Tv,Tx,Tw];rfl
   refine⟨?_,?_⟩ <;> simp only [Nq,Nr,Tv,Tx,Tw,S0z,allT,Tv,Tx,Tw,yz,Ui,Pv,e0,e1,e2,e3,s4,s6,i4,i6,i5,i7,i8,i9,s5,s7,s8,s9,s10,i10,hL,hR5,t0,t1,hN,r0,r1,r2,r3,r4,r5,r6,r7,r8,r9,r10,r11,r12,r13,r14,r15,r16,r17,r18,r19,r20,r21,r22,r23,r24,r25,r26,r27,r28,r29,r30,r31,r32]
  |false=>
   subst hT2
   have MJ:=asG n t r hT
   have hc:=auz MJ
   obtain⟨p1,p2⟩:=at9 n t r hT
   rw [i4]at p1
   rw [i6]at p2
   rw [asH,← p1,← p2]at hc
   simp only [Bool.and_eq_true,List.all_eq_true,List.mem_range,beq_iff_eq]at hc
   obtain⟨WV,htol,hst⟩:=hc
   have z0:NJ n t r=n:=by rw [NJ,hT];rfl
   have z1:Ta n t r=0:=Bool.cond_self _ _
   have z2:Tb n t r=0:=Bool.cond_self _ _
   have z3:Fz n t r=0:=by rw [Fz,hT];rfl
   have hd2:0≤blV t 0 (rlS 3301 c) c∧blV t 0 (rlS 3301 c) c < t:=by omega
   generalize hk:blV t 0 (rlS 3301 c) c=k at *
   obtain⟨q1,q2⟩:=hst k.toNat (by omega)
   rw [show ((k.toNat:Nat):Int)=k by omega]at q1 q2
   have hO:uL n P [] R [] 0 [] [] 0=true:=by simp only [SP,Bool.and_eq_true]at WV;exact WV.1
   have hC:rrC n 0 0 P [] R [] [] [] [(0,k,(0,0),0,0,false)]=0:=by rw [aud,hO,show isX P R (0,k,(0,0),0,0,false)=true from q1];rfl
   have hB:rrB n 0 0 P [] R [] [] [] [(0,k,(0,0),0,0,false)]=true:=by rw [rrB,hC];rfl
   have hV:srV n 0 0 P [] R [] [] [] (0,k,(0,0),0,0,false)=1:=by rw [srV,hB];exact q2
   obtain⟨k1,k2,k3⟩:=atH (n:=n) (mode:=0) (day:=0) (fs:= []) (lf:= []) (pl:= []) (ls:= []) q1 (by rw [q2];rfl)
   have mN:rrN n 0 0 P [] R [] [] [] [(0,k,(0,0),0,0,false)]=n:=by rw [rrN,hB];rfl
   have mM:rrM n 0 0 P [] R [] [] [] [(0,k,(0,0),0,0,false)]=0:=by rw [rrM,hB];exact k1
   have mD:rrD n 0 0 P [] R [] [] [] [(0,k,(0,0),0,0,false)]=0:=by rw [rrD,hB];rfl
   have mP:rrP n 0 0 P [] R [] [] [] [(0,k,(0,0),0,0,false)]=P:=by rw [rrP,hB];exact k2
   have mF:rrF n 0 0 P [] R [] [] [] [(0,k,(0,0),0,0,false)]= []:=by rw [rrF,hB];rfl
   have mR:rrR n 0 0 P [] R [] [] [] [(0,k,(0,0),0,0,false)]=R:=by rw [rrR,hB];exact k3
   have mL:rrL n 0 0 P [] R [] [] [] [(0,k,(0,0),0,0,false)]= []:=by rw [rrL,hB];rfl
   have mPl:anh n 0 0 P [] R [] [] [] [(0,k,(0,0),0,0,false)]= []:=by rw [anh,hB];rfl
   have mLs:ang n 0 0 P [] R [] [] [] [(0,k,(0,0),0,0,false)]= []:=by rw [ang,hB];rfl
   obtain⟨g0,g1⟩:=akM n 0 0 P [] R [] [] [] hR5
   have lenc:leN c.length 4096=true:=dj nP
   have tpos:leI 1 t=true:=cR (by omega)
   have z00:leI 0 0=true:=rfl
   have n00:((0:Int)!=0)=false:=rfl
   have b00:((0:Int)==0)=true:=rfl
   have r32:=Eq.refl (mZ c)
   conv at r32=>rhs;simp only [mZ,S0z,allT,Tv,Tx,Tw,yz,Ui,Pv,e0,e1,e2,e3,s4,s6,i4,i6,i5,i7,i8,i9,s5,s7,s8,s9,s10,i10,hL,hR5,t0,t1,hN,z0,z1,z2,z3,hk,n00,b00,hC,hV,mN,mM,mD,mP,mF,mR,mL,mPl,mLs,WV,r0,r1,r2,r3,r4,r5,r6,r7,r8,r9,r10,r11,r12,r13,r14,r15,r16,r17,r18,r19,r20,r21,r22,r23,r24,r25,r26,r27,r28,r29,r30,r31]
   have r33:=Eq.refl (bf c)
   conv at r33=>rhs;simp only [bf,S0z,allT,Tv,Tx,Tw,yz,Ui,Pv,e0,e1,e2,e3,s4,s6,i4,i6,i5,i7,i8,i9,s5,s7,s8,s9,s10,i10,hL,hR5,t0,t1,hN,z0,z1,z2,z3,hk,n00,b00,hC,hV,mN,mM,mD,mP,mF,mR,mL,mPl,mLs,WV,r0,r1,r2,r3,r4,r5,r6,r7,r8,r9,r10,r11,r12,r13,r14,r15,r16,r17,r18,r19,r20,r21,r22,r23,r24,r25,r26,r27,r28,r29,r30,r31,r32]
   have r34:=Eq.refl (bW c)
   conv at r34=>rhs;simp only [bW,S0z,allT,Tv,Tx,Tw,yz,Ui,Pv,e0,e1,e2,e3,s4,s6,i4,i6,i5,i7,i8,i9,s5,s7,s8,s9,s10,i10,hL,hR5,t0,t1,hN,z0,z1,z2,z3,hk,n00,b00,hC,hV,mN,mM,mD,mP,mF,mR,mL,mPl,mLs,WV,r0,r1,r2,r3,r4,r5,r6,r7,r8,r9,r10,r11,r12,r13,r14,r15,r16,r17,r18,r19,r20,r21,r22,r23,r24,r25,r26,r27,r28,r29,r30,r31,r32,r33]
   have r35:=Eq.refl (bg c)
   conv at r35=>rhs;simp only [bg,S0z,allT,Tv,Tx,Tw,yz,Ui,Pv,e0,e1,e2,e3,s4,s6,i4,i6,i5,i7,i8,i9,s5,s7,s8,s9,s10,i10,hL,hR5,t0,t1,hN,z0,z1,z2,z3,hk,n00,b00,hC,hV,mN,mM,mD,mP,mF,mR,mL,mPl,mLs,WV,r0,r1,r2,r3,r4,r5,r6,r7,r8,r9,r10,r11,r12,r13,r14,r15,r16,r17,r18,r19,r20,r21,r22,r23,r24,r25,r26,r27,r28,r29,r30,r31,r32,r33,r34]
   have r36:=Eq.refl (bX c)
   conv at r36=>rhs;simp only [bX,S0z,allT,Tv,Tx,Tw,yz,Ui,Pv,e0,e1,e2,e3,s4,s6,i4,i6,i5,i7,i8,i9,s5,s7,s8,s9,s10,i10,hL,hR5,t0,t1,hN,z0,z1,z2,z3,hk,n00,b00,hC,hV,mN,mM,mD,mP,mF,mR,mL,mPl,mLs,WV,r0,r1,r2,r3,r4,r5,r6,r7,r8,r9,r10,r11,r12,r13,r14,r15,r16,r17,r18,r19,r20,r21,r22,r23,r24,r25,r26,r27,r28,r29,r30,r31,r32,r33,r34,r35]
   have r37:=Eq.refl (bY c)
   conv at r37=>rhs;simp only [bY,S0z,allT,Tv,Tx,Tw,yz,Ui,Pv,e0,e1,e2,e3,s4,s6,i4,i6,i5,i7,i8,i9,s5,s7,s8,s9,s10,i10,hL,hR5,t0,t1,hN,z0,z1,z2,z3,hk,n00,b00,hC,hV,mN,mM,mD,mP,mF,mR,mL,mPl,mLs,WV,r0,r1,r2,r3,r4,r5,r6,r7,r8,r9,r10,r11,r12,r13,r14,r15,r16,r17,r18,r19,r20,r21,r22,r23,r24,r25,r26,r27,r28,r29,r30,r31,r32,r33,r34,r35,r36]
   have r38:=Eq.refl (bZ c)
   conv at r38=>rhs;simp only [bZ,S0z,allT,Tv,Tx,Tw,yz,Ui,Pv,e0,e1,e2,e3,s4,s6,i4,i6,i5,i7,i8,i9,s5,s7,s8,s9,s10,i10,hL,hR5,t0,t1,hN,z0,z1,z2,z3,hk,n00,b00,hC,hV,mN,mM,mD,mP,mF,mR,mL,mPl,mLs,WV,r0,r1,r2,r3,r4,r5,r6,r7,r8,r9,r10,r11,r12,r13,r14,r15,r16,r17,r18,r19,r20,r21,r22,r23,r24,r25,r26,r27,r28,r29,r30,r31,r32,r33,r34,r35,r36,r37]
   have r39:=Eq.refl (dm c)
   conv at r39=>rhs;simp only [dm,S0z,allT,Tv,Tx,Tw,yz,Ui,Pv,e0,e1,e2,e3,s4,s6,i4,i6,i5,i7,i8,i9,s5,s7,s8,s9,s10,i10,hL,hR5,t0,t1,hN,z0,z1,z2,z3,hk,n00,b00,hC,hV,mN,mM,mD,mP,mF,mR,mL,mPl,mLs,WV,r0,r1,r2,r3,r4,r5,r6,r7,r8,r9,r10,r11,r12,r13,r14,r15,r16,r17,r18,r19,r20,r21,r22,r23,r24,r25,r26,r27,r28,r29,r30,r31,r32,r33,r34,r35,r36,r37,r38]
   have r40:=Eq.refl (fM c)
   conv at r40=>rhs;simp only [fM,S0z,allT,Tv,Tx,Tw,yz,Ui,Pv,e0,e1,e2,e3,s4,s6,i4,i6,i5,i7,i8,i9,s5,s7,s8,s9,s10,i10,hL,hR5,t0,t1,hN,z0,z1,z2,z3,hk,n00,b00,hC,hV,mN,mM,mD,mP,mF,mR,mL,mPl,mLs,WV,r0,r1,r2,r3,r4,r5,r6,r7,r8,r9,r10,r11,r12,r13,r14,r15,r16,r17,r18,r19,r20,r21,r22,r23,r24,r25,r26,r27,r28,r29,r30,r31,r32,r33,r34,r35,r36,r37,r38,r39]
   have r41:=Eq.refl (oX c)
   conv at r41=>rhs;simp only [oX,S0z,allT,Tv,Tx,Tw,yz,Ui,Pv,e0,e1,e2,e3,s4,s6,i4,i6,i5,i7,i8,i9,s5,s7,s8,s9,s10,i10,hL,hR5,t0,t1,hN,z0,z1,z2,z3,hk,n00,b00,hC,hV,mN,mM,mD,mP,mF,mR,mL,mPl,mLs,WV,r0,r1,r2,r3,r4,r5,r6,r7,r8,r9,r10,r11,r12,r13,r14,r15,r16,r17,r18,r19,r20,r21,r22,r23,r24,r25,r26,r27,r28,r29,r30,r31,r32,r33,r34,r35,r36,r37,r38,r39,r40]
   have r42:=Eq.refl (Ed c)
   conv at r42=>rhs;simp only [Ed,S0z,allT,Tv,Tx,Tw,yz,Ui,Pv,e0,e1,e2,e3,s4,s6,i4,i6,i5,i7,i8,i9,s5,s7,s8,s9,s10,i10,hL,hR5,t0,t1,hN,z0,z1,z2,z3,hk,n00,b00,hC,hV,mN,mM,mD,mP,mF,mR,mL,mPl,mLs,WV,r0,r1,r2,r3,r4,r5,r6,r7,r8,r9,r10,r11,r12,r13,r14,r15,r16,r17,r18,r19,r20,r21,r22,r23,r24,r25,r26,r27,r28,r29,r30,r31,r32,r33,r34,r35,r36,r37,r38,r39,r40,r41]
   have r43:=Eq.refl (Ee c)
   conv at r43=>rhs;simp only [Ee,S0z,allT,Tv,Tx,Tw,yz,Ui,Pv,e0,e1,e2,e3,s4,s6,i4,i6,i5,i7,i8,i9,s5,s7,s8,s9,s10,i10,hL,hR5,t0,t1,hN,z0,z1,z2,z3,hk,n00,b00,hC,hV,mN,mM,mD,mP,mF,mR,mL,mPl,mLs,WV,r0,r1,r2,r3,r4,r5,r6,r7,r8,r9,r10,r11,r12,r13,r14,r15,r16,r17,r18,r19,r20,r21,r22,r23,r24,r25,r26,r27,r28,r29,r30,r31,r32,r33,r34,r35,r36,r37,r38,r39,r40,r41,r42]
   have r44:=Eq.refl (Ef c)
   conv at r44=>rhs;simp only [Ef,S0z,allT,Tv,Tx,Tw,yz,Ui,Pv,e0,e1,e2,e3,s4,s6,i4,i6,i5,i7,i8,i9,s5,s7,s8,s9,s10,i10,hL,hR5,t0,t1,hN,z0,z1,z2,z3,hk,n00,b00,hC,hV,mN,mM,mD,mP,mF,mR,mL,mPl,mLs,WV,r0,r1,r2,r3,r4,r5,r6,r7,r8,r9,r10,r11,r12,r13,r14,r15,r16,r17,r18,r19,r20,r21,r22,r23,r24,r25,r26,r27,r28,r29,r30,r31,r32,r33,r34,r35,r36,r37,r38,r39,r40,r41,r42,r43]
   have r45:=Eq.refl (Eg c)
   conv at r45=>rhs;simp only [Eg,S0z,allT,Tv,Tx,Tw,yz,Ui,Pv,e0,e1,e2,e3,s4,s6,i4,i6,i5,i7,i8,i9,s5,s7,s8,s9,s10,i10,hL,hR5,t0,t1,hN,z0,z1,z2,z3,hk,n00,b00,hC,hV,mN,mM,mD,mP,mF,mR,mL,mPl,mLs,WV,r0,r1,r2,r3,r4,r5,r6,r7,r8,r9,r10,r11,r12,r13,r14,r15,r16,r17,r18,r19,r20,r21,r22,r23,r24,r25,r26,r27,r28,r29,r30,r31,r32,r33,r34,r35,r36,r37,r38,r39,r40,r41,r42,r43,r44]
   have r46:=Eq.refl (Om c)
   conv at r46=>rhs;simp only [Om,S0z,allT,Tv,Tx,Tw,yz,Ui,Pv,e0,e1,e2,e3,s4,s6,i4,i6,i5,i7,i8,i9,s5,s7,s8,s9,s10,i10,hL,hR5,t0,t1,hN,z0,z1,z2,z3,hk,n00,b00,hC,hV,mN,mM,mD,mP,mF,mR,mL,mPl,mLs,WV,r0,r1,r2,r3,r4,r5,r6,r7,r8,r9,r10,r11,r12,r13,r14,r15,r16,r17,r18,r19,r20,r21,r22,r23,r24,r25,r26,r27,r28,r29,r30,r31,r32,r33,r34,r35,r36,r37,r38,r39,r40,r41,r42,r43,r44,r45]
   have r47:=Eq.refl (On c)
   conv at r47=>rhs;simp only [On,S0z,allT,Tv,Tx,Tw,yz,Ui,Pv,e0,e1,e2,e3,s4,s6,i4,i6,i5,i7,i8,i9,s5,s7,s8,s9,s10,i10,hL,hR5,t0,t1,hN,z0,z1,z2,z3,hk,n00,b00,hC,hV,mN,mM,mD,mP,mF,mR,mL,mPl,mLs,WV,r0,r1,r2,r3,r4,r5,r6,r7,r8,r9,r10,r11,r12,r13,r14,r15,r16,r17,r18,r19,r20,r21,r22,r23,r24,r25,r26,r27,r28,r29,r30,r31,r32,r33,r34,r35,r36,r37,r38,r39,r40,r41,r42,r43,r44,r45,r46]
   have r48:=Eq.refl (Oo c)
   conv at r48=>rhs;simp only [Oo,S0z,allT,Tv,Tx,Tw,yz,Ui,Pv,e0,e1,e2,e3,s4,s6,i4,i6,i5,i7,i8,i9,s5,s7,s8,s9,s10,i10,hL,hR5,t0,t1,hN,z0,z1,z2,z3,hk,n00,b00,hC,hV,mN,mM,mD,mP,mF,mR,mL,mPl,mLs,WV,r0,r1,r2,r3,r4,r5,r6,r7,r8,r9,r10,r11,r12,r13,r14,r15,r16,r17,r18,r19,r20,r21,r22,r23,r24,r25,r26,r27,r28,r29,r30,r31,r32,r33,r34,r35,r36,r37,r38,r39,r40,r41,r42,r43,r44,r45,r46,r47]
   have r49:=Eq.refl (Oq c)
   conv at r49=>rhs;simp only [Oq,S0z,allT,Tv,Tx,Tw,yz,Ui,Pv,e0,e1,e2,e3,s4,s6,i4,i6,i5,i7,i8,i9,s5,s7,s8,s9,s10,i10,hL,hR5,t0,t1,hN,z0,z1,z2,z3,hk,n00,b00,hC,hV,mN,mM,mD,mP,mF,mR,mL,mPl,mLs,WV,r0,r1,r2,r3,r4,r5,r6,r7,r8,r9,r10,r11,r12,r13,r14,r15,r16,r17,r18,r19,r20,r21,r22,r23,r24,r25,r26,r27,r28,r29,r30,r31,r32,r33,r34,r35,r36,r37,r38,r39,r40,r41,r42,r43,r44,r45,r46,r47,r48]
   have r50:=Eq.refl (Ot c)
   conv at r50=>rhs;simp only [Ot,S0z,allT,Tv,Tx,Tw,yz,Ui,Pv,e0,e1,e2,e3,s4,s6,i4,i6,i5,i7,i8,i9,s5,s7,s8,s9,s10,i10,hL,hR5,t0,t1,hN,z0,z1,z2,z3,hk,n00,b00,hC,hV,mN,mM,mD,mP,mF,mR,mL,mPl,mLs,WV,r0,r1,r2,r3,r4,r5,r6,r7,r8,r9,r10,r11,r12,r13,r14,r15,r16,r17,r18,r19,r20,r21,r22,r23,r24,r25,r26,r27,r28,r29,r30,r31,r32,r33,r34,r35,r36,r37,r38,r39,r40,r41,r42,r43,r44,r45,r46,r47,r48,r49]
   have r51:=Eq.refl (Ou c)
   conv at r51=>rhs;simp only [Ou,S0z,allT,Tv,Tx,Tw,yz,Ui,Pv,e0,e1,e2,e3,s4,s6,i4,i6,i5,i7,i8,i9,s5,s7,s8,s9,s10,i10,hL,hR5,t0,t1,hN,z0,z1,z2,z3,hk,n00,b00,hC,hV,mN,mM,mD,mP,mF,mR,mL,mPl,mLs,WV,r0,r1,r2,r3,r4,r5,r6,r7,r8,r9,r10,r11,r12,r13,r14,r15,r16,r17,r18,r19,r20,r21,r22,r23,r24,r25,r26,r27,r28,r29,r30,r31,r32,r33,r34,r35,r36,r37,r38,r39,r40,r41,r42,r43,r44,r45,r46,r47,r48,r49,r50]
   have r52:=Eq.refl (Ov c)
   conv at r52=>rhs;simp only [Ov,S0z,allT,Tv,Tx,Tw,yz,Ui,Pv,e0,e1,e2,e3,s4,s6,i4,i6,i5,i7,i8,i9,s5,s7,s8,s9,s10,i10,hL,hR5,t0,t1,hN,z0,z1,z2,z3,hk,n00,b00,hC,hV,mN,mM,mD,mP,mF,mR,mL,mPl,mLs,WV,r0,r1,r2,r3,r4,r5,r6,r7,r8,r9,r10,r11,r12,r13,r14,r15,r16,r17,r18,r19,r20,r21,r22,r23,r24,r25,r26,r27,r28,r29,r30,r31,r32,r33,r34,r35,r36,r37,r38,r39,r40,r41,r42,r43,r44,r45,r46,r47,r48,r49,r50,r51]
   refine⟨?_,?_⟩ <;> simp only [Nq,Nr,Tv,Tx,Tw,S0z,allT,Tv,Tx,Tw,yz,Ui,Pv,s4,s6,i4,i6,i5,i7,i8,i9,s5,s7,s8,s9,s10,i10,hL,hR5,t0,t1,hN,e0,e1,e2,e3,z0,z1,z2,z3,hk,hC,hV,mN,mM,mD,mP,mF,mR,mL,mPl,mLs,WV,htol,g0,g1,lenc,tpos,z00,r0,r1,r2,r3,r4,r5,r6,r7,r8,r9,r10,r11,r12,r13,r14,r15,r16,r17,r18,r19,r20,r21,r22,r23,r24,r25,r26,r27,r28,r29,r30,r31,r32,r33,r34,r35,r36,r37,r38,r39,r40,r41,r42,r43,r44,r45,r46,r47,r48,r49,r50,r51,r52]
end Go.SX
