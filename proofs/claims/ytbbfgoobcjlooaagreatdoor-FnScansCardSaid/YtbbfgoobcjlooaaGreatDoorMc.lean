/- What functions of the program come to, and what that says in plain words: part 3. -/
import Derived.Test.YtbbfgoobcjlooaaGreatDoorMb
import Derived.Test.YtbbfgoobcjlooaaGreatDoorTXh
import Derived.Test.YtbbfgoobcjlooaaGreatDoorProg
set_option linter.unusedSimpArgs false
set_option linter.unusedVariables false
namespace Go.SX
open Go.Proofs Go.Proofs.Tryz
set_option maxRecDepth 100000
abbrev cH:=Int×Int×List (ByteArray×(List (Int×(ByteArray×Int))))×ByteArray×ByteArray×Int×List ByteArray×List ByteArray×List ByteArray×List Int×List (Int×(Int×Int))×List Int×List Int
def aN(y0:Int)(y2:List (ByteArray×(List (Int×(ByteArray×Int))))):ByteArray×List (Int×ByteArray×Int):=Option.getD y2[Int.toNat y0]? (xE aas)
def ii(y0 y1:Int):Bool:=ltI y0 y1
def ij(y0:Int):Bool:=leI 0 y0
def ik(y0:Int)(y2:List (ByteArray×(List (Int×(ByteArray×Int))))):Bool:=ltI y0 (↑y2.length:Int)
def il(y0:Int)(y2:List (ByteArray×(List (Int×(ByteArray×Int))))):Bool:=ltN y0.toNat y2.length
def im(y0:Int)(y2:List (ByteArray×(List (Int×(ByteArray×Int)))))(y3 y4:ByteArray)(y5:Int)(y6 y7 y8:List ByteArray)(y9:List Int)(y10:List (Int×(Int×Int)))(y11 y12:List Int):Bool:=gJ ((aN y0 y2).1) y3 y4 y5 ((aN y0 y2).2) y6 y7 y8 y2 y9 y10 y11 y12
def io(y0:Int):Int:=IntKind.wrap .i64 (y0 + (1:Int))
def ip(y0:Int)(y2:List (ByteArray×(List (Int×(ByteArray×Int)))))(y3 y4:ByteArray)(y5:Int)(y6 y7 y8:List ByteArray)(y9:List Int)(y10:List (Int×(Int×Int)))(y11 y12:List Int):ByteArray:=lv y3 y4 y5 ((aN y0 y2).2) y6 y7 y8 y2 y9 y10 y11 y12
def iq(y0:Int)(y2:List (ByteArray×(List (Int×(ByteArray×Int)))))(y3 y4:ByteArray)(y5:Int)(y6 y7 y8:List ByteArray)(y9:List Int)(y10:List (Int×(Int×Int)))(y11 y12:List Int):ByteArray:=lw y3 y4 y5 ((aN y0 y2).2) y6 y7 y8 y2 y9 y10 y11 y12
def ir(y0:Int)(y2:List (ByteArray×(List (Int×(ByteArray×Int)))))(y3 y4:ByteArray)(y5:Int)(y6 y7 y8:List ByteArray)(y9:List Int)(y10:List (Int×(Int×Int)))(y11 y12:List Int):Int:=ly y3 y4 y5 ((aN y0 y2).2) y6 y7 y8 y2 y9 y10 y11 y12
def iu(y0:Int)(y2:List (ByteArray×(List (Int×(ByteArray×Int)))))(y3 y4:ByteArray)(y5:Int)(y6 y7 y8:List ByteArray)(y9:List Int)(y10:List (Int×(Int×Int)))(y11 y12:List Int):List Int:=lz ((aN y0 y2).1) y3 y4 y5 ((aN y0 y2).2) y6 y7 y8 y2 y9 y10 y11 y12
def gH(y0:Int)(y2:List (ByteArray×(List (Int×(ByteArray×Int)))))(y3 y4:ByteArray)(y5:Int)(y6 y7 y8:List ByteArray)(y9:List Int)(y10:List (Int×(Int×Int)))(y11 y12:List Int):List (Int×(Int×Int)):=lA y3 y4 y5 ((aN y0 y2).2) y6 y7 y8 y2 y9 y10 y11 y12
def gI(y0:Int)(y2:List (ByteArray×(List (Int×(ByteArray×Int)))))(y3 y4:ByteArray)(y5:Int)(y6 y7 y8:List ByteArray)(y9:List Int)(y10:List (Int×(Int×Int)))(y11 y12:List Int):List Int:=lC ((aN y0 y2).1) y3 y4 y5 ((aN y0 y2).2) y6 y7 y8 y2 y9 y10 y11 y12
def IB:cH→List (Nat×SV)
 |(y0,y1,_,_,_,_,_,_,_,_,_,_,_)=> [(24,(.one ⟨false,[.val (.int .i64 y0)]⟩)),(23,(.one ⟨false,[.val (.int .i64 y1)]⟩)),(22,(.one ⟨false,[.ref 0]⟩)),(8,(.one ⟨false,[.ptr 1 0]⟩))]
def Iz:cH→List (Nat×Entry)
 |(_,_,y2,y3,y4,y5,y6,y7,y8,y9,y10,y11,y12)=> [(0,(.row false 204 aas y2)),(1,(.box 202 [.val (.string y3),.ref 2,.ref 3,.ref 4,.val (.string y4),.ref 0,.ref 5,.ref 6,.ref 7,.ref 8,.val (.int .i64 y5)])),(2,(.row false 9 alP y6)),(3,(.row false 9 alP y7)),(4,(.row false 9 alP y8)),(5,(.row true 2 ai3 y9)),(6,(.row true 172 abM y10)),(7,(.row false 2 ai3 y11)),(8,(.row true 2 ai3 y12))]
def IF:Nat→cH→List (Nat×SV)
 |_,(_,_,_,_,_,_,_,_,_,_,_,_,_)=> []
def ID:Nat→cH→List (Nat×Entry)
 |_,(_,_,y2,y3,y4,y5,y6,y7,y8,y9,y10,y11,y12)=> [(0,(.row false 204 aas y2)),(1,(.box 202 [.val (.string y3),.ref 2,.ref 3,.ref 4,.val (.string y4),.ref 0,.ref 5,.ref 6,.ref 7,.ref 8,.val (.int .i64 y5)])),(2,(.row false 9 alP y6)),(3,(.row false 9 alP y7)),(4,(.row false 9 alP y8)),(5,(.row true 2 ai3 y9)),(6,(.row true 172 abM y10)),(7,(.row false 2 ai3 y11)),(8,(.row true 2 ai3 y12))]
def gO:cH→LT cH
 |(y0,y1,y2,y3,y4,y5,y6,y7,y8,y9,y10,y11,y12)=> .ite (ii y0 y1) (.need [ij y0,ik y0 y2,il y0 y2] (.need [im y0 y2 y3 y4 y5 y6 y7 y8 y9 y10 y11 y12] (.nrm ((io y0),y1,y2,ip y0 y2 y3 y4 y5 y6 y7 y8 y9 y10 y11 y12,iq y0 y2 y3 y4 y5 y6 y7 y8 y9 y10 y11 y12,ir y0 y2 y3 y4 y5 y6 y7 y8 y9 y10 y11 y12,y6,y7,y8,iu y0 y2 y3 y4 y5 y6 y7 y8 y9 y10 y11 y12,gH y0 y2 y3 y4 y5 y6 y7 y8 y9 y10 y11 y12,y11,(gI y0 y2 y3 y4 y5 y6 y7 y8 y9 y10 y11 y12)) [(0,0),(1,1),(2,2),(3,3),(4,4),(5,5),(6,6),(7,7),(8,8)]))) (.ext 0 [(0,0),(1,1),(2,2),(3,3),(4,4),(5,5),(6,6),(7,7),(8,8)])
def qv(s:St):Option cH:=
 (match s.look 24 with
 |some ⟨none,.one ⟨false,[.val (.int .i64 y0)]⟩⟩=>
 (match s.look 23 with
 |some ⟨none,.one ⟨false,[.val (.int .i64 y1)]⟩⟩=>
 (match s.look 22 with
 |some ⟨none,.one ⟨false,[.ref 3]⟩⟩=>
 (match s.look 8 with
 |some ⟨none,.one ⟨false,[.ptr 1344 0]⟩⟩=>
 (match s.ent 3 with
 |some (.row false 204 (.pair .str (.sl 178 (.pair (.int .i64) (.pair .str (.int .i64))))) y2)=>
 (match s.ent 1344 with
 |some (.box 202 [.val (.string y3),.ref 0,.ref 1,.ref 2,.val (.string y4),.ref 3,.ref 896,.ref 897,.ref 6,.ref 1216,.val (.int .i64 y5)])=>
 (match s.ent 0 with
 |some (.row false 9 (.str) y6)=>
 (match s.ent 1 with
 |some (.row false 9 (.str) y7)=>
 (match s.ent 2 with
 |some (.row false 9 (.str) y8)=>
 (match s.ent 896 with
 |some (.row true 2 (.int .i64) y9)=>
 (match s.ent 897 with
 |some (.row true 172 (.pair (.int .i64) (.pair (.int .i64) (.int .i64))) y10)=>
 (match s.ent 6 with
 |some (.row false 2 (.int .i64) y11)=>
 (match s.ent 1216 with
 |some (.row true 2 (.int .i64) y12)=>
 some (y0,y1,y2,y3,y4,y5,y6,y7,y8,y9,y10,y11,y12)
 |_=>none)
 |_=>none)
 |_=>none)
 |_=>none)
 |_=>none)
 |_=>none)
 |_=>none)
 |_=>none)
 |_=>none)
 |_=>none)
 |_=>none)
 |_=>none)
 |_=>none)
def aF:Lp cH where
 h:=⟨[25,26,27,10,28,29,30,31,24],[0,1,2,3,4,5,6,7,8],[],[]⟩
 JL:=IB
 JE:=Iz
 XL:=IF
 XE:=ID
 q:=fun j=>match j with | _=> .exit 0
 tags:= [0]
 lt:=gO
 fuel:=fun(y0,y1,y2,y3,y4,y5,y6,y7,y8,y9,y10,y11,y12)=>y0.natAbs + y1.natAbs + y2.length + y3.size + y4.size + y5.natAbs + y6.length + y7.length + y8.length + y9.length + y10.length + y11.length + y12.length
 fix:=fun(_,y1,y2,_,_,_,y6,y7,y8,_,_,y11,_) (y0,_,_,y3,y4,y5,_,_,_,y9,y10,_,y12)=>(y0,y1,y2,y3,y4,y5,y6,y7,y8,y9,y10,y11,y12)
 σ:= [(0,3),(1,1344),(2,0),(3,1),(4,2),(5,896),(6,897),(7,6),(8,1216)]
 rd:=qv
theorem GI:LoopOk prog (fun k=>Nat.blt k Tryz.f111.ntmps) aF.F (aY f111 0):=by
 refine Lp.ok (tbl:= [zB,xM,wY]) (lf:= []) aV aF (by kernel_rfl) (LOk.nil _) (fun _=>rfl) (fun _ _=>rfl) ?_ ?_ ?_ ?_ (fun _=>rfl) ?_
 ·rintro⟨y0,y1,y2,y3,y4,y5,y6,y7,y8,y9,y10,y11,y12⟩;kernel_rfl
 ·rintro⟨y0,y1,y2,y3,y4,y5,y6,y7,y8,y9,y10,y11,y12⟩;kernel_rfl
 ·intro s x h
  have h:qv s=some x:=h
  unfold qv at h
  repeat' split at h
  all_goals cases h
  constructor<;>repeat(first|refine ab (by assumption) rfl ?_|refine aa rfl (by assumption) rfl ?_|exact rfl)
 ·rintro⟨y0,y1,y2,y3,y4,y5,y6,y7,y8,y9,y10,y11,y12⟩;kernel_rfl
 ·rintro⟨y0,y1,y2,y3,y4,y5,y6,y7,y8,y9,y10,y11,y12⟩ z;exact(And.intro rfl trivial)
section
variable (x0 x1:ByteArray)(x2 x3 x4:List ByteArray)(x5:List (ByteArray×List (Int×ByteArray×Int)))(x6:List Int)(x7:List (Int×Int×Int))(x8:List Int)
def dP:Bool:= !ByteArray.toList x1==ByteArray.toList (ByteArray.mk #[])
def jl:Int×Int×List (ByteArray×List (Int×ByteArray×Int))×ByteArray×ByteArray×Int×List ByteArray×List ByteArray×List ByteArray×List Int×List (Int×Int×Int)×List Int×List Int:=((0:Int),(↑x5.length:Int),x5,x0,x1,(0:Int),x2,x3,x4,x6,x7,x8,List.replicate (Int.toNat (↑x4.length:Int)) (0:Int))
def mW:List Int×List (Int×Int×Int)×List Int×List Int:=(Lp.res aF (jl x0 x1 x2 x3 x4 x5 x6 x7 x8)).2.2.2.2.2.2.2.2.2.2
def fE:List Int:=(mW x0 x1 x2 x3 x4 x5 x6 x7 x8).1
def mX:List (Int×Int×Int)×List Int×List Int:=(mW x0 x1 x2 x3 x4 x5 x6 x7 x8).2
def rN:List Int:=(mX x0 x1 x2 x3 x4 x5 x6 x7 x8).2.2
def mY:List Int:=bif dP x1&&true then pW x1 x2 (rN x0 x1 x2 x3 x4 x5 x6 x7 x8)else rN x0 x1 x2 x3 x4 x5 x6 x7 x8
def mZ:List (Int×Int×Int):=(mX x0 x1 x2 x3 x4 x5 x6 x7 x8).1
def nL:List Int:=bif bif dP x1 then kM x1 x2 x3 (fE x0 x1 x2 x3 x4 x5 x6 x7 x8) x8==0 else false then ZN (List.length (mY x0 x1 x2 x3 x4 x5 x6 x7 x8))else mY x0 x1 x2 x3 x4 x5 x6 x7 x8
def nM:List Int:=bif dP x1&&true then pU x1 x2 (fE x0 x1 x2 x3 x4 x5 x6 x7 x8)else fE x0 x1 x2 x3 x4 x5 x6 x7 x8
def nN:List (Int×(Int×Int)):=bif dP x1&&true then pV x1 x2 (mZ x0 x1 x2 x3 x4 x5 x6 x7 x8)else mZ x0 x1 x2 x3 x4 x5 x6 x7 x8
def nO:Bool:=allT [mS x6 x7,leI 0 (↑x4.length:Int),leI (↑x4.length:Int) (↑x4.length:Int),leI ((↑(8:Nat):Int) * (↑x4.length:Int)) 281474976710656,leI (↑x4.length:Int) 9223372036854775807,Lp.fin aF (jl x0 x1 x2 x3 x4 x5 x6 x7 x8),!(dP x1&&true)||kN x1 x2 x3 (fE x0 x1 x2 x3 x4 x5 x6 x7 x8) x8]
end
def Aw:List SV→List Entry→Option Out
 | [.one ⟨true,[.val (.string x0),.ref 0,.ref 1,.ref 2,.val (.string x1),.ref 3]⟩,.one ⟨true,[.ref 4,.ref 5]⟩,.one ⟨false,[.ref 6]⟩],[.row false 9 (.str) x2,.row false 9 (.str) x3,.row false 9 (.str) x4,.row false 204 (.pair (.str) (.sl 178 (.pair (.int .i64) (.pair (.str) (.int .i64))))) x5,.row false 2 (.int .i64) x6,.row false 172 (.pair (.int .i64) (.pair (.int .i64) (.int .i64))) x7,.row false 2 (.int .i64) x8]=>some ⟨.tup [⟨false,[.ref 7]⟩,⟨true,[.ref 8,.ref 9]⟩],[.row false 9 alP x2,.row false 9 alP x3,.row false 9 alP x4,.row false 204 (CTy.pair CTy.str (CTy.sl (178:TypeId) acQ)) x5,.row false 2 ai3 x6,.row false 172 abM x7,.row false 2 ai3 x8],[.row true 2 ai3 (nL x0 x1 x2 x3 x4 x5 x6 x7 x8),.row true 2 ai3 (nM x0 x1 x2 x3 x4 x5 x6 x7 x8),.row true 172 abM (nN x0 x1 x2 x3 x4 x5 x6 x7 x8)],[nO x0 x1 x2 x3 x4 x5 x6 x7 x8]⟩
 |_,_=>none
def Lz:PF prog:=PF.ofG prog [zB,xM,wY] [aF.F] aV 111 f111 func111 (LOk.fnT (l:= [aY f111 0]) (by kernel_rfl) (.cons GI (.nil _))) Aw (by
 intro vs es r h;unfold Aw at h;split at h
 ·cases h;kernel_rfl
 ·cases h)
section
variable (x0 x1:ByteArray)(x2 x3 x4:List ByteArray)(x5:List (ByteArray×List (Int×ByteArray×Int)))(x6:List Int)(x7:List (Int×Int×Int))(x8:List Int)
def Ul:Int:=OK x0 x1 x2 x3 x4 x5 x6 x7 [x8]
def EX:Bool:=Ul x0 x1 x2 x3 x4 x5 x6 x7 x8 !=0
def Mp:Int:=bif EX x0 x1 x2 x3 x4 x5 x6 x7 x8 then Ul x0 x1 x2 x3 x4 x5 x6 x7 x8 else(0:Int)
def Mq:List Int:=bif EX x0 x1 x2 x3 x4 x5 x6 x7 x8 then []else nL x0 x1 x2 x3 x4 x5 x6 x7 x8
def VH:List Int:=bif EX x0 x1 x2 x3 x4 x5 x6 x7 x8 then []else nM x0 x1 x2 x3 x4 x5 x6 x7 x8
def VI:List (Int×(Int×Int)):=bif EX x0 x1 x2 x3 x4 x5 x6 x7 x8 then []else nN x0 x1 x2 x3 x4 x5 x6 x7 x8
def QS:Bool:=allT [OL x0 x1 x2 x3 x4 x5 x6 x7 [x8],EX x0 x1 x2 x3 x4 x5 x6 x7 x8||nO x0 x1 x2 x3 x4 x5 x6 x7 x8]
end
def abO:List SV→List Entry→Option Out
 | [.one ⟨true,[.val (.string x0),.ref 0,.ref 1,.ref 2,.val (.string x1),.ref 3]⟩,.one ⟨true,[.ref 4,.ref 5]⟩,.one ⟨false,[.ref 6]⟩],[.row false 9 (.str) x2,.row false 9 (.str) x3,.row false 9 (.str) x4,.row false 204 (.pair (.str) (.sl 178 (.pair (.int .i64) (.pair (.str) (.int .i64))))) x5,.row false 2 (.int .i64) x6,.row false 172 (.pair (.int .i64) (.pair (.int .i64) (.int .i64))) x7,.row false 2 (.int .i64) x8]=>some ⟨.tup [⟨false,[.ref 7]⟩,⟨true,[.ref 8,.ref 9]⟩,⟨false,[.val (.int .i64 (Mp x0 x1 x2 x3 x4 x5 x6 x7 x8))]⟩],[.row false 9 alP x2,.row false 9 alP x3,.row false 9 alP x4,.row false 204 (CTy.pair CTy.str (CTy.sl (178:TypeId) acQ)) x5,.row false 2 ai3 x6,.row false 172 abM x7,.row false 2 ai3 x8],[.row true 2 ai3 (Mq x0 x1 x2 x3 x4 x5 x6 x7 x8),.row true 2 ai3 (VH x0 x1 x2 x3 x4 x5 x6 x7 x8),.row true 172 abM (VI x0 x1 x2 x3 x4 x5 x6 x7 x8)],[QS x0 x1 x2 x3 x4 x5 x6 x7 x8]⟩
 |_,_=>none
def ac8:PF prog:=PF.ofG prog (T3z [OP,Lz]) [] aV 39 f39 func39 (fun c _=>LOk.nil c) abO (by
 intro vs es r h;unfold abO at h;split at h
 ·cases h;kernel_rfl
 ·cases h)
section
variable (x0 x1:ByteArray)(x2 x3 x4:List ByteArray)(x5:List (ByteArray×List (Int×ByteArray×Int)))(x6:List Int)(x7:List (Int×Int×Int))(x8:List Int)
def Ng:Bool:=Mp x0 x1 x2 x3 x4 x5 x6 x7 x8 !=0
def Um:Bool:=bif Ng x0 x1 x2 x3 x4 x5 x6 x7 x8 then false else !vC 1 (Mq x0 x1 x2 x3 x4 x5 x6 x7 x8)
def Un:Int:=bif Ng x0 x1 x2 x3 x4 x5 x6 x7 x8 then Mp x0 x1 x2 x3 x4 x5 x6 x7 x8 else(0:Int)
def Uo:Bool:=allT [QS x0 x1 x2 x3 x4 x5 x6 x7 x8,Ng x0 x1 x2 x3 x4 x5 x6 x7 x8||vD 1 (Mq x0 x1 x2 x3 x4 x5 x6 x7 x8)]
end
def aaH:List SV→List Entry→Option Out
 | [.one ⟨true,[.val (.string x0),.ref 0,.ref 1,.ref 2,.val (.string x1),.ref 3]⟩,.one ⟨true,[.ref 4,.ref 5]⟩,.one ⟨false,[.ref 6]⟩],[.row false 9 (.str) x2,.row false 9 (.str) x3,.row false 9 (.str) x4,.row false 204 (.pair (.str) (.sl 178 (.pair (.int .i64) (.pair (.str) (.int .i64))))) x5,.row false 2 (.int .i64) x6,.row false 172 (.pair (.int .i64) (.pair (.int .i64) (.int .i64))) x7,.row false 2 (.int .i64) x8]=>some ⟨.tup [⟨false,[.val (.bool (Um x0 x1 x2 x3 x4 x5 x6 x7 x8))]⟩,⟨false,[.val (.int .i64 (Un x0 x1 x2 x3 x4 x5 x6 x7 x8))]⟩],[.row false 9 alP x2,.row false 9 alP x3,.row false 9 alP x4,.row false 204 (CTy.pair CTy.str (CTy.sl (178:TypeId) acQ)) x5,.row false 2 ai3 x6,.row false 172 abM x7,.row false 2 ai3 x8],[],[Uo x0 x1 x2 x3 x4 x5 x6 x7 x8]⟩
 |_,_=>none
def ajc:PF prog:=PF.ofG prog (T3z [ac8,AR]) [] aV 41 f41 func41 (fun c _=>LOk.nil c) aaH (by
 intro vs es r h;unfold aaH at h;split at h
 ·cases h;kernel_rfl
 ·cases h)
structure ScH (ins vs os:List ByteArray) (inp:List Int) (ls:List LN):Prop where
 hi:bitsB ins.length inp=true
 hL:ls.all lineB=true
 hm:ls.all (madeB vs os)=true
 hu:ls.all (fun l=>l.2.all (usedB ins vs))=true
 hn:ls.length≤40
 h1:ins.length≤20
 h2:vs.length≤20
 h3:os.length≤20
theorem aqu: ∀ (ls:List LN),ls.all lineB=true→(blL ls).length≤40 * ls.length
 | [],_=>by simp [blL]
 |l::r,h=>by
  simp only [List.all_cons,Bool.and_eq_true]at h
  have h1:=aqu r h.2
  have h2:=(adw h.1).2.1
  have h3:(blT l.2).length≤l.2.length:=List.length_filter_le ..
  have h4:blL (l::r)=blT l.2++blL r:=rfl
  rw [h4,List.length_append,List.length_cons]
  omega
theorem ScH.bl{ins vs os:List ByteArray}{inp:List Int}{ls:List LN}(h:ScH ins vs os inp ls):(blL ls).length≤1600:=by
 have:=aqu ls h.hL
 have:=h.hn
 omega
theorem ScH.line{ins vs os:List ByteArray}{inp:List Int}{ls:List LN}(h:ScH ins vs os inp ls){i:Nat}{a:SS4}{l:LN}(hl:ls[i]? =some l)(hI:ScAt vs os ls i a):
  LineH ins vs inp a.1 (blL (ls.take i)) (blL (ls.drop (i + 1))) l.2:=by
 have hm:=List.mem_of_getElem? hl
 obtain⟨q1,q2,q3⟩:=adw (List.all_eq_true.1 h.hL l hm)
 have h1:=h.h1
 have h2:=h.h2
 have hb:=h.bl
 rw [(adl hl).1]at hb
 exact⟨h.hi,hI.hx,⟨1,q3⟩,List.all_eq_true.1 h.hu l hm,q2,by omega,ci (by omega),ci (by omega)⟩
theorem aoX{ins vs os:List ByteArray}{inp:List Int}{ls:List LN}(h:ScH ins vs os inp ls){i:Nat}{a:SS4}{l:LN}(hl:ls[i]? =some l)(hI:ScAt vs os ls i a)(u v:ByteArray):
  (lv u v (a.2.2.2:Int) l.2 ins vs os ls a.1 a.2.2.1 inp a.2.1=u∧
  lw u v (a.2.2.2:Int) l.2 ins vs os ls a.1 a.2.2.1 inp a.2.1=v∧
  ly u v (a.2.2.2:Int) l.2 ins vs os ls a.1 a.2.2.1 inp a.2.1=((scS ins vs os inp l a).2.2.2:Int))∧
  lz l.1 u v (a.2.2.2:Int) l.2 ins vs os ls a.1 a.2.2.1 inp a.2.1=(scS ins vs os inp l a).1∧
  lA u v (a.2.2.2:Int) l.2 ins vs os ls a.1 a.2.2.1 inp a.2.1=(scS ins vs os inp l a).2.2.1∧
  lC l.1 u v (a.2.2.2:Int) l.2 ins vs os ls a.1 a.2.2.1 inp a.2.1=(scS ins vs os inp l a).2.1∧
  gJ l.1 u v (a.2.2.2:Int) l.2 ins vs os ls a.1 a.2.2.1 inp a.2.1=true:=by
 obtain⟨w1,w2⟩:=aqS (h.line hl hI) u v os ls a.2.1 a.2.2.1 a.2.2.2 (aik hl hI)
 have hm:=List.mem_of_getElem? hl
 obtain⟨g1,g2,g3⟩:=ZF (ins:=ins) (inp:=inp) h.hi (List.all_eq_true.1 h.hL l hm) hl hI
 have hmd:(mH vs l.1||mH os l.1)=true:=List.all_eq_true.1 h.hm l hm
 have h2:=h.h2
 have h3:=h.h3
 have hx:=(eI.1 hI.hx).2
 have ho:=(eI.1 hI.ho).2
 rw [show afx ins vs inp a.1 l.2 ([],a.2.2.1,a.2.2.2)=lnV ins vs inp l a from rfl]at w2
 have e5:gh u v (a.2.2.2:Int) l.2 ins vs os ls a.1 a.2.2.1 inp a.2.1=(lnV ins vs inp l a).1:=by
  simp only [gh,db,ce,w2]
 have e6:kI u v (a.2.2.2:Int) l.2 ins vs os ls a.1 a.2.2.1 inp a.2.1=atZ (lnV ins vs inp l a).1 0:=by
  simp only [kI,e5];rfl
 have e7:kJ u v (a.2.2.2:Int) l.2 ins vs os ls a.1 a.2.2.1 inp a.2.1=true:=by
  simp only [kJ,e5,g1];rfl
 have e8:kK u v (a.2.2.2:Int) l.2 ins vs os ls a.1 a.2.2.1 inp a.2.1=true:=by
  simp only [kK,e5,g1];rfl
 have z0:leI (0:Int) 0=true:=rfl
 refine⟨⟨?_,?_,?_⟩,?_,?_,?_,?_⟩
 ·simp only [lv,ef,db,ce,w2]
 ·simp only [lw,gg,ef,db,ce,w2]
 ·simp only [ly,kH,gg,ef,db,ce,w2,scS]
 ·simp only [lz,e6,Uk,scS]
  cases hv:mH vs l.1 with
  |true=>simp only [cond_true,QP hv,Int.toNat_natCast]
  |false=>rfl
 ·simp only [lA,kH,gg,ef,db,ce,w2,scS]
 ·simp only [lC,e6,Uk,scS]
  cases hv:mH vs l.1 with
  |true=>rfl
  |false=>
   have ho':mH os l.1=true:=by simpa [hv] using hmd
   simp only [cond_false,QP ho',Int.toNat_natCast]
 ·have l1:leN vs.length 9223372036854775807=true:=ci (by omega)
  have l2:leN os.length 9223372036854775807=true:=ci (by omega)
  have hf:Lp.fin al (ce u v (a.2.2.2:Int) l.2 ins vs os ls a.1 a.2.2.1 inp a.2.1)=true:=w1
  cases hv:mH vs l.1 with
  |true=>
   have hp:=XC hv
   have k1:ltI (Ps vs l.1:Int) (a.1.length:Int)=true:=fv (by omega)
   have k2:ltN (Ps vs l.1) a.1.length=true:=gM (by omega)
   simp only [gJ,hf,Uk,hv,QP hv,Qd.1,e7,e8,z0,l1,k1,k2,allT,Int.toNat_natCast,Bool.or_true,Bool.true_or,cond_true]
  |false=>
   have ho':mH os l.1=true:=by simpa [hv] using hmd
   have hp:=XC ho'
   have k1:ltI (Ps os l.1:Int) (a.2.1.length:Int)=true:=fv (by omega)
   have k2:ltN (Ps os l.1) a.2.1.length=true:=gM (by omega)
   simp only [gJ,hf,Uk,hv,ho',QP ho',Qd.1,e7,e8,z0,l1,l2,k1,k2,allT,Int.toNat_natCast,Bool.or_true,Bool.true_or,Bool.not_false,cond_true]
theorem aqT{ins vs os:List ByteArray}{inp:List Int}{ls:List LN}(h:ScH ins vs os inp ls){i:Nat}{a:SS4}{l:LN}(hl:ls[i]? =some l)(hI:ScAt vs os ls i a)(u v:ByteArray):
  FR u v (a.2.2.2:Int) ins vs os ls a.1 a.2.2.1 inp l.2=atZ (lnV ins vs inp l a).1 0∧
  FS u v (a.2.2.2:Int) ins vs os ls a.1 a.2.2.1 inp l.2=a.1∧
  FT u v (a.2.2.2:Int) ins vs os ls a.1 a.2.2.1 inp l.2=(scS ins vs os inp l a).2.2.1∧
  FU u v (a.2.2.2:Int) ins vs os ls a.1 a.2.2.1 inp l.2=true:=by
 obtain⟨w1,w2⟩:=aqU (h.line hl hI) u v os ls a.2.2.1 a.2.2.2 (aik hl hI)
 have hm:=List.mem_of_getElem? hl
 obtain⟨g1,g2,g3⟩:=ZF (ins:=ins) (inp:=inp) h.hi (List.all_eq_true.1 h.hL l hm) hl hI
 rw [show afx ins vs inp a.1 l.2 ([],a.2.2.1,a.2.2.2)=lnV ins vs inp l a from rfl]at w2
 have e2:zM u v (a.2.2.2:Int) ins vs os ls a.1 a.2.2.1 inp l.2=(lnV ins vs inp l a).1:=by
  simp only [zM,zL,vY,w2]
 have z0:leI (0:Int) 0=true:=rfl
 have k1:ltI 0 ((lnV ins vs inp l a).1.length:Int)=true:=by rw [g1];rfl
 have k2:ltN (Int.toNat 0) (lnV ins vs inp l a).1.length=true:=by rw [g1];rfl
 have hf:Lp.fin ba (vY u v (a.2.2.2:Int) ins vs os ls a.1 a.2.2.1 inp l.2)=true:=w1
 refine⟨?_,?_,?_,?_⟩
 ·simp only [FR,e2];rfl
 ·simp only [FS,EP,zL,vY,w2]
 ·simp only [FT,EP,zL,vY,w2,scS]
 ·simp only [FU,hf,e2,z0,k1,k2,allT,cond_true]
def aoy(n:Nat)(t:TM):Nat:=bif leI 7 t.1 then n + 1 else n
theorem alN: ∀ (ts:List TM) (n:Nat),ts.foldl aoy n=n + (blT ts).length
 | [],n=>by simp [blT]
 |t::r,n=>by
  rw [List.foldl_cons,alN r]
  simp only [aoy,blT,List.filter_cons]
  cases leI 7 t.1 <;> simp <;> omega
theorem ar8(u v:ByteArray)(ins vs os:List ByteArray)(ls:List LN){i k:Nat}{l:LN}(hl:ls[i]? =some l)(hn:l.2.length≤40)(hk:k≤2000):
  gv.fin ((0:Int),(i:Int),(k:Int),u,v,ins,vs,os,ls)=true∧
  gv.res ((0:Int),(i:Int),(k:Int),u,v,ins,vs,os,ls)=(0,((l.2.length:Int),(i:Int),((k + (blT l.2).length:Nat):Int),u,v,ins,vs,os,ls)):=by
 have gV:=(List.getElem?_eq_some_iff.1 hl).1
 have n0:leI 0 (i:Int)=true:=cM (by omega)
 have n1:ltI (i:Int) (ls.length:Int)=true:=fv (by omega)
 have n2:ltN i ls.length=true:=gM gV
 have lH: ∀ d:LN,Option.getD ls[i]? d=l:=fun d=>by rw [hl];rfl
 have g0:zN (i:Int) ls=l.2:=by simp only [zN,Int.toNat_natCast];exact congrArg Prod.snd (lH _)
 have oi:=gv.along2 (fun j (a:Nat)=>((j:Int),(i:Int),(a:Int),u,v,ins,vs,os,ls)) (fun x=>x.2.2.1.toNat)
  (fun(t:TM) a=> .inr (aoy a t)) 0 (fun j a=>a≤k + j) l.2 k (by omega) (by omega) (fun j t a hb hI=> ?_) (fun a hI=> ?_)
 ·rw [Kf (g:=aoy) (fun b a=>rfl),alN]at oi
  simpa using oi
 ·have hjt:=(List.getElem?_eq_some_iff.1 hb).1
  have hw:IntKind.i64.wrap ((j:Int) + 1)=((j + 1:Nat):Int):=by rw [bi (by omega) (by omega)];omega
  have hw2:IntKind.i64.wrap ((a:Int) + 1)=((a + 1:Nat):Int):=by rw [bi (by omega) (by omega)];omega
  have l0:leI 0 (j:Int)=true:=cM (by omega)
  have l1:ltI (j:Int) (l.2.length:Int)=true:=fv (by omega)
  have l2:ltN j l.2.length=true:=gM hjt
  have c7:Na (j:Int) (i:Int) (a:Int) ls=((aoy a t:Nat):Int):=by
   simp only [Na,g0,Int.toNat_natCast,hb,Option.getD_some,hw2,aoy]
   cases leI 7 t.1 <;> rfl
  refine⟨?_,?_,?_,fun a' hf=> ?_⟩
  ·simp only [gv,zA,FW,FX,FY,xB,Uc,Ud,LT.nds,allT,g0,n0,n1,n2,l0,l1,l2,Int.toNat_natCast,cond_true,Bool.and_self]
  ·simp only [gv,zA,xB,Ue,LT.each,c7,g0,l1,hw,Int.toNat_natCast,Bool.and_true,and_self]
  ·simp only [gv,zA,xB,LT.fn,c7,g0,l1,Int.toNat_natCast,cond_true]
  ·simp only [Sum.inr.injEq]at hf
   subst hf
   simp only [aoy]
   cases leI 7 t.1 <;> simp <;> omega
 ·have fA:ltI (l.2.length:Int) (l.2.length:Int)=false:=NM (by omega)
  simp [gv,zA,FW,FX,FY,xB,LT.out,g0,n0,n1,n2,fA,allT]
theorem amv(ins vs os:List ByteArray)(inp:List Int): ∀ (ls:List LN) (a:SS4),ls.foldl (fun a l=>scS ins vs os inp l a) a=ape ins vs os inp ls a
 | [],a=>rfl
 |l::r,a=>by rw [List.foldl_cons,amv ins vs os inp r];rfl
theorem arc{ins vs os:List ByteArray}{inp xs:List Int}{ss:List BS3}{ls:List LN}(h:ScH ins vs os inp ls)(hs:zh vs.length (blL ls) xs ss=true)(u v:ByteArray):
  jG.fin ((0:Int),(0:Int),u,v,inp,List.replicate os.length 0,ins,vs,os,ls,xs,ss)=true∧
  jG.res ((0:Int),(0:Int),u,v,inp,List.replicate os.length 0,ins,vs,os,ls,xs,ss)=
   (0,((ls.length:Int),((scE ins vs os ls inp xs ss).2.2.2:Int),u,v,inp,(scE ins vs os ls inp xs ss).2.1,ins,vs,os,ls,(scE ins vs os ls inp xs ss).1,(scE ins vs os ls inp xs ss).2.2.1)):=by
 obtain⟨s1,s2,s3⟩:=Kl.1 hs
 have h0:ScAt vs os ls 0 (xs,List.replicate os.length 0,ss,0):=⟨s2,eI.2 ⟨fun z hz=> .inl (List.eq_of_mem_replicate hz),by simp⟩,s1,s3,by simp [blL]⟩
 have hn:=h.hn
 have h2:=h.h2
 have h3:=h.h3
 have oi:=jG.along2 (fun i (a:SS4)=>((i:Int),(a.2.2.2:Int),u,v,inp,a.2.1,ins,vs,os,ls,a.1,a.2.2.1)) (fun x=>(x.2.2.2.2.2.2.2.2.2.2.1,x.2.2.2.2.2.1,x.2.2.2.2.2.2.2.2.2.2.2,x.2.1.toNat))
  (fun(l:LN) a=> .inr (scS ins vs os inp l a)) 0 (fun i a=>ScAt vs os ls i a) ls (xs,List.replicate os.length 0,ss,0) h0 (by omega) (fun i l a hb hI=> ?_) (fun a hI=> ?_)
 ·rw [Kf (g:=fun a l=>scS ins vs os inp l a) (fun b a=>rfl),amv]at oi
  simpa [scE] using oi
 ·have gV:=(List.getElem?_eq_some_iff.1 hb).1
  have hm:=List.mem_of_getElem? hb
  have hL:=List.all_eq_true.1 h.hL l hm
  have hw:IntKind.i64.wrap ((i:Int) + 1)=((i + 1:Nat):Int):=by rw [bi (by omega) (by omega)];omega
  obtain⟨g1,g2,g3⟩:=ZF (ins:=ins) (inp:=inp) h.hi hL hb hI
  obtain⟨r0,r1,r2,r3⟩:=aqT h hb hI u v
  have hbl:=h.bl
  have hsp:=(adl hb).2
  have hspl:=(adl hb).1
  have hk1:=hI.hk
  have hk2:=g3.hk
  have hkk:a.2.2.2≤2000:=by
   rw [hspl,List.length_append,List.length_append]at hbl
   omega
  obtain⟨c1,c2⟩:=ar8 u v ins vs os ls hb (adw hL).2.1 hkk
  have hknew:a.2.2.2 + (blT l.2).length=(scS ins vs os inp l a).2.2.2:=by omega
  have hmd:(mH vs l.1||mH os l.1)=true:=List.all_eq_true.1 h.hm l hm
  have hx:=(eI.1 hI.hx).2
  have ho:=(eI.1 hI.ho).2
  have q0:PU (i:Int) ls=true:=fv (by omega)
  have q1:PV (i:Int) ls=true:=gM (by simpa using gV)
  have lH: ∀ d:LN,Option.getD ls[i]? d=l:=fun d=>by rw [hb];rfl
  have q2:tH (i:Int) ls=l:=by simp only [tH,Int.toNat_natCast];exact lH _
  have q3:dX (i:Int) vs ls=gW vs l.1:=by simp only [dX,q2]
  have q5:Au (i:Int) os ls=gW os l.1:=by simp only [Au,q2]
  have q4:At (i:Int) (a.2.2.2:Int) u v inp ins vs os ls a.1 a.2.2.1=a.1:=by simp only [At,q2,r1]
  have q7:JJ (i:Int) (a.2.2.2:Int) u v inp ins vs os ls a.1 a.2.2.1=atZ (lnV ins vs inp l a).1 0:=by simp only [JJ,q2,r0]
  have p1:RX (i:Int)=true:=cM (by omega)
  have p3:RZ (i:Int) (a.2.2.2:Int) u v inp ins vs os ls a.1 a.2.2.1=true:=by simp only [RZ,q2,r3]
  have p4:Yc vs=true:=ci (by omega)
  have p15:WT (i:Int) (a.2.2.2:Int) u v ins vs os ls=true:=c1
  have p16:WU (i:Int)=((i + 1:Nat):Int):=hw
  have p17:PQ (i:Int) (a.2.2.2:Int) u v ins vs os ls=((scS ins vs os inp l a).2.2.2:Int):=by
   simp only [PQ,PW,c2,hknew]
  have p20:PT (i:Int) (a.2.2.2:Int) u v inp ins vs os ls a.1 a.2.2.1=(scS ins vs os inp l a).2.2.1:=by simp only [PT,q2,r2]
  have p18:PR (i:Int) (a.2.2.2:Int) u v inp a.2.1 ins vs os ls a.1 a.2.2.1=(scS ins vs os inp l a).2.1:=by
   simp only [PR,q3,q5,q7,Uk,scS]
   cases hv:mH vs l.1 with
   |true=>rfl
   |false=>
    have ho':mH os l.1=true:=by simpa [hv] using hmd
    simp only [cond_false,QP ho',Int.toNat_natCast]
  have p19:PS (i:Int) (a.2.2.2:Int) u v inp ins vs os ls a.1 a.2.2.1=(scS ins vs os inp l a).1:=by
   simp only [PS,q3,q4,q7,Uk,scS]
   cases hv:mH vs l.1 with
   |true=>simp only [cond_true,QP hv,Int.toNat_natCast]
   |false=>rfl
  have pm:Sa (i:Int) vs ls=true∧Sb (i:Int) (a.2.2.2:Int) u v inp ins vs os ls a.1 a.2.2.1=true∧Sc (i:Int) (a.2.2.2:Int) u v inp ins vs os ls a.1 a.2.2.1=true∧
    Sd (i:Int) vs ls=true∧Se (i:Int) vs ls=true∧PL (i:Int) vs ls=true∧PM (i:Int) vs os ls=true∧
    PN (i:Int) vs os ls=true∧PO (i:Int) a.2.1 vs os ls=true∧PP (i:Int) a.2.1 vs os ls=true:=by
   simp only [Sa,Sb,Sc,Sd,Se,PL,PM,PN,PO,PP,q0,q1,q3,q4,q5,Uk]
   have m1:leI 0 (i:Int)=true:=p1
   have m2:leN os.length 9223372036854775807=true:=ci (by omega)
   cases hv:mH vs l.1 with
   |true=>
    have hp:=XC hv
    have k1:ltI (Ps vs l.1:Int) (a.1.length:Int)=true:=fv (by omega)
    have k2:ltN (Ps vs l.1) a.1.length=true:=gM (by omega)
    simp only [QP hv,Qd.1,k1,k2,Int.toNat_natCast,Bool.or_true,Bool.true_or,and_self]
   |false=>
    have ho':mH os l.1=true:=by simpa [hv] using hmd
    have hp:=XC ho'
    have k1:ltI (Ps os l.1:Int) (a.2.1.length:Int)=true:=fv (by omega)
    have k2:ltN (Ps os l.1) a.2.1.length=true:=gM (by omega)
    simp only [ho',QP ho',Qd.1,k1,k2,m1,m2,Int.toNat_natCast,Bool.or_true,Bool.true_or,Bool.not_false,and_self]
  obtain⟨m5,m6,m7,m8,m9,m10,m11,m12,m13,m14⟩:=pm
  have p0:FV (i:Int) ls=true:=q0
  have p2:RY (i:Int) ls=true:=q1
  refine⟨?_,?_,?_,fun a' hf=> ?_⟩
  ·simp only [jG,DK,LT.nds,allT,p0,p1,p2,p3,p4,m5,m6,m7,m8,m9,m10,m11,m12,m13,m14,p15,cond_true,Bool.and_self]
  ·simp only [jG,DK,LT.each,p0,p16,p17,p18,p19,p20,Int.toNat_natCast,Bool.and_true,and_self]
  ·simp only [jG,DK,LT.fn,p0,p17,p18,p19,p20,Int.toNat_natCast,cond_true]
  ·simp only [Sum.inr.injEq]at hf
   subst hf;exact g3
 ·have fA:FV (ls.length:Int) ls=false:=NM (by omega)
  simp [jG,DK,LT.out,fA]
theorem arb{ins vs os:List ByteArray}{inp xs:List Int}{ss:List BS3}{ls:List LN}(h:ScH ins vs os inp ls)(hs:zh vs.length (blL ls) xs ss=true)(u v:ByteArray):
  aF.fin ((0:Int),(ls.length:Int),ls,u,v,(0:Int),ins,vs,os,xs,ss,inp,List.replicate os.length 0)=true∧
  aF.res ((0:Int),(ls.length:Int),ls,u,v,(0:Int),ins,vs,os,xs,ss,inp,List.replicate os.length 0)=
   (0,((ls.length:Int),(ls.length:Int),ls,u,v,((scE ins vs os ls inp xs ss).2.2.2:Int),ins,vs,os,(scE ins vs os ls inp xs ss).1,(scE ins vs os ls inp xs ss).2.2.1,inp,(scE ins vs os ls inp xs ss).2.1)):=by
 obtain⟨s1,s2,s3⟩:=Kl.1 hs
 have h0:ScAt vs os ls 0 (xs,List.replicate os.length 0,ss,0):=⟨s2,eI.2 ⟨fun z hz=> .inl (List.eq_of_mem_replicate hz),by simp⟩,s1,s3,by simp [blL]⟩
 have hn:=h.hn
 have oi:=aF.along2 (fun i (a:SS4)=>((i:Int),(ls.length:Int),ls,u,v,(a.2.2.2:Int),ins,vs,os,a.1,a.2.2.1,inp,a.2.1)) (fun x=>(x.2.2.2.2.2.2.2.2.2.1,x.2.2.2.2.2.2.2.2.2.2.2.2,x.2.2.2.2.2.2.2.2.2.2.1,x.2.2.2.2.2.1.toNat))
  (fun(l:LN) a=> .inr (scS ins vs os inp l a)) 0 (fun i a=>ScAt vs os ls i a) ls (xs,List.replicate os.length 0,ss,0) h0 (by omega) (fun i l a hb hI=> ?_) (fun a hI=> ?_)
 ·rw [Kf (g:=fun a l=>scS ins vs os inp l a) (fun b a=>rfl),amv]at oi
  simpa [scE] using oi
 ·have gV:=(List.getElem?_eq_some_iff.1 hb).1
  have hm:=List.mem_of_getElem? hb
  have hw:IntKind.i64.wrap ((i:Int) + 1)=((i + 1:Nat):Int):=by rw [bi (by omega) (by omega)];omega
  obtain⟨g1,g2,g3⟩:=ZF (ins:=ins) (inp:=inp) h.hi (List.all_eq_true.1 h.hL l hm) hb hI
  obtain⟨⟨r0,r1,r2⟩,r3,r4,r5,r6⟩:=aoX h hb hI u v
  have lH: ∀ d:LN,Option.getD ls[i]? d=l:=fun d=>by rw [hb];rfl
  have q0:aN (i:Int) ls=l:=by simp only [aN,Int.toNat_natCast];exact lH _
  have p0:ltI (i:Int) (ls.length:Int)=true:=fv (by omega)
  have p1:leI 0 (i:Int)=true:=cM (by omega)
  have p3:ltN i ls.length=true:=gM gV
  refine⟨?_,?_,?_,fun a' hf=> ?_⟩
  ·simp only [ii,ij,ik,il,im,io,ip,iq,ir,iu,gH,gI,gO,aF,LT.nds,allT,q0,r0,r1,r2,r3,r4,r5,r6,p0,p1,p3,Int.toNat_natCast,cond_true,Bool.and_self]
  ·simp only [ii,ij,ik,il,im,io,ip,iq,ir,iu,gH,gI,gO,aF,LT.each,q0,r0,r1,r2,r3,r4,r5,p0,hw,Int.toNat_natCast,Bool.and_true,and_self]
  ·simp only [ii,ij,ik,il,im,io,ip,iq,ir,iu,gH,gI,gO,aF,LT.fn,q0,r2,r3,r4,r5,p0,Int.toNat_natCast,cond_true]
  ·simp only [Sum.inr.injEq]at hf
   subst hf;exact g3
 ·have fA:ltI (ls.length:Int) (ls.length:Int)=false:=NM (by omega)
  simp [ii,ij,ik,il,im,io,ip,iq,ir,iu,gH,gI,gO,aF,LT.out,fA]
theorem ans: ∀ (ts:List TM) (n e:Int),htT ts n=some e→aa6 (blT ts)=true
 | [],n,e,_=>rfl
 |t::r,n,e,h=>by
  simp only [htT]at h
  cases hc:(termB t.1 t.2.1 t.2.2&&leI (takesK t.1) n)with
  |false=>rw [hc]at h;cases h
  |true=>
   rw [hc,cond_true]at h
   simp only [Bool.and_eq_true]at hc
   have h1:=ans r _ e h
   cases h7:leI 7 t.1 with
   |false=>simpa only [blT,List.filter_cons,h7,Bool.false_eq_true,if_false] using h1
   |true=>
    simp only [blT,List.filter_cons,h7,if_true,aa6,List.all_cons,Bool.and_eq_true]
    exact⟨WX hc.1 h7,h1⟩
theorem acG: ∀ (ls:List LN),ls.all lineB=true→aa6 (blL ls)=true
 | [],_=>rfl
 |l::r,h=>by
  simp only [List.all_cons,Bool.and_eq_true]at h
  have h1:=acG r h.2
  have h2:=ans _ _ _ (adw h.1).2.2
  have h4:blL (l::r)=blT l.2++blL r:=rfl
  simp only [aa6]at h1 h2
  simp only [h4,aa6,List.all_append,h1,h2,Bool.and_self]
theorem Qn{nm:ByteArray}{ins vs os:List ByteArray}{g:ByteArray}{ls:List LN}(h:jH nm ins vs os g ls=true):
  (g.toList== []||ZD ins vs g)=true∧ls.all lineB=true∧ls.all (madeB vs os)=true∧ls.all (fun l=>l.2.all (usedB ins vs))=true∧ls.length≤40∧ins.length≤20∧vs.length≤20∧os.length≤20:=by
 simp only [jH,ahB,aph,afD,Bool.and_eq_true,Fw]at h
 obtain⟨⟨_,⟨_,i1⟩,⟨_,i2⟩,⟨_,i3⟩,_,hL,hn⟩,_,hg,hm,_,_,hu⟩:=h
 exact⟨hg,hL,hm,hu,by omega,by omega,by omega,by omega⟩
theorem adk{nm:ByteArray}{ins vs os:List ByteArray}{g:ByteArray}{ls:List LN}{inp:List Int}(h:jH nm ins vs os g ls=true)(hi:bitsB ins.length inp=true):ScH ins vs os inp ls:=by
 obtain⟨_,hL,hm,hu,hn,h1,h2,h3⟩:=Qn h
 exact⟨hi,hL,hm,hu,hn,h1,h2,h3⟩
def scG(nm:ByteArray)(ins vs os:List ByteArray)(g:ByteArray)(ls:List LN)(xs:List Int)(ss:List BS3)(inp:List Int):Bool:=jH nm ins vs os g ls&&(zh vs.length (blL ls) xs ss&&bitsB ins.length inp)
theorem Tl{nm:ByteArray}{ins vs os:List ByteArray}{g:ByteArray}{ls:List LN}{xs:List Int}{ss:List BS3}{inp:List Int}:
  scG nm ins vs os g ls xs ss inp=true↔jH nm ins vs os g ls=true∧zh vs.length (blL ls) xs ss=true∧bitsB ins.length inp=true:=by
 simp only [scG,Bool.and_eq_true]
theorem aiX(nm:ByteArray)(ins vs os:List ByteArray)(g:ByteArray)(ls:List LN)(xs:List Int)(ss:List BS3)(inp:List Int)(h:scG nm ins vs os g ls xs ss inp=true):
  RS nm g ins vs os ls xs ss inp=scO ins vs os g ls inp xs ss∧RT nm g ins vs os ls xs ss inp=scV ins vs os ls inp xs ss∧
  RU nm g ins vs os ls xs ss inp=scB ins vs os ls inp xs ss∧RW nm g ins vs os ls xs ss inp=true:=by
 obtain⟨h1,h2,h3⟩:=Tl.1 h
 obtain⟨hg,_⟩:=Qn h1
 have hS:=adk h1 h3
 obtain⟨w1,w2⟩:=arc hS h2 nm g
 have hE:=apd (os:=os) h3 hS.hL h2
 obtain⟨s1,s2,s3⟩:=Kl.1 h2
 have hb:=hS.bl
 have b1:=hS.h1
 have b2:=hS.h2
 have b3:=hS.h3
 have hx2:=(eI.1 s2).2
 have a1:OZ os=List.replicate os.length 0:=by simp only [OZ,Int.toNat_natCast]
 have a0:Fg g= !(g.toList== []):=by simp only [Fg,Qj]
 have e3:Pa nm g ins vs os ls xs ss inp=((scE ins vs os ls inp xs ss).2.1,ins,vs,os,ls,(scE ins vs os ls inp xs ss).1,(scE ins vs os ls inp xs ss).2.2.1):=by
  simp only [Pa,Ka,a1,w2]
 have e5:Fh nm g ins vs os ls xs ss inp=(scE ins vs os ls inp xs ss).1:=by simp only [Fh,Pb,e3]
 have e8:Pf nm g ins vs os ls xs ss inp=(scE ins vs os ls inp xs ss).2.2.1:=by simp only [Pf,Pb,e3]
 have e7:Pc nm g ins vs os ls xs ss inp=(scE ins vs os ls inp xs ss).1:=by simp only [Pc,e5];exact Bool.cond_self _ _
 have e9:Pg nm g ins vs os ls xs ss inp=(scE ins vs os ls inp xs ss).2.2.1:=by simp only [Pg,e8];exact Bool.cond_self _ _
 have hv:(g.toList== [])=false→tO g ins vs (scE ins vs os ls inp xs ss).1 inp=nmV ins vs inp (scE ins vs os ls inp xs ss).1 g∧tP g ins vs (scE ins vs os ls inp xs ss).1 inp=true:=fun hgg=>by
  rw [hgg,Bool.false_or]at hg
  have q1:=(eI.1 h3).2
  have q2:=(eI.1 hE.hx).2
  exact ahx g ins vs inp _ hg (ci (by omega)) (ci (by omega)) (by omega) (by omega)
 have e6:wo nm g ins vs os ls xs ss inp=(!(g.toList== [])&&nmV ins vs inp (scE ins vs os ls inp xs ss).1 g==0):=by
  simp only [wo,a0,e5]
  cases hgg:g.toList== []with
  |true=>rfl
  |false=>simp only [Bool.not_false,cond_true,(hv hgg).1,Bool.true_and]
 refine⟨?_,?_,?_,?_⟩
 ·simp only [RS,e6,e3,a1,scO]
 ·simp only [RT,e7,scV];exact Bool.cond_self _ _
 ·simp only [RU,e9,scB];exact Bool.cond_self _ _
 ·have f1:Lp.fin jG (Ka nm g ins vs os ls xs ss inp)=true:=by simp only [Ka,a1];exact w1
  have f0:Tm xs ss=true:=by
   simp only [Tm,allT,ci (show xs.length≤1048576 by omega),ci (show 0 + ss.length≤9223372036854775807 by omega),ci (show (0 + ss.length) * 24≤140737488355328 by omega),cond_true]
  have f2:leI 0 (os.length:Int)=true:=cM (by omega)
  have f3:leI (os.length:Int) (os.length:Int)=true:=cM (by omega)
  have f4:leI (((8:Nat):Int) * (os.length:Int)) 281474976710656=true:=cM (by omega)
  have f5:leI (os.length:Int) 9223372036854775807=true:=cM (by omega)
  have f6:Td os=true:=f3
  have f7:Te os=true:=f4
  simp only [RW,f0,f1,f2,f5,f6,f7,a0,e5,allT,Bool.or_true,cond_true,Bool.and_true]
  cases hgg:g.toList== []with
  |true=>rfl
  |false=>simp only [(hv hgg).2];rfl
theorem anx(nm:ByteArray)(ins vs os:List ByteArray)(g:ByteArray)(ls:List LN)(xs:List Int)(ss:List BS3)(inp:List Int)(h:scG nm ins vs os g ls xs ss inp=true):
  nL nm g ins vs os ls xs ss inp=scO ins vs os g ls inp xs ss∧nM nm g ins vs os ls xs ss inp=scV ins vs os ls inp xs ss∧
  nN nm g ins vs os ls xs ss inp=scB ins vs os ls inp xs ss∧nO nm g ins vs os ls xs ss inp=true:=by
 obtain⟨h1,h2,h3⟩:=Tl.1 h
 obtain⟨hg,_⟩:=Qn h1
 have hS:=adk h1 h3
 obtain⟨w1,w2⟩:=arb hS h2 nm g
 have hE:=apd (os:=os) h3 hS.hL h2
 obtain⟨s1,s2,s3⟩:=Kl.1 h2
 have hb:=hS.bl
 have b1:=hS.h1
 have b2:=hS.h2
 have b3:=hS.h3
 have hx2:=(eI.1 s2).2
 have a1:jl nm g ins vs os ls xs ss inp=((0:Int),(ls.length:Int),ls,nm,g,(0:Int),ins,vs,os,xs,ss,inp,List.replicate os.length 0):=by
  simp only [jl,Int.toNat_natCast]
 have a0:dP g= !(g.toList== []):=by simp only [dP];rw [Qj]
 have e2:mW nm g ins vs os ls xs ss inp=((scE ins vs os ls inp xs ss).1,(scE ins vs os ls inp xs ss).2.2.1,inp,(scE ins vs os ls inp xs ss).2.1):=by
  simp only [mW,a1,w2]
 have e3:fE nm g ins vs os ls xs ss inp=(scE ins vs os ls inp xs ss).1:=by simp only [fE,e2]
 have e6:mY nm g ins vs os ls xs ss inp=(scE ins vs os ls inp xs ss).2.1:=by
  simp only [mY,rN,mX,e2,pW]
  rw [Bool.cond_self,Bool.cond_self]
 have e7:mZ nm g ins vs os ls xs ss inp=(scE ins vs os ls inp xs ss).2.2.1:=by
  simp only [mZ,mX,e2]
 have hv:(g.toList== [])=false→kM g ins vs (scE ins vs os ls inp xs ss).1 inp=nmV ins vs inp (scE ins vs os ls inp xs ss).1 g∧kN g ins vs (scE ins vs os ls inp xs ss).1 inp=true:=fun hgg=>by
  rw [hgg,Bool.false_or]at hg
  have q1:=(eI.1 h3).2
  have q2:=(eI.1 hE.hx).2
  rw [(amd _ _ _ _ _).1,(amd _ _ _ _ _).2]
  exact ahx g ins vs inp _ hg (ci (by omega)) (ci (by omega)) (by omega) (by omega)
 have hol:(scE ins vs os ls inp xs ss).2.1.length=os.length:=by have:=(eI.1 hE.ho).2;omega
 refine⟨?_,?_,?_,?_⟩
 ·simp only [nL,a0,e3,e6,ZN,hol,scO]
  cases hgg:g.toList== []with
  |true=>rfl
  |false=>simp only [Bool.not_false,cond_true,(hv hgg).1,Bool.true_and];rfl
 ·simp only [nM,e3,pU,scV]
  rw [Bool.cond_self,Bool.cond_self]
 ·simp only [nN,e7,pV,scB]
  rw [Bool.cond_self,Bool.cond_self]
 ·have f1:Lp.fin aF (jl nm g ins vs os ls xs ss inp)=true:=by rw [a1];exact w1
  have f0:mS xs ss=true:=by
   simp only [mS,allT,ci (show xs.length≤1048576 by omega),ci (show ss.length≤1048576 by omega),cond_true]
  have f2:leI 0 (os.length:Int)=true:=cM (by omega)
  have f3:leI (os.length:Int) (os.length:Int)=true:=cM (by omega)
  have f4:leI (((8:Nat):Int) * (os.length:Int)) 281474976710656=true:=cM (by omega)
  have f5:leI (os.length:Int) 9223372036854775807=true:=cM (by omega)
  simp only [nO,f0,f1,f2,f3,f4,f5,a0,e3,allT,Bool.or_true,cond_true,Bool.and_true]
  cases hgg:g.toList== []with
  |true=>rfl
  |false=>simp only [(hv hgg).2];rfl
def acv:List SV→List Entry→Option Out
 | [.one ⟨true,[.val (.string x0),.ref 0,.ref 1,.ref 2,.val (.string x1),.ref 3]⟩,.one ⟨true,[.ref 4,.ref 5]⟩,.one ⟨false,[.ref 6]⟩],[.row false 9 (.str) x2,.row false 9 (.str) x3,.row false 9 (.str) x4,.row false 204 (.pair (.str) (.sl 178 (.pair (.int .i64) (.pair (.str) (.int .i64))))) x5,.row false 2 (.int .i64) x6,.row false 172 (.pair (.int .i64) (.pair (.int .i64) (.int .i64))) x7,.row false 2 (.int .i64) x8]=>some ⟨.tup [⟨false,[.ref 7]⟩,⟨true,[.ref 8,.ref 9]⟩],[.row false 9 alP x2,.row false 9 alP x3,.row false 9 alP x4,.row false 204 (CTy.pair CTy.str (CTy.sl (178:TypeId) acQ)) x5,.row false 2 ai3 x6,.row false 172 abM x7,.row false 2 ai3 x8],[.row true 2 ai3 (scO x2 x3 x4 x1 x5 x8 x6 x7),.row true 2 ai3 (scV x2 x3 x4 x5 x8 x6 x7),.row true 172 abM (scB x2 x3 x4 x5 x8 x6 x7)],[scG x0 x2 x3 x4 x1 x5 x6 x7 x8]⟩
 |_,_=>none
def ya:PF prog:=PF.alt Rf acv (by
 intro args es o h cD;unfold acv at h;split at h
 ·rename_i x0 x1 x2 x3 x4 x5 x6 x7 x8
  cases h
  have cD:=ln cD
  have hh:=aiX x0 x2 x3 x4 x1 x5 x6 x7 x8 cD
  obtain⟨e0,e1,e2,en⟩:=hh
  exact qy rfl (kw en) rfl rfl (by simp only [e0,e1,e2] <;> rfl)
 ·cases h)
def Ce(y1:List (Int×(ByteArray×Int)))(y3:List (Int×(Int×Int)))(b:Nat):(Unit)→Nat ⊕ (Unit)
 |_=>(bif(!df ((Option.getD y1[b]? ((0:Int),ByteArray.empty,(0:Int))).1) ((Option.getD y1[b]? ((0:Int),ByteArray.empty,(0:Int))).2.2) ((Option.getD y3[b]? ((0:Int),(0:Int),(0:Int))).1) (((Option.getD y3[b]? ((0:Int),(0:Int),(0:Int))).2).1) ((Option.getD y3[b]? ((0:Int),(0:Int),(0:Int))).2.2))then(.inl 0)else(.inr ()))
def qH(y1:List (Int×(ByteArray×Int)))(y2:List Int)(y3:List (Int×(Int×Int)))(i:Nat):(Unit)→nC
 |_=>((i:Int),y1,y2,y3)
def MJ:nC→Unit
 |(_,_,_,_)=>()
theorem aek(y1:List (Int×(ByteArray×Int)))(y2:List Int)(y3:List (Int×(Int×Int))) (hn:y1.length≤9223372036854775807) (he:y3.length=y1.length):
  ej.fin ((0:Int),y1,y2,y3)=true∧ej.res ((0:Int),y1,y2,y3)=((bc (Ce y1 y3) 1 (List.range y1.length) 0 ()).1,(qH y1 y2 y3) (bc (Ce y1 y3) 1 (List.range y1.length) 0 ()).2.1 (bc (Ce y1 y3) 1 (List.range y1.length) 0 ()).2.2):=by
 have oi:=ej.along (qH y1 y2 y3) MJ (Ce y1 y3) 1 (fun _ _=>True) (List.range y1.length) () (by trivial) (by simp only [ej,qH,List.length_range];omega) (fun i b a hb hI=> ?_) (fun a hI=> ?_)
 ·exact oi
 ·obtain⟨⟩:=a
  obtain⟨rfl,gV⟩:=Ql hb
  have hw:IntKind.i64.wrap ((b:Int) + 1)=((b + 1:Nat):Int):=by rw [bi (by omega) (by omega)];omega
  have fA:ltI (b:Int) (y1.length:Int)=true:=fv (by omega)
  have Gz:leI (0:Int) (b:Int)=true:=cM (by omega)
  have qn:ltN b y1.length=true:=gM (by omega)
  refine⟨?_,?_,?_,?_⟩
  ·simp [xA,tG,yP,yQ,CC,CD,CE,CF,CG,AQ,ej,LT.nds,allT,qH,fA,Gz,qn,he]
  ·simp [xA,tG,yP,yQ,CC,CD,CE,CF,CG,AQ,ej,LT.each,qH,MJ,hw,he]
  ·simp only [xA,tG,yP,yQ,CC,CD,CE,CF,CG,AQ,ej,LT.fn,qH,MJ,Ce,Int.toNat_natCast,fA,cond_true]
  ·exact fun _ _=>trivial
 ·obtain⟨⟩:=a
  simp [xA,tG,yP,yQ,CC,CD,CE,CF,CG,AQ,ej,LT.out,qH,List.length_range]
theorem aps: ∀ (ls:List LN),(∀ l∈ls,l.2.length≤1048576)→(blL ls).length≤1048576 * ls.length
 | [],_=>by simp [blL]
 |l::r,h=>by
  have h1:=aps r (fun x hx=>h x (by simp [hx]))
  have h2:=h l (by simp)
  have h3:(blT l.2).length≤l.2.length:=List.length_filter_le ..
  have h4:blL (l::r)=blT l.2++blL r:=rfl
  rw [h4,List.length_append,List.length_cons]
  omega
theorem amH{ls:List LN}(h:TL ls=true):(blL ls).length≤1099511627776:=by
 obtain⟨hn,hA⟩:=Qg.1 h
 have:=aps ls (fun l hl=>(Qx.1 (hA l hl).2).1)
 omega
theorem akS(vs:List ByteArray)(ls:List LN)(xs:List Int)(ss:List BS3)(h:(TL ls&&leN xs.length 9223372036854775807)=true):
  Dh vs ls xs ss=zh vs.length (blL ls) xs ss∧Ig vs ls xs ss=true:=by
 simp only [Bool.and_eq_true]at h
 have hn:=amH h.1
 generalize hbs:blL ls=bs at hn
 by_cases hl:ss.length=bs.length
 ·obtain⟨w1,w2⟩:=aek bs xs ss (by omega) hl
  rw [kn (P:=fun k=> !possAt bs ss k) (j:=0) (fun k=>rfl),ami (g:=possAt bs ss) (h:=possAt bs ss) _ (fun k _=>rfl)]at w2
  have a0:BT ls ss=false:=by simp [BT,hbs,hl]
  have a2:Lx ls xs ss=((0:Int),bs,xs,ss):=by simp only [Lx,hbs]
  have w1':Lp.fin ej ((0:Int),bs,xs,ss)=true:=w1
  simp only [qH]at w2
  simp only [Dh,Ig,Lw,a0,a2,w1,w2,h.1,h.2,allT,zh,hl]
  cases bitsB (vs.length:Int) xs <;> cases (List.range bs.length).all (possAt bs ss) <;> simp [Nat.beq,w1']
 ·have hl2: ¬ ((ss.length:Int)=(bs.length:Int)):=by omega
  have a0:BT ls ss=true:=by simp [BT,hbs,hl2]
  have e:((ss.length:Int)==(bs.length:Int))=false:=by simpa using hl2
  simp [Dh,Ig,Lw,a0,allT,zh,e,h.1]
def Jr(nm:ByteArray)(ins vs os:List ByteArray)(g:ByteArray)(ls:List LN)(xs:List Int)(ss:List BS3)(inps:List (List Int)):Int:=bif !jH nm ins vs os g ls then 1 else bif !zh vs.length (blL ls) xs ss|| !inps.all (fun l=>bitsB ins.length l)then 2 else 0
theorem al8{nm:ByteArray}{ins vs os:List ByteArray}{g:ByteArray}{ls:List LN}{xs:List Int}{ss:List BS3}{inps:List (List Int)}(h:(Jr nm ins vs os g ls xs ss inps !=0)=false):
  jH nm ins vs os g ls=true∧zh vs.length (blL ls) xs ss=true∧inps.all (fun l=>bitsB ins.length l)=true:=by
 simp only [Jr]at h
 revert h
 cases jH nm ins vs os g ls <;> cases zh vs.length (blL ls) xs ss <;> cases inps.all (fun l=>bitsB ins.length l) <;> simp
def cdG(nm:ByteArray)(ins vs os:List ByteArray)(g:ByteArray)(ls:List LN)(xs:List Int)(inps:List (List Int)):Bool:=NR nm ins vs os g ls&&(leN xs.length 9223372036854775807&&(leN inps.length 1048576&&inps.all fun l=>leN l.length 9223372036854775807))
theorem amn{nm:ByteArray}{ins vs os:List ByteArray}{g:ByteArray}{ls:List LN}{xs:List Int}{inps:List (List Int)}:
  cdG nm ins vs os g ls xs inps=true↔NR nm ins vs os g ls=true∧leN xs.length 9223372036854775807=true∧inps.length≤1048576∧ ∀ l∈inps,leN l.length 9223372036854775807=true:=by
 simp only [cdG,Bool.and_eq_true,jD,List.all_eq_true]
theorem an8(nm:ByteArray)(ins vs os:List ByteArray)(g:ByteArray)(ls:List LN)(xs:List Int)(ss:List BS3)(inp:List Int)(h:cdG nm ins vs os g ls xs [inp]=true):
  MY nm g ins vs os ls xs ss inp=Jr nm ins vs os g ls xs ss [inp]∧RP nm g ins vs os ls xs ss inp=true:=by
 obtain⟨h1,h2,h3,h4⟩:=amn.1 h
 obtain⟨m1,m2⟩:=akS vs ls xs ss (by rw [(MH.1 h1).2.2.2.2.2.2,h2];rfl)
 have h5:=h4 inp (by simp)
 simp only [MY,RP,m1,m2,h1,h5,Jr,allT,List.all_cons,List.all_nil,Bool.and_true,Bool.or_true,cond_true,and_true]
 cases zh vs.length (blL ls) xs ss <;> rfl
def fU(y5:List ByteArray)(b:List Int):(Unit)→Nat ⊕ (Unit)
 |_=>(bif(BN b y5)then(.inl 0)else(.inr ()))
def cW(y2 y3:ByteArray)(y4:List (List Int))(y5 y6 y7:List ByteArray)(y8:List (ByteArray×(List (Int×(ByteArray×Int)))))(i:Nat):(Unit)→bI
 |_=>((i:Int),(↑y4.length:Int),y2,y3,y4,y5,y6,y7,y8)
def rQ:bI→Unit
 |(_,_,_,_,_,_,_,_,_)=>()
theorem LM(y2 y3:ByteArray)(y4:List (List Int))(y5 y6 y7:List ByteArray)(y8:List (ByteArray×(List (Int×(ByteArray×Int))))) (hn:y4.length≤9223372036854775807) (hA: ∀ l∈y4,leN l.length 9223372036854775807=true):
  aw.fin ((0:Int),(↑y4.length:Int),y2,y3,y4,y5,y6,y7,y8)=true∧aw.res ((0:Int),(↑y4.length:Int),y2,y3,y4,y5,y6,y7,y8)=((bc (fU y5) 1 y4 0 ()).1,(cW y2 y3 y4 y5 y6 y7 y8) (bc (fU y5) 1 y4 0 ()).2.1 (bc (fU y5) 1 y4 0 ()).2.2):=by
 have oi:=aw.along (cW y2 y3 y4 y5 y6 y7 y8) rQ (fU y5) 1 (fun _ _=>True) y4 () (by trivial) (by simp only [aw,cW];omega) (fun i b a hb hI=> ?_) (fun a hI=> ?_)
 ·exact oi
 ·obtain⟨⟩:=a
  have gV:=(List.getElem?_eq_some_iff.1 hb).1
  have lH: ∀ d,Option.getD y4[i]? d=b:=fun d=>by rw [hb];rfl
  have hw:=yJ gV hn
  have fA:ltI (i:Int) (y4.length:Int)=true:=fv (by omega)
  have Gz:leI (0:Int) (i:Int)=true:=cM (by omega)
  have qn:ltN i y4.length=true:=gM gV
  refine⟨?_,?_,?_,?_⟩
  ·have hg2:cV (i:Int) y4=b:=by simp only [cV,Int.toNat_natCast];exact lH _
   have h4:jL (i:Int) y4=true:=by simp only [jL,HE,hg2,hA b (List.mem_of_getElem? hb),allT,cond_true]
   simp only [jK,nT,nU,nV,jm,aw,LT.nds,allT,cW,h4,fA,Gz,qn,Int.toNat_natCast,cond_true,Bool.and_self]
   cases jM (i:Int) y4 y5 <;> simp [LT.nds]
  ·simp [cV,jK,nT,nU,nV,jL,jM,sB,jm,aw,LT.each,cW,rQ,hw]
  ·have hg2:cV (i:Int) y4=b:=by simp only [cV,Int.toNat_natCast];exact lH _
   simp only [jK,jM,jm,aw,LT.fn,cW,rQ,fU,fA,hg2,cond_true]
  ·exact fun _ _=>trivial
 ·obtain⟨⟩:=a
  simp [cV,jK,nT,nU,nV,jL,jM,sB,jm,aw,LT.out,cW]
theorem aiH(nm:ByteArray)(ins vs os:List ByteArray)(g:ByteArray)(ls:List LN)(xs:List Int)(ss:List BS3)(inps:List (List Int))(h:cdG nm ins vs os g ls xs inps=true):
  OK nm g ins vs os ls xs ss inps=Jr nm ins vs os g ls xs ss inps∧OL nm g ins vs os ls xs ss inps=true:=by
 obtain⟨h1,h2,h3,h4⟩:=amn.1 h
 obtain⟨w1,w2⟩:=LM nm g inps ins vs os ls (by omega) h4
 rw [kn (P:=fun l=> !bitsB ins.length l) (j:=0) (fun l=>by simp only [fU,BN]),Xu]at w2
 have hlk:=(MH.1 h1).2.2.2.2.2.2
 have hbl:=amH hlk
 have c0:nP inps nm g ins vs os ls= !inps.all (fun l=>bitsB ins.length l):=by
  simp only [nP,vb,kZ,po,w2,cW]
  cases (inps.all fun l=>bitsB ins.length l) <;> simp [Nat.beq,Qd.1,Qd.2]
 have c3:nQ inps nm g ins vs os ls=true:=by
  simp only [nQ,vc,kZ,w1,allT,cond_true]
 have k:jH nm ins vs os g ls=true→aa6 (blL ls)=true:=fun hs=>acG ls (Qn hs).2.1
 have hbl2:leN (blL ls).length 9223372036854775807=true:=ci (by omega)
 refine⟨?_,?_⟩
 ·simp only [OK,c0,Jr]
  cases zh vs.length (blL ls) xs ss <;> rfl
 ·simp only [OL,h1,c3,h2,hlk,hbl2,allT,Bool.or_true,cond_true]
  cases hs:jH nm ins vs os g ls with
  |false=>rfl
  |true=>rw [k hs];rfl
def aa0:List SV→List Entry→Option Out
 | [.one ⟨true,[.val (.string x0),.ref 0,.ref 1,.ref 2,.val (.string x1),.ref 3]⟩,.one ⟨true,[.ref 4,.ref 5]⟩,.one ⟨false,[.ref 6]⟩],[.row false 9 (.str) x2,.row false 9 (.str) x3,.row false 9 (.str) x4,.row false 204 (.pair (.str) (.sl 178 (.pair (.int .i64) (.pair (.str) (.int .i64))))) x5,.row false 2 (.int .i64) x6,.row false 172 (.pair (.int .i64) (.pair (.int .i64) (.int .i64))) x7,.row false 41 (.sl 2 (.int .i64)) x8]=>some ⟨.one ⟨false,[.val (.int .i64 (Jr x0 x2 x3 x4 x1 x5 x6 x7 x8))]⟩,[.row false 9 alP x2,.row false 9 alP x3,.row false 9 alP x4,.row false 204 (CTy.pair CTy.str (CTy.sl (178:TypeId) acQ)) x5,.row false 2 ai3 x6,.row false 172 abM x7,.row false 41 (CTy.sl (2:TypeId) ai3) x8],[],[cdG x0 x2 x3 x4 x1 x5 x6 x8]⟩
 |_,_=>none
def Uv:PF prog:=PF.alt OP aa0 (by
 intro args es o h cD;unfold aa0 at h;split at h
 ·rename_i x0 x1 x2 x3 x4 x5 x6 x7 x8
  cases h
  have cD:=ln cD
  have hh:=aiH x0 x2 x3 x4 x1 x5 x6 x7 x8 cD
  obtain⟨e0,en⟩:=hh
  exact qy rfl (kw en) (by simp only [e0] <;> rfl) rfl rfl
 ·cases h)
def Zi:List SV→List Entry→Option Out
 | [.one ⟨true,[.val (.string _x0),.ref 0,.ref 1,.ref 2,.val (.string _x1),.ref 3]⟩,.one ⟨true,[.ref 4,.ref 5]⟩],[.row false 9 (.str) x2,.row false 9 (.str) x3,.row false 9 (.str) x4,.row false 204 (.pair (.str) (.sl 178 (.pair (.int .i64) (.pair (.str) (.int .i64))))) x5,.row false 2 (.int .i64) x6,.row false 172 (.pair (.int .i64) (.pair (.int .i64) (.int .i64))) x7]=>some ⟨.one ⟨false,[.val (.bool (zh x3.length (blL x5) x6 x7))]⟩,[.row false 9 alP x2,.row false 9 alP x3,.row false 9 alP x4,.row false 204 (CTy.pair CTy.str (CTy.sl (178:TypeId) acQ)) x5,.row false 2 ai3 x6,.row false 172 abM x7],[],[TL x5&&leN x6.length 9223372036854775807]⟩
 |_,_=>none
def SM:PF prog:=PF.alt Nn Zi (by
 intro args es o h cD;unfold Zi at h;split at h
 ·rename_i _x0 _x1 x2 x3 x4 x5 x6 x7
  cases h
  have cD:=ln cD
  have hh:=akS x3 x5 x6 x7 cD
  obtain⟨e0,en⟩:=hh
  exact qy rfl (kw en) (by simp only [e0] <;> rfl) rfl rfl
 ·cases h)
def rnO(nm:ByteArray)(ins vs os:List ByteArray)(g:ByteArray)(ls:List LN)(xs:List Int)(ss:List BS3)(inp:List Int):List Int:=bif Jr nm ins vs os g ls xs ss [inp]!=0 then []else scO ins vs os g ls inp xs ss
def rnV(nm:ByteArray)(ins vs os:List ByteArray)(g:ByteArray)(ls:List LN)(xs:List Int)(ss:List BS3)(inp:List Int):List Int:=bif Jr nm ins vs os g ls xs ss [inp]!=0 then []else scV ins vs os ls inp xs ss
def rnB(nm:ByteArray)(ins vs os:List ByteArray)(g:ByteArray)(ls:List LN)(xs:List Int)(ss:List BS3)(inp:List Int):List BS3:=bif Jr nm ins vs os g ls xs ss [inp]!=0 then []else scB ins vs os ls inp xs ss
theorem akP{nm:ByteArray}{ins vs os:List ByteArray}{g:ByteArray}{ls:List LN}{xs:List Int}{ss:List BS3}{inp:List Int}(h:(Jr nm ins vs os g ls xs ss [inp]!=0)=false):scG nm ins vs os g ls xs ss inp=true:=by
 obtain⟨h1,h2,h3⟩:=al8 h
 exact Tl.2 ⟨h1,h2,by simpa using h3⟩
theorem agt{z:Int}(h:(z !=0)=false):z=0:=by simpa using h
theorem akT(nm:ByteArray)(ins vs os:List ByteArray)(g:ByteArray)(ls:List LN)(xs:List Int)(ss:List BS3)(inp:List Int)(h:cdG nm ins vs os g ls xs [inp]=true):
  Ea nm g ins vs os ls xs ss inp=Jr nm ins vs os g ls xs ss [inp]∧Rv nm g ins vs os ls xs ss inp=rnO nm ins vs os g ls xs ss inp∧
  Wp nm g ins vs os ls xs ss inp=rnV nm ins vs os g ls xs ss inp∧Wq nm g ins vs os ls xs ss inp=rnB nm ins vs os g ls xs ss inp∧Rw nm g ins vs os ls xs ss inp=true:=by
 obtain⟨c0,c1⟩:=an8 nm ins vs os g ls xs ss inp h
 simp only [Ea,Rv,Wp,Wq,Rw,Fc,c0,c1,rnO,rnV,rnB,allT]
 cases hz:(Jr nm ins vs os g ls xs ss [inp]!=0)with
 |true=>exact⟨rfl,rfl,rfl,rfl,rfl⟩
 |false=>
  obtain⟨s0,s1,s2,s3⟩:=aiX nm ins vs os g ls xs ss inp (akP hz)
  simp only [cond_false,cond_true,s0,s1,s2,s3,Bool.or_true,and_self,agt hz]
theorem aj9(nm:ByteArray)(ins vs os:List ByteArray)(g:ByteArray)(ls:List LN)(xs:List Int)(ss:List BS3)(inp:List Int)(h:cdG nm ins vs os g ls xs [inp]=true):
  Mp nm g ins vs os ls xs ss inp=Jr nm ins vs os g ls xs ss [inp]∧Mq nm g ins vs os ls xs ss inp=rnO nm ins vs os g ls xs ss inp∧
  VH nm g ins vs os ls xs ss inp=rnV nm ins vs os g ls xs ss inp∧VI nm g ins vs os ls xs ss inp=rnB nm ins vs os g ls xs ss inp∧QS nm g ins vs os ls xs ss inp=true:=by
 obtain⟨c0,c1⟩:=aiH nm ins vs os g ls xs ss [inp] h
 simp only [Mp,Mq,VH,VI,QS,Ul,EX,c0,c1,rnO,rnV,rnB,allT]
 cases hz:(Jr nm ins vs os g ls xs ss [inp]!=0)with
 |true=>exact⟨rfl,rfl,rfl,rfl,rfl⟩
 |false=>
  obtain⟨s0,s1,s2,s3⟩:=anx nm ins vs os g ls xs ss inp (akP hz)
  simp only [cond_false,cond_true,s0,s1,s2,s3,Bool.or_true,and_self,agt hz]
def acn:List SV→List Entry→Option Out
 | [.one ⟨true,[.val (.string x0),.ref 0,.ref 1,.ref 2,.val (.string x1),.ref 3]⟩,.one ⟨true,[.ref 4,.ref 5]⟩,.one ⟨false,[.ref 6]⟩],[.row false 9 (.str) x2,.row false 9 (.str) x3,.row false 9 (.str) x4,.row false 204 (.pair (.str) (.sl 178 (.pair (.int .i64) (.pair (.str) (.int .i64))))) x5,.row false 2 (.int .i64) x6,.row false 172 (.pair (.int .i64) (.pair (.int .i64) (.int .i64))) x7,.row false 2 (.int .i64) x8]=>some ⟨.tup [⟨false,[.ref 7]⟩,⟨true,[.ref 8,.ref 9]⟩,⟨false,[.val (.int .i64 (Jr x0 x2 x3 x4 x1 x5 x6 x7 [x8]))]⟩],[.row false 9 alP x2,.row false 9 alP x3,.row false 9 alP x4,.row false 204 (CTy.pair CTy.str (CTy.sl (178:TypeId) acQ)) x5,.row false 2 ai3 x6,.row false 172 abM x7,.row false 2 ai3 x8],[.row true 2 ai3 (rnO x0 x2 x3 x4 x1 x5 x6 x7 x8),.row true 2 ai3 (rnV x0 x2 x3 x4 x1 x5 x6 x7 x8),.row true 172 abM (rnB x0 x2 x3 x4 x1 x5 x6 x7 x8)],[cdG x0 x2 x3 x4 x1 x5 x6 [x8]]⟩
 |_,_=>none
def VY:PF prog:=PF.alt DP acn (by
 intro args es o h cD;unfold acn at h;split at h
 ·rename_i x0 x1 x2 x3 x4 x5 x6 x7 x8
  cases h
  have cD:=ln cD
  have hh:=akT x0 x2 x3 x4 x1 x5 x6 x7 x8 cD
  obtain⟨e0,e1,e2,e3,en⟩:=hh
  exact qy rfl (kw en) (by simp only [e0] <;> rfl) rfl (by simp only [e1,e2,e3] <;> rfl)
 ·cases h)
def acj:List SV→List Entry→Option Out
 | [.one ⟨true,[.val (.string x0),.ref 0,.ref 1,.ref 2,.val (.string x1),.ref 3]⟩,.one ⟨true,[.ref 4,.ref 5]⟩,.one ⟨false,[.ref 6]⟩],[.row false 9 (.str) x2,.row false 9 (.str) x3,.row false 9 (.str) x4,.row false 204 (.pair (.str) (.sl 178 (.pair (.int .i64) (.pair (.str) (.int .i64))))) x5,.row false 2 (.int .i64) x6,.row false 172 (.pair (.int .i64) (.pair (.int .i64) (.int .i64))) x7,.row false 2 (.int .i64) x8]=>some ⟨.tup [⟨false,[.ref 7]⟩,⟨true,[.ref 8,.ref 9]⟩,⟨false,[.val (.int .i64 (Jr x0 x2 x3 x4 x1 x5 x6 x7 [x8]))]⟩],[.row false 9 alP x2,.row false 9 alP x3,.row false 9 alP x4,.row false 204 (CTy.pair CTy.str (CTy.sl (178:TypeId) acQ)) x5,.row false 2 ai3 x6,.row false 172 abM x7,.row false 2 ai3 x8],[.row true 2 ai3 (rnO x0 x2 x3 x4 x1 x5 x6 x7 x8),.row true 2 ai3 (rnV x0 x2 x3 x4 x1 x5 x6 x7 x8),.row true 172 abM (rnB x0 x2 x3 x4 x1 x5 x6 x7 x8)],[cdG x0 x2 x3 x4 x1 x5 x6 [x8]]⟩
 |_,_=>none
def VW:PF prog:=PF.alt ac8 acj (by
 intro args es o h cD;unfold acj at h;split at h
 ·rename_i x0 x1 x2 x3 x4 x5 x6 x7 x8
  cases h
  have cD:=ln cD
  have hh:=aj9 x0 x2 x3 x4 x1 x5 x6 x7 x8 cD
  obtain⟨e0,e1,e2,e3,en⟩:=hh
  exact qy rfl (kw en) (by simp only [e0] <;> rfl) rfl (by simp only [e1,e2,e3] <;> rfl)
 ·cases h)
def zR(b:Int):(Unit)→Nat ⊕ (Unit)
 |_=>(bif(b !=0)then(.inl 0)else(.inr ()))
def rJ(y1:Int)(y2:List Int)(i:Nat):(Unit)→oM
 |_=>((i:Int),y1,y2)
def NU:oM→Unit
 |(_,_,_)=>()
theorem ago(y1:Int)(y2:List Int) (hn:y2.length≤9223372036854775807):
  fY.fin ((0:Int),y1,y2)=true∧fY.res ((0:Int),y1,y2)=((bc (zR) 1 y2 0 ()).1,(rJ y1 y2) (bc (zR) 1 y2 0 ()).2.1 (bc (zR) 1 y2 0 ()).2.2):=by
 have oi:=fY.along (rJ y1 y2) NU (zR) 1 (fun _ _=>True) y2 () (by trivial) (by simp only [fY,rJ];omega) (fun i b a hb hI=> ?_) (fun a hI=> ?_)
 ·exact oi
 ·obtain⟨⟩:=a
  have gV:=(List.getElem?_eq_some_iff.1 hb).1
  have lH: ∀ d,Option.getD y2[i]? d=b:=fun d=>by rw [hb];rfl
  have hw:=yJ gV hn
  have fA:ltI (i:Int) (y2.length:Int)=true:=fv (by omega)
  have Gz:leI (0:Int) (i:Int)=true:=cM (by omega)
  have qn:ltN i y2.length=true:=gM gV
  refine⟨?_,?_,?_,?_⟩
  ·simp [Ag,Eb,Ec,Ed,Ee,Ci,fY,LT.nds,allT,rJ,fA,Gz,qn,lH]
  ·simp [Ag,Eb,Ec,Ed,Ee,Ci,fY,LT.each,rJ,NU,hw]
  ·simp only [Ag,Eb,Ec,Ed,Ee,Ci,fY,LT.fn,rJ,NU,zR,Int.toNat_natCast,fA,Gz,qn,lH,cond_true,Bool.cond_self]
  ·exact fun _ _=>trivial
 ·obtain⟨⟩:=a
  simp [Ag,Eb,Ec,Ed,Ee,Ci,fY,LT.out,rJ]
def nr(y2 b:Int):(Unit)→Nat ⊕ (Unit)
 |_=>(bif(y2==b)then(.inl 0)else(.inr ()))
def gm(y2:Int)(y3:List Int)(i:Nat):(Unit)→ee
 |_=>((i:Int),(↑y3.length:Int),y2,y3)
def Ad:ee→Unit
 |(_,_,_,_)=>()
theorem Uf(y2:Int)(y3:List Int) (hn:y3.length≤9223372036854775807):
  bj.fin ((0:Int),(↑y3.length:Int),y2,y3)=true∧bj.res ((0:Int),(↑y3.length:Int),y2,y3)=((bc (nr y2) 1 y3 0 ()).1,(gm y2 y3) (bc (nr y2) 1 y3 0 ()).2.1 (bc (nr y2) 1 y3 0 ()).2.2):=by
 have oi:=bj.along (gm y2 y3) Ad (nr y2) 1 (fun _ _=>True) y3 () (by trivial) (by simp only [bj,gm];omega) (fun i b a hb hI=> ?_) (fun a hI=> ?_)
 ·exact oi
 ·obtain⟨⟩:=a
  have gV:=(List.getElem?_eq_some_iff.1 hb).1
  have lH: ∀ d,Option.getD y3[i]? d=b:=fun d=>by rw [hb];rfl
  have hw:=yJ gV hn
  have fA:ltI (i:Int) (y3.length:Int)=true:=fv (by omega)
  have Gz:leI (0:Int) (i:Int)=true:=cM (by omega)
  have qn:ltN i y3.length=true:=gM gV
  refine⟨?_,?_,?_,?_⟩
  ·simp [qz,qA,qB,qC,qD,qE,pY,bj,LT.nds,allT,gm,fA,Gz,qn,lH]
  ·simp [qz,qA,qB,qC,qD,qE,pY,bj,LT.each,gm,Ad,hw]
  ·simp only [qz,qA,qB,qC,qD,qE,pY,bj,LT.fn,gm,Ad,nr,Int.toNat_natCast,fA,Gz,qn,lH,cond_true,Bool.cond_self]
  ·exact fun _ _=>trivial
 ·obtain⟨⟩:=a
  simp [qz,qA,qB,qC,qD,qE,pY,bj,LT.out,gm]
def sfB(nm:ByteArray)(ins vs os:List ByteArray)(g:ByteArray)(ls:List LN)(xs:List Int)(ss:List BS3)(inp:List Int):Bool:=Jr nm ins vs os g ls xs ss [inp]==0&&(rnO nm ins vs os g ls xs ss inp).all fun z=>z==0
theorem ahk(nm:ByteArray)(ins vs os:List ByteArray)(g:ByteArray)(ls:List LN)(xs:List Int)(ss:List BS3)(inp:List Int):
  (∀ z∈rnO nm ins vs os g ls xs ss inp,z=0∨z=1)∧(rnO nm ins vs os g ls xs ss inp).length≤20:=by
 simp only [rnO]
 cases hz:(Jr nm ins vs os g ls xs ss [inp]!=0)with
 |true=>exact⟨fun z hz=>(List.not_mem_nil hz).elim,by simp⟩
 |false=>
  obtain⟨h1,h2,h3⟩:=Tl.1 (akP hz)
  have hS:=adk h1 h3
  obtain⟨b1,b2⟩:=eI.1 (ajv (os:=os) (g:=g) h3 hS.hL h2).2
  have:=hS.h3
  exact⟨b1,by simp only [cond_false];omega⟩
theorem am4{l:List Int}(h: ∀ z∈l,z=0∨z=1):(l.any fun z=>z !=0)= !l.all (fun z=>z==0)∧(l.any fun z=>1==z)= !l.all fun z=>z==0:=by
 induction l with
 |nil=>exact⟨rfl,rfl⟩
 |cons a r ih=>
  obtain⟨i1,i2⟩:=ih (fun z hz=>h z (by simp [hz]))
  simp only [List.any_cons,List.all_cons,i1,i2]
  rcases h a (by simp)with rfl | rfl <;> simp
theorem aoa(nm:ByteArray)(ins vs os:List ByteArray)(g:ByteArray)(ls:List LN)(xs:List Int)(ss:List BS3)(inp:List Int)(h:cdG nm ins vs os g ls xs [inp]=true):
  Uy nm g ins vs os ls xs ss inp=sfB nm ins vs os g ls xs ss inp∧Uz nm g ins vs os ls xs ss inp=Jr nm ins vs os g ls xs ss [inp]∧UA nm g ins vs os ls xs ss inp=true:=by
 obtain⟨c0,c1,_,_,c4⟩:=akT nm ins vs os g ls xs ss inp h
 obtain⟨b1,b2⟩:=ahk nm ins vs os g ls xs ss inp
 obtain⟨w1,w2⟩:=ago (Jr nm ins vs os g ls xs ss [inp]) (rnO nm ins vs os g ls xs ss inp) (by omega)
 rw [kn (P:=fun z=>z !=0) (j:=0) (fun l=>by simp only [zR]),(am4 b1).1]at w2
 simp only [Uy,Uz,UA,SR,ST,c0,c1,c4,w1,w2,rJ,sfB,allT,Bool.cond_self,cond_true,and_true]
 cases (rnO nm ins vs os g ls xs ss inp).all (fun z=>z==0) <;> simp [Nat.beq]
theorem anw(nm:ByteArray)(ins vs os:List ByteArray)(g:ByteArray)(ls:List LN)(xs:List Int)(ss:List BS3)(inp:List Int)(h:cdG nm ins vs os g ls xs [inp]=true):
  Um nm g ins vs os ls xs ss inp=sfB nm ins vs os g ls xs ss inp∧Un nm g ins vs os ls xs ss inp=Jr nm ins vs os g ls xs ss [inp]∧Uo nm g ins vs os ls xs ss inp=true:=by
 obtain⟨c0,c1,_,_,c4⟩:=aj9 nm ins vs os g ls xs ss inp h
 obtain⟨b1,b2⟩:=ahk nm ins vs os g ls xs ss inp
 obtain⟨w1,w2⟩:=Uf 1 (rnO nm ins vs os g ls xs ss inp) (by omega)
 rw [kn (P:=fun z=>1==z) (j:=0) (fun l=>by simp only [nr]),(am4 b1).2]at w2
 have k0:vC 1 (rnO nm ins vs os g ls xs ss inp)= !(rnO nm ins vs os g ls xs ss inp).all (fun z=>z==0):=by
  simp only [vC,DY,sx,w2,gm]
  cases (rnO nm ins vs os g ls xs ss inp).all (fun z=>z==0) <;> simp [Nat.beq,Qd.1,Qd.2]
 have k1:vD 1 (rnO nm ins vs os g ls xs ss inp)=true:=by
  simp only [vD,DZ,sx,w1,allT,cond_true]
 simp only [Um,Un,Uo,Ng,c0,c1,c4,k0,k1,sfB,allT,Bool.or_true,cond_true,and_true]
 cases hz:(Jr nm ins vs os g ls xs ss [inp]!=0)with
 |true=>
  have:(Jr nm ins vs os g ls xs ss [inp]==0)=false:=by simpa using hz
  rw [this];exact⟨rfl,rfl⟩
 |false=>
  rw [agt hz];exact⟨by simp,rfl⟩
def aa2:List SV→List Entry→Option Out
 | [.one ⟨true,[.val (.string x0),.ref 0,.ref 1,.ref 2,.val (.string x1),.ref 3]⟩,.one ⟨true,[.ref 4,.ref 5]⟩,.one ⟨false,[.ref 6]⟩],[.row false 9 (.str) x2,.row false 9 (.str) x3,.row false 9 (.str) x4,.row false 204 (.pair (.str) (.sl 178 (.pair (.int .i64) (.pair (.str) (.int .i64))))) x5,.row false 2 (.int .i64) x6,.row false 172 (.pair (.int .i64) (.pair (.int .i64) (.int .i64))) x7,.row false 2 (.int .i64) x8]=>some ⟨.tup [⟨false,[.val (.bool (sfB x0 x2 x3 x4 x1 x5 x6 x7 x8))]⟩,⟨false,[.val (.int .i64 (Jr x0 x2 x3 x4 x1 x5 x6 x7 [x8]))]⟩],[.row false 9 alP x2,.row false 9 alP x3,.row false 9 alP x4,.row false 204 (CTy.pair CTy.str (CTy.sl (178:TypeId) acQ)) x5,.row false 2 ai3 x6,.row false 172 abM x7,.row false 2 ai3 x8],[],[cdG x0 x2 x3 x4 x1 x5 x6 [x8]]⟩
 |_,_=>none
def Uw:PF prog:=PF.alt ajh aa2 (by
 intro args es o h cD;unfold aa2 at h;split at h
 ·rename_i x0 x1 x2 x3 x4 x5 x6 x7 x8
  cases h
  have cD:=ln cD
  have hh:=aoa x0 x2 x3 x4 x1 x5 x6 x7 x8 cD
  obtain⟨e0,e1,en⟩:=hh
  exact qy rfl (kw en) (by simp only [e0,e1] <;> rfl) rfl rfl
 ·cases h)
def aaX:List SV→List Entry→Option Out
 | [.one ⟨true,[.val (.string x0),.ref 0,.ref 1,.ref 2,.val (.string x1),.ref 3]⟩,.one ⟨true,[.ref 4,.ref 5]⟩,.one ⟨false,[.ref 6]⟩],[.row false 9 (.str) x2,.row false 9 (.str) x3,.row false 9 (.str) x4,.row false 204 (.pair (.str) (.sl 178 (.pair (.int .i64) (.pair (.str) (.int .i64))))) x5,.row false 2 (.int .i64) x6,.row false 172 (.pair (.int .i64) (.pair (.int .i64) (.int .i64))) x7,.row false 2 (.int .i64) x8]=>some ⟨.tup [⟨false,[.val (.bool (sfB x0 x2 x3 x4 x1 x5 x6 x7 x8))]⟩,⟨false,[.val (.int .i64 (Jr x0 x2 x3 x4 x1 x5 x6 x7 [x8]))]⟩],[.row false 9 alP x2,.row false 9 alP x3,.row false 9 alP x4,.row false 204 (CTy.pair CTy.str (CTy.sl (178:TypeId) acQ)) x5,.row false 2 ai3 x6,.row false 172 abM x7,.row false 2 ai3 x8],[],[cdG x0 x2 x3 x4 x1 x5 x6 [x8]]⟩
 |_,_=>none
def Ut:PF prog:=PF.alt ajc aaX (by
 intro args es o h cD;unfold aaX at h;split at h
 ·rename_i x0 x1 x2 x3 x4 x5 x6 x7 x8
  cases h
  have cD:=ln cD
  have hh:=anw x0 x2 x3 x4 x1 x5 x6 x7 x8 cD
  obtain⟨e0,e1,en⟩:=hh
  exact qy rfl (kw en) (by simp only [e0,e1] <;> rfl) rfl rfl
 ·cases h)
section
variable (x3:List ByteArray)(x5:List (ByteArray×List (Int×ByteArray×Int)))
def UK:List Int:=List.replicate (Int.toNat (↑x3.length:Int)) (0:Int)
def UL:List (Int×(Int×Int)):=List.replicate (Int.toNat (↑(List.length (blL x5)):Int)) ((0:Int),(0:Int),(0:Int))
def OY:Bool:=allT [leI 0 (↑x3.length:Int),leI (↑x3.length:Int) (↑x3.length:Int),leI ((↑(8:Nat):Int) * (↑x3.length:Int)) 281474976710656,leI (↑x3.length:Int) 9223372036854775807,TL x5,leI 0 (↑(List.length (blL x5)):Int),leI (↑(List.length (blL x5)):Int) (↑(List.length (blL x5)):Int),leI ((↑(24:Nat):Int) * (↑(List.length (blL x5)):Int)) 281474976710656,leI (↑(List.length (blL x5)):Int) 9223372036854775807]
end
def aaV:List SV→List Entry→Option Out
 | [.one ⟨true,[.val (.string _x0),.ref 0,.ref 1,.ref 2,.val (.string _x1),.ref 3]⟩],[.row false 9 (.str) x2,.row false 9 (.str) x3,.row false 9 (.str) x4,.row false 204 (.pair (.str) (.sl 178 (.pair (.int .i64) (.pair (.str) (.int .i64))))) x5]=>some ⟨.one ⟨true,[.ref 4,.ref 5]⟩,[.row false 9 alP x2,.row false 9 alP x3,.row false 9 alP x4,.row false 204 (CTy.pair CTy.str (CTy.sl (178:TypeId) acQ)) x5],[.row true 2 ai3 (UK x3),.row true 172 abM (UL x5)],[OY x3 x5]⟩
 |_,_=>none
def wn:PF prog:=PF.ofG prog (T3z [tV]) [] aV 203 f203 func203 (fun c _=>LOk.nil c) aaV (by
 intro vs es r h;unfold aaV at h;split at h
 ·cases h;kernel_rfl
 ·cases h)
abbrev ry:=Int×List (List Int)×ByteArray×ByteArray×List ByteArray×List ByteArray×List ByteArray×List (ByteArray×(List (Int×(ByteArray×Int))))×List Int×List (Int×(Int×Int))
section
variable (y0:Int)(y1:List (List Int))(y4:List ByteArray)
def vG:List Int:=Option.getD y1[Int.toNat y0]? (xE ahT)
def Di:Bool:=ltI y0 (↑y1.length:Int)
def Ih:Bool:=leI 0 y0
def Ii:Bool:=ltN y0.toNat y1.length
def Ij:Bool:=leN (List.length (vG y0 y1)) 9223372036854775807
def Ik:Bool:= !bitsB (↑y4.length:Int) (vG y0 y1)
def Il:Int:=IntKind.wrap .i64 (y0 + (1:Int))
end
def agC:ry→List (Nat×SV)
 |(y0,_,_,_,_,_,_,_,_,_)=> [(7,(.one ⟨false,[.val (.int .i64 y0)]⟩)),(1,(.one ⟨false,[.ref 0]⟩)),(2,(.one ⟨false,[.ptr 1 0]⟩)),(5,(.one ⟨false,[.ptr 2 0]⟩))]
def agz:ry→List (Nat×Entry)
 |(_,y1,y2,y3,y4,y5,y6,y7,y8,y9)=> [(0,(.row false 41 ahT y1)),(1,(.box 63 [.val (.string y2),.ref 3,.ref 4,.ref 5,.val (.string y3),.ref 6])),(2,(.box 48 [.ref 7,.ref 8])),(3,(.row false 9 alP y4)),(4,(.row false 9 alP y5)),(5,(.row false 9 alP y6)),(6,(.row false 204 aas y7)),(7,(.row true 2 ai3 y8)),(8,(.row true 172 abM y9))]
def agI:Nat→ry→List (Nat×SV)
 |0,(_,_,_,_,_,_,_,_,_,_)=> [(4,(.one ⟨false,[.ref 9]⟩)),(6,(.one ⟨false,[.val (.int .i64 2)]⟩))]
 |_,(_,_,_,_,_,_,_,_,_,_)=> []
def agF:Nat→ry→List (Nat×Entry)
 |0,(_,y1,y2,y3,y4,y5,y6,y7,y8,y9)=> [(0,(.row false 41 ahT y1)),(1,(.box 63 [.val (.string y2),.ref 3,.ref 4,.ref 5,.val (.string y3),.ref 6])),(2,(.box 48 [.ref 10,.ref 11])),(3,(.row false 9 alP y4)),(4,(.row false 9 alP y5)),(5,(.row false 9 alP y6)),(6,(.row false 204 aas y7)),(7,(.row true 2 ai3 y8)),(8,(.row true 172 abM y9)),(9,(.row true 41 ahT [])),(10,(.row true 2 ai3 [])),(11,(.row true 172 abM []))]
 |_,(_,y1,y2,y3,y4,y5,y6,y7,y8,y9)=> [(0,(.row false 41 ahT y1)),(1,(.box 63 [.val (.string y2),.ref 3,.ref 4,.ref 5,.val (.string y3),.ref 6])),(2,(.box 48 [.ref 7,.ref 8])),(3,(.row false 9 alP y4)),(4,(.row false 9 alP y5)),(5,(.row false 9 alP y6)),(6,(.row false 204 aas y7)),(7,(.row true 2 ai3 y8)),(8,(.row true 172 abM y9))]
def Fz:ry→LT ry
 |(y0,y1,y2,y3,y4,y5,y6,y7,y8,y9)=> .ite (Di y0 y1) (.need [Ih y0,Di y0 y1,Ii y0 y1,Ij y0 y1] (.ite (Ik y0 y1 y4) (.ext 0 [(0,0),(1,1),(2,2),(3,3),(4,4),(5,5),(6,6),(7,7),(8,8),(9,960),(10,896),(11,897)]) (.nrm ((Il y0),y1,y2,y3,y4,y5,y6,y7,y8,y9) [(0,0),(1,1),(2,2),(3,3),(4,4),(5,5),(6,6),(7,7),(8,8)]))) (.ext 1 [(0,0),(1,1),(2,2),(3,3),(4,4),(5,5),(6,6),(7,7),(8,8)])
def Rk(s:St):Option ry:=
 (match s.look 7 with
 |some ⟨none,.one ⟨false,[.val (.int .i64 y0)]⟩⟩=>
 (match s.look 1 with
 |some ⟨none,.one ⟨false,[.ref 4]⟩⟩=>
 (match s.look 2 with
 |some ⟨none,.one ⟨false,[.ptr 384 0]⟩⟩=>
 (match s.look 5 with
 |some ⟨none,.one ⟨false,[.ptr 512 0]⟩⟩=>
 (match s.ent 4 with
 |some (.row false 41 (.sl 2 (.int .i64)) y1)=>
 (match s.ent 384 with
 |some (.box 63 [.val (.string y2),.ref 0,.ref 1,.ref 2,.val (.string y3),.ref 3])=>
 (match s.ent 512 with
 |some (.box 48 [.ref 513,.ref 514])=>
 (match s.ent 0 with
 |some (.row false 9 (.str) y4)=>
 (match s.ent 1 with
 |some (.row false 9 (.str) y5)=>
 (match s.ent 2 with
 |some (.row false 9 (.str) y6)=>
 (match s.ent 3 with
 |some (.row false 204 (.pair .str (.sl 178 (.pair (.int .i64) (.pair .str (.int .i64))))) y7)=>
 (match s.ent 513 with
 |some (.row true 2 (.int .i64) y8)=>
 (match s.ent 514 with
 |some (.row true 172 (.pair (.int .i64) (.pair (.int .i64) (.int .i64))) y9)=>
 some (y0,y1,y2,y3,y4,y5,y6,y7,y8,y9)
 |_=>none)
 |_=>none)
 |_=>none)
 |_=>none)
 |_=>none)
 |_=>none)
 |_=>none)
 |_=>none)
 |_=>none)
 |_=>none)
 |_=>none)
 |_=>none)
 |_=>none)
def jE:Lp ry where
 h:=⟨[21,22,23,24,27,28,29,30,31,32,33,34,35,36,4,6,25,26,7],[0,1,2,3,4,5,6,7,8],[],[9,10,11]⟩
 JL:=agC
 JE:=agz
 XL:=agI
 XE:=agF
 q:=fun j=>match j with | 0=> .ret | _=> .exit 0
 tags:= [0,1]
 lt:=Fz
 fuel:=fun(y0,y1,y2,y3,y4,y5,y6,y7,y8,y9)=>y0.natAbs + y1.length + y2.size + y3.size + y4.length + y5.length + y6.length + y7.length + y8.length + y9.length
 fix:=fun(_,y1,y2,y3,y4,y5,y6,y7,y8,y9) (y0,_,_,_,_,_,_,_,_,_)=>(y0,y1,y2,y3,y4,y5,y6,y7,y8,y9)
 σ:= [(0,4),(1,384),(2,512),(3,0),(4,1),(5,2),(6,3),(7,513),(8,514)]
 rd:=Rk
theorem aef:LoopOk prog (fun k=>Nat.blt k Tryz.f135.ntmps) jE.F (aY f135 0):=by
 refine Lp.ok (tbl:= (T3z [ya,mK,wn,jn])) (lf:= []) aV jE (by kernel_rfl) (LOk.nil _) (fun _=>rfl) (fun j _=>by unfold jE;match j with | 0=>rfl | _ + 1=>rfl) ?_ ?_ ?_ ?_ (fun _=>rfl) ?_
 ·rintro⟨y0,y1,y2,y3,y4,y5,y6,y7,y8,y9⟩;kernel_rfl
 ·rintro⟨y0,y1,y2,y3,y4,y5,y6,y7,y8,y9⟩;kernel_rfl
 ·intro s x h
  have h:Rk s=some x:=h
  unfold Rk at h
  repeat' split at h
  all_goals cases h
  constructor<;>repeat(first|refine ab (by assumption) rfl ?_|refine aa rfl (by assumption) rfl ?_|exact rfl)
 ·rintro⟨y0,y1,y2,y3,y4,y5,y6,y7,y8,y9⟩;kernel_rfl
 ·rintro⟨y0,y1,y2,y3,y4,y5,y6,y7,y8,y9⟩ z;exact(And.intro (And.intro trivial rfl) trivial)
abbrev rz:=Int×List (List Int)×ByteArray×ByteArray×List (List Int)×List ByteArray×List ByteArray×List ByteArray×List (ByteArray×(List (Int×(ByteArray×Int))))×List Int×List (Int×(Int×Int))
def ql(y0:Int)(y1:List (List Int)):List Int:=Option.getD y1[Int.toNat y0]? (xE ahT)
def yH(y0:Int)(y1:List (List Int))(y3:ByteArray)(y5 y6 y7:List ByteArray)(y8:List (ByteArray×(List (Int×(ByteArray×Int)))))(y9:List Int)(y10:List (Int×(Int×Int))):List (List Int):= [scO y5 y6 y7 y3 y8 (ql y0 y1) y9 y10]
section
variable (y0:Int)(y1:List (List Int))
def Dj:Bool:=ltI y0 (↑y1.length:Int)
def Im:Bool:=leI 0 y0
def Io:Bool:=ltN y0.toNat y1.length
end
def Ip(y0:Int)(y1:List (List Int))(y2 y3:ByteArray)(y5 y6 y7:List ByteArray)(y8:List (ByteArray×(List (Int×(ByteArray×Int)))))(y9:List Int)(y10:List (Int×(Int×Int))):Bool:=scG y2 y5 y6 y7 y3 y8 y9 y10 (ql y0 y1)
def Iq(y0:Int)(y1:List (List Int))(y3:ByteArray)(y4:List (List Int))(y5 y6 y7:List ByteArray)(y8:List (ByteArray×(List (Int×(ByteArray×Int)))))(y9:List Int)(y10:List (Int×(Int×Int))):Bool:=leN (List.length y4 + List.length (yH y0 y1 y3 y5 y6 y7 y8 y9 y10)) 9223372036854775807
def Ir(y0:Int)(y1:List (List Int))(y3:ByteArray)(y4:List (List Int))(y5 y6 y7:List ByteArray)(y8:List (ByteArray×(List (Int×(ByteArray×Int)))))(y9:List Int)(y10:List (Int×(Int×Int))):Bool:=leN ((List.length y4 + List.length (yH y0 y1 y3 y5 y6 y7 y8 y9 y10)) * 24) 140737488355328
def Is(y0:Int):Int:=IntKind.wrap .i64 (y0 + (1:Int))
def It(y0:Int)(y1:List (List Int))(y3:ByteArray)(y4:List (List Int))(y5 y6 y7:List ByteArray)(y8:List (ByteArray×(List (Int×(ByteArray×Int)))))(y9:List Int)(y10:List (Int×(Int×Int))):List (List Int):=y4++yH y0 y1 y3 y5 y6 y7 y8 y9 y10
def Iu(y0:Int)(y1:List (List Int))(y5 y6 y7:List ByteArray)(y8:List (ByteArray×(List (Int×(ByteArray×Int)))))(y9:List Int)(y10:List (Int×(Int×Int))):List Int:=scV y5 y6 y7 y8 (ql y0 y1) y9 y10
def Iv(y0:Int)(y1:List (List Int))(y5 y6 y7:List ByteArray)(y8:List (ByteArray×(List (Int×(ByteArray×Int)))))(y9:List Int)(y10:List (Int×(Int×Int))):List (Int×(Int×Int)):=scB y5 y6 y7 y8 (ql y0 y1) y9 y10
def agD:rz→List (Nat×SV)
 |(y0,_,_,_,_,_,_,_,_,_,_)=> [(10,(.one ⟨false,[.val (.int .i64 y0)]⟩)),(1,(.one ⟨false,[.ref 0]⟩)),(2,(.one ⟨false,[.ptr 1 0]⟩)),(9,(.one ⟨false,[.ptr 2 0]⟩)),(8,(.one ⟨false,[.ref 3]⟩))]
def agA:rz→List (Nat×Entry)
 |(_,y1,y2,y3,y4,y5,y6,y7,y8,y9,y10)=> [(0,(.row false 41 ahT y1)),(1,(.box 63 [.val (.string y2),.ref 4,.ref 5,.ref 6,.val (.string y3),.ref 7])),(2,(.box 48 [.ref 8,.ref 9])),(4,(.row false 9 alP y5)),(5,(.row false 9 alP y6)),(6,(.row false 9 alP y7)),(7,(.row false 204 aas y8)),(3,(.row true 41 ahT y4)),(8,(.row true 2 ai3 y9)),(9,(.row true 172 abM y10))]
def agJ:Nat→rz→List (Nat×SV)
 |_,(_,_,_,_,_,_,_,_,_,_,_)=> [(8,(.one ⟨false,[.ref 3]⟩))]
def agG:Nat→rz→List (Nat×Entry)
 |_,(_,y1,y2,y3,y4,y5,y6,y7,y8,y9,y10)=> [(0,(.row false 41 ahT y1)),(1,(.box 63 [.val (.string y2),.ref 4,.ref 5,.ref 6,.val (.string y3),.ref 7])),(2,(.box 48 [.ref 8,.ref 9])),(3,(.row true 41 ahT y4)),(4,(.row false 9 alP y5)),(5,(.row false 9 alP y6)),(6,(.row false 9 alP y7)),(7,(.row false 204 aas y8)),(8,(.row true 2 ai3 y9)),(9,(.row true 172 abM y10))]
def FA:rz→LT rz
 |(y0,y1,y2,y3,y4,y5,y6,y7,y8,y9,y10)=> .ite (Dj y0 y1) (.need [Im y0,Dj y0 y1,Io y0 y1,Ip y0 y1 y2 y3 y5 y6 y7 y8 y9 y10] (.need [Iq y0 y1 y3 y4 y5 y6 y7 y8 y9 y10,Ir y0 y1 y3 y4 y5 y6 y7 y8 y9 y10] (.nrm ((Is y0),y1,y2,y3,It y0 y1 y3 y4 y5 y6 y7 y8 y9 y10,y5,y6,y7,y8,Iu y0 y1 y5 y6 y7 y8 y9 y10,(Iv y0 y1 y5 y6 y7 y8 y9 y10)) [(0,0),(1,1),(2,2),(3,1344),(4,4),(5,5),(6,6),(7,7),(8,705),(9,706)]))) (.ext 0 [(0,0),(1,1),(2,2),(3,3),(4,4),(5,5),(6,6),(7,7),(8,8),(9,9)])
def Rl(s:St):Option rz:=
 (match s.look 10 with
 |some ⟨none,.one ⟨false,[.val (.int .i64 y0)]⟩⟩=>
 (match s.look 1 with
 |some ⟨none,.one ⟨false,[.ref 4]⟩⟩=>
 (match s.look 2 with
 |some ⟨none,.one ⟨false,[.ptr 384 0]⟩⟩=>
 (match s.look 9 with
 |some ⟨none,.one ⟨false,[.ptr 1408 0]⟩⟩=>
 (match s.look 8 with
 |some ⟨none,.one ⟨false,[.ref 1152]⟩⟩=>
 (match s.ent 4 with
 |some (.row false 41 (.sl 2 (.int .i64)) y1)=>
 (match s.ent 384 with
 |some (.box 63 [.val (.string y2),.ref 0,.ref 1,.ref 2,.val (.string y3),.ref 3])=>
 (match s.ent 1408 with
 |some (.box 48 [.ref 1344,.ref 1345])=>
 (match s.ent 0 with
 |some (.row false 9 (.str) y5)=>
 (match s.ent 1 with
 |some (.row false 9 (.str) y6)=>
 (match s.ent 2 with
 |some (.row false 9 (.str) y7)=>
 (match s.ent 3 with
 |some (.row false 204 (.pair .str (.sl 178 (.pair (.int .i64) (.pair .str (.int .i64))))) y8)=>
 (match s.ent 1152 with
 |some (.row true 41 (.sl 2 (.int .i64)) y4)=>
 (match s.ent 1344 with
 |some (.row true 2 (.int .i64) y9)=>
 (match s.ent 1345 with
 |some (.row true 172 (.pair (.int .i64) (.pair (.int .i64) (.int .i64))) y10)=>
 some (y0,y1,y2,y3,y4,y5,y6,y7,y8,y9,y10)
 |_=>none)
 |_=>none)
 |_=>none)
 |_=>none)
 |_=>none)
 |_=>none)
 |_=>none)
 |_=>none)
 |_=>none)
 |_=>none)
 |_=>none)
 |_=>none)
 |_=>none)
 |_=>none)
 |_=>none)
def kO:Lp rz where
 h:=⟨[40,41,42,43,47,48,49,50,51,52,53,46,54,55,12,11,56,57,58,59,8,60,44,45,10],[0,1,2,4,5,6,7],[3,8,9],[]⟩
 JL:=agD
 JE:=agA
 XL:=agJ
 XE:=agG
 q:=fun j=>match j with | _=> .exit 2
 tags:= [0]
 lt:=FA
 fuel:=fun(y0,y1,y2,y3,y4,y5,y6,y7,y8,y9,y10)=>y0.natAbs + y1.length + y2.size + y3.size + y4.length + y5.length + y6.length + y7.length + y8.length + y9.length + y10.length
 fix:=fun(_,y1,y2,y3,_,y5,y6,y7,y8,_,_) (y0,_,_,_,y4,_,_,_,_,y9,y10)=>(y0,y1,y2,y3,y4,y5,y6,y7,y8,y9,y10)
 σ:= [(0,4),(1,384),(2,1408),(4,0),(5,1),(6,2),(7,3),(3,1152),(8,1344),(9,1345)]
 rd:=Rl
theorem aeg:LoopOk prog (fun k=>Nat.blt k Tryz.f135.ntmps) kO.F (aY f135 1):=by
 refine Lp.ok (tbl:= (T3z [ya,mK,wn,jn])) (lf:= []) aV kO (by kernel_rfl) (LOk.nil _) (fun _=>rfl) (fun _ _=>rfl) ?_ ?_ ?_ ?_ (fun _=>rfl) ?_
 ·rintro⟨y0,y1,y2,y3,y4,y5,y6,y7,y8,y9,y10⟩;kernel_rfl
 ·rintro⟨y0,y1,y2,y3,y4,y5,y6,y7,y8,y9,y10⟩;kernel_rfl
 ·intro s x h
  have h:Rl s=some x:=h
  unfold Rl at h
  repeat' split at h
  all_goals cases h
  constructor<;>repeat(first|refine ab (by assumption) rfl ?_|refine aa rfl (by assumption) rfl ?_|exact rfl)
 ·rintro⟨y0,y1,y2,y3,y4,y5,y6,y7,y8,y9,y10⟩;kernel_rfl
 ·rintro⟨y0,y1,y2,y3,y4,y5,y6,y7,y8,y9,y10⟩ z;exact(And.intro rfl trivial)
section
variable (x0 x1:ByteArray)(x2 x3 x4:List ByteArray)(x5:List (ByteArray×List (Int×ByteArray×Int)))(x6:List (List Int))
def Bz:Bool:=ltI 200 (↑x6.length:Int)
def WQ:Int×List (List Int)×ByteArray×ByteArray×List ByteArray×List ByteArray×List ByteArray×List (ByteArray×List (Int×ByteArray×Int))×List Int×List (Int×Int×Int):=((0:Int),x6,x0,x1,x2,x3,x4,x5,[],[])
def BA:Bool:=Nat.beq ((Lp.res jE (WQ x0 x1 x2 x3 x4 x5 x6)).1) 0
def RR:Int×List (List Int)×ByteArray×ByteArray×List (List Int)×List ByteArray×List ByteArray×List ByteArray×List (ByteArray×List (Int×ByteArray×Int))×List Int×List (Int×Int×Int):=((0:Int),x6,x0,x1,[],x2,x3,x4,x5,UK x3,UL x5)
def WR:List (List Int)×List ByteArray×List ByteArray×List ByteArray×List (ByteArray×List (Int×ByteArray×Int))×List Int×List (Int×Int×Int):=(Lp.res kO (RR x0 x1 x2 x3 x4 x5 x6)).2.2.2.2.2
def WS:List Int×List (Int×Int×Int):=(WR x0 x1 x2 x3 x4 x5 x6).2.2.2.2.2
def Tn:Int:=bif !jH x0 x2 x3 x4 x1 x5 then(1:Int)else bif Bz x6 then(3:Int)else bif BA x0 x1 x2 x3 x4 x5 x6 then(2:Int)else(0:Int)
def YT:List (List Int):=bif !jH x0 x2 x3 x4 x1 x5 then []else bif Bz x6 then []else bif BA x0 x1 x2 x3 x4 x5 x6 then []else (WR x0 x1 x2 x3 x4 x5 x6).1
def To:List Int:=bif !jH x0 x2 x3 x4 x1 x5 then []else bif Bz x6 then []else bif BA x0 x1 x2 x3 x4 x5 x6 then []else (WS x0 x1 x2 x3 x4 x5 x6).1
def Tp:List (Int×(Int×Int)):=bif !jH x0 x2 x3 x4 x1 x5 then []else bif Bz x6 then []else bif BA x0 x1 x2 x3 x4 x5 x6 then []else (WS x0 x1 x2 x3 x4 x5 x6).2
def Tq:Bool:=allT [NR x0 x2 x3 x4 x1 x5,!jH x0 x2 x3 x4 x1 x5||(Bz x6||Lp.fin jE (WQ x0 x1 x2 x3 x4 x5 x6)),!jH x0 x2 x3 x4 x1 x5||(Bz x6||(BA x0 x1 x2 x3 x4 x5 x6||OY x3 x5)),!jH x0 x2 x3 x4 x1 x5||(Bz x6||(BA x0 x1 x2 x3 x4 x5 x6||Lp.fin kO (RR x0 x1 x2 x3 x4 x5 x6)))]
end
def aew:List SV→List Entry→Option Out
 | [.one ⟨true,[.val (.string x0),.ref 0,.ref 1,.ref 2,.val (.string x1),.ref 3]⟩,.one ⟨false,[.ref 4]⟩],[.row false 9 (.str) x2,.row false 9 (.str) x3,.row false 9 (.str) x4,.row false 204 (.pair (.str) (.sl 178 (.pair (.int .i64) (.pair (.str) (.int .i64))))) x5,.row false 41 (.sl 2 (.int .i64)) x6]=>some ⟨.tup [⟨false,[.ref 5]⟩,⟨true,[.ref 6,.ref 7]⟩,⟨false,[.val (.int .i64 (Tn x0 x1 x2 x3 x4 x5 x6))]⟩],[.row false 9 alP x2,.row false 9 alP x3,.row false 9 alP x4,.row false 204 (CTy.pair CTy.str (CTy.sl (178:TypeId) acQ)) x5,.row false 41 (CTy.sl (2:TypeId) ai3) x6],[.row true 41 ahT (YT x0 x1 x2 x3 x4 x5 x6),.row true 2 ai3 (To x0 x1 x2 x3 x4 x5 x6),.row true 172 abM (Tp x0 x1 x2 x3 x4 x5 x6)],[Tq x0 x1 x2 x3 x4 x5 x6]⟩
 |_,_=>none
def YN:PF prog:=PF.ofG prog (T3z [ya,mK,wn,jn]) [jE.F,kO.F] aV 135 f135 func135 (LOk.fnT (l:= [aY f135 0,aY f135 1]) (by kernel_rfl) (.cons aef (.cons aeg (.nil _)))) aew (by
 intro vs es r h;unfold aew at h;split at h
 ·cases h;kernel_rfl
 ·cases h)
section
variable (x0 x1:ByteArray)(x2 x3 x4:List ByteArray)(x5:List (ByteArray×List (Int×ByteArray×Int)))(x6:List (List Int))
def Wm:Int:=Tn x0 x1 x2 x3 x4 x5 x6
def Wn:List Int:=To x0 x1 x2 x3 x4 x5 x6
def Wo:List (Int×(Int×Int)):=Tp x0 x1 x2 x3 x4 x5 x6
def PB:Bool:=allT [Tq x0 x1 x2 x3 x4 x5 x6]
end
def Vs:List SV→List Entry→Option Out
 | [.one ⟨true,[.val (.string x0),.ref 0,.ref 1,.ref 2,.val (.string x1),.ref 3]⟩,.one ⟨false,[.ref 4]⟩],[.row false 9 (.str) x2,.row false 9 (.str) x3,.row false 9 (.str) x4,.row false 204 (.pair (.str) (.sl 178 (.pair (.int .i64) (.pair (.str) (.int .i64))))) x5,.row false 41 (.sl 2 (.int .i64)) x6]=>some ⟨.tup [⟨true,[.ref 5,.ref 6]⟩,⟨false,[.val (.int .i64 (Wm x0 x1 x2 x3 x4 x5 x6))]⟩],[.row false 9 alP x2,.row false 9 alP x3,.row false 9 alP x4,.row false 204 (CTy.pair CTy.str (CTy.sl (178:TypeId) acQ)) x5,.row false 41 (CTy.sl (2:TypeId) ai3) x6],[.row true 2 ai3 (Wn x0 x1 x2 x3 x4 x5 x6),.row true 172 abM (Wo x0 x1 x2 x3 x4 x5 x6)],[PB x0 x1 x2 x3 x4 x5 x6]⟩
 |_,_=>none
def afJ:PF prog:=PF.ofG prog (T3z [YN]) [] aV 64 f64 func64 (fun c _=>LOk.nil c) Vs (by
 intro vs es r h;unfold Vs at h;split at h
 ·cases h;kernel_rfl
 ·cases h)
abbrev MS:=Int×List Int×List Int×List Int×List BS3
theorem ari{v:Int}{bs:List TM}{xs:List Int}{ss:List BS3}:zh v bs xs ss=true↔ss.length=bs.length∧bitsB v xs=true∧ ∀ k,k < bs.length→possAt bs ss k=true:=by
 simp only [zh,Bool.and_eq_true,beq_iff_eq,List.all_eq_true,List.mem_range]
 constructor
 ·rintro⟨h1,h2,h3⟩;exact⟨by omega,h2,h3⟩
 ·rintro⟨h1,h2,h3⟩;exact⟨by omega,h2,h3⟩
def m0:MS:=(0,[],[],[],[])
def apl(ll:List (List Int)):Nat:=(ll.map List.length).sum
theorem aqh{k:Int}{s:ByteArray}{n:Int}(h:Yq k s n=true):possB k n 0 0 0=true:=by
 obtain⟨h1,h2,h3⟩:=aal h
 have t:inR 0 0 n=true:=Fw.2 (by omega)
 have t1:inR 0 0 1=true:=rfl
 rcases kinds h1 with rfl | rfl | rfl | rfl | rfl | rfl <;> simp [possB,df,bL,YA,t,t1] <;> omega
def adr(bs:List TM):List BS3:=List.replicate bs.length ((0:Int),(0:Int),(0:Int))
theorem aoU{l:List (List Int)}(h:ltI 200 (l.length:Int)=false):l.length≤200:=by
 rcases Nat.lt_or_ge 200 l.length with h' | h'
 ·rw [fv (by omega)]at h;cases h
 ·exact h'
def sgO(ins vs os:List ByteArray)(g:ByteArray)(ls:List LN):List (List Int)→List Int→List BS3→List (List Int)
 | [],_,_=> []
 |inp::r,xs,ss=>scO ins vs os g ls inp xs ss::sgO ins vs os g ls r (scV ins vs os ls inp xs ss) (scB ins vs os ls inp xs ss)
def sgM(ins vs os:List ByteArray)(ls:List LN):List (List Int)→List Int→List BS3→List Int×List BS3
 | [],xs,ss=>(xs,ss)
 |inp::r,xs,ss=>sgM ins vs os ls r (scV ins vs os ls inp xs ss) (scB ins vs os ls inp xs ss)
def zv(vs:List ByteArray):List Int:=List.replicate vs.length 0
theorem apO{nm:ByteArray}{ins vs os:List ByteArray}{g:ByteArray}{ls:List LN}{xs:List Int}{ss:List BS3}{inp:List Int}(h:scG nm ins vs os g ls xs ss inp=true):
  zh vs.length (blL ls) (scV ins vs os ls inp xs ss) (scB ins vs os ls inp xs ss)=true∧(scO ins vs os g ls inp xs ss).length≤20:=by
 obtain⟨h1,h2,h3⟩:=Tl.1 h
 have hS:=adk h1 h3
 obtain⟨a,b⟩:=ajv (os:=os) (g:=g) h3 hS.hL h2
 have:=(eI.1 b).2
 have:=hS.h3
 exact⟨a,by omega⟩
theorem an4{nm:ByteArray}{ins vs os:List ByteArray}{g:ByteArray}{ls:List LN}(hS:jH nm ins vs os g ls=true): ∀ (r:List (List Int)) (xs:List Int) (ss:List BS3),
  (∀ x∈r,bitsB ins.length x=true)→zh vs.length (blL ls) xs ss=true→
  (sgO ins vs os g ls r xs ss).length=r.length∧(∀ x∈sgO ins vs os g ls r xs ss,x.length≤20)∧zh vs.length (blL ls) (sgM ins vs os ls r xs ss).1 (sgM ins vs os ls r xs ss).2=true
 | [],_,_,_,hs=>⟨rfl,fun x hx=>(List.not_mem_nil hx).elim,hs⟩
 |inp::r,xs,ss,hA,hs=>by
  obtain⟨h1,h2⟩:=apO (Tl.2 ⟨hS,hs,hA inp (by simp)⟩)
  obtain⟨g1,g2,g3⟩:=an4 hS r _ _ (fun x hx=>hA x (by simp [hx])) h1
  refine⟨by simp [sgO,g1],fun x hx=> ?_,g3⟩
  rcases List.mem_cons.1 hx with rfl | hx
  ·exact h2
  ·exact g2 x hx
theorem apQ{nm:ByteArray}{ins vs os:List ByteArray}{g:ByteArray}{ls:List LN}(hS:jH nm ins vs os g ls=true):zh vs.length (blL ls) (zv vs) (adr (blL ls))=true:=by
 have hB:=acG ls (Qn hS).2.1
 refine ari.2 ⟨by simp [adr],eI.2 ⟨fun z hz=> .inl (List.eq_of_mem_replicate hz),by rw [zv,List.length_replicate]⟩,fun k hk=> ?_⟩
 simp only [aa6,List.all_eq_true]at hB
 have h1:stAt (adr (blL ls)) k=(0,0,0):=by
  simp only [stAt,adr]
  rw [List.getElem?_replicate,if_pos hk];rfl
 have h2:Sf (blL ls) k∈blL ls:=by
  simp only [Sf,List.getElem?_eq_getElem hk];exact List.getElem_mem hk
 simp only [possAt,h1]
 exact aqh (hB _ h2)
def rgC(nm:ByteArray)(ins vs os:List ByteArray)(g:ByteArray)(ls:List LN)(l:List (List Int)):Int:=bif !jH nm ins vs os g ls then 1 else bif ltI 200 (l.length:Int)then 3 else bif !l.all (fun x=>bitsB ins.length x)then 2 else 0
def rgO(nm:ByteArray)(ins vs os:List ByteArray)(g:ByteArray)(ls:List LN)(l:List (List Int)):List (List Int):=bif rgC nm ins vs os g ls l==0 then sgO ins vs os g ls l (zv vs) (adr (blL ls))else []
def rgV(nm:ByteArray)(ins vs os:List ByteArray)(g:ByteArray)(ls:List LN)(l:List (List Int)):List Int:=bif rgC nm ins vs os g ls l==0 then(sgM ins vs os ls l (zv vs) (adr (blL ls))).1 else []
def rgB(nm:ByteArray)(ins vs os:List ByteArray)(g:ByteArray)(ls:List LN)(l:List (List Int)):List BS3:=bif rgC nm ins vs os g ls l==0 then(sgM ins vs os ls l (zv vs) (adr (blL ls))).2 else []
def rgN(nm:ByteArray)(ins vs os:List ByteArray)(g:ByteArray)(ls:List LN)(l:List (List Int)):Bool:=NR nm ins vs os g ls&&arP 9223372036854775807 l
theorem anZ(nm:ByteArray)(ins vs os:List ByteArray)(g:ByteArray)(ls:List LN)(l:List (List Int)):
  (jH nm ins vs os g ls=false∧rgC nm ins vs os g ls l=1)∨(jH nm ins vs os g ls=true∧ltI 200 (l.length:Int)=true∧rgC nm ins vs os g ls l=3)∨
  (jH nm ins vs os g ls=true∧ltI 200 (l.length:Int)=false∧l.all (fun x=>bitsB ins.length x)=false∧rgC nm ins vs os g ls l=2)∨
  (jH nm ins vs os g ls=true∧ltI 200 (l.length:Int)=false∧l.all (fun x=>bitsB ins.length x)=true∧rgC nm ins vs os g ls l=0):=by
 simp only [rgC]
 cases jH nm ins vs os g ls <;> cases ltI 200 (l.length:Int) <;> cases l.all (fun x=>bitsB ins.length x) <;> simp
def Ht(y4:List ByteArray)(b:List Int):(Unit)→Nat ⊕ (Unit)
 |_=>(bif(!bitsB (↑y4.length:Int) b)then(.inl 0)else(.inr ()))
def yI(y1:List (List Int))(y2 y3:ByteArray)(y4 y5 y6:List ByteArray)(y7:List (ByteArray×(List (Int×(ByteArray×Int)))))(y8:List Int)(y9:List (Int×(Int×Int)))(i:Nat):(Unit)→ry
 |_=>((i:Int),y1,y2,y3,y4,y5,y6,y7,y8,y9)
def Rh:ry→Unit
 |(_,_,_,_,_,_,_,_,_,_)=>()
theorem ais(y1:List (List Int))(y2 y3:ByteArray)(y4 y5 y6:List ByteArray)(y7:List (ByteArray×(List (Int×(ByteArray×Int)))))(y8:List Int)(y9:List (Int×(Int×Int))) (hn:y1.length≤9223372036854775807) (hA: ∀ x∈y1,x.length≤9223372036854775807):
  jE.fin ((0:Int),y1,y2,y3,y4,y5,y6,y7,y8,y9)=true∧jE.res ((0:Int),y1,y2,y3,y4,y5,y6,y7,y8,y9)=((bc (Ht y4) 1 y1 0 ()).1,(yI y1 y2 y3 y4 y5 y6 y7 y8 y9) (bc (Ht y4) 1 y1 0 ()).2.1 (bc (Ht y4) 1 y1 0 ()).2.2):=by
 have oi:=jE.along (yI y1 y2 y3 y4 y5 y6 y7 y8 y9) Rh (Ht y4) 1 (fun _ _=>True) y1 () (by trivial) (by simp only [jE,yI];omega) (fun i b a hb hI=> ?_) (fun a hI=> ?_)
 ·exact oi
 ·obtain⟨⟩:=a
  have gV:=(List.getElem?_eq_some_iff.1 hb).1
  have lH: ∀ d,Option.getD y1[i]? d=b:=fun d=>by rw [hb];rfl
  have hw:=yJ gV hn
  have fA:ltI (i:Int) (y1.length:Int)=true:=fv (by omega)
  have Gz:leI (0:Int) (i:Int)=true:=cM (by omega)
  have qn:ltN i y1.length=true:=gM gV
  refine⟨?_,?_,?_,?_⟩
  ·have hg2:vG (i:Int) y1=b:=by simp only [vG,Int.toNat_natCast];exact lH _
   have h6:leN b.length 9223372036854775807=true:=ci (hA b (List.mem_of_getElem? hb))
   simp only [Di,Ih,Ii,Ij,Ik,Il,Fz,jE,LT.nds,allT,yI,Int.toNat_natCast,fA,Gz,qn,hg2,h6,cond_true,Bool.and_self]
   cases !bitsB (y4.length:Int) b <;> rfl
  ·simp [vG,Di,Ih,Ii,Ij,Ik,Il,Fz,jE,LT.each,yI,Rh,hw]
  ·have hg2:vG (i:Int) y1=b:=by simp only [vG,Int.toNat_natCast];exact lH _
   simp only [Di,Ih,Ii,Ij,Ik,Il,Fz,jE,LT.fn,yI,Rh,Ht,Int.toNat_natCast,fA,hg2,cond_true]
  ·exact fun _ _=>trivial
 ·obtain⟨⟩:=a
  simp [vG,Di,Ih,Ii,Ij,Ik,Il,Fz,jE,LT.out,yI]
def zT(y3:ByteArray)(y5 y6 y7:List ByteArray)(y8:List (ByteArray×(List (Int×(ByteArray×Int)))))(b:List Int):(List (List Int)×List Int×List (Int×(Int×Int)))→Nat ⊕ (List (List Int)×List Int×List (Int×(Int×Int)))
 |(y4,y9,y10)=>(.inr ((y4++([scO y5 y6 y7 y3 y8 b y9 y10])),scV y5 y6 y7 y8 b y9 y10,(scB y5 y6 y7 y8 b y9 y10)))
def vI(y1:List (List Int))(y2 y3:ByteArray)(y5 y6 y7:List ByteArray)(y8:List (ByteArray×(List (Int×(ByteArray×Int)))))(i:Nat):(List (List Int)×List Int×List (Int×(Int×Int)))→rz
 |(y4,y9,y10)=>((i:Int),y1,y2,y3,y4,y5,y6,y7,y8,y9,y10)
def Ri:rz→List (List Int)×List Int×List (Int×(Int×Int))
 |(_,_,_,_,y4,_,_,_,_,y9,y10)=>(y4,y9,y10)
theorem ait(y1:List (List Int))(y2 y3:ByteArray)(y5 y6 y7:List ByteArray)(y8:List (ByteArray×(List (Int×(ByteArray×Int)))))(y4:List (List Int))(y9:List Int)(y10:List (Int×(Int×Int)))(hn:y1.length≤9223372036854775807)(hC:jH y2 y5 y6 y7 y3 y8=true)(hA: ∀ x∈y1,bitsB y5.length x=true)(h200:y1.length≤200)(hS:zh y6.length (blL y8) y9 y10=true)(h4:y4.length=0):
  kO.fin ((0:Int),y1,y2,y3,y4,y5,y6,y7,y8,y9,y10)=true∧kO.res ((0:Int),y1,y2,y3,y4,y5,y6,y7,y8,y9,y10)=((bc (zT y3 y5 y6 y7 y8) 0 y1 0 (y4,y9,y10)).1,(vI y1 y2 y3 y5 y6 y7 y8) (bc (zT y3 y5 y6 y7 y8) 0 y1 0 (y4,y9,y10)).2.1 (bc (zT y3 y5 y6 y7 y8) 0 y1 0 (y4,y9,y10)).2.2):=by
 have oi:=kO.along (vI y1 y2 y3 y5 y6 y7 y8) Ri (zT y3 y5 y6 y7 y8) 0 (fun i a=>zh y6.length (blL y8) a.2.1 a.2.2=true∧a.1.length=i) y1 (y4,y9,y10) ⟨hS,h4⟩ (by simp only [kO,vI];omega) (fun i b a hb hI=> ?_) (fun a hI=> ?_)
 ·exact oi
 ·obtain⟨y4,y9,y10⟩:=a
  have gV:=(List.getElem?_eq_some_iff.1 hb).1
  have lH: ∀ d,Option.getD y1[i]? d=b:=fun d=>by rw [hb];rfl
  have hw:=yJ gV hn
  have fA:ltI (i:Int) (y1.length:Int)=true:=fv (by omega)
  have Gz:leI (0:Int) (i:Int)=true:=cM (by omega)
  have qn:ltN i y1.length=true:=gM gV
  refine⟨?_,?_,?_,?_⟩
  ·have hg2:ql (i:Int) y1=b:=by simp only [ql,Int.toNat_natCast];exact lH _
   have hl:=hI.2
   have he:scG y2 y5 y6 y7 y3 y8 y9 y10 b=true:=Tl.2 ⟨hC,hI.1,hA b (List.mem_of_getElem? hb)⟩
   have h6:leN (y4.length + 1) 9223372036854775807=true:=ci (by simp only at hl;omega)
   have h7:leN ((y4.length + 1) * 24) 140737488355328=true:=ci (by simp only at hl;omega)
   simp only [Dj,Im,Io,Ip,Iq,Ir,Is,It,Iu,Iv,FA,kO,yH,LT.nds,allT,vI,fA,Gz,qn,hg2,he,List.length_singleton,h6,h7,Int.toNat_natCast,cond_true]
  ·simp [ql,yH,Dj,Im,Io,Ip,Iq,Ir,Is,It,Iu,Iv,FA,kO,LT.each,vI,Ri,hw]
  ·have hg2:ql (i:Int) y1=b:=by simp only [ql,Int.toNat_natCast];exact lH _
   simp only [Dj,Im,Io,Ip,Iq,Ir,Is,It,Iu,Iv,FA,kO,yH,LT.fn,vI,Ri,zT,Int.toNat_natCast,fA,hg2,cond_true]
  ·intro a' hf
   simp only [zT,Sum.inr.injEq]at hf
   subst hf
   have he:scG y2 y5 y6 y7 y3 y8 y9 y10 b=true:=Tl.2 ⟨hC,hI.1,hA b (List.mem_of_getElem? hb)⟩
   exact⟨(apO he).1,by have hl:=hI.2;simp only at hl;simp [hl]⟩
 ·obtain⟨y4,y9,y10⟩:=a
  simp [ql,yH,Dj,Im,Io,Ip,Iq,Ir,Is,It,Iu,Iv,FA,kO,LT.out,vI]
theorem apS{ins vs os:List ByteArray}{g:ByteArray}{ls:List LN}{f:List Int→List (List Int)×List Int×List BS3→Nat ⊕ (List (List Int)×List Int×List BS3)}
  (hf: ∀ b a,f b a= .inr (a.1++ [scO ins vs os g ls b a.2.1 a.2.2],scV ins vs os ls b a.2.1 a.2.2,scB ins vs os ls b a.2.1 a.2.2)) {e:Nat}:
  ∀ (r:List (List Int)) (i:Nat) (acc:List (List Int)) (xs:List Int) (ss:List BS3),bc f e r i (acc,xs,ss)=(e,i + r.length,acc++sgO ins vs os g ls r xs ss,sgM ins vs os ls r xs ss)
 | [],i,acc,xs,ss=>by simp [bc,sgO,sgM]
 |b::r,i,acc,xs,ss=>by
  simp only [bc,hf]
  rw [apS hf r]
  simp only [sgO,sgM,List.append_assoc,List.singleton_append,List.length_cons]
  congr 2
  omega
theorem zvs(vs:List ByteArray):List.replicate (Int.toNat (vs.length:Int)) (0:Int)=zv vs:=by rw [Int.toNat_natCast];rfl
theorem zbs(ls:List LN):List.replicate (Int.toNat ((blL ls).length:Int)) ((0:Int),(0:Int),(0:Int))=adr (blL ls):=by rw [Int.toNat_natCast];rfl
theorem ask(nm:ByteArray)(ins vs os:List ByteArray)(g:ByteArray)(ls:List LN)(l:List (List Int))(h:rgN nm ins vs os g ls l=true):
  Tn nm g ins vs os ls l=rgC nm ins vs os g ls l∧YT nm g ins vs os ls l=rgO nm ins vs os g ls l∧To nm g ins vs os ls l=rgV nm ins vs os g ls l∧
  Tp nm g ins vs os ls l=rgB nm ins vs os g ls l∧Tq nm g ins vs os ls l=true:=by
 simp only [rgN,Bool.and_eq_true]at h
 obtain⟨hT,hl⟩:=h
 obtain⟨hn,hA⟩:=arh.1 hl
 obtain⟨w1,w2⟩:=ais l nm g ins vs os ls [] [] hn hA
 rw [kn (P:=fun x=> !bitsB ins.length x) (j:=0) (fun x=>rfl)]at w2
 have e5:(l.any fun x=> !bitsB ins.length x)= !l.all (fun x=>bitsB ins.length x):=by simp [List.all_eq_not_any_not]
 rw [e5]at w2
 have e1:WQ nm g ins vs os ls l=((0:Int),l,nm,g,ins,vs,os,ls,[],[]):=rfl
 have e2:BA nm g ins vs os ls l= !l.all (fun x=>bitsB ins.length x):=by
  simp only [BA,e1,w2]
  cases l.all (fun x=>bitsB ins.length x) <;> rfl
 have e3:RR nm g ins vs os ls l=((0:Int),l,nm,g,[],ins,vs,os,ls,zv vs,adr (blL ls)):=by simp only [RR,UK,UL,zvs,zbs]
 simp only [Tn,YT,To,Tp,Tq,Bz,WR,WS,e1,e2,e3,w1,hT,rgO,rgV,rgB,allT]
 rcases anZ nm ins vs os g ls l with⟨h1,h2⟩ | ⟨h1,h3,h2⟩ | ⟨h1,h3,h4,h2⟩ | ⟨h1,h3,h4,h2⟩
 ·rw [h1,h2];simp
 ·rw [h1,h2,h3];simp
 ·rw [h1,h2,h3,h4];simp
 ·have hA2: ∀ x∈l,bitsB ins.length x=true:=List.all_eq_true.1 h4
  have hS:=apQ h1
  obtain⟨v1,v2⟩:=ait l nm g ins vs os ls [] (zv vs) (adr (blL ls)) (by have:=aoU h3;omega) h1 hA2 (aoU h3) hS rfl
  rw [apS (ins:=ins) (vs:=vs) (os:=os) (g:=g) (ls:=ls) (f:=zT g ins vs os ls) (fun b a=>rfl)]at v2
  have hX:=adk (inp:=List.replicate ins.length 0) h1 (eI.2 ⟨fun z hz=> .inl (List.eq_of_mem_replicate hz),by simp⟩)
  have hb:=hX.bl
  have hv:=hX.h2
  have u1:leI 0 (vs.length:Int)=true:=cM (by omega)
  have u2:leI (vs.length:Int) (vs.length:Int)=true:=cM (by omega)
  have u3:leI ((↑(8:Nat):Int) * (vs.length:Int)) 281474976710656=true:=cM (by omega)
  have u4:leI (vs.length:Int) 9223372036854775807=true:=cM (by omega)
  have u5:leI 0 ((blL ls).length:Int)=true:=cM (by omega)
  have u6:leI ((blL ls).length:Int) ((blL ls).length:Int)=true:=cM (by omega)
  have u7:leI ((↑(24:Nat):Int) * ((blL ls).length:Int)) 281474976710656=true:=cM (by omega)
  have u8:leI ((blL ls).length:Int) 9223372036854775807=true:=cM (by omega)
  have hLn:=(MH.1 hT).2.2.2.2.2.2
  have f2:OY vs ls=true:=by simp only [OY,u1,u2,u3,u4,u5,u6,u7,u8,hLn,allT,cond_true]
  rw [h1,h2,h3,h4,v1,v2,f2]
  simp [vI]
theorem aqm(nm:ByteArray)(ins vs os:List ByteArray)(g:ByteArray)(ls:List LN)(l:List (List Int))(h:rgN nm ins vs os g ls l=true):Wm nm g ins vs os ls l=rgC nm ins vs os g ls l∧Wn nm g ins vs os ls l=rgV nm ins vs os g ls l∧Wo nm g ins vs os ls l=rgB nm ins vs os g ls l∧PB nm g ins vs os ls l=true:=by
 obtain⟨s0,s1,s2,s3,s4⟩:=ask nm ins vs os g ls l h
 exact⟨s0,s2,s3,by simp only [PB,s4,allT,cond_true]⟩
def Vy:List SV→List Entry→Option Out
 | [.one ⟨true,[.val (.string x0),.ref 0,.ref 1,.ref 2,.val (.string x1),.ref 3]⟩,.one ⟨false,[.ref 4]⟩],[.row false 9 (.str) x2,.row false 9 (.str) x3,.row false 9 (.str) x4,.row false 204 (.pair (.str) (.sl 178 (.pair (.int .i64) (.pair (.str) (.int .i64))))) x5,.row false 41 (.sl 2 (.int .i64)) x6]=>some ⟨.tup [⟨true,[.ref 5,.ref 6]⟩,⟨false,[.val (.int .i64 (rgC x0 x2 x3 x4 x1 x5 x6))]⟩],[.row false 9 alP x2,.row false 9 alP x3,.row false 9 alP x4,.row false 204 (CTy.pair CTy.str (CTy.sl (178:TypeId) acQ)) x5,.row false 41 (CTy.sl (2:TypeId) ai3) x6],[.row true 2 ai3 (rgV x0 x2 x3 x4 x1 x5 x6),.row true 172 abM (rgB x0 x2 x3 x4 x1 x5 x6)],[rgN x0 x2 x3 x4 x1 x5 x6]⟩
 |_,_=>none
def Ab:PF prog:=PF.alt afJ Vy (by
 intro args es o h cD;unfold Vy at h;split at h
 ·rename_i x0 x1 x2 x3 x4 x5 x6
  cases h
  have cD:=ln cD
  have hh:=aqm x0 x2 x3 x4 x1 x5 x6 cD
  obtain⟨e0,e1,e2,en⟩:=hh
  exact qy rfl (kw en) (by simp only [e0] <;> rfl) rfl (by simp only [e1,e2] <;> rfl)
 ·cases h)
abbrev vq:=Int×List Int×Int×Int
section
variable (y0:Int)(y1:List Int)
def Lq:Bool:=bif ltI y0 (↑y1.length:Int)then ltI y0 64 else false
def XH:Bool:=leI 0 y0
def XI:Bool:=ltI y0 (↑y1.length:Int)
def XJ:Bool:=ltN y0.toNat y1.length
end
def XK:Bool:=neI 2147483647 0
def XM(y0:Int):Int:=IntKind.wrap .i64 (y0 + (1:Int))
def XN(y0:Int)(y1:List Int)(y3:Int):Int:=Int.tmod (IntKind.wrap .i64 (IntKind.wrap .i64 (y3 * (59:Int)) + IntKind.wrap .i64 (Option.getD y1[Int.toNat y0]? 0))) 2147483647
def aeZ:vq→List (Nat×SV)
 |(y0,_,_,_)=> [(4,(.one ⟨false,[.val (.int .i64 y0)]⟩)),(0,(.one ⟨false,[.ref 0]⟩)),(3,(.one ⟨false,[.ptr 1 0]⟩))]
def aeT:vq→List (Nat×Entry)
 |(_,y1,y2,y3)=> [(0,(.row false 5 aj7 y1)),(1,(.box 197 [.ref 0,.val (.int .i64 y2),.val (.int .i64 y3)]))]
def afb:Nat→vq→List (Nat×SV)
 |_,(_,_,_,_)=> []
def ae5:Nat→vq→List (Nat×Entry)
 |_,(_,y1,y2,y3)=> [(0,(.row false 5 aj7 y1)),(1,(.box 197 [.ref 0,.val (.int .i64 y2),.val (.int .i64 y3)]))]
def DI:vq→LT vq
 |(y0,y1,y2,y3)=> .ite (Lq y0 y1) (.need [XH y0,XI y0 y1,XJ y0 y1,XK] (.nrm ((XM y0),y1,y2,(XN y0 y1 y3)) [(0,0),(1,1)])) (.ext 0 [(0,0),(1,1)])
def Pu(s:St):Option vq:=
 (match s.look 4 with
 |some ⟨none,.one ⟨false,[.val (.int .i64 y0)]⟩⟩=>
 (match s.look 0 with
 |some ⟨none,.one ⟨false,[.ref 0]⟩⟩=>
 (match s.look 3 with
 |some ⟨none,.one ⟨false,[.ptr 320 0]⟩⟩=>
 (match s.ent 0 with
 |some (.row false 5 (.int IntKind.u8) y1)=>
 (match s.ent 320 with
 |some (.box 197 [.ref 0,.val (.int .i64 y2),.val (.int .i64 y3)])=>
 some (y0,y1,y2,y3)
 |_=>none)
 |_=>none)
 |_=>none)
 |_=>none)
 |_=>none)
def qN:Lp vq where
 h:=⟨[8,9,10,11,12,13,14,15,18,19,20,21,22,23,24,25,26,27,28,29,30,31,32,16,17,4],[0,1],[],[]⟩
 JL:=aeZ
 JE:=aeT
 XL:=afb
 XE:=ae5
 q:=fun j=>match j with | _=> .exit 0
 tags:= [0]
 lt:=DI
 fuel:=fun(y0,y1,y2,y3)=>y0.natAbs + y1.length + y2.natAbs + y3.natAbs
 fix:=fun(_,y1,y2,_) (y0,_,_,y3)=>(y0,y1,y2,y3)
 σ:= [(0,0),(1,320)]
 rd:=Pu
theorem acW:LoopOk prog (fun k=>Nat.blt k Tryz.f106.ntmps) qN.F (aY f106 0):=by
 refine Lp.ok (tbl:= []) (lf:= []) aV qN (by kernel_rfl) (LOk.nil _) (fun _=>rfl) (fun _ _=>rfl) ?_ ?_ ?_ ?_ (fun _=>rfl) ?_
 ·rintro⟨y0,y1,y2,y3⟩;kernel_rfl
 ·rintro⟨y0,y1,y2,y3⟩;kernel_rfl
 ·intro s x h
  have h:Pu s=some x:=h
  unfold Pu at h
  repeat' split at h
  all_goals cases h
  constructor<;>repeat(first|refine ab (by assumption) rfl ?_|refine aa rfl (by assumption) rfl ?_|exact rfl)
 ·rintro⟨y0,y1,y2,y3⟩;kernel_rfl
 ·rintro⟨y0,y1,y2,y3⟩ z;exact(And.intro rfl trivial)
section
variable (x0:List Int)
def JX:Int×List Int×Int×Int:=((0:Int),x0,(0:Int),(52021:Int))
def MN:Int:=(Lp.res qN (JX x0)).2.2.2.2
def Rx:Bool:=allT [Lp.fin qN (JX x0)]
end
def abW:List SV→List Entry→Option Out
 | [.one ⟨false,[.ref 0]⟩],[.row false 5 (.int .u8) x0]=>some ⟨.one ⟨false,[.ptr 1 0]⟩,[.row false 5 aj7 x0],[.box 197 [.ref 0,.val (.int .i64 0),.val (.int .i64 (MN x0))]],[Rx x0]⟩
 |_,_=>none
def akD:PF prog:=PF.ofG prog [] [qN.F] aV 106 f106 func106 (LOk.fnT (l:= [aY f106 0]) (by kernel_rfl) (.cons acW (.nil _))) abW (by
 intro vs es r h;unfold abW at h;split at h
 ·cases h;kernel_rfl
 ·cases h)
section
variable (x0 x1 x2:Int)(x3:List Int)
def Fd:Int:=IntKind.wrap .i64 (x1 + (1:Int))
def JY:Bool:=bif leI x0 256 then Int.tmod (Fd x1) 2==0 else false
def Fe:Int:=IntKind.wrap .i64 (Fd x1 - (1:Int))
def ze:Int:=Int.tmod (IntKind.wrap .i64 (IntKind.wrap .i64 (x2 * (48271:Int)) + (29:Int))) 2147483647
def mL:Int:=bif leI x0 1 then(0:Int)else Int.tmod (bif ltI x1 (↑x3.length:Int)then bif JY x0 x1 then IntKind.wrap .i64 (Option.getD x3[Int.toNat (Fe x1)]? 0)else IntKind.wrap .i64 (IntKind.wrap .i64 (Int.tdiv (ze x2) 31) + IntKind.wrap .i64 (Option.getD x3[Int.toNat x1]? 0))else IntKind.wrap .i64 (Int.tdiv (ze x2) 31)) x0
def Ef:Int:=bif leI x0 1 then x1 else bif ltI x1 (↑x3.length:Int)then Fd x1 else x1
def Eg:Int:=bif leI x0 1 then x2 else bif ltI x1 (↑x3.length:Int)then ze x2 else ze x2
def Eh:Bool:=allT [leI x0 1||neI 2147483647 0,leI x0 1||neI 31 0,leI x0 1||(!ltI x1 (↑x3.length:Int)||leI 0 x1),leI x0 1||(!ltI x1 (↑x3.length:Int)||ltI x1 (↑x3.length:Int)),leI x0 1||(!ltI x1 (↑x3.length:Int)||ltN x1.toNat x3.length),leI x0 1||(!ltI x1 (↑x3.length:Int)||(!(leI x0 256&&true)||neI 2 0)),leI x0 1||(!ltI x1 (↑x3.length:Int)||(!JY x0 x1||leI 0 (Fe x1))),leI x0 1||(!ltI x1 (↑x3.length:Int)||(!JY x0 x1||ltI (Fe x1) (↑x3.length:Int))),leI x0 1||(!ltI x1 (↑x3.length:Int)||(!JY x0 x1||ltN (Int.toNat (Fe x1)) x3.length)),leI x0 1||neI x0 0]
end
def abX:List SV→List Entry→Option Out
 | [.one ⟨false,[.ptr 0 0]⟩,.one ⟨false,[.val (.int .i64 x0)]⟩],[.box 197 [.ref 1,.val (.int .i64 x1),.val (.int .i64 x2)],.row false 5 (.int .u8) x3]=>some ⟨.one ⟨false,[.val (.int .i64 (mL x0 x1 x2 x3))]⟩,[.box 197 [.ref 1,.val (.int .i64 (Ef x0 x1 x3)),.val (.int .i64 (Eg x0 x1 x2 x3))],.row false 5 aj7 x3],[],[Eh x0 x1 x3]⟩
 |_,_=>none
def Rd:PF prog:=PF.ofG prog [] [] aV 148 f148 func148 (fun c _=>LOk.nil c) abX (by
 intro vs es r h;unfold abX at h;split at h
 ·cases h;kernel_rfl
 ·cases h)
section
variable (x0 x1:Int)(x2 x3:List Int)
def Ry:Int:=Option.getD x2[Int.toNat (mL (↑x2.length:Int) x0 x1 x3)]? 0
def Wu:Int:=Ef (↑x2.length:Int) x0 x3
def Wv:Int:=Eg (↑x2.length:Int) x0 x1 x3
def Rz:Bool:=allT [Eh (↑x2.length:Int) x0 x3,leI 0 (mL (↑x2.length:Int) x0 x1 x3),ltI (mL (↑x2.length:Int) x0 x1 x3) (↑x2.length:Int),ltN (Int.toNat (mL (↑x2.length:Int) x0 x1 x3)) x2.length]
end
def abY:List SV→List Entry→Option Out
 | [.one ⟨false,[.ptr 0 0]⟩,.one ⟨false,[.ref 1]⟩],[.box 197 [.ref 2,.val (.int .i64 x0),.val (.int .i64 x1)],.row false 2 (.int .i64) x2,.row false 5 (.int .u8) x3]=>some ⟨.one ⟨false,[.val (.int .i64 (Ry x0 x1 x2 x3))]⟩,[.box 197 [.ref 2,.val (.int .i64 (Wu x0 x2 x3)),.val (.int .i64 (Wv x0 x1 x2 x3))],.row false 2 ai3 x2,.row false 5 aj7 x3],[],[Rz x0 x1 x2 x3]⟩
 |_,_=>none
def akE:PF prog:=PF.ofG prog (T3z [Rd]) [] aV 174 f174 func174 (fun c _=>LOk.nil c) abY (by
 intro vs es r h;unfold abY at h;split at h
 ·cases h;kernel_rfl
 ·cases h)
def aA(a s:Int)(c:List Int):Bool:=(leI 0 a&&leI a 4096)&&((leI 0 s&&ltI s 2147483647)&&(leN c.length 4096&&c.all fun x=>inR x 0 255))
theorem adF{a s:Int}{c:List Int}:aA a s c=true↔(0≤a∧a≤4096)∧(0≤s∧s < 2147483647)∧c.length≤4096∧ ∀ x∈c,0≤x∧x≤255:=by
 simp only [aA,Bool.and_eq_true,Jg,Vh,jD,List.all_eq_true,Fw]
theorem ZM{x n:Int}(h:0≤x)(hn:0 < n):0≤Int.tmod x n∧Int.tmod x n < n:=by
 rw [Int.tmod_eq_emod_of_nonneg h]
 exact⟨Int.emod_nonneg _ (by omega),Int.emod_lt_of_pos _ hn⟩
theorem aqz{code:List Int}(hb: ∀ x∈code,0≤x∧x≤255)(i:Nat):0≤(code[i]?.getD 0)∧(code[i]?.getD 0)≤255:=by
 cases h:code[i]? with
 |none=>simp
 |some x=>exact hb x (List.mem_of_getElem? h)
def nxV(n a s:Int)(c:List Int):Int:=mL n a s c
def nxA(n a:Int)(c:List Int):Int:=Ef n a c
def nxS(n a s:Int)(c:List Int):Int:=Eg n a s c
theorem ag8(n:Int){a s:Int}{code:List Int}(h:aA a s code=true):
  Eh n a code=true∧aA (nxA n a code) (nxS n a s code) code=true∧0≤nxV n a s code∧(1≤n→nxV n a s code < n):=by
 obtain⟨⟨h0,h1⟩,⟨s0,s1⟩,hn,hb⟩:=adF.1 h
 have hw1:IntKind.i64.wrap (s * 48271)=s * 48271:=bi (by omega) (by omega)
 have hw2:IntKind.i64.wrap (s * 48271 + 29)=s * 48271 + 29:=bi (by omega) (by omega)
 have hw3:IntKind.i64.wrap (a + 1)=a + 1:=bi (by omega) (by omega)
 have hw4:IntKind.i64.wrap (a + 1 - 1)=a:=by rw [bi (by omega) (by omega)];omega
 obtain⟨t0,t1⟩:=ZM (x:=s * 48271 + 29) (n:=2147483647) (by omega) (by omega)
 have hd0:0≤Int.tdiv (Int.tmod (s * 48271 + 29) 2147483647) 31:=Int.tdiv_nonneg t0 (by omega)
 have hd1:Int.tdiv (Int.tmod (s * 48271 + 29) 2147483647) 31≤2147483647:=by
  rw [Int.tdiv_eq_ediv_of_nonneg t0];omega
 have hw7:IntKind.i64.wrap (Int.tdiv (Int.tmod (s * 48271 + 29) 2147483647) 31)=Int.tdiv (Int.tmod (s * 48271 + 29) 2147483647) 31:=bi (by omega) (by omega)
 have q1:neI 2147483647 0=true:=by decide
 have q2:neI 31 0=true:=by decide
 have q3:neI 2 0=true:=by decide
 simp only [nxA,nxS,nxV]
 by_cases hq:n≤1
 ·have d:leI n 1=true:=cM hq
  refine⟨by simp [Eh,allT,d],?_,by simp [mL,d],fun h=>by simp [mL,d];omega⟩
  simp only [Ef,Eg,d,cond_true]
  exact h
 ·have d:leI n 1=false:=asw (by omega)
  have q4:neI n 0=true:=asF (by omega)
  by_cases hl:a < (code.length:Int)
  ·have dl:ltI a (code.length:Int)=true:=fv hl
   obtain⟨c0,c1⟩:=aqz hb a.toNat
   have hw5:IntKind.i64.wrap (code[a.toNat]?.getD 0)=code[a.toNat]?.getD 0:=bi (by omega) (by omega)
   have hw6:IntKind.i64.wrap (Int.tdiv (Int.tmod (s * 48271 + 29) 2147483647) 31 + code[a.toNat]?.getD 0)=Int.tdiv (Int.tmod (s * 48271 + 29) 2147483647) 31 + code[a.toNat]?.getD 0:=bi (by omega) (by omega)
   have dn:ltN a.toNat code.length=true:=gM (by omega)
   have dz:leI 0 a=true:=cM h0
   have hwa:IntKind.i64.wrap a=a:=bi (by omega) (by omega)
   refine⟨?_,?_,?_⟩
   ·simp [Eh,Fd,Fe,allT,d,dl,dn,hw3,hw4,hwa,dz,q1,q2,q3,q4]
   ·simp only [Ef,Eg,Fd,ze,d,dl,cond_true,cond_false,hw1,hw2,hw3]
    exact adF.2 ⟨⟨by omega,by omega⟩,⟨t0,t1⟩,hn,hb⟩
   ·simp only [mL,JY,Fe,Fd,ze,d,dl,cond_true,cond_false,hw1,hw2,hw3,hw4,hw5,hw7,hw6]
    cases (bif leI n 256 then Int.tmod (a + 1) 2==0 else false)with
    |true=>
     obtain⟨m0,m1⟩:=ZM (x:=code[a.toNat]?.getD 0) (n:=n) c0 (by omega)
     exact⟨m0,fun _=>m1⟩
    |false=>
     obtain⟨m0,m1⟩:=ZM (x:=Int.tdiv (Int.tmod (s * 48271 + 29) 2147483647) 31 + code[a.toNat]?.getD 0) (n:=n) (by omega) (by omega)
     exact⟨m0,fun _=>m1⟩
  ·have dl:ltI a (code.length:Int)=false:=NM (by omega)
   refine⟨?_,?_,?_⟩
   ·simp [Eh,allT,d,dl,q1,q2,q4]
   ·simp only [Ef,Eg,ze,d,dl,cond_false,hw1,hw2]
    exact adF.2 ⟨⟨h0,h1⟩,⟨t0,t1⟩,hn,hb⟩
   ·simp only [mL,ze,d,dl,cond_false,hw1,hw2,hw7]
    obtain⟨m0,m1⟩:=ZM (x:=Int.tdiv (Int.tmod (s * 48271 + 29) 2147483647) 31) (n:=n) hd0 (by omega)
    exact⟨m0,fun _=>m1⟩
theorem aja(x0 x1 x2:Int)(x3:List Int)(h:aA x1 x2 x3=true):mL x0 x1 x2 x3=nxV x0 x1 x2 x3∧Ef x0 x1 x3=nxA x0 x1 x3∧Eg x0 x1 x2 x3=nxS x0 x1 x2 x3∧Eh x0 x1 x3=true:=⟨rfl,rfl,rfl,(ag8 x0 h).1⟩
def acq:List SV→List Entry→Option Out
 | [.one ⟨false,[.ptr 0 0]⟩,.one ⟨false,[.val (.int .i64 x0)]⟩],[.box 197 [.ref 1,.val (.int .i64 x1),.val (.int .i64 x2)],.row false 5 (.int .u8) x3]=>some ⟨.one ⟨false,[.val (.int .i64 (nxV x0 x1 x2 x3))]⟩,[.box 197 [.ref 1,.val (.int .i64 (nxA x0 x1 x3)),.val (.int .i64 (nxS x0 x1 x2 x3))],.row false 5 aj7 x3],[],[aA x1 x2 x3]⟩
 |_,_=>none
def af:PF prog:=PF.alt Rd acq (by
 intro args es o h cD;unfold acq at h;split at h
 ·rename_i x0 x1 x2 x3
  cases h
  have cD:=ln cD
  have hh:=aja x0 x1 x2 x3 cD
  obtain⟨e0,e1,e2,en⟩:=hh
  exact qy rfl (kw en) (by simp only [e0] <;> rfl) (by simp only [e1,e2] <;> rfl) rfl
 ·cases h)
def pkV(a s:Int)(l c:List Int):Int:=Ry a s l c
def pkA(a:Int)(l c:List Int):Int:=Wu a l c
def pkS(a s:Int)(l c:List Int):Int:=Wv a s l c
theorem apL{a s:Int}{l code:List Int}(h:(aA a s code&&leN 1 l.length)=true):
  Rz a s l code=true∧aA (pkA a l code) (pkS a s l code) code=true∧pkV a s l code∈l:=by
 simp only [Bool.and_eq_true,jD]at h
 obtain⟨n3,n1,n0,nl⟩:=ag8 (l.length:Int) h.1
 have nl:=nl (by omega)
 simp only [nxV]at n0 nl
 refine⟨?_,n1,?_⟩
 ·have t1:leI 0 (mL (l.length:Int) a s code)=true:=cM n0
  have t2:ltI (mL (l.length:Int) a s code) (l.length:Int)=true:=fv nl
  have t3:ltN (mL (l.length:Int) a s code).toNat l.length=true:=gM (by omega)
  simp only [Rz,allT,n3,t1,t2,t3,cond_true]
 ·have gV:(mL (l.length:Int) a s code).toNat < l.length:=by omega
  simp only [pkV,Ry,List.getElem?_eq_getElem gV,Option.getD_some]
  exact List.getElem_mem gV
theorem ajb(x0 x1:Int)(x2 x3:List Int)(h:(aA x0 x1 x3&&leN 1 x2.length)=true):Ry x0 x1 x2 x3=pkV x0 x1 x2 x3∧Wu x0 x2 x3=pkA x0 x2 x3∧Wv x0 x1 x2 x3=pkS x0 x1 x2 x3∧Rz x0 x1 x2 x3=true:=⟨rfl,rfl,rfl,(apL h).1⟩
def acr:List SV→List Entry→Option Out
 | [.one ⟨false,[.ptr 0 0]⟩,.one ⟨false,[.ref 1]⟩],[.box 197 [.ref 2,.val (.int .i64 x0),.val (.int .i64 x1)],.row false 2 (.int .i64) x2,.row false 5 (.int .u8) x3]=>some ⟨.one ⟨false,[.val (.int .i64 (pkV x0 x1 x2 x3))]⟩,[.box 197 [.ref 2,.val (.int .i64 (pkA x0 x2 x3)),.val (.int .i64 (pkS x0 x1 x2 x3))],.row false 2 ai3 x2,.row false 5 aj7 x3],[],[aA x0 x1 x3&&leN 1 x2.length]⟩
 |_,_=>none
def cn:PF prog:=PF.alt akE acr (by
 intro args es o h cD;unfold acr at h;split at h
 ·rename_i x0 x1 x2 x3
  cases h
  have cD:=ln cD
  have hh:=ajb x0 x1 x2 x3 cD
  obtain⟨e0,e1,e2,en⟩:=hh
  exact qy rfl (kw en) (by simp only [e0] <;> rfl) (by simp only [e1,e2] <;> rfl) rfl
 ·cases h)
def ap4(b:Int)(a:Nat×Int):Nat ⊕ (Nat×Int):=bif decide (a.1 < 64)then .inr (a.1 + 1,Int.tmod (a.2 * 59 + b) 2147483647)else .inl 0
def frS(c:List Int):Int:=MN c
theorem apy(code:List Int)(h:aA 0 0 code=true):Rx code=true∧aA 0 (frS code) code=true:=by
 obtain⟨_,_,hn,hb⟩:=adF.1 h
 have oi:=adC (lt:=DI) (fun i (a:Nat×Int)=>((i:Int),code,(0:Int),a.2)) ap4 0 (fun i a=>a.1=i∧0≤a.2∧a.2 < 2147483647) code (fun i b a he hI=>⟨?_,fun a' hf=> ?_⟩) (fun a hI=> ?_) code 0 (0,52021) rfl (by simp) (by decide)
 ·have hres:=qN.run oi (aoS (by simp only [qN];omega))
  have r1:qN.fin ((0:Int),code,(0:Int),(52021:Int))=true:=hres.1
  have r2:qN.res ((0:Int),code,(0:Int),(52021:Int))=_:=hres.2
  have inv: ∀ (r:List Int) (i:Nat) (a:Nat×Int),(∀ x∈r,0≤x∧x≤255)→0≤a.2∧a.2 < 2147483647→0≤(bc ap4 0 r i a).2.2.2∧(bc ap4 0 r i a).2.2.2 < 2147483647:=by
   intro r
   induction r with
   |nil=>intro i a _ h;exact h
   |cons b r ih=>
    intro i a hx h
    simp only [bc,ap4]
    cases decide (a.1 < 64)with
    |false=>exact h
    |true=>
     have hb:=hx b (by simp)
     exact ih _ _ (fun x hm=>hx x (by simp [hm])) (ZM (by omega) (by omega))
  obtain⟨q0,q1⟩:=inv code 0 (0,52021) hb (by decide)
  refine⟨by simp [Rx,JX,allT,r1],adF.2 ⟨by decide,⟨?_,?_⟩,hn,hb⟩⟩
  ·simp only [frS,MN,JX,r2];exact q0
  ·simp only [frS,MN,JX,r2];exact q1
 ·obtain⟨gV,he⟩:=List.getElem?_eq_some_iff.1 he
  subst he
  obtain⟨h1,h2,h3⟩:=hI
  have hw:=yJ gV (by omega)
  obtain⟨c0,c1⟩:=hb code[i] (List.getElem_mem gV)
  have hw1:IntKind.i64.wrap (a.2 * 59)=a.2 * 59:=bi (by omega) (by omega)
  have hw2:IntKind.i64.wrap code[i]=code[i]:=bi (by omega) (by omega)
  have hw3:IntKind.i64.wrap (a.2 * 59 + code[i])=a.2 * 59 + code[i]:=bi (by omega) (by omega)
  have q1:neI 2147483647 0=true:=by decide
  have q2:ltI (i:Int) (code.length:Int)=true:=fv (by omega)
  have q3:leI 0 (i:Int)=true:=cM (by omega)
  have q4:ltN i code.length=true:=gM gV
  simp only [ap4,h1]
  by_cases h64:i < 64
  ·have d:decide (i < 64)=true:=decide_eq_true h64
   have d':ltI (i:Int) 64=true:=fv (by omega)
   simp [DI,LT.out,allT,Lq,XH,XI,XJ,XK,XM,XN,gV,hw,d,d',hw1,hw2,hw3,q1,q2,q3,q4]
  ·have d:decide (i < 64)=false:=decide_eq_false h64
   have d':ltI (i:Int) 64=false:=NM (by omega)
   simp [DI,LT.out,Lq,d,d']
 ·simp only [ap4]at hf
  obtain⟨h1,h2,h3⟩:=hI
  obtain⟨c0,c1⟩:=hb b (List.mem_of_getElem? he)
  cases hd:decide (a.1 < 64)with
  |false=>rw [hd]at hf;cases hf
  |true=>
   rw [hd]at hf
   simp only [cond_true,Sum.inr.injEq]at hf
   subst hf
   obtain⟨m0,m1⟩:=ZM (x:=a.2 * 59 + b) (n:=2147483647) (by omega) (by omega)
   exact⟨by simp [h1],m0,m1⟩
 ·simp [DI,LT.out,Lq]
theorem ai9(x0:List Int)(h:aA 0 0 x0=true):MN x0=frS x0∧Rx x0=true:=⟨rfl,(apy x0 h).1⟩
def acp:List SV→List Entry→Option Out
 | [.one ⟨false,[.ref 0]⟩],[.row false 5 (.int .u8) x0]=>some ⟨.one ⟨false,[.ptr 1 0]⟩,[.row false 5 aj7 x0],[.box 197 [.ref 0,.val (.int .i64 0),.val (.int .i64 (frS x0))]],[aA 0 0 x0]⟩
 |_,_=>none
def VZ:PF prog:=PF.alt akD acp (by
 intro args es o h cD;unfold acp at h;split at h
 ·rename_i x0
  cases h
  have cD:=ln cD
  have hh:=ai9 x0 cD
  obtain⟨e0,en⟩:=hh
  exact qy rfl (kw en) rfl rfl (by simp only [e0] <;> rfl)
 ·cases h)
def PF.never{P:Program}(k:FuncId)(F:List SV→List Entry→Option Out)(h: ∀ args es o,F args es=some o→false∈o.nd):PF P where
 k:=k
 F:=F
 ok:=fun args es o ho cD=>absurd (cD _ (h args es o ho)) (by simp)
def Tw:List SV→List Entry→Option Out
 | [.one ⟨false,[.ptr 0 0]⟩,.one ⟨false,[.ref 1]⟩,.one ⟨false,[.val (.int .i64 _)]⟩],[.box 197 [.ref 2,.val (.int .i64 x1),.val (.int .i64 x2)],.row false 9 (.str) x3,.row false 5 (.int .u8) x4]=>
  some ⟨.one ⟨false,[.ref 3]⟩,[.box 197 [.ref 2,.val (.int .i64 x1),.val (.int .i64 x2)],.row false 9 (.str) x3,.row false 5 (.int .u8) x4],[.row true 178 (.pair (.int .i64) (.pair (.str) (.int .i64))) []],[false]⟩
 |_,_=>none
def MF:PF prog:=PF.never 210 Tw (by
 intro args es o h;unfold Tw at h;split at h
 ·cases h;exact List.mem_singleton.2 rfl
 ·cases h)
def abV:List SV→List Entry→Option Out
 | [.one ⟨false,[.val (.int .i64 _)]⟩],[]=>some ⟨.one ⟨false,[.val (.string ⟨#[]⟩)]⟩,[],[],[false]⟩
 |_,_=>none
def akC:PF prog:=PF.never 221 abV (by
 intro args es o h;unfold abV at h;split at h
 ·cases h;exact List.mem_singleton.2 rfl
 ·cases h)
section
variable (x0 x1 x2:Int)(x3:List ByteArray)(x4:List Int)
def bM:Bool:=bif x0==0 then true else nxV 4 x1 x2 x4==0
def EJ:Bool:= !x0==0&&true
def er:Int:=bif EJ x0 then nxA 4 x1 x4 else x1
def rV:Int:=bif EJ x0 then nxS 4 x1 x2 x4 else x2
def Sn:Int:=nxV 12 (er x0 x1 x4) (rV x0 x1 x2 x4) x4
def na:Bool:=Sn x0 x1 x2 x4==0
def nb:Bool:=Sn x0 x1 x2 x4==1
def nc:Int:=pkV (er x0 x1 x4) (rV x0 x1 x2 x4) [(4:Int),(5:Int),(6:Int),(5:Int),(6:Int),(7:Int),(8:Int),(9:Int),(10:Int),(11:Int),(12:Int)] x4
def gw:Bool:=jh (nc x0 x1 x2 x4)==2
def zD:Int:=pkA (er x0 x1 x4) [(4:Int),(5:Int),(6:Int),(5:Int),(6:Int),(7:Int),(8:Int),(9:Int),(10:Int),(11:Int),(12:Int)] x4
def RC:Int:=bif ag (nc x0 x1 x2 x4)then nxA 4 (zD x0 x1 x4) x4 else zD x0 x1 x4
def ut:Int:=nxS 12 (er x0 x1 x4) (rV x0 x1 x2 x4) x4
def CR:Int:=pkS (er x0 x1 x4) (rV x0 x1 x2 x4) [(4:Int),(5:Int),(6:Int),(5:Int),(6:Int),(7:Int),(8:Int),(9:Int),(10:Int),(11:Int),(12:Int)] x4
def RD:Int:=bif ag (nc x0 x1 x2 x4)then nxS 4 (zD x0 x1 x4) (CR x0 x1 x2 x4) x4 else CR x0 x1 x2 x4
def yq:Int:=nxV (↑x3.length:Int) (nxA 12 (er x0 x1 x4) x4) (ut x0 x1 x2 x4) x4
def CS:List (Int×ByteArray×Int):= [(bif ag (nc x0 x1 x2 x4)then nc x0 x1 x2 x4 else nc x0 x1 x2 x4,bif ag (nc x0 x1 x2 x4)then ByteArray.mk #[]else ByteArray.mk #[],bif ag (nc x0 x1 x2 x4)then nxV 4 (zD x0 x1 x4) (CR x0 x1 x2 x4) x4 else(0:Int))]
def RE:Bool:= !ag (nc x0 x1 x2 x4)||aA (zD x0 x1 x4) (CR x0 x1 x2 x4) x4
def RF:Bool:=leN (0 + List.length (CS x0 x1 x2 x4)) 9223372036854775807
def RG:Bool:=leN ((0 + List.length (CS x0 x1 x2 x4)) * 32) 140737488355328
def xf:Int:=bif bM x0 x1 x2 x4 then bif na x0 x1 x2 x4 then nxA 12 (er x0 x1 x4) x4 else bif nb x0 x1 x2 x4 then nxA 12 (er x0 x1 x4) x4 else nxA (↑x3.length:Int) (nxA 12 (er x0 x1 x4) x4) x4 else bif gw x0 x1 x2 x4 then RC x0 x1 x2 x4 else RC x0 x1 x2 x4
def xg:Int:=bif bM x0 x1 x2 x4 then bif na x0 x1 x2 x4 then ut x0 x1 x2 x4 else bif nb x0 x1 x2 x4 then ut x0 x1 x2 x4 else nxS (↑x3.length:Int) (nxA 12 (er x0 x1 x4) x4) (ut x0 x1 x2 x4) x4 else bif gw x0 x1 x2 x4 then RD x0 x1 x2 x4 else RD x0 x1 x2 x4
def xh:List (Int×(ByteArray×Int)):=bif bM x0 x1 x2 x4 then bif na x0 x1 x2 x4 then [((2:Int),ByteArray.mk #[],(0:Int))]else bif nb x0 x1 x2 x4 then [((3:Int),ByteArray.mk #[],(0:Int))]else [((1:Int),Option.getD x3[Int.toNat (yq x0 x1 x2 x3 x4)]? ByteArray.empty,(0:Int))]else bif gw x0 x1 x2 x4 then CS x0 x1 x2 x4 else CS x0 x1 x2 x4
def MU:Bool:=allT [!EJ x0||aA x1 x2 x4,!bM x0 x1 x2 x4||aA (er x0 x1 x4) (rV x0 x1 x2 x4) x4,!bM x0 x1 x2 x4||(na x0 x1 x2 x4||(nb x0 x1 x2 x4||aA (nxA 12 (er x0 x1 x4) x4) (ut x0 x1 x2 x4) x4)),!bM x0 x1 x2 x4||(na x0 x1 x2 x4||(nb x0 x1 x2 x4||leI 0 (yq x0 x1 x2 x3 x4))),!bM x0 x1 x2 x4||(na x0 x1 x2 x4||(nb x0 x1 x2 x4||ltI (yq x0 x1 x2 x3 x4) (↑x3.length:Int))),!bM x0 x1 x2 x4||(na x0 x1 x2 x4||(nb x0 x1 x2 x4||ltN (Int.toNat (yq x0 x1 x2 x3 x4)) x3.length)),bM x0 x1 x2 x4||aA (er x0 x1 x4) (rV x0 x1 x2 x4) x4&&leN 1 (List.length [(4:Int),(5:Int),(6:Int),(5:Int),(6:Int),(7:Int),(8:Int),(9:Int),(10:Int),(11:Int),(12:Int)]),bM x0 x1 x2 x4||false,bM x0 x1 x2 x4||(!gw x0 x1 x2 x4||false),bM x0 x1 x2 x4||(!gw x0 x1 x2 x4||leN (0 + 0) 9223372036854775807),bM x0 x1 x2 x4||(!gw x0 x1 x2 x4||leN ((0 + 0) * 32) 140737488355328),bM x0 x1 x2 x4||(!gw x0 x1 x2 x4||RE x0 x1 x2 x4),bM x0 x1 x2 x4||(!gw x0 x1 x2 x4||RF x0 x1 x2 x4),bM x0 x1 x2 x4||(!gw x0 x1 x2 x4||RG x0 x1 x2 x4),bM x0 x1 x2 x4||(gw x0 x1 x2 x4||RE x0 x1 x2 x4),bM x0 x1 x2 x4||(gw x0 x1 x2 x4||RF x0 x1 x2 x4),bM x0 x1 x2 x4||(gw x0 x1 x2 x4||RG x0 x1 x2 x4)]
end
def Tt:List SV→List Entry→Option Out
 | [.one ⟨false,[.ptr 0 0]⟩,.one ⟨false,[.ref 1]⟩,.one ⟨false,[.val (.int .i64 x0)]⟩],[.box 197 [.ref 2,.val (.int .i64 x1),.val (.int .i64 x2)],.row false 9 (.str) x3,.row false 5 (.int .u8) x4]=>some ⟨.one ⟨false,[.ref 3]⟩,[.box 197 [.ref 2,.val (.int .i64 (xf x0 x1 x2 x3 x4)),.val (.int .i64 (xg x0 x1 x2 x3 x4))],.row false 9 alP x3,.row false 5 aj7 x4],[.row true 178 acQ (xh x0 x1 x2 x3 x4)],[MU x0 x1 x2 x3 x4]⟩
 |_,_=>none
def ada:PF prog:=PF.ofG prog (T3z [af,cn,tN,HN,MF]) [] aV 210 f210 func210 (fun c _=>LOk.nil c) Tt (by
 intro vs es r h;unfold Tt at h;split at h
 ·cases h;kernel_rfl
 ·cases h)
def anJ(ns:List ByteArray):Bool:=leN 1 ns.length&&(leN ns.length 1000&&ns.all fun s=>leN s.size 1000)
def dtN(k d a s:Int)(ns:List ByteArray)(c:List Int):Bool:=(leI 0 d&&leI d k)&&(aA a s c&&anJ ns)
def dtL(n:Nat)(ts:List TM):Prop:=1≤ts.length∧ts.length≤n∧ ∀ t∈ts,t.2.1.size≤1000
theorem OH{k d a s:Int}{ns:List ByteArray}{c:List Int}:dtN k d a s ns c=true↔(0≤d∧d≤k)∧aA a s c=true∧anJ ns=true:=by
 simp only [dtN,Bool.and_eq_true,Jg]
theorem ZA{ns:List ByteArray}:anJ ns=true↔1≤ns.length∧ns.length≤1000∧ ∀ s∈ns,s.size≤1000:=by
 simp only [anJ,Bool.and_eq_true,jD,List.all_eq_true]
theorem jJ{n a s:Int}{c:List Int}(h:aA a s c=true):aA (nxA n a c) (nxS n a s c) c=true:=(ag8 n h).2.1
theorem PX{a s x:Int}{l c:List Int}(h:aA a s c=true):aA (pkA a (x::l) c) (pkS a s (x::l) c) c=true:=(apL (l:=x::l) (by rw [h];rfl)).2.1
theorem ac7{C:Type}(x:C)(l:List C):leN 1 (x::l).length=true:=ci (by simp)
theorem Ln{n a s:Int}{c:List Int}(h:aA a s c=true)(hn:1≤n):0≤nxV n a s c∧nxV n a s c < n:=⟨(ag8 n h).2.2.1,(ag8 n h).2.2.2 hn⟩
theorem pE{t:Bool}{a a' s s':Int}{c:List Int}(h:aA a s c=true)(h':aA a' s' c=true):aA (bif t then a else a') (bif t then s else s') c=true:=by cases t <;> assumption
theorem amM{ns:List ByteArray}{i:Int}(hn:anJ ns=true)(d:ByteArray)(h0:0≤i)(h1:i < ns.length):(Option.getD ns[i.toNat]? d).size≤1000:=by
 have gV:i.toNat < ns.length:=by omega
 rw [List.getElem?_eq_getElem gV]
 exact(ZA.1 hn).2.2 _ (List.getElem_mem gV)
theorem aoC(d a s:Int)(ns:List ByteArray)(c:List Int)(h:dtN 0 d a s ns c=true):
  MU d a s ns c=true∧aA (xf d a s ns c) (xg d a s ns c) c=true∧dtL 1 (xh d a s ns c):=by
 obtain⟨⟨h0,h1⟩,hs,hn⟩:=OH.1 h
 have hd:d=0:=by omega
 subst hd
 obtain⟨n1,n2,n3⟩:=ZA.1 hn
 have a0:bM 0 a s c=true:=rfl
 have a1:EJ 0=false:=rfl
 have a2:er 0 a c=a:=rfl
 have a3:rV 0 a s c=s:=rfl
 have a11:ut 0 a s c=nxS 12 a s c:=rfl
 have hs2:aA (nxA 12 a c) (nxS 12 a s c) c=true:=jJ hs
 have a14:yq 0 a s ns c=nxV (ns.length:Int) (nxA 12 a c) (nxS 12 a s c) c:=rfl
 obtain⟨i0,i1⟩:=Ln (n:=(ns.length:Int)) hs2 (by omega)
 have j0:=cM i0
 have j1:=fv i1
 have j2:ltN (nxV (ns.length:Int) (nxA 12 a c) (nxS 12 a s c) c).toNat ns.length=true:=gM (by omega)
 refine⟨?_,?_,?_⟩
 ·simp only [MU,a0,a1,a2,a3,a11,a14,hs,hs2,j0,j1,j2,allT,Bool.true_or,Bool.or_true,Bool.not_true,Bool.not_false,Bool.false_or,cond_true]
  all_goals simp
 ·simp only [xf,xg,a0,a2,a11,cond_true]
  cases na 0 a s c
  ·cases nb 0 a s c
   ·exact jJ hs2
   ·exact hs2
  ·exact hs2
 ·simp only [xh,a0,a14,cond_true]
  cases na 0 a s c
  ·cases nb 0 a s c
   ·refine⟨by simp,by simp,fun t ht=> ?_⟩
    rw [cond_false,cond_false,List.mem_singleton]at ht
    subst ht
    exact amM hn _ i0 i1
   ·exact⟨by simp,by simp,fun t ht=>by rw [cond_false,cond_true,List.mem_singleton]at ht;subst ht;exact Nat.zero_le _⟩
  ·exact⟨by simp,by simp,fun t ht=>by rw [cond_true,List.mem_singleton]at ht;subst ht;exact Nat.zero_le _⟩
theorem Jd{n:Nat}{k m:Int}{s:ByteArray}(h:s.size≤1000):dtL (n + 1) [(k,s,m)]:=
 ⟨by simp,by simp,fun t ht=>by rw [List.mem_singleton]at ht;subst ht;exact h⟩
theorem Vd{n m k:Nat}{a b:List TM}(h1:dtL n a)(h2:dtL m b)(h:n + m≤k):dtL k (a++b):=by
 obtain⟨p1,p2,p3⟩:=h1
 obtain⟨q1,q2,q3⟩:=h2
 refine⟨by rw [List.length_append];omega,by rw [List.length_append];omega,fun t ht=> ?_⟩
 rcases List.mem_append.1 ht with h | h
 ·exact p3 t h
 ·exact q3 t h
def TB:List SV→List Entry→Option Out
 | [.one ⟨false,[.ptr 0 0]⟩,.one ⟨false,[.ref 1]⟩,.one ⟨false,[.val (.int .i64 x0)]⟩],[.box 197 [.ref 2,.val (.int .i64 x1),.val (.int .i64 x2)],.row false 9 (.str) x3,.row false 5 (.int .u8) x4]=>some ⟨.one ⟨false,[.ref 3]⟩,[.box 197 [.ref 2,.val (.int .i64 (xf x0 x1 x2 x3 x4)),.val (.int .i64 (xg x0 x1 x2 x3 x4))],.row false 9 alP x3,.row false 5 aj7 x4],[.row true 178 acQ (xh x0 x1 x2 x3 x4)],[dtN 0 x0 x1 x2 x3 x4]⟩
 |_,_=>none
def MA:PF prog:=PF.alt ada TB (by
 intro args es o h cD;unfold TB at h;split at h
 ·rename_i x0 x1 x2 x3 x4
  cases h
  have cD:=ln cD
  have hh:=(aoC x0 x1 x2 x3 x4 cD).1
  have en:=hh
  exact qy rfl (kw en) rfl rfl rfl
 ·cases h)
section
variable (x0 x1 x2:Int)(x3:List ByteArray)(x4:List Int)
def bN:Bool:=bif x0==0 then true else nxV 4 x1 x2 x4==0
def KN:Bool:= !x0==0&&true
def dS:Int:=bif KN x0 then nxA 4 x1 x4 else x1
def rW:Int:=bif KN x0 then nxS 4 x1 x2 x4 else x2
def So:Int:=nxV 12 (dS x0 x1 x4) (rW x0 x1 x2 x4) x4
def ne:Bool:=So x0 x1 x2 x4==0
def nf:Bool:=So x0 x1 x2 x4==1
def dU:Int:=pkV (dS x0 x1 x4) (rW x0 x1 x2 x4) [(4:Int),(5:Int),(6:Int),(5:Int),(6:Int),(7:Int),(8:Int),(9:Int),(10:Int),(11:Int),(12:Int)] x4
def et:Bool:=jh (dU x0 x1 x2 x4)==2
def jv:Int:=IntKind.wrap .i64 (x0 - (1:Int))
def uu:Int:=pkA (dS x0 x1 x4) [(4:Int),(5:Int),(6:Int),(5:Int),(6:Int),(7:Int),(8:Int),(9:Int),(10:Int),(11:Int),(12:Int)] x4
def uv:Int:=pkS (dS x0 x1 x4) (rW x0 x1 x2 x4) [(4:Int),(5:Int),(6:Int),(5:Int),(6:Int),(7:Int),(8:Int),(9:Int),(10:Int),(11:Int),(12:Int)] x4
def iE:Int:=xf (jv x0) (uu x0 x1 x4) (uv x0 x1 x2 x4) x3 x4
def jY:Int:=xg (jv x0) (uu x0 x1 x4) (uv x0 x1 x2 x4) x3 x4
def uw:Int:=xf (jv x0) (iE x0 x1 x2 x3 x4) (jY x0 x1 x2 x3 x4) x3 x4
def ux:Int:=nxS 12 (dS x0 x1 x4) (rW x0 x1 x2 x4) x4
def yt:Int:=xg (jv x0) (iE x0 x1 x2 x3 x4) (jY x0 x1 x2 x3 x4) x3 x4
def qV:Int:=nxV (↑x3.length:Int) (nxA 12 (dS x0 x1 x4) x4) (ux x0 x1 x2 x4) x4
def iF:List (Int×ByteArray×Int):=xh (jv x0) (uu x0 x1 x4) (uv x0 x1 x2 x4) x3 x4
def uy:List (Int×ByteArray×Int):=xh (jv x0) (iE x0 x1 x2 x3 x4) (jY x0 x1 x2 x3 x4) x3 x4
def uz:List (Int×ByteArray×Int):=iF x0 x1 x2 x3 x4++uy x0 x1 x2 x3 x4
def RH:Int:=bif ag (dU x0 x1 x2 x4)then dU x0 x1 x2 x4 else dU x0 x1 x2 x4
def CT:ByteArray:=bif ag (dU x0 x1 x2 x4)then ByteArray.mk #[]else ByteArray.mk #[]
def uA:List (Int×ByteArray×Int):= [(RH x0 x1 x2 x4,CT x0 x1 x2 x4,bif ag (dU x0 x1 x2 x4)then nxV 4 (uw x0 x1 x2 x3 x4) (yt x0 x1 x2 x3 x4) x4 else(0:Int))]
def uB:List (Int×ByteArray×Int):= [(RH x0 x1 x2 x4,CT x0 x1 x2 x4,bif ag (dU x0 x1 x2 x4)then nxV 4 (iE x0 x1 x2 x3 x4) (jY x0 x1 x2 x3 x4) x4 else(0:Int))]
def tj:Int:=bif bN x0 x1 x2 x4 then bif ne x0 x1 x2 x4 then nxA 12 (dS x0 x1 x4) x4 else bif nf x0 x1 x2 x4 then nxA 12 (dS x0 x1 x4) x4 else nxA (↑x3.length:Int) (nxA 12 (dS x0 x1 x4) x4) x4 else bif et x0 x1 x2 x4 then bif ag (dU x0 x1 x2 x4)then nxA 4 (uw x0 x1 x2 x3 x4) x4 else uw x0 x1 x2 x3 x4 else bif ag (dU x0 x1 x2 x4)then nxA 4 (iE x0 x1 x2 x3 x4) x4 else iE x0 x1 x2 x3 x4
def tn:Int:=bif bN x0 x1 x2 x4 then bif ne x0 x1 x2 x4 then ux x0 x1 x2 x4 else bif nf x0 x1 x2 x4 then ux x0 x1 x2 x4 else nxS (↑x3.length:Int) (nxA 12 (dS x0 x1 x4) x4) (ux x0 x1 x2 x4) x4 else bif et x0 x1 x2 x4 then bif ag (dU x0 x1 x2 x4)then nxS 4 (uw x0 x1 x2 x3 x4) (yt x0 x1 x2 x3 x4) x4 else yt x0 x1 x2 x3 x4 else bif ag (dU x0 x1 x2 x4)then nxS 4 (iE x0 x1 x2 x3 x4) (jY x0 x1 x2 x3 x4) x4 else jY x0 x1 x2 x3 x4
def tp:List (Int×(ByteArray×Int)):=bif bN x0 x1 x2 x4 then bif ne x0 x1 x2 x4 then [((2:Int),ByteArray.mk #[],(0:Int))]else bif nf x0 x1 x2 x4 then [((3:Int),ByteArray.mk #[],(0:Int))]else [((1:Int),Option.getD x3[Int.toNat (qV x0 x1 x2 x3 x4)]? ByteArray.empty,(0:Int))]else bif et x0 x1 x2 x4 then uz x0 x1 x2 x3 x4++uA x0 x1 x2 x3 x4 else iF x0 x1 x2 x3 x4++uB x0 x1 x2 x3 x4
def FN:Bool:=allT [!KN x0||aA x1 x2 x4,!bN x0 x1 x2 x4||aA (dS x0 x1 x4) (rW x0 x1 x2 x4) x4,!bN x0 x1 x2 x4||(ne x0 x1 x2 x4||(nf x0 x1 x2 x4||aA (nxA 12 (dS x0 x1 x4) x4) (ux x0 x1 x2 x4) x4)),!bN x0 x1 x2 x4||(ne x0 x1 x2 x4||(nf x0 x1 x2 x4||leI 0 (qV x0 x1 x2 x3 x4))),!bN x0 x1 x2 x4||(ne x0 x1 x2 x4||(nf x0 x1 x2 x4||ltI (qV x0 x1 x2 x3 x4) (↑x3.length:Int))),!bN x0 x1 x2 x4||(ne x0 x1 x2 x4||(nf x0 x1 x2 x4||ltN (Int.toNat (qV x0 x1 x2 x3 x4)) x3.length)),bN x0 x1 x2 x4||aA (dS x0 x1 x4) (rW x0 x1 x2 x4) x4&&leN 1 (List.length [(4:Int),(5:Int),(6:Int),(5:Int),(6:Int),(7:Int),(8:Int),(9:Int),(10:Int),(11:Int),(12:Int)]),bN x0 x1 x2 x4||dtN 0 (jv x0) (uu x0 x1 x4) (uv x0 x1 x2 x4) x3 x4,bN x0 x1 x2 x4||(!et x0 x1 x2 x4||dtN 0 (jv x0) (iE x0 x1 x2 x3 x4) (jY x0 x1 x2 x3 x4) x3 x4),bN x0 x1 x2 x4||(!et x0 x1 x2 x4||leN (List.length (iF x0 x1 x2 x3 x4) + List.length (uy x0 x1 x2 x3 x4)) 9223372036854775807),bN x0 x1 x2 x4||(!et x0 x1 x2 x4||leN ((List.length (iF x0 x1 x2 x3 x4) + List.length (uy x0 x1 x2 x3 x4)) * 32) 140737488355328),bN x0 x1 x2 x4||(!et x0 x1 x2 x4||(!ag (dU x0 x1 x2 x4)||aA (uw x0 x1 x2 x3 x4) (yt x0 x1 x2 x3 x4) x4)),bN x0 x1 x2 x4||(!et x0 x1 x2 x4||leN (List.length (uz x0 x1 x2 x3 x4) + List.length (uA x0 x1 x2 x3 x4)) 9223372036854775807),bN x0 x1 x2 x4||(!et x0 x1 x2 x4||leN ((List.length (uz x0 x1 x2 x3 x4) + List.length (uA x0 x1 x2 x3 x4)) * 32) 140737488355328),bN x0 x1 x2 x4||(et x0 x1 x2 x4||(!ag (dU x0 x1 x2 x4)||aA (iE x0 x1 x2 x3 x4) (jY x0 x1 x2 x3 x4) x4)),bN x0 x1 x2 x4||(et x0 x1 x2 x4||leN (List.length (iF x0 x1 x2 x3 x4) + List.length (uB x0 x1 x2 x3 x4)) 9223372036854775807),bN x0 x1 x2 x4||(et x0 x1 x2 x4||leN ((List.length (iF x0 x1 x2 x3 x4) + List.length (uB x0 x1 x2 x3 x4)) * 32) 140737488355328)]
end
def Tu:List SV→List Entry→Option Out
 | [.one ⟨false,[.ptr 0 0]⟩,.one ⟨false,[.ref 1]⟩,.one ⟨false,[.val (.int .i64 x0)]⟩],[.box 197 [.ref 2,.val (.int .i64 x1),.val (.int .i64 x2)],.row false 9 (.str) x3,.row false 5 (.int .u8) x4]=>some ⟨.one ⟨false,[.ref 3]⟩,[.box 197 [.ref 2,.val (.int .i64 (tj x0 x1 x2 x3 x4)),.val (.int .i64 (tn x0 x1 x2 x3 x4))],.row false 9 alP x3,.row false 5 aj7 x4],[.row true 178 acQ (tp x0 x1 x2 x3 x4)],[FN x0 x1 x2 x3 x4]⟩
 |_,_=>none
def adb:PF prog:=PF.ofG prog (T3z [af,cn,tN,HN,MA]) [] aV 210 f210 func210 (fun c _=>LOk.nil c) Tu (by
 intro vs es r h;unfold Tu at h;split at h
 ·cases h;kernel_rfl
 ·cases h)
theorem aoD(d a s:Int)(ns:List ByteArray)(c:List Int)(h:dtN 1 d a s ns c=true):
  FN d a s ns c=true∧aA (tj d a s ns c) (tn d a s ns c) c=true∧dtL 3 (tp d a s ns c):=by
 obtain⟨⟨h0,h1⟩,hs,hn⟩:=OH.1 h
 obtain⟨n1,n2,n3⟩:=ZA.1 hn
 have s23:aA (dS d a c) (rW d a s c) c=true:=pE (jJ hs) hs
 have hs2:aA (nxA 12 (dS d a c) c) (ux d a s c) c=true:=jJ s23
 obtain⟨i0,i1⟩:0≤qV d a s ns c∧qV d a s ns c < (ns.length:Int):=Ln (n:=(ns.length:Int)) hs2 (by omega)
 have j0:=cM i0
 have j1:=fv i1
 have j2:ltN (qV d a s ns c).toNat ns.length=true:=gM (by omega)
 cases h0:bN d a s c with
 |true=>
  refine⟨?_,?_,?_⟩
  ·simp only [FN,h0,hs,s23,hs2,j0,j1,j2,allT,Bool.true_or,Bool.or_true,Bool.not_true,Bool.false_or,cond_true]
  ·simp only [tj,tn,h0,cond_true]
   cases ne d a s c
   ·cases nf d a s c
    ·exact jJ hs2
    ·exact hs2
   ·exact hs2
  ·simp only [tp,h0,cond_true]
   cases ne d a s c
   ·cases nf d a s c
    ·exact Jd (amM hn _ i0 i1)
    ·exact Jd (Nat.zero_le _)
   ·exact Jd (Nat.zero_le _)
 |false=>
  have hd:1≤d:=by
   by_cases hd0:d=0
   ·rw [hd0]at h0;cases h0
   ·omega
  have a9:jv d=d - 1:=bi (by omega) (by omega)
  have s10:aA (uu d a c) (uv d a s c) c=true:=PX s23
  have d1:dtN 0 (jv d) (uu d a c) (uv d a s c) ns c=true:=OH.2 ⟨by omega,s10,hn⟩
  obtain⟨_,s12,q18⟩:=aoC _ _ _ ns c d1
  have s12:aA (iE d a s ns c) (jY d a s ns c) c=true:=s12
  have q18:dtL 1 (iF d a s ns c):=q18
  have d2:dtN 0 (jv d) (iE d a s ns c) (jY d a s ns c) ns c=true:=OH.2 ⟨by omega,s12,hn⟩
  obtain⟨_,s14,q19⟩:=aoC _ _ _ ns c d2
  have s14:aA (uw d a s ns c) (yt d a s ns c) c=true:=s14
  have q19:dtL 1 (uy d a s ns c):=q19
  have q23:dtL 1 (uA d a s ns c):=Jd (by simp only [CT];cases ag (dU d a s c) <;> exact Nat.zero_le _)
  have q24:dtL 1 (uB d a s ns c):=Jd (by simp only [CT];cases ag (dU d a s c) <;> exact Nat.zero_le _)
  have q20:dtL 2 (uz d a s ns c):=Vd q18 q19 (by omega)
  have l18:=q18.2.1
  have l19:=q19.2.1
  have l20:=q20.2.1
  have l23:=q23.2.1
  have l24:=q24.2.1
  have p10:leN 1 (List.length [(4:Int),5,6,5,6,7,8,9,10,11,12])=true:=rfl
  refine⟨?_,?_,?_⟩
  ·simp only [FN,h0,hs,s23,s10,d1,d2,s12,s14,p10,ci (show (iF d a s ns c).length + (uy d a s ns c).length≤9223372036854775807 by omega),ci (show ((iF d a s ns c).length + (uy d a s ns c).length) * 32≤140737488355328 by omega),
    ci (show (uz d a s ns c).length + (uA d a s ns c).length≤9223372036854775807 by omega),ci (show ((uz d a s ns c).length + (uA d a s ns c).length) * 32≤140737488355328 by omega),
    ci (show (iF d a s ns c).length + (uB d a s ns c).length≤9223372036854775807 by omega),ci (show ((iF d a s ns c).length + (uB d a s ns c).length) * 32≤140737488355328 by omega),
    allT,Bool.true_or,Bool.or_true,Bool.not_false,Bool.false_or,Bool.and_self,cond_true]
  ·simp only [tj,tn,h0,cond_false]
   cases et d a s c <;> simp only [cond_true,cond_false]
   ·exact pE (jJ s12) s12
   ·exact pE (jJ s14) s14
  ·simp only [tp,h0,cond_false]
   cases et d a s c <;> simp only [cond_true,cond_false]
   ·exact Vd q18 q24 (by omega)
   ·exact Vd q20 q23 (by omega)
def TC:List SV→List Entry→Option Out
 | [.one ⟨false,[.ptr 0 0]⟩,.one ⟨false,[.ref 1]⟩,.one ⟨false,[.val (.int .i64 x0)]⟩],[.box 197 [.ref 2,.val (.int .i64 x1),.val (.int .i64 x2)],.row false 9 (.str) x3,.row false 5 (.int .u8) x4]=>some ⟨.one ⟨false,[.ref 3]⟩,[.box 197 [.ref 2,.val (.int .i64 (tj x0 x1 x2 x3 x4)),.val (.int .i64 (tn x0 x1 x2 x3 x4))],.row false 9 alP x3,.row false 5 aj7 x4],[.row true 178 acQ (tp x0 x1 x2 x3 x4)],[dtN 1 x0 x1 x2 x3 x4]⟩
 |_,_=>none
def MB:PF prog:=PF.alt adb TC (by
 intro args es o h cD;unfold TC at h;split at h
 ·rename_i x0 x1 x2 x3 x4
  cases h
  have cD:=ln cD
  have hh:=(aoD x0 x1 x2 x3 x4 cD).1
  have en:=hh
  exact qy rfl (kw en) rfl rfl rfl
 ·cases h)
section
variable (x0 x1 x2:Int)(x3:List ByteArray)(x4:List Int)
def bO:Bool:=bif x0==0 then true else nxV 4 x1 x2 x4==0
def KO:Bool:= !x0==0&&true
def dV:Int:=bif KO x0 then nxA 4 x1 x4 else x1
def rX:Int:=bif KO x0 then nxS 4 x1 x2 x4 else x2
def Sp:Int:=nxV 12 (dV x0 x1 x4) (rX x0 x1 x2 x4) x4
def ng:Bool:=Sp x0 x1 x2 x4==0
def nh:Bool:=Sp x0 x1 x2 x4==1
def dW:Int:=pkV (dV x0 x1 x4) (rX x0 x1 x2 x4) [(4:Int),(5:Int),(6:Int),(5:Int),(6:Int),(7:Int),(8:Int),(9:Int),(10:Int),(11:Int),(12:Int)] x4
def eu:Bool:=jh (dW x0 x1 x2 x4)==2
def jw:Int:=IntKind.wrap .i64 (x0 - (1:Int))
def uC:Int:=pkA (dV x0 x1 x4) [(4:Int),(5:Int),(6:Int),(5:Int),(6:Int),(7:Int),(8:Int),(9:Int),(10:Int),(11:Int),(12:Int)] x4
def uD:Int:=pkS (dV x0 x1 x4) (rX x0 x1 x2 x4) [(4:Int),(5:Int),(6:Int),(5:Int),(6:Int),(7:Int),(8:Int),(9:Int),(10:Int),(11:Int),(12:Int)] x4
def iG:Int:=tj (jw x0) (uC x0 x1 x4) (uD x0 x1 x2 x4) x3 x4
def jZ:Int:=tn (jw x0) (uC x0 x1 x4) (uD x0 x1 x2 x4) x3 x4
def uE:Int:=tj (jw x0) (iG x0 x1 x2 x3 x4) (jZ x0 x1 x2 x3 x4) x3 x4
def uF:Int:=nxS 12 (dV x0 x1 x4) (rX x0 x1 x2 x4) x4
def yu:Int:=tn (jw x0) (iG x0 x1 x2 x3 x4) (jZ x0 x1 x2 x3 x4) x3 x4
def qW:Int:=nxV (↑x3.length:Int) (nxA 12 (dV x0 x1 x4) x4) (uF x0 x1 x2 x4) x4
def iH:List (Int×ByteArray×Int):=tp (jw x0) (uC x0 x1 x4) (uD x0 x1 x2 x4) x3 x4
def uG:List (Int×ByteArray×Int):=tp (jw x0) (iG x0 x1 x2 x3 x4) (jZ x0 x1 x2 x3 x4) x3 x4
def uH:List (Int×ByteArray×Int):=iH x0 x1 x2 x3 x4++uG x0 x1 x2 x3 x4
def RI:Int:=bif ag (dW x0 x1 x2 x4)then dW x0 x1 x2 x4 else dW x0 x1 x2 x4
def CU:ByteArray:=bif ag (dW x0 x1 x2 x4)then ByteArray.mk #[]else ByteArray.mk #[]
def uI:List (Int×ByteArray×Int):= [(RI x0 x1 x2 x4,CU x0 x1 x2 x4,bif ag (dW x0 x1 x2 x4)then nxV 4 (uE x0 x1 x2 x3 x4) (yu x0 x1 x2 x3 x4) x4 else(0:Int))]
def uJ:List (Int×ByteArray×Int):= [(RI x0 x1 x2 x4,CU x0 x1 x2 x4,bif ag (dW x0 x1 x2 x4)then nxV 4 (iG x0 x1 x2 x3 x4) (jZ x0 x1 x2 x3 x4) x4 else(0:Int))]
def tq:Int:=bif bO x0 x1 x2 x4 then bif ng x0 x1 x2 x4 then nxA 12 (dV x0 x1 x4) x4 else bif nh x0 x1 x2 x4 then nxA 12 (dV x0 x1 x4) x4 else nxA (↑x3.length:Int) (nxA 12 (dV x0 x1 x4) x4) x4 else bif eu x0 x1 x2 x4 then bif ag (dW x0 x1 x2 x4)then nxA 4 (uE x0 x1 x2 x3 x4) x4 else uE x0 x1 x2 x3 x4 else bif ag (dW x0 x1 x2 x4)then nxA 4 (iG x0 x1 x2 x3 x4) x4 else iG x0 x1 x2 x3 x4
def tt:Int:=bif bO x0 x1 x2 x4 then bif ng x0 x1 x2 x4 then uF x0 x1 x2 x4 else bif nh x0 x1 x2 x4 then uF x0 x1 x2 x4 else nxS (↑x3.length:Int) (nxA 12 (dV x0 x1 x4) x4) (uF x0 x1 x2 x4) x4 else bif eu x0 x1 x2 x4 then bif ag (dW x0 x1 x2 x4)then nxS 4 (uE x0 x1 x2 x3 x4) (yu x0 x1 x2 x3 x4) x4 else yu x0 x1 x2 x3 x4 else bif ag (dW x0 x1 x2 x4)then nxS 4 (iG x0 x1 x2 x3 x4) (jZ x0 x1 x2 x3 x4) x4 else jZ x0 x1 x2 x3 x4
def tu:List (Int×(ByteArray×Int)):=bif bO x0 x1 x2 x4 then bif ng x0 x1 x2 x4 then [((2:Int),ByteArray.mk #[],(0:Int))]else bif nh x0 x1 x2 x4 then [((3:Int),ByteArray.mk #[],(0:Int))]else [((1:Int),Option.getD x3[Int.toNat (qW x0 x1 x2 x3 x4)]? ByteArray.empty,(0:Int))]else bif eu x0 x1 x2 x4 then uH x0 x1 x2 x3 x4++uI x0 x1 x2 x3 x4 else iH x0 x1 x2 x3 x4++uJ x0 x1 x2 x3 x4
def FO:Bool:=allT [!KO x0||aA x1 x2 x4,!bO x0 x1 x2 x4||aA (dV x0 x1 x4) (rX x0 x1 x2 x4) x4,!bO x0 x1 x2 x4||(ng x0 x1 x2 x4||(nh x0 x1 x2 x4||aA (nxA 12 (dV x0 x1 x4) x4) (uF x0 x1 x2 x4) x4)),!bO x0 x1 x2 x4||(ng x0 x1 x2 x4||(nh x0 x1 x2 x4||leI 0 (qW x0 x1 x2 x3 x4))),!bO x0 x1 x2 x4||(ng x0 x1 x2 x4||(nh x0 x1 x2 x4||ltI (qW x0 x1 x2 x3 x4) (↑x3.length:Int))),!bO x0 x1 x2 x4||(ng x0 x1 x2 x4||(nh x0 x1 x2 x4||ltN (Int.toNat (qW x0 x1 x2 x3 x4)) x3.length)),bO x0 x1 x2 x4||aA (dV x0 x1 x4) (rX x0 x1 x2 x4) x4&&leN 1 (List.length [(4:Int),(5:Int),(6:Int),(5:Int),(6:Int),(7:Int),(8:Int),(9:Int),(10:Int),(11:Int),(12:Int)]),bO x0 x1 x2 x4||dtN 1 (jw x0) (uC x0 x1 x4) (uD x0 x1 x2 x4) x3 x4,bO x0 x1 x2 x4||(!eu x0 x1 x2 x4||dtN 1 (jw x0) (iG x0 x1 x2 x3 x4) (jZ x0 x1 x2 x3 x4) x3 x4),bO x0 x1 x2 x4||(!eu x0 x1 x2 x4||leN (List.length (iH x0 x1 x2 x3 x4) + List.length (uG x0 x1 x2 x3 x4)) 9223372036854775807),bO x0 x1 x2 x4||(!eu x0 x1 x2 x4||leN ((List.length (iH x0 x1 x2 x3 x4) + List.length (uG x0 x1 x2 x3 x4)) * 32) 140737488355328),bO x0 x1 x2 x4||(!eu x0 x1 x2 x4||(!ag (dW x0 x1 x2 x4)||aA (uE x0 x1 x2 x3 x4) (yu x0 x1 x2 x3 x4) x4)),bO x0 x1 x2 x4||(!eu x0 x1 x2 x4||leN (List.length (uH x0 x1 x2 x3 x4) + List.length (uI x0 x1 x2 x3 x4)) 9223372036854775807),bO x0 x1 x2 x4||(!eu x0 x1 x2 x4||leN ((List.length (uH x0 x1 x2 x3 x4) + List.length (uI x0 x1 x2 x3 x4)) * 32) 140737488355328),bO x0 x1 x2 x4||(eu x0 x1 x2 x4||(!ag (dW x0 x1 x2 x4)||aA (iG x0 x1 x2 x3 x4) (jZ x0 x1 x2 x3 x4) x4)),bO x0 x1 x2 x4||(eu x0 x1 x2 x4||leN (List.length (iH x0 x1 x2 x3 x4) + List.length (uJ x0 x1 x2 x3 x4)) 9223372036854775807),bO x0 x1 x2 x4||(eu x0 x1 x2 x4||leN ((List.length (iH x0 x1 x2 x3 x4) + List.length (uJ x0 x1 x2 x3 x4)) * 32) 140737488355328)]
end
def Tv:List SV→List Entry→Option Out
 | [.one ⟨false,[.ptr 0 0]⟩,.one ⟨false,[.ref 1]⟩,.one ⟨false,[.val (.int .i64 x0)]⟩],[.box 197 [.ref 2,.val (.int .i64 x1),.val (.int .i64 x2)],.row false 9 (.str) x3,.row false 5 (.int .u8) x4]=>some ⟨.one ⟨false,[.ref 3]⟩,[.box 197 [.ref 2,.val (.int .i64 (tq x0 x1 x2 x3 x4)),.val (.int .i64 (tt x0 x1 x2 x3 x4))],.row false 9 alP x3,.row false 5 aj7 x4],[.row true 178 acQ (tu x0 x1 x2 x3 x4)],[FO x0 x1 x2 x3 x4]⟩
 |_,_=>none
def adc:PF prog:=PF.ofG prog (T3z [af,cn,tN,HN,MB]) [] aV 210 f210 func210 (fun c _=>LOk.nil c) Tv (by
 intro vs es r h;unfold Tv at h;split at h
 ·cases h;kernel_rfl
 ·cases h)
theorem aoE(d a s:Int)(ns:List ByteArray)(c:List Int)(h:dtN 2 d a s ns c=true):
  FO d a s ns c=true∧aA (tq d a s ns c) (tt d a s ns c) c=true∧dtL 7 (tu d a s ns c):=by
 obtain⟨⟨h0,h1⟩,hs,hn⟩:=OH.1 h
 obtain⟨n1,n2,n3⟩:=ZA.1 hn
 have s23:aA (dV d a c) (rX d a s c) c=true:=pE (jJ hs) hs
 have hs2:aA (nxA 12 (dV d a c) c) (uF d a s c) c=true:=jJ s23
 obtain⟨i0,i1⟩:0≤qW d a s ns c∧qW d a s ns c < (ns.length:Int):=Ln (n:=(ns.length:Int)) hs2 (by omega)
 have j0:=cM i0
 have j1:=fv i1
 have j2:ltN (qW d a s ns c).toNat ns.length=true:=gM (by omega)
 cases h0:bO d a s c with
 |true=>
  refine⟨?_,?_,?_⟩
  ·simp only [FO,h0,hs,s23,hs2,j0,j1,j2,allT,Bool.true_or,Bool.or_true,Bool.not_true,Bool.false_or,cond_true]
  ·simp only [tq,tt,h0,cond_true]
   cases ng d a s c
   ·cases nh d a s c
    ·exact jJ hs2
    ·exact hs2
   ·exact hs2
  ·simp only [tu,h0,cond_true]
   cases ng d a s c
   ·cases nh d a s c
    ·exact Jd (amM hn _ i0 i1)
    ·exact Jd (Nat.zero_le _)
   ·exact Jd (Nat.zero_le _)
 |false=>
  have hd:1≤d:=by
   by_cases hd0:d=0
   ·rw [hd0]at h0;cases h0
   ·omega
  have a9:jw d=d - 1:=bi (by omega) (by omega)
  have s10:aA (uC d a c) (uD d a s c) c=true:=PX s23
  have d1:dtN 1 (jw d) (uC d a c) (uD d a s c) ns c=true:=OH.2 ⟨by omega,s10,hn⟩
  obtain⟨_,s12,q18⟩:=aoD _ _ _ ns c d1
  have s12:aA (iG d a s ns c) (jZ d a s ns c) c=true:=s12
  have q18:dtL 3 (iH d a s ns c):=q18
  have d2:dtN 1 (jw d) (iG d a s ns c) (jZ d a s ns c) ns c=true:=OH.2 ⟨by omega,s12,hn⟩
  obtain⟨_,s14,q19⟩:=aoD _ _ _ ns c d2
  have s14:aA (uE d a s ns c) (yu d a s ns c) c=true:=s14
  have q19:dtL 3 (uG d a s ns c):=q19
  have q23:dtL 1 (uI d a s ns c):=Jd (by simp only [CU];cases ag (dW d a s c) <;> exact Nat.zero_le _)
  have q24:dtL 1 (uJ d a s ns c):=Jd (by simp only [CU];cases ag (dW d a s c) <;> exact Nat.zero_le _)
  have q20:dtL 6 (uH d a s ns c):=Vd q18 q19 (by omega)
  have l18:=q18.2.1
  have l19:=q19.2.1
  have l20:=q20.2.1
  have l23:=q23.2.1
  have l24:=q24.2.1
  have p10:leN 1 (List.length [(4:Int),5,6,5,6,7,8,9,10,11,12])=true:=rfl
  refine⟨?_,?_,?_⟩
  ·simp only [FO,h0,hs,s23,s10,d1,d2,s12,s14,p10,ci (show (iH d a s ns c).length + (uG d a s ns c).length≤9223372036854775807 by omega),ci (show ((iH d a s ns c).length + (uG d a s ns c).length) * 32≤140737488355328 by omega),
    ci (show (uH d a s ns c).length + (uI d a s ns c).length≤9223372036854775807 by omega),ci (show ((uH d a s ns c).length + (uI d a s ns c).length) * 32≤140737488355328 by omega),
    ci (show (iH d a s ns c).length + (uJ d a s ns c).length≤9223372036854775807 by omega),ci (show ((iH d a s ns c).length + (uJ d a s ns c).length) * 32≤140737488355328 by omega),
    allT,Bool.true_or,Bool.or_true,Bool.not_false,Bool.false_or,Bool.and_self,cond_true]
  ·simp only [tq,tt,h0,cond_false]
   cases eu d a s c <;> simp only [cond_true,cond_false]
   ·exact pE (jJ s12) s12
   ·exact pE (jJ s14) s14
  ·simp only [tu,h0,cond_false]
   cases eu d a s c <;> simp only [cond_true,cond_false]
   ·exact Vd q18 q24 (by omega)
   ·exact Vd q20 q23 (by omega)
def TD:List SV→List Entry→Option Out
 | [.one ⟨false,[.ptr 0 0]⟩,.one ⟨false,[.ref 1]⟩,.one ⟨false,[.val (.int .i64 x0)]⟩],[.box 197 [.ref 2,.val (.int .i64 x1),.val (.int .i64 x2)],.row false 9 (.str) x3,.row false 5 (.int .u8) x4]=>some ⟨.one ⟨false,[.ref 3]⟩,[.box 197 [.ref 2,.val (.int .i64 (tq x0 x1 x2 x3 x4)),.val (.int .i64 (tt x0 x1 x2 x3 x4))],.row false 9 alP x3,.row false 5 aj7 x4],[.row true 178 acQ (tu x0 x1 x2 x3 x4)],[dtN 2 x0 x1 x2 x3 x4]⟩
 |_,_=>none
def MC:PF prog:=PF.alt adc TD (by
 intro args es o h cD;unfold TD at h;split at h
 ·rename_i x0 x1 x2 x3 x4
  cases h
  have cD:=ln cD
  have hh:=(aoE x0 x1 x2 x3 x4 cD).1
  have en:=hh
  exact qy rfl (kw en) rfl rfl rfl
 ·cases h)
section
variable (x0 x1 x2:Int)(x3:List ByteArray)(x4:List Int)
def cf:Bool:=bif x0==0 then true else nxV 4 x1 x2 x4==0
def MV:Bool:= !x0==0&&true
def em:Int:=bif MV x0 then nxA 4 x1 x4 else x1
def tv:Int:=bif MV x0 then nxS 4 x1 x2 x4 else x2
def Ub:Int:=nxV 12 (em x0 x1 x4) (tv x0 x1 x2 x4) x4
def oA:Bool:=Ub x0 x1 x2 x4==0
def oB:Bool:=Ub x0 x1 x2 x4==1
def eo:Int:=pkV (em x0 x1 x4) (tv x0 x1 x2 x4) [(4:Int),(5:Int),(6:Int),(5:Int),(6:Int),(7:Int),(8:Int),(9:Int),(10:Int),(11:Int),(12:Int)] x4
def fy:Bool:=jh (eo x0 x1 x2 x4)==2
def ky:Int:=IntKind.wrap .i64 (x0 - (1:Int))
def vN:Int:=pkA (em x0 x1 x4) [(4:Int),(5:Int),(6:Int),(5:Int),(6:Int),(7:Int),(8:Int),(9:Int),(10:Int),(11:Int),(12:Int)] x4
def vO:Int:=pkS (em x0 x1 x4) (tv x0 x1 x2 x4) [(4:Int),(5:Int),(6:Int),(5:Int),(6:Int),(7:Int),(8:Int),(9:Int),(10:Int),(11:Int),(12:Int)] x4
def jx:Int:=tq (ky x0) (vN x0 x1 x4) (vO x0 x1 x2 x4) x3 x4
def le:Int:=tt (ky x0) (vN x0 x1 x4) (vO x0 x1 x2 x4) x3 x4
def vP:Int:=tq (ky x0) (jx x0 x1 x2 x3 x4) (le x0 x1 x2 x3 x4) x3 x4
def vQ:Int:=nxS 12 (em x0 x1 x4) (tv x0 x1 x2 x4) x4
def zE:Int:=tt (ky x0) (jx x0 x1 x2 x3 x4) (le x0 x1 x2 x3 x4) x3 x4
def rY:Int:=nxV (↑x3.length:Int) (nxA 12 (em x0 x1 x4) x4) (vQ x0 x1 x2 x4) x4
def jy:List (Int×ByteArray×Int):=tu (ky x0) (vN x0 x1 x4) (vO x0 x1 x2 x4) x3 x4
def vR:List (Int×ByteArray×Int):=tu (ky x0) (jx x0 x1 x2 x3 x4) (le x0 x1 x2 x3 x4) x3 x4
def vS:List (Int×ByteArray×Int):=jy x0 x1 x2 x3 x4++vR x0 x1 x2 x3 x4
def Sq:Int:=bif ag (eo x0 x1 x2 x4)then eo x0 x1 x2 x4 else eo x0 x1 x2 x4
def EK:ByteArray:=bif ag (eo x0 x1 x2 x4)then ByteArray.mk #[]else ByteArray.mk #[]
def vT:List (Int×ByteArray×Int):= [(Sq x0 x1 x2 x4,EK x0 x1 x2 x4,bif ag (eo x0 x1 x2 x4)then nxV 4 (vP x0 x1 x2 x3 x4) (zE x0 x1 x2 x3 x4) x4 else(0:Int))]
def vU:List (Int×ByteArray×Int):= [(Sq x0 x1 x2 x4,EK x0 x1 x2 x4,bif ag (eo x0 x1 x2 x4)then nxV 4 (jx x0 x1 x2 x3 x4) (le x0 x1 x2 x3 x4) x4 else(0:Int))]
def vi:Int:=bif cf x0 x1 x2 x4 then bif oA x0 x1 x2 x4 then nxA 12 (em x0 x1 x4) x4 else bif oB x0 x1 x2 x4 then nxA 12 (em x0 x1 x4) x4 else nxA (↑x3.length:Int) (nxA 12 (em x0 x1 x4) x4) x4 else bif fy x0 x1 x2 x4 then bif ag (eo x0 x1 x2 x4)then nxA 4 (vP x0 x1 x2 x3 x4) x4 else vP x0 x1 x2 x3 x4 else bif ag (eo x0 x1 x2 x4)then nxA 4 (jx x0 x1 x2 x3 x4) x4 else jx x0 x1 x2 x3 x4
def vj:Int:=bif cf x0 x1 x2 x4 then bif oA x0 x1 x2 x4 then vQ x0 x1 x2 x4 else bif oB x0 x1 x2 x4 then vQ x0 x1 x2 x4 else nxS (↑x3.length:Int) (nxA 12 (em x0 x1 x4) x4) (vQ x0 x1 x2 x4) x4 else bif fy x0 x1 x2 x4 then bif ag (eo x0 x1 x2 x4)then nxS 4 (vP x0 x1 x2 x3 x4) (zE x0 x1 x2 x3 x4) x4 else zE x0 x1 x2 x3 x4 else bif ag (eo x0 x1 x2 x4)then nxS 4 (jx x0 x1 x2 x3 x4) (le x0 x1 x2 x3 x4) x4 else le x0 x1 x2 x3 x4
def vk:List (Int×(ByteArray×Int)):=bif cf x0 x1 x2 x4 then bif oA x0 x1 x2 x4 then [((2:Int),ByteArray.mk #[],(0:Int))]else bif oB x0 x1 x2 x4 then [((3:Int),ByteArray.mk #[],(0:Int))]else [((1:Int),Option.getD x3[Int.toNat (rY x0 x1 x2 x3 x4)]? ByteArray.empty,(0:Int))]else bif fy x0 x1 x2 x4 then vS x0 x1 x2 x3 x4++vT x0 x1 x2 x3 x4 else jy x0 x1 x2 x3 x4++vU x0 x1 x2 x3 x4
def Hb:Bool:=allT [!MV x0||aA x1 x2 x4,!cf x0 x1 x2 x4||aA (em x0 x1 x4) (tv x0 x1 x2 x4) x4,!cf x0 x1 x2 x4||(oA x0 x1 x2 x4||(oB x0 x1 x2 x4||aA (nxA 12 (em x0 x1 x4) x4) (vQ x0 x1 x2 x4) x4)),!cf x0 x1 x2 x4||(oA x0 x1 x2 x4||(oB x0 x1 x2 x4||leI 0 (rY x0 x1 x2 x3 x4))),!cf x0 x1 x2 x4||(oA x0 x1 x2 x4||(oB x0 x1 x2 x4||ltI (rY x0 x1 x2 x3 x4) (↑x3.length:Int))),!cf x0 x1 x2 x4||(oA x0 x1 x2 x4||(oB x0 x1 x2 x4||ltN (Int.toNat (rY x0 x1 x2 x3 x4)) x3.length)),cf x0 x1 x2 x4||aA (em x0 x1 x4) (tv x0 x1 x2 x4) x4&&leN 1 (List.length [(4:Int),(5:Int),(6:Int),(5:Int),(6:Int),(7:Int),(8:Int),(9:Int),(10:Int),(11:Int),(12:Int)]),cf x0 x1 x2 x4||dtN 2 (ky x0) (vN x0 x1 x4) (vO x0 x1 x2 x4) x3 x4,cf x0 x1 x2 x4||(!fy x0 x1 x2 x4||dtN 2 (ky x0) (jx x0 x1 x2 x3 x4) (le x0 x1 x2 x3 x4) x3 x4),cf x0 x1 x2 x4||(!fy x0 x1 x2 x4||leN (List.length (jy x0 x1 x2 x3 x4) + List.length (vR x0 x1 x2 x3 x4)) 9223372036854775807),cf x0 x1 x2 x4||(!fy x0 x1 x2 x4||leN ((List.length (jy x0 x1 x2 x3 x4) + List.length (vR x0 x1 x2 x3 x4)) * 32) 140737488355328),cf x0 x1 x2 x4||(!fy x0 x1 x2 x4||(!ag (eo x0 x1 x2 x4)||aA (vP x0 x1 x2 x3 x4) (zE x0 x1 x2 x3 x4) x4)),cf x0 x1 x2 x4||(!fy x0 x1 x2 x4||leN (List.length (vS x0 x1 x2 x3 x4) + List.length (vT x0 x1 x2 x3 x4)) 9223372036854775807),cf x0 x1 x2 x4||(!fy x0 x1 x2 x4||leN ((List.length (vS x0 x1 x2 x3 x4) + List.length (vT x0 x1 x2 x3 x4)) * 32) 140737488355328),cf x0 x1 x2 x4||(fy x0 x1 x2 x4||(!ag (eo x0 x1 x2 x4)||aA (jx x0 x1 x2 x3 x4) (le x0 x1 x2 x3 x4) x4)),cf x0 x1 x2 x4||(fy x0 x1 x2 x4||leN (List.length (jy x0 x1 x2 x3 x4) + List.length (vU x0 x1 x2 x3 x4)) 9223372036854775807),cf x0 x1 x2 x4||(fy x0 x1 x2 x4||leN ((List.length (jy x0 x1 x2 x3 x4) + List.length (vU x0 x1 x2 x3 x4)) * 32) 140737488355328)]
end
def UP:List SV→List Entry→Option Out
 | [.one ⟨false,[.ptr 0 0]⟩,.one ⟨false,[.ref 1]⟩,.one ⟨false,[.val (.int .i64 x0)]⟩],[.box 197 [.ref 2,.val (.int .i64 x1),.val (.int .i64 x2)],.row false 9 (.str) x3,.row false 5 (.int .u8) x4]=>some ⟨.one ⟨false,[.ref 3]⟩,[.box 197 [.ref 2,.val (.int .i64 (vi x0 x1 x2 x3 x4)),.val (.int .i64 (vj x0 x1 x2 x3 x4))],.row false 9 alP x3,.row false 5 aj7 x4],[.row true 178 acQ (vk x0 x1 x2 x3 x4)],[Hb x0 x1 x2 x3 x4]⟩
 |_,_=>none
def aei:PF prog:=PF.ofG prog (T3z [af,cn,tN,HN,MC]) [] aV 210 f210 func210 (fun c _=>LOk.nil c) UP (by
 intro vs es r h;unfold UP at h;split at h
 ·cases h;kernel_rfl
 ·cases h)
theorem aqI(d a s:Int)(ns:List ByteArray)(c:List Int)(h:dtN 3 d a s ns c=true):
  Hb d a s ns c=true∧aA (vi d a s ns c) (vj d a s ns c) c=true∧dtL 15 (vk d a s ns c):=by
 obtain⟨⟨h0,h1⟩,hs,hn⟩:=OH.1 h
 obtain⟨n1,n2,n3⟩:=ZA.1 hn
 have s23:aA (em d a c) (tv d a s c) c=true:=pE (jJ hs) hs
 have hs2:aA (nxA 12 (em d a c) c) (vQ d a s c) c=true:=jJ s23
 obtain⟨i0,i1⟩:0≤rY d a s ns c∧rY d a s ns c < (ns.length:Int):=Ln (n:=(ns.length:Int)) hs2 (by omega)
 have j0:=cM i0
 have j1:=fv i1
 have j2:ltN (rY d a s ns c).toNat ns.length=true:=gM (by omega)
 cases h0:cf d a s c with
 |true=>
  refine⟨?_,?_,?_⟩
  ·simp only [Hb,h0,hs,s23,hs2,j0,j1,j2,allT,Bool.true_or,Bool.or_true,Bool.not_true,Bool.false_or,cond_true]
  ·simp only [vi,vj,h0,cond_true]
   cases oA d a s c
   ·cases oB d a s c
    ·exact jJ hs2
    ·exact hs2
   ·exact hs2
  ·simp only [vk,h0,cond_true]
   cases oA d a s c
   ·cases oB d a s c
    ·exact Jd (amM hn _ i0 i1)
    ·exact Jd (Nat.zero_le _)
   ·exact Jd (Nat.zero_le _)
 |false=>
  have hd:1≤d:=by
   by_cases hd0:d=0
   ·rw [hd0]at h0;cases h0
   ·omega
  have a9:ky d=d - 1:=bi (by omega) (by omega)
  have s10:aA (vN d a c) (vO d a s c) c=true:=PX s23
  have d1:dtN 2 (ky d) (vN d a c) (vO d a s c) ns c=true:=OH.2 ⟨by omega,s10,hn⟩
  obtain⟨_,s12,q18⟩:=aoE _ _ _ ns c d1
  have s12:aA (jx d a s ns c) (le d a s ns c) c=true:=s12
  have q18:dtL 7 (jy d a s ns c):=q18
  have d2:dtN 2 (ky d) (jx d a s ns c) (le d a s ns c) ns c=true:=OH.2 ⟨by omega,s12,hn⟩
  obtain⟨_,s14,q19⟩:=aoE _ _ _ ns c d2
  have s14:aA (vP d a s ns c) (zE d a s ns c) c=true:=s14
  have q19:dtL 7 (vR d a s ns c):=q19
  have q23:dtL 1 (vT d a s ns c):=Jd (by simp only [EK];cases ag (eo d a s c) <;> exact Nat.zero_le _)
  have q24:dtL 1 (vU d a s ns c):=Jd (by simp only [EK];cases ag (eo d a s c) <;> exact Nat.zero_le _)
  have q20:dtL 14 (vS d a s ns c):=Vd q18 q19 (by omega)
  have l18:=q18.2.1
  have l19:=q19.2.1
  have l20:=q20.2.1
  have l23:=q23.2.1
  have l24:=q24.2.1
  have p10:leN 1 (List.length [(4:Int),5,6,5,6,7,8,9,10,11,12])=true:=rfl
  refine⟨?_,?_,?_⟩
  ·simp only [Hb,h0,hs,s23,s10,d1,d2,s12,s14,p10,ci (show (jy d a s ns c).length + (vR d a s ns c).length≤9223372036854775807 by omega),ci (show ((jy d a s ns c).length + (vR d a s ns c).length) * 32≤140737488355328 by omega),
    ci (show (vS d a s ns c).length + (vT d a s ns c).length≤9223372036854775807 by omega),ci (show ((vS d a s ns c).length + (vT d a s ns c).length) * 32≤140737488355328 by omega),
    ci (show (jy d a s ns c).length + (vU d a s ns c).length≤9223372036854775807 by omega),ci (show ((jy d a s ns c).length + (vU d a s ns c).length) * 32≤140737488355328 by omega),
    allT,Bool.true_or,Bool.or_true,Bool.not_false,Bool.false_or,Bool.and_self,cond_true]
  ·simp only [vi,vj,h0,cond_false]
   cases fy d a s c <;> simp only [cond_true,cond_false]
   ·exact pE (jJ s12) s12
   ·exact pE (jJ s14) s14
  ·simp only [vk,h0,cond_false]
   cases fy d a s c <;> simp only [cond_true,cond_false]
   ·exact Vd q18 q24 (by omega)
   ·exact Vd q20 q23 (by omega)
def US:List SV→List Entry→Option Out
 | [.one ⟨false,[.ptr 0 0]⟩,.one ⟨false,[.ref 1]⟩,.one ⟨false,[.val (.int .i64 x0)]⟩],[.box 197 [.ref 2,.val (.int .i64 x1),.val (.int .i64 x2)],.row false 9 (.str) x3,.row false 5 (.int .u8) x4]=>some ⟨.one ⟨false,[.ref 3]⟩,[.box 197 [.ref 2,.val (.int .i64 (vi x0 x1 x2 x3 x4)),.val (.int .i64 (vj x0 x1 x2 x3 x4))],.row false 9 alP x3,.row false 5 aj7 x4],[.row true 178 acQ (vk x0 x1 x2 x3 x4)],[dtN 3 x0 x1 x2 x3 x4]⟩
 |_,_=>none
def jQ:PF prog:=PF.alt aei US (by
 intro args es o h cD;unfold US at h;split at h
 ·rename_i x0 x1 x2 x3 x4
  cases h
  have cD:=ln cD
  have hh:=(aqI x0 x1 x2 x3 x4 cD).1
  have en:=hh
  exact qy rfl (kw en) rfl rfl rfl
 ·cases h)
abbrev sd:=List ByteArray×Int×Int×List (ByteArray×(List (Int×(ByteArray×Int))))×List ByteArray×List Int
section
variable (y0:List ByteArray)(y1 y2:Int)(y4:List ByteArray)(y5:List Int)
def Aj:Int:=nxV 4 (nxA (↑y0.length:Int) y1 y5) (nxS (↑y0.length:Int) y1 y2 y5) y5
def Ak:Int:=nxA 4 (nxA (↑y0.length:Int) y1 y5) y5
def Al:Int:=nxS 4 (nxA (↑y0.length:Int) y1 y5) (nxS (↑y0.length:Int) y1 y2 y5) y5
def Jv:List (ByteArray×List (Int×ByteArray×Int)):= [(Option.getD y0[Int.toNat (nxV (↑y0.length:Int) y1 y2 y5)]? ByteArray.empty,vk (Aj y0 y1 y2 y5) (Ak y0 y1 y5) (Al y0 y1 y2 y5) y4 y5)]
def wH:List ByteArray:=List.drop (Int.toNat 0) (List.take (Int.toNat (nxV (↑y0.length:Int) y1 y2 y5)) y0)
def Jw:Int:=IntKind.wrap .i64 (nxV (↑y0.length:Int) y1 y2 y5 + (1:Int))
def Ei:List ByteArray:=List.drop (Int.toNat (Jw y0 y1 y2 y5)) (List.take (Int.toNat (↑y0.length:Int)) y0)
def Lv:Bool:=ltI 0 (↑y0.length:Int)
def XQ:Bool:=aA y1 y2 y5
def RK:Bool:=leI 0 (nxV (↑y0.length:Int) y1 y2 y5)
def XR:Bool:=ltI (nxV (↑y0.length:Int) y1 y2 y5) (↑y0.length:Int)
def XS:Bool:=ltN (Int.toNat (nxV (↑y0.length:Int) y1 y2 y5)) y0.length
def XT:Bool:=aA (nxA (↑y0.length:Int) y1 y5) (nxS (↑y0.length:Int) y1 y2 y5) y5
def XU:Bool:=dtN 3 (Aj y0 y1 y2 y5) (Ak y0 y1 y5) (Al y0 y1 y2 y5) y4 y5
end
def XV(y0:List ByteArray)(y1 y2:Int)(y3:List (ByteArray×(List (Int×(ByteArray×Int)))))(y4:List ByteArray)(y5:List Int):Bool:=leN (List.length y3 + List.length (Jv y0 y1 y2 y4 y5)) 9223372036854775807
def XW(y0:List ByteArray)(y1 y2:Int)(y3:List (ByteArray×(List (Int×(ByteArray×Int)))))(y4:List ByteArray)(y5:List Int):Bool:=leN ((List.length y3 + List.length (Jv y0 y1 y2 y4 y5)) * 40) 140737488355328
def XX:Bool:=leI 0 0
section
variable (y0:List ByteArray)(y1 y2:Int)(y4:List ByteArray)(y5:List Int)
def Wz:Bool:=leI (nxV (↑y0.length:Int) y1 y2 y5) (↑y0.length:Int)
def WA:Bool:=leN (0 + List.length (wH y0 y1 y2 y5)) 9223372036854775807
def WB:Bool:=leN ((0 + List.length (wH y0 y1 y2 y5)) * 16) 140737488355328
def WC:Bool:=leI 0 (Jw y0 y1 y2 y5)
def WD:Bool:=leI (Jw y0 y1 y2 y5) (↑y0.length:Int)
def WE:Bool:=leI (↑y0.length:Int) (↑y0.length:Int)
def WF:Bool:=leN (List.length (wH y0 y1 y2 y5) + List.length (Ei y0 y1 y2 y5)) 9223372036854775807
def WG:Bool:=leN ((List.length (wH y0 y1 y2 y5) + List.length (Ei y0 y1 y2 y5)) * 16) 140737488355328
def Ai:List ByteArray:=wH y0 y1 y2 y5++Ei y0 y1 y2 y5
def afP:Int:=vi (Aj y0 y1 y2 y5) (Ak y0 y1 y5) (Al y0 y1 y2 y5) y4 y5
def afQ:Int:=vj (Aj y0 y1 y2 y5) (Ak y0 y1 y5) (Al y0 y1 y2 y5) y4 y5
end
def Ju(y0:List ByteArray)(y1 y2:Int)(y3:List (ByteArray×(List (Int×(ByteArray×Int)))))(y4:List ByteArray)(y5:List Int):List (ByteArray×(List (Int×(ByteArray×Int)))):=y3++Jv y0 y1 y2 y4 y5
def ae1:sd→List (Nat×SV)
 |(_,_,_,_,_,_)=> [(7,(.one ⟨false,[.ref 0]⟩)),(0,(.one ⟨false,[.ptr 1 0]⟩)),(8,(.one ⟨false,[.ref 2]⟩)),(6,(.one ⟨false,[.ref 3]⟩))]
def aeV:sd→List (Nat×Entry)
 |(y0,y1,y2,y3,y4,y5)=> [(1,(.box 197 [.ref 4,.val (.int .i64 y1),.val (.int .i64 y2)])),(3,(.row false 9 alP y4)),(4,(.row false 5 aj7 y5)),(0,(.row false 9 alP y0)),(2,(.row true 204 aas y3))]
def afd:Nat→sd→List (Nat×SV)
 |_,(_,_,_,_,_,_)=> [(8,(.one ⟨false,[.ref 2]⟩))]
def ae7:Nat→sd→List (Nat×Entry)
 |_,(y0,y1,y2,y3,y4,y5)=> [(0,(.row false 9 alP y0)),(1,(.box 197 [.ref 4,.val (.int .i64 y1),.val (.int .i64 y2)])),(2,(.row true 204 aas y3)),(3,(.row false 9 alP y4)),(4,(.row false 5 aj7 y5))]
def Jj:sd→LT sd
 |(y0,y1,y2,y3,y4,y5)=> .ite (Lv y0) (.need [XQ y1 y2 y5] (.need [RK y0 y1 y2 y5,XR y0 y1 y2 y5,XS y0 y1 y2 y5,XT y0 y1 y2 y5,XU y0 y1 y2 y4 y5,XV y0 y1 y2 y3 y4 y5,XW y0 y1 y2 y3 y4 y5] (.need [XX,RK y0 y1 y2 y5,Wz y0 y1 y2 y5,WA y0 y1 y2 y5,WB y0 y1 y2 y5,WC y0 y1 y2 y5,WD y0 y1 y2 y5,WE y0,WF y0 y1 y2 y5,WG y0 y1 y2 y5] (.nrm ((Ai y0 y1 y2 y5),afP y0 y1 y2 y4 y5,afQ y0 y1 y2 y4 y5,Ju y0 y1 y2 y3 y4 y5,y4,y5) [(0,2048),(1,1),(2,1344),(3,3),(4,4)])))) (.ext 0 [(0,0),(1,1),(2,2),(3,3),(4,4)])
def Pw(s:St):Option sd:=
 (match s.look 7 with
 |some ⟨none,.one ⟨false,[.ref 1984]⟩⟩=>
 (match s.look 0 with
 |some ⟨none,.one ⟨false,[.ptr 0 0]⟩⟩=>
 (match s.look 8 with
 |some ⟨none,.one ⟨false,[.ref 2112]⟩⟩=>
 (match s.look 6 with
 |some ⟨none,.one ⟨false,[.ref 1600]⟩⟩=>
 (match s.ent 0 with
 |some (.box 197 [.ref 1,.val (.int .i64 y1),.val (.int .i64 y2)])=>
 (match s.ent 1600 with
 |some (.row false 9 (.str) y4)=>
 (match s.ent 1 with
 |some (.row false 5 (.int IntKind.u8) y5)=>
 (match s.ent 1984 with
 |some (.row false 9 (.str) y0)=>
 (match s.ent 2112 with
 |some (.row true 204 (.pair .str (.sl 178 (.pair (.int .i64) (.pair .str (.int .i64))))) y3)=>
 some (y0,y1,y2,y3,y4,y5)
 |_=>none)
 |_=>none)
 |_=>none)
 |_=>none)
 |_=>none)
 |_=>none)
 |_=>none)
 |_=>none)
 |_=>none)
def mI:Lp sd where
 h:=⟨[36,37,38,39,40,41,42,9,43,44,45,46,47,48,49,50,51,52,53,54,55,8,56,57,58,59,60,61,62,63,64,65,7],[1,3,4],[0,2],[]⟩
 JL:=ae1
 JE:=aeV
 XL:=afd
 XE:=ae7
 q:=fun j=>match j with | _=> .exit 0
 tags:= [0]
 lt:=Jj
 fuel:=fun(y0,y1,y2,y3,y4,y5)=>y0.length + y1.natAbs + y2.natAbs + y3.length + y4.length + y5.length
 fix:=fun(_,_,_,_,y4,y5) (y0,y1,y2,y3,_,_)=>(y0,y1,y2,y3,y4,y5)
 σ:= [(1,0),(3,1600),(4,1),(0,1984),(2,2112)]
 rd:=Pw
 fz:= [1000007,1000006]
theorem acY:LoopOk prog (fun k=>Nat.blt k Tryz.f150.ntmps) mI.F (aY f150 0):=by
 refine Lp.ok (tbl:= (T3z [af,jQ])) (lf:= []) aV mI (by kernel_rfl) (LOk.nil _) (fun _=>rfl) (fun _ _=>rfl) ?_ ?_ ?_ ?_ (fun _=>rfl) ?_
 ·rintro⟨y0,y1,y2,y3,y4,y5⟩;kernel_rfl
 ·rintro⟨y0,y1,y2,y3,y4,y5⟩;kernel_rfl
 ·intro s x h
  have h:Pw s=some x:=h
  unfold Pw at h
  repeat' split at h
  all_goals cases h
  constructor<;>repeat(first|refine ab (by assumption) rfl ?_|refine aa rfl (by assumption) rfl ?_|exact rfl)
 ·rintro⟨y0,y1,y2,y3,y4,y5⟩;kernel_rfl
 ·rintro⟨y0,y1,y2,y3,y4,y5⟩ z;exact(And.intro rfl trivial)
section
variable (x0 x1:Int)(x2:List Int)
def zf:Int:=nxV 4 (nxA 3 x0 x2) (nxS 3 x0 x1 x2) x2
def jR:List ByteArray:=List.take (Int.toNat (zf x0 x1 x2)) [ByteArray.mk #[120],ByteArray.mk #[121],ByteArray.mk #[122]]
def zg:Int:=nxA 4 (nxA 3 x0 x2) x2
def Ff:Int:=nxS 4 (nxA 3 x0 x2) (nxS 3 x0 x1 x2) x2
def Ca:Int:=IntKind.wrap .i64 ((1:Int) + nxV 2 (zg x0 x2) (Ff x0 x1 x2) x2)
def rt:List ByteArray:=List.take (Int.toNat (Ca x0 x1 x2)) [ByteArray.mk #[113],ByteArray.mk #[108,97,109,112]]
def Cb:Int:=IntKind.wrap .i64 ((1:Int) + nxV 3 x0 x1 x2)
def pM:List ByteArray:=List.take (Int.toNat (Cb x0 x1 x2)) [ByteArray.mk #[97],ByteArray.mk #[98],ByteArray.mk #[107,101,121]]
def my:List ByteArray:=pM x0 x1 x2++jR x0 x1 x2
def OU:List ByteArray×Int×Int×List (ByteArray×List (Int×ByteArray×Int))×List ByteArray×List Int:=(jR x0 x1 x2++rt x0 x1 x2,nxA 2 (zg x0 x2) x2,nxS 2 (zg x0 x2) (Ff x0 x1 x2) x2,[],my x0 x1 x2,x2)
def HT:Int×Int×List (ByteArray×List (Int×ByteArray×Int))×List ByteArray×List Int:=(Lp.res mI (OU x0 x1 x2)).2.2
def oh:Int:=(HT x0 x1 x2).1
def NC:Int×List (ByteArray×List (Int×ByteArray×Int))×List ByteArray×List Int:=(HT x0 x1 x2).2
def Dd:Int:=(NC x0 x1 x2).1
def rE:Bool:=ltI 0 (nxV 3 (oh x0 x1 x2) (Dd x0 x1 x2) x2)
def De:Int:=nxS 3 (oh x0 x1 x2) (Dd x0 x1 x2) x2
def Ah:Int:=nxV (↑(List.length (my x0 x1 x2)):Int) (nxA 3 (oh x0 x1 x2) x2) (De x0 x1 x2) x2
def SW:Bool:=leN (0 + List.length (pM x0 x1 x2)) 9223372036854775807
def SY:Bool:=leN ((0 + List.length (pM x0 x1 x2)) * 16) 140737488355328
def SZ:Bool:=leN (0 + List.length (jR x0 x1 x2)) 9223372036854775807
def Ta:Bool:=leN ((0 + List.length (jR x0 x1 x2)) * 16) 140737488355328
def qd:ByteArray:=bif rE x0 x1 x2 then ByteArray.mk #[114,105,100,101]else ByteArray.mk #[114,105,100,101]
def rr:ByteArray:=bif rE x0 x1 x2 then Option.getD (my x0 x1 x2)[Int.toNat (Ah x0 x1 x2)]? ByteArray.empty else ByteArray.mk #[]
def qe:Int:=bif rE x0 x1 x2 then nxA (↑(List.length (my x0 x1 x2)):Int) (nxA 3 (oh x0 x1 x2) x2) x2 else nxA 3 (oh x0 x1 x2) x2
def Bk:Int:=bif rE x0 x1 x2 then nxS (↑(List.length (my x0 x1 x2)):Int) (nxA 3 (oh x0 x1 x2) x2) (De x0 x1 x2) x2 else De x0 x1 x2
def mP:List ByteArray:=pM x0 x1 x2
def eH:List ByteArray:=jR x0 x1 x2
def qf:List ByteArray:=rt x0 x1 x2
def gk:List (ByteArray×(List (Int×(ByteArray×Int)))):=((NC x0 x1 x2).2).1
def Wy:Bool:=allT [aA x0 x1 x2,leI 0 (Cb x0 x1 x2),leI (Cb x0 x1 x2) (↑(List.length [ByteArray.mk #[97],ByteArray.mk #[98],ByteArray.mk #[107,101,121]]):Int),aA (nxA 3 x0 x2) (nxS 3 x0 x1 x2) x2,leI 0 (zf x0 x1 x2),leI (zf x0 x1 x2) (↑(List.length [ByteArray.mk #[120],ByteArray.mk #[121],ByteArray.mk #[122]]):Int),aA (zg x0 x2) (Ff x0 x1 x2) x2,leI 0 (Ca x0 x1 x2),leI (Ca x0 x1 x2) (↑(List.length [ByteArray.mk #[113],ByteArray.mk #[108,97,109,112]]):Int),SW x0 x1 x2,SY x0 x1 x2,leN (List.length (pM x0 x1 x2) + List.length (jR x0 x1 x2)) 9223372036854775807,leN ((List.length (pM x0 x1 x2) + List.length (jR x0 x1 x2)) * 16) 140737488355328,SZ x0 x1 x2,Ta x0 x1 x2,leN (List.length (jR x0 x1 x2) + List.length (rt x0 x1 x2)) 9223372036854775807,leN ((List.length (jR x0 x1 x2) + List.length (rt x0 x1 x2)) * 16) 140737488355328,Lp.fin mI (OU x0 x1 x2),SW x0 x1 x2,SY x0 x1 x2,SZ x0 x1 x2,Ta x0 x1 x2,leN (0 + List.length (rt x0 x1 x2)) 9223372036854775807,leN ((0 + List.length (rt x0 x1 x2)) * 16) 140737488355328,aA (oh x0 x1 x2) (Dd x0 x1 x2) x2,!rE x0 x1 x2||aA (nxA 3 (oh x0 x1 x2) x2) (De x0 x1 x2) x2,!rE x0 x1 x2||leI 0 (Ah x0 x1 x2),!rE x0 x1 x2||ltI (Ah x0 x1 x2) (↑(List.length (my x0 x1 x2)):Int),!rE x0 x1 x2||ltN (Int.toNat (Ah x0 x1 x2)) (List.length (my x0 x1 x2))]
end
def ab0:List SV→List Entry→Option Out
 | [.one ⟨false,[.ptr 0 0]⟩],[.box 197 [.ref 1,.val (.int .i64 x0),.val (.int .i64 x1)],.row false 5 (.int .u8) x2]=>some ⟨.one ⟨true,[.val (.string (qd x0 x1 x2)),.ref 2,.ref 3,.ref 4,.val (.string (rr x0 x1 x2)),.ref 5]⟩,[.box 197 [.ref 1,.val (.int .i64 (qe x0 x1 x2)),.val (.int .i64 (Bk x0 x1 x2))],.row false 5 aj7 x2],[.row true 9 alP (mP x0 x1 x2),.row true 9 alP (eH x0 x1 x2),.row true 9 alP (qf x0 x1 x2),.row true 204 aas (gk x0 x1 x2)],[Wy x0 x1 x2]⟩
 |_,_=>none
def akG:PF prog:=PF.ofG prog (T3z [af,jQ]) [(fun s=>mI.F (ahF [(1000007,0),(1000006,0)] s))] aV 150 f150 func150 (LOk.fnT (l:= [aY f150 0]) (by kernel_rfl) (.cons (acY.alias [(1000007,0),(1000006,0)]) (.nil _))) ab0 (by
 intro vs es r h;unfold ab0 at h;split at h
 ·cases h;kernel_rfl
 ·cases h)
abbrev gn:=List (Int×(ByteArray×Int))×Int×Int×List Int
section
variable (y0:List (Int×(ByteArray×Int)))(y1 y2:Int)(y3:List Int)
def CM:Bool:=aA y1 y2 y3
def CN:Bool:=ltI (↑y0.length:Int) (IntKind.wrap .i64 ((40:Int) + nxV 2 y1 y2 y3))
def CO:Bool:=leN (List.length y0 + List.length [((4:Int),ByteArray.mk #[],(0:Int))]) 9223372036854775807
def CP:Bool:=leN ((List.length y0 + List.length [((4:Int),ByteArray.mk #[],(0:Int))]) * 32) 140737488355328
def CQ:List (Int×(ByteArray×Int)):=y0++ [((4:Int),ByteArray.mk #[],(0:Int))]
def pq:Int:=nxA 2 y1 y3
def pt:Int:=nxS 2 y1 y2 y3
end
def Uh:gn→List (Nat×SV)
 |(_,_,_,_)=> [(3,(.one ⟨false,[.ref 0]⟩)),(0,(.one ⟨false,[.ptr 1 0]⟩))]
def Ug:gn→List (Nat×Entry)
 |(y0,y1,y2,y3)=> [(1,(.box 197 [.ref 2,.val (.int .i64 y1),.val (.int .i64 y2)])),(2,(.row false 5 aj7 y3)),(0,(.row true 178 acQ y0))]
def Uj:Nat→gn→List (Nat×SV)
 |_,(_,_,_,_)=> [(3,(.one ⟨false,[.ref 0]⟩))]
def Ui:Nat→gn→List (Nat×Entry)
 |_,(y0,y1,y2,y3)=> [(0,(.row true 178 acQ y0)),(1,(.box 197 [.ref 2,.val (.int .i64 (pq y1 y3)),.val (.int .i64 (pt y1 y2 y3))])),(2,(.row false 5 aj7 y3))]
def BW:gn→LT gn
 |(y0,y1,y2,y3)=> .need [CM y1 y2 y3] (.ite (CN y0 y1 y2 y3) (.need [CO y0,CP y0] (.nrm ((CQ y0),pq y1 y3,pt y1 y2 y3,y3) [(0,640),(1,1),(2,2)])) (.ext 0 [(0,0),(1,1),(2,2)]))
def BZ(s:St):Option gn:=
 (match s.look 3 with
 |some ⟨none,.one ⟨false,[.ref 512]⟩⟩=>
 (match s.look 0 with
 |some ⟨none,.one ⟨false,[.ptr 0 0]⟩⟩=>
 (match s.ent 0 with
 |some (.box 197 [.ref 1,.val (.int .i64 y1),.val (.int .i64 y2)])=>
 (match s.ent 1 with
 |some (.row false 5 (.int IntKind.u8) y3)=>
 (match s.ent 512 with
 |some (.row true 178 (.pair (.int .i64) (.pair .str (.int .i64))) y0)=>
 some (y0,y1,y2,y3)
 |_=>none)
 |_=>none)
 |_=>none)
 |_=>none)
 |_=>none)
def cZ:Lp gn where
 h:=⟨[52,53,54,55,56,57,58,59,60,61,3],[1,2],[0],[]⟩
 JL:=Uh
 JE:=Ug
 XL:=Uj
 XE:=Ui
 q:=fun j=>match j with | _=> .exit 1
 tags:= [0]
 lt:=BW
 fuel:=fun(y0,y1,y2,y3)=>y0.length + y1.natAbs + y2.natAbs + y3.length
 fix:=fun(_,_,_,y3) (y0,y1,y2,_)=>(y0,y1,y2,y3)
 σ:= [(1,0),(2,1),(0,512)]
 rd:=BZ
theorem SJ:LoopOk prog (fun k=>Nat.blt k Tryz.f220.ntmps) cZ.F (aY f220 0):=by
 refine Lp.ok (tbl:= (T3z [af,cn,jQ])) (lf:= []) aV cZ (by kernel_rfl) (LOk.nil _) (fun _=>rfl) (fun _ _=>rfl) ?_ ?_ ?_ ?_ (fun _=>rfl) ?_
 ·rintro⟨y0,y1,y2,y3⟩;kernel_rfl
 ·rintro⟨y0,y1,y2,y3⟩;kernel_rfl
 ·intro s x h
  have h:BZ s=some x:=h
  unfold BZ at h
  repeat' split at h
  all_goals cases h
  constructor<;>repeat(first|refine ab (by assumption) rfl ?_|refine aa rfl (by assumption) rfl ?_|exact rfl)
 ·rintro⟨y0,y1,y2,y3⟩;kernel_rfl
 ·rintro⟨y0,y1,y2,y3⟩ z;exact(And.intro rfl trivial)
section
variable (x0 x1:Int)(x2:List Int)
def eF:List (Int×ByteArray×Int):=vk (nxV 4 x0 x1 x2) (nxA 4 x0 x2) (nxS 4 x0 x1 x2) [ByteArray.mk #[97],ByteArray.mk #[98],ByteArray.mk #[103,97,116,101]] x2
def cv:Int:=(↑(List.length (eF x0 x1 x2)):Int)
def jk:Int:=vi (nxV 4 x0 x1 x2) (nxA 4 x0 x2) (nxS 4 x0 x1 x2) [ByteArray.mk #[97],ByteArray.mk #[98],ByteArray.mk #[103,97,116,101]] x2
def zi:Int:=vj (nxV 4 x0 x1 x2) (nxA 4 x0 x2) (nxS 4 x0 x1 x2) [ByteArray.mk #[97],ByteArray.mk #[98],ByteArray.mk #[103,97,116,101]] x2
def zj:Int:=nxS (cv x0 x1 x2) (jk x0 x1 x2) (zi x0 x1 x2) x2
def uU:Int:=nxV 24 (nxA (cv x0 x1 x2) (jk x0 x1 x2) x2) (zj x0 x1 x2) x2
def aO:Bool:=uU x0 x1 x2==0
def bR:Int:=nxA 24 (nxA (cv x0 x1 x2) (jk x0 x1 x2) x2) x2
def bo:Bool:=uU x0 x1 x2==1
def eG:Bool:=uU x0 x1 x2==2
def mM:Bool:=uU x0 x1 x2==3
def ti:Bool:=uU x0 x1 x2==4
def de:Int:=nxS 24 (nxA (cv x0 x1 x2) (jk x0 x1 x2) x2) (zj x0 x1 x2) x2
def qc:List (Int×ByteArray×Int)×Int×Int×List Int:=(eF x0 x1 x2,bR x0 x1 x2,de x0 x1 x2,x2)
def mN:Int×Int×List Int:=(Lp.res cZ (qc x0 x1 x2)).2.2
def bu:Int:=nxV (cv x0 x1 x2) (jk x0 x1 x2) (zi x0 x1 x2) x2
def mO:Int×ByteArray×Int:=Option.getD (eF x0 x1 x2)[Int.toNat (bu x0 x1 x2)]? ((0:Int),ByteArray.empty,(0:Int))
def iD:Int:=nxV 4 (bR x0 x1 x2) (de x0 x1 x2) x2
def yp:Bool:=ltN (Int.toNat (bu x0 x1 x2)) (List.length (eF x0 x1 x2))
def we:Int:=bif aO x0 x1 x2 then pkA (bR x0 x1 x2) [(0:Int),(4:Int),(5:Int),(13:Int)] x2 else bif bo x0 x1 x2 then nxA 4 (bR x0 x1 x2) x2 else bif eG x0 x1 x2 then pkA (bR x0 x1 x2) [(-1:Int),(1:Int),(9999:Int),(10000:Int)] x2 else bif mM x0 x1 x2 then bR x0 x1 x2 else bif ti x0 x1 x2 then pq ((mN x0 x1 x2).1) x2 else bR x0 x1 x2
def wg:Int:=bif aO x0 x1 x2 then pkS (bR x0 x1 x2) (de x0 x1 x2) [(0:Int),(4:Int),(5:Int),(13:Int)] x2 else bif bo x0 x1 x2 then nxS 4 (bR x0 x1 x2) (de x0 x1 x2) x2 else bif eG x0 x1 x2 then pkS (bR x0 x1 x2) (de x0 x1 x2) [(-1:Int),(1:Int),(9999:Int),(10000:Int)] x2 else bif mM x0 x1 x2 then de x0 x1 x2 else bif ti x0 x1 x2 then pt ((mN x0 x1 x2).1) (((mN x0 x1 x2).2).1) x2 else de x0 x1 x2
def wh:List (Int×(ByteArray×Int)):=bif aO x0 x1 x2 then List.set (eF x0 x1 x2) (Int.toNat (bu x0 x1 x2)) (pkV (bR x0 x1 x2) (de x0 x1 x2) [(0:Int),(4:Int),(5:Int),(13:Int)] x2,((mO x0 x1 x2).2).1,(mO x0 x1 x2).2.2)else bif bo x0 x1 x2 then List.set (eF x0 x1 x2) (Int.toNat (bu x0 x1 x2)) ((mO x0 x1 x2).1,Option.getD [ByteArray.mk #[],ByteArray.mk #[97,110,100],ByteArray.mk #[120],ByteArray.mk #[89]][Int.toNat (iD x0 x1 x2)]? ByteArray.empty,(mO x0 x1 x2).2.2)else bif eG x0 x1 x2 then List.set (eF x0 x1 x2) (Int.toNat (bu x0 x1 x2)) ((mO x0 x1 x2).1,((mO x0 x1 x2).2).1,pkV (bR x0 x1 x2) (de x0 x1 x2) [(-1:Int),(1:Int),(9999:Int),(10000:Int)] x2)else bif mM x0 x1 x2 then List.take (Int.toNat (bu x0 x1 x2)) (eF x0 x1 x2)else bif ti x0 x1 x2 then ((Lp.res cZ (qc x0 x1 x2)).2).1else eF x0 x1 x2
def Gq:Bool:=allT [aA x0 x1 x2,dtN 3 (nxV 4 x0 x1 x2) (nxA 4 x0 x2) (nxS 4 x0 x1 x2) [ByteArray.mk #[97],ByteArray.mk #[98],ByteArray.mk #[103,97,116,101]] x2,aA (jk x0 x1 x2) (zi x0 x1 x2) x2,aA (nxA (cv x0 x1 x2) (jk x0 x1 x2) x2) (zj x0 x1 x2) x2,!aO x0 x1 x2||aA (bR x0 x1 x2) (de x0 x1 x2) x2&&leN 1 (List.length [(0:Int),(4:Int),(5:Int),(13:Int)]),!aO x0 x1 x2||leI 0 (bu x0 x1 x2),!aO x0 x1 x2||ltI (bu x0 x1 x2) (cv x0 x1 x2),!aO x0 x1 x2||yp x0 x1 x2,aO x0 x1 x2||(!bo x0 x1 x2||aA (bR x0 x1 x2) (de x0 x1 x2) x2),aO x0 x1 x2||(!bo x0 x1 x2||leI 0 (iD x0 x1 x2)),aO x0 x1 x2||(!bo x0 x1 x2||ltI (iD x0 x1 x2) (↑(List.length [ByteArray.mk #[],ByteArray.mk #[97,110,100],ByteArray.mk #[120],ByteArray.mk #[89]]):Int)),aO x0 x1 x2||(!bo x0 x1 x2||ltN (Int.toNat (iD x0 x1 x2)) (List.length [ByteArray.mk #[],ByteArray.mk #[97,110,100],ByteArray.mk #[120],ByteArray.mk #[89]])),aO x0 x1 x2||(!bo x0 x1 x2||leI 0 (bu x0 x1 x2)),aO x0 x1 x2||(!bo x0 x1 x2||ltI (bu x0 x1 x2) (cv x0 x1 x2)),aO x0 x1 x2||(!bo x0 x1 x2||yp x0 x1 x2),aO x0 x1 x2||(bo x0 x1 x2||(!eG x0 x1 x2||aA (bR x0 x1 x2) (de x0 x1 x2) x2&&leN 1 (List.length [(-1:Int),(1:Int),(9999:Int),(10000:Int)]))),aO x0 x1 x2||(bo x0 x1 x2||(!eG x0 x1 x2||leI 0 (bu x0 x1 x2))),aO x0 x1 x2||(bo x0 x1 x2||(!eG x0 x1 x2||ltI (bu x0 x1 x2) (cv x0 x1 x2))),aO x0 x1 x2||(bo x0 x1 x2||(!eG x0 x1 x2||yp x0 x1 x2)),aO x0 x1 x2||(bo x0 x1 x2||(eG x0 x1 x2||(!mM x0 x1 x2||leI 0 (bu x0 x1 x2)))),aO x0 x1 x2||(bo x0 x1 x2||(eG x0 x1 x2||(!mM x0 x1 x2||leI (bu x0 x1 x2) (cv x0 x1 x2)))),aO x0 x1 x2||(bo x0 x1 x2||(eG x0 x1 x2||(mM x0 x1 x2||(!ti x0 x1 x2||Lp.fin cZ (qc x0 x1 x2)))))]
end
def Oo:List SV→List Entry→Option Out
 | [.one ⟨false,[.ptr 0 0]⟩],[.box 197 [.ref 1,.val (.int .i64 x0),.val (.int .i64 x1)],.row false 5 (.int .u8) x2]=>some ⟨.one ⟨false,[.ref 2]⟩,[.box 197 [.ref 1,.val (.int .i64 (we x0 x1 x2)),.val (.int .i64 (wg x0 x1 x2))],.row false 5 aj7 x2],[.row true 178 acQ (wh x0 x1 x2)],[Gq x0 x1 x2]⟩
 |_,_=>none
def YM:PF prog:=PF.ofG prog (T3z [af,cn,jQ]) [cZ.F] aV 220 f220 func220 (LOk.fnT (l:= [aY f220 0]) (by kernel_rfl) (.cons SJ (.nil _))) Oo (by
 intro vs es r h;unfold Oo at h;split at h
 ·cases h;kernel_rfl
 ·cases h)
abbrev kA:=Int×ByteArray×ByteArray×List Int×Int×Int×List ByteArray×List ByteArray×List ByteArray×List (ByteArray×(List (Int×(ByteArray×Int))))×List Int
section
variable (y0:Int)(y3:List Int)(y4 y5:Int)(y6:List ByteArray)(y10:List Int)
def wj:List Int:= [nxV 2 y4 y5 y10]
def HX:Bool:=ltI y0 (↑y6.length:Int)
def HY:Bool:=aA y4 y5 y10
def HZ:Bool:=leN (List.length y3 + List.length (wj y4 y5 y10)) 9223372036854775807
def Ia:Bool:=leN ((List.length y3 + List.length (wj y4 y5 y10)) * 8) 140737488355328
def Ib:Int:=IntKind.wrap .i64 (y0 + (1:Int))
def Ic:List Int:=y3++wj y4 y5 y10
def Id:Int:=nxA 2 y4 y10
def Ie:Int:=nxS 2 y4 y5 y10
end
def Yh:kA→List (Nat×SV)
 |(y0,_,_,_,_,_,_,_,_,_,_)=> [(6,(.one ⟨false,[.val (.int .i64 y0)]⟩)),(3,(.one ⟨false,[.ptr 0 0]⟩)),(5,(.one ⟨false,[.ref 1]⟩)),(0,(.one ⟨false,[.ptr 2 0]⟩))]
def Ye:kA→List (Nat×Entry)
 |(_,y1,y2,y3,y4,y5,y6,y7,y8,y9,y10)=> [(0,(.box 63 [.val (.string y1),.ref 3,.ref 4,.ref 5,.val (.string y2),.ref 6])),(2,(.box 197 [.ref 7,.val (.int .i64 y4),.val (.int .i64 y5)])),(3,(.row false 9 alP y6)),(4,(.row false 9 alP y7)),(5,(.row false 9 alP y8)),(6,(.row false 204 aas y9)),(7,(.row false 5 aj7 y10)),(1,(.row true 2 ai3 y3))]
def Yn:Nat→kA→List (Nat×SV)
 |_,(_,_,_,_,_,_,_,_,_,_,_)=> [(5,(.one ⟨false,[.ref 1]⟩))]
def Yk:Nat→kA→List (Nat×Entry)
 |_,(_,y1,y2,y3,y4,y5,y6,y7,y8,y9,y10)=> [(0,(.box 63 [.val (.string y1),.ref 3,.ref 4,.ref 5,.val (.string y2),.ref 6])),(1,(.row true 2 ai3 y3)),(2,(.box 197 [.ref 7,.val (.int .i64 y4),.val (.int .i64 y5)])),(3,(.row false 9 alP y6)),(4,(.row false 9 alP y7)),(5,(.row false 9 alP y8)),(6,(.row false 204 aas y9)),(7,(.row false 5 aj7 y10))]
def Gk:kA→LT kA
 |(y0,y1,y2,y3,y4,y5,y6,y7,y8,y9,y10)=> .ite (HX y0 y6) (.need [HY y4 y5 y10,HZ y3 y4 y5 y10,Ia y3 y4 y5 y10] (.nrm ((Ib y0),y1,y2,Ic y3 y4 y5 y10,Id y4 y10,Ie y4 y5 y10,y6,y7,y8,y9,y10) [(0,0),(1,640),(2,2),(3,3),(4,4),(5,5),(6,6),(7,7)])) (.ext 0 [(0,0),(1,1),(2,2),(3,3),(4,4),(5,5),(6,6),(7,7)])
def Gm(s:St):Option kA:=
 (match s.look 6 with
 |some ⟨none,.one ⟨false,[.val (.int .i64 y0)]⟩⟩=>
 (match s.look 3 with
 |some ⟨none,.one ⟨false,[.ptr 448 0]⟩⟩=>
 (match s.look 5 with
 |some ⟨none,.one ⟨false,[.ref 576]⟩⟩=>
 (match s.look 0 with
 |some ⟨none,.one ⟨false,[.ptr 0 0]⟩⟩=>
 (match s.ent 448 with
 |some (.box 63 [.val (.string y1),.ref 1,.ref 2,.ref 3,.val (.string y2),.ref 4])=>
 (match s.ent 0 with
 |some (.box 197 [.ref 5,.val (.int .i64 y4),.val (.int .i64 y5)])=>
 (match s.ent 1 with
 |some (.row false 9 (.str) y6)=>
 (match s.ent 2 with
 |some (.row false 9 (.str) y7)=>
 (match s.ent 3 with
 |some (.row false 9 (.str) y8)=>
 (match s.ent 4 with
 |some (.row false 204 (.pair .str (.sl 178 (.pair (.int .i64) (.pair .str (.int .i64))))) y9)=>
 (match s.ent 5 with
 |some (.row false 5 (.int IntKind.u8) y10)=>
 (match s.ent 576 with
 |some (.row true 2 (.int .i64) y3)=>
 some (y0,y1,y2,y3,y4,y5,y6,y7,y8,y9,y10)
 |_=>none)
 |_=>none)
 |_=>none)
 |_=>none)
 |_=>none)
 |_=>none)
 |_=>none)
 |_=>none)
 |_=>none)
 |_=>none)
 |_=>none)
 |_=>none)
def gX:Lp kA where
 h:=⟨[8,9,10,11,12,15,16,17,18,19,5,13,14,6],[0,2,3,4,5,6,7],[1],[]⟩
 JL:=Yh
 JE:=Ye
 XL:=Yn
 XE:=Yk
 q:=fun j=>match j with | _=> .exit 0
 tags:= [0]
 lt:=Gk
 fuel:=fun(y0,y1,y2,y3,y4,y5,y6,y7,y8,y9,y10)=>y0.natAbs + y1.size + y2.size + y3.length + y4.natAbs + y5.natAbs + y6.length + y7.length + y8.length + y9.length + y10.length
 fix:=fun(_,y1,y2,_,_,_,y6,y7,y8,y9,y10) (y0,_,_,y3,y4,y5,_,_,_,_,_)=>(y0,y1,y2,y3,y4,y5,y6,y7,y8,y9,y10)
 σ:= [(0,448),(2,0),(3,1),(4,2),(5,3),(6,4),(7,5),(1,576)]
 rd:=Gm
theorem VR:LoopOk prog (fun k=>Nat.blt k Tryz.f109.ntmps) gX.F (aY f109 0):=by
 refine Lp.ok (tbl:= (T3z [af,cn])) (lf:= []) aV gX (by kernel_rfl) (LOk.nil _) (fun _=>rfl) (fun _ _=>rfl) ?_ ?_ ?_ ?_ (fun _=>rfl) ?_
 ·rintro⟨y0,y1,y2,y3,y4,y5,y6,y7,y8,y9,y10⟩;kernel_rfl
 ·rintro⟨y0,y1,y2,y3,y4,y5,y6,y7,y8,y9,y10⟩;kernel_rfl
 ·intro s x h
  have h:Gm s=some x:=h
  unfold Gm at h
  repeat' split at h
  all_goals cases h
  constructor<;>repeat(first|refine ab (by assumption) rfl ?_|refine aa rfl (by assumption) rfl ?_|exact rfl)
 ·rintro⟨y0,y1,y2,y3,y4,y5,y6,y7,y8,y9,y10⟩;kernel_rfl
 ·rintro⟨y0,y1,y2,y3,y4,y5,y6,y7,y8,y9,y10⟩ z;exact(And.intro rfl trivial)
section
variable (x0 x1:ByteArray)(x2 x3:Int)(x4 x5 x6:List ByteArray)(x7:List (ByteArray×List (Int×ByteArray×Int)))(x8:List Int)
def EM:Int×ByteArray×ByteArray×List Int×Int×Int×List ByteArray×List ByteArray×List ByteArray×List (ByteArray×List (Int×ByteArray×Int))×List Int:=((0:Int),x0,x1,[],x2,x3,x4,x5,x6,x7,x8)
def zI:List Int×Int×Int×List ByteArray×List ByteArray×List ByteArray×List (ByteArray×List (Int×ByteArray×Int))×List Int:=(Lp.res gX (EM x0 x1 x2 x3 x4 x5 x6 x7 x8)).2.2.2.2
def EN:Int×Int×List ByteArray×List ByteArray×List ByteArray×List (ByteArray×List (Int×ByteArray×Int))×List Int:=(zI x0 x1 x2 x3 x4 x5 x6 x7 x8).2
def vW:Int:=(EN x0 x1 x2 x3 x4 x5 x6 x7 x8).1
def zJ:Int:=((EN x0 x1 x2 x3 x4 x5 x6 x7 x8).2).1
def Su:Int:=nxV 40 (vW x0 x1 x2 x3 x4 x5 x6 x7 x8) (zJ x0 x1 x2 x3 x4 x5 x6 x7 x8) x8
def ni:Bool:=Su x0 x1 x2 x3 x4 x5 x6 x7 x8==0
def nj:Int:=nxA 40 (vW x0 x1 x2 x3 x4 x5 x6 x7 x8) x8
def sb:Bool:=Su x0 x1 x2 x3 x4 x5 x6 x7 x8==1
def lg:List Int:=(zI x0 x1 x2 x3 x4 x5 x6 x7 x8).1
def iJ:Bool:=ltI 0 (↑(List.length (lg x0 x1 x2 x3 x4 x5 x6 x7 x8)):Int)
def oH:Int:=nxS 40 (vW x0 x1 x2 x3 x4 x5 x6 x7 x8) (zJ x0 x1 x2 x3 x4 x5 x6 x7 x8) x8
def qG:Int:=bif ni x0 x1 x2 x3 x4 x5 x6 x7 x8 then nj x0 x1 x2 x3 x4 x5 x6 x7 x8 else bif sb x0 x1 x2 x3 x4 x5 x6 x7 x8 then bif iJ x0 x1 x2 x3 x4 x5 x6 x7 x8 then pkA (nj x0 x1 x2 x3 x4 x5 x6 x7 x8) [(-1:Int),(2:Int)] x8 else nj x0 x1 x2 x3 x4 x5 x6 x7 x8 else nj x0 x1 x2 x3 x4 x5 x6 x7 x8
def tE:Int:=bif ni x0 x1 x2 x3 x4 x5 x6 x7 x8 then oH x0 x1 x2 x3 x4 x5 x6 x7 x8 else bif sb x0 x1 x2 x3 x4 x5 x6 x7 x8 then bif iJ x0 x1 x2 x3 x4 x5 x6 x7 x8 then pkS (nj x0 x1 x2 x3 x4 x5 x6 x7 x8) (oH x0 x1 x2 x3 x4 x5 x6 x7 x8) [(-1:Int),(2:Int)] x8 else oH x0 x1 x2 x3 x4 x5 x6 x7 x8 else oH x0 x1 x2 x3 x4 x5 x6 x7 x8
def xy:List Int:=bif ni x0 x1 x2 x3 x4 x5 x6 x7 x8 then lg x0 x1 x2 x3 x4 x5 x6 x7 x8++ [(0:Int)]else bif sb x0 x1 x2 x3 x4 x5 x6 x7 x8 then bif iJ x0 x1 x2 x3 x4 x5 x6 x7 x8 then List.set (lg x0 x1 x2 x3 x4 x5 x6 x7 x8) (Int.toNat 0) (pkV (nj x0 x1 x2 x3 x4 x5 x6 x7 x8) (oH x0 x1 x2 x3 x4 x5 x6 x7 x8) [(-1:Int),(2:Int)] x8)else lg x0 x1 x2 x3 x4 x5 x6 x7 x8 else lg x0 x1 x2 x3 x4 x5 x6 x7 x8
def FP:Bool:=allT [Lp.fin gX (EM x0 x1 x2 x3 x4 x5 x6 x7 x8),aA (vW x0 x1 x2 x3 x4 x5 x6 x7 x8) (zJ x0 x1 x2 x3 x4 x5 x6 x7 x8) x8,!ni x0 x1 x2 x3 x4 x5 x6 x7 x8||leN (List.length (lg x0 x1 x2 x3 x4 x5 x6 x7 x8) + List.length [(0:Int)]) (9223372036854775807:Nat),!ni x0 x1 x2 x3 x4 x5 x6 x7 x8||leN ((List.length (lg x0 x1 x2 x3 x4 x5 x6 x7 x8) + List.length [(0:Int)]) * (8:Nat)) 140737488355328,ni x0 x1 x2 x3 x4 x5 x6 x7 x8||(!sb x0 x1 x2 x3 x4 x5 x6 x7 x8||(!iJ x0 x1 x2 x3 x4 x5 x6 x7 x8||aA (nj x0 x1 x2 x3 x4 x5 x6 x7 x8) (oH x0 x1 x2 x3 x4 x5 x6 x7 x8) x8&&leN 1 (List.length [(-1:Int),(2:Int)]))),ni x0 x1 x2 x3 x4 x5 x6 x7 x8||(!sb x0 x1 x2 x3 x4 x5 x6 x7 x8||(!iJ x0 x1 x2 x3 x4 x5 x6 x7 x8||leI 0 0)),ni x0 x1 x2 x3 x4 x5 x6 x7 x8||(!sb x0 x1 x2 x3 x4 x5 x6 x7 x8||(!iJ x0 x1 x2 x3 x4 x5 x6 x7 x8||iJ x0 x1 x2 x3 x4 x5 x6 x7 x8)),ni x0 x1 x2 x3 x4 x5 x6 x7 x8||(!sb x0 x1 x2 x3 x4 x5 x6 x7 x8||(!iJ x0 x1 x2 x3 x4 x5 x6 x7 x8||ltN (Int.toNat 0) (List.length (lg x0 x1 x2 x3 x4 x5 x6 x7 x8))))]
end
def Tx:List SV→List Entry→Option Out
 | [.one ⟨false,[.ptr 0 0]⟩,.one ⟨true,[.val (.string x0),.ref 1,.ref 2,.ref 3,.val (.string x1),.ref 4]⟩],[.box 197 [.ref 5,.val (.int .i64 x2),.val (.int .i64 x3)],.row false 9 (.str) x4,.row false 9 (.str) x5,.row false 9 (.str) x6,.row false 204 (.pair (.str) (.sl 178 (.pair (.int .i64) (.pair (.str) (.int .i64))))) x7,.row false 5 (.int .u8) x8]=>some ⟨.one ⟨false,[.ref 6]⟩,[.box 197 [.ref 5,.val (.int .i64 (qG x0 x1 x2 x3 x4 x5 x6 x7 x8)),.val (.int .i64 (tE x0 x1 x2 x3 x4 x5 x6 x7 x8))],.row false 9 alP x4,.row false 9 alP x5,.row false 9 alP x6,.row false 204 (CTy.pair CTy.str (CTy.sl (178:TypeId) acQ)) x7,.row false 5 aj7 x8],[.row true 2 ai3 (xy x0 x1 x2 x3 x4 x5 x6 x7 x8)],[FP x0 x1 x2 x3 x4 x5 x6 x7 x8]⟩
 |_,_=>none
def gj:PF prog:=PF.ofG prog (T3z [af,cn]) [gX.F] aV 109 f109 func109 (LOk.fnT (l:= [aY f109 0]) (by kernel_rfl) (.cons VR (.nil _))) Tx (by
 intro vs es r h;unfold Tx at h;split at h
 ·cases h;kernel_rfl
 ·cases h)
abbrev jV:=Int×List (List Int)×List Int
section
variable (y0:Int)(y1:List (List Int))(y2:List Int)
def Gr:Bool:=leI 0 y0
def Gs:Bool:=leN y2.length (1048576:Nat)
def Gt:Bool:=leN (List.length y1 + List.length [y2]) (9223372036854775807:Nat)
def Gu:Bool:=leN ((List.length y1 + List.length [y2]) * (24:Nat)) 140737488355328
def Gv:Int:=IntKind.wrap .i64 (y0 - (1:Int))
def Gw:List (List Int):=y1++ [y2]
end
def Xe:jV→List (Nat×SV)
 |(y0,_,_)=> [(8,(.one ⟨false,[.val (.int .i64 y0)]⟩)),(5,(.one ⟨false,[.ref 0]⟩)),(7,(.one ⟨false,[.ref 1]⟩))]
def Xd:jV→List (Nat×Entry)
 |(_,y1,y2)=> [(1,(.row true 2 ai3 y2)),(0,(.row true 41 ahT y1))]
def Xg:Nat→jV→List (Nat×SV)
 |_,(_,_,_)=> [(5,(.one ⟨false,[.ref 0]⟩))]
def Xf:Nat→jV→List (Nat×Entry)
 |_,(_,y1,y2)=> [(0,(.row true 41 ahT y1)),(1,(.row true 2 ai3 y2))]
def EV:jV→LT jV
 |(y0,y1,y2)=> .ite (Gr y0) (.need [Gs y2,Gt y1 y2,Gu y1 y2] (.nrm ((Gv y0),Gw y1 y2,y2) [(0,448),(1,1)])) (.ext 0 [(0,0),(1,1)])
def EW(s:St):Option jV:=
 (match s.look 8 with
 |some ⟨none,.one ⟨false,[.val (.int .i64 y0)]⟩⟩=>
 (match s.look 5 with
 |some ⟨none,.one ⟨false,[.ref 2]⟩⟩=>
 (match s.look 7 with
 |some ⟨none,.one ⟨false,[.ref 320]⟩⟩=>
 (match s.ent 320 with
 |some (.row true 2 (.int .i64) y2)=>
 (match s.ent 2 with
 |some (.row true 41 (.sl 2 (.int .i64)) y1)=>
 some (y0,y1,y2)
 |_=>none)
 |_=>none)
 |_=>none)
 |_=>none)
 |_=>none)
def gd:Lp jV where
 h:=⟨[21,22,25,26,27,28,29,5,23,24,8],[1],[0],[]⟩
 JL:=Xe
 JE:=Xd
 XL:=Xg
 XE:=Xf
 q:=fun j=>match j with | _=> .exit 2
 tags:= [0]
 lt:=EV
 fuel:=fun(y0,y1,y2)=>y0.natAbs + y1.length + y2.length
 fix:=fun(_,_,y2) (y0,y1,_)=>(y0,y1,y2)
 σ:= [(1,320),(0,2)]
 rd:=EW
theorem Vg:LoopOk prog (memN [12,13,16,17,18,7,19,20,8,21,22,25,26,27,28,29,5,23,24,14,15,6]) gd.F (YD (aY f141 0) 0):=by
 refine Lp.ok (tbl:= (T3z [gj,af,cj])) (lf:= []) aV gd (by kernel_rfl) (LOk.nil _) (fun _=>rfl) (fun _ _=>rfl) ?_ ?_ ?_ ?_ (fun _=>rfl) ?_
 ·rintro⟨y0,y1,y2⟩;kernel_rfl
 ·rintro⟨y0,y1,y2⟩;kernel_rfl
 ·intro s x h
  have h:EW s=some x:=h
  unfold EW at h
  repeat' split at h
  all_goals cases h
  constructor<;>repeat(first|refine ab (by assumption) rfl ?_|refine aa rfl (by assumption) rfl ?_|exact rfl)
 ·rintro⟨y0,y1,y2⟩;kernel_rfl
 ·rintro⟨y0,y1,y2⟩ z;exact(And.intro rfl trivial)
abbrev mQ:=Int×Int×Int×ByteArray×ByteArray×List (List Int)×List Int×List ByteArray×List ByteArray×List ByteArray×List (ByteArray×(List (Int×(ByteArray×Int))))
def CV(y1 y2:Int)(y3 y4:ByteArray)(y5:List (List Int))(y6:List Int)(y7 y8 y9:List ByteArray)(y10:List (ByteArray×(List (Int×(ByteArray×Int))))):Int×List (List Int)×List Int:=(nxV 4 (qG y3 y4 y1 y2 y7 y8 y9 y10 y6) (tE y3 y4 y1 y2 y7 y8 y9 y10 y6) y6,y5,xy y3 y4 y1 y2 y7 y8 y9 y10 y6)
def KU(y0:Int):Bool:=ltI 0 y0
def KV(y1 y2:Int)(y3 y4:ByteArray)(y6:List Int)(y7 y8 y9:List ByteArray)(y10:List (ByteArray×(List (Int×(ByteArray×Int))))):Bool:=FP y3 y4 y1 y2 y7 y8 y9 y10 y6
def Sw(y1 y2:Int)(y3 y4:ByteArray)(y6:List Int)(y7 y8 y9:List ByteArray)(y10:List (ByteArray×(List (Int×(ByteArray×Int))))):Bool:=aA (qG y3 y4 y1 y2 y7 y8 y9 y10 y6) (tE y3 y4 y1 y2 y7 y8 y9 y10 y6) y6
def Sx(y1 y2:Int)(y3 y4:ByteArray)(y5:List (List Int))(y6:List Int)(y7 y8 y9:List ByteArray)(y10:List (ByteArray×(List (Int×(ByteArray×Int))))):Bool:=Lp.fin gd (CV y1 y2 y3 y4 y5 y6 y7 y8 y9 y10)
def KW(y0:Int):Int:=IntKind.wrap .i64 (y0 - (1:Int))
def Sy(y1 y2:Int)(y3 y4:ByteArray)(y6:List Int)(y7 y8 y9:List ByteArray)(y10:List (ByteArray×(List (Int×(ByteArray×Int))))):Int:=nxA 4 (qG y3 y4 y1 y2 y7 y8 y9 y10 y6) y6
def Sz(y1 y2:Int)(y3 y4:ByteArray)(y6:List Int)(y7 y8 y9:List ByteArray)(y10:List (ByteArray×(List (Int×(ByteArray×Int))))):Int:=nxS 4 (qG y3 y4 y1 y2 y7 y8 y9 y10 y6) (tE y3 y4 y1 y2 y7 y8 y9 y10 y6) y6
def KX(y1 y2:Int)(y3 y4:ByteArray)(y5:List (List Int))(y6:List Int)(y7 y8 y9:List ByteArray)(y10:List (ByteArray×(List (Int×(ByteArray×Int))))):List (List Int):=((Lp.res gd (CV y1 y2 y3 y4 y5 y6 y7 y8 y9 y10)).2.2).1
def ZW:mQ→List (Nat×SV)
 |(y0,_,_,_,_,_,_,_,_,_,_)=> [(6,(.one ⟨false,[.val (.int .i64 y0)]⟩)),(0,(.one ⟨false,[.ptr 0 0]⟩)),(3,(.one ⟨false,[.ptr 1 0]⟩)),(5,(.one ⟨false,[.ref 2]⟩))]
def ZS:mQ→List (Nat×Entry)
 |(_,y1,y2,y3,y4,y5,y6,y7,y8,y9,y10)=> [(0,(.box 197 [.ref 3,.val (.int .i64 y1),.val (.int .i64 y2)])),(1,(.box 63 [.val (.string y3),.ref 4,.ref 5,.ref 6,.val (.string y4),.ref 7])),(3,(.row false 5 aj7 y6)),(4,(.row false 9 alP y7)),(5,(.row false 9 alP y8)),(6,(.row false 9 alP y9)),(7,(.row false 204 aas y10)),(2,(.row true 41 ahT y5))]
def aae:Nat→mQ→List (Nat×SV)
 |_,(_,_,_,_,_,_,_,_,_,_,_)=> [(5,(.one ⟨false,[.ref 2]⟩))]
def aaa:Nat→mQ→List (Nat×Entry)
 |_,(_,y1,y2,y3,y4,y5,y6,y7,y8,y9,y10)=> [(0,(.box 197 [.ref 3,.val (.int .i64 y1),.val (.int .i64 y2)])),(1,(.box 63 [.val (.string y3),.ref 4,.ref 5,.ref 6,.val (.string y4),.ref 7])),(2,(.row true 41 ahT y5)),(3,(.row false 5 aj7 y6)),(4,(.row false 9 alP y7)),(5,(.row false 9 alP y8)),(6,(.row false 9 alP y9)),(7,(.row false 204 aas y10))]
def Jk:mQ→LT mQ
 |(y0,y1,y2,y3,y4,y5,y6,y7,y8,y9,y10)=> .ite (KU y0) (.need [KV y1 y2 y3 y4 y6 y7 y8 y9 y10] (.need [Sw y1 y2 y3 y4 y6 y7 y8 y9 y10] (.need [Sx y1 y2 y3 y4 y5 y6 y7 y8 y9 y10] (.nrm ((KW y0),Sy y1 y2 y3 y4 y6 y7 y8 y9 y10,Sz y1 y2 y3 y4 y6 y7 y8 y9 y10,y3,y4,KX y1 y2 y3 y4 y5 y6 y7 y8 y9 y10,y6,y7,y8,y9,y10) [(0,0),(1,1),(2,640),(3,3),(4,4),(5,5),(6,6),(7,7)])))) (.ext 0 [(0,0),(1,1),(2,2),(3,3),(4,4),(5,5),(6,6),(7,7)])
def Jp(s:St):Option mQ:=
 (match s.look 6 with
 |some ⟨none,.one ⟨false,[.val (.int .i64 y0)]⟩⟩=>
 (match s.look 0 with
 |some ⟨none,.one ⟨false,[.ptr 0 0]⟩⟩=>
 (match s.look 3 with
 |some ⟨none,.one ⟨false,[.ptr 448 0]⟩⟩=>
 (match s.look 5 with
 |some ⟨none,.one ⟨false,[.ref 576]⟩⟩=>
 (match s.ent 0 with
 |some (.box 197 [.ref 5,.val (.int .i64 y1),.val (.int .i64 y2)])=>
 (match s.ent 448 with
 |some (.box 63 [.val (.string y3),.ref 1,.ref 2,.ref 3,.val (.string y4),.ref 4])=>
 (match s.ent 5 with
 |some (.row false 5 (.int IntKind.u8) y6)=>
 (match s.ent 1 with
 |some (.row false 9 (.str) y7)=>
 (match s.ent 2 with
 |some (.row false 9 (.str) y8)=>
 (match s.ent 3 with
 |some (.row false 9 (.str) y9)=>
 (match s.ent 4 with
 |some (.row false 204 (.pair .str (.sl 178 (.pair (.int .i64) (.pair .str (.int .i64))))) y10)=>
 (match s.ent 576 with
 |some (.row true 41 (.sl 2 (.int .i64)) y5)=>
 some (y0,y1,y2,y3,y4,y5,y6,y7,y8,y9,y10)
 |_=>none)
 |_=>none)
 |_=>none)
 |_=>none)
 |_=>none)
 |_=>none)
 |_=>none)
 |_=>none)
 |_=>none)
 |_=>none)
 |_=>none)
 |_=>none)
def jW:Lp mQ where
 h:=⟨[12,13,16,17,18,7,19,20,8,21,22,25,26,27,28,29,5,23,24,14,15,6],[0,1,3,4,5,6,7],[2],[]⟩
 JL:=ZW
 JE:=ZS
 XL:=aae
 XE:=aaa
 q:=fun j=>match j with | _=> .exit 0
 tags:= [0]
 lt:=Jk
 fuel:=fun(y0,y1,y2,y3,y4,y5,y6,y7,y8,y9,y10)=>y0.natAbs + y1.natAbs + y2.natAbs + y3.size + y4.size + y5.length + y6.length + y7.length + y8.length + y9.length + y10.length
 fix:=fun(_,_,_,y3,y4,_,y6,y7,y8,y9,y10) (y0,y1,y2,_,_,y5,_,_,_,_,_)=>(y0,y1,y2,y3,y4,y5,y6,y7,y8,y9,y10)
 σ:= [(0,0),(1,448),(3,5),(4,1),(5,2),(6,3),(7,4),(2,576)]
 rd:=Jp
theorem YG:LoopOk prog (fun k=>Nat.blt k Tryz.f141.ntmps) jW.F (aY f141 0):=by
 refine Lp.ok (tbl:= (T3z [gj,af,cj])) (lf:= [gd.F]) aV jW (by kernel_rfl) (LOk.allT (l:= [YD (aY f141 0) 0]) (by kernel_rfl) (.cons Vg (.nil _))) (fun _=>rfl) (fun _ _=>rfl) ?_ ?_ ?_ ?_ (fun _=>rfl) ?_
 ·rintro⟨y0,y1,y2,y3,y4,y5,y6,y7,y8,y9,y10⟩;kernel_rfl
 ·rintro⟨y0,y1,y2,y3,y4,y5,y6,y7,y8,y9,y10⟩;kernel_rfl
 ·intro s x h
  have h:Jp s=some x:=h
  unfold Jp at h
  repeat' split at h
  all_goals cases h
  constructor<;>repeat(first|refine ab (by assumption) rfl ?_|refine aa rfl (by assumption) rfl ?_|exact rfl)
 ·rintro⟨y0,y1,y2,y3,y4,y5,y6,y7,y8,y9,y10⟩;kernel_rfl
 ·rintro⟨y0,y1,y2,y3,y4,y5,y6,y7,y8,y9,y10⟩ z;exact(And.intro rfl trivial)
abbrev mR:=List (List Int)×Int×Int×ByteArray×ByteArray×List Int×List ByteArray×List ByteArray×List ByteArray×List (ByteArray×(List (Int×(ByteArray×Int))))
section
variable (y0:List (List Int))(y1 y2:Int)(y5:List Int)(y6:List ByteArray)
def yG:List (List Int):= [List.replicate (Int.toNat (↑y6.length:Int)) (0:Int)]
def KY:Bool:=aA y1 y2 y5
def KZ:Bool:=ltI (↑y0.length:Int) (IntKind.wrap .i64 ((200:Int) + nxV 2 y1 y2 y5))
def La:Bool:=leI 0 (↑y6.length:Int)
def Lb:Bool:=leI (↑y6.length:Int) (↑y6.length:Int)
def Lc:Bool:=leI ((↑(8:Nat):Int) * (↑y6.length:Int)) 281474976710656
def Ld:Bool:=leI (↑y6.length:Int) 9223372036854775807
def Le:Bool:=leN (List.length y0 + List.length (yG y6)) 9223372036854775807
def Lf:Bool:=leN ((List.length y0 + List.length (yG y6)) * 24) 140737488355328
def Lg:List (List Int):=y0++yG y6
def vX:Int:=nxA 2 y1 y5
def uO:Int:=nxS 2 y1 y2 y5
end
def ZX:mR→List (Nat×SV)
 |(_,_,_,_,_,_,_,_,_,_)=> [(5,(.one ⟨false,[.ref 0]⟩)),(0,(.one ⟨false,[.ptr 1 0]⟩)),(3,(.one ⟨false,[.ptr 2 0]⟩))]
def ZT:mR→List (Nat×Entry)
 |(y0,y1,y2,y3,y4,y5,y6,y7,y8,y9)=> [(1,(.box 197 [.ref 3,.val (.int .i64 y1),.val (.int .i64 y2)])),(2,(.box 63 [.val (.string y3),.ref 4,.ref 5,.ref 6,.val (.string y4),.ref 7])),(3,(.row false 5 aj7 y5)),(4,(.row false 9 alP y6)),(5,(.row false 9 alP y7)),(6,(.row false 9 alP y8)),(7,(.row false 204 aas y9)),(0,(.row true 41 ahT y0))]
def aaf:Nat→mR→List (Nat×SV)
 |_,(_,_,_,_,_,_,_,_,_,_)=> [(5,(.one ⟨false,[.ref 0]⟩))]
def aab:Nat→mR→List (Nat×Entry)
 |_,(y0,y1,y2,y3,y4,y5,y6,y7,y8,y9)=> [(0,(.row true 41 ahT y0)),(1,(.box 197 [.ref 3,.val (.int .i64 (vX y1 y5)),.val (.int .i64 (uO y1 y2 y5))])),(2,(.box 63 [.val (.string y3),.ref 4,.ref 5,.ref 6,.val (.string y4),.ref 7])),(3,(.row false 5 aj7 y5)),(4,(.row false 9 alP y6)),(5,(.row false 9 alP y7)),(6,(.row false 9 alP y8)),(7,(.row false 204 aas y9))]
def Jl:mR→LT mR
 |(y0,y1,y2,y3,y4,y5,y6,y7,y8,y9)=> .need [KY y1 y2 y5] (.ite (KZ y0 y1 y2 y5) (.need [La y6,Lb y6,Lc y6,Ld y6,Le y0 y6,Lf y0 y6] (.nrm ((Lg y0 y6),vX y1 y5,uO y1 y2 y5,y3,y4,y5,y6,y7,y8,y9) [(0,832),(1,1),(2,2),(3,3),(4,4),(5,5),(6,6),(7,7)])) (.ext 0 [(0,0),(1,1),(2,2),(3,3),(4,4),(5,5),(6,6),(7,7)]))
def Jq(s:St):Option mR:=
 (match s.look 5 with
 |some ⟨none,.one ⟨false,[.ref 896]⟩⟩=>
 (match s.look 0 with
 |some ⟨none,.one ⟨false,[.ptr 0 0]⟩⟩=>
 (match s.look 3 with
 |some ⟨none,.one ⟨false,[.ptr 448 0]⟩⟩=>
 (match s.ent 0 with
 |some (.box 197 [.ref 5,.val (.int .i64 y1),.val (.int .i64 y2)])=>
 (match s.ent 448 with
 |some (.box 63 [.val (.string y3),.ref 1,.ref 2,.ref 3,.val (.string y4),.ref 4])=>
 (match s.ent 5 with
 |some (.row false 5 (.int IntKind.u8) y5)=>
 (match s.ent 1 with
 |some (.row false 9 (.str) y6)=>
 (match s.ent 2 with
 |some (.row false 9 (.str) y7)=>
 (match s.ent 3 with
 |some (.row false 9 (.str) y8)=>
 (match s.ent 4 with
 |some (.row false 204 (.pair .str (.sl 178 (.pair (.int .i64) (.pair .str (.int .i64))))) y9)=>
 (match s.ent 896 with
 |some (.row true 41 (.sl 2 (.int .i64)) y0)=>
 some (y0,y1,y2,y3,y4,y5,y6,y7,y8,y9)
 |_=>none)
 |_=>none)
 |_=>none)
 |_=>none)
 |_=>none)
 |_=>none)
 |_=>none)
 |_=>none)
 |_=>none)
 |_=>none)
 |_=>none)
def fT:Lp mR where
 h:=⟨[33,34,35,36,37,38,39,40,41,42,43,44,45,5],[1,2,3,4,5,6,7],[0],[]⟩
 JL:=ZX
 JE:=ZT
 XL:=aaf
 XE:=aab
 q:=fun j=>match j with | _=> .exit 4
 tags:= [0]
 lt:=Jl
 fuel:=fun(y0,y1,y2,y3,y4,y5,y6,y7,y8,y9)=>y0.length + y1.natAbs + y2.natAbs + y3.size + y4.size + y5.length + y6.length + y7.length + y8.length + y9.length
 fix:=fun(_,_,_,y3,y4,y5,y6,y7,y8,y9) (y0,y1,y2,_,_,_,_,_,_,_)=>(y0,y1,y2,y3,y4,y5,y6,y7,y8,y9)
 σ:= [(1,0),(2,448),(3,5),(4,1),(5,2),(6,3),(7,4),(0,896)]
 rd:=Jq
theorem YH:LoopOk prog (fun k=>Nat.blt k Tryz.f141.ntmps) fT.F (aY f141 1):=by
 refine Lp.ok (tbl:= (T3z [gj,af,cj])) (lf:= []) aV fT (by kernel_rfl) (LOk.nil _) (fun _=>rfl) (fun _ _=>rfl) ?_ ?_ ?_ ?_ (fun _=>rfl) ?_
 ·rintro⟨y0,y1,y2,y3,y4,y5,y6,y7,y8,y9⟩;kernel_rfl
 ·rintro⟨y0,y1,y2,y3,y4,y5,y6,y7,y8,y9⟩;kernel_rfl
 ·intro s x h
  have h:Jq s=some x:=h
  unfold Jq at h
  repeat' split at h
  all_goals cases h
  constructor<;>repeat(first|refine ab (by assumption) rfl ?_|refine aa rfl (by assumption) rfl ?_|exact rfl)
 ·rintro⟨y0,y1,y2,y3,y4,y5,y6,y7,y8,y9⟩;kernel_rfl
 ·rintro⟨y0,y1,y2,y3,y4,y5,y6,y7,y8,y9⟩ z;exact(And.intro rfl trivial)
section
variable (x0 x1:ByteArray)(x2 x3:Int)(x4 x5 x6:List ByteArray)(x7:List (ByteArray×List (Int×ByteArray×Int)))(x8:List Int)
def Hc:List Int×List ByteArray×List ByteArray×List ByteArray×List (ByteArray×List (Int×ByteArray×Int)):=(x8,x4,x5,x6,x7)
def Hd:Int×Int×Int×ByteArray×ByteArray×List (List Int)×List Int×List ByteArray×List ByteArray×List ByteArray×List (ByteArray×List (Int×ByteArray×Int)):=(nxV 8 x2 x3 x8,nxA 8 x2 x8,nxS 8 x2 x3 x8,x0,x1,[],Hc x4 x5 x6 x7 x8)
def Cz:Int×Int×ByteArray×ByteArray×List (List Int)×List Int×List ByteArray×List ByteArray×List ByteArray×List (ByteArray×List (Int×ByteArray×Int)):=(Lp.res jW (Hd x0 x1 x2 x3 x4 x5 x6 x7 x8)).2.2
def yO:Int:=(Cz x0 x1 x2 x3 x4 x5 x6 x7 x8).1
def He:Int×ByteArray×ByteArray×List (List Int)×List Int×List ByteArray×List ByteArray×List ByteArray×List (ByteArray×List (Int×ByteArray×Int)):=(Cz x0 x1 x2 x3 x4 x5 x6 x7 x8).2
def CA:Int:=(He x0 x1 x2 x3 x4 x5 x6 x7 x8).1
def CB:Bool:=nxV 80 (yO x0 x1 x2 x3 x4 x5 x6 x7 x8) (CA x0 x1 x2 x3 x4 x5 x6 x7 x8) x8==0
def Hf:List (List Int):=((He x0 x1 x2 x3 x4 x5 x6 x7 x8).2.2.2).1
def Hg:Int:=nxA 80 (yO x0 x1 x2 x3 x4 x5 x6 x7 x8) x8
def Hh:Int:=nxS 80 (yO x0 x1 x2 x3 x4 x5 x6 x7 x8) (CA x0 x1 x2 x3 x4 x5 x6 x7 x8) x8
def xz:List (List Int)×Int×Int×ByteArray×ByteArray×List Int×List ByteArray×List ByteArray×List ByteArray×List (ByteArray×List (Int×ByteArray×Int)):=(Hf x0 x1 x2 x3 x4 x5 x6 x7 x8,Hg x0 x1 x2 x3 x4 x5 x6 x7 x8,Hh x0 x1 x2 x3 x4 x5 x6 x7 x8,x0,x1,Hc x4 x5 x6 x7 x8)
def Bt:Int×Int×ByteArray×ByteArray×List Int×List ByteArray×List ByteArray×List ByteArray×List (ByteArray×List (Int×ByteArray×Int)):=(Lp.res fT (xz x0 x1 x2 x3 x4 x5 x6 x7 x8)).2.2
def FQ:Int:=(Bt x0 x1 x2 x3 x4 x5 x6 x7 x8).1
def qX:Int:=bif CB x0 x1 x2 x3 x4 x5 x6 x7 x8 then vX (FQ x0 x1 x2 x3 x4 x5 x6 x7 x8) x8 else Hg x0 x1 x2 x3 x4 x5 x6 x7 x8
def tF:Int:=bif CB x0 x1 x2 x3 x4 x5 x6 x7 x8 then uO (FQ x0 x1 x2 x3 x4 x5 x6 x7 x8) (((Bt x0 x1 x2 x3 x4 x5 x6 x7 x8).2).1) x8 else Hh x0 x1 x2 x3 x4 x5 x6 x7 x8
def aT:List (List Int):=bif CB x0 x1 x2 x3 x4 x5 x6 x7 x8 then ((Lp.res fT (xz x0 x1 x2 x3 x4 x5 x6 x7 x8)).2).1else Hf x0 x1 x2 x3 x4 x5 x6 x7 x8
def PI:Bool:=allT [aA x2 x3 x8,Lp.fin jW (Hd x0 x1 x2 x3 x4 x5 x6 x7 x8),aA (yO x0 x1 x2 x3 x4 x5 x6 x7 x8) (CA x0 x1 x2 x3 x4 x5 x6 x7 x8) x8,!CB x0 x1 x2 x3 x4 x5 x6 x7 x8||Lp.fin fT (xz x0 x1 x2 x3 x4 x5 x6 x7 x8)]
end
def Vw:List SV→List Entry→Option Out
 | [.one ⟨false,[.ptr 0 0]⟩,.one ⟨true,[.val (.string x0),.ref 1,.ref 2,.ref 3,.val (.string x1),.ref 4]⟩],[.box 197 [.ref 5,.val (.int .i64 x2),.val (.int .i64 x3)],.row false 9 (.str) x4,.row false 9 (.str) x5,.row false 9 (.str) x6,.row false 204 (.pair (.str) (.sl 178 (.pair (.int .i64) (.pair (.str) (.int .i64))))) x7,.row false 5 (.int .u8) x8]=>some ⟨.one ⟨false,[.ref 6]⟩,[.box 197 [.ref 5,.val (.int .i64 (qX x0 x1 x2 x3 x4 x5 x6 x7 x8)),.val (.int .i64 (tF x0 x1 x2 x3 x4 x5 x6 x7 x8))],.row false 9 alP x4,.row false 9 alP x5,.row false 9 alP x6,.row false 204 (CTy.pair CTy.str (CTy.sl (178:TypeId) acQ)) x7,.row false 5 aj7 x8],[.row true 41 ahT (aT x0 x1 x2 x3 x4 x5 x6 x7 x8)],[PI x0 x1 x2 x3 x4 x5 x6 x7 x8]⟩
 |_,_=>none
def afK:PF prog:=PF.ofG prog (T3z [gj,af,cj]) [jW.F,fT.F] aV 141 f141 func141 (LOk.fnT (l:= [aY f141 0,aY f141 1]) (by kernel_rfl) (.cons YG (.cons YH (.nil _)))) Vw (by
 intro vs es r h;unfold Vw at h;split at h
 ·cases h;kernel_rfl
 ·cases h)
theorem S1:(∀ b:Bool,(b||false)=b)∧((false=true)=False)∧(∀ a b:Bool,((a&&b)=true)=(a=true∧b=true))∧(∀ a b:Int,(ltI a b=true)=(a < b))∧(∀ a b:Int,(leI a b=true)=(a≤b))∧(∀ a b:Int,(ltI a b=false)=(b≤a))∧(∀ a b:Int,(leI a b=false)=(b < a)):=by and_intros <;> intros <;> simp
theorem S2:(∀ (α:Type) (a b:List α),(a++b).length=a.length + b.length)∧(∀ (α:Type) (a:α) (l:List α),(a::l).length=l.length + 1)∧(∀ α:Type,([]:List α).length=0):=by and_intros <;> intros <;> simp
theorem Pj{b:Bool}{l:List Bool}:allT (b::l)=true↔b=true∧allT l=true:=by cases b <;> simp [allT]
theorem Pk:allT []=true↔True:=by simp [allT]
theorem DF{α:Type}{t:Bool}{l l':List α}{n:Nat}(h:l.length≤n)(h':l'.length≤n):(bif t then l else l').length≤n:=by cases t <;> assumption
def LT.ok{X:Type}(J:X→Prop)(Q:Nat→Prop):LT X→Prop
 | .nrm x _=>J x
 | .ext j _=>Q j
 | .need nd t=>allT nd=true∧t.ok J Q
 | .ite b t e=>(b=true→t.ok J Q)∧(b=false→e.ok J Q)
theorem LT.ok_out{X:Type}{J:X→Prop}{Q:Nat→Prop}: ∀ {t:LT X},t.ok J Q→(∃ j,t.out=some (.inl j)∧Q j)∨ ∃ y,t.out=some (.inr y)∧J y
 | .nrm x _,h=> .inr ⟨x,rfl,h⟩
 | .ext j _,h=> .inl ⟨j,rfl,h⟩
 | .need nd t,h=>by
  simp only [LT.ok]at h
  simp only [LT.out,h.1,cond_true]
  exact LT.ok_out (t:=t) h.2
 | .ite b t e,h=>by
  simp only [LT.ok]at h
  simp only [LT.out]
  cases b with
  |true=>exact LT.ok_out (t:=t) (h.1 rfl)
  |false=>exact LT.ok_out (t:=e) (h.2 rfl)
theorem Lp.inv2{X:Type}(p:Lp X)(I:Nat→X→Prop)(Q:X→Prop)(hs: ∀ k x,I (k + 1) x→(p.lt x).ok (I k) (fun _=>Q x))(he: ∀ x,I 0 x→(p.lt x).ok (fun _=>False) (fun _=>Q x))
  (N:Nat) (x:X) (hN:N≤999) (h:I N x):p.fin x=true∧ ∃ j y,p.res x=(j,y)∧Q y:=
 p.inv I (fun _ y=>Q y) (fun k x hx=>LT.ok_out (hs k x hx)) (fun x hx=>by
  rcases LT.ok_out (he x hx)with h | ⟨_,_,h⟩
  ·exact h
  ·exact h.elim) N x hN h
theorem amG{α:Type}{l:List α}(h:ltI 0 (l.length:Int)=true):1≤l.length:=by have:=Vh.1 h;omega
 attribute [local irreducible] nxA nxS nxV pkA pkS pkV
theorem WL(c:List Int)(x:kA)(hx:match x with | (y0,y1,y2,y3,y4,y5,y6,y7,y8,y9,y10)=>(y6.length:Int)≤y0 + (50:Nat)∧0≤y0∧y0≤(y6.length:Int)∧(y3.length:Int)=y0∧aA y4 y5 y10=true∧y10=c∧y6.length≤50):
  gX.fin x=true∧ ∃ j y,gX.res x=(j,y)∧(match y with | (y0,y1,y2,y3,y4,y5,y6,y7,y8,y9,y10)=>aA y4 y5 c=true∧y3.length≤50∧c=y10):=by
 refine gX.inv2 (fun k x=>match x with | (y0,y1,y2,y3,y4,y5,y6,y7,y8,y9,y10)=>(y6.length:Int)≤y0 + k∧0≤y0∧y0≤(y6.length:Int)∧(y3.length:Int)=y0∧aA y4 y5 y10=true∧y10=c∧y6.length≤50) (fun y=>match y with | (y0,y1,y2,y3,y4,y5,y6,y7,y8,y9,y10)=>aA y4 y5 c=true∧y3.length≤50∧c=y10) (fun k x hx=> ?_) (fun x hx=> ?_) 50 x (by omega) hx
 ·obtain⟨y0,y1,y2,y3,y4,y5,y6,y7,y8,y9,y10⟩:=x
  obtain⟨h0,h1,h2,h3,h4,rfl,h6⟩:=hx
  skip
  simp only [gX,Gk,LT.ok,Pj,Pk,and_true,wj,HX,HY,HZ,Ia,Ib,Ic,Id,Ie,Bool.or_eq_true,Bool.and_eq_true]
  repeat' (first | refine And.intro ?_ ?_ | intro _)
  all_goals first
   |omega
   |(repeat (first | assumption | apply jJ | apply PX | apply pE | refine Or.inr ?_ | refine And.intro ?_ ?_ | exact trivial | exact ac7 _ _ | rfl)
     done)
   |((repeat refine Or.inr ?_)
     exact ci (by first | omega | (simp only [S2];omega)))
   |(simp only [S2]
     omega)
   |(repeat' apply DF
     all_goals first | omega | (simp only [S2];omega))
   |(try simp only [S1]at *
     rw [bi (by omega) (by omega)]
     first | omega | (simp only [S2];omega))
   |(simp only [S1]at *
     first | omega | (exfalso;omega))
   |(exfalso;simp_all;done)
 ·obtain⟨y0,y1,y2,y3,y4,y5,y6,y7,y8,y9,y10⟩:=x
  obtain⟨h0,h1,h2,h3,h4,rfl,h6⟩:=hx
  skip
  skip
  simp only [gX,Gk,LT.ok,Pj,Pk,and_true,wj,HX,HY,HZ,Ia,Ib,Ic,Id,Ie,Bool.or_eq_true,Bool.and_eq_true]
  repeat' (first | refine And.intro ?_ ?_ | intro _)
  all_goals first
   |omega
   |(repeat (first | assumption | apply jJ | apply PX | apply pE | refine Or.inr ?_ | refine And.intro ?_ ?_ | exact trivial | exact ac7 _ _ | rfl)
     done)
   |((repeat refine Or.inr ?_)
     exact ci (by first | omega | (simp only [S2];omega)))
   |(simp only [S2]
     omega)
   |(repeat' apply DF
     all_goals first | omega | (simp only [S2];omega))
   |(try simp only [S1]at *
     rw [bi (by omega) (by omega)]
     first | omega | (simp only [S2];omega))
   |(simp only [S1]at *
     first | omega | (exfalso;omega))
   |(exfalso;simp_all;done)
theorem HW(x0 x1:ByteArray)(x2 x3:Int)(x4 x5 x6:List ByteArray)(x7:List LN)(x8:List Int)(h:aA x2 x3 x8=true)(hi:x4.length≤50):
  FP x0 x1 x2 x3 x4 x5 x6 x7 x8=true∧aA (qG x0 x1 x2 x3 x4 x5 x6 x7 x8) (tE x0 x1 x2 x3 x4 x5 x6 x7 x8) x8=true∧(xy x0 x1 x2 x3 x4 x5 x6 x7 x8).length≤60:=by
 obtain⟨f0,j0,⟨z0,z1,z2,z3,z4,z5,z6,z7,z8,z9,z10⟩,g0,q1,q2,q3⟩:=WL x8 (EM x0 x1 x2 x3 x4 x5 x6 x7 x8) (by
  simp only [EM]
  exact⟨by omega,by omega,by omega,by simp,h,trivial,hi⟩)
 have e9:lg x0 x1 x2 x3 x4 x5 x6 x7 x8=z3:=by simp only [lg,zI,g0]
 have e3:vW x0 x1 x2 x3 x4 x5 x6 x7 x8=z4:=by simp only [vW,EN,zI,g0]
 have e4:zJ x0 x1 x2 x3 x4 x5 x6 x7 x8=z5:=by simp only [zJ,EN,zI,g0]
 have s7:aA (nj x0 x1 x2 x3 x4 x5 x6 x7 x8) (oH x0 x1 x2 x3 x4 x5 x6 x7 x8) x8=true:=by
  simp only [nj,oH,e3,e4];exact jJ q1
 have k1:leN (z3.length + [(0:Int)].length) 9223372036854775807=true:=ci (by simp only [List.length_singleton];omega)
 have k2:leN ((z3.length + [(0:Int)].length) * 8) 140737488355328=true:=ci (by simp only [List.length_singleton];omega)
 have k3:leN 1 (List.length [(-1:Int),2])=true:=rfl
 have k4:iJ x0 x1 x2 x3 x4 x5 x6 x7 x8=true→ltN (Int.toNat 0) z3.length=true:=fun hh=>by
  simp only [iJ,e9]at hh;exact gM (by have:=amG hh;simp only [Int.toNat_zero];omega)
 have k5:leI 0 0=true:=rfl
 refine⟨?_,?_,?_⟩
 ·simp only [FP,f0,e3,e4,e9,q1,s7,k1,k2,k3,k5,allT,Bool.or_true,Bool.and_self,cond_true]
  cases h10:iJ x0 x1 x2 x3 x4 x5 x6 x7 x8 with
  |true=>simp only [k4 h10,Bool.or_true,cond_true]
  |false=>simp only [Bool.not_false,Bool.true_or,Bool.or_true,cond_true]
 ·simp only [qG,tE]
  exact pE s7 (pE (pE (PX s7) s7) s7)
 ·simp only [xy,e9]
  refine DF (by rw [List.length_append,List.length_singleton];omega) (DF (DF (by rw [List.length_set];omega) (by omega)) (by omega))
theorem ajX{a s:Int}{c:List Int}{l:List ByteArray}:(aA a s c&&leN l.length 50)=true↔aA a s c=true∧l.length≤50:=by simp only [Bool.and_eq_true,jD]
def TE:List SV→List Entry→Option Out
 | [.one ⟨false,[.ptr 0 0]⟩,.one ⟨true,[.val (.string x0),.ref 1,.ref 2,.ref 3,.val (.string x1),.ref 4]⟩],[.box 197 [.ref 5,.val (.int .i64 x2),.val (.int .i64 x3)],.row false 9 (.str) x4,.row false 9 (.str) x5,.row false 9 (.str) x6,.row false 204 (.pair (.str) (.sl 178 (.pair (.int .i64) (.pair (.str) (.int .i64))))) x7,.row false 5 (.int .u8) x8]=>some ⟨.one ⟨false,[.ref 6]⟩,[.box 197 [.ref 5,.val (.int .i64 (qG x0 x1 x2 x3 x4 x5 x6 x7 x8)),.val (.int .i64 (tE x0 x1 x2 x3 x4 x5 x6 x7 x8))],.row false 9 alP x4,.row false 9 alP x5,.row false 9 alP x6,.row false 204 (CTy.pair CTy.str (CTy.sl (178:TypeId) acQ)) x7,.row false 5 aj7 x8],[.row true 2 ai3 (xy x0 x1 x2 x3 x4 x5 x6 x7 x8)],[aA x2 x3 x8&&leN x4.length 50]⟩
 |_,_=>none
def MD:PF prog:=PF.alt gj TE (by
 intro args es o h cD;unfold TE at h;split at h
 ·rename_i x0 x1 x2 x3 x4 x5 x6 x7 x8
  cases h
  have cD:=ln cD
  have hh:=(HW x0 x1 x2 x3 x4 x5 x6 x7 x8 (ajX.1 cD).1 (ajX.1 cD).2).1
  have en:=hh
  exact qy rfl (kw en) rfl rfl rfl
 ·cases h)
def Zl(n:Nat)(l:List (List Int)):Bool:=l.all fun x=>leN x.length n
theorem ajK{n:Nat}{l:List (List Int)}:Zl n l=true↔ ∀ x∈l,x.length≤n:=by simp only [Zl,List.all_eq_true,jD]
theorem agM{n:Nat}{a:List (List Int)}{b:List Int}(h:Zl n a=true)(hb:b.length≤n):Zl n (a++ [b])=true:=by
 refine ajK.2 fun x hx=> ?_
 rcases List.mem_append.1 hx with hx | hx
 ·exact ajK.1 h x hx
 ·rw [List.mem_singleton.1 hx];exact hb
theorem Vj(M:Nat)(x:jV)(hx:match x with | (y0,y1,y2)=>y0 + 1≤(4:Nat)∧ -1≤y0∧y2.length≤60∧y1.length + (4:Nat)≤M∧M≤1000∧Zl 60 y1=true):
  gd.fin x=true∧ ∃ j y,gd.res x=(j,y)∧(match y with | (y0,y1,y2)=>y1.length≤M∧Zl 60 y1=true):=by
 refine gd.inv2 (fun k x=>match x with | (y0,y1,y2)=>y0 + 1≤k∧ -1≤y0∧y2.length≤60∧y1.length + k≤M∧M≤1000∧Zl 60 y1=true) (fun y=>match y with | (y0,y1,y2)=>y1.length≤M∧Zl 60 y1=true) (fun k x hx=> ?_) (fun x hx=> ?_) 4 x (by omega) hx
 ·obtain⟨y0,y1,y2⟩:=x
  obtain⟨h0,h1,h2,h3,h4,h5⟩:=hx
  skip
  simp only [gd,EV,LT.ok,Pj,Pk,and_true,Gr,Gs,Gt,Gu,Gv,Gw,Bool.or_eq_true,Bool.and_eq_true]
  repeat' (first | refine And.intro ?_ ?_ | intro _)
  all_goals first
   |omega
   |(repeat (first | assumption | apply jJ | apply PX | apply pE | refine Or.inr ?_ | refine And.intro ?_ ?_ | exact trivial | exact ac7 _ _ | rfl | exact agM ‹_› ‹_›)
     done)
   |((repeat refine Or.inr ?_)
     exact ci (by first | omega | (simp only [S2];omega)))
   |(simp only [S2]
     omega)
   |(repeat' apply DF
     all_goals first | omega | (simp only [S2];omega))
   |(try simp only [S1]at *
     rw [bi (by omega) (by omega)]
     first | omega | (simp only [S2];omega))
   |(simp only [S1]at *
     first | omega | (exfalso;omega))
   |(exfalso;simp_all;done)
 ·obtain⟨y0,y1,y2⟩:=x
  obtain⟨h0,h1,h2,h3,h4,h5⟩:=hx
  skip
  skip
  simp only [gd,EV,LT.ok,Pj,Pk,and_true,Gr,Gs,Gt,Gu,Gv,Gw,Bool.or_eq_true,Bool.and_eq_true]
  repeat' (first | refine And.intro ?_ ?_ | intro _)
  all_goals first
   |omega
   |(repeat (first | assumption | apply jJ | apply PX | apply pE | refine Or.inr ?_ | refine And.intro ?_ ?_ | exact trivial | exact ac7 _ _ | rfl | exact agM ‹_› ‹_›)
     done)
   |((repeat refine Or.inr ?_)
     exact ci (by first | omega | (simp only [S2];omega)))
   |(simp only [S2]
     omega)
   |(repeat' apply DF
     all_goals first | omega | (simp only [S2];omega))
   |(try simp only [S1]at *
     rw [bi (by omega) (by omega)]
     first | omega | (simp only [S2];omega))
   |(simp only [S1]at *
     first | omega | (exfalso;omega))
   |(exfalso;simp_all;done)
theorem YS(c:List Int)(x:mR)(hx:match x with | (y0,y1,y2,y3,y4,y5,y6,y7,y8,y9)=>202≤y0.length + (202:Nat)∧aA y1 y2 y5=true∧y6.length≤50∧y0.length + (202:Nat)≤432∧Zl 60 y0=true∧y5=c):
  fT.fin x=true∧ ∃ j y,fT.res x=(j,y)∧(match y with | (y0,y1,y2,y3,y4,y5,y6,y7,y8,y9)=>aA y1 y2 c=true∧y0.length≤432∧Zl 60 y0=true∧c=y5):=by
 refine fT.inv2 (fun k x=>match x with | (y0,y1,y2,y3,y4,y5,y6,y7,y8,y9)=>202≤y0.length + k∧aA y1 y2 y5=true∧y6.length≤50∧y0.length + k≤432∧Zl 60 y0=true∧y5=c) (fun y=>match y with | (y0,y1,y2,y3,y4,y5,y6,y7,y8,y9)=>aA y1 y2 c=true∧y0.length≤432∧Zl 60 y0=true∧c=y5) (fun k x hx=> ?_) (fun x hx=> ?_) 202 x (by omega) hx
 ·obtain⟨y0,y1,y2,y3,y4,y5,y6,y7,y8,y9⟩:=x
  obtain⟨h0,h1,h2,h3,h4,rfl⟩:=hx
  have nn:=Ln (n:=2) h1 (by omega);have hw:IntKind.i64.wrap (200 + nxV 2 y1 y2 y5)=200 + nxV 2 y1 y2 y5:=bi (by omega) (by omega);have hz:Zl 60 (y0++ [List.replicate (Int.toNat (↑y6.length:Int)) (0:Int)])=true:=agM h4 (by rw [List.length_replicate,Int.toNat_natCast];omega)
  simp only [fT,Jl,LT.ok,Pj,Pk,and_true,yG,KY,KZ,La,Lb,Lc,Ld,Le,Lf,Lg,vX,uO,Bool.or_eq_true,Bool.and_eq_true]
  repeat' (first | refine And.intro ?_ ?_ | intro _)
  all_goals first
   |omega
   |(repeat (first | assumption | apply jJ | apply PX | apply pE | refine Or.inr ?_ | refine And.intro ?_ ?_ | exact trivial | exact ac7 _ _ | rfl)
     done)
   |((repeat refine Or.inr ?_)
     exact ci (by first | omega | (simp only [S2];omega)))
   |(simp only [S2]
     omega)
   |(repeat' apply DF
     all_goals first | omega | (simp only [S2];omega))
   |(try simp only [S1]at *
     rw [bi (by omega) (by omega)]
     first | omega | (simp only [S2];omega))
   |(simp only [S1]at *
     first | omega | (exfalso;omega))
   |(exfalso;simp_all;done)
 ·obtain⟨y0,y1,y2,y3,y4,y5,y6,y7,y8,y9⟩:=x
  obtain⟨h0,h1,h2,h3,h4,rfl⟩:=hx
  have nn:=Ln (n:=2) h1 (by omega);have hw:IntKind.i64.wrap (200 + nxV 2 y1 y2 y5)=200 + nxV 2 y1 y2 y5:=bi (by omega) (by omega);have hz:Zl 60 (y0++ [List.replicate (Int.toNat (↑y6.length:Int)) (0:Int)])=true:=agM h4 (by rw [List.length_replicate,Int.toNat_natCast];omega)
  have e0:ltI (y0.length:Int) (IntKind.i64.wrap (200 + nxV 2 y1 y2 y5))=false:=by rw [hw];exact NM (by omega)
  simp only [fT,Jl,LT.ok,Pj,Pk,and_true,yG,KY,KZ,La,Lb,Lc,Ld,Le,Lf,Lg,vX,uO,Bool.or_eq_true,Bool.and_eq_true]
  repeat' (first | refine And.intro ?_ ?_ | intro _)
  all_goals first
   |omega
   |(repeat (first | assumption | apply jJ | apply PX | apply pE | refine Or.inr ?_ | refine And.intro ?_ ?_ | exact trivial | exact ac7 _ _ | rfl)
     done)
   |((repeat refine Or.inr ?_)
     exact ci (by first | omega | (simp only [S2];omega)))
   |(simp only [S2]
     omega)
   |(repeat' apply DF
     all_goals first | omega | (simp only [S2];omega))
   |(try simp only [S1]at *
     rw [bi (by omega) (by omega)]
     first | omega | (simp only [S2];omega))
   |(simp only [S1]at *
     first | omega | (exfalso;omega))
   |(exfalso;simp_all;done)
theorem YR(c:List Int)(x:mQ)(hx:match x with | (y0,y1,y2,y3,y4,y5,y6,y7,y8,y9,y10)=>y0≤((7:Nat):Int)∧aA y1 y2 y6=true∧y7.length≤50∧y5.length + 4 * (7:Nat)≤28∧Zl 60 y5=true∧y6=c):
  jW.fin x=true∧ ∃ j y,jW.res x=(j,y)∧(match y with | (y0,y1,y2,y3,y4,y5,y6,y7,y8,y9,y10)=>aA y1 y2 c=true∧y5.length≤28∧Zl 60 y5=true∧c=y6):=by
 refine jW.inv2 (fun k x=>match x with | (y0,y1,y2,y3,y4,y5,y6,y7,y8,y9,y10)=>y0≤(k:Int)∧aA y1 y2 y6=true∧y7.length≤50∧y5.length + 4 * k≤28∧Zl 60 y5=true∧y6=c) (fun y=>match y with | (y0,y1,y2,y3,y4,y5,y6,y7,y8,y9,y10)=>aA y1 y2 c=true∧y5.length≤28∧Zl 60 y5=true∧c=y6) (fun k x hx=> ?_) (fun x hx=> ?_) 7 x (by omega) hx
 ·obtain⟨y0,y1,y2,y3,y4,y5,y6,y7,y8,y9,y10⟩:=x
  obtain⟨h0,h1,h2,h3,h4,rfl⟩:=hx
  obtain⟨d1,d2,d3⟩:=HW y3 y4 y1 y2 y7 y8 y9 y10 y6 h1 h2
  have n4:=Ln (n:=4) d2 (by omega)
  obtain⟨f0,j0,⟨z0,z1,z2⟩,g0,q1,q2⟩:=Vj (y5.length + 4) (CV y1 y2 y3 y4 y5 y6 y7 y8 y9 y10) (by
   simp only [CV]
   exact⟨by omega,by omega,d3,by omega,by omega,h4⟩)
  have p1:KV y1 y2 y3 y4 y6 y7 y8 y9 y10=true:=by first | exact d1 | (simp only [KV,h1,Bool.true_and];exact ci h2)
  have p2:Sw y1 y2 y3 y4 y6 y7 y8 y9 y10=true:=d2
  have p3:Sx y1 y2 y3 y4 y5 y6 y7 y8 y9 y10=true:=f0
  have p7:KX y1 y2 y3 y4 y5 y6 y7 y8 y9 y10=z1:=by simp only [KX,g0]
  have p56:aA (Sy y1 y2 y3 y4 y6 y7 y8 y9 y10) (Sz y1 y2 y3 y4 y6 y7 y8 y9 y10) y6=true:=jJ d2
  have w4:ltI 0 y0=true→KW y0≤(k:Int):=fun h=>by
   have:=Vh.1 h
   simp only [KW];rw [bi (by omega) (by omega)];omega
  simp only [jW,Jk,LT.ok,Pj,Pk,and_true,true_and,p1,p2,p3,p7,KU]
  exact⟨fun h=>⟨w4 h,p56,h2,by omega,q2⟩,fun _=>⟨h1,by omega,h4⟩⟩
 ·obtain⟨y0,y1,y2,y3,y4,y5,y6,y7,y8,y9,y10⟩:=x
  obtain⟨h0,h1,h2,h3,h4,rfl⟩:=hx
  have e0:ltI 0 y0=false:=NM (by omega)
  simp only [jW,Jk,LT.ok,KU,e0,Bool.false_eq_true,false_implies,true_implies,true_and,and_true]
  exact⟨h1,by omega,h4⟩
theorem Sv(x0 x1:ByteArray)(x2 x3:Int)(x4 x5 x6:List ByteArray)(x7:List LN)(x8:List Int)(h:aA x2 x3 x8=true)(hi:x4.length≤50):
  PI x0 x1 x2 x3 x4 x5 x6 x7 x8=true∧aA (qX x0 x1 x2 x3 x4 x5 x6 x7 x8) (tF x0 x1 x2 x3 x4 x5 x6 x7 x8) x8=true∧(aT x0 x1 x2 x3 x4 x5 x6 x7 x8).length≤432∧Zl 60 (aT x0 x1 x2 x3 x4 x5 x6 x7 x8)=true:=by
 have n8:=Ln (n:=8) h (by omega)
 obtain⟨f0,j0,⟨z0,z1,z2,z3,z4,z5,z6,z7,z8,z9,z10⟩,g0,q1,q2,q3,q4⟩:=YR x8 (Hd x0 x1 x2 x3 x4 x5 x6 x7 x8) (by
  simp only [Hd,Hc]
  exact⟨by omega,jJ h,hi,by simp,rfl,trivial⟩)
 have e3:yO x0 x1 x2 x3 x4 x5 x6 x7 x8=z1:=by simp only [yO,Cz,g0]
 have e5:CA x0 x1 x2 x3 x4 x5 x6 x7 x8=z2:=by simp only [CA,He,Cz,g0]
 have e7:Hf x0 x1 x2 x3 x4 x5 x6 x7 x8=z5:=by simp only [Hf,He,Cz,g0]
 have s8:aA (Hg x0 x1 x2 x3 x4 x5 x6 x7 x8) (Hh x0 x1 x2 x3 x4 x5 x6 x7 x8) x8=true:=by simp only [Hg,Hh,e3,e5];exact jJ q1
 obtain⟨f1,j1,⟨u0,u1,u2,u3,u4,u5,u6,u7,u8,u9⟩,g1,r1,r2,r3,r4⟩:=YS x8 (xz x0 x1 x2 x3 x4 x5 x6 x7 x8) (by
  simp only [xz,Hc,e7]
  exact⟨by omega,s8,hi,by omega,q3,trivial⟩)
 have e12:FQ x0 x1 x2 x3 x4 x5 x6 x7 x8=u1:=by simp only [FQ,Bt,g1]
 have e13:((Bt x0 x1 x2 x3 x4 x5 x6 x7 x8).2).1=u2:=by simp only [Bt,g1]
 have e14:((Lp.res fT (xz x0 x1 x2 x3 x4 x5 x6 x7 x8)).2).1=u0:=by simp only [g1]
 refine⟨?_,?_,?_,?_⟩
 ·simp only [PI,h,f0,f1,e3,e5,q1,allT,Bool.or_true,cond_true]
 ·simp only [qX,tF,e12,e13,vX,uO]
  exact pE (jJ r1) s8
 ·simp only [aT,e7,e14]
  exact DF r2 (by omega)
 ·simp only [aT,e7,e14]
  cases CB x0 x1 x2 x3 x4 x5 x6 x7 x8
  ·exact q3
  ·exact r3
def Vz:List SV→List Entry→Option Out
 | [.one ⟨false,[.ptr 0 0]⟩,.one ⟨true,[.val (.string x0),.ref 1,.ref 2,.ref 3,.val (.string x1),.ref 4]⟩],[.box 197 [.ref 5,.val (.int .i64 x2),.val (.int .i64 x3)],.row false 9 (.str) x4,.row false 9 (.str) x5,.row false 9 (.str) x6,.row false 204 (.pair (.str) (.sl 178 (.pair (.int .i64) (.pair (.str) (.int .i64))))) x7,.row false 5 (.int .u8) x8]=>some ⟨.one ⟨false,[.ref 6]⟩,[.box 197 [.ref 5,.val (.int .i64 (qX x0 x1 x2 x3 x4 x5 x6 x7 x8)),.val (.int .i64 (tF x0 x1 x2 x3 x4 x5 x6 x7 x8))],.row false 9 alP x4,.row false 9 alP x5,.row false 9 alP x6,.row false 204 (CTy.pair CTy.str (CTy.sl (178:TypeId) acQ)) x7,.row false 5 aj7 x8],[.row true 41 ahT (aT x0 x1 x2 x3 x4 x5 x6 x7 x8)],[aA x2 x3 x8&&leN x4.length 50]⟩
 |_,_=>none
def Ac:PF prog:=PF.alt afK Vz (by
 intro args es o h cD;unfold Vz at h;split at h
 ·rename_i x0 x1 x2 x3 x4 x5 x6 x7 x8
  cases h
  have cD:=ln cD
  have hh:=(Sv x0 x1 x2 x3 x4 x5 x6 x7 x8 (ajX.1 cD).1 (ajX.1 cD).2).1
  have en:=hh
  exact qy rfl (kw en) rfl rfl rfl
 ·cases h)
end Go.SX
namespace Go.SX
open Go.Proofs Go.Proofs.Tryz
set_option maxRecDepth 100000
def Pp(n:Nat)(l:List ByteArray):Bool:=leN l.length n&&l.all fun s=>leN s.size 1000
def Sk(n:Nat)(l:List TM):Bool:=leN l.length n&&l.all fun t=>leN t.2.1.size 1000
def YC(n:Nat)(ls:List LN):Bool:=leN ls.length n&&ls.all fun l=>leN l.1.size 1000&&Sk 1000 l.2
def prD(nm:ByteArray)(ins vs os:List ByteArray)(g:ByteArray)(ls:List LN):Bool:=leN nm.size 1000&&(Pp 50 ins&&(Pp 50 vs&&(Pp 50 os&&(leN g.size 1000&&YC 100 ls))))
theorem sM{n:Nat}{l:List ByteArray}:Pp n l=true↔l.length≤n∧ ∀ s∈l,s.size≤1000:=by simp only [Pp,Bool.and_eq_true,jD,List.all_eq_true]
theorem Nb{n:Nat}{l:List TM}:Sk n l=true↔l.length≤n∧ ∀ t∈l,t.2.1.size≤1000:=by simp only [Sk,Bool.and_eq_true,jD,List.all_eq_true]
theorem OA{n:Nat}{l:List LN}:YC n l=true↔l.length≤n∧ ∀ x∈l,x.1.size≤1000∧Sk 1000 x.2=true:=by simp only [YC,Bool.and_eq_true,jD,List.all_eq_true]
theorem Np{nm:ByteArray}{ins vs os:List ByteArray}{g:ByteArray}{ls:List LN}:prD nm ins vs os g ls=true↔
  nm.size≤1000∧Pp 50 ins=true∧Pp 50 vs=true∧Pp 50 os=true∧g.size≤1000∧YC 100 ls=true:=by simp only [prD,Bool.and_eq_true,jD]
theorem ah5{n m:Nat}{l:List ByteArray}(h:Pp n l=true)(hm:n≤m):Pp m l=true:=by
 obtain⟨h1,h2⟩:=sM.1 h;exact sM.2 ⟨by omega,h2⟩
theorem aqb{n m:Nat}{l:List LN}(h:YC n l=true)(hm:n≤m):YC m l=true:=by
 obtain⟨h1,h2⟩:=OA.1 h;exact OA.2 ⟨by omega,h2⟩
theorem aks{n m k:Nat}{a b:List ByteArray}(ha:Pp n a=true)(hb:Pp m b=true)(h:n + m≤k):Pp k (a++b)=true:=by
 obtain⟨h1,h2⟩:=sM.1 ha;obtain⟨h3,h4⟩:=sM.1 hb
 exact sM.2 ⟨by rw [List.length_append];omega,fun s hs=>(List.mem_append.1 hs).elim (h2 s) (h4 s)⟩
theorem Zz{n:Nat}(k:Nat){l:List ByteArray}(h:Pp n l=true):Pp n (l.take k)=true:=by
 obtain⟨h1,h2⟩:=sM.1 h
 exact sM.2 ⟨by rw [List.length_take];omega,fun s hs=>h2 s (List.mem_of_mem_take hs)⟩
theorem aqW{n:Nat}{a:List LN}{b:LN}(ha:YC n a=true)(h1:b.1.size≤1000)(h2:Sk 1000 b.2=true):YC (n + 1) (a++ [b])=true:=by
 obtain⟨k1,k2⟩:=OA.1 ha
 refine OA.2 ⟨by rw [List.length_append,List.length_singleton];omega,fun x hx=> ?_⟩
 rcases List.mem_append.1 hx with hx | hx
 ·exact k2 x hx
 ·rw [List.mem_singleton.1 hx];exact⟨h1,h2⟩
theorem apv{n m:Nat}{l:List TM}(h:dtL n l)(hm:n≤m):Sk m l=true:=Nb.2 ⟨by have:=h.2.1;omega,h.2.2⟩
theorem akr{n:Nat}{l:List ByteArray}(h:Pp n l=true)(k:Nat):(Option.getD l[k]? ByteArray.empty).size≤1000:=by
 cases hk:l[k]? with
 |none=>exact Nat.zero_le _
 |some s=>exact(sM.1 h).2 s (List.mem_of_getElem? hk)
 attribute [local irreducible] nxA nxS nxV pkA pkS pkV
theorem adn(c:List Int)(x:sd)(hx:match x with | (y0,y1,y2,y3,y4,y5)=>y0.length≤(5:Nat)∧Pp 50 y0=true∧aA y1 y2 y5=true∧(y3.length + y0.length≤50∧1≤y3.length + y0.length)∧YC y3.length y3=true∧anJ y4=true∧y5=c):
  mI.fin x=true∧ ∃ j y,mI.res x=(j,y)∧(match y with | (y0,y1,y2,y3,y4,y5)=>aA y1 y2 c=true∧(1≤y3.length∧y3.length≤50)∧YC y3.length y3=true∧c=y5):=by
 refine mI.inv2 (fun k x=>match x with | (y0,y1,y2,y3,y4,y5)=>y0.length≤k∧Pp 50 y0=true∧aA y1 y2 y5=true∧(y3.length + y0.length≤50∧1≤y3.length + y0.length)∧YC y3.length y3=true∧anJ y4=true∧y5=c) (fun y=>match y with | (y0,y1,y2,y3,y4,y5)=>aA y1 y2 c=true∧(1≤y3.length∧y3.length≤50)∧YC y3.length y3=true∧c=y5) (fun k x hx=> ?_) (fun x hx=> ?_) 5 x (by omega) hx
 ·obtain⟨y0,y1,y2,y3,y4,y5⟩:=x
  obtain⟨h0,h1,h2,⟨h3,h4⟩,h5,h6,rfl⟩:=hx
  cases ht:ltI 0 (y0.length:Int)with
  |false=>
   have:=aaw.1 ht
   simp only [mI,Jj,LT.ok,Lv,ht,Bool.false_eq_true,false_implies,true_implies,true_and,and_true]
   exact⟨h2,by omega,h5⟩
  |true=>
   have hp:=amG ht
   obtain⟨i0,i1⟩:=Ln (n:=(y0.length:Int)) h2 (by omega)
   have s5:aA (nxA (y0.length:Int) y1 y5) (nxS (y0.length:Int) y1 y2 y5) y5=true:=jJ h2
   have n4:=Ln (n:=4) s5 (by omega)
   have s12:aA (Ak y0 y1 y5) (Al y0 y1 y2 y5) y5=true:=jJ s5
   have d:dtN 3 (Aj y0 y1 y2 y5) (Ak y0 y1 y5) (Al y0 y1 y2 y5) y4 y5=true:=OH.2 ⟨by simp only [Aj];omega,s12,h6⟩
   obtain⟨_,t01,t2⟩:=aqI _ _ _ y4 y5 d
   have hw:Jw y0 y1 y2 y5=nxV (y0.length:Int) y1 y2 y5 + 1:=bi (by omega) (by omega)
   have l3:(Jv y0 y1 y2 y4 y5).length=1:=rfl
   have l4:(wH y0 y1 y2 y5).length=(nxV (y0.length:Int) y1 y2 y5).toNat:=by
    simp only [wH,Int.toNat_zero,List.drop_zero,List.length_take];omega
   have l6:(Ei y0 y1 y2 y5).length=y0.length - (nxV (y0.length:Int) y1 y2 y5 + 1).toNat:=by
    simp only [Ei,hw,Int.toNat_natCast,List.take_length,List.length_drop]
   have m18:Pp 50 (Ai y0 y1 y2 y5)=true:=by
    refine sM.2 ⟨by simp only [Ai,List.length_append,l4,l6];omega,fun s hs=> ?_⟩
    simp only [Ai,List.mem_append]at hs
    rcases hs with hs | hs
    ·exact(sM.1 h1).2 s (List.mem_of_mem_take (List.mem_of_mem_drop hs))
    ·exact(sM.1 h1).2 s (List.mem_of_mem_take (List.mem_of_mem_drop hs))
   have p1:XQ y1 y2 y5=true:=h2
   have p2:RK y0 y1 y2 y5=true:=cM i0
   have p3:XR y0 y1 y2 y5=true:=fv i1
   have p4:XS y0 y1 y2 y5=true:=gM (by omega)
   have p5:XT y0 y1 y2 y5=true:=s5
   have p6:XU y0 y1 y2 y4 y5=true:=d
   have p7:XV y0 y1 y2 y3 y4 y5=true:=ci (by rw [l3];omega)
   have p8:XW y0 y1 y2 y3 y4 y5=true:=ci (by rw [l3];omega)
   have p9:XX=true:=rfl
   have p10:Wz y0 y1 y2 y5=true:=cM (by omega)
   have p11:WA y0 y1 y2 y5=true:=ci (by rw [l4];omega)
   have p12:WB y0 y1 y2 y5=true:=ci (by rw [l4];omega)
   have p13:WC y0 y1 y2 y5=true:=cM (by rw [hw];omega)
   have p14:WD y0 y1 y2 y5=true:=cM (by rw [hw];omega)
   have p15:WE y0=true:=cM (by omega)
   have p16:WF y0 y1 y2 y5=true:=ci (by rw [l4,l6];omega)
   have p17:WG y0 y1 y2 y5=true:=ci (by rw [l4,l6];omega)
   have l18:(Ai y0 y1 y2 y5).length=y0.length - 1:=by simp only [Ai,List.length_append,l4,l6];omega
   have l21:(Ju y0 y1 y2 y3 y4 y5).length=y3.length + 1:=by simp only [Ju,List.length_append,l3]
   have m21:YC (y3.length + 1) (Ju y0 y1 y2 y3 y4 y5)=true:=aqW h5 (akr h1 _) (apv t2 (by omega))
   simp only [mI,Jj,LT.ok,Lv,ht,Bool.false_eq_true,reduceCtorEq,false_implies,true_implies,true_and,and_true,Pj,Pk,p1,p2,p3,p4,p5,p6,p7,p8,p9,p10,p11,p12,p13,p14,p15,p16,p17]
   exact⟨by omega,m18,t01,by omega,by rw [l21];exact m21,h6⟩
 ·obtain⟨y0,y1,y2,y3,y4,y5⟩:=x
  obtain⟨h0,h1,h2,⟨h3,h4⟩,h5,h6,rfl⟩:=hx
  have ht:ltI 0 (y0.length:Int)=false:=NM (by omega)
  simp only [mI,Jj,LT.ok,Lv,ht,Bool.false_eq_true,false_implies,true_implies,true_and,and_true]
  exact⟨h2,by omega,h5⟩
theorem RJ(x0 x1:Int)(x2:List Int)(h:aA x0 x1 x2=true):
  Wy x0 x1 x2=true∧aA (qe x0 x1 x2) (Bk x0 x1 x2) x2=true∧(prD (qd x0 x1 x2) (mP x0 x1 x2) (eH x0 x1 x2) (qf x0 x1 x2) (rr x0 x1 x2) (gk x0 x1 x2)=true∧1≤(mP x0 x1 x2).length)∧1≤(gk x0 x1 x2).length∧(gk x0 x1 x2).length≤50:=by
 have n3:=Ln (n:=3) h (by omega)
 have s1:aA (nxA 3 x0 x2) (nxS 3 x0 x1 x2) x2=true:=jJ h
 have n4:0≤zf x0 x1 x2∧zf x0 x1 x2 < 4:=Ln (n:=4) s1 (by omega)
 have s2:aA (zg x0 x2) (Ff x0 x1 x2) x2=true:=jJ s1
 have n2:=Ln (n:=2) s2 (by omega)
 have s3:aA (nxA 2 (zg x0 x2) x2) (nxS 2 (zg x0 x2) (Ff x0 x1 x2) x2) x2=true:=jJ s2
 have w6:Cb x0 x1 x2=1 + nxV 3 x0 x1 x2:=bi (by omega) (by omega)
 have w4:Ca x0 x1 x2=1 + nxV 2 (zg x0 x2) (Ff x0 x1 x2) x2:=bi (by omega) (by omega)
 have l7:(pM x0 x1 x2).length=(Cb x0 x1 x2).toNat:=by simp only [pM,List.length_take,List.length_cons,List.length_nil];omega
 have l1:(jR x0 x1 x2).length=(zf x0 x1 x2).toNat:=by simp only [jR,List.length_take,List.length_cons,List.length_nil];omega
 have l5:(rt x0 x1 x2).length=(Ca x0 x1 x2).toNat:=by simp only [rt,List.length_take,List.length_cons,List.length_nil];omega
 have m7:Pp 3 (pM x0 x1 x2)=true:=Zz _ rfl
 have m1:Pp 3 (jR x0 x1 x2)=true:=Zz _ rfl
 have m5:Pp 2 (rt x0 x1 x2)=true:=Zz _ rfl
 have m8:Pp 6 (my x0 x1 x2)=true:=aks m7 m1 (by omega)
 have l8:(my x0 x1 x2).length=(pM x0 x1 x2).length + (jR x0 x1 x2).length:=by simp only [my,List.length_append]
 have d8:anJ (my x0 x1 x2)=true:=ZA.2 ⟨by omega,by omega,(sM.1 m8).2⟩
 obtain⟨f0,j0,⟨z0,z1,z2,z3,z4,z5⟩,g0,q1,q2,q3,q4⟩:=adn x2 (OU x0 x1 x2) (by
  simp only [OU]
  exact⟨by rw [List.length_append];omega,aks m1 m5 (by omega),s3,⟨by rw [List.length_append,List.length_nil];omega,by rw [List.length_append,List.length_nil];omega⟩,rfl,d8,trivial⟩)
 have e11:oh x0 x1 x2=z1:=by simp only [oh,HT,g0]
 have e13:Dd x0 x1 x2=z2:=by simp only [Dd,NC,HT,g0]
 have e7:gk x0 x1 x2=z3:=by simp only [gk,NC,HT,g0]
 have s4:aA (nxA 3 (oh x0 x1 x2) x2) (De x0 x1 x2) x2=true:=by simp only [De,e11,e13];exact jJ q1
 have n8:0≤Ah x0 x1 x2∧Ah x0 x1 x2 < ((my x0 x1 x2).length:Int):=Ln (n:=((my x0 x1 x2).length:Int)) s4 (by omega)
 have q1':aA (oh x0 x1 x2) (Dd x0 x1 x2) x2=true:=by rw [e11,e13];exact q1
 have k1:=cM n8.1
 have k2:=fv n8.2
 have k3:ltN (Ah x0 x1 x2).toNat (my x0 x1 x2).length=true:=gM (by omega)
 refine⟨?_,?_,⟨?_,?_⟩,?_,?_⟩
 ·have u1:leI 0 (Cb x0 x1 x2)=true:=cM (by omega)
  have u2:leI (Cb x0 x1 x2) (([ByteArray.mk #[97],ByteArray.mk #[98],ByteArray.mk #[107,101,121]]:List ByteArray).length:Int)=true:=cM (by simp only [List.length_cons,List.length_nil];omega)
  have u3:leI 0 (zf x0 x1 x2)=true:=cM (by omega)
  have u4:leI (zf x0 x1 x2) (([ByteArray.mk #[120],ByteArray.mk #[121],ByteArray.mk #[122]]:List ByteArray).length:Int)=true:=cM (by simp only [List.length_cons,List.length_nil];omega)
  have u5:leI 0 (Ca x0 x1 x2)=true:=cM (by omega)
  have u6:leI (Ca x0 x1 x2) (([ByteArray.mk #[113],ByteArray.mk #[108,97,109,112]]:List ByteArray).length:Int)=true:=cM (by simp only [List.length_cons,List.length_nil];omega)
  have b: ∀ (i j:Nat),i≤100→j≤100→leN (i + j) 9223372036854775807=true∧leN ((i + j) * 16) 140737488355328=true:=fun i j hi hj=>⟨ci (by omega),ci (by omega)⟩
  obtain⟨b1,b2⟩:=b (pM x0 x1 x2).length (jR x0 x1 x2).length (by omega) (by omega)
  obtain⟨b3,b4⟩:=b (jR x0 x1 x2).length (rt x0 x1 x2).length (by omega) (by omega)
  obtain⟨b5,b6⟩:=b 0 (pM x0 x1 x2).length (by omega) (by omega)
  obtain⟨b7,b8⟩:=b 0 (jR x0 x1 x2).length (by omega) (by omega)
  obtain⟨b9,b10⟩:=b 0 (rt x0 x1 x2).length (by omega) (by omega)
  have c17:SW x0 x1 x2=true:=b5
  have c18:SY x0 x1 x2=true:=b6
  have c19:SZ x0 x1 x2=true:=b7
  have c20:Ta x0 x1 x2=true:=b8
  simp only [Wy,h,s1,s2,q1',s4,f0,u1,u2,u3,u4,u5,u6,b1,b2,b3,b4,b9,b10,c17,c18,c19,c20,k1,k2,k3,allT,Bool.or_true,cond_true]
 ·simp only [qe,Bk];exact pE (jJ s4) s4
 ·refine Np.2 ⟨?_,ah5 m7 (by omega),ah5 m1 (by omega),ah5 m5 (by omega),?_,?_⟩
  ·simp only [qd];cases rE x0 x1 x2 <;> exact(by decide)
  ·simp only [rr]
   cases rE x0 x1 x2
   ·exact Nat.zero_le _
   ·exact akr m8 _
  ·rw [e7];exact aqb q3 (by omega)
 ·simp only [mP,l7];omega
 ·rw [e7];exact q2.1
 ·rw [e7];exact q2.2
def act:List SV→List Entry→Option Out
 | [.one ⟨false,[.ptr 0 0]⟩],[.box 197 [.ref 1,.val (.int .i64 x0),.val (.int .i64 x1)],.row false 5 (.int .u8) x2]=>some ⟨.one ⟨true,[.val (.string (qd x0 x1 x2)),.ref 2,.ref 3,.ref 4,.val (.string (rr x0 x1 x2)),.ref 5]⟩,[.box 197 [.ref 1,.val (.int .i64 (qe x0 x1 x2)),.val (.int .i64 (Bk x0 x1 x2))],.row false 5 aj7 x2],[.row true 9 alP (mP x0 x1 x2),.row true 9 alP (eH x0 x1 x2),.row true 9 alP (qf x0 x1 x2),.row true 204 aas (gk x0 x1 x2)],[aA x0 x1 x2]⟩
 |_,_=>none
def ri:PF prog:=PF.alt akG act (by
 intro args es o h cD;unfold act at h;split at h
 ·rename_i x0 x1 x2
  cases h
  have cD:=ln cD
  have hh:=(RJ x0 x1 x2 cD).1
  have en:=hh
  exact qy rfl (kw en) rfl rfl rfl
 ·cases h)
end Go.SX
namespace Go.SX
open Go.Proofs Go.Proofs.Tryz
set_option maxRecDepth 100000
theorem aoc{n:Nat}{a:List TM}{k m:Int}{s:ByteArray}(h:Sk n a=true)(hl:a.length + 1≤n)(hs:s.size≤1000):Sk n (a++ [(k,s,m)])=true:=by
 obtain⟨h1,h2⟩:=Nb.1 h
 refine Nb.2 ⟨by rw [List.length_append,List.length_singleton];omega,fun t ht=> ?_⟩
 rcases List.mem_append.1 ht with ht | ht
 ·exact h2 t ht
 ·rw [List.mem_singleton.1 ht];exact hs
theorem ak5{n:Nat}{a:List TM}(i:Nat){k m:Int}{s:ByteArray}(h:Sk n a=true)(hs:s.size≤1000):Sk n (a.set i (k,s,m))=true:=by
 obtain⟨h1,h2⟩:=Nb.1 h
 refine Nb.2 ⟨by rw [List.length_set];omega,fun t ht=> ?_⟩
 rcases List.mem_or_eq_of_mem_set ht with ht | ht
 ·exact h2 t ht
 ·rw [ht];exact hs
theorem aqo{n:Nat}(k:Nat){l:List TM}(h:Sk n l=true):Sk n (l.take k)=true:=by
 obtain⟨h1,h2⟩:=Nb.1 h
 exact Nb.2 ⟨by rw [List.length_take];omega,fun s hs=>h2 s (List.mem_of_mem_take hs)⟩
theorem Vo{n m:Nat}{l:List TM}(h:Sk n l=true)(hm:n≤m):Sk m l=true:=by
 obtain⟨h1,h2⟩:=Nb.1 h;exact Nb.2 ⟨by omega,h2⟩
theorem asG{n:Nat}{l:List TM}{d:TM}(h:Sk n l=true)(k:Nat)(hd:d.2.1.size≤1000):(Option.getD l[k]? d).2.1.size≤1000:=by
 cases hk:l[k]? with
 |none=>exact hd
 |some s=>exact(Nb.1 h).2 s (List.mem_of_getElem? hk)
 attribute [local irreducible] nxA nxS nxV pkA pkS pkV
theorem SU(c:List Int)(x:gn)(hx:match x with | (y0,y1,y2,y3)=>42≤y0.length + (42:Nat)∧aA y1 y2 y3=true∧y0.length + (42:Nat)≤60∧Sk 100 y0=true∧y3=c):
  cZ.fin x=true∧ ∃ j y,cZ.res x=(j,y)∧(match y with | (y0,y1,y2,y3)=>aA y1 y2 c=true∧Sk 100 y0=true∧c=y3):=by
 refine cZ.inv2 (fun k x=>match x with | (y0,y1,y2,y3)=>42≤y0.length + k∧aA y1 y2 y3=true∧y0.length + k≤60∧Sk 100 y0=true∧y3=c) (fun y=>match y with | (y0,y1,y2,y3)=>aA y1 y2 c=true∧Sk 100 y0=true∧c=y3) (fun k x hx=> ?_) (fun x hx=> ?_) 42 x (by omega) hx
 ·obtain⟨y0,y1,y2,y3⟩:=x
  obtain⟨h0,h1,h2,h3,rfl⟩:=hx
  have nn:=Ln (n:=2) h1 (by omega);have hw:IntKind.i64.wrap (40 + nxV 2 y1 y2 y3)=40 + nxV 2 y1 y2 y3:=bi (by omega) (by omega);have hz:Sk 100 (y0++ [((4:Int),ByteArray.mk #[],(0:Int))])=true:=aoc h3 (by omega) (Nat.zero_le _)
  simp only [cZ,BW,LT.ok,Pj,Pk,and_true,CM,CN,CO,CP,CQ,pq,pt,Bool.or_eq_true,Bool.and_eq_true]
  repeat' (first | refine And.intro ?_ ?_ | intro _)
  all_goals first
   |omega
   |(repeat (first | assumption | apply jJ | apply PX | apply pE | refine Or.inr ?_ | refine And.intro ?_ ?_ | exact trivial | exact ac7 _ _ | rfl)
     done)
   |((repeat refine Or.inr ?_)
     exact ci (by first | omega | (simp only [S2];omega)))
   |(simp only [S2]
     omega)
   |(repeat' apply DF
     all_goals first | omega | (simp only [S2];omega))
   |(try simp only [S1]at *
     rw [bi (by omega) (by omega)]
     first | omega | (simp only [S2];omega))
   |(simp only [S1]at *
     first | omega | (exfalso;omega))
   |(exfalso;simp_all;done)
 ·obtain⟨y0,y1,y2,y3⟩:=x
  obtain⟨h0,h1,h2,h3,rfl⟩:=hx
  have nn:=Ln (n:=2) h1 (by omega);have hw:IntKind.i64.wrap (40 + nxV 2 y1 y2 y3)=40 + nxV 2 y1 y2 y3:=bi (by omega) (by omega);have hz:Sk 100 (y0++ [((4:Int),ByteArray.mk #[],(0:Int))])=true:=aoc h3 (by omega) (Nat.zero_le _)
  have e0:ltI (y0.length:Int) (IntKind.i64.wrap (40 + nxV 2 y1 y2 y3))=false:=by rw [hw];exact NM (by omega)
  simp only [cZ,BW,LT.ok,Pj,Pk,and_true,CM,CN,CO,CP,CQ,pq,pt,Bool.or_eq_true,Bool.and_eq_true]
  repeat' (first | refine And.intro ?_ ?_ | intro _)
  all_goals first
   |omega
   |(repeat (first | assumption | apply jJ | apply PX | apply pE | refine Or.inr ?_ | refine And.intro ?_ ?_ | exact trivial | exact ac7 _ _ | rfl)
     done)
   |((repeat refine Or.inr ?_)
     exact ci (by first | omega | (simp only [S2];omega)))
   |(simp only [S2]
     omega)
   |(repeat' apply DF
     all_goals first | omega | (simp only [S2];omega))
   |(try simp only [S1]at *
     rw [bi (by omega) (by omega)]
     first | omega | (simp only [S2];omega))
   |(simp only [S1]at *
     first | omega | (exfalso;omega))
   |(exfalso;simp_all;done)
theorem Lu(x0 x1:Int)(x2:List Int)(h:aA x0 x1 x2=true):
  Gq x0 x1 x2=true∧aA (we x0 x1 x2) (wg x0 x1 x2) x2=true∧Sk 1000 (wh x0 x1 x2)=true:=by
 have n4:=Ln (n:=4) h (by omega)
 have s4:aA (nxA 4 x0 x2) (nxS 4 x0 x1 x2) x2=true:=jJ h
 have hd:dtN 3 (nxV 4 x0 x1 x2) (nxA 4 x0 x2) (nxS 4 x0 x1 x2) [ByteArray.mk #[97],ByteArray.mk #[98],ByteArray.mk #[103,97,116,101]] x2=true:=OH.2 ⟨by omega,s4,rfl⟩
 obtain⟨_,s2,t2⟩:=aqI _ _ _ _ x2 hd
 have s2:aA (jk x0 x1 x2) (zi x0 x1 x2) x2=true:=s2
 have t2:dtL 15 (eF x0 x1 x2):=t2
 have t0:Sk 100 (eF x0 x1 x2)=true:=apv t2 (by omega)
 have l1:=t2.1
 have l2:=t2.2.1
 have s3:aA (nxA (cv x0 x1 x2) (jk x0 x1 x2) x2) (zj x0 x1 x2) x2=true:=jJ s2
 obtain⟨i0,i1⟩:0≤bu x0 x1 x2∧bu x0 x1 x2 < cv x0 x1 x2:=Ln s2 (by simp only [cv];omega)
 have s7:aA (bR x0 x1 x2) (de x0 x1 x2) x2=true:=jJ s3
 obtain⟨f0,j0,⟨z0,z1,z2,z3⟩,g0,q1,q2,q3⟩:=SU x2 (qc x0 x1 x2) (by
  simp only [qc]
  exact⟨by omega,s7,by omega,t0,trivial⟩)
 have e1:(mN x0 x1 x2).1=z1:=by simp only [mN,g0]
 have e2:((mN x0 x1 x2).2).1=z2:=by simp only [mN,g0]
 have e0:((Lp.res cZ (qc x0 x1 x2)).2).1=z0:=by rw [g0]
 have k17:0≤iD x0 x1 x2∧iD x0 x1 x2 < 4:=Ln (n:=4) s7 (by omega)
 have d16:(mO x0 x1 x2).2.1.size≤1000:=asG t0 _ (Nat.zero_le _)
 have c1:=cM i0
 have c2:=fv i1
 have c3:yp x0 x1 x2=true:=gM (by simp only [cv]at i1;omega)
 have c4:leI (bu x0 x1 x2) (cv x0 x1 x2)=true:=cM (by omega)
 refine⟨?_,?_,?_⟩
 ·have d1:=cM k17.1
  have d2:ltI (iD x0 x1 x2) (([ByteArray.mk #[],ByteArray.mk #[97,110,100],ByteArray.mk #[120],ByteArray.mk #[89]]:List ByteArray).length:Int)=true:=fv k17.2
  have d3:ltN (iD x0 x1 x2).toNat ([ByteArray.mk #[],ByteArray.mk #[97,110,100],ByteArray.mk #[120],ByteArray.mk #[89]]:List ByteArray).length=true:=gM (show (iD x0 x1 x2).toNat < 4 by omega)
  have b1:leN 1 ([(0:Int),4,5,13]:List Int).length=true:=rfl
  have b2:leN 1 ([(-1:Int),1,9999,10000]:List Int).length=true:=rfl
  have b3:leI 0 0=true:=rfl
  simp only [Gq,h,hd,s2,s3,s7,f0,c1,c2,c3,c4,d1,d2,d3,b1,b2,b3,allT,Bool.or_true,Bool.and_self,cond_true]
 ·simp only [we,wg,e1,e2,pq,pt]
  exact pE (PX s7) (pE (jJ s7) (pE (PX s7) (pE s7 (pE (jJ q1) s7))))
 ·simp only [wh,e0]
  cases aO x0 x1 x2 <;> simp only [cond_true,cond_false]
  ·cases bo x0 x1 x2 <;> simp only [cond_true,cond_false]
   ·cases eG x0 x1 x2 <;> simp only [cond_true,cond_false]
    ·cases mM x0 x1 x2 <;> simp only [cond_true,cond_false]
     ·cases ti x0 x1 x2 <;> simp only [cond_true,cond_false]
      ·exact Vo t0 (by omega)
      ·exact Vo q2 (by omega)
     ·exact Vo (aqo _ t0) (by omega)
    ·exact Vo (ak5 _ t0 d16) (by omega)
   ·exact Vo (ak5 _ t0 (akr (n:=4) rfl _)) (by omega)
  ·exact Vo (ak5 _ t0 d16) (by omega)
def Oq:List SV→List Entry→Option Out
 | [.one ⟨false,[.ptr 0 0]⟩],[.box 197 [.ref 1,.val (.int .i64 x0),.val (.int .i64 x1)],.row false 5 (.int .u8) x2]=>some ⟨.one ⟨false,[.ref 2]⟩,[.box 197 [.ref 1,.val (.int .i64 (we x0 x1 x2)),.val (.int .i64 (wg x0 x1 x2))],.row false 5 aj7 x2],[.row true 178 acQ (wh x0 x1 x2)],[aA x0 x1 x2]⟩
 |_,_=>none
def jX:PF prog:=PF.alt YM Oq (by
 intro args es o h cD;unfold Oq at h;split at h
 ·rename_i x0 x1 x2
  cases h
  have cD:=ln cD
  have hh:=(Lu x0 x1 x2 cD).1
  have en:=hh
  exact qy rfl (kw en) rfl rfl rfl
 ·cases h)
end Go.SX
namespace Go.SX
open Go.Proofs Go.Proofs.Tryz
set_option maxRecDepth 100000
section
variable (x0:Int)
def UB:ByteArray:=strOfNums [IntKind.wrap IntKind.u8 (IntKind.wrap .i64 ((48:Int) + Int.tmod x0 10))]
def UC:Bool:=ltI x0 10||neI 10 0
def HR:ByteArray:=bif ltI x0 10 then strOfNums [IntKind.wrap IntKind.u8 (IntKind.wrap .i64 ((48:Int) + x0))]else ByteArray.mk #[]++UB x0
def Wr:Bool:=allT [UC x0,ltI x0 10||false,UC x0,ltI x0 10||leN (ByteArray.size (ByteArray.mk #[]) + ByteArray.size (UB x0)) 9223372036854775807]
end
def abU:List SV→List Entry→Option Out
 | [.one ⟨false,[.val (.int .i64 x0)]⟩],[]=>some ⟨.one ⟨false,[.val (.string (HR x0))]⟩,[],[],[Wr x0]⟩
 |_,_=>none
def akB:PF prog:=PF.ofG prog [akC] [] aV 221 f221 func221 (fun c _=>LOk.nil c) abU (by
 intro vs es r h;unfold abU at h;split at h
 ·cases h;kernel_rfl
 ·cases h)
theorem aru(x:Int)(h:ltI x 10=true):Wr x=true:=by
 simp only [Wr,UC,h,allT,Bool.true_or,cond_true]
def aco:List SV→List Entry→Option Out
 | [.one ⟨false,[.val (.int .i64 x0)]⟩],[]=>some ⟨.one ⟨false,[.val (.string (HR x0))]⟩,[],[],[ltI x0 10]⟩
 |_,_=>none
def ako:PF prog:=PF.alt akB aco (by
 intro args es o h cD;unfold aco at h;split at h
 ·rename_i x0
  cases h
  have cD:=ln cD
  have hh:=aru x0 cD
  have en:=hh
  exact qy rfl (kw en) rfl rfl rfl
 ·cases h)
section
variable (x0:Int)
def Ws:ByteArray:=strOfNums [IntKind.wrap IntKind.u8 (IntKind.wrap .i64 ((48:Int) + Int.tmod x0 10))]
def Wt:Bool:=ltI x0 10||neI 10 0
def Kk:ByteArray:=bif ltI x0 10 then strOfNums [IntKind.wrap IntKind.u8 (IntKind.wrap .i64 ((48:Int) + x0))]else HR (IntKind.wrap .i64 (Int.tdiv x0 10))++Ws x0
def YO:Bool:=allT [Wt x0,ltI x0 10||ltI (IntKind.wrap .i64 (Int.tdiv x0 10)) 10,Wt x0,ltI x0 10||leN (ByteArray.size (HR (IntKind.wrap .i64 (Int.tdiv x0 10))) + ByteArray.size (Ws x0)) 9223372036854775807]
end
def aer:List SV→List Entry→Option Out
 | [.one ⟨false,[.val (.int .i64 x0)]⟩],[]=>some ⟨.one ⟨false,[.val (.string (Kk x0))]⟩,[],[],[YO x0]⟩
 |_,_=>none
def alr:PF prog:=PF.ofG prog [ako] [] aV 221 f221 func221 (fun c _=>LOk.nil c) aer (by
 intro vs es r h;unfold aer at h;split at h
 ·cases h;kernel_rfl
 ·cases h)
theorem aq4(x:Int):(strOfNums [x]).size=1:=rfl
theorem alH{x:Int}:(HR x).size=1:=by
 simp only [HR,UB]
 cases ltI x 10
 ·rw [cond_false,ByteArray.size_append];rfl
 ·rfl
theorem aqE(x:Int)(h:(leI 0 x&&ltI x 100)=true):YO x=true∧(Kk x).size≤2:=by
 simp only [Bool.and_eq_true,Jg,Vh]at h
 have e:Int.tdiv x 10=x / 10:=Int.tdiv_eq_ediv_of_nonneg h.1
 have hw:IntKind.i64.wrap (Int.tdiv x 10)=x / 10:=by rw [e];exact bi (by omega) (by omega)
 have h1:ltI (x / 10) 10=true:=fv (by omega)
 have h2:neI 10 0=true:=rfl
 have h3:(Ws x).size=1:=rfl
 refine⟨?_,?_⟩
 ·simp only [YO,Wt,hw,h1,h2,h3,alH,ci (show 1 + 1≤9223372036854775807 by omega),allT,Bool.or_true,cond_true]
 ·simp only [Kk]
  cases ltI x 10
  ·rw [cond_false,ByteArray.size_append,h3,alH];omega
  ·rw [cond_true,aq4];omega
def aez:List SV→List Entry→Option Out
 | [.one ⟨false,[.val (.int .i64 x0)]⟩],[]=>some ⟨.one ⟨false,[.val (.string (Kk x0))]⟩,[],[],[leI 0 x0&&ltI x0 100]⟩
 |_,_=>none
def YI:PF prog:=PF.alt alr aez (by
 intro args es o h cD;unfold aez at h;split at h
 ·rename_i x0
  cases h
  have cD:=ln cD
  have hh:=(aqE x0 cD).1
  have en:=hh
  exact qy rfl (kw en) rfl rfl rfl
 ·cases h)
end Go.SX
