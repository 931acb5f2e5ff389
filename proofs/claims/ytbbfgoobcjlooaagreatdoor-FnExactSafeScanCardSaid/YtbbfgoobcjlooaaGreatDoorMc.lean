/- What functions of the program come to, and what that says in plain words: part 3. -/
import Derived.Test.YtbbfgoobcjlooaaGreatDoorMb
import Derived.Test.YtbbfgoobcjlooaaGreatDoorTXh
import Derived.Test.YtbbfgoobcjlooaaGreatDoorProg
import Derived.Test.YtbbfgoobcjlooaaGreatDoorTXi
set_option linter.unusedSimpArgs false
set_option linter.unusedVariables false
namespace Go.SX
open Go.Proofs Go.Proofs.Tryz
set_option maxRecDepth 100000
def Me(x0:List Int)(x1:List (Int×Int×Int)):Bool:=allT [leN x0.length (1048576:Nat),leN ((0:Nat) + List.length x1) (9223372036854775807:Nat),leN (((0:Nat) + List.length x1) * (24:Nat)) (140737488355328:Nat)]
def WE:List SV→List Entry→Option Out
 | [.one ⟨true,[.ref 0,.ref 1]⟩],[.row false 2 (.int .i64) x0,.row false 172 (.pair (.int .i64) (.pair (.int .i64) (.int .i64))) x1]=>some ⟨.one ⟨true,[.ref 2,.ref 3]⟩,[.row false 2 acT x0,.row false 172 aaH x1],[.row true 2 acT x0,.row true 172 aaH x1],[Me x0 x1]⟩
 |_,_=>none
def vK:PF prog:=PF.ofG prog [mb,PF.lend mb,PF.fz mb] [] aP 179 f179 func179 (fun c _=>LOk.nil c) WE (by
 intro vs es r h;unfold WE at h;split at h
 ·cases h;kernel_rfl
 ·cases h)
def qs(x2:ByteArray)(x3 x4:List ByteArray)(x7 x9:List Int):Int:=bif leI (0:Int) (ii x3 x2)then Option.getD x9[Int.toNat (ii x3 x2)]? (0:Int)else Option.getD x7[Int.toNat (ii x4 x2)]? (0:Int)
def qt(x2:ByteArray)(x3 x4:List ByteArray)(x7 x9:List Int):Bool:=allT [leN x3.length (9223372036854775807:Nat),!leI (0:Int) (ii x3 x2)||leI (0:Int) (ii x3 x2),!leI (0:Int) (ii x3 x2)||ltI (ii x3 x2) (↑x9.length:Int),!leI (0:Int) (ii x3 x2)||ltN (Int.toNat (ii x3 x2)) x9.length,leI (0:Int) (ii x3 x2)||leN x4.length (9223372036854775807:Nat),leI (0:Int) (ii x3 x2)||leI (0:Int) (ii x4 x2),leI (0:Int) (ii x3 x2)||ltI (ii x4 x2) (↑x7.length:Int),leI (0:Int) (ii x3 x2)||ltN (Int.toNat (ii x4 x2)) x7.length]
def Sl:List SV→List Entry→Option Out
 | [.one ⟨true,[.val (.string _x0),.ref 0,.ref 1,.ref 2,.val (.string _x1),.ref 3]⟩,.one ⟨true,[.ref 4,.ref 5]⟩,.one ⟨false,[.ref 6]⟩,.one ⟨false,[.val (.string x2)]⟩],[.row false 9 (.str) x3,.row false 9 (.str) x4,.row false 9 (.str) x5,.row false 204 (.pair (.str) (.sl 178 (.pair (.int .i64) (.pair (.str) (.int .i64))))) x6,.row false 2 (.int .i64) x7,.row false 172 (.pair (.int .i64) (.pair (.int .i64) (.int .i64))) x8,.row false 2 (.int .i64) x9]=>some ⟨.one ⟨false,[.val (.int .i64 (qs x2 x3 x4 x7 x9))]⟩,[.row false 9 aen x3,.row false 9 aen x4,.row false 9 aen x5,.row false 204 (CTy.pair CTy.str (CTy.sl (178:TypeId) abW)) x6,.row false 2 acT x7,.row false 172 aaH x8,.row false 2 acT x9],[],[qt x2 x3 x4 x7 x9]⟩
 |_,_=>none
def dq:PF prog:=PF.ofG prog [bO,PF.lend bO,PF.fz bO] [] aP 181 f181 func181 (fun c _=>LOk.nil c) Sl (by
 intro vs es r h;unfold Sl at h;split at h
 ·cases h;kernel_rfl
 ·cases h)
abbrev rr:=Int×Int×List (Int×(ByteArray×Int))×List Int×ByteArray×ByteArray×List Int×List ByteArray×List ByteArray×List ByteArray×List (ByteArray×(List (Int×(ByteArray×Int))))×List Int×List (Int×(Int×Int))
section
variable (y0 y1:Int)(y2:List (Int×(ByteArray×Int)))(y3 y6:List Int)(y7 y8:List ByteArray)(y11:List Int)(y12:List (Int×(Int×Int)))
def dL:Int×ByteArray×Int:=Option.getD y2[Int.toNat y0]? ((0:Int),ByteArray.empty,(0:Int))
def Eb:Int:=IntKind.wrap .i64 ((↑y3.length:Int) - lx ((dL y0 y2).1))
def gZ:List Int:=List.drop (Int.toNat (Eb y0 y2 y3)) (List.take (Int.toNat (↑y3.length:Int)) y3)
def Ec:List Int:=List.drop (Int.toNat (0:Int)) (List.take (Int.toNat (Eb y0 y2 y3)) y3)
def aO:Bool:=(dL y0 y2).1==(1:Int)
def bJ:Bool:=(dL y0 y2).1==(2:Int)
def bK:Bool:=(dL y0 y2).1==(3:Int)
def bL:Bool:=(dL y0 y2).1==(4:Int)
def Jn:Bool:=ltI (0:Int) (↑(List.length (gZ y0 y2 y3)):Int)
def Jo:Bool:=ltN (Int.toNat (0:Int)) (List.length (gZ y0 y2 y3))
def ck:Bool:=(dL y0 y2).1==(5:Int)
def Nv:Bool:=ltI (1:Int) (↑(List.length (gZ y0 y2 y3)):Int)
def Nw:Bool:=ltN (Int.toNat (1:Int)) (List.length (gZ y0 y2 y3))
def gf:Bool:=(dL y0 y2).1==(6:Int)
def HO:Int:=Option.getD (gZ y0 y2 y3)[Int.toNat (0:Int)]? (0:Int)
def kW:Int×Int×Int:=Option.getD y12[Int.toNat y1]? ((0:Int),(0:Int),(0:Int))
def HP:List Int:= [bif aO y0 y2 then qs (((dL y0 y2).2).1) y7 y8 y11 y6 else bif bJ y0 y2 then(1:Int)else bif bK y0 y2 then(0:Int)else bif bL y0 y2 then IntKind.wrap .i64 ((1:Int) - HO y0 y2 y3)else bif ck y0 y2 then IntKind.wrap .i64 (↑(BitVec.toNat (BitVec.ofInt (IntKind.bits IntKind.i64) (HO y0 y2 y3)&&& BitVec.ofInt (IntKind.bits IntKind.i64) (Option.getD (gZ y0 y2 y3)[Int.toNat (1:Int)]? (0:Int)))):Int)else bif gf y0 y2 then IntKind.wrap .i64 (↑(BitVec.toNat (BitVec.ofInt (IntKind.bits IntKind.i64) (HO y0 y2 y3)||| BitVec.ofInt (IntKind.bits IntKind.i64) (Option.getD (gZ y0 y2 y3)[Int.toNat (1:Int)]? (0:Int)))):Int)else gd ((dL y0 y2).1) ((dL y0 y2).2.2) ((kW y1 y12).1) (((kW y1 y12).2).1) ((kW y1 y12).2.2) (gZ y0 y2 y3)]
def Py:Bool:=ltI y0 (↑y2.length:Int)
def ZZ:Bool:=leI (0:Int) y0
def aaa:Bool:=ltN y0.toNat y2.length
def Pz:Bool:=leI (0:Int) (Eb y0 y2 y3)
def PA:Bool:=leI (Eb y0 y2 y3) (↑y3.length:Int)
def aab:Bool:=leI (↑y3.length:Int) (↑y3.length:Int)
def aac:Bool:=leN (List.length (gZ y0 y2 y3)) (1048576:Nat)
end
def aad:Bool:=leI (0:Int) (0:Int)
section
variable (y0 y1:Int)(y2:List (Int×(ByteArray×Int)))(y3 y6:List Int)(y7 y8 y9:List ByteArray)(y11:List Int)(y12:List (Int×(Int×Int)))
def aae:Bool:=leN (List.length (Ec y0 y2 y3)) (1048576:Nat)
def aaf:Bool:= !aO y0 y2||qt (((dL y0 y2).2).1) y7 y8 y11 y6
def Yt:Bool:=aO y0 y2||(bJ y0 y2||(bK y0 y2||(!bL y0 y2||leI (0:Int) (0:Int))))
def Yu:Bool:=aO y0 y2||(bJ y0 y2||(bK y0 y2||(!bL y0 y2||Jn y0 y2 y3)))
def Yv:Bool:=aO y0 y2||(bJ y0 y2||(bK y0 y2||(!bL y0 y2||Jo y0 y2 y3)))
def Yw:Bool:=aO y0 y2||(bJ y0 y2||(bK y0 y2||(bL y0 y2||(!ck y0 y2||leI (0:Int) (0:Int)))))
def Yx:Bool:=aO y0 y2||(bJ y0 y2||(bK y0 y2||(bL y0 y2||(!ck y0 y2||Jn y0 y2 y3))))
def Yy:Bool:=aO y0 y2||(bJ y0 y2||(bK y0 y2||(bL y0 y2||(!ck y0 y2||Jo y0 y2 y3))))
def Yz:Bool:=aO y0 y2||(bJ y0 y2||(bK y0 y2||(bL y0 y2||(!ck y0 y2||leI (0:Int) (1:Int)))))
def YA:Bool:=aO y0 y2||(bJ y0 y2||(bK y0 y2||(bL y0 y2||(!ck y0 y2||Nv y0 y2 y3))))
def YB:Bool:=aO y0 y2||(bJ y0 y2||(bK y0 y2||(bL y0 y2||(!ck y0 y2||Nw y0 y2 y3))))
def YC:Bool:=aO y0 y2||(bJ y0 y2||(bK y0 y2||(bL y0 y2||(ck y0 y2||(!gf y0 y2||leI (0:Int) (0:Int))))))
def YD:Bool:=aO y0 y2||(bJ y0 y2||(bK y0 y2||(bL y0 y2||(ck y0 y2||(!gf y0 y2||Jn y0 y2 y3)))))
def YE:Bool:=aO y0 y2||(bJ y0 y2||(bK y0 y2||(bL y0 y2||(ck y0 y2||(!gf y0 y2||Jo y0 y2 y3)))))
def YF:Bool:=aO y0 y2||(bJ y0 y2||(bK y0 y2||(bL y0 y2||(ck y0 y2||(!gf y0 y2||leI (0:Int) (1:Int))))))
def YG:Bool:=aO y0 y2||(bJ y0 y2||(bK y0 y2||(bL y0 y2||(ck y0 y2||(!gf y0 y2||Nv y0 y2 y3)))))
def YH:Bool:=aO y0 y2||(bJ y0 y2||(bK y0 y2||(bL y0 y2||(ck y0 y2||(!gf y0 y2||Nw y0 y2 y3)))))
def ON:Bool:=aO y0 y2||(bJ y0 y2||(bK y0 y2||(bL y0 y2||(ck y0 y2||(gf y0 y2||leI (0:Int) y1)))))
def OO:Bool:=aO y0 y2||(bJ y0 y2||(bK y0 y2||(bL y0 y2||(ck y0 y2||(gf y0 y2||ltI y1 (↑y12.length:Int))))))
def OP:Bool:=aO y0 y2||(bJ y0 y2||(bK y0 y2||(bL y0 y2||(ck y0 y2||(gf y0 y2||ltN y1.toNat y12.length)))))
def YI:Bool:=aO y0 y2||(bJ y0 y2||(bK y0 y2||(bL y0 y2||(ck y0 y2||(gf y0 y2||jv (gZ y0 y2 y3))))))
def YJ:Bool:=leN (List.length (Ec y0 y2 y3) + List.length (HP y0 y1 y2 y3 y6 y7 y8 y11 y12)) (9223372036854775807:Nat)
def YK:Bool:=leN ((List.length (Ec y0 y2 y3) + List.length (HP y0 y1 y2 y3 y6 y7 y8 y11 y12)) * (8:Nat)) (140737488355328:Nat)
def YL:Int:=IntKind.wrap .i64 (y0 + (1:Int))
def YM:Int:=bif aO y0 y2 then y1 else bif bJ y0 y2 then y1 else bif bK y0 y2 then y1 else bif bL y0 y2 then y1 else bif ck y0 y2 then y1 else bif gf y0 y2 then y1 else IntKind.wrap .i64 (y1 + (1:Int))
def YN:List Int:=Ec y0 y2 y3++HP y0 y1 y2 y3 y6 y7 y8 y11 y12
def YO:List Int:=bif aO y0 y2 then y6 else y6
def YP:List ByteArray:=bif aO y0 y2 then y7 else y7
def YQ:List ByteArray:=bif aO y0 y2 then y8 else y8
def YR:List ByteArray:=bif aO y0 y2 then y9 else y9
end
def YS(y0:Int)(y2:List (Int×(ByteArray×Int)))(y10:List (ByteArray×(List (Int×(ByteArray×Int))))):List (ByteArray×(List (Int×(ByteArray×Int)))):=bif aO y0 y2 then y10 else y10
def YT(y0:Int)(y2:List (Int×(ByteArray×Int)))(y11:List Int):List Int:=bif aO y0 y2 then y11 else y11
def YU(y0 y1:Int)(y2:List (Int×(ByteArray×Int)))(y3:List Int)(y12:List (Int×(Int×Int))):List (Int×(Int×Int)):=bif aO y0 y2 then y12 else bif bJ y0 y2 then y12 else bif bK y0 y2 then y12 else bif bL y0 y2 then y12 else bif ck y0 y2 then y12 else bif gf y0 y2 then y12 else List.set y12 y1.toNat (gS ((dL y0 y2).1) ((dL y0 y2).2.2) ((kW y1 y12).1) (((kW y1 y12).2).1) ((kW y1 y12).2.2) (gZ y0 y2 y3),gT ((dL y0 y2).1) (((kW y1 y12).2).1) ((kW y1 y12).2.2) (gZ y0 y2 y3),gU ((dL y0 y2).1) ((dL y0 y2).2.2) ((kW y1 y12).1) ((kW y1 y12).2.2) (gZ y0 y2 y3))
def Xu:rr→List (Nat×SV)
 |(y0,y1,_,_,_,_,_,_,_,_,_,_,_)=> [(12,(.one ⟨false,[.val (.int .i64 y0)]⟩)),(3,(.one ⟨false,[.ref 0]⟩)),(11,(.one ⟨false,[.ref 1]⟩)),(5,(.one ⟨false,[.ptr 2 0]⟩)),(6,(.one ⟨false,[.ptr 3 0]⟩)),(2,(.one ⟨false,[.ref 4]⟩)),(4,(.one ⟨false,[.val (.int .i64 y1)]⟩))]
def Xk:rr→List (Nat×Entry)
 |(_,_,y2,y3,y4,y5,y6,y7,y8,y9,y10,y11,y12)=> [(0,(.row true 178 abW y2)),(2,(.box 63 [.val (.string y4),.ref 5,.ref 6,.ref 7,.val (.string y5),.ref 8])),(3,(.box 48 [.ref 9,.ref 10])),(4,(.row true 2 acT y6)),(5,(.row true 9 aen y7)),(6,(.row true 9 aen y8)),(7,(.row true 9 aen y9)),(8,(.row true 204 (CTy.pair CTy.str (CTy.sl (178:Nat) abW)) y10)),(9,(.row true 2 acT y11)),(10,(.row true 172 aaH y12)),(1,(.row true 2 acT y3))]
def XQ:Nat→rr→List (Nat×SV)
 |_,(_,_,_,_,_,_,_,_,_,_,_,_,_)=> [(11,(.one ⟨false,[.ref 1]⟩))]
def XF:Nat→rr→List (Nat×Entry)
 |_,(_,_,y2,y3,y4,y5,y6,y7,y8,y9,y10,y11,y12)=> [(0,(.row true 178 abW y2)),(1,(.row true 2 acT y3)),(2,(.box 63 [.val (.string y4),.ref 5,.ref 6,.ref 7,.val (.string y5),.ref 8])),(3,(.box 48 [.ref 9,.ref 10])),(4,(.row true 2 acT y6)),(5,(.row true 9 aen y7)),(6,(.row true 9 aen y8)),(7,(.row true 9 aen y9)),(8,(.row true 204 (CTy.pair CTy.str (CTy.sl (178:Nat) abW)) y10)),(9,(.row true 2 acT y11)),(10,(.row true 172 aaH y12))]
def Yj:rr→LT rr
 |(y0,y1,y2,y3,y4,y5,y6,y7,y8,y9,y10,y11,y12)=> .ite (Py y0 y2) (.need [ZZ y0,Py y0 y2,aaa y0 y2] (.need [Pz y0 y2 y3,PA y0 y2 y3,aab y3,aac y0 y2 y3] (.need [aad,Pz y0 y2 y3,PA y0 y2 y3,aae y0 y2 y3] (.need [aaf y0 y2 y6 y7 y8 y11,Yt y0 y2,Yu y0 y2 y3,Yv y0 y2 y3,Yw y0 y2,Yx y0 y2 y3,Yy y0 y2 y3,Yz y0 y2,YA y0 y2 y3,YB y0 y2 y3,YC y0 y2,YD y0 y2 y3,YE y0 y2 y3,YF y0 y2,YG y0 y2 y3,YH y0 y2 y3,ON y0 y1 y2,OO y0 y1 y2 y12,OP y0 y1 y2 y12,YI y0 y2 y3,ON y0 y1 y2,OO y0 y1 y2 y12,OP y0 y1 y2 y12] (.need [YJ y0 y1 y2 y3 y6 y7 y8 y11 y12,YK y0 y1 y2 y3 y6 y7 y8 y11 y12] (.nrm ((YL y0),YM y0 y1 y2,y2,YN y0 y1 y2 y3 y6 y7 y8 y11 y12,y4,y5,YO y0 y2 y6,YP y0 y2 y7,YQ y0 y2 y8,YR y0 y2 y9,YS y0 y2 y10,YT y0 y2 y11,(YU y0 y1 y2 y3 y12)) [(0,0),(1,4544),(2,2),(3,3),(4,4),(5,5),(6,6),(7,7),(8,8),(9,9),(10,10)])))))) (.ext 0 [(0,0),(1,1),(2,2),(3,3),(4,4),(5,5),(6,6),(7,7),(8,8),(9,9),(10,10)])
def Jf(s:St):Option rr:=
 (match s.look 12 with
 |some ⟨none,.one ⟨false,[.val (.int .i64 y0)]⟩⟩=>
 (match s.look 3 with
 |some ⟨none,.one ⟨false,[.ref 7]⟩⟩=>
 (match s.look 11 with
 |some ⟨none,.one ⟨false,[.ref 768]⟩⟩=>
 (match s.look 5 with
 |some ⟨none,.one ⟨false,[.ptr 576 0]⟩⟩=>
 (match s.look 6 with
 |some ⟨none,.one ⟨false,[.ptr 640 0]⟩⟩=>
 (match s.look 2 with
 |some ⟨none,.one ⟨false,[.ref 6]⟩⟩=>
 (match s.look 4 with
 |some ⟨none,.one ⟨false,[.val (.int .i64 y1)]⟩⟩=>
 (match s.ent 7 with
 |some (.row true 178 (.pair (.int .i64) (.pair .str (.int .i64))) y2)=>
 (match s.ent 576 with
 |some (.box 63 [.val (.string y4),.ref 0,.ref 1,.ref 2,.val (.string y5),.ref 3])=>
 (match s.ent 640 with
 |some (.box 48 [.ref 4,.ref 5])=>
 (match s.ent 6 with
 |some (.row true 2 (.int .i64) y6)=>
 (match s.ent 0 with
 |some (.row true 9 (.str) y7)=>
 (match s.ent 1 with
 |some (.row true 9 (.str) y8)=>
 (match s.ent 2 with
 |some (.row true 9 (.str) y9)=>
 (match s.ent 3 with
 |some (.row true 204 (.pair .str (.sl (178:Nat) (.pair (.int .i64) (.pair .str (.int .i64))))) y10)=>
 (match s.ent 4 with
 |some (.row true 2 (.int .i64) y11)=>
 (match s.ent 5 with
 |some (.row true 172 (.pair (.int .i64) (.pair (.int .i64) (.int .i64))) y12)=>
 (match s.ent 768 with
 |some (.row true 2 (.int .i64) y3)=>
 some (y0,y1,y2,y3,y4,y5,y6,y7,y8,y9,y10,y11,y12)
 |_=>none)
 |_=>none)
 |_=>none)
 |_=>none)
 |_=>none)
 |_=>none)
 |_=>none)
 |_=>none)
 |_=>none)
 |_=>none)
 |_=>none)
 |_=>none)
 |_=>none)
 |_=>none)
 |_=>none)
 |_=>none)
 |_=>none)
 |_=>none)
def yZ:Lp rr where
 h:=⟨[20,21,22,23,26,27,28,29,13,30,31,32,33,34,35,14,36,37,38,39,15,40,41,42,43,11,16,44,45,66,65,67,68,69,70,71,72,74,73,76,75,78,77,79,80,81,82,84,83,85,86,87,88,89,90,91,93,92,94,95,96,97,98,99,100,47,48,49,50,51,52,53,54,46,55,56,18,17,57,58,59,60,61,62,63,64,4,101,102,103,104,24,25,12],[0,2,3,4,5,6,7,8,9,10],[1],[]⟩
 JL:=Xu
 JE:=Xk
 XL:=XQ
 XE:=XF
 q:=fun j=>match j with | _=> .exit 0
 tags:= [0]
 lt:=Yj
 fuel:=fun(y0,y1,y2,y3,y4,y5,y6,y7,y8,y9,y10,y11,y12)=>y0.natAbs + y1.natAbs + y2.length + y3.length + y4.size + y5.size + y6.length + y7.length + y8.length + y9.length + y10.length + y11.length + y12.length
 fix:=fun(_,_,y2,_,y4,y5,_,_,_,_,_,_,_) (y0,y1,_,y3,_,_,y6,y7,y8,y9,y10,y11,y12)=>(y0,y1,y2,y3,y4,y5,y6,y7,y8,y9,y10,y11,y12)
 σ:= [(0,7),(2,576),(3,640),(4,6),(5,0),(6,1),(7,2),(8,3),(9,4),(10,5),(1,768)]
 rd:=Jf
theorem UM:LoopOk prog (fun k=>Nat.blt k Tryz.f180.ntmps) yZ.F (aZ f180 0):=by
 refine Lp.ok (tbl:= [PF.mark prog,mb,PF.lend mb,PF.fz mb,dq,PF.lend dq,PF.fz dq,ow,PF.lend ow,PF.fz ow,As]) (lf:= []) aP yZ (by kernel_rfl) (LOk.nil _) (fun _=>rfl) (fun _ _=>rfl) ?_ ?_ ?_ ?_ (fun _=>rfl) ?_
 ·rintro⟨y0,y1,y2,y3,y4,y5,y6,y7,y8,y9,y10,y11,y12⟩;kernel_rfl
 ·rintro⟨y0,y1,y2,y3,y4,y5,y6,y7,y8,y9,y10,y11,y12⟩;kernel_rfl
 ·intro s x h
  have h:Jf s=some x:=h
  unfold Jf at h
  repeat' split at h
  all_goals cases h
  exact⟨aa (by assumption) rfl (aa (by assumption) rfl (aa (by assumption) rfl (aa (by assumption) rfl (aa (by assumption) rfl (aa (by assumption) rfl (aa (by assumption) rfl (rfl))))))),ab rfl (by assumption) rfl (ab rfl (by assumption) rfl (ab rfl (by assumption) rfl (ab rfl (by assumption) rfl (ab rfl (by assumption) rfl (ab rfl (by assumption) rfl (ab rfl (by assumption) rfl (ab rfl (by assumption) rfl (ab rfl (by assumption) rfl (ab rfl (by assumption) rfl (ab rfl (by assumption) rfl (rfl)))))))))))⟩
 ·rintro⟨y0,y1,y2,y3,y4,y5,y6,y7,y8,y9,y10,y11,y12⟩;kernel_rfl
 ·rintro⟨y0,y1,y2,y3,y4,y5,y6,y7,y8,y9,y10,y11,y12⟩ z;exact(And.intro rfl trivial)
section
variable (x0 x1:ByteArray)(x2:Int)(x3 x4 x5:List ByteArray)(x6:List (ByteArray×List (Int×ByteArray×Int)))(x7:List Int)(x8:List (Int×Int×Int))(x9:List Int)(x10:List (Int×ByteArray×Int))
def SD:Int×Int×List (Int×ByteArray×Int)×List Int×ByteArray×ByteArray×List Int×List ByteArray×List ByteArray×List ByteArray×List (ByteArray×List (Int×ByteArray×Int))×List Int×List (Int×Int×Int):=((0:Int),x2,x10,[],x0,x1,x9,x3,x4,x5,x6,x7,x8)
def SE:List Int×ByteArray×ByteArray×List Int×List ByteArray×List ByteArray×List ByteArray×List (ByteArray×List (Int×ByteArray×Int))×List Int×List (Int×Int×Int):=(Lp.res yZ (SD x0 x1 x2 x3 x4 x5 x6 x7 x8 x9 x10)).2.2.2.2
def Ni:List Int:=(SE x0 x1 x2 x3 x4 x5 x6 x7 x8 x9 x10).1
def SF:List Int×List ByteArray×List ByteArray×List ByteArray×List (ByteArray×List (Int×ByteArray×Int))×List Int×List (Int×Int×Int):=(SE x0 x1 x2 x3 x4 x5 x6 x7 x8 x9 x10).2.2.2
def SG:List ByteArray×List ByteArray×List ByteArray×List (ByteArray×List (Int×ByteArray×Int))×List Int×List (Int×Int×Int):=(SF x0 x1 x2 x3 x4 x5 x6 x7 x8 x9 x10).2
def SH:List ByteArray×List ByteArray×List (ByteArray×List (Int×ByteArray×Int))×List Int×List (Int×Int×Int):=(SG x0 x1 x2 x3 x4 x5 x6 x7 x8 x9 x10).2
def SI:List ByteArray×List (ByteArray×List (Int×ByteArray×Int))×List Int×List (Int×Int×Int):=(SH x0 x1 x2 x3 x4 x5 x6 x7 x8 x9 x10).2
def SJ:List (ByteArray×List (Int×ByteArray×Int))×List Int×List (Int×Int×Int):=(SI x0 x1 x2 x3 x4 x5 x6 x7 x8 x9 x10).2
def SK:List Int×List (Int×Int×Int):=(SJ x0 x1 x2 x3 x4 x5 x6 x7 x8 x9 x10).2
def ady:Int:=Option.getD (Ni x0 x1 x2 x3 x4 x5 x6 x7 x8 x9 x10)[Int.toNat (0:Int)]? (0:Int)
def adz:List ByteArray:=(SG x0 x1 x2 x3 x4 x5 x6 x7 x8 x9 x10).1
def adA:List ByteArray:=(SH x0 x1 x2 x3 x4 x5 x6 x7 x8 x9 x10).1
def adB:List ByteArray:=(SI x0 x1 x2 x3 x4 x5 x6 x7 x8 x9 x10).1
def adC:List (ByteArray×(List (Int×(ByteArray×Int)))):=(SJ x0 x1 x2 x3 x4 x5 x6 x7 x8 x9 x10).1
def adD:List Int:=(SK x0 x1 x2 x3 x4 x5 x6 x7 x8 x9 x10).1
def adE:List (Int×(Int×Int)):=(SK x0 x1 x2 x3 x4 x5 x6 x7 x8 x9 x10).2
def adF:List Int:=(SF x0 x1 x2 x3 x4 x5 x6 x7 x8 x9 x10).1
def adG:Bool:=allT [Lp.fin yZ (SD x0 x1 x2 x3 x4 x5 x6 x7 x8 x9 x10),ltI (0:Int) (↑(List.length (Ni x0 x1 x2 x3 x4 x5 x6 x7 x8 x9 x10)):Int),ltN (Int.toNat (0:Int)) (List.length (Ni x0 x1 x2 x3 x4 x5 x6 x7 x8 x9 x10))]
end
def TD:List SV→List Entry→Option Out
 | [.one ⟨true,[.val (.string x0),.ref 0,.ref 1,.ref 2,.val (.string x1),.ref 3]⟩,.one ⟨true,[.ref 4,.ref 5]⟩,.one ⟨false,[.ref 6]⟩,.one ⟨false,[.ref 7]⟩,.one ⟨false,[.val (.int .i64 x2)]⟩],[.row true 9 (.str) x3,.row true 9 (.str) x4,.row true 9 (.str) x5,.row true 204 (.pair (.str) (.sl 178 (.pair (.int .i64) (.pair (.str) (.int .i64))))) x6,.row true 2 (.int .i64) x7,.row true 172 (.pair (.int .i64) (.pair (.int .i64) (.int .i64))) x8,.row true 2 (.int .i64) x9,.row true 178 (.pair (.int .i64) (.pair (.str) (.int .i64))) x10]=>some ⟨.one ⟨false,[.val (.int .i64 (ady x0 x1 x2 x3 x4 x5 x6 x7 x8 x9 x10))]⟩,[.row true 9 aen (adz x0 x1 x2 x3 x4 x5 x6 x7 x8 x9 x10),.row true 9 aen (adA x0 x1 x2 x3 x4 x5 x6 x7 x8 x9 x10),.row true 9 aen (adB x0 x1 x2 x3 x4 x5 x6 x7 x8 x9 x10),.row true 204 (CTy.pair CTy.str (CTy.sl (178:Nat) abW)) (adC x0 x1 x2 x3 x4 x5 x6 x7 x8 x9 x10),.row true 2 acT (adD x0 x1 x2 x3 x4 x5 x6 x7 x8 x9 x10),.row true 172 aaH (adE x0 x1 x2 x3 x4 x5 x6 x7 x8 x9 x10),.row true 2 acT (adF x0 x1 x2 x3 x4 x5 x6 x7 x8 x9 x10),.row true 178 abW x10],[],[adG x0 x1 x2 x3 x4 x5 x6 x7 x8 x9 x10]⟩
 |_,_=>none
def tQ:PF prog:=PF.ofG prog [PF.mark prog,mb,PF.lend mb,PF.fz mb,dq,PF.lend dq,PF.fz dq,ow,PF.lend ow,PF.fz ow,As] [yZ.F] aP 180 f180 func180 (LOk.fnT (l:= [aZ f180 0]) (by kernel_rfl) (.cons UM (.nil _))) TD (by
 intro vs es r h;unfold TD at h;split at h
 ·cases h;kernel_rfl
 ·cases h)
abbrev kF:=Int×Int×List (Int×(ByteArray×Int))×List Int×ByteArray×ByteArray×List Int×List ByteArray×List ByteArray×List ByteArray×List (ByteArray×(List (Int×(ByteArray×Int))))×List Int×List (Int×(Int×Int))
section
variable (y0 y1:Int)(y2:List (Int×(ByteArray×Int)))(y3 y6:List Int)(y7 y8:List ByteArray)(y11:List Int)(y12:List (Int×(Int×Int)))
def bm:Int×ByteArray×Int:=Option.getD y2[Int.toNat y0]? ((0:Int),ByteArray.empty,(0:Int))
def oJ:Int:=IntKind.wrap .i64 ((↑y3.length:Int) - lx ((bm y0 y2).1))
def bX:List Int:=List.drop (Int.toNat (oJ y0 y2 y3)) (List.take (Int.toNat (↑y3.length:Int)) y3)
def oK:List Int:=List.drop (Int.toNat (0:Int)) (List.take (Int.toNat (oJ y0 y2 y3)) y3)
def au:Bool:=(bm y0 y2).1==(1:Int)
def aE:Bool:=(bm y0 y2).1==(2:Int)
def aF:Bool:=(bm y0 y2).1==(3:Int)
def aG:Bool:=(bm y0 y2).1==(4:Int)
def iu:Bool:=ltI (0:Int) (↑(List.length (bX y0 y2 y3)):Int)
def iv:Bool:=ltN (Int.toNat (0:Int)) (List.length (bX y0 y2 y3))
def aL:Bool:=(bm y0 y2).1==(5:Int)
def nS:Bool:=ltI (1:Int) (↑(List.length (bX y0 y2 y3)):Int)
def nT:Bool:=ltN (Int.toNat (1:Int)) (List.length (bX y0 y2 y3))
def bM:Bool:=(bm y0 y2).1==(6:Int)
def rc:Int:=Option.getD (bX y0 y2 y3)[Int.toNat (0:Int)]? (0:Int)
def de:Int×Int×Int:=Option.getD y12[Int.toNat y1]? ((0:Int),(0:Int),(0:Int))
def bc:List Int:= [bif au y0 y2 then qs (((bm y0 y2).2).1) y7 y8 y11 y6 else bif aE y0 y2 then(1:Int)else bif aF y0 y2 then(0:Int)else bif aG y0 y2 then IntKind.wrap .i64 ((1:Int) - rc y0 y2 y3)else bif aL y0 y2 then IntKind.wrap .i64 (↑(BitVec.toNat (BitVec.ofInt (IntKind.bits IntKind.i64) (rc y0 y2 y3)&&& BitVec.ofInt (IntKind.bits IntKind.i64) (Option.getD (bX y0 y2 y3)[Int.toNat (1:Int)]? (0:Int)))):Int)else bif bM y0 y2 then IntKind.wrap .i64 (↑(BitVec.toNat (BitVec.ofInt (IntKind.bits IntKind.i64) (rc y0 y2 y3)||| BitVec.ofInt (IntKind.bits IntKind.i64) (Option.getD (bX y0 y2 y3)[Int.toNat (1:Int)]? (0:Int)))):Int)else gd ((bm y0 y2).1) ((bm y0 y2).2.2) ((de y1 y12).1) (((de y1 y12).2).1) ((de y1 y12).2.2) (bX y0 y2 y3)]
def dI:Bool:=ltI y0 (↑y2.length:Int)
def kH:Bool:=leI (0:Int) y0
def kI:Bool:=ltN y0.toNat y2.length
def jg:Bool:=leI (0:Int) (oJ y0 y2 y3)
def jh:Bool:=leI (oJ y0 y2 y3) (↑y3.length:Int)
def kJ:Bool:=leI (↑y3.length:Int) (↑y3.length:Int)
def kK:Bool:=leN (List.length (bX y0 y2 y3)) (1048576:Nat)
end
def kL:Bool:=leI (0:Int) (0:Int)
section
variable (y0 y1:Int)(y2:List (Int×(ByteArray×Int)))(y3 y6:List Int)(y7 y8:List ByteArray)(y11:List Int)(y12:List (Int×(Int×Int)))
def kM:Bool:=leN (List.length (oK y0 y2 y3)) (1048576:Nat)
def kN:Bool:= !au y0 y2||qt (((bm y0 y2).2).1) y7 y8 y11 y6
def jF:Bool:=au y0 y2||(aE y0 y2||(aF y0 y2||(!aG y0 y2||leI (0:Int) (0:Int))))
def jG:Bool:=au y0 y2||(aE y0 y2||(aF y0 y2||(!aG y0 y2||iu y0 y2 y3)))
def jH:Bool:=au y0 y2||(aE y0 y2||(aF y0 y2||(!aG y0 y2||iv y0 y2 y3)))
def jI:Bool:=au y0 y2||(aE y0 y2||(aF y0 y2||(aG y0 y2||(!aL y0 y2||leI (0:Int) (0:Int)))))
def jJ:Bool:=au y0 y2||(aE y0 y2||(aF y0 y2||(aG y0 y2||(!aL y0 y2||iu y0 y2 y3))))
def jK:Bool:=au y0 y2||(aE y0 y2||(aF y0 y2||(aG y0 y2||(!aL y0 y2||iv y0 y2 y3))))
def jL:Bool:=au y0 y2||(aE y0 y2||(aF y0 y2||(aG y0 y2||(!aL y0 y2||leI (0:Int) (1:Int)))))
def jM:Bool:=au y0 y2||(aE y0 y2||(aF y0 y2||(aG y0 y2||(!aL y0 y2||nS y0 y2 y3))))
def jN:Bool:=au y0 y2||(aE y0 y2||(aF y0 y2||(aG y0 y2||(!aL y0 y2||nT y0 y2 y3))))
def jO:Bool:=au y0 y2||(aE y0 y2||(aF y0 y2||(aG y0 y2||(aL y0 y2||(!bM y0 y2||leI (0:Int) (0:Int))))))
def jP:Bool:=au y0 y2||(aE y0 y2||(aF y0 y2||(aG y0 y2||(aL y0 y2||(!bM y0 y2||iu y0 y2 y3)))))
def jQ:Bool:=au y0 y2||(aE y0 y2||(aF y0 y2||(aG y0 y2||(aL y0 y2||(!bM y0 y2||iv y0 y2 y3)))))
def jR:Bool:=au y0 y2||(aE y0 y2||(aF y0 y2||(aG y0 y2||(aL y0 y2||(!bM y0 y2||leI (0:Int) (1:Int))))))
def jS:Bool:=au y0 y2||(aE y0 y2||(aF y0 y2||(aG y0 y2||(aL y0 y2||(!bM y0 y2||nS y0 y2 y3)))))
def jT:Bool:=au y0 y2||(aE y0 y2||(aF y0 y2||(aG y0 y2||(aL y0 y2||(!bM y0 y2||nT y0 y2 y3)))))
def il:Bool:=au y0 y2||(aE y0 y2||(aF y0 y2||(aG y0 y2||(aL y0 y2||(bM y0 y2||leI (0:Int) y1)))))
def im:Bool:=au y0 y2||(aE y0 y2||(aF y0 y2||(aG y0 y2||(aL y0 y2||(bM y0 y2||ltI y1 (↑y12.length:Int))))))
def io:Bool:=au y0 y2||(aE y0 y2||(aF y0 y2||(aG y0 y2||(aL y0 y2||(bM y0 y2||ltN y1.toNat y12.length)))))
def jU:Bool:=au y0 y2||(aE y0 y2||(aF y0 y2||(aG y0 y2||(aL y0 y2||(bM y0 y2||jv (bX y0 y2 y3))))))
def jV:Bool:=leN (List.length (oK y0 y2 y3) + List.length (bc y0 y1 y2 y3 y6 y7 y8 y11 y12)) (9223372036854775807:Nat)
def jW:Bool:=leN ((List.length (oK y0 y2 y3) + List.length (bc y0 y1 y2 y3 y6 y7 y8 y11 y12)) * (8:Nat)) (140737488355328:Nat)
def ip:Int:=IntKind.wrap .i64 (y0 + (1:Int))
def bE:Int:=bif au y0 y2 then y1 else bif aE y0 y2 then y1 else bif aF y0 y2 then y1 else bif aG y0 y2 then y1 else bif aL y0 y2 then y1 else bif bM y0 y2 then y1 else IntKind.wrap .i64 (y1 + (1:Int))
def iq:List Int:=oK y0 y2 y3++bc y0 y1 y2 y3 y6 y7 y8 y11 y12
def ir:List Int:=bif au y0 y2 then y11 else y11
def bF:List (Int×(Int×Int)):=bif au y0 y2 then y12 else bif aE y0 y2 then y12 else bif aF y0 y2 then y12 else bif aG y0 y2 then y12 else bif aL y0 y2 then y12 else bif bM y0 y2 then y12 else List.set y12 y1.toNat (gS ((bm y0 y2).1) ((bm y0 y2).2.2) ((de y1 y12).1) (((de y1 y12).2).1) ((de y1 y12).2.2) (bX y0 y2 y3),gT ((bm y0 y2).1) (((de y1 y12).2).1) ((de y1 y12).2.2) (bX y0 y2 y3),gU ((bm y0 y2).1) ((bm y0 y2).2.2) ((de y1 y12).1) ((de y1 y12).2.2) (bX y0 y2 y3))
end
def PJ:kF→List (Nat×SV)
 |(y0,y1,_,_,_,_,_,_,_,_,_,_,_)=> [(12,(.one ⟨false,[.val (.int .i64 y0)]⟩)),(3,(.one ⟨false,[.ref 0]⟩)),(11,(.one ⟨false,[.ref 1]⟩)),(5,(.one ⟨false,[.ptr 2 0]⟩)),(6,(.one ⟨false,[.ptr 3 0]⟩)),(2,(.one ⟨false,[.ref 4]⟩)),(4,(.one ⟨false,[.val (.int .i64 y1)]⟩))]
def PG:kF→List (Nat×Entry)
 |(_,_,y2,y3,y4,y5,y6,y7,y8,y9,y10,y11,y12)=> [(0,(.row false 178 abW y2)),(2,(.box 63 [.val (.string y4),.ref 5,.ref 6,.ref 7,.val (.string y5),.ref 8])),(3,(.box 48 [.ref 9,.ref 10])),(4,(.row false 2 acT y6)),(5,(.row false 9 aen y7)),(6,(.row false 9 aen y8)),(7,(.row false 9 aen y9)),(8,(.row false 204 (CTy.pair CTy.str (CTy.sl (178:Nat) abW)) y10)),(9,(.row true 2 acT y11)),(10,(.row true 172 aaH y12)),(1,(.row true 2 acT y3))]
def PP:Nat→kF→List (Nat×SV)
 |_,(_,_,_,_,_,_,_,_,_,_,_,_,_)=> [(11,(.one ⟨false,[.ref 1]⟩))]
def PM:Nat→kF→List (Nat×Entry)
 |_,(_,_,y2,y3,y4,y5,y6,y7,y8,y9,y10,y11,y12)=> [(0,(.row false 178 abW y2)),(1,(.row true 2 acT y3)),(2,(.box 63 [.val (.string y4),.ref 5,.ref 6,.ref 7,.val (.string y5),.ref 8])),(3,(.box 48 [.ref 9,.ref 10])),(4,(.row false 2 acT y6)),(5,(.row false 9 aen y7)),(6,(.row false 9 aen y8)),(7,(.row false 9 aen y9)),(8,(.row false 204 (CTy.pair CTy.str (CTy.sl (178:Nat) abW)) y10)),(9,(.row true 2 acT y11)),(10,(.row true 172 aaH y12))]
def ez:kF→LT kF
 |(y0,y1,y2,y3,y4,y5,y6,y7,y8,y9,y10,y11,y12)=> .ite (dI y0 y2) (.need [kH y0,dI y0 y2,kI y0 y2] (.need [jg y0 y2 y3,jh y0 y2 y3,kJ y3,kK y0 y2 y3] (.need [kL,jg y0 y2 y3,jh y0 y2 y3,kM y0 y2 y3] (.need [kN y0 y2 y6 y7 y8 y11,jF y0 y2,jG y0 y2 y3,jH y0 y2 y3,jI y0 y2,jJ y0 y2 y3,jK y0 y2 y3,jL y0 y2,jM y0 y2 y3,jN y0 y2 y3,jO y0 y2,jP y0 y2 y3,jQ y0 y2 y3,jR y0 y2,jS y0 y2 y3,jT y0 y2 y3,il y0 y1 y2,im y0 y1 y2 y12,io y0 y1 y2 y12,jU y0 y2 y3,il y0 y1 y2,im y0 y1 y2 y12,io y0 y1 y2 y12] (.need [jV y0 y1 y2 y3 y6 y7 y8 y11 y12,jW y0 y1 y2 y3 y6 y7 y8 y11 y12] (.nrm ((ip y0),bE y0 y1 y2,y2,iq y0 y1 y2 y3 y6 y7 y8 y11 y12,y4,y5,y6,y7,y8,y9,y10,ir y0 y2 y11,(bF y0 y1 y2 y3 y12)) [(0,0),(1,4544),(2,2),(3,3),(4,4),(5,5),(6,6),(7,7),(8,8),(9,9),(10,10)])))))) (.ext 0 [(0,0),(1,1),(2,2),(3,3),(4,4),(5,5),(6,6),(7,7),(8,8),(9,9),(10,10)])
def BV(s:St):Option kF:=
 (match s.look 12 with
 |some ⟨none,.one ⟨false,[.val (.int .i64 y0)]⟩⟩=>
 (match s.look 3 with
 |some ⟨none,.one ⟨false,[.ref 7]⟩⟩=>
 (match s.look 11 with
 |some ⟨none,.one ⟨false,[.ref 768]⟩⟩=>
 (match s.look 5 with
 |some ⟨none,.one ⟨false,[.ptr 576 0]⟩⟩=>
 (match s.look 6 with
 |some ⟨none,.one ⟨false,[.ptr 640 0]⟩⟩=>
 (match s.look 2 with
 |some ⟨none,.one ⟨false,[.ref 6]⟩⟩=>
 (match s.look 4 with
 |some ⟨none,.one ⟨false,[.val (.int .i64 y1)]⟩⟩=>
 (match s.ent 7 with
 |some (.row false 178 (.pair (.int .i64) (.pair .str (.int .i64))) y2)=>
 (match s.ent 576 with
 |some (.box 63 [.val (.string y4),.ref 0,.ref 1,.ref 2,.val (.string y5),.ref 3])=>
 (match s.ent 640 with
 |some (.box 48 [.ref 4,.ref 5])=>
 (match s.ent 6 with
 |some (.row false 2 (.int .i64) y6)=>
 (match s.ent 0 with
 |some (.row false 9 (.str) y7)=>
 (match s.ent 1 with
 |some (.row false 9 (.str) y8)=>
 (match s.ent 2 with
 |some (.row false 9 (.str) y9)=>
 (match s.ent 3 with
 |some (.row false 204 (.pair .str (.sl (178:Nat) (.pair (.int .i64) (.pair .str (.int .i64))))) y10)=>
 (match s.ent 4 with
 |some (.row true 2 (.int .i64) y11)=>
 (match s.ent 5 with
 |some (.row true 172 (.pair (.int .i64) (.pair (.int .i64) (.int .i64))) y12)=>
 (match s.ent 768 with
 |some (.row true 2 (.int .i64) y3)=>
 some (y0,y1,y2,y3,y4,y5,y6,y7,y8,y9,y10,y11,y12)
 |_=>none)
 |_=>none)
 |_=>none)
 |_=>none)
 |_=>none)
 |_=>none)
 |_=>none)
 |_=>none)
 |_=>none)
 |_=>none)
 |_=>none)
 |_=>none)
 |_=>none)
 |_=>none)
 |_=>none)
 |_=>none)
 |_=>none)
 |_=>none)
def aR:Lp kF where
 h:=⟨[20,21,22,23,26,27,28,29,13,30,31,32,33,34,35,14,36,37,38,39,15,40,41,42,43,11,16,44,45,66,65,67,68,69,70,71,72,74,73,76,75,78,77,79,80,81,82,84,83,85,86,87,88,89,90,91,93,92,94,95,96,97,98,99,100,47,48,49,50,51,52,53,54,46,55,56,18,17,57,58,59,60,61,62,63,64,4,101,102,103,104,24,25,12],[0,2,3,4,5,6,7,8,9,10],[1],[]⟩
 JL:=PJ
 JE:=PG
 XL:=PP
 XE:=PM
 q:=fun j=>match j with | _=> .exit 0
 tags:= [0]
 lt:=ez
 fuel:=fun(y0,y1,y2,y3,y4,y5,y6,y7,y8,y9,y10,y11,y12)=>y0.natAbs + y1.natAbs + y2.length + y3.length + y4.size + y5.size + y6.length + y7.length + y8.length + y9.length + y10.length + y11.length + y12.length
 fix:=fun(_,_,y2,_,y4,y5,y6,y7,y8,y9,y10,_,_) (y0,y1,_,y3,_,_,_,_,_,_,_,y11,y12)=>(y0,y1,y2,y3,y4,y5,y6,y7,y8,y9,y10,y11,y12)
 σ:= [(0,7),(2,576),(3,640),(4,6),(5,0),(6,1),(7,2),(8,3),(9,4),(10,5),(1,768)]
 rd:=BV
theorem Oi:LoopOk prog (fun k=>Nat.blt k Tryz.f180.ntmps) aR.F (aZ f180 0):=by
 refine Lp.ok (tbl:= [PF.mark prog,mb,PF.lend mb,PF.fz mb,dq,PF.lend dq,PF.fz dq,ow,PF.lend ow,PF.fz ow,As]) (lf:= []) aP aR (by kernel_rfl) (LOk.nil _) (fun _=>rfl) (fun _ _=>rfl) ?_ ?_ ?_ ?_ (fun _=>rfl) ?_
 ·rintro⟨y0,y1,y2,y3,y4,y5,y6,y7,y8,y9,y10,y11,y12⟩;kernel_rfl
 ·rintro⟨y0,y1,y2,y3,y4,y5,y6,y7,y8,y9,y10,y11,y12⟩;kernel_rfl
 ·intro s x h
  have h:BV s=some x:=h
  unfold BV at h
  repeat' split at h
  all_goals cases h
  exact⟨aa (by assumption) rfl (aa (by assumption) rfl (aa (by assumption) rfl (aa (by assumption) rfl (aa (by assumption) rfl (aa (by assumption) rfl (aa (by assumption) rfl (rfl))))))),ab rfl (by assumption) rfl (ab rfl (by assumption) rfl (ab rfl (by assumption) rfl (ab rfl (by assumption) rfl (ab rfl (by assumption) rfl (ab rfl (by assumption) rfl (ab rfl (by assumption) rfl (ab rfl (by assumption) rfl (ab rfl (by assumption) rfl (ab rfl (by assumption) rfl (ab rfl (by assumption) rfl (rfl)))))))))))⟩
 ·rintro⟨y0,y1,y2,y3,y4,y5,y6,y7,y8,y9,y10,y11,y12⟩;kernel_rfl
 ·rintro⟨y0,y1,y2,y3,y4,y5,y6,y7,y8,y9,y10,y11,y12⟩ z;exact(And.intro rfl trivial)
section
variable (x0 x1:ByteArray)(x2:Int)(x3 x4 x5:List ByteArray)(x6:List (ByteArray×List (Int×ByteArray×Int)))(x7:List Int)(x8:List (Int×Int×Int))(x9:List Int)(x10:List (Int×ByteArray×Int))
def rH:Int×Int×List (Int×ByteArray×Int)×List Int×ByteArray×ByteArray×List Int×List ByteArray×List ByteArray×List ByteArray×List (ByteArray×List (Int×ByteArray×Int))×List Int×List (Int×Int×Int):=((0:Int),x2,x10,[],x0,x1,x9,x3,x4,x5,x6,x7,x8)
def uT:List Int×ByteArray×ByteArray×List Int×List ByteArray×List ByteArray×List ByteArray×List (ByteArray×List (Int×ByteArray×Int))×List Int×List (Int×Int×Int):=(Lp.res aR (rH x0 x1 x2 x3 x4 x5 x6 x7 x8 x9 x10)).2.2.2.2
def uU:List Int:=(uT x0 x1 x2 x3 x4 x5 x6 x7 x8 x9 x10).1
def Ae:List Int×List (Int×Int×Int):=(uT x0 x1 x2 x3 x4 x5 x6 x7 x8 x9 x10).2.2.2.2.2.2.2.2
def Bw:Int:=Option.getD (uU x0 x1 x2 x3 x4 x5 x6 x7 x8 x9 x10)[Int.toNat (0:Int)]? (0:Int)
def Bx:List Int:=(Ae x0 x1 x2 x3 x4 x5 x6 x7 x8 x9 x10).1
def Bz:List (Int×(Int×Int)):=(Ae x0 x1 x2 x3 x4 x5 x6 x7 x8 x9 x10).2
def BA:Bool:=allT [Lp.fin aR (rH x0 x1 x2 x3 x4 x5 x6 x7 x8 x9 x10),ltI (0:Int) (↑(List.length (uU x0 x1 x2 x3 x4 x5 x6 x7 x8 x9 x10)):Int),ltN (Int.toNat (0:Int)) (List.length (uU x0 x1 x2 x3 x4 x5 x6 x7 x8 x9 x10))]
end
def Mj:List SV→List Entry→Option Out
 | [.one ⟨true,[.val (.string x0),.ref 0,.ref 1,.ref 2,.val (.string x1),.ref 3]⟩,.one ⟨true,[.ref 4,.ref 5]⟩,.one ⟨false,[.ref 6]⟩,.one ⟨false,[.ref 7]⟩,.one ⟨false,[.val (.int .i64 x2)]⟩],[.row false 9 (.str) x3,.row false 9 (.str) x4,.row false 9 (.str) x5,.row false 204 (.pair .str (.sl (178:Nat) (.pair (.int .i64) (.pair .str (.int .i64))))) x6,.row true 2 (.int .i64) x7,.row true 172 (.pair (.int .i64) (.pair (.int .i64) (.int .i64))) x8,.row false 2 (.int .i64) x9,.row false 178 (.pair (.int .i64) (.pair .str (.int .i64))) x10]=>some ⟨.one ⟨false,[.val (.int .i64 (Bw x0 x1 x2 x3 x4 x5 x6 x7 x8 x9 x10))]⟩,[.row false 9 aen x3,.row false 9 aen x4,.row false 9 aen x5,.row false 204 (CTy.pair CTy.str (CTy.sl (178:Nat) abW)) x6,.row true 2 acT (Bx x0 x1 x2 x3 x4 x5 x6 x7 x8 x9 x10),.row true 172 aaH (Bz x0 x1 x2 x3 x4 x5 x6 x7 x8 x9 x10),.row false 2 acT x9,.row false 178 abW x10],[],[BA x0 x1 x2 x3 x4 x5 x6 x7 x8 x9 x10]⟩
 |_,_=>none
def lB:PF prog:=PF.ofG prog [PF.mark prog,mb,PF.lend mb,PF.fz mb,dq,PF.lend dq,PF.fz dq,ow,PF.lend ow,PF.fz ow,As] [aR.F] aP 180 f180 func180 (LOk.fnT (l:= [aZ f180 0]) (by kernel_rfl) (.cons Oi (.nil _))) Mj (by
 intro vs es r h;unfold Mj at h;split at h
 ·cases h;kernel_rfl
 ·cases h)
abbrev nH:=Int×Int×Int×ByteArray×ByteArray×List ByteArray×List ByteArray×List ByteArray×List (ByteArray×(List (Int×(ByteArray×Int))))
def uV(y1:Int)(y8:List (ByteArray×(List (Int×(ByteArray×Int))))):List (Int×ByteArray×Int):=(Option.getD y8[Int.toNat y1]? (vO (CTy.pair CTy.str (CTy.sl (178:Nat) abW)))).2
def BC(y1:Int):Bool:=leI (0:Int) y1
def BD(y1:Int)(y8:List (ByteArray×(List (Int×(ByteArray×Int))))):Bool:=ltI y1 (↑y8.length:Int)
def BE(y1:Int)(y8:List (ByteArray×(List (Int×(ByteArray×Int))))):Bool:=ltN y1.toNat y8.length
def ti(y0 y1:Int)(y8:List (ByteArray×(List (Int×(ByteArray×Int))))):Bool:=ltI y0 (↑(List.length (uV y1 y8)):Int)
def My(y0:Int):Bool:=leI (0:Int) y0
def Mz(y0 y1:Int)(y8:List (ByteArray×(List (Int×(ByteArray×Int))))):Bool:=ltN y0.toNat (List.length (uV y1 y8))
def MA(y0:Int):Int:=IntKind.wrap .i64 (y0 + (1:Int))
def GE(y0 y1 y2:Int)(y8:List (ByteArray×(List (Int×(ByteArray×Int))))):Int:=bif leI (7:Int) ((Option.getD (uV y1 y8)[Int.toNat y0]? ((0:Int),ByteArray.empty,(0:Int))).1)then IntKind.wrap .i64 (y2 + (1:Int))else y2
def SQ:nH→List (Nat×SV)
 |(y0,y1,y2,_,_,_,_,_,_)=> [(14,(.one ⟨false,[.val (.int .i64 y0)]⟩)),(3,(.one ⟨false,[.ptr 0 0]⟩)),(11,(.one ⟨false,[.val (.int .i64 y1)]⟩)),(10,(.one ⟨false,[.val (.int .i64 y2)]⟩))]
def SN:nH→List (Nat×Entry)
 |(_,_,_,y3,y4,y5,y6,y7,y8)=> [(0,(.box 63 [.val (.string y3),.ref 1,.ref 2,.ref 3,.val (.string y4),.ref 4])),(1,(.row false 9 aen y5)),(2,(.row false 9 aen y6)),(3,(.row false 9 aen y7)),(4,(.row false 204 (CTy.pair CTy.str (CTy.sl (178:Nat) abW)) y8))]
def SZ:Nat→nH→List (Nat×SV)
 |_,(_,_,y2,_,_,_,_,_,_)=> [(10,(.one ⟨false,[.val (.int .i64 y2)]⟩))]
def SU:Nat→nH→List (Nat×Entry)
 |_,(_,_,_,y3,y4,y5,y6,y7,y8)=> [(0,(.box 63 [.val (.string y3),.ref 1,.ref 2,.ref 3,.val (.string y4),.ref 4])),(1,(.row false 9 aen y5)),(2,(.row false 9 aen y6)),(3,(.row false 9 aen y7)),(4,(.row false 204 (CTy.pair CTy.str (CTy.sl (178:Nat) abW)) y8))]
def uN:nH→LT nH
 |(y0,y1,y2,y3,y4,y5,y6,y7,y8)=> .need [BC y1,BD y1 y8,BE y1 y8] (.ite (ti y0 y1 y8) (.need [BC y1,BD y1 y8,BE y1 y8,My y0,ti y0 y1 y8,Mz y0 y1 y8] (.nrm ((MA y0),y1,GE y0 y1 y2 y8,y3,y4,y5,y6,y7,y8) [(0,0),(1,1),(2,2),(3,3),(4,4)])) (.ext 0 [(0,0),(1,1),(2,2),(3,3),(4,4)]))
def EV(s:St):Option nH:=
 (match s.look 14 with
 |some ⟨none,.one ⟨false,[.val (.int .i64 y0)]⟩⟩=>
 (match s.look 3 with
 |some ⟨none,.one ⟨false,[.ptr 0 0]⟩⟩=>
 (match s.look 11 with
 |some ⟨none,.one ⟨false,[.val (.int .i64 y1)]⟩⟩=>
 (match s.look 10 with
 |some ⟨none,.one ⟨false,[.val (.int .i64 y2)]⟩⟩=>
 (match s.ent 0 with
 |some (.box 63 [.val (.string y3),.ref 4,.ref 5,.ref 6,.val (.string y4),.ref 7])=>
 (match s.ent 4 with
 |some (.row false 9 (.str) y5)=>
 (match s.ent 5 with
 |some (.row false 9 (.str) y6)=>
 (match s.ent 6 with
 |some (.row false 9 (.str) y7)=>
 (match s.ent 7 with
 |some (.row false 204 (.pair .str (.sl (178:Nat) (.pair (.int .i64) (.pair .str (.int .i64))))) y8)=>
 some (y0,y1,y2,y3,y4,y5,y6,y7,y8)
 |_=>none)
 |_=>none)
 |_=>none)
 |_=>none)
 |_=>none)
 |_=>none)
 |_=>none)
 |_=>none)
 |_=>none)
def eU:Lp nH where
 h:=⟨[67,68,69,70,71,72,73,74,75,78,79,80,81,82,83,84,85,86,87,88,89,90,10,76,77,14],[0,1,2,3,4],[],[]⟩
 JL:=SQ
 JE:=SN
 XL:=SZ
 XE:=SU
 q:=fun j=>match j with | _=> .exit 2
 tags:= [0]
 lt:=uN
 fuel:=fun(y0,y1,y2,y3,y4,y5,y6,y7,y8)=>y0.natAbs + y1.natAbs + y2.natAbs + y3.size + y4.size + y5.length + y6.length + y7.length + y8.length
 fix:=fun(_,y1,_,y3,y4,y5,y6,y7,y8) (y0,_,y2,_,_,_,_,_,_)=>(y0,y1,y2,y3,y4,y5,y6,y7,y8)
 σ:= [(0,0),(1,4),(2,5),(3,6),(4,7)]
 rd:=EV
theorem QO:LoopOk prog (memN [21,22,23,24,25,28,29,30,31,32,33,34,35,36,37,38,12,39,40,41,42,43,44,45,46,47,13,48,49,50,51,52,53,54,55,56,57,58,59,60,61,62,63,64,65,66,14,67,68,69,70,71,72,73,74,75,78,79,80,81,82,83,84,85,86,87,88,89,90,10,76,77,26,27,11]) eU.F (UE (aZ f113 0) 0):=by
 refine Lp.ok (tbl:= [bO,PF.lend bO,PF.fz bO,vK,PF.lend vK,PF.fz vK,tQ,PF.lend tQ,PF.fz tQ,dq,PF.lend dq,PF.fz dq,lB,PF.lend lB,PF.fz lB]) (lf:= []) aP eU (by kernel_rfl) (LOk.nil _) (fun _=>rfl) (fun _ _=>rfl) ?_ ?_ ?_ ?_ (fun _=>rfl) ?_
 ·rintro⟨y0,y1,y2,y3,y4,y5,y6,y7,y8⟩;kernel_rfl
 ·rintro⟨y0,y1,y2,y3,y4,y5,y6,y7,y8⟩;kernel_rfl
 ·intro s x h
  have h:EV s=some x:=h
  unfold EV at h
  repeat' split at h
  all_goals cases h
  exact⟨aa (by assumption) rfl (aa (by assumption) rfl (aa (by assumption) rfl (aa (by assumption) rfl (rfl)))),ab rfl (by assumption) rfl (ab rfl (by assumption) rfl (ab rfl (by assumption) rfl (ab rfl (by assumption) rfl (ab rfl (by assumption) rfl (rfl)))))⟩
 ·rintro⟨y0,y1,y2,y3,y4,y5,y6,y7,y8⟩;kernel_rfl
 ·rintro⟨y0,y1,y2,y3,y4,y5,y6,y7,y8⟩ z;exact(And.intro rfl trivial)
abbrev rt:=Int×Int×ByteArray×ByteArray×List Int×List Int×List ByteArray×List ByteArray×List ByteArray×List (ByteArray×(List (Int×(ByteArray×Int))))×List Int×List (Int×(Int×Int))
def JA(y0:Int)(y9:List (ByteArray×(List (Int×(ByteArray×Int))))):Bool:=ltI y0 (↑y9.length:Int)
def JB(y0:Int)(y9:List (ByteArray×(List (Int×(ByteArray×Int))))):Bool:=ltN y0.toNat y9.length
def qj(y0:Int)(y9:List (ByteArray×(List (Int×(ByteArray×Int))))):ByteArray×List (Int×ByteArray×Int):=Option.getD y9[Int.toNat y0]? (vO (CTy.pair CTy.str (CTy.sl (178:Nat) abW)))
def da(y0:Int)(y7:List ByteArray)(y9:List (ByteArray×(List (Int×(ByteArray×Int))))):Int:=ii y7 ((qj y0 y9).1)
def vA(y0 y1:Int)(y2 y3:ByteArray)(y4:List Int)(y6 y7 y8:List ByteArray)(y9:List (ByteArray×(List (Int×(ByteArray×Int)))))(y10:List Int)(y11:List (Int×(Int×Int))):List Int:=Bx y2 y3 y1 y6 y7 y8 y9 y10 y11 y4 ((qj y0 y9).2)
def vB(y0:Int)(y8:List ByteArray)(y9:List (ByteArray×(List (Int×(ByteArray×Int))))):Int:=ii y8 ((qj y0 y9).1)
def JC(y0 y1:Int)(y2 y3:ByteArray)(y6 y7 y8:List ByteArray)(y9:List (ByteArray×(List (Int×(ByteArray×Int))))):Int×Int×Int×ByteArray×ByteArray×List ByteArray×List ByteArray×List ByteArray×List (ByteArray×List (Int×ByteArray×Int)):=((0:Int),y0,y1,y2,y3,y6,y7,y8,y9)
def Ed(y0 y1:Int)(y2 y3:ByteArray)(y4:List Int)(y6 y7 y8:List ByteArray)(y9:List (ByteArray×(List (Int×(ByteArray×Int)))))(y10:List Int)(y11:List (Int×(Int×Int))):Int:=Bw y2 y3 y1 y6 y7 y8 y9 y10 y11 y4 ((qj y0 y9).2)
def BB(y0:Int)(y9:List (ByteArray×(List (Int×(ByteArray×Int))))):Bool:=JA y0 y9
def KX(y0:Int):Bool:=leI (0:Int) y0
def KY(y0:Int)(y9:List (ByteArray×(List (Int×(ByteArray×Int))))):Bool:=JB y0 y9
def KZ(y0 y1:Int)(y2 y3:ByteArray)(y4:List Int)(y6 y7 y8:List ByteArray)(y9:List (ByteArray×(List (Int×(ByteArray×Int)))))(y10:List Int)(y11:List (Int×(Int×Int))):Bool:=BA y2 y3 y1 y6 y7 y8 y9 y10 y11 y4 ((qj y0 y9).2)
def PB(y7:List ByteArray):Bool:=leN y7.length (9223372036854775807:Nat)
def La(y0:Int)(y7:List ByteArray)(y9:List (ByteArray×(List (Int×(ByteArray×Int))))):Bool:= !leI (0:Int) (da y0 y7 y9)||leI (0:Int) (da y0 y7 y9)
def Lb(y0 y1:Int)(y2 y3:ByteArray)(y4:List Int)(y6 y7 y8:List ByteArray)(y9:List (ByteArray×(List (Int×(ByteArray×Int)))))(y10:List Int)(y11:List (Int×(Int×Int))):Bool:= !leI (0:Int) (da y0 y7 y9)||ltI (da y0 y7 y9) (↑(List.length (vA y0 y1 y2 y3 y4 y6 y7 y8 y9 y10 y11)):Int)
def Lc(y0 y1:Int)(y2 y3:ByteArray)(y4:List Int)(y6 y7 y8:List ByteArray)(y9:List (ByteArray×(List (Int×(ByteArray×Int)))))(y10:List Int)(y11:List (Int×(Int×Int))):Bool:= !leI (0:Int) (da y0 y7 y9)||ltN (Int.toNat (da y0 y7 y9)) (List.length (vA y0 y1 y2 y3 y4 y6 y7 y8 y9 y10 y11))
def Ld(y0:Int)(y7:List ByteArray)(y9:List (ByteArray×(List (Int×(ByteArray×Int))))):Bool:=leI (0:Int) (da y0 y7 y9)||leI (0:Int) y0
def Le(y0:Int)(y7:List ByteArray)(y9:List (ByteArray×(List (Int×(ByteArray×Int))))):Bool:=leI (0:Int) (da y0 y7 y9)||JA y0 y9
def Jp(y0:Int)(y7:List ByteArray)(y9:List (ByteArray×(List (Int×(ByteArray×Int))))):Bool:=leI (0:Int) (da y0 y7 y9)||JB y0 y9
def Jq(y0:Int)(y7 y8:List ByteArray)(y9:List (ByteArray×(List (Int×(ByteArray×Int))))):Bool:=leI (0:Int) (da y0 y7 y9)||leN y8.length (9223372036854775807:Nat)
def Jr(y0:Int)(y7 y8:List ByteArray)(y9:List (ByteArray×(List (Int×(ByteArray×Int))))):Bool:=leI (0:Int) (da y0 y7 y9)||leI (0:Int) (vB y0 y8 y9)
def Js(y0:Int)(y5:List Int)(y7 y8:List ByteArray)(y9:List (ByteArray×(List (Int×(ByteArray×Int))))):Bool:=leI (0:Int) (da y0 y7 y9)||ltI (vB y0 y8 y9) (↑y5.length:Int)
def Jt(y0:Int)(y5:List Int)(y7 y8:List ByteArray)(y9:List (ByteArray×(List (Int×(ByteArray×Int))))):Bool:=leI (0:Int) (da y0 y7 y9)||ltN (Int.toNat (vB y0 y8 y9)) y5.length
def OQ(y0 y1:Int)(y2 y3:ByteArray)(y6 y7 y8:List ByteArray)(y9:List (ByteArray×(List (Int×(ByteArray×Int))))):Bool:=Lp.fin eU (JC y0 y1 y2 y3 y6 y7 y8 y9)
def OR(y0:Int):Int:=IntKind.wrap .i64 (y0 + (1:Int))
def Ju(y0 y1:Int)(y2 y3:ByteArray)(y6 y7 y8:List ByteArray)(y9:List (ByteArray×(List (Int×(ByteArray×Int))))):Int:=((Lp.res eU (JC y0 y1 y2 y3 y6 y7 y8 y9)).2.2.2).1
def Jv(y0 y1:Int)(y2 y3:ByteArray)(y4 y5:List Int)(y6 y7 y8:List ByteArray)(y9:List (ByteArray×(List (Int×(ByteArray×Int)))))(y10:List Int)(y11:List (Int×(Int×Int))):List Int:=bif leI (0:Int) (da y0 y7 y9)then y5 else List.set y5 (Int.toNat (vB y0 y8 y9)) (Ed y0 y1 y2 y3 y4 y6 y7 y8 y9 y10 y11)
def Jw(y0 y1:Int)(y2 y3:ByteArray)(y4:List Int)(y6 y7 y8:List ByteArray)(y9:List (ByteArray×(List (Int×(ByteArray×Int)))))(y10:List Int)(y11:List (Int×(Int×Int))):List Int:=bif leI (0:Int) (da y0 y7 y9)then List.set (vA y0 y1 y2 y3 y4 y6 y7 y8 y9 y10 y11) (Int.toNat (da y0 y7 y9)) (Ed y0 y1 y2 y3 y4 y6 y7 y8 y9 y10 y11)else vA y0 y1 y2 y3 y4 y6 y7 y8 y9 y10 y11
def Jz(y0 y1:Int)(y2 y3:ByteArray)(y4:List Int)(y6 y7 y8:List ByteArray)(y9:List (ByteArray×(List (Int×(ByteArray×Int)))))(y10:List Int)(y11:List (Int×(Int×Int))):List (Int×(Int×Int)):=Bz y2 y3 y1 y6 y7 y8 y9 y10 y11 y4 ((qj y0 y9).2)
def Xv:rt→List (Nat×SV)
 |(y0,y1,_,_,_,_,_,_,_,_,_,_)=> [(11,(.one ⟨false,[.val (.int .i64 y0)]⟩)),(3,(.one ⟨false,[.ptr 0 0]⟩)),(8,(.one ⟨false,[.ptr 1 0]⟩)),(2,(.one ⟨false,[.ref 2]⟩)),(10,(.one ⟨false,[.val (.int .i64 y1)]⟩)),(9,(.one ⟨false,[.ref 3]⟩))]
def Xl:rt→List (Nat×Entry)
 |(_,_,y2,y3,y4,y5,y6,y7,y8,y9,y10,y11)=> [(0,(.box 63 [.val (.string y2),.ref 4,.ref 5,.ref 6,.val (.string y3),.ref 7])),(1,(.box 48 [.ref 8,.ref 9])),(2,(.row false 2 acT y4)),(3,(.row true 2 acT y5)),(4,(.row false 9 aen y6)),(5,(.row false 9 aen y7)),(6,(.row false 9 aen y8)),(7,(.row false 204 (CTy.pair CTy.str (CTy.sl (178:Nat) abW)) y9)),(8,(.row true 2 acT y10)),(9,(.row true 172 aaH y11))]
def XR:Nat→rt→List (Nat×SV)
 |_,(_,_,_,_,_,_,_,_,_,_,_,_)=> []
def XG:Nat→rt→List (Nat×Entry)
 |_,(_,_,y2,y3,y4,y5,y6,y7,y8,y9,y10,y11)=> [(0,(.box 63 [.val (.string y2),.ref 4,.ref 5,.ref 6,.val (.string y3),.ref 7])),(1,(.box 48 [.ref 8,.ref 9])),(2,(.row false 2 acT y4)),(3,(.row true 2 acT y5)),(4,(.row false 9 aen y6)),(5,(.row false 9 aen y7)),(6,(.row false 9 aen y8)),(7,(.row false 204 (CTy.pair CTy.str (CTy.sl (178:Nat) abW)) y9)),(8,(.row true 2 acT y10)),(9,(.row true 172 aaH y11))]
def zi:rt→LT rt
 |(y0,y1,y2,y3,y4,y5,y6,y7,y8,y9,y10,y11)=> .ite (BB y0 y9) (.need [KX y0,BB y0 y9,KY y0 y9,KZ y0 y1 y2 y3 y4 y6 y7 y8 y9 y10 y11] (.need [KX y0,BB y0 y9,KY y0 y9,PB y7] (.need [La y0 y7 y9,Lb y0 y1 y2 y3 y4 y6 y7 y8 y9 y10 y11,Lc y0 y1 y2 y3 y4 y6 y7 y8 y9 y10 y11,Ld y0 y7 y9,Le y0 y7 y9,Jp y0 y7 y9,Jq y0 y7 y8 y9,Jr y0 y7 y8 y9,Js y0 y5 y7 y8 y9,Jt y0 y5 y7 y8 y9] (.need [OQ y0 y1 y2 y3 y6 y7 y8 y9] (.nrm ((OR y0),Ju y0 y1 y2 y3 y6 y7 y8 y9,y2,y3,y4,Jv y0 y1 y2 y3 y4 y5 y6 y7 y8 y9 y10 y11,y6,y7,y8,y9,Jw y0 y1 y2 y3 y4 y6 y7 y8 y9 y10 y11,(Jz y0 y1 y2 y3 y4 y6 y7 y8 y9 y10 y11)) [(0,0),(1,1),(2,2),(3,3),(4,4),(5,5),(6,6),(7,7),(8,8),(9,9)]))))) (.ext 0 [(0,0),(1,1),(2,2),(3,3),(4,4),(5,5),(6,6),(7,7),(8,8),(9,9)])
def Jg(s:St):Option rt:=
 (match s.look 11 with
 |some ⟨none,.one ⟨false,[.val (.int .i64 y0)]⟩⟩=>
 (match s.look 3 with
 |some ⟨none,.one ⟨false,[.ptr 512 0]⟩⟩=>
 (match s.look 8 with
 |some ⟨none,.one ⟨false,[.ptr 896 0]⟩⟩=>
 (match s.look 2 with
 |some ⟨none,.one ⟨false,[.ref 6]⟩⟩=>
 (match s.look 10 with
 |some ⟨none,.one ⟨false,[.val (.int .i64 y1)]⟩⟩=>
 (match s.look 9 with
 |some ⟨none,.one ⟨false,[.ref 1216]⟩⟩=>
 (match s.ent 512 with
 |some (.box 63 [.val (.string y2),.ref 0,.ref 1,.ref 2,.val (.string y3),.ref 3])=>
 (match s.ent 896 with
 |some (.box 48 [.ref 832,.ref 833])=>
 (match s.ent 6 with
 |some (.row false 2 (.int .i64) y4)=>
 (match s.ent 1216 with
 |some (.row true 2 (.int .i64) y5)=>
 (match s.ent 0 with
 |some (.row false 9 (.str) y6)=>
 (match s.ent 1 with
 |some (.row false 9 (.str) y7)=>
 (match s.ent 2 with
 |some (.row false 9 (.str) y8)=>
 (match s.ent 3 with
 |some (.row false 204 (.pair .str (.sl (178:Nat) (.pair (.int .i64) (.pair .str (.int .i64))))) y9)=>
 (match s.ent 832 with
 |some (.row true 2 (.int .i64) y10)=>
 (match s.ent 833 with
 |some (.row true 172 (.pair (.int .i64) (.pair (.int .i64) (.int .i64))) y11)=>
 some (y0,y1,y2,y3,y4,y5,y6,y7,y8,y9,y10,y11)
 |_=>none)
 |_=>none)
 |_=>none)
 |_=>none)
 |_=>none)
 |_=>none)
 |_=>none)
 |_=>none)
 |_=>none)
 |_=>none)
 |_=>none)
 |_=>none)
 |_=>none)
 |_=>none)
 |_=>none)
 |_=>none)
def gY:Lp rt where
 h:=⟨[21,22,23,24,25,28,29,30,31,32,33,34,35,36,37,38,12,39,40,41,42,43,44,45,46,47,13,48,49,50,51,52,53,54,55,56,57,58,59,60,61,62,63,64,65,66,14,67,68,69,70,71,72,73,74,75,78,79,80,81,82,83,84,85,86,87,88,89,90,10,76,77,26,27,11],[0,1,2,3,4,5,6,7,8,9],[],[]⟩
 JL:=Xv
 JE:=Xl
 XL:=XR
 XE:=XG
 q:=fun j=>match j with | _=> .exit 0
 tags:= [0]
 lt:=zi
 fuel:=fun(y0,y1,y2,y3,y4,y5,y6,y7,y8,y9,y10,y11)=>y0.natAbs + y1.natAbs + y2.size + y3.size + y4.length + y5.length + y6.length + y7.length + y8.length + y9.length + y10.length + y11.length
 fix:=fun(_,_,y2,y3,y4,_,y6,y7,y8,y9,_,_) (y0,y1,_,_,_,y5,_,_,_,_,y10,y11)=>(y0,y1,y2,y3,y4,y5,y6,y7,y8,y9,y10,y11)
 σ:= [(0,512),(1,896),(2,6),(3,1216),(4,0),(5,1),(6,2),(7,3),(8,832),(9,833)]
 rd:=Jg
theorem UN:LoopOk prog (fun k=>Nat.blt k Tryz.f113.ntmps) gY.F (aZ f113 0):=by
 refine Lp.ok (tbl:= [bO,PF.lend bO,PF.fz bO,vK,PF.lend vK,PF.fz vK,tQ,PF.lend tQ,PF.fz tQ,dq,PF.lend dq,PF.fz dq,lB,PF.lend lB,PF.fz lB]) (lf:= [eU.F]) aP gY (by kernel_rfl) (LOk.allT (l:= [UE (aZ f113 0) 0]) (by kernel_rfl) (.cons QO (.nil _))) (fun _=>rfl) (fun _ _=>rfl) ?_ ?_ ?_ ?_ (fun _=>rfl) ?_
 ·rintro⟨y0,y1,y2,y3,y4,y5,y6,y7,y8,y9,y10,y11⟩;kernel_rfl
 ·rintro⟨y0,y1,y2,y3,y4,y5,y6,y7,y8,y9,y10,y11⟩;kernel_rfl
 ·intro s x h
  have h:Jg s=some x:=h
  unfold Jg at h
  repeat' split at h
  all_goals cases h
  exact⟨aa (by assumption) rfl (aa (by assumption) rfl (aa (by assumption) rfl (aa (by assumption) rfl (aa (by assumption) rfl (aa (by assumption) rfl (rfl)))))),ab rfl (by assumption) rfl (ab rfl (by assumption) rfl (ab rfl (by assumption) rfl (ab rfl (by assumption) rfl (ab rfl (by assumption) rfl (ab rfl (by assumption) rfl (ab rfl (by assumption) rfl (ab rfl (by assumption) rfl (ab rfl (by assumption) rfl (ab rfl (by assumption) rfl (rfl))))))))))⟩
 ·rintro⟨y0,y1,y2,y3,y4,y5,y6,y7,y8,y9,y10,y11⟩;kernel_rfl
 ·rintro⟨y0,y1,y2,y3,y4,y5,y6,y7,y8,y9,y10,y11⟩ z;exact(And.intro rfl trivial)
def Au(x1:ByteArray):Bool:=
 !ByteArray.toList x1==ByteArray.toList { data:= #[] }
section
variable (x0 x1:ByteArray)(x2 x3 x4:List ByteArray)(x5:List (ByteArray×List (Int×ByteArray×Int)))(x6:List Int)(x7:List (Int×Int×Int))(x8:List Int)
def IE:List Int:=List.replicate (Int.toNat (↑x4.length:Int)) (0:Int)
def Es:Int×Int×ByteArray×ByteArray×List Int×List Int×List ByteArray×List ByteArray×List ByteArray×List (ByteArray×List (Int×ByteArray×Int))×List Int×List (Int×Int×Int):=((0:Int),(0:Int),x0,x1,x8,IE x4,x2,x3,x4,x5,x6,x7)
def IF:List Int×List ByteArray×List ByteArray×List ByteArray×List (ByteArray×List (Int×ByteArray×Int))×List Int×List (Int×Int×Int):=(Lp.res gY (Es x0 x1 x2 x3 x4 x5 x6 x7 x8)).2.2.2.2.2.2
def IG:List Int×List (Int×Int×Int):=(IF x0 x1 x2 x3 x4 x5 x6 x7 x8).2.2.2.2.2
def Av:List Int:=(IG x0 x1 x2 x3 x4 x5 x6 x7 x8).1
def rU:Bool:=bif Au x1 then qs x1 x2 x3 (Av x0 x1 x2 x3 x4 x5 x6 x7 x8) x8==(0:Int)else false
def IH:List Int:=bif Au x1&&true then Av x0 x1 x2 x3 x4 x5 x6 x7 x8 else Av x0 x1 x2 x3 x4 x5 x6 x7 x8
def II:List (Int×Int×Int):=(IG x0 x1 x2 x3 x4 x5 x6 x7 x8).2
def IJ:List (Int×Int×Int):=bif Au x1&&true then II x0 x1 x2 x3 x4 x5 x6 x7 x8 else II x0 x1 x2 x3 x4 x5 x6 x7 x8
def LW:Bool:=leI (↑x4.length:Int) (↑x4.length:Int)
def LX:Bool:=leI ((↑(8:Nat):Int) * (↑x4.length:Int)) (281474976710656:Int)
def KT:List Int:=bif rU x0 x1 x2 x3 x4 x5 x6 x7 x8 then IE x4 else (IF x0 x1 x2 x3 x4 x5 x6 x7 x8).1
def KU:List Int:=bif rU x0 x1 x2 x3 x4 x5 x6 x7 x8 then IH x0 x1 x2 x3 x4 x5 x6 x7 x8 else IH x0 x1 x2 x3 x4 x5 x6 x7 x8
def KV:List (Int×(Int×Int)):=bif rU x0 x1 x2 x3 x4 x5 x6 x7 x8 then IJ x0 x1 x2 x3 x4 x5 x6 x7 x8 else IJ x0 x1 x2 x3 x4 x5 x6 x7 x8
def KW:Bool:=allT [Me x6 x7,leI (0:Int) (↑x4.length:Int),LW x4,LX x4,leI (↑x4.length:Int) (9223372036854775807:Int),Lp.fin gY (Es x0 x1 x2 x3 x4 x5 x6 x7 x8),!(Au x1&&true)||qt x1 x2 x3 (Av x0 x1 x2 x3 x4 x5 x6 x7 x8) x8,!rU x0 x1 x2 x3 x4 x5 x6 x7 x8||leI (0:Int) (↑x4.length:Int),!rU x0 x1 x2 x3 x4 x5 x6 x7 x8||LW x4,!rU x0 x1 x2 x3 x4 x5 x6 x7 x8||LX x4,!rU x0 x1 x2 x3 x4 x5 x6 x7 x8||leI (↑x4.length:Int) (9223372036854775807:Int)]
end
def TE:List SV→List Entry→Option Out
 | [.one ⟨true,[.val (.string x0),.ref 0,.ref 1,.ref 2,.val (.string x1),.ref 3]⟩,.one ⟨true,[.ref 4,.ref 5]⟩,.one ⟨false,[.ref 6]⟩],[.row false 9 (.str) x2,.row false 9 (.str) x3,.row false 9 (.str) x4,.row false 204 (.pair (.str) (.sl 178 (.pair (.int .i64) (.pair (.str) (.int .i64))))) x5,.row false 2 (.int .i64) x6,.row false 172 (.pair (.int .i64) (.pair (.int .i64) (.int .i64))) x7,.row false 2 (.int .i64) x8]=>some ⟨.tup [⟨false,[.ref 7]⟩,⟨true,[.ref 8,.ref 9]⟩],[.row false 9 aen x2,.row false 9 aen x3,.row false 9 aen x4,.row false 204 (CTy.pair CTy.str (CTy.sl (178:TypeId) abW)) x5,.row false 2 acT x6,.row false 172 aaH x7,.row false 2 acT x8],[.row true 2 acT (KT x0 x1 x2 x3 x4 x5 x6 x7 x8),.row true 2 acT (KU x0 x1 x2 x3 x4 x5 x6 x7 x8),.row true 172 aaH (KV x0 x1 x2 x3 x4 x5 x6 x7 x8)],[KW x0 x1 x2 x3 x4 x5 x6 x7 x8]⟩
 |_,_=>none
def Oz:PF prog:=PF.ofG prog [bO,PF.lend bO,PF.fz bO,vK,PF.lend vK,PF.fz vK,tQ,PF.lend tQ,PF.fz tQ,dq,PF.lend dq,PF.fz dq,lB,PF.lend lB,PF.fz lB] [gY.F] aP 113 f113 func113 (LOk.fnT (l:= [aZ f113 0]) (by kernel_rfl) (.cons UN (.nil _))) TE (by
 intro vs es r h;unfold TE at h;split at h
 ·cases h;kernel_rfl
 ·cases h)
abbrev kU:=Int×List (Int×(ByteArray×Int))×List Int×List (Int×(Int×Int))
section
variable (y0:Int)(y1:List (Int×(ByteArray×Int)))(y3:List (Int×(Int×Int)))
def th:Int×ByteArray×Int:=Option.getD y1[Int.toNat y0]? ((0:Int),ByteArray.empty,(0:Int))
def qi:Int×Int×Int:=Option.getD y3[Int.toNat y0]? ((0:Int),(0:Int),(0:Int))
def uo:Bool:=ltI y0 (↑y1.length:Int)
def uq:Bool:=leI (0:Int) y0
def yf:Bool:=ltN y0.toNat y1.length
def yg:Bool:=ltI y0 (↑y3.length:Int)
def yh:Bool:=ltN y0.toNat y3.length
def yj:Bool:= !cJ ((th y0 y1).1) ((th y0 y1).2.2) ((qi y0 y3).1) (((qi y0 y3).2).1) ((qi y0 y3).2.2)
def yk:Int:=IntKind.wrap .i64 (y0 + (1:Int))
end
def TS:kU→List (Nat×SV)
 |(y0,_,_,_)=> [(6,(.one ⟨false,[.val (.int .i64 y0)]⟩)),(5,(.one ⟨false,[.ref 0]⟩)),(3,(.one ⟨false,[.ptr 1 0]⟩))]
def TL:kU→List (Nat×Entry)
 |(_,y1,y2,y3)=> [(0,(.row true 178 abW y1)),(1,(.box 48 [.ref 2,.ref 3])),(2,(.row false 2 acT y2)),(3,(.row false 172 aaH y3))]
def Um:Nat→kU→List (Nat×SV)
 |0,(_,_,_,_)=> [(4,(.one ⟨false,[.val (.bool false)]⟩))]
 |_,(_,_,_,_)=> []
def Ug:Nat→kU→List (Nat×Entry)
 |0,(_,y1,y2,y3)=> [(0,(.row true 178 abW y1)),(1,(.box 48 [.ref 2,.ref 3])),(2,(.row false 2 acT y2)),(3,(.row false 172 aaH y3))]
 |_,(_,y1,y2,y3)=> [(0,(.row true 178 abW y1)),(1,(.box 48 [.ref 2,.ref 3])),(2,(.row false 2 acT y2)),(3,(.row false 172 aaH y3))]
def vY:kU→LT kU
 |(y0,y1,y2,y3)=> .ite (uo y0 y1) (.need [uq y0,uo y0 y1,yf y0 y1,uq y0,yg y0 y3,yh y0 y3] (.ite (yj y0 y1 y3) (.ext 0 [(0,0),(1,1),(2,2),(3,3)]) (.nrm ((yk y0),y1,y2,y3) [(0,0),(1,1),(2,2),(3,3)]))) (.ext 1 [(0,0),(1,1),(2,2),(3,3)])
def Gz(s:St):Option kU:=
 (match s.look 6 with
 |some ⟨none,.one ⟨false,[.val (.int .i64 y0)]⟩⟩=>
 (match s.look 5 with
 |some ⟨none,.one ⟨false,[.ref 704]⟩⟩=>
 (match s.look 3 with
 |some ⟨none,.one ⟨false,[.ptr 512 0]⟩⟩=>
 (match s.ent 704 with
 |some (.row true 178 (.pair (.int .i64) (.pair .str (.int .i64))) y1)=>
 (match s.ent 512 with
 |some (.box 48 [.ref 4,.ref 5])=>
 (match s.ent 4 with
 |some (.row false 2 (.int .i64) y2)=>
 (match s.ent 5 with
 |some (.row false 172 (.pair (.int .i64) (.pair (.int .i64) (.int .i64))) y3)=>
 some (y0,y1,y2,y3)
 |_=>none)
 |_=>none)
 |_=>none)
 |_=>none)
 |_=>none)
 |_=>none)
 |_=>none)
def dl:Lp kU where
 h:=⟨[24,25,26,27,30,31,32,33,34,35,36,37,38,39,40,4,28,29,6],[0,1,2,3],[],[]⟩
 JL:=TS
 JE:=TL
 XL:=Um
 XE:=Ug
 q:=fun j=>match j with | 0=> .ret | _=> .exit 0
 tags:= [0,1]
 lt:=vY
 fuel:=fun(y0,y1,y2,y3)=>y0.natAbs + y1.length + y2.length + y3.length
 fix:=fun(_,y1,y2,y3) (y0,_,_,_)=>(y0,y1,y2,y3)
 σ:= [(0,704),(1,512),(2,4),(3,5)]
 rd:=Gz
theorem RD:LoopOk prog (fun k=>Nat.blt k Tryz.f119.ntmps) dl.F (aZ f119 0):=by
 refine Lp.ok (tbl:= [Ox,yx,PF.lend yx,PF.fz yx,tO,PF.lend tO,PF.fz tO]) (lf:= []) aP dl (by kernel_rfl) (LOk.nil _) (fun _=>rfl) (fun j _=>by unfold dl;match j with | 0=>rfl | _ + 1=>rfl) ?_ ?_ ?_ ?_ (fun _=>rfl) ?_
 ·rintro⟨y0,y1,y2,y3⟩;kernel_rfl
 ·rintro⟨y0,y1,y2,y3⟩;kernel_rfl
 ·intro s x h
  have h:Gz s=some x:=h
  unfold Gz at h
  repeat' split at h
  all_goals cases h
  exact⟨aa (by assumption) rfl (aa (by assumption) rfl (aa (by assumption) rfl (rfl))),ab rfl (by assumption) rfl (ab rfl (by assumption) rfl (ab rfl (by assumption) rfl (ab rfl (by assumption) rfl (rfl))))⟩
 ·rintro⟨y0,y1,y2,y3⟩;kernel_rfl
 ·rintro⟨y0,y1,y2,y3⟩ z;exact(And.intro (And.intro trivial rfl) trivial)
section
variable (x3:List ByteArray)(x5:List (ByteArray×List (Int×ByteArray×Int)))(x6:List Int)(x7:List (Int×Int×Int))
def xg:Bool:=(↑x7.length:Int)!=(↑(List.length (blL x5)):Int)
def Fw:Bool:=bif xg x5 x7 then true else !bitsB (↑x3.length:Int) x6
def Fx:Int×List (Int×ByteArray×Int)×List Int×List (Int×Int×Int):=((0:Int),blL x5,x6,x7)
def yA:Bool:=bif Fw x3 x5 x6 x7 then false else bif Nat.beq ((Lp.res dl (Fx x5 x6 x7)).1) (0:Nat)then false else true
def Dg:Bool:=allT [Sz x5,!(!xg x5 x7&&true)||leN x6.length (9223372036854775807:Nat),Fw x3 x5 x6 x7||Lp.fin dl (Fx x5 x6 x7)]
end
def Qx:List SV→List Entry→Option Out
 | [.one ⟨true,[.val (.string _x0),.ref 0,.ref 1,.ref 2,.val (.string _x1),.ref 3]⟩,.one ⟨true,[.ref 4,.ref 5]⟩],[.row false 9 (.str) x2,.row false 9 (.str) x3,.row false 9 (.str) x4,.row false 204 (.pair (.str) (.sl 178 (.pair (.int .i64) (.pair (.str) (.int .i64))))) x5,.row false 2 (.int .i64) x6,.row false 172 (.pair (.int .i64) (.pair (.int .i64) (.int .i64))) x7]=>some ⟨.one ⟨false,[.val (.bool (yA x3 x5 x6 x7))]⟩,[.row false 9 aen x2,.row false 9 aen x3,.row false 9 aen x4,.row false 204 (CTy.pair CTy.str (CTy.sl (178:TypeId) abW)) x5,.row false 2 acT x6,.row false 172 aaH x7],[],[Dg x3 x5 x6 x7]⟩
 |_,_=>none
def LM:PF prog:=PF.ofG prog [Ox,yx,PF.lend yx,PF.fz yx,tO,PF.lend tO,PF.fz tO] [dl.F] aP 119 f119 func119 (LOk.fnT (l:= [aZ f119 0]) (by kernel_rfl) (.cons RD (.nil _))) Qx (by
 intro vs es r h;unfold Qx at h;split at h
 ·cases h;kernel_rfl
 ·cases h)
def GD(x0 x1:ByteArray)(x2 x3 x4:List ByteArray)(x5:List (ByteArray×List (Int×ByteArray×Int)))(x6:List Int)(x7:List (Int×Int×Int))(x8:List Int):Int:=bif !zB x0 x2 x3 x4 x1 x5 then(1:Int)else bif bif !yA x3 x5 x6 x7 then true else !bitsB (↑x2.length:Int) x8 then(2:Int)else(0:Int)
def KS(x0 x1:ByteArray)(x2 x3 x4:List ByteArray)(x5:List (ByteArray×List (Int×ByteArray×Int)))(x6:List Int)(x7:List (Int×Int×Int))(x8:List Int):Bool:=allT [prOk x0 x2 x3 x4 x1 x5,!zB x0 x2 x3 x4 x1 x5||Dg x3 x5 x6 x7,!zB x0 x2 x3 x4 x1 x5||(!(!!yA x3 x5 x6 x7&&true)||leN x8.length (9223372036854775807:Nat))]
def TC:List SV→List Entry→Option Out
 | [.one ⟨true,[.val (.string x0),.ref 0,.ref 1,.ref 2,.val (.string x1),.ref 3]⟩,.one ⟨true,[.ref 4,.ref 5]⟩,.one ⟨false,[.ref 6]⟩],[.row false 9 (.str) x2,.row false 9 (.str) x3,.row false 9 (.str) x4,.row false 204 (.pair (.str) (.sl 178 (.pair (.int .i64) (.pair (.str) (.int .i64))))) x5,.row false 2 (.int .i64) x6,.row false 172 (.pair (.int .i64) (.pair (.int .i64) (.int .i64))) x7,.row false 2 (.int .i64) x8]=>some ⟨.one ⟨false,[.val (.int .i64 (GD x0 x1 x2 x3 x4 x5 x6 x7 x8))]⟩,[.row false 9 aen x2,.row false 9 aen x3,.row false 9 aen x4,.row false 204 (CTy.pair CTy.str (CTy.sl (178:TypeId) abW)) x5,.row false 2 acT x6,.row false 172 aaH x7,.row false 2 acT x8],[],[KS x0 x1 x2 x3 x4 x5 x6 x7 x8]⟩
 |_,_=>none
def Oy:PF prog:=PF.ofG prog [Oq,PF.lend Oq,PF.fz Oq,LM,PF.lend LM,PF.fz LM,tO,PF.lend tO,PF.fz tO] [] aP 112 f112 func112 (fun c _=>LOk.nil c) TC (by
 intro vs es r h;unfold TC at h;split at h
 ·cases h;kernel_rfl
 ·cases h)
section
variable (x0 x1:ByteArray)(x2 x3 x4:List ByteArray)(x5:List (ByteArray×List (Int×ByteArray×Int)))(x6:List Int)(x7:List (Int×Int×Int))(x8:List Int)
def At:Bool:=GD x0 x1 x2 x3 x4 x5 x6 x7 x8 !=(0:Int)
def zC:Int:=bif At x0 x1 x2 x3 x4 x5 x6 x7 x8 then GD x0 x1 x2 x3 x4 x5 x6 x7 x8 else(0:Int)
def KL:List Int:=bif At x0 x1 x2 x3 x4 x5 x6 x7 x8 then []else KT x0 x1 x2 x3 x4 x5 x6 x7 x8
def OG:List Int:=bif At x0 x1 x2 x3 x4 x5 x6 x7 x8 then []else KU x0 x1 x2 x3 x4 x5 x6 x7 x8
def OH:List (Int×(Int×Int)):=bif At x0 x1 x2 x3 x4 x5 x6 x7 x8 then []else KV x0 x1 x2 x3 x4 x5 x6 x7 x8
def KM:Bool:=allT [KS x0 x1 x2 x3 x4 x5 x6 x7 x8,At x0 x1 x2 x3 x4 x5 x6 x7 x8||KW x0 x1 x2 x3 x4 x5 x6 x7 x8]
end
def Tv:List SV→List Entry→Option Out
 | [.one ⟨true,[.val (.string x0),.ref 0,.ref 1,.ref 2,.val (.string x1),.ref 3]⟩,.one ⟨true,[.ref 4,.ref 5]⟩,.one ⟨false,[.ref 6]⟩],[.row false 9 (.str) x2,.row false 9 (.str) x3,.row false 9 (.str) x4,.row false 204 (.pair (.str) (.sl 178 (.pair (.int .i64) (.pair (.str) (.int .i64))))) x5,.row false 2 (.int .i64) x6,.row false 172 (.pair (.int .i64) (.pair (.int .i64) (.int .i64))) x7,.row false 2 (.int .i64) x8]=>some ⟨.tup [⟨false,[.ref 7]⟩,⟨true,[.ref 8,.ref 9]⟩,⟨false,[.val (.int .i64 (zC x0 x1 x2 x3 x4 x5 x6 x7 x8))]⟩],[.row false 9 aen x2,.row false 9 aen x3,.row false 9 aen x4,.row false 204 (CTy.pair CTy.str (CTy.sl (178:TypeId) abW)) x5,.row false 2 acT x6,.row false 172 aaH x7,.row false 2 acT x8],[.row true 2 acT (KL x0 x1 x2 x3 x4 x5 x6 x7 x8),.row true 2 acT (OG x0 x1 x2 x3 x4 x5 x6 x7 x8),.row true 172 aaH (OH x0 x1 x2 x3 x4 x5 x6 x7 x8)],[KM x0 x1 x2 x3 x4 x5 x6 x7 x8]⟩
 |_,_=>none
def Da:PF prog:=PF.ofG prog [Oy,PF.lend Oy,PF.fz Oy,Oz,PF.lend Oz,PF.fz Oz] [] aP 40 f40 func40 (fun c _=>LOk.nil c) Tv (by
 intro vs es r h;unfold Tv at h;split at h
 ·cases h;kernel_rfl
 ·cases h)
abbrev lR:=Int×Int×List Int
section
variable (y0:Int)(y2:List Int)
def vo:Bool:=ltI y0 (↑y2.length:Int)
def zD:Bool:=leI (0:Int) y0
def zE:Bool:=ltN y0.toNat y2.length
def zF:Bool:=Option.getD y2[Int.toNat y0]? (0:Int)!=(0:Int)
def zG:Int:=IntKind.wrap .i64 (y0 + (1:Int))
end
def VH:lR→List (Nat×SV)
 |(y0,y1,_)=> [(11,(.one ⟨false,[.val (.int .i64 y0)]⟩)),(8,(.one ⟨false,[.ref 0]⟩)),(10,(.one ⟨false,[.val (.int .i64 y1)]⟩))]
def Vy:lR→List (Nat×Entry)
 |(_,_,y2)=> [(0,(.row true 2 acT y2))]
def VZ:Nat→lR→List (Nat×SV)
 |0,(_,y1,_)=> [(6,(.one ⟨false,[.val (.bool false)]⟩)),(7,(.one ⟨false,[.val (.int .i64 y1)]⟩))]
 |_,(_,_,_)=> []
def VQ:Nat→lR→List (Nat×Entry)
 |0,(_,_,y2)=> [(0,(.row true 2 acT y2))]
 |_,(_,_,y2)=> [(0,(.row true 2 acT y2))]
def xO:lR→LT lR
 |(y0,y1,y2)=> .ite (vo y0 y2) (.need [zD y0,vo y0 y2,zE y0 y2] (.ite (zF y0 y2) (.ext 0 [(0,0)]) (.nrm ((zG y0),y1,y2) [(0,0)]))) (.ext 1 [(0,0)])
def HF(s:St):Option lR:=
 (match s.look 11 with
 |some ⟨none,.one ⟨false,[.val (.int .i64 y0)]⟩⟩=>
 (match s.look 8 with
 |some ⟨none,.one ⟨false,[.ref 960]⟩⟩=>
 (match s.look 10 with
 |some ⟨none,.one ⟨false,[.val (.int .i64 y1)]⟩⟩=>
 (match s.ent 960 with
 |some (.row true 2 (.int .i64) y2)=>
 some (y0,y1,y2)
 |_=>none)
 |_=>none)
 |_=>none)
 |_=>none)
def eI:Lp lR where
 h:=⟨[20,21,22,23,26,27,28,29,30,31,6,7,24,25,11],[0],[],[]⟩
 JL:=VH
 JE:=Vy
 XL:=VZ
 XE:=VQ
 q:=fun j=>match j with | 0=> .ret | _=> .exit 0
 tags:= [0,1]
 lt:=xO
 fuel:=fun(y0,y1,y2)=>y0.natAbs + y1.natAbs + y2.length
 fix:=fun(_,y1,y2) (y0,_,_)=>(y0,y1,y2)
 σ:= [(0,960)]
 rd:=HF
theorem Te:LoopOk prog (fun k=>Nat.blt k Tryz.f42.ntmps) eI.F (aZ f42 0):=by
 refine Lp.ok (tbl:= [Da,PF.lend Da,PF.fz Da]) (lf:= []) aP eI (by kernel_rfl) (LOk.nil _) (fun _=>rfl) (fun j _=>by unfold eI;match j with | 0=>rfl | _ + 1=>rfl) ?_ ?_ ?_ ?_ (fun _=>rfl) ?_
 ·rintro⟨y0,y1,y2⟩;kernel_rfl
 ·rintro⟨y0,y1,y2⟩;kernel_rfl
 ·intro s x h
  have h:HF s=some x:=h
  unfold HF at h
  repeat' split at h
  all_goals cases h
  exact⟨aa (by assumption) rfl (aa (by assumption) rfl (aa (by assumption) rfl (rfl))),ab rfl (by assumption) rfl (rfl)⟩
 ·rintro⟨y0,y1,y2⟩;kernel_rfl
 ·rintro⟨y0,y1,y2⟩ z;exact(And.intro (And.intro trivial rfl) trivial)
section
variable (x0 x1:ByteArray)(x2 x3 x4:List ByteArray)(x5:List (ByteArray×List (Int×ByteArray×Int)))(x6:List Int)(x7:List (Int×Int×Int))(x8:List Int)
def LP:Int×Int×List Int:=((0:Int),zC x0 x1 x2 x3 x4 x5 x6 x7 x8,KL x0 x1 x2 x3 x4 x5 x6 x7 x8)
def LQ:Bool:=Nat.beq ((Lp.res eI (LP x0 x1 x2 x3 x4 x5 x6 x7 x8)).1) (0:Nat)
def MY:Bool:=bif LQ x0 x1 x2 x3 x4 x5 x6 x7 x8 then false else zC x0 x1 x2 x3 x4 x5 x6 x7 x8==(0:Int)
def MZ:Int:=bif LQ x0 x1 x2 x3 x4 x5 x6 x7 x8 then zC x0 x1 x2 x3 x4 x5 x6 x7 x8 else zC x0 x1 x2 x3 x4 x5 x6 x7 x8
def Na:Bool:=allT [KM x0 x1 x2 x3 x4 x5 x6 x7 x8,Lp.fin eI (LP x0 x1 x2 x3 x4 x5 x6 x7 x8)]
end
def Sd:List SV→List Entry→Option Out
 | [.one ⟨true,[.val (.string x0),.ref 0,.ref 1,.ref 2,.val (.string x1),.ref 3]⟩,.one ⟨true,[.ref 4,.ref 5]⟩,.one ⟨false,[.ref 6]⟩],[.row false 9 (.str) x2,.row false 9 (.str) x3,.row false 9 (.str) x4,.row false 204 (.pair (.str) (.sl 178 (.pair (.int .i64) (.pair (.str) (.int .i64))))) x5,.row false 2 (.int .i64) x6,.row false 172 (.pair (.int .i64) (.pair (.int .i64) (.int .i64))) x7,.row false 2 (.int .i64) x8]=>some ⟨.tup [⟨false,[.val (.bool (MY x0 x1 x2 x3 x4 x5 x6 x7 x8))]⟩,⟨false,[.val (.int .i64 (MZ x0 x1 x2 x3 x4 x5 x6 x7 x8))]⟩],[.row false 9 aen x2,.row false 9 aen x3,.row false 9 aen x4,.row false 204 (CTy.pair CTy.str (CTy.sl (178:TypeId) abW)) x5,.row false 2 acT x6,.row false 172 aaH x7,.row false 2 acT x8],[],[Na x0 x1 x2 x3 x4 x5 x6 x7 x8]⟩
 |_,_=>none
def ab8:PF prog:=PF.ofG prog [Da,PF.lend Da,PF.fz Da] [eI.F] aP 42 f42 func42 (LOk.fnT (l:= [aZ f42 0]) (by kernel_rfl) (.cons Te (.nil _))) Sd (by
 intro vs es r h;unfold Sd at h;split at h
 ·cases h;kernel_rfl
 ·cases h)
def kx(x0:List Int)(x1:List (Int×Int×Int)):Bool:=allT [leN x0.length (1048576:Nat),leN x1.length (1048576:Nat)]
def uG:List SV→List Entry→Option Out
 | [.one ⟨true,[.ref 0,.ref 1]⟩],[.row false 2 (.int .i64) x0,.row false 172 (.pair (.int .i64) (.pair (.int .i64) (.int .i64))) x1]=>some ⟨.one ⟨true,[.ref 2,.ref 3]⟩,[.row false 2 acT x0,.row false 172 aaH x1],[.row true 2 acT x0,.row true 172 aaH x1],[kx x0 x1]⟩
 |_,_=>none
def uP:PF prog:=PF.ofG prog [zl,PF.lend zl,PF.fz zl,vk,PF.lend vk,PF.fz vk] [] aP 176 f176 func176 (fun c _=>LOk.nil c) uG (by
 intro vs es r h;unfold uG at h;split at h
 ·cases h;kernel_rfl
 ·cases h)
def wL(x0:List Int)(x3:List ByteArray):Bool:= !bitsB (↑x3.length:Int) x0
def CP(x0:List Int):Bool:=allT [leN x0.length (9223372036854775807:Nat)]
def JF:List SV→List Entry→Option Out
 | [.one ⟨false,[.ref 0]⟩,.one ⟨false,[.ptr 1 0]⟩],[.row false 2 (.int .i64) x0,.box 63 [.val (.string x1),.ref 2,.ref 3,.ref 4,.val (.string x2),.ref 5],.row false 9 (.str) x3,.row false 9 (.str) x4,.row false 9 (.str) x5,.row false 204 (.pair .str (.sl (178:Nat) (.pair (.int .i64) (.pair .str (.int .i64))))) x6]=>some ⟨.one ⟨false,[.val (.bool (wL x0 x3))]⟩,[.row false 2 acT x0,.box 63 [.val (.string x1),.ref 2,.ref 3,.ref 4,.val (.string x2),.ref 5],.row false 9 aen x3,.row false 9 aen x4,.row false 9 aen x5,.row false 204 (CTy.pair CTy.str (CTy.sl (178:Nat) abW)) x6],[],[CP x0]⟩
 |_,_=>none
def pE:PF prog:=PF.ofG prog [tN,PF.lend tN,PF.fz tN] [] aP 175 f175 func175 (fun c _=>LOk.nil c) JF (by
 intro vs es r h;unfold JF at h;split at h
 ·cases h;kernel_rfl
 ·cases h)
abbrev bn:=Int×Int×ByteArray×ByteArray×List (List Int)×List ByteArray×List ByteArray×List ByteArray×List (ByteArray×(List (Int×(ByteArray×Int))))
section
variable (y0 y1:Int)(y4:List (List Int))(y5:List ByteArray)
def ci:List Int:=Option.getD y4[Int.toNat y0]? (vO (CTy.sl (2:Nat) acT))
def hO:Bool:=ltI y0 y1
def li:Bool:=leI (0:Int) y0
def lj:Bool:=ltI y0 (↑y4.length:Int)
def lk:Bool:=ltN y0.toNat y4.length
def hY:Bool:=CP (ci y0 y4)
def hZ:Bool:=wL (ci y0 y4) y5
def py:Int:=IntKind.wrap .i64 (y0 + (1:Int))
end
def EG:bn→List (Nat×SV)
 |(y0,y1,_,_,_,_,_,_,_)=> [(8,(.one ⟨false,[.val (.int .i64 y0)]⟩)),(7,(.one ⟨false,[.val (.int .i64 y1)]⟩)),(1,(.one ⟨false,[.clo 175 [0]]⟩)),(0,(.one ⟨false,[.ref 1]⟩))]
def EF:bn→List (Nat×Entry)
 |(_,_,y2,y3,y4,y5,y6,y7,y8)=> [(0,(.box 63 [.val (.string y2),.ref 2,.ref 3,.ref 4,.val (.string y3),.ref 5])),(1,(.row false 41 (CTy.sl (2:Nat) acT) y4)),(2,(.row false 9 aen y5)),(3,(.row false 9 aen y6)),(4,(.row false 9 aen y7)),(5,(.row false 204 (CTy.pair CTy.str (CTy.sl (178:Nat) abW)) y8))]
def EI:Nat→bn→List (Nat×SV)
 |0,(y0,_,_,_,_,_,_,_,_)=> [(4,(.one ⟨false,[.val (.int .i64 y0)]⟩))]
 |_,(_,_,_,_,_,_,_,_,_)=> []
def EH:Nat→bn→List (Nat×Entry)
 |0,(_,_,y2,y3,y4,y5,y6,y7,y8)=> [(0,(.box 63 [.val (.string y2),.ref 2,.ref 3,.ref 4,.val (.string y3),.ref 5])),(1,(.row false 41 (CTy.sl (2:Nat) acT) y4)),(2,(.row false 9 aen y5)),(3,(.row false 9 aen y6)),(4,(.row false 9 aen y7)),(5,(.row false 204 (CTy.pair CTy.str (CTy.sl (178:Nat) abW)) y8))]
 |_,(_,_,y2,y3,y4,y5,y6,y7,y8)=> [(0,(.box 63 [.val (.string y2),.ref 2,.ref 3,.ref 4,.val (.string y3),.ref 5])),(1,(.row false 41 (CTy.sl (2:Nat) acT) y4)),(2,(.row false 9 aen y5)),(3,(.row false 9 aen y6)),(4,(.row false 9 aen y7)),(5,(.row false 204 (CTy.pair CTy.str (CTy.sl (178:Nat) abW)) y8))]
def gL:bn→LT bn
 |(y0,y1,y2,y3,y4,y5,y6,y7,y8)=> .ite (hO y0 y1) (.need [li y0,lj y0 y4,lk y0 y4,hY y0 y4] (.ite (hZ y0 y4 y5) (.ext 0 [(0,0),(1,1),(2,2),(3,3),(4,4),(5,5)]) (.nrm ((py y0),y1,y2,y3,y4,y5,y6,y7,y8) [(0,0),(1,1),(2,2),(3,3),(4,4),(5,5)]))) (.ext 1 [(0,0),(1,1),(2,2),(3,3),(4,4),(5,5)])
def oX(s:St):Option bn:=
 (match s.look 8 with
 |some ⟨none,.one ⟨false,[.val (.int .i64 y0)]⟩⟩=>
 (match s.look 7 with
 |some ⟨none,.one ⟨false,[.val (.int .i64 y1)]⟩⟩=>
 (match s.look 1 with
 |some ⟨none,.one ⟨false,[.clo 175 [1]]⟩⟩=>
 (match s.look 0 with
 |some ⟨none,.one ⟨false,[.ref 0]⟩⟩=>
 (match s.ent 1 with
 |some (.box 63 [.val (.string y2),.ref 2,.ref 3,.ref 4,.val (.string y3),.ref 5])=>
 (match s.ent 0 with
 |some (.row false 41 (.sl 2 (.int .i64)) y4)=>
 (match s.ent 2 with
 |some (.row false 9 (.str) y5)=>
 (match s.ent 3 with
 |some (.row false 9 (.str) y6)=>
 (match s.ent 4 with
 |some (.row false 9 (.str) y7)=>
 (match s.ent 5 with
 |some (.row false 204 (.pair .str (.sl (178:Nat) (.pair (.int .i64) (.pair .str (.int .i64))))) y8)=>
 some (y0,y1,y2,y3,y4,y5,y6,y7,y8)
 |_=>none)
 |_=>none)
 |_=>none)
 |_=>none)
 |_=>none)
 |_=>none)
 |_=>none)
 |_=>none)
 |_=>none)
 |_=>none)
def ap:Lp bn where
 h:=⟨[9,10,5,11,12,13,14,15,16,17,4,18,8],[0,1,2,3,4,5],[],[]⟩
 JL:=EG
 JE:=EF
 XL:=EI
 XE:=EH
 q:=fun j=>match j with | 0=> .ret | _=> .exit 0
 tags:= [0,1]
 lt:=gL
 fuel:=fun(y0,y1,y2,y3,y4,y5,y6,y7,y8)=>y0.natAbs + y1.natAbs + y2.size + y3.size + y4.length + y5.length + y6.length + y7.length + y8.length
 fix:=fun(_,y1,y2,y3,y4,y5,y6,y7,y8) (y0,_,_,_,_,_,_,_,_)=>(y0,y1,y2,y3,y4,y5,y6,y7,y8)
 σ:= [(0,1),(1,0),(2,2),(3,3),(4,4),(5,5)]
 rd:=oX
theorem DQ:LoopOk prog (fun k=>Nat.blt k Tryz.f217.ntmps) ap.F (aZ f217 0):=by
 refine Lp.ok (tbl:= [pE,PF.lend pE,PF.fz pE]) (lf:= []) aP ap (by kernel_rfl) (LOk.nil _) (fun _=>rfl) (fun j _=>by unfold ap;match j with | 0=>rfl | _ + 1=>rfl) ?_ ?_ ?_ ?_ (fun _=>rfl) ?_
 ·rintro⟨y0,y1,y2,y3,y4,y5,y6,y7,y8⟩;kernel_rfl
 ·rintro⟨y0,y1,y2,y3,y4,y5,y6,y7,y8⟩;kernel_rfl
 ·intro s x h
  have h:oX s=some x:=h
  unfold oX at h
  repeat' split at h
  all_goals cases h
  exact⟨aa (by assumption) rfl (aa (by assumption) rfl (aa (by assumption) rfl (aa (by assumption) rfl (rfl)))),ab rfl (by assumption) rfl (ab rfl (by assumption) rfl (ab rfl (by assumption) rfl (ab rfl (by assumption) rfl (ab rfl (by assumption) rfl (ab rfl (by assumption) rfl (rfl))))))⟩
 ·rintro⟨y0,y1,y2,y3,y4,y5,y6,y7,y8⟩;kernel_rfl
 ·rintro⟨y0,y1,y2,y3,y4,y5,y6,y7,y8⟩ z;exact(And.intro (And.intro trivial rfl) trivial)
section
variable (x0:List (List Int))(x1 x2:ByteArray)(x3 x4 x5:List ByteArray)(x6:List (ByteArray×List (Int×ByteArray×Int)))
def jf:Int×Int×ByteArray×ByteArray×List (List Int)×List ByteArray×List ByteArray×List ByteArray×List (ByteArray×List (Int×ByteArray×Int)):=((0:Int),(↑x0.length:Int),x1,x2,x0,x3,x4,x5,x6)
def mv:Bool:=Nat.beq ((Lp.res ap (jf x0 x1 x2 x3 x4 x5 x6)).1) (0:Nat)
def rj:Int:=bif mv x0 x1 x2 x3 x4 x5 x6 then ((Lp.res ap (jf x0 x1 x2 x3 x4 x5 x6)).2).1else(-1:Int)
def xU:ByteArray:=bif mv x0 x1 x2 x3 x4 x5 x6 then x1 else x1
def xV:ByteArray:=bif mv x0 x1 x2 x3 x4 x5 x6 then x2 else x2
def rk:Bool:=allT [Lp.fin ap (jf x0 x1 x2 x3 x4 x5 x6)]
end
def xl:List SV→List Entry→Option Out
 | [.one ⟨false,[.ref 0]⟩,.one ⟨false,[.clo 175 [1]]⟩],[.row false 41 (.sl 2 (.int .i64)) x0,.box 63 [.val (.string x1),.ref 2,.ref 3,.ref 4,.val (.string x2),.ref 5],.row false 9 (.str) x3,.row false 9 (.str) x4,.row false 9 (.str) x5,.row false 204 (.pair .str (.sl (178:Nat) (.pair (.int .i64) (.pair .str (.int .i64))))) x6]=>some ⟨.one ⟨false,[.val (.int .i64 (rj x0 x1 x2 x3 x4 x5 x6))]⟩,[.row false 41 (CTy.sl (2:Nat) acT) x0,.box 63 [.val (.string (xU x0 x1 x2 x3 x4 x5 x6)),.ref 2,.ref 3,.ref 4,.val (.string (xV x0 x1 x2 x3 x4 x5 x6)),.ref 5],.row false 9 aen x3,.row false 9 aen x4,.row false 9 aen x5,.row false 204 (CTy.pair CTy.str (CTy.sl (178:Nat) abW)) x6],[],[rk x0 x1 x2 x3 x4 x5 x6]⟩
 |_,_=>none
def ri:PF prog:=PF.ofG prog [pE,PF.lend pE,PF.fz pE] [ap.F] aP 217 f217 func217 (LOk.fnT (l:= [aZ f217 0]) (by kernel_rfl) (.cons DQ (.nil _))) xl (by
 intro vs es r h;unfold xl at h;split at h
 ·cases h;kernel_rfl
 ·cases h)
section
variable (x0:List (List Int))(x1 x2:ByteArray)(x3 x4 x5:List ByteArray)(x6:List (ByteArray×List (Int×ByteArray×Int)))
def lg:Bool:=leI (0:Int) (rj x0 x1 x2 x3 x4 x5 x6)
def FA:ByteArray:=xU x0 x1 x2 x3 x4 x5 x6
def FB:ByteArray:=xV x0 x1 x2 x3 x4 x5 x6
def lh:Bool:=allT [rk x0 x1 x2 x3 x4 x5 x6]
end
def vE:List SV→List Entry→Option Out
 | [.one ⟨false,[.ref 0]⟩,.one ⟨false,[.clo 175 [1]]⟩],[.row false 41 (.sl 2 (.int .i64)) x0,.box 63 [.val (.string x1),.ref 2,.ref 3,.ref 4,.val (.string x2),.ref 5],.row false 9 (.str) x3,.row false 9 (.str) x4,.row false 9 (.str) x5,.row false 204 (.pair .str (.sl (178:Nat) (.pair (.int .i64) (.pair .str (.int .i64))))) x6]=>some ⟨.one ⟨false,[.val (.bool (lg x0 x1 x2 x3 x4 x5 x6))]⟩,[.row false 41 (CTy.sl (2:Nat) acT) x0,.box 63 [.val (.string (FA x0 x1 x2 x3 x4 x5 x6)),.ref 2,.ref 3,.ref 4,.val (.string (FB x0 x1 x2 x3 x4 x5 x6)),.ref 5],.row false 9 aen x3,.row false 9 aen x4,.row false 9 aen x5,.row false 204 (CTy.pair CTy.str (CTy.sl (178:Nat) abW)) x6],[],[lh x0 x1 x2 x3 x4 x5 x6]⟩
 |_,_=>none
def px:PF prog:=PF.ofG prog [ri,PF.lend ri,PF.fz ri] [] aP 163 f163 func163 (fun c _=>LOk.nil c) vE (by
 intro vs es r h;unfold vE at h;split at h
 ·cases h;kernel_rfl
 ·cases h)
def Ie(x0 x1:ByteArray)(x2 x3 x4:List ByteArray)(x5:List (ByteArray×List (Int×ByteArray×Int)))(x6:List Int)(x7:List (Int×Int×Int))(x8:List (List Int)):Int:=bif !zB x0 x2 x3 x4 x1 x5 then(1:Int)else bif bif !GF (↑x3.length:Int) (blL x5) x6 x7 then true else lg x8 x0 x1 x2 x3 x4 x5 then(2:Int)else(0:Int)
def Ig(x0 x1:ByteArray)(x2 x3 x4:List ByteArray)(x5:List (ByteArray×List (Int×ByteArray×Int)))(x6:List Int)(x7:List (Int×Int×Int))(x8:List (List Int)):Bool:=allT [prOk x0 x2 x3 x4 x1 x5,!zB x0 x2 x3 x4 x1 x5||Sz x5,!zB x0 x2 x3 x4 x1 x5||leN x6.length (9223372036854775807:Nat)&&(leN (List.length (blL x5)) (9223372036854775807:Nat)&&Zq (blL x5)),!zB x0 x2 x3 x4 x1 x5||(!(!!GF (↑x3.length:Int) (blL x5) x6 x7&&true)||lh x8 x0 x1 x2 x3 x4 x5)]
def RU:List SV→List Entry→Option Out
 | [.one ⟨true,[.val (.string x0),.ref 0,.ref 1,.ref 2,.val (.string x1),.ref 3]⟩,.one ⟨true,[.ref 4,.ref 5]⟩,.one ⟨false,[.ref 6]⟩],[.row false 9 (.str) x2,.row false 9 (.str) x3,.row false 9 (.str) x4,.row false 204 (.pair (.str) (.sl 178 (.pair (.int .i64) (.pair (.str) (.int .i64))))) x5,.row false 2 (.int .i64) x6,.row false 172 (.pair (.int .i64) (.pair (.int .i64) (.int .i64))) x7,.row false 41 (.sl 2 (.int .i64)) x8]=>some ⟨.one ⟨false,[.val (.int .i64 (Ie x0 x1 x2 x3 x4 x5 x6 x7 x8))]⟩,[.row false 9 aen x2,.row false 9 aen x3,.row false 9 aen x4,.row false 204 (CTy.pair CTy.str (CTy.sl (178:TypeId) abW)) x5,.row false 2 acT x6,.row false 172 aaH x7,.row false 41 (CTy.sl (2:TypeId) acT) x8],[],[Ig x0 x1 x2 x3 x4 x5 x6 x7 x8]⟩
 |_,_=>none
def MS:PF prog:=PF.ofG prog [Ol,PF.lend Ol,PF.fz Ol,pw,PF.lend pw,PF.fz pw,ot,PF.lend ot,PF.fz ot,px,PF.lend px,PF.fz px] [] aP 110 f110 func110 (fun c _=>LOk.nil c) RU (by
 intro vs es r h;unfold RU at h;split at h
 ·cases h;kernel_rfl
 ·cases h)
abbrev df:=Int×Int×Int×List Int
section
variable (y0 y1 y2:Int)(y3:List Int)
def nI:Bool:=ltI y0 y1
def nJ:Bool:=leI (0:Int) y0
def nK:Bool:=ltI y0 (↑y3.length:Int)
def nL:Bool:=ltN y0.toNat y3.length
def nM:Bool:=y2==Option.getD y3[Int.toNat y0]? (0:Int)
def nN:Int:=IntKind.wrap .i64 (y0 + (1:Int))
end
def Lo:df→List (Nat×SV)
 |(y0,y1,y2,_)=> [(8,(.one ⟨false,[.val (.int .i64 y0)]⟩)),(7,(.one ⟨false,[.val (.int .i64 y1)]⟩)),(1,(.one ⟨false,[.val (.int .i64 y2)]⟩)),(0,(.one ⟨false,[.ref 0]⟩))]
def Ln:df→List (Nat×Entry)
 |(_,_,_,y3)=> [(0,(.row false 2 acT y3))]
def Lr:Nat→df→List (Nat×SV)
 |0,(y0,_,_,_)=> [(4,(.one ⟨false,[.val (.int .i64 y0)]⟩))]
 |_,(_,_,_,_)=> []
def Lq:Nat→df→List (Nat×Entry)
 |0,(_,_,_,y3)=> [(0,(.row false 2 acT y3))]
 |_,(_,_,_,y3)=> [(0,(.row false 2 acT y3))]
def nf:df→LT df
 |(y0,y1,y2,y3)=> .ite (nI y0 y1) (.need [nJ y0,nK y0 y3,nL y0 y3] (.ite (nM y0 y2 y3) (.ext 0 [(0,0)]) (.nrm ((nN y0),y1,y2,y3) [(0,0)]))) (.ext 1 [(0,0)])
def vm(s:St):Option df:=
 (match s.look 8 with
 |some ⟨none,.one ⟨false,[.val (.int .i64 y0)]⟩⟩=>
 (match s.look 7 with
 |some ⟨none,.one ⟨false,[.val (.int .i64 y1)]⟩⟩=>
 (match s.look 1 with
 |some ⟨none,.one ⟨false,[.val (.int .i64 y2)]⟩⟩=>
 (match s.look 0 with
 |some ⟨none,.one ⟨false,[.ref 0]⟩⟩=>
 (match s.ent 0 with
 |some (.row false 2 (.int .i64) y3)=>
 some (y0,y1,y2,y3)
 |_=>none)
 |_=>none)
 |_=>none)
 |_=>none)
 |_=>none)
def aX:Lp df where
 h:=⟨[9,10,5,11,12,13,14,15,16,17,4,18,8],[0],[],[]⟩
 JL:=Lo
 JE:=Ln
 XL:=Lr
 XE:=Lq
 q:=fun j=>match j with | 0=> .ret | _=> .exit 0
 tags:= [0,1]
 lt:=nf
 fuel:=fun(y0,y1,y2,y3)=>y0.natAbs + y1.natAbs + y2.natAbs + y3.length
 fix:=fun(_,y1,y2,y3) (y0,_,_,_)=>(y0,y1,y2,y3)
 σ:= [(0,0)]
 rd:=vm
theorem Ky:LoopOk prog (fun k=>Nat.blt k Tryz.f182.ntmps) aX.F (aZ f182 0):=by
 refine Lp.ok (tbl:= []) (lf:= []) aP aX (by kernel_rfl) (LOk.nil _) (fun _=>rfl) (fun j _=>by unfold aX;match j with | 0=>rfl | _ + 1=>rfl) ?_ ?_ ?_ ?_ (fun _=>rfl) ?_
 ·rintro⟨y0,y1,y2,y3⟩;kernel_rfl
 ·rintro⟨y0,y1,y2,y3⟩;kernel_rfl
 ·intro s x h
  have h:vm s=some x:=h
  unfold vm at h
  repeat' split at h
  all_goals cases h
  exact⟨aa (by assumption) rfl (aa (by assumption) rfl (aa (by assumption) rfl (aa (by assumption) rfl (rfl)))),ab rfl (by assumption) rfl (rfl)⟩
 ·rintro⟨y0,y1,y2,y3⟩;kernel_rfl
 ·rintro⟨y0,y1,y2,y3⟩ z;exact(And.intro (And.intro trivial rfl) trivial)
section
variable (x0:Int)(x1:List Int)
def pv:Int×Int×Int×List Int:=((0:Int),(↑x1.length:Int),x0,x1)
def zy:Int:=bif Nat.beq ((Lp.res aX (pv x0 x1)).1) (0:Nat)then ((Lp.res aX (pv x0 x1)).2).1else(-1:Int)
def zA:Bool:=allT [Lp.fin aX (pv x0 x1)]
end
def FE:List SV→List Entry→Option Out
 | [.one ⟨false,[.ref 0]⟩,.one ⟨false,[.val (.int .i64 x0)]⟩],[.row false 2 (.int .i64) x1]=>some ⟨.one ⟨false,[.val (.int .i64 (zy x0 x1))]⟩,[.row false 2 acT x1],[],[zA x0 x1]⟩
 |_,_=>none
def zm:PF prog:=PF.ofG prog [] [aX.F] aP 182 f182 func182 (LOk.fnT (l:= [aZ f182 0]) (by kernel_rfl) (.cons Ky (.nil _))) FE (by
 intro vs es r h;unfold FE at h;split at h
 ·cases h;kernel_rfl
 ·cases h)
def rA(x0:Int)(x1:List Int):Bool:=leI (0:Int) (zy x0 x1)
def rB(x0:Int)(x1:List Int):Bool:=allT [zA x0 x1]
def Dw:List SV→List Entry→Option Out
 | [.one ⟨false,[.ref 0]⟩,.one ⟨false,[.val (.int .i64 x0)]⟩],[.row false 2 (.int .i64) x1]=>some ⟨.one ⟨false,[.val (.bool (rA x0 x1))]⟩,[.row false 2 acT x1],[],[rB x0 x1]⟩
 |_,_=>none
def wa:PF prog:=PF.ofG prog [zm,PF.lend zm,PF.fz zm] [] aP 114 f114 func114 (fun c _=>LOk.nil c) Dw (by
 intro vs es r h;unfold Dw at h;split at h
 ·cases h;kernel_rfl
 ·cases h)
section
variable (x0 x1 x2:ByteArray)(x3:Int)(x4 x5:List ByteArray)(x8:List Int)(x9:List (Int×Int×Int))(x10 x11:List Int)
def iR:Int:=bif leI (0:Int) (ii x4 x0)then Option.getD x10[Int.toNat (ii x4 x0)]? (0:Int)else Option.getD x8[Int.toNat (ii x5 x0)]? (0:Int)
def CT:ByteArray:=bif leI (0:Int) (ii x4 x0)then x1 else x1
def CU:ByteArray:=bif leI (0:Int) (ii x4 x0)then x2 else x2
def CV:Int:=bif leI (0:Int) (ii x4 x0)then x3 else x3
def nb:List Int:=bif leI (0:Int) (ii x4 x0)then x8 else x8
def nc:List (Int×(Int×Int)):=bif leI (0:Int) (ii x4 x0)then x9 else x9
def ne:List Int:=bif leI (0:Int) (ii x4 x0)then x11 else x11
def iS:Bool:=allT [leN x4.length (9223372036854775807:Nat),!leI (0:Int) (ii x4 x0)||leI (0:Int) (ii x4 x0),!leI (0:Int) (ii x4 x0)||ltI (ii x4 x0) (↑x10.length:Int),!leI (0:Int) (ii x4 x0)||ltN (Int.toNat (ii x4 x0)) x10.length,leI (0:Int) (ii x4 x0)||leN x5.length (9223372036854775807:Nat),leI (0:Int) (ii x4 x0)||leI (0:Int) (ii x5 x0),leI (0:Int) (ii x4 x0)||ltI (ii x5 x0) (↑x8.length:Int),leI (0:Int) (ii x4 x0)||ltN (Int.toNat (ii x5 x0)) x8.length]
end
def sz:List SV→List Entry→Option Out
 | [.one ⟨false,[.ptr 0 0]⟩,.one ⟨false,[.val (.string x0)]⟩],[.box 202 [.val (.string x1),.ref 1,.ref 2,.ref 3,.val (.string x2),.ref 4,.ref 5,.ref 6,.ref 7,.ref 8,.val (.int .i64 x3)],.row false 9 (.str) x4,.row false 9 (.str) x5,.row false 9 (.str) x6,.row false 204 (.pair (.str) (.sl 178 (.pair (.int .i64) (.pair (.str) (.int .i64))))) x7,.row true 2 (.int .i64) x8,.row true 172 (.pair (.int .i64) (.pair (.int .i64) (.int .i64))) x9,.row false 2 (.int .i64) x10,.row true 2 (.int .i64) x11]=>some ⟨.one ⟨false,[.val (.int .i64 (iR x0 x4 x5 x8 x10))]⟩,[.box 202 [.val (.string (CT x0 x1 x4)),.ref 1,.ref 2,.ref 3,.val (.string (CU x0 x2 x4)),.ref 4,.ref 5,.ref 6,.ref 7,.ref 8,.val (.int .i64 (CV x0 x3 x4))],.row false 9 aen x4,.row false 9 aen x5,.row false 9 aen x6,.row false 204 (CTy.pair CTy.str (CTy.sl (178:TypeId) abW)) x7,.row true 2 acT (nb x0 x4 x8),.row true 172 aaH (nc x0 x4 x9),.row false 2 acT x10,.row true 2 acT (ne x0 x4 x11)],[],[iS x0 x4 x5 x8 x10]⟩
 |_,_=>none
def sU:PF prog:=PF.ofG prog [rS] [] aP 178 f178 func178 (fun c _=>LOk.nil c) sz (by
 intro vs es r h;unfold sz at h;split at h
 ·cases h;kernel_rfl
 ·cases h)
section
variable (x0 x1 x2:ByteArray)(x3:Int)(x4 x5:List ByteArray)(x8:List Int)(x9:List (Int×Int×Int))(x10:List Int)
def mV:Int:=bif leI (0:Int) (ii x4 x0)then Option.getD x10[Int.toNat (ii x4 x0)]? (0:Int)else Option.getD x8[Int.toNat (ii x5 x0)]? (0:Int)
def mW:ByteArray:=bif leI (0:Int) (ii x4 x0)then x1 else x1
def mX:ByteArray:=bif leI (0:Int) (ii x4 x0)then x2 else x2
def mY:Int:=bif leI (0:Int) (ii x4 x0)then x3 else x3
def mZ:List (Int×(Int×Int)):=bif leI (0:Int) (ii x4 x0)then x9 else x9
def na:Bool:=allT [leN x4.length (9223372036854775807:Nat),!leI (0:Int) (ii x4 x0)||leI (0:Int) (ii x4 x0),!leI (0:Int) (ii x4 x0)||ltI (ii x4 x0) (↑x10.length:Int),!leI (0:Int) (ii x4 x0)||ltN (Int.toNat (ii x4 x0)) x10.length,leI (0:Int) (ii x4 x0)||leN x5.length (9223372036854775807:Nat),leI (0:Int) (ii x4 x0)||leI (0:Int) (ii x5 x0),leI (0:Int) (ii x4 x0)||ltI (ii x5 x0) (↑x8.length:Int),leI (0:Int) (ii x4 x0)||ltN (Int.toNat (ii x5 x0)) x8.length]
end
def sy:List SV→List Entry→Option Out
 | [.one ⟨false,[.ptr 0 0]⟩,.one ⟨false,[.val (.string x0)]⟩],[.box 202 [.val (.string x1),.ref 1,.ref 2,.ref 3,.val (.string x2),.ref 4,.ref 5,.ref 6,.ref 7,.ref 8,.val (.int .i64 x3)],.row false 9 (.str) x4,.row false 9 (.str) x5,.row false 9 (.str) x6,.row false 204 (.pair (.str) (.sl 178 (.pair (.int .i64) (.pair (.str) (.int .i64))))) x7,.row false 2 (.int .i64) x8,.row true 172 (.pair (.int .i64) (.pair (.int .i64) (.int .i64))) x9,.row false 2 (.int .i64) x10,.row false 2 (.int .i64) x11]=>some ⟨.one ⟨false,[.val (.int .i64 (mV x0 x4 x5 x8 x10))]⟩,[.box 202 [.val (.string (mW x0 x1 x4)),.ref 1,.ref 2,.ref 3,.val (.string (mX x0 x2 x4)),.ref 4,.ref 5,.ref 6,.ref 7,.ref 8,.val (.int .i64 (mY x0 x3 x4))],.row false 9 aen x4,.row false 9 aen x5,.row false 9 aen x6,.row false 204 (CTy.pair CTy.str (CTy.sl (178:TypeId) abW)) x7,.row false 2 acT x8,.row true 172 aaH (mZ x0 x4 x9),.row false 2 acT x10,.row false 2 acT x11],[],[na x0 x4 x5 x8 x10]⟩
 |_,_=>none
def CZ:PF prog:=PF.ofG prog [rS] [] aP 178 f178 func178 (fun c _=>LOk.nil c) sy (by
 intro vs es r h;unfold sy at h;split at h
 ·cases h;kernel_rfl
 ·cases h)
section
variable (x0 x2 x5:Int)(x6:List Int)(x12:List (Int×Int×Int))
def aw:Int×Int×Int:=Option.getD x12[Int.toNat x5]? ((0:Int),(0:Int),(0:Int))
def nA:Int:=AD x0 x2 ((aw x5 x12).1) (((aw x5 x12).2).1) ((aw x5 x12).2.2) x6
def nB:Int:=IntKind.wrap .i64 (x5 + (1:Int))
def nC:List (Int×(Int×Int)):=List.set x12 x5.toNat (yq x0 x2 ((aw x5 x12).1) (((aw x5 x12).2).1) ((aw x5 x12).2.2) x6,yt x0 (((aw x5 x12).2).1) ((aw x5 x12).2.2) x6,yu x0 x2 ((aw x5 x12).1) (((aw x5 x12).2).1) ((aw x5 x12).2.2) x6)
def nD:Bool:=allT [leI (0:Int) x5,ltI x5 (↑x12.length:Int),ltN x5.toNat x12.length,AE x6,leI (0:Int) x5,ltI x5 (↑x12.length:Int),ltN x5.toNat x12.length]
end
def tu:List SV→List Entry→Option Out
 | [.one ⟨false,[.ptr 0 0]⟩,.one ⟨true,[.val (.int .i64 x0),.val (.string _x1),.val (.int .i64 x2)]⟩,.one ⟨false,[.ref 1]⟩],[.box 202 [.val (.string x3),.ref 2,.ref 3,.ref 4,.val (.string x4),.ref 5,.ref 6,.ref 7,.ref 8,.ref 9,.val (.int .i64 x5)],.row false 2 (.int .i64) x6,.row false 9 (.str) x7,.row false 9 (.str) x8,.row false 9 (.str) x9,.row false 204 (.pair (.str) (.sl 178 (.pair (.int .i64) (.pair (.str) (.int .i64))))) x10,.row false 2 (.int .i64) x11,.row true 172 (.pair (.int .i64) (.pair (.int .i64) (.int .i64))) x12,.row false 2 (.int .i64) x13,.row false 2 (.int .i64) x14]=>some ⟨.one ⟨false,[.val (.int .i64 (nA x0 x2 x5 x6 x12))]⟩,[.box 202 [.val (.string x3),.ref 2,.ref 3,.ref 4,.val (.string x4),.ref 5,.ref 6,.ref 7,.ref 8,.ref 9,.val (.int .i64 (nB x5))],.row false 2 acT x6,.row false 9 aen x7,.row false 9 aen x8,.row false 9 aen x9,.row false 204 (CTy.pair CTy.str (CTy.sl (178:TypeId) abW)) x10,.row false 2 acT x11,.row true 172 aaH (nC x0 x2 x5 x6 x12),.row false 2 acT x13,.row false 2 acT x14],[],[nD x5 x6 x12]⟩
 |_,_=>none
def Dt:PF prog:=PF.ofG prog [agp] [] aP 256 f256 func256 (fun c _=>LOk.nil c) tu (by
 intro vs es r h;unfold tu at h;split at h
 ·cases h;kernel_rfl
 ·cases h)
section
variable (x0:Int)(x1:ByteArray)(x2:Int)(x3 x4:ByteArray)(x5:Int)(x6:List Int)(x7 x8:List ByteArray)(x11:List Int)(x12:List (Int×Int×Int))(x13:List Int)
def iQ:Int:=Option.getD x6[Int.toNat (0:Int)]? (0:Int)
def bG:Int:=bif x0==(1:Int)then mV x1 x7 x8 x11 x13 else bif x0==(2:Int)then(1:Int)else bif x0==(3:Int)then(0:Int)else bif x0==(4:Int)then IntKind.wrap .i64 ((1:Int) - iQ x6)else bif x0==(5:Int)then IntKind.wrap .i64 (↑(BitVec.toNat (BitVec.ofInt (IntKind.bits IntKind.i64) (iQ x6)&&& BitVec.ofInt (IntKind.bits IntKind.i64) (Option.getD x6[Int.toNat (1:Int)]? (0:Int)))):Int)else bif x0==(6:Int)then IntKind.wrap .i64 (↑(BitVec.toNat (BitVec.ofInt (IntKind.bits IntKind.i64) (iQ x6)||| BitVec.ofInt (IntKind.bits IntKind.i64) (Option.getD x6[Int.toNat (1:Int)]? (0:Int)))):Int)else nA x0 x2 x5 x6 x12
def fj:ByteArray:=bif x0==(1:Int)then mW x1 x3 x7 else bif x0==(2:Int)then x3 else bif x0==(3:Int)then x3 else bif x0==(4:Int)then x3 else bif x0==(5:Int)then x3 else bif x0==(6:Int)then x3 else x3
def fk:ByteArray:=bif x0==(1:Int)then mX x1 x4 x7 else bif x0==(2:Int)then x4 else bif x0==(3:Int)then x4 else bif x0==(4:Int)then x4 else bif x0==(5:Int)then x4 else bif x0==(6:Int)then x4 else x4
def aU:Int:=bif x0==(1:Int)then mY x1 x5 x7 else bif x0==(2:Int)then x5 else bif x0==(3:Int)then x5 else bif x0==(4:Int)then x5 else bif x0==(5:Int)then x5 else bif x0==(6:Int)then x5 else nB x5
def aV:List (Int×(Int×Int)):=bif x0==(1:Int)then mZ x1 x7 x12 else bif x0==(2:Int)then x12 else bif x0==(3:Int)then x12 else bif x0==(4:Int)then x12 else bif x0==(5:Int)then x12 else bif x0==(6:Int)then x12 else nC x0 x2 x5 x6 x12
def aW:Bool:=allT [!x0==(1:Int)||na x1 x7 x8 x11 x13,x0==(1:Int)||(x0==(2:Int)||(x0==(3:Int)||(!x0==(4:Int)||leI (0:Int) (0:Int)))),x0==(1:Int)||(x0==(2:Int)||(x0==(3:Int)||(!x0==(4:Int)||ltI (0:Int) (↑x6.length:Int)))),x0==(1:Int)||(x0==(2:Int)||(x0==(3:Int)||(!x0==(4:Int)||ltN (Int.toNat (0:Int)) x6.length))),x0==(1:Int)||(x0==(2:Int)||(x0==(3:Int)||(x0==(4:Int)||(!x0==(5:Int)||leI (0:Int) (0:Int))))),x0==(1:Int)||(x0==(2:Int)||(x0==(3:Int)||(x0==(4:Int)||(!x0==(5:Int)||ltI (0:Int) (↑x6.length:Int))))),x0==(1:Int)||(x0==(2:Int)||(x0==(3:Int)||(x0==(4:Int)||(!x0==(5:Int)||ltN (Int.toNat (0:Int)) x6.length)))),x0==(1:Int)||(x0==(2:Int)||(x0==(3:Int)||(x0==(4:Int)||(!x0==(5:Int)||leI (0:Int) (1:Int))))),x0==(1:Int)||(x0==(2:Int)||(x0==(3:Int)||(x0==(4:Int)||(!x0==(5:Int)||ltI (1:Int) (↑x6.length:Int))))),x0==(1:Int)||(x0==(2:Int)||(x0==(3:Int)||(x0==(4:Int)||(!x0==(5:Int)||ltN (Int.toNat (1:Int)) x6.length)))),x0==(1:Int)||(x0==(2:Int)||(x0==(3:Int)||(x0==(4:Int)||(x0==(5:Int)||(!x0==(6:Int)||leI (0:Int) (0:Int)))))),x0==(1:Int)||(x0==(2:Int)||(x0==(3:Int)||(x0==(4:Int)||(x0==(5:Int)||(!x0==(6:Int)||ltI (0:Int) (↑x6.length:Int)))))),x0==(1:Int)||(x0==(2:Int)||(x0==(3:Int)||(x0==(4:Int)||(x0==(5:Int)||(!x0==(6:Int)||ltN (Int.toNat (0:Int)) x6.length))))),x0==(1:Int)||(x0==(2:Int)||(x0==(3:Int)||(x0==(4:Int)||(x0==(5:Int)||(!x0==(6:Int)||leI (0:Int) (1:Int)))))),x0==(1:Int)||(x0==(2:Int)||(x0==(3:Int)||(x0==(4:Int)||(x0==(5:Int)||(!x0==(6:Int)||ltI (1:Int) (↑x6.length:Int)))))),x0==(1:Int)||(x0==(2:Int)||(x0==(3:Int)||(x0==(4:Int)||(x0==(5:Int)||(!x0==(6:Int)||ltN (Int.toNat (1:Int)) x6.length))))),x0==(1:Int)||(x0==(2:Int)||(x0==(3:Int)||(x0==(4:Int)||(x0==(5:Int)||(x0==(6:Int)||nD x5 x6 x12)))))]
end
def tw:List SV→List Entry→Option Out
 | [.one ⟨false,[.ptr 0 0]⟩,.one ⟨true,[.val (.int .i64 x0),.val (.string x1),.val (.int .i64 x2)]⟩,.one ⟨false,[.ref 1]⟩],[.box 202 [.val (.string x3),.ref 2,.ref 3,.ref 4,.val (.string x4),.ref 5,.ref 6,.ref 7,.ref 8,.ref 9,.val (.int .i64 x5)],.row false 2 (.int .i64) x6,.row false 9 (.str) x7,.row false 9 (.str) x8,.row false 9 (.str) x9,.row false 204 (.pair (.str) (.sl 178 (.pair (.int .i64) (.pair (.str) (.int .i64))))) x10,.row false 2 (.int .i64) x11,.row true 172 (.pair (.int .i64) (.pair (.int .i64) (.int .i64))) x12,.row false 2 (.int .i64) x13,.row false 2 (.int .i64) x14]=>some ⟨.one ⟨false,[.val (.int .i64 (bG x0 x1 x2 x5 x6 x7 x8 x11 x12 x13))]⟩,[.box 202 [.val (.string (fj x0 x1 x3 x7)),.ref 2,.ref 3,.ref 4,.val (.string (fk x0 x1 x4 x7)),.ref 5,.ref 6,.ref 7,.ref 8,.ref 9,.val (.int .i64 (aU x0 x1 x5 x7))],.row false 2 acT x6,.row false 9 aen x7,.row false 9 aen x8,.row false 9 aen x9,.row false 204 (CTy.pair CTy.str (CTy.sl (178:TypeId) abW)) x10,.row false 2 acT x11,.row true 172 aaH (aV x0 x1 x2 x5 x6 x7 x12),.row false 2 acT x13,.row false 2 acT x14],[],[aW x0 x1 x5 x6 x7 x8 x11 x12 x13]⟩
 |_,_=>none
def tz:PF prog:=PF.ofG prog [CZ,Dt] [] aP 223 f223 func223 (fun c _=>LOk.nil c) tw (by
 intro vs es r h;unfold tw at h;split at h
 ·cases h;kernel_rfl
 ·cases h)
abbrev bp:=Int×Int×List (Int×(ByteArray×Int))×List Int×ByteArray×ByteArray×Int×List ByteArray×List ByteArray×List ByteArray×List (ByteArray×(List (Int×(ByteArray×Int))))×List Int×List (Int×(Int×Int))×List Int×List Int
section
variable (y0 y1:Int)(y2:List (Int×(ByteArray×Int)))(y3:List Int)(y4 y5:ByteArray)(y6:Int)(y7 y8:List ByteArray)(y11:List Int)(y12:List (Int×(Int×Int)))(y13:List Int)
def ac:Int×ByteArray×Int:=Option.getD y2[Int.toNat y0]? ((0:Int),ByteArray.empty,(0:Int))
def aH:Int:=IntKind.wrap .i64 ((↑y3.length:Int) - qv ((ac y0 y2).1))
def ec:List Int:= [bG ((ac y0 y2).1) (((ac y0 y2).2).1) ((ac y0 y2).2.2) y6 (List.drop (Int.toNat (aH y0 y2 y3)) y3) y7 y8 y11 y12 y13]
def eo:Bool:=ltI y0 y1
def ep:Bool:=leI (0:Int) y0
def eq:Bool:=ltI y0 (↑y2.length:Int)
def er:Bool:=ltN y0.toNat y2.length
def cS:Bool:=leI (0:Int) (aH y0 y2 y3)
def cT:Bool:=leI (aH y0 y2 y3) (↑y3.length:Int)
def et:Bool:=leN (Int.toNat (aH y0 y2 y3)) y3.length
def eu:Bool:=aW ((ac y0 y2).1) (((ac y0 y2).2).1) y6 (List.drop (Int.toNat (aH y0 y2 y3)) y3) y7 y8 y11 y12 y13
def ew:Bool:=leN (List.length (List.take (Int.toNat (aH y0 y2 y3)) y3) + List.length (ec y0 y2 y3 y6 y7 y8 y11 y12 y13)) (9223372036854775807:Nat)
def ey:Bool:=leN ((List.length (List.take (Int.toNat (aH y0 y2 y3)) y3) + List.length (ec y0 y2 y3 y6 y7 y8 y11 y12 y13)) * (8:Nat)) (140737488355328:Nat)
def dV:Int:=IntKind.wrap .i64 (y0 + (1:Int))
def dW:List Int:=List.take (Int.toNat (aH y0 y2 y3)) y3++ec y0 y2 y3 y6 y7 y8 y11 y12 y13
def dX:ByteArray:=fj ((ac y0 y2).1) (((ac y0 y2).2).1) y4 y7
def dY:ByteArray:=fk ((ac y0 y2).1) (((ac y0 y2).2).1) y5 y7
def dZ:Int:=aU ((ac y0 y2).1) (((ac y0 y2).2).1) y6 y7
def ea:List (Int×(Int×Int)):=aV ((ac y0 y2).1) (((ac y0 y2).2).1) ((ac y0 y2).2.2) y6 (List.drop (Int.toNat (aH y0 y2 y3)) y3) y7 y12
end
def Ay:bp→List (Nat×SV)
 |(y0,y1,_,_,_,_,_,_,_,_,_,_,_,_,_)=> [(13,(.one ⟨false,[.val (.int .i64 y0)]⟩)),(12,(.one ⟨false,[.val (.int .i64 y1)]⟩)),(11,(.one ⟨false,[.ref 0]⟩)),(4,(.one ⟨false,[.ref 1]⟩)),(0,(.one ⟨false,[.ptr 2 0]⟩))]
def Ax:bp→List (Nat×Entry)
 |(_,_,y2,y3,y4,y5,y6,y7,y8,y9,y10,y11,y12,y13,y14)=> [(0,(.row false 178 abW y2)),(2,(.box 202 [.val (.string y4),.ref 3,.ref 4,.ref 5,.val (.string y5),.ref 6,.ref 7,.ref 8,.ref 9,.ref 10,.val (.int .i64 y6)])),(3,(.row false 9 aen y7)),(4,(.row false 9 aen y8)),(5,(.row false 9 aen y9)),(6,(.row false 204 (CTy.pair CTy.str (CTy.sl (178:Nat) abW)) y10)),(7,(.row true 2 acT y11)),(8,(.row true 172 aaH y12)),(9,(.row false 2 acT y13)),(10,(.row true 2 acT y14)),(1,(.row true 2 acT y3))]
def AA:Nat→bp→List (Nat×SV)
 |_,(_,_,_,_,_,_,_,_,_,_,_,_,_,_,_)=> [(4,(.one ⟨false,[.ref 1]⟩))]
def Az:Nat→bp→List (Nat×Entry)
 |_,(_,_,y2,y3,y4,y5,y6,y7,y8,y9,y10,y11,y12,y13,y14)=> [(0,(.row false 178 abW y2)),(1,(.row true 2 acT y3)),(2,(.box 202 [.val (.string y4),.ref 3,.ref 4,.ref 5,.val (.string y5),.ref 6,.ref 7,.ref 8,.ref 9,.ref 10,.val (.int .i64 y6)])),(3,(.row false 9 aen y7)),(4,(.row false 9 aen y8)),(5,(.row false 9 aen y9)),(6,(.row false 204 (CTy.pair CTy.str (CTy.sl (178:Nat) abW)) y10)),(7,(.row true 2 acT y11)),(8,(.row true 172 aaH y12)),(9,(.row false 2 acT y13)),(10,(.row true 2 acT y14))]
def ef:bp→LT bp
 |(y0,y1,y2,y3,y4,y5,y6,y7,y8,y9,y10,y11,y12,y13,y14)=> .ite (eo y0 y1) (.need [ep y0,eq y0 y2,er y0 y2] (.need [cS y0 y2 y3,cT y0 y2 y3,et y0 y2 y3,eu y0 y2 y3 y6 y7 y8 y11 y12 y13] (.need [cS y0 y2 y3,cT y0 y2 y3,ew y0 y2 y3 y6 y7 y8 y11 y12 y13,ey y0 y2 y3 y6 y7 y8 y11 y12 y13] (.nrm ((dV y0),y1,y2,dW y0 y2 y3 y6 y7 y8 y11 y12 y13,dX y0 y2 y4 y7,dY y0 y2 y5 y7,dZ y0 y2 y6 y7,y7,y8,y9,y10,y11,ea y0 y2 y3 y6 y7 y12,y13,y14) [(0,0),(1,1600),(2,2),(3,3),(4,4),(5,5),(6,6),(7,7),(8,8),(9,9),(10,10)])))) (.ext 0 [(0,0),(1,1),(2,2),(3,3),(4,4),(5,5),(6,6),(7,7),(8,8),(9,9),(10,10)])
def lC(s:St):Option bp:=
 (match s.look 13 with
 |some ⟨none,.one ⟨false,[.val (.int .i64 y0)]⟩⟩=>
 (match s.look 12 with
 |some ⟨none,.one ⟨false,[.val (.int .i64 y1)]⟩⟩=>
 (match s.look 11 with
 |some ⟨none,.one ⟨false,[.ref 1]⟩⟩=>
 (match s.look 4 with
 |some ⟨none,.one ⟨false,[.ref 768]⟩⟩=>
 (match s.look 0 with
 |some ⟨none,.one ⟨false,[.ptr 0 0]⟩⟩=>
 (match s.ent 1 with
 |some (.row false 178 (.pair (.int .i64) (.pair .str (.int .i64))) y2)=>
 (match s.ent 0 with
 |some (.box 202 [.val (.string y4),.ref 2,.ref 3,.ref 4,.val (.string y5),.ref 5,.ref 6,.ref 7,.ref 8,.ref 9,.val (.int .i64 y6)])=>
 (match s.ent 2 with
 |some (.row false 9 (.str) y7)=>
 (match s.ent 3 with
 |some (.row false 9 (.str) y8)=>
 (match s.ent 4 with
 |some (.row false 9 (.str) y9)=>
 (match s.ent 5 with
 |some (.row false 204 (.pair .str (.sl (178:Nat) (.pair (.int .i64) (.pair .str (.int .i64))))) y10)=>
 (match s.ent 6 with
 |some (.row true 2 (.int .i64) y11)=>
 (match s.ent 7 with
 |some (.row true 172 (.pair (.int .i64) (.pair (.int .i64) (.int .i64))) y12)=>
 (match s.ent 8 with
 |some (.row false 2 (.int .i64) y13)=>
 (match s.ent 9 with
 |some (.row true 2 (.int .i64) y14)=>
 (match s.ent 768 with
 |some (.row true 2 (.int .i64) y3)=>
 some (y0,y1,y2,y3,y4,y5,y6,y7,y8,y9,y10,y11,y12,y13,y14)
 |_=>none)
 |_=>none)
 |_=>none)
 |_=>none)
 |_=>none)
 |_=>none)
 |_=>none)
 |_=>none)
 |_=>none)
 |_=>none)
 |_=>none)
 |_=>none)
 |_=>none)
 |_=>none)
 |_=>none)
 |_=>none)
def aj:Lp bp where
 h:=⟨[14,15,16,6,17,18,19,20,21,22,7,23,24,25,26,27,28,8,29,30,31,32,33,34,4,35,13],[0,2,3,4,5,6,7,8,9,10],[1],[]⟩
 JL:=Ay
 JE:=Ax
 XL:=AA
 XE:=Az
 q:=fun j=>match j with | _=> .exit 0
 tags:= [0]
 lt:=ef
 fuel:=fun(y0,y1,y2,y3,y4,y5,y6,y7,y8,y9,y10,y11,y12,y13,y14)=>y0.natAbs + y1.natAbs + y2.length + y3.length + y4.size + y5.size + y6.natAbs + y7.length + y8.length + y9.length + y10.length + y11.length + y12.length + y13.length + y14.length
 fix:=fun(_,y1,y2,_,_,_,_,y7,y8,y9,y10,y11,_,y13,y14) (y0,_,_,y3,y4,y5,y6,_,_,_,_,_,y12,_,_)=>(y0,y1,y2,y3,y4,y5,y6,y7,y8,y9,y10,y11,y12,y13,y14)
 σ:= [(0,1),(2,0),(3,2),(4,3),(5,4),(6,5),(7,6),(8,7),(9,8),(10,9),(1,768)]
 rd:=lC
theorem Af:LoopOk prog (fun k=>Nat.blt k Tryz.f177.ntmps) aj.F (aZ f177 0):=by
 refine Lp.ok (tbl:= [PF.views prog,rS,GV,PF.lendBut 172 (PF.view tz)]) (lf:= []) aP aj (by kernel_rfl) (LOk.nil _) (fun _=>rfl) (fun _ _=>rfl) ?_ ?_ ?_ ?_ (fun _=>rfl) ?_
 ·rintro⟨y0,y1,y2,y3,y4,y5,y6,y7,y8,y9,y10,y11,y12,y13,y14⟩;kernel_rfl
 ·rintro⟨y0,y1,y2,y3,y4,y5,y6,y7,y8,y9,y10,y11,y12,y13,y14⟩;kernel_rfl
 ·intro s x h
  have h:lC s=some x:=h
  unfold lC at h
  repeat' split at h
  all_goals cases h
  exact⟨aa (by assumption) rfl (aa (by assumption) rfl (aa (by assumption) rfl (aa (by assumption) rfl (aa (by assumption) rfl (rfl))))),ab rfl (by assumption) rfl (ab rfl (by assumption) rfl (ab rfl (by assumption) rfl (ab rfl (by assumption) rfl (ab rfl (by assumption) rfl (ab rfl (by assumption) rfl (ab rfl (by assumption) rfl (ab rfl (by assumption) rfl (ab rfl (by assumption) rfl (ab rfl (by assumption) rfl (ab rfl (by assumption) rfl (rfl)))))))))))⟩
 ·rintro⟨y0,y1,y2,y3,y4,y5,y6,y7,y8,y9,y10,y11,y12,y13,y14⟩;kernel_rfl
 ·rintro⟨y0,y1,y2,y3,y4,y5,y6,y7,y8,y9,y10,y11,y12,y13,y14⟩ z;exact(And.intro rfl trivial)
section
variable (x0 x1 x2:ByteArray)(x3:Int)(x4:List (Int×ByteArray×Int))(x5 x6 x7:List ByteArray)(x8:List (ByteArray×List (Int×ByteArray×Int)))(x9:List Int)(x10:List (Int×Int×Int))(x11 x12:List Int)
def bC:Int×Int×List (Int×ByteArray×Int)×List Int×ByteArray×ByteArray×Int×List ByteArray×List ByteArray×List ByteArray×List (ByteArray×List (Int×ByteArray×Int))×List Int×List (Int×Int×Int)×List Int×List Int:=((0:Int),(↑x4.length:Int),x4,[],x1,x2,x3,x5,x6,x7,x8,x9,x10,x11,x12)
def cn:List Int×ByteArray×ByteArray×Int×List ByteArray×List ByteArray×List ByteArray×List (ByteArray×List (Int×ByteArray×Int))×List Int×List (Int×Int×Int)×List Int×List Int:=(Lp.res aj (bC x1 x2 x3 x4 x5 x6 x7 x8 x9 x10 x11 x12)).2.2.2.2
def dg:ByteArray×ByteArray×Int×List ByteArray×List ByteArray×List ByteArray×List (ByteArray×List (Int×ByteArray×Int))×List Int×List (Int×Int×Int)×List Int×List Int:=(cn x1 x2 x3 x4 x5 x6 x7 x8 x9 x10 x11 x12).2
def eN:ByteArray×Int×List ByteArray×List ByteArray×List ByteArray×List (ByteArray×List (Int×ByteArray×Int))×List Int×List (Int×Int×Int)×List Int×List Int:=(dg x1 x2 x3 x4 x5 x6 x7 x8 x9 x10 x11 x12).2
def iM:Int×List ByteArray×List ByteArray×List ByteArray×List (ByteArray×List (Int×ByteArray×Int))×List Int×List (Int×Int×Int)×List Int×List Int:=(eN x1 x2 x3 x4 x5 x6 x7 x8 x9 x10 x11 x12).2
def eO:List Int:=(cn x1 x2 x3 x4 x5 x6 x7 x8 x9 x10 x11 x12).1
def iN:Int:=Option.getD (eO x1 x2 x3 x4 x5 x6 x7 x8 x9 x10 x11 x12)[Int.toNat (0:Int)]? (0:Int)
def iO:Bool:=ltI (0:Int) (↑(List.length (eO x1 x2 x3 x4 x5 x6 x7 x8 x9 x10 x11 x12)):Int)
def iP:Bool:=ltN (Int.toNat (0:Int)) (List.length (eO x1 x2 x3 x4 x5 x6 x7 x8 x9 x10 x11 x12))
def jn:ByteArray:=(dg x1 x2 x3 x4 x5 x6 x7 x8 x9 x10 x11 x12).1
def jo:ByteArray:=(eN x1 x2 x3 x4 x5 x6 x7 x8 x9 x10 x11 x12).1
def jp:Int:=(iM x1 x2 x3 x4 x5 x6 x7 x8 x9 x10 x11 x12).1
def jq:List Int:=bif leI (0:Int) (ii x6 x0)then List.set x9 (Int.toNat (ii x6 x0)) (iN x1 x2 x3 x4 x5 x6 x7 x8 x9 x10 x11 x12)else x9
def jr:List (Int×(Int×Int)):=((iM x1 x2 x3 x4 x5 x6 x7 x8 x9 x10 x11 x12).2.2.2.2.2.2).1
def jt:List Int:=bif leI (0:Int) (ii x6 x0)then x12 else List.set x12 (Int.toNat (ii x7 x0)) (iN x1 x2 x3 x4 x5 x6 x7 x8 x9 x10 x11 x12)
def fh:Bool:=allT [Lp.fin aj (bC x1 x2 x3 x4 x5 x6 x7 x8 x9 x10 x11 x12),leN x6.length (9223372036854775807:Nat),!leI (0:Int) (ii x6 x0)||leI (0:Int) (0:Int),!leI (0:Int) (ii x6 x0)||iO x1 x2 x3 x4 x5 x6 x7 x8 x9 x10 x11 x12,!leI (0:Int) (ii x6 x0)||iP x1 x2 x3 x4 x5 x6 x7 x8 x9 x10 x11 x12,!leI (0:Int) (ii x6 x0)||leI (0:Int) (ii x6 x0),!leI (0:Int) (ii x6 x0)||ltI (ii x6 x0) (↑x9.length:Int),!leI (0:Int) (ii x6 x0)||ltN (Int.toNat (ii x6 x0)) x9.length,leI (0:Int) (ii x6 x0)||leN x7.length (9223372036854775807:Nat),leI (0:Int) (ii x6 x0)||leI (0:Int) (0:Int),leI (0:Int) (ii x6 x0)||iO x1 x2 x3 x4 x5 x6 x7 x8 x9 x10 x11 x12,leI (0:Int) (ii x6 x0)||iP x1 x2 x3 x4 x5 x6 x7 x8 x9 x10 x11 x12,leI (0:Int) (ii x6 x0)||leI (0:Int) (ii x7 x0),leI (0:Int) (ii x6 x0)||ltI (ii x7 x0) (↑x12.length:Int),leI (0:Int) (ii x6 x0)||ltN (Int.toNat (ii x7 x0)) x12.length]
end
def tv:List SV→List Entry→Option Out
 | [.one ⟨false,[.ptr 0 0]⟩,.one ⟨true,[.val (.string x0),.ref 1]⟩],[.box 202 [.val (.string x1),.ref 2,.ref 3,.ref 4,.val (.string x2),.ref 5,.ref 6,.ref 7,.ref 8,.ref 9,.val (.int .i64 x3)],.row false 178 (.pair (.int .i64) (.pair (.str) (.int .i64))) x4,.row false 9 (.str) x5,.row false 9 (.str) x6,.row false 9 (.str) x7,.row false 204 (.pair (.str) (.sl 178 (.pair (.int .i64) (.pair (.str) (.int .i64))))) x8,.row true 2 (.int .i64) x9,.row true 172 (.pair (.int .i64) (.pair (.int .i64) (.int .i64))) x10,.row false 2 (.int .i64) x11,.row true 2 (.int .i64) x12]=>some ⟨.tup [],[.box 202 [.val (.string (jn x1 x2 x3 x4 x5 x6 x7 x8 x9 x10 x11 x12)),.ref 2,.ref 3,.ref 4,.val (.string (jo x1 x2 x3 x4 x5 x6 x7 x8 x9 x10 x11 x12)),.ref 5,.ref 6,.ref 7,.ref 8,.ref 9,.val (.int .i64 (jp x1 x2 x3 x4 x5 x6 x7 x8 x9 x10 x11 x12))],.row false 178 abW x4,.row false 9 aen x5,.row false 9 aen x6,.row false 9 aen x7,.row false 204 (CTy.pair CTy.str (CTy.sl (178:TypeId) abW)) x8,.row true 2 acT (jq x0 x1 x2 x3 x4 x5 x6 x7 x8 x9 x10 x11 x12),.row true 172 aaH (jr x1 x2 x3 x4 x5 x6 x7 x8 x9 x10 x11 x12),.row false 2 acT x11,.row true 2 acT (jt x0 x1 x2 x3 x4 x5 x6 x7 x8 x9 x10 x11 x12)],[],[fh x0 x1 x2 x3 x4 x5 x6 x7 x8 x9 x10 x11 x12]⟩
 |_,_=>none
def tx:PF prog:=PF.ofG prog [PF.views prog,rS,GV,PF.lendBut 172 (PF.view tz)] [aj.F] aP 177 f177 func177 (LOk.fnT (l:= [aZ f177 0]) (by kernel_rfl) (.cons Af (.nil _))) tv (by
 intro vs es r h;unfold tv at h;split at h
 ·cases h;kernel_rfl
 ·cases h)
theorem aea{a b:Int}(ha:a=0∨a=1)(hb:b=0∨b=1):IntKind.i64.wrap ((BitVec.toNat (BitVec.ofInt (IntKind.bits IntKind.i64) a&&& BitVec.ofInt (IntKind.bits IntKind.i64) b):Nat):Int)=aiW a b:=by
 rcases ha with rfl | rfl <;> rcases hb with rfl | rfl <;> rfl
theorem agm{a b:Int}(ha:a=0∨a=1)(hb:b=0∨b=1):IntKind.i64.wrap ((BitVec.toNat (BitVec.ofInt (IntKind.bits IntKind.i64) a||| BitVec.ofInt (IntKind.bits IntKind.i64) b):Nat):Int)=orI a b:=by
 rcases ha with rfl | rfl <;> rcases hb with rfl | rfl <;> rfl
theorem agh{a:Int}(ha:a=0∨a=1):IntKind.i64.wrap (1 - a)=1 - a:=by rcases ha with rfl | rfl <;> rfl
theorem Mb{l:List ByteArray}{s:ByteArray}(h:lz l s=true):ii l s=(MX l s:Int):=by simp only [ii,h,cond_true]
theorem aah(s:ByteArray)(ins vs:List ByteArray)(inp xs:List Int)(hr:QT ins vs s=true)(h1:leN ins.length 9223372036854775807=true)(h2:leN vs.length 9223372036854775807=true)(hi:inp.length=ins.length)(hx:xs.length=vs.length):
  qs s ins vs xs inp=nmV ins vs inp xs s∧qt s ins vs xs inp=true:=by
 cases h:lz ins s with
 |true=>
  have e:=Mb h
  have hp:=RK h
  have l0:leI 0 (MX ins s:Int)=true:=cW (by omega)
  have l1:ltI (MX ins s:Int) (inp.length:Int)=true:=gg (by omega)
  have l2:ltN (MX ins s) inp.length=true:=iF (by omega)
  refine⟨?_,?_⟩
  ·simp only [qs,nmV,h,e,l0,cond_true];rfl
  ·simp only [qt,e,l0,l1,l2,h1,h2,allT,Int.toNat_natCast,Bool.or_true,Bool.true_or,cond_true]
 |false=>
  have hv:lz vs s=true:=by simpa [QT,h] using hr
  have e0:leI 0 (ii ins s)=false:=by rw [MD,h]
  have e:=Mb hv
  have hp:=RK hv
  have l0:leI 0 (MX vs s:Int)=true:=cW (by omega)
  have l1:ltI (MX vs s:Int) (xs.length:Int)=true:=gg (by omega)
  have l2:ltN (MX vs s) xs.length=true:=iF (by omega)
  refine⟨?_,?_⟩
  ·simp only [qs,nmV,h,e0,e,cond_false];rfl
  ·simp only [qt,e0,e,l0,l1,l2,h1,h2,allT,Int.toNat_natCast,Bool.or_true,Bool.true_or,Bool.not_false,cond_true]
theorem aeL(s:ByteArray)(ins vs:List ByteArray)(inp xs:List Int):mV s ins vs xs inp=qs s ins vs xs inp∧na s ins vs xs inp=qt s ins vs xs inp:=⟨rfl,rfl⟩
theorem aeM(s:ByteArray)(ins vs:List ByteArray)(inp xs:List Int):iR s ins vs xs inp=qs s ins vs xs inp∧iS s ins vs xs inp=qt s ins vs xs inp:=⟨rfl,rfl⟩
structure TmOk (ins vs:List ByteArray) (inp xs:List Int) (t:TM) (ar:List Int) (k:Nat) (ss:List BS3):Prop where
 hT:termB t.1 t.2.1 t.2.2=true
 ha:bitsB (takesK t.1) ar=true
 hu:usedB ins vs t=true
 h1:leN ins.length 9223372036854775807=true
 h2:leN vs.length 9223372036854775807=true
 hi:inp.length=ins.length
 hx:xs.length=vs.length
 hb:leI 7 t.1=true→k < ss.length∧possB t.1 t.2.2 (stAt ss k).1 (stAt ss k).2.1 (stAt ss k).2.2=true
 hs:ss.length≤100000
theorem aj8{ins vs:List ByteArray}{inp xs:List Int}{kd:Int}{nm:ByteArray}{num:Int}{ar:List Int}{k:Nat}{ss:List BS3}(h:TmOk ins vs inp xs (kd,nm,num) ar k ss)(hk:k≤ss.length)(u v:ByteArray):
  bG kd nm num (k:Int) ar ins vs xs ss inp=tmV ins vs inp xs (kd,nm,num) ar (stAt ss k)∧
  fj kd nm u ins=u∧fk kd nm v ins=v∧
  aU kd nm (k:Int) ins=((bif leI 7 kd then k + 1 else k:Nat):Int)∧
  aV kd nm num (k:Int) ar ins ss=(bif leI 7 kd then ss.set k (SB kd num ar (stAt ss k))else ss)∧
  aW kd nm (k:Int) ar ins vs xs ss inp=true:=by
 obtain⟨hT,ha,hu,h1,h2,hi,hx,hb,hs⟩:=h
 have hkk:=abf hT
 simp only at hT ha hu hb hkk
 have hbits:=(iw.1 ha).1
 have nj:=(iw.1 ha).2
 have a0:=NB hbits 0
 have a1:=NB hbits 1
 have hc:kd=1∨kd=2∨kd=3∨kd=4∨kd=5∨kd=6∨(7≤kd∧kd≤12):=by omega
 have c1: ∀ x:ByteArray,mW nm x ins=x:=fun x=>Bool.cond_self _ _
 have c2: ∀ x:ByteArray,mX nm x ins=x:=fun x=>Bool.cond_self _ _
 have c3: ∀ x:Int,mY nm x ins=x:=fun x=>Bool.cond_self _ _
 have c4: ∀ x:List BS3,mZ nm ins x=x:=fun x=>Bool.cond_self _ _
 have z00:leI (0:Int) 0=true:=rfl
 have z01:leI (0:Int) 1=true:=rfl
 have e0:iQ ar=atZ ar 0:=rfl
 have e1:Option.getD ar[Int.toNat (1:Int)]? (0:Int)=atZ ar 1:=rfl
 rcases hc with rfl | rfl | rfl | rfl | rfl | rfl | hc
 ·have hr:QT ins vs nm=true:=by simpa [usedB] using hu
  obtain⟨v1,v2⟩:=aah nm ins vs inp xs hr h1 h2 hi hx
  have q:leI 7 (1:Int)=false:=rfl
  refine⟨?_,?_,?_,?_,?_,?_⟩
  ·simp [bG,tmV,(aeL nm ins vs inp xs).1,v1]
  ·simp [fj,c1]
  ·simp [fk,c2]
  ·simp [aU,c3,q]
  ·simp [aV,c4,q]
  ·simp [aW,(aeL nm ins vs inp xs).2,v2,allT]
 ·have q:leI 7 (2:Int)=false:=rfl
  refine⟨rfl,rfl,rfl,?_,?_,?_⟩
  ·simp [aU,q]
  ·simp [aV,q]
  ·simp [aW,allT]
 ·have q:leI 7 (3:Int)=false:=rfl
  refine⟨rfl,rfl,rfl,?_,?_,?_⟩
  ·simp [aU,q]
  ·simp [aV,q]
  ·simp [aW,allT]
 ·have q:leI 7 (4:Int)=false:=rfl
  have t:takesK 4=1:=rfl
  rw [t]at nj
  have s1:ltI 0 (ar.length:Int)=true:=gg (by omega)
  have s2:ltN (Int.toNat 0) ar.length=true:=iF (by simp only [Int.toNat_zero];omega)
  refine⟨?_,rfl,rfl,?_,?_,?_⟩
  ·simp [bG,tmV,e0,agh a0]
  ·simp [aU,q]
  ·simp [aV,q]
  ·simp only [aW,allT,z00,s1,s2];rfl
 ·have q:leI 7 (5:Int)=false:=rfl
  have t:takesK 5=2:=rfl
  rw [t]at nj
  have s1:ltI 0 (ar.length:Int)=true:=gg (by omega)
  have s2:ltN (Int.toNat 0) ar.length=true:=iF (by simp only [Int.toNat_zero];omega)
  have s3:ltI 1 (ar.length:Int)=true:=gg (by omega)
  have s4:ltN (Int.toNat 1) ar.length=true:=iF (by have:(Int.toNat 1)=1:=rfl;omega)
  refine⟨?_,rfl,rfl,?_,?_,?_⟩
  ·have:=aea a0 a1
   simp only [bG,tmV,e0,e1,this];rfl
  ·simp [aU,q]
  ·simp [aV,q]
  ·simp only [aW,allT,z00,z01,s1,s2,s3,s4];rfl
 ·have q:leI 7 (6:Int)=false:=rfl
  have t:takesK 6=2:=rfl
  rw [t]at nj
  have s1:ltI 0 (ar.length:Int)=true:=gg (by omega)
  have s2:ltN (Int.toNat 0) ar.length=true:=iF (by simp only [Int.toNat_zero];omega)
  have s3:ltI 1 (ar.length:Int)=true:=gg (by omega)
  have s4:ltN (Int.toNat 1) ar.length=true:=iF (by have:(Int.toNat 1)=1:=rfl;omega)
  refine⟨?_,rfl,rfl,?_,?_,?_⟩
  ·have:=agm a0 a1
   simp only [bG,tmV,e0,e1,this];rfl
  ·simp [aU,q]
  ·simp [aV,q]
  ·simp only [aW,allT,z00,z01,s1,s2,s3,s4];rfl
 ·have q:leI 7 kd=true:=cW hc.1
  obtain⟨b1,b2⟩:=hb q
  have hB:=OU (t:=(kd,nm,num)) hT q
  simp only at hB
  obtain⟨p0,p1,p2,p3,p4,p5,p6⟩:=afu hB b2 ha
  have t1:(kd==1)=false:=by simp;omega
  have t2:(kd==2)=false:=by simp;omega
  have t3:(kd==3)=false:=by simp;omega
  have t4:(kd==4)=false:=by simp;omega
  have t5:(kd==5)=false:=by simp;omega
  have t6:(kd==6)=false:=by simp;omega
  have ca:aw (k:Int) ss=stAt ss k:=by simp only [aw,Int.toNat_natCast,stAt]
  have l0:leI 0 (k:Int)=true:=cW (by omega)
  have l1:ltI (k:Int) (ss.length:Int)=true:=gg (by omega)
  have l2:ltN k ss.length=true:=iF b1
  have hw:IntKind.i64.wrap ((k:Int) + 1)=((k + 1:Nat):Int):=by rw [cg (by omega) (by omega)];omega
  refine⟨?_,?_,?_,?_,?_,?_⟩
  ·simp only [bG,tmV,t1,t2,t3,t4,t5,t6,cond_false,nA,ca,p0,aj9]
  ·simp only [fj,t1,t2,t3,t4,t5,t6,cond_false]
  ·simp only [fk,t1,t2,t3,t4,t5,t6,cond_false]
  ·simp only [aU,t1,t2,t3,t4,t5,t6,cond_false,q,cond_true,nB,hw]
  ·simp only [aV,t1,t2,t3,t4,t5,t6,cond_false,q,cond_true,nC,ca,p1,p2,p3,SB,Int.toNat_natCast]
  ·simp only [aW,t1,t2,t3,t4,t5,t6,nD,p4,l0,l1,l2,Int.toNat_natCast,allT,Bool.false_or,Bool.not_false,Bool.true_or,Bool.or_true,cond_true]
theorem ae4(ins vs:List ByteArray)(inp xs:List Int): ∀ (ts:List TM) (a:LS),ts.foldl (fun a t=>lnS ins vs inp xs t a) a=Yi ins vs inp xs ts a
 | [],a=>rfl
 |t::r,a=>by rw [List.foldl_cons,ae4 ins vs inp xs r];rfl
structure LineH (ins vs:List ByteArray) (inp xs:List Int) (pre post ts:List TM):Prop where
 hi:bitsB ins.length inp=true
 hx:bitsB vs.length xs=true
 ok: ∃ e,htT ts 0=some e
 hu:ts.all (usedB ins vs)=true
 hn:ts.length≤40
 hbl:(pre++blT ts++post).length≤2000
 h1:leN ins.length 9223372036854775807=true
 h2:leN vs.length 9223372036854775807=true
theorem LineH.tm{ins vs:List ByteArray}{inp xs:List Int}{pre post ts:List TM}(h:LineH ins vs inp xs pre post ts){i:Nat}{t:TM}{a:LS}(ht:ts[i]? =some t)(hI:act pre post ts i a):
  TmOk ins vs inp xs t (a.1.drop (ltk t a.1)) a.2.2 a.2.1∧a.2.2≤a.2.1.length∧a.2.1.length≤2000∧(0≤takesK t.1∧takesK t.1≤a.1.length)∧a.1.length≤40∧act pre post ts (i + 1) (lnS ins vs inp xs t a):=by
 obtain⟨e,ok⟩:=h.ok
 obtain⟨g1,g2,g3,g4,g5,g6,g7,g8,g9⟩:=aes (ins:=ins) (vs:=vs) h.hi h.hx ok ht hI
 have hi2:=(iw.1 h.hi).2
 have hx2:=(iw.1 h.hx).2
 have hil:=(List.getElem?_eq_some_iff.1 ht).1
 have hn:=h.hn
 have hbl:=h.hbl
 refine⟨⟨g3,g4,List.all_eq_true.1 h.hu t (List.mem_of_getElem? ht),h.h1,h.h2,by omega,by omega,fun h7=> ?_,by omega⟩,by omega,by omega,g1,by omega,g9⟩
 obtain⟨q1,q2⟩:=g6 h7
 exact⟨by omega,q2⟩
theorem aji{ins vs:List ByteArray}{inp xs:List Int}{pre post ts:List TM}(h:LineH ins vs inp xs pre post ts)(u v:ByteArray)(os:List ByteArray)(ls:List LN)(ou:List Int)(ss:List BS3)(k:Nat)(h0:act pre post ts 0 ([],ss,k)):
  aj.fin ((0:Int),(ts.length:Int),ts,[],u,v,(k:Int),ins,vs,os,ls,xs,ss,inp,ou)=true∧
  aj.res ((0:Int),(ts.length:Int),ts,[],u,v,(k:Int),ins,vs,os,ls,xs,ss,inp,ou)=
   (0,((ts.length:Int),(ts.length:Int),ts,(Yi ins vs inp xs ts ([],ss,k)).1,u,v,((Yi ins vs inp xs ts ([],ss,k)).2.2:Int),ins,vs,os,ls,xs,(Yi ins vs inp xs ts ([],ss,k)).2.1,inp,ou)):=by
 have kw:=aj.along2 (fun i (a:LS)=>((i:Int),(ts.length:Int),ts,a.1,u,v,(a.2.2:Int),ins,vs,os,ls,xs,a.2.1,inp,ou)) (fun x=>(x.2.2.2.1,x.2.2.2.2.2.2.2.2.2.2.2.2.1,x.2.2.2.2.2.2.1.toNat))
  (fun(t:TM) a=> .inr (lnS ins vs inp xs t a)) 0 (fun i a=>act pre post ts i a) ts ([],ss,k) h0 (by have:=h.hn;omega) (fun i t a hb hI=> ?_) (fun a hI=> ?_)
 ·rw [GG (g:=fun a t=>lnS ins vs inp xs t a) (fun b a=>rfl),ae4]at kw
  simpa using kw
 ·obtain⟨hm,hk,hs,Tk,hst,hI2⟩:=h.tm hb hI
  have fy:=(List.getElem?_eq_some_iff.1 hb).1
  have hn:=h.hn
  have hw:IntKind.i64.wrap ((i:Int) + 1)=((i + 1:Nat):Int):=by rw [cg (by omega) (by omega)];omega
  obtain⟨kd,nm,num⟩:=t
  obtain⟨stk,ss',k'⟩:=a
  simp only at hk hs Tk hst hm
  have g0:ac (i:Int) ts=(kd,nm,num):=by simp only [ac,Int.toNat_natCast,hb,Option.getD_some]
  have g1:aH (i:Int) ts stk=((ltk (kd,nm,num) stk:Nat):Int):=by
   simp only [aH,g0,ah1,ltk]
   rw [cg (by omega) (by omega)];omega
  obtain⟨r0,r1,r2,r3,r4,r5⟩:=aj8 hm hk u v
  have g2:ec (i:Int) ts stk (k':Int) ins vs xs ss' inp= [tmV ins vs inp xs (kd,nm,num) (stk.drop (ltk (kd,nm,num) stk)) (stAt ss' k')]:=by
   simp only [ec,g0,g1,Int.toNat_natCast,r0]
  have hlk:ltk (kd,nm,num) stk≤stk.length:=Nat.sub_le _ _
  have l0:ltI (i:Int) (ts.length:Int)=true:=gg (by omega)
  have l1:leI 0 (i:Int)=true:=cW (by omega)
  have l2:ltN i ts.length=true:=iF fy
  have l3:leI 0 ((ltk (kd,nm,num) stk:Nat):Int)=true:=cW (by omega)
  have l4:leI ((ltk (kd,nm,num) stk:Nat):Int) (stk.length:Int)=true:=cW (by omega)
  have l5:leN (ltk (kd,nm,num) stk) stk.length=true:=em hlk
  have l6:leN ((List.take (ltk (kd,nm,num) stk) stk).length + 1) 9223372036854775807=true:=em (by rw [List.length_take];omega)
  have l7:leN (((List.take (ltk (kd,nm,num) stk) stk).length + 1) * 8) 140737488355328=true:=em (by rw [List.length_take];omega)
  refine⟨?_,?_,?_,fun a' hf=> ?_⟩
  ·simp only [eo,ep,eq,er,cS,cT,et,eu,ew,ey,dV,dW,dX,dY,dZ,ea,ef,aj,LT.nds,allT,g0,g1,g2,r5,l0,l1,l2,l3,l4,l5,l6,l7,List.length_singleton,Int.toNat_natCast,cond_true,Bool.and_self]
  ·simp only [eo,ep,eq,er,cS,cT,et,eu,ew,ey,dV,dW,dX,dY,dZ,ea,ef,aj,LT.each,g0,g1,g2,r1,r2,r3,r4,l0,hw,Int.toNat_natCast,Bool.and_true,and_self]
  ·simp only [eo,ep,eq,er,cS,cT,et,eu,ew,ey,dV,dW,dX,dY,dZ,ea,ef,aj,LT.fn,g0,g1,g2,r3,r4,l0,Int.toNat_natCast,cond_true,lnS]
  ·simp only [Sum.inr.injEq]at hf
   subst hf;exact hI2
 ·have cM:ltI (ts.length:Int) (ts.length:Int)=false:=SA (by omega)
  simp [eo,ep,eq,er,cS,cT,et,eu,ew,ey,dV,dW,dX,dY,dZ,ea,ef,aj,LT.out,cM]
theorem ajk{ins vs:List ByteArray}{inp xs:List Int}{pre post ts:List TM}(h:LineH ins vs inp xs pre post ts)(u v:ByteArray)(os:List ByteArray)(ls:List LN)(ss:List BS3)(k:Nat)(h0:act pre post ts 0 ([],ss,k)):
  aR.fin ((0:Int),(k:Int),ts,[],u,v,inp,ins,vs,os,ls,xs,ss)=true∧
  aR.res ((0:Int),(k:Int),ts,[],u,v,inp,ins,vs,os,ls,xs,ss)=
   (0,((ts.length:Int),((Yi ins vs inp xs ts ([],ss,k)).2.2:Int),ts,(Yi ins vs inp xs ts ([],ss,k)).1,u,v,inp,ins,vs,os,ls,xs,(Yi ins vs inp xs ts ([],ss,k)).2.1)):=by
 have kw:=aR.along2 (fun i (a:LS)=>((i:Int),(a.2.2:Int),ts,a.1,u,v,inp,ins,vs,os,ls,xs,a.2.1)) (fun x=>(x.2.2.2.1,x.2.2.2.2.2.2.2.2.2.2.2.2,x.2.1.toNat))
  (fun(t:TM) a=> .inr (lnS ins vs inp xs t a)) 0 (fun i a=>act pre post ts i a) ts ([],ss,k) h0 (by have:=h.hn;omega) (fun i t a hb hI=> ?_) (fun a hI=> ?_)
 ·rw [GG (g:=fun a t=>lnS ins vs inp xs t a) (fun b a=>rfl),ae4]at kw
  simpa using kw
 ·obtain⟨hm,hk,hs,Tk,hst,hI2⟩:=h.tm hb hI
  have fy:=(List.getElem?_eq_some_iff.1 hb).1
  have hn:=h.hn
  have hw:IntKind.i64.wrap ((i:Int) + 1)=((i + 1:Nat):Int):=by rw [cg (by omega) (by omega)];omega
  obtain⟨kd,nm,num⟩:=t
  obtain⟨stk,ss',k'⟩:=a
  simp only at hk hs Tk hst hm
  have g0:bm (i:Int) ts=(kd,nm,num):=by simp only [bm,Int.toNat_natCast,hb,Option.getD_some]
  have g1:oJ (i:Int) ts stk=((ltk (kd,nm,num) stk:Nat):Int):=by
   simp only [oJ,g0,show lx kd=takesK kd from rfl,ltk]
   rw [cg (by omega) (by omega)];omega
  have g2:bX (i:Int) ts stk=stk.drop (ltk (kd,nm,num) stk):=by
   simp only [bX,g1,Int.toNat_natCast,List.take_length]
  have g3:oK (i:Int) ts stk=stk.take (ltk (kd,nm,num) stk):=by
   simp only [oK,g1,Int.toNat_natCast,Int.toNat_zero,List.drop_zero]
  have q4:au (i:Int) ts=(kd==1):=by simp only [au,g0]
  have q5:aE (i:Int) ts=(kd==2):=by simp only [aE,g0]
  have q6:aF (i:Int) ts=(kd==3):=by simp only [aF,g0]
  have q7:aG (i:Int) ts=(kd==4):=by simp only [aG,g0]
  have q10:aL (i:Int) ts=(kd==5):=by simp only [aL,g0]
  have q13:bM (i:Int) ts=(kd==6):=by simp only [bM,g0]
  have q15:de (k':Int) ss'=stAt ss' k':=by simp only [de,Int.toNat_natCast,stAt]
  obtain⟨hT,ha,hu,h1,h2,hi,hx,hb7,hss⟩:=hm
  have hkk:=abf hT
  simp only at hT ha hu hb7 hkk
  have hbits:=(iw.1 ha).1
  have nj:=(iw.1 ha).2
  generalize hA:stk.drop (ltk (kd,nm,num) stk)=ar at g2 ha hbits nj
  have a0:=NB hbits 0
  have a1:=NB hbits 1
  have e14:rc (i:Int) ts stk=atZ ar 0:=by simp only [rc,g2];rfl
  have e1:Option.getD ar[Int.toNat (1:Int)]? (0:Int)=atZ ar 1:=rfl
  have hlk:ltk (kd,nm,num) stk≤stk.length:=Nat.sub_le _ _
  have l0:ltI (i:Int) (ts.length:Int)=true:=gg (by omega)
  have l1:leI 0 (i:Int)=true:=cW (by omega)
  have l2:ltN i ts.length=true:=iF fy
  have l3:leI 0 ((ltk (kd,nm,num) stk:Nat):Int)=true:=cW (by omega)
  have l4:leI ((ltk (kd,nm,num) stk:Nat):Int) (stk.length:Int)=true:=cW (by omega)
  have l5:leI (stk.length:Int) (stk.length:Int)=true:=cW (by omega)
  have hal:ar.length≤40:=by rw [← hA,List.length_drop];omega
  have l6:leN ar.length 1048576=true:=em (by omega)
  have l6b:leN (List.take (ltk (kd,nm,num) stk) stk).length 1048576=true:=em (by rw [List.length_take];omega)
  have l7:leN ((List.take (ltk (kd,nm,num) stk) stk).length + 1) 9223372036854775807=true:=em (by rw [List.length_take];omega)
  have l8:leN (((List.take (ltk (kd,nm,num) stk) stk).length + 1) * 8) 140737488355328=true:=em (by rw [List.length_take];omega)
  have z00:leI (0:Int) 0=true:=rfl
  have z01:leI (0:Int) 1=true:=rfl
  have y0:ir (i:Int) ts xs=xs:=Bool.cond_self _ _
  have hfin:bc (i:Int) (k':Int) ts stk inp ins vs xs ss'= [tmV ins vs inp xs (kd,nm,num) ar (stAt ss' k')]∧
    bE (i:Int) (k':Int) ts=((bif leI 7 kd then k' + 1 else k':Nat):Int)∧bF (i:Int) (k':Int) ts stk ss'=(bif leI 7 kd then ss'.set k' (SB kd num ar (stAt ss' k'))else ss')∧
    (aR.lt ((i:Int),(k':Int),ts,stk,u,v,inp,ins,vs,os,ls,xs,ss')).nds=true:=by
   have hc:kd=1∨kd=2∨kd=3∨kd=4∨kd=5∨kd=6∨(7≤kd∧kd≤12):=by omega
   have n29: ∀ z:Int,leN (List.length (List.take (ltk (kd,nm,num) stk) stk) + List.length [z]) 9223372036854775807=true:=fun z=>l7
   have n30: ∀ z:Int,leN ((List.length (List.take (ltk (kd,nm,num) stk) stk) + List.length [z]) * 8) 140737488355328=true:=fun z=>l8
   rcases hc with rfl | rfl | rfl | rfl | rfl | rfl | hc
   ·have hr:QT ins vs nm=true:=by simpa [usedB] using hu
    obtain⟨v1,v2⟩:=aah nm ins vs inp xs hr h1 h2 hi hx
    have hv:bc (i:Int) (k':Int) ts stk inp ins vs xs ss'= [tmV ins vs inp xs (1,nm,num) ar (stAt ss' k')]:=by simp [bc,tmV,q4,g0,v1]
    refine⟨hv,?_,?_,?_⟩
    ·simp [bE,q4,show leI 7 (1:Int)=false from rfl]
    ·simp [bF,q4,show leI 7 (1:Int)=false from rfl]
    ·simp only [dI,kH,kI,jg,jh,kJ,kK,kL,kM,kN,jF,jG,jH,jI,jJ,jK,jL,jM,jN,jO,jP,jQ,jR,jS,jT,il,im,io,jU,jV,jW,ip,bE,iq,ir,bF,ez,aR,LT.nds,allT,g0,g1,g2,g3,q4,q5,q6,q7,q10,q13,hv,v2,l0,l1,l2,l3,l4,l5,l6,l6b,n29,n30,z00,Int.toNat_natCast];rfl
   ·have hv:bc (i:Int) (k':Int) ts stk inp ins vs xs ss'= [tmV ins vs inp xs (2,nm,num) ar (stAt ss' k')]:=by simp [bc,tmV,q4,q5]
    refine⟨hv,?_,?_,?_⟩
    ·simp [bE,q4,q5,show leI 7 (2:Int)=false from rfl]
    ·simp [bF,q4,q5,show leI 7 (2:Int)=false from rfl]
    ·simp only [dI,kH,kI,jg,jh,kJ,kK,kL,kM,kN,jF,jG,jH,jI,jJ,jK,jL,jM,jN,jO,jP,jQ,jR,jS,jT,il,im,io,jU,jV,jW,ip,bE,iq,ir,bF,ez,aR,LT.nds,allT,g0,g1,g2,g3,q4,q5,q6,q7,q10,q13,hv,l0,l1,l2,l3,l4,l5,l6,l6b,n29,n30,z00,Int.toNat_natCast];rfl
   ·have hv:bc (i:Int) (k':Int) ts stk inp ins vs xs ss'= [tmV ins vs inp xs (3,nm,num) ar (stAt ss' k')]:=by simp [bc,tmV,q4,q5,q6]
    refine⟨hv,?_,?_,?_⟩
    ·simp [bE,q4,q5,q6,show leI 7 (3:Int)=false from rfl]
    ·simp [bF,q4,q5,q6,show leI 7 (3:Int)=false from rfl]
    ·simp only [dI,kH,kI,jg,jh,kJ,kK,kL,kM,kN,jF,jG,jH,jI,jJ,jK,jL,jM,jN,jO,jP,jQ,jR,jS,jT,il,im,io,jU,jV,jW,ip,bE,iq,ir,bF,ez,aR,LT.nds,allT,g0,g1,g2,g3,q4,q5,q6,q7,q10,q13,hv,l0,l1,l2,l3,l4,l5,l6,l6b,n29,n30,z00,Int.toNat_natCast];rfl
   ·have t:takesK 4=1:=rfl
    rw [t]at nj
    have s1:iu (i:Int) ts stk=true:=by simp only [iu,g2];exact gg (by omega)
    have s2:iv (i:Int) ts stk=true:=by simp only [iv,g2];exact iF (by simp only [Int.toNat_zero];omega)
    have hv:bc (i:Int) (k':Int) ts stk inp ins vs xs ss'= [tmV ins vs inp xs (4,nm,num) ar (stAt ss' k')]:=by simp [bc,tmV,q4,q5,q6,q7,e14,agh a0]
    refine⟨hv,?_,?_,?_⟩
    ·simp [bE,q4,q5,q6,q7,show leI 7 (4:Int)=false from rfl]
    ·simp [bF,q4,q5,q6,q7,show leI 7 (4:Int)=false from rfl]
    ·simp only [dI,kH,kI,jg,jh,kJ,kK,kL,kM,kN,jF,jG,jH,jI,jJ,jK,jL,jM,jN,jO,jP,jQ,jR,jS,jT,il,im,io,jU,jV,jW,ip,bE,iq,ir,bF,ez,aR,LT.nds,allT,g0,g1,g2,g3,q4,q5,q6,q7,q10,q13,s1,s2,hv,l0,l1,l2,l3,l4,l5,l6,l6b,n29,n30,z00,Int.toNat_natCast];rfl
   ·have t:takesK 5=2:=rfl
    rw [t]at nj
    have s1:iu (i:Int) ts stk=true:=by simp only [iu,g2];exact gg (by omega)
    have s2:iv (i:Int) ts stk=true:=by simp only [iv,g2];exact iF (by simp only [Int.toNat_zero];omega)
    have s3:nS (i:Int) ts stk=true:=by simp only [nS,g2];exact gg (by omega)
    have s4:nT (i:Int) ts stk=true:=by simp only [nT,g2];exact iF (by have:(Int.toNat 1)=1:=rfl;omega)
    have hv:bc (i:Int) (k':Int) ts stk inp ins vs xs ss'= [tmV ins vs inp xs (5,nm,num) ar (stAt ss' k')]:=by
     have:=aea a0 a1
     simp only [bc,tmV,q4,q5,q6,q7,q10,e14,g2,e1,this];rfl
    refine⟨hv,?_,?_,?_⟩
    ·simp [bE,q4,q5,q6,q7,q10,show leI 7 (5:Int)=false from rfl]
    ·simp [bF,q4,q5,q6,q7,q10,show leI 7 (5:Int)=false from rfl]
    ·simp only [dI,kH,kI,jg,jh,kJ,kK,kL,kM,kN,jF,jG,jH,jI,jJ,jK,jL,jM,jN,jO,jP,jQ,jR,jS,jT,il,im,io,jU,jV,jW,ip,bE,iq,ir,bF,ez,aR,LT.nds,allT,g0,g1,g2,g3,q4,q5,q6,q7,q10,q13,s1,s2,s3,s4,hv,l0,l1,l2,l3,l4,l5,l6,l6b,n29,n30,z00,z01,Int.toNat_natCast];rfl
   ·have t:takesK 6=2:=rfl
    rw [t]at nj
    have s1:iu (i:Int) ts stk=true:=by simp only [iu,g2];exact gg (by omega)
    have s2:iv (i:Int) ts stk=true:=by simp only [iv,g2];exact iF (by simp only [Int.toNat_zero];omega)
    have s3:nS (i:Int) ts stk=true:=by simp only [nS,g2];exact gg (by omega)
    have s4:nT (i:Int) ts stk=true:=by simp only [nT,g2];exact iF (by have:(Int.toNat 1)=1:=rfl;omega)
    have hv:bc (i:Int) (k':Int) ts stk inp ins vs xs ss'= [tmV ins vs inp xs (6,nm,num) ar (stAt ss' k')]:=by
     have:=agm a0 a1
     simp only [bc,tmV,q4,q5,q6,q7,q10,q13,e14,g2,e1,this];rfl
    refine⟨hv,?_,?_,?_⟩
    ·simp [bE,q4,q5,q6,q7,q10,q13,show leI 7 (6:Int)=false from rfl]
    ·simp [bF,q4,q5,q6,q7,q10,q13,show leI 7 (6:Int)=false from rfl]
    ·simp only [dI,kH,kI,jg,jh,kJ,kK,kL,kM,kN,jF,jG,jH,jI,jJ,jK,jL,jM,jN,jO,jP,jQ,jR,jS,jT,il,im,io,jU,jV,jW,ip,bE,iq,ir,bF,ez,aR,LT.nds,allT,g0,g1,g2,g3,q4,q5,q6,q7,q10,q13,s1,s2,s3,s4,hv,l0,l1,l2,l3,l4,l5,l6,l6b,n29,n30,z00,z01,Int.toNat_natCast];rfl
   ·have q:leI 7 kd=true:=cW hc.1
    obtain⟨b1,b2⟩:=hb7 q
    have hB:=OU (t:=(kd,nm,num)) hT q
    simp only at hB
    obtain⟨p0,p1,p2,p3,p4,p5,p6⟩:=afu hB b2 ha
    have t1:(kd==1)=false:=by simp;omega
    have t2:(kd==2)=false:=by simp;omega
    have t3:(kd==3)=false:=by simp;omega
    have t4:(kd==4)=false:=by simp;omega
    have t5:(kd==5)=false:=by simp;omega
    have t6:(kd==6)=false:=by simp;omega
    have m0:leI 0 (k':Int)=true:=cW (by omega)
    have m1:ltI (k':Int) (ss'.length:Int)=true:=gg (by omega)
    have m2:ltN k' ss'.length=true:=iF b1
    have hw2:IntKind.i64.wrap ((k':Int) + 1)=((k' + 1:Nat):Int):=by rw [cg (by omega) (by omega)];omega
    have hv:bc (i:Int) (k':Int) ts stk inp ins vs xs ss'= [tmV ins vs inp xs (kd,nm,num) ar (stAt ss' k')]:=by
     simp only [bc,tmV,q4,q5,q6,q7,q10,q13,t1,t2,t3,t4,t5,t6,cond_false,g0,q15,g2,aj9]
    refine⟨hv,?_,?_,?_⟩
    ·simp only [bE,q4,q5,q6,q7,q10,q13,t1,t2,t3,t4,t5,t6,cond_false,q,cond_true,hw2]
    ·simp only [bF,q4,q5,q6,q7,q10,q13,t1,t2,t3,t4,t5,t6,cond_false,q,cond_true,g0,q15,g2,SB,Int.toNat_natCast]
    ·simp only [dI,kH,kI,jg,jh,kJ,kK,kL,kM,kN,jF,jG,jH,jI,jJ,jK,jL,jM,jN,jO,jP,jQ,jR,jS,jT,il,im,io,jU,jV,jW,ip,bE,iq,ir,bF,ez,aR,LT.nds,allT,g0,g1,g2,g3,q4,q5,q6,q7,q10,q13,t1,t2,t3,t4,t5,t6,hv,p5,m0,m1,m2,l0,l1,l2,l3,l4,l5,l6,l6b,n29,n30,z00,z01,Int.toNat_natCast];rfl
  obtain⟨f1,f2,f3,f4⟩:=hfin
  refine⟨f4,?_,?_,fun a' hf=> ?_⟩
  ·have c31:ip (i:Int)=((i + 1:Nat):Int):=hw
   have c0:dI (i:Int) ts=true:=l0
   simp only [aR,ez,LT.each,c0,c31,f2,y0,Int.toNat_natCast]
   simp
  ·have c0:dI (i:Int) ts=true:=l0
   simp only [aR,ez,LT.fn,c0,cond_true,iq,f1,f2,f3,g3,Int.toNat_natCast,lnS,hA]
  ·simp only [Sum.inr.injEq]at hf
   subst hf;exact hI2
 ·have cM:dI (ts.length:Int) ts=false:=SA (by omega)
  simp only [aR,ez,LT.out,cM]
  rfl
abbrev bR:=Int×Int×List (ByteArray×(List (Int×(ByteArray×Int))))×ByteArray×ByteArray×Int×List ByteArray×List ByteArray×List ByteArray×List Int×List (Int×(Int×Int))×List Int×List Int
def aI(y0:Int)(y2:List (ByteArray×(List (Int×(ByteArray×Int))))):ByteArray×List (Int×ByteArray×Int):=Option.getD y2[Int.toNat y0]? (vO (CTy.pair CTy.str (CTy.sl (178:Nat) abW)))
def fJ(y0 y1:Int):Bool:=ltI y0 y1
def fK(y0:Int):Bool:=leI (0:Int) y0
def fL(y0:Int)(y2:List (ByteArray×(List (Int×(ByteArray×Int))))):Bool:=ltI y0 (↑y2.length:Int)
def fM(y0:Int)(y2:List (ByteArray×(List (Int×(ByteArray×Int))))):Bool:=ltN y0.toNat y2.length
def fN(y0:Int)(y2:List (ByteArray×(List (Int×(ByteArray×Int)))))(y3 y4:ByteArray)(y5:Int)(y6 y7 y8:List ByteArray)(y9:List Int)(y10:List (Int×(Int×Int)))(y11 y12:List Int):Bool:=fh ((aI y0 y2).1) y3 y4 y5 ((aI y0 y2).2) y6 y7 y8 y2 y9 y10 y11 y12
def fO(y0:Int):Int:=IntKind.wrap .i64 (y0 + (1:Int))
def fP(y0:Int)(y2:List (ByteArray×(List (Int×(ByteArray×Int)))))(y3 y4:ByteArray)(y5:Int)(y6 y7 y8:List ByteArray)(y9:List Int)(y10:List (Int×(Int×Int)))(y11 y12:List Int):ByteArray:=jn y3 y4 y5 ((aI y0 y2).2) y6 y7 y8 y2 y9 y10 y11 y12
def fQ(y0:Int)(y2:List (ByteArray×(List (Int×(ByteArray×Int)))))(y3 y4:ByteArray)(y5:Int)(y6 y7 y8:List ByteArray)(y9:List Int)(y10:List (Int×(Int×Int)))(y11 y12:List Int):ByteArray:=jo y3 y4 y5 ((aI y0 y2).2) y6 y7 y8 y2 y9 y10 y11 y12
def fR(y0:Int)(y2:List (ByteArray×(List (Int×(ByteArray×Int)))))(y3 y4:ByteArray)(y5:Int)(y6 y7 y8:List ByteArray)(y9:List Int)(y10:List (Int×(Int×Int)))(y11 y12:List Int):Int:=jp y3 y4 y5 ((aI y0 y2).2) y6 y7 y8 y2 y9 y10 y11 y12
def fS(y0:Int)(y2:List (ByteArray×(List (Int×(ByteArray×Int)))))(y3 y4:ByteArray)(y5:Int)(y6 y7 y8:List ByteArray)(y9:List Int)(y10:List (Int×(Int×Int)))(y11 y12:List Int):List Int:=jq ((aI y0 y2).1) y3 y4 y5 ((aI y0 y2).2) y6 y7 y8 y2 y9 y10 y11 y12
def ff(y0:Int)(y2:List (ByteArray×(List (Int×(ByteArray×Int)))))(y3 y4:ByteArray)(y5:Int)(y6 y7 y8:List ByteArray)(y9:List Int)(y10:List (Int×(Int×Int)))(y11 y12:List Int):List (Int×(Int×Int)):=jr y3 y4 y5 ((aI y0 y2).2) y6 y7 y8 y2 y9 y10 y11 y12
def fg(y0:Int)(y2:List (ByteArray×(List (Int×(ByteArray×Int)))))(y3 y4:ByteArray)(y5:Int)(y6 y7 y8:List ByteArray)(y9:List Int)(y10:List (Int×(Int×Int)))(y11 y12:List Int):List Int:=jt ((aI y0 y2).1) y3 y4 y5 ((aI y0 y2).2) y6 y7 y8 y2 y9 y10 y11 y12
def Dn:bR→List (Nat×SV)
 |(y0,y1,_,_,_,_,_,_,_,_,_,_,_)=> [(24,(.one ⟨false,[.val (.int .i64 y0)]⟩)),(23,(.one ⟨false,[.val (.int .i64 y1)]⟩)),(22,(.one ⟨false,[.ref 0]⟩)),(8,(.one ⟨false,[.ptr 1 0]⟩))]
def Dk:bR→List (Nat×Entry)
 |(_,_,y2,y3,y4,y5,y6,y7,y8,y9,y10,y11,y12)=> [(0,(.row false 204 (CTy.pair CTy.str (CTy.sl (178:Nat) abW)) y2)),(1,(.box 202 [.val (.string y3),.ref 2,.ref 3,.ref 4,.val (.string y4),.ref 0,.ref 5,.ref 6,.ref 7,.ref 8,.val (.int .i64 y5)])),(2,(.row false 9 aen y6)),(3,(.row false 9 aen y7)),(4,(.row false 9 aen y8)),(5,(.row true 2 acT y9)),(6,(.row true 172 aaH y10)),(7,(.row false 2 acT y11)),(8,(.row true 2 acT y12))]
def Dr:Nat→bR→List (Nat×SV)
 |_,(_,_,_,_,_,_,_,_,_,_,_,_,_)=> []
def Dp:Nat→bR→List (Nat×Entry)
 |_,(_,_,y2,y3,y4,y5,y6,y7,y8,y9,y10,y11,y12)=> [(0,(.row false 204 (CTy.pair CTy.str (CTy.sl (178:Nat) abW)) y2)),(1,(.box 202 [.val (.string y3),.ref 2,.ref 3,.ref 4,.val (.string y4),.ref 0,.ref 5,.ref 6,.ref 7,.ref 8,.val (.int .i64 y5)])),(2,(.row false 9 aen y6)),(3,(.row false 9 aen y7)),(4,(.row false 9 aen y8)),(5,(.row true 2 acT y9)),(6,(.row true 172 aaH y10)),(7,(.row false 2 acT y11)),(8,(.row true 2 acT y12))]
def fm:bR→LT bR
 |(y0,y1,y2,y3,y4,y5,y6,y7,y8,y9,y10,y11,y12)=> .ite (fJ y0 y1) (.need [fK y0,fL y0 y2,fM y0 y2] (.need [fN y0 y2 y3 y4 y5 y6 y7 y8 y9 y10 y11 y12] (.nrm ((fO y0),y1,y2,fP y0 y2 y3 y4 y5 y6 y7 y8 y9 y10 y11 y12,fQ y0 y2 y3 y4 y5 y6 y7 y8 y9 y10 y11 y12,fR y0 y2 y3 y4 y5 y6 y7 y8 y9 y10 y11 y12,y6,y7,y8,fS y0 y2 y3 y4 y5 y6 y7 y8 y9 y10 y11 y12,ff y0 y2 y3 y4 y5 y6 y7 y8 y9 y10 y11 y12,y11,(fg y0 y2 y3 y4 y5 y6 y7 y8 y9 y10 y11 y12)) [(0,0),(1,1),(2,2),(3,3),(4,4),(5,5),(6,6),(7,7),(8,8)]))) (.ext 0 [(0,0),(1,1),(2,2),(3,3),(4,4),(5,5),(6,6),(7,7),(8,8)])
def nG(s:St):Option bR:=
 (match s.look 24 with
 |some ⟨none,.one ⟨false,[.val (.int .i64 y0)]⟩⟩=>
 (match s.look 23 with
 |some ⟨none,.one ⟨false,[.val (.int .i64 y1)]⟩⟩=>
 (match s.look 22 with
 |some ⟨none,.one ⟨false,[.ref 3]⟩⟩=>
 (match s.look 8 with
 |some ⟨none,.one ⟨false,[.ptr 1344 0]⟩⟩=>
 (match s.ent 3 with
 |some (.row false 204 (.pair .str (.sl (178:Nat) (.pair (.int .i64) (.pair .str (.int .i64))))) y2)=>
 (match s.ent 1344 with
 |some (.box 202 [.val (.string y3),.ref 0,.ref 1,.ref 2,.val (.string y4),.ref 3,.ref 896,.ref 897,.ref 6,.ref 1216,.val (.int .i64 y5)])=>
 (match s.ent 0 with
 |some (.row false 9 (.str) y6)=>
 (match s.ent 1 with
 |some (.row false 9 (.str) y7)=>
 (match s.ent 2 with
 |some (.row false 9 (.str) y8)=>
 (match s.ent 896 with
 |some (.row true 2 (.int .i64) y9)=>
 (match s.ent 897 with
 |some (.row true 172 (.pair (.int .i64) (.pair (.int .i64) (.int .i64))) y10)=>
 (match s.ent 6 with
 |some (.row false 2 (.int .i64) y11)=>
 (match s.ent 1216 with
 |some (.row true 2 (.int .i64) y12)=>
 some (y0,y1,y2,y3,y4,y5,y6,y7,y8,y9,y10,y11,y12)
 |_=>none)
 |_=>none)
 |_=>none)
 |_=>none)
 |_=>none)
 |_=>none)
 |_=>none)
 |_=>none)
 |_=>none)
 |_=>none)
 |_=>none)
 |_=>none)
 |_=>none)
def aB:Lp bR where
 h:=⟨[25,26,27,10,28,29,30,31,24],[0,1,2,3,4,5,6,7,8],[],[]⟩
 JL:=Dn
 JE:=Dk
 XL:=Dr
 XE:=Dp
 q:=fun j=>match j with | _=> .exit 0
 tags:= [0]
 lt:=fm
 fuel:=fun(y0,y1,y2,y3,y4,y5,y6,y7,y8,y9,y10,y11,y12)=>y0.natAbs + y1.natAbs + y2.length + y3.size + y4.size + y5.natAbs + y6.length + y7.length + y8.length + y9.length + y10.length + y11.length + y12.length
 fix:=fun(_,y1,y2,_,_,_,y6,y7,y8,_,_,y11,_) (y0,_,_,y3,y4,y5,_,_,_,y9,y10,_,y12)=>(y0,y1,y2,y3,y4,y5,y6,y7,y8,y9,y10,y11,y12)
 σ:= [(0,3),(1,1344),(2,0),(3,1),(4,2),(5,896),(6,897),(7,6),(8,1216)]
 rd:=nG
theorem Cg:LoopOk prog (fun k=>Nat.blt k Tryz.f111.ntmps) aB.F (aZ f111 0):=by
 refine Lp.ok (tbl:= [uP,tx,sU]) (lf:= []) aP aB (by kernel_rfl) (LOk.nil _) (fun _=>rfl) (fun _ _=>rfl) ?_ ?_ ?_ ?_ (fun _=>rfl) ?_
 ·rintro⟨y0,y1,y2,y3,y4,y5,y6,y7,y8,y9,y10,y11,y12⟩;kernel_rfl
 ·rintro⟨y0,y1,y2,y3,y4,y5,y6,y7,y8,y9,y10,y11,y12⟩;kernel_rfl
 ·intro s x h
  have h:nG s=some x:=h
  unfold nG at h
  repeat' split at h
  all_goals cases h
  exact⟨aa (by assumption) rfl (aa (by assumption) rfl (aa (by assumption) rfl (aa (by assumption) rfl (rfl)))),ab rfl (by assumption) rfl (ab rfl (by assumption) rfl (ab rfl (by assumption) rfl (ab rfl (by assumption) rfl (ab rfl (by assumption) rfl (ab rfl (by assumption) rfl (ab rfl (by assumption) rfl (ab rfl (by assumption) rfl (ab rfl (by assumption) rfl (rfl)))))))))⟩
 ·rintro⟨y0,y1,y2,y3,y4,y5,y6,y7,y8,y9,y10,y11,y12⟩;kernel_rfl
 ·rintro⟨y0,y1,y2,y3,y4,y5,y6,y7,y8,y9,y10,y11,y12⟩ z;exact(And.intro rfl trivial)
section
variable (x0 x1:ByteArray)(x2 x3 x4:List ByteArray)(x5:List (ByteArray×List (Int×ByteArray×Int)))(x6:List Int)(x7:List (Int×Int×Int))(x8:List Int)
def cX:Bool:= !ByteArray.toList x1==ByteArray.toList (ByteArray.mk #[])
def gK:Int×Int×List (ByteArray×List (Int×ByteArray×Int))×ByteArray×ByteArray×Int×List ByteArray×List ByteArray×List ByteArray×List Int×List (Int×Int×Int)×List Int×List Int:=((0:Int),(↑x5.length:Int),x5,x0,x1,(0:Int),x2,x3,x4,x6,x7,x8,List.replicate (Int.toNat (↑x4.length:Int)) (0:Int))
def kB:List Int×List (Int×Int×Int)×List Int×List Int:=(Lp.res aB (gK x0 x1 x2 x3 x4 x5 x6 x7 x8)).2.2.2.2.2.2.2.2.2.2
def ej:List Int:=(kB x0 x1 x2 x3 x4 x5 x6 x7 x8).1
def kC:List (Int×Int×Int)×List Int×List Int:=(kB x0 x1 x2 x3 x4 x5 x6 x7 x8).2
def oT:List Int:=(kC x0 x1 x2 x3 x4 x5 x6 x7 x8).2.2
def kD:List Int:=bif cX x1&&true then ne x1 x2 (oT x0 x1 x2 x3 x4 x5 x6 x7 x8)else oT x0 x1 x2 x3 x4 x5 x6 x7 x8
def kE:List (Int×Int×Int):=(kC x0 x1 x2 x3 x4 x5 x6 x7 x8).1
def lb:List Int:=bif bif cX x1 then iR x1 x2 x3 (ej x0 x1 x2 x3 x4 x5 x6 x7 x8) x8==(0:Int)else false then Rd (List.length (kD x0 x1 x2 x3 x4 x5 x6 x7 x8))else kD x0 x1 x2 x3 x4 x5 x6 x7 x8
def lc:List Int:=bif cX x1&&true then nb x1 x2 (ej x0 x1 x2 x3 x4 x5 x6 x7 x8)else ej x0 x1 x2 x3 x4 x5 x6 x7 x8
def ld:List (Int×(Int×Int)):=bif cX x1&&true then nc x1 x2 (kE x0 x1 x2 x3 x4 x5 x6 x7 x8)else kE x0 x1 x2 x3 x4 x5 x6 x7 x8
def le:Bool:=allT [kx x6 x7,leI (0:Int) (↑x4.length:Int),leI (↑x4.length:Int) (↑x4.length:Int),leI ((↑(8:Nat):Int) * (↑x4.length:Int)) (281474976710656:Int),leI (↑x4.length:Int) (9223372036854775807:Int),Lp.fin aB (gK x0 x1 x2 x3 x4 x5 x6 x7 x8),!(cX x1&&true)||iS x1 x2 x3 (ej x0 x1 x2 x3 x4 x5 x6 x7 x8) x8]
end
def vD:List SV→List Entry→Option Out
 | [.one ⟨true,[.val (.string x0),.ref 0,.ref 1,.ref 2,.val (.string x1),.ref 3]⟩,.one ⟨true,[.ref 4,.ref 5]⟩,.one ⟨false,[.ref 6]⟩],[.row false 9 (.str) x2,.row false 9 (.str) x3,.row false 9 (.str) x4,.row false 204 (.pair (.str) (.sl 178 (.pair (.int .i64) (.pair (.str) (.int .i64))))) x5,.row false 2 (.int .i64) x6,.row false 172 (.pair (.int .i64) (.pair (.int .i64) (.int .i64))) x7,.row false 2 (.int .i64) x8]=>some ⟨.tup [⟨false,[.ref 7]⟩,⟨true,[.ref 8,.ref 9]⟩],[.row false 9 aen x2,.row false 9 aen x3,.row false 9 aen x4,.row false 204 (CTy.pair CTy.str (CTy.sl (178:TypeId) abW)) x5,.row false 2 acT x6,.row false 172 aaH x7,.row false 2 acT x8],[.row true 2 acT (lb x0 x1 x2 x3 x4 x5 x6 x7 x8),.row true 2 acT (lc x0 x1 x2 x3 x4 x5 x6 x7 x8),.row true 172 aaH (ld x0 x1 x2 x3 x4 x5 x6 x7 x8)],[le x0 x1 x2 x3 x4 x5 x6 x7 x8]⟩
 |_,_=>none
def Fz:PF prog:=PF.ofG prog [uP,tx,sU] [aB.F] aP 111 f111 func111 (LOk.fnT (l:= [aZ f111 0]) (by kernel_rfl) (.cons Cg (.nil _))) vD (by
 intro vs es r h;unfold vD at h;split at h
 ·cases h;kernel_rfl
 ·cases h)
section
variable (x0 x1:ByteArray)(x2 x3 x4:List ByteArray)(x5:List (ByteArray×List (Int×ByteArray×Int)))(x6:List Int)(x7:List (Int×Int×Int))(x8:List Int)
def ME:Int:=Ie x0 x1 x2 x3 x4 x5 x6 x7 [x8]
def Al:Bool:=ME x0 x1 x2 x3 x4 x5 x6 x7 x8 !=(0:Int)
def Gd:Int:=bif Al x0 x1 x2 x3 x4 x5 x6 x7 x8 then ME x0 x1 x2 x3 x4 x5 x6 x7 x8 else(0:Int)
def Ge:List Int:=bif Al x0 x1 x2 x3 x4 x5 x6 x7 x8 then []else lb x0 x1 x2 x3 x4 x5 x6 x7 x8
def NV:List Int:=bif Al x0 x1 x2 x3 x4 x5 x6 x7 x8 then []else lc x0 x1 x2 x3 x4 x5 x6 x7 x8
def NW:List (Int×(Int×Int)):=bif Al x0 x1 x2 x3 x4 x5 x6 x7 x8 then []else ld x0 x1 x2 x3 x4 x5 x6 x7 x8
def Kn:Bool:=allT [Ig x0 x1 x2 x3 x4 x5 x6 x7 [x8],Al x0 x1 x2 x3 x4 x5 x6 x7 x8||le x0 x1 x2 x3 x4 x5 x6 x7 x8]
end
def Tm:List SV→List Entry→Option Out
 | [.one ⟨true,[.val (.string x0),.ref 0,.ref 1,.ref 2,.val (.string x1),.ref 3]⟩,.one ⟨true,[.ref 4,.ref 5]⟩,.one ⟨false,[.ref 6]⟩],[.row false 9 (.str) x2,.row false 9 (.str) x3,.row false 9 (.str) x4,.row false 204 (.pair (.str) (.sl 178 (.pair (.int .i64) (.pair (.str) (.int .i64))))) x5,.row false 2 (.int .i64) x6,.row false 172 (.pair (.int .i64) (.pair (.int .i64) (.int .i64))) x7,.row false 2 (.int .i64) x8]=>some ⟨.tup [⟨false,[.ref 7]⟩,⟨true,[.ref 8,.ref 9]⟩,⟨false,[.val (.int .i64 (Gd x0 x1 x2 x3 x4 x5 x6 x7 x8))]⟩],[.row false 9 aen x2,.row false 9 aen x3,.row false 9 aen x4,.row false 204 (CTy.pair CTy.str (CTy.sl (178:TypeId) abW)) x5,.row false 2 acT x6,.row false 172 aaH x7,.row false 2 acT x8],[.row true 2 acT (Ge x0 x1 x2 x3 x4 x5 x6 x7 x8),.row true 2 acT (NV x0 x1 x2 x3 x4 x5 x6 x7 x8),.row true 172 aaH (NW x0 x1 x2 x3 x4 x5 x6 x7 x8)],[Kn x0 x1 x2 x3 x4 x5 x6 x7 x8]⟩
 |_,_=>none
def adg:PF prog:=PF.ofG prog [MS,PF.lend MS,PF.fz MS,Fz] [] aP 39 f39 func39 (fun c _=>LOk.nil c) Tm (by
 intro vs es r h;unfold Tm at h;split at h
 ·cases h;kernel_rfl
 ·cases h)
section
variable (x0 x1:ByteArray)(x2 x3 x4:List ByteArray)(x5:List (ByteArray×List (Int×ByteArray×Int)))(x6:List Int)(x7:List (Int×Int×Int))(x8:List Int)
def GI:Bool:=Gd x0 x1 x2 x3 x4 x5 x6 x7 x8 !=(0:Int)
def MF:Bool:=bif GI x0 x1 x2 x3 x4 x5 x6 x7 x8 then false else !rA (1:Int) (Ge x0 x1 x2 x3 x4 x5 x6 x7 x8)
def MG:Int:=bif GI x0 x1 x2 x3 x4 x5 x6 x7 x8 then Gd x0 x1 x2 x3 x4 x5 x6 x7 x8 else(0:Int)
def MH:Bool:=allT [Kn x0 x1 x2 x3 x4 x5 x6 x7 x8,GI x0 x1 x2 x3 x4 x5 x6 x7 x8||rB (1:Int) (Ge x0 x1 x2 x3 x4 x5 x6 x7 x8)]
end
def RR:List SV→List Entry→Option Out
 | [.one ⟨true,[.val (.string x0),.ref 0,.ref 1,.ref 2,.val (.string x1),.ref 3]⟩,.one ⟨true,[.ref 4,.ref 5]⟩,.one ⟨false,[.ref 6]⟩],[.row false 9 (.str) x2,.row false 9 (.str) x3,.row false 9 (.str) x4,.row false 204 (.pair (.str) (.sl 178 (.pair (.int .i64) (.pair (.str) (.int .i64))))) x5,.row false 2 (.int .i64) x6,.row false 172 (.pair (.int .i64) (.pair (.int .i64) (.int .i64))) x7,.row false 2 (.int .i64) x8]=>some ⟨.tup [⟨false,[.val (.bool (MF x0 x1 x2 x3 x4 x5 x6 x7 x8))]⟩,⟨false,[.val (.int .i64 (MG x0 x1 x2 x3 x4 x5 x6 x7 x8))]⟩],[.row false 9 aen x2,.row false 9 aen x3,.row false 9 aen x4,.row false 204 (CTy.pair CTy.str (CTy.sl (178:TypeId) abW)) x5,.row false 2 acT x6,.row false 172 aaH x7,.row false 2 acT x8],[],[MH x0 x1 x2 x3 x4 x5 x6 x7 x8]⟩
 |_,_=>none
def ab1:PF prog:=PF.ofG prog [adg,wa,PF.lend wa,PF.fz wa] [] aP 41 f41 func41 (fun c _=>LOk.nil c) RR (by
 intro vs es r h;unfold RR at h;split at h
 ·cases h;kernel_rfl
 ·cases h)
structure ScH (ins vs os:List ByteArray) (inp:List Int) (ls:List LN):Prop where
 hi:bitsB ins.length inp=true
 hL:ls.all lineB=true
 hm:ls.all (madeB vs os)=true
 hu:ls.all (fun l=>l.2.all (usedB ins vs))=true
 hn:ls.length≤40
 h1:ins.length≤20
 h2:vs.length≤20
 h3:os.length≤20
theorem aiZ: ∀ (ls:List LN),ls.all lineB=true→(blL ls).length≤40 * ls.length
 | [],_=>by simp [blL]
 |l::r,h=>by
  simp only [List.all_cons,Bool.and_eq_true]at h
  have h1:=aiZ r h.2
  have h2:=(Vk h.1).2.1
  have h3:(blT l.2).length≤l.2.length:=List.length_filter_le ..
  have h4:blL (l::r)=blT l.2++blL r:=rfl
  rw [h4,List.length_append,List.length_cons]
  omega
theorem ScH.bl{ins vs os:List ByteArray}{inp:List Int}{ls:List LN}(h:ScH ins vs os inp ls):(blL ls).length≤1600:=by
 have:=aiZ ls h.hL
 have:=h.hn
 omega
theorem ScH.line{ins vs os:List ByteArray}{inp:List Int}{ls:List LN}(h:ScH ins vs os inp ls){i:Nat}{a:SS4}{l:LN}(hl:ls[i]? =some l)(hI:ScAt vs os ls i a):
  LineH ins vs inp a.1 (blL (ls.take i)) (blL (ls.drop (i + 1))) l.2:=by
 have hm:=List.mem_of_getElem? hl
 obtain⟨q1,q2,q3⟩:=Vk (List.all_eq_true.1 h.hL l hm)
 have h1:=h.h1
 have h2:=h.h2
 have hb:=h.bl
 rw [(Vc hl).1]at hb
 exact⟨h.hi,hI.hx,⟨1,q3⟩,List.all_eq_true.1 h.hu l hm,q2,by omega,em (by omega),em (by omega)⟩
theorem aht{ins vs os:List ByteArray}{inp:List Int}{ls:List LN}(h:ScH ins vs os inp ls){i:Nat}{a:SS4}{l:LN}(hl:ls[i]? =some l)(hI:ScAt vs os ls i a)(u v:ByteArray):
  (jn u v (a.2.2.2:Int) l.2 ins vs os ls a.1 a.2.2.1 inp a.2.1=u∧
  jo u v (a.2.2.2:Int) l.2 ins vs os ls a.1 a.2.2.1 inp a.2.1=v∧
  jp u v (a.2.2.2:Int) l.2 ins vs os ls a.1 a.2.2.1 inp a.2.1=((scS ins vs os inp l a).2.2.2:Int))∧
  jq l.1 u v (a.2.2.2:Int) l.2 ins vs os ls a.1 a.2.2.1 inp a.2.1=(scS ins vs os inp l a).1∧
  jr u v (a.2.2.2:Int) l.2 ins vs os ls a.1 a.2.2.1 inp a.2.1=(scS ins vs os inp l a).2.2.1∧
  jt l.1 u v (a.2.2.2:Int) l.2 ins vs os ls a.1 a.2.2.1 inp a.2.1=(scS ins vs os inp l a).2.1∧
  fh l.1 u v (a.2.2.2:Int) l.2 ins vs os ls a.1 a.2.2.1 inp a.2.1=true:=by
 obtain⟨w1,w2⟩:=aji (h.line hl hI) u v os ls a.2.1 a.2.2.1 a.2.2.2 (abc hl hI)
 have hm:=List.mem_of_getElem? hl
 obtain⟨g1,g2,g3⟩:=QV (ins:=ins) (inp:=inp) h.hi (List.all_eq_true.1 h.hL l hm) hl hI
 have hmd:(lz vs l.1||lz os l.1)=true:=List.all_eq_true.1 h.hm l hm
 have h2:=h.h2
 have h3:=h.h3
 have hx:=(iw.1 hI.hx).2
 have ho:=(iw.1 hI.ho).2
 rw [show Yi ins vs inp a.1 l.2 ([],a.2.2.1,a.2.2.2)=lnV ins vs inp l a from rfl]at w2
 have e5:eO u v (a.2.2.2:Int) l.2 ins vs os ls a.1 a.2.2.1 inp a.2.1=(lnV ins vs inp l a).1:=by
  simp only [eO,cn,bC,w2]
 have e6:iN u v (a.2.2.2:Int) l.2 ins vs os ls a.1 a.2.2.1 inp a.2.1=atZ (lnV ins vs inp l a).1 0:=by
  simp only [iN,e5];rfl
 have e7:iO u v (a.2.2.2:Int) l.2 ins vs os ls a.1 a.2.2.1 inp a.2.1=true:=by
  simp only [iO,e5,g1];rfl
 have e8:iP u v (a.2.2.2:Int) l.2 ins vs os ls a.1 a.2.2.1 inp a.2.1=true:=by
  simp only [iP,e5,g1];rfl
 have z0:leI (0:Int) 0=true:=rfl
 refine⟨⟨?_,?_,?_⟩,?_,?_,?_,?_⟩
 ·simp only [jn,dg,cn,bC,w2]
 ·simp only [jo,eN,dg,cn,bC,w2]
 ·simp only [jp,iM,eN,dg,cn,bC,w2,scS]
 ·simp only [jq,e6,MD,scS]
  cases hv:lz vs l.1 with
  |true=>simp only [cond_true,Mb hv,Int.toNat_natCast]
  |false=>rfl
 ·simp only [jr,iM,eN,dg,cn,bC,w2,scS]
 ·simp only [jt,e6,MD,scS]
  cases hv:lz vs l.1 with
  |true=>rfl
  |false=>
   have ho':lz os l.1=true:=by simpa [hv] using hmd
   simp only [cond_false,Mb ho',Int.toNat_natCast]
 ·have l1:leN vs.length 9223372036854775807=true:=em (by omega)
  have l2:leN os.length 9223372036854775807=true:=em (by omega)
  have hf:Lp.fin aj (bC u v (a.2.2.2:Int) l.2 ins vs os ls a.1 a.2.2.1 inp a.2.1)=true:=w1
  cases hv:lz vs l.1 with
  |true=>
   have hp:=RK hv
   have k1:ltI (MX vs l.1:Int) (a.1.length:Int)=true:=gg (by omega)
   have k2:ltN (MX vs l.1) a.1.length=true:=iF (by omega)
   simp only [fh,hf,MD,hv,Mb hv,JJ.1,e7,e8,z0,l1,k1,k2,allT,Int.toNat_natCast,Bool.or_true,Bool.true_or,cond_true]
  |false=>
   have ho':lz os l.1=true:=by simpa [hv] using hmd
   have hp:=RK ho'
   have k1:ltI (MX os l.1:Int) (a.2.1.length:Int)=true:=gg (by omega)
   have k2:ltN (MX os l.1) a.2.1.length=true:=iF (by omega)
   simp only [fh,hf,MD,hv,ho',Mb ho',JJ.1,e7,e8,z0,l1,l2,k1,k2,allT,Int.toNat_natCast,Bool.or_true,Bool.true_or,Bool.not_false,cond_true]
theorem ajj{ins vs os:List ByteArray}{inp:List Int}{ls:List LN}(h:ScH ins vs os inp ls){i:Nat}{a:SS4}{l:LN}(hl:ls[i]? =some l)(hI:ScAt vs os ls i a)(u v:ByteArray):
  Bw u v (a.2.2.2:Int) ins vs os ls a.1 a.2.2.1 inp l.2=atZ (lnV ins vs inp l a).1 0∧
  Bx u v (a.2.2.2:Int) ins vs os ls a.1 a.2.2.1 inp l.2=a.1∧
  Bz u v (a.2.2.2:Int) ins vs os ls a.1 a.2.2.1 inp l.2=(scS ins vs os inp l a).2.2.1∧
  BA u v (a.2.2.2:Int) ins vs os ls a.1 a.2.2.1 inp l.2=true:=by
 obtain⟨w1,w2⟩:=ajk (h.line hl hI) u v os ls a.2.2.1 a.2.2.2 (abc hl hI)
 have hm:=List.mem_of_getElem? hl
 obtain⟨g1,g2,g3⟩:=QV (ins:=ins) (inp:=inp) h.hi (List.all_eq_true.1 h.hL l hm) hl hI
 rw [show Yi ins vs inp a.1 l.2 ([],a.2.2.1,a.2.2.2)=lnV ins vs inp l a from rfl]at w2
 have e2:uU u v (a.2.2.2:Int) ins vs os ls a.1 a.2.2.1 inp l.2=(lnV ins vs inp l a).1:=by
  simp only [uU,uT,rH,w2]
 have z0:leI (0:Int) 0=true:=rfl
 have k1:ltI 0 ((lnV ins vs inp l a).1.length:Int)=true:=by rw [g1];rfl
 have k2:ltN (Int.toNat 0) (lnV ins vs inp l a).1.length=true:=by rw [g1];rfl
 have hf:Lp.fin aR (rH u v (a.2.2.2:Int) ins vs os ls a.1 a.2.2.1 inp l.2)=true:=w1
 refine⟨?_,?_,?_,?_⟩
 ·simp only [Bw,e2];rfl
 ·simp only [Bx,Ae,uT,rH,w2]
 ·simp only [Bz,Ae,uT,rH,w2,scS]
 ·simp only [BA,hf,e2,z0,k1,k2,allT,cond_true]
def ag8(n:Nat)(t:TM):Nat:=bif leI 7 t.1 then n + 1 else n
theorem ael: ∀ (ts:List TM) (n:Nat),ts.foldl ag8 n=n + (blT ts).length
 | [],n=>by simp [blT]
 |t::r,n=>by
  rw [List.foldl_cons,ael r]
  simp only [ag8,blT,List.filter_cons]
  cases leI 7 t.1 <;> simp <;> omega
theorem akm(u v:ByteArray)(ins vs os:List ByteArray)(ls:List LN){i k:Nat}{l:LN}(hl:ls[i]? =some l)(hn:l.2.length≤40)(hk:k≤2000):
  eU.fin ((0:Int),(i:Int),(k:Int),u,v,ins,vs,os,ls)=true∧
  eU.res ((0:Int),(i:Int),(k:Int),u,v,ins,vs,os,ls)=(0,((l.2.length:Int),(i:Int),((k + (blT l.2).length:Nat):Int),u,v,ins,vs,os,ls)):=by
 have fy:=(List.getElem?_eq_some_iff.1 hl).1
 have n0:leI 0 (i:Int)=true:=cW (by omega)
 have n1:ltI (i:Int) (ls.length:Int)=true:=gg (by omega)
 have n2:ltN i ls.length=true:=iF fy
 have jx: ∀ d:LN,Option.getD ls[i]? d=l:=fun d=>by rw [hl];rfl
 have g0:uV (i:Int) ls=l.2:=by simp only [uV,Int.toNat_natCast];exact congrArg Prod.snd (jx _)
 have kw:=eU.along2 (fun j (a:Nat)=>((j:Int),(i:Int),(a:Int),u,v,ins,vs,os,ls)) (fun x=>x.2.2.1.toNat)
  (fun(t:TM) a=> .inr (ag8 a t)) 0 (fun j a=>a≤k + j) l.2 k (by omega) (by omega) (fun j t a hb hI=> ?_) (fun a hI=> ?_)
 ·rw [GG (g:=ag8) (fun b a=>rfl),ael]at kw
  simpa using kw
 ·have hjt:=(List.getElem?_eq_some_iff.1 hb).1
  have hw:IntKind.i64.wrap ((j:Int) + 1)=((j + 1:Nat):Int):=by rw [cg (by omega) (by omega)];omega
  have hw2:IntKind.i64.wrap ((a:Int) + 1)=((a + 1:Nat):Int):=by rw [cg (by omega) (by omega)];omega
  have l0:leI 0 (j:Int)=true:=cW (by omega)
  have l1:ltI (j:Int) (l.2.length:Int)=true:=gg (by omega)
  have l2:ltN j l.2.length=true:=iF hjt
  have c7:GE (j:Int) (i:Int) (a:Int) ls=((ag8 a t:Nat):Int):=by
   simp only [GE,g0,Int.toNat_natCast,hb,Option.getD_some,hw2,ag8]
   cases leI 7 t.1 <;> rfl
  refine⟨?_,?_,?_,fun a' hf=> ?_⟩
  ·simp only [eU,uN,BC,BD,BE,ti,My,Mz,LT.nds,allT,g0,n0,n1,n2,l0,l1,l2,Int.toNat_natCast,cond_true,Bool.and_self]
  ·simp only [eU,uN,ti,MA,LT.each,c7,g0,l1,hw,Int.toNat_natCast,Bool.and_true,and_self]
  ·simp only [eU,uN,ti,LT.fn,c7,g0,l1,Int.toNat_natCast,cond_true]
  ·simp only [Sum.inr.injEq]at hf
   subst hf
   simp only [ag8]
   cases leI 7 t.1 <;> simp <;> omega
 ·have cM:ltI (l.2.length:Int) (l.2.length:Int)=false:=SA (by omega)
  simp [eU,uN,BC,BD,BE,ti,LT.out,g0,n0,n1,n2,cM,allT]
theorem ae5(ins vs os:List ByteArray)(inp:List Int): ∀ (ls:List LN) (a:SS4),ls.foldl (fun a l=>scS ins vs os inp l a) a=ahJ ins vs os inp ls a
 | [],a=>rfl
 |l::r,a=>by rw [List.foldl_cons,ae5 ins vs os inp r];rfl
theorem ajy{ins vs os:List ByteArray}{inp xs:List Int}{ss:List BS3}{ls:List LN}(h:ScH ins vs os inp ls)(hs:GF vs.length (blL ls) xs ss=true)(u v:ByteArray):
  gY.fin ((0:Int),(0:Int),u,v,inp,List.replicate os.length 0,ins,vs,os,ls,xs,ss)=true∧
  gY.res ((0:Int),(0:Int),u,v,inp,List.replicate os.length 0,ins,vs,os,ls,xs,ss)=
   (0,((ls.length:Int),((scE ins vs os ls inp xs ss).2.2.2:Int),u,v,inp,(scE ins vs os ls inp xs ss).2.1,ins,vs,os,ls,(scE ins vs os ls inp xs ss).1,(scE ins vs os ls inp xs ss).2.2.1)):=by
 obtain⟨s1,s2,s3⟩:=NK.1 hs
 have h0:ScAt vs os ls 0 (xs,List.replicate os.length 0,ss,0):=⟨s2,iw.2 ⟨fun z hz=> .inl (List.eq_of_mem_replicate hz),by simp⟩,s1,s3,by simp [blL]⟩
 have hn:=h.hn
 have h2:=h.h2
 have h3:=h.h3
 have kw:=gY.along2 (fun i (a:SS4)=>((i:Int),(a.2.2.2:Int),u,v,inp,a.2.1,ins,vs,os,ls,a.1,a.2.2.1)) (fun x=>(x.2.2.2.2.2.2.2.2.2.2.1,x.2.2.2.2.2.1,x.2.2.2.2.2.2.2.2.2.2.2,x.2.1.toNat))
  (fun(l:LN) a=> .inr (scS ins vs os inp l a)) 0 (fun i a=>ScAt vs os ls i a) ls (xs,List.replicate os.length 0,ss,0) h0 (by omega) (fun i l a hb hI=> ?_) (fun a hI=> ?_)
 ·rw [GG (g:=fun a l=>scS ins vs os inp l a) (fun b a=>rfl),ae5]at kw
  simpa [scE] using kw
 ·have fy:=(List.getElem?_eq_some_iff.1 hb).1
  have hm:=List.mem_of_getElem? hb
  have hL:=List.all_eq_true.1 h.hL l hm
  have hw:IntKind.i64.wrap ((i:Int) + 1)=((i + 1:Nat):Int):=by rw [cg (by omega) (by omega)];omega
  obtain⟨g1,g2,g3⟩:=QV (ins:=ins) (inp:=inp) h.hi hL hb hI
  obtain⟨r0,r1,r2,r3⟩:=ajj h hb hI u v
  have hbl:=h.bl
  have hsp:=(Vc hb).2
  have hspl:=(Vc hb).1
  have hk1:=hI.hk
  have hk2:=g3.hk
  have hkk:a.2.2.2≤2000:=by
   rw [hspl,List.length_append,List.length_append]at hbl
   omega
  obtain⟨c1,c2⟩:=akm u v ins vs os ls hb (Vk hL).2.1 hkk
  have hknew:a.2.2.2 + (blT l.2).length=(scS ins vs os inp l a).2.2.2:=by omega
  have hmd:(lz vs l.1||lz os l.1)=true:=List.all_eq_true.1 h.hm l hm
  have hx:=(iw.1 hI.hx).2
  have ho:=(iw.1 hI.ho).2
  have q0:JA (i:Int) ls=true:=gg (by omega)
  have q1:JB (i:Int) ls=true:=iF (by simpa using fy)
  have jx: ∀ d:LN,Option.getD ls[i]? d=l:=fun d=>by rw [hb];rfl
  have q2:qj (i:Int) ls=l:=by simp only [qj,Int.toNat_natCast];exact jx _
  have q3:da (i:Int) vs ls=ii vs l.1:=by simp only [da,q2]
  have q5:vB (i:Int) os ls=ii os l.1:=by simp only [vB,q2]
  have q4:vA (i:Int) (a.2.2.2:Int) u v inp ins vs os ls a.1 a.2.2.1=a.1:=by simp only [vA,q2,r1]
  have q7:Ed (i:Int) (a.2.2.2:Int) u v inp ins vs os ls a.1 a.2.2.1=atZ (lnV ins vs inp l a).1 0:=by simp only [Ed,q2,r0]
  have p1:KX (i:Int)=true:=cW (by omega)
  have p3:KZ (i:Int) (a.2.2.2:Int) u v inp ins vs os ls a.1 a.2.2.1=true:=by simp only [KZ,q2,r3]
  have p4:PB vs=true:=em (by omega)
  have p15:OQ (i:Int) (a.2.2.2:Int) u v ins vs os ls=true:=c1
  have p16:OR (i:Int)=((i + 1:Nat):Int):=hw
  have p17:Ju (i:Int) (a.2.2.2:Int) u v ins vs os ls=((scS ins vs os inp l a).2.2.2:Int):=by
   simp only [Ju,JC,c2,hknew]
  have p20:Jz (i:Int) (a.2.2.2:Int) u v inp ins vs os ls a.1 a.2.2.1=(scS ins vs os inp l a).2.2.1:=by simp only [Jz,q2,r2]
  have p18:Jv (i:Int) (a.2.2.2:Int) u v inp a.2.1 ins vs os ls a.1 a.2.2.1=(scS ins vs os inp l a).2.1:=by
   simp only [Jv,q3,q5,q7,MD,scS]
   cases hv:lz vs l.1 with
   |true=>rfl
   |false=>
    have ho':lz os l.1=true:=by simpa [hv] using hmd
    simp only [cond_false,Mb ho',Int.toNat_natCast]
  have p19:Jw (i:Int) (a.2.2.2:Int) u v inp ins vs os ls a.1 a.2.2.1=(scS ins vs os inp l a).1:=by
   simp only [Jw,q3,q4,q7,MD,scS]
   cases hv:lz vs l.1 with
   |true=>simp only [cond_true,Mb hv,Int.toNat_natCast]
   |false=>rfl
  have pm:La (i:Int) vs ls=true∧Lb (i:Int) (a.2.2.2:Int) u v inp ins vs os ls a.1 a.2.2.1=true∧Lc (i:Int) (a.2.2.2:Int) u v inp ins vs os ls a.1 a.2.2.1=true∧
    Ld (i:Int) vs ls=true∧Le (i:Int) vs ls=true∧Jp (i:Int) vs ls=true∧Jq (i:Int) vs os ls=true∧
    Jr (i:Int) vs os ls=true∧Js (i:Int) a.2.1 vs os ls=true∧Jt (i:Int) a.2.1 vs os ls=true:=by
   simp only [La,Lb,Lc,Ld,Le,Jp,Jq,Jr,Js,Jt,q0,q1,q3,q4,q5,MD]
   have m1:leI 0 (i:Int)=true:=p1
   have m2:leN os.length 9223372036854775807=true:=em (by omega)
   cases hv:lz vs l.1 with
   |true=>
    have hp:=RK hv
    have k1:ltI (MX vs l.1:Int) (a.1.length:Int)=true:=gg (by omega)
    have k2:ltN (MX vs l.1) a.1.length=true:=iF (by omega)
    simp only [Mb hv,JJ.1,k1,k2,Int.toNat_natCast,Bool.or_true,Bool.true_or,and_self]
   |false=>
    have ho':lz os l.1=true:=by simpa [hv] using hmd
    have hp:=RK ho'
    have k1:ltI (MX os l.1:Int) (a.2.1.length:Int)=true:=gg (by omega)
    have k2:ltN (MX os l.1) a.2.1.length=true:=iF (by omega)
    simp only [ho',Mb ho',JJ.1,k1,k2,m1,m2,Int.toNat_natCast,Bool.or_true,Bool.true_or,Bool.not_false,and_self]
  obtain⟨m5,m6,m7,m8,m9,m10,m11,m12,m13,m14⟩:=pm
  have p0:BB (i:Int) ls=true:=q0
  have p2:KY (i:Int) ls=true:=q1
  refine⟨?_,?_,?_,fun a' hf=> ?_⟩
  ·simp only [gY,zi,LT.nds,allT,p0,p1,p2,p3,p4,m5,m6,m7,m8,m9,m10,m11,m12,m13,m14,p15,cond_true,Bool.and_self]
  ·simp only [gY,zi,LT.each,p0,p16,p17,p18,p19,p20,Int.toNat_natCast,Bool.and_true,and_self]
  ·simp only [gY,zi,LT.fn,p0,p17,p18,p19,p20,Int.toNat_natCast,cond_true]
  ·simp only [Sum.inr.injEq]at hf
   subst hf;exact g3
 ·have cM:BB (ls.length:Int) ls=false:=SA (by omega)
  simp [gY,zi,LT.out,cM]
theorem ajx{ins vs os:List ByteArray}{inp xs:List Int}{ss:List BS3}{ls:List LN}(h:ScH ins vs os inp ls)(hs:GF vs.length (blL ls) xs ss=true)(u v:ByteArray):
  aB.fin ((0:Int),(ls.length:Int),ls,u,v,(0:Int),ins,vs,os,xs,ss,inp,List.replicate os.length 0)=true∧
  aB.res ((0:Int),(ls.length:Int),ls,u,v,(0:Int),ins,vs,os,xs,ss,inp,List.replicate os.length 0)=
   (0,((ls.length:Int),(ls.length:Int),ls,u,v,((scE ins vs os ls inp xs ss).2.2.2:Int),ins,vs,os,(scE ins vs os ls inp xs ss).1,(scE ins vs os ls inp xs ss).2.2.1,inp,(scE ins vs os ls inp xs ss).2.1)):=by
 obtain⟨s1,s2,s3⟩:=NK.1 hs
 have h0:ScAt vs os ls 0 (xs,List.replicate os.length 0,ss,0):=⟨s2,iw.2 ⟨fun z hz=> .inl (List.eq_of_mem_replicate hz),by simp⟩,s1,s3,by simp [blL]⟩
 have hn:=h.hn
 have kw:=aB.along2 (fun i (a:SS4)=>((i:Int),(ls.length:Int),ls,u,v,(a.2.2.2:Int),ins,vs,os,a.1,a.2.2.1,inp,a.2.1)) (fun x=>(x.2.2.2.2.2.2.2.2.2.1,x.2.2.2.2.2.2.2.2.2.2.2.2,x.2.2.2.2.2.2.2.2.2.2.1,x.2.2.2.2.2.1.toNat))
  (fun(l:LN) a=> .inr (scS ins vs os inp l a)) 0 (fun i a=>ScAt vs os ls i a) ls (xs,List.replicate os.length 0,ss,0) h0 (by omega) (fun i l a hb hI=> ?_) (fun a hI=> ?_)
 ·rw [GG (g:=fun a l=>scS ins vs os inp l a) (fun b a=>rfl),ae5]at kw
  simpa [scE] using kw
 ·have fy:=(List.getElem?_eq_some_iff.1 hb).1
  have hm:=List.mem_of_getElem? hb
  have hw:IntKind.i64.wrap ((i:Int) + 1)=((i + 1:Nat):Int):=by rw [cg (by omega) (by omega)];omega
  obtain⟨g1,g2,g3⟩:=QV (ins:=ins) (inp:=inp) h.hi (List.all_eq_true.1 h.hL l hm) hb hI
  obtain⟨⟨r0,r1,r2⟩,r3,r4,r5,r6⟩:=aht h hb hI u v
  have jx: ∀ d:LN,Option.getD ls[i]? d=l:=fun d=>by rw [hb];rfl
  have q0:aI (i:Int) ls=l:=by simp only [aI,Int.toNat_natCast];exact jx _
  have p0:ltI (i:Int) (ls.length:Int)=true:=gg (by omega)
  have p1:leI 0 (i:Int)=true:=cW (by omega)
  have p3:ltN i ls.length=true:=iF fy
  refine⟨?_,?_,?_,fun a' hf=> ?_⟩
  ·simp only [fJ,fK,fL,fM,fN,fO,fP,fQ,fR,fS,ff,fg,fm,aB,LT.nds,allT,q0,r0,r1,r2,r3,r4,r5,r6,p0,p1,p3,Int.toNat_natCast,cond_true,Bool.and_self]
  ·simp only [fJ,fK,fL,fM,fN,fO,fP,fQ,fR,fS,ff,fg,fm,aB,LT.each,q0,r0,r1,r2,r3,r4,r5,p0,hw,Int.toNat_natCast,Bool.and_true,and_self]
  ·simp only [fJ,fK,fL,fM,fN,fO,fP,fQ,fR,fS,ff,fg,fm,aB,LT.fn,q0,r2,r3,r4,r5,p0,Int.toNat_natCast,cond_true]
  ·simp only [Sum.inr.injEq]at hf
   subst hf;exact g3
 ·have cM:ltI (ls.length:Int) (ls.length:Int)=false:=SA (by omega)
  simp [fJ,fK,fL,fM,fN,fO,fP,fQ,fR,fS,ff,fg,fm,aB,LT.out,cM]
theorem af1: ∀ (ts:List TM) (n e:Int),htT ts n=some e→Zq (blT ts)=true
 | [],n,e,_=>rfl
 |t::r,n,e,h=>by
  simp only [htT]at h
  cases hc:(termB t.1 t.2.1 t.2.2&&leI (takesK t.1) n)with
  |false=>rw [hc]at h;cases h
  |true=>
   rw [hc,cond_true]at h
   simp only [Bool.and_eq_true]at hc
   have h1:=af1 r _ e h
   cases h7:leI 7 t.1 with
   |false=>simpa only [blT,List.filter_cons,h7,Bool.false_eq_true,if_false] using h1
   |true=>
    simp only [blT,List.filter_cons,h7,if_true,Zq,List.all_cons,Bool.and_eq_true]
    exact⟨OU hc.1 h7,h1⟩
theorem afI: ∀ (ls:List LN),ls.all lineB=true→Zq (blL ls)=true
 | [],_=>rfl
 |l::r,h=>by
  simp only [List.all_cons,Bool.and_eq_true]at h
  have h1:=afI r h.2
  have h2:=af1 _ _ _ (Vk h.1).2.2
  have h4:blL (l::r)=blT l.2++blL r:=rfl
  simp only [Zq]at h1 h2
  simp only [h4,Zq,List.all_append,h1,h2,Bool.and_self]
theorem Vt{nm:ByteArray}{ins vs os:List ByteArray}{g:ByteArray}{ls:List LN}(h:zB nm ins vs os g ls=true):
  (g.toList== []||QT ins vs g)=true∧ls.all lineB=true∧ls.all (madeB vs os)=true∧ls.all (fun l=>l.2.all (usedB ins vs))=true∧ls.length≤40∧ins.length≤20∧vs.length≤20∧os.length≤20:=by
 simp only [zB,abT,aiP,aaQ,Bool.and_eq_true,DP]at h
 obtain⟨⟨_,⟨_,i1⟩,⟨_,i2⟩,⟨_,i3⟩,_,hL,hn⟩,_,hg,hm,_,_,hu⟩:=h
 exact⟨hg,hL,hm,hu,by omega,by omega,by omega,by omega⟩
theorem ahK{nm:ByteArray}{ins vs os:List ByteArray}{g:ByteArray}{ls:List LN}{inp:List Int}(h:zB nm ins vs os g ls=true)(hi:bitsB ins.length inp=true):ScH ins vs os inp ls:=by
 obtain⟨_,hL,hm,hu,hn,h1,h2,h3⟩:=Vt h
 exact⟨hi,hL,hm,hu,hn,h1,h2,h3⟩
def scG(nm:ByteArray)(ins vs os:List ByteArray)(g:ByteArray)(ls:List LN)(xs:List Int)(ss:List BS3)(inp:List Int):Bool:=zB nm ins vs os g ls&&(GF vs.length (blL ls) xs ss&&bitsB ins.length inp)
theorem acp{nm:ByteArray}{ins vs os:List ByteArray}{g:ByteArray}{ls:List LN}{xs:List Int}{ss:List BS3}{inp:List Int}:
  scG nm ins vs os g ls xs ss inp=true↔zB nm ins vs os g ls=true∧GF vs.length (blL ls) xs ss=true∧bitsB ins.length inp=true:=by
 simp only [scG,Bool.and_eq_true]
theorem agI(nm:ByteArray)(ins vs os:List ByteArray)(g:ByteArray)(ls:List LN)(xs:List Int)(ss:List BS3)(inp:List Int)(h:scG nm ins vs os g ls xs ss inp=true):
  KT nm g ins vs os ls xs ss inp=scO ins vs os g ls inp xs ss∧KU nm g ins vs os ls xs ss inp=scV ins vs os ls inp xs ss∧
  KV nm g ins vs os ls xs ss inp=scB ins vs os ls inp xs ss∧KW nm g ins vs os ls xs ss inp=true:=by
 obtain⟨h1,h2,h3⟩:=acp.1 h
 obtain⟨hg,_⟩:=Vt h1
 have hS:=ahK h1 h3
 obtain⟨w1,w2⟩:=ajy hS h2 nm g
 have hE:=ahI (os:=os) h3 hS.hL h2
 obtain⟨s1,s2,s3⟩:=NK.1 h2
 have hb:=hS.bl
 have b1:=hS.h1
 have b2:=hS.h2
 have b3:=hS.h3
 have hx2:=(iw.1 s2).2
 have a1:IE os=List.replicate os.length 0:=by simp only [IE,Int.toNat_natCast]
 have a0:Au g= !(g.toList== []):=by simp only [Au,JO]
 have e3:IF nm g ins vs os ls xs ss inp=((scE ins vs os ls inp xs ss).2.1,ins,vs,os,ls,(scE ins vs os ls inp xs ss).1,(scE ins vs os ls inp xs ss).2.2.1):=by
  simp only [IF,Es,a1,w2]
 have e5:Av nm g ins vs os ls xs ss inp=(scE ins vs os ls inp xs ss).1:=by simp only [Av,IG,e3]
 have e8:II nm g ins vs os ls xs ss inp=(scE ins vs os ls inp xs ss).2.2.1:=by simp only [II,IG,e3]
 have e7:IH nm g ins vs os ls xs ss inp=(scE ins vs os ls inp xs ss).1:=by simp only [IH,e5];exact Bool.cond_self _ _
 have e9:IJ nm g ins vs os ls xs ss inp=(scE ins vs os ls inp xs ss).2.2.1:=by simp only [IJ,e8];exact Bool.cond_self _ _
 have hv:(g.toList== [])=false→qs g ins vs (scE ins vs os ls inp xs ss).1 inp=nmV ins vs inp (scE ins vs os ls inp xs ss).1 g∧qt g ins vs (scE ins vs os ls inp xs ss).1 inp=true:=fun hgg=>by
  rw [hgg,Bool.false_or]at hg
  have q1:=(iw.1 h3).2
  have q2:=(iw.1 hE.hx).2
  exact aah g ins vs inp _ hg (em (by omega)) (em (by omega)) (by omega) (by omega)
 have e6:rU nm g ins vs os ls xs ss inp=(!(g.toList== [])&&nmV ins vs inp (scE ins vs os ls inp xs ss).1 g==0):=by
  simp only [rU,a0,e5]
  cases hgg:g.toList== []with
  |true=>rfl
  |false=>simp only [Bool.not_false,cond_true,(hv hgg).1,Bool.true_and]
 refine⟨?_,?_,?_,?_⟩
 ·simp only [KT,e6,e3,a1,scO]
 ·simp only [KU,e7,scV];exact Bool.cond_self _ _
 ·simp only [KV,e9,scB];exact Bool.cond_self _ _
 ·have f1:Lp.fin gY (Es nm g ins vs os ls xs ss inp)=true:=by simp only [Es,a1];exact w1
  have f0:Me xs ss=true:=by
   simp only [Me,allT,em (show xs.length≤1048576 by omega),em (show 0 + ss.length≤9223372036854775807 by omega),em (show (0 + ss.length) * 24≤140737488355328 by omega),cond_true]
  have f2:leI 0 (os.length:Int)=true:=cW (by omega)
  have f3:leI (os.length:Int) (os.length:Int)=true:=cW (by omega)
  have f4:leI (((8:Nat):Int) * (os.length:Int)) 281474976710656=true:=cW (by omega)
  have f5:leI (os.length:Int) 9223372036854775807=true:=cW (by omega)
  have f6:LW os=true:=f3
  have f7:LX os=true:=f4
  simp only [KW,f0,f1,f2,f5,f6,f7,a0,e5,allT,Bool.or_true,cond_true,Bool.and_true]
  cases hgg:g.toList== []with
  |true=>rfl
  |false=>simp only [(hv hgg).2];rfl
theorem af7(nm:ByteArray)(ins vs os:List ByteArray)(g:ByteArray)(ls:List LN)(xs:List Int)(ss:List BS3)(inp:List Int)(h:scG nm ins vs os g ls xs ss inp=true):
  lb nm g ins vs os ls xs ss inp=scO ins vs os g ls inp xs ss∧lc nm g ins vs os ls xs ss inp=scV ins vs os ls inp xs ss∧
  ld nm g ins vs os ls xs ss inp=scB ins vs os ls inp xs ss∧le nm g ins vs os ls xs ss inp=true:=by
 obtain⟨h1,h2,h3⟩:=acp.1 h
 obtain⟨hg,_⟩:=Vt h1
 have hS:=ahK h1 h3
 obtain⟨w1,w2⟩:=ajx hS h2 nm g
 have hE:=ahI (os:=os) h3 hS.hL h2
 obtain⟨s1,s2,s3⟩:=NK.1 h2
 have hb:=hS.bl
 have b1:=hS.h1
 have b2:=hS.h2
 have b3:=hS.h3
 have hx2:=(iw.1 s2).2
 have a1:gK nm g ins vs os ls xs ss inp=((0:Int),(ls.length:Int),ls,nm,g,(0:Int),ins,vs,os,xs,ss,inp,List.replicate os.length 0):=by
  simp only [gK,Int.toNat_natCast]
 have a0:cX g= !(g.toList== []):=by simp only [cX];rw [JO]
 have e2:kB nm g ins vs os ls xs ss inp=((scE ins vs os ls inp xs ss).1,(scE ins vs os ls inp xs ss).2.2.1,inp,(scE ins vs os ls inp xs ss).2.1):=by
  simp only [kB,a1,w2]
 have e3:ej nm g ins vs os ls xs ss inp=(scE ins vs os ls inp xs ss).1:=by simp only [ej,e2]
 have e6:kD nm g ins vs os ls xs ss inp=(scE ins vs os ls inp xs ss).2.1:=by
  simp only [kD,oT,kC,e2,ne]
  rw [Bool.cond_self,Bool.cond_self]
 have e7:kE nm g ins vs os ls xs ss inp=(scE ins vs os ls inp xs ss).2.2.1:=by
  simp only [kE,kC,e2]
 have hv:(g.toList== [])=false→iR g ins vs (scE ins vs os ls inp xs ss).1 inp=nmV ins vs inp (scE ins vs os ls inp xs ss).1 g∧iS g ins vs (scE ins vs os ls inp xs ss).1 inp=true:=fun hgg=>by
  rw [hgg,Bool.false_or]at hg
  have q1:=(iw.1 h3).2
  have q2:=(iw.1 hE.hx).2
  rw [(aeM _ _ _ _ _).1,(aeM _ _ _ _ _).2]
  exact aah g ins vs inp _ hg (em (by omega)) (em (by omega)) (by omega) (by omega)
 have hol:(scE ins vs os ls inp xs ss).2.1.length=os.length:=by have:=(iw.1 hE.ho).2;omega
 refine⟨?_,?_,?_,?_⟩
 ·simp only [lb,a0,e3,e6,Rd,hol,scO]
  cases hgg:g.toList== []with
  |true=>rfl
  |false=>simp only [Bool.not_false,cond_true,(hv hgg).1,Bool.true_and];rfl
 ·simp only [lc,e3,nb,scV]
  rw [Bool.cond_self,Bool.cond_self]
 ·simp only [ld,e7,nc,scB]
  rw [Bool.cond_self,Bool.cond_self]
 ·have f1:Lp.fin aB (gK nm g ins vs os ls xs ss inp)=true:=by rw [a1];exact w1
  have f0:kx xs ss=true:=by
   simp only [kx,allT,em (show xs.length≤1048576 by omega),em (show ss.length≤1048576 by omega),cond_true]
  have f2:leI 0 (os.length:Int)=true:=cW (by omega)
  have f3:leI (os.length:Int) (os.length:Int)=true:=cW (by omega)
  have f4:leI (((8:Nat):Int) * (os.length:Int)) 281474976710656=true:=cW (by omega)
  have f5:leI (os.length:Int) 9223372036854775807=true:=cW (by omega)
  simp only [le,f0,f1,f2,f3,f4,f5,a0,e3,allT,Bool.or_true,cond_true,Bool.and_true]
  cases hgg:g.toList== []with
  |true=>rfl
  |false=>simp only [(hv hgg).2];rfl
def xo(y1:List (Int×(ByteArray×Int)))(y3:List (Int×(Int×Int)))(b:Nat):(Unit)→Nat ⊕ (Unit)
 |_=>(bif(!cJ ((Option.getD y1[b]? ((0:Int),ByteArray.empty,(0:Int))).1) ((Option.getD y1[b]? ((0:Int),ByteArray.empty,(0:Int))).2.2) ((Option.getD y3[b]? ((0:Int),(0:Int),(0:Int))).1) (((Option.getD y3[b]? ((0:Int),(0:Int),(0:Int))).2).1) ((Option.getD y3[b]? ((0:Int),(0:Int),(0:Int))).2.2))then(.inl 0)else(.inr ()))
def nR(y1:List (Int×(ByteArray×Int)))(y2:List Int)(y3:List (Int×(Int×Int)))(i:Nat):(Unit)→kU
 |_=>((i:Int),y1,y2,y3)
def Gt:kU→Unit
 |(_,_,_,_)=>()
theorem Wo(y1:List (Int×(ByteArray×Int)))(y2:List Int)(y3:List (Int×(Int×Int))) (hn:y1.length≤9223372036854775807) (he:y3.length=y1.length):
  dl.fin ((0:Int),y1,y2,y3)=true∧dl.res ((0:Int),y1,y2,y3)=((aC (xo y1 y3) 1 (List.range y1.length) 0 ()).1,(nR y1 y2 y3) (aC (xo y1 y3) 1 (List.range y1.length) 0 ()).2.1 (aC (xo y1 y3) 1 (List.range y1.length) 0 ()).2.2):=by
 have kw:=dl.along (nR y1 y2 y3) Gt (xo y1 y3) 1 (fun _ _=>True) (List.range y1.length) () (by trivial) (by simp only [dl,nR,List.length_range];omega) (fun i b a hb hI=> ?_) (fun a hI=> ?_)
 ·exact kw
 ·obtain⟨⟩:=a
  obtain⟨rfl,fy⟩:=ul hb
  have hw:IntKind.i64.wrap ((b:Int) + 1)=((b + 1:Nat):Int):=by rw [cg (by omega) (by omega)];omega
  have cM:ltI (b:Int) (y1.length:Int)=true:=gg (by omega)
  have xj:leI (0:Int) (b:Int)=true:=cW (by omega)
  have jC:ltN b y1.length=true:=iF (by omega)
  refine⟨?_,?_,?_,?_⟩
  ·simp [th,qi,uo,uq,yf,yg,yh,yj,yk,vY,dl,LT.nds,allT,nR,cM,xj,jC,he]
  ·simp [th,qi,uo,uq,yf,yg,yh,yj,yk,vY,dl,LT.each,nR,Gt,hw,he]
  ·simp only [th,qi,uo,uq,yf,yg,yh,yj,yk,vY,dl,LT.fn,nR,Gt,xo,Int.toNat_natCast,cM,cond_true]
  ·exact fun _ _=>trivial
 ·obtain⟨⟩:=a
  simp [th,qi,uo,uq,yf,yg,yh,yj,yk,vY,dl,LT.out,nR,List.length_range]
theorem ah4: ∀ (ls:List LN),(∀ l∈ls,l.2.length≤1048576)→(blL ls).length≤1048576 * ls.length
 | [],_=>by simp [blL]
 |l::r,h=>by
  have h1:=ah4 r (fun x hx=>h x (by simp [hx]))
  have h2:=h l (by simp)
  have h3:(blT l.2).length≤l.2.length:=List.length_filter_le ..
  have h4:blL (l::r)=blT l.2++blL r:=rfl
  rw [h4,List.length_append,List.length_cons]
  omega
theorem ajl{ls:List LN}(h:Sz ls=true):(blL ls).length≤1099511627776:=by
 obtain⟨hn,hA⟩:=JK.1 h
 have:=ah4 ls (fun l hl=>(JR.1 (hA l hl).2).1)
 omega
theorem ahN(vs:List ByteArray)(ls:List LN)(xs:List Int)(ss:List BS3)(h:(Sz ls&&leN xs.length 9223372036854775807)=true):
  yA vs ls xs ss=GF vs.length (blL ls) xs ss∧Dg vs ls xs ss=true:=by
 simp only [Bool.and_eq_true]at h
 have hn:=ajl h.1
 generalize hbs:blL ls=bs at hn
 by_cases hl:ss.length=bs.length
 ·obtain⟨w1,w2⟩:=Wo bs xs ss (by omega) hl
  rw [gJ (P:=fun k=> !possAt bs ss k) (j:=0) (fun k=>rfl),aeP (g:=possAt bs ss) (h:=possAt bs ss) _ (fun k _=>rfl)]at w2
  have a0:xg ls ss=false:=by simp [xg,hbs,hl]
  have a2:Fx ls xs ss=((0:Int),bs,xs,ss):=by simp only [Fx,hbs]
  have w1':Lp.fin dl ((0:Int),bs,xs,ss)=true:=w1
  simp only [nR]at w2
  simp only [yA,Dg,Fw,a0,a2,w1,w2,h.1,h.2,allT,GF,hl]
  cases bitsB (vs.length:Int) xs <;> cases (List.range bs.length).all (possAt bs ss) <;> simp [Nat.beq,w1']
 ·have hl2: ¬ ((ss.length:Int)=(bs.length:Int)):=by omega
  have a0:xg ls ss=true:=by simp [xg,hbs,hl2]
  have e:((ss.length:Int)==(bs.length:Int))=false:=by simpa using hl2
  simp [yA,Dg,Fw,a0,allT,GF,e,h.1]
def NF(nm:ByteArray)(ins vs os:List ByteArray)(g:ByteArray)(ls:List LN)(xs:List Int)(ss:List BS3)(inps:List (List Int)):Int:=bif !zB nm ins vs os g ls then 1 else bif !GF vs.length (blL ls) xs ss|| !inps.all (fun l=>bitsB ins.length l)then 2 else 0
theorem aiO{nm:ByteArray}{ins vs os:List ByteArray}{g:ByteArray}{ls:List LN}{xs:List Int}{ss:List BS3}{inps:List (List Int)}(h:(NF nm ins vs os g ls xs ss inps !=0)=false):
  zB nm ins vs os g ls=true∧GF vs.length (blL ls) xs ss=true∧inps.all (fun l=>bitsB ins.length l)=true:=by
 simp only [NF]at h
 revert h
 cases zB nm ins vs os g ls <;> cases GF vs.length (blL ls) xs ss <;> cases inps.all (fun l=>bitsB ins.length l) <;> simp
def cdG(nm:ByteArray)(ins vs os:List ByteArray)(g:ByteArray)(ls:List LN)(xs:List Int)(inps:List (List Int)):Bool:=prOk nm ins vs os g ls&&(leN xs.length 9223372036854775807&&(leN inps.length 1048576&&inps.all fun l=>leN l.length 9223372036854775807))
theorem aeV{nm:ByteArray}{ins vs os:List ByteArray}{g:ByteArray}{ls:List LN}{xs:List Int}{inps:List (List Int)}:
  cdG nm ins vs os g ls xs inps=true↔prOk nm ins vs os g ls=true∧leN xs.length 9223372036854775807=true∧inps.length≤1048576∧ ∀ l∈inps,leN l.length 9223372036854775807=true:=by
 simp only [cdG,Bool.and_eq_true,ij,List.all_eq_true]
theorem agF(nm:ByteArray)(ins vs os:List ByteArray)(g:ByteArray)(ls:List LN)(xs:List Int)(ss:List BS3)(inp:List Int)(h:cdG nm ins vs os g ls xs [inp]=true):
  GD nm g ins vs os ls xs ss inp=NF nm ins vs os g ls xs ss [inp]∧KS nm g ins vs os ls xs ss inp=true:=by
 obtain⟨h1,h2,h3,h4⟩:=aeV.1 h
 obtain⟨m1,m2⟩:=ahN vs ls xs ss (by rw [(OB.1 h1).2.2.2.2.2.2,h2];rfl)
 have h5:=h4 inp (by simp)
 simp only [GD,KS,m1,m2,h1,h5,NF,allT,List.all_cons,List.all_nil,Bool.and_true,Bool.or_true,cond_true,and_true]
 cases GF vs.length (blL ls) xs ss <;> rfl
def eC(y5:List ByteArray)(b:List Int):(Unit)→Nat ⊕ (Unit)
 |_=>(bif(wL b y5)then(.inl 0)else(.inr ()))
def cj(y2 y3:ByteArray)(y4:List (List Int))(y5 y6 y7:List ByteArray)(y8:List (ByteArray×(List (Int×(ByteArray×Int)))))(i:Nat):(Unit)→bn
 |_=>((i:Int),(↑y4.length:Int),y2,y3,y4,y5,y6,y7,y8)
def oW:bn→Unit
 |(_,_,_,_,_,_,_,_,_)=>()
theorem FC(y2 y3:ByteArray)(y4:List (List Int))(y5 y6 y7:List ByteArray)(y8:List (ByteArray×(List (Int×(ByteArray×Int))))) (hn:y4.length≤9223372036854775807) (hA: ∀ l∈y4,leN l.length 9223372036854775807=true):
  ap.fin ((0:Int),(↑y4.length:Int),y2,y3,y4,y5,y6,y7,y8)=true∧ap.res ((0:Int),(↑y4.length:Int),y2,y3,y4,y5,y6,y7,y8)=((aC (eC y5) 1 y4 0 ()).1,(cj y2 y3 y4 y5 y6 y7 y8) (aC (eC y5) 1 y4 0 ()).2.1 (aC (eC y5) 1 y4 0 ()).2.2):=by
 have kw:=ap.along (cj y2 y3 y4 y5 y6 y7 y8) oW (eC y5) 1 (fun _ _=>True) y4 () (by trivial) (by simp only [ap,cj];omega) (fun i b a hb hI=> ?_) (fun a hI=> ?_)
 ·exact kw
 ·obtain⟨⟩:=a
  have fy:=(List.getElem?_eq_some_iff.1 hb).1
  have jx: ∀ d,Option.getD y4[i]? d=b:=fun d=>by rw [hb];rfl
  have hw:=uF fy hn
  have cM:ltI (i:Int) (y4.length:Int)=true:=gg (by omega)
  have xj:leI (0:Int) (i:Int)=true:=cW (by omega)
  have jC:ltN i y4.length=true:=iF fy
  refine⟨?_,?_,?_,?_⟩
  ·have hg2:ci (i:Int) y4=b:=by simp only [ci,Int.toNat_natCast];exact jx _
   have h4:hY (i:Int) y4=true:=by simp only [hY,CP,hg2,hA b (List.mem_of_getElem? hb),allT,cond_true]
   simp only [hO,li,lj,lk,gL,ap,LT.nds,allT,cj,h4,cM,xj,jC,Int.toNat_natCast,cond_true,Bool.and_self]
   cases hZ (i:Int) y4 y5 <;> simp [LT.nds]
  ·simp [ci,hO,li,lj,lk,hY,hZ,py,gL,ap,LT.each,cj,oW,hw]
  ·have hg2:ci (i:Int) y4=b:=by simp only [ci,Int.toNat_natCast];exact jx _
   simp only [hO,hZ,gL,ap,LT.fn,cj,oW,eC,cM,hg2,cond_true]
  ·exact fun _ _=>trivial
 ·obtain⟨⟩:=a
  simp [ci,hO,li,lj,lk,hY,hZ,py,gL,ap,LT.out,cj]
theorem af4(nm:ByteArray)(ins vs os:List ByteArray)(g:ByteArray)(ls:List LN)(xs:List Int)(ss:List BS3)(inps:List (List Int))(h:cdG nm ins vs os g ls xs inps=true):
  Ie nm g ins vs os ls xs ss inps=NF nm ins vs os g ls xs ss inps∧Ig nm g ins vs os ls xs ss inps=true:=by
 obtain⟨h1,h2,h3,h4⟩:=aeV.1 h
 obtain⟨w1,w2⟩:=FC nm g inps ins vs os ls (by omega) h4
 rw [gJ (P:=fun l=> !bitsB ins.length l) (j:=0) (fun l=>by simp only [eC,wL]),Pj]at w2
 have hlk:=(OB.1 h1).2.2.2.2.2.2
 have hbl:=ajl hlk
 have c0:lg inps nm g ins vs os ls= !inps.all (fun l=>bitsB ins.length l):=by
  simp only [lg,rj,jf,mv,w2,cj]
  cases (inps.all fun l=>bitsB ins.length l) <;> simp [Nat.beq,JJ.1,JJ.2]
 have c3:lh inps nm g ins vs os ls=true:=by
  simp only [lh,rk,jf,w1,allT,cond_true]
 have k:zB nm ins vs os g ls=true→Zq (blL ls)=true:=fun hs=>afI ls (Vt hs).2.1
 have hbl2:leN (blL ls).length 9223372036854775807=true:=em (by omega)
 refine⟨?_,?_⟩
 ·simp only [Ie,c0,NF]
  cases GF vs.length (blL ls) xs ss <;> rfl
 ·simp only [Ig,h1,c3,h2,hlk,hbl2,allT,Bool.or_true,cond_true]
  cases hs:zB nm ins vs os g ls with
  |false=>rfl
  |true=>rw [k hs];rfl
def rnO(nm:ByteArray)(ins vs os:List ByteArray)(g:ByteArray)(ls:List LN)(xs:List Int)(ss:List BS3)(inp:List Int):List Int:=bif NF nm ins vs os g ls xs ss [inp]!=0 then []else scO ins vs os g ls inp xs ss
def rnV(nm:ByteArray)(ins vs os:List ByteArray)(g:ByteArray)(ls:List LN)(xs:List Int)(ss:List BS3)(inp:List Int):List Int:=bif NF nm ins vs os g ls xs ss [inp]!=0 then []else scV ins vs os ls inp xs ss
def rnB(nm:ByteArray)(ins vs os:List ByteArray)(g:ByteArray)(ls:List LN)(xs:List Int)(ss:List BS3)(inp:List Int):List BS3:=bif NF nm ins vs os g ls xs ss [inp]!=0 then []else scB ins vs os ls inp xs ss
theorem ahL{nm:ByteArray}{ins vs os:List ByteArray}{g:ByteArray}{ls:List LN}{xs:List Int}{ss:List BS3}{inp:List Int}(h:(NF nm ins vs os g ls xs ss [inp]!=0)=false):scG nm ins vs os g ls xs ss inp=true:=by
 obtain⟨h1,h2,h3⟩:=aiO h
 exact acp.2 ⟨h1,h2,by simpa using h3⟩
theorem Zg{z:Int}(h:(z !=0)=false):z=0:=by simpa using h
theorem ahO(nm:ByteArray)(ins vs os:List ByteArray)(g:ByteArray)(ls:List LN)(xs:List Int)(ss:List BS3)(inp:List Int)(h:cdG nm ins vs os g ls xs [inp]=true):
  zC nm g ins vs os ls xs ss inp=NF nm ins vs os g ls xs ss [inp]∧KL nm g ins vs os ls xs ss inp=rnO nm ins vs os g ls xs ss inp∧
  OG nm g ins vs os ls xs ss inp=rnV nm ins vs os g ls xs ss inp∧OH nm g ins vs os ls xs ss inp=rnB nm ins vs os g ls xs ss inp∧KM nm g ins vs os ls xs ss inp=true:=by
 obtain⟨c0,c1⟩:=agF nm ins vs os g ls xs ss inp h
 simp only [zC,KL,OG,OH,KM,At,c0,c1,rnO,rnV,rnB,allT]
 cases hz:(NF nm ins vs os g ls xs ss [inp]!=0)with
 |true=>exact⟨rfl,rfl,rfl,rfl,rfl⟩
 |false=>
  obtain⟨s0,s1,s2,s3⟩:=agI nm ins vs os g ls xs ss inp (ahL hz)
  simp only [cond_false,cond_true,s0,s1,s2,s3,Bool.or_true,and_self,Zg hz]
theorem ahn(nm:ByteArray)(ins vs os:List ByteArray)(g:ByteArray)(ls:List LN)(xs:List Int)(ss:List BS3)(inp:List Int)(h:cdG nm ins vs os g ls xs [inp]=true):
  Gd nm g ins vs os ls xs ss inp=NF nm ins vs os g ls xs ss [inp]∧Ge nm g ins vs os ls xs ss inp=rnO nm ins vs os g ls xs ss inp∧
  NV nm g ins vs os ls xs ss inp=rnV nm ins vs os g ls xs ss inp∧NW nm g ins vs os ls xs ss inp=rnB nm ins vs os g ls xs ss inp∧Kn nm g ins vs os ls xs ss inp=true:=by
 obtain⟨c0,c1⟩:=af4 nm ins vs os g ls xs ss [inp] h
 simp only [Gd,Ge,NV,NW,Kn,ME,Al,c0,c1,rnO,rnV,rnB,allT]
 cases hz:(NF nm ins vs os g ls xs ss [inp]!=0)with
 |true=>exact⟨rfl,rfl,rfl,rfl,rfl⟩
 |false=>
  obtain⟨s0,s1,s2,s3⟩:=af7 nm ins vs os g ls xs ss inp (ahL hz)
  simp only [cond_false,cond_true,s0,s1,s2,s3,Bool.or_true,and_self,Zg hz]
def va(b:Int):(Unit)→Nat ⊕ (Unit)
 |_=>(bif(b !=(0:Int))then(.inl 0)else(.inr ()))
def oP(y1:Int)(y2:List Int)(i:Nat):(Unit)→lR
 |_=>((i:Int),y1,y2)
def Hx:lR→Unit
 |(_,_,_)=>()
theorem Zb(y1:Int)(y2:List Int) (hn:y2.length≤9223372036854775807):
  eI.fin ((0:Int),y1,y2)=true∧eI.res ((0:Int),y1,y2)=((aC (va) 1 y2 0 ()).1,(oP y1 y2) (aC (va) 1 y2 0 ()).2.1 (aC (va) 1 y2 0 ()).2.2):=by
 have kw:=eI.along (oP y1 y2) Hx (va) 1 (fun _ _=>True) y2 () (by trivial) (by simp only [eI,oP];omega) (fun i b a hb hI=> ?_) (fun a hI=> ?_)
 ·exact kw
 ·obtain⟨⟩:=a
  have fy:=(List.getElem?_eq_some_iff.1 hb).1
  have jx: ∀ d,Option.getD y2[i]? d=b:=fun d=>by rw [hb];rfl
  have hw:=uF fy hn
  have cM:ltI (i:Int) (y2.length:Int)=true:=gg (by omega)
  have xj:leI (0:Int) (i:Int)=true:=cW (by omega)
  have jC:ltN i y2.length=true:=iF fy
  refine⟨?_,?_,?_,?_⟩
  ·simp [vo,zD,zE,zF,zG,xO,eI,LT.nds,allT,oP,cM,xj,jC,jx]
  ·simp [vo,zD,zE,zF,zG,xO,eI,LT.each,oP,Hx,hw]
  ·simp only [vo,zD,zE,zF,zG,xO,eI,LT.fn,oP,Hx,va,Int.toNat_natCast,cM,xj,jC,jx,cond_true,Bool.cond_self]
  ·exact fun _ _=>trivial
 ·obtain⟨⟩:=a
  simp [vo,zD,zE,zF,zG,xO,eI,LT.out,oP]
def kG(y2 b:Int):(Unit)→Nat ⊕ (Unit)
 |_=>(bif(y2==b)then(.inl 0)else(.inr ()))
def eR(y2:Int)(y3:List Int)(i:Nat):(Unit)→df
 |_=>((i:Int),(↑y3.length:Int),y2,y3)
def vl:df→Unit
 |(_,_,_,_)=>()
theorem MB(y2:Int)(y3:List Int) (hn:y3.length≤9223372036854775807):
  aX.fin ((0:Int),(↑y3.length:Int),y2,y3)=true∧aX.res ((0:Int),(↑y3.length:Int),y2,y3)=((aC (kG y2) 1 y3 0 ()).1,(eR y2 y3) (aC (kG y2) 1 y3 0 ()).2.1 (aC (kG y2) 1 y3 0 ()).2.2):=by
 have kw:=aX.along (eR y2 y3) vl (kG y2) 1 (fun _ _=>True) y3 () (by trivial) (by simp only [aX,eR];omega) (fun i b a hb hI=> ?_) (fun a hI=> ?_)
 ·exact kw
 ·obtain⟨⟩:=a
  have fy:=(List.getElem?_eq_some_iff.1 hb).1
  have jx: ∀ d,Option.getD y3[i]? d=b:=fun d=>by rw [hb];rfl
  have hw:=uF fy hn
  have cM:ltI (i:Int) (y3.length:Int)=true:=gg (by omega)
  have xj:leI (0:Int) (i:Int)=true:=cW (by omega)
  have jC:ltN i y3.length=true:=iF fy
  refine⟨?_,?_,?_,?_⟩
  ·simp [nI,nJ,nK,nL,nM,nN,nf,aX,LT.nds,allT,eR,cM,xj,jC,jx]
  ·simp [nI,nJ,nK,nL,nM,nN,nf,aX,LT.each,eR,vl,hw]
  ·simp only [nI,nJ,nK,nL,nM,nN,nf,aX,LT.fn,eR,vl,kG,Int.toNat_natCast,cM,xj,jC,jx,cond_true,Bool.cond_self]
  ·exact fun _ _=>trivial
 ·obtain⟨⟩:=a
  simp [nI,nJ,nK,nL,nM,nN,nf,aX,LT.out,eR]
def sfB(nm:ByteArray)(ins vs os:List ByteArray)(g:ByteArray)(ls:List LN)(xs:List Int)(ss:List BS3)(inp:List Int):Bool:=NF nm ins vs os g ls xs ss [inp]==0&&(rnO nm ins vs os g ls xs ss inp).all fun z=>z==0
theorem agw(nm:ByteArray)(ins vs os:List ByteArray)(g:ByteArray)(ls:List LN)(xs:List Int)(ss:List BS3)(inp:List Int):
  (∀ z∈rnO nm ins vs os g ls xs ss inp,z=0∨z=1)∧(rnO nm ins vs os g ls xs ss inp).length≤20:=by
 simp only [rnO]
 cases hz:(NF nm ins vs os g ls xs ss [inp]!=0)with
 |true=>exact⟨fun z hz=>(List.not_mem_nil hz).elim,by simp⟩
 |false=>
  obtain⟨h1,h2,h3⟩:=acp.1 (ahL hz)
  have hS:=ahK h1 h3
  obtain⟨b1,b2⟩:=iw.1 (aj3 (os:=os) (g:=g) h3 hS.hL h2).2
  have:=hS.h3
  exact⟨b1,by simp only [cond_false];omega⟩
theorem afE{l:List Int}(h: ∀ z∈l,z=0∨z=1):(l.any fun z=>z !=0)= !l.all (fun z=>z==0)∧(l.any fun z=>1==z)= !l.all fun z=>z==0:=by
 induction l with
 |nil=>exact⟨rfl,rfl⟩
 |cons a r ih=>
  obtain⟨i1,i2⟩:=ih (fun z hz=>h z (by simp [hz]))
  simp only [List.any_cons,List.all_cons,i1,i2]
  rcases h a (by simp)with rfl | rfl <;> simp
theorem agH(nm:ByteArray)(ins vs os:List ByteArray)(g:ByteArray)(ls:List LN)(xs:List Int)(ss:List BS3)(inp:List Int)(h:cdG nm ins vs os g ls xs [inp]=true):
  MY nm g ins vs os ls xs ss inp=sfB nm ins vs os g ls xs ss inp∧MZ nm g ins vs os ls xs ss inp=NF nm ins vs os g ls xs ss [inp]∧Na nm g ins vs os ls xs ss inp=true:=by
 obtain⟨c0,c1,_,_,c4⟩:=ahO nm ins vs os g ls xs ss inp h
 obtain⟨b1,b2⟩:=agw nm ins vs os g ls xs ss inp
 obtain⟨w1,w2⟩:=Zb (NF nm ins vs os g ls xs ss [inp]) (rnO nm ins vs os g ls xs ss inp) (by omega)
 rw [gJ (P:=fun z=>z !=0) (j:=0) (fun l=>by simp only [va]),(afE b1).1]at w2
 simp only [MY,MZ,Na,LP,LQ,c0,c1,c4,w1,w2,oP,sfB,allT,Bool.cond_self,cond_true,and_true]
 cases (rnO nm ins vs os g ls xs ss inp).all (fun z=>z==0) <;> simp [Nat.beq]
theorem af6(nm:ByteArray)(ins vs os:List ByteArray)(g:ByteArray)(ls:List LN)(xs:List Int)(ss:List BS3)(inp:List Int)(h:cdG nm ins vs os g ls xs [inp]=true):
  MF nm g ins vs os ls xs ss inp=sfB nm ins vs os g ls xs ss inp∧MG nm g ins vs os ls xs ss inp=NF nm ins vs os g ls xs ss [inp]∧MH nm g ins vs os ls xs ss inp=true:=by
 obtain⟨c0,c1,_,_,c4⟩:=ahn nm ins vs os g ls xs ss inp h
 obtain⟨b1,b2⟩:=agw nm ins vs os g ls xs ss inp
 obtain⟨w1,w2⟩:=MB 1 (rnO nm ins vs os g ls xs ss inp) (by omega)
 rw [gJ (P:=fun z=>1==z) (j:=0) (fun l=>by simp only [kG]),(afE b1).2]at w2
 have k0:rA 1 (rnO nm ins vs os g ls xs ss inp)= !(rnO nm ins vs os g ls xs ss inp).all (fun z=>z==0):=by
  simp only [rA,zy,pv,w2,eR]
  cases (rnO nm ins vs os g ls xs ss inp).all (fun z=>z==0) <;> simp [Nat.beq,JJ.1,JJ.2]
 have k1:rB 1 (rnO nm ins vs os g ls xs ss inp)=true:=by
  simp only [rB,zA,pv,w1,allT,cond_true]
 simp only [MF,MG,MH,GI,c0,c1,c4,k0,k1,sfB,allT,Bool.or_true,cond_true,and_true]
 cases hz:(NF nm ins vs os g ls xs ss [inp]!=0)with
 |true=>
  have:(NF nm ins vs os g ls xs ss [inp]==0)=false:=by simpa using hz
  rw [this];exact⟨rfl,rfl⟩
 |false=>
  rw [Zg hz];exact⟨by simp,rfl⟩
def Ss:List SV→List Entry→Option Out
 | [.one ⟨true,[.val (.string x0),.ref 0,.ref 1,.ref 2,.val (.string x1),.ref 3]⟩,.one ⟨true,[.ref 4,.ref 5]⟩,.one ⟨false,[.ref 6]⟩],[.row false 9 (.str) x2,.row false 9 (.str) x3,.row false 9 (.str) x4,.row false 204 (.pair (.str) (.sl 178 (.pair (.int .i64) (.pair (.str) (.int .i64))))) x5,.row false 2 (.int .i64) x6,.row false 172 (.pair (.int .i64) (.pair (.int .i64) (.int .i64))) x7,.row false 2 (.int .i64) x8]=>some ⟨.tup [⟨false,[.val (.bool (sfB x0 x2 x3 x4 x1 x5 x6 x7 x8))]⟩,⟨false,[.val (.int .i64 (NF x0 x2 x3 x4 x1 x5 x6 x7 [x8]))]⟩],[.row false 9 aen x2,.row false 9 aen x3,.row false 9 aen x4,.row false 204 (CTy.pair CTy.str (CTy.sl (178:TypeId) abW)) x5,.row false 2 acT x6,.row false 172 aaH x7,.row false 2 acT x8],[],[cdG x0 x2 x3 x4 x1 x5 x6 [x8]]⟩
 |_,_=>none
def MR:PF prog:=PF.alt ab8 Ss (by
 intro args es o h dh;unfold Ss at h;split at h
 ·rename_i x0 x1 x2 x3 x4 x5 x6 x7 x8
  cases h
  have dh:=qA dh
  have hh:=agH x0 x2 x3 x4 x1 x5 x6 x7 x8 dh
  obtain⟨e0,e1,en⟩:=hh
  exact vG rfl (qB en) (by simp only [e0,e1] <;> rfl) rfl rfl
 ·cases h)
def Sm:List SV→List Entry→Option Out
 | [.one ⟨true,[.val (.string x0),.ref 0,.ref 1,.ref 2,.val (.string x1),.ref 3]⟩,.one ⟨true,[.ref 4,.ref 5]⟩,.one ⟨false,[.ref 6]⟩],[.row false 9 (.str) x2,.row false 9 (.str) x3,.row false 9 (.str) x4,.row false 204 (.pair (.str) (.sl 178 (.pair (.int .i64) (.pair (.str) (.int .i64))))) x5,.row false 2 (.int .i64) x6,.row false 172 (.pair (.int .i64) (.pair (.int .i64) (.int .i64))) x7,.row false 2 (.int .i64) x8]=>some ⟨.tup [⟨false,[.val (.bool (sfB x0 x2 x3 x4 x1 x5 x6 x7 x8))]⟩,⟨false,[.val (.int .i64 (NF x0 x2 x3 x4 x1 x5 x6 x7 [x8]))]⟩],[.row false 9 aen x2,.row false 9 aen x3,.row false 9 aen x4,.row false 204 (CTy.pair CTy.str (CTy.sl (178:TypeId) abW)) x5,.row false 2 acT x6,.row false 172 aaH x7,.row false 2 acT x8],[],[cdG x0 x2 x3 x4 x1 x5 x6 [x8]]⟩
 |_,_=>none
def MO:PF prog:=PF.alt ab1 Sm (by
 intro args es o h dh;unfold Sm at h;split at h
 ·rename_i x0 x1 x2 x3 x4 x5 x6 x7 x8
  cases h
  have dh:=qA dh
  have hh:=af6 x0 x2 x3 x4 x1 x5 x6 x7 x8 dh
  obtain⟨e0,e1,en⟩:=hh
  exact vG rfl (qB en) (by simp only [e0,e1] <;> rfl) rfl rfl
 ·cases h)
def uB(x0:Int)(x1:List Int)(x2:List (Int×Int×Int)):Int:=bif ltI (szV x0 x1) (0:Int)then(-1:Int)else bif ltI (szL (szV x0 x1) x2.length) (0:Int)then(-1:Int)else szL (szV x0 x1) x2.length
def Ip(x0:Int)(x1:List Int)(x2:List (Int×Int×Int)):Bool:=allT [leN x1.length (9223372036854775807:Nat)&&(leI (-1:Int) x0&&leI x0 (1048576:Int)),ltI (szV x0 x1) (0:Int)||leN x2.length (9223372036854775807:Nat)&&(leI (-1:Int) (szV x0 x1)&&leI (szV x0 x1) (1048576:Int))]
def Sa:List SV→List Entry→Option Out
 | [.one ⟨true,[.ref 0,.ref 1]⟩,.one ⟨false,[.val (.int .i64 x0)]⟩],[.row false 2 (.int .i64) x1,.row false 194 (.pair (.int .i64) (.pair (.int .i64) (.int .i64))) x2]=>some ⟨.one ⟨false,[.val (.int .i64 (uB x0 x1 x2))]⟩,[.row false 2 acT x1,.row false 194 aaH x2],[],[Ip x0 x1 x2]⟩
 |_,_=>none
def MU:PF prog:=PF.ofG prog [Gl,PF.lend Gl,PF.fz Gl,MQ,PF.lend MQ,PF.fz MQ] [] aP 26 f26 func26 (fun c _=>LOk.nil c) Sa (by
 intro vs es r h;unfold Sa at h;split at h
 ·cases h;kernel_rfl
 ·cases h)
def Em(x0:List Int)(x1:List (Int×Int×Int)):Bool:=allT [leN x0.length (1048576:Nat),leN x1.length (1048576:Nat)]
def Sc:List SV→List Entry→Option Out
 | [.one ⟨true,[.ref 0,.ref 1]⟩],[.row false 2 (.int .i64) x0,.row false 194 (.pair (.int .i64) (.pair (.int .i64) (.int .i64))) x1]=>some ⟨.one ⟨true,[.ref 2,.ref 3]⟩,[.row false 2 acT x0,.row false 194 aaH x1],[.row true 2 acT x0,.row true 172 aaH x1],[Em x0 x1]⟩
 |_,_=>none
def MV:PF prog:=PF.ofG prog [Gm,PF.lend Gm,PF.fz Gm,Aq,PF.lend Aq,PF.fz Aq] [] aP 28 f28 func28 (fun c _=>LOk.nil c) Sc (by
 intro vs es r h;unfold Sc at h;split at h
 ·cases h;kernel_rfl
 ·cases h)
def Am(x0:List Int)(x1:List (Int×Int×Int))(x2:List Int)(x3:List (Int×Int×Int)):Bool:=bif !eqL x0 x2 then false else bif !ais x1 x3 then false else true
def Ik(x0:List Int)(x1:List (Int×Int×Int))(x2:List Int):Bool:=allT [leN x0.length (9223372036854775807:Nat),!eqL x0 x2||leN x1.length (9223372036854775807:Nat)]
def RY:List SV→List Entry→Option Out
 | [.one ⟨true,[.ref 0,.ref 1]⟩,.one ⟨true,[.ref 2,.ref 3]⟩],[.row false 2 (.int .i64) x0,.row false 172 (.pair (.int .i64) (.pair (.int .i64) (.int .i64))) x1,.row false 2 (.int .i64) x2,.row false 172 (.pair (.int .i64) (.pair (.int .i64) (.int .i64))) x3]=>some ⟨.one ⟨false,[.val (.bool (Am x0 x1 x2 x3))]⟩,[.row false 2 acT x0,.row false 172 aaH x1,.row false 2 acT x2,.row false 172 aaH x3],[],[Ik x0 x1 x2]⟩
 |_,_=>none
def MT:PF prog:=PF.ofG prog [Gk,PF.lend Gk,PF.fz Gk,Ap,PF.lend Ap,PF.fz Ap] [] aP 32 f32 func32 (fun c _=>LOk.nil c) RY (by
 intro vs es r h;unfold RY at h;split at h
 ·cases h;kernel_rfl
 ·cases h)
theorem agK{k:Int}{xs:List Int}{ss:List BS3}(hx:xs.length≤9223372036854775807)(hs:ss.length≤9223372036854775807)(h0: -1≤k)(hk:k≤1048576):
  Ip k xs ss=true∧(ltI (uB k xs ss) 0=false→(0≤uB k xs ss∧uB k xs ss≤k)∧(xs.length:Int) + ss.length + uB k xs ss=k):=by
 have t1:leN xs.length 9223372036854775807=true:=em hx
 have t2:leN ss.length 9223372036854775807=true:=em hs
 have t3:leI (-1) k=true:=cW h0
 have t4:leI k 1048576=true:=cW hk
 have e:szV k xs=szL k xs.length:=rfl
 simp only [uB,Ip,t1,t2,t3,t4,e,allT]
 cases h1:ltI (szL k xs.length) 0 with
 |true=>exact⟨rfl,fun h=>absurd (show ltI (-1) 0=false from h) (by decide)⟩
 |false=>
  obtain⟨q1,q2⟩:=aeI h1
  have u3:leI (-1) (szL k xs.length)=true:=cW (by omega)
  have u4:leI (szL k xs.length) 1048576=true:=cW (by omega)
  refine⟨by rw [u3,u4];rfl,fun h=> ?_⟩
  simp only [cond_false]at h ⊢
  cases h2:ltI (szL (szL k xs.length) ss.length) 0 with
  |true=>rw [h2]at h;exact absurd (show ltI (-1) 0=false from h) (by decide)
  |false=>
   obtain⟨r1,r2⟩:=aeI h2
   simp only [cond_false]
   omega
section
variable (x0 x1:ByteArray)(x2 x3 x4:List ByteArray)(x5:List (ByteArray×List (Int×ByteArray×Int)))(x6:List Int)(x7:List (Int×Int×Int))(x8:List Int)
def bB:Bool:=ltI (gV x0 x1 (1048576:Int) x2 x3 x4 x5) (0:Int)
def bW:Bool:=ltI (uB (gV x0 x1 (1048576:Int) x2 x3 x4 x5) x6 x7) (0:Int)
def mP:Int:=NF x0 x2 x3 x4 x1 (oG x5) x6 x7 [x8]
def dA:Bool:=bif !sfB x0 x2 x3 x4 x1 (oG x5) x6 x7 x8==sfB x0 x2 x3 x4 x1 (oG x5) x6 x7 x8 then true else mP x0 x1 x2 x3 x4 x5 x6 x7 x8 !=mP x0 x1 x2 x3 x4 x5 x6 x7 x8
def gI:Bool:= !GM x0 x1 x0 x1 x2 x3 x4 (oG x5) x2 x3 x4 (oG x5)
def mQ:Bool:=ltI (1048576:Int) (↑x8.length:Int)||(bB x0 x1 x2 x3 x4 x5||(bW x0 x1 x2 x3 x4 x5 x6 x7||CR x2 x3 x4 x5))
def mR:Bool:=ltI (1048576:Int) (↑x8.length:Int)||(bB x0 x1 x2 x3 x4 x5||(bW x0 x1 x2 x3 x4 x5 x6 x7||Em x6 x7))
def mS:Bool:=ltI (1048576:Int) (↑x8.length:Int)||(bB x0 x1 x2 x3 x4 x5||(bW x0 x1 x2 x3 x4 x5 x6 x7||leN x8.length (1048576:Nat)))
def mT:Bool:=ltI (1048576:Int) (↑x8.length:Int)||(bB x0 x1 x2 x3 x4 x5||(bW x0 x1 x2 x3 x4 x5 x6 x7||cdG x0 x2 x3 x4 x1 (oG x5) x6 [x8]))
def qx:Bool:=bif ltI (1048576:Int) (↑x8.length:Int)then true else bif bB x0 x1 x2 x3 x4 x5 then true else bif bW x0 x1 x2 x3 x4 x5 x6 x7 then true else bif dA x0 x1 x2 x3 x4 x5 x6 x7 x8 then false else bif gI x0 x1 x2 x3 x4 x5 then false else bif !Am x6 x7 x6 x7 then false else bif !eqL x8 x8 then false else true
def qy:Bool:=allT [ltI (1048576:Int) (↑x8.length:Int)||qz x0 x1 (1048576:Int) x2 x3 x4 x5,ltI (1048576:Int) (↑x8.length:Int)||(bB x0 x1 x2 x3 x4 x5||Ip (gV x0 x1 (1048576:Int) x2 x3 x4 x5) x6 x7),mQ x0 x1 x2 x3 x4 x5 x6 x7 x8,mR x0 x1 x2 x3 x4 x5 x6 x7 x8,mS x0 x1 x2 x3 x4 x5 x6 x7 x8,mT x0 x1 x2 x3 x4 x5 x6 x7 x8,mQ x0 x1 x2 x3 x4 x5 x6 x7 x8,mR x0 x1 x2 x3 x4 x5 x6 x7 x8,mS x0 x1 x2 x3 x4 x5 x6 x7 x8,mT x0 x1 x2 x3 x4 x5 x6 x7 x8,ltI (1048576:Int) (↑x8.length:Int)||(bB x0 x1 x2 x3 x4 x5||(bW x0 x1 x2 x3 x4 x5 x6 x7||(dA x0 x1 x2 x3 x4 x5 x6 x7 x8||CR x2 x3 x4 x5))),ltI (1048576:Int) (↑x8.length:Int)||(bB x0 x1 x2 x3 x4 x5||(bW x0 x1 x2 x3 x4 x5 x6 x7||(dA x0 x1 x2 x3 x4 x5 x6 x7 x8||GN x0 x1 x0 x1 x2 x3 x4 (oG x5) x2 x3 x4 (oG x5)))),ltI (1048576:Int) (↑x8.length:Int)||(bB x0 x1 x2 x3 x4 x5||(bW x0 x1 x2 x3 x4 x5 x6 x7||(dA x0 x1 x2 x3 x4 x5 x6 x7 x8||(gI x0 x1 x2 x3 x4 x5||Em x6 x7)))),ltI (1048576:Int) (↑x8.length:Int)||(bB x0 x1 x2 x3 x4 x5||(bW x0 x1 x2 x3 x4 x5 x6 x7||(dA x0 x1 x2 x3 x4 x5 x6 x7 x8||(gI x0 x1 x2 x3 x4 x5||Ik x6 x7 x6)))),ltI (1048576:Int) (↑x8.length:Int)||(bB x0 x1 x2 x3 x4 x5||(bW x0 x1 x2 x3 x4 x5 x6 x7||(dA x0 x1 x2 x3 x4 x5 x6 x7 x8||(gI x0 x1 x2 x3 x4 x5||(!Am x6 x7 x6 x7||leN x8.length (1048576:Nat)))))),ltI (1048576:Int) (↑x8.length:Int)||(bB x0 x1 x2 x3 x4 x5||(bW x0 x1 x2 x3 x4 x5 x6 x7||(dA x0 x1 x2 x3 x4 x5 x6 x7 x8||(gI x0 x1 x2 x3 x4 x5||(!Am x6 x7 x6 x7||leN x8.length (9223372036854775807:Nat))))))]
end
def Ke:List SV→List Entry→Option Out
 | [.one ⟨true,[.val (.string x0),.ref 0,.ref 1,.ref 2,.val (.string x1),.ref 3]⟩,.one ⟨true,[.ref 4,.ref 5]⟩,.one ⟨false,[.ref 6]⟩],[.row false 9 (.str) x2,.row false 9 (.str) x3,.row false 9 (.str) x4,.row false 225 (.pair (.str) (.sl 175 (.pair (.int .i64) (.pair (.str) (.int .i64))))) x5,.row false 2 (.int .i64) x6,.row false 194 (.pair (.int .i64) (.pair (.int .i64) (.int .i64))) x7,.row false 2 (.int .i64) x8]=>some ⟨.one ⟨false,[.val (.bool (qx x0 x1 x2 x3 x4 x5 x6 x7 x8))]⟩,[.row false 9 aen x2,.row false 9 aen x3,.row false 9 aen x4,.row false 225 (CTy.pair CTy.str (CTy.sl (175:TypeId) abW)) x5,.row false 2 acT x6,.row false 194 aaH x7,.row false 2 acT x8],[],[qy x0 x1 x2 x3 x4 x5 x6 x7 x8]⟩
 |_,_=>none
def RJ:PF prog:=PF.ofG prog [PF.trees prog,MU,PF.lend MU,PF.fz MU,MV,PF.lend MV,PF.fz MV,Aq,PF.lend Aq,PF.fz Aq,Ap,PF.lend Ap,PF.fz Ap,MT,PF.lend MT,PF.fz MT,MO,PF.lend MO,PF.fz MO,MR,PF.lend MR,PF.fz MR,LH,PF.lend LH,PF.fz LH,LI,PF.lend LI,PF.fz LI,LG,PF.lend LG,PF.fz LG] [] aP 8 f8 func8 (fun c _=>LOk.nil c) Ke (by
 intro vs es r h;unfold Ke at h;split at h
 ·cases h;kernel_rfl
 ·cases h)
theorem aff(x0:ByteArray)(x2 x3 x4:List ByteArray)(x1:ByteArray)(x5:List LN)(x6:List Int)(x7:List BS3)(x8:List Int)
  (w0:wfD .str x0) (w2:wfD (.sl 9 .str) x2) (w3:wfD (.sl 9 .str) x3) (w4:wfD (.sl 9 .str) x4) (w1:wfD .str x1) (w5:wfD (.sl 225 (.pair (.str) (.sl 175 (.pair (.int .i64) (.pair (.str) (.int .i64)))))) x5) (w6:wfD (.sl 2 (.int .i64)) x6) (w7:wfD (.sl 194 (.pair (.int .i64) (.pair (.int .i64) (.int .i64)))) x7) (w8:wfD (.sl 2 (.int .i64)) x8):
  qx x0 x1 x2 x3 x4 x5 x6 x7 x8=true∧qy x0 x1 x2 x3 x4 x5 x6 x7 x8=true:=by
 have l6:x6.length≤9223372036854775807:=w6.1
 have l7:x7.length≤9223372036854775807:=w7.1
 have l8:x8.length≤9223372036854775807:=w8.1
 have hP:PrSz x0 x2 x3 x4 x1 x5:=⟨w0,w2.1,w2.2,w3.1,w3.2,w4.1,w4.2,w1,w5.1,fun l hl=>⟨(w5.2 l hl).1,(w5.2 l hl).2.1,fun t ht=>((w5.2 l hl).2.2 t ht).2.1⟩⟩
 cases h10:ltI 1048576 (x8.length:Int)with
 |true=>simp [qx,qy,bB,bW,mP,dA,gI,mQ,mR,mS,mT,h10,allT]
 |false=>
  have h10':x8.length≤1048576:=by
   rcases Nat.lt_or_ge 1048576 x8.length with h | h
   ·rw [gg (by omega)]at h10;cases h10
   ·exact h
  have t10:ltI 1048576 (x8.length:Int)=false:=h10
  obtain⟨s1,s2⟩:=ahT hP
  cases h1:ltI (gV x0 x1 1048576 x2 x3 x4 x5) 0 with
  |true=>simp [qx,qy,bB,bW,mP,dA,gI,mQ,mR,mS,mT,h1,h10,s1,allT]
  |false=>
   have hF:=s2 h1
   have hsum:=hF.sum
   have hzz:=hF.zz
   obtain⟨u1,u2⟩:=agK (k:=gV x0 x1 1048576 x2 x3 x4 x5) l6 l7 (by omega) hzz.2
   cases h2:ltI (uB (gV x0 x1 1048576 x2 x3 x4 x5) x6 x7) 0 with
   |true=>simp [qx,qy,bB,bW,mP,dA,gI,mQ,mR,mS,mT,h1,h2,h10,s1,u1,allT]
   |false=>
    have hM:=u2 h2
    have r0:=h1
    have r1:=h2
    have k6:leN x6.length 1048576=true:=em (by omega)
    have k7:leN x7.length 1048576=true:=em (by omega)
    have k8:leN x8.length 1048576=true:=em (by omega)
    have m8:leN x8.length 9223372036854775807=true:=em l8
    obtain⟨p1,p2,p3⟩:=ajY hF hP
    obtain⟨e1,e2⟩:=aiK hP
    have hG:cdG x0 x2 x3 x4 x1 x5 x6 [x8]=true:=aeV.2 ⟨hF.pr,em l6,by simp,fun l hl=>by rw [List.mem_singleton.1 hl];exact m8⟩
    have f7:eqL x8 x8=true:=acK x8
    have f8:Em x6 x7=true:=by simp only [Em,k6,k7,allT,cond_true]
    have f9:eqL x6 x6=true:=acK x6
    have q1:Am x6 x7 x6 x7=true:=by simp [Am,acK,ait]
    have q2:Ik x6 x7 x6=true:=by simp [Ik,em l6,em l7,allT]
    have r_a0:=Eq.refl (bB x0 x1 x2 x3 x4 x5)
    conv at r_a0=>rhs;simp only [bB,S0z,allT,t10,r0,r1,s1,u1,p1,p2,p3,e1,e2,q1,q2,k6,k7,k8,m8,hG,f7,f8,f9]
    have r_a1:=Eq.refl (bW x0 x1 x2 x3 x4 x5 x6 x7)
    conv at r_a1=>rhs;simp only [bW,S0z,allT,t10,r0,r1,s1,u1,p1,p2,p3,e1,e2,q1,q2,k6,k7,k8,m8,hG,f7,f8,f9,r_a0]
    have r_a2:=Eq.refl (mP x0 x1 x2 x3 x4 x5 x6 x7 x8)
    conv at r_a2=>rhs;simp only [mP,S0z,allT,t10,r0,r1,s1,u1,p1,p2,p3,e1,e2,q1,q2,k6,k7,k8,m8,hG,f7,f8,f9,r_a0,r_a1]
    have r_a3:=Eq.refl (dA x0 x1 x2 x3 x4 x5 x6 x7 x8)
    conv at r_a3=>rhs;simp only [dA,S0z,allT,t10,r0,r1,s1,u1,p1,p2,p3,e1,e2,q1,q2,k6,k7,k8,m8,hG,f7,f8,f9,r_a0,r_a1,r_a2]
    have r_a4:=Eq.refl (gI x0 x1 x2 x3 x4 x5)
    conv at r_a4=>rhs;simp only [gI,S0z,allT,t10,r0,r1,s1,u1,p1,p2,p3,e1,e2,q1,q2,k6,k7,k8,m8,hG,f7,f8,f9,r_a0,r_a1,r_a2,r_a3]
    have r_a5:=Eq.refl (mQ x0 x1 x2 x3 x4 x5 x6 x7 x8)
    conv at r_a5=>rhs;simp only [mQ,S0z,allT,t10,r0,r1,s1,u1,p1,p2,p3,e1,e2,q1,q2,k6,k7,k8,m8,hG,f7,f8,f9,r_a0,r_a1,r_a2,r_a3,r_a4]
    have r_a6:=Eq.refl (mR x0 x1 x2 x3 x4 x5 x6 x7 x8)
    conv at r_a6=>rhs;simp only [mR,S0z,allT,t10,r0,r1,s1,u1,p1,p2,p3,e1,e2,q1,q2,k6,k7,k8,m8,hG,f7,f8,f9,r_a0,r_a1,r_a2,r_a3,r_a4,r_a5]
    have r_a7:=Eq.refl (mS x0 x1 x2 x3 x4 x5 x6 x7 x8)
    conv at r_a7=>rhs;simp only [mS,S0z,allT,t10,r0,r1,s1,u1,p1,p2,p3,e1,e2,q1,q2,k6,k7,k8,m8,hG,f7,f8,f9,r_a0,r_a1,r_a2,r_a3,r_a4,r_a5,r_a6]
    have r_a8:=Eq.refl (mT x0 x1 x2 x3 x4 x5 x6 x7 x8)
    conv at r_a8=>rhs;simp only [mT,S0z,allT,t10,r0,r1,s1,u1,p1,p2,p3,e1,e2,q1,q2,k6,k7,k8,m8,hG,f7,f8,f9,r_a0,r_a1,r_a2,r_a3,r_a4,r_a5,r_a6,r_a7]
    refine⟨?_,?_⟩ <;> simp only [qx,qy,S0z,allT,t10,r0,r1,s1,u1,p1,p2,p3,e1,e2,q1,q2,k6,k7,k8,m8,hG,f7,f8,f9,r_a0,r_a1,r_a2,r_a3,r_a4,r_a5,r_a6,r_a7,r_a8]
end Go.SX
