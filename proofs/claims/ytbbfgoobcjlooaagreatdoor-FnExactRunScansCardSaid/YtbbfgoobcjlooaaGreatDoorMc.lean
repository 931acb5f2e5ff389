/- What functions of the program come to, and what that says in plain words: part 3. -/
import Derived.Test.YtbbfgoobcjlooaaGreatDoorMb
import Derived.Test.YtbbfgoobcjlooaaGreatDoorTXh
import Derived.Test.YtbbfgoobcjlooaaGreatDoorProg
set_option linter.unusedSimpArgs false
set_option linter.unusedVariables false
namespace Go.SX
open Go.Proofs Go.Proofs.Tryz
set_option maxRecDepth 100000
def Qc(x0:List Int)(x1:List (Int×Int×Int)):Bool:=allT [leN x0.length (1048576:Nat),leN ((0:Nat) + List.length x1) (9223372036854775807:Nat),leN (((0:Nat) + List.length x1) * (24:Nat)) (140737488355328:Nat)]
def abG:List SV→List Entry→Option Out
 | [.one ⟨true,[.ref 0,.ref 1]⟩],[.row false 2 (.int .i64) x0,.row false 172 (.pair (.int .i64) (.pair (.int .i64) (.int .i64))) x1]=>some ⟨.one ⟨true,[.ref 2,.ref 3]⟩,[.row false 2 agJ x0,.row false 172 aal x1],[.row true 2 agJ x0,.row true 172 aal x1],[Qc x0 x1]⟩
 |_,_=>none
def xy:PF prog:=PF.ofG prog [mG,PF.lend mG,PF.fz mG] [] aP 179 f179 func179 (fun c _=>LOk.nil c) abG (by
 intro vs es r h;unfold abG at h;split at h
 ·cases h;kernel_rfl
 ·cases h)
def rn(x2:ByteArray)(x3 x4:List ByteArray)(x7 x9:List Int):Int:=bif leI (0:Int) (iF x3 x2)then Option.getD x9[Int.toNat (iF x3 x2)]? (0:Int)else Option.getD x7[Int.toNat (iF x4 x2)]? (0:Int)
def ro(x2:ByteArray)(x3 x4:List ByteArray)(x7 x9:List Int):Bool:=allT [leN x3.length (9223372036854775807:Nat),!leI (0:Int) (iF x3 x2)||leI (0:Int) (iF x3 x2),!leI (0:Int) (iF x3 x2)||ltI (iF x3 x2) (↑x9.length:Int),!leI (0:Int) (iF x3 x2)||ltN (Int.toNat (iF x3 x2)) x9.length,leI (0:Int) (iF x3 x2)||leN x4.length (9223372036854775807:Nat),leI (0:Int) (iF x3 x2)||leI (0:Int) (iF x4 x2),leI (0:Int) (iF x3 x2)||ltI (iF x4 x2) (↑x7.length:Int),leI (0:Int) (iF x3 x2)||ltN (Int.toNat (iF x4 x2)) x7.length]
def WO:List SV→List Entry→Option Out
 | [.one ⟨true,[.val (.string _x0),.ref 0,.ref 1,.ref 2,.val (.string _x1),.ref 3]⟩,.one ⟨true,[.ref 4,.ref 5]⟩,.one ⟨false,[.ref 6]⟩,.one ⟨false,[.val (.string x2)]⟩],[.row false 9 (.str) x3,.row false 9 (.str) x4,.row false 9 (.str) x5,.row false 204 (.pair (.str) (.sl 178 (.pair (.int .i64) (.pair (.str) (.int .i64))))) x6,.row false 2 (.int .i64) x7,.row false 172 (.pair (.int .i64) (.pair (.int .i64) (.int .i64))) x8,.row false 2 (.int .i64) x9]=>some ⟨.one ⟨false,[.val (.int .i64 (rn x2 x3 x4 x7 x9))]⟩,[.row false 9 ahF x3,.row false 9 ahF x4,.row false 9 ahF x5,.row false 204 (CTy.pair CTy.str (CTy.sl (178:TypeId) afk)) x6,.row false 2 agJ x7,.row false 172 aal x8,.row false 2 agJ x9],[],[ro x2 x3 x4 x7 x9]⟩
 |_,_=>none
def dx:PF prog:=PF.ofG prog [bS,PF.lend bS,PF.fz bS] [] aP 181 f181 func181 (fun c _=>LOk.nil c) WO (by
 intro vs es r h;unfold WO at h;split at h
 ·cases h;kernel_rfl
 ·cases h)
abbrev su:=Int×Int×List (Int×(ByteArray×Int))×List Int×ByteArray×ByteArray×List Int×List ByteArray×List ByteArray×List ByteArray×List (ByteArray×(List (Int×(ByteArray×Int))))×List Int×List (Int×(Int×Int))
section
variable (y0 y1:Int)(y2:List (Int×(ByteArray×Int)))(y3 y6:List Int)(y7 y8:List ByteArray)(y11:List Int)(y12:List (Int×(Int×Int)))
def dU:Int×ByteArray×Int:=Option.getD y2[Int.toNat y0]? ((0:Int),ByteArray.empty,(0:Int))
def Hf:Int:=IntKind.wrap .i64 ((↑y3.length:Int) - lY ((dU y0 y2).1))
def iv:List Int:=List.drop (Int.toNat (Hf y0 y2 y3)) (List.take (Int.toNat (↑y3.length:Int)) y3)
def Hg:List Int:=List.drop (Int.toNat (0:Int)) (List.take (Int.toNat (Hf y0 y2 y3)) y3)
def aS:Bool:=(dU y0 y2).1==(1:Int)
def bN:Bool:=(dU y0 y2).1==(2:Int)
def bO:Bool:=(dU y0 y2).1==(3:Int)
def bP:Bool:=(dU y0 y2).1==(4:Int)
def MV:Bool:=ltI (0:Int) (↑(List.length (iv y0 y2 y3)):Int)
def MW:Bool:=ltN (Int.toNat (0:Int)) (List.length (iv y0 y2 y3))
def cq:Bool:=(dU y0 y2).1==(5:Int)
def Rl:Bool:=ltI (1:Int) (↑(List.length (iv y0 y2 y3)):Int)
def Rm:Bool:=ltN (Int.toNat (1:Int)) (List.length (iv y0 y2 y3))
def gB:Bool:=(dU y0 y2).1==(6:Int)
def Lm:Int:=Option.getD (iv y0 y2 y3)[Int.toNat (0:Int)]? (0:Int)
def lE:Int×Int×Int:=Option.getD y12[Int.toNat y1]? ((0:Int),(0:Int),(0:Int))
def Ln:List Int:= [bif aS y0 y2 then rn (((dU y0 y2).2).1) y7 y8 y11 y6 else bif bN y0 y2 then(1:Int)else bif bO y0 y2 then(0:Int)else bif bP y0 y2 then IntKind.wrap .i64 ((1:Int) - Lm y0 y2 y3)else bif cq y0 y2 then IntKind.wrap .i64 (↑(BitVec.toNat (BitVec.ofInt (IntKind.bits IntKind.i64) (Lm y0 y2 y3)&&& BitVec.ofInt (IntKind.bits IntKind.i64) (Option.getD (iv y0 y2 y3)[Int.toNat (1:Int)]? (0:Int)))):Int)else bif gB y0 y2 then IntKind.wrap .i64 (↑(BitVec.toNat (BitVec.ofInt (IntKind.bits IntKind.i64) (Lm y0 y2 y3)||| BitVec.ofInt (IntKind.bits IntKind.i64) (Option.getD (iv y0 y2 y3)[Int.toNat (1:Int)]? (0:Int)))):Int)else gy ((dU y0 y2).1) ((dU y0 y2).2.2) ((lE y1 y12).1) (((lE y1 y12).2).1) ((lE y1 y12).2.2) (iv y0 y2 y3)]
def Tx:Bool:=ltI y0 (↑y2.length:Int)
def aeN:Bool:=leI (0:Int) y0
def aeO:Bool:=ltN y0.toNat y2.length
def Ty:Bool:=leI (0:Int) (Hf y0 y2 y3)
def Tz:Bool:=leI (Hf y0 y2 y3) (↑y3.length:Int)
def aeP:Bool:=leI (↑y3.length:Int) (↑y3.length:Int)
def aeQ:Bool:=leN (List.length (iv y0 y2 y3)) (1048576:Nat)
end
def aeR:Bool:=leI (0:Int) (0:Int)
section
variable (y0 y1:Int)(y2:List (Int×(ByteArray×Int)))(y3 y6:List Int)(y7 y8 y9:List ByteArray)(y11:List Int)(y12:List (Int×(Int×Int)))
def aeS:Bool:=leN (List.length (Hg y0 y2 y3)) (1048576:Nat)
def aeT:Bool:= !aS y0 y2||ro (((dU y0 y2).2).1) y7 y8 y11 y6
def adi:Bool:=aS y0 y2||(bN y0 y2||(bO y0 y2||(!bP y0 y2||leI (0:Int) (0:Int))))
def adj:Bool:=aS y0 y2||(bN y0 y2||(bO y0 y2||(!bP y0 y2||MV y0 y2 y3)))
def adk:Bool:=aS y0 y2||(bN y0 y2||(bO y0 y2||(!bP y0 y2||MW y0 y2 y3)))
def adl:Bool:=aS y0 y2||(bN y0 y2||(bO y0 y2||(bP y0 y2||(!cq y0 y2||leI (0:Int) (0:Int)))))
def adm:Bool:=aS y0 y2||(bN y0 y2||(bO y0 y2||(bP y0 y2||(!cq y0 y2||MV y0 y2 y3))))
def adn:Bool:=aS y0 y2||(bN y0 y2||(bO y0 y2||(bP y0 y2||(!cq y0 y2||MW y0 y2 y3))))
def ado:Bool:=aS y0 y2||(bN y0 y2||(bO y0 y2||(bP y0 y2||(!cq y0 y2||leI (0:Int) (1:Int)))))
def adp:Bool:=aS y0 y2||(bN y0 y2||(bO y0 y2||(bP y0 y2||(!cq y0 y2||Rl y0 y2 y3))))
def adq:Bool:=aS y0 y2||(bN y0 y2||(bO y0 y2||(bP y0 y2||(!cq y0 y2||Rm y0 y2 y3))))
def adr:Bool:=aS y0 y2||(bN y0 y2||(bO y0 y2||(bP y0 y2||(cq y0 y2||(!gB y0 y2||leI (0:Int) (0:Int))))))
def ads:Bool:=aS y0 y2||(bN y0 y2||(bO y0 y2||(bP y0 y2||(cq y0 y2||(!gB y0 y2||MV y0 y2 y3)))))
def adt:Bool:=aS y0 y2||(bN y0 y2||(bO y0 y2||(bP y0 y2||(cq y0 y2||(!gB y0 y2||MW y0 y2 y3)))))
def adu:Bool:=aS y0 y2||(bN y0 y2||(bO y0 y2||(bP y0 y2||(cq y0 y2||(!gB y0 y2||leI (0:Int) (1:Int))))))
def adv:Bool:=aS y0 y2||(bN y0 y2||(bO y0 y2||(bP y0 y2||(cq y0 y2||(!gB y0 y2||Rl y0 y2 y3)))))
def adw:Bool:=aS y0 y2||(bN y0 y2||(bO y0 y2||(bP y0 y2||(cq y0 y2||(!gB y0 y2||Rm y0 y2 y3)))))
def Sy:Bool:=aS y0 y2||(bN y0 y2||(bO y0 y2||(bP y0 y2||(cq y0 y2||(gB y0 y2||leI (0:Int) y1)))))
def Sz:Bool:=aS y0 y2||(bN y0 y2||(bO y0 y2||(bP y0 y2||(cq y0 y2||(gB y0 y2||ltI y1 (↑y12.length:Int))))))
def SA:Bool:=aS y0 y2||(bN y0 y2||(bO y0 y2||(bP y0 y2||(cq y0 y2||(gB y0 y2||ltN y1.toNat y12.length)))))
def adx:Bool:=aS y0 y2||(bN y0 y2||(bO y0 y2||(bP y0 y2||(cq y0 y2||(gB y0 y2||jT (iv y0 y2 y3))))))
def ady:Bool:=leN (List.length (Hg y0 y2 y3) + List.length (Ln y0 y1 y2 y3 y6 y7 y8 y11 y12)) (9223372036854775807:Nat)
def adz:Bool:=leN ((List.length (Hg y0 y2 y3) + List.length (Ln y0 y1 y2 y3 y6 y7 y8 y11 y12)) * (8:Nat)) (140737488355328:Nat)
def adA:Int:=IntKind.wrap .i64 (y0 + (1:Int))
def adB:Int:=bif aS y0 y2 then y1 else bif bN y0 y2 then y1 else bif bO y0 y2 then y1 else bif bP y0 y2 then y1 else bif cq y0 y2 then y1 else bif gB y0 y2 then y1 else IntKind.wrap .i64 (y1 + (1:Int))
def adC:List Int:=Hg y0 y2 y3++Ln y0 y1 y2 y3 y6 y7 y8 y11 y12
def adD:List Int:=bif aS y0 y2 then y6 else y6
def adE:List ByteArray:=bif aS y0 y2 then y7 else y7
def adF:List ByteArray:=bif aS y0 y2 then y8 else y8
def adG:List ByteArray:=bif aS y0 y2 then y9 else y9
end
def adH(y0:Int)(y2:List (Int×(ByteArray×Int)))(y10:List (ByteArray×(List (Int×(ByteArray×Int))))):List (ByteArray×(List (Int×(ByteArray×Int)))):=bif aS y0 y2 then y10 else y10
def adI(y0:Int)(y2:List (Int×(ByteArray×Int)))(y11:List Int):List Int:=bif aS y0 y2 then y11 else y11
def adJ(y0 y1:Int)(y2:List (Int×(ByteArray×Int)))(y3:List Int)(y12:List (Int×(Int×Int))):List (Int×(Int×Int)):=bif aS y0 y2 then y12 else bif bN y0 y2 then y12 else bif bO y0 y2 then y12 else bif bP y0 y2 then y12 else bif cq y0 y2 then y12 else bif gB y0 y2 then y12 else List.set y12 y1.toNat (ij ((dU y0 y2).1) ((dU y0 y2).2.2) ((lE y1 y12).1) (((lE y1 y12).2).1) ((lE y1 y12).2.2) (iv y0 y2 y3),ik ((dU y0 y2).1) (((lE y1 y12).2).1) ((lE y1 y12).2.2) (iv y0 y2 y3),il ((dU y0 y2).1) ((dU y0 y2).2.2) ((lE y1 y12).1) ((lE y1 y12).2.2) (iv y0 y2 y3))
def acp:su→List (Nat×SV)
 |(y0,y1,_,_,_,_,_,_,_,_,_,_,_)=> [(12,(.one ⟨false,[.val (.int .i64 y0)]⟩)),(3,(.one ⟨false,[.ref 0]⟩)),(11,(.one ⟨false,[.ref 1]⟩)),(5,(.one ⟨false,[.ptr 2 0]⟩)),(6,(.one ⟨false,[.ptr 3 0]⟩)),(2,(.one ⟨false,[.ref 4]⟩)),(4,(.one ⟨false,[.val (.int .i64 y1)]⟩))]
def acf:su→List (Nat×Entry)
 |(_,_,y2,y3,y4,y5,y6,y7,y8,y9,y10,y11,y12)=> [(0,(.row true 178 afk y2)),(2,(.box 63 [.val (.string y4),.ref 5,.ref 6,.ref 7,.val (.string y5),.ref 8])),(3,(.box 48 [.ref 9,.ref 10])),(4,(.row true 2 agJ y6)),(5,(.row true 9 ahF y7)),(6,(.row true 9 ahF y8)),(7,(.row true 9 ahF y9)),(8,(.row true 204 (CTy.pair CTy.str (CTy.sl (178:Nat) afk)) y10)),(9,(.row true 2 agJ y11)),(10,(.row true 172 aal y12)),(1,(.row true 2 agJ y3))]
def acJ:Nat→su→List (Nat×SV)
 |_,(_,_,_,_,_,_,_,_,_,_,_,_,_)=> [(11,(.one ⟨false,[.ref 1]⟩))]
def acz:Nat→su→List (Nat×Entry)
 |_,(_,_,y2,y3,y4,y5,y6,y7,y8,y9,y10,y11,y12)=> [(0,(.row true 178 afk y2)),(1,(.row true 2 agJ y3)),(2,(.box 63 [.val (.string y4),.ref 5,.ref 6,.ref 7,.val (.string y5),.ref 8])),(3,(.box 48 [.ref 9,.ref 10])),(4,(.row true 2 agJ y6)),(5,(.row true 9 ahF y7)),(6,(.row true 9 ahF y8)),(7,(.row true 9 ahF y9)),(8,(.row true 204 (CTy.pair CTy.str (CTy.sl (178:Nat) afk)) y10)),(9,(.row true 2 agJ y11)),(10,(.row true 172 aal y12))]
def ac5:su→LT su
 |(y0,y1,y2,y3,y4,y5,y6,y7,y8,y9,y10,y11,y12)=> .ite (Tx y0 y2) (.need [aeN y0,Tx y0 y2,aeO y0 y2] (.need [Ty y0 y2 y3,Tz y0 y2 y3,aeP y3,aeQ y0 y2 y3] (.need [aeR,Ty y0 y2 y3,Tz y0 y2 y3,aeS y0 y2 y3] (.need [aeT y0 y2 y6 y7 y8 y11,adi y0 y2,adj y0 y2 y3,adk y0 y2 y3,adl y0 y2,adm y0 y2 y3,adn y0 y2 y3,ado y0 y2,adp y0 y2 y3,adq y0 y2 y3,adr y0 y2,ads y0 y2 y3,adt y0 y2 y3,adu y0 y2,adv y0 y2 y3,adw y0 y2 y3,Sy y0 y1 y2,Sz y0 y1 y2 y12,SA y0 y1 y2 y12,adx y0 y2 y3,Sy y0 y1 y2,Sz y0 y1 y2 y12,SA y0 y1 y2 y12] (.need [ady y0 y1 y2 y3 y6 y7 y8 y11 y12,adz y0 y1 y2 y3 y6 y7 y8 y11 y12] (.nrm ((adA y0),adB y0 y1 y2,y2,adC y0 y1 y2 y3 y6 y7 y8 y11 y12,y4,y5,adD y0 y2 y6,adE y0 y2 y7,adF y0 y2 y8,adG y0 y2 y9,adH y0 y2 y10,adI y0 y2 y11,(adJ y0 y1 y2 y3 y12)) [(0,0),(1,4544),(2,2),(3,3),(4,4),(5,5),(6,6),(7,7),(8,8),(9,9),(10,10)])))))) (.ext 0 [(0,0),(1,1),(2,2),(3,3),(4,4),(5,5),(6,6),(7,7),(8,8),(9,9),(10,10)])
def MM(s:St):Option su:=
 (match s.look 12 with
 |some ⟨none,.one ⟨false,[.val (.int .i64 y0)]⟩⟩=>
 (match s.look 3 with
 |some ⟨none,.one ⟨false,[.ref 7]⟩⟩=>
 (match s.look 11 with
 |some ⟨none,.one ⟨false,[.ref 768]⟩⟩=>
 (match s.look 5 with
 |some ⟨none,.one ⟨false,[.ptr 576 0]⟩⟩=>
 (match s.look 6 with
 |some ⟨none,.one ⟨false,[.ptr 640 0]⟩⟩=>
 (match s.look 2 with
 |some ⟨none,.one ⟨false,[.ref 6]⟩⟩=>
 (match s.look 4 with
 |some ⟨none,.one ⟨false,[.val (.int .i64 y1)]⟩⟩=>
 (match s.ent 7 with
 |some (.row true 178 (.pair (.int .i64) (.pair .str (.int .i64))) y2)=>
 (match s.ent 576 with
 |some (.box 63 [.val (.string y4),.ref 0,.ref 1,.ref 2,.val (.string y5),.ref 3])=>
 (match s.ent 640 with
 |some (.box 48 [.ref 4,.ref 5])=>
 (match s.ent 6 with
 |some (.row true 2 (.int .i64) y6)=>
 (match s.ent 0 with
 |some (.row true 9 (.str) y7)=>
 (match s.ent 1 with
 |some (.row true 9 (.str) y8)=>
 (match s.ent 2 with
 |some (.row true 9 (.str) y9)=>
 (match s.ent 3 with
 |some (.row true 204 (.pair .str (.sl (178:Nat) (.pair (.int .i64) (.pair .str (.int .i64))))) y10)=>
 (match s.ent 4 with
 |some (.row true 2 (.int .i64) y11)=>
 (match s.ent 5 with
 |some (.row true 172 (.pair (.int .i64) (.pair (.int .i64) (.int .i64))) y12)=>
 (match s.ent 768 with
 |some (.row true 2 (.int .i64) y3)=>
 some (y0,y1,y2,y3,y4,y5,y6,y7,y8,y9,y10,y11,y12)
 |_=>none)
 |_=>none)
 |_=>none)
 |_=>none)
 |_=>none)
 |_=>none)
 |_=>none)
 |_=>none)
 |_=>none)
 |_=>none)
 |_=>none)
 |_=>none)
 |_=>none)
 |_=>none)
 |_=>none)
 |_=>none)
 |_=>none)
 |_=>none)
def BL:Lp su where
 h:=⟨[20,21,22,23,26,27,28,29,13,30,31,32,33,34,35,14,36,37,38,39,15,40,41,42,43,11,16,44,45,66,65,67,68,69,70,71,72,74,73,76,75,78,77,79,80,81,82,84,83,85,86,87,88,89,90,91,93,92,94,95,96,97,98,99,100,47,48,49,50,51,52,53,54,46,55,56,18,17,57,58,59,60,61,62,63,64,4,101,102,103,104,24,25,12],[0,2,3,4,5,6,7,8,9,10],[1],[]⟩
 JL:=acp
 JE:=acf
 XL:=acJ
 XE:=acz
 q:=fun j=>match j with | _=> .exit 0
 tags:= [0]
 lt:=ac5
 fuel:=fun(y0,y1,y2,y3,y4,y5,y6,y7,y8,y9,y10,y11,y12)=>y0.natAbs + y1.natAbs + y2.length + y3.length + y4.size + y5.size + y6.length + y7.length + y8.length + y9.length + y10.length + y11.length + y12.length
 fix:=fun(_,_,y2,_,y4,y5,_,_,_,_,_,_,_) (y0,y1,_,y3,_,_,y6,y7,y8,y9,y10,y11,y12)=>(y0,y1,y2,y3,y4,y5,y6,y7,y8,y9,y10,y11,y12)
 σ:= [(0,7),(2,576),(3,640),(4,6),(5,0),(6,1),(7,2),(8,3),(9,4),(10,5),(1,768)]
 rd:=MM
theorem ZQ:LoopOk prog (fun k=>Nat.blt k Tryz.f180.ntmps) BL.F (aL f180 0):=by
 refine Lp.ok (tbl:= [PF.mark prog,mG,PF.lend mG,PF.fz mG,dx,PF.lend dx,PF.fz dx,oY,PF.lend oY,PF.fz oY,CV]) (lf:= []) aP BL (by kernel_rfl) (LOk.nil _) (fun _=>rfl) (fun _ _=>rfl) ?_ ?_ ?_ ?_ (fun _=>rfl) ?_
 ·rintro⟨y0,y1,y2,y3,y4,y5,y6,y7,y8,y9,y10,y11,y12⟩;kernel_rfl
 ·rintro⟨y0,y1,y2,y3,y4,y5,y6,y7,y8,y9,y10,y11,y12⟩;kernel_rfl
 ·intro s x h
  have h:MM s=some x:=h
  unfold MM at h
  repeat' split at h
  all_goals cases h
  exact⟨aa (by assumption) rfl (aa (by assumption) rfl (aa (by assumption) rfl (aa (by assumption) rfl (aa (by assumption) rfl (aa (by assumption) rfl (aa (by assumption) rfl (rfl))))))),ab rfl (by assumption) rfl (ab rfl (by assumption) rfl (ab rfl (by assumption) rfl (ab rfl (by assumption) rfl (ab rfl (by assumption) rfl (ab rfl (by assumption) rfl (ab rfl (by assumption) rfl (ab rfl (by assumption) rfl (ab rfl (by assumption) rfl (ab rfl (by assumption) rfl (ab rfl (by assumption) rfl (rfl)))))))))))⟩
 ·rintro⟨y0,y1,y2,y3,y4,y5,y6,y7,y8,y9,y10,y11,y12⟩;kernel_rfl
 ·rintro⟨y0,y1,y2,y3,y4,y5,y6,y7,y8,y9,y10,y11,y12⟩ z;exact(And.intro rfl trivial)
section
variable (x0 x1:ByteArray)(x2:Int)(x3 x4 x5:List ByteArray)(x6:List (ByteArray×List (Int×ByteArray×Int)))(x7:List Int)(x8:List (Int×Int×Int))(x9:List Int)(x10:List (Int×ByteArray×Int))
def Xk:Int×Int×List (Int×ByteArray×Int)×List Int×ByteArray×ByteArray×List Int×List ByteArray×List ByteArray×List ByteArray×List (ByteArray×List (Int×ByteArray×Int))×List Int×List (Int×Int×Int):=((0:Int),x2,x10,[],x0,x1,x9,x3,x4,x5,x6,x7,x8)
def Xl:List Int×ByteArray×ByteArray×List Int×List ByteArray×List ByteArray×List ByteArray×List (ByteArray×List (Int×ByteArray×Int))×List Int×List (Int×Int×Int):=(Lp.res BL (Xk x0 x1 x2 x3 x4 x5 x6 x7 x8 x9 x10)).2.2.2.2
def Ra:List Int:=(Xl x0 x1 x2 x3 x4 x5 x6 x7 x8 x9 x10).1
def Xm:List Int×List ByteArray×List ByteArray×List ByteArray×List (ByteArray×List (Int×ByteArray×Int))×List Int×List (Int×Int×Int):=(Xl x0 x1 x2 x3 x4 x5 x6 x7 x8 x9 x10).2.2.2
def Xn:List ByteArray×List ByteArray×List ByteArray×List (ByteArray×List (Int×ByteArray×Int))×List Int×List (Int×Int×Int):=(Xm x0 x1 x2 x3 x4 x5 x6 x7 x8 x9 x10).2
def Xo:List ByteArray×List ByteArray×List (ByteArray×List (Int×ByteArray×Int))×List Int×List (Int×Int×Int):=(Xn x0 x1 x2 x3 x4 x5 x6 x7 x8 x9 x10).2
def Xp:List ByteArray×List (ByteArray×List (Int×ByteArray×Int))×List Int×List (Int×Int×Int):=(Xo x0 x1 x2 x3 x4 x5 x6 x7 x8 x9 x10).2
def Xq:List (ByteArray×List (Int×ByteArray×Int))×List Int×List (Int×Int×Int):=(Xp x0 x1 x2 x3 x4 x5 x6 x7 x8 x9 x10).2
def Xr:List Int×List (Int×Int×Int):=(Xq x0 x1 x2 x3 x4 x5 x6 x7 x8 x9 x10).2
def aik:Int:=Option.getD (Ra x0 x1 x2 x3 x4 x5 x6 x7 x8 x9 x10)[Int.toNat (0:Int)]? (0:Int)
def ail:List ByteArray:=(Xn x0 x1 x2 x3 x4 x5 x6 x7 x8 x9 x10).1
def aim:List ByteArray:=(Xo x0 x1 x2 x3 x4 x5 x6 x7 x8 x9 x10).1
def ain:List ByteArray:=(Xp x0 x1 x2 x3 x4 x5 x6 x7 x8 x9 x10).1
def aio:List (ByteArray×(List (Int×(ByteArray×Int)))):=(Xq x0 x1 x2 x3 x4 x5 x6 x7 x8 x9 x10).1
def aip:List Int:=(Xr x0 x1 x2 x3 x4 x5 x6 x7 x8 x9 x10).1
def aiq:List (Int×(Int×Int)):=(Xr x0 x1 x2 x3 x4 x5 x6 x7 x8 x9 x10).2
def air:List Int:=(Xm x0 x1 x2 x3 x4 x5 x6 x7 x8 x9 x10).1
def ais:Bool:=allT [Lp.fin BL (Xk x0 x1 x2 x3 x4 x5 x6 x7 x8 x9 x10),ltI (0:Int) (↑(List.length (Ra x0 x1 x2 x3 x4 x5 x6 x7 x8 x9 x10)):Int),ltN (Int.toNat (0:Int)) (List.length (Ra x0 x1 x2 x3 x4 x5 x6 x7 x8 x9 x10))]
end
def Yr:List SV→List Entry→Option Out
 | [.one ⟨true,[.val (.string x0),.ref 0,.ref 1,.ref 2,.val (.string x1),.ref 3]⟩,.one ⟨true,[.ref 4,.ref 5]⟩,.one ⟨false,[.ref 6]⟩,.one ⟨false,[.ref 7]⟩,.one ⟨false,[.val (.int .i64 x2)]⟩],[.row true 9 (.str) x3,.row true 9 (.str) x4,.row true 9 (.str) x5,.row true 204 (.pair (.str) (.sl 178 (.pair (.int .i64) (.pair (.str) (.int .i64))))) x6,.row true 2 (.int .i64) x7,.row true 172 (.pair (.int .i64) (.pair (.int .i64) (.int .i64))) x8,.row true 2 (.int .i64) x9,.row true 178 (.pair (.int .i64) (.pair (.str) (.int .i64))) x10]=>some ⟨.one ⟨false,[.val (.int .i64 (aik x0 x1 x2 x3 x4 x5 x6 x7 x8 x9 x10))]⟩,[.row true 9 ahF (ail x0 x1 x2 x3 x4 x5 x6 x7 x8 x9 x10),.row true 9 ahF (aim x0 x1 x2 x3 x4 x5 x6 x7 x8 x9 x10),.row true 9 ahF (ain x0 x1 x2 x3 x4 x5 x6 x7 x8 x9 x10),.row true 204 (CTy.pair CTy.str (CTy.sl (178:Nat) afk)) (aio x0 x1 x2 x3 x4 x5 x6 x7 x8 x9 x10),.row true 2 agJ (aip x0 x1 x2 x3 x4 x5 x6 x7 x8 x9 x10),.row true 172 aal (aiq x0 x1 x2 x3 x4 x5 x6 x7 x8 x9 x10),.row true 2 agJ (air x0 x1 x2 x3 x4 x5 x6 x7 x8 x9 x10),.row true 178 afk x10],[],[ais x0 x1 x2 x3 x4 x5 x6 x7 x8 x9 x10]⟩
 |_,_=>none
def vd:PF prog:=PF.ofG prog [PF.mark prog,mG,PF.lend mG,PF.fz mG,dx,PF.lend dx,PF.fz dx,oY,PF.lend oY,PF.fz oY,CV] [BL.F] aP 180 f180 func180 (LOk.fnT (l:= [aL f180 0]) (by kernel_rfl) (.cons ZQ (.nil _))) Yr (by
 intro vs es r h;unfold Yr at h;split at h
 ·cases h;kernel_rfl
 ·cases h)
abbrev lg:=Int×Int×List (Int×(ByteArray×Int))×List Int×ByteArray×ByteArray×List Int×List ByteArray×List ByteArray×List ByteArray×List (ByteArray×(List (Int×(ByteArray×Int))))×List Int×List (Int×(Int×Int))
section
variable (y0 y1:Int)(y2:List (Int×(ByteArray×Int)))(y3 y6:List Int)(y7 y8:List ByteArray)(y11:List Int)(y12:List (Int×(Int×Int)))
def bp:Int×ByteArray×Int:=Option.getD y2[Int.toNat y0]? ((0:Int),ByteArray.empty,(0:Int))
def py:Int:=IntKind.wrap .i64 ((↑y3.length:Int) - lY ((bp y0 y2).1))
def cf:List Int:=List.drop (Int.toNat (py y0 y2 y3)) (List.take (Int.toNat (↑y3.length:Int)) y3)
def pz:List Int:=List.drop (Int.toNat (0:Int)) (List.take (Int.toNat (py y0 y2 y3)) y3)
def aw:Bool:=(bp y0 y2).1==(1:Int)
def aE:Bool:=(bp y0 y2).1==(2:Int)
def aF:Bool:=(bp y0 y2).1==(3:Int)
def aG:Bool:=(bp y0 y2).1==(4:Int)
def iO:Bool:=ltI (0:Int) (↑(List.length (cf y0 y2 y3)):Int)
def iP:Bool:=ltN (Int.toNat (0:Int)) (List.length (cf y0 y2 y3))
def aN:Bool:=(bp y0 y2).1==(5:Int)
def oD:Bool:=ltI (1:Int) (↑(List.length (cf y0 y2 y3)):Int)
def oE:Bool:=ltN (Int.toNat (1:Int)) (List.length (cf y0 y2 y3))
def bQ:Bool:=(bp y0 y2).1==(6:Int)
def rW:Int:=Option.getD (cf y0 y2 y3)[Int.toNat (0:Int)]? (0:Int)
def dj:Int×Int×Int:=Option.getD y12[Int.toNat y1]? ((0:Int),(0:Int),(0:Int))
def be:List Int:= [bif aw y0 y2 then rn (((bp y0 y2).2).1) y7 y8 y11 y6 else bif aE y0 y2 then(1:Int)else bif aF y0 y2 then(0:Int)else bif aG y0 y2 then IntKind.wrap .i64 ((1:Int) - rW y0 y2 y3)else bif aN y0 y2 then IntKind.wrap .i64 (↑(BitVec.toNat (BitVec.ofInt (IntKind.bits IntKind.i64) (rW y0 y2 y3)&&& BitVec.ofInt (IntKind.bits IntKind.i64) (Option.getD (cf y0 y2 y3)[Int.toNat (1:Int)]? (0:Int)))):Int)else bif bQ y0 y2 then IntKind.wrap .i64 (↑(BitVec.toNat (BitVec.ofInt (IntKind.bits IntKind.i64) (rW y0 y2 y3)||| BitVec.ofInt (IntKind.bits IntKind.i64) (Option.getD (cf y0 y2 y3)[Int.toNat (1:Int)]? (0:Int)))):Int)else gy ((bp y0 y2).1) ((bp y0 y2).2.2) ((dj y1 y12).1) (((dj y1 y12).2).1) ((dj y1 y12).2.2) (cf y0 y2 y3)]
def dQ:Bool:=ltI y0 (↑y2.length:Int)
def lh:Bool:=leI (0:Int) y0
def li:Bool:=ltN y0.toNat y2.length
def jC:Bool:=leI (0:Int) (py y0 y2 y3)
def jD:Bool:=leI (py y0 y2 y3) (↑y3.length:Int)
def lj:Bool:=leI (↑y3.length:Int) (↑y3.length:Int)
def lk:Bool:=leN (List.length (cf y0 y2 y3)) (1048576:Nat)
end
def lm:Bool:=leI (0:Int) (0:Int)
section
variable (y0 y1:Int)(y2:List (Int×(ByteArray×Int)))(y3 y6:List Int)(y7 y8:List ByteArray)(y11:List Int)(y12:List (Int×(Int×Int)))
def ln:Bool:=leN (List.length (pz y0 y2 y3)) (1048576:Nat)
def lp:Bool:= !aw y0 y2||ro (((bp y0 y2).2).1) y7 y8 y11 y6
def kh:Bool:=aw y0 y2||(aE y0 y2||(aF y0 y2||(!aG y0 y2||leI (0:Int) (0:Int))))
def ki:Bool:=aw y0 y2||(aE y0 y2||(aF y0 y2||(!aG y0 y2||iO y0 y2 y3)))
def kj:Bool:=aw y0 y2||(aE y0 y2||(aF y0 y2||(!aG y0 y2||iP y0 y2 y3)))
def kk:Bool:=aw y0 y2||(aE y0 y2||(aF y0 y2||(aG y0 y2||(!aN y0 y2||leI (0:Int) (0:Int)))))
def km:Bool:=aw y0 y2||(aE y0 y2||(aF y0 y2||(aG y0 y2||(!aN y0 y2||iO y0 y2 y3))))
def kn:Bool:=aw y0 y2||(aE y0 y2||(aF y0 y2||(aG y0 y2||(!aN y0 y2||iP y0 y2 y3))))
def ko:Bool:=aw y0 y2||(aE y0 y2||(aF y0 y2||(aG y0 y2||(!aN y0 y2||leI (0:Int) (1:Int)))))
def kq:Bool:=aw y0 y2||(aE y0 y2||(aF y0 y2||(aG y0 y2||(!aN y0 y2||oD y0 y2 y3))))
def kr:Bool:=aw y0 y2||(aE y0 y2||(aF y0 y2||(aG y0 y2||(!aN y0 y2||oE y0 y2 y3))))
def kt:Bool:=aw y0 y2||(aE y0 y2||(aF y0 y2||(aG y0 y2||(aN y0 y2||(!bQ y0 y2||leI (0:Int) (0:Int))))))
def ku:Bool:=aw y0 y2||(aE y0 y2||(aF y0 y2||(aG y0 y2||(aN y0 y2||(!bQ y0 y2||iO y0 y2 y3)))))
def kv:Bool:=aw y0 y2||(aE y0 y2||(aF y0 y2||(aG y0 y2||(aN y0 y2||(!bQ y0 y2||iP y0 y2 y3)))))
def kw:Bool:=aw y0 y2||(aE y0 y2||(aF y0 y2||(aG y0 y2||(aN y0 y2||(!bQ y0 y2||leI (0:Int) (1:Int))))))
def kx:Bool:=aw y0 y2||(aE y0 y2||(aF y0 y2||(aG y0 y2||(aN y0 y2||(!bQ y0 y2||oD y0 y2 y3)))))
def ky:Bool:=aw y0 y2||(aE y0 y2||(aF y0 y2||(aG y0 y2||(aN y0 y2||(!bQ y0 y2||oE y0 y2 y3)))))
def iI:Bool:=aw y0 y2||(aE y0 y2||(aF y0 y2||(aG y0 y2||(aN y0 y2||(bQ y0 y2||leI (0:Int) y1)))))
def iJ:Bool:=aw y0 y2||(aE y0 y2||(aF y0 y2||(aG y0 y2||(aN y0 y2||(bQ y0 y2||ltI y1 (↑y12.length:Int))))))
def iK:Bool:=aw y0 y2||(aE y0 y2||(aF y0 y2||(aG y0 y2||(aN y0 y2||(bQ y0 y2||ltN y1.toNat y12.length)))))
def kz:Bool:=aw y0 y2||(aE y0 y2||(aF y0 y2||(aG y0 y2||(aN y0 y2||(bQ y0 y2||jT (cf y0 y2 y3))))))
def kA:Bool:=leN (List.length (pz y0 y2 y3) + List.length (be y0 y1 y2 y3 y6 y7 y8 y11 y12)) (9223372036854775807:Nat)
def kB:Bool:=leN ((List.length (pz y0 y2 y3) + List.length (be y0 y1 y2 y3 y6 y7 y8 y11 y12)) * (8:Nat)) (140737488355328:Nat)
def iL:Int:=IntKind.wrap .i64 (y0 + (1:Int))
def bI:Int:=bif aw y0 y2 then y1 else bif aE y0 y2 then y1 else bif aF y0 y2 then y1 else bif aG y0 y2 then y1 else bif aN y0 y2 then y1 else bif bQ y0 y2 then y1 else IntKind.wrap .i64 (y1 + (1:Int))
def iM:List Int:=pz y0 y2 y3++be y0 y1 y2 y3 y6 y7 y8 y11 y12
def iN:List Int:=bif aw y0 y2 then y11 else y11
def bJ:List (Int×(Int×Int)):=bif aw y0 y2 then y12 else bif aE y0 y2 then y12 else bif aF y0 y2 then y12 else bif aG y0 y2 then y12 else bif aN y0 y2 then y12 else bif bQ y0 y2 then y12 else List.set y12 y1.toNat (ij ((bp y0 y2).1) ((bp y0 y2).2.2) ((dj y1 y12).1) (((dj y1 y12).2).1) ((dj y1 y12).2.2) (cf y0 y2 y3),ik ((bp y0 y2).1) (((dj y1 y12).2).1) ((dj y1 y12).2.2) (cf y0 y2 y3),il ((bp y0 y2).1) ((bp y0 y2).2.2) ((dj y1 y12).1) ((dj y1 y12).2.2) (cf y0 y2 y3))
end
def TE:lg→List (Nat×SV)
 |(y0,y1,_,_,_,_,_,_,_,_,_,_,_)=> [(12,(.one ⟨false,[.val (.int .i64 y0)]⟩)),(3,(.one ⟨false,[.ref 0]⟩)),(11,(.one ⟨false,[.ref 1]⟩)),(5,(.one ⟨false,[.ptr 2 0]⟩)),(6,(.one ⟨false,[.ptr 3 0]⟩)),(2,(.one ⟨false,[.ref 4]⟩)),(4,(.one ⟨false,[.val (.int .i64 y1)]⟩))]
def TD:lg→List (Nat×Entry)
 |(_,_,y2,y3,y4,y5,y6,y7,y8,y9,y10,y11,y12)=> [(0,(.row false 178 afk y2)),(2,(.box 63 [.val (.string y4),.ref 5,.ref 6,.ref 7,.val (.string y5),.ref 8])),(3,(.box 48 [.ref 9,.ref 10])),(4,(.row false 2 agJ y6)),(5,(.row false 9 ahF y7)),(6,(.row false 9 ahF y8)),(7,(.row false 9 ahF y9)),(8,(.row false 204 (CTy.pair CTy.str (CTy.sl (178:Nat) afk)) y10)),(9,(.row true 2 agJ y11)),(10,(.row true 172 aal y12)),(1,(.row true 2 agJ y3))]
def TG:Nat→lg→List (Nat×SV)
 |_,(_,_,_,_,_,_,_,_,_,_,_,_,_)=> [(11,(.one ⟨false,[.ref 1]⟩))]
def TF:Nat→lg→List (Nat×Entry)
 |_,(_,_,y2,y3,y4,y5,y6,y7,y8,y9,y10,y11,y12)=> [(0,(.row false 178 afk y2)),(1,(.row true 2 agJ y3)),(2,(.box 63 [.val (.string y4),.ref 5,.ref 6,.ref 7,.val (.string y5),.ref 8])),(3,(.box 48 [.ref 9,.ref 10])),(4,(.row false 2 agJ y6)),(5,(.row false 9 ahF y7)),(6,(.row false 9 ahF y8)),(7,(.row false 9 ahF y9)),(8,(.row false 204 (CTy.pair CTy.str (CTy.sl (178:Nat) afk)) y10)),(9,(.row true 2 agJ y11)),(10,(.row true 172 aal y12))]
def eM:lg→LT lg
 |(y0,y1,y2,y3,y4,y5,y6,y7,y8,y9,y10,y11,y12)=> .ite (dQ y0 y2) (.need [lh y0,dQ y0 y2,li y0 y2] (.need [jC y0 y2 y3,jD y0 y2 y3,lj y3,lk y0 y2 y3] (.need [lm,jC y0 y2 y3,jD y0 y2 y3,ln y0 y2 y3] (.need [lp y0 y2 y6 y7 y8 y11,kh y0 y2,ki y0 y2 y3,kj y0 y2 y3,kk y0 y2,km y0 y2 y3,kn y0 y2 y3,ko y0 y2,kq y0 y2 y3,kr y0 y2 y3,kt y0 y2,ku y0 y2 y3,kv y0 y2 y3,kw y0 y2,kx y0 y2 y3,ky y0 y2 y3,iI y0 y1 y2,iJ y0 y1 y2 y12,iK y0 y1 y2 y12,kz y0 y2 y3,iI y0 y1 y2,iJ y0 y1 y2 y12,iK y0 y1 y2 y12] (.need [kA y0 y1 y2 y3 y6 y7 y8 y11 y12,kB y0 y1 y2 y3 y6 y7 y8 y11 y12] (.nrm ((iL y0),bI y0 y1 y2,y2,iM y0 y1 y2 y3 y6 y7 y8 y11 y12,y4,y5,y6,y7,y8,y9,y10,iN y0 y2 y11,(bJ y0 y1 y2 y3 y12)) [(0,0),(1,4544),(2,2),(3,3),(4,4),(5,5),(6,6),(7,7),(8,8),(9,9),(10,10)])))))) (.ext 0 [(0,0),(1,1),(2,2),(3,3),(4,4),(5,5),(6,6),(7,7),(8,8),(9,9),(10,10)])
def Es(s:St):Option lg:=
 (match s.look 12 with
 |some ⟨none,.one ⟨false,[.val (.int .i64 y0)]⟩⟩=>
 (match s.look 3 with
 |some ⟨none,.one ⟨false,[.ref 7]⟩⟩=>
 (match s.look 11 with
 |some ⟨none,.one ⟨false,[.ref 768]⟩⟩=>
 (match s.look 5 with
 |some ⟨none,.one ⟨false,[.ptr 576 0]⟩⟩=>
 (match s.look 6 with
 |some ⟨none,.one ⟨false,[.ptr 640 0]⟩⟩=>
 (match s.look 2 with
 |some ⟨none,.one ⟨false,[.ref 6]⟩⟩=>
 (match s.look 4 with
 |some ⟨none,.one ⟨false,[.val (.int .i64 y1)]⟩⟩=>
 (match s.ent 7 with
 |some (.row false 178 (.pair (.int .i64) (.pair .str (.int .i64))) y2)=>
 (match s.ent 576 with
 |some (.box 63 [.val (.string y4),.ref 0,.ref 1,.ref 2,.val (.string y5),.ref 3])=>
 (match s.ent 640 with
 |some (.box 48 [.ref 4,.ref 5])=>
 (match s.ent 6 with
 |some (.row false 2 (.int .i64) y6)=>
 (match s.ent 0 with
 |some (.row false 9 (.str) y7)=>
 (match s.ent 1 with
 |some (.row false 9 (.str) y8)=>
 (match s.ent 2 with
 |some (.row false 9 (.str) y9)=>
 (match s.ent 3 with
 |some (.row false 204 (.pair .str (.sl (178:Nat) (.pair (.int .i64) (.pair .str (.int .i64))))) y10)=>
 (match s.ent 4 with
 |some (.row true 2 (.int .i64) y11)=>
 (match s.ent 5 with
 |some (.row true 172 (.pair (.int .i64) (.pair (.int .i64) (.int .i64))) y12)=>
 (match s.ent 768 with
 |some (.row true 2 (.int .i64) y3)=>
 some (y0,y1,y2,y3,y4,y5,y6,y7,y8,y9,y10,y11,y12)
 |_=>none)
 |_=>none)
 |_=>none)
 |_=>none)
 |_=>none)
 |_=>none)
 |_=>none)
 |_=>none)
 |_=>none)
 |_=>none)
 |_=>none)
 |_=>none)
 |_=>none)
 |_=>none)
 |_=>none)
 |_=>none)
 |_=>none)
 |_=>none)
def aU:Lp lg where
 h:=⟨[20,21,22,23,26,27,28,29,13,30,31,32,33,34,35,14,36,37,38,39,15,40,41,42,43,11,16,44,45,66,65,67,68,69,70,71,72,74,73,76,75,78,77,79,80,81,82,84,83,85,86,87,88,89,90,91,93,92,94,95,96,97,98,99,100,47,48,49,50,51,52,53,54,46,55,56,18,17,57,58,59,60,61,62,63,64,4,101,102,103,104,24,25,12],[0,2,3,4,5,6,7,8,9,10],[1],[]⟩
 JL:=TE
 JE:=TD
 XL:=TG
 XE:=TF
 q:=fun j=>match j with | _=> .exit 0
 tags:= [0]
 lt:=eM
 fuel:=fun(y0,y1,y2,y3,y4,y5,y6,y7,y8,y9,y10,y11,y12)=>y0.natAbs + y1.natAbs + y2.length + y3.length + y4.size + y5.size + y6.length + y7.length + y8.length + y9.length + y10.length + y11.length + y12.length
 fix:=fun(_,_,y2,_,y4,y5,y6,y7,y8,y9,y10,_,_) (y0,y1,_,y3,_,_,_,_,_,_,_,y11,y12)=>(y0,y1,y2,y3,y4,y5,y6,y7,y8,y9,y10,y11,y12)
 σ:= [(0,7),(2,576),(3,640),(4,6),(5,0),(6,1),(7,2),(8,3),(9,4),(10,5),(1,768)]
 rd:=Es
theorem Sd:LoopOk prog (fun k=>Nat.blt k Tryz.f180.ntmps) aU.F (aL f180 0):=by
 refine Lp.ok (tbl:= [PF.mark prog,mG,PF.lend mG,PF.fz mG,dx,PF.lend dx,PF.fz dx,oY,PF.lend oY,PF.fz oY,CV]) (lf:= []) aP aU (by kernel_rfl) (LOk.nil _) (fun _=>rfl) (fun _ _=>rfl) ?_ ?_ ?_ ?_ (fun _=>rfl) ?_
 ·rintro⟨y0,y1,y2,y3,y4,y5,y6,y7,y8,y9,y10,y11,y12⟩;kernel_rfl
 ·rintro⟨y0,y1,y2,y3,y4,y5,y6,y7,y8,y9,y10,y11,y12⟩;kernel_rfl
 ·intro s x h
  have h:Es s=some x:=h
  unfold Es at h
  repeat' split at h
  all_goals cases h
  exact⟨aa (by assumption) rfl (aa (by assumption) rfl (aa (by assumption) rfl (aa (by assumption) rfl (aa (by assumption) rfl (aa (by assumption) rfl (aa (by assumption) rfl (rfl))))))),ab rfl (by assumption) rfl (ab rfl (by assumption) rfl (ab rfl (by assumption) rfl (ab rfl (by assumption) rfl (ab rfl (by assumption) rfl (ab rfl (by assumption) rfl (ab rfl (by assumption) rfl (ab rfl (by assumption) rfl (ab rfl (by assumption) rfl (ab rfl (by assumption) rfl (ab rfl (by assumption) rfl (rfl)))))))))))⟩
 ·rintro⟨y0,y1,y2,y3,y4,y5,y6,y7,y8,y9,y10,y11,y12⟩;kernel_rfl
 ·rintro⟨y0,y1,y2,y3,y4,y5,y6,y7,y8,y9,y10,y11,y12⟩ z;exact(And.intro rfl trivial)
section
variable (x0 x1:ByteArray)(x2:Int)(x3 x4 x5:List ByteArray)(x6:List (ByteArray×List (Int×ByteArray×Int)))(x7:List Int)(x8:List (Int×Int×Int))(x9:List Int)(x10:List (Int×ByteArray×Int))
def sM:Int×Int×List (Int×ByteArray×Int)×List Int×ByteArray×ByteArray×List Int×List ByteArray×List ByteArray×List ByteArray×List (ByteArray×List (Int×ByteArray×Int))×List Int×List (Int×Int×Int):=((0:Int),x2,x10,[],x0,x1,x9,x3,x4,x5,x6,x7,x8)
def wB:List Int×ByteArray×ByteArray×List Int×List ByteArray×List ByteArray×List ByteArray×List (ByteArray×List (Int×ByteArray×Int))×List Int×List (Int×Int×Int):=(Lp.res aU (sM x0 x1 x2 x3 x4 x5 x6 x7 x8 x9 x10)).2.2.2.2
def wC:List Int:=(wB x0 x1 x2 x3 x4 x5 x6 x7 x8 x9 x10).1
def CH:List Int×List (Int×Int×Int):=(wB x0 x1 x2 x3 x4 x5 x6 x7 x8 x9 x10).2.2.2.2.2.2.2.2
def DY:Int:=Option.getD (wC x0 x1 x2 x3 x4 x5 x6 x7 x8 x9 x10)[Int.toNat (0:Int)]? (0:Int)
def DZ:List Int:=(CH x0 x1 x2 x3 x4 x5 x6 x7 x8 x9 x10).1
def Ea:List (Int×(Int×Int)):=(CH x0 x1 x2 x3 x4 x5 x6 x7 x8 x9 x10).2
def Eb:Bool:=allT [Lp.fin aU (sM x0 x1 x2 x3 x4 x5 x6 x7 x8 x9 x10),ltI (0:Int) (↑(List.length (wC x0 x1 x2 x3 x4 x5 x6 x7 x8 x9 x10)):Int),ltN (Int.toNat (0:Int)) (List.length (wC x0 x1 x2 x3 x4 x5 x6 x7 x8 x9 x10))]
end
def Qi:List SV→List Entry→Option Out
 | [.one ⟨true,[.val (.string x0),.ref 0,.ref 1,.ref 2,.val (.string x1),.ref 3]⟩,.one ⟨true,[.ref 4,.ref 5]⟩,.one ⟨false,[.ref 6]⟩,.one ⟨false,[.ref 7]⟩,.one ⟨false,[.val (.int .i64 x2)]⟩],[.row false 9 (.str) x3,.row false 9 (.str) x4,.row false 9 (.str) x5,.row false 204 (.pair .str (.sl (178:Nat) (.pair (.int .i64) (.pair .str (.int .i64))))) x6,.row true 2 (.int .i64) x7,.row true 172 (.pair (.int .i64) (.pair (.int .i64) (.int .i64))) x8,.row false 2 (.int .i64) x9,.row false 178 (.pair (.int .i64) (.pair .str (.int .i64))) x10]=>some ⟨.one ⟨false,[.val (.int .i64 (DY x0 x1 x2 x3 x4 x5 x6 x7 x8 x9 x10))]⟩,[.row false 9 ahF x3,.row false 9 ahF x4,.row false 9 ahF x5,.row false 204 (CTy.pair CTy.str (CTy.sl (178:Nat) afk)) x6,.row true 2 agJ (DZ x0 x1 x2 x3 x4 x5 x6 x7 x8 x9 x10),.row true 172 aal (Ea x0 x1 x2 x3 x4 x5 x6 x7 x8 x9 x10),.row false 2 agJ x9,.row false 178 afk x10],[],[Eb x0 x1 x2 x3 x4 x5 x6 x7 x8 x9 x10]⟩
 |_,_=>none
def me:PF prog:=PF.ofG prog [PF.mark prog,mG,PF.lend mG,PF.fz mG,dx,PF.lend dx,PF.fz dx,oY,PF.lend oY,PF.fz oY,CV] [aU.F] aP 180 f180 func180 (LOk.fnT (l:= [aL f180 0]) (by kernel_rfl) (.cons Sd (.nil _))) Qi (by
 intro vs es r h;unfold Qi at h;split at h
 ·cases h;kernel_rfl
 ·cases h)
abbrev oq:=Int×Int×Int×ByteArray×ByteArray×List ByteArray×List ByteArray×List ByteArray×List (ByteArray×(List (Int×(ByteArray×Int))))
def wD(y1:Int)(y8:List (ByteArray×(List (Int×(ByteArray×Int))))):List (Int×ByteArray×Int):=(Option.getD y8[Int.toNat y1]? (qA (CTy.pair CTy.str (CTy.sl (178:Nat) afk)))).2
def Ed(y1:Int):Bool:=leI (0:Int) y1
def Ee(y1:Int)(y8:List (ByteArray×(List (Int×(ByteArray×Int))))):Bool:=ltI y1 (↑y8.length:Int)
def Ef(y1:Int)(y8:List (ByteArray×(List (Int×(ByteArray×Int))))):Bool:=ltN y1.toNat y8.length
def ut(y0 y1:Int)(y8:List (ByteArray×(List (Int×(ByteArray×Int))))):Bool:=ltI y0 (↑(List.length (wD y1 y8)):Int)
def Qt(y0:Int):Bool:=leI (0:Int) y0
def Qu(y0 y1:Int)(y8:List (ByteArray×(List (Int×(ByteArray×Int))))):Bool:=ltN y0.toNat (List.length (wD y1 y8))
def Qv(y0:Int):Int:=IntKind.wrap .i64 (y0 + (1:Int))
def JX(y0 y1 y2:Int)(y8:List (ByteArray×(List (Int×(ByteArray×Int))))):Int:=bif leI (7:Int) ((Option.getD (wD y1 y8)[Int.toNat y0]? ((0:Int),ByteArray.empty,(0:Int))).1)then IntKind.wrap .i64 (y2 + (1:Int))else y2
def XB:oq→List (Nat×SV)
 |(y0,y1,y2,_,_,_,_,_,_)=> [(14,(.one ⟨false,[.val (.int .i64 y0)]⟩)),(3,(.one ⟨false,[.ptr 0 0]⟩)),(11,(.one ⟨false,[.val (.int .i64 y1)]⟩)),(10,(.one ⟨false,[.val (.int .i64 y2)]⟩))]
def Xw:oq→List (Nat×Entry)
 |(_,_,_,y3,y4,y5,y6,y7,y8)=> [(0,(.box 63 [.val (.string y3),.ref 1,.ref 2,.ref 3,.val (.string y4),.ref 4])),(1,(.row false 9 ahF y5)),(2,(.row false 9 ahF y6)),(3,(.row false 9 ahF y7)),(4,(.row false 204 (CTy.pair CTy.str (CTy.sl (178:Nat) afk)) y8))]
def XN:Nat→oq→List (Nat×SV)
 |_,(_,_,y2,_,_,_,_,_,_)=> [(10,(.one ⟨false,[.val (.int .i64 y2)]⟩))]
def XH:Nat→oq→List (Nat×Entry)
 |_,(_,_,_,y3,y4,y5,y6,y7,y8)=> [(0,(.box 63 [.val (.string y3),.ref 1,.ref 2,.ref 3,.val (.string y4),.ref 4])),(1,(.row false 9 ahF y5)),(2,(.row false 9 ahF y6)),(3,(.row false 9 ahF y7)),(4,(.row false 204 (CTy.pair CTy.str (CTy.sl (178:Nat) afk)) y8))]
def wv:oq→LT oq
 |(y0,y1,y2,y3,y4,y5,y6,y7,y8)=> .need [Ed y1,Ee y1 y8,Ef y1 y8] (.ite (ut y0 y1 y8) (.need [Ed y1,Ee y1 y8,Ef y1 y8,Qt y0,ut y0 y1 y8,Qu y0 y1 y8] (.nrm ((Qv y0),y1,JX y0 y1 y2 y8,y3,y4,y5,y6,y7,y8) [(0,0),(1,1),(2,2),(3,3),(4,4)])) (.ext 0 [(0,0),(1,1),(2,2),(3,3),(4,4)]))
def Id(s:St):Option oq:=
 (match s.look 14 with
 |some ⟨none,.one ⟨false,[.val (.int .i64 y0)]⟩⟩=>
 (match s.look 3 with
 |some ⟨none,.one ⟨false,[.ptr 0 0]⟩⟩=>
 (match s.look 11 with
 |some ⟨none,.one ⟨false,[.val (.int .i64 y1)]⟩⟩=>
 (match s.look 10 with
 |some ⟨none,.one ⟨false,[.val (.int .i64 y2)]⟩⟩=>
 (match s.ent 0 with
 |some (.box 63 [.val (.string y3),.ref 4,.ref 5,.ref 6,.val (.string y4),.ref 7])=>
 (match s.ent 4 with
 |some (.row false 9 (.str) y5)=>
 (match s.ent 5 with
 |some (.row false 9 (.str) y6)=>
 (match s.ent 6 with
 |some (.row false 9 (.str) y7)=>
 (match s.ent 7 with
 |some (.row false 204 (.pair .str (.sl (178:Nat) (.pair (.int .i64) (.pair .str (.int .i64))))) y8)=>
 some (y0,y1,y2,y3,y4,y5,y6,y7,y8)
 |_=>none)
 |_=>none)
 |_=>none)
 |_=>none)
 |_=>none)
 |_=>none)
 |_=>none)
 |_=>none)
 |_=>none)
def fq:Lp oq where
 h:=⟨[67,68,69,70,71,72,73,74,75,78,79,80,81,82,83,84,85,86,87,88,89,90,10,76,77,14],[0,1,2,3,4],[],[]⟩
 JL:=XB
 JE:=Xw
 XL:=XN
 XE:=XH
 q:=fun j=>match j with | _=> .exit 2
 tags:= [0]
 lt:=wv
 fuel:=fun(y0,y1,y2,y3,y4,y5,y6,y7,y8)=>y0.natAbs + y1.natAbs + y2.natAbs + y3.size + y4.size + y5.length + y6.length + y7.length + y8.length
 fix:=fun(_,y1,_,y3,y4,y5,y6,y7,y8) (y0,_,y2,_,_,_,_,_,_)=>(y0,y1,y2,y3,y4,y5,y6,y7,y8)
 σ:= [(0,0),(1,4),(2,5),(3,6),(4,7)]
 rd:=Id
theorem Vc:LoopOk prog (memN [21,22,23,24,25,28,29,30,31,32,33,34,35,36,37,38,12,39,40,41,42,43,44,45,46,47,13,48,49,50,51,52,53,54,55,56,57,58,59,60,61,62,63,64,65,66,14,67,68,69,70,71,72,73,74,75,78,79,80,81,82,83,84,85,86,87,88,89,90,10,76,77,26,27,11]) fq.F (ZI (aL f113 0) 0):=by
 refine Lp.ok (tbl:= [bS,PF.lend bS,PF.fz bS,xy,PF.lend xy,PF.fz xy,vd,PF.lend vd,PF.fz vd,dx,PF.lend dx,PF.fz dx,me,PF.lend me,PF.fz me]) (lf:= []) aP fq (by kernel_rfl) (LOk.nil _) (fun _=>rfl) (fun _ _=>rfl) ?_ ?_ ?_ ?_ (fun _=>rfl) ?_
 ·rintro⟨y0,y1,y2,y3,y4,y5,y6,y7,y8⟩;kernel_rfl
 ·rintro⟨y0,y1,y2,y3,y4,y5,y6,y7,y8⟩;kernel_rfl
 ·intro s x h
  have h:Id s=some x:=h
  unfold Id at h
  repeat' split at h
  all_goals cases h
  exact⟨aa (by assumption) rfl (aa (by assumption) rfl (aa (by assumption) rfl (aa (by assumption) rfl (rfl)))),ab rfl (by assumption) rfl (ab rfl (by assumption) rfl (ab rfl (by assumption) rfl (ab rfl (by assumption) rfl (ab rfl (by assumption) rfl (rfl)))))⟩
 ·rintro⟨y0,y1,y2,y3,y4,y5,y6,y7,y8⟩;kernel_rfl
 ·rintro⟨y0,y1,y2,y3,y4,y5,y6,y7,y8⟩ z;exact(And.intro rfl trivial)
abbrev sv:=Int×Int×ByteArray×ByteArray×List Int×List Int×List ByteArray×List ByteArray×List ByteArray×List (ByteArray×(List (Int×(ByteArray×Int))))×List Int×List (Int×(Int×Int))
def Nh(y0:Int)(y9:List (ByteArray×(List (Int×(ByteArray×Int))))):Bool:=ltI y0 (↑y9.length:Int)
def Ni(y0:Int)(y9:List (ByteArray×(List (Int×(ByteArray×Int))))):Bool:=ltN y0.toNat y9.length
def rc(y0:Int)(y9:List (ByteArray×(List (Int×(ByteArray×Int))))):ByteArray×List (Int×ByteArray×Int):=Option.getD y9[Int.toNat y0]? (qA (CTy.pair CTy.str (CTy.sl (178:Nat) afk)))
def df(y0:Int)(y7:List ByteArray)(y9:List (ByteArray×(List (Int×(ByteArray×Int))))):Int:=iF y7 ((rc y0 y9).1)
def xf(y0 y1:Int)(y2 y3:ByteArray)(y4:List Int)(y6 y7 y8:List ByteArray)(y9:List (ByteArray×(List (Int×(ByteArray×Int)))))(y10:List Int)(y11:List (Int×(Int×Int))):List Int:=DZ y2 y3 y1 y6 y7 y8 y9 y10 y11 y4 ((rc y0 y9).2)
def xg(y0:Int)(y8:List ByteArray)(y9:List (ByteArray×(List (Int×(ByteArray×Int))))):Int:=iF y8 ((rc y0 y9).1)
def Nj(y0 y1:Int)(y2 y3:ByteArray)(y6 y7 y8:List ByteArray)(y9:List (ByteArray×(List (Int×(ByteArray×Int))))):Int×Int×Int×ByteArray×ByteArray×List ByteArray×List ByteArray×List ByteArray×List (ByteArray×List (Int×ByteArray×Int)):=((0:Int),y0,y1,y2,y3,y6,y7,y8,y9)
def Hh(y0 y1:Int)(y2 y3:ByteArray)(y4:List Int)(y6 y7 y8:List ByteArray)(y9:List (ByteArray×(List (Int×(ByteArray×Int)))))(y10:List Int)(y11:List (Int×(Int×Int))):Int:=DY y2 y3 y1 y6 y7 y8 y9 y10 y11 y4 ((rc y0 y9).2)
def Ec(y0:Int)(y9:List (ByteArray×(List (Int×(ByteArray×Int))))):Bool:=Nh y0 y9
def OG(y0:Int):Bool:=leI (0:Int) y0
def OH(y0:Int)(y9:List (ByteArray×(List (Int×(ByteArray×Int))))):Bool:=Ni y0 y9
def OI(y0 y1:Int)(y2 y3:ByteArray)(y4:List Int)(y6 y7 y8:List ByteArray)(y9:List (ByteArray×(List (Int×(ByteArray×Int)))))(y10:List Int)(y11:List (Int×(Int×Int))):Bool:=Eb y2 y3 y1 y6 y7 y8 y9 y10 y11 y4 ((rc y0 y9).2)
def TA(y7:List ByteArray):Bool:=leN y7.length (9223372036854775807:Nat)
def OJ(y0:Int)(y7:List ByteArray)(y9:List (ByteArray×(List (Int×(ByteArray×Int))))):Bool:= !leI (0:Int) (df y0 y7 y9)||leI (0:Int) (df y0 y7 y9)
def OK(y0 y1:Int)(y2 y3:ByteArray)(y4:List Int)(y6 y7 y8:List ByteArray)(y9:List (ByteArray×(List (Int×(ByteArray×Int)))))(y10:List Int)(y11:List (Int×(Int×Int))):Bool:= !leI (0:Int) (df y0 y7 y9)||ltI (df y0 y7 y9) (↑(List.length (xf y0 y1 y2 y3 y4 y6 y7 y8 y9 y10 y11)):Int)
def OL(y0 y1:Int)(y2 y3:ByteArray)(y4:List Int)(y6 y7 y8:List ByteArray)(y9:List (ByteArray×(List (Int×(ByteArray×Int)))))(y10:List Int)(y11:List (Int×(Int×Int))):Bool:= !leI (0:Int) (df y0 y7 y9)||ltN (Int.toNat (df y0 y7 y9)) (List.length (xf y0 y1 y2 y3 y4 y6 y7 y8 y9 y10 y11))
def OM(y0:Int)(y7:List ByteArray)(y9:List (ByteArray×(List (Int×(ByteArray×Int))))):Bool:=leI (0:Int) (df y0 y7 y9)||leI (0:Int) y0
def ON(y0:Int)(y7:List ByteArray)(y9:List (ByteArray×(List (Int×(ByteArray×Int))))):Bool:=leI (0:Int) (df y0 y7 y9)||Nh y0 y9
def MX(y0:Int)(y7:List ByteArray)(y9:List (ByteArray×(List (Int×(ByteArray×Int))))):Bool:=leI (0:Int) (df y0 y7 y9)||Ni y0 y9
def MY(y0:Int)(y7 y8:List ByteArray)(y9:List (ByteArray×(List (Int×(ByteArray×Int))))):Bool:=leI (0:Int) (df y0 y7 y9)||leN y8.length (9223372036854775807:Nat)
def MZ(y0:Int)(y7 y8:List ByteArray)(y9:List (ByteArray×(List (Int×(ByteArray×Int))))):Bool:=leI (0:Int) (df y0 y7 y9)||leI (0:Int) (xg y0 y8 y9)
def Na(y0:Int)(y5:List Int)(y7 y8:List ByteArray)(y9:List (ByteArray×(List (Int×(ByteArray×Int))))):Bool:=leI (0:Int) (df y0 y7 y9)||ltI (xg y0 y8 y9) (↑y5.length:Int)
def Nb(y0:Int)(y5:List Int)(y7 y8:List ByteArray)(y9:List (ByteArray×(List (Int×(ByteArray×Int))))):Bool:=leI (0:Int) (df y0 y7 y9)||ltN (Int.toNat (xg y0 y8 y9)) y5.length
def SI(y0 y1:Int)(y2 y3:ByteArray)(y6 y7 y8:List ByteArray)(y9:List (ByteArray×(List (Int×(ByteArray×Int))))):Bool:=Lp.fin fq (Nj y0 y1 y2 y3 y6 y7 y8 y9)
def SJ(y0:Int):Int:=IntKind.wrap .i64 (y0 + (1:Int))
def Nc(y0 y1:Int)(y2 y3:ByteArray)(y6 y7 y8:List ByteArray)(y9:List (ByteArray×(List (Int×(ByteArray×Int))))):Int:=((Lp.res fq (Nj y0 y1 y2 y3 y6 y7 y8 y9)).2.2.2).1
def Nd(y0 y1:Int)(y2 y3:ByteArray)(y4 y5:List Int)(y6 y7 y8:List ByteArray)(y9:List (ByteArray×(List (Int×(ByteArray×Int)))))(y10:List Int)(y11:List (Int×(Int×Int))):List Int:=bif leI (0:Int) (df y0 y7 y9)then y5 else List.set y5 (Int.toNat (xg y0 y8 y9)) (Hh y0 y1 y2 y3 y4 y6 y7 y8 y9 y10 y11)
def Nf(y0 y1:Int)(y2 y3:ByteArray)(y4:List Int)(y6 y7 y8:List ByteArray)(y9:List (ByteArray×(List (Int×(ByteArray×Int)))))(y10:List Int)(y11:List (Int×(Int×Int))):List Int:=bif leI (0:Int) (df y0 y7 y9)then List.set (xf y0 y1 y2 y3 y4 y6 y7 y8 y9 y10 y11) (Int.toNat (df y0 y7 y9)) (Hh y0 y1 y2 y3 y4 y6 y7 y8 y9 y10 y11)else xf y0 y1 y2 y3 y4 y6 y7 y8 y9 y10 y11
def Ng(y0 y1:Int)(y2 y3:ByteArray)(y4:List Int)(y6 y7 y8:List ByteArray)(y9:List (ByteArray×(List (Int×(ByteArray×Int)))))(y10:List Int)(y11:List (Int×(Int×Int))):List (Int×(Int×Int)):=Ea y2 y3 y1 y6 y7 y8 y9 y10 y11 y4 ((rc y0 y9).2)
def acq:sv→List (Nat×SV)
 |(y0,y1,_,_,_,_,_,_,_,_,_,_)=> [(11,(.one ⟨false,[.val (.int .i64 y0)]⟩)),(3,(.one ⟨false,[.ptr 0 0]⟩)),(8,(.one ⟨false,[.ptr 1 0]⟩)),(2,(.one ⟨false,[.ref 2]⟩)),(10,(.one ⟨false,[.val (.int .i64 y1)]⟩)),(9,(.one ⟨false,[.ref 3]⟩))]
def acg:sv→List (Nat×Entry)
 |(_,_,y2,y3,y4,y5,y6,y7,y8,y9,y10,y11)=> [(0,(.box 63 [.val (.string y2),.ref 4,.ref 5,.ref 6,.val (.string y3),.ref 7])),(1,(.box 48 [.ref 8,.ref 9])),(2,(.row false 2 agJ y4)),(3,(.row true 2 agJ y5)),(4,(.row false 9 ahF y6)),(5,(.row false 9 ahF y7)),(6,(.row false 9 ahF y8)),(7,(.row false 204 (CTy.pair CTy.str (CTy.sl (178:Nat) afk)) y9)),(8,(.row true 2 agJ y10)),(9,(.row true 172 aal y11))]
def acK:Nat→sv→List (Nat×SV)
 |_,(_,_,_,_,_,_,_,_,_,_,_,_)=> []
def acA:Nat→sv→List (Nat×Entry)
 |_,(_,_,y2,y3,y4,y5,y6,y7,y8,y9,y10,y11)=> [(0,(.box 63 [.val (.string y2),.ref 4,.ref 5,.ref 6,.val (.string y3),.ref 7])),(1,(.box 48 [.ref 8,.ref 9])),(2,(.row false 2 agJ y4)),(3,(.row true 2 agJ y5)),(4,(.row false 9 ahF y6)),(5,(.row false 9 ahF y7)),(6,(.row false 9 ahF y8)),(7,(.row false 204 (CTy.pair CTy.str (CTy.sl (178:Nat) afk)) y9)),(8,(.row true 2 agJ y10)),(9,(.row true 172 aal y11))]
def BV:sv→LT sv
 |(y0,y1,y2,y3,y4,y5,y6,y7,y8,y9,y10,y11)=> .ite (Ec y0 y9) (.need [OG y0,Ec y0 y9,OH y0 y9,OI y0 y1 y2 y3 y4 y6 y7 y8 y9 y10 y11] (.need [OG y0,Ec y0 y9,OH y0 y9,TA y7] (.need [OJ y0 y7 y9,OK y0 y1 y2 y3 y4 y6 y7 y8 y9 y10 y11,OL y0 y1 y2 y3 y4 y6 y7 y8 y9 y10 y11,OM y0 y7 y9,ON y0 y7 y9,MX y0 y7 y9,MY y0 y7 y8 y9,MZ y0 y7 y8 y9,Na y0 y5 y7 y8 y9,Nb y0 y5 y7 y8 y9] (.need [SI y0 y1 y2 y3 y6 y7 y8 y9] (.nrm ((SJ y0),Nc y0 y1 y2 y3 y6 y7 y8 y9,y2,y3,y4,Nd y0 y1 y2 y3 y4 y5 y6 y7 y8 y9 y10 y11,y6,y7,y8,y9,Nf y0 y1 y2 y3 y4 y6 y7 y8 y9 y10 y11,(Ng y0 y1 y2 y3 y4 y6 y7 y8 y9 y10 y11)) [(0,0),(1,1),(2,2),(3,3),(4,4),(5,5),(6,6),(7,7),(8,8),(9,9)]))))) (.ext 0 [(0,0),(1,1),(2,2),(3,3),(4,4),(5,5),(6,6),(7,7),(8,8),(9,9)])
def MN(s:St):Option sv:=
 (match s.look 11 with
 |some ⟨none,.one ⟨false,[.val (.int .i64 y0)]⟩⟩=>
 (match s.look 3 with
 |some ⟨none,.one ⟨false,[.ptr 512 0]⟩⟩=>
 (match s.look 8 with
 |some ⟨none,.one ⟨false,[.ptr 896 0]⟩⟩=>
 (match s.look 2 with
 |some ⟨none,.one ⟨false,[.ref 6]⟩⟩=>
 (match s.look 10 with
 |some ⟨none,.one ⟨false,[.val (.int .i64 y1)]⟩⟩=>
 (match s.look 9 with
 |some ⟨none,.one ⟨false,[.ref 1216]⟩⟩=>
 (match s.ent 512 with
 |some (.box 63 [.val (.string y2),.ref 0,.ref 1,.ref 2,.val (.string y3),.ref 3])=>
 (match s.ent 896 with
 |some (.box 48 [.ref 832,.ref 833])=>
 (match s.ent 6 with
 |some (.row false 2 (.int .i64) y4)=>
 (match s.ent 1216 with
 |some (.row true 2 (.int .i64) y5)=>
 (match s.ent 0 with
 |some (.row false 9 (.str) y6)=>
 (match s.ent 1 with
 |some (.row false 9 (.str) y7)=>
 (match s.ent 2 with
 |some (.row false 9 (.str) y8)=>
 (match s.ent 3 with
 |some (.row false 204 (.pair .str (.sl (178:Nat) (.pair (.int .i64) (.pair .str (.int .i64))))) y9)=>
 (match s.ent 832 with
 |some (.row true 2 (.int .i64) y10)=>
 (match s.ent 833 with
 |some (.row true 172 (.pair (.int .i64) (.pair (.int .i64) (.int .i64))) y11)=>
 some (y0,y1,y2,y3,y4,y5,y6,y7,y8,y9,y10,y11)
 |_=>none)
 |_=>none)
 |_=>none)
 |_=>none)
 |_=>none)
 |_=>none)
 |_=>none)
 |_=>none)
 |_=>none)
 |_=>none)
 |_=>none)
 |_=>none)
 |_=>none)
 |_=>none)
 |_=>none)
 |_=>none)
def iu:Lp sv where
 h:=⟨[21,22,23,24,25,28,29,30,31,32,33,34,35,36,37,38,12,39,40,41,42,43,44,45,46,47,13,48,49,50,51,52,53,54,55,56,57,58,59,60,61,62,63,64,65,66,14,67,68,69,70,71,72,73,74,75,78,79,80,81,82,83,84,85,86,87,88,89,90,10,76,77,26,27,11],[0,1,2,3,4,5,6,7,8,9],[],[]⟩
 JL:=acq
 JE:=acg
 XL:=acK
 XE:=acA
 q:=fun j=>match j with | _=> .exit 0
 tags:= [0]
 lt:=BV
 fuel:=fun(y0,y1,y2,y3,y4,y5,y6,y7,y8,y9,y10,y11)=>y0.natAbs + y1.natAbs + y2.size + y3.size + y4.length + y5.length + y6.length + y7.length + y8.length + y9.length + y10.length + y11.length
 fix:=fun(_,_,y2,y3,y4,_,y6,y7,y8,y9,_,_) (y0,y1,_,_,_,y5,_,_,_,_,y10,y11)=>(y0,y1,y2,y3,y4,y5,y6,y7,y8,y9,y10,y11)
 σ:= [(0,512),(1,896),(2,6),(3,1216),(4,0),(5,1),(6,2),(7,3),(8,832),(9,833)]
 rd:=MN
theorem ZR:LoopOk prog (fun k=>Nat.blt k Tryz.f113.ntmps) iu.F (aL f113 0):=by
 refine Lp.ok (tbl:= [bS,PF.lend bS,PF.fz bS,xy,PF.lend xy,PF.fz xy,vd,PF.lend vd,PF.fz vd,dx,PF.lend dx,PF.fz dx,me,PF.lend me,PF.fz me]) (lf:= [fq.F]) aP iu (by kernel_rfl) (LOk.allT (l:= [ZI (aL f113 0) 0]) (by kernel_rfl) (.cons Vc (.nil _))) (fun _=>rfl) (fun _ _=>rfl) ?_ ?_ ?_ ?_ (fun _=>rfl) ?_
 ·rintro⟨y0,y1,y2,y3,y4,y5,y6,y7,y8,y9,y10,y11⟩;kernel_rfl
 ·rintro⟨y0,y1,y2,y3,y4,y5,y6,y7,y8,y9,y10,y11⟩;kernel_rfl
 ·intro s x h
  have h:MN s=some x:=h
  unfold MN at h
  repeat' split at h
  all_goals cases h
  exact⟨aa (by assumption) rfl (aa (by assumption) rfl (aa (by assumption) rfl (aa (by assumption) rfl (aa (by assumption) rfl (aa (by assumption) rfl (rfl)))))),ab rfl (by assumption) rfl (ab rfl (by assumption) rfl (ab rfl (by assumption) rfl (ab rfl (by assumption) rfl (ab rfl (by assumption) rfl (ab rfl (by assumption) rfl (ab rfl (by assumption) rfl (ab rfl (by assumption) rfl (ab rfl (by assumption) rfl (ab rfl (by assumption) rfl (rfl))))))))))⟩
 ·rintro⟨y0,y1,y2,y3,y4,y5,y6,y7,y8,y9,y10,y11⟩;kernel_rfl
 ·rintro⟨y0,y1,y2,y3,y4,y5,y6,y7,y8,y9,y10,y11⟩ z;exact(And.intro rfl trivial)
def CW(x1:ByteArray):Bool:=
 !ByteArray.toList x1==ByteArray.toList { data:= #[] }
section
variable (x0 x1:ByteArray)(x2 x3 x4:List ByteArray)(x5:List (ByteArray×List (Int×ByteArray×Int)))(x6:List Int)(x7:List (Int×Int×Int))(x8:List Int)
def Mg:List Int:=List.replicate (Int.toNat (↑x4.length:Int)) (0:Int)
def Hw:Int×Int×ByteArray×ByteArray×List Int×List Int×List ByteArray×List ByteArray×List ByteArray×List (ByteArray×List (Int×ByteArray×Int))×List Int×List (Int×Int×Int):=((0:Int),(0:Int),x0,x1,x8,Mg x4,x2,x3,x4,x5,x6,x7)
def Mh:List Int×List ByteArray×List ByteArray×List ByteArray×List (ByteArray×List (Int×ByteArray×Int))×List Int×List (Int×Int×Int):=(Lp.res iu (Hw x0 x1 x2 x3 x4 x5 x6 x7 x8)).2.2.2.2.2.2
def Mi:List Int×List (Int×Int×Int):=(Mh x0 x1 x2 x3 x4 x5 x6 x7 x8).2.2.2.2.2
def CX:List Int:=(Mi x0 x1 x2 x3 x4 x5 x6 x7 x8).1
def tb:Bool:=bif CW x1 then rn x1 x2 x3 (CX x0 x1 x2 x3 x4 x5 x6 x7 x8) x8==(0:Int)else false
def Mj:List Int:=bif CW x1&&true then CX x0 x1 x2 x3 x4 x5 x6 x7 x8 else CX x0 x1 x2 x3 x4 x5 x6 x7 x8
def Mk:List (Int×Int×Int):=(Mi x0 x1 x2 x3 x4 x5 x6 x7 x8).2
def Ml:List (Int×Int×Int):=bif CW x1&&true then Mk x0 x1 x2 x3 x4 x5 x6 x7 x8 else Mk x0 x1 x2 x3 x4 x5 x6 x7 x8
def PT:Bool:=leI (↑x4.length:Int) (↑x4.length:Int)
def PU:Bool:=leI ((↑(8:Nat):Int) * (↑x4.length:Int)) (281474976710656:Int)
def SE:List Int:=bif tb x0 x1 x2 x3 x4 x5 x6 x7 x8 then Mg x4 else (Mh x0 x1 x2 x3 x4 x5 x6 x7 x8).1
def SF:List Int:=bif tb x0 x1 x2 x3 x4 x5 x6 x7 x8 then Mj x0 x1 x2 x3 x4 x5 x6 x7 x8 else Mj x0 x1 x2 x3 x4 x5 x6 x7 x8
def SG:List (Int×(Int×Int)):=bif tb x0 x1 x2 x3 x4 x5 x6 x7 x8 then Ml x0 x1 x2 x3 x4 x5 x6 x7 x8 else Ml x0 x1 x2 x3 x4 x5 x6 x7 x8
def SH:Bool:=allT [Qc x6 x7,leI (0:Int) (↑x4.length:Int),PT x4,PU x4,leI (↑x4.length:Int) (9223372036854775807:Int),Lp.fin iu (Hw x0 x1 x2 x3 x4 x5 x6 x7 x8),!(CW x1&&true)||ro x1 x2 x3 (CX x0 x1 x2 x3 x4 x5 x6 x7 x8) x8,!tb x0 x1 x2 x3 x4 x5 x6 x7 x8||leI (0:Int) (↑x4.length:Int),!tb x0 x1 x2 x3 x4 x5 x6 x7 x8||PT x4,!tb x0 x1 x2 x3 x4 x5 x6 x7 x8||PU x4,!tb x0 x1 x2 x3 x4 x5 x6 x7 x8||leI (↑x4.length:Int) (9223372036854775807:Int)]
end
def Ys:List SV→List Entry→Option Out
 | [.one ⟨true,[.val (.string x0),.ref 0,.ref 1,.ref 2,.val (.string x1),.ref 3]⟩,.one ⟨true,[.ref 4,.ref 5]⟩,.one ⟨false,[.ref 6]⟩],[.row false 9 (.str) x2,.row false 9 (.str) x3,.row false 9 (.str) x4,.row false 204 (.pair (.str) (.sl 178 (.pair (.int .i64) (.pair (.str) (.int .i64))))) x5,.row false 2 (.int .i64) x6,.row false 172 (.pair (.int .i64) (.pair (.int .i64) (.int .i64))) x7,.row false 2 (.int .i64) x8]=>some ⟨.tup [⟨false,[.ref 7]⟩,⟨true,[.ref 8,.ref 9]⟩],[.row false 9 ahF x2,.row false 9 ahF x3,.row false 9 ahF x4,.row false 204 (CTy.pair CTy.str (CTy.sl (178:TypeId) afk)) x5,.row false 2 agJ x6,.row false 172 aal x7,.row false 2 agJ x8],[.row true 2 agJ (SE x0 x1 x2 x3 x4 x5 x6 x7 x8),.row true 2 agJ (SF x0 x1 x2 x3 x4 x5 x6 x7 x8),.row true 172 aal (SG x0 x1 x2 x3 x4 x5 x6 x7 x8)],[SH x0 x1 x2 x3 x4 x5 x6 x7 x8]⟩
 |_,_=>none
def ah9:PF prog:=PF.ofG prog [bS,PF.lend bS,PF.fz bS,xy,PF.lend xy,PF.fz xy,vd,PF.lend vd,PF.fz vd,dx,PF.lend dx,PF.fz dx,me,PF.lend me,PF.fz me] [iu.F] aP 113 f113 func113 (LOk.fnT (l:= [aL f113 0]) (by kernel_rfl) (.cons ZR (.nil _))) Ys (by
 intro vs es r h;unfold Ys at h;split at h
 ·cases h;kernel_rfl
 ·cases h)
def kW(x0:List Int)(x1:List (Int×Int×Int)):Bool:=allT [leN x0.length (1048576:Nat),leN x1.length (1048576:Nat)]
def vY:List SV→List Entry→Option Out
 | [.one ⟨true,[.ref 0,.ref 1]⟩],[.row false 2 (.int .i64) x0,.row false 172 (.pair (.int .i64) (.pair (.int .i64) (.int .i64))) x1]=>some ⟨.one ⟨true,[.ref 2,.ref 3]⟩,[.row false 2 agJ x0,.row false 172 aal x1],[.row true 2 agJ x0,.row true 172 aal x1],[kW x0 x1]⟩
 |_,_=>none
def wx:PF prog:=PF.ofG prog [BZ,PF.lend BZ,PF.fz BZ,wT,PF.lend wT,PF.fz wT] [] aP 176 f176 func176 (fun c _=>LOk.nil c) vY (by
 intro vs es r h;unfold vY at h;split at h
 ·cases h;kernel_rfl
 ·cases h)
def yU(x0:List Int)(x3:List ByteArray):Bool:= !bitsB (↑x3.length:Int) x0
def Fx(x0:List Int):Bool:=allT [leN x0.length (9223372036854775807:Nat)]
def Nl:List SV→List Entry→Option Out
 | [.one ⟨false,[.ref 0]⟩,.one ⟨false,[.ptr 1 0]⟩],[.row false 2 (.int .i64) x0,.box 63 [.val (.string x1),.ref 2,.ref 3,.ref 4,.val (.string x2),.ref 5],.row false 9 (.str) x3,.row false 9 (.str) x4,.row false 9 (.str) x5,.row false 204 (.pair .str (.sl (178:Nat) (.pair (.int .i64) (.pair .str (.int .i64))))) x6]=>some ⟨.one ⟨false,[.val (.bool (yU x0 x3))]⟩,[.row false 2 agJ x0,.box 63 [.val (.string x1),.ref 2,.ref 3,.ref 4,.val (.string x2),.ref 5],.row false 9 ahF x3,.row false 9 ahF x4,.row false 9 ahF x5,.row false 204 (CTy.pair CTy.str (CTy.sl (178:Nat) afk)) x6],[],[Fx x0]⟩
 |_,_=>none
def qr:PF prog:=PF.ofG prog [uZ,PF.lend uZ,PF.fz uZ] [] aP 175 f175 func175 (fun c _=>LOk.nil c) Nl (by
 intro vs es r h;unfold Nl at h;split at h
 ·cases h;kernel_rfl
 ·cases h)
abbrev bq:=Int×Int×ByteArray×ByteArray×List (List Int)×List ByteArray×List ByteArray×List ByteArray×List (ByteArray×(List (Int×(ByteArray×Int))))
section
variable (y0 y1:Int)(y4:List (List Int))(y5:List ByteArray)
def cn:List Int:=Option.getD y4[Int.toNat y0]? (qA (CTy.sl (2:Nat) agJ))
def iw:Bool:=ltI y0 y1
def lL:Bool:=leI (0:Int) y0
def lM:Bool:=ltI y0 (↑y4.length:Int)
def lN:Bool:=ltN y0.toNat y4.length
def iy:Bool:=Fx (cn y0 y4)
def iz:Bool:=yU (cn y0 y4) y5
def qo:Int:=IntKind.wrap .i64 (y0 + (1:Int))
end
def HK:bq→List (Nat×SV)
 |(y0,y1,_,_,_,_,_,_,_)=> [(8,(.one ⟨false,[.val (.int .i64 y0)]⟩)),(7,(.one ⟨false,[.val (.int .i64 y1)]⟩)),(1,(.one ⟨false,[.clo 175 [0]]⟩)),(0,(.one ⟨false,[.ref 1]⟩))]
def HJ:bq→List (Nat×Entry)
 |(_,_,y2,y3,y4,y5,y6,y7,y8)=> [(0,(.box 63 [.val (.string y2),.ref 2,.ref 3,.ref 4,.val (.string y3),.ref 5])),(1,(.row false 41 (CTy.sl (2:Nat) agJ) y4)),(2,(.row false 9 ahF y5)),(3,(.row false 9 ahF y6)),(4,(.row false 9 ahF y7)),(5,(.row false 204 (CTy.pair CTy.str (CTy.sl (178:Nat) afk)) y8))]
def HN:Nat→bq→List (Nat×SV)
 |0,(y0,_,_,_,_,_,_,_,_)=> [(4,(.one ⟨false,[.val (.int .i64 y0)]⟩))]
 |_,(_,_,_,_,_,_,_,_,_)=> []
def HM:Nat→bq→List (Nat×Entry)
 |0,(_,_,y2,y3,y4,y5,y6,y7,y8)=> [(0,(.box 63 [.val (.string y2),.ref 2,.ref 3,.ref 4,.val (.string y3),.ref 5])),(1,(.row false 41 (CTy.sl (2:Nat) agJ) y4)),(2,(.row false 9 ahF y5)),(3,(.row false 9 ahF y6)),(4,(.row false 9 ahF y7)),(5,(.row false 204 (CTy.pair CTy.str (CTy.sl (178:Nat) afk)) y8))]
 |_,(_,_,y2,y3,y4,y5,y6,y7,y8)=> [(0,(.box 63 [.val (.string y2),.ref 2,.ref 3,.ref 4,.val (.string y3),.ref 5])),(1,(.row false 41 (CTy.sl (2:Nat) agJ) y4)),(2,(.row false 9 ahF y5)),(3,(.row false 9 ahF y6)),(4,(.row false 9 ahF y7)),(5,(.row false 204 (CTy.pair CTy.str (CTy.sl (178:Nat) afk)) y8))]
def hZ:bq→LT bq
 |(y0,y1,y2,y3,y4,y5,y6,y7,y8)=> .ite (iw y0 y1) (.need [lL y0,lM y0 y4,lN y0 y4,iy y0 y4] (.ite (iz y0 y4 y5) (.ext 0 [(0,0),(1,1),(2,2),(3,3),(4,4),(5,5)]) (.nrm ((qo y0),y1,y2,y3,y4,y5,y6,y7,y8) [(0,0),(1,1),(2,2),(3,3),(4,4),(5,5)]))) (.ext 1 [(0,0),(1,1),(2,2),(3,3),(4,4),(5,5)])
def pQ(s:St):Option bq:=
 (match s.look 8 with
 |some ⟨none,.one ⟨false,[.val (.int .i64 y0)]⟩⟩=>
 (match s.look 7 with
 |some ⟨none,.one ⟨false,[.val (.int .i64 y1)]⟩⟩=>
 (match s.look 1 with
 |some ⟨none,.one ⟨false,[.clo 175 [1]]⟩⟩=>
 (match s.look 0 with
 |some ⟨none,.one ⟨false,[.ref 0]⟩⟩=>
 (match s.ent 1 with
 |some (.box 63 [.val (.string y2),.ref 2,.ref 3,.ref 4,.val (.string y3),.ref 5])=>
 (match s.ent 0 with
 |some (.row false 41 (.sl 2 (.int .i64)) y4)=>
 (match s.ent 2 with
 |some (.row false 9 (.str) y5)=>
 (match s.ent 3 with
 |some (.row false 9 (.str) y6)=>
 (match s.ent 4 with
 |some (.row false 9 (.str) y7)=>
 (match s.ent 5 with
 |some (.row false 204 (.pair .str (.sl (178:Nat) (.pair (.int .i64) (.pair .str (.int .i64))))) y8)=>
 some (y0,y1,y2,y3,y4,y5,y6,y7,y8)
 |_=>none)
 |_=>none)
 |_=>none)
 |_=>none)
 |_=>none)
 |_=>none)
 |_=>none)
 |_=>none)
 |_=>none)
 |_=>none)
def aq:Lp bq where
 h:=⟨[9,10,5,11,12,13,14,15,16,17,4,18,8],[0,1,2,3,4,5],[],[]⟩
 JL:=HK
 JE:=HJ
 XL:=HN
 XE:=HM
 q:=fun j=>match j with | 0=> .ret | _=> .exit 0
 tags:= [0,1]
 lt:=hZ
 fuel:=fun(y0,y1,y2,y3,y4,y5,y6,y7,y8)=>y0.natAbs + y1.natAbs + y2.size + y3.size + y4.length + y5.length + y6.length + y7.length + y8.length
 fix:=fun(_,y1,y2,y3,y4,y5,y6,y7,y8) (y0,_,_,_,_,_,_,_,_)=>(y0,y1,y2,y3,y4,y5,y6,y7,y8)
 σ:= [(0,1),(1,0),(2,2),(3,3),(4,4),(5,5)]
 rd:=pQ
theorem GO:LoopOk prog (fun k=>Nat.blt k Tryz.f217.ntmps) aq.F (aL f217 0):=by
 refine Lp.ok (tbl:= [qr,PF.lend qr,PF.fz qr]) (lf:= []) aP aq (by kernel_rfl) (LOk.nil _) (fun _=>rfl) (fun j _=>by unfold aq;match j with | 0=>rfl | _ + 1=>rfl) ?_ ?_ ?_ ?_ (fun _=>rfl) ?_
 ·rintro⟨y0,y1,y2,y3,y4,y5,y6,y7,y8⟩;kernel_rfl
 ·rintro⟨y0,y1,y2,y3,y4,y5,y6,y7,y8⟩;kernel_rfl
 ·intro s x h
  have h:pQ s=some x:=h
  unfold pQ at h
  repeat' split at h
  all_goals cases h
  exact⟨aa (by assumption) rfl (aa (by assumption) rfl (aa (by assumption) rfl (aa (by assumption) rfl (rfl)))),ab rfl (by assumption) rfl (ab rfl (by assumption) rfl (ab rfl (by assumption) rfl (ab rfl (by assumption) rfl (ab rfl (by assumption) rfl (ab rfl (by assumption) rfl (rfl))))))⟩
 ·rintro⟨y0,y1,y2,y3,y4,y5,y6,y7,y8⟩;kernel_rfl
 ·rintro⟨y0,y1,y2,y3,y4,y5,y6,y7,y8⟩ z;exact(And.intro (And.intro trivial rfl) trivial)
section
variable (x0:List (List Int))(x1 x2:ByteArray)(x3 x4 x5:List ByteArray)(x6:List (ByteArray×List (Int×ByteArray×Int)))
def jB:Int×Int×ByteArray×ByteArray×List (List Int)×List ByteArray×List ByteArray×List ByteArray×List (ByteArray×List (Int×ByteArray×Int)):=((0:Int),(↑x0.length:Int),x1,x2,x0,x3,x4,x5,x6)
def na:Bool:=Nat.beq ((Lp.res aq (jB x0 x1 x2 x3 x4 x5 x6)).1) (0:Nat)
def sg:Int:=bif na x0 x1 x2 x3 x4 x5 x6 then ((Lp.res aq (jB x0 x1 x2 x3 x4 x5 x6)).2).1else(-1:Int)
def Av:ByteArray:=bif na x0 x1 x2 x3 x4 x5 x6 then x1 else x1
def Aw:ByteArray:=bif na x0 x1 x2 x3 x4 x5 x6 then x2 else x2
def si:Bool:=allT [Lp.fin aq (jB x0 x1 x2 x3 x4 x5 x6)]
end
def zq:List SV→List Entry→Option Out
 | [.one ⟨false,[.ref 0]⟩,.one ⟨false,[.clo 175 [1]]⟩],[.row false 41 (.sl 2 (.int .i64)) x0,.box 63 [.val (.string x1),.ref 2,.ref 3,.ref 4,.val (.string x2),.ref 5],.row false 9 (.str) x3,.row false 9 (.str) x4,.row false 9 (.str) x5,.row false 204 (.pair .str (.sl (178:Nat) (.pair (.int .i64) (.pair .str (.int .i64))))) x6]=>some ⟨.one ⟨false,[.val (.int .i64 (sg x0 x1 x2 x3 x4 x5 x6))]⟩,[.row false 41 (CTy.sl (2:Nat) agJ) x0,.box 63 [.val (.string (Av x0 x1 x2 x3 x4 x5 x6)),.ref 2,.ref 3,.ref 4,.val (.string (Aw x0 x1 x2 x3 x4 x5 x6)),.ref 5],.row false 9 ahF x3,.row false 9 ahF x4,.row false 9 ahF x5,.row false 204 (CTy.pair CTy.str (CTy.sl (178:Nat) afk)) x6],[],[si x0 x1 x2 x3 x4 x5 x6]⟩
 |_,_=>none
def sf:PF prog:=PF.ofG prog [qr,PF.lend qr,PF.fz qr] [aq.F] aP 217 f217 func217 (LOk.fnT (l:= [aL f217 0]) (by kernel_rfl) (.cons GO (.nil _))) zq (by
 intro vs es r h;unfold zq at h;split at h
 ·cases h;kernel_rfl
 ·cases h)
section
variable (x0:List (List Int))(x1 x2:ByteArray)(x3 x4 x5:List ByteArray)(x6:List (ByteArray×List (Int×ByteArray×Int)))
def lJ:Bool:=leI (0:Int) (sg x0 x1 x2 x3 x4 x5 x6)
def IQ:ByteArray:=Av x0 x1 x2 x3 x4 x5 x6
def IR:ByteArray:=Aw x0 x1 x2 x3 x4 x5 x6
def lK:Bool:=allT [si x0 x1 x2 x3 x4 x5 x6]
end
def xl:List SV→List Entry→Option Out
 | [.one ⟨false,[.ref 0]⟩,.one ⟨false,[.clo 175 [1]]⟩],[.row false 41 (.sl 2 (.int .i64)) x0,.box 63 [.val (.string x1),.ref 2,.ref 3,.ref 4,.val (.string x2),.ref 5],.row false 9 (.str) x3,.row false 9 (.str) x4,.row false 9 (.str) x5,.row false 204 (.pair .str (.sl (178:Nat) (.pair (.int .i64) (.pair .str (.int .i64))))) x6]=>some ⟨.one ⟨false,[.val (.bool (lJ x0 x1 x2 x3 x4 x5 x6))]⟩,[.row false 41 (CTy.sl (2:Nat) agJ) x0,.box 63 [.val (.string (IQ x0 x1 x2 x3 x4 x5 x6)),.ref 2,.ref 3,.ref 4,.val (.string (IR x0 x1 x2 x3 x4 x5 x6)),.ref 5],.row false 9 ahF x3,.row false 9 ahF x4,.row false 9 ahF x5,.row false 204 (CTy.pair CTy.str (CTy.sl (178:Nat) afk)) x6],[],[lK x0 x1 x2 x3 x4 x5 x6]⟩
 |_,_=>none
def qn:PF prog:=PF.ofG prog [sf,PF.lend sf,PF.fz sf] [] aP 163 f163 func163 (fun c _=>LOk.nil c) xl (by
 intro vs es r h;unfold xl at h;split at h
 ·cases h;kernel_rfl
 ·cases h)
def QG(x0 x1:ByteArray)(x2 x3 x4:List ByteArray)(x5:List (ByteArray×List (Int×ByteArray×Int)))(x6:List Int)(x7:List (Int×Int×Int))(x8:List (List Int)):Int:=bif !mI x0 x2 x3 x4 x1 x5 then(1:Int)else bif bif !Ga (↑x3.length:Int) (blL x5) x6 x7 then true else lJ x8 x0 x1 x2 x3 x4 x5 then(2:Int)else(0:Int)
def QH(x0 x1:ByteArray)(x2 x3 x4:List ByteArray)(x5:List (ByteArray×List (Int×ByteArray×Int)))(x6:List Int)(x7:List (Int×Int×Int))(x8:List (List Int)):Bool:=allT [prOk x0 x2 x3 x4 x1 x5,!mI x0 x2 x3 x4 x1 x5||Xf x5,!mI x0 x2 x3 x4 x1 x5||leN x6.length (9223372036854775807:Nat)&&(leN (List.length (blL x5)) (9223372036854775807:Nat)&&abM (blL x5)),!mI x0 x2 x3 x4 x1 x5||(!(!!Ga (↑x3.length:Int) (blL x5) x6 x7&&true)||lK x8 x0 x1 x2 x3 x4 x5)]
def Wz:List SV→List Entry→Option Out
 | [.one ⟨true,[.val (.string x0),.ref 0,.ref 1,.ref 2,.val (.string x1),.ref 3]⟩,.one ⟨true,[.ref 4,.ref 5]⟩,.one ⟨false,[.ref 6]⟩],[.row false 9 (.str) x2,.row false 9 (.str) x3,.row false 9 (.str) x4,.row false 204 (.pair (.str) (.sl 178 (.pair (.int .i64) (.pair (.str) (.int .i64))))) x5,.row false 2 (.int .i64) x6,.row false 172 (.pair (.int .i64) (.pair (.int .i64) (.int .i64))) x7,.row false 41 (.sl 2 (.int .i64)) x8]=>some ⟨.one ⟨false,[.val (.int .i64 (QG x0 x1 x2 x3 x4 x5 x6 x7 x8))]⟩,[.row false 9 ahF x2,.row false 9 ahF x3,.row false 9 ahF x4,.row false 204 (CTy.pair CTy.str (CTy.sl (178:TypeId) afk)) x5,.row false 2 agJ x6,.row false 172 aal x7,.row false 41 (CTy.sl (2:TypeId) agJ) x8],[],[QH x0 x1 x2 x3 x4 x5 x6 x7 x8]⟩
 |_,_=>none
def agR:PF prog:=PF.ofG prog [uY,PF.lend uY,PF.fz uY,qm,PF.lend qm,PF.fz qm,dK,PF.lend dK,PF.fz dK,qn,PF.lend qn,PF.fz qn] [] aP 110 f110 func110 (fun c _=>LOk.nil c) Wz (by
 intro vs es r h;unfold Wz at h;split at h
 ·cases h;kernel_rfl
 ·cases h)
section
variable (x0 x1 x2:ByteArray)(x3:Int)(x4 x5:List ByteArray)(x8:List Int)(x9:List (Int×Int×Int))(x10 x11:List Int)
def jn:Int:=bif leI (0:Int) (iF x4 x0)then Option.getD x10[Int.toNat (iF x4 x0)]? (0:Int)else Option.getD x8[Int.toNat (iF x5 x0)]? (0:Int)
def FA:ByteArray:=bif leI (0:Int) (iF x4 x0)then x1 else x1
def FB:ByteArray:=bif leI (0:Int) (iF x4 x0)then x2 else x2
def FC:Int:=bif leI (0:Int) (iF x4 x0)then x3 else x3
def nK:List Int:=bif leI (0:Int) (iF x4 x0)then x8 else x8
def nL:List (Int×(Int×Int)):=bif leI (0:Int) (iF x4 x0)then x9 else x9
def nM:List Int:=bif leI (0:Int) (iF x4 x0)then x11 else x11
def jo:Bool:=allT [leN x4.length (9223372036854775807:Nat),!leI (0:Int) (iF x4 x0)||leI (0:Int) (iF x4 x0),!leI (0:Int) (iF x4 x0)||ltI (iF x4 x0) (↑x10.length:Int),!leI (0:Int) (iF x4 x0)||ltN (Int.toNat (iF x4 x0)) x10.length,leI (0:Int) (iF x4 x0)||leN x5.length (9223372036854775807:Nat),leI (0:Int) (iF x4 x0)||leI (0:Int) (iF x5 x0),leI (0:Int) (iF x4 x0)||ltI (iF x5 x0) (↑x8.length:Int),leI (0:Int) (iF x4 x0)||ltN (Int.toNat (iF x5 x0)) x8.length]
end
def tI:List SV→List Entry→Option Out
 | [.one ⟨false,[.ptr 0 0]⟩,.one ⟨false,[.val (.string x0)]⟩],[.box 202 [.val (.string x1),.ref 1,.ref 2,.ref 3,.val (.string x2),.ref 4,.ref 5,.ref 6,.ref 7,.ref 8,.val (.int .i64 x3)],.row false 9 (.str) x4,.row false 9 (.str) x5,.row false 9 (.str) x6,.row false 204 (.pair (.str) (.sl 178 (.pair (.int .i64) (.pair (.str) (.int .i64))))) x7,.row true 2 (.int .i64) x8,.row true 172 (.pair (.int .i64) (.pair (.int .i64) (.int .i64))) x9,.row false 2 (.int .i64) x10,.row true 2 (.int .i64) x11]=>some ⟨.one ⟨false,[.val (.int .i64 (jn x0 x4 x5 x8 x10))]⟩,[.box 202 [.val (.string (FA x0 x1 x4)),.ref 1,.ref 2,.ref 3,.val (.string (FB x0 x2 x4)),.ref 4,.ref 5,.ref 6,.ref 7,.ref 8,.val (.int .i64 (FC x0 x3 x4))],.row false 9 ahF x4,.row false 9 ahF x5,.row false 9 ahF x6,.row false 204 (CTy.pair CTy.str (CTy.sl (178:TypeId) afk)) x7,.row true 2 agJ (nK x0 x4 x8),.row true 172 aal (nL x0 x4 x9),.row false 2 agJ x10,.row true 2 agJ (nM x0 x4 x11)],[],[jo x0 x4 x5 x8 x10]⟩
 |_,_=>none
def ud:PF prog:=PF.ofG prog [sY] [] aP 178 f178 func178 (fun c _=>LOk.nil c) tI (by
 intro vs es r h;unfold tI at h;split at h
 ·cases h;kernel_rfl
 ·cases h)
section
variable (x0 x1 x2:ByteArray)(x3:Int)(x4 x5:List ByteArray)(x8:List Int)(x9:List (Int×Int×Int))(x10:List Int)
def nE:Int:=bif leI (0:Int) (iF x4 x0)then Option.getD x10[Int.toNat (iF x4 x0)]? (0:Int)else Option.getD x8[Int.toNat (iF x5 x0)]? (0:Int)
def nF:ByteArray:=bif leI (0:Int) (iF x4 x0)then x1 else x1
def nG:ByteArray:=bif leI (0:Int) (iF x4 x0)then x2 else x2
def nH:Int:=bif leI (0:Int) (iF x4 x0)then x3 else x3
def nI:List (Int×(Int×Int)):=bif leI (0:Int) (iF x4 x0)then x9 else x9
def nJ:Bool:=allT [leN x4.length (9223372036854775807:Nat),!leI (0:Int) (iF x4 x0)||leI (0:Int) (iF x4 x0),!leI (0:Int) (iF x4 x0)||ltI (iF x4 x0) (↑x10.length:Int),!leI (0:Int) (iF x4 x0)||ltN (Int.toNat (iF x4 x0)) x10.length,leI (0:Int) (iF x4 x0)||leN x5.length (9223372036854775807:Nat),leI (0:Int) (iF x4 x0)||leI (0:Int) (iF x5 x0),leI (0:Int) (iF x4 x0)||ltI (iF x5 x0) (↑x8.length:Int),leI (0:Int) (iF x4 x0)||ltN (Int.toNat (iF x5 x0)) x8.length]
end
def tH:List SV→List Entry→Option Out
 | [.one ⟨false,[.ptr 0 0]⟩,.one ⟨false,[.val (.string x0)]⟩],[.box 202 [.val (.string x1),.ref 1,.ref 2,.ref 3,.val (.string x2),.ref 4,.ref 5,.ref 6,.ref 7,.ref 8,.val (.int .i64 x3)],.row false 9 (.str) x4,.row false 9 (.str) x5,.row false 9 (.str) x6,.row false 204 (.pair (.str) (.sl 178 (.pair (.int .i64) (.pair (.str) (.int .i64))))) x7,.row false 2 (.int .i64) x8,.row true 172 (.pair (.int .i64) (.pair (.int .i64) (.int .i64))) x9,.row false 2 (.int .i64) x10,.row false 2 (.int .i64) x11]=>some ⟨.one ⟨false,[.val (.int .i64 (nE x0 x4 x5 x8 x10))]⟩,[.box 202 [.val (.string (nF x0 x1 x4)),.ref 1,.ref 2,.ref 3,.val (.string (nG x0 x2 x4)),.ref 4,.ref 5,.ref 6,.ref 7,.ref 8,.val (.int .i64 (nH x0 x3 x4))],.row false 9 ahF x4,.row false 9 ahF x5,.row false 9 ahF x6,.row false 204 (CTy.pair CTy.str (CTy.sl (178:TypeId) afk)) x7,.row false 2 agJ x8,.row true 172 aal (nI x0 x4 x9),.row false 2 agJ x10,.row false 2 agJ x11],[],[nJ x0 x4 x5 x8 x10]⟩
 |_,_=>none
def FG:PF prog:=PF.ofG prog [sY] [] aP 178 f178 func178 (fun c _=>LOk.nil c) tH (by
 intro vs es r h;unfold tH at h;split at h
 ·cases h;kernel_rfl
 ·cases h)
section
variable (x0 x2 x5:Int)(x6:List Int)(x12:List (Int×Int×Int))
def ax:Int×Int×Int:=Option.getD x12[Int.toNat x5]? ((0:Int),(0:Int),(0:Int))
def og:Int:=Df x0 x2 ((ax x5 x12).1) (((ax x5 x12).2).1) ((ax x5 x12).2.2) x6
def oh:Int:=IntKind.wrap .i64 (x5 + (1:Int))
def oi:List (Int×(Int×Int)):=List.set x12 x5.toNat (AH x0 x2 ((ax x5 x12).1) (((ax x5 x12).2).1) ((ax x5 x12).2.2) x6,AJ x0 (((ax x5 x12).2).1) ((ax x5 x12).2.2) x6,AK x0 x2 ((ax x5 x12).1) (((ax x5 x12).2).1) ((ax x5 x12).2.2) x6)
def oj:Bool:=allT [leI (0:Int) x5,ltI x5 (↑x12.length:Int),ltN x5.toNat x12.length,Dg x6,leI (0:Int) x5,ltI x5 (↑x12.length:Int),ltN x5.toNat x12.length]
end
def uz:List SV→List Entry→Option Out
 | [.one ⟨false,[.ptr 0 0]⟩,.one ⟨true,[.val (.int .i64 x0),.val (.string _x1),.val (.int .i64 x2)]⟩,.one ⟨false,[.ref 1]⟩],[.box 202 [.val (.string x3),.ref 2,.ref 3,.ref 4,.val (.string x4),.ref 5,.ref 6,.ref 7,.ref 8,.ref 9,.val (.int .i64 x5)],.row false 2 (.int .i64) x6,.row false 9 (.str) x7,.row false 9 (.str) x8,.row false 9 (.str) x9,.row false 204 (.pair (.str) (.sl 178 (.pair (.int .i64) (.pair (.str) (.int .i64))))) x10,.row false 2 (.int .i64) x11,.row true 172 (.pair (.int .i64) (.pair (.int .i64) (.int .i64))) x12,.row false 2 (.int .i64) x13,.row false 2 (.int .i64) x14]=>some ⟨.one ⟨false,[.val (.int .i64 (og x0 x2 x5 x6 x12))]⟩,[.box 202 [.val (.string x3),.ref 2,.ref 3,.ref 4,.val (.string x4),.ref 5,.ref 6,.ref 7,.ref 8,.ref 9,.val (.int .i64 (oh x5))],.row false 2 agJ x6,.row false 9 ahF x7,.row false 9 ahF x8,.row false 9 ahF x9,.row false 204 (CTy.pair CTy.str (CTy.sl (178:TypeId) afk)) x10,.row false 2 agJ x11,.row true 172 aal (oi x0 x2 x5 x6 x12),.row false 2 agJ x13,.row false 2 agJ x14],[],[oj x5 x6 x12]⟩
 |_,_=>none
def Gm:PF prog:=PF.ofG prog [ali] [] aP 256 f256 func256 (fun c _=>LOk.nil c) uz (by
 intro vs es r h;unfold uz at h;split at h
 ·cases h;kernel_rfl
 ·cases h)
section
variable (x0:Int)(x1:ByteArray)(x2:Int)(x3 x4:ByteArray)(x5:Int)(x6:List Int)(x7 x8:List ByteArray)(x11:List Int)(x12:List (Int×Int×Int))(x13:List Int)
def jm:Int:=Option.getD x6[Int.toNat (0:Int)]? (0:Int)
def bK:Int:=bif x0==(1:Int)then nE x1 x7 x8 x11 x13 else bif x0==(2:Int)then(1:Int)else bif x0==(3:Int)then(0:Int)else bif x0==(4:Int)then IntKind.wrap .i64 ((1:Int) - jm x6)else bif x0==(5:Int)then IntKind.wrap .i64 (↑(BitVec.toNat (BitVec.ofInt (IntKind.bits IntKind.i64) (jm x6)&&& BitVec.ofInt (IntKind.bits IntKind.i64) (Option.getD x6[Int.toNat (1:Int)]? (0:Int)))):Int)else bif x0==(6:Int)then IntKind.wrap .i64 (↑(BitVec.toNat (BitVec.ofInt (IntKind.bits IntKind.i64) (jm x6)||| BitVec.ofInt (IntKind.bits IntKind.i64) (Option.getD x6[Int.toNat (1:Int)]? (0:Int)))):Int)else og x0 x2 x5 x6 x12
def fH:ByteArray:=bif x0==(1:Int)then nF x1 x3 x7 else bif x0==(2:Int)then x3 else bif x0==(3:Int)then x3 else bif x0==(4:Int)then x3 else bif x0==(5:Int)then x3 else bif x0==(6:Int)then x3 else x3
def fI:ByteArray:=bif x0==(1:Int)then nG x1 x4 x7 else bif x0==(2:Int)then x4 else bif x0==(3:Int)then x4 else bif x0==(4:Int)then x4 else bif x0==(5:Int)then x4 else bif x0==(6:Int)then x4 else x4
def aX:Int:=bif x0==(1:Int)then nH x1 x5 x7 else bif x0==(2:Int)then x5 else bif x0==(3:Int)then x5 else bif x0==(4:Int)then x5 else bif x0==(5:Int)then x5 else bif x0==(6:Int)then x5 else oh x5
def aY:List (Int×(Int×Int)):=bif x0==(1:Int)then nI x1 x7 x12 else bif x0==(2:Int)then x12 else bif x0==(3:Int)then x12 else bif x0==(4:Int)then x12 else bif x0==(5:Int)then x12 else bif x0==(6:Int)then x12 else oi x0 x2 x5 x6 x12
def aZ:Bool:=allT [!x0==(1:Int)||nJ x1 x7 x8 x11 x13,x0==(1:Int)||(x0==(2:Int)||(x0==(3:Int)||(!x0==(4:Int)||leI (0:Int) (0:Int)))),x0==(1:Int)||(x0==(2:Int)||(x0==(3:Int)||(!x0==(4:Int)||ltI (0:Int) (↑x6.length:Int)))),x0==(1:Int)||(x0==(2:Int)||(x0==(3:Int)||(!x0==(4:Int)||ltN (Int.toNat (0:Int)) x6.length))),x0==(1:Int)||(x0==(2:Int)||(x0==(3:Int)||(x0==(4:Int)||(!x0==(5:Int)||leI (0:Int) (0:Int))))),x0==(1:Int)||(x0==(2:Int)||(x0==(3:Int)||(x0==(4:Int)||(!x0==(5:Int)||ltI (0:Int) (↑x6.length:Int))))),x0==(1:Int)||(x0==(2:Int)||(x0==(3:Int)||(x0==(4:Int)||(!x0==(5:Int)||ltN (Int.toNat (0:Int)) x6.length)))),x0==(1:Int)||(x0==(2:Int)||(x0==(3:Int)||(x0==(4:Int)||(!x0==(5:Int)||leI (0:Int) (1:Int))))),x0==(1:Int)||(x0==(2:Int)||(x0==(3:Int)||(x0==(4:Int)||(!x0==(5:Int)||ltI (1:Int) (↑x6.length:Int))))),x0==(1:Int)||(x0==(2:Int)||(x0==(3:Int)||(x0==(4:Int)||(!x0==(5:Int)||ltN (Int.toNat (1:Int)) x6.length)))),x0==(1:Int)||(x0==(2:Int)||(x0==(3:Int)||(x0==(4:Int)||(x0==(5:Int)||(!x0==(6:Int)||leI (0:Int) (0:Int)))))),x0==(1:Int)||(x0==(2:Int)||(x0==(3:Int)||(x0==(4:Int)||(x0==(5:Int)||(!x0==(6:Int)||ltI (0:Int) (↑x6.length:Int)))))),x0==(1:Int)||(x0==(2:Int)||(x0==(3:Int)||(x0==(4:Int)||(x0==(5:Int)||(!x0==(6:Int)||ltN (Int.toNat (0:Int)) x6.length))))),x0==(1:Int)||(x0==(2:Int)||(x0==(3:Int)||(x0==(4:Int)||(x0==(5:Int)||(!x0==(6:Int)||leI (0:Int) (1:Int)))))),x0==(1:Int)||(x0==(2:Int)||(x0==(3:Int)||(x0==(4:Int)||(x0==(5:Int)||(!x0==(6:Int)||ltI (1:Int) (↑x6.length:Int)))))),x0==(1:Int)||(x0==(2:Int)||(x0==(3:Int)||(x0==(4:Int)||(x0==(5:Int)||(!x0==(6:Int)||ltN (Int.toNat (1:Int)) x6.length))))),x0==(1:Int)||(x0==(2:Int)||(x0==(3:Int)||(x0==(4:Int)||(x0==(5:Int)||(x0==(6:Int)||oj x5 x6 x12)))))]
end
def uB:List SV→List Entry→Option Out
 | [.one ⟨false,[.ptr 0 0]⟩,.one ⟨true,[.val (.int .i64 x0),.val (.string x1),.val (.int .i64 x2)]⟩,.one ⟨false,[.ref 1]⟩],[.box 202 [.val (.string x3),.ref 2,.ref 3,.ref 4,.val (.string x4),.ref 5,.ref 6,.ref 7,.ref 8,.ref 9,.val (.int .i64 x5)],.row false 2 (.int .i64) x6,.row false 9 (.str) x7,.row false 9 (.str) x8,.row false 9 (.str) x9,.row false 204 (.pair (.str) (.sl 178 (.pair (.int .i64) (.pair (.str) (.int .i64))))) x10,.row false 2 (.int .i64) x11,.row true 172 (.pair (.int .i64) (.pair (.int .i64) (.int .i64))) x12,.row false 2 (.int .i64) x13,.row false 2 (.int .i64) x14]=>some ⟨.one ⟨false,[.val (.int .i64 (bK x0 x1 x2 x5 x6 x7 x8 x11 x12 x13))]⟩,[.box 202 [.val (.string (fH x0 x1 x3 x7)),.ref 2,.ref 3,.ref 4,.val (.string (fI x0 x1 x4 x7)),.ref 5,.ref 6,.ref 7,.ref 8,.ref 9,.val (.int .i64 (aX x0 x1 x5 x7))],.row false 2 agJ x6,.row false 9 ahF x7,.row false 9 ahF x8,.row false 9 ahF x9,.row false 204 (CTy.pair CTy.str (CTy.sl (178:TypeId) afk)) x10,.row false 2 agJ x11,.row true 172 aal (aY x0 x1 x2 x5 x6 x7 x12),.row false 2 agJ x13,.row false 2 agJ x14],[],[aZ x0 x1 x5 x6 x7 x8 x11 x12 x13]⟩
 |_,_=>none
def uD:PF prog:=PF.ofG prog [FG,Gm] [] aP 223 f223 func223 (fun c _=>LOk.nil c) uB (by
 intro vs es r h;unfold uB at h;split at h
 ·cases h;kernel_rfl
 ·cases h)
abbrev bu:=Int×Int×List (Int×(ByteArray×Int))×List Int×ByteArray×ByteArray×Int×List ByteArray×List ByteArray×List ByteArray×List (ByteArray×(List (Int×(ByteArray×Int))))×List Int×List (Int×(Int×Int))×List Int×List Int
section
variable (y0 y1:Int)(y2:List (Int×(ByteArray×Int)))(y3:List Int)(y4 y5:ByteArray)(y6:Int)(y7 y8:List ByteArray)(y11:List Int)(y12:List (Int×(Int×Int)))(y13:List Int)
def ac:Int×ByteArray×Int:=Option.getD y2[Int.toNat y0]? ((0:Int),ByteArray.empty,(0:Int))
def aH:Int:=IntKind.wrap .i64 ((↑y3.length:Int) - rq ((ac y0 y2).1))
def em:List Int:= [bK ((ac y0 y2).1) (((ac y0 y2).2).1) ((ac y0 y2).2.2) y6 (List.drop (Int.toNat (aH y0 y2 y3)) y3) y7 y8 y11 y12 y13]
def eE:Bool:=ltI y0 y1
def eF:Bool:=leI (0:Int) y0
def eG:Bool:=ltI y0 (↑y2.length:Int)
def eH:Bool:=ltN y0.toNat y2.length
def cW:Bool:=leI (0:Int) (aH y0 y2 y3)
def cX:Bool:=leI (aH y0 y2 y3) (↑y3.length:Int)
def eI:Bool:=leN (Int.toNat (aH y0 y2 y3)) y3.length
def eJ:Bool:=aZ ((ac y0 y2).1) (((ac y0 y2).2).1) y6 (List.drop (Int.toNat (aH y0 y2 y3)) y3) y7 y8 y11 y12 y13
def eK:Bool:=leN (List.length (List.take (Int.toNat (aH y0 y2 y3)) y3) + List.length (em y0 y2 y3 y6 y7 y8 y11 y12 y13)) (9223372036854775807:Nat)
def eL:Bool:=leN ((List.length (List.take (Int.toNat (aH y0 y2 y3)) y3) + List.length (em y0 y2 y3 y6 y7 y8 y11 y12 y13)) * (8:Nat)) (140737488355328:Nat)
def ee:Int:=IntKind.wrap .i64 (y0 + (1:Int))
def ef:List Int:=List.take (Int.toNat (aH y0 y2 y3)) y3++em y0 y2 y3 y6 y7 y8 y11 y12 y13
def eg:ByteArray:=fH ((ac y0 y2).1) (((ac y0 y2).2).1) y4 y7
def ei:ByteArray:=fI ((ac y0 y2).1) (((ac y0 y2).2).1) y5 y7
def ej:Int:=aX ((ac y0 y2).1) (((ac y0 y2).2).1) y6 y7
def ek:List (Int×(Int×Int)):=aY ((ac y0 y2).1) (((ac y0 y2).2).1) ((ac y0 y2).2.2) y6 (List.drop (Int.toNat (aH y0 y2 y3)) y3) y7 y12
end
def Da:bu→List (Nat×SV)
 |(y0,y1,_,_,_,_,_,_,_,_,_,_,_,_,_)=> [(13,(.one ⟨false,[.val (.int .i64 y0)]⟩)),(12,(.one ⟨false,[.val (.int .i64 y1)]⟩)),(11,(.one ⟨false,[.ref 0]⟩)),(4,(.one ⟨false,[.ref 1]⟩)),(0,(.one ⟨false,[.ptr 2 0]⟩))]
def CZ:bu→List (Nat×Entry)
 |(_,_,y2,y3,y4,y5,y6,y7,y8,y9,y10,y11,y12,y13,y14)=> [(0,(.row false 178 afk y2)),(2,(.box 202 [.val (.string y4),.ref 3,.ref 4,.ref 5,.val (.string y5),.ref 6,.ref 7,.ref 8,.ref 9,.ref 10,.val (.int .i64 y6)])),(3,(.row false 9 ahF y7)),(4,(.row false 9 ahF y8)),(5,(.row false 9 ahF y9)),(6,(.row false 204 (CTy.pair CTy.str (CTy.sl (178:Nat) afk)) y10)),(7,(.row true 2 agJ y11)),(8,(.row true 172 aal y12)),(9,(.row false 2 agJ y13)),(10,(.row true 2 agJ y14)),(1,(.row true 2 agJ y3))]
def Dc:Nat→bu→List (Nat×SV)
 |_,(_,_,_,_,_,_,_,_,_,_,_,_,_,_,_)=> [(4,(.one ⟨false,[.ref 1]⟩))]
def Db:Nat→bu→List (Nat×Entry)
 |_,(_,_,y2,y3,y4,y5,y6,y7,y8,y9,y10,y11,y12,y13,y14)=> [(0,(.row false 178 afk y2)),(1,(.row true 2 agJ y3)),(2,(.box 202 [.val (.string y4),.ref 3,.ref 4,.ref 5,.val (.string y5),.ref 6,.ref 7,.ref 8,.ref 9,.ref 10,.val (.int .i64 y6)])),(3,(.row false 9 ahF y7)),(4,(.row false 9 ahF y8)),(5,(.row false 9 ahF y9)),(6,(.row false 204 (CTy.pair CTy.str (CTy.sl (178:Nat) afk)) y10)),(7,(.row true 2 agJ y11)),(8,(.row true 172 aal y12)),(9,(.row false 2 agJ y13)),(10,(.row true 2 agJ y14))]
def er:bu→LT bu
 |(y0,y1,y2,y3,y4,y5,y6,y7,y8,y9,y10,y11,y12,y13,y14)=> .ite (eE y0 y1) (.need [eF y0,eG y0 y2,eH y0 y2] (.need [cW y0 y2 y3,cX y0 y2 y3,eI y0 y2 y3,eJ y0 y2 y3 y6 y7 y8 y11 y12 y13] (.need [cW y0 y2 y3,cX y0 y2 y3,eK y0 y2 y3 y6 y7 y8 y11 y12 y13,eL y0 y2 y3 y6 y7 y8 y11 y12 y13] (.nrm ((ee y0),y1,y2,ef y0 y2 y3 y6 y7 y8 y11 y12 y13,eg y0 y2 y4 y7,ei y0 y2 y5 y7,ej y0 y2 y6 y7,y7,y8,y9,y10,y11,ek y0 y2 y3 y6 y7 y12,y13,y14) [(0,0),(1,1600),(2,2),(3,3),(4,4),(5,5),(6,6),(7,7),(8,8),(9,9),(10,10)])))) (.ext 0 [(0,0),(1,1),(2,2),(3,3),(4,4),(5,5),(6,6),(7,7),(8,8),(9,9),(10,10)])
def mf(s:St):Option bu:=
 (match s.look 13 with
 |some ⟨none,.one ⟨false,[.val (.int .i64 y0)]⟩⟩=>
 (match s.look 12 with
 |some ⟨none,.one ⟨false,[.val (.int .i64 y1)]⟩⟩=>
 (match s.look 11 with
 |some ⟨none,.one ⟨false,[.ref 1]⟩⟩=>
 (match s.look 4 with
 |some ⟨none,.one ⟨false,[.ref 768]⟩⟩=>
 (match s.look 0 with
 |some ⟨none,.one ⟨false,[.ptr 0 0]⟩⟩=>
 (match s.ent 1 with
 |some (.row false 178 (.pair (.int .i64) (.pair .str (.int .i64))) y2)=>
 (match s.ent 0 with
 |some (.box 202 [.val (.string y4),.ref 2,.ref 3,.ref 4,.val (.string y5),.ref 5,.ref 6,.ref 7,.ref 8,.ref 9,.val (.int .i64 y6)])=>
 (match s.ent 2 with
 |some (.row false 9 (.str) y7)=>
 (match s.ent 3 with
 |some (.row false 9 (.str) y8)=>
 (match s.ent 4 with
 |some (.row false 9 (.str) y9)=>
 (match s.ent 5 with
 |some (.row false 204 (.pair .str (.sl (178:Nat) (.pair (.int .i64) (.pair .str (.int .i64))))) y10)=>
 (match s.ent 6 with
 |some (.row true 2 (.int .i64) y11)=>
 (match s.ent 7 with
 |some (.row true 172 (.pair (.int .i64) (.pair (.int .i64) (.int .i64))) y12)=>
 (match s.ent 8 with
 |some (.row false 2 (.int .i64) y13)=>
 (match s.ent 9 with
 |some (.row true 2 (.int .i64) y14)=>
 (match s.ent 768 with
 |some (.row true 2 (.int .i64) y3)=>
 some (y0,y1,y2,y3,y4,y5,y6,y7,y8,y9,y10,y11,y12,y13,y14)
 |_=>none)
 |_=>none)
 |_=>none)
 |_=>none)
 |_=>none)
 |_=>none)
 |_=>none)
 |_=>none)
 |_=>none)
 |_=>none)
 |_=>none)
 |_=>none)
 |_=>none)
 |_=>none)
 |_=>none)
 |_=>none)
def ak:Lp bu where
 h:=⟨[14,15,16,6,17,18,19,20,21,22,7,23,24,25,26,27,28,8,29,30,31,32,33,34,4,35,13],[0,2,3,4,5,6,7,8,9,10],[1],[]⟩
 JL:=Da
 JE:=CZ
 XL:=Dc
 XE:=Db
 q:=fun j=>match j with | _=> .exit 0
 tags:= [0]
 lt:=er
 fuel:=fun(y0,y1,y2,y3,y4,y5,y6,y7,y8,y9,y10,y11,y12,y13,y14)=>y0.natAbs + y1.natAbs + y2.length + y3.length + y4.size + y5.size + y6.natAbs + y7.length + y8.length + y9.length + y10.length + y11.length + y12.length + y13.length + y14.length
 fix:=fun(_,y1,y2,_,_,_,_,y7,y8,y9,y10,y11,_,y13,y14) (y0,_,_,y3,y4,y5,y6,_,_,_,_,_,y12,_,_)=>(y0,y1,y2,y3,y4,y5,y6,y7,y8,y9,y10,y11,y12,y13,y14)
 σ:= [(0,1),(2,0),(3,2),(4,3),(5,4),(6,5),(7,6),(8,7),(9,8),(10,9),(1,768)]
 rd:=mf
theorem CI:LoopOk prog (fun k=>Nat.blt k Tryz.f177.ntmps) ak.F (aL f177 0):=by
 refine Lp.ok (tbl:= [PF.views prog,sY,Kr,PF.lendBut 172 (PF.view uD)]) (lf:= []) aP ak (by kernel_rfl) (LOk.nil _) (fun _=>rfl) (fun _ _=>rfl) ?_ ?_ ?_ ?_ (fun _=>rfl) ?_
 ·rintro⟨y0,y1,y2,y3,y4,y5,y6,y7,y8,y9,y10,y11,y12,y13,y14⟩;kernel_rfl
 ·rintro⟨y0,y1,y2,y3,y4,y5,y6,y7,y8,y9,y10,y11,y12,y13,y14⟩;kernel_rfl
 ·intro s x h
  have h:mf s=some x:=h
  unfold mf at h
  repeat' split at h
  all_goals cases h
  exact⟨aa (by assumption) rfl (aa (by assumption) rfl (aa (by assumption) rfl (aa (by assumption) rfl (aa (by assumption) rfl (rfl))))),ab rfl (by assumption) rfl (ab rfl (by assumption) rfl (ab rfl (by assumption) rfl (ab rfl (by assumption) rfl (ab rfl (by assumption) rfl (ab rfl (by assumption) rfl (ab rfl (by assumption) rfl (ab rfl (by assumption) rfl (ab rfl (by assumption) rfl (ab rfl (by assumption) rfl (ab rfl (by assumption) rfl (rfl)))))))))))⟩
 ·rintro⟨y0,y1,y2,y3,y4,y5,y6,y7,y8,y9,y10,y11,y12,y13,y14⟩;kernel_rfl
 ·rintro⟨y0,y1,y2,y3,y4,y5,y6,y7,y8,y9,y10,y11,y12,y13,y14⟩ z;exact(And.intro rfl trivial)
section
variable (x0 x1 x2:ByteArray)(x3:Int)(x4:List (Int×ByteArray×Int))(x5 x6 x7:List ByteArray)(x8:List (ByteArray×List (Int×ByteArray×Int)))(x9:List Int)(x10:List (Int×Int×Int))(x11 x12:List Int)
def bG:Int×Int×List (Int×ByteArray×Int)×List Int×ByteArray×ByteArray×Int×List ByteArray×List ByteArray×List ByteArray×List (ByteArray×List (Int×ByteArray×Int))×List Int×List (Int×Int×Int)×List Int×List Int:=((0:Int),(↑x4.length:Int),x4,[],x1,x2,x3,x5,x6,x7,x8,x9,x10,x11,x12)
def cu:List Int×ByteArray×ByteArray×Int×List ByteArray×List ByteArray×List ByteArray×List (ByteArray×List (Int×ByteArray×Int))×List Int×List (Int×Int×Int)×List Int×List Int:=(Lp.res ak (bG x1 x2 x3 x4 x5 x6 x7 x8 x9 x10 x11 x12)).2.2.2.2
def dk:ByteArray×ByteArray×Int×List ByteArray×List ByteArray×List ByteArray×List (ByteArray×List (Int×ByteArray×Int))×List Int×List (Int×Int×Int)×List Int×List Int:=(cu x1 x2 x3 x4 x5 x6 x7 x8 x9 x10 x11 x12).2
def ff:ByteArray×Int×List ByteArray×List ByteArray×List ByteArray×List (ByteArray×List (Int×ByteArray×Int))×List Int×List (Int×Int×Int)×List Int×List Int:=(dk x1 x2 x3 x4 x5 x6 x7 x8 x9 x10 x11 x12).2
def ji:Int×List ByteArray×List ByteArray×List ByteArray×List (ByteArray×List (Int×ByteArray×Int))×List Int×List (Int×Int×Int)×List Int×List Int:=(ff x1 x2 x3 x4 x5 x6 x7 x8 x9 x10 x11 x12).2
def fg:List Int:=(cu x1 x2 x3 x4 x5 x6 x7 x8 x9 x10 x11 x12).1
def jj:Int:=Option.getD (fg x1 x2 x3 x4 x5 x6 x7 x8 x9 x10 x11 x12)[Int.toNat (0:Int)]? (0:Int)
def jk:Bool:=ltI (0:Int) (↑(List.length (fg x1 x2 x3 x4 x5 x6 x7 x8 x9 x10 x11 x12)):Int)
def jl:Bool:=ltN (Int.toNat (0:Int)) (List.length (fg x1 x2 x3 x4 x5 x6 x7 x8 x9 x10 x11 x12))
def jL:ByteArray:=(dk x1 x2 x3 x4 x5 x6 x7 x8 x9 x10 x11 x12).1
def jM:ByteArray:=(ff x1 x2 x3 x4 x5 x6 x7 x8 x9 x10 x11 x12).1
def jN:Int:=(ji x1 x2 x3 x4 x5 x6 x7 x8 x9 x10 x11 x12).1
def jO:List Int:=bif leI (0:Int) (iF x6 x0)then List.set x9 (Int.toNat (iF x6 x0)) (jj x1 x2 x3 x4 x5 x6 x7 x8 x9 x10 x11 x12)else x9
def jP:List (Int×(Int×Int)):=((ji x1 x2 x3 x4 x5 x6 x7 x8 x9 x10 x11 x12).2.2.2.2.2.2).1
def jQ:List Int:=bif leI (0:Int) (iF x6 x0)then x12 else List.set x12 (Int.toNat (iF x7 x0)) (jj x1 x2 x3 x4 x5 x6 x7 x8 x9 x10 x11 x12)
def fG:Bool:=allT [Lp.fin ak (bG x1 x2 x3 x4 x5 x6 x7 x8 x9 x10 x11 x12),leN x6.length (9223372036854775807:Nat),!leI (0:Int) (iF x6 x0)||leI (0:Int) (0:Int),!leI (0:Int) (iF x6 x0)||jk x1 x2 x3 x4 x5 x6 x7 x8 x9 x10 x11 x12,!leI (0:Int) (iF x6 x0)||jl x1 x2 x3 x4 x5 x6 x7 x8 x9 x10 x11 x12,!leI (0:Int) (iF x6 x0)||leI (0:Int) (iF x6 x0),!leI (0:Int) (iF x6 x0)||ltI (iF x6 x0) (↑x9.length:Int),!leI (0:Int) (iF x6 x0)||ltN (Int.toNat (iF x6 x0)) x9.length,leI (0:Int) (iF x6 x0)||leN x7.length (9223372036854775807:Nat),leI (0:Int) (iF x6 x0)||leI (0:Int) (0:Int),leI (0:Int) (iF x6 x0)||jk x1 x2 x3 x4 x5 x6 x7 x8 x9 x10 x11 x12,leI (0:Int) (iF x6 x0)||jl x1 x2 x3 x4 x5 x6 x7 x8 x9 x10 x11 x12,leI (0:Int) (iF x6 x0)||leI (0:Int) (iF x7 x0),leI (0:Int) (iF x6 x0)||ltI (iF x7 x0) (↑x12.length:Int),leI (0:Int) (iF x6 x0)||ltN (Int.toNat (iF x7 x0)) x12.length]
end
def uA:List SV→List Entry→Option Out
 | [.one ⟨false,[.ptr 0 0]⟩,.one ⟨true,[.val (.string x0),.ref 1]⟩],[.box 202 [.val (.string x1),.ref 2,.ref 3,.ref 4,.val (.string x2),.ref 5,.ref 6,.ref 7,.ref 8,.ref 9,.val (.int .i64 x3)],.row false 178 (.pair (.int .i64) (.pair (.str) (.int .i64))) x4,.row false 9 (.str) x5,.row false 9 (.str) x6,.row false 9 (.str) x7,.row false 204 (.pair (.str) (.sl 178 (.pair (.int .i64) (.pair (.str) (.int .i64))))) x8,.row true 2 (.int .i64) x9,.row true 172 (.pair (.int .i64) (.pair (.int .i64) (.int .i64))) x10,.row false 2 (.int .i64) x11,.row true 2 (.int .i64) x12]=>some ⟨.tup [],[.box 202 [.val (.string (jL x1 x2 x3 x4 x5 x6 x7 x8 x9 x10 x11 x12)),.ref 2,.ref 3,.ref 4,.val (.string (jM x1 x2 x3 x4 x5 x6 x7 x8 x9 x10 x11 x12)),.ref 5,.ref 6,.ref 7,.ref 8,.ref 9,.val (.int .i64 (jN x1 x2 x3 x4 x5 x6 x7 x8 x9 x10 x11 x12))],.row false 178 afk x4,.row false 9 ahF x5,.row false 9 ahF x6,.row false 9 ahF x7,.row false 204 (CTy.pair CTy.str (CTy.sl (178:TypeId) afk)) x8,.row true 2 agJ (jO x0 x1 x2 x3 x4 x5 x6 x7 x8 x9 x10 x11 x12),.row true 172 aal (jP x1 x2 x3 x4 x5 x6 x7 x8 x9 x10 x11 x12),.row false 2 agJ x11,.row true 2 agJ (jQ x0 x1 x2 x3 x4 x5 x6 x7 x8 x9 x10 x11 x12)],[],[fG x0 x1 x2 x3 x4 x5 x6 x7 x8 x9 x10 x11 x12]⟩
 |_,_=>none
def uC:PF prog:=PF.ofG prog [PF.views prog,sY,Kr,PF.lendBut 172 (PF.view uD)] [ak.F] aP 177 f177 func177 (LOk.fnT (l:= [aL f177 0]) (by kernel_rfl) (.cons CI (.nil _))) uA (by
 intro vs es r h;unfold uA at h;split at h
 ·cases h;kernel_rfl
 ·cases h)
theorem aiY{a b:Int}(ha:a=0∨a=1)(hb:b=0∨b=1):IntKind.i64.wrap ((BitVec.toNat (BitVec.ofInt (IntKind.bits IntKind.i64) a&&& BitVec.ofInt (IntKind.bits IntKind.i64) b):Nat):Int)=an3 a b:=by
 rcases ha with rfl | rfl <;> rcases hb with rfl | rfl <;> rfl
theorem alf{a b:Int}(ha:a=0∨a=1)(hb:b=0∨b=1):IntKind.i64.wrap ((BitVec.toNat (BitVec.ofInt (IntKind.bits IntKind.i64) a||| BitVec.ofInt (IntKind.bits IntKind.i64) b):Nat):Int)=orI a b:=by
 rcases ha with rfl | rfl <;> rcases hb with rfl | rfl <;> rfl
theorem alb{a:Int}(ha:a=0∨a=1):IntKind.i64.wrap (1 - a)=1 - a:=by rcases ha with rfl | rfl <;> rfl
theorem PZ{l:List ByteArray}{s:ByteArray}(h:ma l s=true):iF l s=(QQ l s:Int):=by simp only [iF,h,cond_true]
theorem aeV(s:ByteArray)(ins vs:List ByteArray)(inp xs:List Int)(hr:Vh ins vs s=true)(h1:leN ins.length 9223372036854775807=true)(h2:leN vs.length 9223372036854775807=true)(hi:inp.length=ins.length)(hx:xs.length=vs.length):
  rn s ins vs xs inp=nmV ins vs inp xs s∧ro s ins vs xs inp=true:=by
 cases h:ma ins s with
 |true=>
  have e:=PZ h
  have hp:=Wn h
  have l0:leI 0 (QQ ins s:Int)=true:=bv (by omega)
  have l1:ltI (QQ ins s:Int) (inp.length:Int)=true:=et (by omega)
  have l2:ltN (QQ ins s) inp.length=true:=gu (by omega)
  refine⟨?_,?_⟩
  ·simp only [rn,nmV,h,e,l0,cond_true];rfl
  ·simp only [ro,e,l0,l1,l2,h1,h2,allT,Int.toNat_natCast,Bool.or_true,Bool.true_or,cond_true]
 |false=>
  have hv:ma vs s=true:=by simpa [Vh,h] using hr
  have e0:leI 0 (iF ins s)=false:=by rw [Qy,h]
  have e:=PZ hv
  have hp:=Wn hv
  have l0:leI 0 (QQ vs s:Int)=true:=bv (by omega)
  have l1:ltI (QQ vs s:Int) (xs.length:Int)=true:=et (by omega)
  have l2:ltN (QQ vs s) xs.length=true:=gu (by omega)
  refine⟨?_,?_⟩
  ·simp only [rn,nmV,h,e0,e,cond_false];rfl
  ·simp only [ro,e0,e,l0,l1,l2,h1,h2,allT,Int.toNat_natCast,Bool.or_true,Bool.true_or,Bool.not_false,cond_true]
theorem ajB(s:ByteArray)(ins vs:List ByteArray)(inp xs:List Int):nE s ins vs xs inp=rn s ins vs xs inp∧nJ s ins vs xs inp=ro s ins vs xs inp:=⟨rfl,rfl⟩
theorem ajC(s:ByteArray)(ins vs:List ByteArray)(inp xs:List Int):jn s ins vs xs inp=rn s ins vs xs inp∧jo s ins vs xs inp=ro s ins vs xs inp:=⟨rfl,rfl⟩
structure TmOk (ins vs:List ByteArray) (inp xs:List Int) (t:TM) (ar:List Int) (k:Nat) (ss:List BS3):Prop where
 hT:termB t.1 t.2.1 t.2.2=true
 ha:bitsB (takesK t.1) ar=true
 hu:usedB ins vs t=true
 h1:leN ins.length 9223372036854775807=true
 h2:leN vs.length 9223372036854775807=true
 hi:inp.length=ins.length
 hx:xs.length=vs.length
 hb:leI 7 t.1=true→k < ss.length∧possB t.1 t.2.2 (stAt ss k).1 (stAt ss k).2.1 (stAt ss k).2.2=true
 hs:ss.length≤100000
theorem apq{ins vs:List ByteArray}{inp xs:List Int}{kd:Int}{nm:ByteArray}{num:Int}{ar:List Int}{k:Nat}{ss:List BS3}(h:TmOk ins vs inp xs (kd,nm,num) ar k ss)(hk:k≤ss.length)(u v:ByteArray):
  bK kd nm num (k:Int) ar ins vs xs ss inp=tmV ins vs inp xs (kd,nm,num) ar (stAt ss k)∧
  fH kd nm u ins=u∧fI kd nm v ins=v∧
  aX kd nm (k:Int) ins=((bif leI 7 kd then k + 1 else k:Nat):Int)∧
  aY kd nm num (k:Int) ar ins ss=(bif leI 7 kd then ss.set k (Xg kd num ar (stAt ss k))else ss)∧
  aZ kd nm (k:Int) ar ins vs xs ss inp=true:=by
 obtain⟨hT,ha,hu,h1,h2,hi,hx,hb,hs⟩:=h
 have hkk:=afY hT
 simp only at hT ha hu hb hkk
 have hbits:=(fa.1 ha).1
 have nQ:=(fa.1 ha).2
 have a0:=Rs hbits 0
 have a1:=Rs hbits 1
 have hc:kd=1∨kd=2∨kd=3∨kd=4∨kd=5∨kd=6∨(7≤kd∧kd≤12):=by omega
 have c1: ∀ x:ByteArray,nF nm x ins=x:=fun x=>Bool.cond_self _ _
 have c2: ∀ x:ByteArray,nG nm x ins=x:=fun x=>Bool.cond_self _ _
 have c3: ∀ x:Int,nH nm x ins=x:=fun x=>Bool.cond_self _ _
 have c4: ∀ x:List BS3,nI nm ins x=x:=fun x=>Bool.cond_self _ _
 have z00:leI (0:Int) 0=true:=rfl
 have z01:leI (0:Int) 1=true:=rfl
 have e0:jm ar=atZ ar 0:=rfl
 have e1:Option.getD ar[Int.toNat (1:Int)]? (0:Int)=atZ ar 1:=rfl
 rcases hc with rfl | rfl | rfl | rfl | rfl | rfl | hc
 ·have hr:Vh ins vs nm=true:=by simpa [usedB] using hu
  obtain⟨v1,v2⟩:=aeV nm ins vs inp xs hr h1 h2 hi hx
  have q:leI 7 (1:Int)=false:=rfl
  refine⟨?_,?_,?_,?_,?_,?_⟩
  ·simp [bK,tmV,(ajB nm ins vs inp xs).1,v1]
  ·simp [fH,c1]
  ·simp [fI,c2]
  ·simp [aX,c3,q]
  ·simp [aY,c4,q]
  ·simp [aZ,(ajB nm ins vs inp xs).2,v2,allT]
 ·have q:leI 7 (2:Int)=false:=rfl
  refine⟨rfl,rfl,rfl,?_,?_,?_⟩
  ·simp [aX,q]
  ·simp [aY,q]
  ·simp [aZ,allT]
 ·have q:leI 7 (3:Int)=false:=rfl
  refine⟨rfl,rfl,rfl,?_,?_,?_⟩
  ·simp [aX,q]
  ·simp [aY,q]
  ·simp [aZ,allT]
 ·have q:leI 7 (4:Int)=false:=rfl
  have t:takesK 4=1:=rfl
  rw [t]at nQ
  have s1:ltI 0 (ar.length:Int)=true:=et (by omega)
  have s2:ltN (Int.toNat 0) ar.length=true:=gu (by simp only [Int.toNat_zero];omega)
  refine⟨?_,rfl,rfl,?_,?_,?_⟩
  ·simp [bK,tmV,e0,alb a0]
  ·simp [aX,q]
  ·simp [aY,q]
  ·simp only [aZ,allT,z00,s1,s2];rfl
 ·have q:leI 7 (5:Int)=false:=rfl
  have t:takesK 5=2:=rfl
  rw [t]at nQ
  have s1:ltI 0 (ar.length:Int)=true:=et (by omega)
  have s2:ltN (Int.toNat 0) ar.length=true:=gu (by simp only [Int.toNat_zero];omega)
  have s3:ltI 1 (ar.length:Int)=true:=et (by omega)
  have s4:ltN (Int.toNat 1) ar.length=true:=gu (by have:(Int.toNat 1)=1:=rfl;omega)
  refine⟨?_,rfl,rfl,?_,?_,?_⟩
  ·have:=aiY a0 a1
   simp only [bK,tmV,e0,e1,this];rfl
  ·simp [aX,q]
  ·simp [aY,q]
  ·simp only [aZ,allT,z00,z01,s1,s2,s3,s4];rfl
 ·have q:leI 7 (6:Int)=false:=rfl
  have t:takesK 6=2:=rfl
  rw [t]at nQ
  have s1:ltI 0 (ar.length:Int)=true:=et (by omega)
  have s2:ltN (Int.toNat 0) ar.length=true:=gu (by simp only [Int.toNat_zero];omega)
  have s3:ltI 1 (ar.length:Int)=true:=et (by omega)
  have s4:ltN (Int.toNat 1) ar.length=true:=gu (by have:(Int.toNat 1)=1:=rfl;omega)
  refine⟨?_,rfl,rfl,?_,?_,?_⟩
  ·have:=alf a0 a1
   simp only [bK,tmV,e0,e1,this];rfl
  ·simp [aX,q]
  ·simp [aY,q]
  ·simp only [aZ,allT,z00,z01,s1,s2,s3,s4];rfl
 ·have q:leI 7 kd=true:=bv hc.1
  obtain⟨b1,b2⟩:=hb q
  have hB:=SN (t:=(kd,nm,num)) hT q
  simp only at hB
  obtain⟨p0,p1,p2,p3,p4,p5,p6⟩:=akl hB b2 ha
  have t1:(kd==1)=false:=by simp;omega
  have t2:(kd==2)=false:=by simp;omega
  have t3:(kd==3)=false:=by simp;omega
  have t4:(kd==4)=false:=by simp;omega
  have t5:(kd==5)=false:=by simp;omega
  have t6:(kd==6)=false:=by simp;omega
  have ca:ax (k:Int) ss=stAt ss k:=by simp only [ax,Int.toNat_natCast,stAt]
  have l0:leI 0 (k:Int)=true:=bv (by omega)
  have l1:ltI (k:Int) (ss.length:Int)=true:=et (by omega)
  have l2:ltN k ss.length=true:=gu b1
  have hw:IntKind.i64.wrap ((k:Int) + 1)=((k + 1:Nat):Int):=by rw [bc (by omega) (by omega)];omega
  refine⟨?_,?_,?_,?_,?_,?_⟩
  ·simp only [bK,tmV,t1,t2,t3,t4,t5,t6,cond_false,og,ca,p0,apt]
  ·simp only [fH,t1,t2,t3,t4,t5,t6,cond_false]
  ·simp only [fI,t1,t2,t3,t4,t5,t6,cond_false]
  ·simp only [aX,t1,t2,t3,t4,t5,t6,cond_false,q,cond_true,oh,hw]
  ·simp only [aY,t1,t2,t3,t4,t5,t6,cond_false,q,cond_true,oi,ca,p1,p2,p3,Xg,Int.toNat_natCast]
  ·simp only [aZ,t1,t2,t3,t4,t5,t6,oj,p4,l0,l1,l2,Int.toNat_natCast,allT,Bool.false_or,Bool.not_false,Bool.true_or,Bool.or_true,cond_true]
theorem ajT(ins vs:List ByteArray)(inp xs:List Int): ∀ (ts:List TM) (a:LS),ts.foldl (fun a t=>lnS ins vs inp xs t a) a=ac4 ins vs inp xs ts a
 | [],a=>rfl
 |t::r,a=>by rw [List.foldl_cons,ajT ins vs inp xs r];rfl
structure LineH (ins vs:List ByteArray) (inp xs:List Int) (pre post ts:List TM):Prop where
 hi:bitsB ins.length inp=true
 hx:bitsB vs.length xs=true
 ok: ∃ e,htT ts 0=some e
 hu:ts.all (usedB ins vs)=true
 hn:ts.length≤40
 hbl:(pre++blT ts++post).length≤2000
 h1:leN ins.length 9223372036854775807=true
 h2:leN vs.length 9223372036854775807=true
theorem LineH.tm{ins vs:List ByteArray}{inp xs:List Int}{pre post ts:List TM}(h:LineH ins vs inp xs pre post ts){i:Nat}{t:TM}{a:LS}(ht:ts[i]? =some t)(hI:ahf pre post ts i a):
  TmOk ins vs inp xs t (a.1.drop (ltk t a.1)) a.2.2 a.2.1∧a.2.2≤a.2.1.length∧a.2.1.length≤2000∧(0≤takesK t.1∧takesK t.1≤a.1.length)∧a.1.length≤40∧ahf pre post ts (i + 1) (lnS ins vs inp xs t a):=by
 obtain⟨e,ok⟩:=h.ok
 obtain⟨g1,g2,g3,g4,g5,g6,g7,g8,g9⟩:=ajh (ins:=ins) (vs:=vs) h.hi h.hx ok ht hI
 have hi2:=(fa.1 h.hi).2
 have hx2:=(fa.1 h.hx).2
 have hil:=(List.getElem?_eq_some_iff.1 ht).1
 have hn:=h.hn
 have hbl:=h.hbl
 refine⟨⟨g3,g4,List.all_eq_true.1 h.hu t (List.mem_of_getElem? ht),h.h1,h.h2,by omega,by omega,fun h7=> ?_,by omega⟩,by omega,by omega,g1,by omega,g9⟩
 obtain⟨q1,q2⟩:=g6 h7
 exact⟨by omega,q2⟩
theorem aor{ins vs:List ByteArray}{inp xs:List Int}{pre post ts:List TM}(h:LineH ins vs inp xs pre post ts)(u v:ByteArray)(os:List ByteArray)(ls:List LN)(ou:List Int)(ss:List BS3)(k:Nat)(h0:ahf pre post ts 0 ([],ss,k)):
  ak.fin ((0:Int),(ts.length:Int),ts,[],u,v,(k:Int),ins,vs,os,ls,xs,ss,inp,ou)=true∧
  ak.res ((0:Int),(ts.length:Int),ts,[],u,v,(k:Int),ins,vs,os,ls,xs,ss,inp,ou)=
   (0,((ts.length:Int),(ts.length:Int),ts,(ac4 ins vs inp xs ts ([],ss,k)).1,u,v,((ac4 ins vs inp xs ts ([],ss,k)).2.2:Int),ins,vs,os,ls,xs,(ac4 ins vs inp xs ts ([],ss,k)).2.1,inp,ou)):=by
 have iY:=ak.along2 (fun i (a:LS)=>((i:Int),(ts.length:Int),ts,a.1,u,v,(a.2.2:Int),ins,vs,os,ls,xs,a.2.1,inp,ou)) (fun x=>(x.2.2.2.1,x.2.2.2.2.2.2.2.2.2.2.2.2.1,x.2.2.2.2.2.2.1.toNat))
  (fun(t:TM) a=> .inr (lnS ins vs inp xs t a)) 0 (fun i a=>ahf pre post ts i a) ts ([],ss,k) h0 (by have:=h.hn;omega) (fun i t a hb hI=> ?_) (fun a hI=> ?_)
 ·rw [JY (g:=fun a t=>lnS ins vs inp xs t a) (fun b a=>rfl),ajT]at iY
  simpa using iY
 ·obtain⟨hm,hk,hs,Yb,hst,hI2⟩:=h.tm hb hI
  have eB:=(List.getElem?_eq_some_iff.1 hb).1
  have hn:=h.hn
  have hw:IntKind.i64.wrap ((i:Int) + 1)=((i + 1:Nat):Int):=by rw [bc (by omega) (by omega)];omega
  obtain⟨kd,nm,num⟩:=t
  obtain⟨stk,ss',k'⟩:=a
  simp only at hk hs Yb hst hm
  have g0:ac (i:Int) ts=(kd,nm,num):=by simp only [ac,Int.toNat_natCast,hb,Option.getD_some]
  have g1:aH (i:Int) ts stk=((ltk (kd,nm,num) stk:Nat):Int):=by
   simp only [aH,g0,amX,ltk]
   rw [bc (by omega) (by omega)];omega
  obtain⟨r0,r1,r2,r3,r4,r5⟩:=apq hm hk u v
  have g2:em (i:Int) ts stk (k':Int) ins vs xs ss' inp= [tmV ins vs inp xs (kd,nm,num) (stk.drop (ltk (kd,nm,num) stk)) (stAt ss' k')]:=by
   simp only [em,g0,g1,Int.toNat_natCast,r0]
  have hlk:ltk (kd,nm,num) stk≤stk.length:=Nat.sub_le _ _
  have l0:ltI (i:Int) (ts.length:Int)=true:=et (by omega)
  have l1:leI 0 (i:Int)=true:=bv (by omega)
  have l2:ltN i ts.length=true:=gu eB
  have l3:leI 0 ((ltk (kd,nm,num) stk:Nat):Int)=true:=bv (by omega)
  have l4:leI ((ltk (kd,nm,num) stk:Nat):Int) (stk.length:Int)=true:=bv (by omega)
  have l5:leN (ltk (kd,nm,num) stk) stk.length=true:=dm hlk
  have l6:leN ((List.take (ltk (kd,nm,num) stk) stk).length + 1) 9223372036854775807=true:=dm (by rw [List.length_take];omega)
  have l7:leN (((List.take (ltk (kd,nm,num) stk) stk).length + 1) * 8) 140737488355328=true:=dm (by rw [List.length_take];omega)
  refine⟨?_,?_,?_,fun a' hf=> ?_⟩
  ·simp only [eE,eF,eG,eH,cW,cX,eI,eJ,eK,eL,ee,ef,eg,ei,ej,ek,er,ak,LT.nds,allT,g0,g1,g2,r5,l0,l1,l2,l3,l4,l5,l6,l7,List.length_singleton,Int.toNat_natCast,cond_true,Bool.and_self]
  ·simp only [eE,eF,eG,eH,cW,cX,eI,eJ,eK,eL,ee,ef,eg,ei,ej,ek,er,ak,LT.each,g0,g1,g2,r1,r2,r3,r4,l0,hw,Int.toNat_natCast,Bool.and_true,and_self]
  ·simp only [eE,eF,eG,eH,cW,cX,eI,eJ,eK,eL,ee,ef,eg,ei,ej,ek,er,ak,LT.fn,g0,g1,g2,r3,r4,l0,Int.toNat_natCast,cond_true,lnS]
  ·simp only [Sum.inr.injEq]at hf
   subst hf;exact hI2
 ·have bW:ltI (ts.length:Int) (ts.length:Int)=false:=Pa (by omega)
  simp [eE,eF,eG,eH,cW,cX,eI,eJ,eK,eL,ee,ef,eg,ei,ej,ek,er,ak,LT.out,bW]
theorem aot{ins vs:List ByteArray}{inp xs:List Int}{pre post ts:List TM}(h:LineH ins vs inp xs pre post ts)(u v:ByteArray)(os:List ByteArray)(ls:List LN)(ss:List BS3)(k:Nat)(h0:ahf pre post ts 0 ([],ss,k)):
  aU.fin ((0:Int),(k:Int),ts,[],u,v,inp,ins,vs,os,ls,xs,ss)=true∧
  aU.res ((0:Int),(k:Int),ts,[],u,v,inp,ins,vs,os,ls,xs,ss)=
   (0,((ts.length:Int),((ac4 ins vs inp xs ts ([],ss,k)).2.2:Int),ts,(ac4 ins vs inp xs ts ([],ss,k)).1,u,v,inp,ins,vs,os,ls,xs,(ac4 ins vs inp xs ts ([],ss,k)).2.1)):=by
 have iY:=aU.along2 (fun i (a:LS)=>((i:Int),(a.2.2:Int),ts,a.1,u,v,inp,ins,vs,os,ls,xs,a.2.1)) (fun x=>(x.2.2.2.1,x.2.2.2.2.2.2.2.2.2.2.2.2,x.2.1.toNat))
  (fun(t:TM) a=> .inr (lnS ins vs inp xs t a)) 0 (fun i a=>ahf pre post ts i a) ts ([],ss,k) h0 (by have:=h.hn;omega) (fun i t a hb hI=> ?_) (fun a hI=> ?_)
 ·rw [JY (g:=fun a t=>lnS ins vs inp xs t a) (fun b a=>rfl),ajT]at iY
  simpa using iY
 ·obtain⟨hm,hk,hs,Yb,hst,hI2⟩:=h.tm hb hI
  have eB:=(List.getElem?_eq_some_iff.1 hb).1
  have hn:=h.hn
  have hw:IntKind.i64.wrap ((i:Int) + 1)=((i + 1:Nat):Int):=by rw [bc (by omega) (by omega)];omega
  obtain⟨kd,nm,num⟩:=t
  obtain⟨stk,ss',k'⟩:=a
  simp only at hk hs Yb hst hm
  have g0:bp (i:Int) ts=(kd,nm,num):=by simp only [bp,Int.toNat_natCast,hb,Option.getD_some]
  have g1:py (i:Int) ts stk=((ltk (kd,nm,num) stk:Nat):Int):=by
   simp only [py,g0,show lY kd=takesK kd from rfl,ltk]
   rw [bc (by omega) (by omega)];omega
  have g2:cf (i:Int) ts stk=stk.drop (ltk (kd,nm,num) stk):=by
   simp only [cf,g1,Int.toNat_natCast,List.take_length]
  have g3:pz (i:Int) ts stk=stk.take (ltk (kd,nm,num) stk):=by
   simp only [pz,g1,Int.toNat_natCast,Int.toNat_zero,List.drop_zero]
  have q4:aw (i:Int) ts=(kd==1):=by simp only [aw,g0]
  have q5:aE (i:Int) ts=(kd==2):=by simp only [aE,g0]
  have q6:aF (i:Int) ts=(kd==3):=by simp only [aF,g0]
  have q7:aG (i:Int) ts=(kd==4):=by simp only [aG,g0]
  have q10:aN (i:Int) ts=(kd==5):=by simp only [aN,g0]
  have q13:bQ (i:Int) ts=(kd==6):=by simp only [bQ,g0]
  have q15:dj (k':Int) ss'=stAt ss' k':=by simp only [dj,Int.toNat_natCast,stAt]
  obtain⟨hT,ha,hu,h1,h2,hi,hx,hb7,hss⟩:=hm
  have hkk:=afY hT
  simp only at hT ha hu hb7 hkk
  have hbits:=(fa.1 ha).1
  have nQ:=(fa.1 ha).2
  generalize hA:stk.drop (ltk (kd,nm,num) stk)=ar at g2 ha hbits nQ
  have a0:=Rs hbits 0
  have a1:=Rs hbits 1
  have e14:rW (i:Int) ts stk=atZ ar 0:=by simp only [rW,g2];rfl
  have e1:Option.getD ar[Int.toNat (1:Int)]? (0:Int)=atZ ar 1:=rfl
  have hlk:ltk (kd,nm,num) stk≤stk.length:=Nat.sub_le _ _
  have l0:ltI (i:Int) (ts.length:Int)=true:=et (by omega)
  have l1:leI 0 (i:Int)=true:=bv (by omega)
  have l2:ltN i ts.length=true:=gu eB
  have l3:leI 0 ((ltk (kd,nm,num) stk:Nat):Int)=true:=bv (by omega)
  have l4:leI ((ltk (kd,nm,num) stk:Nat):Int) (stk.length:Int)=true:=bv (by omega)
  have l5:leI (stk.length:Int) (stk.length:Int)=true:=bv (by omega)
  have hal:ar.length≤40:=by rw [← hA,List.length_drop];omega
  have l6:leN ar.length 1048576=true:=dm (by omega)
  have l6b:leN (List.take (ltk (kd,nm,num) stk) stk).length 1048576=true:=dm (by rw [List.length_take];omega)
  have l7:leN ((List.take (ltk (kd,nm,num) stk) stk).length + 1) 9223372036854775807=true:=dm (by rw [List.length_take];omega)
  have l8:leN (((List.take (ltk (kd,nm,num) stk) stk).length + 1) * 8) 140737488355328=true:=dm (by rw [List.length_take];omega)
  have z00:leI (0:Int) 0=true:=rfl
  have z01:leI (0:Int) 1=true:=rfl
  have y0:iN (i:Int) ts xs=xs:=Bool.cond_self _ _
  have hfin:be (i:Int) (k':Int) ts stk inp ins vs xs ss'= [tmV ins vs inp xs (kd,nm,num) ar (stAt ss' k')]∧
    bI (i:Int) (k':Int) ts=((bif leI 7 kd then k' + 1 else k':Nat):Int)∧bJ (i:Int) (k':Int) ts stk ss'=(bif leI 7 kd then ss'.set k' (Xg kd num ar (stAt ss' k'))else ss')∧
    (aU.lt ((i:Int),(k':Int),ts,stk,u,v,inp,ins,vs,os,ls,xs,ss')).nds=true:=by
   have hc:kd=1∨kd=2∨kd=3∨kd=4∨kd=5∨kd=6∨(7≤kd∧kd≤12):=by omega
   have n29: ∀ z:Int,leN (List.length (List.take (ltk (kd,nm,num) stk) stk) + List.length [z]) 9223372036854775807=true:=fun z=>l7
   have n30: ∀ z:Int,leN ((List.length (List.take (ltk (kd,nm,num) stk) stk) + List.length [z]) * 8) 140737488355328=true:=fun z=>l8
   rcases hc with rfl | rfl | rfl | rfl | rfl | rfl | hc
   ·have hr:Vh ins vs nm=true:=by simpa [usedB] using hu
    obtain⟨v1,v2⟩:=aeV nm ins vs inp xs hr h1 h2 hi hx
    have hv:be (i:Int) (k':Int) ts stk inp ins vs xs ss'= [tmV ins vs inp xs (1,nm,num) ar (stAt ss' k')]:=by simp [be,tmV,q4,g0,v1]
    refine⟨hv,?_,?_,?_⟩
    ·simp [bI,q4,show leI 7 (1:Int)=false from rfl]
    ·simp [bJ,q4,show leI 7 (1:Int)=false from rfl]
    ·simp only [dQ,lh,li,jC,jD,lj,lk,lm,ln,lp,kh,ki,kj,kk,km,kn,ko,kq,kr,kt,ku,kv,kw,kx,ky,iI,iJ,iK,kz,kA,kB,iL,bI,iM,iN,bJ,eM,aU,LT.nds,allT,g0,g1,g2,g3,q4,q5,q6,q7,q10,q13,hv,v2,l0,l1,l2,l3,l4,l5,l6,l6b,n29,n30,z00,Int.toNat_natCast];rfl
   ·have hv:be (i:Int) (k':Int) ts stk inp ins vs xs ss'= [tmV ins vs inp xs (2,nm,num) ar (stAt ss' k')]:=by simp [be,tmV,q4,q5]
    refine⟨hv,?_,?_,?_⟩
    ·simp [bI,q4,q5,show leI 7 (2:Int)=false from rfl]
    ·simp [bJ,q4,q5,show leI 7 (2:Int)=false from rfl]
    ·simp only [dQ,lh,li,jC,jD,lj,lk,lm,ln,lp,kh,ki,kj,kk,km,kn,ko,kq,kr,kt,ku,kv,kw,kx,ky,iI,iJ,iK,kz,kA,kB,iL,bI,iM,iN,bJ,eM,aU,LT.nds,allT,g0,g1,g2,g3,q4,q5,q6,q7,q10,q13,hv,l0,l1,l2,l3,l4,l5,l6,l6b,n29,n30,z00,Int.toNat_natCast];rfl
   ·have hv:be (i:Int) (k':Int) ts stk inp ins vs xs ss'= [tmV ins vs inp xs (3,nm,num) ar (stAt ss' k')]:=by simp [be,tmV,q4,q5,q6]
    refine⟨hv,?_,?_,?_⟩
    ·simp [bI,q4,q5,q6,show leI 7 (3:Int)=false from rfl]
    ·simp [bJ,q4,q5,q6,show leI 7 (3:Int)=false from rfl]
    ·simp only [dQ,lh,li,jC,jD,lj,lk,lm,ln,lp,kh,ki,kj,kk,km,kn,ko,kq,kr,kt,ku,kv,kw,kx,ky,iI,iJ,iK,kz,kA,kB,iL,bI,iM,iN,bJ,eM,aU,LT.nds,allT,g0,g1,g2,g3,q4,q5,q6,q7,q10,q13,hv,l0,l1,l2,l3,l4,l5,l6,l6b,n29,n30,z00,Int.toNat_natCast];rfl
   ·have t:takesK 4=1:=rfl
    rw [t]at nQ
    have s1:iO (i:Int) ts stk=true:=by simp only [iO,g2];exact et (by omega)
    have s2:iP (i:Int) ts stk=true:=by simp only [iP,g2];exact gu (by simp only [Int.toNat_zero];omega)
    have hv:be (i:Int) (k':Int) ts stk inp ins vs xs ss'= [tmV ins vs inp xs (4,nm,num) ar (stAt ss' k')]:=by simp [be,tmV,q4,q5,q6,q7,e14,alb a0]
    refine⟨hv,?_,?_,?_⟩
    ·simp [bI,q4,q5,q6,q7,show leI 7 (4:Int)=false from rfl]
    ·simp [bJ,q4,q5,q6,q7,show leI 7 (4:Int)=false from rfl]
    ·simp only [dQ,lh,li,jC,jD,lj,lk,lm,ln,lp,kh,ki,kj,kk,km,kn,ko,kq,kr,kt,ku,kv,kw,kx,ky,iI,iJ,iK,kz,kA,kB,iL,bI,iM,iN,bJ,eM,aU,LT.nds,allT,g0,g1,g2,g3,q4,q5,q6,q7,q10,q13,s1,s2,hv,l0,l1,l2,l3,l4,l5,l6,l6b,n29,n30,z00,Int.toNat_natCast];rfl
   ·have t:takesK 5=2:=rfl
    rw [t]at nQ
    have s1:iO (i:Int) ts stk=true:=by simp only [iO,g2];exact et (by omega)
    have s2:iP (i:Int) ts stk=true:=by simp only [iP,g2];exact gu (by simp only [Int.toNat_zero];omega)
    have s3:oD (i:Int) ts stk=true:=by simp only [oD,g2];exact et (by omega)
    have s4:oE (i:Int) ts stk=true:=by simp only [oE,g2];exact gu (by have:(Int.toNat 1)=1:=rfl;omega)
    have hv:be (i:Int) (k':Int) ts stk inp ins vs xs ss'= [tmV ins vs inp xs (5,nm,num) ar (stAt ss' k')]:=by
     have:=aiY a0 a1
     simp only [be,tmV,q4,q5,q6,q7,q10,e14,g2,e1,this];rfl
    refine⟨hv,?_,?_,?_⟩
    ·simp [bI,q4,q5,q6,q7,q10,show leI 7 (5:Int)=false from rfl]
    ·simp [bJ,q4,q5,q6,q7,q10,show leI 7 (5:Int)=false from rfl]
    ·simp only [dQ,lh,li,jC,jD,lj,lk,lm,ln,lp,kh,ki,kj,kk,km,kn,ko,kq,kr,kt,ku,kv,kw,kx,ky,iI,iJ,iK,kz,kA,kB,iL,bI,iM,iN,bJ,eM,aU,LT.nds,allT,g0,g1,g2,g3,q4,q5,q6,q7,q10,q13,s1,s2,s3,s4,hv,l0,l1,l2,l3,l4,l5,l6,l6b,n29,n30,z00,z01,Int.toNat_natCast];rfl
   ·have t:takesK 6=2:=rfl
    rw [t]at nQ
    have s1:iO (i:Int) ts stk=true:=by simp only [iO,g2];exact et (by omega)
    have s2:iP (i:Int) ts stk=true:=by simp only [iP,g2];exact gu (by simp only [Int.toNat_zero];omega)
    have s3:oD (i:Int) ts stk=true:=by simp only [oD,g2];exact et (by omega)
    have s4:oE (i:Int) ts stk=true:=by simp only [oE,g2];exact gu (by have:(Int.toNat 1)=1:=rfl;omega)
    have hv:be (i:Int) (k':Int) ts stk inp ins vs xs ss'= [tmV ins vs inp xs (6,nm,num) ar (stAt ss' k')]:=by
     have:=alf a0 a1
     simp only [be,tmV,q4,q5,q6,q7,q10,q13,e14,g2,e1,this];rfl
    refine⟨hv,?_,?_,?_⟩
    ·simp [bI,q4,q5,q6,q7,q10,q13,show leI 7 (6:Int)=false from rfl]
    ·simp [bJ,q4,q5,q6,q7,q10,q13,show leI 7 (6:Int)=false from rfl]
    ·simp only [dQ,lh,li,jC,jD,lj,lk,lm,ln,lp,kh,ki,kj,kk,km,kn,ko,kq,kr,kt,ku,kv,kw,kx,ky,iI,iJ,iK,kz,kA,kB,iL,bI,iM,iN,bJ,eM,aU,LT.nds,allT,g0,g1,g2,g3,q4,q5,q6,q7,q10,q13,s1,s2,s3,s4,hv,l0,l1,l2,l3,l4,l5,l6,l6b,n29,n30,z00,z01,Int.toNat_natCast];rfl
   ·have q:leI 7 kd=true:=bv hc.1
    obtain⟨b1,b2⟩:=hb7 q
    have hB:=SN (t:=(kd,nm,num)) hT q
    simp only at hB
    obtain⟨p0,p1,p2,p3,p4,p5,p6⟩:=akl hB b2 ha
    have t1:(kd==1)=false:=by simp;omega
    have t2:(kd==2)=false:=by simp;omega
    have t3:(kd==3)=false:=by simp;omega
    have t4:(kd==4)=false:=by simp;omega
    have t5:(kd==5)=false:=by simp;omega
    have t6:(kd==6)=false:=by simp;omega
    have m0:leI 0 (k':Int)=true:=bv (by omega)
    have m1:ltI (k':Int) (ss'.length:Int)=true:=et (by omega)
    have m2:ltN k' ss'.length=true:=gu b1
    have hw2:IntKind.i64.wrap ((k':Int) + 1)=((k' + 1:Nat):Int):=by rw [bc (by omega) (by omega)];omega
    have hv:be (i:Int) (k':Int) ts stk inp ins vs xs ss'= [tmV ins vs inp xs (kd,nm,num) ar (stAt ss' k')]:=by
     simp only [be,tmV,q4,q5,q6,q7,q10,q13,t1,t2,t3,t4,t5,t6,cond_false,g0,q15,g2,apt]
    refine⟨hv,?_,?_,?_⟩
    ·simp only [bI,q4,q5,q6,q7,q10,q13,t1,t2,t3,t4,t5,t6,cond_false,q,cond_true,hw2]
    ·simp only [bJ,q4,q5,q6,q7,q10,q13,t1,t2,t3,t4,t5,t6,cond_false,q,cond_true,g0,q15,g2,Xg,Int.toNat_natCast]
    ·simp only [dQ,lh,li,jC,jD,lj,lk,lm,ln,lp,kh,ki,kj,kk,km,kn,ko,kq,kr,kt,ku,kv,kw,kx,ky,iI,iJ,iK,kz,kA,kB,iL,bI,iM,iN,bJ,eM,aU,LT.nds,allT,g0,g1,g2,g3,q4,q5,q6,q7,q10,q13,t1,t2,t3,t4,t5,t6,hv,p5,m0,m1,m2,l0,l1,l2,l3,l4,l5,l6,l6b,n29,n30,z00,z01,Int.toNat_natCast];rfl
  obtain⟨f1,f2,f3,f4⟩:=hfin
  refine⟨f4,?_,?_,fun a' hf=> ?_⟩
  ·have c31:iL (i:Int)=((i + 1:Nat):Int):=hw
   have c0:dQ (i:Int) ts=true:=l0
   simp only [aU,eM,LT.each,c0,c31,f2,y0,Int.toNat_natCast]
   simp
  ·have c0:dQ (i:Int) ts=true:=l0
   simp only [aU,eM,LT.fn,c0,cond_true,iM,f1,f2,f3,g3,Int.toNat_natCast,lnS,hA]
  ·simp only [Sum.inr.injEq]at hf
   subst hf;exact hI2
 ·have bW:dQ (ts.length:Int) ts=false:=Pa (by omega)
  simp only [aU,eM,LT.out,bW]
  rfl
abbrev bV:=Int×Int×List (ByteArray×(List (Int×(ByteArray×Int))))×ByteArray×ByteArray×Int×List ByteArray×List ByteArray×List ByteArray×List Int×List (Int×(Int×Int))×List Int×List Int
def aI(y0:Int)(y2:List (ByteArray×(List (Int×(ByteArray×Int))))):ByteArray×List (Int×ByteArray×Int):=Option.getD y2[Int.toNat y0]? (qA (CTy.pair CTy.str (CTy.sl (178:Nat) afk)))
def gc(y0 y1:Int):Bool:=ltI y0 y1
def gd(y0:Int):Bool:=leI (0:Int) y0
def ge(y0:Int)(y2:List (ByteArray×(List (Int×(ByteArray×Int))))):Bool:=ltI y0 (↑y2.length:Int)
def gf(y0:Int)(y2:List (ByteArray×(List (Int×(ByteArray×Int))))):Bool:=ltN y0.toNat y2.length
def gg(y0:Int)(y2:List (ByteArray×(List (Int×(ByteArray×Int)))))(y3 y4:ByteArray)(y5:Int)(y6 y7 y8:List ByteArray)(y9:List Int)(y10:List (Int×(Int×Int)))(y11 y12:List Int):Bool:=fG ((aI y0 y2).1) y3 y4 y5 ((aI y0 y2).2) y6 y7 y8 y2 y9 y10 y11 y12
def gh(y0:Int):Int:=IntKind.wrap .i64 (y0 + (1:Int))
def gi(y0:Int)(y2:List (ByteArray×(List (Int×(ByteArray×Int)))))(y3 y4:ByteArray)(y5:Int)(y6 y7 y8:List ByteArray)(y9:List Int)(y10:List (Int×(Int×Int)))(y11 y12:List Int):ByteArray:=jL y3 y4 y5 ((aI y0 y2).2) y6 y7 y8 y2 y9 y10 y11 y12
def gj(y0:Int)(y2:List (ByteArray×(List (Int×(ByteArray×Int)))))(y3 y4:ByteArray)(y5:Int)(y6 y7 y8:List ByteArray)(y9:List Int)(y10:List (Int×(Int×Int)))(y11 y12:List Int):ByteArray:=jM y3 y4 y5 ((aI y0 y2).2) y6 y7 y8 y2 y9 y10 y11 y12
def gk(y0:Int)(y2:List (ByteArray×(List (Int×(ByteArray×Int)))))(y3 y4:ByteArray)(y5:Int)(y6 y7 y8:List ByteArray)(y9:List Int)(y10:List (Int×(Int×Int)))(y11 y12:List Int):Int:=jN y3 y4 y5 ((aI y0 y2).2) y6 y7 y8 y2 y9 y10 y11 y12
def gm(y0:Int)(y2:List (ByteArray×(List (Int×(ByteArray×Int)))))(y3 y4:ByteArray)(y5:Int)(y6 y7 y8:List ByteArray)(y9:List Int)(y10:List (Int×(Int×Int)))(y11 y12:List Int):List Int:=jO ((aI y0 y2).1) y3 y4 y5 ((aI y0 y2).2) y6 y7 y8 y2 y9 y10 y11 y12
def fE(y0:Int)(y2:List (ByteArray×(List (Int×(ByteArray×Int)))))(y3 y4:ByteArray)(y5:Int)(y6 y7 y8:List ByteArray)(y9:List Int)(y10:List (Int×(Int×Int)))(y11 y12:List Int):List (Int×(Int×Int)):=jP y3 y4 y5 ((aI y0 y2).2) y6 y7 y8 y2 y9 y10 y11 y12
def fF(y0:Int)(y2:List (ByteArray×(List (Int×(ByteArray×Int)))))(y3 y4:ByteArray)(y5:Int)(y6 y7 y8:List ByteArray)(y9:List Int)(y10:List (Int×(Int×Int)))(y11 y12:List Int):List Int:=jQ ((aI y0 y2).1) y3 y4 y5 ((aI y0 y2).2) y6 y7 y8 y2 y9 y10 y11 y12
def Gg:bV→List (Nat×SV)
 |(y0,y1,_,_,_,_,_,_,_,_,_,_,_)=> [(24,(.one ⟨false,[.val (.int .i64 y0)]⟩)),(23,(.one ⟨false,[.val (.int .i64 y1)]⟩)),(22,(.one ⟨false,[.ref 0]⟩)),(8,(.one ⟨false,[.ptr 1 0]⟩))]
def Ge:bV→List (Nat×Entry)
 |(_,_,y2,y3,y4,y5,y6,y7,y8,y9,y10,y11,y12)=> [(0,(.row false 204 (CTy.pair CTy.str (CTy.sl (178:Nat) afk)) y2)),(1,(.box 202 [.val (.string y3),.ref 2,.ref 3,.ref 4,.val (.string y4),.ref 0,.ref 5,.ref 6,.ref 7,.ref 8,.val (.int .i64 y5)])),(2,(.row false 9 ahF y6)),(3,(.row false 9 ahF y7)),(4,(.row false 9 ahF y8)),(5,(.row true 2 agJ y9)),(6,(.row true 172 aal y10)),(7,(.row false 2 agJ y11)),(8,(.row true 2 agJ y12))]
def Gk:Nat→bV→List (Nat×SV)
 |_,(_,_,_,_,_,_,_,_,_,_,_,_,_)=> []
def Gi:Nat→bV→List (Nat×Entry)
 |_,(_,_,y2,y3,y4,y5,y6,y7,y8,y9,y10,y11,y12)=> [(0,(.row false 204 (CTy.pair CTy.str (CTy.sl (178:Nat) afk)) y2)),(1,(.box 202 [.val (.string y3),.ref 2,.ref 3,.ref 4,.val (.string y4),.ref 0,.ref 5,.ref 6,.ref 7,.ref 8,.val (.int .i64 y5)])),(2,(.row false 9 ahF y6)),(3,(.row false 9 ahF y7)),(4,(.row false 9 ahF y8)),(5,(.row true 2 agJ y9)),(6,(.row true 172 aal y10)),(7,(.row false 2 agJ y11)),(8,(.row true 2 agJ y12))]
def fK:bV→LT bV
 |(y0,y1,y2,y3,y4,y5,y6,y7,y8,y9,y10,y11,y12)=> .ite (gc y0 y1) (.need [gd y0,ge y0 y2,gf y0 y2] (.need [gg y0 y2 y3 y4 y5 y6 y7 y8 y9 y10 y11 y12] (.nrm ((gh y0),y1,y2,gi y0 y2 y3 y4 y5 y6 y7 y8 y9 y10 y11 y12,gj y0 y2 y3 y4 y5 y6 y7 y8 y9 y10 y11 y12,gk y0 y2 y3 y4 y5 y6 y7 y8 y9 y10 y11 y12,y6,y7,y8,gm y0 y2 y3 y4 y5 y6 y7 y8 y9 y10 y11 y12,fE y0 y2 y3 y4 y5 y6 y7 y8 y9 y10 y11 y12,y11,(fF y0 y2 y3 y4 y5 y6 y7 y8 y9 y10 y11 y12)) [(0,0),(1,1),(2,2),(3,3),(4,4),(5,5),(6,6),(7,7),(8,8)]))) (.ext 0 [(0,0),(1,1),(2,2),(3,3),(4,4),(5,5),(6,6),(7,7),(8,8)])
def oo(s:St):Option bV:=
 (match s.look 24 with
 |some ⟨none,.one ⟨false,[.val (.int .i64 y0)]⟩⟩=>
 (match s.look 23 with
 |some ⟨none,.one ⟨false,[.val (.int .i64 y1)]⟩⟩=>
 (match s.look 22 with
 |some ⟨none,.one ⟨false,[.ref 3]⟩⟩=>
 (match s.look 8 with
 |some ⟨none,.one ⟨false,[.ptr 1344 0]⟩⟩=>
 (match s.ent 3 with
 |some (.row false 204 (.pair .str (.sl (178:Nat) (.pair (.int .i64) (.pair .str (.int .i64))))) y2)=>
 (match s.ent 1344 with
 |some (.box 202 [.val (.string y3),.ref 0,.ref 1,.ref 2,.val (.string y4),.ref 3,.ref 896,.ref 897,.ref 6,.ref 1216,.val (.int .i64 y5)])=>
 (match s.ent 0 with
 |some (.row false 9 (.str) y6)=>
 (match s.ent 1 with
 |some (.row false 9 (.str) y7)=>
 (match s.ent 2 with
 |some (.row false 9 (.str) y8)=>
 (match s.ent 896 with
 |some (.row true 2 (.int .i64) y9)=>
 (match s.ent 897 with
 |some (.row true 172 (.pair (.int .i64) (.pair (.int .i64) (.int .i64))) y10)=>
 (match s.ent 6 with
 |some (.row false 2 (.int .i64) y11)=>
 (match s.ent 1216 with
 |some (.row true 2 (.int .i64) y12)=>
 some (y0,y1,y2,y3,y4,y5,y6,y7,y8,y9,y10,y11,y12)
 |_=>none)
 |_=>none)
 |_=>none)
 |_=>none)
 |_=>none)
 |_=>none)
 |_=>none)
 |_=>none)
 |_=>none)
 |_=>none)
 |_=>none)
 |_=>none)
 |_=>none)
def aC:Lp bV where
 h:=⟨[25,26,27,10,28,29,30,31,24],[0,1,2,3,4,5,6,7,8],[],[]⟩
 JL:=Gg
 JE:=Ge
 XL:=Gk
 XE:=Gi
 q:=fun j=>match j with | _=> .exit 0
 tags:= [0]
 lt:=fK
 fuel:=fun(y0,y1,y2,y3,y4,y5,y6,y7,y8,y9,y10,y11,y12)=>y0.natAbs + y1.natAbs + y2.length + y3.size + y4.size + y5.natAbs + y6.length + y7.length + y8.length + y9.length + y10.length + y11.length + y12.length
 fix:=fun(_,y1,y2,_,_,_,y6,y7,y8,_,_,y11,_) (y0,_,_,y3,y4,y5,_,_,_,y9,y10,_,y12)=>(y0,y1,y2,y3,y4,y5,y6,y7,y8,y9,y10,y11,y12)
 σ:= [(0,3),(1,1344),(2,0),(3,1),(4,2),(5,896),(6,897),(7,6),(8,1216)]
 rd:=oo
theorem ED:LoopOk prog (fun k=>Nat.blt k Tryz.f111.ntmps) aC.F (aL f111 0):=by
 refine Lp.ok (tbl:= [wx,uC,ud]) (lf:= []) aP aC (by kernel_rfl) (LOk.nil _) (fun _=>rfl) (fun _ _=>rfl) ?_ ?_ ?_ ?_ (fun _=>rfl) ?_
 ·rintro⟨y0,y1,y2,y3,y4,y5,y6,y7,y8,y9,y10,y11,y12⟩;kernel_rfl
 ·rintro⟨y0,y1,y2,y3,y4,y5,y6,y7,y8,y9,y10,y11,y12⟩;kernel_rfl
 ·intro s x h
  have h:oo s=some x:=h
  unfold oo at h
  repeat' split at h
  all_goals cases h
  exact⟨aa (by assumption) rfl (aa (by assumption) rfl (aa (by assumption) rfl (aa (by assumption) rfl (rfl)))),ab rfl (by assumption) rfl (ab rfl (by assumption) rfl (ab rfl (by assumption) rfl (ab rfl (by assumption) rfl (ab rfl (by assumption) rfl (ab rfl (by assumption) rfl (ab rfl (by assumption) rfl (ab rfl (by assumption) rfl (ab rfl (by assumption) rfl (rfl)))))))))⟩
 ·rintro⟨y0,y1,y2,y3,y4,y5,y6,y7,y8,y9,y10,y11,y12⟩;kernel_rfl
 ·rintro⟨y0,y1,y2,y3,y4,y5,y6,y7,y8,y9,y10,y11,y12⟩ z;exact(And.intro rfl trivial)
section
variable (x0 x1:ByteArray)(x2 x3 x4:List ByteArray)(x5:List (ByteArray×List (Int×ByteArray×Int)))(x6:List Int)(x7:List (Int×Int×Int))(x8:List Int)
def db:Bool:= !ByteArray.toList x1==ByteArray.toList (ByteArray.mk #[])
def hY:Int×Int×List (ByteArray×List (Int×ByteArray×Int))×ByteArray×ByteArray×Int×List ByteArray×List ByteArray×List ByteArray×List Int×List (Int×Int×Int)×List Int×List Int:=((0:Int),(↑x5.length:Int),x5,x0,x1,(0:Int),x2,x3,x4,x6,x7,x8,List.replicate (Int.toNat (↑x4.length:Int)) (0:Int))
def la:List Int×List (Int×Int×Int)×List Int×List Int:=(Lp.res aC (hY x0 x1 x2 x3 x4 x5 x6 x7 x8)).2.2.2.2.2.2.2.2.2.2
def ey:List Int:=(la x0 x1 x2 x3 x4 x5 x6 x7 x8).1
def lb:List (Int×Int×Int)×List Int×List Int:=(la x0 x1 x2 x3 x4 x5 x6 x7 x8).2
def pM:List Int:=(lb x0 x1 x2 x3 x4 x5 x6 x7 x8).2.2
def lc:List Int:=bif db x1&&true then nM x1 x2 (pM x0 x1 x2 x3 x4 x5 x6 x7 x8)else pM x0 x1 x2 x3 x4 x5 x6 x7 x8
def ld:List (Int×Int×Int):=(lb x0 x1 x2 x3 x4 x5 x6 x7 x8).1
def qi:List Int:=bif bif db x1 then jn x1 x2 x3 (ey x0 x1 x2 x3 x4 x5 x6 x7 x8) x8==(0:Int)else false then Vq (List.length (lc x0 x1 x2 x3 x4 x5 x6 x7 x8))else lc x0 x1 x2 x3 x4 x5 x6 x7 x8
def qj:List Int:=bif db x1&&true then nK x1 x2 (ey x0 x1 x2 x3 x4 x5 x6 x7 x8)else ey x0 x1 x2 x3 x4 x5 x6 x7 x8
def qk:List (Int×(Int×Int)):=bif db x1&&true then nL x1 x2 (ld x0 x1 x2 x3 x4 x5 x6 x7 x8)else ld x0 x1 x2 x3 x4 x5 x6 x7 x8
def ql:Bool:=allT [kW x6 x7,leI (0:Int) (↑x4.length:Int),leI (↑x4.length:Int) (↑x4.length:Int),leI ((↑(8:Nat):Int) * (↑x4.length:Int)) (281474976710656:Int),leI (↑x4.length:Int) (9223372036854775807:Int),Lp.fin aC (hY x0 x1 x2 x3 x4 x5 x6 x7 x8),!(db x1&&true)||jo x1 x2 x3 (ey x0 x1 x2 x3 x4 x5 x6 x7 x8) x8]
end
def xk:List SV→List Entry→Option Out
 | [.one ⟨true,[.val (.string x0),.ref 0,.ref 1,.ref 2,.val (.string x1),.ref 3]⟩,.one ⟨true,[.ref 4,.ref 5]⟩,.one ⟨false,[.ref 6]⟩],[.row false 9 (.str) x2,.row false 9 (.str) x3,.row false 9 (.str) x4,.row false 204 (.pair (.str) (.sl 178 (.pair (.int .i64) (.pair (.str) (.int .i64))))) x5,.row false 2 (.int .i64) x6,.row false 172 (.pair (.int .i64) (.pair (.int .i64) (.int .i64))) x7,.row false 2 (.int .i64) x8]=>some ⟨.tup [⟨false,[.ref 7]⟩,⟨true,[.ref 8,.ref 9]⟩],[.row false 9 ahF x2,.row false 9 ahF x3,.row false 9 ahF x4,.row false 204 (CTy.pair CTy.str (CTy.sl (178:TypeId) afk)) x5,.row false 2 agJ x6,.row false 172 aal x7,.row false 2 agJ x8],[.row true 2 agJ (qi x0 x1 x2 x3 x4 x5 x6 x7 x8),.row true 2 agJ (qj x0 x1 x2 x3 x4 x5 x6 x7 x8),.row true 172 aal (qk x0 x1 x2 x3 x4 x5 x6 x7 x8)],[ql x0 x1 x2 x3 x4 x5 x6 x7 x8]⟩
 |_,_=>none
def IP:PF prog:=PF.ofG prog [wx,uC,ud] [aC.F] aP 111 f111 func111 (LOk.fnT (l:= [aL f111 0]) (by kernel_rfl) (.cons ED (.nil _))) xk (by
 intro vs es r h;unfold xk at h;split at h
 ·cases h;kernel_rfl
 ·cases h)
structure ScH (ins vs os:List ByteArray) (inp:List Int) (ls:List LN):Prop where
 hi:bitsB ins.length inp=true
 hL:ls.all lineB=true
 hm:ls.all (madeB vs os)=true
 hu:ls.all (fun l=>l.2.all (usedB ins vs))=true
 hn:ls.length≤40
 h1:ins.length≤20
 h2:vs.length≤20
 h3:os.length≤20
theorem an6: ∀ (ls:List LN),ls.all lineB=true→(blL ls).length≤40 * ls.length
 | [],_=>by simp [blL]
 |l::r,h=>by
  simp only [List.all_cons,Bool.and_eq_true]at h
  have h1:=an6 r h.2
  have h2:=(aan h.1).2.1
  have h3:(blT l.2).length≤l.2.length:=List.length_filter_le ..
  have h4:blL (l::r)=blT l.2++blL r:=rfl
  rw [h4,List.length_append,List.length_cons]
  omega
theorem ScH.bl{ins vs os:List ByteArray}{inp:List Int}{ls:List LN}(h:ScH ins vs os inp ls):(blL ls).length≤1600:=by
 have:=an6 ls h.hL
 have:=h.hn
 omega
theorem ScH.line{ins vs os:List ByteArray}{inp:List Int}{ls:List LN}(h:ScH ins vs os inp ls){i:Nat}{a:SS4}{l:LN}(hl:ls[i]? =some l)(hI:ScAt vs os ls i a):
  LineH ins vs inp a.1 (blL (ls.take i)) (blL (ls.drop (i + 1))) l.2:=by
 have hm:=List.mem_of_getElem? hl
 obtain⟨q1,q2,q3⟩:=aan (List.all_eq_true.1 h.hL l hm)
 have h1:=h.h1
 have h2:=h.h2
 have hb:=h.bl
 rw [(aad hl).1]at hb
 exact⟨h.hi,hI.hx,⟨1,q3⟩,List.all_eq_true.1 h.hu l hm,q2,by omega,dm (by omega),dm (by omega)⟩
theorem amm{ins vs os:List ByteArray}{inp:List Int}{ls:List LN}(h:ScH ins vs os inp ls){i:Nat}{a:SS4}{l:LN}(hl:ls[i]? =some l)(hI:ScAt vs os ls i a)(u v:ByteArray):
  (jL u v (a.2.2.2:Int) l.2 ins vs os ls a.1 a.2.2.1 inp a.2.1=u∧
  jM u v (a.2.2.2:Int) l.2 ins vs os ls a.1 a.2.2.1 inp a.2.1=v∧
  jN u v (a.2.2.2:Int) l.2 ins vs os ls a.1 a.2.2.1 inp a.2.1=((scS ins vs os inp l a).2.2.2:Int))∧
  jO l.1 u v (a.2.2.2:Int) l.2 ins vs os ls a.1 a.2.2.1 inp a.2.1=(scS ins vs os inp l a).1∧
  jP u v (a.2.2.2:Int) l.2 ins vs os ls a.1 a.2.2.1 inp a.2.1=(scS ins vs os inp l a).2.2.1∧
  jQ l.1 u v (a.2.2.2:Int) l.2 ins vs os ls a.1 a.2.2.1 inp a.2.1=(scS ins vs os inp l a).2.1∧
  fG l.1 u v (a.2.2.2:Int) l.2 ins vs os ls a.1 a.2.2.1 inp a.2.1=true:=by
 obtain⟨w1,w2⟩:=aor (h.line hl hI) u v os ls a.2.1 a.2.2.1 a.2.2.2 (afU hl hI)
 have hm:=List.mem_of_getElem? hl
 obtain⟨g1,g2,g3⟩:=Vj (ins:=ins) (inp:=inp) h.hi (List.all_eq_true.1 h.hL l hm) hl hI
 have hmd:(ma vs l.1||ma os l.1)=true:=List.all_eq_true.1 h.hm l hm
 have h2:=h.h2
 have h3:=h.h3
 have hx:=(fa.1 hI.hx).2
 have ho:=(fa.1 hI.ho).2
 rw [show ac4 ins vs inp a.1 l.2 ([],a.2.2.1,a.2.2.2)=lnV ins vs inp l a from rfl]at w2
 have e5:fg u v (a.2.2.2:Int) l.2 ins vs os ls a.1 a.2.2.1 inp a.2.1=(lnV ins vs inp l a).1:=by
  simp only [fg,cu,bG,w2]
 have e6:jj u v (a.2.2.2:Int) l.2 ins vs os ls a.1 a.2.2.1 inp a.2.1=atZ (lnV ins vs inp l a).1 0:=by
  simp only [jj,e5];rfl
 have e7:jk u v (a.2.2.2:Int) l.2 ins vs os ls a.1 a.2.2.1 inp a.2.1=true:=by
  simp only [jk,e5,g1];rfl
 have e8:jl u v (a.2.2.2:Int) l.2 ins vs os ls a.1 a.2.2.1 inp a.2.1=true:=by
  simp only [jl,e5,g1];rfl
 have z0:leI (0:Int) 0=true:=rfl
 refine⟨⟨?_,?_,?_⟩,?_,?_,?_,?_⟩
 ·simp only [jL,dk,cu,bG,w2]
 ·simp only [jM,ff,dk,cu,bG,w2]
 ·simp only [jN,ji,ff,dk,cu,bG,w2,scS]
 ·simp only [jO,e6,Qy,scS]
  cases hv:ma vs l.1 with
  |true=>simp only [cond_true,PZ hv,Int.toNat_natCast]
  |false=>rfl
 ·simp only [jP,ji,ff,dk,cu,bG,w2,scS]
 ·simp only [jQ,e6,Qy,scS]
  cases hv:ma vs l.1 with
  |true=>rfl
  |false=>
   have ho':ma os l.1=true:=by simpa [hv] using hmd
   simp only [cond_false,PZ ho',Int.toNat_natCast]
 ·have l1:leN vs.length 9223372036854775807=true:=dm (by omega)
  have l2:leN os.length 9223372036854775807=true:=dm (by omega)
  have hf:Lp.fin ak (bG u v (a.2.2.2:Int) l.2 ins vs os ls a.1 a.2.2.1 inp a.2.1)=true:=w1
  cases hv:ma vs l.1 with
  |true=>
   have hp:=Wn hv
   have k1:ltI (QQ vs l.1:Int) (a.1.length:Int)=true:=et (by omega)
   have k2:ltN (QQ vs l.1) a.1.length=true:=gu (by omega)
   simp only [fG,hf,Qy,hv,PZ hv,OV.1,e7,e8,z0,l1,k1,k2,allT,Int.toNat_natCast,Bool.or_true,Bool.true_or,cond_true]
  |false=>
   have ho':ma os l.1=true:=by simpa [hv] using hmd
   have hp:=Wn ho'
   have k1:ltI (QQ os l.1:Int) (a.2.1.length:Int)=true:=et (by omega)
   have k2:ltN (QQ os l.1) a.2.1.length=true:=gu (by omega)
   simp only [fG,hf,Qy,hv,ho',PZ ho',OV.1,e7,e8,z0,l1,l2,k1,k2,allT,Int.toNat_natCast,Bool.or_true,Bool.true_or,Bool.not_false,cond_true]
theorem aos{ins vs os:List ByteArray}{inp:List Int}{ls:List LN}(h:ScH ins vs os inp ls){i:Nat}{a:SS4}{l:LN}(hl:ls[i]? =some l)(hI:ScAt vs os ls i a)(u v:ByteArray):
  DY u v (a.2.2.2:Int) ins vs os ls a.1 a.2.2.1 inp l.2=atZ (lnV ins vs inp l a).1 0∧
  DZ u v (a.2.2.2:Int) ins vs os ls a.1 a.2.2.1 inp l.2=a.1∧
  Ea u v (a.2.2.2:Int) ins vs os ls a.1 a.2.2.1 inp l.2=(scS ins vs os inp l a).2.2.1∧
  Eb u v (a.2.2.2:Int) ins vs os ls a.1 a.2.2.1 inp l.2=true:=by
 obtain⟨w1,w2⟩:=aot (h.line hl hI) u v os ls a.2.2.1 a.2.2.2 (afU hl hI)
 have hm:=List.mem_of_getElem? hl
 obtain⟨g1,g2,g3⟩:=Vj (ins:=ins) (inp:=inp) h.hi (List.all_eq_true.1 h.hL l hm) hl hI
 rw [show ac4 ins vs inp a.1 l.2 ([],a.2.2.1,a.2.2.2)=lnV ins vs inp l a from rfl]at w2
 have e2:wC u v (a.2.2.2:Int) ins vs os ls a.1 a.2.2.1 inp l.2=(lnV ins vs inp l a).1:=by
  simp only [wC,wB,sM,w2]
 have z0:leI (0:Int) 0=true:=rfl
 have k1:ltI 0 ((lnV ins vs inp l a).1.length:Int)=true:=by rw [g1];rfl
 have k2:ltN (Int.toNat 0) (lnV ins vs inp l a).1.length=true:=by rw [g1];rfl
 have hf:Lp.fin aU (sM u v (a.2.2.2:Int) ins vs os ls a.1 a.2.2.1 inp l.2)=true:=w1
 refine⟨?_,?_,?_,?_⟩
 ·simp only [DY,e2];rfl
 ·simp only [DZ,CH,wB,sM,w2]
 ·simp only [Ea,CH,wB,sM,w2,scS]
 ·simp only [Eb,hf,e2,z0,k1,k2,allT,cond_true]
def al2(n:Nat)(t:TM):Nat:=bif leI 7 t.1 then n + 1 else n
theorem ai9: ∀ (ts:List TM) (n:Nat),ts.foldl al2 n=n + (blT ts).length
 | [],n=>by simp [blT]
 |t::r,n=>by
  rw [List.foldl_cons,ai9 r]
  simp only [al2,blT,List.filter_cons]
  cases leI 7 t.1 <;> simp <;> omega
theorem apH(u v:ByteArray)(ins vs os:List ByteArray)(ls:List LN){i k:Nat}{l:LN}(hl:ls[i]? =some l)(hn:l.2.length≤40)(hk:k≤2000):
  fq.fin ((0:Int),(i:Int),(k:Int),u,v,ins,vs,os,ls)=true∧
  fq.res ((0:Int),(i:Int),(k:Int),u,v,ins,vs,os,ls)=(0,((l.2.length:Int),(i:Int),((k + (blT l.2).length:Nat):Int),u,v,ins,vs,os,ls)):=by
 have eB:=(List.getElem?_eq_some_iff.1 hl).1
 have n0:leI 0 (i:Int)=true:=bv (by omega)
 have n1:ltI (i:Int) (ls.length:Int)=true:=et (by omega)
 have n2:ltN i ls.length=true:=gu eB
 have gZ: ∀ d:LN,Option.getD ls[i]? d=l:=fun d=>by rw [hl];rfl
 have g0:wD (i:Int) ls=l.2:=by simp only [wD,Int.toNat_natCast];exact congrArg Prod.snd (gZ _)
 have iY:=fq.along2 (fun j (a:Nat)=>((j:Int),(i:Int),(a:Int),u,v,ins,vs,os,ls)) (fun x=>x.2.2.1.toNat)
  (fun(t:TM) a=> .inr (al2 a t)) 0 (fun j a=>a≤k + j) l.2 k (by omega) (by omega) (fun j t a hb hI=> ?_) (fun a hI=> ?_)
 ·rw [JY (g:=al2) (fun b a=>rfl),ai9]at iY
  simpa using iY
 ·have hjt:=(List.getElem?_eq_some_iff.1 hb).1
  have hw:IntKind.i64.wrap ((j:Int) + 1)=((j + 1:Nat):Int):=by rw [bc (by omega) (by omega)];omega
  have hw2:IntKind.i64.wrap ((a:Int) + 1)=((a + 1:Nat):Int):=by rw [bc (by omega) (by omega)];omega
  have l0:leI 0 (j:Int)=true:=bv (by omega)
  have l1:ltI (j:Int) (l.2.length:Int)=true:=et (by omega)
  have l2:ltN j l.2.length=true:=gu hjt
  have c7:JX (j:Int) (i:Int) (a:Int) ls=((al2 a t:Nat):Int):=by
   simp only [JX,g0,Int.toNat_natCast,hb,Option.getD_some,hw2,al2]
   cases leI 7 t.1 <;> rfl
  refine⟨?_,?_,?_,fun a' hf=> ?_⟩
  ·simp only [fq,wv,Ed,Ee,Ef,ut,Qt,Qu,LT.nds,allT,g0,n0,n1,n2,l0,l1,l2,Int.toNat_natCast,cond_true,Bool.and_self]
  ·simp only [fq,wv,ut,Qv,LT.each,c7,g0,l1,hw,Int.toNat_natCast,Bool.and_true,and_self]
  ·simp only [fq,wv,ut,LT.fn,c7,g0,l1,Int.toNat_natCast,cond_true]
  ·simp only [Sum.inr.injEq]at hf
   subst hf
   simp only [al2]
   cases leI 7 t.1 <;> simp <;> omega
 ·have bW:ltI (l.2.length:Int) (l.2.length:Int)=false:=Pa (by omega)
  simp [fq,wv,Ed,Ee,Ef,ut,LT.out,g0,n0,n1,n2,bW,allT]
theorem ajU(ins vs os:List ByteArray)(inp:List Int): ∀ (ls:List LN) (a:SS4),ls.foldl (fun a l=>scS ins vs os inp l a) a=amE ins vs os inp ls a
 | [],a=>rfl
 |l::r,a=>by rw [List.foldl_cons,ajU ins vs os inp r];rfl
theorem aoK{ins vs os:List ByteArray}{inp xs:List Int}{ss:List BS3}{ls:List LN}(h:ScH ins vs os inp ls)(hs:Ga vs.length (blL ls) xs ss=true)(u v:ByteArray):
  iu.fin ((0:Int),(0:Int),u,v,inp,List.replicate os.length 0,ins,vs,os,ls,xs,ss)=true∧
  iu.res ((0:Int),(0:Int),u,v,inp,List.replicate os.length 0,ins,vs,os,ls,xs,ss)=
   (0,((ls.length:Int),((scE ins vs os ls inp xs ss).2.2.2:Int),u,v,inp,(scE ins vs os ls inp xs ss).2.1,ins,vs,os,ls,(scE ins vs os ls inp xs ss).1,(scE ins vs os ls inp xs ss).2.2.1)):=by
 obtain⟨s1,s2,s3⟩:=PV.1 hs
 have h0:ScAt vs os ls 0 (xs,List.replicate os.length 0,ss,0):=⟨s2,fa.2 ⟨fun z hz=> .inl (List.eq_of_mem_replicate hz),by simp⟩,s1,s3,by simp [blL]⟩
 have hn:=h.hn
 have h2:=h.h2
 have h3:=h.h3
 have iY:=iu.along2 (fun i (a:SS4)=>((i:Int),(a.2.2.2:Int),u,v,inp,a.2.1,ins,vs,os,ls,a.1,a.2.2.1)) (fun x=>(x.2.2.2.2.2.2.2.2.2.2.1,x.2.2.2.2.2.1,x.2.2.2.2.2.2.2.2.2.2.2,x.2.1.toNat))
  (fun(l:LN) a=> .inr (scS ins vs os inp l a)) 0 (fun i a=>ScAt vs os ls i a) ls (xs,List.replicate os.length 0,ss,0) h0 (by omega) (fun i l a hb hI=> ?_) (fun a hI=> ?_)
 ·rw [JY (g:=fun a l=>scS ins vs os inp l a) (fun b a=>rfl),ajU]at iY
  simpa [scE] using iY
 ·have eB:=(List.getElem?_eq_some_iff.1 hb).1
  have hm:=List.mem_of_getElem? hb
  have hL:=List.all_eq_true.1 h.hL l hm
  have hw:IntKind.i64.wrap ((i:Int) + 1)=((i + 1:Nat):Int):=by rw [bc (by omega) (by omega)];omega
  obtain⟨g1,g2,g3⟩:=Vj (ins:=ins) (inp:=inp) h.hi hL hb hI
  obtain⟨r0,r1,r2,r3⟩:=aos h hb hI u v
  have hbl:=h.bl
  have hsp:=(aad hb).2
  have hspl:=(aad hb).1
  have hk1:=hI.hk
  have hk2:=g3.hk
  have hkk:a.2.2.2≤2000:=by
   rw [hspl,List.length_append,List.length_append]at hbl
   omega
  obtain⟨c1,c2⟩:=apH u v ins vs os ls hb (aan hL).2.1 hkk
  have hknew:a.2.2.2 + (blT l.2).length=(scS ins vs os inp l a).2.2.2:=by omega
  have hmd:(ma vs l.1||ma os l.1)=true:=List.all_eq_true.1 h.hm l hm
  have hx:=(fa.1 hI.hx).2
  have ho:=(fa.1 hI.ho).2
  have q0:Nh (i:Int) ls=true:=et (by omega)
  have q1:Ni (i:Int) ls=true:=gu (by simpa using eB)
  have gZ: ∀ d:LN,Option.getD ls[i]? d=l:=fun d=>by rw [hb];rfl
  have q2:rc (i:Int) ls=l:=by simp only [rc,Int.toNat_natCast];exact gZ _
  have q3:df (i:Int) vs ls=iF vs l.1:=by simp only [df,q2]
  have q5:xg (i:Int) os ls=iF os l.1:=by simp only [xg,q2]
  have q4:xf (i:Int) (a.2.2.2:Int) u v inp ins vs os ls a.1 a.2.2.1=a.1:=by simp only [xf,q2,r1]
  have q7:Hh (i:Int) (a.2.2.2:Int) u v inp ins vs os ls a.1 a.2.2.1=atZ (lnV ins vs inp l a).1 0:=by simp only [Hh,q2,r0]
  have p1:OG (i:Int)=true:=bv (by omega)
  have p3:OI (i:Int) (a.2.2.2:Int) u v inp ins vs os ls a.1 a.2.2.1=true:=by simp only [OI,q2,r3]
  have p4:TA vs=true:=dm (by omega)
  have p15:SI (i:Int) (a.2.2.2:Int) u v ins vs os ls=true:=c1
  have p16:SJ (i:Int)=((i + 1:Nat):Int):=hw
  have p17:Nc (i:Int) (a.2.2.2:Int) u v ins vs os ls=((scS ins vs os inp l a).2.2.2:Int):=by
   simp only [Nc,Nj,c2,hknew]
  have p20:Ng (i:Int) (a.2.2.2:Int) u v inp ins vs os ls a.1 a.2.2.1=(scS ins vs os inp l a).2.2.1:=by simp only [Ng,q2,r2]
  have p18:Nd (i:Int) (a.2.2.2:Int) u v inp a.2.1 ins vs os ls a.1 a.2.2.1=(scS ins vs os inp l a).2.1:=by
   simp only [Nd,q3,q5,q7,Qy,scS]
   cases hv:ma vs l.1 with
   |true=>rfl
   |false=>
    have ho':ma os l.1=true:=by simpa [hv] using hmd
    simp only [cond_false,PZ ho',Int.toNat_natCast]
  have p19:Nf (i:Int) (a.2.2.2:Int) u v inp ins vs os ls a.1 a.2.2.1=(scS ins vs os inp l a).1:=by
   simp only [Nf,q3,q4,q7,Qy,scS]
   cases hv:ma vs l.1 with
   |true=>simp only [cond_true,PZ hv,Int.toNat_natCast]
   |false=>rfl
  have pm:OJ (i:Int) vs ls=true∧OK (i:Int) (a.2.2.2:Int) u v inp ins vs os ls a.1 a.2.2.1=true∧OL (i:Int) (a.2.2.2:Int) u v inp ins vs os ls a.1 a.2.2.1=true∧
    OM (i:Int) vs ls=true∧ON (i:Int) vs ls=true∧MX (i:Int) vs ls=true∧MY (i:Int) vs os ls=true∧
    MZ (i:Int) vs os ls=true∧Na (i:Int) a.2.1 vs os ls=true∧Nb (i:Int) a.2.1 vs os ls=true:=by
   simp only [OJ,OK,OL,OM,ON,MX,MY,MZ,Na,Nb,q0,q1,q3,q4,q5,Qy]
   have m1:leI 0 (i:Int)=true:=p1
   have m2:leN os.length 9223372036854775807=true:=dm (by omega)
   cases hv:ma vs l.1 with
   |true=>
    have hp:=Wn hv
    have k1:ltI (QQ vs l.1:Int) (a.1.length:Int)=true:=et (by omega)
    have k2:ltN (QQ vs l.1) a.1.length=true:=gu (by omega)
    simp only [PZ hv,OV.1,k1,k2,Int.toNat_natCast,Bool.or_true,Bool.true_or,and_self]
   |false=>
    have ho':ma os l.1=true:=by simpa [hv] using hmd
    have hp:=Wn ho'
    have k1:ltI (QQ os l.1:Int) (a.2.1.length:Int)=true:=et (by omega)
    have k2:ltN (QQ os l.1) a.2.1.length=true:=gu (by omega)
    simp only [ho',PZ ho',OV.1,k1,k2,m1,m2,Int.toNat_natCast,Bool.or_true,Bool.true_or,Bool.not_false,and_self]
  obtain⟨m5,m6,m7,m8,m9,m10,m11,m12,m13,m14⟩:=pm
  have p0:Ec (i:Int) ls=true:=q0
  have p2:OH (i:Int) ls=true:=q1
  refine⟨?_,?_,?_,fun a' hf=> ?_⟩
  ·simp only [iu,BV,LT.nds,allT,p0,p1,p2,p3,p4,m5,m6,m7,m8,m9,m10,m11,m12,m13,m14,p15,cond_true,Bool.and_self]
  ·simp only [iu,BV,LT.each,p0,p16,p17,p18,p19,p20,Int.toNat_natCast,Bool.and_true,and_self]
  ·simp only [iu,BV,LT.fn,p0,p17,p18,p19,p20,Int.toNat_natCast,cond_true]
  ·simp only [Sum.inr.injEq]at hf
   subst hf;exact g3
 ·have bW:Ec (ls.length:Int) ls=false:=Pa (by omega)
  simp [iu,BV,LT.out,bW]
theorem aoJ{ins vs os:List ByteArray}{inp xs:List Int}{ss:List BS3}{ls:List LN}(h:ScH ins vs os inp ls)(hs:Ga vs.length (blL ls) xs ss=true)(u v:ByteArray):
  aC.fin ((0:Int),(ls.length:Int),ls,u,v,(0:Int),ins,vs,os,xs,ss,inp,List.replicate os.length 0)=true∧
  aC.res ((0:Int),(ls.length:Int),ls,u,v,(0:Int),ins,vs,os,xs,ss,inp,List.replicate os.length 0)=
   (0,((ls.length:Int),(ls.length:Int),ls,u,v,((scE ins vs os ls inp xs ss).2.2.2:Int),ins,vs,os,(scE ins vs os ls inp xs ss).1,(scE ins vs os ls inp xs ss).2.2.1,inp,(scE ins vs os ls inp xs ss).2.1)):=by
 obtain⟨s1,s2,s3⟩:=PV.1 hs
 have h0:ScAt vs os ls 0 (xs,List.replicate os.length 0,ss,0):=⟨s2,fa.2 ⟨fun z hz=> .inl (List.eq_of_mem_replicate hz),by simp⟩,s1,s3,by simp [blL]⟩
 have hn:=h.hn
 have iY:=aC.along2 (fun i (a:SS4)=>((i:Int),(ls.length:Int),ls,u,v,(a.2.2.2:Int),ins,vs,os,a.1,a.2.2.1,inp,a.2.1)) (fun x=>(x.2.2.2.2.2.2.2.2.2.1,x.2.2.2.2.2.2.2.2.2.2.2.2,x.2.2.2.2.2.2.2.2.2.2.1,x.2.2.2.2.2.1.toNat))
  (fun(l:LN) a=> .inr (scS ins vs os inp l a)) 0 (fun i a=>ScAt vs os ls i a) ls (xs,List.replicate os.length 0,ss,0) h0 (by omega) (fun i l a hb hI=> ?_) (fun a hI=> ?_)
 ·rw [JY (g:=fun a l=>scS ins vs os inp l a) (fun b a=>rfl),ajU]at iY
  simpa [scE] using iY
 ·have eB:=(List.getElem?_eq_some_iff.1 hb).1
  have hm:=List.mem_of_getElem? hb
  have hw:IntKind.i64.wrap ((i:Int) + 1)=((i + 1:Nat):Int):=by rw [bc (by omega) (by omega)];omega
  obtain⟨g1,g2,g3⟩:=Vj (ins:=ins) (inp:=inp) h.hi (List.all_eq_true.1 h.hL l hm) hb hI
  obtain⟨⟨r0,r1,r2⟩,r3,r4,r5,r6⟩:=amm h hb hI u v
  have gZ: ∀ d:LN,Option.getD ls[i]? d=l:=fun d=>by rw [hb];rfl
  have q0:aI (i:Int) ls=l:=by simp only [aI,Int.toNat_natCast];exact gZ _
  have p0:ltI (i:Int) (ls.length:Int)=true:=et (by omega)
  have p1:leI 0 (i:Int)=true:=bv (by omega)
  have p3:ltN i ls.length=true:=gu eB
  refine⟨?_,?_,?_,fun a' hf=> ?_⟩
  ·simp only [gc,gd,ge,gf,gg,gh,gi,gj,gk,gm,fE,fF,fK,aC,LT.nds,allT,q0,r0,r1,r2,r3,r4,r5,r6,p0,p1,p3,Int.toNat_natCast,cond_true,Bool.and_self]
  ·simp only [gc,gd,ge,gf,gg,gh,gi,gj,gk,gm,fE,fF,fK,aC,LT.each,q0,r0,r1,r2,r3,r4,r5,p0,hw,Int.toNat_natCast,Bool.and_true,and_self]
  ·simp only [gc,gd,ge,gf,gg,gh,gi,gj,gk,gm,fE,fF,fK,aC,LT.fn,q0,r2,r3,r4,r5,p0,Int.toNat_natCast,cond_true]
  ·simp only [Sum.inr.injEq]at hf
   subst hf;exact g3
 ·have bW:ltI (ls.length:Int) (ls.length:Int)=false:=Pa (by omega)
  simp [gc,gd,ge,gf,gg,gh,gi,gj,gk,gm,fE,fF,fK,aC,LT.out,bW]
theorem akT: ∀ (ts:List TM) (n e:Int),htT ts n=some e→abM (blT ts)=true
 | [],n,e,_=>rfl
 |t::r,n,e,h=>by
  simp only [htT]at h
  cases hc:(termB t.1 t.2.1 t.2.2&&leI (takesK t.1) n)with
  |false=>rw [hc]at h;cases h
  |true=>
   rw [hc,cond_true]at h
   simp only [Bool.and_eq_true]at hc
   have h1:=akT r _ e h
   cases h7:leI 7 t.1 with
   |false=>simpa only [blT,List.filter_cons,h7,Bool.false_eq_true,if_false] using h1
   |true=>
    simp only [blT,List.filter_cons,h7,if_true,abM,List.all_cons,Bool.and_eq_true]
    exact⟨SN hc.1 h7,h1⟩
theorem ahp: ∀ (ls:List LN),ls.all lineB=true→abM (blL ls)=true
 | [],_=>rfl
 |l::r,h=>by
  simp only [List.all_cons,Bool.and_eq_true]at h
  have h1:=ahp r h.2
  have h2:=akT _ _ _ (aan h.1).2.2
  have h4:blL (l::r)=blT l.2++blL r:=rfl
  simp only [abM]at h1 h2
  simp only [h4,abM,List.all_append,h1,h2,Bool.and_self]
theorem Vl{nm:ByteArray}{ins vs os:List ByteArray}{g:ByteArray}{ls:List LN}(h:mI nm ins vs os g ls=true):
  (g.toList== []||Vh ins vs g)=true∧ls.all lineB=true∧ls.all (madeB vs os)=true∧ls.all (fun l=>l.2.all (usedB ins vs))=true∧ls.length≤40∧ins.length≤20∧vs.length≤20∧os.length≤20:=by
 simp only [mI,agG,anT,afu,Bool.and_eq_true,EG]at h
 obtain⟨⟨_,⟨_,i1⟩,⟨_,i2⟩,⟨_,i3⟩,_,hL,hn⟩,_,hg,hm,_,_,hu⟩:=h
 exact⟨hg,hL,hm,hu,by omega,by omega,by omega,by omega⟩
theorem afV{nm:ByteArray}{ins vs os:List ByteArray}{g:ByteArray}{ls:List LN}{inp:List Int}(h:mI nm ins vs os g ls=true)(hi:bitsB ins.length inp=true):ScH ins vs os inp ls:=by
 obtain⟨_,hL,hm,hu,hn,h1,h2,h3⟩:=Vl h
 exact⟨hi,hL,hm,hu,hn,h1,h2,h3⟩
def scG(nm:ByteArray)(ins vs os:List ByteArray)(g:ByteArray)(ls:List LN)(xs:List Int)(ss:List BS3)(inp:List Int):Bool:=mI nm ins vs os g ls&&(Ga vs.length (blL ls) xs ss&&bitsB ins.length inp)
theorem Tt{nm:ByteArray}{ins vs os:List ByteArray}{g:ByteArray}{ls:List LN}{xs:List Int}{ss:List BS3}{inp:List Int}:
  scG nm ins vs os g ls xs ss inp=true↔mI nm ins vs os g ls=true∧Ga vs.length (blL ls) xs ss=true∧bitsB ins.length inp=true:=by
 simp only [scG,Bool.and_eq_true]
theorem alA(nm:ByteArray)(ins vs os:List ByteArray)(g:ByteArray)(ls:List LN)(xs:List Int)(ss:List BS3)(inp:List Int)(h:scG nm ins vs os g ls xs ss inp=true):
  SE nm g ins vs os ls xs ss inp=scO ins vs os g ls inp xs ss∧SF nm g ins vs os ls xs ss inp=scV ins vs os ls inp xs ss∧
  SG nm g ins vs os ls xs ss inp=scB ins vs os ls inp xs ss∧SH nm g ins vs os ls xs ss inp=true:=by
 obtain⟨h1,h2,h3⟩:=Tt.1 h
 obtain⟨hg,_⟩:=Vl h1
 have hS:=afV h1 h3
 obtain⟨w1,w2⟩:=aoK hS h2 nm g
 have hE:=amD (os:=os) h3 hS.hL h2
 obtain⟨s1,s2,s3⟩:=PV.1 h2
 have hb:=hS.bl
 have b1:=hS.h1
 have b2:=hS.h2
 have b3:=hS.h3
 have hx2:=(fa.1 s2).2
 have a1:Mg os=List.replicate os.length 0:=by simp only [Mg,Int.toNat_natCast]
 have a0:CW g= !(g.toList== []):=by simp only [CW,Nu]
 have e3:Mh nm g ins vs os ls xs ss inp=((scE ins vs os ls inp xs ss).2.1,ins,vs,os,ls,(scE ins vs os ls inp xs ss).1,(scE ins vs os ls inp xs ss).2.2.1):=by
  simp only [Mh,Hw,a1,w2]
 have e5:CX nm g ins vs os ls xs ss inp=(scE ins vs os ls inp xs ss).1:=by simp only [CX,Mi,e3]
 have e8:Mk nm g ins vs os ls xs ss inp=(scE ins vs os ls inp xs ss).2.2.1:=by simp only [Mk,Mi,e3]
 have e7:Mj nm g ins vs os ls xs ss inp=(scE ins vs os ls inp xs ss).1:=by simp only [Mj,e5];exact Bool.cond_self _ _
 have e9:Ml nm g ins vs os ls xs ss inp=(scE ins vs os ls inp xs ss).2.2.1:=by simp only [Ml,e8];exact Bool.cond_self _ _
 have hv:(g.toList== [])=false→rn g ins vs (scE ins vs os ls inp xs ss).1 inp=nmV ins vs inp (scE ins vs os ls inp xs ss).1 g∧ro g ins vs (scE ins vs os ls inp xs ss).1 inp=true:=fun hgg=>by
  rw [hgg,Bool.false_or]at hg
  have q1:=(fa.1 h3).2
  have q2:=(fa.1 hE.hx).2
  exact aeV g ins vs inp _ hg (dm (by omega)) (dm (by omega)) (by omega) (by omega)
 have e6:tb nm g ins vs os ls xs ss inp=(!(g.toList== [])&&nmV ins vs inp (scE ins vs os ls inp xs ss).1 g==0):=by
  simp only [tb,a0,e5]
  cases hgg:g.toList== []with
  |true=>rfl
  |false=>simp only [Bool.not_false,cond_true,(hv hgg).1,Bool.true_and]
 refine⟨?_,?_,?_,?_⟩
 ·simp only [SE,e6,e3,a1,scO]
 ·simp only [SF,e7,scV];exact Bool.cond_self _ _
 ·simp only [SG,e9,scB];exact Bool.cond_self _ _
 ·have f1:Lp.fin iu (Hw nm g ins vs os ls xs ss inp)=true:=by simp only [Hw,a1];exact w1
  have f0:Qc xs ss=true:=by
   simp only [Qc,allT,dm (show xs.length≤1048576 by omega),dm (show 0 + ss.length≤9223372036854775807 by omega),dm (show (0 + ss.length) * 24≤140737488355328 by omega),cond_true]
  have f2:leI 0 (os.length:Int)=true:=bv (by omega)
  have f3:leI (os.length:Int) (os.length:Int)=true:=bv (by omega)
  have f4:leI (((8:Nat):Int) * (os.length:Int)) 281474976710656=true:=bv (by omega)
  have f5:leI (os.length:Int) 9223372036854775807=true:=bv (by omega)
  have f6:PT os=true:=f3
  have f7:PU os=true:=f4
  simp only [SH,f0,f1,f2,f5,f6,f7,a0,e5,allT,Bool.or_true,cond_true,Bool.and_true]
  cases hgg:g.toList== []with
  |true=>rfl
  |false=>simp only [(hv hgg).2];rfl
theorem akY(nm:ByteArray)(ins vs os:List ByteArray)(g:ByteArray)(ls:List LN)(xs:List Int)(ss:List BS3)(inp:List Int)(h:scG nm ins vs os g ls xs ss inp=true):
  qi nm g ins vs os ls xs ss inp=scO ins vs os g ls inp xs ss∧qj nm g ins vs os ls xs ss inp=scV ins vs os ls inp xs ss∧
  qk nm g ins vs os ls xs ss inp=scB ins vs os ls inp xs ss∧ql nm g ins vs os ls xs ss inp=true:=by
 obtain⟨h1,h2,h3⟩:=Tt.1 h
 obtain⟨hg,_⟩:=Vl h1
 have hS:=afV h1 h3
 obtain⟨w1,w2⟩:=aoJ hS h2 nm g
 have hE:=amD (os:=os) h3 hS.hL h2
 obtain⟨s1,s2,s3⟩:=PV.1 h2
 have hb:=hS.bl
 have b1:=hS.h1
 have b2:=hS.h2
 have b3:=hS.h3
 have hx2:=(fa.1 s2).2
 have a1:hY nm g ins vs os ls xs ss inp=((0:Int),(ls.length:Int),ls,nm,g,(0:Int),ins,vs,os,xs,ss,inp,List.replicate os.length 0):=by
  simp only [hY,Int.toNat_natCast]
 have a0:db g= !(g.toList== []):=by simp only [db];rw [Nu]
 have e2:la nm g ins vs os ls xs ss inp=((scE ins vs os ls inp xs ss).1,(scE ins vs os ls inp xs ss).2.2.1,inp,(scE ins vs os ls inp xs ss).2.1):=by
  simp only [la,a1,w2]
 have e3:ey nm g ins vs os ls xs ss inp=(scE ins vs os ls inp xs ss).1:=by simp only [ey,e2]
 have e6:lc nm g ins vs os ls xs ss inp=(scE ins vs os ls inp xs ss).2.1:=by
  simp only [lc,pM,lb,e2,nM]
  rw [Bool.cond_self,Bool.cond_self]
 have e7:ld nm g ins vs os ls xs ss inp=(scE ins vs os ls inp xs ss).2.2.1:=by
  simp only [ld,lb,e2]
 have hv:(g.toList== [])=false→jn g ins vs (scE ins vs os ls inp xs ss).1 inp=nmV ins vs inp (scE ins vs os ls inp xs ss).1 g∧jo g ins vs (scE ins vs os ls inp xs ss).1 inp=true:=fun hgg=>by
  rw [hgg,Bool.false_or]at hg
  have q1:=(fa.1 h3).2
  have q2:=(fa.1 hE.hx).2
  rw [(ajC _ _ _ _ _).1,(ajC _ _ _ _ _).2]
  exact aeV g ins vs inp _ hg (dm (by omega)) (dm (by omega)) (by omega) (by omega)
 have hol:(scE ins vs os ls inp xs ss).2.1.length=os.length:=by have:=(fa.1 hE.ho).2;omega
 refine⟨?_,?_,?_,?_⟩
 ·simp only [qi,a0,e3,e6,Vq,hol,scO]
  cases hgg:g.toList== []with
  |true=>rfl
  |false=>simp only [Bool.not_false,cond_true,(hv hgg).1,Bool.true_and];rfl
 ·simp only [qj,e3,nK,scV]
  rw [Bool.cond_self,Bool.cond_self]
 ·simp only [qk,e7,nL,scB]
  rw [Bool.cond_self,Bool.cond_self]
 ·have f1:Lp.fin aC (hY nm g ins vs os ls xs ss inp)=true:=by rw [a1];exact w1
  have f0:kW xs ss=true:=by
   simp only [kW,allT,dm (show xs.length≤1048576 by omega),dm (show ss.length≤1048576 by omega),cond_true]
  have f2:leI 0 (os.length:Int)=true:=bv (by omega)
  have f3:leI (os.length:Int) (os.length:Int)=true:=bv (by omega)
  have f4:leI (((8:Nat):Int) * (os.length:Int)) 281474976710656=true:=bv (by omega)
  have f5:leI (os.length:Int) 9223372036854775807=true:=bv (by omega)
  simp only [ql,f0,f1,f2,f3,f4,f5,a0,e3,allT,Bool.or_true,cond_true,Bool.and_true]
  cases hgg:g.toList== []with
  |true=>rfl
  |false=>simp only [(hv hgg).2];rfl
def YV:List SV→List Entry→Option Out
 | [.one ⟨true,[.val (.string x0),.ref 0,.ref 1,.ref 2,.val (.string x1),.ref 3]⟩,.one ⟨true,[.ref 4,.ref 5]⟩,.one ⟨false,[.ref 6]⟩],[.row false 9 (.str) x2,.row false 9 (.str) x3,.row false 9 (.str) x4,.row false 204 (.pair (.str) (.sl 178 (.pair (.int .i64) (.pair (.str) (.int .i64))))) x5,.row false 2 (.int .i64) x6,.row false 172 (.pair (.int .i64) (.pair (.int .i64) (.int .i64))) x7,.row false 2 (.int .i64) x8]=>some ⟨.tup [⟨false,[.ref 7]⟩,⟨true,[.ref 8,.ref 9]⟩],[.row false 9 ahF x2,.row false 9 ahF x3,.row false 9 ahF x4,.row false 204 (CTy.pair CTy.str (CTy.sl (178:TypeId) afk)) x5,.row false 2 agJ x6,.row false 172 aal x7,.row false 2 agJ x8],[.row true 2 agJ (scO x2 x3 x4 x1 x5 x8 x6 x7),.row true 2 agJ (scV x2 x3 x4 x5 x8 x6 x7),.row true 172 aal (scB x2 x3 x4 x5 x8 x6 x7)],[scG x0 x2 x3 x4 x1 x5 x6 x7 x8]⟩
 |_,_=>none
def vb:PF prog:=PF.alt ah9 YV (by
 intro args es o h cE;unfold YV at h;split at h
 ·rename_i x0 x1 x2 x3 x4 x5 x6 x7 x8
  cases h
  have cE:=mH cE
  have hh:=alA x0 x2 x3 x4 x1 x5 x6 x7 x8 cE
  obtain⟨e0,e1,e2,en⟩:=hh
  exact rV rfl (md en) rfl rfl (by simp only [e0,e1,e2] <;> rfl)
 ·cases h)
def xo:List SV→List Entry→Option Out
 | [.one ⟨true,[.val (.string x0),.ref 0,.ref 1,.ref 2,.val (.string x1),.ref 3]⟩,.one ⟨true,[.ref 4,.ref 5]⟩,.one ⟨false,[.ref 6]⟩],[.row false 9 (.str) x2,.row false 9 (.str) x3,.row false 9 (.str) x4,.row false 204 (.pair (.str) (.sl 178 (.pair (.int .i64) (.pair (.str) (.int .i64))))) x5,.row false 2 (.int .i64) x6,.row false 172 (.pair (.int .i64) (.pair (.int .i64) (.int .i64))) x7,.row false 2 (.int .i64) x8]=>some ⟨.tup [⟨false,[.ref 7]⟩,⟨true,[.ref 8,.ref 9]⟩],[.row false 9 ahF x2,.row false 9 ahF x3,.row false 9 ahF x4,.row false 204 (CTy.pair CTy.str (CTy.sl (178:TypeId) afk)) x5,.row false 2 agJ x6,.row false 172 aal x7,.row false 2 agJ x8],[.row true 2 agJ (scO x2 x3 x4 x1 x5 x8 x6 x7),.row true 2 agJ (scV x2 x3 x4 x5 x8 x6 x7),.row true 172 aal (scB x2 x3 x4 x5 x8 x6 x7)],[scG x0 x2 x3 x4 x1 x5 x6 x7 x8]⟩
 |_,_=>none
def eR:PF prog:=PF.alt IP xo (by
 intro args es o h cE;unfold xo at h;split at h
 ·rename_i x0 x1 x2 x3 x4 x5 x6 x7 x8
  cases h
  have cE:=mH cE
  have hh:=akY x0 x2 x3 x4 x1 x5 x6 x7 x8 cE
  obtain⟨e0,e1,e2,en⟩:=hh
  exact rV rfl (md en) rfl rfl (by simp only [e0,e1,e2] <;> rfl)
 ·cases h)
theorem am0: ∀ (ls:List LN),(∀ l∈ls,l.2.length≤1048576)→(blL ls).length≤1048576 * ls.length
 | [],_=>by simp [blL]
 |l::r,h=>by
  have h1:=am0 r (fun x hx=>h x (by simp [hx]))
  have h2:=h l (by simp)
  have h3:(blT l.2).length≤l.2.length:=List.length_filter_le ..
  have h4:blL (l::r)=blT l.2++blL r:=rfl
  rw [h4,List.length_append,List.length_cons]
  omega
theorem apQ{ls:List LN}(h:Xf ls=true):(blL ls).length≤1099511627776:=by
 obtain⟨hn,hA⟩:=Nr.1 h
 have:=am0 ls (fun l hl=>(Nx.1 (hA l hl).2).1)
 omega
def amF(nm:ByteArray)(ins vs os:List ByteArray)(g:ByteArray)(ls:List LN)(xs:List Int)(ss:List BS3)(inps:List (List Int)):Int:=bif !mI nm ins vs os g ls then 1 else bif !Ga vs.length (blL ls) xs ss|| !inps.all (fun l=>bitsB ins.length l)then 2 else 0
def cdG(nm:ByteArray)(ins vs os:List ByteArray)(g:ByteArray)(ls:List LN)(xs:List Int)(inps:List (List Int)):Bool:=prOk nm ins vs os g ls&&(leN xs.length 9223372036854775807&&(leN inps.length 1048576&&inps.all fun l=>leN l.length 9223372036854775807))
theorem am3{nm:ByteArray}{ins vs os:List ByteArray}{g:ByteArray}{ls:List LN}{xs:List Int}{inps:List (List Int)}:
  cdG nm ins vs os g ls xs inps=true↔prOk nm ins vs os g ls=true∧leN xs.length 9223372036854775807=true∧inps.length≤1048576∧ ∀ l∈inps,leN l.length 9223372036854775807=true:=by
 simp only [cdG,Bool.and_eq_true,io,List.all_eq_true]
def eQ(y5:List ByteArray)(b:List Int):(Unit)→Nat ⊕ (Unit)
 |_=>(bif(yU b y5)then(.inl 0)else(.inr ()))
def cp(y2 y3:ByteArray)(y4:List (List Int))(y5 y6 y7:List ByteArray)(y8:List (ByteArray×(List (Int×(ByteArray×Int)))))(i:Nat):(Unit)→bq
 |_=>((i:Int),(↑y4.length:Int),y2,y3,y4,y5,y6,y7,y8)
def pP:bq→Unit
 |(_,_,_,_,_,_,_,_,_)=>()
theorem IU(y2 y3:ByteArray)(y4:List (List Int))(y5 y6 y7:List ByteArray)(y8:List (ByteArray×(List (Int×(ByteArray×Int))))) (hn:y4.length≤9223372036854775807) (hA: ∀ l∈y4,leN l.length 9223372036854775807=true):
  aq.fin ((0:Int),(↑y4.length:Int),y2,y3,y4,y5,y6,y7,y8)=true∧aq.res ((0:Int),(↑y4.length:Int),y2,y3,y4,y5,y6,y7,y8)=((af (eQ y5) 1 y4 0 ()).1,(cp y2 y3 y4 y5 y6 y7 y8) (af (eQ y5) 1 y4 0 ()).2.1 (af (eQ y5) 1 y4 0 ()).2.2):=by
 have iY:=aq.along (cp y2 y3 y4 y5 y6 y7 y8) pP (eQ y5) 1 (fun _ _=>True) y4 () (by trivial) (by simp only [aq,cp];omega) (fun i b a hb hI=> ?_) (fun a hI=> ?_)
 ·exact iY
 ·obtain⟨⟩:=a
  have eB:=(List.getElem?_eq_some_iff.1 hb).1
  have gZ: ∀ d,Option.getD y4[i]? d=b:=fun d=>by rw [hb];rfl
  have hw:=sX eB hn
  have bW:ltI (i:Int) (y4.length:Int)=true:=et (by omega)
  have vL:leI (0:Int) (i:Int)=true:=bv (by omega)
  have im:ltN i y4.length=true:=gu eB
  refine⟨?_,?_,?_,?_⟩
  ·have hg2:cn (i:Int) y4=b:=by simp only [cn,Int.toNat_natCast];exact gZ _
   have h4:iy (i:Int) y4=true:=by simp only [iy,Fx,hg2,hA b (List.mem_of_getElem? hb),allT,cond_true]
   simp only [iw,lL,lM,lN,hZ,aq,LT.nds,allT,cp,h4,bW,vL,im,Int.toNat_natCast,cond_true,Bool.and_self]
   cases iz (i:Int) y4 y5 <;> simp [LT.nds]
  ·simp [cn,iw,lL,lM,lN,iy,iz,qo,hZ,aq,LT.each,cp,pP,hw]
  ·have hg2:cn (i:Int) y4=b:=by simp only [cn,Int.toNat_natCast];exact gZ _
   simp only [iw,iz,hZ,aq,LT.fn,cp,pP,eQ,bW,hg2,cond_true]
  ·exact fun _ _=>trivial
 ·obtain⟨⟩:=a
  simp [cn,iw,lL,lM,lN,iy,iz,qo,hZ,aq,LT.out,cp]
theorem akW(nm:ByteArray)(ins vs os:List ByteArray)(g:ByteArray)(ls:List LN)(xs:List Int)(ss:List BS3)(inps:List (List Int))(h:cdG nm ins vs os g ls xs inps=true):
  QG nm g ins vs os ls xs ss inps=amF nm ins vs os g ls xs ss inps∧QH nm g ins vs os ls xs ss inps=true:=by
 obtain⟨h1,h2,h3,h4⟩:=am3.1 h
 obtain⟨w1,w2⟩:=IU nm g inps ins vs os ls (by omega) h4
 rw [iQ (P:=fun l=> !bitsB ins.length l) (j:=0) (fun l=>by simp only [eQ,yU]),Th]at w2
 have hlk:=(Qp.1 h1).2.2.2.2.2.2
 have hbl:=apQ hlk
 have c0:lJ inps nm g ins vs os ls= !inps.all (fun l=>bitsB ins.length l):=by
  simp only [lJ,sg,jB,na,w2,cp]
  cases (inps.all fun l=>bitsB ins.length l) <;> simp [Nat.beq,OV.1,OV.2]
 have c3:lK inps nm g ins vs os ls=true:=by
  simp only [lK,si,jB,w1,allT,cond_true]
 have k:mI nm ins vs os g ls=true→abM (blL ls)=true:=fun hs=>ahp ls (Vl hs).2.1
 have hbl2:leN (blL ls).length 9223372036854775807=true:=dm (by omega)
 refine⟨?_,?_⟩
 ·simp only [QG,c0,amF]
  cases Ga vs.length (blL ls) xs ss <;> rfl
 ·simp only [QH,h1,c3,h2,hlk,hbl2,allT,Bool.or_true,cond_true]
  cases hs:mI nm ins vs os g ls with
  |false=>rfl
  |true=>rw [k hs];rfl
def WS:List SV→List Entry→Option Out
 | [.one ⟨true,[.val (.string x0),.ref 0,.ref 1,.ref 2,.val (.string x1),.ref 3]⟩,.one ⟨true,[.ref 4,.ref 5]⟩,.one ⟨false,[.ref 6]⟩],[.row false 9 (.str) x2,.row false 9 (.str) x3,.row false 9 (.str) x4,.row false 204 (.pair (.str) (.sl 178 (.pair (.int .i64) (.pair (.str) (.int .i64))))) x5,.row false 2 (.int .i64) x6,.row false 172 (.pair (.int .i64) (.pair (.int .i64) (.int .i64))) x7,.row false 41 (.sl 2 (.int .i64)) x8]=>some ⟨.one ⟨false,[.val (.int .i64 (amF x0 x2 x3 x4 x1 x5 x6 x7 x8))]⟩,[.row false 9 ahF x2,.row false 9 ahF x3,.row false 9 ahF x4,.row false 204 (CTy.pair CTy.str (CTy.sl (178:TypeId) afk)) x5,.row false 2 agJ x6,.row false 172 aal x7,.row false 41 (CTy.sl (2:TypeId) agJ) x8],[],[cdG x0 x2 x3 x4 x1 x5 x6 x8]⟩
 |_,_=>none
def CQ:PF prog:=PF.alt agR WS (by
 intro args es o h cE;unfold WS at h;split at h
 ·rename_i x0 x1 x2 x3 x4 x5 x6 x7 x8
  cases h
  have cE:=mH cE
  have hh:=akW x0 x2 x3 x4 x1 x5 x6 x7 x8 cE
  obtain⟨e0,en⟩:=hh
  exact rV rfl (md en) (by simp only [e0] <;> rfl) rfl rfl
 ·cases h)
section
variable (x3:List ByteArray)(x5:List (ByteArray×List (Int×ByteArray×Int)))
def QY:List Int:=List.replicate (Int.toNat (↑x3.length:Int)) (0:Int)
def QZ:List (Int×(Int×Int)):=List.replicate (Int.toNat (↑(List.length (blL x5)):Int)) ((0:Int),(0:Int),(0:Int))
def Mf:Bool:=allT [leI (0:Int) (↑x3.length:Int),leI (↑x3.length:Int) (↑x3.length:Int),leI ((↑(8:Nat):Int) * (↑x3.length:Int)) (281474976710656:Int),leI (↑x3.length:Int) (9223372036854775807:Int),Xf x5,leI (0:Int) (↑(List.length (blL x5)):Int),leI (↑(List.length (blL x5)):Int) (↑(List.length (blL x5)):Int),leI ((↑(24:Nat):Int) * (↑(List.length (blL x5)):Int)) (281474976710656:Int),leI (↑(List.length (blL x5)):Int) (9223372036854775807:Int)]
end
def WN:List SV→List Entry→Option Out
 | [.one ⟨true,[.val (.string _x0),.ref 0,.ref 1,.ref 2,.val (.string _x1),.ref 3]⟩],[.row false 9 (.str) x2,.row false 9 (.str) x3,.row false 9 (.str) x4,.row false 204 (.pair (.str) (.sl 178 (.pair (.int .i64) (.pair (.str) (.int .i64))))) x5]=>some ⟨.one ⟨true,[.ref 4,.ref 5]⟩,[.row false 9 ahF x2,.row false 9 ahF x3,.row false 9 ahF x4,.row false 204 (CTy.pair CTy.str (CTy.sl (178:TypeId) afk)) x5],[.row true 2 agJ (QY x3),.row true 172 aal (QZ x5)],[Mf x3 x5]⟩
 |_,_=>none
def ta:PF prog:=PF.ofG prog [PH,PF.lend PH,PF.fz PH] [] aP 203 f203 func203 (fun c _=>LOk.nil c) WN (by
 intro vs es r h;unfold WN at h;split at h
 ·cases h;kernel_rfl
 ·cases h)
abbrev pg:=Int×List (List Int)×ByteArray×ByteArray×List ByteArray×List ByteArray×List ByteArray×List (ByteArray×(List (Int×(ByteArray×Int))))×List Int×List (Int×(Int×Int))
section
variable (y0:Int)(y1:List (List Int))(y4:List ByteArray)
def sD:List Int:=Option.getD y1[Int.toNat y0]? (qA (CTy.sl (2:Nat) agJ))
def AU:Bool:=ltI y0 (↑y1.length:Int)
def FM:Bool:=leI (0:Int) y0
def FN:Bool:=ltN y0.toNat y1.length
def FO:Bool:=leN (List.length (sD y0 y1)) (9223372036854775807:Nat)
def FP:Bool:= !bitsB (↑y4.length:Int) (sD y0 y1)
def FQ:Int:=IntKind.wrap .i64 (y0 + (1:Int))
end
def ad3:pg→List (Nat×SV)
 |(y0,_,_,_,_,_,_,_,_,_)=> [(7,(.one ⟨false,[.val (.int .i64 y0)]⟩)),(1,(.one ⟨false,[.ref 0]⟩)),(2,(.one ⟨false,[.ptr 1 0]⟩)),(5,(.one ⟨false,[.ptr 2 0]⟩))]
def ad0:pg→List (Nat×Entry)
 |(_,y1,y2,y3,y4,y5,y6,y7,y8,y9)=> [(0,(.row false 41 (CTy.sl (2:Nat) agJ) y1)),(1,(.box 63 [.val (.string y2),.ref 3,.ref 4,.ref 5,.val (.string y3),.ref 6])),(2,(.box 48 [.ref 7,.ref 8])),(3,(.row false 9 ahF y4)),(4,(.row false 9 ahF y5)),(5,(.row false 9 ahF y6)),(6,(.row false 204 (CTy.pair CTy.str (CTy.sl (178:Nat) afk)) y7)),(7,(.row true 2 agJ y8)),(8,(.row true 172 aal y9))]
def ad9:Nat→pg→List (Nat×SV)
 |0,(_,_,_,_,_,_,_,_,_,_)=> [(4,(.one ⟨false,[.ref 9]⟩)),(6,(.one ⟨false,[.val (.int .i64 (2:Int))]⟩))]
 |_,(_,_,_,_,_,_,_,_,_,_)=> []
def ad6:Nat→pg→List (Nat×Entry)
 |0,(_,y1,y2,y3,y4,y5,y6,y7,y8,y9)=> [(0,(.row false 41 (CTy.sl (2:Nat) agJ) y1)),(1,(.box 63 [.val (.string y2),.ref 3,.ref 4,.ref 5,.val (.string y3),.ref 6])),(2,(.box 48 [.ref 10,.ref 11])),(3,(.row false 9 ahF y4)),(4,(.row false 9 ahF y5)),(5,(.row false 9 ahF y6)),(6,(.row false 204 (CTy.pair CTy.str (CTy.sl (178:Nat) afk)) y7)),(7,(.row true 2 agJ y8)),(8,(.row true 172 aal y9)),(9,(.row true 41 (CTy.sl (2:Nat) agJ) [])),(10,(.row true 2 agJ [])),(11,(.row true 172 aal []))]
 |_,(_,y1,y2,y3,y4,y5,y6,y7,y8,y9)=> [(0,(.row false 41 (CTy.sl (2:Nat) agJ) y1)),(1,(.box 63 [.val (.string y2),.ref 3,.ref 4,.ref 5,.val (.string y3),.ref 6])),(2,(.box 48 [.ref 7,.ref 8])),(3,(.row false 9 ahF y4)),(4,(.row false 9 ahF y5)),(5,(.row false 9 ahF y6)),(6,(.row false 204 (CTy.pair CTy.str (CTy.sl (178:Nat) afk)) y7)),(7,(.row true 2 agJ y8)),(8,(.row true 172 aal y9))]
def DU:pg→LT pg
 |(y0,y1,y2,y3,y4,y5,y6,y7,y8,y9)=> .ite (AU y0 y1) (.need [FM y0,AU y0 y1,FN y0 y1,FO y0 y1] (.ite (FP y0 y1 y4) (.ext 0 [(0,0),(1,1),(2,2),(3,3),(4,4),(5,5),(6,6),(7,7),(8,8),(9,960),(10,896),(11,897)]) (.nrm ((FQ y0),y1,y2,y3,y4,y5,y6,y7,y8,y9) [(0,0),(1,1),(2,2),(3,3),(4,4),(5,5),(6,6),(7,7),(8,8)]))) (.ext 1 [(0,0),(1,1),(2,2),(3,3),(4,4),(5,5),(6,6),(7,7),(8,8)])
def Oq(s:St):Option pg:=
 (match s.look 7 with
 |some ⟨none,.one ⟨false,[.val (.int .i64 y0)]⟩⟩=>
 (match s.look 1 with
 |some ⟨none,.one ⟨false,[.ref 4]⟩⟩=>
 (match s.look 2 with
 |some ⟨none,.one ⟨false,[.ptr 384 0]⟩⟩=>
 (match s.look 5 with
 |some ⟨none,.one ⟨false,[.ptr 512 0]⟩⟩=>
 (match s.ent 4 with
 |some (.row false 41 (.sl 2 (.int .i64)) y1)=>
 (match s.ent 384 with
 |some (.box 63 [.val (.string y2),.ref 0,.ref 1,.ref 2,.val (.string y3),.ref 3])=>
 (match s.ent 512 with
 |some (.box 48 [.ref 513,.ref 514])=>
 (match s.ent 0 with
 |some (.row false 9 (.str) y4)=>
 (match s.ent 1 with
 |some (.row false 9 (.str) y5)=>
 (match s.ent 2 with
 |some (.row false 9 (.str) y6)=>
 (match s.ent 3 with
 |some (.row false 204 (.pair .str (.sl (178:Nat) (.pair (.int .i64) (.pair .str (.int .i64))))) y7)=>
 (match s.ent 513 with
 |some (.row true 2 (.int .i64) y8)=>
 (match s.ent 514 with
 |some (.row true 172 (.pair (.int .i64) (.pair (.int .i64) (.int .i64))) y9)=>
 some (y0,y1,y2,y3,y4,y5,y6,y7,y8,y9)
 |_=>none)
 |_=>none)
 |_=>none)
 |_=>none)
 |_=>none)
 |_=>none)
 |_=>none)
 |_=>none)
 |_=>none)
 |_=>none)
 |_=>none)
 |_=>none)
 |_=>none)
def ip:Lp pg where
 h:=⟨[21,22,23,24,27,28,29,30,31,32,33,34,35,36,4,6,25,26,7],[0,1,2,3,4,5,6,7,8],[],[9,10,11]⟩
 JL:=ad3
 JE:=ad0
 XL:=ad9
 XE:=ad6
 q:=fun j=>match j with | 0=> .ret | _=> .exit 0
 tags:= [0,1]
 lt:=DU
 fuel:=fun(y0,y1,y2,y3,y4,y5,y6,y7,y8,y9)=>y0.natAbs + y1.length + y2.size + y3.size + y4.length + y5.length + y6.length + y7.length + y8.length + y9.length
 fix:=fun(_,y1,y2,y3,y4,y5,y6,y7,y8,y9) (y0,_,_,_,_,_,_,_,_,_)=>(y0,y1,y2,y3,y4,y5,y6,y7,y8,y9)
 σ:= [(0,4),(1,384),(2,512),(3,0),(4,1),(5,2),(6,3),(7,513),(8,514)]
 rd:=Oq
theorem abe:LoopOk prog (fun k=>Nat.blt k Tryz.f135.ntmps) ip.F (aL f135 0):=by
 refine Lp.ok (tbl:= [vb,PF.lend vb,PF.fz vb,va,PF.lend va,PF.fz va,ta,PF.lend ta,PF.fz ta,vc,PF.lend vc,PF.fz vc]) (lf:= []) aP ip (by kernel_rfl) (LOk.nil _) (fun _=>rfl) (fun j _=>by unfold ip;match j with | 0=>rfl | _ + 1=>rfl) ?_ ?_ ?_ ?_ (fun _=>rfl) ?_
 ·rintro⟨y0,y1,y2,y3,y4,y5,y6,y7,y8,y9⟩;kernel_rfl
 ·rintro⟨y0,y1,y2,y3,y4,y5,y6,y7,y8,y9⟩;kernel_rfl
 ·intro s x h
  have h:Oq s=some x:=h
  unfold Oq at h
  repeat' split at h
  all_goals cases h
  exact⟨aa (by assumption) rfl (aa (by assumption) rfl (aa (by assumption) rfl (aa (by assumption) rfl (rfl)))),ab rfl (by assumption) rfl (ab rfl (by assumption) rfl (ab rfl (by assumption) rfl (ab rfl (by assumption) rfl (ab rfl (by assumption) rfl (ab rfl (by assumption) rfl (ab rfl (by assumption) rfl (ab rfl (by assumption) rfl (ab rfl (by assumption) rfl (rfl)))))))))⟩
 ·rintro⟨y0,y1,y2,y3,y4,y5,y6,y7,y8,y9⟩;kernel_rfl
 ·rintro⟨y0,y1,y2,y3,y4,y5,y6,y7,y8,y9⟩ z;exact(And.intro (And.intro trivial rfl) trivial)
abbrev ph:=Int×List (List Int)×ByteArray×ByteArray×List (List Int)×List ByteArray×List ByteArray×List ByteArray×List (ByteArray×(List (Int×(ByteArray×Int))))×List Int×List (Int×(Int×Int))
def od(y0:Int)(y1:List (List Int)):List Int:=Option.getD y1[Int.toNat y0]? (qA (CTy.sl (2:Nat) agJ))
def vr(y0:Int)(y1:List (List Int))(y3:ByteArray)(y5 y6 y7:List ByteArray)(y8:List (ByteArray×(List (Int×(ByteArray×Int)))))(y9:List Int)(y10:List (Int×(Int×Int))):List (List Int):= [scO y5 y6 y7 y3 y8 (od y0 y1) y9 y10]
section
variable (y0:Int)(y1:List (List Int))
def AV:Bool:=ltI y0 (↑y1.length:Int)
def FR:Bool:=leI (0:Int) y0
def FS:Bool:=ltN y0.toNat y1.length
end
def FT(y0:Int)(y1:List (List Int))(y2 y3:ByteArray)(y5 y6 y7:List ByteArray)(y8:List (ByteArray×(List (Int×(ByteArray×Int)))))(y9:List Int)(y10:List (Int×(Int×Int))):Bool:=scG y2 y5 y6 y7 y3 y8 y9 y10 (od y0 y1)
def FU(y0:Int)(y1:List (List Int))(y3:ByteArray)(y4:List (List Int))(y5 y6 y7:List ByteArray)(y8:List (ByteArray×(List (Int×(ByteArray×Int)))))(y9:List Int)(y10:List (Int×(Int×Int))):Bool:=leN (List.length y4 + List.length (vr y0 y1 y3 y5 y6 y7 y8 y9 y10)) (9223372036854775807:Nat)
def FV(y0:Int)(y1:List (List Int))(y3:ByteArray)(y4:List (List Int))(y5 y6 y7:List ByteArray)(y8:List (ByteArray×(List (Int×(ByteArray×Int)))))(y9:List Int)(y10:List (Int×(Int×Int))):Bool:=leN ((List.length y4 + List.length (vr y0 y1 y3 y5 y6 y7 y8 y9 y10)) * (24:Nat)) (140737488355328:Nat)
def FW(y0:Int):Int:=IntKind.wrap .i64 (y0 + (1:Int))
def FX(y0:Int)(y1:List (List Int))(y3:ByteArray)(y4:List (List Int))(y5 y6 y7:List ByteArray)(y8:List (ByteArray×(List (Int×(ByteArray×Int)))))(y9:List Int)(y10:List (Int×(Int×Int))):List (List Int):=y4++vr y0 y1 y3 y5 y6 y7 y8 y9 y10
def FY(y0:Int)(y1:List (List Int))(y5 y6 y7:List ByteArray)(y8:List (ByteArray×(List (Int×(ByteArray×Int)))))(y9:List Int)(y10:List (Int×(Int×Int))):List Int:=scV y5 y6 y7 y8 (od y0 y1) y9 y10
def FZ(y0:Int)(y1:List (List Int))(y5 y6 y7:List ByteArray)(y8:List (ByteArray×(List (Int×(ByteArray×Int)))))(y9:List Int)(y10:List (Int×(Int×Int))):List (Int×(Int×Int)):=scB y5 y6 y7 y8 (od y0 y1) y9 y10
def ad4:ph→List (Nat×SV)
 |(y0,_,_,_,_,_,_,_,_,_,_)=> [(10,(.one ⟨false,[.val (.int .i64 y0)]⟩)),(1,(.one ⟨false,[.ref 0]⟩)),(2,(.one ⟨false,[.ptr 1 0]⟩)),(9,(.one ⟨false,[.ptr 2 0]⟩)),(8,(.one ⟨false,[.ref 3]⟩))]
def ad1:ph→List (Nat×Entry)
 |(_,y1,y2,y3,y4,y5,y6,y7,y8,y9,y10)=> [(0,(.row false 41 (CTy.sl (2:Nat) agJ) y1)),(1,(.box 63 [.val (.string y2),.ref 4,.ref 5,.ref 6,.val (.string y3),.ref 7])),(2,(.box 48 [.ref 8,.ref 9])),(4,(.row false 9 ahF y5)),(5,(.row false 9 ahF y6)),(6,(.row false 9 ahF y7)),(7,(.row false 204 (CTy.pair CTy.str (CTy.sl (178:Nat) afk)) y8)),(3,(.row true 41 (CTy.sl (2:Nat) agJ) y4)),(8,(.row true 2 agJ y9)),(9,(.row true 172 aal y10))]
def aea:Nat→ph→List (Nat×SV)
 |_,(_,_,_,_,_,_,_,_,_,_,_)=> [(8,(.one ⟨false,[.ref 3]⟩))]
def ad7:Nat→ph→List (Nat×Entry)
 |_,(_,y1,y2,y3,y4,y5,y6,y7,y8,y9,y10)=> [(0,(.row false 41 (CTy.sl (2:Nat) agJ) y1)),(1,(.box 63 [.val (.string y2),.ref 4,.ref 5,.ref 6,.val (.string y3),.ref 7])),(2,(.box 48 [.ref 8,.ref 9])),(3,(.row true 41 (CTy.sl (2:Nat) agJ) y4)),(4,(.row false 9 ahF y5)),(5,(.row false 9 ahF y6)),(6,(.row false 9 ahF y7)),(7,(.row false 204 (CTy.pair CTy.str (CTy.sl (178:Nat) afk)) y8)),(8,(.row true 2 agJ y9)),(9,(.row true 172 aal y10))]
def DV:ph→LT ph
 |(y0,y1,y2,y3,y4,y5,y6,y7,y8,y9,y10)=> .ite (AV y0 y1) (.need [FR y0,AV y0 y1,FS y0 y1,FT y0 y1 y2 y3 y5 y6 y7 y8 y9 y10] (.need [FU y0 y1 y3 y4 y5 y6 y7 y8 y9 y10,FV y0 y1 y3 y4 y5 y6 y7 y8 y9 y10] (.nrm ((FW y0),y1,y2,y3,FX y0 y1 y3 y4 y5 y6 y7 y8 y9 y10,y5,y6,y7,y8,FY y0 y1 y5 y6 y7 y8 y9 y10,(FZ y0 y1 y5 y6 y7 y8 y9 y10)) [(0,0),(1,1),(2,2),(3,1344),(4,4),(5,5),(6,6),(7,7),(8,705),(9,706)]))) (.ext 0 [(0,0),(1,1),(2,2),(3,3),(4,4),(5,5),(6,6),(7,7),(8,8),(9,9)])
def Or(s:St):Option ph:=
 (match s.look 10 with
 |some ⟨none,.one ⟨false,[.val (.int .i64 y0)]⟩⟩=>
 (match s.look 1 with
 |some ⟨none,.one ⟨false,[.ref 4]⟩⟩=>
 (match s.look 2 with
 |some ⟨none,.one ⟨false,[.ptr 384 0]⟩⟩=>
 (match s.look 9 with
 |some ⟨none,.one ⟨false,[.ptr 1408 0]⟩⟩=>
 (match s.look 8 with
 |some ⟨none,.one ⟨false,[.ref 1152]⟩⟩=>
 (match s.ent 4 with
 |some (.row false 41 (.sl 2 (.int .i64)) y1)=>
 (match s.ent 384 with
 |some (.box 63 [.val (.string y2),.ref 0,.ref 1,.ref 2,.val (.string y3),.ref 3])=>
 (match s.ent 1408 with
 |some (.box 48 [.ref 1344,.ref 1345])=>
 (match s.ent 0 with
 |some (.row false 9 (.str) y5)=>
 (match s.ent 1 with
 |some (.row false 9 (.str) y6)=>
 (match s.ent 2 with
 |some (.row false 9 (.str) y7)=>
 (match s.ent 3 with
 |some (.row false 204 (.pair .str (.sl (178:Nat) (.pair (.int .i64) (.pair .str (.int .i64))))) y8)=>
 (match s.ent 1152 with
 |some (.row true 41 (.sl 2 (.int .i64)) y4)=>
 (match s.ent 1344 with
 |some (.row true 2 (.int .i64) y9)=>
 (match s.ent 1345 with
 |some (.row true 172 (.pair (.int .i64) (.pair (.int .i64) (.int .i64))) y10)=>
 some (y0,y1,y2,y3,y4,y5,y6,y7,y8,y9,y10)
 |_=>none)
 |_=>none)
 |_=>none)
 |_=>none)
 |_=>none)
 |_=>none)
 |_=>none)
 |_=>none)
 |_=>none)
 |_=>none)
 |_=>none)
 |_=>none)
 |_=>none)
 |_=>none)
 |_=>none)
def jp:Lp ph where
 h:=⟨[40,41,42,43,47,48,49,50,51,52,53,46,54,55,12,11,56,57,58,59,8,60,44,45,10],[0,1,2,4,5,6,7],[3,8,9],[]⟩
 JL:=ad4
 JE:=ad1
 XL:=aea
 XE:=ad7
 q:=fun j=>match j with | _=> .exit 2
 tags:= [0]
 lt:=DV
 fuel:=fun(y0,y1,y2,y3,y4,y5,y6,y7,y8,y9,y10)=>y0.natAbs + y1.length + y2.size + y3.size + y4.length + y5.length + y6.length + y7.length + y8.length + y9.length + y10.length
 fix:=fun(_,y1,y2,y3,_,y5,y6,y7,y8,_,_) (y0,_,_,_,y4,_,_,_,_,y9,y10)=>(y0,y1,y2,y3,y4,y5,y6,y7,y8,y9,y10)
 σ:= [(0,4),(1,384),(2,1408),(4,0),(5,1),(6,2),(7,3),(3,1152),(8,1344),(9,1345)]
 rd:=Or
theorem abf:LoopOk prog (fun k=>Nat.blt k Tryz.f135.ntmps) jp.F (aL f135 1):=by
 refine Lp.ok (tbl:= [vb,PF.lend vb,PF.fz vb,va,PF.lend va,PF.fz va,ta,PF.lend ta,PF.fz ta,vc,PF.lend vc,PF.fz vc]) (lf:= []) aP jp (by kernel_rfl) (LOk.nil _) (fun _=>rfl) (fun _ _=>rfl) ?_ ?_ ?_ ?_ (fun _=>rfl) ?_
 ·rintro⟨y0,y1,y2,y3,y4,y5,y6,y7,y8,y9,y10⟩;kernel_rfl
 ·rintro⟨y0,y1,y2,y3,y4,y5,y6,y7,y8,y9,y10⟩;kernel_rfl
 ·intro s x h
  have h:Or s=some x:=h
  unfold Or at h
  repeat' split at h
  all_goals cases h
  exact⟨aa (by assumption) rfl (aa (by assumption) rfl (aa (by assumption) rfl (aa (by assumption) rfl (aa (by assumption) rfl (rfl))))),ab rfl (by assumption) rfl (ab rfl (by assumption) rfl (ab rfl (by assumption) rfl (ab rfl (by assumption) rfl (ab rfl (by assumption) rfl (ab rfl (by assumption) rfl (ab rfl (by assumption) rfl (ab rfl (by assumption) rfl (ab rfl (by assumption) rfl (ab rfl (by assumption) rfl (rfl))))))))))⟩
 ·rintro⟨y0,y1,y2,y3,y4,y5,y6,y7,y8,y9,y10⟩;kernel_rfl
 ·rintro⟨y0,y1,y2,y3,y4,y5,y6,y7,y8,y9,y10⟩ z;exact(And.intro rfl trivial)
section
variable (x0 x1:ByteArray)(x2 x3 x4:List ByteArray)(x5:List (ByteArray×List (Int×ByteArray×Int)))(x6:List (List Int))
def yG:Bool:=ltI (200:Int) (↑x6.length:Int)
def SB:Int×List (List Int)×ByteArray×ByteArray×List ByteArray×List ByteArray×List ByteArray×List (ByteArray×List (Int×ByteArray×Int))×List Int×List (Int×Int×Int):=((0:Int),x6,x0,x1,x2,x3,x4,x5,[],[])
def yH:Bool:=Nat.beq ((Lp.res ip (SB x0 x1 x2 x3 x4 x5 x6)).1) (0:Nat)
def OE:Int×List (List Int)×ByteArray×ByteArray×List (List Int)×List ByteArray×List ByteArray×List ByteArray×List (ByteArray×List (Int×ByteArray×Int))×List Int×List (Int×Int×Int):=((0:Int),x6,x0,x1,[],x2,x3,x4,x5,QY x3,QZ x5)
def SC:List (List Int)×List ByteArray×List ByteArray×List ByteArray×List (ByteArray×List (Int×ByteArray×Int))×List Int×List (Int×Int×Int):=(Lp.res jp (OE x0 x1 x2 x3 x4 x5 x6)).2.2.2.2.2
def SD:List Int×List (Int×Int×Int):=(SC x0 x1 x2 x3 x4 x5 x6).2.2.2.2.2
def Qd:Int:=bif !mI x0 x2 x3 x4 x1 x5 then(1:Int)else bif yG x6 then(3:Int)else bif yH x0 x1 x2 x3 x4 x5 x6 then(2:Int)else(0:Int)
def Qe:List (List Int):=bif !mI x0 x2 x3 x4 x1 x5 then []else bif yG x6 then []else bif yH x0 x1 x2 x3 x4 x5 x6 then []else (SC x0 x1 x2 x3 x4 x5 x6).1
def Uh:List Int:=bif !mI x0 x2 x3 x4 x1 x5 then []else bif yG x6 then []else bif yH x0 x1 x2 x3 x4 x5 x6 then []else (SD x0 x1 x2 x3 x4 x5 x6).1
def Ui:List (Int×(Int×Int)):=bif !mI x0 x2 x3 x4 x1 x5 then []else bif yG x6 then []else bif yH x0 x1 x2 x3 x4 x5 x6 then []else (SD x0 x1 x2 x3 x4 x5 x6).2
def Qf:Bool:=allT [prOk x0 x2 x3 x4 x1 x5,!mI x0 x2 x3 x4 x1 x5||(yG x6||Lp.fin ip (SB x0 x1 x2 x3 x4 x5 x6)),!mI x0 x2 x3 x4 x1 x5||(yG x6||(yH x0 x1 x2 x3 x4 x5 x6||Mf x3 x5)),!mI x0 x2 x3 x4 x1 x5||(yG x6||(yH x0 x1 x2 x3 x4 x5 x6||Lp.fin jp (OE x0 x1 x2 x3 x4 x5 x6)))]
end
def abH:List SV→List Entry→Option Out
 | [.one ⟨true,[.val (.string x0),.ref 0,.ref 1,.ref 2,.val (.string x1),.ref 3]⟩,.one ⟨false,[.ref 4]⟩],[.row false 9 (.str) x2,.row false 9 (.str) x3,.row false 9 (.str) x4,.row false 204 (.pair (.str) (.sl 178 (.pair (.int .i64) (.pair (.str) (.int .i64))))) x5,.row false 41 (.sl 2 (.int .i64)) x6]=>some ⟨.tup [⟨false,[.ref 5]⟩,⟨true,[.ref 6,.ref 7]⟩,⟨false,[.val (.int .i64 (Qd x0 x1 x2 x3 x4 x5 x6))]⟩],[.row false 9 ahF x2,.row false 9 ahF x3,.row false 9 ahF x4,.row false 204 (CTy.pair CTy.str (CTy.sl (178:TypeId) afk)) x5,.row false 41 (CTy.sl (2:TypeId) agJ) x6],[.row true 41 (CTy.sl (2:Nat) agJ) (Qe x0 x1 x2 x3 x4 x5 x6),.row true 2 agJ (Uh x0 x1 x2 x3 x4 x5 x6),.row true 172 aal (Ui x0 x1 x2 x3 x4 x5 x6)],[Qf x0 x1 x2 x3 x4 x5 x6]⟩
 |_,_=>none
def Ue:PF prog:=PF.ofG prog [vb,PF.lend vb,PF.fz vb,va,PF.lend va,PF.fz va,ta,PF.lend ta,PF.fz ta,vc,PF.lend vc,PF.fz vc] [ip.F,jp.F] aP 135 f135 func135 (LOk.fnT (l:= [aL f135 0,aL f135 1]) (by kernel_rfl) (.cons abe (.cons abf (.nil _)))) abH (by
 intro vs es r h;unfold abH at h;split at h
 ·cases h;kernel_rfl
 ·cases h)
section
variable (x0 x1:ByteArray)(x2 x3 x4:List ByteArray)(x5:List (ByteArray×List (Int×ByteArray×Int)))(x6:List (List Int))
def Xi:Int:=Qd x0 x1 x2 x3 x4 x5 x6
def Xj:List (List Int):=Qe x0 x1 x2 x3 x4 x5 x6
def QR:Bool:=allT [Qf x0 x1 x2 x3 x4 x5 x6]
end
def WF:List SV→List Entry→Option Out
 | [.one ⟨true,[.val (.string x0),.ref 0,.ref 1,.ref 2,.val (.string x1),.ref 3]⟩,.one ⟨false,[.ref 4]⟩],[.row false 9 (.str) x2,.row false 9 (.str) x3,.row false 9 (.str) x4,.row false 204 (.pair (.str) (.sl 178 (.pair (.int .i64) (.pair (.str) (.int .i64))))) x5,.row false 41 (.sl 2 (.int .i64)) x6]=>some ⟨.tup [⟨false,[.ref 5]⟩,⟨false,[.val (.int .i64 (Xi x0 x1 x2 x3 x4 x5 x6))]⟩],[.row false 9 ahF x2,.row false 9 ahF x3,.row false 9 ahF x4,.row false 204 (CTy.pair CTy.str (CTy.sl (178:TypeId) afk)) x5,.row false 41 (CTy.sl (2:TypeId) agJ) x6],[.row true 41 (CTy.sl (2:Nat) agJ) (Xj x0 x1 x2 x3 x4 x5 x6)],[QR x0 x1 x2 x3 x4 x5 x6]⟩
 |_,_=>none
def agW:PF prog:=PF.ofG prog [Ue,PF.lend Ue,PF.fz Ue] [] aP 61 f61 func61 (fun c _=>LOk.nil c) WF (by
 intro vs es r h;unfold WF at h;split at h
 ·cases h;kernel_rfl
 ·cases h)
section
variable (x0 x1:Int)
def GI:List Int:=List.replicate x0.toNat (0:Int)
def GJ:List (Int×(Int×Int)):=List.replicate x1.toNat ((0:Int),(0:Int),(0:Int))
def GK:Bool:=allT [leI (0:Int) x0,leI x0 x0,leI ((↑(8:Nat):Int) * x0) (281474976710656:Int),leI x0 (9223372036854775807:Int),leI (0:Int) x1,leI x1 x1,leI ((↑(24:Nat):Int) * x1) (281474976710656:Int),leI x1 (9223372036854775807:Int)]
end
def NK:List SV→List Entry→Option Out
 | [.one ⟨false,[.val (.int .i64 x0)]⟩,.one ⟨false,[.val (.int .i64 x1)]⟩],[]=>some ⟨.one ⟨true,[.ref 0,.ref 1]⟩,[],[.row true 2 agJ (GI x0),.row true 172 aal (GJ x1)],[GK x0 x1]⟩
 |_,_=>none
def Wk:PF prog:=PF.ofG prog [] [] aP 93 f93 func93 (fun c _=>LOk.nil c) NK (by
 intro vs es r h;unfold NK at h;split at h
 ·cases h;kernel_rfl
 ·cases h)
section
variable (x3:List ByteArray)(x5:List (ByteArray×List (Int×ByteArray×Int)))
def ce:List Int:=GI (↑x3.length:Int)
def cV:List (Int×(Int×Int)):=GJ (↑(List.length (blL x5)):Int)
def iG:Bool:=allT [Xf x5,GK (↑x3.length:Int) (↑(List.length (blL x5)):Int)]
end
def sN:List SV→List Entry→Option Out
 | [.one ⟨true,[.val (.string _x0),.ref 0,.ref 1,.ref 2,.val (.string _x1),.ref 3]⟩],[.row false 9 (.str) x2,.row false 9 (.str) x3,.row false 9 (.str) x4,.row false 204 (.pair (.str) (.sl 178 (.pair (.int .i64) (.pair (.str) (.int .i64))))) x5]=>some ⟨.one ⟨true,[.ref 4,.ref 5]⟩,[.row false 9 ahF x2,.row false 9 ahF x3,.row false 9 ahF x4,.row false 204 (CTy.pair CTy.str (CTy.sl (178:TypeId) afk)) x5],[.row true 2 agJ (ce x3),.row true 172 aal (cV x5)],[iG x3 x5]⟩
 |_,_=>none
def cY:PF prog:=PF.ofG prog [dK,PF.lend dK,PF.fz dK,Wk] [] aP 204 f204 func204 (fun c _=>LOk.nil c) sN (by
 intro vs es r h;unfold sN at h;split at h
 ·cases h;kernel_rfl
 ·cases h)
abbrev mv:=Int×Int×List (List Int)×ByteArray×ByteArray×List (List Int)×List ByteArray×List ByteArray×List ByteArray×List (ByteArray×(List (Int×(ByteArray×Int))))×List Int×List (Int×(Int×Int))
def lD(y0:Int)(y2:List (List Int)):List Int:=Option.getD y2[Int.toNat y0]? (qA (CTy.sl (2:Nat) agJ))
def sc(y0:Int)(y2:List (List Int))(y4:ByteArray)(y6 y7 y8:List ByteArray)(y9:List (ByteArray×(List (Int×(ByteArray×Int)))))(y10:List Int)(y11:List (Int×(Int×Int))):List (List Int):= [scO y6 y7 y8 y4 y9 (lD y0 y2) y10 y11]
section
variable (y0 y1:Int)(y2:List (List Int))
def Bj:Bool:=ltI y0 y1
def Bk:Bool:=leI (0:Int) y0
def Bl:Bool:=ltI y0 (↑y2.length:Int)
def Bm:Bool:=ltN y0.toNat y2.length
end
def Bn(y0:Int)(y2:List (List Int))(y3 y4:ByteArray)(y6 y7 y8:List ByteArray)(y9:List (ByteArray×(List (Int×(ByteArray×Int)))))(y10:List Int)(y11:List (Int×(Int×Int))):Bool:=scG y3 y6 y7 y8 y4 y9 y10 y11 (lD y0 y2)
def Bo(y0:Int)(y2:List (List Int))(y4:ByteArray)(y5:List (List Int))(y6 y7 y8:List ByteArray)(y9:List (ByteArray×(List (Int×(ByteArray×Int)))))(y10:List Int)(y11:List (Int×(Int×Int))):Bool:=leN (List.length y5 + List.length (sc y0 y2 y4 y6 y7 y8 y9 y10 y11)) (9223372036854775807:Nat)
def Bp(y0:Int)(y2:List (List Int))(y4:ByteArray)(y5:List (List Int))(y6 y7 y8:List ByteArray)(y9:List (ByteArray×(List (Int×(ByteArray×Int)))))(y10:List Int)(y11:List (Int×(Int×Int))):Bool:=leN ((List.length y5 + List.length (sc y0 y2 y4 y6 y7 y8 y9 y10 y11)) * (24:Nat)) (140737488355328:Nat)
def Bq(y0:Int):Int:=IntKind.wrap .i64 (y0 + (1:Int))
def Br(y0:Int)(y2:List (List Int))(y4:ByteArray)(y5:List (List Int))(y6 y7 y8:List ByteArray)(y9:List (ByteArray×(List (Int×(ByteArray×Int)))))(y10:List Int)(y11:List (Int×(Int×Int))):List (List Int):=y5++sc y0 y2 y4 y6 y7 y8 y9 y10 y11
def Bs(y0:Int)(y2:List (List Int))(y6 y7 y8:List ByteArray)(y9:List (ByteArray×(List (Int×(ByteArray×Int)))))(y10:List Int)(y11:List (Int×(Int×Int))):List Int:=scV y6 y7 y8 y9 (lD y0 y2) y10 y11
def zw(y0:Int)(y2:List (List Int))(y6 y7 y8:List ByteArray)(y9:List (ByteArray×(List (Int×(ByteArray×Int)))))(y10:List Int)(y11:List (Int×(Int×Int))):List (Int×(Int×Int)):=scB y6 y7 y8 y9 (lD y0 y2) y10 y11
def aaI:mv→List (Nat×SV)
 |(y0,y1,_,_,_,_,_,_,_,_,_,_)=> [(36,(.one ⟨false,[.val (.int .i64 y0)]⟩)),(35,(.one ⟨false,[.val (.int .i64 y1)]⟩)),(34,(.one ⟨false,[.ref 0]⟩)),(2,(.one ⟨false,[.ptr 1 0]⟩)),(7,(.one ⟨false,[.ptr 2 0]⟩)),(9,(.one ⟨false,[.ref 3]⟩))]
def aay:mv→List (Nat×Entry)
 |(_,_,y2,y3,y4,y5,y6,y7,y8,y9,y10,y11)=> [(0,(.row false 41 (CTy.sl (2:Nat) agJ) y2)),(1,(.box 63 [.val (.string y3),.ref 4,.ref 5,.ref 6,.val (.string y4),.ref 7])),(2,(.box 48 [.ref 8,.ref 9])),(4,(.row false 9 ahF y6)),(5,(.row false 9 ahF y7)),(6,(.row false 9 ahF y8)),(7,(.row false 204 (CTy.pair CTy.str (CTy.sl (178:Nat) afk)) y9)),(3,(.tree 41 (CTy.sl (2:Nat) agJ) y5 none)),(8,(.row true 2 agJ y10)),(9,(.row true 172 aal y11))]
def aa2:Nat→mv→List (Nat×SV)
 |_,(_,_,_,_,_,_,_,_,_,_,_,_)=> [(9,(.one ⟨false,[.ref 3]⟩))]
def aaS:Nat→mv→List (Nat×Entry)
 |_,(_,_,y2,y3,y4,y5,y6,y7,y8,y9,y10,y11)=> [(0,(.row false 41 (CTy.sl (2:Nat) agJ) y2)),(1,(.box 63 [.val (.string y3),.ref 4,.ref 5,.ref 6,.val (.string y4),.ref 7])),(2,(.box 48 [.ref 8,.ref 9])),(3,(.tree 41 (CTy.sl (2:Nat) agJ) y5 none)),(4,(.row false 9 ahF y6)),(5,(.row false 9 ahF y7)),(6,(.row false 9 ahF y8)),(7,(.row false 204 (CTy.pair CTy.str (CTy.sl (178:Nat) afk)) y9)),(8,(.row true 2 agJ y10)),(9,(.row true 172 aal y11))]
def An:mv→LT mv
 |(y0,y1,y2,y3,y4,y5,y6,y7,y8,y9,y10,y11)=> .ite (Bj y0 y1) (.need [Bk y0,Bl y0 y2,Bm y0 y2] (.need [Bn y0 y2 y3 y4 y6 y7 y8 y9 y10 y11] (.need [Bo y0 y2 y4 y5 y6 y7 y8 y9 y10 y11,Bp y0 y2 y4 y5 y6 y7 y8 y9 y10 y11] (.nrm ((Bq y0),y1,y2,y3,y4,Br y0 y2 y4 y5 y6 y7 y8 y9 y10 y11,y6,y7,y8,y9,Bs y0 y2 y6 y7 y8 y9 y10 y11,(zw y0 y2 y6 y7 y8 y9 y10 y11)) [(0,0),(1,1),(2,2),(3,1152),(4,4),(5,5),(6,6),(7,7),(8,513),(9,514)])))) (.ext 0 [(0,0),(1,1),(2,2),(3,3),(4,4),(5,5),(6,6),(7,7),(8,8),(9,9)])
def La(s:St):Option mv:=
 (match s.look 36 with
 |some ⟨none,.one ⟨false,[.val (.int .i64 y0)]⟩⟩=>
 (match s.look 35 with
 |some ⟨none,.one ⟨false,[.val (.int .i64 y1)]⟩⟩=>
 (match s.look 34 with
 |some ⟨none,.one ⟨false,[.ref 4]⟩⟩=>
 (match s.look 2 with
 |some ⟨none,.one ⟨false,[.ptr 384 0]⟩⟩=>
 (match s.look 7 with
 |some ⟨none,.one ⟨false,[.ptr 1280 0]⟩⟩=>
 (match s.look 9 with
 |some ⟨none,.one ⟨false,[.ref 1856]⟩⟩=>
 (match s.ent 4 with
 |some (.row false 41 (.sl 2 (.int .i64)) y2)=>
 (match s.ent 384 with
 |some (.box 63 [.val (.string y3),.ref 0,.ref 1,.ref 2,.val (.string y4),.ref 3])=>
 (match s.ent 1280 with
 |some (.box 48 [.ref 1216,.ref 1217])=>
 (match s.ent 0 with
 |some (.row false 9 (.str) y6)=>
 (match s.ent 1 with
 |some (.row false 9 (.str) y7)=>
 (match s.ent 2 with
 |some (.row false 9 (.str) y8)=>
 (match s.ent 3 with
 |some (.row false 204 (.pair .str (.sl (178:Nat) (.pair (.int .i64) (.pair .str (.int .i64))))) y9)=>
 (match s.ent 1856 with
 |some (.tree 41 (.sl 2 (.int .i64)) y5 none)=>
 (match s.ent 1216 with
 |some (.row true 2 (.int .i64) y10)=>
 (match s.ent 1217 with
 |some (.row true 172 (.pair (.int .i64) (.pair (.int .i64) (.int .i64))) y11)=>
 some (y0,y1,y2,y3,y4,y5,y6,y7,y8,y9,y10,y11)
 |_=>none)
 |_=>none)
 |_=>none)
 |_=>none)
 |_=>none)
 |_=>none)
 |_=>none)
 |_=>none)
 |_=>none)
 |_=>none)
 |_=>none)
 |_=>none)
 |_=>none)
 |_=>none)
 |_=>none)
 |_=>none)
def gz:Lp mv where
 h:=⟨[37,38,39,11,41,42,43,44,40,45,46,13,12,47,48,49,50,9,51,52,36],[0,1,2,4,5,6,7],[3,8,9],[]⟩
 JL:=aaI
 JE:=aay
 XL:=aa2
 XE:=aaS
 q:=fun j=>match j with | _=> .exit 1
 tags:= [0]
 lt:=An
 fuel:=fun(y0,y1,y2,y3,y4,y5,y6,y7,y8,y9,y10,y11)=>y0.natAbs + y1.natAbs + y2.length + y3.size + y4.size + y5.length + y6.length + y7.length + y8.length + y9.length + y10.length + y11.length
 fix:=fun(_,y1,y2,y3,y4,_,y6,y7,y8,y9,_,_) (y0,_,_,_,_,y5,_,_,_,_,y10,y11)=>(y0,y1,y2,y3,y4,y5,y6,y7,y8,y9,y10,y11)
 σ:= [(0,4),(1,384),(2,1280),(4,0),(5,1),(6,2),(7,3),(3,1856),(8,1216),(9,1217)]
 rd:=La
theorem XQ:LoopOk prog (fun k=>Nat.blt k Tryz.f136.ntmps) gz.F (aL f136 0):=by
 refine Lp.ok (tbl:= [PF.trees prog,CQ,PF.lend CQ,PF.fz CQ,eR,PF.lend eR,PF.fz eR,uY,PF.lend uY,PF.fz uY,cY,PF.lend cY,PF.fz cY]) (lf:= []) aP gz (by kernel_rfl) (LOk.nil _) (fun _=>rfl) (fun _ _=>rfl) ?_ ?_ ?_ ?_ (fun _=>rfl) ?_
 ·rintro⟨y0,y1,y2,y3,y4,y5,y6,y7,y8,y9,y10,y11⟩;kernel_rfl
 ·rintro⟨y0,y1,y2,y3,y4,y5,y6,y7,y8,y9,y10,y11⟩;kernel_rfl
 ·intro s x h
  have h:La s=some x:=h
  unfold La at h
  repeat' split at h
  all_goals cases h
  exact⟨aa (by assumption) rfl (aa (by assumption) rfl (aa (by assumption) rfl (aa (by assumption) rfl (aa (by assumption) rfl (aa (by assumption) rfl (rfl)))))),ab rfl (by assumption) rfl (ab rfl (by assumption) rfl (ab rfl (by assumption) rfl (ab rfl (by assumption) rfl (ab rfl (by assumption) rfl (ab rfl (by assumption) rfl (ab rfl (by assumption) rfl (ab rfl (by assumption) rfl (ab rfl (by assumption) rfl (ab rfl (by assumption) rfl (rfl))))))))))⟩
 ·rintro⟨y0,y1,y2,y3,y4,y5,y6,y7,y8,y9,y10,y11⟩;kernel_rfl
 ·rintro⟨y0,y1,y2,y3,y4,y5,y6,y7,y8,y9,y10,y11⟩ z;exact(And.intro rfl trivial)
section
variable (x0 x1:ByteArray)(x2 x3 x4:List ByteArray)(x5:List (ByteArray×List (Int×ByteArray×Int)))(x6:List (List Int))
def tK:Bool:=ltI (200:Int) (↑x6.length:Int)
def AL:Bool:=amF x0 x2 x3 x4 x1 x5 (ce x3) (cV x5) x6 !=(0:Int)
def Kb:Int×Int×List (List Int)×ByteArray×ByteArray×List (List Int)×List ByteArray×List ByteArray×List ByteArray×List (ByteArray×List (Int×ByteArray×Int))×List Int×List (Int×Int×Int):=((0:Int),(↑x6.length:Int),x6,x0,x1,[],x2,x3,x4,x5,ce x3,cV x5)
def Pl:List (List Int)×List ByteArray×List ByteArray×List ByteArray×List (ByteArray×List (Int×ByteArray×Int))×List Int×List (Int×Int×Int):=(Lp.res gz (Kb x0 x1 x2 x3 x4 x5 x6)).2.2.2.2.2.2
def Pm:List Int×List (Int×Int×Int):=(Pl x0 x1 x2 x3 x4 x5 x6).2.2.2.2.2
def LE:Int:=bif !mI x0 x2 x3 x4 x1 x5 then(1:Int)else bif tK x6 then(3:Int)else bif AL x0 x1 x2 x3 x4 x5 x6 then amF x0 x2 x3 x4 x1 x5 (ce x3) (cV x5) x6 else(0:Int)
def LF:List (List Int):=bif !mI x0 x2 x3 x4 x1 x5 then []else bif tK x6 then []else bif AL x0 x1 x2 x3 x4 x5 x6 then []else (Pl x0 x1 x2 x3 x4 x5 x6).1
def QE:List Int:=bif !mI x0 x2 x3 x4 x1 x5 then []else bif tK x6 then []else bif AL x0 x1 x2 x3 x4 x5 x6 then []else (Pm x0 x1 x2 x3 x4 x5 x6).1
def QF:List (Int×(Int×Int)):=bif !mI x0 x2 x3 x4 x1 x5 then []else bif tK x6 then []else bif AL x0 x1 x2 x3 x4 x5 x6 then []else (Pm x0 x1 x2 x3 x4 x5 x6).2
def LG:Bool:=allT [prOk x0 x2 x3 x4 x1 x5,!mI x0 x2 x3 x4 x1 x5||(tK x6||iG x3 x5),!mI x0 x2 x3 x4 x1 x5||(tK x6||cdG x0 x2 x3 x4 x1 x5 (ce x3) x6),!mI x0 x2 x3 x4 x1 x5||(tK x6||(AL x0 x1 x2 x3 x4 x5 x6||Lp.fin gz (Kb x0 x1 x2 x3 x4 x5 x6)))]
end
def Wy:List SV→List Entry→Option Out
 | [.one ⟨true,[.val (.string x0),.ref 0,.ref 1,.ref 2,.val (.string x1),.ref 3]⟩,.one ⟨false,[.ref 4]⟩],[.row false 9 (.str) x2,.row false 9 (.str) x3,.row false 9 (.str) x4,.row false 204 (.pair (.str) (.sl 178 (.pair (.int .i64) (.pair (.str) (.int .i64))))) x5,.row false 41 (.sl 2 (.int .i64)) x6]=>some ⟨.tup [⟨false,[.ref 5]⟩,⟨true,[.ref 6,.ref 7]⟩,⟨false,[.val (.int .i64 (LE x0 x1 x2 x3 x4 x5 x6))]⟩],[.row false 9 ahF x2,.row false 9 ahF x3,.row false 9 ahF x4,.row false 204 (CTy.pair CTy.str (CTy.sl (178:TypeId) afk)) x5,.row false 41 (CTy.sl (2:TypeId) agJ) x6],[.tree 41 (CTy.sl (2:Nat) agJ) (LF x0 x1 x2 x3 x4 x5 x6) none,.row true 2 agJ (QE x0 x1 x2 x3 x4 x5 x6),.row true 172 aal (QF x0 x1 x2 x3 x4 x5 x6)],[LG x0 x1 x2 x3 x4 x5 x6]⟩
 |_,_=>none
def QN:PF prog:=PF.ofG prog [PF.trees prog,CQ,PF.lend CQ,PF.fz CQ,eR,PF.lend eR,PF.fz eR,uY,PF.lend uY,PF.fz uY,cY,PF.lend cY,PF.fz cY] [gz.F] aP 136 f136 func136 (LOk.fnT (l:= [aL f136 0]) (by kernel_rfl) (.cons XQ (.nil _))) Wy (by
 intro vs es r h;unfold Wy at h;split at h
 ·cases h;kernel_rfl
 ·cases h)
section
variable (x0 x1:ByteArray)(x2 x3 x4:List ByteArray)(x5:List (ByteArray×List (Int×ByteArray×Int)))(x6:List (List Int))
def Xc:Int:=LE x0 x1 x2 x3 x4 x5 x6
def Xd:List (List Int):=LF x0 x1 x2 x3 x4 x5 x6
def Qz:Bool:=allT [LG x0 x1 x2 x3 x4 x5 x6]
end
def Wv:List SV→List Entry→Option Out
 | [.one ⟨true,[.val (.string x0),.ref 0,.ref 1,.ref 2,.val (.string x1),.ref 3]⟩,.one ⟨false,[.ref 4]⟩],[.row false 9 (.str) x2,.row false 9 (.str) x3,.row false 9 (.str) x4,.row false 204 (.pair (.str) (.sl 178 (.pair (.int .i64) (.pair (.str) (.int .i64))))) x5,.row false 41 (.sl 2 (.int .i64)) x6]=>some ⟨.tup [⟨false,[.ref 5]⟩,⟨false,[.val (.int .i64 (Xc x0 x1 x2 x3 x4 x5 x6))]⟩],[.row false 9 ahF x2,.row false 9 ahF x3,.row false 9 ahF x4,.row false 204 (CTy.pair CTy.str (CTy.sl (178:TypeId) afk)) x5,.row false 41 (CTy.sl (2:TypeId) agJ) x6],[.tree 41 (CTy.sl (2:Nat) agJ) (Xd x0 x1 x2 x3 x4 x5 x6) none],[Qz x0 x1 x2 x3 x4 x5 x6]⟩
 |_,_=>none
def agO:PF prog:=PF.ofG prog [PF.trees prog,QN,PF.lend QN,PF.fz QN] [] aP 62 f62 func62 (fun c _=>LOk.nil c) Wv (by
 intro vs es r h;unfold Wv at h;split at h
 ·cases h;kernel_rfl
 ·cases h)
abbrev MS:=Int×List Int×List Int×List Int×List BS3
theorem aoM{v:Int}{bs:List TM}{xs:List Int}{ss:List BS3}:Ga v bs xs ss=true↔ss.length=bs.length∧bitsB v xs=true∧ ∀ k,k < bs.length→possAt bs ss k=true:=by
 simp only [Ga,Bool.and_eq_true,beq_iff_eq,List.all_eq_true,List.mem_range]
 constructor
 ·rintro⟨h1,h2,h3⟩;exact⟨by omega,h2,h3⟩
 ·rintro⟨h1,h2,h3⟩;exact⟨by omega,h2,h3⟩
def m0:MS:=(0,[],[],[],[])
abbrev lx:=Int×Int×List (List Int)
section
variable (y0 y1:Int)(y2:List (List Int))
def mb:List Int:=Option.getD y2[Int.toNat y0]? (qA (CTy.sl (2:TypeId) agJ))
def vD:Bool:=ltI y0 (↑y2.length:Int)
def EK:Bool:=leI (0:Int) y0
def EL:Bool:=ltN y0.toNat y2.length
def EM:Bool:=leN (List.length (mb y0 y2)) (9223372036854775807:Nat)&&(leI (-1:Int) y1&&leI y1 (1048576:Int))
def zV:Bool:=ltI (szV y1 (mb y0 y2)) (0:Int)
end
def zW:Int:=(-1:Int)
def EN(y0:Int):Int:=IntKind.wrap .i64 (y0 + (1:Int))
def zX(y0 y1:Int)(y2:List (List Int)):Int:=szV y1 (mb y0 y2)
def YI:lx→List (Nat×SV)
 |(y0,y1,_)=> [(5,(.one ⟨false,[.val (.int .i64 y0)]⟩)),(0,(.one ⟨false,[.ref 0]⟩)),(1,(.one ⟨false,[.val (.int .i64 y1)]⟩))]
def Yy:lx→List (Nat×Entry)
 |(_,_,y2)=> [(0,(.row false 41 (CTy.sl (2:TypeId) agJ) y2))]
def Zl:Nat→lx→List (Nat×SV)
 |0,(_,_,_)=> [(4,(.one ⟨false,[.val (.int .i64 (zW))]⟩))]
 |_,(_,y1,_)=> [(1,(.one ⟨false,[.val (.int .i64 y1)]⟩))]
def Zb:Nat→lx→List (Nat×Entry)
 |0,(_,_,y2)=> [(0,(.row false 41 (CTy.sl (2:TypeId) agJ) y2))]
 |_,(_,_,y2)=> [(0,(.row false 41 (CTy.sl (2:TypeId) agJ) y2))]
def xW:lx→LT lx
 |(y0,y1,y2)=> .ite (vD y0 y2) (.need [EK y0,vD y0 y2,EL y0 y2,EM y0 y1 y2] (.ite (zV y0 y1 y2) (.ext 0 [(0,0)]) (.nrm ((EN y0),zX y0 y1 y2,y2) [(0,0)]))) (.ext 1 [(0,0)])
def JP(s:St):Option lx:=
 (match s.look 5 with
 |some ⟨none,.one ⟨false,[.val (.int .i64 y0)]⟩⟩=>
 (match s.look 0 with
 |some ⟨none,.one ⟨false,[.ref 0]⟩⟩=>
 (match s.look 1 with
 |some ⟨none,.one ⟨false,[.val (.int .i64 y1)]⟩⟩=>
 (match s.ent 0 with
 |some (.row false 41 (.sl 2 (.int .i64)) y2)=>
 some (y0,y1,y2)
 |_=>none)
 |_=>none)
 |_=>none)
 |_=>none)
def dq:Lp lx where
 h:=⟨[12,13,14,15,18,19,20,21,22,23,1,24,25,4,16,17,5],[0],[],[]⟩
 JL:=YI
 JE:=Yy
 XL:=Zl
 XE:=Zb
 q:=fun j=>match j with | 0=> .ret | _=> .exit 0
 tags:= [0,1]
 lt:=xW
 fuel:=fun(y0,y1,y2)=>y0.natAbs + y1.natAbs + y2.length
 fix:=fun(_,_,y2) (y0,y1,_)=>(y0,y1,y2)
 σ:= [(0,0)]
 rd:=JP
theorem Wa:LoopOk prog (fun k=>Nat.blt k Tryz.f16.ntmps) dq.F (aL f16 0):=by
 refine Lp.ok (tbl:= [CS,PF.lend CS,PF.fz CS]) (lf:= []) aP dq (by kernel_rfl) (LOk.nil _) (fun _=>rfl) (fun j _=>by unfold dq;match j with | 0=>rfl | _ + 1=>rfl) ?_ ?_ ?_ ?_ (fun _=>rfl) ?_
 ·rintro⟨y0,y1,y2⟩;kernel_rfl
 ·rintro⟨y0,y1,y2⟩;kernel_rfl
 ·intro s x h
  have h:JP s=some x:=h
  unfold JP at h
  repeat' split at h
  all_goals cases h
  exact⟨aa (by assumption) rfl (aa (by assumption) rfl (aa (by assumption) rfl (rfl))),ab rfl (by assumption) rfl (rfl)⟩
 ·rintro⟨y0,y1,y2⟩;kernel_rfl
 ·rintro⟨y0,y1,y2⟩ z;exact(And.intro (And.intro trivial rfl) trivial)
section
variable (x0:Int)(x1:List (List Int))
def Iw:Int:=IntKind.wrap .i64 (x0 - (↑x1.length:Int))
def Ix:Int×Int×List (List Int):=((0:Int),Iw x0 x1,x1)
def Pr:Int:=bif ltI (Iw x0 x1) (0:Int)then(-1:Int)else bif Nat.beq ((Lp.res dq (Ix x0 x1)).1) (0:Nat)then zW else ((Lp.res dq (Ix x0 x1)).2.2).1
def Ps:Bool:=allT [ltI (Iw x0 x1) (0:Int)||Lp.fin dq (Ix x0 x1)]
end
def Ut:List SV→List Entry→Option Out
 | [.one ⟨false,[.ref 0]⟩,.one ⟨false,[.val (.int .i64 x0)]⟩],[.row false 41 (.sl 2 (.int .i64)) x1]=>some ⟨.one ⟨false,[.val (.int .i64 (Pr x0 x1))]⟩,[.row false 41 (CTy.sl (2:TypeId) agJ) x1],[],[Ps x0 x1]⟩
 |_,_=>none
def afH:PF prog:=PF.ofG prog [CS,PF.lend CS,PF.fz CS] [dq.F] aP 16 f16 func16 (LOk.fnT (l:= [aL f16 0]) (by kernel_rfl) (.cons Wa (.nil _))) Ut (by
 intro vs es r h;unfold Ut at h;split at h
 ·cases h;kernel_rfl
 ·cases h)
abbrev lz:=Int×List (List Int)×List (List Int)
section
variable (y0:Int)(y1 y2:List (List Int))
def ua:List Int:=Option.getD y1[Int.toNat y0]? (qA (CTy.sl (2:TypeId) agJ))
def vF:Bool:=ltI y0 (↑y1.length:Int)
def vG:Bool:=leI (0:Int) y0
def Ad:Bool:=ltN y0.toNat y1.length
def Ae:Bool:=leN (List.length (ua y0 y1)) (1048576:Nat)
def Af:Bool:=ltI y0 (↑y2.length:Int)
def Ag:Bool:=ltN y0.toNat y2.length
def EO:Int:=IntKind.wrap .i64 (y0 + (1:Int))
def EP:List (List Int):=List.set y2 y0.toNat (ua y0 y1)
end
def YK:lz→List (Nat×SV)
 |(y0,_,_)=> [(4,(.one ⟨false,[.val (.int .i64 y0)]⟩)),(0,(.one ⟨false,[.ref 0]⟩)),(3,(.one ⟨false,[.ref 1]⟩))]
def YA:lz→List (Nat×Entry)
 |(_,y1,y2)=> [(0,(.row false 41 (CTy.sl (2:TypeId) agJ) y1)),(1,(.tree 41 (CTy.sl (2:Nat) agJ) y2 none))]
def Zn:Nat→lz→List (Nat×SV)
 |_,(_,_,_)=> []
def Zd:Nat→lz→List (Nat×Entry)
 |_,(_,y1,y2)=> [(0,(.row false 41 (CTy.sl (2:TypeId) agJ) y1)),(1,(.tree 41 (CTy.sl (2:Nat) agJ) y2 none))]
def xY:lz→LT lz
 |(y0,y1,y2)=> .ite (vF y0 y1) (.need [vG y0,vF y0 y1,Ad y0 y1,Ae y0 y1,vG y0,Af y0 y2,Ag y0 y2] (.nrm ((EO y0),y1,(EP y0 y1 y2)) [(0,0),(1,1)])) (.ext 0 [(0,0),(1,1)])
def JR(s:St):Option lz:=
 (match s.look 4 with
 |some ⟨none,.one ⟨false,[.val (.int .i64 y0)]⟩⟩=>
 (match s.look 0 with
 |some ⟨none,.one ⟨false,[.ref 0]⟩⟩=>
 (match s.look 3 with
 |some ⟨none,.one ⟨false,[.ref 320]⟩⟩=>
 (match s.ent 0 with
 |some (.row false 41 (.sl 2 (.int .i64)) y1)=>
 (match s.ent 320 with
 |some (.tree 41 (.sl 2 (.int .i64)) y2 none)=>
 some (y0,y1,y2)
 |_=>none)
 |_=>none)
 |_=>none)
 |_=>none)
 |_=>none)
def fj:Lp lz where
 h:=⟨[8,9,10,11,14,15,16,17,18,19,20,21,12,13,4],[0,1],[],[]⟩
 JL:=YK
 JE:=YA
 XL:=Zn
 XE:=Zd
 q:=fun j=>match j with | _=> .exit 0
 tags:= [0]
 lt:=xY
 fuel:=fun(y0,y1,y2)=>y0.natAbs + y1.length + y2.length
 fix:=fun(_,y1,_) (y0,_,y2)=>(y0,y1,y2)
 σ:= [(0,0),(1,320)]
 rd:=JR
theorem Wc:LoopOk prog (fun k=>Nat.blt k Tryz.f19.ntmps) fj.F (aL f19 0):=by
 refine Lp.ok (tbl:= [PF.trees prog,CT,PF.lend CT,PF.fz CT]) (lf:= []) aP fj (by kernel_rfl) (LOk.nil _) (fun _=>rfl) (fun _ _=>rfl) ?_ ?_ ?_ ?_ (fun _=>rfl) ?_
 ·rintro⟨y0,y1,y2⟩;kernel_rfl
 ·rintro⟨y0,y1,y2⟩;kernel_rfl
 ·intro s x h
  have h:JR s=some x:=h
  unfold JR at h
  repeat' split at h
  all_goals cases h
  exact⟨aa (by assumption) rfl (aa (by assumption) rfl (aa (by assumption) rfl (rfl))),ab rfl (by assumption) rfl (ab rfl (by assumption) rfl (rfl))⟩
 ·rintro⟨y0,y1,y2⟩;kernel_rfl
 ·rintro⟨y0,y1,y2⟩ z;exact(And.intro rfl trivial)
section
variable (x0:List (List Int))
def IE:Int×List (List Int)×List (List Int):=((0:Int),x0,List.replicate (Int.toNat (↑x0.length:Int)) [])
def Pw:List (List Int):=(Lp.res fj (IE x0)).2.2.2
def Px:Bool:=allT [leI (0:Int) (↑x0.length:Int),leI (↑x0.length:Int) (↑x0.length:Int),leI ((↑(24:Nat):Int) * (↑x0.length:Int)) (281474976710656:Int),leI (↑x0.length:Int) (9223372036854775807:Int),Lp.fin fj (IE x0)]
end
def Uw:List SV→List Entry→Option Out
 | [.one ⟨false,[.ref 0]⟩],[.row false 41 (.sl 2 (.int .i64)) x0]=>some ⟨.one ⟨false,[.ref 1]⟩,[.row false 41 (CTy.sl (2:TypeId) agJ) x0],[.tree 41 (CTy.sl (2:Nat) agJ) (Pw x0) none],[Px x0]⟩
 |_,_=>none
def afJ:PF prog:=PF.ofG prog [PF.trees prog,CT,PF.lend CT,PF.fz CT] [fj.F] aP 19 f19 func19 (LOk.fnT (l:= [aL f19 0]) (by kernel_rfl) (.cons Wc (.nil _))) Uw (by
 intro vs es r h;unfold Uw at h;split at h
 ·cases h;kernel_rfl
 ·cases h)
abbrev lu:=Int×List (List Int)×List (List Int)
section
variable (y0:Int)(y1 y2:List (List Int))
def tR:List Int:=Option.getD y1[Int.toNat y0]? (qA (CTy.sl (2:TypeId) agJ))
def vv:Bool:=ltI y0 (↑y1.length:Int)
def vz:Bool:=leI (0:Int) y0
def zx:Bool:=ltN y0.toNat y1.length
def zy:Bool:=ltI y0 (↑y2.length:Int)
def zA:Bool:=ltN y0.toNat y2.length
def zB:Bool:=leN (List.length (tR y0 y1)) (9223372036854775807:Nat)
def zC:Bool:= !eqL (tR y0 y1) (Option.getD y2[Int.toNat y0]? (qA (CTy.sl (2:TypeId) agJ)))
def zD:Int:=IntKind.wrap .i64 (y0 + (1:Int))
end
def YE:lu→List (Nat×SV)
 |(y0,_,_)=> [(5,(.one ⟨false,[.val (.int .i64 y0)]⟩)),(0,(.one ⟨false,[.ref 0]⟩)),(1,(.one ⟨false,[.ref 1]⟩))]
def Yu:lu→List (Nat×Entry)
 |(_,y1,y2)=> [(0,(.row false 41 (CTy.sl (2:TypeId) agJ) y1)),(1,(.row false 41 (CTy.sl (2:TypeId) agJ) y2))]
def Zh:Nat→lu→List (Nat×SV)
 |0,(_,_,_)=> [(4,(.one ⟨false,[.val (.bool false)]⟩))]
 |_,(_,_,_)=> []
def YX:Nat→lu→List (Nat×Entry)
 |0,(_,y1,y2)=> [(0,(.row false 41 (CTy.sl (2:TypeId) agJ) y1)),(1,(.row false 41 (CTy.sl (2:TypeId) agJ) y2))]
 |_,(_,y1,y2)=> [(0,(.row false 41 (CTy.sl (2:TypeId) agJ) y1)),(1,(.row false 41 (CTy.sl (2:TypeId) agJ) y2))]
def xS:lu→LT lu
 |(y0,y1,y2)=> .ite (vv y0 y1) (.need [vz y0,vv y0 y1,zx y0 y1,vz y0,zy y0 y2,zA y0 y2,zB y0 y1] (.ite (zC y0 y1 y2) (.ext 0 [(0,0),(1,1)]) (.nrm ((zD y0),y1,y2) [(0,0),(1,1)]))) (.ext 1 [(0,0),(1,1)])
def JK(s:St):Option lu:=
 (match s.look 5 with
 |some ⟨none,.one ⟨false,[.val (.int .i64 y0)]⟩⟩=>
 (match s.look 0 with
 |some ⟨none,.one ⟨false,[.ref 0]⟩⟩=>
 (match s.look 1 with
 |some ⟨none,.one ⟨false,[.ref 1]⟩⟩=>
 (match s.ent 0 with
 |some (.row false 41 (.sl 2 (.int .i64)) y1)=>
 (match s.ent 1 with
 |some (.row false 41 (.sl 2 (.int .i64)) y2)=>
 some (y0,y1,y2)
 |_=>none)
 |_=>none)
 |_=>none)
 |_=>none)
 |_=>none)
def eo:Lp lu where
 h:=⟨[11,12,13,14,17,18,19,20,21,22,23,24,25,26,4,15,16,5],[0,1],[],[]⟩
 JL:=YE
 JE:=Yu
 XL:=Zh
 XE:=YX
 q:=fun j=>match j with | 0=> .ret | _=> .exit 0
 tags:= [0,1]
 lt:=xS
 fuel:=fun(y0,y1,y2)=>y0.natAbs + y1.length + y2.length
 fix:=fun(_,y1,y2) (y0,_,_)=>(y0,y1,y2)
 σ:= [(0,0),(1,1)]
 rd:=JK
theorem VW:LoopOk prog (fun k=>Nat.blt k Tryz.f21.ntmps) eo.F (aL f21 0):=by
 refine Lp.ok (tbl:= [CR,PF.lend CR,PF.fz CR]) (lf:= []) aP eo (by kernel_rfl) (LOk.nil _) (fun _=>rfl) (fun j _=>by unfold eo;match j with | 0=>rfl | _ + 1=>rfl) ?_ ?_ ?_ ?_ (fun _=>rfl) ?_
 ·rintro⟨y0,y1,y2⟩;kernel_rfl
 ·rintro⟨y0,y1,y2⟩;kernel_rfl
 ·intro s x h
  have h:JK s=some x:=h
  unfold JK at h
  repeat' split at h
  all_goals cases h
  exact⟨aa (by assumption) rfl (aa (by assumption) rfl (aa (by assumption) rfl (rfl))),ab rfl (by assumption) rfl (ab rfl (by assumption) rfl (rfl))⟩
 ·rintro⟨y0,y1,y2⟩;kernel_rfl
 ·rintro⟨y0,y1,y2⟩ z;exact(And.intro (And.intro trivial rfl) trivial)
section
variable (x0 x1:List (List Int))
def Im:Bool:=(↑x0.length:Int)!=(↑x1.length:Int)
def Io:Int×List (List Int)×List (List Int):=((0:Int),x0,x1)
def Kd:Bool:=bif Im x0 x1 then false else bif Nat.beq ((Lp.res eo (Io x0 x1)).1) (0:Nat)then false else true
def Ke:Bool:=allT [Im x0 x1||Lp.fin eo (Io x0 x1)]
end
def Uo:List SV→List Entry→Option Out
 | [.one ⟨false,[.ref 0]⟩,.one ⟨false,[.ref 1]⟩],[.row false 41 (.sl 2 (.int .i64)) x0,.row false 41 (.sl 2 (.int .i64)) x1]=>some ⟨.one ⟨false,[.val (.bool (Kd x0 x1))]⟩,[.row false 41 (CTy.sl (2:TypeId) agJ) x0,.row false 41 (CTy.sl (2:TypeId) agJ) x1],[],[Ke x0 x1]⟩
 |_,_=>none
def afE:PF prog:=PF.ofG prog [CR,PF.lend CR,PF.fz CR] [eo.F] aP 21 f21 func21 (LOk.fnT (l:= [aL f21 0]) (by kernel_rfl) (.cons VW (.nil _))) Uo (by
 intro vs es r h;unfold Uo at h;split at h
 ·cases h;kernel_rfl
 ·cases h)
abbrev jF:=Int×Int×List (List Int)
section
variable (y0 y1:Int)(y2:List (List Int))
def sJ:Bool:=ltI y0 (↑y2.length:Int)
def wh:Bool:=leI (0:Int) y0
def wi:Bool:=ltN y0.toNat y2.length
def sK:Bool:=abg y1 (List.length (Option.getD y2[Int.toNat y0]? (qA (CTy.sl (2:TypeId) agJ))))
def wj:Int:=IntKind.wrap .i64 (y0 + (1:Int))
def wk:Int:=y1 + (↑(List.length (Option.getD y2[Int.toNat y0]? (qA (CTy.sl (2:TypeId) agJ)))):Int)
def wl:List (List Int):=List.set y2 y0.toNat (AF y1 (List.length (Option.getD y2[Int.toNat y0]? (qA (CTy.sl (2:TypeId) agJ)))))
end
def Vy:jF→List (Nat×SV)
 |(y0,y1,_)=> [(5,(.one ⟨false,[.val (.int .i64 y0)]⟩)),(0,(.one ⟨false,[.ref 0]⟩)),(1,(.one ⟨false,[.val (.int .i64 y1)]⟩))]
def Vu:jF→List (Nat×Entry)
 |(_,_,y2)=> [(0,(.tree 41 (CTy.sl (2:TypeId) agJ) y2 none))]
def VG:Nat→jF→List (Nat×SV)
 |_,(_,y1,_)=> [(1,(.one ⟨false,[.val (.int .i64 y1)]⟩))]
def VC:Nat→jF→List (Nat×Entry)
 |_,(_,_,y2)=> [(0,(.tree 41 (CTy.sl (2:TypeId) agJ) y2 none))]
def uT:jF→LT jF
 |(y0,y1,y2)=> .ite (sJ y0 y2) (.need [wh y0,sJ y0 y2,wi y0 y2,sK y0 y1 y2] (.nrm ((wj y0),wk y0 y1 y2,(wl y0 y1 y2)) [(0,0)])) (.ext 0 [(0,0)])
def GS(s:St):Option jF:=
 (match s.look 5 with
 |some ⟨none,.one ⟨false,[.val (.int .i64 y0)]⟩⟩=>
 (match s.look 0 with
 |some ⟨none,.one ⟨false,[.ref 0]⟩⟩=>
 (match s.look 1 with
 |some ⟨none,.one ⟨false,[.val (.int .i64 y1)]⟩⟩=>
 (match s.ent 0 with
 |some (.tree 41 (.sl 2 (.int .i64)) y2 none)=>
 some (y0,y1,y2)
 |_=>none)
 |_=>none)
 |_=>none)
 |_=>none)
def dB:Lp jF where
 h:=⟨[6,7,8,9,12,13,14,15,16,17,1,10,11,5],[0],[],[]⟩
 JL:=Vy
 JE:=Vu
 XL:=VG
 XE:=VC
 q:=fun j=>match j with | _=> .exit 0
 tags:= [0]
 lt:=uT
 fuel:=fun(y0,y1,y2)=>y0.natAbs + y1.natAbs + y2.length
 fix:=fun(_,_,_) (y0,y1,y2)=>(y0,y1,y2)
 σ:= [(0,0)]
 rd:=GS
theorem TY:LoopOk prog (fun k=>Nat.blt k Tryz.f24.ntmps) dB.F (aL f24 0):=by
 refine Lp.ok (tbl:= [PF.trees prog,zj,PF.lend zj,PF.fz zj]) (lf:= []) aP dB (by kernel_rfl) (LOk.nil _) (fun _=>rfl) (fun _ _=>rfl) ?_ ?_ ?_ ?_ (fun _=>rfl) ?_
 ·rintro⟨y0,y1,y2⟩;kernel_rfl
 ·rintro⟨y0,y1,y2⟩;kernel_rfl
 ·intro s x h
  have h:GS s=some x:=h
  unfold GS at h
  repeat' split at h
  all_goals cases h
  exact⟨aa (by assumption) rfl (aa (by assumption) rfl (aa (by assumption) rfl (rfl))),ab rfl (by assumption) rfl (rfl)⟩
 ·rintro⟨y0,y1,y2⟩;kernel_rfl
 ·rintro⟨y0,y1,y2⟩ z;exact(And.intro rfl trivial)
section
variable (x0:Int)(x1:List (List Int))
def zJ:Int×Int×List (List Int):=((0:Int),x0,x1)
def zK:Int×List (List Int):=(Lp.res dB (zJ x0 x1)).2.2
def BA:Int:=(zK x0 x1).1
def BB:List (List Int):=(zK x0 x1).2
def BC:Bool:=allT [Lp.fin dB (zJ x0 x1)]
end
def RD:List SV→List Entry→Option Out
 | [.one ⟨false,[.ref 0]⟩,.one ⟨false,[.val (.int .i64 x0)]⟩],[.tree 41 (.sl 2 (.int .i64)) x1 none]=>some ⟨.one ⟨false,[.val (.int .i64 (BA x0 x1))]⟩,[.tree 41 (CTy.sl (2:TypeId) agJ) (BB x0 x1) none],[],[BC x0 x1]⟩
 |_,_=>none
def adc:PF prog:=PF.ofG prog [PF.trees prog,zj,PF.lend zj,PF.fz zj] [dB.F] aP 24 f24 func24 (LOk.fnT (l:= [aL f24 0]) (by kernel_rfl) (.cons TY (.nil _))) RD (by
 intro vs es r h;unfold RD at h;split at h
 ·cases h;kernel_rfl
 ·cases h)
abbrev jE:=Int×Int×List (List Int)
section
variable (y0 y1:Int)(y2:List (List Int))
def jV:List Int:=Option.getD y2[Int.toNat y0]? (qA (CTy.sl (2:TypeId) agJ))
def sI:Bool:=ltI y0 (↑y2.length:Int)
def CB:Bool:=leI (0:Int) y0
def CC:Bool:=ltN y0.toNat y2.length
def CD:Bool:=leN (List.length (jV y0 y2)) (9223372036854775807:Nat)
def wd:Bool:=ltI (UV y1 (jV y0 y2)) (0:Int)
end
def we:Int:=(-1:Int)
def CE(y0:Int):Int:=IntKind.wrap .i64 (y0 + (1:Int))
def wg(y0 y1:Int)(y2:List (List Int)):Int:=UV y1 (jV y0 y2)
def Vx:jE→List (Nat×SV)
 |(y0,y1,_)=> [(5,(.one ⟨false,[.val (.int .i64 y0)]⟩)),(0,(.one ⟨false,[.ref 0]⟩)),(1,(.one ⟨false,[.val (.int .i64 y1)]⟩))]
def Vt:jE→List (Nat×Entry)
 |(_,_,y2)=> [(0,(.row false 41 (CTy.sl (2:TypeId) agJ) y2))]
def VF:Nat→jE→List (Nat×SV)
 |0,(_,_,_)=> [(4,(.one ⟨false,[.val (.int .i64 (we))]⟩))]
 |_,(_,y1,_)=> [(1,(.one ⟨false,[.val (.int .i64 y1)]⟩))]
def VB:Nat→jE→List (Nat×Entry)
 |0,(_,_,y2)=> [(0,(.row false 41 (CTy.sl (2:TypeId) agJ) y2))]
 |_,(_,_,y2)=> [(0,(.row false 41 (CTy.sl (2:TypeId) agJ) y2))]
def uR:jE→LT jE
 |(y0,y1,y2)=> .ite (sI y0 y2) (.need [CB y0,sI y0 y2,CC y0 y2,CD y0 y2] (.ite (wd y0 y1 y2) (.ext 0 [(0,0)]) (.nrm ((CE y0),wg y0 y1 y2,y2) [(0,0)]))) (.ext 1 [(0,0)])
def GR(s:St):Option jE:=
 (match s.look 5 with
 |some ⟨none,.one ⟨false,[.val (.int .i64 y0)]⟩⟩=>
 (match s.look 0 with
 |some ⟨none,.one ⟨false,[.ref 0]⟩⟩=>
 (match s.look 1 with
 |some ⟨none,.one ⟨false,[.val (.int .i64 y1)]⟩⟩=>
 (match s.ent 0 with
 |some (.row false 41 (.sl 2 (.int .i64)) y2)=>
 some (y0,y1,y2)
 |_=>none)
 |_=>none)
 |_=>none)
 |_=>none)
def cN:Lp jE where
 h:=⟨[6,7,8,9,12,13,14,15,16,17,1,18,19,4,10,11,5],[0],[],[]⟩
 JL:=Vx
 JE:=Vt
 XL:=VF
 XE:=VB
 q:=fun j=>match j with | 0=> .ret | _=> .exit 0
 tags:= [0,1]
 lt:=uR
 fuel:=fun(y0,y1,y2)=>y0.natAbs + y1.natAbs + y2.length
 fix:=fun(_,_,y2) (y0,y1,_)=>(y0,y1,y2)
 σ:= [(0,0)]
 rd:=GR
theorem TX:LoopOk prog (fun k=>Nat.blt k Tryz.f25.ntmps) cN.F (aL f25 0):=by
 refine Lp.ok (tbl:= [zi,PF.lend zi,PF.fz zi]) (lf:= []) aP cN (by kernel_rfl) (LOk.nil _) (fun _=>rfl) (fun j _=>by unfold cN;match j with | 0=>rfl | _ + 1=>rfl) ?_ ?_ ?_ ?_ (fun _=>rfl) ?_
 ·rintro⟨y0,y1,y2⟩;kernel_rfl
 ·rintro⟨y0,y1,y2⟩;kernel_rfl
 ·intro s x h
  have h:GR s=some x:=h
  unfold GR at h
  repeat' split at h
  all_goals cases h
  exact⟨aa (by assumption) rfl (aa (by assumption) rfl (aa (by assumption) rfl (rfl))),ab rfl (by assumption) rfl (rfl)⟩
 ·rintro⟨y0,y1,y2⟩;kernel_rfl
 ·rintro⟨y0,y1,y2⟩ z;exact(And.intro (And.intro trivial rfl) trivial)
section
variable (x0:Int)(x1:List (List Int))
def EH:Int×Int×List (List Int):=((0:Int),x0,x1)
def Mo:Int:=bif Nat.beq ((Lp.res cN (EH x0 x1)).1) (0:Nat)then we else ((Lp.res cN (EH x0 x1)).2.2).1
def Mp:Bool:=allT [Lp.fin cN (EH x0 x1)]
end
def RC:List SV→List Entry→Option Out
 | [.one ⟨false,[.ref 0]⟩,.one ⟨false,[.val (.int .i64 x0)]⟩],[.row false 41 (.sl 2 (.int .i64)) x1]=>some ⟨.one ⟨false,[.val (.int .i64 (Mo x0 x1))]⟩,[.row false 41 (CTy.sl (2:TypeId) agJ) x1],[],[Mp x0 x1]⟩
 |_,_=>none
def adb:PF prog:=PF.ofG prog [zi,PF.lend zi,PF.fz zi] [cN.F] aP 25 f25 func25 (LOk.fnT (l:= [aL f25 0]) (by kernel_rfl) (.cons TX (.nil _))) RC (by
 intro vs es r h;unfold RC at h;split at h
 ·cases h;kernel_rfl
 ·cases h)
def xh(ll:List (List Int)):Nat:=(ll.map List.length).sum
def Rw:Int→List (List Int)→List (List Int)
 |_,[]=> []
 |k,l::r=>AF k l.length::Rw (k + l.length) r
def amJ:Int→List (List Int)→Int
 |k,[]=>k
 |k,l::r=>bif ltI (szV k l) 0 then -1 else amJ (szV k l) r
def amO(k:Int)(ll:List (List Int)):Int:=bif ltI (k - ll.length) 0 then -1 else amJ (k - ll.length) ll
def VR(xs ys:List (List Int)):Bool:=decide (xs=ys)
theorem anv(xs:List (List Int)):VR xs xs=true:=by simp [VR]
theorem alC(a b:List (List Int)):xh (a++b)=xh a + xh b:=by simp [xh]
theorem agD: ∀ (a b:List (List Int)) (k:Int),Rw k (a++b)=Rw k a++Rw (k + xh a) b
 | [],b,k=>by simp [Rw,xh]
 |l::a,b,k=>by
  simp only [List.cons_append,Rw,agD a b]
  congr 3
  simp [xh];omega
theorem aaf: ∀ (a:List (List Int)) (k:Int),(Rw k a).length=a.length
 | [],_=>rfl
 |l::a,k=>by simp [Rw,aaf a]
theorem aps{x:List Int}{xs:List (List Int)}(h:x∈xs):x.length≤xh xs:=by
 induction xs with
 |nil=>cases h
 |cons l r ih=>
  simp only [xh,List.map_cons,List.sum_cons]
  rcases List.mem_cons.1 h with rfl | h
  ·omega
  ·have:=ih h;simp only [xh]at this;omega
theorem anm: ∀ (a:List (List Int)) (k:Int),xh (Rw k a)=xh a
 | [],_=>rfl
 |l::a,k=>by
  have:=anm a (k + l.length)
  simp only [xh]at this
  simp [Rw,xh,Qh,this]
theorem aiu: ∀ (r:List (List Int)) (k:Int),ltI (amJ k r) 0=false→(xh r:Int)≤k
 | [],k,h=>by simp [xh];have:=uQ.1 h;simpa [amJ] using this
 |l::r,k,h=>by
  simp only [amJ]at h
  cases h1:ltI (szV k l) 0 with
  |true=>rw [h1]at h;simp at h
  |false=>
   rw [h1,cond_false]at h
   have h2:=aiu r _ h
   have h3:szV k l=k - l.length:=by
    simp only [szV]at h1 ⊢
    cases h4:ltI (k - (l.length:Int)) 0 with
    |true=>rw [h4]at h1;simp at h1
    |false=>rfl
   rw [h3]at h2
   simp [xh]at h2 ⊢;omega
theorem amP{k:Int}{ll:List (List Int)}(h:ltI (amO k ll) 0=false):(ll.length:Int) + xh ll≤k:=by
 simp only [amO]at h
 cases h1:ltI (k - (ll.length:Int)) 0 with
 |true=>rw [h1]at h;simp at h
 |false=>
  rw [h1,cond_false]at h
  have:=aiu _ _ h
  omega
theorem ank{m:Nat}{ll:List (List Int)}(h1:ll.length≤m)(h2:xh ll≤m):SM m ll=true:=
 Wq.2 ⟨h1,fun x hx=>Nat.le_trans (aps hx) h2⟩
theorem apz{m:Nat}{xs:List (List Int)}(h: ∀ x∈xs,x.length≤m)(b:Nat):((xs[b]?).getD []).length≤m:=by
 cases hb:xs[b]? with
 |none=>simp
 |some x=>simpa using h x (List.mem_of_getElem? hb)
theorem alG{f:Nat→Int×List (List Int)→Nat ⊕ (Int×List (List Int))}{e:Nat}(hf: ∀ b k xs,f b (k,xs)= .inr (k + (((xs[b]?).getD []).length:Int),xs.set b (AF k ((xs[b]?).getD []).length)))(xs:List (List Int))(k:Int):
  af f e (List.range xs.length) 0 (k,xs)=(e,xs.length,(k + xh xs,Rw k xs)):=by
 rw [TC (g:=fun a b=>(a.1 + (((a.2[b]?).getD []).length:Int),a.2.set b (AF a.1 ((a.2[b]?).getD []).length))) (fun b a=>hf b a.1 a.2)]
 have iY: ∀ (n:Nat),n≤xs.length→(List.range n).foldl (fun(a:Int×List (List Int)) b=>(a.1 + (((a.2[b]?).getD []).length:Int),a.2.set b (AF a.1 ((a.2[b]?).getD []).length))) (k,xs)=(k + xh (xs.take n),Rw k (xs.take n)++xs.drop n):=by
  intro n
  induction n with
  |zero=>intro _;simp [xh,Rw]
  |succ n ih=>
   intro hn
   rw [List.range_succ,List.foldl_append,ih (by omega)]
   have hl:(Rw k (xs.take n)).length=n:=by rw [aaf,List.length_take];omega
   have hg:(Rw k (xs.take n)++xs.drop n)[n]? =some (xs[n]'(by omega)):=by
    rw [List.getElem?_append_right (by omega),hl,Nat.sub_self,List.getElem?_drop,Nat.add_zero,List.getElem?_eq_getElem (by omega)]
   have ht:xs.take (n + 1)=xs.take n++ [xs[n]'(by omega)]:=by rw [List.take_succ_eq_append_getElem (by omega)]
   simp only [List.foldl_cons,List.foldl_nil,hg,Option.getD_some,ht,alC,agD,Prod.mk.injEq]
   refine⟨by simp [xh];omega,?_⟩
   have h3:xs.drop n=xs[n]'(by omega)::xs.drop (n + 1):=by rw [List.drop_eq_getElem_cons (by omega)]
   rw [List.set_append_right _ _ (by omega),hl,Nat.sub_self,h3,List.set_cons_zero]
   simp only [Rw,List.append_assoc,List.cons_append,List.nil_append]
 rw [iY xs.length (Nat.le_refl _)]
 simp
def rY(y1:List (List Int))(b:Nat):(List (List Int))→Nat ⊕ (List (List Int))
 |y2=>(.inr (List.set y2 b (Option.getD y1[b]? (qA (CTy.sl (2:TypeId) agJ)))))
def oA(y1:List (List Int))(i:Nat):(List (List Int))→lz
 |y2=>((i:Int),y1,y2)
def JH:lz→List (List Int)
 |(_,_,y2)=>y2
theorem abo(y1 y2:List (List Int))(hn:y1.length≤9223372036854775807)(hl:y2.length=y1.length)(hA: ∀ x∈y1,x.length≤1048576):
  fj.fin ((0:Int),y1,y2)=true∧fj.res ((0:Int),y1,y2)=((af (rY y1) 0 (List.range y1.length) 0 y2).1,(oA y1) (af (rY y1) 0 (List.range y1.length) 0 y2).2.1 (af (rY y1) 0 (List.range y1.length) 0 y2).2.2):=by
 have iY:=fj.along (oA y1) JH (rY y1) 0 (fun _ a=>a.length=y1.length) (List.range y1.length) y2 hl (by simp only [fj,oA,List.length_range];omega) (fun i b a hb hI=> ?_) (fun a hI=> ?_)
 ·exact iY
 ·obtain y2:=a
  obtain⟨rfl,eB⟩:=oC hb
  have hw:IntKind.i64.wrap ((b:Int) + 1)=((b + 1:Nat):Int):=by rw [bc (by omega) (by omega)];omega
  have bW:ltI (b:Int) (y1.length:Int)=true:=et (by omega)
  have vL:leI (0:Int) (b:Int)=true:=bv (by omega)
  have im:ltN b y1.length=true:=gu (by omega)
  refine⟨?_,?_,?_,?_⟩
  ·have h6:Ae (b:Int) y1=true:=dm (by simp only [ua,Int.toNat_natCast];exact apz hA b)
   simp [vF,vG,Ad,Af,Ag,xY,fj,LT.nds,allT,oA,bW,vL,im,hI,h6]
  ·simp [ua,vF,vG,Ad,Ae,Af,Ag,EO,EP,xY,fj,LT.each,oA,JH,hw,hI]
  ·simp only [ua,vF,vG,Ad,Ae,Af,Ag,EO,EP,xY,fj,LT.fn,oA,JH,rY,Int.toNat_natCast,bW,cond_true]
  ·intro a' hf;simp only [rY,Sum.inr.injEq]at hf;subst hf;simpa using hI
 ·obtain y2:=a
  simp [ua,vF,vG,Ad,Ae,Af,Ag,EO,EP,xY,fj,LT.out,oA,List.length_range]
def zt(y1 y2:List (List Int))(b:Nat):(Unit)→Nat ⊕ (Unit)
 |_=>(bif(!eqL (Option.getD y1[b]? (qA (CTy.sl (2:TypeId) agJ))) (Option.getD y2[b]? (qA (CTy.sl (2:TypeId) agJ))))then(.inl 0)else(.inr ()))
def re(y1 y2:List (List Int))(i:Nat):(Unit)→lu
 |_=>((i:Int),y1,y2)
def JB:lu→Unit
 |(_,_,_)=>()
theorem abj(y1 y2:List (List Int)) (hn:y1.length≤9223372036854775807) (he:y2.length=y1.length) (hA: ∀ x∈y1,x.length≤9223372036854775807):
  eo.fin ((0:Int),y1,y2)=true∧eo.res ((0:Int),y1,y2)=((af (zt y1 y2) 1 (List.range y1.length) 0 ()).1,(re y1 y2) (af (zt y1 y2) 1 (List.range y1.length) 0 ()).2.1 (af (zt y1 y2) 1 (List.range y1.length) 0 ()).2.2):=by
 have iY:=eo.along (re y1 y2) JB (zt y1 y2) 1 (fun _ _=>True) (List.range y1.length) () (by trivial) (by simp only [eo,re,List.length_range];omega) (fun i b a hb hI=> ?_) (fun a hI=> ?_)
 ·exact iY
 ·obtain⟨⟩:=a
  obtain⟨rfl,eB⟩:=oC hb
  have hw:IntKind.i64.wrap ((b:Int) + 1)=((b + 1:Nat):Int):=by rw [bc (by omega) (by omega)];omega
  have bW:ltI (b:Int) (y1.length:Int)=true:=et (by omega)
  have vL:leI (0:Int) (b:Int)=true:=bv (by omega)
  have im:ltN b y1.length=true:=gu (by omega)
  refine⟨?_,?_,?_,?_⟩
  ·have h6:zB (b:Int) y1=true:=dm (by simp only [tR,Int.toNat_natCast];exact apz hA b)
   simp [vv,vz,zx,zy,zA,zC,zD,xS,eo,LT.nds,allT,re,bW,vL,im,he,h6]
  ·simp [tR,vv,vz,zx,zy,zA,zB,zC,zD,xS,eo,LT.each,re,JB,hw,he]
  ·simp only [tR,vv,vz,zx,zy,zA,zB,zC,zD,xS,eo,LT.fn,re,JB,zt,Int.toNat_natCast,bW,cond_true]
  ·exact fun _ _=>trivial
 ·obtain⟨⟩:=a
  simp [tR,vv,vz,zx,zy,zA,zB,zC,zD,xS,eo,LT.out,re,List.length_range]
def pK(b:Nat):(Int×List (List Int))→Nat ⊕ (Int×List (List Int))
 |(y1,y2)=>(.inr ((y1 + (↑(List.length (Option.getD y2[b]? (qA (CTy.sl (2:TypeId) agJ)))):Int)),(List.set y2 b (AF y1 (List.length (Option.getD y2[b]? (qA (CTy.sl (2:TypeId) agJ))))))))
def jY(i:Nat):(Int×List (List Int))→jF
 |(y1,y2)=>((i:Int),y1,y2)
def GQ:jF→Int×List (List Int)
 |(_,y1,y2)=>(y1,y2)
theorem Ya(y1:Int)(y2:List (List Int))(n:Nat)(hl:y2.length=n)(hn:n≤9223372036854775807)(h1:0≤y1)(h2:y1 + xh y2≤9223372036854775807):
  dB.fin ((0:Int),y1,y2)=true∧dB.res ((0:Int),y1,y2)=((af (pK) 0 (List.range n) 0 (y1,y2)).1,(jY) (af (pK) 0 (List.range n) 0 (y1,y2)).2.1 (af (pK) 0 (List.range n) 0 (y1,y2)).2.2):=by
 have iY:=dB.along (jY) GQ (pK) 0 (fun i a=>a.2.length=n∧0≤a.1∧a.1 + xh (a.2.drop i)≤9223372036854775807) (List.range n) (y1,y2) ⟨hl,h1,by simpa using h2⟩ (by simp only [dB,jY,List.length_range];omega) (fun i b a hb hI=> ?_) (fun a hI=> ?_)
 ·exact iY
 ·obtain⟨y1,y2⟩:=a
  obtain⟨rfl,eB⟩:=oC hb
  have hI0:y2.length=n:=hI.1
  have hw:IntKind.i64.wrap ((b:Int) + 1)=((b + 1:Nat):Int):=by rw [bc (by omega) (by omega)];omega
  have bW:ltI (b:Int) (y2.length:Int)=true:=et (by omega)
  have vL:leI (0:Int) (b:Int)=true:=bv (by omega)
  have im:ltN b y2.length=true:=gu (by omega)
  refine⟨?_,?_,?_,?_⟩
  ·have hd:y2.drop b=y2[b]'(by omega)::y2.drop (b + 1):=by rw [List.drop_eq_getElem_cons (by omega)]
   have hg:y2[b]? =some (y2[b]'(by omega)):=List.getElem?_eq_getElem (by omega)
   have hk:=hI.2
   have h6:sK (b:Int) y1 y2=true:=by
    simp only [sK,Int.toNat_natCast,hg]
    show abg y1 (y2[b]'(by omega)).length=true
    refine Oh.2 ⟨hk.1,?_⟩
    have:=hk.2
    simp only [hd,xh,List.map_cons,List.sum_cons]at this
    omega
   simp [sJ,wh,wi,wj,wk,wl,uT,dB,LT.nds,allT,jY,bW,vL,im,h6]
  ·simp [sJ,wh,wi,sK,wj,wk,wl,uT,dB,LT.each,jY,GQ,hw]
  ·simp only [sJ,wh,wi,sK,wj,wk,wl,uT,dB,LT.fn,jY,GQ,pK,Int.toNat_natCast,bW,vL,im,cond_true,Bool.cond_self]
  ·have hd:y2.drop b=y2[b]'(by omega)::y2.drop (b + 1):=by rw [List.drop_eq_getElem_cons (by omega)]
   have hg:y2[b]? =some (y2[b]'(by omega)):=List.getElem?_eq_getElem (by omega)
   have hk:=hI.2
   intro a' hf;simp only [pK,Sum.inr.injEq,hg]at hf
   have hf:(y1 + ((y2[b]'(by omega)).length:Int),y2.set b (AF y1 (y2[b]'(by omega)).length))=a':=hf
   subst hf
   have:=hk.2
   simp only [hd,xh,List.map_cons,List.sum_cons]at this
   refine⟨by simp [hI0],by have:=hk.1;simp only;omega,?_⟩
   simp only [List.drop_set_of_lt (show b < b + 1 by omega),xh]
   omega
 ·obtain⟨y1,y2⟩:=a
  have hI0:y2.length=n:=hI.1
  simp [sJ,wh,wi,sK,wj,wk,wl,uT,dB,LT.out,jY,hI0,List.length_range]
def rX(b:List Int):(Int)→Nat ⊕ (Int)
 |y1=>(bif(ltI (szV y1 b) (0:Int))then(.inl 0)else(.inr (szV y1 b)))
def oy(y2:List (List Int))(i:Nat):(Int)→lx
 |y1=>((i:Int),y1,y2)
def JF:lx→Int
 |(_,y1,_)=>y1
theorem abm(y2:List (List Int))(y1:Int)(hn:y2.length≤9223372036854775807)(hA: ∀ x∈y2,x.length≤9223372036854775807)(h1:0≤y1∧y1≤1048576):
  dq.fin ((0:Int),y1,y2)=true∧dq.res ((0:Int),y1,y2)=((af (rX) 1 y2 0 y1).1,(oy y2) (af (rX) 1 y2 0 y1).2.1 (af (rX) 1 y2 0 y1).2.2):=by
 have iY:=dq.along (oy y2) JF (rX) 1 (fun _ a=>0≤a∧a≤1048576) y2 y1 h1 (by simp only [dq,oy];omega) (fun i b a hb hI=> ?_) (fun a hI=> ?_)
 ·exact iY
 ·obtain y1:=a
  have eB:=(List.getElem?_eq_some_iff.1 hb).1
  have gZ: ∀ d,Option.getD y2[i]? d=b:=fun d=>by rw [hb];rfl
  have hw:=sX eB hn
  have bW:ltI (i:Int) (y2.length:Int)=true:=et (by omega)
  have vL:leI (0:Int) (i:Int)=true:=bv (by omega)
  have im:ltN i y2.length=true:=gu eB
  refine⟨?_,?_,?_,?_⟩
  ·have hg2:mb (i:Int) y2=b:=by simp only [mb,Int.toNat_natCast];exact gZ _
   have h6:leN b.length 9223372036854775807=true:=dm (hA b (List.mem_of_getElem? hb))
   have h7:leI (-1) a=true:=bv (by omega)
   have h8:leI a 1048576=true:=bv (by omega)
   simp [vD,EK,EL,EM,zV,EN,zX,xW,dq,LT.nds,allT,oy,bW,vL,im,hg2,h6,h7,h8]
  ·simp [mb,vD,EK,EL,EM,zV,zW,EN,zX,xW,dq,LT.each,oy,JF,hw]
  ·have hg2:mb (i:Int) y2=b:=by simp only [mb,Int.toNat_natCast];exact gZ _
   simp only [vD,zV,zX,xW,dq,LT.fn,oy,JF,rX,Int.toNat_natCast,bW,hg2,cond_true]
  ·intro a' hf
   simp only [rX]at hf
   cases h9:ltI (szV a b) 0 with
   |true=>rw [h9]at hf;cases hf
   |false=>
    rw [h9]at hf;cases hf
    refine⟨uQ.1 h9,?_⟩
    simp only [szV]
    cases ltI (a - (b.length:Int)) 0 <;> simp <;> omega
 ·obtain y1:=a
  simp [mb,vD,EK,EL,EM,zV,zW,EN,zX,xW,dq,LT.out,oy]
theorem ann{f:List Int→Int→Nat ⊕ Int}(hf: ∀ l k,f l k=bif ltI (szV k l) 0 then .inl 0 else .inr (szV k l)): ∀ (r:List (List Int)) (i:Nat) (k:Int),0≤k→
  (bif Nat.beq (af f 1 r i k).1 0 then(-1:Int)else(af f 1 r i k).2.2)=amJ k r
 | [],i,k,_=>rfl
 |l::r,i,k,hk=>by
  simp only [af,hf,amJ]
  cases h:ltI (szV k l) 0 with
  |true=>rfl
  |false=>exact ann hf r (i + 1) _ (uQ.1 h)
theorem app(k:Int)(xs:List (List Int))(h:(SM 9223372036854775807 xs&&(leI (-1) k&&leI k 1048576))=true):Pr k xs=amO k xs∧Ps k xs=true:=by
 simp only [Bool.and_eq_true,DR]at h
 obtain⟨h1,h2,h3⟩:=h
 obtain⟨hn,hA⟩:=Wq.1 h1
 have hw:IntKind.i64.wrap (k - (xs.length:Int))=k - (xs.length:Int):=bc (by omega) (by omega)
 simp only [Pr,Ps,Iw,Ix,zW,hw,amO,allT]
 cases hq:ltI (k - (xs.length:Int)) 0 with
 |true=>simp
 |false=>
  have hq':=uQ.1 hq
  obtain⟨w1,w2⟩:=abm xs (k - (xs.length:Int)) hn hA (by omega)
  simp only [w1,w2,cond_false,oy,Bool.or_true,cond_true]
  exact⟨ann (f:=rX) (fun l k=>rfl) xs 0 _ hq',trivial⟩
theorem apr(xs:List (List Int))(h:SM 1048576 xs=true):Pw xs=xs∧Px xs=true:=by
 obtain⟨hn,hA⟩:=Wq.1 h
 have hr:(List.replicate (Int.toNat (xs.length:Int)) ([]:List Int)).length=xs.length:=by simp
 obtain⟨w1,w2⟩:=abo xs (List.replicate (Int.toNat (xs.length:Int)) []) (by omega) hr hA
 have hc:=Vp (xs:=xs) (d:=([]:List Int)) (g:=fun x=>x) (f:=rY xs) (e:=0) (fun b a=>rfl) hr
 rw [hc]at w2
 refine⟨?_,?_⟩
 ·simp only [Pw,IE,w2,oA];simp
 ·simp only [Px,IE,w1,allT];simp;omega
theorem aoW(xs ys:List (List Int))(h:SM 9223372036854775807 xs=true):Kd xs ys=VR xs ys∧Ke xs ys=true:=by
 obtain⟨hn,hA⟩:=Wq.1 h
 unfold VR
 by_cases hl:ys.length=xs.length
 ·obtain⟨w1,w2⟩:=abj xs ys hn hl hA
  have ha:=ajG (d:=([]:List Int)) hl (P:=fun b=> !eqL ((xs[b]?).getD []) ((ys[b]?).getD [])) (fun b=>by simp [eqL])
  rw [iQ (P:=fun b=> !eqL ((xs[b]?).getD []) ((ys[b]?).getD [])) (j:=0) (fun b=>rfl),ha]at w2
  simp only [Im,Io,Kd,Ke,w1,w2,allT]
  by_cases he:xs=ys
  ·subst he;simp;decide
  ·simp [he,hl]
 ·have Ql:xs≠ys:=fun h=>hl (by rw [h])
  simp [Im,Io,Kd,Ke,allT,Ql]
  omega
theorem anI(k:Int)(xs:List (List Int))(h:(abg k (xh xs)&&leN xs.length 9223372036854775807)=true):BA k xs=k + xh xs∧BB k xs=Rw k xs∧BC k xs=true:=by
 simp only [Bool.and_eq_true,io]at h
 obtain⟨h0,h2⟩:=Oh.1 h.1
 obtain⟨w1,w2⟩:=Ya k xs xs.length rfl h.2 h0 h2
 rw [alG (f:=pK) (fun b k xs=>rfl)]at w2
 refine⟨?_,?_,?_⟩
 ·simp only [zJ,zK,BA,BB,BC,w2,jY]
 ·simp only [zJ,zK,BA,BB,BC,w2,jY]
 ·simp only [zJ,zK,BA,BB,BC,w1,allT,cond_true]
def TJ:Int→List (List Int)→Int
 |k,[]=>k
 |k,l::r=>bif ltI (UV k l) 0 then -1 else TJ (UV k l) r
def sH(b:List Int):(Int)→Nat ⊕ (Int)
 |y1=>(bif(ltI (UV y1 b) (0:Int))then(.inl 0)else(.inr (UV y1 b)))
def mr(y2:List (List Int))(i:Nat):(Int)→jE
 |y1=>((i:Int),y1,y2)
def GP:jE→Int
 |(_,y1,_)=>y1
theorem XZ(y2:List (List Int))(y1:Int)(hn:y2.length≤9223372036854775807)(hA: ∀ x∈y2,x.length≤9223372036854775807):
  cN.fin ((0:Int),y1,y2)=true∧cN.res ((0:Int),y1,y2)=((af (sH) 1 y2 0 y1).1,(mr y2) (af (sH) 1 y2 0 y1).2.1 (af (sH) 1 y2 0 y1).2.2):=by
 have iY:=cN.along (mr y2) GP (sH) 1 (fun _ _=>True) y2 y1 (by trivial) (by simp only [cN,mr];omega) (fun i b a hb hI=> ?_) (fun a hI=> ?_)
 ·exact iY
 ·obtain y1:=a
  have eB:=(List.getElem?_eq_some_iff.1 hb).1
  have gZ: ∀ d,Option.getD y2[i]? d=b:=fun d=>by rw [hb];rfl
  have hw:=sX eB hn
  have bW:ltI (i:Int) (y2.length:Int)=true:=et (by omega)
  have vL:leI (0:Int) (i:Int)=true:=bv (by omega)
  have im:ltN i y2.length=true:=gu eB
  refine⟨?_,?_,?_,?_⟩
  ·have hg2:jV (i:Int) y2=b:=by simp only [jV,Int.toNat_natCast];exact gZ _
   have h6:leN b.length 9223372036854775807=true:=dm (hA b (List.mem_of_getElem? hb))
   simp [sI,CB,CC,CD,wd,CE,wg,uR,cN,LT.nds,allT,mr,bW,vL,im,hg2,h6]
  ·simp [jV,sI,CB,CC,CD,wd,we,CE,wg,uR,cN,LT.each,mr,GP,hw]
  ·have hg2:jV (i:Int) y2=b:=by simp only [jV,Int.toNat_natCast];exact gZ _
   simp only [sI,wd,wg,uR,cN,LT.fn,mr,GP,sH,Int.toNat_natCast,bW,hg2,cond_true]
  ·exact fun _ _=>trivial
 ·obtain y1:=a
  simp [jV,sI,CB,CC,CD,wd,we,CE,wg,uR,cN,LT.out,mr]
theorem agF{f:List Int→Int→Nat ⊕ Int}(hf: ∀ l k,f l k=bif ltI (UV k l) 0 then .inl 0 else .inr (UV k l)): ∀ (r:List (List Int)) (i:Nat) (k:Int),
  (bif Nat.beq (af f 1 r i k).1 0 then(-1:Int)else(af f 1 r i k).2.2)=TJ k r
 | [],i,k=>rfl
 |l::r,i,k=>by
  simp only [af,hf,TJ]
  cases h:ltI (UV k l) 0 with
  |true=>rfl
  |false=>exact agF hf r (i + 1) _
theorem anD(k:Int)(xs:List (List Int))(h:SM 9223372036854775807 xs=true):Mo k xs=TJ k xs∧Mp k xs=true:=by
 obtain⟨hn,hA⟩:=Wq.1 h
 obtain⟨w1,w2⟩:=XZ xs k hn hA
 simp only [Mo,Mp,EH,we,w1,w2,mr,allT,cond_true]
 exact⟨agF (f:=sH) (fun l k=>rfl) xs 0 k,trivial⟩
theorem ajb: ∀ (ll:List (List Int)) (k:Int),abg k (xh ll)=true→TJ k (Rw k ll)=k + xh ll
 | [],k,_=>by simp [TJ,Rw,xh]
 |l::r,k,h=>by
  obtain⟨h0,h1⟩:=Oh.1 h
  have ht:(xh (l::r):Int)=l.length + xh r:=by simp [xh]
  have m1:abg k l.length=true:=Oh.2 (by omega)
  have m2:abg (k + l.length) (xh r)=true:=Oh.2 (by omega)
  have t:ltI (k + (l.length:Int)) 0=false:=Pa (by omega)
  simp only [Rw,TJ,aon k l.length m1,t,cond_false]
  rw [ajb r _ m2]
  omega
def UJ:List SV→List Entry→Option Out
 | [.one ⟨false,[.ref 0]⟩,.one ⟨false,[.val (.int .i64 x0)]⟩],[.row false 41 (.sl 2 (.int .i64)) x1]=>some ⟨.one ⟨false,[.val (.int .i64 (amO x0 x1))]⟩,[.row false 41 (CTy.sl (2:TypeId) agJ) x1],[],[SM 9223372036854775807 x1&&(leI (-1) x0&&leI x0 1048576)]⟩
 |_,_=>none
def PC:PF prog:=PF.alt afH UJ (by
 intro args es o h cE;unfold UJ at h;split at h
 ·rename_i x0 x1
  cases h
  have cE:=mH cE
  have hh:=app x0 x1 cE
  obtain⟨e0,en⟩:=hh
  exact rV rfl (md en) (by simp only [e0] <;> rfl) rfl rfl
 ·cases h)
def UL:List SV→List Entry→Option Out
 | [.one ⟨false,[.ref 0]⟩],[.row false 41 (.sl 2 (.int .i64)) x0]=>some ⟨.one ⟨false,[.ref 1]⟩,[.row false 41 (CTy.sl (2:TypeId) agJ) x0],[.tree 41 (CTy.sl (2:Nat) agJ) x0 none],[SM 1048576 x0]⟩
 |_,_=>none
def PE:PF prog:=PF.alt afJ UL (by
 intro args es o h cE;unfold UL at h;split at h
 ·rename_i x0
  cases h
  have cE:=mH cE
  have hh:=apr x0 cE
  obtain⟨e0,en⟩:=hh
  exact rV rfl (md en) rfl rfl (by simp only [e0] <;> rfl)
 ·cases h)
def UG:List SV→List Entry→Option Out
 | [.one ⟨false,[.ref 0]⟩,.one ⟨false,[.ref 1]⟩],[.row false 41 (.sl 2 (.int .i64)) x0,.row false 41 (.sl 2 (.int .i64)) x1]=>some ⟨.one ⟨false,[.val (.bool (VR x0 x1))]⟩,[.row false 41 (CTy.sl (2:TypeId) agJ) x0,.row false 41 (CTy.sl (2:TypeId) agJ) x1],[],[SM 9223372036854775807 x0]⟩
 |_,_=>none
def PA:PF prog:=PF.alt afE UG (by
 intro args es o h cE;unfold UG at h;split at h
 ·rename_i x0 x1
  cases h
  have cE:=mH cE
  have hh:=aoW x0 x1 cE
  obtain⟨e0,en⟩:=hh
  exact rV rfl (md en) (by simp only [e0] <;> rfl) rfl rfl
 ·cases h)
def RJ:List SV→List Entry→Option Out
 | [.one ⟨false,[.ref 0]⟩,.one ⟨false,[.val (.int .i64 x0)]⟩],[.tree 41 (.sl 2 (.int .i64)) x1 none]=>some ⟨.one ⟨false,[.val (.int .i64 (x0 + (xh x1:Int)))]⟩,[.tree 41 (CTy.sl (2:TypeId) agJ) (Rw x0 x1) none],[],[abg x0 (xh x1)&&leN x1.length 9223372036854775807]⟩
 |_,_=>none
def Mu:PF prog:=PF.alt adc RJ (by
 intro args es o h cE;unfold RJ at h;split at h
 ·rename_i x0 x1
  cases h
  have cE:=mH cE
  have hh:=anI x0 x1 cE
  obtain⟨e0,e1,en⟩:=hh
  exact rV rfl (md en) (by simp only [e0] <;> rfl) (by simp only [e1] <;> rfl) rfl
 ·cases h)
def RI:List SV→List Entry→Option Out
 | [.one ⟨false,[.ref 0]⟩,.one ⟨false,[.val (.int .i64 x0)]⟩],[.row false 41 (.sl 2 (.int .i64)) x1]=>some ⟨.one ⟨false,[.val (.int .i64 (TJ x0 x1))]⟩,[.row false 41 (CTy.sl (2:TypeId) agJ) x1],[],[SM 9223372036854775807 x1]⟩
 |_,_=>none
def Mt:PF prog:=PF.alt adb RI (by
 intro args es o h cE;unfold RI at h;split at h
 ·rename_i x0 x1
  cases h
  have cE:=mH cE
  have hh:=anD x0 x1 cE
  obtain⟨e0,en⟩:=hh
  exact rV rfl (md en) (by simp only [e0] <;> rfl) rfl rfl
 ·cases h)
theorem anP{k:Int}{s:ByteArray}{n:Int}(h:TH k s n=true):possB k n 0 0 0=true:=by
 obtain⟨h1,h2,h3⟩:=VO h
 have t:inR 0 0 n=true:=EG.2 (by omega)
 have t1:inR 0 0 1=true:=rfl
 rcases kinds h1 with rfl | rfl | rfl | rfl | rfl | rfl <;> simp [possB,dv,bt,TT,t,t1] <;> omega
def SR(bs:List TM):List BS3:=List.replicate bs.length ((0:Int),(0:Int),(0:Int))
theorem aj6{l:List (List Int)}(h:ltI 200 (l.length:Int)=false):l.length≤200:=by
 rcases Nat.lt_or_ge 200 l.length with h' | h'
 ·rw [et (by omega)]at h;cases h
 ·exact h'
end Go.SX
