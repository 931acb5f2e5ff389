/- What functions of the program come to, and what that says in plain words: part 1. -/
import Derived.Test.YthehiagbdgollaaGreatDoorTXh
import Derived.Test.YthehiagbdgollaaGreatDoorProg
import Derived.Test.YthehiagbdgollaaGreatDoorSh
import Derived.Test.YthehiagbdgollaaGreatDoorTXs
import Derived.Test.YthehiagbdgollaaGreatDoorTXq
import Derived.Lib.ItoaLen
import Derived.Test.YthehiagbdgollaaGreatDoorTXi
set_option linter.unusedSimpArgs false
set_option linter.unusedVariables false
open Bool renaming and_eq_true → q8
open Int renaming toNat_natCast → q9
open List renaming length_append → w3
open List renaming length_cons → w4
open Bool renaming cond_self → w5
open List renaming length_replicate → w6
open List renaming getElem?_eq_some_iff → w7
open Int renaming toNat → w8
open List renaming length → w9
open Option renaming getD → z6
open Go.IntKind renaming wrap → z7
open List renaming replicate → z8
namespace Go.SX
open Go.Proofs
def T3z {P : Program} (l : List (PF P)) : List (PF P) :=l.flatMap fun p=>[p,PF.lend p,PF.fz p]
abbrev al5:Type:=ByteArray
abbrev aa7:CTy:=(CTy.pair (CTy.pair CTy.str (CTy.pair (CTy.sl 125 (CTy.pair (CTy.int IntKind.i64) (CTy.pair (CTy.int IntKind.i64) CTy.bool))) (CTy.sl 129 (CTy.pair (CTy.int IntKind.i64) (CTy.int IntKind.i64))))) (CTy.pair (CTy.int IntKind.i64) (CTy.pair (CTy.int IntKind.i64) (CTy.int IntKind.i64))))
abbrev aa8:CTy:=(CTy.pair CTy.str (CTy.pair (CTy.sl 125 (CTy.pair (CTy.int IntKind.i64) (CTy.pair (CTy.int IntKind.i64) CTy.bool))) (CTy.sl 129 (CTy.pair (CTy.int IntKind.i64) (CTy.int IntKind.i64)))))
abbrev aa9:CTy:=(CTy.pair (CTy.sl 2 (CTy.int IntKind.i64)) (CTy.pair (CTy.int IntKind.i64) (CTy.pair (CTy.int IntKind.i64) (CTy.int IntKind.i64))))
abbrev aba:CTy:=(CTy.pair (CTy.int IntKind.i64) (CTy.pair (CTy.int IntKind.i64) (CTy.int IntKind.i64)))
abbrev adp:CTy:=(CTy.pair (CTy.int IntKind.i64) (CTy.pair (CTy.int IntKind.i64) CTy.bool))
abbrev adq:CTy:=(CTy.pair (CTy.int IntKind.i64) (CTy.sl 2 (CTy.int IntKind.i64)))
abbrev aeq:Type:=List ((ByteArray×List (Int×Int×Bool)×List (Int×Int))×Int×Int×Int)
abbrev aer:Type:=List (ByteArray×((List (Int×(Int×Bool)))×(List (Int×Int))))
abbrev aes:CTy:=(CTy.pair (CTy.int IntKind.i64) (CTy.int IntKind.i64))
abbrev aeT:Type:=List (ByteArray×List (Int×Int×Bool)×List (Int×Int))
abbrev afG:Type:=List ((List Int)×(Int×(Int×Int)))
abbrev afH:CTy:=(CTy.sl 2 (CTy.int IntKind.i64))
abbrev af7:Type:=List (List Int×Int×Int×Int)
abbrev af8:CTy:=(CTy.int IntKind.i64)
abbrev af9:Type:=List (Int×(List Int))
abbrev agb:Type:=List (Int×(Int×Bool))
abbrev agc:CTy:=(CTy.int IntKind.u8)
abbrev ag5:Type:=List (Int×(Int×Int))
abbrev ag6:Type:=List (Int×List Int)
abbrev al0:Type:=List (Int×Int×Bool)
abbrev al1:Type:=List (Int×Int×Int)
abbrev al2:Type:=List (List Int)
abbrev al3:Type:=List (Int×Int)
abbrev al4:Type:=List Int
abbrev ama:=Entry.row false 2 af8
abbrev amb:=Entry.row true 2 af8
abbrev amc:=Entry.row false 70 aa8
abbrev amd:=Entry.row false 125 adp
abbrev ame:=Entry.row true 24 afH
abbrev amf:=Entry.row false 42 aba
abbrev amg:=Entry.row true 72 aa7
abbrev amh:=Entry.row true 85 aba
abbrev ami:=Entry.row false 5 agc
abbrev amj:=Entry.row true 42 aba
abbrev amk:=Entry.row false 24 afH
abbrev aml:=Entry.row false 70 (CTy.pair CTy.str (CTy.pair (CTy.sl (125:TypeId) adp) (CTy.sl (129:TypeId) aes)))
abbrev amm:=Entry.row true 70 aa8
abbrev amn:=Entry.row false 129 aes
abbrev amo:=Entry.row true 100 aa9
abbrev amp:=Entry.row true 26 adq
abbrev amq:=Entry.row true 125 adp
abbrev amr:=Entry.row false 24 (CTy.sl (2:TypeId) af8)
abbrev ams:=Entry.row false 100 (CTy.pair (CTy.sl (2:TypeId) af8) aba)
abbrev amt:=Entry.row true 24 (CTy.sl (2:TypeId) af8)
abbrev al8(c:Cell):SV:=.one ⟨false,[c]⟩
abbrev al9(a:Int):SV:=.one ⟨false,[.val (.int .i64 a)]⟩
abbrev al6:Type:=List SV→List Entry→Option Out
abbrev al7(a:Int):Cell:=.val (.int .i64 a)
end Go.SX
namespace Go.SX
open Go.Proofs Go.Proofs.Tryz
set_option maxRecDepth 100000
theorem aS:Tryz.prog.follows .mixedOrders=true:=by kernel_rfl
def gk(a b c:Int):Bool:=bif leI b a then leI a c else false
def YH:al6
 | [.one ⟨false,[.val (.int .i64 a)]⟩,.one ⟨false,[.val (.int .i64 b)]⟩,.one ⟨false,[.val (.int .i64 c)]⟩],[]=>some ⟨al8 (.val (.bool (gk a b c))),[],[],[]⟩
 |_,_=>none
def LX:PF prog:=PF.ofG prog [] [] aS 38 f38 func38 (fun c _=>LOk.nil c) YH (by
 intro _ _ _ h;unfold YH at h;split at h<;>cases h;kernel_rfl)
abbrev lm:=Int×Int×List Int
section
variable (a b:Int)(c:al4)
def vj:Bool:=ltI a (↑c.length:Int)
def yG:Bool:=leI 0 a
def yH:Bool:=ltN a.toNat c.length
def yI:Bool:= !gk (z6 c[w8 a]? 0) 0 (z7 .i64 (z7 .i64 ((3:Int) * b) - (1:Int)))
def yJ:Int:=z7 .i64 (a + (1:Int))
end
def UJ:lm→List (Nat×SV)
 |(a,_,_)=> [(3,(al9 a)),(1,(al8 (.ptr 0 0)))]
def UG:lm→List (Nat×Entry)
 |(_,a,b)=> [(0,(.box 26 [al7 a,.ref 1])),(1,(ama b))]
def UU:Nat→lm→List (Nat×SV)
 |0,(_,_,_)=> [(2,(al8 (.val (.bool false))))]
 |_,_=>[]
def xj:lm→LT lm
 |(a,b,c)=> .ite (vj a c) (.need [yG a,vj a c,yH a c] (.ite (yI a b c) (.ext 0 [(0,0),(1,1)]) (.nrm ((yJ a),b,c) [(0,0),(1,1)]))) (.ext 1 [(0,0),(1,1)])
def Hr(s:St):Option lm:=do
 let some ⟨none,.one ⟨false,[.val (.int .i64 a)]⟩⟩:=s.look 3|none
 let some ⟨none,.one ⟨false,[.ptr 128 0]⟩⟩:=s.look 1|none
 let some (.box 26 [.val (.int .i64 b),.ref 0]):=s.ent 128|none
 let some (.row false 2 (.int .i64) c):=s.ent 0|none
 some (a,b,c)
def dF:Lp lm where
 h:=⟨[15,16,17,18,19,22,23,24,25,26,27,28,29,30,31,32,2,20,21,3],[0,1],[],[]⟩
 JL:=UJ
 JE:=UG
 XL:=UU
 XE:=fun _=>UG
 q:=fun j=>match j with | 0=> .ret | _=> .exit 0
 tags:= [0,1]
 lt:=xj
 fuel:=fun(a,b,c)=>a.natAbs + b.natAbs + c.length
 fix:=fun(_,b,c) (a,_,_)=>(a,b,c)
 σ:= [(0,128),(1,0)]
 rd:=Hr
theorem Tl:LoopOk prog (fun k=>Nat.blt k Tryz.f56.ntmps) dF.F (aI f56 0):=by
 refine Lp.ok (tbl:= [LX]) (lf:= []) aS dF (by kernel_rfl) (LOk.nil _) (fun _=>rfl) (fun j _=>by unfold dF;match j with | 0=>rfl | _ + 1=>rfl) ?_ ?_ ?_ ?_ (fun _=>rfl) ?_
 ·intro _;kernel_rfl
 ·intro _;kernel_rfl
 ·intro s x h
  have h:Hr s=some x:=h
  unfold Hr at h
  repeat' split at h
  all_goals cases h
  constructor<;>repeat(first|refine aa ‹_› rfl ?_|refine ab rfl ‹_› rfl ?_|rfl)
 ·intro _;kernel_rfl
 ·intro _ _;exact(And.intro (And.intro trivial rfl) trivial)
section
variable (a:Int)(b:al4)
def Mc:Bool:=bif !gk a 2 8 then true else !gk (↑b.length:Int) 1 4
def Md:Int×Int×al4:=((0:Int),a,b)
def Nc:Bool:=bif Mc a b then false else bif Nat.beq ((Lp.res dF (Md a b)).1) 0 then false else true
def Nd:Bool:=allT [Mc a b||Lp.fin dF (Md a b)]
end
def RN:al6
 | [.one ⟨true,[.val (.int .i64 a),.ref 0]⟩],[.row false 2 (.int .i64) b]=>some ⟨al8 (.val (.bool (Nc a b))),[ama b],[],[Nd a b]⟩
 |_,_=>none
def aav:PF prog:=PF.ofG prog [LX] [dF.F] aS 56 f56 func56 (LOk.fnT (l:= [aI f56 0]) (by kernel_rfl) (.cons Tl (.nil _))) RN (by
 intro _ _ _ h;unfold RN at h;split at h<;>cases h;kernel_rfl)
def RG(a:al4):Bool:=allT [leN (0 + w9 a) 9223372036854775807,leN ((0 + w9 a) * 8) 140737488355328]
def Xl:al6
 | [.one ⟨false,[.ref 0]⟩],[.row false 2 (.int .i64) a]=>some ⟨al8 (.ref 1),[ama a],[amb a],[RG a]⟩
 |_,_=>none
def acZ:PF prog:=PF.ofG prog [] [] aS 35 f35 func35 (fun c _=>LOk.nil c) Xl (by
 intro _ _ _ h;unfold Xl at h;split at h<;>cases h;kernel_rfl)
def aL(a:al4):Int:=(↑a.length:Int)
def Oy:al6
 | [.one ⟨false,[.ref 0]⟩],[.row false 2 (.int .i64) a]=>some ⟨al9 (aL a),[ama a],[],[]⟩
 |_,_=>none
def af:PF prog:=PF.ofG prog [] [] aS 51 f51 func51 (fun c _=>LOk.nil c) Oy (by
 intro _ _ _ h;unfold Oy at h;split at h<;>cases h;kernel_rfl)
def bg(a b c:Int):Bool:=bif leI b a then leI a c else false
def Xk:al6
 | [.one ⟨false,[.val (.int .i64 a)]⟩,.one ⟨false,[.val (.int .i64 b)]⟩,.one ⟨false,[.val (.int .i64 c)]⟩],[]=>some ⟨al8 (.val (.bool (bg a b c))),[],[],[]⟩
 |_,_=>none
def oQ:PF prog:=PF.ofG prog [] [] aS 29 f29 func29 (fun c _=>LOk.nil c) Xk (by
 intro _ _ _ h;unfold Xk at h;split at h<;>cases h;kernel_rfl)
def Ix(a:Int):Bool:=bg a 2 8
def Ox:al6
 | [.one ⟨false,[.val (.int .i64 a)]⟩],[]=>some ⟨al8 (.val (.bool (Ix a))),[],[],[]⟩
 |_,_=>none
def Xg:PF prog:=PF.ofG prog [oQ] [] aS 71 f71 func71 (fun c _=>LOk.nil c) Ox (by
 intro _ _ _ h;unfold Ox at h;split at h<;>cases h;kernel_rfl)
def Ax(a b:Int):Bool:= !bg a 0 (z7 .i64 (z7 .i64 ((3:Int) * b) - (1:Int)))
def Mx:al6
 | [.one ⟨false,[.val (.int .i64 a)]⟩,.one ⟨false,[.ptr 0 0]⟩],[.box 26 [.val (.int .i64 b),.ref 1],.row false 2 (.int .i64) c]=>some ⟨al8 (.val (.bool (Ax a b))),[.box 26 [al7 b,.ref 1],ama c],[],[]⟩
 |_,_=>none
def sI:PF prog:=PF.ofG prog [oQ] [] aS 73 f73 func73 (fun c _=>LOk.nil c) Mx (by
 intro _ _ _ h;unfold Mx at h;split at h<;>cases h;kernel_rfl)
abbrev bA:=Int×Int×Int×List Int
section
variable (a b c:Int)(d:al4)
def jo:Bool:=ltI a b
def jp:Bool:=leI 0 a
def jq:Bool:=ltI a (↑d.length:Int)
def jr:Bool:=ltN a.toNat d.length
def jt:Bool:=Ax (z6 d[w8 a]? 0) c
def ju:Int:=z7 .i64 (a + (1:Int))
end
def HD:bA→List (Nat×SV)
 |(a,b,_,_)=> [(8,(al9 a)),(7,(al9 b)),(1,(al8 (.clo 73 [0]))),(0,(al8 (.ref 1)))]
def HC:bA→List (Nat×Entry)
 |(_,_,a,b)=> [(0,(.box 26 [al7 a,.ref 1])),(1,(ama b))]
def HF:Nat→bA→List (Nat×SV)
 |0,(a,_,_,_)=> [(4,(al9 a))]
 |_,_=>[]
def iq:bA→LT bA
 |(a,b,c,d)=> .ite (jo a b) (.need [jp a,jq a d,jr a d] (.ite (jt a c d) (.ext 0 [(0,0),(1,1)]) (.nrm ((ju a),b,c,d) [(0,0),(1,1)]))) (.ext 1 [(0,0),(1,1)])
def rH(s:St):Option bA:=do
 let some ⟨none,.one ⟨false,[.val (.int .i64 a)]⟩⟩:=s.look 8|none
 let some ⟨none,.one ⟨false,[.val (.int .i64 b)]⟩⟩:=s.look 7|none
 let some ⟨none,.one ⟨false,[.clo 73 [1]]⟩⟩:=s.look 1|none
 let some ⟨none,.one ⟨false,[.ref 0]⟩⟩:=s.look 0|none
 let some (.box 26 [.val (.int .i64 c),.ref 0]):=s.ent 1|none
 let some (.row false 2 (.int .i64) d):=s.ent 0|none
 some (a,b,c,d)
def aw:Lp bA where
 h:=⟨[9,10,5,11,12,13,14,15,16,17,4,18,8],[0,1],[],[]⟩
 JL:=HD
 JE:=HC
 XL:=HF
 XE:=fun _=>HC
 q:=fun j=>match j with | 0=> .ret | _=> .exit 0
 tags:= [0,1]
 lt:=iq
 fuel:=fun(a,b,c,d)=>a.natAbs + b.natAbs + c.natAbs + d.length
 fix:=fun(_,b,c,d) (a,_,_,_)=>(a,b,c,d)
 σ:= [(0,1),(1,0)]
 rd:=rH
theorem Gv:LoopOk prog (fun k=>Nat.blt k Tryz.f99.ntmps) aw.F (aI f99 0):=by
 refine Lp.ok (tbl:= (T3z [sI])) (lf:= []) aS aw (by kernel_rfl) (LOk.nil _) (fun _=>rfl) (fun j _=>by unfold aw;match j with | 0=>rfl | _ + 1=>rfl) ?_ ?_ ?_ ?_ (fun _=>rfl) ?_
 ·intro _;kernel_rfl
 ·intro _;kernel_rfl
 ·intro s x h
  have h:rH s=some x:=h
  unfold rH at h
  repeat' split at h
  all_goals cases h
  constructor<;>repeat(first|refine aa ‹_› rfl ?_|refine ab rfl ‹_› rfl ?_|rfl)
 ·intro _;kernel_rfl
 ·intro _ _;exact(And.intro (And.intro trivial rfl) trivial)
section
variable (a:al4)(b:Int)
def oh:Int×Int×Int×al4:=((0:Int),(↑a.length:Int),b,a)
def tG:Bool:=Nat.beq ((Lp.res aw (oh a b)).1) 0
def um:Int:=bif tG a b then ((Lp.res aw (oh a b)).2).1else(-1:Int)
def uo:Int:=bif tG a b then b else b
def uq:Bool:=allT [Lp.fin aw (oh a b)]
end
def AK:al6
 | [.one ⟨false,[.ref 0]⟩,.one ⟨false,[.clo 73 [1]]⟩],[.row false 2 (.int .i64) a,.box 26 [.val (.int .i64 b),.ref 0]]=>some ⟨al9 (um a b),[ama a,.box 26 [al7 (uo a b),.ref 0]],[],[uq a b]⟩
 |_,_=>none
def ul:PF prog:=PF.ofG prog (T3z [sI]) [aw.F] aS 99 f99 func99 (LOk.fnT (l:= [aI f99 0]) (by kernel_rfl) (.cons Gv (.nil _))) AK (by
 intro _ _ _ h;unfold AK at h;split at h<;>cases h;kernel_rfl)
section
variable (a:al4)(b:Int)
def mQ:Bool:=leI 0 (um a b)
def yF:Int:=uo a b
def mR:Bool:=allT [uq a b]
end
def yk:al6
 | [.one ⟨false,[.ref 0]⟩,.one ⟨false,[.clo 73 [1]]⟩],[.row false 2 (.int .i64) a,.box 26 [.val (.int .i64 b),.ref 0]]=>some ⟨al8 (.val (.bool (mQ a b))),[ama a,.box 26 [al7 (yF a b),.ref 0]],[],[mR a b]⟩
 |_,_=>none
def so:PF prog:=PF.ofG prog (T3z [ul]) [] aS 72 f72 func72 (fun c _=>LOk.nil c) yk (by
 intro _ _ _ h;unfold yk at h;split at h<;>cases h;kernel_rfl)
section
variable (a:Int)(b:al4)
def LC:Bool:=bif Ix a then bg (aL b) 1 4 else false
def MG:Bool:=bif LC a b then !mQ b a else false
def MH:Bool:=allT [!(LC a b&&true)||mR b a]
end
def RK:al6
 | [.one ⟨true,[.val (.int .i64 a),.ref 0]⟩],[.row false 2 (.int .i64) b]=>some ⟨al8 (.val (.bool (MG a b))),[ama b],[],[MH a b]⟩
 |_,_=>none
def aar:PF prog:=PF.ofG prog (T3z [af,Xg,oQ,so]) [] aS 50 f50 func50 (fun c _=>LOk.nil c) RK (by
 intro _ _ _ h;unfold RK at h;split at h<;>cases h;kernel_rfl)
def nG(a:Int)(b:al4):Bool:=bg a 0 (z7 .i64 (aL b - (1:Int)))
def ur:al6
 | [.one ⟨true,[.val (.int .i64 _x0),.ref 0]⟩,.one ⟨false,[.val (.int .i64 a)]⟩],[.row false 2 (.int .i64) b]=>some ⟨al8 (.val (.bool (nG a b))),[ama b],[],[]⟩
 |_,_=>none
def DV:PF prog:=PF.ofG prog (T3z [af,oQ]) [] aS 85 f85 func85 (fun c _=>LOk.nil c) ur (by
 intro _ _ _ h;unfold ur at h;split at h<;>cases h;kernel_rfl)
def zU(a:al4):Bool:=allT [ltN 0 a.length,false||leN (0 + w9 a) 9223372036854775807,false||leN ((0 + w9 a) * 8) 140737488355328]
def Gz:al6
 | [.one ⟨false,[.ref 0]⟩],[.row false 2 (.int .i64) a]=>some ⟨al8 (.ref 1),[ama a],[amb a],[zU a]⟩
 |_,_=>none
def Py:PF prog:=PF.ofG prog [] [] aS 61 f61 func61 (fun c _=>LOk.nil c) Gz (by
 intro _ _ _ h;unfold Gz at h;split at h<;>cases h;kernel_rfl)
section
variable (a b c:Int)
def Fr:Bool:=z7 .i64 (Int.tdiv b 3)==c
def JP:Bool:=Int.tmod b 3==2
def PU:Bool:=bif Fr b c then true else bif JP b then Int.tmod (z7 .i64 (z7 .i64 (Int.tdiv b 3) + (1:Int))) a==c else false
def Mm:Bool:=allT [!(!Fr b c&&true)||neI 3 0,!(JP b&&(!Fr b c&&true))||neI 3 0,!(JP b&&(!Fr b c&&true))||neI a 0]
end
def UA:al6
 | [.one ⟨false,[.val (.int .i64 a)]⟩,.one ⟨false,[.val (.int .i64 b)]⟩,.one ⟨false,[.val (.int .i64 c)]⟩],[]=>some ⟨al8 (.val (.bool (PU a b c))),[],[],[Mm a b c]⟩
 |_,_=>none
def acz:PF prog:=PF.ofG prog [] [] aS 83 f83 func83 (fun c _=>LOk.nil c) UA (by
 intro _ _ _ h;unfold UA at h;split at h<;>cases h;kernel_rfl)
abbrev dm:=Int×Int×List Int
section
variable (a b:Int)(c:al4)
def ly:Int:=z6 c[w8 a]? 0
def mC:Bool:=ltI a (↑c.length:Int)
def pW:Bool:=leI 0 a
def pX:Bool:=ltN a.toNat c.length
def pY:Int:=z7 .i64 (a + (1:Int))
def pZ:Int:=aeU b (ly a c) (ly a c) b
end
def Oe:dm→List (Nat×SV)
 |(a,b,_)=> [(4,(al9 a)),(0,(al8 (.ref 0))),(3,(al9 b))]
def Od:dm→List (Nat×Entry)
 |(_,_,a)=> [(0,(ama a))]
def Oh:Nat→dm→List (Nat×SV)
 |_,(_,a,_)=> [(3,(al9 a))]
def oz:dm→LT dm
 |(a,b,c)=> .ite (mC a c) (.need [pW a,mC a c,pX a c] (.nrm ((pY a),pZ a b c,c) [(0,0)])) (.ext 0 [(0,0)])
def ya(s:St):Option dm:=do
 let some ⟨none,.one ⟨false,[.val (.int .i64 a)]⟩⟩:=s.look 4|none
 let some ⟨none,.one ⟨false,[.ref 0]⟩⟩:=s.look 0|none
 let some ⟨none,.one ⟨false,[.val (.int .i64 b)]⟩⟩:=s.look 3|none
 let some (.row false 2 (.int .i64) c):=s.ent 0|none
 some (a,b,c)
def bK:Lp dm where
 h:=⟨[12,13,14,15,18,19,20,21,22,23,3,16,17,4],[0],[],[]⟩
 JL:=Oe
 JE:=Od
 XL:=Oh
 XE:=fun _=>Od
 q:=fun j=>match j with | _=> .exit 0
 tags:= [0]
 lt:=oz
 fuel:=fun(a,b,c)=>a.natAbs + b.natAbs + c.length
 fix:=fun(_,_,c) (a,b,_)=>(a,b,c)
 σ:= [(0,0)]
 rd:=ya
theorem MV:LoopOk prog (fun k=>Nat.blt k Tryz.f42.ntmps) bK.F (aI f42 0):=by
 refine Lp.ok (tbl:= []) (lf:= []) aS bK (by kernel_rfl) (LOk.nil _) (fun _=>rfl) (fun _ _=>rfl) ?_ ?_ ?_ ?_ (fun _=>rfl) ?_
 ·intro _;kernel_rfl
 ·intro _;kernel_rfl
 ·intro s x h
  have h:ya s=some x:=h
  unfold ya at h
  repeat' split at h
  all_goals cases h
  constructor<;>repeat(first|refine aa ‹_› rfl ?_|refine ab rfl ‹_› rfl ?_|rfl)
 ·intro _;kernel_rfl
 ·intro _ _;exact(And.intro rfl trivial)
section
variable (a:al4)
def vZ:Int×Int×al4:=((1:Int),z6 a[w8 0]? 0,a)
def Ci:Int:=((Lp.res bK (vZ a)).2.2).1
def Cj:Bool:=allT [!ltI (↑a.length:Int) 1,ltI 0 (↑a.length:Int),ltN (w8 0) a.length,Lp.fin bK (vZ a)]
end
def Jt:al6
 | [.one ⟨false,[.ref 0]⟩],[.row false 2 (.int .i64) a]=>some ⟨al9 (Ci a),[ama a],[],[Cj a]⟩
 |_,_=>none
def RF:PF prog:=PF.ofG prog [] [bK.F] aS 42 f42 func42 (LOk.fnT (l:= [aI f42 0]) (by kernel_rfl) (.cons MV (.nil _))) Jt (by
 intro _ _ _ h;unfold Jt at h;split at h<;>cases h;kernel_rfl)
def blk(p:Int):Int:=Int.tdiv p 3
def phs(p:Int):Int:=Int.tmod p 3
def inR(a lo hi:Int):Bool:=leI lo a&&leI a hi
def isT(n:Int)(ps:al4):Bool:=inR n 2 8&&inR ps.length 1 4&&ps.all fun p=>inR p 0 (3 * n - 1)
def Qh(n p b:Int):Bool:=blk p==b||(phs p==2&&Int.tmod (blk p + 1) n==b)
def Qr(n:Int)(ps:al4)(b:Int):Nat:=ps.countP fun p=>Qh n p b
theorem sC{a lo hi:Int}:inR a lo hi=true↔lo≤a∧a≤hi:=by simp [inR]
theorem yS(a lo hi:Int):(bif leI lo a then leI a hi else false)=inR a lo hi:=by
 unfold inR;cases leI lo a <;> rfl
theorem gB{n:Int}{ps:al4}:isT n ps=true↔(2≤n∧n≤8)∧(1≤ps.length∧ps.length≤4)∧ ∀ p∈ps,0≤p∧p≤3 * n - 1:=by
 simp only [isT,q8,sC,List.all_eq_true]
 constructor
 ·rintro⟨⟨h1,h2⟩,h3⟩;exact⟨h1,by omega,h3⟩
 ·rintro⟨h1,h2,h3⟩;exact⟨⟨h1,by omega⟩,h3⟩
def vd(a b:Int):(Unit)→Nat ⊕ (Unit)
 |_=>(bif(!gk b 0 (z7 .i64 (z7 .i64 ((3:Int) * a) - (1:Int))))then(.inl 0)else(.inr ()))
def rg(a:Int)(b:al4)(i:Nat):(Unit)→lm
 |_=>((i:Int),a,b)
def Ho:lm→Unit
 |(_,_,_)=>()
theorem Xi(c:Int)(e:al4) (hn:e.length≤9223372036854775807):
  dF.fin ((0:Int),c,e)=true∧dF.res ((0:Int),c,e)=((fA (vd c) 1 e 0 ()).1,(rg c e) (fA (vd c) 1 e 0 ()).2.1 (fA (vd c) 1 e 0 ()).2.2):=by
 have key:=dF.along (rg c e) Ho (vd c) 1 (fun _ _=>True) e () (by trivial) (by simp only [dF,rg];omega) (fun i b a hb hI=> ?_) (fun a hI=> ?_)
 ·exact key
 ·obtain⟨⟩:=a
  have gm:=(w7.1 hb).1
  have jL: ∀ d,z6 e[i]? d=b:=fun d=>by rw [hb];rfl
  have hw:=jv gm hn
  have Bo:ltI (i:Int) (e.length:Int)=true:=cK (by omega)
  have Vj:leI (0:Int) (i:Int)=true:=cw (by omega)
  have Lo:ltN i e.length=true:=ip gm
  refine⟨?_,?_,?_,?_⟩
  ·simp [vj,yG,yH,yI,yJ,xj,dF,LT.nds,allT,rg,Bo,Vj,Lo,jL]
  ·simp [vj,yG,yH,yI,yJ,xj,dF,LT.each,rg,Ho,hw]
  ·simp only [vj,yG,yH,yI,yJ,xj,dF,LT.fn,rg,Ho,vd,q9,Bo,Vj,Lo,jL,cond_true]
  ·exact fun _ _=>trivial
 ·obtain⟨⟩:=a
  simp [vj,yG,yH,yI,yJ,xj,dF,LT.out,rg]
def fC(a b:Int):(Unit)→Nat ⊕ (Unit)
 |_=>(bif(Ax b a)then(.inl 0)else(.inr ()))
def cG(a:Int)(b:al4)(i:Nat):(Unit)→bA
 |_=>((i:Int),(↑b.length:Int),a,b)
def rG:bA→Unit
 |(_,_,_,_)=>()
theorem Jq(c:Int)(e:al4) (hn:e.length≤9223372036854775807):
  aw.fin ((0:Int),(↑e.length:Int),c,e)=true∧aw.res ((0:Int),(↑e.length:Int),c,e)=((fA (fC c) 1 e 0 ()).1,(cG c e) (fA (fC c) 1 e 0 ()).2.1 (fA (fC c) 1 e 0 ()).2.2):=by
 have key:=aw.along (cG c e) rG (fC c) 1 (fun _ _=>True) e () (by trivial) (by simp only [aw,cG];omega) (fun i b a hb hI=> ?_) (fun a hI=> ?_)
 ·exact key
 ·obtain⟨⟩:=a
  have gm:=(w7.1 hb).1
  have jL: ∀ d,z6 e[i]? d=b:=fun d=>by rw [hb];rfl
  have hw:=jv gm hn
  have Bo:ltI (i:Int) (e.length:Int)=true:=cK (by omega)
  have Vj:leI (0:Int) (i:Int)=true:=cw (by omega)
  have Lo:ltN i e.length=true:=ip gm
  refine⟨?_,?_,?_,?_⟩
  ·simp [jo,jp,jq,jr,jt,ju,iq,aw,LT.nds,allT,cG,Bo,Vj,Lo,jL]
  ·simp [jo,jp,jq,jr,jt,ju,iq,aw,LT.each,cG,rG,hw]
  ·simp only [jo,jp,jq,jr,jt,ju,iq,aw,LT.fn,cG,rG,fC,q9,Bo,Vj,Lo,jL,cond_true]
  ·exact fun _ _=>trivial
 ·obtain⟨⟩:=a
  simp [jo,jp,jq,jr,jt,ju,iq,aw,LT.out,cG]
def jx(b:Int):(Int)→Nat ⊕ (Int)
 |a=>(.inr (aeU a b b a))
def fQ(b:al4)(i:Nat):(Int)→dm
 |a=>(((i + 1:Nat):Int),a,b)
def xZ:dm→Int
 |(_,a,_)=>a
theorem OU(e:al4)(c:Int)(hn:e.length≤9223372036854775807):
  bK.fin ((1:Int),c,e)=true∧bK.res ((1:Int),c,e)=((fA (jx) 0 (e.drop 1) 0 c).1,(fQ e) (fA (jx) 0 (e.drop 1) 0 c).2.1 (fA (jx) 0 (e.drop 1) 0 c).2.2):=by
 have key:=bK.along (fQ e) xZ (jx) 0 (fun _ _=>True) (e.drop 1) c (by trivial) (by simp only [bK,fQ,List.length_drop];omega) (fun i b a hb hI=> ?_) (fun a hI=> ?_)
 ·exact key
 ·obtain c:=a
  rw [List.getElem?_drop,Nat.add_comm]at hb
  have gm:=(w7.1 hb).1
  have jL: ∀ d,z6 e[i + 1]? d=b:=fun d=>by rw [hb];rfl
  have hw:IntKind.i64.wrap (((i + 1:Nat):Int) + 1)=((i + 1 + 1:Nat):Int):=by rw [aB (by omega) (by omega)];omega
  have Bo:ltI ((i + 1:Nat):Int) (e.length:Int)=true:=cK (by omega)
  have Vj:leI (0:Int) ((i + 1:Nat):Int)=true:=cw (by omega)
  have Lo:ltN (i + 1) e.length=true:=ip gm
  refine⟨?_,?_,?_,?_⟩
  ·simp only [ly,mC,pW,pX,pY,pZ,oz,bK,LT.nds,allT,fQ,q9,Bo,Vj,Lo,jL,cond_true]
  ·simp only [ly,mC,pW,pX,pY,pZ,oz,bK,LT.each,fQ,xZ,hw,and_self]
  ·simp only [ly,mC,pW,pX,pY,pZ,oz,bK,LT.fn,fQ,xZ,jx,q9,Bo,Vj,Lo,jL,cond_true]
  ·exact fun _ _=>trivial
 ·obtain c:=a
  simp only [ly,mC,pW,pX,pY,pZ,oz,bK,LT.out,fQ,List.length_drop];rw [show ltI (((e.length - 1) + 1:Nat):Int) (e.length:Int)=false from nA (by omega)];rfl
theorem aa1{n:Int}(h:2≤n∧n≤8):IntKind.i64.wrap (IntKind.i64.wrap (3 * n) - 1)=3 * n - 1:=by
 rw [aB (x:=3 * n) (by omega) (by omega),aB (by omega) (by omega)]
theorem agG(n:Int)(ps:al4):Nc n ps=isT n ps∧Nd n ps=true:=by
 simp only [Mc,Md,Nc,Nd,gk,yS,isT]
 cases h1:inR n 2 8 with
 |false=>simp [allT]
 |true=>
  cases h2:inR (ps.length:Int) 1 4 with
  |false=>simp [allT]
  |true=>
   have h2':=sC.1 h2
   obtain⟨w1,w2⟩:=Xi n ps (by omega)
   rw [Ln (P:=fun b=> !inR b 0 (3 * n - 1)) (j:=0) (fun b=>by simp only [vd,aa1 (sC.1 h1),gk,yS])]at w2
   have e5:(ps.any fun b=> !inR b 0 (3 * n - 1))= !(ps.all fun b=>inR b 0 (3 * n - 1)):=by simp [List.all_eq_not_any_not]
   rw [e5]at w2
   simp only [w1,w2,allT]
   cases (ps.all fun b=>inR b 0 (3 * n - 1)) <;> simp <;> rfl
def RR:al6
 | [.one ⟨true,[.val (.int .i64 a),.ref 0]⟩],[.row false 2 (.int .i64) b]=>some ⟨al8 (.val (.bool (isT a b))),[ama b],[],[]⟩
 |_,_=>none
def rx:PF prog:=PF.alt aav RR (by
 intro args es o h dq;unfold RR at h;split at h
 ·rename_i a b
  cases h
  have hh:=agG a b
  obtain⟨e0,en⟩:=hh
  exact uJ rfl (pM en) (by simp only [e0] <;> rfl) rfl rfl
 ·cases h)
theorem aeK(n:Int)(h:2≤n∧n≤8)(ps:al4)(hn:ps.length≤9223372036854775807):
  mQ ps n=(ps.any fun b=> !inR b 0 (3 * n - 1))∧mR ps n=true:=by
 obtain⟨w1,w2⟩:=Jq n ps hn
 rw [Ln (P:=fun b=> !inR b 0 (3 * n - 1)) (j:=0) (fun b=>by simp only [fC,Ax,aa1 h,bg,yS])]at w2
 simp only [mQ,yF,mR,oh,tG,um,uo,uq,w1,w2,allT,cond_true,and_true,cG]
 cases (ps.any fun b=> !inR b 0 (3 * n - 1))with
 |true=>exact cw (Int.natCast_nonneg _)
 |false=>rfl
theorem age(n:Int)(ps:al4):MG n ps=isT n ps∧MH n ps=true:=by
 simp only [LC,MG,MH,Ix,bg,aL,yS,isT]
 cases h1:inR n 2 8 with
 |false=>simp [allT]
 |true=>
  cases h2:inR (ps.length:Int) 1 4 with
  |false=>simp [allT]
  |true=>
   have h2':=sC.1 h2
   obtain⟨c1,c2⟩:=aeK n (sC.1 h1) ps (by omega)
   simp only [c1,c2,allT]
   simp [List.all_eq_not_any_not]
def RP:al6
 | [.one ⟨true,[.val (.int .i64 a),.ref 0]⟩],[.row false 2 (.int .i64) b]=>some ⟨al8 (.val (.bool (isT a b))),[ama b],[],[]⟩
 |_,_=>none
def zb:PF prog:=PF.alt aar RP (by
 intro args es o h dq;unfold RP at h;split at h
 ·rename_i a b
  cases h
  have hh:=age a b
  obtain⟨e0,en⟩:=hh
  exact uJ rfl (pM en) (by simp only [e0] <;> rfl) rfl rfl
 ·cases h)
def Xa(ps:al4)(t:Int):Bool:=inR t 0 ((ps.length:Int) - 1)
theorem Pj{ps:al4}{t:Int}:Xa ps t=true↔0≤t∧t < ps.length:=by
 rw [Xa,sC];omega
theorem aeS(t:Int)(ps:al4)(h:leN ps.length 9223372036854775807=true):nG t ps=Xa ps t:=by
 have h:=uk.1 h
 simp only [nG,bg,aL,Xa,yS]
 rw [aB (x:=(ps.length:Int) - 1) (by omega) (by omega)]
def ut:al6
 | [.one ⟨true,[.val (.int .i64 _x0),.ref 0]⟩,.one ⟨false,[.val (.int .i64 a)]⟩],[.row false 2 (.int .i64) b]=>some ⟨al8 (.val (.bool (Xa b a))),[ama b],[],[leN b.length 9223372036854775807]⟩
 |_,_=>none
def nH:PF prog:=PF.alt DV ut (by
 intro args es o h dq;unfold ut at h;split at h
 ·rename_i _x0 a b
  cases h
  have dq:=zR dq
  have hh:=aeS a b dq
  have e0:=hh
  exact uJ rfl (fun _ h=>by cases h) (by simp only [e0] <;> rfl) rfl rfl
 ·cases h)
theorem aia(xs:al4)(h:(leN 1 xs.length&&leN xs.length 1048576)=true):zU xs=true:=by
 simp only [q8,uk]at h
 simp [zU,allT]
 omega
def GN:al6
 | [.one ⟨false,[.ref 0]⟩],[.row false 2 (.int .i64) a]=>some ⟨al8 (.ref 1),[ama a],[amb a],[leN 1 a.length&&leN a.length 1048576]⟩
 |_,_=>none
def ac:PF prog:=PF.alt Py GN (by
 intro args es o h dq;unfold GN at h;split at h
 ·rename_i a
  cases h
  have dq:=zR dq
  have hh:=aia a dq
  have en:=hh
  exact uJ rfl (pM en) rfl rfl rfl
 ·cases h)
theorem akJ(xs:al4)(h:leN xs.length 1048576=true):RG xs=true:=by
 have h:=uk.1 h
 simp [RG,allT]
 omega
def Xp:al6
 | [.one ⟨false,[.ref 0]⟩],[.row false 2 (.int .i64) a]=>some ⟨al8 (.ref 1),[ama a],[amb a],[leN a.length 1048576]⟩
 |_,_=>none
def aF:PF prog:=PF.alt acZ Xp (by
 intro args es o h dq;unfold Xp at h;split at h
 ·rename_i a
  cases h
  have dq:=zR dq
  have hh:=akJ a dq
  have en:=hh
  exact uJ rfl (pM en) rfl rfl rfl
 ·cases h)
def okP(n p:Int):Bool:=inR n 2 8&&inR p 0 (3 * n - 1)
theorem abA{n p:Int}:okP n p=true↔(2≤n∧n≤8)∧0≤p∧p≤3 * n - 1:=by simp [okP,sC]
theorem abv{n:Int}{ps:al4}(h:isT n ps=true){p:Int}(hp:p∈ps):okP n p=true:=by
 obtain⟨h1,_,h3⟩:=gB.1 h
 exact abA.2 ⟨h1,h3 p hp⟩
theorem ZR{p:Int}(h:0≤p):blk p=p / 3:=by rw [blk,Int.tdiv_eq_ediv_of_nonneg h]
theorem aj3(n p b:Int)(h:okP n p=true):PU n p b=Qh n p b∧Mm n p b=true:=by
 obtain⟨⟨h1,h2⟩,h3,h4⟩:=abA.1 h
 have e1:IntKind.i64.wrap (Int.tdiv p 3)=blk p:=by
  rw [Int.tdiv_eq_ediv_of_nonneg h3,ZR h3,aB (by omega) (by omega)]
 have e2:IntKind.i64.wrap (blk p + 1)=blk p + 1:=by rw [ZR h3,aB (by omega) (by omega)]
 refine⟨?_,?_⟩
 ·simp only [Fr,JP,PU,Mm,e1,e2,Qh,phs]
  cases (blk p==b) <;> cases (Int.tmod p 3==2) <;> simp
 ·have hn:neI n 0=true:=aaZ (by omega)
  simp [Mm,allT,hn]
def UP:al6
 | [.one ⟨false,[.val (.int .i64 a)]⟩,.one ⟨false,[.val (.int .i64 b)]⟩,.one ⟨false,[.val (.int .i64 c)]⟩],[]=>some ⟨al8 (.val (.bool (Qh a b c))),[],[],[okP a b]⟩
 |_,_=>none
def Vx:PF prog:=PF.alt acz UP (by
 intro args es o h dq;unfold UP at h;split at h
 ·rename_i a b c
  cases h
  have dq:=zR dq
  have hh:=aj3 a b c dq
  obtain⟨e0,en⟩:=hh
  exact uJ rfl (pM en) (by simp only [e0] <;> rfl) rfl rfl
 ·cases h)
def dH(a:al4):Bool:=allT [leN 1 a.length&&leN a.length (1048576:Nat)]
def we:al6
 | [.one ⟨true,[.val (.int .i64 a),.ref 0]⟩],[.row false 2 (.int .i64) b]=>some ⟨.one ⟨true,[al7 a,.ref 1]⟩,[ama b],[amb b],[dH b]⟩
 |_,_=>none
def bv:PF prog:=PF.ofG prog (T3z [ac]) [] aS 40 f40 func40 (fun c _=>LOk.nil c) we (by
 intro _ _ _ h;unfold we at h;split at h<;>cases h;kernel_rfl)
section
variable (a b:Int)(c:al4)
def jR:Int:=z7 .i64 ((3:Int) * a)
def kA:al4:=List.set c b.toNat (Int.tmod (z7 .i64 (z6 c[w8 b]? 0 + (1:Int))) (jR a))
def kB:Bool:=allT [dH c,leI 0 b,ltI b (↑c.length:Int),ltN b.toNat c.length,neI (jR a) 0,leI 0 b,ltI b (↑c.length:Int),ltN b.toNat c.length]
end
def wg:al6
 | [.one ⟨true,[.val (.int .i64 a),.ref 0]⟩,.one ⟨false,[.val (.int .i64 b)]⟩],[.row false 2 (.int .i64) c]=>some ⟨.one ⟨true,[al7 a,.ref 1]⟩,[ama c],[amb (kA a b c)],[kB a b c]⟩
 |_,_=>none
def FV:PF prog:=PF.ofG prog (T3z [bv]) [] aS 65 f65 func65 (fun c _=>LOk.nil c) wg (by
 intro _ _ _ h;unfold wg at h;split at h<;>cases h;kernel_rfl)
abbrev lS:=Int×Int×Int×Int×List Int
section
variable (a b c d:Int)(e:al4)
def vk:Int:=z6 e[w8 a]? 0
def wB:Bool:=ltI a (↑e.length:Int)
def zY:Bool:=leI 0 a
def zZ:Bool:=ltN a.toNat e.length
def Aa:Bool:=okP d (vk a e)
def Ab:Int:=z7 .i64 (a + (1:Int))
def Ac:Int:=bif Qh d (vk a e) b then z7 .i64 (c + (1:Int))else c
end
def Wr:lS→List (Nat×SV)
 |(a,b,c,_,_)=> [(6,(al9 a)),(2,(al8 (.ptr 0 0))),(1,(al9 b)),(5,(al9 c))]
def We:lS→List (Nat×Entry)
 |(_,_,_,a,b)=> [(0,(.box 26 [al7 a,.ref 1])),(1,(ama b))]
def WR:Nat→lS→List (Nat×SV)
 |_,(_,_,a,_,_)=> [(5,(al9 a))]
def yA:lS→LT lS
 |(a,b,c,d,e)=> .ite (wB a e) (.need [zY a,wB a e,zZ a e,Aa a d e] (.nrm ((Ab a),b,Ac a b c d e,d,e) [(0,0),(1,1)])) (.ext 0 [(0,0),(1,1)])
def IY(s:St):Option lS:=do
 let some ⟨none,.one ⟨false,[.val (.int .i64 a)]⟩⟩:=s.look 6|none
 let some ⟨none,.one ⟨false,[.ptr 128 0]⟩⟩:=s.look 2|none
 let some ⟨none,.one ⟨false,[.val (.int .i64 b)]⟩⟩:=s.look 1|none
 let some ⟨none,.one ⟨false,[.val (.int .i64 c)]⟩⟩:=s.look 5|none
 let some (.box 26 [.val (.int .i64 d),.ref 0]):=s.ent 128|none
 let some (.row false 2 (.int .i64) e):=s.ent 0|none
 some (a,b,c,d,e)
def fG:Lp lS where
 h:=⟨[7,8,9,10,11,14,15,16,17,18,19,20,21,22,23,24,5,12,13,6],[0,1],[],[]⟩
 JL:=Wr
 JE:=We
 XL:=WR
 XE:=fun _=>We
 q:=fun j=>match j with | _=> .exit 0
 tags:= [0]
 lt:=yA
 fuel:=fun(a,b,c,d,e)=>a.natAbs + b.natAbs + c.natAbs + d.natAbs + e.length
 fix:=fun(_,b,_,d,e) (a,_,c,_,_)=>(a,b,c,d,e)
 σ:= [(0,128),(1,0)]
 rd:=IY
theorem Uh:LoopOk prog (fun k=>Nat.blt k Tryz.f57.ntmps) fG.F (aI f57 0):=by
 refine Lp.ok (tbl:= [Vx]) (lf:= []) aS fG (by kernel_rfl) (LOk.nil _) (fun _=>rfl) (fun _ _=>rfl) ?_ ?_ ?_ ?_ (fun _=>rfl) ?_
 ·intro _;kernel_rfl
 ·intro _;kernel_rfl
 ·intro s x h
  have h:IY s=some x:=h
  unfold IY at h
  repeat' split at h
  all_goals cases h
  constructor<;>repeat(first|refine aa ‹_› rfl ?_|refine ab rfl ‹_› rfl ?_|rfl)
 ·intro _;kernel_rfl
 ·intro _ _;exact(And.intro rfl trivial)
section
variable (a b:Int)(c:al4)
def HZ:Int×Int×Int×Int×al4:=((0:Int),b,(0:Int),a,c)
def JM:Int:=((Lp.res fG (HZ a b c)).2.2.2).1
def JN:Bool:=allT [Lp.fin fG (HZ a b c)]
end
def TD:al6
 | [.one ⟨true,[.val (.int .i64 a),.ref 0]⟩,.one ⟨false,[.val (.int .i64 b)]⟩],[.row false 2 (.int .i64) c]=>some ⟨al9 (JM a b c),[ama c],[],[JN a b c]⟩
 |_,_=>none
def abl:PF prog:=PF.ofG prog [Vx] [fG.F] aS 57 f57 func57 (LOk.fnT (l:= [aI f57 0]) (by kernel_rfl) (.cons Uh (.nil _))) TD (by
 intro _ _ _ h;unfold TD at h;split at h<;>cases h;kernel_rfl)
def abe(n:Int)(ps:al4)(t:Int):al4:=ps.set t.toNat (Int.tmod (ps[t.toNat]?.getD 0 + 1) (3 * n))
theorem Vw(n:Int)(ps:al4)(t:Int):(abe n ps t).length=ps.length:=by simp [abe]
theorem ad9{n:Int}{ps:al4}(h:isT n ps=true)(t:Int):isT n (abe n ps t)=true:=by
 obtain⟨h1,h2,h3⟩:=gB.1 h
 refine gB.2 ⟨h1,by rw [Vw];exact h2,fun p hp=> ?_⟩
 rcases List.mem_or_eq_of_mem_set hp with hp | rfl
 ·exact h3 p hp
 ·have h0:0≤ps[t.toNat]?.getD 0:=by
   cases hg:ps[t.toNat]? with
   |none=>simp
   |some q=>exact(h3 q (List.mem_of_getElem? hg)).1
  have:=Int.emod_lt_of_pos (ps[t.toNat]?.getD 0 + 1) (show 0 < 3 * n by omega)
  have:=Int.emod_nonneg (ps[t.toNat]?.getD 0 + 1) (show 3 * n≠0 by omega)
  rw [Int.tmod_eq_emod_of_nonneg (by omega)]
  omega
def aak(n:Int)(ps:al4)(t:Int):Bool:=isT n ps&&Xa ps t
theorem Sj{n:Int}{ps:al4}{t:Int}:aak n ps t=true↔isT n ps=true∧Xa ps t=true:=by simp [aak]
theorem ady{n:Int}{ps:al4}{t:Int}(h:aak n ps t=true):IntKind.i64.wrap (3 * n)=3 * n∧IntKind.i64.wrap (ps[t.toNat]?.getD 0 + 1)=ps[t.toNat]?.getD 0 + 1∧neI (3 * n) 0=true∧
  leI 0 t=true∧ltI t ps.length=true∧ltN t.toNat ps.length=true∧leN ps.length 1048576=true∧leN 1 ps.length=true:=by
 obtain⟨hT,ht⟩:=Sj.1 h
 obtain⟨h1,h2,h3⟩:=gB.1 hT
 have h4:=Pj.1 ht
 have gm:t.toNat < ps.length:=by omega
 have hg:ps[t.toNat]?.getD 0=ps[t.toNat]:=by rw [List.getElem?_eq_getElem gm];rfl
 have h5:=h3 _ (List.getElem_mem gm)
 rw [hg]
 exact⟨aB (by omega) (by omega),aB (by omega) (by omega),aaZ (by omega),cw h4.1,cK h4.2,ip gm,iJ (by omega),iJ h2.1⟩
theorem aeW(n t:Int)(ps:al4)(h:aak n ps t=true):kA n t ps=abe n ps t∧kB n t ps=true:=by
 obtain⟨e1,e2,e3,e4,e5,e6,e7,e8⟩:=ady h
 refine⟨?_,?_⟩
 ·simp only [jR,kA,kB,e1,e2,abe]
 ·simp only [jR,kA,kB,dH,e1,e3,e4,e5,e6,e7,e8,allT,cond_true,Bool.and_self]
def wh:al6
 | [.one ⟨true,[.val (.int .i64 a),.ref 0]⟩,.one ⟨false,[.val (.int .i64 b)]⟩],[.row false 2 (.int .i64) c]=>some ⟨.one ⟨true,[al7 a,.ref 1]⟩,[ama c],[amb (abe a c b)],[aak a c b]⟩
 |_,_=>none
def dJ:PF prog:=PF.alt FV wh (by
 intro args es o h dq;unfold wh at h;split at h
 ·rename_i a b c
  cases h
  have dq:=zR dq
  have hh:=aeW a b c dq
  obtain⟨e0,en⟩:=hh
  exact uJ rfl (pM en) rfl rfl (by simp only [e0] <;> rfl)
 ·cases h)
def tg(a d b:Int):(Int)→Nat ⊕ (Int)
 |c=>(.inr (bif Qh d b a then z7 .i64 (c + (1:Int))else c))
def pa(a c:Int)(d:al4)(i:Nat):(Int)→lS
 |b=>((i:Int),a,b,c,d)
def IQ:lS→Int
 |(_,_,a,_,_)=>a
theorem YC(c f:Int)(g:al4)(e:Int)(hn:g.length≤9223372036854775807)(hT: ∀ p∈g,okP f p=true)(h4:g.length≤4)(h2:e=0):
  fG.fin ((0:Int),c,e,f,g)=true∧fG.res ((0:Int),c,e,f,g)=((fA (tg c f) 0 g 0 e).1,(pa c f g) (fA (tg c f) 0 g 0 e).2.1 (fA (tg c f) 0 g 0 e).2.2):=by
 have key:=fG.along (pa c f g) IQ (tg c f) 0 (fun i a=>0≤a∧a≤i) g e (by omega) (by simp only [fG,pa];omega) (fun i b a hb hI=> ?_) (fun a hI=> ?_)
 ·exact key
 ·obtain e:=a
  have gm:=(w7.1 hb).1
  have jL: ∀ d,z6 g[i]? d=b:=fun d=>by rw [hb];rfl
  have hw:=jv gm hn
  have Bo:ltI (i:Int) (g.length:Int)=true:=cK (by omega)
  have Vj:leI (0:Int) (i:Int)=true:=cw (by omega)
  have Lo:ltN i g.length=true:=ip gm
  refine⟨?_,?_,?_,?_⟩
  ·simp [vk,wB,zY,zZ,Aa,Ab,Ac,yA,fG,LT.nds,allT,pa,Bo,Vj,Lo,jL,hT b (List.mem_of_getElem? hb)]
  ·simp [vk,wB,zY,zZ,Aa,Ab,Ac,yA,fG,LT.each,pa,IQ,hw,hT b (List.mem_of_getElem? hb)]
  ·simp only [vk,wB,zY,zZ,Aa,Ab,Ac,yA,fG,LT.fn,pa,IQ,tg,q9,Bo,jL,cond_true]
  ·intro a' hf;simp only [tg,Sum.inr.injEq]at hf;subst hf;cases Qh f b c <;> simp only [cond_true,cond_false] <;> (try rw [aB (by omega) (by omega)]) <;> omega
 ·obtain e:=a
  simp [vk,wB,zY,zZ,Aa,Ab,Ac,yA,fG,LT.out,pa]
theorem abQ(n b:Int): ∀ (ps:al4) (a:Int),0≤a→a + ps.length≤100→ps.foldl (fun a p=>bif Qh n p b then z7 .i64 (a + (1:Int))else a) a=a + (Qr n ps b:Int)
 | [],a,_,_=>by simp [Qr]
 |p::ps,a,h0,h1=>by
  simp only [w4]at h1
  simp only [List.foldl_cons,Qr,List.countP_cons]
  cases hu:Qh n p b with
  |true=>
   rw [cond_true,aB (by omega) (by omega),abQ n b ps (a + 1) (by omega) (by omega)]
   simp only [Qr]
   simp;omega
  |false=>
   rw [cond_false,abQ n b ps a h0 (by omega)]
   simp [Qr]
theorem aid(n b:Int)(ps:al4)(h:isT n ps=true):JM n b ps=(Qr n ps b:Int)∧JN n b ps=true:=by
 have h2:=(gB.1 h).2.1
 obtain⟨w1,w2⟩:=YC b n ps 0 (by omega) (fun p hp=>abv h hp) h2.2 rfl
 rw [yW (f:=tg b n) (g:=fun a p=>bif Qh n p b then z7 .i64 (a + (1:Int))else a) (fun p a=>rfl),abQ n b ps 0 (by omega) (by omega)]at w2
 refine⟨?_,?_⟩
 ·simp only [HZ,JM,JN,w2,pa];omega
 ·simp only [HZ,JM,JN,w1,allT,cond_true]
def TN:al6
 | [.one ⟨true,[.val (.int .i64 a),.ref 0]⟩,.one ⟨false,[.val (.int .i64 b)]⟩],[.row false 2 (.int .i64) c]=>some ⟨al9 (Qr a c b:Int),[ama c],[],[isT a c]⟩
 |_,_=>none
def Bb:PF prog:=PF.alt abl TN (by
 intro args es o h dq;unfold TN at h;split at h
 ·rename_i a b c
  cases h
  have dq:=zR dq
  have hh:=aid a b c dq
  obtain⟨e0,en⟩:=hh
  exact uJ rfl (pM en) (by simp only [e0] <;> rfl) rfl rfl
 ·cases h)
abbrev fR:=Int×Int×List Int
section
variable (a b:Int)(c:al4)
def tY:Bool:=ltI a b
def tZ:Bool:=isT b c
def ua:Bool:=ltI 1 (↑(Qr b c a):Int)
def ub:Int:=z7 .i64 (a + (1:Int))
end
def Rk:fR→List (Nat×SV)
 |(a,_,_)=> [(3,(al9 a)),(1,(al8 (.ptr 0 0)))]
def Rh:fR→List (Nat×Entry)
 |(_,a,b)=> [(0,(.box 26 [al7 a,.ref 1])),(1,(ama b))]
def Rs:Nat→fR→List (Nat×SV)
 |0,(_,_,_)=> [(2,(al8 (.val (.bool false))))]
 |_,_=>[]
def sQ:fR→LT fR
 |(a,b,c)=> .ite (tY a b) (.need [tZ b c] (.ite (ua a b c) (.ext 0 [(0,0),(1,1)]) (.nrm ((ub a),b,c) [(0,0),(1,1)]))) (.ext 1 [(0,0),(1,1)])
def Ch(s:St):Option fR:=do
 let some ⟨none,.one ⟨false,[.val (.int .i64 a)]⟩⟩:=s.look 3|none
 let some ⟨none,.one ⟨false,[.ptr 128 0]⟩⟩:=s.look 1|none
 let some (.box 26 [.val (.int .i64 b),.ref 0]):=s.ent 128|none
 let some (.row false 2 (.int .i64) c):=s.ent 0|none
 some (a,b,c)
def cn:Lp fR where
 h:=⟨[7,8,9,10,13,14,15,16,2,11,12,3],[0,1],[],[]⟩
 JL:=Rk
 JE:=Rh
 XL:=Rs
 XE:=fun _=>Rh
 q:=fun j=>match j with | 0=> .ret | _=> .exit 0
 tags:= [0,1]
 lt:=sQ
 fuel:=fun(a,b,c)=>a.natAbs + b.natAbs + c.length
 fix:=fun(_,b,c) (a,_,_)=>(a,b,c)
 σ:= [(0,128),(1,0)]
 rd:=Ch
theorem Pp:LoopOk prog (fun k=>Nat.blt k Tryz.f33.ntmps) cn.F (aI f33 0):=by
 refine Lp.ok (tbl:= (T3z [Bb,rx])) (lf:= []) aS cn (by kernel_rfl) (LOk.nil _) (fun _=>rfl) (fun j _=>by unfold cn;match j with | 0=>rfl | _ + 1=>rfl) ?_ ?_ ?_ ?_ (fun _=>rfl) ?_
 ·intro _;kernel_rfl
 ·intro _;kernel_rfl
 ·intro s x h
  have h:Ch s=some x:=h
  unfold Ch at h
  repeat' split at h
  all_goals cases h
  constructor<;>repeat(first|refine aa ‹_› rfl ?_|refine ab rfl ‹_› rfl ?_|rfl)
 ·intro _;kernel_rfl
 ·intro _ _;exact(And.intro (And.intro trivial rfl) trivial)
section
variable (a:Int)(b:al4)
def Ga:Int×Int×al4:=((0:Int),a,b)
def Hw:Bool:=bif !isT a b then false else bif Nat.beq ((Lp.res cn (Ga a b)).1) 0 then false else true
def Hx:Bool:=allT [!isT a b||Lp.fin cn (Ga a b)]
end
def Nz:al6
 | [.one ⟨true,[.val (.int .i64 a),.ref 0]⟩],[.row false 2 (.int .i64) b]=>some ⟨al8 (.val (.bool (Hw a b))),[ama b],[],[Hx a b]⟩
 |_,_=>none
def VE:PF prog:=PF.ofG prog (T3z [Bb,rx]) [cn.F] aS 33 f33 func33 (LOk.fnT (l:= [aI f33 0]) (by kernel_rfl) (.cons Pp (.nil _))) Nz (by
 intro _ _ _ h;unfold Nz at h;split at h<;>cases h;kernel_rfl)
def Lm(n:Int)(ps:al4):Bool:=(List.range n.toNat).all fun b=>leI (Qr n ps (b:Int):Int) 1
def Uc(n:Int)(ps:al4):Bool:=isT n ps&&Lm n ps
def qn(a:Int)(c:al4)(b:Nat):(Unit)→Nat ⊕ (Unit)
 |_=>(bif(ltI 1 (↑(Qr a c (↑b:Int)):Int))then(.inl 0)else(.inr ()))
def mo(a:Int)(b:al4)(i:Nat):(Unit)→fR
 |_=>((i:Int),a,b)
def Ce:fR→Unit
 |(_,_,_)=>()
theorem SB(c:Int)(d:al4) (hn:c≤9223372036854775807) (hT:isT c d=true):
  cn.fin ((0:Int),c,d)=true∧cn.res ((0:Int),c,d)=((fA (qn c d) 1 (List.range c.toNat) 0 ()).1,(mo c d) (fA (qn c d) 1 (List.range c.toNat) 0 ()).2.1 (fA (qn c d) 1 (List.range c.toNat) 0 ()).2.2):=by
 have key:=cn.along (mo c d) Ce (qn c d) 1 (fun _ _=>True) (List.range c.toNat) () (by trivial) (by simp only [cn,mo,List.length_range];omega) (fun i b a hb hI=> ?_) (fun a hI=> ?_)
 ·exact key
 ·obtain⟨⟩:=a
  obtain⟨rfl,gm⟩:=OY hb
  have hw:IntKind.i64.wrap ((b:Int) + 1)=((b + 1:Nat):Int):=by rw [aB (by omega) (by omega)];omega
  have Bo:ltI (b:Int) c=true:=cK (by omega)
  have Vj:leI (0:Int) (b:Int)=true:=cw (by omega)
  refine⟨?_,?_,?_,?_⟩
  ·simp [tY,tZ,ua,ub,sQ,cn,LT.nds,allT,mo,Bo,Vj,hT]
  ·simp [tY,tZ,ua,ub,sQ,cn,LT.each,mo,Ce,hw,hT]
  ·simp only [tY,tZ,ua,ub,sQ,cn,LT.fn,mo,Ce,qn,q9,Bo,Vj,cond_true,hT]
  ·exact fun _ _=>trivial
 ·obtain⟨⟩:=a
  simp only [tY,tZ,ua,ub,sQ,cn,LT.out,mo,List.length_range,adv,ae9,cond_false]
theorem ahK(a b:Int):(!leI a b)=ltI b a:=by
 cases h:leI a b with
 |true=>have:=HM.1 h;exact(nA (by omega)).symm
 |false=>have:=ahb.1 h;exact(cK (by omega)).symm
theorem afv(n:Int)(ps:al4):Hw n ps=Uc n ps∧Hx n ps=true:=by
 simp only [Ga,Hw,Hx,Uc]
 cases hT:isT n ps with
 |false=>simp [allT]
 |true=>
  have h1:=(gB.1 hT).1
  obtain⟨w1,w2⟩:=SB n ps (by omega) hT
  rw [Ln (P:=fun b=> !leI (Qr n ps ((b:Nat):Int):Int) 1) (j:=0) (fun b=>by simp only [qn,ahK])]at w2
  have e5:((List.range n.toNat).any fun b=> !leI (Qr n ps ((b:Nat):Int):Int) 1)= !Lm n ps:=by simp [Lm,List.all_eq_not_any_not]
  rw [e5]at w2
  simp only [w1,w2,allT]
  cases Lm n ps <;> simp <;> rfl
def NC:al6
 | [.one ⟨true,[.val (.int .i64 a),.ref 0]⟩],[.row false 2 (.int .i64) b]=>some ⟨al8 (.val (.bool (Uc a b))),[ama b],[],[]⟩
 |_,_=>none
def dd:PF prog:=PF.alt VE NC (by
 intro args es o h dq;unfold NC at h;split at h
 ·rename_i a b
  cases h
  have hh:=afv a b
  obtain⟨e0,en⟩:=hh
  exact uJ rfl (pM en) (by simp only [e0] <;> rfl) rfl rfl
 ·cases h)
end Go.SX
namespace Go.SX
open Go.Proofs Go.Proofs.Tryz
def AU:PF prog:=PF.sort 87 2 (fun blk off cap zs w h1 h2 h3=>AnyM.slices_Sort_int Tryz.laysSort blk off cap zs w h1 h2 h3)
theorem ak3:Tryz.prog.globalNamed "internal/strconv.uint64pow10" =some 1:=by kernel_rfl
theorem aj0:(⟨1,192,173,.int .u64,Lib.pow10Tab⟩:GEnt)∈GT:=by
 have e:Lib.pow10Tab=alb:=by decide +kernel
 rw [e]
 exact List.mem_cons_of_mem _ (List.mem_singleton.2 rfl)
theorem afO(w:World)(k:Nat)(os:Array Obj):RowKit.Below w.heap.size w (Sort.grow (w.drewN k) os):=by
 refine⟨rfl,rfl,rfl,?_,fun b hb=> ?_⟩
 ·simp [Sort.grow,World.drewN]
 ·simp [Sort.grow,World.drewN,Array.getElem?_append_left hb]
def Xf:PF prog:=PF.itoa 112 (fun n w h0 h1 hg=>(Tryz.strconv_FormatInt_10 n h0 h1 w (akx hg aj0 ak3)).mono fun e w' ⟨he,k,os,hw⟩=>⟨he,hw ▸ afO w k os⟩)
end Go.SX
namespace Go.SX
open Go.Proofs Go.Proofs.Tryz
set_option maxRecDepth 100000
section
variable (a b:Int)(c:al4)
def dI:Int:=z6 c[w8 b]? 0
def gq:Bool:=Int.tmod (dI b c) 3!=2
def kC:al4:= [z7 .i64 (Int.tdiv (dI b c) 3),Int.tmod (z7 .i64 (z7 .i64 (Int.tdiv (dI b c) 3) + (1:Int))) a]
def ls:al4:=bif gq b c then [z7 .i64 (Int.tdiv (dI b c) 3)]else ZJ (kC a b c)
def lu:Bool:=allT [leI 0 b,ltI b (↑c.length:Int),ltN b.toNat c.length,leI 0 b,ltI b (↑c.length:Int),ltN b.toNat c.length,gq b c||neI a 0,gq b c||leN (w9 (kC a b c)) 4611686018427387903]
end
def wL:al6
 | [.one ⟨true,[.val (.int .i64 a),.ref 0]⟩,.one ⟨false,[.val (.int .i64 b)]⟩],[.row false 2 (.int .i64) c]=>some ⟨al8 (.ref 1),[ama c],[amb (ls a b c)],[lu a b c]⟩
 |_,_=>none
def Gw:PF prog:=PF.ofG prog (T3z [AU]) [] aS 66 f66 func66 (fun c _=>LOk.nil c) wL (by
 intro _ _ _ h;unfold wL at h;split at h<;>cases h;kernel_rfl)
def Ob(n p:Int):al4:=bif phs p !=2 then [blk p]else ZJ [blk p,Int.tmod (blk p + 1) n]
theorem ai1(a b:Int):ZJ [a,b]=bif leI a b then [a,b]else [b,a]:=by
 unfold ZJ
 have hp:=List.mergeSort_perm [a,b] (fun x y=>decide (x≤y))
 have hs:=List.pairwise_mergeSort (le:=fun(x y:Int)=>decide (x≤y)) (fun x y z h1 h2=>by simp at h1 h2 ⊢;omega) (fun x y=>by simp;omega) [a,b]
 generalize hm:List.mergeSort [a,b] (fun x y=>decide (x≤y))=l at hp hs
 have hl:=hp.length_eq
 match l,hl with
 | [x,y],_=>
  simp at hs
  have hx:x∈ [a,b]:=hp.subset (by simp)
  simp at hx
  rcases hx with rfl | rfl
  ·have:=(List.perm_cons x).1 hp
   rw [List.perm_singleton]at this
   simp at this;subst this
   rw [cw hs];rfl
  ·have h2:=hp.trans (List.Perm.swap x a [])
   have:=(List.perm_cons x).1 h2
   rw [List.perm_singleton]at this
   simp at this;subst this
   cases hq:leI y x with
   |false=>rfl
   |true=>
    have:=HM.1 hq;have:x=y:=by omega
    subst this;rfl
def atI(xs:al4)(t:Int):Int:=xs[t.toNat]?.getD 0
theorem aj1(n t:Int)(ps:al4)(h:aak n ps t=true):ls n t ps=Ob n (atI ps t)∧lu n t ps=true:=by
 obtain⟨e1,e2,e3,e4,e5,e6,e7,e8⟩:=ady h
 obtain⟨hT,ht⟩:=Sj.1 h
 obtain⟨h1,h2,h3⟩:=gB.1 hT
 have h4:=Pj.1 ht
 have gm:t.toNat < ps.length:=by omega
 have hg:ps[t.toNat]?.getD 0=ps[t.toNat]:=by rw [List.getElem?_eq_getElem gm];rfl
 have h5:=h3 _ (List.getElem_mem gm)
 rw [← hg]at h5
 have f1:IntKind.i64.wrap (Int.tdiv (ps[t.toNat]?.getD 0) 3)=blk (ps[t.toNat]?.getD 0):=by
  rw [Int.tdiv_eq_ediv_of_nonneg h5.1,ZR h5.1,aB (by omega) (by omega)]
 have f2:IntKind.i64.wrap (blk (ps[t.toNat]?.getD 0) + 1)=blk (ps[t.toNat]?.getD 0) + 1:=by rw [ZR h5.1,aB (by omega) (by omega)]
 have f3:neI n 0=true:=aaZ (by omega)
 refine⟨?_,?_⟩
 ·simp only [dI,gq,kC,ls,lu,f1,f2,Ob,phs,atI]
 ·simp [dI,gq,kC,ls,lu,e4,e5,e6,f3,allT]
def wO:al6
 | [.one ⟨true,[.val (.int .i64 a),.ref 0]⟩,.one ⟨false,[.val (.int .i64 b)]⟩],[.row false 2 (.int .i64) c]=>some ⟨al8 (.ref 1),[ama c],[amb (Ob a (atI c b))],[aak a c b]⟩
 |_,_=>none
def bC:PF prog:=PF.alt Gw wO (by
 intro args es o h dq;unfold wO at h;split at h
 ·rename_i a b c
  cases h
  have dq:=zR dq
  have hh:=aj1 a b c dq
  obtain⟨e0,en⟩:=hh
  exact uJ rfl (pM en) rfl rfl (by simp only [e0] <;> rfl)
 ·cases h)
theorem agP{n p:Int}(h:okP n p=true):(∀ u∈Ob n p,0≤u∧u < n)∧(Ob n p).length≤2∧ ∀ b:Nat,(Ob n p).count (b:Int)=bif Qh n p (b:Int)then 1 else 0:=by
 obtain⟨⟨h1,h2⟩,h3,h4⟩:=abA.1 h
 have hb:=ZR h3
 have hm:Int.tmod (blk p + 1) n=(blk p + 1) % n:=Int.tmod_eq_emod_of_nonneg (by rw [hb];omega)
 have hb0:0≤blk p∧blk p < n:=by rw [hb];omega
 have hm0:=Int.emod_nonneg (blk p + 1) (show n≠0 by omega)
 have hm1:=Int.emod_lt_of_pos (blk p + 1) (show 0 < n by omega)
 have Oc:(blk p + 1) % n≠blk p:=by
  by_cases hq:blk p + 1=n
  ·rw [hq,Int.emod_self];omega
  ·rw [Int.emod_eq_of_lt (by omega) (by omega)];omega
 unfold Ob Qh
 rw [hm,ai1]
 generalize (blk p + 1) % n=q at *
 generalize blk p=a at *
 cases hp:phs p==2 with
 |false=>
  simp only [bne,hp,Bool.not_false,cond_true,Bool.false_and,Bool.or_false]
  refine⟨fun u hu=>by simp at hu;omega,by simp,fun b=> ?_⟩
  simp only [List.count_cons,List.count_nil]
  cases hab:a==(b:Int) <;> simp [hab]
 |true=>
  simp only [bne,hp,Bool.not_true,cond_false,Bool.true_and]
  have key: ∀ b:Nat,(if (a==(b:Int))=true then 1 else 0) + (if (q==(b:Int))=true then 1 else 0)=(bif a==(b:Int)||q==(b:Int)then 1 else 0:Nat):=by
   intro b
   cases hab:a==(b:Int) <;> cases hqb:q==(b:Int) <;> simp
   have:=eq_of_beq hab;have:=eq_of_beq hqb;omega
  cases leI a q with
  |true=>
   refine⟨fun u hu=>by simp at hu;omega,by simp,fun b=> ?_⟩
   rw [← key b];simp [List.count_cons];omega
  |false=>
   refine⟨fun u hu=>by simp at hu;omega,by simp,fun b=> ?_⟩
   rw [← key b];simp [List.count_cons]
abbrev aM:=Int×Int×List Int×List Int
section
variable (a b:Int)(c d:al4)
def aT:Int:=z6 c[w8 a]? 0
def dQ:Bool:=ltI a b
def dR:Bool:=leI 0 a
def dS:Bool:=ltI a (↑c.length:Int)
def dU:Bool:=ltN a.toNat c.length
def cQ:Bool:=leI 0 (aT a c)
def cR:Bool:=ltI (aT a c) (↑d.length:Int)
def cS:Bool:=ltN (w8 (aT a c)) d.length
def dV:Int:=z7 .i64 (a + (1:Int))
def dW:al4:=List.set d (w8 (aT a c)) (z7 .i64 (z6 d[w8 (aT a c)]? 0 + (1:Int)))
end
def BP:aM→List (Nat×SV)
 |(a,b,_,_)=> [(20,(al9 a)),(19,(al9 b)),(18,(al8 (.ref 0))),(3,(al8 (.ref 1)))]
def BN:aM→List (Nat×Entry)
 |(_,_,a,b)=> [(0,(amb a)),(1,(amb b))]
def BT:Nat→aM→List (Nat×SV)
 |_,_=>[]
def dK:aM→LT aM
 |(a,b,c,d)=> .ite (dQ a b) (.need [dR a,dS a c,dU a c] (.need [cQ a c,cR a c d,cS a c d,cQ a c,cR a c d,cS a c d] (.nrm ((dV a),b,c,(dW a c d)) [(0,0),(1,1)]))) (.ext 0 [(0,0),(1,1)])
def mm(s:St):Option aM:=do
 let some ⟨none,.one ⟨false,[.val (.int .i64 a)]⟩⟩:=s.look 20|none
 let some ⟨none,.one ⟨false,[.val (.int .i64 b)]⟩⟩:=s.look 19|none
 let some ⟨none,.one ⟨false,[.ref 384]⟩⟩:=s.look 18|none
 let some ⟨none,.one ⟨false,[.ref 1]⟩⟩:=s.look 3|none
 let some (.row true 2 (.int .i64) c):=s.ent 384|none
 let some (.row true 2 (.int .i64) d):=s.ent 1|none
 some (a,b,c,d)
def ah:Lp aM where
 h:=⟨[21,22,23,6,24,25,26,27,28,29,30,20],[0,1],[],[]⟩
 JL:=BP
 JE:=BN
 XL:=BT
 XE:=fun _=>BN
 q:=fun j=>match j with | _=> .exit 2
 tags:= [0]
 lt:=dK
 fuel:=fun(a,b,c,d)=>a.natAbs + b.natAbs + c.length + d.length
 fix:=fun(_,b,c,_) (a,_,_,d)=>(a,b,c,d)
 σ:= [(0,384),(1,1)]
 rd:=mm
theorem AQ:LoopOk prog (memN [14,15,4,16,17,18,19,20,21,22,23,6,24,25,26,27,28,29,30,31,13]) ah.F (AP (aI f43 0) 0):=by
 refine Lp.ok (tbl:= (T3z [bC,af])) (lf:= []) aS ah (by kernel_rfl) (LOk.nil _) (fun _=>rfl) (fun _ _=>rfl) ?_ ?_ ?_ ?_ (fun _=>rfl) ?_
 ·intro _;kernel_rfl
 ·intro _;kernel_rfl
 ·intro s x h
  have h:mm s=some x:=h
  unfold mm at h
  repeat' split at h
  all_goals cases h
  constructor<;>repeat(first|refine aa ‹_› rfl ?_|refine ab rfl ‹_› rfl ?_|rfl)
 ·intro _;kernel_rfl
 ·intro _ _;exact(And.intro rfl trivial)
abbrev aR:=Int×Int×Int×List Int×List Int
section
variable (a b c:Int)(d e:al4)
def de:Int×Int×al4×al4:=((0:Int),(↑(w9 (Ob c (atI e a))):Int),Ob c (atI e a),d)
def fk:Bool:=ltI a b
def fl:Bool:=aak c e a
def fm:Bool:=Lp.fin ah (de a c d e)
def fo:Int:=z7 .i64 (a + (1:Int))
def fq:al4:=(Lp.res ah (de a c d e)).2.2.2.2
end
def DE:aR→List (Nat×SV)
 |(a,b,_,_,_)=> [(13,(al9 a)),(12,(al9 b)),(1,(al8 (.ptr 0 0))),(3,(al8 (.ref 1)))]
def DD:aR→List (Nat×Entry)
 |(_,_,a,b,c)=> [(0,(.box 26 [al7 a,.ref 2])),(1,(amb b)),(2,(ama c))]
def DG:Nat→aR→List (Nat×SV)
 |_,_=>[]
def eY:aR→LT aR
 |(a,b,c,d,e)=> .ite (fk a b) (.need [fl a c e] (.need [fm a c d e] (.nrm ((fo a),b,c,fq a c d e,e) [(0,0),(1,1),(2,2)]))) (.ext 0 [(0,0),(1,1),(2,2)])
def nJ(s:St):Option aR:=do
 let some ⟨none,.one ⟨false,[.val (.int .i64 a)]⟩⟩:=s.look 13|none
 let some ⟨none,.one ⟨false,[.val (.int .i64 b)]⟩⟩:=s.look 12|none
 let some ⟨none,.one ⟨false,[.ptr 128 0]⟩⟩:=s.look 1|none
 let some ⟨none,.one ⟨false,[.ref 384]⟩⟩:=s.look 3|none
 let some (.box 26 [.val (.int .i64 c),.ref 0]):=s.ent 128|none
 let some (.row true 2 (.int .i64) d):=s.ent 384|none
 let some (.row false 2 (.int .i64) e):=s.ent 0|none
 some (a,b,c,d,e)
def aq:Lp aR where
 h:=⟨[14,15,4,16,17,18,19,20,21,22,23,6,24,25,26,27,28,29,30,31,13],[0,1,2],[],[]⟩
 JL:=DE
 JE:=DD
 XL:=DG
 XE:=fun _=>DD
 q:=fun j=>match j with | _=> .exit 0
 tags:= [0]
 lt:=eY
 fuel:=fun(a,b,c,d,e)=>a.natAbs + b.natAbs + c.natAbs + d.length + e.length
 fix:=fun(_,b,c,_,e) (a,_,_,d,_)=>(a,b,c,d,e)
 σ:= [(0,128),(1,384),(2,0)]
 rd:=nJ
theorem CB:LoopOk prog (fun k=>Nat.blt k Tryz.f43.ntmps) aq.F (aI f43 0):=by
 refine Lp.ok (tbl:= (T3z [bC,af])) (lf:= [ah.F]) aS aq (by kernel_rfl) (LOk.allT (l:= [AP (aI f43 0) 0]) (by kernel_rfl) (.cons AQ (.nil _))) (fun _=>rfl) (fun _ _=>rfl) ?_ ?_ ?_ ?_ (fun _=>rfl) ?_
 ·intro _;kernel_rfl
 ·intro _;kernel_rfl
 ·intro s x h
  have h:nJ s=some x:=h
  unfold nJ at h
  repeat' split at h
  all_goals cases h
  constructor<;>repeat(first|refine aa ‹_› rfl ?_|refine ab rfl ‹_› rfl ?_|rfl)
 ·intro _;kernel_rfl
 ·intro _ _;exact(And.intro rfl trivial)
section
variable (a:Int)(b:al4)
def kD:Int×Int×Int×al4×al4:=((0:Int),aL b,a,z8 a.toNat (0:Int),b)
def qd:al4:=((Lp.res aq (kD a b)).2.2.2.2).1
def qe:Bool:=allT [leI 0 a,leI a a,leI ((↑(8:Nat):Int) * a) 281474976710656,leI a 9223372036854775807,Lp.fin aq (kD a b)]
end
def wM:al6
 | [.one ⟨true,[.val (.int .i64 a),.ref 0]⟩],[.row false 2 (.int .i64) b]=>some ⟨al8 (.ref 1),[ama b],[amb (qd a b)],[qe a b]⟩
 |_,_=>none
def Gx:PF prog:=PF.ofG prog (T3z [bC,af]) [aq.F] aS 43 f43 func43 (LOk.fnT (l:= [aI f43 0]) (by kernel_rfl) (.cons CB (.nil _))) wM (by
 intro _ _ _ h;unfold wM at h;split at h<;>cases h;kernel_rfl)
def pS(n:Int)(ps:al4):al4:=(List.range n.toNat).map fun(b:Nat)=>(Qr n ps (b:Int):Int)
theorem Fx(n:Int)(ps:al4):(pS n ps).length=n.toNat:=by simp [pS]
def bV(b:Int):(al4)→Nat ⊕ (al4)
 |a=>(.inr (List.set a (w8 b) (z7 .i64 (z6 a[w8 (b)]? 0 + (1:Int)))))
def bj(a:al4)(i:Nat):(al4)→aM
 |b=>((i:Int),(↑a.length:Int),a,b)
def ml:aM→al4
 |(_,_,_,a)=>a
theorem CD(c e:al4)(hn:c.length≤9223372036854775807)(hU: ∀ u∈c,0≤u∧u < (e.length:Int)):
  ah.fin ((0:Int),(↑c.length:Int),c,e)=true∧ah.res ((0:Int),(↑c.length:Int),c,e)=((fA (bV) 0 c 0 e).1,(bj c) (fA (bV) 0 c 0 e).2.1 (fA (bV) 0 c 0 e).2.2):=by
 have key:=ah.along (bj c) ml (bV) 0 (fun _ a=>a.length=e.length) c e rfl (by simp only [ah,bj];omega) (fun i b a hb hI=> ?_) (fun a hI=> ?_)
 ·exact key
 ·obtain e:=a
  have gm:=(w7.1 hb).1
  have jL: ∀ d,z6 c[i]? d=b:=fun d=>by rw [hb];rfl
  have hw:=jv gm hn
  have Bo:ltI (i:Int) (c.length:Int)=true:=cK (by omega)
  have Vj:leI (0:Int) (i:Int)=true:=cw (by omega)
  have Lo:ltN i c.length=true:=ip gm
  refine⟨?_,?_,?_,?_⟩
  ·have hu:=hU b (List.mem_of_getElem? hb)
   have e1:leI 0 b=true:=cw hu.1
   have e2:ltI b (a.length:Int)=true:=cK (by omega)
   have e3:ltN b.toNat a.length=true:=ip (by omega)
   simp only [aT,dQ,dR,dS,dU,cQ,cR,cS,dV,dW,dK,ah,LT.nds,allT,bj,q9,Bo,Vj,Lo,jL,e1,e2,e3,cond_true]
  ·simp [aT,dQ,dR,dS,dU,cQ,cR,cS,dV,dW,dK,ah,LT.each,bj,ml,hw]
  ·simp only [aT,dQ,dR,dS,dU,cQ,cR,cS,dV,dW,dK,ah,LT.fn,bj,ml,bV,q9,Bo,Vj,Lo,jL,cond_true,w5]
  ·intro a' hf;simp only [bV,Sum.inr.injEq]at hf;subst hf;simpa using hI
 ·obtain e:=a
  simp [aT,dQ,dR,dS,dU,cQ,cR,cS,dV,dW,dK,ah,LT.out,bj]
def ajs(a:al4)(u:Int):al4:=a.set u.toNat (z7 .i64 (z6 a[u.toNat]? 0 + 1))
theorem ak6(N:Nat): ∀ (us:al4) (c:Nat→Int),(∀ u∈us,0≤u∧u < (N:Int))→(∀ b,0≤c b∧c b + us.length≤1000000)→
  us.foldl ajs ((List.range N).map c)=(List.range N).map fun(b:Nat)=>c b + (us.count (b:Int):Int)
 | [],c,_,_=>by simp
 |u::us,c,hu,hc=>by
  have hu0:=hu u (by simp)
  have gm:u.toNat < N:=by omega
  have h1:ajs ((List.range N).map c) u=(List.range N).map fun(b:Nat)=>if (b:Int)=u then c b + 1 else c b:=by
   unfold ajs
   have hg:z6 ((List.range N).map c)[u.toNat]? 0=c u.toNat:=by simp [List.getElem?_map,List.getElem?_range gm]
   have hcu:=hc u.toNat
   simp only [w4]at hcu
   rw [hg,aB (by omega) (by omega)]
   refine List.ext_getElem? fun i=> ?_
   rw [List.getElem?_set]
   by_cases hi:u.toNat=i
   ·rw [if_pos hi,if_pos (by simpa using gm)]
    subst hi
    rw [List.getElem?_map,List.getElem?_range gm,Option.map_some,if_pos (by omega)]
   ·rw [if_neg hi,List.getElem?_map,List.getElem?_map]
    by_cases hiN:i < N
    ·rw [List.getElem?_range hiN,Option.map_some,Option.map_some,if_neg (by omega)]
    ·rw [List.getElem?_eq_none (by simp;omega)];rfl
  rw [List.foldl_cons,h1,ak6 N us _ (fun v hv=>hu v (by simp [hv])) (fun b=>by
   have:=hc b
   simp only [w4]at this
   split <;> omega)]
  refine List.map_congr_left fun b _=> ?_
  rw [List.count_cons]
  by_cases hb:(b:Int)=u
  ·rw [if_pos hb,if_pos (by simp [hb])];omega
  ·rw [if_neg hb,if_neg (by simp;omega)];omega
theorem ab6{n p:Int}{qs:al4}(h:okP n p=true)(hq:qs.length≤50):
  ah.fin ((0:Int),((Ob n p).length:Int),Ob n p,pS n qs)=true∧
   (ah.res ((0:Int),((Ob n p).length:Int),Ob n p,pS n qs)).2.2.2.2=pS n (qs++ [p]):=by
 obtain⟨hu,hl,hc⟩:=agP h
 have hn:=(abA.1 h).1
 obtain⟨w1,w2⟩:=CD (Ob n p) (pS n qs) (by omega) (fun u hm=>by rw [Fx];have:=hu u hm;omega)
 refine⟨w1,?_⟩
 rw [w2,yW (f:=bV) (g:=ajs) (fun b a=>rfl)]
 simp only [bj]
 unfold pS
 rw [ak6 n.toNat (Ob n p) _ (fun u hm=>by have:=hu u hm;omega) (fun b=>by
  have:Qr n qs (b:Int)≤qs.length:=List.countP_le_length
  omega)]
 refine List.map_congr_left fun b _=> ?_
 rw [hc b]
 simp only [Qr,List.countP_append,List.countP_cons,List.countP_nil]
 cases Qh n p (b:Int) <;> simp
theorem adK{ps:al4}{b:Nat}(h:b < ps.length):ps.take (b + 1)=ps.take b++ [ps[b]?.getD 0]:=by
 rw [List.take_add_one,List.getElem?_eq_getElem h];rfl
def aC(a:Int)(d:al4)(b:Nat):(al4)→Nat ⊕ (al4)
 |c=>(.inr ((Lp.res ah ((0:Int),(↑(w9 (Ob a (atI d (↑b:Int)))):Int),Ob a (atI d (↑b:Int)),c)).2.2.2.2))
def bJ(a b:Int)(d:al4)(i:Nat):(al4)→aR
 |c=>((i:Int),a,b,c,d)
def nI:aR→al4
 |(_,_,_,a,_)=>a
theorem Ey(c d:Int)(f e:al4)(hn:c≤9223372036854775807)(hl:c=(f.length:Int))(hT:isT d f=true)(h3:e=pS d []):
  aq.fin ((0:Int),c,d,e,f)=true∧aq.res ((0:Int),c,d,e,f)=((fA (aC d f) 0 (List.range c.toNat) 0 e).1,(bJ c d f) (fA (aC d f) 0 (List.range c.toNat) 0 e).2.1 (fA (aC d f) 0 (List.range c.toNat) 0 e).2.2):=by
 have key:=aq.along (bJ c d f) nI (aC d f) 0 (fun i a=>a=pS d (f.take i)) (List.range c.toNat) e (by subst h3;simp) (by simp only [aq,bJ,List.length_range];omega) (fun i b a hb hI=> ?_) (fun a hI=> ?_)
 ·exact key
 ·obtain e:=a
  obtain⟨rfl,gm⟩:=OY hb
  have hw:IntKind.i64.wrap ((b:Int) + 1)=((b + 1:Nat):Int):=by rw [aB (by omega) (by omega)];omega
  have Bo:ltI (b:Int) c=true:=cK (by omega)
  have Vj:leI (0:Int) (b:Int)=true:=cw (by omega)
  refine⟨?_,?_,?_,?_⟩
  ·have h4:=(gB.1 hT).2.1
   have hbl:b < f.length:=by omega
   have hm:aak d f (b:Int)=true:=Sj.2 ⟨hT,Pj.2 (by omega)⟩
   have hp:okP d (atI f (b:Int))=true:=abv hT (by unfold atI;rw [q9,List.getElem?_eq_getElem hbl];exact List.getElem_mem hbl)
   obtain⟨i1,i2⟩:=ab6 (qs:=f.take b) hp (by rw [List.length_take];omega)
   subst hI
   simp only [de,fk,fl,fm,fo,fq,eY,aq,LT.nds,allT,bJ,Bo,hm,i1,cond_true]
  ·simp [de,fk,fl,fm,fo,fq,eY,aq,LT.each,bJ,nI,hw]
  ·simp only [de,fk,fl,fm,fo,fq,eY,aq,LT.fn,bJ,nI,aC,q9,Bo,Vj,cond_true,w5]
  ·intro a' hf
   have h4:=(gB.1 hT).2.1
   have hbl:b < f.length:=by omega
   have hp:okP d (atI f (b:Int))=true:=abv hT (by unfold atI;rw [q9,List.getElem?_eq_getElem hbl];exact List.getElem_mem hbl)
   obtain⟨i1,i2⟩:=ab6 (qs:=f.take b) hp (by rw [List.length_take];omega)
   subst hI
   simp only [aC,i2,Sum.inr.injEq]at hf
   rw [← hf,adK hbl]
   rfl
 ·obtain e:=a
  simp only [de,fk,fl,fm,fo,fq,eY,aq,LT.out,bJ,List.length_range,adv,ae9,cond_false]
theorem aj2(n:Int)(ps:al4): ∀ (m:Nat),m≤ps.length→(∀ b,b < m→ ∀ a,a=pS n (ps.take b)→aC n ps b a= .inr (pS n (ps.take (b + 1))))→
  (fA (aC n ps) 0 (List.range m) 0 (pS n [])).2.2=pS n (ps.take m):=by
 have key: ∀ (k i s:Nat),(∀ b,b < s + k→ ∀ a,a=pS n (ps.take b)→aC n ps b a= .inr (pS n (ps.take (b + 1))))→
   (fA (aC n ps) 0 ((List.range k).map (· + s)) i (pS n (ps.take s))).2.2=pS n (ps.take (s + k)):=by
  intro k
  induction k with
  |zero=>intro i s _;rfl
  |succ k ih=>
   intro i s hb
   rw [List.range_succ_eq_map,List.map_cons,List.map_map]
   simp only [fA,Nat.zero_add]
   rw [hb s (by omega) _ rfl]
   have:=ih (i + 1) (s + 1) (fun b gm=>hb b (by omega))
   have he:List.map ((fun x=>x + s) ∘ Nat.succ) (List.range k)=(List.range k).map (· + (s + 1)):=List.map_congr_left fun x _=>by simp only [Function.comp];omega
   rw [he]
   show (fA (aC n ps) 0 ((List.range k).map (· + (s + 1))) (i + 1) (pS n (ps.take (s + 1)))).2.2=_
   rw [this]
   congr 2;omega
 intro m hm hb
 have:=key m 0 0 (by simpa using hb)
 simpa using this
theorem ai8(n:Int)(ps:al4)(hT:isT n ps=true):qd n ps=pS n ps∧qe n ps=true:=by
 have h1:=(gB.1 hT).1
 have h4:=(gB.1 hT).2.1
 have hr:z8 (w8 n) (0:Int)=pS n []:=by
  unfold pS
  refine List.ext_getElem (by simp) fun i h1 h2=>by simp [Qr]
 obtain⟨w1,w2⟩:=Ey (ps.length:Int) n ps (pS n []) (by omega) rfl hT rfl
 have hw:=aj2 n ps ps.length (Nat.le_refl _) (fun b hb a ha=>by
  have hp:okP n (atI ps (b:Int))=true:=abv hT (by unfold atI;rw [q9,List.getElem?_eq_getElem hb];exact List.getElem_mem hb)
  obtain⟨i1,i2⟩:=ab6 (qs:=ps.take b) hp (by rw [List.length_take];omega)
  subst ha
  simp only [aC,i2,adK hb]
  rfl)
 have e1:(ps.length:Int).toNat=ps.length:=by omega
 rw [e1]at w2
 refine⟨?_,?_⟩
 ·simp only [qd,kD,aL,hr,w2,bJ,hw,List.take_length]
 ·simp only [qe,kD,aL,hr,w1,allT]
  simp;omega
def wP:al6
 | [.one ⟨true,[.val (.int .i64 a),.ref 0]⟩],[.row false 2 (.int .i64) b]=>some ⟨al8 (.ref 1),[ama b],[amb (pS a b)],[isT a b]⟩
 |_,_=>none
def aJ:PF prog:=PF.alt Gx wP (by
 intro args es o h dq;unfold wP at h;split at h
 ·rename_i a b
  cases h
  have dq:=zR dq
  have hh:=ai8 a b dq
  obtain⟨e0,en⟩:=hh
  exact uJ rfl (pM en) rfl rfl (by simp only [e0] <;> rfl)
 ·cases h)
theorem afb: ∀ (xs:al4) (m:Int),leI (xs.foldl (fun m b=>bif ltI m b then b else m) m) 1=(leI m 1&&xs.all fun b=>leI b 1)
 | [],m=>by simp
 |x::xs,m=>by
  rw [List.foldl_cons,afb xs,List.all_cons]
  cases h:ltI m x with
  |true=>
   have:=Eg.1 h
   cases h1:leI x 1 with
   |true=>have:=HM.1 h1;simp [h1,cw (show m≤1 by omega)]
   |false=>simp [h1]
  |false=>
   have:=Gf.1 h
   cases h1:leI m 1 with
   |true=>have:=HM.1 h1;simp [h1,cw (show x≤1 by omega)]
   |false=>simp [h1]
def agk:al4→Int
 | []=>0
 |x::xs=>xs.foldl (fun m b=>bif ltI m b then b else m) x
theorem ajz(xs:al4)(h:1≤xs.length):leI (agk xs) 1=xs.all fun b=>leI b 1:=by
 match xs,h with
 |x::xs,_=>simp only [agk,afb,List.all_cons]
theorem akE(xs:al4)(h:(leN 1 xs.length&&leN xs.length 1048576)=true):Ci xs=agk xs∧Cj xs=true:=by
 simp only [q8,uk]at h
 match xs,h with
 |x::xs,h=>
  obtain⟨w1,w2⟩:=OU (x::xs) x (by omega)
  rw [yW (f:=jx) (g:=fun m b=>bif ltI m b then b else m) (fun b a=>by simp only [jx,ad7])]at w2
  have e0:z6 (x::xs)[w8 0]? 0=x:=rfl
  refine⟨?_,?_⟩
  ·simp only [Ci,vZ,e0,w2,fQ,agk]
   rfl
  ·simp only [Cj,vZ,e0,w1,allT]
   simp;omega
def Jw:al6
 | [.one ⟨false,[.ref 0]⟩],[.row false 2 (.int .i64) a]=>some ⟨al9 (agk a),[ama a],[],[leN 1 a.length&&leN a.length 1048576]⟩
 |_,_=>none
def Cd:PF prog:=PF.alt RF Jw (by
 intro args es o h dq;unfold Jw at h;split at h
 ·rename_i a
  cases h
  have dq:=zR dq
  have hh:=akE a dq
  obtain⟨e0,en⟩:=hh
  exact uJ rfl (pM en) (by simp only [e0] <;> rfl) rfl rfl
 ·cases h)
theorem aiZ(n:Int)(ps:al4)(hT:isT n ps=true):leI (agk (pS n ps)) 1=Lm n ps:=by
 have h1:=(gB.1 hT).1
 rw [ajz _ (by rw [Fx];omega)]
 simp only [pS,Lm,List.all_map]
 rfl
def jP(a:Int)(b:al4):Bool:=leI (agk (pS a b)) 1
def jQ(a:Int)(b:al4):Bool:=allT [isT a b,leN 1 (w9 (pS a b))&&leN (w9 (pS a b)) 1048576]
def vz:al6
 | [.one ⟨true,[.val (.int .i64 a),.ref 0]⟩],[.row false 2 (.int .i64) b]=>some ⟨al8 (.val (.bool (jP a b))),[ama b],[],[jQ a b]⟩
 |_,_=>none
def Fl:PF prog:=PF.ofG prog (T3z [Cd,aJ]) [] aS 19 f19 func19 (fun c _=>LOk.nil c) vz (by
 intro _ _ _ h;unfold vz at h;split at h<;>cases h;kernel_rfl)
theorem ahG(n:Int)(ps:al4)(h:isT n ps=true):jP n ps=Lm n ps∧jQ n ps=true:=by
 have h1:=(gB.1 h).1
 have e1:leN 1 (pS n ps).length=true:=iJ (by rw [Fx];omega)
 have e2:leN (pS n ps).length 1048576=true:=iJ (by rw [Fx];omega)
 refine⟨?_,?_⟩
 ·simp only [jP,jQ,aiZ n ps h]
 ·simp only [jP,jQ,h,e1,e2,allT,cond_true,Bool.and_self]
def vD:al6
 | [.one ⟨true,[.val (.int .i64 a),.ref 0]⟩],[.row false 2 (.int .i64) b]=>some ⟨al8 (.val (.bool (Lm a b))),[ama b],[],[isT a b]⟩
 |_,_=>none
def bq:PF prog:=PF.alt Fl vD (by
 intro args es o h dq;unfold vD at h;split at h
 ·rename_i a b
  cases h
  have dq:=zR dq
  have hh:=ahG a b dq
  obtain⟨e0,en⟩:=hh
  exact uJ rfl (pM en) (by simp only [e0] <;> rfl) rfl rfl
 ·cases h)
theorem ajv{n:Int}{ps:al4}(h:isT n ps=true):Uc n ps=Lm n ps:=by simp [Uc,h]
def fIn(n:Int)(f:Int×Int×Int):Bool:=inR f.1 0 (IntKind.i64.wrap (n - 1))&&(inR f.2.1 0 1&&inR f.2.2 0 1)
def ak2(f g:Int×Int×Int):Bool:=g.1==f.1&&g.2.1==f.2.1
def fAt(fs:al1)(b:Nat):Int×Int×Int:=fs[b]?.getD (0,0,0)
def alG(n:Int)(fs:al1)(b:Nat):Bool:= !fIn n (fAt fs b)
def alH(fs:al1)(b:Nat):Bool:=(fs.take b).any (ak2 (fAt fs b))
def okFs(n:Int)(fs:al1):Bool:=leN fs.length 8&&(List.range fs.length).all fun b=> !(alG n fs b||alH fs b)
abbrev lQ:=Int×Int×List Int×List Int
section
variable (a b:Int)(c d:al4)
def vg:Int:=z6 c[w8 a]? 0
def zu:Bool:=ltI a b
def wy:Bool:=leI 0 a
def zw:Bool:=ltI a (↑c.length:Int)
def zx:Bool:=ltN a.toNat c.length
def zy:Bool:=ltI a (↑d.length:Int)
def zA:Bool:=ltN a.toNat d.length
def zB:Int:=z7 .i64 (a + (1:Int))
def zC:al4:=List.set d a.toNat (aeU 1 (vg a c) 1 (vg a c))
end
def Wo:lQ→List (Nat×SV)
 |(a,b,_,_)=> [(17,(al9 a)),(16,(al9 b)),(15,(al8 (.ref 0))),(5,(al8 (.ref 1)))]
def Wb:lQ→List (Nat×Entry)
 |(_,_,a,b)=> [(0,(amb a)),(1,(amb b))]
def WO:Nat→lQ→List (Nat×SV)
 |_,_=>[]
def yy:lQ→LT lQ
 |(a,b,c,d)=> .ite (zu a b) (.need [wy a,zw a c,zx a c] (.need [wy a,zy a d,zA a d] (.nrm ((zB a),b,c,(zC a c d)) [(0,0),(1,1)]))) (.ext 0 [(0,0),(1,1)])
def IV(s:St):Option lQ:=do
 let some ⟨none,.one ⟨false,[.val (.int .i64 a)]⟩⟩:=s.look 17|none
 let some ⟨none,.one ⟨false,[.val (.int .i64 b)]⟩⟩:=s.look 16|none
 let some ⟨none,.one ⟨false,[.ref 640]⟩⟩:=s.look 15|none
 let some ⟨none,.one ⟨false,[.ref 448]⟩⟩:=s.look 5|none
 let some (.row true 2 (.int .i64) c):=s.ent 640|none
 let some (.row true 2 (.int .i64) d):=s.ent 448|none
 some (a,b,c,d)
def ei:Lp lQ where
 h:=⟨[18,19,20,21,6,7,22,23,24,25,26,27,17],[0,1],[],[]⟩
 JL:=Wo
 JE:=Wb
 XL:=WO
 XE:=fun _=>Wb
 q:=fun j=>match j with | _=> .exit 0
 tags:= [0]
 lt:=yy
 fuel:=fun(a,b,c,d)=>a.natAbs + b.natAbs + c.length + d.length
 fix:=fun(_,b,c,_) (a,_,_,d)=>(a,b,c,d)
 σ:= [(0,640),(1,448)]
 rd:=IV
theorem Ue:LoopOk prog (fun k=>Nat.blt k Tryz.f62.ntmps) ei.F (aI f62 0):=by
 refine Lp.ok (tbl:= (T3z [aJ,ac])) (lf:= []) aS ei (by kernel_rfl) (LOk.nil _) (fun _=>rfl) (fun _ _=>rfl) ?_ ?_ ?_ ?_ (fun _=>rfl) ?_
 ·intro _;kernel_rfl
 ·intro _;kernel_rfl
 ·intro s x h
  have h:IV s=some x:=h
  unfold IV at h
  repeat' split at h
  all_goals cases h
  constructor<;>repeat(first|refine aa ‹_› rfl ?_|refine ab rfl ‹_› rfl ?_|rfl)
 ·intro _;kernel_rfl
 ·intro _ _;exact(And.intro rfl trivial)
abbrev lR:=Int×Int×List (Int×(Int×Int))×List Int×List Int
section
variable (a b:Int)(c:ag5)(d e:al4)
def eg:Int×Int×Int:=z6 c[w8 a]? ((0:Int),(0:Int),(0:Int))
def gN:Bool:=((eg a c).2).1==0
def vh:Bool:=leI 0 ((eg a c).1)
def zD:Bool:=ltI a b
def zE:Bool:=leI 0 a
def zF:Bool:=ltI a (↑c.length:Int)
def zG:Bool:=ltN a.toNat c.length
def zH:Bool:= !gN a c||vh a c
def zI:Bool:= !gN a c||ltI ((eg a c).1) (↑d.length:Int)
def zJ:Bool:= !gN a c||ltN (w8 ((eg a c).1)) d.length
def zK:Bool:=gN a c||vh a c
def zL:Bool:=gN a c||ltI ((eg a c).1) (↑e.length:Int)
def zM:Bool:=gN a c||ltN (w8 ((eg a c).1)) e.length
def yu:Int:=z7 .i64 (a + (1:Int))
def yw:al4:=bif gN a c then List.set d (w8 ((eg a c).1)) ((eg a c).2.2)else d
def yx:al4:=bif gN a c then e else List.set e (w8 ((eg a c).1)) ((eg a c).2.2)
end
def Wp:lR→List (Nat×SV)
 |(a,b,_,_,_)=> [(34,(al9 a)),(33,(al9 b)),(32,(al8 (.ref 0))),(8,(al8 (.ptr 1 0)))]
def Wc:lR→List (Nat×Entry)
 |(_,_,a,b,c)=> [(0,(.row false 137 aba a)),(1,(.box 110 [.ref 2,.ref 3])),(2,(amb b)),(3,(amb c))]
def WP:Nat→lR→List (Nat×SV)
 |_,_=>[]
def yz:lR→LT lR
 |(a,b,c,d,e)=> .ite (zD a b) (.need [zE a,zF a c,zG a c] (.need [zH a c,zI a c d,zJ a c d,zK a c,zL a c e,zM a c e] (.nrm ((yu a),b,c,yw a c d,(yx a c e)) [(0,0),(1,1),(2,2),(3,3)]))) (.ext 0 [(0,0),(1,1),(2,2),(3,3)])
def IW(s:St):Option lR:=do
 let some ⟨none,.one ⟨false,[.val (.int .i64 a)]⟩⟩:=s.look 34|none
 let some ⟨none,.one ⟨false,[.val (.int .i64 b)]⟩⟩:=s.look 33|none
 let some ⟨none,.one ⟨false,[.ref 1]⟩⟩:=s.look 32|none
 let some ⟨none,.one ⟨false,[.ptr 1152 0]⟩⟩:=s.look 8|none
 let some (.row false 137 (.pair (.int .i64) (.pair (.int .i64) (.int .i64))) c):=s.ent 1|none
 let some (.box 110 [.ref 448,.ref 1024]):=s.ent 1152|none
 let some (.row true 2 (.int .i64) d):=s.ent 448|none
 let some (.row true 2 (.int .i64) e):=s.ent 1024|none
 some (a,b,c,d,e)
def ej:Lp lR where
 h:=⟨[35,36,37,10,38,39,40,41,42,43,44,45,46,47,48,49,50,51,52,53,54,55,34],[0,1,2,3],[],[]⟩
 JL:=Wp
 JE:=Wc
 XL:=WP
 XE:=fun _=>Wc
 q:=fun j=>match j with | _=> .exit 2
 tags:= [0]
 lt:=yz
 fuel:=fun(a,b,c,d,e)=>a.natAbs + b.natAbs + c.length + d.length + e.length
 fix:=fun(_,b,c,_,_) (a,_,_,d,e)=>(a,b,c,d,e)
 σ:= [(0,1),(1,1152),(2,448),(3,1024)]
 rd:=IW
theorem Uf:LoopOk prog (fun k=>Nat.blt k Tryz.f62.ntmps) ej.F (aI f62 1):=by
 refine Lp.ok (tbl:= (T3z [aJ,ac])) (lf:= []) aS ej (by kernel_rfl) (LOk.nil _) (fun _=>rfl) (fun _ _=>rfl) ?_ ?_ ?_ ?_ (fun _=>rfl) ?_
 ·intro _;kernel_rfl
 ·intro _;kernel_rfl
 ·intro s x h
  have h:IW s=some x:=h
  unfold IW at h
  repeat' split at h
  all_goals cases h
  constructor<;>repeat(first|refine aa ‹_› rfl ?_|refine ab rfl ‹_› rfl ?_|rfl)
 ·intro _;kernel_rfl
 ·intro _ _;exact(And.intro rfl trivial)
section
variable (a:Int)(b:al4)(c:al1)
def HJ:Int×Int×al4×al4:=((0:Int),(↑(w9 (pS a b)):Int),pS a b,z8 a.toNat (0:Int))
def yX:al4:=(Lp.res ei (HJ a b)).2.2.2.2
def Dn:Int×Int×al1×al4×al4:=((0:Int),(↑c.length:Int),c,yX a b,yX a b)
def HK:al4×al4:=(Lp.res ej (Dn a b c)).2.2.2.2
def Ol:al4:=(HK a b c).1
def Om:al4:=(HK a b c).2
def On:Bool:=allT [leI 0 a,leI a a,leI ((↑(8:Nat):Int) * a) 281474976710656,leI a 9223372036854775807,isT a b,Lp.fin ei (HJ a b),leN 1 (w9 (yX a b))&&leN (w9 (yX a b)) 1048576,Lp.fin ej (Dn a b c)]
end
def TA:al6
 | [.one ⟨true,[.val (.int .i64 a),.ref 0]⟩,.one ⟨false,[.ref 1]⟩],[.row false 2 (.int .i64) b,.row false 137 (.pair (.int .i64) (.pair (.int .i64) (.int .i64))) c]=>some ⟨.one ⟨true,[.ref 2,.ref 3]⟩,[ama b,.row false 137 aba c],[amb (Ol a b c),amb (Om a b c)],[On a b c]⟩
 |_,_=>none
def abk:PF prog:=PF.ofG prog (T3z [aJ,ac]) [ei.F,ej.F] aS 62 f62 func62 (LOk.fnT (l:= [aI f62 0,aI f62 1]) (by kernel_rfl) (.cons Ue (.cons Uf (.nil _)))) TA (by
 intro _ _ _ h;unfold TA at h;split at h<;>cases h;kernel_rfl)
section
variable (a:Int)(b c:al4)
def fh:Bool:=z6 b[w8 a]? 0==0
def oo:Bool:=bif fh a b then z6 c[w8 a]? 0==0 else false
def oq:Bool:=allT [leI 0 a,ltI a (↑b.length:Int),ltN a.toNat b.length,!(fh a b&&true)||leI 0 a,!(fh a b&&true)||ltI a (↑c.length:Int),!(fh a b&&true)||ltN a.toNat c.length]
end
def vu:al6
 | [.one ⟨true,[.ref 0,.ref 1]⟩,.one ⟨false,[.val (.int .i64 a)]⟩],[.row false 2 (.int .i64) b,.row false 2 (.int .i64) c]=>some ⟨al8 (.val (.bool (oo a b c))),[ama b,ama c],[],[oq a b c]⟩
 |_,_=>none
def oB:PF prog:=PF.ofG prog [] [] aS 86 f86 func86 (fun c _=>LOk.nil c) vu (by
 intro _ _ _ h;unfold vu at h;split at h<;>cases h;kernel_rfl)
section
variable (a b:Int)(c d e:al4)
def jz:Int:=z6 e[w8 b]? 0
def fj:Bool:=Int.tmod (jz b e) 3!=1
def jA:Int:=Int.tmod (z7 .i64 (z7 .i64 (Int.tdiv (jz b e) 3) + (1:Int))) a
def ot:Bool:=bif fj b e then true else oo (jA a b e) c d
def ou:Bool:=allT [leI 0 b,ltI b (↑e.length:Int),ltN b.toNat e.length,!(!fj b e&&true)||neI 3 0,!(!fj b e&&true)||neI a 0,!(!fj b e&&true)||oq (jA a b e) c d]
end
def vv:al6
 | [.one ⟨true,[.ref 0,.ref 1]⟩,.one ⟨true,[.val (.int .i64 a),.ref 2]⟩,.one ⟨false,[.val (.int .i64 b)]⟩],[.row false 2 (.int .i64) c,.row false 2 (.int .i64) d,.row false 2 (.int .i64) e]=>some ⟨al8 (.val (.bool (ot a b c d e))),[ama c,ama d,ama e],[],[ou a b c d e]⟩
 |_,_=>none
def Fk:PF prog:=PF.ofG prog (T3z [oB]) [] aS 64 f64 func64 (fun c _=>LOk.nil c) vv (by
 intro _ _ _ h;unfold vv at h;split at h<;>cases h;kernel_rfl)
def occ(c:Int):Int:=bif ltI c 1 then c else 1
def Yw(ch:Int)(l:al4)(f:Int×Int×Int):al4:=bif f.2.1==ch then l.set f.1.toNat f.2.2 else l
def YR(n:Int)(ps:al4):al4:=(List.range n.toNat).map fun(b:Nat)=>occ (Qr n ps (b:Int):Int)
def Cq(n:Int)(ps:al4)(fs:al1)(ch:Int):al4:=fs.foldl (Yw ch) (YR n ps)
def afm(n:Int)(a:al4):Bool:=eqI (a.length:Int) n&&a.all fun v=>inR v 0 1
theorem afu(ch:Int)(l:al4)(f:Int×Int×Int):(Yw ch l f).length=l.length:=by
 unfold Yw;cases f.2.1==ch <;> simp
theorem ON(n:Int)(ps:al4):(YR n ps).length=n.toNat:=by simp [YR]
theorem RT(ch:Int): ∀ (fs:al1) (l:al4),(fs.foldl (Yw ch) l).length=l.length
 | [],l=>rfl
 |f::fs,l=>by rw [List.foldl_cons,RT ch fs,afu]
theorem adS(n:Int)(ps:al4)(fs:al1)(ch:Int):(Cq n ps fs ch).length=n.toNat:=by
 rw [Cq,RT,ON]
def fV(n:Int)(f:Int×Int×Int):Bool:=(leI 0 f.1&&ltI f.1 n)&&((f.2.1==0||f.2.1==1)&&inR f.2.2 0 1)
def ab5(n:Int)(fs:al1):Bool:=leN fs.length 1000&&fs.all (fV n)
theorem ag8{n:Int}{fs:al1}(h:ab5 n fs=true):fs.length≤1000∧ ∀ f∈fs,(0≤f.1∧f.1 < n)∧(f.2.1=0∨f.2.1=1)∧(0≤f.2.2∧f.2.2≤1):=by
 simp only [ab5,q8,uk,List.all_eq_true]at h
 refine⟨h.1,fun f hf=> ?_⟩
 have h3:=h.2 f hf
 simp only [fV,q8,Bool.or_eq_true,beq_iff_eq,sC,HM,Eg]at h3
 exact h3
theorem alI(c:Int):aeU 1 c 1 c=occ c:=by
 simp only [ad7,occ]
 cases h:ltI 1 c <;> cases h':ltI c 1 <;> simp at h h' ⊢ <;> omega
def qD(a:al4)(b:Nat):(al4)→Nat ⊕ (al4)
 |c=>(.inr (List.set c b (aeU 1 (z6 a[b]? 0) 1 (z6 a[b]? 0))))
def oY(a:al4)(i:Nat):(al4)→lQ
 |b=>((i:Int),(↑a.length:Int),a,b)
def IM:lQ→al4
 |(_,_,_,a)=>a
theorem YA(c d:al4)(hn:c.length≤9223372036854775807)(hl:d.length=c.length):
  ei.fin ((0:Int),(↑c.length:Int),c,d)=true∧ei.res ((0:Int),(↑c.length:Int),c,d)=((fA (qD c) 0 (List.range c.length) 0 d).1,(oY c) (fA (qD c) 0 (List.range c.length) 0 d).2.1 (fA (qD c) 0 (List.range c.length) 0 d).2.2):=by
 have key:=ei.along (oY c) IM (qD c) 0 (fun _ a=>a.length=c.length) (List.range c.length) d hl (by simp only [ei,oY,List.length_range];omega) (fun i b a hb hI=> ?_) (fun a hI=> ?_)
 ·exact key
 ·obtain d:=a
  obtain⟨rfl,gm⟩:=OY hb
  have hw:IntKind.i64.wrap ((b:Int) + 1)=((b + 1:Nat):Int):=by rw [aB (by omega) (by omega)];omega
  have Bo:ltI (b:Int) (c.length:Int)=true:=cK (by omega)
  have Vj:leI (0:Int) (b:Int)=true:=cw (by omega)
  have Lo:ltN b c.length=true:=ip (by omega)
  refine⟨?_,?_,?_,?_⟩
  ·simp [vg,zu,wy,zw,zx,zy,zA,zB,zC,yy,ei,LT.nds,allT,oY,Bo,Vj,Lo,hI]
  ·simp [vg,zu,wy,zw,zx,zy,zA,zB,zC,yy,ei,LT.each,oY,IM,hw,hI]
  ·simp only [vg,zu,wy,zw,zx,zy,zA,zB,zC,yy,ei,LT.fn,oY,IM,qD,q9,Bo,cond_true]
  ·intro a' hf;simp only [qD,Sum.inr.injEq]at hf;subst hf;simpa using hI
 ·obtain d:=a
  simp [vg,zu,wy,zw,zx,zy,zA,zB,zC,yy,ei,LT.out,oY,List.length_range]
def tf(b:Int×(Int×Int)):(al4×al4)→Nat ⊕ (al4×al4)
 |(a,c)=>(.inr ((bif(b.2.1==0)then List.set a (w8 b.1) b.2.2else a),(bif(b.2.1==0)then c else List.set c (w8 b.1) b.2.2)))
def oZ(a:ag5)(i:Nat):(al4×al4)→lR
 |(b,c)=>((i:Int),(↑a.length:Int),a,b,c)
def IP:lR→al4×al4
 |(_,_,_,a,b)=>(a,b)
theorem YB(c:ag5)(e g:al4)(hn:c.length≤9223372036854775807)(n:Nat)(h3:e.length=n)(h4:g.length=n)(hf: ∀ f∈c,0≤f.1∧f.1 < (n:Int)):
  ej.fin ((0:Int),(↑c.length:Int),c,e,g)=true∧ej.res ((0:Int),(↑c.length:Int),c,e,g)=((fA (tf) 0 c 0 (e,g)).1,(oZ c) (fA (tf) 0 c 0 (e,g)).2.1 (fA (tf) 0 c 0 (e,g)).2.2):=by
 have key:=ej.along (oZ c) IP (tf) 0 (fun _ a=>a.1.length=n∧a.2.length=n) c (e,g) ⟨h3,h4⟩ (by simp only [ej,oZ];omega) (fun i b a hb hI=> ?_) (fun a hI=> ?_)
 ·exact key
 ·obtain⟨e,g⟩:=a
  have gm:=(w7.1 hb).1
  have jL: ∀ d,z6 c[i]? d=b:=fun d=>by rw [hb];rfl
  have hw:=jv gm hn
  have Bo:ltI (i:Int) (c.length:Int)=true:=cK (by omega)
  have Vj:leI (0:Int) (i:Int)=true:=cw (by omega)
  have Lo:ltN i c.length=true:=ip gm
  refine⟨?_,?_,?_,?_⟩
  ·have h5:=hf b (List.mem_of_getElem? hb)
   have hI1:=hI.1
   have hI2:=hI.2
   have h6:leI 0 b.1=true:=cw h5.1
   have h7:ltI b.1 (n:Int)=true:=cK (by omega)
   have h8:ltN b.1.toNat n=true:=ip (by omega)
   simp only at hI1 hI2
   simp [eg,gN,vh,zD,zE,zF,zG,zH,zI,zJ,zK,zL,zM,yu,yw,yx,yz,ej,LT.nds,allT,oZ,Bo,Vj,Lo,jL,h6,h7,h8,hI1,hI2]
  ·simp [eg,gN,vh,zD,zE,zF,zG,zH,zI,zJ,zK,zL,zM,yu,yw,yx,yz,ej,LT.each,oZ,IP,hw]
  ·simp only [eg,gN,vh,zD,zE,zF,zG,zH,zI,zJ,zK,zL,zM,yu,yw,yx,yz,ej,LT.fn,oZ,IP,tf,q9,Bo,Vj,Lo,jL,cond_true,w5]
  ·intro a' hf;simp only [tf,Sum.inr.injEq]at hf;subst hf;have hI1:=hI.1;have hI2:=hI.2;cases b.2.1==0 <;> simpa using ⟨hI1,hI2⟩
 ·obtain⟨e,g⟩:=a
  simp [eg,gN,vh,zD,zE,zF,zG,zH,zI,zJ,zK,zL,zM,yu,yw,yx,yz,ej,LT.out,oZ]
theorem adn: ∀ (fs:al1) (a:al4×al4),(∀ f∈fs,f.2.1=0∨f.2.1=1)→
  fs.foldl (fun a f=>(bif f.2.1==0 then a.1.set f.1.toNat f.2.2 else a.1,bif f.2.1==0 then a.2 else a.2.set f.1.toNat f.2.2)) a=(fs.foldl (Yw 0) a.1,fs.foldl (Yw 1) a.2)
 | [],a,_=>rfl
 |f::fs,a,h=>by
  simp only [List.foldl_cons]
  rw [adn fs _ (fun g hg=>h g (by simp [hg]))]
  rcases h f (by simp)with e | e <;> simp [Yw,e]
theorem acS(n:Int)(ps:al4)(fs:al1)(h:(isT n ps&&ab5 n fs)=true):
  Ol n ps fs=Cq n ps fs 0∧Om n ps fs=Cq n ps fs 1∧On n ps fs=true:=by
 simp only [q8]at h
 have h2:=(gB.1 h.1).1
 obtain⟨hl,hf⟩:=ag8 h.2
 have hr:(z8 n.toNat (0:Int)).length=(pS n ps).length:=by rw [Fx];simp
 obtain⟨w1,w2⟩:=YA (pS n ps) (z8 n.toNat (0:Int)) (by rw [Fx];omega) hr
 rw [ah2 (xs:=pS n ps) (d:=(0:Int)) (g:=occ) (f:=qD (pS n ps)) (e:=0) (fun b a=>by simp only [qD,alI]) hr]at w2
 have e1:yX n ps=YR n ps:=by
  rw [yX,HJ,w2]
  simp only [oY,pS,YR,List.map_map];rfl
 obtain⟨v1,v2⟩:=YB fs (YR n ps) (YR n ps) (by omega) n.toNat (ON n ps) (ON n ps) (fun f hm=>by have:=(hf f hm).1;omega)
 rw [yW (f:=tf) (g:=fun a f=>(bif f.2.1==0 then a.1.set f.1.toNat f.2.2 else a.1,bif f.2.1==0 then a.2 else a.2.set f.1.toNat f.2.2)) (fun b a=>rfl),adn _ _ (fun f hm=>(hf f hm).2.1)]at v2
 have e3:HK n ps fs=(Cq n ps fs 0,Cq n ps fs 1):=by
  simp only [HK,Dn,e1,v2,oZ];rfl
 refine⟨by rw [Ol,e3],by rw [Om,e3],?_⟩
 have e4:Lp.fin ej (Dn n ps fs)=true:=by simp only [Dn,e1];exact v1
 have e5:Lp.fin ei (HJ n ps)=true:=w1
 simp only [On,e4,e5,e1,h.1,ON,allT]
 simp;omega
def TM:al6
 | [.one ⟨true,[.val (.int .i64 a),.ref 0]⟩,.one ⟨false,[.ref 1]⟩],[.row false 2 (.int .i64) b,.row false 137 (.pair (.int .i64) (.pair (.int .i64) (.int .i64))) c]=>some ⟨.one ⟨true,[.ref 2,.ref 3]⟩,[ama b,.row false 137 aba c],[amb (Cq a b c 0),amb (Cq a b c 1)],[isT a b&&ab5 a c]⟩
 |_,_=>none
def Ba:PF prog:=PF.alt abk TM (by
 intro args es o h dq;unfold TM at h;split at h
 ·rename_i a b c
  cases h
  have dq:=zR dq
  have hh:=acS a b c dq
  obtain⟨e0,e1,en⟩:=hh
  exact uJ rfl (pM en) rfl rfl (by simp only [e0,e1] <;> rfl)
 ·cases h)
def MA(n:Int)(ps:al4)(t:Int):Int:=Int.tmod (blk (ps[t.toNat]?.getD 0) + 1) n
def TQ(n:Int)(ps a b:al4)(t:Int):Bool:=phs (ps[t.toNat]?.getD 0)!=1||(a[(MA n ps t).toNat]?.getD 0==0&&b[(MA n ps t).toNat]?.getD 0==0)
def VH(n:Int)(ps a b:al4)(t:Int):Bool:=aak n ps t&&(afm n a&&afm n b)
theorem agq{n t:Int}{ps a b:al4}(h:VH n ps a b t=true):
  (0≤t∧t < ps.length)∧(2≤n∧n≤8)∧(0≤MA n ps t∧MA n ps t < n)∧((a.length:Int)=n∧(b.length:Int)=n)∧
   IntKind.i64.wrap (IntKind.i64.wrap (Int.tdiv (ps[t.toNat]?.getD 0) 3) + 1)=blk (ps[t.toNat]?.getD 0) + 1∧
   (0≤a[(MA n ps t).toNat]?.getD 0∧a[(MA n ps t).toNat]?.getD 0≤1)∧(0≤b[(MA n ps t).toNat]?.getD 0∧b[(MA n ps t).toNat]?.getD 0≤1):=by
 simp only [VH,q8,Sj,afm,QC,List.all_eq_true,sC,Pj]at h
 obtain⟨⟨hT,ht⟩,⟨ha,ha2⟩,hb,hb2⟩:=h
 have h1:=gB.1 hT
 have gm:t.toNat < ps.length:=by omega
 have hp:=h1.2.2 (ps[t.toNat]) (List.getElem_mem gm)
 have e0:ps[t.toNat]?.getD 0=ps[t.toNat]:=by rw [List.getElem?_eq_getElem gm];rfl
 rw [MA,e0]
 have hb3:blk ps[t.toNat]=ps[t.toNat] / 3:=ZR hp.1
 have hb4:Int.tdiv ps[t.toNat] 3=ps[t.toNat] / 3:=Int.tdiv_eq_ediv_of_nonneg hp.1
 have hq:Int.tmod (blk ps[t.toNat] + 1) n=(ps[t.toNat] / 3 + 1) % n:=by rw [hb3,Int.tmod_eq_emod_of_nonneg (by omega)]
 have hm0:0≤(ps[t.toNat] / 3 + 1) % n:=Int.emod_nonneg _ (by omega)
 have hm1:(ps[t.toNat] / 3 + 1) % n < n:=Int.emod_lt_of_pos _ (by omega)
 rw [hq]
 have la:((ps[t.toNat] / 3 + 1) % n).toNat < a.length:=by omega
 have lb:((ps[t.toNat] / 3 + 1) % n).toNat < b.length:=by omega
 rw [List.getElem?_eq_getElem la,List.getElem?_eq_getElem lb]
 refine⟨ht,h1.1,⟨hm0,hm1⟩,⟨ha,hb⟩,?_,ha2 _ (List.getElem_mem la),hb2 _ (List.getElem_mem lb)⟩
 rw [hb4,aB (x:=ps[t.toNat] / 3) (by omega) (by omega),aB (by omega) (by omega),hb3]
theorem aeX(n t:Int)(a b ps:al4)(h:VH n ps a b t=true):ot n t a b ps=TQ n ps a b t∧ou n t a b ps=true:=by
 obtain⟨ht,hn,hx,hl,hw,ha,hb⟩:=agq h
 have e2:jA n t ps=MA n ps t:=by
  simp only [jA,jz,hw];rfl
 refine⟨?_,?_⟩
 ·simp only [ot,e2,fj,jz,oo,fh,TQ,phs]
  cases Int.tmod (ps[t.toNat]?.getD 0) 3 !=1 with
  |true=>rfl
  |false=>
   rw [cond_false,Bool.false_or]
   cases a[(MA n ps t).toNat]?.getD 0==0 <;> rfl
 ·have t1:leI 0 t=true:=cw ht.1
  have t2:ltI t (ps.length:Int)=true:=cK ht.2
  have t3:ltN t.toNat ps.length=true:=ip (by omega)
  have t4:neI n 0=true:=aaZ (by omega)
  have t4':neI (3:Int) 0=true:=aaZ (by omega)
  have t5:leI 0 (MA n ps t)=true:=cw hx.1
  have t6:ltI (MA n ps t) (a.length:Int)=true:=cK (by omega)
  have t7:ltN (MA n ps t).toNat a.length=true:=ip (by omega)
  have t8:ltI (MA n ps t) (b.length:Int)=true:=cK (by omega)
  have t9:ltN (MA n ps t).toNat b.length=true:=ip (by omega)
  simp only [ou,oq,e2,t1,t2,t3,t4,t4',t5,t6,t7,t8,t9,allT,cond_true,Bool.or_true]
def vC:al6
 | [.one ⟨true,[.ref 0,.ref 1]⟩,.one ⟨true,[.val (.int .i64 a),.ref 2]⟩,.one ⟨false,[.val (.int .i64 b)]⟩],[.row false 2 (.int .i64) c,.row false 2 (.int .i64) d,.row false 2 (.int .i64) e]=>some ⟨al8 (.val (.bool (TQ a e c d b))),[ama c,ama d,ama e],[],[VH a e c d b]⟩
 |_,_=>none
def dx:PF prog:=PF.alt Fk vC (by
 intro args es o h dq;unfold vC at h;split at h
 ·rename_i a b c d e
  cases h
  have dq:=zR dq
  have hh:=aeX a b c d e dq
  obtain⟨e0,en⟩:=hh
  exact uJ rfl (pM en) (by simp only [e0] <;> rfl) rfl rfl
 ·cases h)
theorem aji(n:Int)(ps:al4)(b:Int):inR (occ (Qr n ps b:Int)) 0 1=true:=by
 rw [sC,occ];cases h:ltI (Qr n ps b:Int) 1 <;> simp at h ⊢;omega
theorem aeE(n:Int)(ps:al4)(fs:al1)(ch:Int)(hT:isT n ps=true)(hF:ab5 n fs=true):afm n (Cq n ps fs ch)=true:=by
 have h2:=(gB.1 hT).1
 obtain⟨hl,hf⟩:=ag8 hF
 simp only [afm,q8,QC,adS]
 refine⟨by omega,?_⟩
 have key: ∀ (fs:al1) (l:al4),(∀ f∈fs,0≤f.2.2∧f.2.2≤1)→(l.all fun v=>inR v 0 1)=true→((fs.foldl (Yw ch) l).all fun v=>inR v 0 1)=true:=by
  intro fs
  induction fs with
  |nil=>intro l _ h;exact h
  |cons f fs ih=>
   intro l hv h
   rw [List.foldl_cons]
   refine ih _ (fun g hg=>hv g (by simp [hg])) ?_
   unfold Yw
   cases f.2.1==ch with
   |false=>exact h
   |true=>
    simp only [cond_true,List.all_eq_true]at h ⊢
    intro v hm
    rcases List.mem_or_eq_of_mem_set hm with h3 | rfl
    ·exact h v h3
    ·exact sC.2 (hv f (by simp))
 refine key fs _ (fun f hm=>(hf f hm).2.2) ?_
 simp only [YR,List.all_map,List.all_eq_true,Function.comp]
 intro b _;exact aji n ps b
def ajF(n:Int)(fs:al1)(ps:al4)(t:Int):Bool:=TQ n ps (Cq n ps fs 0) (Cq n ps fs 1) t
def okL(n:Int)(fs:al1):al4→al4→Bool
 | [],_=>true
 |t::ts,ps=>ajF n fs ps t&&okL n fs ts (abe n ps t)
def afB(n j:Int)(ps:al4)(f:Int):Int:=bif bif ltI f 0 then !Uc n ps else false then j else f
def acO(n:Int):al2→Int→Int→Int
 | [],_,f=>f
 |p::r,j,f=>acO n r (j + 1) (afB n j p f)
theorem ahO{n t:Int}{ps:al4}{fs:al1}(hT:isT n ps=true)(hF:ab5 n fs=true)(ht:Xa ps t=true):
  VH n ps (Cq n ps fs 0) (Cq n ps fs 1) t=true:=by
 simp only [VH,q8]
 exact⟨Sj.2 ⟨hT,ht⟩,aeE n ps fs 0 hT hF,aeE n ps fs 1 hT hF⟩
theorem ado(n:Int): ∀ (L:al2) (j f:Int),0≤f→acO n L j f=f
 | [],_,_,_=>rfl
 |p::L,j,f,h=>by
  have h1:ltI f 0=false:=nA h
  rw [acO,ado n L _ _ (by simp [afB,h1];exact h)]
  simp [afB,h1]
theorem ag3(n:Int): ∀ (L:al2) (j:Int),0≤j→(∀ p∈L,isT n p=true)→
  acO n L j (-1)=bif(L.map fun p=>(n,p)).any (fun x=> !Lm x.1 x.2)then j + (((L.map fun p=>(n,p)).takeWhile fun x=> !!Lm x.1 x.2).length:Int)else -1
 | [],_,_,_=>rfl
 |p::L,j,h,hT=>by
  have h1:ltI (-1) 0=true:=rfl
  have hp:Uc n p=Lm n p:=ajv (hT p (by simp))
  cases hs:Lm n p with
  |false=>
   rw [acO,afB,h1,hp,hs]
   simp only [cond_true,Bool.not_false]
   rw [ado n L _ _ h]
   simp [hs]
  |true=>
   rw [acO,afB,h1,hp,hs]
   simp only [cond_true,Bool.not_true,cond_false]
   rw [ag3 n L (j + 1) (by omega) fun q hq=>hT q (by simp [hq])]
   simp only [List.map_cons,List.any_cons,hs,Bool.not_true,Bool.false_or,List.takeWhile_cons,Bool.not_false,if_true,w4]
   cases (L.map fun p=>(n,p)).any (fun x=> !Lm x.1 x.2)with
   |true=>simp only [cond_true];omega
   |false=>rfl
def gi(a b c d:Int)(e:al4):Bool:=bif b==0 then bif Xa e c then d==0 else false else bif b==1 then bif bg c 0 (z7 .i64 (a - (1:Int)))then bg d 1 3 else false else false
def gj(a:Int)(b:al4):Bool:=allT [!a==0||leN b.length (9223372036854775807:Nat)]
def sk:al6
 | [.one ⟨true,[.val (.int .i64 a),.ref 0]⟩,.one ⟨true,[.val (.int .i64 b),.val (.int .i64 c),.val (.int .i64 d)]⟩],[.row false 2 (.int .i64) e]=>some ⟨al8 (.val (.bool (gi a b c d e))),[ama e],[],[gj b e]⟩
 |_,_=>none
def lw:PF prog:=PF.ofG prog (T3z [nH,oQ]) [] aS 60 f60 func60 (fun c _=>LOk.nil c) sk (by
 intro _ _ _ h;unfold sk at h;split at h<;>cases h;kernel_rfl)
def vV(a b c d:Int)(e:al4):Bool:= !gi d a b c e
def AO(a:Int)(b:al4):Bool:=allT [gj a b]
def Il:al6
 | [.one ⟨true,[.val (.int .i64 a),.val (.int .i64 b),.val (.int .i64 c)]⟩,.one ⟨false,[.ptr 0 0]⟩],[.box 26 [.val (.int .i64 d),.ref 1],.row false 2 (.int .i64) e]=>some ⟨al8 (.val (.bool (vV a b c d e))),[.box 26 [al7 d,.ref 1],ama e],[],[AO a e]⟩
 |_,_=>none
def nT:PF prog:=PF.ofG prog (T3z [lw]) [] aS 59 f59 func59 (fun c _=>LOk.nil c) Il (by
 intro _ _ _ h;unfold Il at h;split at h<;>cases h;kernel_rfl)
abbrev aP:=Int×Int×Int×List (Int×(Int×Int))×List Int
section
variable (a b c:Int)(d:ag5)(e:al4)
def aU:Int×Int×Int:=z6 d[w8 a]? ((0:Int),(0:Int),(0:Int))
def eu:Bool:=ltI a b
def ew:Bool:=leI 0 a
def ex:Bool:=ltI a (↑d.length:Int)
def ey:Bool:=ltN a.toNat d.length
def ez:Bool:=AO ((aU a d).1) e
def ir:Bool:=vV ((aU a d).1) (((aU a d).2).1) ((aU a d).2.2) c e
def iu:Int:=z7 .i64 (a + (1:Int))
end
def Cy:aP→List (Nat×SV)
 |(a,b,_,_,_)=> [(8,(al9 a)),(7,(al9 b)),(1,(al8 (.clo 59 [0]))),(0,(al8 (.ref 1)))]
def Cx:aP→List (Nat×Entry)
 |(_,_,a,b,c)=> [(0,(.box 26 [al7 a,.ref 2])),(1,(amf b)),(2,(ama c))]
def CA:Nat→aP→List (Nat×SV)
 |0,(a,_,_,_,_)=> [(4,(al9 a))]
 |_,_=>[]
def ec:aP→LT aP
 |(a,b,c,d,e)=> .ite (eu a b) (.need [ew a,ex a d,ey a d,ez a d e] (.ite (ir a c d e) (.ext 0 [(0,0),(1,1),(2,2)]) (.nrm ((iu a),b,c,d,e) [(0,0),(1,1),(2,2)]))) (.ext 1 [(0,0),(1,1),(2,2)])
def mJ(s:St):Option aP:=do
 let some ⟨none,.one ⟨false,[.val (.int .i64 a)]⟩⟩:=s.look 8|none
 let some ⟨none,.one ⟨false,[.val (.int .i64 b)]⟩⟩:=s.look 7|none
 let some ⟨none,.one ⟨false,[.clo 59 [1]]⟩⟩:=s.look 1|none
 let some ⟨none,.one ⟨false,[.ref 0]⟩⟩:=s.look 0|none
 let some (.box 26 [.val (.int .i64 c),.ref 2]):=s.ent 1|none
 let some (.row false 42 (.pair (.int .i64) (.pair (.int .i64) (.int .i64))) d):=s.ent 0|none
 let some (.row false 2 (.int .i64) e):=s.ent 2|none
 some (a,b,c,d,e)
def ag:Lp aP where
 h:=⟨[9,10,5,11,12,13,14,15,16,17,4,18,8],[0,1,2],[],[]⟩
 JL:=Cy
 JE:=Cx
 XL:=CA
 XE:=fun _=>Cx
 q:=fun j=>match j with | 0=> .ret | _=> .exit 0
 tags:= [0,1]
 lt:=ec
 fuel:=fun(a,b,c,d,e)=>a.natAbs + b.natAbs + c.natAbs + d.length + e.length
 fix:=fun(_,b,c,d,e) (a,_,_,_,_)=>(a,b,c,d,e)
 σ:= [(0,1),(1,0),(2,2)]
 rd:=mJ
theorem Bw:LoopOk prog (fun k=>Nat.blt k Tryz.f84.ntmps) ag.F (aI f84 0):=by
 refine Lp.ok (tbl:= (T3z [nT])) (lf:= []) aS ag (by kernel_rfl) (LOk.nil _) (fun _=>rfl) (fun j _=>by unfold ag;match j with | 0=>rfl | _ + 1=>rfl) ?_ ?_ ?_ ?_ (fun _=>rfl) ?_
 ·intro _;kernel_rfl
 ·intro _;kernel_rfl
 ·intro s x h
  have h:mJ s=some x:=h
  unfold mJ at h
  repeat' split at h
  all_goals cases h
  constructor<;>repeat(first|refine aa ‹_› rfl ?_|refine ab rfl ‹_› rfl ?_|rfl)
 ·intro _;kernel_rfl
 ·intro _ _;exact(And.intro (And.intro trivial rfl) trivial)
section
variable (a:al1)(b:Int)(c:al4)
def fw:Int×Int×Int×al1×al4:=((0:Int),(↑a.length:Int),b,a,c)
def oe:Bool:=Nat.beq ((Lp.res ag (fw a b c)).1) 0
def oL:Int:=bif oe a b c then ((Lp.res ag (fw a b c)).2).1else(-1:Int)
def vG:Int:=bif oe a b c then b else b
def oM:Bool:=allT [Lp.fin ag (fw a b c)]
end
def vB:al6
 | [.one ⟨false,[.ref 0]⟩,.one ⟨false,[.clo 59 [1]]⟩],[.row false 42 (.pair (.int .i64) (.pair (.int .i64) (.int .i64))) a,.box 26 [.val (.int .i64 b),.ref 2],.row false 2 (.int .i64) c]=>some ⟨al9 (oL a b c),[amf a,.box 26 [al7 (vG a b c),.ref 2],ama c],[],[oM a b c]⟩
 |_,_=>none
def oC:PF prog:=PF.ofG prog (T3z [nT]) [ag.F] aS 84 f84 func84 (LOk.fnT (l:= [aI f84 0]) (by kernel_rfl) (.cons Bw (.nil _))) vB (by
 intro _ _ _ h;unfold vB at h;split at h<;>cases h;kernel_rfl)
section
variable (a:al1)(b:Int)(c:al4)
def nu:Bool:=leI 0 (oL a b c)
def Dr:Int:=vG a b c
def nv:Bool:=allT [oM a b c]
end
def tM:al6
 | [.one ⟨false,[.ref 0]⟩,.one ⟨false,[.clo 59 [1]]⟩],[.row false 42 (.pair (.int .i64) (.pair (.int .i64) (.int .i64))) a,.box 26 [.val (.int .i64 b),.ref 2],.row false 2 (.int .i64) c]=>some ⟨al8 (.val (.bool (nu a b c))),[amf a,.box 26 [al7 (Dr a b c),.ref 2],ama c],[],[nv a b c]⟩
 |_,_=>none
def nk:PF prog:=PF.ofG prog (T3z [oC]) [] aS 58 f58 func58 (fun c _=>LOk.nil c) tM (by
 intro _ _ _ h;unfold tM at h;split at h<;>cases h;kernel_rfl)
section
variable (a:Int)(b:al4)(c:al1)
def Ke:Bool:=ltI 200 (↑c.length:Int)
def LG:Int:=bif !isT a b then(1:Int)else bif Ke c then(3:Int)else bif nu c a b then(2:Int)else(0:Int)
def LH:Bool:=allT [!isT a b||(Ke c||nv c a b)]
end
def Qu:al6
 | [.one ⟨true,[.val (.int .i64 a),.ref 0]⟩,.one ⟨false,[.ref 1]⟩],[.row false 2 (.int .i64) b,.row false 42 (.pair (.int .i64) (.pair (.int .i64) (.int .i64))) c]=>some ⟨al9 (LG a b c),[ama b,amf c],[],[LH a b c]⟩
 |_,_=>none
def Zz:PF prog:=PF.ofG prog (T3z [zb,nk]) [] aS 39 f39 func39 (fun c _=>LOk.nil c) Qu (by
 intro _ _ _ h;unfold Qu at h;split at h<;>cases h;kernel_rfl)
abbrev qt:=Int×Int×List Int×List (Int×(Int×Int))
section
variable (a b:Int)(c:al4)(d:ag5)
def fD:Int:=z6 c[w8 a]? 0
def bN:Bool:=fD a c==3
def fE:Bool:=bif fD a c==1 then true else bN a c
def fF:al1:= [(a,(0:Int),(0:Int))]
def dA:Bool:=fD a c==2
def cN:al1:=d++fF a
def cZ:al1:= [(a,(1:Int),(1:Int))]
def ee:al1:=cN a d++cZ a
def bn:al1:= [(a,(1:Int),(0:Int))]
def ef:al1:=d++cZ a
def jZ:Bool:=ltI a b
def ka:Bool:=leI 0 a
def kb:Bool:=ltI a (↑c.length:Int)
def ke:Bool:=ltN a.toNat c.length
def kf:Bool:= !fE a c||leN (w9 d + w9 (fF a)) 9223372036854775807
def kg:Bool:= !fE a c||leN ((w9 d + w9 (fF a)) * 24) 140737488355328
def kh:Bool:=fE a c
def ki:Bool:= !dA a c||leN (w9 (cN a d) + w9 (cZ a)) 9223372036854775807
def kj:Bool:= !dA a c||leN ((w9 (cN a d) + w9 (cZ a)) * 24) 140737488355328
def iG:Bool:=dA a c
def iS:Bool:= !bN a c||leN (w9 (ee a d) + w9 (bn a)) 9223372036854775807
def iT:Bool:= !bN a c||leN ((w9 (ee a d) + w9 (bn a)) * 24) 140737488355328
def ed:Bool:=bN a c
def cv:Int:=z7 .i64 (a + (1:Int))
def iU:ag5:=ee a d++bn a
def iV:ag5:=ee a d
def iW:Bool:= !bN a c||leN (w9 (cN a d) + w9 (bn a)) 9223372036854775807
def iX:Bool:= !bN a c||leN ((w9 (cN a d) + w9 (bn a)) * 24) 140737488355328
def iY:ag5:=cN a d++bn a
def iZ:ag5:=cN a d
def ja:Bool:= !dA a c||leN (w9 d + w9 (cZ a)) 9223372036854775807
def jb:Bool:= !dA a c||leN ((w9 d + w9 (cZ a)) * 24) 140737488355328
def je:Bool:= !bN a c||leN (w9 (ef a d) + w9 (bn a)) 9223372036854775807
def jf:Bool:= !bN a c||leN ((w9 (ef a d) + w9 (bn a)) * 24) 140737488355328
def jg:ag5:=ef a d++bn a
def jh:ag5:=ef a d
def ji:Bool:= !bN a c||leN (w9 d + w9 (bn a)) 9223372036854775807
def jj:Bool:= !bN a c||leN ((w9 d + w9 (bn a)) * 24) 140737488355328
def jk:ag5:=d++bn a
end
def Wn:qt→List (Nat×SV)
 |(a,b,_,_)=> [(8,(al9 a)),(7,(al9 b)),(6,(al8 (.ref 0))),(3,(al8 (.ref 1)))]
def Wa:qt→List (Nat×Entry)
 |(_,_,a,b)=> [(0,(ama a)),(1,(.row true 137 aba b))]
def WN:Nat→qt→List (Nat×SV)
 |_,(_,_,_,_)=> [(3,(al8 (.ref 1)))]
def jm:qt→LT qt
 |(a,b,c,d)=> .ite (jZ a b) (.need [ka a,kb a c,ke a c] (.need [kf a c d,kg a c d] (.ite (kh a c) (.need [ki a c d,kj a c d] (.ite (iG a c) (.need [iS a c d,iT a c d] (.ite (ed a c) (.nrm ((cv a),b,c,(iU a d)) [(0,0),(1,2112)]) (.nrm ((cv a),b,c,(iV a d)) [(0,0),(1,1600)]))) (.need [iW a c d,iX a c d] (.ite (ed a c) (.nrm ((cv a),b,c,(iY a d)) [(0,0),(1,1728)]) (.nrm ((cv a),b,c,(iZ a d)) [(0,0),(1,1088)]))))) (.need [ja a c d,jb a c d] (.ite (iG a c) (.need [je a c d,jf a c d] (.ite (ed a c) (.nrm ((cv a),b,c,(jg a d)) [(0,0),(1,1728)]) (.nrm ((cv a),b,c,(jh a d)) [(0,0),(1,1216)]))) (.need [ji a c d,jj a c d] (.ite (ed a c) (.nrm ((cv a),b,c,(jk a d)) [(0,0),(1,1344)]) (.nrm ((cv a),b,c,d) [(0,0),(1,1)])))))))) (.ext 0 [(0,0),(1,1)])
def IU(s:St):Option qt:=do
 let some ⟨none,.one ⟨false,[.val (.int .i64 a)]⟩⟩:=s.look 8|none
 let some ⟨none,.one ⟨false,[.val (.int .i64 b)]⟩⟩:=s.look 7|none
 let some ⟨none,.one ⟨false,[.ref 0]⟩⟩:=s.look 6|none
 let some ⟨none,.one ⟨false,[.ref 192]⟩⟩:=s.look 3|none
 let some (.row false 2 (.int .i64) c):=s.ent 0|none
 let some (.row true 137 (.pair (.int .i64) (.pair (.int .i64) (.int .i64))) d):=s.ent 192|none
 some (a,b,c,d)
def cf:Lp qt where
 h:=⟨[9,10,11,12,4,5,13,14,15,16,17,18,19,20,21,22,23,3,24,25,26,27,28,29,30,31,32,33,34,35,36,37,38,8],[0],[1],[]⟩
 JL:=Wn
 JE:=Wa
 XL:=WN
 XE:=fun _=>Wa
 q:=fun j=>match j with | _=> .exit 0
 tags:= [0]
 lt:=jm
 fuel:=fun(a,b,c,d)=>a.natAbs + b.natAbs + c.length + d.length
 fix:=fun(_,b,c,_) (a,_,_,d)=>(a,b,c,d)
 σ:= [(0,0),(1,192)]
 rd:=IU
theorem Ud:LoopOk prog (fun k=>Nat.blt k Tryz.f63.ntmps) cf.F (aI f63 0):=by
 refine Lp.ok (tbl:= []) (lf:= []) aS cf (by kernel_rfl) (LOk.nil _) (fun _=>rfl) (fun _ _=>rfl) ?_ ?_ ?_ ?_ (fun _=>rfl) ?_
 ·intro _;kernel_rfl
 ·intro _;kernel_rfl
 ·intro s x h
  have h:IU s=some x:=h
  unfold IU at h
  repeat' split at h
  all_goals cases h
  constructor<;>repeat(first|refine aa ‹_› rfl ?_|refine ab rfl ‹_› rfl ?_|rfl)
 ·intro _;kernel_rfl
 ·intro _ _;exact(And.intro (And.intro (And.intro (And.intro rfl rfl) (And.intro rfl rfl)) (And.intro (And.intro rfl rfl) (And.intro rfl rfl))) trivial)
section
variable (a:al4)
def MN:Int×Int×al4×al1:=((0:Int),(↑a.length:Int),a,[])
def Oj:ag5:=(Lp.res cf (MN a)).2.2.2.2
def Ok:Bool:=allT [Lp.fin cf (MN a)]
end
def Tz:al6
 | [.one ⟨false,[.ref 0]⟩],[.row false 2 (.int .i64) a]=>some ⟨al8 (.ref 1),[ama a],[.row true 137 aba (Oj a)],[Ok a]⟩
 |_,_=>none
def abj:PF prog:=PF.ofG prog [] [cf.F] aS 63 f63 func63 (LOk.fnT (l:= [aI f63 0]) (by kernel_rfl) (.cons Ud (.nil _))) Tz (by
 intro _ _ _ h;unfold Tz at h;split at h<;>cases h;kernel_rfl)
def Qs(n:Int)(ps:al4)(e:Int×Int×Int):Bool:=bif e.1==0 then Xa ps e.2.1&&e.2.2==0 else bif e.1==1 then inR e.2.1 0 (n - 1)&&inR e.2.2 1 3 else false
def PJ(n:Int)(ps:al4)(es:al1):Int:=bif isT n ps then(bif leN es.length 200 then(bif es.all (Qs n ps)then 0 else 2)else 3)else 1
def stF(b s:Int):al1:=bif s==1 then [(b,0,0)]else bif s==2 then [(b,1,1)]else bif s==3 then [(b,0,0),(b,1,0)]else []
def flA:Int→al4→al1
 |_,[]=> []
 |b,s::r=>stF b s++flA (b + 1) r
def flS(sts:al4):al1:=flA 0 sts
theorem aiM(es:al1):ltI 200 (es.length:Int)= !leN es.length 200:=by
 cases h:leN es.length 200 with
 |true=>have:=uk.1 h;exact nA (by omega)
 |false=>have:=Tj.1 h;exact cK (by omega)
theorem adr(n k i v:Int)(ps:al4)(hT:isT n ps=true):gi n k i v ps=Qs n ps (k,i,v)∧gj k ps=true:=by
 have h1:=gB.1 hT
 have hl:leN ps.length 9223372036854775807=true:=iJ (by omega)
 refine⟨?_,by simp [gj,allT,hl]⟩
 simp only [gi,bg,yS,Qs]
 rw [aB (x:=n - 1) (by omega) (by omega)]
 cases k==0 <;> cases k==1 <;> cases Xa ps i <;> cases inR i 0 (n - 1) <;> rfl
def cW(a:Int)(c:al4)(b:Int×(Int×Int)):(Unit)→Nat ⊕ (Unit)
 |_=>(bif(vV b.1 (b.2.1) b.2.2 a c)then(.inl 0)else(.inr ()))
def bt(a:Int)(b:ag5)(c:al4)(i:Nat):(Unit)→aP
 |_=>((i:Int),(↑b.length:Int),a,b,c)
def mI:aP→Unit
 |(_,_,_,_,_)=>()
theorem DC(c:Int)(e:ag5)(f:al4) (hn:e.length≤9223372036854775807) (hT:isT c f=true):
  ag.fin ((0:Int),(↑e.length:Int),c,e,f)=true∧ag.res ((0:Int),(↑e.length:Int),c,e,f)=((fA (cW c f) 1 e 0 ()).1,(bt c e f) (fA (cW c f) 1 e 0 ()).2.1 (fA (cW c f) 1 e 0 ()).2.2):=by
 have key:=ag.along (bt c e f) mI (cW c f) 1 (fun _ _=>True) e () (by trivial) (by simp only [ag,bt];omega) (fun i b a hb hI=> ?_) (fun a hI=> ?_)
 ·exact key
 ·obtain⟨⟩:=a
  have gm:=(w7.1 hb).1
  have jL: ∀ d,z6 e[i]? d=b:=fun d=>by rw [hb];rfl
  have hw:=jv gm hn
  have Bo:ltI (i:Int) (e.length:Int)=true:=cK (by omega)
  have Vj:leI (0:Int) (i:Int)=true:=cw (by omega)
  have Lo:ltN i e.length=true:=ip gm
  refine⟨?_,?_,?_,?_⟩
  ·have hg2:aU (i:Int) e=b:=by simp only [aU,q9];exact jL _
   have h5:=(adr c b.1 b.2.1 b.2.2 f hT).2
   simp [eu,ew,ex,ey,ez,ec,ag,LT.nds,allT,bt,AO,hg2,Bo,Vj,Lo,h5]
  ·simp [aU,eu,ew,ex,ey,ez,ir,iu,ec,ag,LT.each,bt,mI,hw]
  ·simp only [aU,eu,ew,ex,ey,ez,ir,iu,ec,ag,LT.fn,bt,mI,cW,q9,Bo,Vj,Lo,jL,cond_true,w5]
  ·exact fun _ _=>trivial
 ·obtain⟨⟩:=a
  simp [aU,eu,ew,ex,ey,ez,ir,iu,ec,ag,LT.out,bt]
theorem aeV(n:Int)(ps:al4)(es:al1):LG n ps es=PJ n ps es∧LH n ps es=true:=by
 simp only [LG,LH,Ke,aiM,PJ]
 cases hT:isT n ps with
 |false=>simp [allT]
 |true=>
  cases hl:leN es.length 200 with
  |false=>simp [allT]
  |true=>
   have hl':=uk.1 hl
   obtain⟨w1,w2⟩:=DC n es ps (by omega) hT
   rw [Ln (P:=fun e=> !Qs n ps e) (j:=0) (fun e=>by simp only [cW,vV,(adr n e.1 e.2.1 e.2.2 ps hT).1])]at w2
   have e5:(es.any fun e=> !Qs n ps e)= !es.all (Qs n ps):=by simp [List.all_eq_not_any_not]
   rw [e5]at w2
   have e1:Lp.fin ag (fw es n ps)=true:=w1
   have e2:ag.res (fw es n ps)=_:=w2
   simp only [nu,nv,oL,oM,oe,e2,e1,bt]
   cases es.all (Qs n ps)with
   |true=>
    have q:leI 0 (-1)=false:=rfl
    simp [allT,Nat.beq,q]
   |false=>
    simp only [Bool.not_false,cond_true,Nat.beq,allT]
    rw [cw (by omega)];simp
def Qz:al6
 | [.one ⟨true,[.val (.int .i64 a),.ref 0]⟩,.one ⟨false,[.ref 1]⟩],[.row false 2 (.int .i64) b,.row false 42 (.pair (.int .i64) (.pair (.int .i64) (.int .i64))) c]=>some ⟨al9 (PJ a b c),[ama b,amf c],[],[]⟩
 |_,_=>none
def xR:PF prog:=PF.alt Zz Qz (by
 intro args es o h dq;unfold Qz at h;split at h
 ·rename_i a b c
  cases h
  have hh:=aeV a b c
  obtain⟨e0,en⟩:=hh
  exact uJ rfl (pM en) (by simp only [e0] <;> rfl) rfl rfl
 ·cases h)
theorem acI(b s:Int):(stF b s).length≤2:=by
 unfold stF;cases s==1 <;> cases s==2 <;> cases s==3 <;> simp
def fFl(s:Int)(a:Int×al1):Nat ⊕ (Int×al1):= .inr (a.1 + 1,a.2++stF a.1 s)
theorem ag1: ∀ (r:al4) (a:Int×al1),r.foldl (fun a s=>(a.1 + 1,a.2++stF a.1 s)) a=(a.1 + r.length,a.2++flA a.1 r)
 | [],a=>by simp [flA]
 |s::r,a=>by
  rw [List.foldl_cons,ag1 r]
  simp only [flA,w4,List.append_assoc,Prod.mk.injEq,and_true]
  omega
theorem ajd(sts:al4)(hl:sts.length≤1000):cf.fin ((0:Int),(sts.length:Int),sts,[])=true∧cf.res ((0:Int),(sts.length:Int),sts,[])=(0,((sts.length:Nat):Int),(sts.length:Int),sts,flS sts):=by
 have key:=cf.along (fun i a=>((i:Int),(sts.length:Int),sts,a.2)) (fun x=>(x.1,x.2.2.2)) fFl 0 (fun i a=>a.1=(i:Int)∧a.2.length≤2 * i) sts ((0:Int),[]) ⟨rfl,by simp⟩ (by simp only [cf];omega) (fun i s a hb hI=> ?_) (fun a hI=> ?_)
 ·rw [yW (f:=fFl) (g:=fun a s=>(a.1 + 1,a.2++stF a.1 s)) (fun b a=>rfl),ag1]at key
  simpa [flS] using key
 ·obtain⟨j,acc⟩:=a
  obtain⟨rfl,hA⟩:=hI
  simp only at hA
  have gm:=(w7.1 hb).1
  have jL: ∀ d,z6 sts[i]? d=s:=fun d=>by rw [hb];rfl
  have hw:=jv gm (by omega)
  have Bo:ltI (i:Int) (sts.length:Int)=true:=cK (by omega)
  have Vj:leI (0:Int) (i:Int)=true:=cw (by omega)
  have Lo:ltN i sts.length=true:=ip gm
  have hA':acc.length≤2000:=by omega
  have hs:s=1∨s=2∨s=3∨((s==1)=false∧(s==2)=false∧(s==3)=false):=by simp;omega
  refine⟨?_,?_,?_,?_⟩
  ·rcases hs with rfl | rfl | rfl | ⟨h1,h2,h3⟩
   ·simp [fD,bN,fE,fF,dA,cN,cZ,ee,bn,ef,jZ,ka,kb,ke,kf,kg,kh,ki,kj,iG,iS,iT,ed,cv,iU,iV,iW,iX,iY,iZ,ja,jb,je,jf,jg,jh,ji,jj,jk,jm,cf,LT.nds,allT,Bo,Vj,Lo,jL];omega
   ·simp [fD,bN,fE,fF,dA,cN,cZ,ee,bn,ef,jZ,ka,kb,ke,kf,kg,kh,ki,kj,iG,iS,iT,ed,cv,iU,iV,iW,iX,iY,iZ,ja,jb,je,jf,jg,jh,ji,jj,jk,jm,cf,LT.nds,allT,Bo,Vj,Lo,jL];omega
   ·simp [fD,bN,fE,fF,dA,cN,cZ,ee,bn,ef,jZ,ka,kb,ke,kf,kg,kh,ki,kj,iG,iS,iT,ed,cv,iU,iV,iW,iX,iY,iZ,ja,jb,je,jf,jg,jh,ji,jj,jk,jm,cf,LT.nds,allT,Bo,Vj,Lo,jL];omega
   ·simp [fD,bN,fE,fF,dA,cN,cZ,ee,bn,ef,jZ,ka,kb,ke,kf,kg,kh,ki,kj,iG,iS,iT,ed,cv,iU,iV,iW,iX,iY,iZ,ja,jb,je,jf,jg,jh,ji,jj,jk,jm,cf,LT.nds,allT,Bo,Vj,Lo,jL,h1,h2,h3]
  ·simp [fD,bN,fE,fF,dA,cN,cZ,ee,bn,ef,jZ,ka,kb,ke,kf,kg,kh,ki,kj,iG,iS,iT,ed,cv,iU,iV,iW,iX,iY,iZ,ja,jb,je,jf,jg,jh,ji,jj,jk,jm,cf,LT.each,hw]
  ·rcases hs with rfl | rfl | rfl | ⟨h1,h2,h3⟩
   ·simp [fD,bN,fE,fF,dA,cN,cZ,ee,bn,ef,jZ,ka,kb,ke,kf,kg,kh,ki,kj,iG,iS,iT,ed,cv,iU,iV,iW,iX,iY,iZ,ja,jb,je,jf,jg,jh,ji,jj,jk,jm,cf,LT.fn,Bo,hw,jL,fFl,stF]
   ·simp [fD,bN,fE,fF,dA,cN,cZ,ee,bn,ef,jZ,ka,kb,ke,kf,kg,kh,ki,kj,iG,iS,iT,ed,cv,iU,iV,iW,iX,iY,iZ,ja,jb,je,jf,jg,jh,ji,jj,jk,jm,cf,LT.fn,Bo,hw,jL,fFl,stF]
   ·simp [fD,bN,fE,fF,dA,cN,cZ,ee,bn,ef,jZ,ka,kb,ke,kf,kg,kh,ki,kj,iG,iS,iT,ed,cv,iU,iV,iW,iX,iY,iZ,ja,jb,je,jf,jg,jh,ji,jj,jk,jm,cf,LT.fn,Bo,hw,jL,fFl,stF]
   ·simp [fD,bN,fE,fF,dA,cN,cZ,ee,bn,ef,jZ,ka,kb,ke,kf,kg,kh,ki,kj,iG,iS,iT,ed,cv,iU,iV,iW,iX,iY,iZ,ja,jb,je,jf,jg,jh,ji,jj,jk,jm,cf,LT.fn,Bo,hw,jL,fFl,stF,h1,h2,h3]
  ·intro a' hf
   simp only [fFl,Sum.inr.injEq]at hf
   subst hf
   have h2:=acI (i:Int) s
   refine⟨by simp,?_⟩
   simp only [w3];omega
 ·obtain⟨j,acc⟩:=a
  simp [fD,bN,fE,fF,dA,cN,cZ,ee,bn,ef,jZ,ka,kb,ke,kf,kg,kh,ki,kj,iG,iS,iT,ed,cv,iU,iV,iW,iX,iY,iZ,ja,jb,je,jf,jg,jh,ji,jj,jk,jm,cf,LT.out]
theorem ahB(sts:al4)(h:leN sts.length 1000=true):Oj sts=flS sts∧Ok sts=true:=by
 obtain⟨w1,w2⟩:=ajd sts (uk.1 h)
 simp only [Oj,Ok,MN,w1,w2,allT,cond_true,and_self]
def TL:al6
 | [.one ⟨false,[.ref 0]⟩],[.row false 2 (.int .i64) a]=>some ⟨al8 (.ref 1),[ama a],[.row true 137 aba (flS a)],[leN a.length 1000]⟩
 |_,_=>none
def AZ:PF prog:=PF.alt abj TL (by
 intro args es o h dq;unfold TL at h;split at h
 ·rename_i a
  cases h
  have dq:=zR dq
  have hh:=ahB a dq
  obtain⟨e0,en⟩:=hh
  exact uJ rfl (pM en) rfl rfl (by simp only [e0] <;> rfl)
 ·cases h)
theorem aiu(n:Int): ∀ (sts:al4) (b:Int),0≤b→b + sts.length≤n→(flA b sts).length≤2 * sts.length∧ ∀ f∈flA b sts,fV n f=true
 | [],b,_,_=>by simp [flA]
 |s::r,b,h0,h1=>by
  simp only [w4]at h1
  obtain⟨a1,a2⟩:=aiu n r (b + 1) (by omega) (by omega)
  have h2:=acI b s
  refine⟨by simp only [flA,w3,w4];omega,fun f hf=> ?_⟩
  simp only [flA,List.mem_append]at hf
  rcases hf with hf | hf
  ·have hb0:leI 0 b=true:=cw h0
   have hb1:ltI b n=true:=cK (by omega)
   simp only [stF]at hf
   have q:inR 0 0 1=true:=by decide
   have q1:inR 1 0 1=true:=by decide
   cases h1:s==1 <;> cases h2:s==2 <;> cases h3:s==3 <;> rw [h1]at hf <;> (try rw [h2]at hf) <;> (try rw [h3]at hf) <;> simp at hf <;> (try rcases hf with rfl | rfl) <;> simp [fV,hb0,hb1,q,q1]
  ·exact a2 f hf
theorem aku{n:Int}{sts:al4}(hn:n≤8)(h:(sts.length:Int)≤n):ab5 n (flS sts)=true:=by
 obtain⟨a1,a2⟩:=aiu n sts 0 (by omega) (by omega)
 simp only [ab5,q8,uk,List.all_eq_true]
 exact⟨by show (flA 0 sts).length≤1000;omega,a2⟩
section
variable (a b c d:Int)(e f:al4)
def zt:Bool:= !TQ d f (Cq d f (flS e) 0) (Cq d f (flS e) 1) b
def th:Bool:=z6 e[w8 b]? 0!=bif c==3 then(1:Int)else(0:Int)
def Zc:Bool:=bif a==0 then bif zt b d e f then false else true else bif th b c e then false else true
def Zd:Int:=bif a==0 then bif zt b d e f then d else d else bif th b c e then d else d
def Ze:al4:=bif a==0 then bif zt b d e f then e else e else bif th b c e then e else List.set e b.toNat c
def Zf:al4:=bif a==0 then bif zt b d e f then f else abe d f b else bif th b c e then f else f
def Zg:Bool:=allT [!a==0||leN e.length (1000:Nat),!a==0||isT d f&&ab5 d (flS e),!a==0||VH d f (Cq d f (flS e) 0) (Cq d f (flS e) 1) b,!a==0||(zt b d e f||aak d f b),a==0||leI 0 b,a==0||ltI b (↑e.length:Int),a==0||ltN b.toNat e.length,a==0||(th b c e||leI 0 b),a==0||(th b c e||ltI b (↑e.length:Int)),a==0||(th b c e||ltN b.toNat e.length)]
end
def Qv:al6
 | [.one ⟨false,[.ptr 0 0]⟩,.one ⟨false,[.ref 1]⟩,.one ⟨true,[.val (.int .i64 a),.val (.int .i64 b),.val (.int .i64 c)]⟩],[.box 26 [.val (.int .i64 d),.ref 2],.row true 2 (.int .i64) e,.row true 2 (.int .i64) f]=>some ⟨al8 (.val (.bool (Zc a b c d e f))),[.box 26 [al7 (Zd a b c d e f),.ref 3],amb (Ze a b c d e f),.gone],[amb (Zf a b c d e f)],[Zg a b c d e f]⟩
 |_,_=>none
def xS:PF prog:=PF.ofG prog (T3z [Ba,dx,AZ,dJ]) [] aS 41 f41 func41 (fun c _=>LOk.nil c) Qv (by
 intro _ _ _ h;unfold Qv at h;split at h<;>cases h;kernel_rfl)
section
variable (a b c d:Int)(e f:al4)
def oP:Bool:= !TQ d f (Cq d f (flS e) 0) (Cq d f (flS e) 1) b
def jF:Bool:=z6 e[w8 b]? 0!=bif c==3 then(1:Int)else(0:Int)
def tQ:Bool:=bif a==0 then bif oP b d e f then false else true else bif jF b c e then false else true
def tR:Int:=bif a==0 then bif oP b d e f then d else d else bif jF b c e then d else d
def tS:al4:=bif a==0 then bif oP b d e f then e else e else bif jF b c e then e else List.set e b.toNat c
def tT:al4:=bif a==0 then bif oP b d e f then f else abe d f b else bif jF b c e then f else f
def tU:Bool:=allT [!a==0||leN e.length (1000:Nat),!a==0||isT d f&&ab5 d (flS e),!a==0||VH d f (Cq d f (flS e) 0) (Cq d f (flS e) 1) b,!a==0||(oP b d e f||aak d f b),a==0||leI 0 b,a==0||ltI b (↑e.length:Int),a==0||ltN b.toNat e.length,a==0||(jF b c e||leI 0 b),a==0||(jF b c e||ltI b (↑e.length:Int)),a==0||(jF b c e||ltN b.toNat e.length)]
end
def Lc:al6
 | [.one ⟨false,[.ptr 0 0]⟩,.one ⟨false,[.ref 1]⟩,.one ⟨true,[.val (.int .i64 a),.val (.int .i64 b),.val (.int .i64 c)]⟩],[.box 26 [.val (.int .i64 d),.ref 2],.row true 2 (.int .i64) e,.row false 2 (.int .i64) f]=>some ⟨al8 (.val (.bool (tQ a b c d e f))),[.box 26 [al7 (tR a b c d e f),.ref 3],amb (tS a b c d e f),ama f],[ama (tT a b c d e f)],[tU a b c d e f]⟩
 |_,_=>none
def qp:PF prog:=PF.ofG prog (T3z [Ba,dx,AZ,dJ]) [] aS 41 f41 func41 (fun c _=>LOk.nil c) Lc (by
 intro _ _ _ h;unfold Lc at h;split at h<;>cases h;kernel_rfl)
abbrev tN:=Int×Int×List (Int×(Int×Int))×List Int×Int×List (Int×(List Int))×List Int
section
variable (a b:Int)(c:ag5)(d:al4)(e:Int)(f:af9)(g:al4)
def dB:Int×Int×Int:=z6 c[w8 a]? ((0:Int),(0:Int),(0:Int))
def Gd:Int:=tR ((dB a c).1) (((dB a c).2).1) ((dB a c).2.2) e d g
def LJ:al4:=tT ((dB a c).1) (((dB a c).2).1) ((dB a c).2.2) e d g
def Bs:ag6:= [(Gd a c d e g,LJ a c d e g)]
def HI:Bool:=ltI a b
def RY:Bool:=leI 0 a
def RZ:Bool:=ltI a (↑c.length:Int)
def Sa:Bool:=ltN a.toNat c.length
def Sb:Bool:=tU ((dB a c).1) (((dB a c).2).1) ((dB a c).2.2) e d g
def MO:Bool:= !tQ ((dB a c).1) (((dB a c).2).1) ((dB a c).2.2) e d g
def MP:al4:=tS ((dB a c).1) (((dB a c).2).1) ((dB a c).2.2) e d g
def MQ:Int:=Gd a c d e g
def MR:al4:=LJ a c d e g
def Sc:Bool:=leN (w9 f + w9 (Bs a c d e g)) 9223372036854775807
def QF:Bool:=leN ((w9 f + w9 (Bs a c d e g)) * 32) 140737488355328
def QG:Int:=z7 .i64 (a + (1:Int))
def QH:af9:=f++Bs a c d e g
end
def YK:tN→List (Nat×SV)
 |(a,b,_,_,_,_,_)=> [(27,(al9 a)),(26,(al9 b)),(25,(al8 (.ref 0))),(9,(al8 (.ref 1))),(2,(al8 (.ptr 2 0))),(8,(al8 (.ref 3)))]
def YI:tN→List (Nat×Entry)
 |(_,_,a,b,c,d,e)=> [(0,(amf a)),(1,(amb b)),(2,(.box 26 [al7 c,.ref 4])),(3,(amp d)),(4,(ama e))]
def YO:Nat→tN→List (Nat×SV)
 |0,(_,_,_,_,_,_,_)=> [(4,(al8 (.ref 5))),(5,(al8 (.ref 6))),(6,(al9 5))]
 |_,(_,_,_,_,_,_,_)=> [(8,(al8 (.ref 3)))]
def YM:Nat→tN→List (Nat×Entry)
 |0,(a,_,b,c,d,e,f)=> [(0,(amf b)),(1,(amb (MP a b c d f))),(2,(.box 26 [al7 (MQ a b c d f),.ref 7])),(3,(amp e)),(4,(ama f)),(5,(amp [])),(6,(amb [])),(7,(ama (MR a b c d f)))]
 |_,(_,_,b,c,d,e,f)=> [(0,(amf b)),(1,(amb c)),(2,(.box 26 [al7 d,.ref 4])),(3,(amp e)),(4,(ama f))]
def Bx:tN→LT tN
 |(a,b,c,d,e,f,g)=> .ite (HI a b) (.need [RY a,RZ a c,Sa a c] (.need [Sb a c d e g] (.ite (MO a c d e g) (.ext 0 [(0,0),(1,1),(2,2),(3,3),(4,4),(5,640),(6,704),(7,512)]) (.need [Sc a c d e f g,QF a c d e f g] (.nrm ((QG a),b,c,MP a c d e g,MQ a c d e g,QH a c d e f g,(MR a c d e g)) [(0,0),(1,1),(2,2),(3,832),(4,512)]))))) (.ext 1 [(0,0),(1,1),(2,2),(3,3),(4,4)])
def LZ(s:St):Option tN:=do
 let some ⟨none,.one ⟨false,[.val (.int .i64 a)]⟩⟩:=s.look 27|none
 let some ⟨none,.one ⟨false,[.val (.int .i64 b)]⟩⟩:=s.look 26|none
 let some ⟨none,.one ⟨false,[.ref 1]⟩⟩:=s.look 25|none
 let some ⟨none,.one ⟨false,[.ref 1344]⟩⟩:=s.look 9|none
 let some ⟨none,.one ⟨false,[.ptr 192 0]⟩⟩:=s.look 2|none
 let some ⟨none,.one ⟨false,[.ref 1088]⟩⟩:=s.look 8|none
 let some (.row false 42 (.pair (.int .i64) (.pair (.int .i64) (.int .i64))) c):=s.ent 1|none
 let some (.row true 2 (.int .i64) d):=s.ent 1344|none
 let some (.box 26 [.val (.int .i64 e),.ref 896]):=s.ent 192|none
 let some (.row true 26 (.pair (.int .i64) (.sl 2 (.int .i64))) f):=s.ent 1088|none
 let some (.row false 2 (.int .i64) g):=s.ent 896|none
 some (a,b,c,d,e,f,g)
def dE:Lp tN where
 h:=⟨[28,29,30,11,31,32,33,34,4,5,6,35,36,37,38,8,39,27],[0,1,2],[3,4],[5,6,7]⟩
 JL:=YK
 JE:=YI
 XL:=YO
 XE:=YM
 q:=fun j=>match j with | 0=> .ret | _=> .exit 0
 tags:= [0,1]
 lt:=Bx
 fuel:=fun(a,b,c,d,e,f,g)=>a.natAbs + b.natAbs + c.length + d.length + e.natAbs + f.length + g.length
 fix:=fun(_,b,c,_,_,_,_) (a,_,_,d,e,f,g)=>(a,b,c,d,e,f,g)
 σ:= [(0,1),(1,1344),(2,192),(3,1088),(4,896)]
 rd:=LZ
theorem Xc:LoopOk prog (fun k=>Nat.blt k Tryz.f16.ntmps) dE.F (aI f16 0):=by
 refine Lp.ok (tbl:= (T3z [xR,xS,bv,qp])) (lf:= []) aS dE (by kernel_rfl) (LOk.nil _) (fun _=>rfl) (fun j _=>by unfold dE;match j with | 0=>rfl | _ + 1=>rfl) ?_ ?_ ?_ ?_ (fun _=>rfl) ?_
 ·intro _;kernel_rfl
 ·intro _;kernel_rfl
 ·intro s x h
  have h:LZ s=some x:=h
  unfold LZ at h
  repeat' split at h
  all_goals cases h
  constructor<;>repeat(first|refine aa ‹_› rfl ?_|refine ab rfl ‹_› rfl ?_|rfl)
 ·intro _;kernel_rfl
 ·intro _ _;exact(And.intro (And.intro trivial rfl) trivial)
section
variable (a:Int)(b:al4)(c:al1)
def sN:Bool:=PJ a b c !=0
def Hg:Int×Int×al1×al4×Int×ag6×al4:=((0:Int),(↑c.length:Int),c,z8 a.toNat (0:Int),a,[(a,b)],b)
def LI:Bool:=Nat.beq ((Lp.res dE (Hg a b c)).1) 0
def Pl:al4×Int×ag6×al4:=(Lp.res dE (Hg a b c)).2.2.2.2
def Ru:Int:=bif sN a b c then PJ a b c else bif LI a b c then(5:Int)else(0:Int)
def Rv:af9:=bif sN a b c then []else bif LI a b c then []else ((Pl a b c).2.2).1
def Rw:al4:=bif sN a b c then []else bif LI a b c then []else (Pl a b c).1
def Rx:Bool:=allT [sN a b c||dH b,sN a b c||leI 0 a,sN a b c||leI a a,sN a b c||leI ((↑(8:Nat):Int) * a) 281474976710656,sN a b c||leI a 9223372036854775807,sN a b c||Lp.fin dE (Hg a b c)]
end
def Xj:al6
 | [.one ⟨true,[.val (.int .i64 a),.ref 0]⟩,.one ⟨false,[.ref 1]⟩],[.row false 2 (.int .i64) b,.row false 42 (.pair (.int .i64) (.pair (.int .i64) (.int .i64))) c]=>some ⟨.tup [⟨false,[.ref 2]⟩,⟨false,[.ref 3]⟩,⟨false,[al7 (Ru a b c)]⟩],[ama b,amf c],[amp (Rv a b c),amb (Rw a b c)],[Rx a b c]⟩
 |_,_=>none
def acY:PF prog:=PF.ofG prog (T3z [xR,xS,bv,qp]) [dE.F] aS 16 f16 func16 (LOk.fnT (l:= [aI f16 0]) (by kernel_rfl) (.cons Xc (.nil _))) Xj (by
 intro _ _ _ h;unfold Xj at h;split at h<;>cases h;kernel_rfl)
def rvB(n:Int)(s:al4×al4)(e:Int×Int×Int):Bool:=bif e.1==0 then ajF n (flS s.2) s.1 e.2.1 else(s.2[e.2.1.toNat]?.getD 0)==(bif e.2.2==3 then 1 else 0)
def rvN(n:Int)(s:al4×al4)(e:Int×Int×Int):al4×al4:=bif e.1==0 then(abe n s.1 e.2.1,s.2)else(s.1,s.2.set e.2.1.toNat e.2.2)
def Xh(n:Int):al1→al4×al4→Bool
 | [],_=>true
 |e::r,s=>rvB n s e&&Xh n r (rvN n s e)
def aaC(n:Int):al1→al4×al4→al2
 | [],s=> [s.1]
 |e::r,s=>s.1::aaC n r (rvN n s e)
def ZG(n:Int)(es:al1)(s:al4×al4):al4×al4:=es.foldl (rvN n) s
def rv0(n:Int)(ps:al4):al4×al4:=(ps,z8 n.toNat 0)
def Jh(n:Int)(ps:al4)(es:al1):Int:=bif eqI (PJ n ps es) 0 then(bif Xh n es (rv0 n ps)then 0 else 5)else PJ n ps es
def PI(n:Int)(ps:al4)(es:al1):Bool:=eqI (Jh n ps es) 0
def rvF(n:Int)(ps:al4)(es:al1):Int:=bif PI n ps es then acO n (aaC n es (rv0 n ps)) 0 (-1)else 0
def rvS(n:Int)(ps:al4)(es:al1):al4:=bif PI n ps es then(ZG n es (rv0 n ps)).2 else []
def rvL(n:Int)(ps:al4)(es:al1):ag6:=bif PI n ps es then(aaC n es (rv0 n ps)).map fun p=>(n,p)else []
theorem af1{n:Int}{ps:al4}{k i v:Int}(h:Qs n ps (k,i,v)=true):(k=0∧Xa ps i=true∧v=0)∨(k=1∧(0≤i∧i≤n - 1)∧(1≤v∧v≤3)):=by
 simp only [Qs]at h
 cases h0:k==0 with
 |true=>
  rw [h0]at h
  simp only [cond_true,q8,beq_iff_eq]at h
  exact .inl ⟨by simpa using h0,h.1,h.2⟩
 |false=>
  rw [h0]at h
  cases h1:k==1 with
  |true=>
   rw [h1]at h
   simp only [cond_true,cond_false,q8,sC]at h
   exact .inr ⟨by simpa using h1,h.1,h.2⟩
  |false=>rw [h1]at h;simp at h
theorem aft{n:Int}{ps:al4}{es:al1}(h:eqI (PJ n ps es) 0=true):isT n ps=true∧es.length≤200∧ ∀ e∈es,Qs n ps e=true:=by
 simp only [PJ]at h
 cases hT:isT n ps with
 |false=>rw [hT]at h;simp [eqI]at h
 |true=>
  cases hl:leN es.length 200 with
  |false=>rw [hT,hl]at h;simp [eqI]at h
  |true=>
   cases ha:es.all (Qs n ps)with
   |false=>rw [hT,hl,ha]at h;simp [eqI]at h
   |true=>exact⟨rfl,uk.1 hl,List.all_eq_true.1 ha⟩
theorem aix{ps qs:al4}{t:Int}(h:Xa ps t=true)(hl:qs.length=ps.length):Xa qs t=true:=by
 have:=Pj.1 h;exact Pj.2 (by omega)
theorem akL(n k t v:Int)(ps sts:al4)(h:k=0∨k=1):
  tQ k t v n sts ps=rvB n (ps,sts) (k,t,v)∧tR k t v n sts ps=n∧
  (rvB n (ps,sts) (k,t,v)=true→tS k t v n sts ps=(rvN n (ps,sts) (k,t,v)).2∧tT k t v n sts ps=(rvN n (ps,sts) (k,t,v)).1):=by
 rcases h with rfl | rfl
 ·simp only [tQ,tR,tS,tT,oP,rvB,rvN,ajF,beq_self_eq_true,cond_true]
  cases TQ n ps (Cq n ps (flS sts) 0) (Cq n ps (flS sts) 1) t <;> simp
 ·simp only [tQ,tR,tS,tT,jF,rvB,rvN,Int.reduceBEq,cond_false,bne]
  cases (sts[t.toNat]?.getD 0==bif v==3 then(1:Int)else 0) <;> simp
def fI(n:Int)(e:Int×Int×Int)(a:ag6×al4×al4):Nat ⊕ (ag6×al4×al4):=bif rvB n a.2 e then .inr (a.1++ [(n,(rvN n a.2 e).1)],rvN n a.2 e)else .inl 0
theorem aje(n:Int)(ps:al4)(es:al1)(sts:al4)(hT:isT n ps=true)(hl:es.length≤200)(he: ∀ e∈es,Qs n ps e=true)(hs:(sts.length:Int)=n)(l0:ag6)(h0:l0.length=1):
  dE.fin ((0:Int),(es.length:Int),es,sts,n,l0,ps)=true∧dE.res ((0:Int),(es.length:Int),es,sts,n,l0,ps)=
   ((fA (fI n) 1 es 0 (l0,ps,sts)).1,(((fA (fI n) 1 es 0 (l0,ps,sts)).2.1:Int),(es.length:Int),es,(fA (fI n) 1 es 0 (l0,ps,sts)).2.2.2.2,n,(fA (fI n) 1 es 0 (l0,ps,sts)).2.2.1,(fA (fI n) 1 es 0 (l0,ps,sts)).2.2.2.1)):=by
 have key:=dE.along (fun i a=>((i:Int),(es.length:Int),es,a.2.2,n,a.1,a.2.1)) (fun x=>(x.2.2.2.2.2.1,x.2.2.2.2.2.2,x.2.2.2.1)) (fI n) 1 (fun i a=>a.1.length=i + 1∧isT n a.2.1=true∧a.2.1.length=ps.length∧(a.2.2.length:Int)=n) es (l0,ps,sts) ⟨h0,hT,rfl,hs⟩ (by simp only [dE];omega) (fun i t a hb hI=> ?_) (fun a hI=> ?_)
 ·exact key
 ·obtain⟨l,qs,ss⟩:=a
  obtain⟨hL,hQ,hq,hS⟩:=hI
  simp only at hL hQ hq hS
  have hn8:=(gB.1 hQ).1
  have gm:=(w7.1 hb).1
  have jL: ∀ d,z6 es[i]? d=t:=fun d=>by rw [hb];rfl
  have hg2:dB (i:Int) es=t:=by simp only [dB,q9];exact jL _
  have hw:=jv gm (by omega)
  have Bo:ltI (i:Int) (es.length:Int)=true:=cK (by omega)
  have Vj:leI (0:Int) (i:Int)=true:=cw (by omega)
  have Lo:ltN i es.length=true:=ip gm
  have hF:ab5 n (flS ss)=true:=aku (by omega) (by omega)
  have hsl:leN ss.length 1000=true:=iJ (by omega)
  have m1:leN (l.length + 1) 9223372036854775807=true:=iJ (by omega)
  have m2:leN ((l.length + 1) * 32) 140737488355328=true:=iJ (by omega)
  obtain⟨k,t,v⟩:=t
  have hev:=af1 (he _ (List.mem_of_getElem? hb))
  obtain⟨c0,c1,c2⟩:=akL n k t v qs ss (hev.imp (fun h=>h.1) (fun h=>h.1))
  have dq:tU k t v n ss qs=true:=by
   rcases hev with⟨rfl,ht,rfl⟩ | ⟨rfl,ht,hv⟩
   ·have hh:=aix ht hq
    have hp:=ahO (fs:=flS ss) hQ hF hh
    have hm:aak n qs t=true:=Sj.2 ⟨hQ,hh⟩
    simp [tU,allT,hsl,hQ,hF,hp,hm]
   ·have t1:leI 0 t=true:=cw ht.1
    have t2:ltI t (ss.length:Int)=true:=cK (by omega)
    have t3:ltN t.toNat ss.length=true:=ip (by omega)
    simp [tU,allT,t1,t2,t3]
  refine⟨?_,?_,?_,?_⟩
  ·simp only [HI,RY,RZ,Sa,Sb,Sc,QF,Bs,dE,Bx,LT.nds,allT,List.length_singleton,q9,Bo,Vj,Lo,hg2,dq,m1,m2,cond_true,w5]
  ·simp only [dE,Bx,LT.each,MO,MQ,Gd,QG,hg2,c1,hw,and_self,implies_true,and_true,true_and]
  ·simp only [dE,Bx,LT.fn,HI,MO,MP,MR,QH,Gd,LJ,Bs,hg2,c0,c1,Bo,cond_true,fI]
   cases hk:rvB n (qs,ss) (k,t,v)with
   |false=>rfl
   |true=>
    obtain⟨d1,d2⟩:=c2 hk
    simp only [Bool.not_true,cond_false,cond_true,d1,d2]
  ·intro a' hf
   simp only [fI]at hf
   cases hk:rvB n (qs,ss) (k,t,v) <;> rw [hk]at hf <;> simp at hf
   subst hf
   rcases hev with⟨rfl,ht,rfl⟩ | ⟨rfl,ht,hv⟩
   ·exact⟨by simp [hL],ad9 hQ t,by simp only [rvN,beq_self_eq_true,cond_true,Vw];exact hq,hS⟩
   ·exact⟨by simp [hL],hQ,hq,by simp only [rvN,Int.reduceBEq,cond_false,List.length_set];exact hS⟩
 ·obtain⟨l,qs,ss⟩:=a
  simp [HI,dE,Bx,LT.out]
theorem ahq(n:Int): ∀ (es:al1) (s:al4×al4) (i:Nat) (l:ag6),
  ∃ m a,fA (fI n) 1 es i (l++ [(n,s.1)],s)=(bif Xh n es s then 1 else 0,m,a)∧(Xh n es s=true→a.1=l++(aaC n es s).map (fun p=>(n,p))∧a.2=ZG n es s)
 | [],s,i,l=>⟨i,(l++ [(n,s.1)],s),rfl,fun _=>⟨rfl,rfl⟩⟩
 |e::es,s,i,l=>by
  cases hk:rvB n s e with
  |false=>exact⟨i,(l++ [(n,s.1)],s),by simp only [fA,fI,hk,Xh,Bool.false_and,cond_false],fun h=>by simp [Xh,hk]at h⟩
  |true=>
   obtain⟨m,a,e1,h⟩:=ahq n es (rvN n s e) (i + 1) (l++ [(n,s.1)])
   refine⟨m,a,?_,?_⟩
   ·simp only [fA,fI,hk,Xh,Bool.true_and,cond_true];exact e1
   ·intro ii
    simp only [Xh,hk,Bool.true_and]at ii
    obtain⟨h1,h2⟩:=h ii
    exact⟨by rw [h1];simp [aaC],h2⟩
theorem ahC(n:Int)(ps:al4)(es:al1):
  Ru n ps es=Jh n ps es∧Rv n ps es=rvL n ps es∧Rw n ps es=rvS n ps es∧Rx n ps es=true:=by
 simp only [Ru,Rv,Rw,Rx,sN,rvL,rvS,PI,Jh]
 cases hp:eqI (PJ n ps es) 0 with
 |false=>
  have h1:(PJ n ps es !=0)=true:=by simpa using adX.1 hp
  simp [h1,hp,allT]
 |true=>
  have h1:(PJ n ps es !=0)=false:=by simpa using QC.1 hp
  obtain⟨hT,hl,he⟩:=aft hp
  have hn:=gB.1 hT
  have hr:((z8 n.toNat (0:Int)).length:Int)=n:=by rw [w6];omega
  obtain⟨v1,v2⟩:=aje n ps es (z8 n.toNat 0) hT hl he hr [(n,ps)] rfl
  obtain⟨m,a,e,h2⟩:=ahq n es (rv0 n ps) 0 []
  simp only [rv0,List.nil_append]at e
  rw [e]at v2
  have g1:Lp.fin dE (Hg n ps es)=true:=v1
  have g2:dE.res (Hg n ps es)=_:=v2
  have e4:dH ps=true:=by
   simp [dH,allT];omega
  have l2:leI 0 n=true:=cw (by omega)
  have l3:leI ((8:Nat) * n) 281474976710656=true:=cw (by omega)
  have l4:leI n 9223372036854775807=true:=cw (by omega)
  have l5:leI n n=true:=cw (by omega)
  simp only [LI,Pl,g2,h1,g1,e4,l2,l3,l4,l5,allT]
  change _∧_∧_∧_
  cases hk:Xh n es (rv0 n ps)with
  |false=>
   have hk':Xh n es (ps,z8 n.toNat 0)=false:=hk
   simp [hk',Nat.beq,eqI]
  |true=>
   have hk':Xh n es (ps,z8 n.toNat 0)=true:=hk
   obtain⟨h5,h6⟩:=h2 hk
   rw [List.nil_append]at h5
   simp [hk',Nat.beq,eqI,h5,h6]
def Xo:al6
 | [.one ⟨true,[.val (.int .i64 a),.ref 0]⟩,.one ⟨false,[.ref 1]⟩],[.row false 2 (.int .i64) b,.row false 42 (.pair (.int .i64) (.pair (.int .i64) (.int .i64))) c]=>some ⟨.tup [⟨false,[.ref 2]⟩,⟨false,[.ref 3]⟩,⟨false,[al7 (Jh a b c)]⟩],[ama b,amf c],[amp (rvL a b c),amb (rvS a b c)],[]⟩
 |_,_=>none
def RC:PF prog:=PF.alt acY Xo (by
 intro args es o h dq;unfold Xo at h;split at h
 ·rename_i a b c
  cases h
  have hh:=ahC a b c
  obtain⟨e0,e1,e2,en⟩:=hh
  exact uJ rfl (pM en) (by simp only [e0] <;> rfl) rfl (by simp only [e1,e2] <;> rfl)
 ·cases h)
def Km(a:al4):Bool:=ltI 4096 (↑a.length:Int)
def abF:al6
 | [.one ⟨false,[.ref 0]⟩],[.row false 5 (.int .u8) a]=>some ⟨al8 (.val (.bool (Km a))),[ami a],[],[]⟩
 |_,_=>none
def Ys:PF prog:=PF.ofG prog [] [] aS 4 f4 func4 (fun c _=>LOk.nil c) abF (by
 intro _ _ _ h;unfold abF at h;split at h<;>cases h;kernel_rfl)
def Vk(a:Int)(b:al4):Bool:= !Lm a b
def Vl(a:Int)(b:al4):Bool:=allT [isT a b]
def Nw:al6
 | [.one ⟨true,[.val (.int .i64 a),.ref 0]⟩],[.row false 2 (.int .i64) b]=>some ⟨al8 (.val (.bool (Vk a b))),[ama b],[],[Vl a b]⟩
 |_,_=>none
def Hm:PF prog:=PF.ofG prog (T3z [bq]) [] aS 18 f18 func18 (fun c _=>LOk.nil c) Nw (by
 intro _ _ _ h;unfold Nw at h;split at h<;>cases h;kernel_rfl)
def uK(a:Int)(b:al4):Bool:= !Lm a b
def zq(a:Int)(b:al4):Bool:=allT [isT a b]
def Gy:al6
 | [.one ⟨true,[.val (.int .i64 a),.ref 0]⟩],[.row false 2 (.int .i64) b]=>some ⟨al8 (.val (.bool (uK a b))),[ama b],[],[zq a b]⟩
 |_,_=>none
def ni:PF prog:=PF.ofG prog (T3z [bq]) [] aS 18 f18 func18 (fun c _=>LOk.nil c) Gy (by
 intro _ _ _ h;unfold Gy at h;split at h<;>cases h;kernel_rfl)
abbrev bc:=Int×Int×List (Int×(List Int))
section
variable (a b:Int)(c:af9)
def aY:Int×al4:=z6 c[w8 a]? (sW adq)
def gA:Bool:=ltI a b
def kE:Bool:=leI 0 a
def kF:Bool:=ltI a (↑c.length:Int)
def kG:Bool:=ltN a.toNat c.length
def kH:Bool:=zq ((aY a c).1) ((aY a c).2)
def kI:Bool:=uK ((aY a c).1) ((aY a c).2)
def pQ:Int:=z7 .i64 (a + (1:Int))
end
def EN:bc→List (Nat×SV)
 |(a,b,_)=> [(8,(al9 a)),(7,(al9 b)),(1,(al8 (.val (.func (.func 18) ⟨[]⟩ ⟨[]⟩)))),(0,(al8 (.ref 0)))]
def EG:bc→List (Nat×Entry)
 |(_,_,a)=> [(0,(amp a))]
def Fb:Nat→bc→List (Nat×SV)
 |0,(a,_,_)=> [(4,(al9 a))]
 |_,_=>[]
def fP:bc→LT bc
 |(a,b,c)=> .ite (gA a b) (.need [kE a,kF a c,kG a c,kH a c] (.ite (kI a c) (.ext 0 [(0,0)]) (.nrm ((pQ a),b,c) [(0,0)]))) (.ext 1 [(0,0)])
def oK(s:St):Option bc:=do
 let some ⟨none,.one ⟨false,[.val (.int .i64 a)]⟩⟩:=s.look 8|none
 let some ⟨none,.one ⟨false,[.val (.int .i64 b)]⟩⟩:=s.look 7|none
 let some ⟨none,.one ⟨false,[.val (.func (.func 18) ⟨[]⟩ ⟨[]⟩)]⟩⟩:=s.look 1|none
 let some ⟨none,.one ⟨false,[.ref 0]⟩⟩:=s.look 0|none
 let some (.row true 26 (.pair (.int .i64) (.sl 2 (.int .i64))) c):=s.ent 0|none
 some (a,b,c)
def al:Lp bc where
 h:=⟨[9,10,5,11,12,13,14,15,16,17,4,18,8],[0],[],[]⟩
 JL:=EN
 JE:=EG
 XL:=Fb
 XE:=fun _=>EG
 q:=fun j=>match j with | 0=> .ret | _=> .exit 0
 tags:= [0,1]
 lt:=fP
 fuel:=fun(a,b,c)=>a.natAbs + b.natAbs + c.length
 fix:=fun(_,b,c) (a,_,_)=>(a,b,c)
 σ:= [(0,0)]
 rd:=oK
theorem DU:LoopOk prog (fun k=>Nat.blt k Tryz.f17.ntmps) al.F (aI f17 0):=by
 refine Lp.ok (tbl:= (T3z [ni])) (lf:= []) aS al (by kernel_rfl) (LOk.nil _) (fun _=>rfl) (fun j _=>by unfold al;match j with | 0=>rfl | _ + 1=>rfl) ?_ ?_ ?_ ?_ (fun _=>rfl) ?_
 ·intro _;kernel_rfl
 ·intro _;kernel_rfl
 ·intro s x h
  have h:oK s=some x:=h
  unfold oK at h
  repeat' split at h
  all_goals cases h
  constructor<;>repeat(first|refine aa ‹_› rfl ?_|refine ab rfl ‹_› rfl ?_|rfl)
 ·intro _;kernel_rfl
 ·intro _ _;exact(And.intro (And.intro trivial rfl) trivial)
section
variable (a:ag6)
def ia:Int×Int×ag6:=((0:Int),(↑a.length:Int),a)
def qZ:Bool:=Nat.beq ((Lp.res al (ia a)).1) 0
def mz:Int:=bif qZ a then ((Lp.res al (ia a)).2).1else(-1:Int)
def HW:af9:=bif qZ a then a else a
def mA:Bool:=allT [Lp.fin al (ia a)]
end
def xM:al6
 | [.one ⟨false,[.ref 0]⟩,.one ⟨false,[.val (.func (.func 18) ⟨[]⟩ ⟨[]⟩)]⟩],[.row true 26 (.pair (.int .i64) (.sl 2 (.int .i64))) a]=>some ⟨al9 (mz a),[amp (HW a)],[],[mA a]⟩
 |_,_=>none
def rF:PF prog:=PF.ofG prog (T3z [ni]) [al.F] aS 17 f17 func17 (LOk.fnT (l:= [aI f17 0]) (by kernel_rfl) (.cons DU (.nil _))) xM (by
 intro _ _ _ h;unfold xM at h;split at h<;>cases h;kernel_rfl)
section
variable (a:Int)(b:al4)(c:al1)
def CE:Bool:=Jh a b c !=0
def Kb:Int:=bif CE a b c then(0:Int)else mz (rvL a b c)
def Kc:Int:=bif CE a b c then Jh a b c else(0:Int)
def Kd:Bool:=allT [CE a b c||mA (rvL a b c)]
end
def Pa:al6
 | [.one ⟨true,[.val (.int .i64 a),.ref 0]⟩,.one ⟨false,[.ref 1]⟩],[.row false 2 (.int .i64) b,.row false 42 (.pair (.int .i64) (.pair (.int .i64) (.int .i64))) c]=>some ⟨.tup [⟨false,[al7 (Kb a b c)]⟩,⟨false,[al7 (Kc a b c)]⟩],[ama b,amf c],[],[Kd a b c]⟩
 |_,_=>none
def Yr:PF prog:=PF.ofG prog (T3z [RC,Hm,rF]) [] aS 9 f9 func9 (fun c _=>LOk.nil c) Pa (by
 intro _ _ _ h;unfold Pa at h;split at h<;>cases h;kernel_rfl)
def dG(b:Int×(al4)):(Unit)→Nat ⊕ (Unit)
 |_=>(bif(uK b.1 b.2)then(.inl 0)else(.inr ()))
def bR(a:af9)(i:Nat):(Unit)→bc
 |_=>((i:Int),(↑a.length:Int),a)
def oD:bc→Unit
 |(_,_,_)=>()
theorem Gb(c:af9) (hn:c.length≤9223372036854775807) (hA: ∀ x∈c,isT x.1 x.2=true):
  al.fin ((0:Int),(↑c.length:Int),c)=true∧al.res ((0:Int),(↑c.length:Int),c)=((fA (dG) 1 c 0 ()).1,(bR c) (fA (dG) 1 c 0 ()).2.1 (fA (dG) 1 c 0 ()).2.2):=by
 have key:=al.along (bR c) oD (dG) 1 (fun _ _=>True) c () (by trivial) (by simp only [al,bR];omega) (fun i b a hb hI=> ?_) (fun a hI=> ?_)
 ·exact key
 ·obtain⟨⟩:=a
  have gm:=(w7.1 hb).1
  have jL: ∀ d,z6 c[i]? d=b:=fun d=>by rw [hb];rfl
  have hw:=jv gm hn
  have Bo:ltI (i:Int) (c.length:Int)=true:=cK (by omega)
  have Vj:leI (0:Int) (i:Int)=true:=cw (by omega)
  have Lo:ltN i c.length=true:=ip gm
  refine⟨?_,?_,?_,?_⟩
  ·have hg2:aY (i:Int) c=b:=by simp only [aY,q9];exact jL _
   have h5:=hA b (List.mem_of_getElem? hb)
   simp only [gA,kE,kF,kG,kH,fP,al,LT.nds,allT,bR,zq,q9,hg2,Bo,Vj,Lo,h5,cond_true,w5]
  ·simp [aY,gA,kE,kF,kG,kH,kI,pQ,fP,al,LT.each,bR,oD,hw]
  ·have hg2:aY (i:Int) c=b:=by simp only [aY,q9];exact jL _
   simp only [gA,kI,fP,al,LT.fn,bR,oD,dG,Bo,hg2,cond_true]
  ·exact fun _ _=>trivial
 ·obtain⟨⟩:=a
  simp [aY,gA,kE,kF,kG,kH,kI,pQ,fP,al,LT.out,bR]
theorem ala{n:Int}{ps0:al4}{s:al4×al4}(e:Int×Int×Int)(h:isT n s.1=true)(hl:s.1.length=ps0.length):isT n (rvN n s e).1=true∧(rvN n s e).1.length=ps0.length:=by
 unfold rvN
 cases e.1==0 with
 |true=>exact⟨ad9 h _,by simp only [cond_true,Vw];exact hl⟩
 |false=>exact⟨h,hl⟩
theorem acF{n:Int}: ∀ (es:al1) (s:al4×al4),isT n s.1=true→ ∀ p∈aaC n es s,isT n p=true
 | [],s,h,p,hp=>by simp [aaC]at hp;rw [hp];exact h
 |e::es,s,h,p,hp=>by
  simp only [aaC,List.mem_cons]at hp
  rcases hp with rfl | hp
  ·exact h
  ·exact acF es _ (ala (ps0:=s.1) e h rfl).1 p hp
theorem QP(n:Int): ∀ (es:al1) (s:al4×al4),(aaC n es s).length=es.length + 1
 | [],s=>rfl
 |e::es,s=>by simp [aaC,QP n es]
theorem ahR{n:Int}{ps:al4}{es:al1}(h:PI n ps es=true):isT n ps=true∧es.length≤200∧(∀ e∈es,Qs n ps e=true)∧Xh n es (rv0 n ps)=true:=by
 simp only [PI,Jh]at h
 cases hp:eqI (PJ n ps es) 0 with
 |false=>rw [hp]at h;simp only [cond_false]at h;rw [hp]at h;cases h
 |true=>
  obtain⟨h1,h2,h3⟩:=aft hp
  refine⟨h1,h2,h3,?_⟩
  cases hk:Xh n es (rv0 n ps)with
  |true=>rfl
  |false=>rw [hp,hk]at h;simp [eqI]at h
theorem acT(n:Int)(ps:al4)(es:al1):Kb n ps es=rvF n ps es∧Kc n ps es=Jh n ps es∧Kd n ps es=true:=by
 simp only [Kb,Kc,Kd,CE]
 cases hg:PI n ps es with
 |false=>
  have h1:(Jh n ps es !=0)=true:=by simp only [PI]at hg;simpa using adX.1 hg
  simp [h1,rvF,hg,allT]
 |true=>
  have h1:(Jh n ps es !=0)=false:=by simp only [PI]at hg;simpa using QC.1 hg
  have h0:Jh n ps es=0:=by simpa using h1
  obtain⟨hT,hl,he,hk⟩:=ahR hg
  have hA: ∀ x∈rvL n ps es,isT x.1 x.2=true:=by
   intro x hx
   simp only [rvL,hg,cond_true,List.mem_map]at hx
   obtain⟨p,hp,rfl⟩:=hx
   exact acF es _ hT p hp
  have jw:(rvL n ps es).length≤9223372036854775807:=by
   simp only [rvL,hg,cond_true,List.length_map,QP];omega
  obtain⟨w1,w2⟩:=Gb (rvL n ps es) jw hA
  rw [Ln (P:=fun x=> !Lm x.1 x.2) (j:=0) (fun x=>by simp only [dG,uK])]at w2
  have e2:mz (rvL n ps es)=rvF n ps es:=by
   simp only [mz,ia,qZ,w2,bR,rvF,hg,cond_true]
   rw [ag3 n _ 0 (by omega) (acF es _ hT)]
   simp only [rvL,hg,cond_true]
   cases (List.map (fun p=>(n,p)) (aaC n es (rv0 n ps))).any fun x=> !Lm x.1 x.2 with
   |true=>simp [Nat.beq]
   |false=>rfl
  have e3:mA (rvL n ps es)=true:=by
   simp only [mA,ia,w1,allT,cond_true]
  simp [h1,e2,e3,allT,h0]
def Pe:al6
 | [.one ⟨true,[.val (.int .i64 a),.ref 0]⟩,.one ⟨false,[.ref 1]⟩],[.row false 2 (.int .i64) b,.row false 42 (.pair (.int .i64) (.pair (.int .i64) (.int .i64))) c]=>some ⟨.tup [⟨false,[al7 (rvF a b c)]⟩,⟨false,[al7 (Jh a b c)]⟩],[ama b,amf c],[],[]⟩
 |_,_=>none
def Kr:PF prog:=PF.alt Yr Pe (by
 intro args es o h dq;unfold Pe at h;split at h
 ·rename_i a b c
  cases h
  have hh:=acT a b c
  obtain⟨e0,e1,en⟩:=hh
  exact uJ rfl (pM en) (by simp only [e0,e1] <;> rfl) rfl rfl
 ·cases h)
def trK(s:Bool)(i b:Int):al1:=(0,i,b)::(1,i,b)::((bif s then [(2,i,b)]else [])++ [(3,i,b)])
def ftK(s:Bool)(b k:Int):al1:=(4,b,k)::(5,b,k)::(bif s then [(6,b,k)]else [])
def tkL(s:Bool)(B i:Nat):al1:=(List.range B).flatMap fun(b:Nat)=>trK s (i:Int) (b:Int)
def fkL(s:Bool)(d b:Nat):al1:=(List.range d).flatMap fun(j:Nat)=>ftK s (b:Int) ((d:Int) - (j:Int))
def kL(T B d:Nat)(s:Bool):al1:=(List.range T).flatMap (tkL s B)++(List.range B).flatMap (fkL s d)
def kOk(T B d:Nat)(x:Int×Int×Int):Prop:=((0≤x.1∧x.1≤3)∧(0≤x.2.1∧x.2.1 < T)∧(0≤x.2.2∧x.2.2 < B))∨((4≤x.1∧x.1≤6)∧(0≤x.2.1∧x.2.1 < B)∧(1≤x.2.2∧x.2.2≤d))
theorem agl{T B d:Nat}{s:Bool}{x:Int×Int×Int}(h:x∈kL T B d s):kOk T B d x:=by
 simp only [kL,List.mem_append,List.mem_flatMap,tkL,fkL,List.mem_range]at h
 rcases h with⟨i,hi,b,hb,h⟩ | ⟨b,hb,j,hj,h⟩
 ·refine .inl ?_
  cases s <;> simp [trK]at h <;> (rcases h with rfl | rfl | rfl | rfl) <;> simp <;> omega
 ·refine .inr ?_
  cases s <;> simp [ftK]at h <;> (rcases h with rfl | rfl | rfl) <;> simp <;> omega
theorem Fe{C:Type}(f:Nat→List C)(m:Nat)(h: ∀ i,(f i).length≤m): ∀ n:Nat,((List.range n).flatMap f).length≤n * m
 |0=>by simp
 |n + 1=>by
  rw [List.range_succ,List.flatMap_append,w3,Nat.succ_mul]
  have:=Fe f m h n
  have h1:(List.flatMap f [n]).length≤m:=by simpa using h n
  omega
theorem akz{T B d:Nat}{s:Bool}(hT:T≤4)(hB:B≤8)(hd:d≤2):(kL T B d s).length≤176:=by
 have h1:=Fe (tkL s B) (B * 4) (fun i=>Fe (fun(b:Nat)=>trK s (i:Int) (b:Int)) 4 (fun b=>by cases s <;> simp [trK]) B) T
 have h2:=Fe (fkL s d) (d * 3) (fun b=>Fe (fun(j:Nat)=>ftK s (b:Int) ((d:Int) - (j:Int))) 3 (fun j=>by cases s <;> simp [ftK]) d) B
 have e1:T * (B * 4)≤4 * (8 * 4):=Nat.mul_le_mul hT (Nat.mul_le_mul hB (Nat.le_refl _))
 have e2:B * (d * 3)≤8 * (2 * 3):=Nat.mul_le_mul hB (Nat.mul_le_mul hd (Nat.le_refl _))
 rw [kL,w3]
 omega
def oth(b c o:Int):al0:= [(o,3 * b + 2,false),(o,3 * c,false),(o,3 * c + 1,false),(o,3 * c + 2,false)]
def Zx(T:Nat)(a b c:Int):al0:=(List.range T).flatMap fun(o:Nat)=>bif(o:Int)==a then []else oth b c (o:Int)
def gK(T:Nat)(n:Int)(x:Int×Int×Int):al0:=
 let a:=x.2.1
 let b:=x.2.2
 let c:=Int.tmod (b + 1) n
 bif x.1==0 then [(a,3 * b,true)]else
 bif x.1==1 then(a,3 * b + 1,true)::(T + c,2,false)::(T + c,3,false)::Zx T a b c else
 bif x.1==2 then [(a,3 * b + 1,true),(T + c,3,true)]else
 bif x.1==3 then [(a,3 * b + 2,true)]else
 bif x.1==6 then [(T + a,1,true),(T + n,b,true)]else [(T + a,0,true),(T + n,b,true)]
def eK(T:Nat)(n:Int)(x:Int×Int×Int):al3:=
 let a:=x.2.1
 let b:=x.2.2
 bif x.1==0 then [(a,3 * b + 1)]else bif x.1==1 then [(a,3 * b + 2)]else bif x.1==2 then [(a,3 * b + 2)]else
 bif x.1==3 then [(a,3 * Int.tmod (b + 1) n)]else
 bif x.1==4 then [(T + a,1),(T + n,b - 1)]else bif x.1==5 then [(T + a,2),(T + n,b - 1)]else [(T + a,3),(T + n,b - 1)]
def evK(x:Int×Int×Int):Int×Int×Int:=bif x.1==4 then(1,x.2.1,1)else bif x.1==5 then(1,x.2.1,2)else bif x.1==6 then(1,x.2.1,3)else(0,x.2.1,0)
def hoB(v:al4)(g:al0):Bool:=g.all fun t=>(v[t.1.toNat]?.getD 0==t.2.1)==t.2.2
def apE(v:al4)(e:al3):al4:=e.foldl (fun v t=>v.set t.1.toNat t.2) v
theorem ag0(ch:Int)(b:Nat): ∀ (fs:al1) (l:al4),(∀ f∈fs,f.2.1=ch→f.1.toNat=b→f.2.2=0)→
  (l[b]?.getD 0=0∨ ∃ f∈fs,f.2.1=ch∧f.1.toNat=b)→(fs.foldl (Yw ch) l)[b]?.getD 0=0
 | [],l,_,h=>by
  rcases h with h | ⟨f,hf,_⟩
  ·exact h
  ·cases hf
 |f::fs,l,h0,h=>by
  refine ag0 ch b fs (Yw ch l f) (fun g hg=>h0 g (List.mem_cons_of_mem _ hg)) ?_
  by_cases hc:f.2.1=ch
  ·have e:Yw ch l f=l.set f.1.toNat f.2.2:=by simp [Yw,hc]
   rw [e]
   by_cases hb:f.1.toNat=b
   ·left
    have:=h0 f List.mem_cons_self hc hb
    rw [hb,this,List.getElem?_set]
    by_cases hl:b < l.length <;> simp [hl]
   ·rw [List.getElem?_set_ne hb]
    rcases h with h | ⟨g,hg,h1,h2⟩
    ·exact .inl h
    ·rcases List.mem_cons.1 hg with rfl | hg
     ·exact absurd h2 hb
     ·exact .inr ⟨g,hg,h1,h2⟩
  ·have e:Yw ch l f=l:=by
    have:(f.2.1==ch)=false:=by simpa using hc
    simp [Yw,this]
   rw [e]
   rcases h with h | ⟨g,hg,h1,h2⟩
   ·exact .inl h
   ·rcases List.mem_cons.1 hg with rfl | hg
    ·exact absurd h1 hc
    ·exact .inr ⟨g,hg,h1,h2⟩
theorem aeb{f:Int×Int×Int}: ∀ (ss:al4) (b:Int),f∈flA b ss↔ ∃ j:Nat,j < ss.length∧f∈stF (b + j) (ss[j]?.getD 0)
 | [],b=>by simp [flA]
 |s::r,b=>by
  rw [flA,List.mem_append,aeb r (b + 1)]
  constructor
  ·rintro(h | ⟨j,hj,h⟩)
   ·exact⟨0,by simp,by simpa using h⟩
   ·refine⟨j + 1,by simpa using hj,?_⟩
    have e:b + ((j + 1:Nat):Int)=b + 1 + (j:Int):=by omega
    rw [e];simpa using h
  ·rintro⟨j,hj,h⟩
   cases j with
   |zero=>exact .inl (by simpa using h)
   |succ j=>
    refine .inr ⟨j,by simpa using hj,?_⟩
    have e:b + ((j + 1:Nat):Int)=b + 1 + (j:Int):=by omega
    rw [e]at h;simpa using h
theorem ajA{ss:al4}{f:Int×Int×Int}{c:Nat}(h:f∈flS ss)(hc:f.1.toNat=c):f∈stF (c:Int) (ss[c]?.getD 0):=by
 obtain⟨j,hj,h⟩:=(aeb ss 0).1 h
 have:f.1=0 + (j:Int):=by
  simp only [stF]at h
  cases h1:ss[j]?.getD 0==1 <;> cases h2:ss[j]?.getD 0==2 <;> cases h3:ss[j]?.getD 0==3 <;> simp only [h1,h2,h3,cond_true,cond_false]at h <;> simp at h <;>
   first | (rcases h with rfl | rfl <;> simp) | (subst h;simp)
 have e:j=c:=by omega
 rw [e]at h;simpa using h
theorem adf{n:Int}{qs ss:al4}{c:Nat}{ch:Int}(hch:ch=0∨ch=1)(hc:(c:Int) < n)(hl:c < ss.length)
  (h:(ss[c]?.getD 0=3)∨((ss[c]?.getD 0≠2)∧Qr n qs (c:Int)=0)):(Cq n qs (flS ss) ch)[c]?.getD 0=0:=by
 refine ag0 ch c _ _ (fun f hf h1 h2=> ?_) ?_
 ·have hm:=ajA hf h2
  have n2:(ss[c]?.getD 0==2)=false:=by rcases h with h | h <;> simp <;> omega
  simp only [stF,n2,cond_false]at hm
  cases h4:ss[c]?.getD 0==1 <;> cases h3:ss[c]?.getD 0==3 <;> simp only [h4,h3,cond_true,cond_false]at hm <;> simp at hm <;>
   first | (rcases hm with rfl | rfl <;> rfl) | (subst hm;rfl)
 ·rcases h with h | ⟨_,h⟩
  ·refine .inr ⟨((c:Int),ch,0),(aeb ss 0).2 ⟨c,hl,?_⟩,rfl,by simp⟩
   have:stF (0 + (c:Int)) (ss[c]?.getD 0)= [((c:Int),0,0),((c:Int),1,0)]:=by rw [h];simp [stF]
   rw [this]
   rcases hch with rfl | rfl <;> simp
  ·refine .inl ?_
   have hr:c < n.toNat:=by omega
   simp [YR,hr,h,occ,ltI]
theorem Tw{a n:Int}(h:0≤a):Int.tmod a n=a % n:=Int.tmod_eq_emod_of_nonneg h
theorem ahp{a n:Int}(h:0≤a):Int.tdiv a n=a / n:=Int.tdiv_eq_ediv_of_nonneg h
theorem NJ{b n:Int}(hn:2≤n)(hb:0≤b∧b < n):(Int.tmod (b + 1) n=b + 1∧b + 1 < n)∨(Int.tmod (b + 1) n=0∧b + 1=n):=by
 rw [Tw (by omega)]
 by_cases h:b + 1 < n
 ·exact .inl ⟨Int.emod_eq_of_lt (by omega) h,h⟩
 ·have:b + 1=n:=by omega
  rw [this];exact .inr ⟨Int.emod_self,rfl⟩
theorem aiP{b n:Int}(hn:2≤n)(hb:0≤b∧b < n):Int.tmod (3 * b + 1) (3 * n)=3 * b + 1∧Int.tmod (3 * b + 1 + 1) (3 * n)=3 * b + 2∧Int.tmod (3 * b + 2 + 1) (3 * n)=3 * Int.tmod (b + 1) n:=by
 refine⟨?_,?_,?_⟩
 ·rw [Tw (by omega)];exact Int.emod_eq_of_lt (by omega) (by omega)
 ·rw [Tw (by omega),Int.emod_eq_of_lt (by omega) (by omega)];omega
 ·rcases NJ hn hb with⟨h,h1⟩ | ⟨h,h1⟩
  ·rw [h,Tw (by omega),Int.emod_eq_of_lt (by omega) (by omega)];omega
  ·have:3 * b + 2 + 1=3 * n:=by omega
   rw [h,this,Tw (by omega),Int.emod_self];rfl
theorem abs{b r:Int}(hb:0≤b)(hr:0≤r∧r < 3):blk (3 * b + r)=b∧phs (3 * b + r)=r:=by
 unfold blk phs
 rw [ahp (by omega),Tw (by omega)]
 constructor <;> omega
def stV(s:al4×al4)(k:Int):al4:=s.1++(s.2++ [k])
theorem aaF{s:al4×al4}{k:Int}{i:Nat}(h:i < s.1.length):(stV s k)[i]?.getD 0=s.1[i]?.getD 0:=by
 simp [stV,List.getElem?_append_left h]
theorem Tu{s:al4×al4}{k:Int}{i:Nat}(h:i < s.2.length):(stV s k)[s.1.length + i]?.getD 0=s.2[i]?.getD 0:=by
 rw [stV,List.getElem?_append_right (by omega),List.getElem?_append_left (by omega)]
 congr 2;omega
theorem Qd{s:al4×al4}{k:Int}:(stV s k)[s.1.length + s.2.length]?.getD 0=k:=by
 rw [stV,List.getElem?_append_right (by omega),List.getElem?_append_right (by omega)]
 have:s.1.length + s.2.length - s.1.length - s.2.length=0:=by omega
 simp [this]
theorem ahW{s:al4×al4}{k x:Int}{i:Nat}(h:i < s.1.length):(stV s k).set i x=stV (s.1.set i x,s.2) k:=by
 simp [stV,List.set_append_left _ _ h]
theorem agE{s:al4×al4}{k x:Int}{i:Nat}(h:i < s.2.length):(stV s k).set (s.1.length + i) x=stV (s.1,s.2.set i x) k:=by
 rw [stV,List.set_append_right _ _ (by omega),List.set_append_left _ _ (by omega)]
 have:s.1.length + i - s.1.length=i:=by omega
 rw [this];rfl
theorem agC{s:al4×al4}{k x:Int}:(stV s k).set (s.1.length + s.2.length) x=stV s x:=by
 rw [stV,List.set_append_right _ _ (by omega),List.set_append_right _ _ (by omega)]
 have:s.1.length + s.2.length - s.1.length - s.2.length=0:=by omega
 rw [this];rfl
def aeZ(n:Int)(T d:Nat)(s:al4×al4)(k:Int):Prop:=isT n s.1=true∧s.1.length=T∧(s.2.length:Int)=n∧(∀ x∈s.2,0≤x∧x≤3)∧(0≤k∧k≤d)
theorem aiS{n a b:Int}{v qs:al4}(hn:2≤n)(hb:0≤b∧b < n)(ha:0≤a)(hT:isT n qs=true)(hv: ∀ i:Nat,i < qs.length→v[i]?.getD 0=qs[i]?.getD 0)
  (hq:qs[a.toNat]?.getD 0=3 * b + 1) (h:hoB v (Zx qs.length a b (Int.tmod (b + 1) n))=true):Qr n qs (Int.tmod (b + 1) n)=0:=by
 refine List.countP_eq_zero.2 fun p hp=> ?_
 obtain⟨i,hi,rfl⟩:=List.mem_iff_getElem.1 hp
 have hr:=(gB.1 hT).2.2 _ hp
 have jL:qs[i]?.getD 0=qs[i]:=by simp [hi]
 by_cases hia:i=a.toNat
 ·have e:qs[i]=3 * b + 1:=by rw [← jL,hia];exact hq
  rw [e]
  obtain⟨e1,e2⟩:=abs (b:=b) (r:=1) hb.1 (by omega)
  simp only [Qh,e1,e2]
  rcases NJ hn hb with⟨h1,h2⟩ | ⟨h1,h2⟩ <;> rw [h1] <;> simp <;> omega
 ·have hm: ∀ t∈oth b (Int.tmod (b + 1) n) (i:Int),(v[t.1.toNat]?.getD 0==t.2.1)==t.2.2:=by
   intro t ht
   refine List.all_eq_true.1 h t (List.mem_flatMap.2 ⟨i,List.mem_range.2 hi,?_⟩)
   have:((i:Int)==a)=false:=by simp;omega
   rw [this];exact ht
  simp only [oth,List.forall_mem_cons,List.not_mem_nil,false_implies,implies_true,and_true,q9,hv i hi,jL]at hm
  obtain⟨m1,m2,m3,m4⟩:=hm
  simp only [beq_iff_eq,beq_eq_false_iff_ne,ne_eq]at m1 m2 m3 m4
  simp only [Qh,Bool.or_eq_true,q8,beq_iff_eq,blk,phs]
  rw [ahp hr.1,Tw hr.1]
  rintro(hu | ⟨hu1,hu2⟩)
  ·have:=hu
   omega
  ·have hb':0≤qs[i] / 3∧qs[i] / 3 < n:=by omega
   rcases NJ hn hb with⟨h1,h2⟩ | ⟨h1,h2⟩ <;> rcases NJ hn hb' with⟨g1,g2⟩ | ⟨g1,g2⟩ <;> rw [h1,g1]at hu2 <;> omega
theorem Dk{v:al4}{t:Int×Int×Bool}{g:al0}(h:hoB v (t::g)=true):(v[t.1.toNat]?.getD 0==t.2.1)=t.2.2∧hoB v g=true:=by
 simp only [hoB,List.all_cons,q8,beq_iff_eq]at h
 exact⟨h.1,by simpa [hoB] using h.2⟩
theorem ajX{n:Int}{T d:Nat}{s:al4×al4}{k:Int}{x:Int×Int×Int}(hi:aeZ n T d s k)(hx:kOk T n.toNat d x)
  (h:hoB (stV s k) (gK T n x)=true):
  Qs n s.1 (evK x)=true∧rvB n s (evK x)=true∧ ∃ k',apE (stV s k) (eK T n x)=stV (rvN n s (evK x)) k'∧aeZ n T d (rvN n s (evK x)) k':=by
 obtain⟨hT,rfl,hl,hs,hk⟩:=hi
 obtain⟨kd,a,b⟩:=x
 have hn:=(gB.1 hT).1
 simp only [kOk]at hx
 have sb:n.toNat=s.2.length:=by omega
 rcases hx with⟨⟨k0,k3⟩,⟨a0,a1⟩,⟨b0,b1⟩⟩ | ⟨⟨k4,k6⟩,⟨a0,a1⟩,⟨b0,b1⟩⟩
 ·have hb:0≤b∧b < n:=by omega
  have ha:a.toNat < s.1.length:=by omega
  have hh:Xa s.1 a=true:=Pj.2 ⟨a0,a1⟩
  have hev:evK (kd,a,b)=(0,a,0):=by
   have e4:(kd==4)=false:=by simp;omega
   have e5:(kd==5)=false:=by simp;omega
   have e6:(kd==6)=false:=by simp;omega
   simp [evK,e4,e5,e6]
  obtain⟨p1,p2,p3⟩:=aiP hn.1 hb
  obtain⟨q0,r0⟩:=abs (b:=b) (r:=0) hb.1 (by omega)
  obtain⟨q1,r1⟩:=abs (b:=b) (r:=1) hb.1 (by omega)
  obtain⟨q2,r2⟩:=abs (b:=b) (r:=2) hb.1 (by omega)
  have hpl:=aaF (k:=k) ha
  have hc:0≤Int.tmod (b + 1) n∧Int.tmod (b + 1) n < n:=by
   rcases NJ hn.1 hb with⟨h1,h2⟩ | ⟨h1,h2⟩ <;> rw [h1] <;> omega
  have RX:=Tu (s:=s) (k:=k) (i:=(Int.tmod (b + 1) n).toNat) (by omega)
  have e1:((s.1.length:Int) + Int.tmod (b + 1) n).toNat=s.1.length + (Int.tmod (b + 1) n).toNat:=by omega
  have fin: ∀ y z:Int,s.1[a.toNat]?.getD 0=y→Int.tmod (y + 1) (3 * n)=z→TQ n s.1 (Cq n s.1 (flS s.2) 0) (Cq n s.1 (flS s.2) 1) a=true→eK s.1.length n (kd,a,b)= [(a,z)]→
    Qs n s.1 (evK (kd,a,b))=true∧rvB n s (evK (kd,a,b))=true∧ ∃ k',apE (stV s k) (eK s.1.length n (kd,a,b))=stV (rvN n s (evK (kd,a,b))) k'∧aeZ n s.1.length d (rvN n s (evK (kd,a,b))) k':=by
   intro y z hy hz hp he
   rw [hev]
   refine⟨by simp [Qs,hh],by simpa [rvB,ajF] using hp,k,?_,?_⟩
   ·rw [he];simp only [apE,List.foldl_cons,List.foldl_nil,rvN,beq_self_eq_true,cond_true,abe,hy,hz]
    exact ahW ha
   ·simp only [rvN,beq_self_eq_true,cond_true]
    exact⟨ad9 hT a,by simp [abe],hl,hs,hk⟩
  have kc:kd=0∨kd=1∨kd=2∨kd=3:=by omega
  rcases kc with rfl | rfl | rfl | rfl
  ·have hq:s.1[a.toNat]?.getD 0=3 * b:=by
    have:=(Dk h).1
    simpa [hpl] using this
   refine fin (3 * b) (3 * b + 1) hq p1 ?_ (by simp [eK])
   have:phs (3 * b)=0:=by simpa using r0
   simp [TQ,hq,this]
  ·have h0:hoB (stV s k) ((a,3 * b + 1,true)::((s.1.length:Int) + Int.tmod (b + 1) n,2,false)::((s.1.length:Int) + Int.tmod (b + 1) n,3,false)::Zx s.1.length a b (Int.tmod (b + 1) n))=true:=by
    simpa [gK] using h
   obtain⟨g1,h0⟩:=Dk h0
   obtain⟨g2,h0⟩:=Dk h0
   obtain⟨g3,h0⟩:=Dk h0
   have hq:s.1[a.toNat]?.getD 0=3 * b + 1:=by simpa [hpl] using g1
   simp only [e1,RX,beq_eq_false_iff_ne,ne_eq]at g2 g3
   have hcn:Qr n s.1 (Int.tmod (b + 1) n)=0:=aiS hn.1 hb a0 hT (fun i hi=>aaF hi) hq h0
   have Tg:(((Int.tmod (b + 1) n).toNat:Nat):Int)=Int.tmod (b + 1) n:=by omega
   have z: ∀ ch,ch=0∨ch=1→(Cq n s.1 (flS s.2) ch)[(Int.tmod (b + 1) n).toNat]?.getD 0=0:=fun ch hch=>
    adf hch (by omega) (by omega) (.inr ⟨g2,by rw [Tg];exact hcn⟩)
   refine fin (3 * b + 1) (3 * b + 2) hq p2 ?_ (by simp [eK])
   simp [TQ,MA,hq,q1,z 0 (.inl rfl),z 1 (.inr rfl)]
  ·have h0:hoB (stV s k) [(a,3 * b + 1,true),((s.1.length:Int) + Int.tmod (b + 1) n,3,true)]=true:=by
    simpa [gK] using h
   obtain⟨g1,h0⟩:=Dk h0
   obtain⟨g2,_⟩:=Dk h0
   have hq:s.1[a.toNat]?.getD 0=3 * b + 1:=by simpa [hpl] using g1
   simp only [e1,RX,beq_iff_eq]at g2
   have z: ∀ ch,ch=0∨ch=1→(Cq n s.1 (flS s.2) ch)[(Int.tmod (b + 1) n).toNat]?.getD 0=0:=fun ch hch=>
    adf hch (by omega) (by omega) (.inl g2)
   refine fin (3 * b + 1) (3 * b + 2) hq p2 ?_ (by simp [eK])
   simp [TQ,MA,hq,q1,z 0 (.inl rfl),z 1 (.inr rfl)]
  ·have hq:s.1[a.toNat]?.getD 0=3 * b + 2:=by
    have:=(Dk h).1
    simpa [hpl] using this
   refine fin (3 * b + 2) (3 * Int.tmod (b + 1) n) hq p3 ?_ (by simp [eK])
   simp [TQ,hq,r2]
 ·have ha:a.toNat < s.2.length:=by omega
  have RX:=Tu (s:=s) (k:=k) ha
  have e1:((s.1.length:Int) + a).toNat=s.1.length + a.toNat:=by omega
  have e2:((s.1.length:Int) + n).toNat=s.1.length + s.2.length:=by omega
  have fin: ∀ y z:Int,s.2[a.toNat]?.getD 0=y→(1≤z∧z≤3)→y=(bif z==3 then 1 else 0)→k=b→evK (kd,a,b)=(1,a,z)→eK s.1.length n (kd,a,b)= [((s.1.length:Int) + a,z),((s.1.length:Int) + n,b - 1)]→
    Qs n s.1 (evK (kd,a,b))=true∧rvB n s (evK (kd,a,b))=true∧ ∃ k',apE (stV s k) (eK s.1.length n (kd,a,b))=stV (rvN n s (evK (kd,a,b))) k'∧aeZ n s.1.length d (rvN n s (evK (kd,a,b))) k':=by
   intro y z hy hz hyz hkb hev he
   rw [hev]
   refine⟨?_,?_,b - 1,?_,?_⟩
   ·simp only [Qs]
    have q1:inR a 0 (n - 1)=true:=sC.2 (by omega)
    have q2:inR z 1 3=true:=sC.2 hz
    simp [q1,q2]
   ·simp [rvB,hy,hyz]
   ·rw [he]
    simp only [apE,List.foldl_cons,List.foldl_nil,rvN,e1,e2,agE ha]
    have:=agC (s:=(s.1,s.2.set a.toNat z)) (k:=k) (x:=b - 1)
    simp only [List.length_set]at this
    exact this
   ·simp only [rvN]
    refine⟨hT,rfl,by simpa using hl,fun x hx=> ?_,by omega⟩
    rcases List.mem_or_eq_of_mem_set hx with hx | rfl
    ·exact hs x hx
    ·omega
  have kc:kd=4∨kd=5∨kd=6:=by omega
  rcases kc with rfl | rfl | rfl
  ·have h0:hoB (stV s k) [((s.1.length:Int) + a,0,true),((s.1.length:Int) + n,b,true)]=true:=by simpa [gK] using h
   obtain⟨g1,h0⟩:=Dk h0
   obtain⟨g2,_⟩:=Dk h0
   simp only [e1,e2,RX,Qd,beq_iff_eq]at g1 g2
   exact fin 0 1 g1 (by omega) rfl g2 rfl rfl
  ·have h0:hoB (stV s k) [((s.1.length:Int) + a,0,true),((s.1.length:Int) + n,b,true)]=true:=by simpa [gK] using h
   obtain⟨g1,h0⟩:=Dk h0
   obtain⟨g2,_⟩:=Dk h0
   simp only [e1,e2,RX,Qd,beq_iff_eq]at g1 g2
   exact fin 0 2 g1 (by omega) rfl g2 rfl rfl
  ·have h0:hoB (stV s k) [((s.1.length:Int) + a,1,true),((s.1.length:Int) + n,b,true)]=true:=by simpa [gK] using h
   obtain⟨g1,h0⟩:=Dk h0
   obtain⟨g2,_⟩:=Dk h0
   simp only [e1,e2,RX,Qd,beq_iff_eq]at g1 g2
   exact fin 1 3 g1 (by omega) rfl g2 rfl rfl
def ac2(T:Nat)(n:Int):al1→al4→Bool
 | [],_=>true
 |x::r,v=>hoB v (gK T n x)&&ac2 T n r (apE v (eK T n x))
def XD(T:Nat)(n:Int)(xs:al1)(v:al4):al4:=xs.foldl (fun v x=>apE v (eK T n x)) v
theorem afA{n:Int}{T d:Nat}: ∀ (xs:al1) (s:al4×al4) (k:Int),aeZ n T d s k→(∀ x∈xs,kOk T n.toNat d x)→ac2 T n xs (stV s k)=true→
  (∀ e∈xs.map evK,Qs n s.1 e=true)∧Xh n (xs.map evK) s=true∧ ∃ k',XD T n xs (stV s k)=stV (ZG n (xs.map evK) s) k'∧aeZ n T d (ZG n (xs.map evK) s) k'
 | [],s,k,hi,_,_=>⟨by simp,rfl,k,rfl,hi⟩
 |x::r,s,k,hi,hx,h=>by
  simp only [ac2,q8]at h
  obtain⟨h1,h2,k1,h3,h4⟩:=ajX hi (hx x List.mem_cons_self) h.1
  rw [h3]at h
  obtain⟨g1,g2,k2,g3,g4⟩:=afA r _ k1 h4 (fun y hy=>hx y (List.mem_cons_of_mem _ hy)) h.2
  have jw:(rvN n s (evK x)).1.length=s.1.length:=by rw [h4.2.1,hi.2.1]
  refine⟨fun e he=> ?_,by simp only [List.map_cons,Xh,h2,g2,Bool.and_self],k2,?_,g4⟩
  ·rcases List.mem_cons.1 he with rfl | he
   ·exact h1
   ·have:=g1 e he
    simpa only [Qs,Xa,jw] using this
  ·simp only [XD,List.foldl_cons,h3];exact g3
def szM(T:Nat)(n:Int)(d:Nat):al4:=stV (z8 T (3 * n),z8 n.toNat 4) ((d:Int) + 1)
def Tf(sz:al4)(x v:Int):Bool:=inR x 0 ((sz.length:Int) - 1)&&inR v 0 (sz[x.toNat]?.getD 0 - 1)
def Zw(sz:al4)(g:al0):Bool:=leN g.length 24&&g.all fun t=>Tf sz t.1 t.2.1
def Uq(sz:al4):al3→Int→Bool
 | [],_=>true
 |e::r,p=>(Tf sz e.1 e.2&&ltI p e.1)&&Uq sz r e.1
theorem ahZ{T:Nat}{n:Int}{d i:Nat}(h:i < T):(szM T n d)[i]?.getD 0=3 * n:=by
 have:=aaF (s:=(z8 T (3 * n),z8 n.toNat 4)) (k:=(d:Int) + 1) (i:=i) (by simpa using h)
 rw [szM,this];simp [h]
theorem agL{T:Nat}{n:Int}{d i:Nat}(h:i < n.toNat):(szM T n d)[T + i]?.getD 0=4:=by
 have:=Tu (s:=(z8 T (3 * n),z8 n.toNat (4:Int))) (k:=(d:Int) + 1) (i:=i) (by simpa using h)
 simp only [w6]at this
 rw [szM,this];simp [h]
theorem agK{T:Nat}{n:Int}{d:Nat}:(szM T n d)[T + n.toNat]?.getD 0=(d:Int) + 1:=by
 have:=Qd (s:=(z8 T (3 * n),z8 n.toNat (4:Int))) (k:=(d:Int) + 1)
 simp only [w6]at this
 exact this
theorem Tv{T:Nat}{n:Int}{d:Nat}:(szM T n d).length=T + n.toNat + 1:=by simp [szM,stV];omega
theorem RW{sz:al4}{x v:Int}:Tf sz x v=true↔(0≤x∧x < sz.length)∧0≤v∧v < sz[x.toNat]?.getD 0:=by
 rw [Tf,q8,sC,sC];omega
theorem aae{T:Nat}{n:Int}{d:Nat}{x v:Int}(hx:0≤x∧x < T)(hv:0≤v∧v < 3 * n):Tf (szM T n d) x v=true:=by
 rw [RW,Tv,ahZ (by omega)];omega
theorem Yj{T:Nat}{n:Int}{d:Nat}{x v:Int}(hx:0≤x∧x < n)(hv:0≤v∧v < 4):Tf (szM T n d) ((T:Int) + x) v=true:=by
 have e:((T:Int) + x).toNat=T + x.toNat:=by omega
 rw [RW,Tv,e,agL (by omega)];omega
theorem ab4{T:Nat}{n:Int}{d:Nat}{v:Int}(hn:0≤n)(hv:0≤v∧v≤d):Tf (szM T n d) ((T:Int) + n) v=true:=by
 have e:((T:Int) + n).toNat=T + n.toNat:=by omega
 rw [RW,Tv,e,agK];omega
theorem aej{T:Nat}{n:Int}{d:Nat}{x:Int×Int×Int}(hT:T≤4)(hn:2≤n)(hx:kOk T n.toNat d x):
  Zw (szM T n d) (gK T n x)=true∧Uq (szM T n d) (eK T n x) (-1)=true∧(eK T n x).length≤4:=by
 obtain⟨kd,a,b⟩:=x
 simp only [kOk]at hx
 rcases hx with⟨⟨k0,k3⟩,⟨a0,a1⟩,⟨b0,b1⟩⟩ | ⟨⟨k4,k6⟩,⟨a0,a1⟩,⟨b0,b1⟩⟩
 ·have hb:0≤b∧b < n:=by omega
  have hc:0≤Int.tmod (b + 1) n∧Int.tmod (b + 1) n < n:=by
   rcases NJ hn hb with⟨h1,h2⟩ | ⟨h1,h2⟩ <;> rw [h1] <;> omega
  have hp: ∀ v,(0≤v∧v < 3 * n)→Tf (szM T n d) a v=true:=fun v hv=>aae ⟨a0,a1⟩ hv
  have hs: ∀ v,(0≤v∧v < 4)→Tf (szM T n d) ((T:Int) + Int.tmod (b + 1) n) v=true:=fun v hv=>Yj hc hv
  have ha1:ltI (-1) a=true:=by simp [ltI];omega
  have kc:kd=0∨kd=1∨kd=2∨kd=3:=by omega
  rcases kc with rfl | rfl | rfl | rfl
  ·refine⟨?_,?_,by simp [eK]⟩
   ·simp [gK,Zw,hp (3 * b) (by omega)]
   ·simp [eK,Uq,hp (3 * b + 1) (by omega),ha1]
  ·refine⟨?_,?_,by simp [eK]⟩
   ·have ho: ∀ t∈Zx T a b (Int.tmod (b + 1) n),Tf (szM T n d) t.1 t.2.1=true:=by
     intro t ht
     obtain⟨o,ho,ht⟩:=List.mem_flatMap.1 ht
     have ho':(0:Int)≤(o:Int)∧(o:Int) < T:=by have:=List.mem_range.1 ho;omega
     cases hoa:(o:Int)==a with
     |true=>rw [hoa]at ht;cases ht
     |false=>
      rw [hoa]at ht
      simp only [cond_false,oth,List.mem_cons,List.not_mem_nil,or_false]at ht
      rcases ht with rfl | rfl | rfl | rfl <;> exact aae ho' (by simp only;omega)
    have hl:(Zx T a b (Int.tmod (b + 1) n)).length≤T * 4:=Fe _ 4 (fun o=>by cases (o:Int)==a <;> simp [oth]) T
    have e:gK T n (1,a,b)=(a,3 * b + 1,true)::((T:Int) + Int.tmod (b + 1) n,2,false)::((T:Int) + Int.tmod (b + 1) n,3,false)::Zx T a b (Int.tmod (b + 1) n):=by simp [gK]
    rw [e,Zw,q8]
    refine⟨iJ (by simp only [w4];omega),?_⟩
    simp only [List.all_cons,hp (3 * b + 1) (by omega),hs 2 (by omega),hs 3 (by omega),Bool.true_and]
    exact List.all_eq_true.2 ho
   ·simp [eK,Uq,hp (3 * b + 2) (by omega),ha1]
  ·refine⟨?_,?_,by simp [eK]⟩
   ·simp [gK,Zw,hp (3 * b + 1) (by omega),hs 3 (by omega)]
   ·simp [eK,Uq,hp (3 * b + 2) (by omega),ha1]
  ·refine⟨?_,?_,by simp [eK]⟩
   ·simp [gK,Zw,hp (3 * b + 2) (by omega)]
   ·simp [eK,Uq,hp (3 * Int.tmod (b + 1) n) (by omega),ha1]
 ·have ha:0≤a∧a < n:=by omega
  have hs: ∀ v,(0≤v∧v < 4)→Tf (szM T n d) ((T:Int) + a) v=true:=fun v hv=>Yj ha hv
  have hb: ∀ v,(0≤v∧v≤(d:Int))→Tf (szM T n d) ((T:Int) + n) v=true:=fun v hv=>ab4 (by omega) hv
  have l1:ltI (-1) ((T:Int) + a)=true:=by simp [ltI];omega
  have l2:ltI ((T:Int) + a) ((T:Int) + n)=true:=by simp [ltI];omega
  have kc:kd=4∨kd=5∨kd=6:=by omega
  rcases kc with rfl | rfl | rfl
  ·exact⟨by simp [gK,Zw,hs 0 (by omega),hb b (by omega)],by simp [eK,Uq,hs 1 (by omega),hb (b - 1) (by omega),l1,l2],by simp [eK]⟩
  ·exact⟨by simp [gK,Zw,hs 0 (by omega),hb b (by omega)],by simp [eK,Uq,hs 2 (by omega),hb (b - 1) (by omega),l1,l2],by simp [eK]⟩
  ·exact⟨by simp [gK,Zw,hs 1 (by omega),hb b (by omega)],by simp [eK,Uq,hs 3 (by omega),hb (b - 1) (by omega),l1,l2],by simp [eK]⟩
abbrev sy:=Int×List Int×Int×Int
section
variable (a:Int)(b:al4)
def Gj:Bool:=bif ltI a (↑b.length:Int)then ltI a 64 else false
def QR:Bool:=leI 0 a
def QS:Bool:=ltI a (↑b.length:Int)
def QT:Bool:=ltN a.toNat b.length
end
def QU:Bool:=neI 2147483647 0
def QV(a:Int):Int:=z7 .i64 (a + (1:Int))
def QW(a:Int)(b:al4)(c:Int):Int:=Int.tmod (z7 .i64 (z7 .i64 (c * (59:Int)) + z7 .i64 (z6 b[w8 a]? 0))) 2147483647
def XN:sy→List (Nat×SV)
 |(a,_,_,_)=> [(4,(al9 a)),(0,(al8 (.ref 0))),(3,(al8 (.ptr 1 0)))]
def XI:sy→List (Nat×Entry)
 |(_,a,b,c)=> [(0,(ami a)),(1,(.box 53 [.ref 0,al7 b,al7 c]))]
def XV:Nat→sy→List (Nat×SV)
 |_,_=>[]
def zO:sy→LT sy
 |(a,b,c,d)=> .ite (Gj a b) (.need [QR a,QS a b,QT a b,QU] (.nrm ((QV a),b,c,(QW a b d)) [(0,0),(1,1)])) (.ext 0 [(0,0),(1,1)])
def Kv(s:St):Option sy:=do
 let some ⟨none,.one ⟨false,[.val (.int .i64 a)]⟩⟩:=s.look 4|none
 let some ⟨none,.one ⟨false,[.ref 0]⟩⟩:=s.look 0|none
 let some ⟨none,.one ⟨false,[.ptr 320 0]⟩⟩:=s.look 3|none
 let some (.row false 5 (.int IntKind.u8) b):=s.ent 0|none
 let some (.box 53 [.ref 0,.val (.int .i64 c),.val (.int .i64 d)]):=s.ent 320|none
 some (a,b,c,d)
def oc:Lp sy where
 h:=⟨[8,9,10,11,12,13,14,15,18,19,20,21,22,23,24,25,26,27,28,29,30,31,32,16,17,4],[0,1],[],[]⟩
 JL:=XN
 JE:=XI
 XL:=XV
 XE:=fun _=>XI
 q:=fun j=>match j with | _=> .exit 0
 tags:= [0]
 lt:=zO
 fuel:=fun(a,b,c,d)=>a.natAbs + b.length + c.natAbs + d.natAbs
 fix:=fun(_,b,c,_) (a,_,_,d)=>(a,b,c,d)
 σ:= [(0,0),(1,320)]
 rd:=Kv
theorem Vp:LoopOk prog (fun k=>Nat.blt k Tryz.f11.ntmps) oc.F (aI f11 0):=by
 refine Lp.ok (tbl:= []) (lf:= []) aS oc (by kernel_rfl) (LOk.nil _) (fun _=>rfl) (fun _ _=>rfl) ?_ ?_ ?_ ?_ (fun _=>rfl) ?_
 ·intro _;kernel_rfl
 ·intro _;kernel_rfl
 ·intro s x h
  have h:Kv s=some x:=h
  unfold Kv at h
  repeat' split at h
  all_goals cases h
  constructor<;>repeat(first|refine aa ‹_› rfl ?_|refine ab rfl ‹_› rfl ?_|rfl)
 ·intro _;kernel_rfl
 ·intro _ _;exact(And.intro rfl trivial)
section
variable (a:al4)
def Fo:Int×al4×Int×Int:=((0:Int),a,(0:Int),(52021:Int))
def Hy:Int:=(Lp.res oc (Fo a)).2.2.2.2
def Mg:Bool:=allT [Lp.fin oc (Fo a)]
end
def Uw:al6
 | [.one ⟨false,[.ref 0]⟩],[.row false 5 (.int .u8) a]=>some ⟨al8 (.ptr 1 0),[ami a],[.box 53 [.ref 0,al7 0,al7 (Hy a)]],[Mg a]⟩
 |_,_=>none
def acw:PF prog:=PF.ofG prog [] [oc.F] aS 11 f11 func11 (LOk.fnT (l:= [aI f11 0]) (by kernel_rfl) (.cons Vp (.nil _))) Uw (by
 intro _ _ _ h;unfold Uw at h;split at h<;>cases h;kernel_rfl)
section
variable (a b c:Int)(d:al4)
def Be:Int:=z7 .i64 (b + (1:Int))
def Fp:Bool:=bif leI a 256 then Int.tmod (Be b) 2==0 else false
def Bf:Int:=z7 .i64 (Be b - (1:Int))
def vH:Int:=Int.tmod (z7 .i64 (z7 .i64 (c * (48271:Int)) + (29:Int))) 2147483647
def kw:Int:=bif leI a 1 then(0:Int)else Int.tmod (bif ltI b (↑d.length:Int)then bif Fp a b then z7 .i64 (z6 d[w8 (Bf b)]? 0)else z7 .i64 (z7 .i64 (Int.tdiv (vH c) 31) + z7 .i64 (z6 d[w8 b]? 0))else z7 .i64 (Int.tdiv (vH c) 31)) a
def zV:Int:=bif leI a 1 then b else bif ltI b (↑d.length:Int)then Be b else b
def zW:Int:=bif leI a 1 then c else bif ltI b (↑d.length:Int)then vH c else vH c
def zX:Bool:=allT [leI a 1||neI 2147483647 0,leI a 1||neI 31 0,leI a 1||(!ltI b (↑d.length:Int)||leI 0 b),leI a 1||(!ltI b (↑d.length:Int)||ltI b (↑d.length:Int)),leI a 1||(!ltI b (↑d.length:Int)||ltN b.toNat d.length),leI a 1||(!ltI b (↑d.length:Int)||(!(leI a 256&&true)||neI 2 0)),leI a 1||(!ltI b (↑d.length:Int)||(!Fp a b||leI 0 (Bf b))),leI a 1||(!ltI b (↑d.length:Int)||(!Fp a b||ltI (Bf b) (↑d.length:Int))),leI a 1||(!ltI b (↑d.length:Int)||(!Fp a b||ltN (w8 (Bf b)) d.length)),leI a 1||neI a 0]
end
def Ux:al6
 | [.one ⟨false,[.ptr 0 0]⟩,.one ⟨false,[.val (.int .i64 a)]⟩],[.box 53 [.ref 1,.val (.int .i64 b),.val (.int .i64 c)],.row false 5 (.int .u8) d]=>some ⟨al9 (kw a b c d),[.box 53 [.ref 1,al7 (zV a b d),al7 (zW a b c d)],ami d],[],[zX a b d]⟩
 |_,_=>none
def LY:PF prog:=PF.ofG prog [] [] aS 20 f20 func20 (fun c _=>LOk.nil c) Ux (by
 intro _ _ _ h;unfold Ux at h;split at h<;>cases h;kernel_rfl)
section
variable (a b:Int)(c d:al4)
def Mh:Int:=z6 c[w8 (kw (↑c.length:Int) a b d)]? 0
def PN:Int:=zV (↑c.length:Int) a d
def PO:Int:=zW (↑c.length:Int) a b d
def Mj:Bool:=allT [zX (↑c.length:Int) a d,leI 0 (kw (↑c.length:Int) a b d),ltI (kw (↑c.length:Int) a b d) (↑c.length:Int),ltN (w8 (kw (↑c.length:Int) a b d)) c.length]
end
def Uy:al6
 | [.one ⟨false,[.ptr 0 0]⟩,.one ⟨false,[.ref 1]⟩],[.box 53 [.ref 2,.val (.int .i64 a),.val (.int .i64 b)],.row false 2 (.int .i64) c,.row false 5 (.int .u8) d]=>some ⟨al9 (Mh a b c d),[.box 53 [.ref 2,al7 (PN a c d),al7 (PO a b c d)],ama c,ami d],[],[Mj a b c d]⟩
 |_,_=>none
def acx:PF prog:=PF.ofG prog (T3z [LY]) [] aS 22 f22 func22 (fun c _=>LOk.nil c) Uy (by
 intro _ _ _ h;unfold Uy at h;split at h<;>cases h;kernel_rfl)
def mE(a s:Int)(c:al4):Bool:=(leI 0 a&&leI a 4096)&&((leI 0 s&&ltI s 2147483647)&&(leN c.length 4096&&c.all fun x=>inR x 0 255))
theorem VY{a s:Int}{c:al4}:mE a s c=true↔(0≤a∧a≤4096)∧(0≤s∧s < 2147483647)∧c.length≤4096∧ ∀ x∈c,0≤x∧x≤255:=by
 simp only [mE,q8,HM,Eg,uk,List.all_eq_true,sC]
theorem SA{x n:Int}(h:0≤x)(hn:0 < n):0≤Int.tmod x n∧Int.tmod x n < n:=by
 rw [Int.tmod_eq_emod_of_nonneg h]
 exact⟨Int.emod_nonneg _ (by omega),Int.emod_lt_of_pos _ hn⟩
theorem aib{code:al4}(hb: ∀ x∈code,0≤x∧x≤255)(i:Nat):0≤(code[i]?.getD 0)∧(code[i]?.getD 0)≤255:=by
 cases h:code[i]? with
 |none=>simp
 |some x=>exact hb x (List.mem_of_getElem? h)
def nxV(n a s:Int)(c:al4):Int:=kw n a s c
def nxA(n a:Int)(c:al4):Int:=zV n a c
def nxS(n a s:Int)(c:al4):Int:=zW n a s c
theorem Zu(n:Int){a s:Int}{code:al4}(h:mE a s code=true):
  zX n a code=true∧mE (nxA n a code) (nxS n a s code) code=true∧0≤nxV n a s code∧(1≤n→nxV n a s code < n):=by
 obtain⟨⟨h0,h1⟩,⟨s0,s1⟩,hn,hb⟩:=VY.1 h
 have hw1:IntKind.i64.wrap (s * 48271)=s * 48271:=aB (by omega) (by omega)
 have hw2:IntKind.i64.wrap (s * 48271 + 29)=s * 48271 + 29:=aB (by omega) (by omega)
 have hw3:IntKind.i64.wrap (a + 1)=a + 1:=aB (by omega) (by omega)
 have hw4:IntKind.i64.wrap (a + 1 - 1)=a:=by rw [aB (by omega) (by omega)];omega
 obtain⟨t0,t1⟩:=SA (x:=s * 48271 + 29) (n:=2147483647) (by omega) (by omega)
 have hd0:0≤Int.tdiv (Int.tmod (s * 48271 + 29) 2147483647) 31:=Int.tdiv_nonneg t0 (by omega)
 have hd1:Int.tdiv (Int.tmod (s * 48271 + 29) 2147483647) 31≤2147483647:=by
  rw [Int.tdiv_eq_ediv_of_nonneg t0];omega
 have hw7:IntKind.i64.wrap (Int.tdiv (Int.tmod (s * 48271 + 29) 2147483647) 31)=Int.tdiv (Int.tmod (s * 48271 + 29) 2147483647) 31:=aB (by omega) (by omega)
 have q1:neI 2147483647 0=true:=by decide
 have q2:neI 31 0=true:=by decide
 have q3:neI 2 0=true:=by decide
 simp only [nxA,nxS,nxV]
 by_cases hq:n≤1
 ·have d:leI n 1=true:=cw hq
  refine⟨by simp [zX,allT,d],?_,by simp [kw,d],fun h=>by simp [kw,d];omega⟩
  simp only [zV,zW,d,cond_true]
  exact h
 ·have d:leI n 1=false:=aiH (by omega)
  have q4:neI n 0=true:=aaZ (by omega)
  by_cases hl:a < (code.length:Int)
  ·have dl:ltI a (code.length:Int)=true:=cK hl
   obtain⟨c0,c1⟩:=aib hb a.toNat
   have hw5:IntKind.i64.wrap (code[a.toNat]?.getD 0)=code[a.toNat]?.getD 0:=aB (by omega) (by omega)
   have hw6:IntKind.i64.wrap (Int.tdiv (Int.tmod (s * 48271 + 29) 2147483647) 31 + code[a.toNat]?.getD 0)=Int.tdiv (Int.tmod (s * 48271 + 29) 2147483647) 31 + code[a.toNat]?.getD 0:=aB (by omega) (by omega)
   have dn:ltN a.toNat code.length=true:=ip (by omega)
   have dz:leI 0 a=true:=cw h0
   have hwa:IntKind.i64.wrap a=a:=aB (by omega) (by omega)
   refine⟨?_,?_,?_⟩
   ·simp [zX,Be,Bf,allT,d,dl,dn,hw3,hw4,hwa,dz,q1,q2,q3,q4]
   ·simp only [zV,zW,Be,vH,d,dl,cond_true,cond_false,hw1,hw2,hw3]
    exact VY.2 ⟨⟨by omega,by omega⟩,⟨t0,t1⟩,hn,hb⟩
   ·simp only [kw,Fp,Bf,Be,vH,d,dl,cond_true,cond_false,hw1,hw2,hw3,hw4,hw5,hw7,hw6]
    cases (bif leI n 256 then Int.tmod (a + 1) 2==0 else false)with
    |true=>
     obtain⟨m0,m1⟩:=SA (x:=code[a.toNat]?.getD 0) (n:=n) c0 (by omega)
     exact⟨m0,fun _=>m1⟩
    |false=>
     obtain⟨m0,m1⟩:=SA (x:=Int.tdiv (Int.tmod (s * 48271 + 29) 2147483647) 31 + code[a.toNat]?.getD 0) (n:=n) (by omega) (by omega)
     exact⟨m0,fun _=>m1⟩
  ·have dl:ltI a (code.length:Int)=false:=nA (by omega)
   refine⟨?_,?_,?_⟩
   ·simp [zX,allT,d,dl,q1,q2,q4]
   ·simp only [zV,zW,vH,d,dl,cond_false,hw1,hw2]
    exact VY.2 ⟨⟨h0,h1⟩,⟨t0,t1⟩,hn,hb⟩
   ·simp only [kw,vH,d,dl,cond_false,hw1,hw2,hw7]
    obtain⟨m0,m1⟩:=SA (x:=Int.tdiv (Int.tmod (s * 48271 + 29) 2147483647) 31) (n:=n) hd0 (by omega)
    exact⟨m0,fun _=>m1⟩
theorem abh(a b c:Int)(d:al4)(h:mE b c d=true):kw a b c d=nxV a b c d∧zV a b d=nxA a b d∧zW a b c d=nxS a b c d∧zX a b d=true:=⟨rfl,rfl,rfl,(Zu a h).1⟩
def UM:al6
 | [.one ⟨false,[.ptr 0 0]⟩,.one ⟨false,[.val (.int .i64 a)]⟩],[.box 53 [.ref 1,.val (.int .i64 b),.val (.int .i64 c)],.row false 5 (.int .u8) d]=>some ⟨al9 (nxV a b c d),[.box 53 [.ref 1,al7 (nxA a b d),al7 (nxS a b c d)],ami d],[],[mE b c d]⟩
 |_,_=>none
def uS:PF prog:=PF.alt LY UM (by
 intro args es o h dq;unfold UM at h;split at h
 ·rename_i a b c d
  cases h
  have dq:=zR dq
  have hh:=abh a b c d dq
  obtain⟨e0,e1,e2,en⟩:=hh
  exact uJ rfl (pM en) (by simp only [e0] <;> rfl) (by simp only [e1,e2] <;> rfl) rfl
 ·cases h)
def pkV(a s:Int)(l c:al4):Int:=Mh a s l c
def pkA(a:Int)(l c:al4):Int:=PN a l c
def pkS(a s:Int)(l c:al4):Int:=PO a s l c
theorem ahk{a s:Int}{l code:al4}(h:(mE a s code&&leN 1 l.length)=true):
  Mj a s l code=true∧mE (pkA a l code) (pkS a s l code) code=true∧pkV a s l code∈l:=by
 simp only [q8,uk]at h
 obtain⟨n3,n1,n0,nl⟩:=Zu (l.length:Int) h.1
 have nl:=nl (by omega)
 simp only [nxV]at n0 nl
 refine⟨?_,n1,?_⟩
 ·have t1:leI 0 (kw (l.length:Int) a s code)=true:=cw n0
  have t2:ltI (kw (l.length:Int) a s code) (l.length:Int)=true:=cK nl
  have t3:ltN (kw (l.length:Int) a s code).toNat l.length=true:=ip (by omega)
  simp only [Mj,allT,n3,t1,t2,t3,cond_true]
 ·have gm:(kw (l.length:Int) a s code).toNat < l.length:=by omega
  simp only [pkV,Mh,List.getElem?_eq_getElem gm,Option.getD_some]
  exact List.getElem_mem gm
theorem abi(a b:Int)(c d:al4)(h:(mE a b d&&leN 1 c.length)=true):Mh a b c d=pkV a b c d∧PN a c d=pkA a c d∧PO a b c d=pkS a b c d∧Mj a b c d=true:=⟨rfl,rfl,rfl,(ahk h).1⟩
def UN:al6
 | [.one ⟨false,[.ptr 0 0]⟩,.one ⟨false,[.ref 1]⟩],[.box 53 [.ref 2,.val (.int .i64 a),.val (.int .i64 b)],.row false 2 (.int .i64) c,.row false 5 (.int .u8) d]=>some ⟨al9 (pkV a b c d),[.box 53 [.ref 2,al7 (pkA a c d),al7 (pkS a b c d)],ama c,ami d],[],[mE a b d&&leN 1 c.length]⟩
 |_,_=>none
def uT:PF prog:=PF.alt acx UN (by
 intro args es o h dq;unfold UN at h;split at h
 ·rename_i a b c d
  cases h
  have dq:=zR dq
  have hh:=abi a b c d dq
  obtain⟨e0,e1,e2,en⟩:=hh
  exact uJ rfl (pM en) (by simp only [e0] <;> rfl) (by simp only [e1,e2] <;> rfl) rfl
 ·cases h)
def ahz(b:Int)(a:Nat×Int):Nat ⊕ (Nat×Int):=bif decide (a.1 < 64)then .inr (a.1 + 1,Int.tmod (a.2 * 59 + b) 2147483647)else .inl 0
def frS(c:al4):Int:=Hy c
theorem ag2(code:al4)(h:mE 0 0 code=true):Mg code=true∧mE 0 (frS code) code=true:=by
 obtain⟨_,_,hn,hb⟩:=VY.1 h
 have key:=OZ (lt:=zO) (fun i (a:Nat×Int)=>((i:Int),code,(0:Int),a.2)) ahz 0 (fun i a=>a.1=i∧0≤a.2∧a.2 < 2147483647) code (fun i b a he hI=>⟨?_,fun a' hf=> ?_⟩) (fun a hI=> ?_) code 0 (0,52021) rfl (by simp) (by decide)
 ·have hres:=oc.run key (acb (by simp only [oc];omega))
  have r1:oc.fin ((0:Int),code,(0:Int),(52021:Int))=true:=hres.1
  have r2:oc.res ((0:Int),code,(0:Int),(52021:Int))=_:=hres.2
  have inv: ∀ (r:al4) (i:Nat) (a:Nat×Int),(∀ x∈r,0≤x∧x≤255)→0≤a.2∧a.2 < 2147483647→0≤(fA ahz 0 r i a).2.2.2∧(fA ahz 0 r i a).2.2.2 < 2147483647:=by
   intro r
   induction r with
   |nil=>intro i a _ h;exact h
   |cons b r ih=>
    intro i a hx h
    simp only [fA,ahz]
    cases decide (a.1 < 64)with
    |false=>exact h
    |true=>
     have hb:=hx b (by simp)
     exact ih _ _ (fun x hm=>hx x (by simp [hm])) (SA (by omega) (by omega))
  obtain⟨q0,q1⟩:=inv code 0 (0,52021) hb (by decide)
  refine⟨by simp [Mg,Fo,allT,r1],VY.2 ⟨by decide,⟨?_,?_⟩,hn,hb⟩⟩
  ·simp only [frS,Hy,Fo,r2];exact q0
  ·simp only [frS,Hy,Fo,r2];exact q1
 ·obtain⟨gm,he⟩:=w7.1 he
  subst he
  obtain⟨h1,h2,h3⟩:=hI
  have hw:=jv gm (by omega)
  obtain⟨c0,c1⟩:=hb code[i] (List.getElem_mem gm)
  have hw1:IntKind.i64.wrap (a.2 * 59)=a.2 * 59:=aB (by omega) (by omega)
  have hw2:IntKind.i64.wrap code[i]=code[i]:=aB (by omega) (by omega)
  have hw3:IntKind.i64.wrap (a.2 * 59 + code[i])=a.2 * 59 + code[i]:=aB (by omega) (by omega)
  have q1:neI 2147483647 0=true:=by decide
  have q2:ltI (i:Int) (code.length:Int)=true:=cK (by omega)
  have q3:leI 0 (i:Int)=true:=cw (by omega)
  have q4:ltN i code.length=true:=ip gm
  simp only [ahz,h1]
  by_cases h64:i < 64
  ·have d:decide (i < 64)=true:=decide_eq_true h64
   have d':ltI (i:Int) 64=true:=cK (by omega)
   simp [zO,LT.out,allT,Gj,QR,QS,QT,QU,QV,QW,gm,hw,d,d',hw1,hw2,hw3,q1,q2,q3,q4]
  ·have d:decide (i < 64)=false:=decide_eq_false h64
   have d':ltI (i:Int) 64=false:=nA (by omega)
   simp [zO,LT.out,Gj,d,d']
 ·simp only [ahz]at hf
  obtain⟨h1,h2,h3⟩:=hI
  obtain⟨c0,c1⟩:=hb b (List.mem_of_getElem? he)
  cases hd:decide (a.1 < 64)with
  |false=>rw [hd]at hf;cases hf
  |true=>
   rw [hd]at hf
   simp only [cond_true,Sum.inr.injEq]at hf
   subst hf
   obtain⟨m0,m1⟩:=SA (x:=a.2 * 59 + b) (n:=2147483647) (by omega) (by omega)
   exact⟨by simp [h1],m0,m1⟩
 ·simp [zO,LT.out,Gj]
theorem abg(a:al4)(h:mE 0 0 a=true):Hy a=frS a∧Mg a=true:=⟨rfl,(ag2 a h).1⟩
def UL:al6
 | [.one ⟨false,[.ref 0]⟩],[.row false 5 (.int .u8) a]=>some ⟨al8 (.ptr 1 0),[ami a],[.box 53 [.ref 0,al7 0,al7 (frS a)]],[mE 0 0 a]⟩
 |_,_=>none
def Pt:PF prog:=PF.alt acw UL (by
 intro args es o h dq;unfold UL at h;split at h
 ·rename_i a
  cases h
  have dq:=zR dq
  have hh:=abg a dq
  obtain⟨e0,en⟩:=hh
  exact uJ rfl (pM en) rfl rfl (by simp only [e0] <;> rfl)
 ·cases h)
abbrev sA:=Int×Int×Int×Int×Int×List Int×List Int
section
variable (a b c d e:Int)(f g:al4)
def PT:Int:=pkV d e [(0:Int),(1:Int),(1:Int),(2:Int)] g
def Ad:al4:= [z7 .i64 (z7 .i64 ((3:Int) * Int.tmod b c) + PT d e g)]
def Ae:Int:=pkA d [(0:Int),(1:Int),(1:Int),(2:Int)] g
def El:Int:=pkS d e [(0:Int),(1:Int),(1:Int),(2:Int)] g
def Mk:Bool:=ltI 0 a
def QX:Bool:=mE d e g&&leN 1 (w9 [(0:Int),(1:Int),(1:Int),(2:Int)])
def QY:Bool:=neI c 0
def QZ:Bool:=leN (w9 f + w9 (Ad b c d e g)) 9223372036854775807
def Ra:Bool:=leN ((w9 f + w9 (Ad b c d e g)) * 8) 140737488355328
end
def Ml:Bool:=neI 2 0
section
variable (a b c d e:Int)(f g:al4)
def Rb:Bool:=mE (Ae d g) (El d e g) g
def Rc:Int:=z7 .i64 (a - (1:Int))
def ZL:Int:=z7 .i64 (z7 .i64 (z7 .i64 (b + (1:Int)) + z7 .i64 (Int.tdiv (PT d e g) 2)) + z7 .i64 (Int.tdiv (nxV 3 (Ae d g) (El d e g) g) 2))
def Rd:Int:=nxA 3 (Ae d g) g
def PR:Int:=nxS 3 (Ae d g) (El d e g) g
def PS:al4:=f++Ad b c d e g
end
def XO:sA→List (Nat×SV)
 |(a,b,c,_,_,_,_)=> [(6,(al9 a)),(0,(al8 (.ptr 0 0))),(4,(al8 (.ref 1))),(5,(al9 b)),(3,(al9 c))]
def XJ:sA→List (Nat×Entry)
 |(_,_,_,a,b,c,d)=> [(0,(.box 53 [.ref 2,al7 a,al7 b])),(2,(ami d)),(1,(amb c))]
def XW:Nat→sA→List (Nat×SV)
 |_,(_,_,_,_,_,_,_)=> [(4,(al8 (.ref 1)))]
def XS:Nat→sA→List (Nat×Entry)
 |_,(_,_,_,a,b,c,d)=> [(0,(.box 53 [.ref 2,al7 a,al7 b])),(1,(amb c)),(2,(ami d))]
def Kp:sA→LT sA
 |(a,b,c,d,e,f,g)=> .ite (Mk a) (.need [QX d e g] (.need [QY c,QZ b c d e f g,Ra b c d e f g] (.need [Ml,Rb d e g,Ml] (.nrm ((Rc a),ZL b d e g,c,Rd d g,PR d e g,PS b c d e f g,g) [(0,0),(1,960),(2,2)])))) (.ext 0 [(0,0),(1,1),(2,2)])
def Kw(s:St):Option sA:=do
 let some ⟨none,.one ⟨false,[.val (.int .i64 a)]⟩⟩:=s.look 6|none
 let some ⟨none,.one ⟨false,[.ptr 0 0]⟩⟩:=s.look 0|none
 let some ⟨none,.one ⟨false,[.ref 512]⟩⟩:=s.look 4|none
 let some ⟨none,.one ⟨false,[.val (.int .i64 b)]⟩⟩:=s.look 5|none
 let some ⟨none,.one ⟨false,[.val (.int .i64 c)]⟩⟩:=s.look 3|none
 let some (.box 53 [.ref 1,.val (.int .i64 d),.val (.int .i64 e)]):=s.ent 0|none
 let some (.row false 5 (.int IntKind.u8) g):=s.ent 1|none
 let some (.row true 2 (.int .i64) f):=s.ent 512|none
 some (a,b,c,d,e,f,g)
def iH:Lp sA where
 h:=⟨[20,21,24,25,26,7,27,28,29,30,31,32,33,34,35,4,36,37,38,39,40,41,42,43,44,5,22,23,6],[0,2],[1],[]⟩
 JL:=XO
 JE:=XJ
 XL:=XW
 XE:=XS
 q:=fun j=>match j with | _=> .exit 0
 tags:= [0]
 lt:=Kp
 fuel:=fun(a,b,c,d,e,f,g)=>a.natAbs + b.natAbs + c.natAbs + d.natAbs + e.natAbs + f.length + g.length
 fix:=fun(_,_,c,_,_,_,g) (a,b,_,d,e,f,_)=>(a,b,c,d,e,f,g)
 σ:= [(0,0),(2,1),(1,512)]
 rd:=Kw
theorem Vq:LoopOk prog (fun k=>Nat.blt k Tryz.f21.ntmps) iH.F (aI f21 0):=by
 refine Lp.ok (tbl:= (T3z [uS,uT])) (lf:= []) aS iH (by kernel_rfl) (LOk.nil _) (fun _=>rfl) (fun _ _=>rfl) ?_ ?_ ?_ ?_ (fun _=>rfl) ?_
 ·intro _;kernel_rfl
 ·intro _;kernel_rfl
 ·intro s x h
  have h:Kw s=some x:=h
  unfold Kw at h
  repeat' split at h
  all_goals cases h
  constructor<;>repeat(first|refine aa ‹_› rfl ?_|refine ab rfl ‹_› rfl ?_|rfl)
 ·intro _;kernel_rfl
 ·intro _ _;exact(And.intro rfl trivial)
section
variable (a b:Int)(c:al4)
def cI:Int:=z7 .i64 ((2:Int) + nxV 5 a b c)
def jX:Int:=aeU (cI a b c) 4 (cI a b c) 4
def mV:Int:=nxA (cI a b c) (nxA 5 a c) c
def rh:Int:=nxS (cI a b c) (nxA 5 a c) (nxS 5 a b c) c
def Bg:Int×Int×Int×Int×Int×al4×al4:=(z7 .i64 ((1:Int) + nxV (jX a b c) (mV a b c) (rh a b c) c),nxV (cI a b c) (nxA 5 a c) (nxS 5 a b c) c,cI a b c,nxA (jX a b c) (mV a b c) c,nxS (jX a b c) (mV a b c) (rh a b c) c,[],c)
def Fq:Int×Int×al4×al4:=(Lp.res iH (Bg a b c)).2.2.2.2
def cJ:Int:=(Fq a b c).1
def vI:Int×al4×al4:=(Fq a b c).2
def JO:Int:=nxV 40 (cJ a b c) ((vI a b c).1) c
def gR:Bool:=JO a b c==0
def jN:Int:=nxS 40 (cJ a b c) ((vI a b c).1) c
def gL:Bool:=JO a b c==1
def nx:Bool:=JO a b c==2
def zc:Bool:=JO a b c==3
def Sp:Int:=z7 .i64 ((3:Int) * cI a b c)
def zd:al4:= [(-1:Int),z7 .i64 (Sp a b c - (1:Int)),Sp a b c]
def ny:al4:=((vI a b c).2).1
def lz:Int:=z7 .i64 ((4:Int) + nxV 2 (nxA 40 (cJ a b c) c) (jN a b c) c)
def Ia:Bool:=mE (nxA 40 (cJ a b c) c) (jN a b c) c
def PP:Int:=bif gR a b c then pkV (nxA 40 (cJ a b c) c) (jN a b c) [(1:Int),(8:Int),(9:Int)] c else bif gL a b c then cI a b c else bif nx a b c then cI a b c else bif zc a b c then cI a b c else cI a b c
def Hz:Int:=bif gR a b c then pkA (nxA 40 (cJ a b c) c) [(1:Int),(8:Int),(9:Int)] c else bif gL a b c then pkA (nxA 40 (cJ a b c) c) (zd a b c) c else bif nx a b c then nxA 2 (nxA 40 (cJ a b c) c) c else bif zc a b c then nxA 40 (cJ a b c) c else nxA 40 (cJ a b c) c
def HA:Int:=bif gR a b c then pkS (nxA 40 (cJ a b c) c) (jN a b c) [(1:Int),(8:Int),(9:Int)] c else bif gL a b c then pkS (nxA 40 (cJ a b c) c) (jN a b c) (zd a b c) c else bif nx a b c then nxS 2 (nxA 40 (cJ a b c) c) (jN a b c) c else bif zc a b c then jN a b c else jN a b c
def HB:al4:=bif gR a b c then ny a b c else bif gL a b c then List.set (ny a b c) (w8 0) (pkV (nxA 40 (cJ a b c) c) (jN a b c) (zd a b c) c)else bif nx a b c then z8 (w8 (lz a b c)) (0:Int)else bif zc a b c then []else ny a b c
def PQ:Bool:=allT [mE a b c,mE (nxA 5 a c) (nxS 5 a b c) c,mE (mV a b c) (rh a b c) c,Lp.fin iH (Bg a b c),mE (cJ a b c) ((vI a b c).1) c,!gR a b c||Ia a b c&&leN 1 (w9 [(1:Int),(8:Int),(9:Int)]),gR a b c||(!gL a b c||Ia a b c&&leN 1 (w9 (zd a b c))),gR a b c||(!gL a b c||leI 0 0),gR a b c||(!gL a b c||ltI 0 (↑(w9 (ny a b c)):Int)),gR a b c||(!gL a b c||ltN (w8 0) (w9 (ny a b c))),gR a b c||(gL a b c||(!nx a b c||Ia a b c)),gR a b c||(gL a b c||(!nx a b c||leI 0 (lz a b c))),gR a b c||(gL a b c||(!nx a b c||leI (lz a b c) (lz a b c))),gR a b c||(gL a b c||(!nx a b c||leI ((↑(8:Nat):Int) * lz a b c) 281474976710656)),gR a b c||(gL a b c||(!nx a b c||leI (lz a b c) 9223372036854775807))]
end
def Uz:al6
 | [.one ⟨false,[.ptr 0 0]⟩],[.box 53 [.ref 1,.val (.int .i64 a),.val (.int .i64 b)],.row false 5 (.int .u8) c]=>some ⟨.one ⟨true,[al7 (PP a b c),.ref 2]⟩,[.box 53 [.ref 1,al7 (Hz a b c),al7 (HA a b c)],ami c],[amb (HB a b c)],[PQ a b c]⟩
 |_,_=>none
def acy:PF prog:=PF.ofG prog (T3z [uS,uT]) [iH.F] aS 21 f21 func21 (LOk.fnT (l:= [aI f21 0]) (by kernel_rfl) (.cons Vq (.nil _))) Uz (by
 intro _ _ _ h;unfold Uz at h;split at h<;>cases h;kernel_rfl)
theorem Lp.inv{X:Type}(p:Lp X)(I Q:Nat→X→Prop)
  (hs: ∀ k x,I (k + 1) x→(∃ j,(p.lt x).out=some (.inl j)∧Q j x)∨ ∃ y,(p.lt x).out=some (.inr y)∧I k y)
  (he: ∀ x,I 0 x→ ∃ j,(p.lt x).out=some (.inl j)∧Q j x) (N:Nat) (x:X) (hN:N≤999) (h:I N x):
  p.fin x=true∧ ∃ j y,p.res x=(j,y)∧Q j y:=by
 have key: ∀ (k:Nat) (x:X),I k x→ ∃ j y,Ky p.lt (k + 1) x=some (j,y)∧Q j y:=by
  intro k
  induction k with
  |zero=>
   intro x h
   obtain⟨j,h1,h2⟩:=he x h
   exact⟨j,x,PH _ h1,h2⟩
  |succ k ih=>
   intro x h
   rcases hs k x h with⟨j,h1,h2⟩ | ⟨y,h1,h2⟩
   ·exact⟨j,x,PH _ h1,h2⟩
   ·obtain⟨j,z,h3,h4⟩:=ih y h2
    exact⟨j,z,by rw [VU _ h1];exact h3,h4⟩
 obtain⟨j,y,h1,h2⟩:=key N x h
 obtain⟨r1,r2⟩:=p.run h1 (acb (by omega))
 exact⟨r1,j,y,r2,h2⟩
theorem VK{n a s:Int}{c:al4}(h:mE a s c=true):mE (nxA n a c) (nxS n a s c) c=true:=(Zu n h).2.1
theorem agH{a s x:Int}{l c:al4}(h:mE a s c=true):mE (pkA a (x::l) c) (pkS a s (x::l) c) c=true:=(ahk (l:=x::l) (by rw [h];rfl)).2.1
theorem ahf{n a s:Int}{c:al4}(h:mE a s c=true)(hn:1≤n):0≤nxV n a s c∧nxV n a s c < n:=⟨(Zu n h).2.2.1,(Zu n h).2.2.2 hn⟩
theorem agn{C:Type}(x:C)(l:List C):leN 1 (x::l).length=true:=iJ (by simp)
theorem aiG(c:al4)(bl:Int)(hbl:bl≠0)(K:Nat)(hK:K≤100)(p a s:Int)(h:mE a s c=true):
  iH.fin ((K:Int),p,bl,a,s,[],c)=true∧ ∃ j y,iH.res ((K:Int),p,bl,a,s,[],c)=(j,y)∧mE y.2.2.2.1 y.2.2.2.2.1 c=true∧y.2.2.2.2.2.1.length=K:=by
 refine iH.inv (fun k x=>x.1=(k:Int)∧x.2.2.1=bl∧mE x.2.2.2.1 x.2.2.2.2.1 c=true∧x.2.2.2.2.2.1.length + k=K∧x.2.2.2.2.2.2=c) (fun _ y=>mE y.2.2.2.1 y.2.2.2.2.1 c=true∧y.2.2.2.2.2.1.length=K)
  (fun k x hx=> .inr ?_) (fun x hx=> ?_) K _ (by omega) ⟨rfl,rfl,h,by simp,rfl⟩
 ·obtain⟨b,d,e,f,g,i,m⟩:=x
  obtain⟨h0,h1,h2,h3,h4⟩:=hx
  simp only at h0 h1 h2 h3 h4
  subst h0 h1 h4
  have t1:ltI 0 ((k + 1:Nat):Int)=true:=cK (by omega)
  have t2:neI e 0=true:=aaZ hbl
  have t3:neI 2 0=true:=by decide
  have t4:=agH (x:=0) (l:= [1,1,2]) h2
  have t5:leN (i.length + 1) 9223372036854775807=true:=iJ (by omega)
  have t6:leN ((i.length + 1) * 8) 140737488355328=true:=iJ (by omega)
  have t7:=agn (0:Int) [1,1,2]
  refine⟨?_,?_,?_⟩
  rotate_left
  ·simp only [iH,Kp,LT.out,allT,Mk,QX,QY,QZ,Ra,Ml,Rb,Ad,Ae,El,List.length_singleton,t1,t2,t3,t4,t5,t6,t7,h2,cond_true,Bool.and_self]
   rfl
  ·have s9:mE (Rd f m) (PR f g m) m=true:=VK (n:=3) t4
   refine⟨?_,rfl,s9,?_,rfl⟩
   ·simp only [Rc];rw [aB (by omega) (by omega)];omega
   ·simp only [PS,Ad,w3,List.length_singleton];omega
 ·obtain⟨b,d,e,f,g,i,m⟩:=x
  obtain⟨h0,h1,h2,h3,h4⟩:=hx
  simp only at h0 h1 h2 h3 h4
  subst h0 h1 h4
  exact⟨0,by simp [iH,Kp,LT.out,Mk],h2,by simpa using h3⟩
theorem ab9(a s:Int)(c:al4)(h:mE a s c=true):
  PQ a s c=true∧mE (Hz a s c) (HA a s c) c=true∧(HB a s c).length≤9:=by
 have n1:=ahf (n:=5) h (by omega)
 have s1:=VK (n:=5) h
 have a0:cI a s c=2 + nxV 5 a s c:=by simp only [cI];rw [aB (by omega) (by omega)]
 have s2:=VK (n:=cI a s c) s1
 have a1:2≤jX a s c∧jX a s c≤4:=by
  simp only [jX,ad7]
  cases hl:ltI (cI a s c) 4 with
  |true=>have:=Eg.1 hl;simp only [cond_true];omega
  |false=>simp
 have n2:=ahf (n:=jX a s c) s2 (by omega)
 have s3:=VK (n:=jX a s c) s2
 obtain⟨r1,j,y,r2,r3,r4⟩:=aiG c (cI a s c) (by omega) (1 + nxV (jX a s c) (mV a s c) (rh a s c) c).toNat
  (by simp only [mV,rh];omega) (nxV (cI a s c) (nxA 5 a c) (nxS 5 a s c) c) _ _ s3
 have e4:Bg a s c=(((1 + nxV (jX a s c) (mV a s c) (rh a s c) c).toNat:Int),nxV (cI a s c) (nxA 5 a c) (nxS 5 a s c) c,cI a s c,
   nxA (jX a s c) (mV a s c) c,nxS (jX a s c) (mV a s c) (rh a s c) c,[],c):=by
  simp only [Bg,mV,rh]
  rw [aB (by omega) (by omega)]
  rw [show (((1 + nxV (jX a s c) (nxA (cI a s c) (nxA 5 a c) c) (nxS (cI a s c) (nxA 5 a c) (nxS 5 a s c) c) c).toNat:Nat):Int)=1 + nxV (jX a s c) (nxA (cI a s c) (nxA 5 a c) c) (nxS (cI a s c) (nxA 5 a c) (nxS 5 a s c) c) c by omega]
 have f1:Lp.fin iH (Bg a s c)=true:=by rw [e4];exact r1
 have f2:Lp.res iH (Bg a s c)=(j,y):=by rw [e4];exact r2
 have g6:cJ a s c=y.2.2.2.1:=by simp only [cJ,Fq,f2]
 have g7:(vI a s c).1=y.2.2.2.2.1:=by simp only [vI,Fq,f2]
 have g16:ny a s c=y.2.2.2.2.2.1:=by simp only [ny,vI,Fq,f2]
 have s4:mE (cJ a s c) ((vI a s c).1) c=true:=by rw [g6,g7];exact r3
 have s5:=VK (n:=40) s4
 have n5:=ahf (n:=2) s5 (by omega)
 have hK:1≤(ny a s c).length∧(ny a s c).length≤4:=by
  rw [g16,r4];simp only [mV,rh];omega
 have a17:4≤lz a s c∧lz a s c≤5:=by
  simp only [lz,jN];rw [aB (by omega) (by omega)];omega
 have t1:ltI 0 (((ny a s c).length:Nat):Int)=true:=cK (by omega)
 have t2:ltN 0 (ny a s c).length=true:=ip (by omega)
 have t3:leI 0 (lz a s c)=true:=cw (by omega)
 have t4:leI ((8:Nat) * lz a s c) 281474976710656=true:=cw (by omega)
 have t5:leI (lz a s c) 9223372036854775807=true:=cw (by omega)
 have a18:Ia a s c=true:=s5
 have s2':mE (mV a s c) (rh a s c) c=true:=s2
 refine⟨?_,?_,?_⟩
 ·simp only [PQ,allT,h,s1,s2',f1,s4,a18,zd,agn,t1,t2,t3,t4,t5,aiI,Int.toNat_zero,Bool.or_true,Bool.and_self,cond_true]
 ·have s5':mE (nxA 40 (cJ a s c) c) (jN a s c) c=true:=s5
  have hnx: ∀ n,mE (nxA n (nxA 40 (cJ a s c) c) c) (nxS n (nxA 40 (cJ a s c) c) (jN a s c) c) c=true:=fun n=>VK s5'
  have hpk: ∀ x l,mE (pkA (nxA 40 (cJ a s c) c) (x::l) c) (pkS (nxA 40 (cJ a s c) c) (jN a s c) (x::l) c) c=true:=fun x l=>agH s5'
  simp only [Hz,HA,zd]
  cases gR a s c <;> cases gL a s c <;> cases nx a s c <;> cases zc a s c <;> simp only [cond_true,cond_false,s5',hnx,hpk]
 ·simp only [HB]
  cases gR a s c <;> cases gL a s c <;> cases nx a s c <;> cases zc a s c <;> simp only [cond_true,cond_false,List.length_set,w6,List.length_nil] <;> omega
def UO:al6
 | [.one ⟨false,[.ptr 0 0]⟩],[.box 53 [.ref 1,.val (.int .i64 a),.val (.int .i64 b)],.row false 5 (.int .u8) c]=>some ⟨.one ⟨true,[al7 (PP a b c),.ref 2]⟩,[.box 53 [.ref 1,al7 (Hz a b c),al7 (HA a b c)],ami c],[amb (HB a b c)],[mE a b c]⟩
 |_,_=>none
def Pu:PF prog:=PF.alt acy UO (by
 intro args es o h dq;unfold UO at h;split at h
 ·rename_i a b c
  cases h
  have dq:=zR dq
  have hh:=(ab9 a b c dq).1
  have en:=hh
  exact uJ rfl (pM en) rfl rfl rfl
 ·cases h)
def aet(m:Int):al6
 | [.one ⟨false,[.val (.int .i64 x)]⟩],[]=>some ⟨al8 (.val (.string (Ge x))),[],[],[leI 0 x&&ltI x m]⟩
 |_,_=>none
def ac5(m:Int):Prop:=
 ∀ args es o,aet m args es=some o→(∀ b∈o.nd,b=true)→ ∀ (mem:Nat→Option Obj) (ρ:Nm) (w:World),HpL w mem es ρ w→
  Calls prog 114 (args.map (SV.conc ρ)).toArray w fun e w'=> ∃ ρ':Nm,Ext (memB w mem) (fun i=>Nat.blt i es.length) ρ ρ'∧e= .returned (o.res.conc ρ')∧o.es.length=es.length∧
   o.res.inU (fun i=>Nat.blt i (o.es++o.new).length)∧HpL w mem (o.es++o.new) ρ' w'
def PF.dec(m:Int)(hk:ac5 m):PF prog where
 k:=114
 F:=aet m
 ok:=hk
section
variable (a:Int)
def JJ:al5:=strOfNums [z7 IntKind.u8 (z7 .i64 ((48:Int) + Int.tmod a 10))]
def JK:Bool:=ltI a 10||neI 10 0
def Me:al5:=bif ltI a 10 then strOfNums [z7 IntKind.u8 (z7 .i64 ((48:Int) + a))]else Ge (z7 .i64 (Int.tdiv a 10))++JJ a
end
def Mf(m0 a:Int):Bool:=allT [JK a,ltI a 10||leI 0 (z7 .i64 (Int.tdiv a 10))&&ltI (z7 .i64 (Int.tdiv a 10)) m0,JK a,ltI a 10||leN (ByteArray.size (Ge (z7 .i64 (Int.tdiv a 10))) + ByteArray.size (JJ a)) 9223372036854775807]
def Uv(m0:Int):al6
 | [.one ⟨false,[.val (.int .i64 a)]⟩],[]=>some ⟨al8 (.val (.string (Me a))),[],[],[Mf m0 a]⟩
 |_,_=>none
def acv(m0:Int)(hk0:ac5 m0):PF prog:=PF.ofG prog [PF.dec m0 hk0] [] aS 114 f114 func114 (fun c _=>LOk.nil c) (Uv m0) (by
 intro _ _ _ h;unfold Uv at h;split at h<;>cases h;kernel_rfl)
theorem afD{x:Int}(h:0≤x)(h1:x < 256):IntKind.u8.wrap x=x:=by
 have e:IntKind.u8.wrap x=x % 256:=rfl
 rw [e];omega
theorem ab7{x:Int}(h:0≤x):Ge x=⟨(Lib.decDigits x.toNat).toArray⟩:=by
 obtain⟨u,rfl⟩: ∃ u:Nat,x=u:=⟨x.toNat,by omega⟩
 simp only [Ge,Lib.itoa_nonneg,q9]
theorem aaP{x:Int}(h:0≤x)(h1:x < 10):Ge x=strOfNums [x + 48]:=by
 rw [ab7 h,Lib.decDigits_one (by omega)]
 have e:(x + 48).toNat=48 + x.toNat:=by omega
 simp only [strOfNums,List.map_cons,List.map_nil,e]
theorem ahH{x:Int}(h:0≤x)(h1: ¬ x < 10):Ge x=Ge (x / 10)++strOfNums [x % 10 + 48]:=by
 rw [ab7 h,ab7 (show 0≤x / 10 by omega),Lib.decDigits,dif_neg (by omega)]
 have e1:(x / 10).toNat=x.toNat / 10:=by omega
 have e2:(x % 10 + 48).toNat=48 + x.toNat % 10:=by omega
 apply ByteArray.ext
 apply Array.ext'
 simp [strOfNums,e1,e2,ByteArray.data_append]
theorem Ti{x:Int}(h:0≤x)(h1:x≤9223372036854775807):(Ge x).size≤21:=by
 have:=Lib.itoa_length_le x (by omega) h1
 simpa [Ge,ByteArray.size] using this
theorem ajk{m m' x:Int}(hx:0≤x)(h9:x≤9223372036854775807)(hm:x < 10∨x / 10 < m):Mf m x=true∧Me x=Ge x:=by
 have e:Int.tdiv x 10=x / 10:=Int.tdiv_eq_ediv_of_nonneg hx
 have e':Int.tmod x 10=x % 10:=Int.tmod_eq_emod_of_nonneg hx
 have hw:IntKind.i64.wrap (Int.tdiv x 10)=x / 10:=by rw [e];exact aB (by omega) (by omega)
 have h2:neI 10 0=true:=rfl
 have h3:JJ x=strOfNums [x % 10 + 48]:=by
  have w1:IntKind.i64.wrap (48 + x % 10)=x % 10 + 48:=by rw [aB (by omega) (by omega)];omega
  have w2:IntKind.u8.wrap (x % 10 + 48)=x % 10 + 48:=afD (by omega) (by omega)
  simp only [JJ,e',w1,w2]
 have hs:=Ti (x:=x / 10) (by omega) (by omega)
 have hl:leN ((Ge (x / 10)).size + (strOfNums [x % 10 + 48]).size) 9223372036854775807=true:=by
  rw [strOfNums_size]
  exact iJ (by simp;omega)
 cases hc:ltI x 10 with
 |true=>
  have hc':=Eg.1 hc
  have w1:IntKind.i64.wrap (48 + x)=x + 48:=by rw [aB (by omega) (by omega)];omega
  have w2:IntKind.u8.wrap (x + 48)=x + 48:=afD (by omega) (by omega)
  refine⟨by simp [Mf,JK,hc,h2,allT],?_⟩
  simp only [Me,hc,cond_true,w1,w2,aaP hx hc']
 |false=>
  have hc':=Gf.1 hc
  have q1:leI 0 (x / 10)=true:=cw (by omega)
  have q2:ltI (x / 10) m=true:=cK (by omega)
  refine⟨by simp only [Mf,JK,hc,h2,h3,hw,hl,q1,q2,allT,Bool.or_true,Bool.and_self,Bool.false_or];rfl,?_⟩
  simp only [Me,hc,cond_false,hw,h3]
  exact(ahH hx (by omega)).symm
theorem Fd{m m':Int}(hk:ac5 m)(h:m'≤10∨m'≤10 * m)(hm:m'≤1000000000000):ac5 m':=by
 refine(PF.alt (acv m hk) (aet m') ?_).ok
 intro args es o h dq
 unfold aet at h
 split at h
 ·rename_i x0
  cases h
  have h1:=dq _ (List.mem_cons_self ..)
  simp only [q8,HM,Eg]at h1
  obtain⟨h2,h3⟩:=ajk (m:=m) (m':=m') h1.1 (by omega) (by omega)
  exact uJ rfl (pM h2) (by simp only [h3] <;> rfl) rfl rfl
 ·cases h
theorem aih:ac5 0:=by
 intro args es o h dq
 unfold aet at h
 split at h
 ·cases h
  have h1:=dq _ (List.mem_cons_self ..)
  simp only [q8,HM,Eg]at h1
  omega
 ·cases h
theorem ak1:ac5 1000000000000:=Fd (m:=100000000000) (m':=1000000000000) (Fd (m:=10000000000) (m':=100000000000) (Fd (m:=1000000000) (m':=10000000000) (Fd (m:=100000000) (m':=1000000000) (Fd (m:=10000000) (m':=100000000) (Fd (m:=1000000) (m':=10000000) (Fd (m:=100000) (m':=1000000) (Fd (m:=10000) (m':=100000) (Fd (m:=1000) (m':=10000) (Fd (m:=100) (m':=1000) (Fd (m:=10) (m':=100) (Fd (m:=0) (m':=10) aih (.inl (by decide)) (by decide)) (.inr (by decide)) (by decide)) (.inr (by decide)) (by decide)) (.inr (by decide)) (by decide)) (.inr (by decide)) (by decide)) (.inr (by decide)) (by decide)) (.inr (by decide)) (by decide)) (.inr (by decide)) (by decide)) (.inr (by decide)) (by decide)) (.inr (by decide)) (by decide)) (.inr (by decide)) (by decide)) (.inr (by decide)) (by decide)
def acX:PF prog:=PF.dec 1000000000000 ak1
def rf(a b:Int)(c:al4):Int:=bif !isT a c then(1:Int)else bif !gk b 0 2 then(2:Int)else(0:Int)
def UB:al6
 | [.one ⟨true,[.val (.int .i64 a),.ref 0]⟩,.one ⟨false,[.val (.int .i64 b)]⟩],[.row false 2 (.int .i64) c]=>some ⟨al9 (rf a b c),[ama c],[],[]⟩
 |_,_=>none
def zT:PF prog:=PF.ofG prog (T3z [LX,rx]) [] aS 36 f36 func36 (fun c _=>LOk.nil c) UB (by
 intro _ _ _ h;unfold UB at h;split at h<;>cases h;kernel_rfl)
abbrev jC:=Int×Bool×Int×Int×List (Int×(Int×Int))
section
variable (a:Int)(b:Bool)(c d:Int)(e:ag5)
def nU:Bool:=bif a !=2 then true else b
def nV:al1:= [(a,c,d)]
def wS:Bool:=leI a 3
def wT:Bool:= !nU a b||leN (w9 e + w9 (nV a c d)) 9223372036854775807
def wU:Bool:= !nU a b||leN ((w9 e + w9 (nV a c d)) * 24) 140737488355328
def wV:Bool:=nU a b
def sU:Int:=z7 .i64 (a + (1:Int))
def wW:ag5:=e++nV a c d
end
def Ql:jC→List (Nat×SV)
 |(a,b,c,d,_)=> [(10,(al9 a)),(2,(al8 (.val (.bool b)))),(7,(al8 (.ref 0))),(8,(al9 c)),(9,(al9 d))]
def Qj:jC→List (Nat×Entry)
 |(_,_,_,_,a)=> [(0,(amh a))]
def Qp:Nat→jC→List (Nat×SV)
 |_,(a,_,_,_,_)=> [(7,(al8 (.ref 0))),(10,(al9 a))]
def vX:jC→LT jC
 |(a,b,c,d,e)=> .ite (wS a) (.need [wT a b c d e,wU a b c d e] (.ite (wV a b) (.nrm ((sU a),b,c,d,(wW a c d e)) [(0,896)]) (.nrm ((sU a),b,c,d,e) [(0,0)]))) (.ext 0 [(0,0)])
def AW(s:St):Option jC:=do
 let some ⟨none,.one ⟨false,[.val (.int .i64 a)]⟩⟩:=s.look 10|none
 let some ⟨none,.one ⟨false,[.val (.bool b)]⟩⟩:=s.look 2|none
 let some ⟨none,.one ⟨false,[.ref 1]⟩⟩:=s.look 7|none
 let some ⟨none,.one ⟨false,[.val (.int .i64 c)]⟩⟩:=s.look 8|none
 let some ⟨none,.one ⟨false,[.val (.int .i64 d)]⟩⟩:=s.look 9|none
 let some (.row true 85 (.pair (.int .i64) (.pair (.int .i64) (.int .i64))) e):=s.ent 1|none
 some (a,b,c,d,e)
def dj:Lp jC where
 h:=⟨[28,29,32,33,34,35,36,37,38,39,40,41,42,43,7,30,31,10],[],[0],[]⟩
 JL:=Ql
 JE:=Qj
 XL:=Qp
 XE:=fun _=>Qj
 q:=fun j=>match j with | _=> .exit 4
 tags:= [0]
 lt:=vX
 fuel:=fun(a,_,c,d,e)=>a.natAbs + c.natAbs + d.natAbs + e.length
 fix:=fun(_,b,c,d,_) (a,_,_,_,e)=>(a,b,c,d,e)
 σ:= [(0,1)]
 rd:=AW
theorem OR:LoopOk prog (memN [22,23,24,25,10,28,29,32,33,34,35,36,37,38,39,40,41,42,43,7,30,31,26,27,9]) dj.F (AP (AP (aI f37 0) 0) 0):=by
 refine Lp.ok (tbl:= []) (lf:= []) aS dj (by kernel_rfl) (LOk.nil _) (fun _=>rfl) (fun _ _=>rfl) ?_ ?_ ?_ ?_ (fun _=>rfl) ?_
 ·intro _;kernel_rfl
 ·intro _;kernel_rfl
 ·intro s x h
  have h:AW s=some x:=h
  unfold AW at h
  repeat' split at h
  all_goals cases h
  constructor<;>repeat(first|refine aa ‹_› rfl ?_|refine ab rfl ‹_› rfl ?_|rfl)
 ·intro _;kernel_rfl
 ·intro _ _;exact(And.intro (And.intro rfl rfl) trivial)
abbrev mL:=Int×Bool×Int×Int×List (Int×(Int×Int))×List Int
section
variable (a:Int)(b:Bool)(c d:Int)(e:ag5)
def se:Int×Bool×Int×Int×al1:=((0:Int),b,c,a,e)
def wn:Bool:=ltI a d
def wo:Bool:=Lp.fin dj (se a b c e)
def wq:Int:=z7 .i64 (a + (1:Int))
def ws:ag5:=(Lp.res dj (se a b c e)).2.2.2.2.2
end
def SH:mL→List (Nat×SV)
 |(a,b,c,_,_,_)=> [(9,(al9 a)),(3,(al8 (.ptr 0 0))),(2,(al8 (.val (.bool b)))),(7,(al8 (.ref 1))),(8,(al9 c))]
def SE:mL→List (Nat×Entry)
 |(_,_,_,a,b,c)=> [(0,(.box 26 [al7 a,.ref 2])),(2,(ama c)),(1,(amh b))]
def SN:Nat→mL→List (Nat×SV)
 |_,(a,_,_,_,_,_)=> [(7,(al8 (.ref 1))),(9,(al9 a))]
def SK:Nat→mL→List (Nat×Entry)
 |_,(_,_,_,a,b,c)=> [(0,(.box 26 [al7 a,.ref 2])),(1,(amh b)),(2,(ama c))]
def uO:mL→LT mL
 |(a,b,c,d,e,f)=> .ite (wn a d) (.need [wo a b c e] (.nrm ((wq a),b,c,d,ws a b c e,f) [(0,0),(1,384),(2,2)])) (.ext 0 [(0,0),(1,1),(2,2)])
def Ej(s:St):Option mL:=do
 let some ⟨none,.one ⟨false,[.val (.int .i64 a)]⟩⟩:=s.look 9|none
 let some ⟨none,.one ⟨false,[.ptr 0 0]⟩⟩:=s.look 3|none
 let some ⟨none,.one ⟨false,[.val (.bool b)]⟩⟩:=s.look 2|none
 let some ⟨none,.one ⟨false,[.ref 1]⟩⟩:=s.look 7|none
 let some ⟨none,.one ⟨false,[.val (.int .i64 c)]⟩⟩:=s.look 8|none
 let some (.box 26 [.val (.int .i64 d),.ref 2]):=s.ent 0|none
 let some (.row false 2 (.int .i64) f):=s.ent 2|none
 let some (.row true 85 (.pair (.int .i64) (.pair (.int .i64) (.int .i64))) e):=s.ent 1|none
 some (a,b,c,d,e,f)
def dN:Lp mL where
 h:=⟨[22,23,24,25,10,28,29,32,33,34,35,36,37,38,39,40,41,42,43,7,30,31,26,27,9],[0,2],[1],[]⟩
 JL:=SH
 JE:=SE
 XL:=SN
 XE:=SK
 q:=fun j=>match j with | _=> .exit 2
 tags:= [0]
 lt:=uO
 fuel:=fun(a,_,c,d,e,f)=>a.natAbs + c.natAbs + d.natAbs + e.length + f.length
 fix:=fun(_,b,c,d,_,f) (a,_,_,_,e,_)=>(a,b,c,d,e,f)
 σ:= [(0,0),(2,2),(1,1)]
 rd:=Ej
theorem RA:LoopOk prog (memN [15,16,17,18,19,9,22,23,24,25,10,28,29,32,33,34,35,36,37,38,39,40,41,42,43,7,30,31,26,27,20,21,8]) dN.F (AP (aI f37 0) 0):=by
 refine Lp.ok (tbl:= []) (lf:= [dj.F]) aS dN (by kernel_rfl) (LOk.allT (l:= [AP (AP (aI f37 0) 0) 0]) (by kernel_rfl) (.cons OR (.nil _))) (fun _=>rfl) (fun _ _=>rfl) ?_ ?_ ?_ ?_ (fun _=>rfl) ?_
 ·intro _;kernel_rfl
 ·intro _;kernel_rfl
 ·intro s x h
  have h:Ej s=some x:=h
  unfold Ej at h
  repeat' split at h
  all_goals cases h
  constructor<;>repeat(first|refine aa ‹_› rfl ?_|refine ab rfl ‹_› rfl ?_|rfl)
 ·intro _;kernel_rfl
 ·intro _ _;exact(And.intro rfl trivial)
abbrev qy:=Int×Bool×Int×List (Int×(Int×Int))×List Int
section
variable (a:Int)(b:Bool)(c:Int)(d:ag5)(e:al4)
def vl:Int×Bool×Int×Int×al1×al4:=((0:Int),b,a,c,d,e)
def Am:Bool:=ltI a (↑e.length:Int)
def An:Bool:=Lp.fin dN (vl a b c d e)
def Ao:Int:=z7 .i64 (a + (1:Int))
def Ap:ag5:=((Lp.res dN (vl a b c d e)).2.2.2.2.2).1
end
def Wv:qy→List (Nat×SV)
 |(a,b,_,_,_)=> [(8,(al9 a)),(3,(al8 (.ptr 0 0))),(2,(al8 (.val (.bool b)))),(7,(al8 (.ref 1)))]
def Wi:qy→List (Nat×Entry)
 |(_,_,a,b,c)=> [(0,(.box 26 [al7 a,.ref 2])),(2,(ama c)),(1,(amh b))]
def WV:Nat→qy→List (Nat×SV)
 |_,(_,_,_,_,_)=> [(7,(al8 (.ref 1)))]
def WI:Nat→qy→List (Nat×Entry)
 |_,(_,_,a,b,c)=> [(0,(.box 26 [al7 a,.ref 2])),(1,(amh b)),(2,(ama c))]
def yD:qy→LT qy
 |(a,b,c,d,e)=> .ite (Am a e) (.need [An a b c d e] (.nrm ((Ao a),b,c,Ap a b c d e,e) [(0,0),(1,448),(2,2)])) (.ext 0 [(0,0),(1,1),(2,2)])
def Jc(s:St):Option qy:=do
 let some ⟨none,.one ⟨false,[.val (.int .i64 a)]⟩⟩:=s.look 8|none
 let some ⟨none,.one ⟨false,[.ptr 128 0]⟩⟩:=s.look 3|none
 let some ⟨none,.one ⟨false,[.val (.bool b)]⟩⟩:=s.look 2|none
 let some ⟨none,.one ⟨false,[.ref 256]⟩⟩:=s.look 7|none
 let some (.box 26 [.val (.int .i64 c),.ref 0]):=s.ent 128|none
 let some (.row false 2 (.int .i64) e):=s.ent 0|none
 let some (.row true 85 (.pair (.int .i64) (.pair (.int .i64) (.int .i64))) d):=s.ent 256|none
 some (a,b,c,d,e)
def gP:Lp qy where
 h:=⟨[15,16,17,18,19,9,22,23,24,25,10,28,29,32,33,34,35,36,37,38,39,40,41,42,43,7,30,31,26,27,20,21,8],[0,2],[1],[]⟩
 JL:=Wv
 JE:=Wi
 XL:=WV
 XE:=WI
 q:=fun j=>match j with | _=> .exit 0
 tags:= [0]
 lt:=yD
 fuel:=fun(a,_,c,d,e)=>a.natAbs + c.natAbs + d.length + e.length
 fix:=fun(_,b,c,_,e) (a,_,_,d,_)=>(a,b,c,d,e)
 σ:= [(0,128),(2,0),(1,256)]
 rd:=Jc
theorem Ul:LoopOk prog (fun k=>Nat.blt k Tryz.f37.ntmps) gP.F (aI f37 0):=by
 refine Lp.ok (tbl:= []) (lf:= [dN.F]) aS gP (by kernel_rfl) (LOk.allT (l:= [AP (aI f37 0) 0]) (by kernel_rfl) (.cons RA (.nil _))) (fun _=>rfl) (fun _ _=>rfl) ?_ ?_ ?_ ?_ (fun _=>rfl) ?_
 ·intro _;kernel_rfl
 ·intro _;kernel_rfl
 ·intro s x h
  have h:Jc s=some x:=h
  unfold Jc at h
  repeat' split at h
  all_goals cases h
  constructor<;>repeat(first|refine aa ‹_› rfl ?_|refine ab rfl ‹_› rfl ?_|rfl)
 ·intro _;kernel_rfl
 ·intro _ _;exact(And.intro rfl trivial)
abbrev jD:=Int×Bool×Int×Int×List (Int×(Int×Int))
section
variable (a:Int)(b:Bool)(c d:Int)(e:ag5)
def nW:Bool:=bif a !=6 then true else b
def nX:al1:= [(a,c,d)]
def wX:Bool:=leI a 6
def wY:Bool:= !nW a b||leN (w9 e + w9 (nX a c d)) 9223372036854775807
def wZ:Bool:= !nW a b||leN ((w9 e + w9 (nX a c d)) * 24) 140737488355328
def xa:Bool:=nW a b
def sV:Int:=z7 .i64 (a + (1:Int))
def xc:ag5:=e++nX a c d
end
def Qm:jD→List (Nat×SV)
 |(a,b,c,d,_)=> [(13,(al9 a)),(2,(al8 (.val (.bool b)))),(7,(al8 (.ref 0))),(11,(al9 c)),(12,(al9 d))]
def Qk:jD→List (Nat×Entry)
 |(_,_,_,_,a)=> [(0,(amh a))]
def Qq:Nat→jD→List (Nat×SV)
 |_,(a,_,_,_,_)=> [(7,(al8 (.ref 0))),(13,(al9 a))]
def vY:jD→LT jD
 |(a,b,c,d,e)=> .ite (wX a) (.need [wY a b c d e,wZ a b c d e] (.ite (xa a b) (.nrm ((sV a),b,c,d,(xc a c d e)) [(0,896)]) (.nrm ((sV a),b,c,d,e) [(0,0)]))) (.ext 0 [(0,0)])
def AX(s:St):Option jD:=do
 let some ⟨none,.one ⟨false,[.val (.int .i64 a)]⟩⟩:=s.look 13|none
 let some ⟨none,.one ⟨false,[.val (.bool b)]⟩⟩:=s.look 2|none
 let some ⟨none,.one ⟨false,[.ref 0]⟩⟩:=s.look 7|none
 let some ⟨none,.one ⟨false,[.val (.int .i64 c)]⟩⟩:=s.look 11|none
 let some ⟨none,.one ⟨false,[.val (.int .i64 d)]⟩⟩:=s.look 12|none
 let some (.row true 85 (.pair (.int .i64) (.pair (.int .i64) (.int .i64))) e):=s.ent 0|none
 some (a,b,c,d,e)
def dk:Lp jD where
 h:=⟨[55,56,59,60,61,62,63,64,65,66,67,68,69,70,7,57,58,13],[],[0],[]⟩
 JL:=Qm
 JE:=Qk
 XL:=Qq
 XE:=fun _=>Qk
 q:=fun j=>match j with | _=> .exit 10
 tags:= [0]
 lt:=vY
 fuel:=fun(a,_,c,d,e)=>a.natAbs + c.natAbs + d.natAbs + e.length
 fix:=fun(_,b,c,d,_) (a,_,_,_,e)=>(a,b,c,d,e)
 σ:= [(0,0)]
 rd:=AX
theorem OS:LoopOk prog (memN [51,52,13,55,56,59,60,61,62,63,64,65,66,67,68,69,70,7,57,58,53,54,12]) dk.F (AP (AP (aI f37 1) 0) 0):=by
 refine Lp.ok (tbl:= []) (lf:= []) aS dk (by kernel_rfl) (LOk.nil _) (fun _=>rfl) (fun _ _=>rfl) ?_ ?_ ?_ ?_ (fun _=>rfl) ?_
 ·intro _;kernel_rfl
 ·intro _;kernel_rfl
 ·intro s x h
  have h:AX s=some x:=h
  unfold AX at h
  repeat' split at h
  all_goals cases h
  constructor<;>repeat(first|refine aa ‹_› rfl ?_|refine ab rfl ‹_› rfl ?_|rfl)
 ·intro _;kernel_rfl
 ·intro _ _;exact(And.intro (And.intro rfl rfl) trivial)
abbrev mM:=Int×Bool×Int×List (Int×(Int×Int))
section
variable (a:Int)(b:Bool)(c:Int)(d:ag5)
def sf:Int×Bool×Int×Int×al1:=((4:Int),b,c,a,d)
def wt:Bool:=ltI 0 a
def wu:Bool:=Lp.fin dk (sf a b c d)
def wv:Int:=z7 .i64 (a - (1:Int))
def ww:ag5:=(Lp.res dk (sf a b c d)).2.2.2.2.2
end
def SI:mM→List (Nat×SV)
 |(a,b,c,_)=> [(12,(al9 a)),(2,(al8 (.val (.bool b)))),(7,(al8 (.ref 0))),(11,(al9 c))]
def SF:mM→List (Nat×Entry)
 |(_,_,_,a)=> [(0,(amh a))]
def SO:Nat→mM→List (Nat×SV)
 |_,(a,_,_,_)=> [(7,(al8 (.ref 0))),(12,(al9 a))]
def uP:mM→LT mM
 |(a,b,c,d)=> .ite (wt a) (.need [wu a b c d] (.nrm ((wv a),b,c,(ww a b c d)) [(0,256)])) (.ext 0 [(0,0)])
def Ek(s:St):Option mM:=do
 let some ⟨none,.one ⟨false,[.val (.int .i64 a)]⟩⟩:=s.look 12|none
 let some ⟨none,.one ⟨false,[.val (.bool b)]⟩⟩:=s.look 2|none
 let some ⟨none,.one ⟨false,[.ref 1]⟩⟩:=s.look 7|none
 let some ⟨none,.one ⟨false,[.val (.int .i64 c)]⟩⟩:=s.look 11|none
 let some (.row true 85 (.pair (.int .i64) (.pair (.int .i64) (.int .i64))) d):=s.ent 1|none
 some (a,b,c,d)
def dO:Lp mM where
 h:=⟨[51,52,13,55,56,59,60,61,62,63,64,65,66,67,68,69,70,7,57,58,53,54,12],[],[0],[]⟩
 JL:=SI
 JE:=SF
 XL:=SO
 XE:=fun _=>SF
 q:=fun j=>match j with | _=> .exit 8
 tags:= [0]
 lt:=uP
 fuel:=fun(a,_,c,d)=>a.natAbs + c.natAbs + d.length
 fix:=fun(_,b,c,_) (a,_,_,d)=>(a,b,c,d)
 σ:= [(0,1)]
 rd:=Ek
theorem RB:LoopOk prog (memN [44,45,46,47,50,12,51,52,13,55,56,59,60,61,62,63,64,65,66,67,68,69,70,7,57,58,53,54,48,49,11]) dO.F (AP (aI f37 1) 0):=by
 refine Lp.ok (tbl:= []) (lf:= [dk.F]) aS dO (by kernel_rfl) (LOk.allT (l:= [AP (AP (aI f37 1) 0) 0]) (by kernel_rfl) (.cons OS (.nil _))) (fun _=>rfl) (fun _ _=>rfl) ?_ ?_ ?_ ?_ (fun _=>rfl) ?_
 ·intro _;kernel_rfl
 ·intro _;kernel_rfl
 ·intro s x h
  have h:Ek s=some x:=h
  unfold Ek at h
  repeat' split at h
  all_goals cases h
  constructor<;>repeat(first|refine aa ‹_› rfl ?_|refine ab rfl ‹_› rfl ?_|rfl)
 ·intro _;kernel_rfl
 ·intro _ _;exact(And.intro rfl trivial)
abbrev qz:=Int×Int×Bool×Int×List (Int×(Int×Int))×List Int
section
variable (a b:Int)(c:Bool)(d:Int)(e:ag5)
def vm:Int×Bool×Int×al1:=(b,c,a,e)
def Aq:Bool:=ltI a d
def Ar:Bool:=Lp.fin dO (vm a b c e)
def As:Int:=z7 .i64 (a + (1:Int))
def At:ag5:=(Lp.res dO (vm a b c e)).2.2.2.2
end
def Ww:qz→List (Nat×SV)
 |(a,b,c,_,_,_)=> [(11,(al9 a)),(3,(al8 (.ptr 0 0))),(1,(al9 b)),(2,(al8 (.val (.bool c)))),(7,(al8 (.ref 1)))]
def Wj:qz→List (Nat×Entry)
 |(_,_,_,a,b,c)=> [(0,(.box 26 [al7 a,.ref 2])),(2,(ama c)),(1,(amh b))]
def WW:Nat→qz→List (Nat×SV)
 |_,(_,_,_,_,_,_)=> [(7,(al8 (.ref 1)))]
def WJ:Nat→qz→List (Nat×Entry)
 |_,(_,_,_,a,b,c)=> [(0,(.box 26 [al7 a,.ref 2])),(1,(amh b)),(2,(ama c))]
def yE:qz→LT qz
 |(a,b,c,d,e,f)=> .ite (Aq a d) (.need [Ar a b c e] (.nrm ((As a),b,c,d,At a b c e,f) [(0,0),(1,448),(2,2)])) (.ext 0 [(0,0),(1,1),(2,2)])
def Jd(s:St):Option qz:=do
 let some ⟨none,.one ⟨false,[.val (.int .i64 a)]⟩⟩:=s.look 11|none
 let some ⟨none,.one ⟨false,[.ptr 128 0]⟩⟩:=s.look 3|none
 let some ⟨none,.one ⟨false,[.val (.int .i64 b)]⟩⟩:=s.look 1|none
 let some ⟨none,.one ⟨false,[.val (.bool c)]⟩⟩:=s.look 2|none
 let some ⟨none,.one ⟨false,[.ref 448]⟩⟩:=s.look 7|none
 let some (.box 26 [.val (.int .i64 d),.ref 0]):=s.ent 128|none
 let some (.row false 2 (.int .i64) f):=s.ent 0|none
 let some (.row true 85 (.pair (.int .i64) (.pair (.int .i64) (.int .i64))) e):=s.ent 448|none
 some (a,b,c,d,e,f)
def gQ:Lp qz where
 h:=⟨[44,45,46,47,50,12,51,52,13,55,56,59,60,61,62,63,64,65,66,67,68,69,70,7,57,58,53,54,48,49,11],[0,2],[1],[]⟩
 JL:=Ww
 JE:=Wj
 XL:=WW
 XE:=WJ
 q:=fun j=>match j with | _=> .exit 6
 tags:= [0]
 lt:=yE
 fuel:=fun(a,b,_,d,e,f)=>a.natAbs + b.natAbs + d.natAbs + e.length + f.length
 fix:=fun(_,b,c,d,_,f) (a,_,_,_,e,_)=>(a,b,c,d,e,f)
 σ:= [(0,128),(2,0),(1,448)]
 rd:=Jd
theorem Um:LoopOk prog (fun k=>Nat.blt k Tryz.f37.ntmps) gQ.F (aI f37 1):=by
 refine Lp.ok (tbl:= []) (lf:= [dO.F]) aS gQ (by kernel_rfl) (LOk.allT (l:= [AP (aI f37 1) 0]) (by kernel_rfl) (.cons RB (.nil _))) (fun _=>rfl) (fun _ _=>rfl) ?_ ?_ ?_ ?_ (fun _=>rfl) ?_
 ·intro _;kernel_rfl
 ·intro _;kernel_rfl
 ·intro s x h
  have h:Jd s=some x:=h
  unfold Jd at h
  repeat' split at h
  all_goals cases h
  constructor<;>repeat(first|refine aa ‹_› rfl ?_|refine ab rfl ‹_› rfl ?_|rfl)
 ·intro _;kernel_rfl
 ·intro _ _;exact(And.intro rfl trivial)
section
variable (a b:Int)(c:Bool)(d:al4)
def Nl:Int×Bool×Int×al1×al4:=((0:Int),c,a,[],d)
def Nn:Int×Int×Bool×Int×al1×al4:=((0:Int),b,c,a,((Lp.res gP (Nl a c d)).2.2.2.2).1,d)
def Ot:ag5:=((Lp.res gQ (Nn a b c d)).2.2.2.2.2).1
def Ou:Bool:=allT [Lp.fin gP (Nl a c d),Lp.fin gQ (Nn a b c d)]
end
def TI:al6
 | [.one ⟨true,[.val (.int .i64 a),.ref 0]⟩,.one ⟨false,[.val (.int .i64 b)]⟩,.one ⟨false,[.val (.bool c)]⟩],[.row false 2 (.int .i64) d]=>some ⟨al8 (.ref 1),[ama d],[amh (Ot a b c d)],[Ou a b c d]⟩
 |_,_=>none
def abm:PF prog:=PF.ofG prog [] [gP.F,gQ.F] aS 37 f37 func37 (LOk.fnT (l:= [aI f37 0,aI f37 1]) (by kernel_rfl) (.cons Ul (.cons Um (.nil _)))) TI (by
 intro _ _ _ h;unfold TI at h;split at h<;>cases h;kernel_rfl)
abbrev sB:=Int×Int×Int×Int×Int×List (Int×(Int×Bool))×List Int
section
variable (a b c d:Int)(e:agb)(f:al4)
def tJ:Int:=z7 .i64 ((3:Int) * d)
def tK:al0:= [(a,z7 .i64 (z7 .i64 ((3:Int) * c) + (2:Int)),false),(a,tJ d,false),(a,z7 .i64 (tJ d + (1:Int)),false),(a,z7 .i64 (tJ d + (2:Int)),false)]
def BI:Bool:=ltI a (↑f.length:Int)
def BJ:Bool:=a==b
def xW:Int:=z7 .i64 (a + (1:Int))
def BK:Bool:=leN (w9 e + w9 (tK a c d)) 9223372036854775807
def BL:Bool:=leN ((w9 e + w9 (tK a c d)) * 24) 140737488355328
def BM:agb:=e++tK a c d
end
def XP:sB→List (Nat×SV)
 |(a,b,c,d,_,_,_)=> [(10,(al9 a)),(4,(al8 (.ptr 0 0))),(1,(al9 b)),(9,(al8 (.ref 1))),(2,(al9 c)),(3,(al9 d))]
def XK:sB→List (Nat×Entry)
 |(_,_,_,_,a,b,c)=> [(0,(.box 26 [al7 a,.ref 2])),(2,(ama c)),(1,(amq b))]
def XX:Nat→sB→List (Nat×SV)
 |_,(_,_,_,_,_,_,_)=> [(9,(al8 (.ref 1)))]
def XT:Nat→sB→List (Nat×Entry)
 |_,(_,_,_,_,a,b,c)=> [(0,(.box 26 [al7 a,.ref 2])),(1,(amq b)),(2,(ama c))]
def zP:sB→LT sB
 |(a,b,c,d,e,f,g)=> .ite (BI a g) (.ite (BJ a b) (.nrm ((xW a),b,c,d,e,f,g) [(0,0),(1,1),(2,2)]) (.need [BK a c d f,BL a c d f] (.nrm ((xW a),b,c,d,e,BM a c d f,g) [(0,0),(1,1920),(2,2)]))) (.ext 0 [(0,0),(1,1),(2,2)])
def Kx(s:St):Option sB:=do
 let some ⟨none,.one ⟨false,[.val (.int .i64 a)]⟩⟩:=s.look 10|none
 let some ⟨none,.one ⟨false,[.ptr 128 0]⟩⟩:=s.look 4|none
 let some ⟨none,.one ⟨false,[.val (.int .i64 b)]⟩⟩:=s.look 1|none
 let some ⟨none,.one ⟨false,[.ref 256]⟩⟩:=s.look 9|none
 let some ⟨none,.one ⟨false,[.val (.int .i64 c)]⟩⟩:=s.look 2|none
 let some ⟨none,.one ⟨false,[.val (.int .i64 d)]⟩⟩:=s.look 3|none
 let some (.box 26 [.val (.int .i64 e),.ref 0]):=s.ent 128|none
 let some (.row false 2 (.int .i64) g):=s.ent 0|none
 let some (.row true 125 (.pair (.int .i64) (.pair (.int .i64) .bool)) f):=s.ent 256|none
 some (a,b,c,d,e,f,g)
def iI:Lp sB where
 h:=⟨[12,13,14,15,16,19,20,21,22,23,24,25,26,27,28,29,30,31,32,33,34,35,36,37,38,39,40,41,42,43,9,17,18,10],[0,2],[1],[]⟩
 JL:=XP
 JE:=XK
 XL:=XX
 XE:=XT
 q:=fun j=>match j with | _=> .exit 0
 tags:= [0]
 lt:=zP
 fuel:=fun(a,b,c,d,e,f,g)=>a.natAbs + b.natAbs + c.natAbs + d.natAbs + e.natAbs + f.length + g.length
 fix:=fun(_,b,c,d,e,_,g) (a,_,_,_,_,f,_)=>(a,b,c,d,e,f,g)
 σ:= [(0,128),(2,0),(1,256)]
 rd:=Kx
theorem Vr:LoopOk prog (fun k=>Nat.blt k Tryz.f104.ntmps) iI.F (aI f104 0):=by
 refine Lp.ok (tbl:= []) (lf:= []) aS iI (by kernel_rfl) (LOk.nil _) (fun _=>rfl) (fun _ _=>rfl) ?_ ?_ ?_ ?_ (fun _=>rfl) ?_
 ·intro _;kernel_rfl
 ·intro _;kernel_rfl
 ·intro s x h
  have h:Kx s=some x:=h
  unfold Kx at h
  repeat' split at h
  all_goals cases h
  constructor<;>repeat(first|refine aa ‹_› rfl ?_|refine ab rfl ‹_› rfl ?_|rfl)
 ·intro _;kernel_rfl
 ·intro _ _;exact(And.intro (And.intro rfl rfl) trivial)
section
variable (a b c d:Int)(e:al4)
def JZ:Int×Int×Int×Int×Int×al0×al4:=((0:Int),b,c,d,a,[],e)
def Dz:agb:=((Lp.res iI (JZ a b c d e)).2.2.2.2.2.2).1
def Mt:Bool:=allT [Lp.fin iI (JZ a b c d e)]
end
def UD:al6
 | [.one ⟨true,[.val (.int .i64 a),.ref 0]⟩,.one ⟨false,[.val (.int .i64 b)]⟩,.one ⟨false,[.val (.int .i64 c)]⟩,.one ⟨false,[.val (.int .i64 d)]⟩],[.row false 2 (.int .i64) e]=>some ⟨al8 (.ref 1),[ama e],[amq (Dz a b c d e)],[Mt a b c d e]⟩
 |_,_=>none
def PE:PF prog:=PF.ofG prog [] [iI.F] aS 104 f104 func104 (LOk.fnT (l:= [aI f104 0]) (by kernel_rfl) (.cons Vr (.nil _))) UD (by
 intro _ _ _ h;unfold UD at h;split at h<;>cases h;kernel_rfl)
section
variable (a b c:Int)
def Ov:al5:=z6 [ByteArray.mk #[97,114,114,105,118,101],ByteArray.mk #[114,101,108,101,97,115,101],ByteArray.mk #[98,108,105,110,100],ByteArray.mk #[101,110,116,101,114],ByteArray.mk #[99,108,101,97,114],ByteArray.mk #[111,99,99,117,112,105,101,100],ByteArray.mk #[115,101,99,111,110,100]][w8 a]? ByteArray.empty
def Bi:al5:=Ov a++ByteArray.mk #[95]
def Ka:al5:=Bi a++Ge b++ByteArray.mk #[95]
def DB:al5:=Ka a b++Ge c
def Av:Bool:=allT [leI 0 a,ltI a (↑(w9 [ByteArray.mk #[97,114,114,105,118,101],ByteArray.mk #[114,101,108,101,97,115,101],ByteArray.mk #[98,108,105,110,100],ByteArray.mk #[101,110,116,101,114],ByteArray.mk #[99,108,101,97,114],ByteArray.mk #[111,99,99,117,112,105,101,100],ByteArray.mk #[115,101,99,111,110,100]]):Int),ltN a.toNat (w9 [ByteArray.mk #[97,114,114,105,118,101],ByteArray.mk #[114,101,108,101,97,115,101],ByteArray.mk #[98,108,105,110,100],ByteArray.mk #[101,110,116,101,114],ByteArray.mk #[99,108,101,97,114],ByteArray.mk #[111,99,99,117,112,105,101,100],ByteArray.mk #[115,101,99,111,110,100]]),leN (ByteArray.size (Ov a) + ByteArray.size (ByteArray.mk #[95])) 9223372036854775807,leI 0 b&&ltI b 1000000000000,leN (ByteArray.size (Bi a) + ByteArray.size (Ge b)) 9223372036854775807,leN (ByteArray.size (Bi a++Ge b) + ByteArray.size (ByteArray.mk #[95])) 9223372036854775807,leI 0 c&&ltI c 1000000000000,leN (ByteArray.size (Ka a b) + ByteArray.size (Ge c)) 9223372036854775807]
end
def UE:al6
 | [.one ⟨false,[.val (.int .i64 a)]⟩,.one ⟨false,[.val (.int .i64 b)]⟩,.one ⟨false,[.val (.int .i64 c)]⟩],[]=>some ⟨al8 (.val (.string (DB a b c))),[],[],[Av a b c]⟩
 |_,_=>none
def VF:PF prog:=PF.ofG prog [acX] [] aS 105 f105 func105 (fun c _=>LOk.nil c) UE (by
 intro _ _ _ h;unfold UE at h;split at h<;>cases h;kernel_rfl)
abbrev qw:=Int×List (Int×(Int×Bool))×List Int
section
variable (a:Int)(b:agb)(c:al4)
def lr:Int×Int×Bool:=z6 b[w8 a]? ((0:Int),(0:Int),false)
def re:Bool:=ltI a (↑b.length:Int)
def tH:Bool:=leI 0 a
def tI:Bool:=ltN a.toNat b.length
def Ag:Bool:=leI 0 ((lr a b).1)
def Ah:Bool:=ltI ((lr a b).1) (↑c.length:Int)
def Ai:Bool:=ltN (w8 ((lr a b).1)) c.length
def Aj:Bool:= !(z6 c[w8 ((lr a b).1)]? 0==((lr a b).2).1)==(lr a b).2.2
def Ak:Int:=z7 .i64 (a + (1:Int))
end
def Wt:qw→List (Nat×SV)
 |(a,_,_)=> [(5,(al9 a)),(1,(al8 (.ref 0))),(0,(al8 (.ref 1)))]
def Wg:qw→List (Nat×Entry)
 |(_,a,b)=> [(0,(amd a)),(1,(ama b))]
def WT:Nat→qw→List (Nat×SV)
 |0,(_,_,_)=> [(4,(al8 (.val (.bool false))))]
 |_,_=>[]
def yB:qw→LT qw
 |(a,b,c)=> .ite (re a b) (.need [tH a,re a b,tI a b,Ag a b,Ah a b c,Ai a b c,tH a,re a b,tI a b,tH a,re a b,tI a b] (.ite (Aj a b c) (.ext 0 [(0,0),(1,1)]) (.nrm ((Ak a),b,c) [(0,0),(1,1)]))) (.ext 1 [(0,0),(1,1)])
def Ja(s:St):Option qw:=do
 let some ⟨none,.one ⟨false,[.val (.int .i64 a)]⟩⟩:=s.look 5|none
 let some ⟨none,.one ⟨false,[.ref 1]⟩⟩:=s.look 1|none
 let some ⟨none,.one ⟨false,[.ref 0]⟩⟩:=s.look 0|none
 let some (.row false 125 (.pair (.int .i64) (.pair (.int .i64) .bool)) b):=s.ent 1|none
 let some (.row false 2 (.int .i64) c):=s.ent 0|none
 some (a,b,c)
def gO:Lp qw where
 h:=⟨[6,7,8,9,12,13,14,15,16,17,18,19,20,21,22,23,24,25,26,27,28,29,30,31,4,10,11,5],[0,1],[],[]⟩
 JL:=Wt
 JE:=Wg
 XL:=WT
 XE:=fun _=>Wg
 q:=fun j=>match j with | 0=> .ret | _=> .exit 0
 tags:= [0,1]
 lt:=yB
 fuel:=fun(a,b,c)=>a.natAbs + b.length + c.length
 fix:=fun(_,b,c) (a,_,_)=>(a,b,c)
 σ:= [(0,1),(1,0)]
 rd:=Ja
theorem Uj:LoopOk prog (fun k=>Nat.blt k Tryz.f103.ntmps) gO.F (aI f103 0):=by
 refine Lp.ok (tbl:= []) (lf:= []) aS gO (by kernel_rfl) (LOk.nil _) (fun _=>rfl) (fun j _=>by unfold gO;match j with | 0=>rfl | _ + 1=>rfl) ?_ ?_ ?_ ?_ (fun _=>rfl) ?_
 ·intro _;kernel_rfl
 ·intro _;kernel_rfl
 ·intro s x h
  have h:Ja s=some x:=h
  unfold Ja at h
  repeat' split at h
  all_goals cases h
  constructor<;>repeat(first|refine aa ‹_› rfl ?_|refine ab rfl ‹_› rfl ?_|rfl)
 ·intro _;kernel_rfl
 ·intro _ _;exact(And.intro (And.intro trivial rfl) trivial)
section
variable (a:al4)(b:al0)
def Nf:Int×al0×al4:=((0:Int),b,a)
def Bh:Bool:=bif Nat.beq ((Lp.res gO (Nf a b)).1) 0 then false else true
def JR:Bool:=allT [Lp.fin gO (Nf a b)]
end
def TF:al6
 | [.one ⟨false,[.ref 0]⟩,.one ⟨false,[.ref 1]⟩],[.row false 2 (.int .i64) a,.row false 125 (.pair (.int .i64) (.pair (.int .i64) (.bool))) b]=>some ⟨al8 (.val (.bool (Bh a b))),[ama a,amd b],[],[JR a b]⟩
 |_,_=>none
def Bc:PF prog:=PF.ofG prog [] [gO.F] aS 103 f103 func103 (LOk.fnT (l:= [aI f103 0]) (by kernel_rfl) (.cons Uj (.nil _))) TF (by
 intro _ _ _ h;unfold TF at h;split at h<;>cases h;kernel_rfl)
abbrev nL:=Int×List Int×List Int×List Int×List Int×List (al5×((List (Int×(Int×Bool)))×(List (Int×Int))))
section
variable (a:Int)(b c:al4)(d:aer)
def sL:al0:=((z6 d[w8 a]? (sW aa8)).2).1
def xD:Bool:=ltI a (↑d.length:Int)
def NN:Bool:=leI 0 a
def NO:Bool:=ltN a.toNat d.length
def NP:Bool:=JR b (sL a d)
def NQ:Bool:= !Bh b (sL a d)||leN (w9 c + w9 [a]) (9223372036854775807:Nat)
def NR:Bool:= !Bh b (sL a d)||leN ((w9 c + w9 [a]) * (8:Nat)) (140737488355328:Nat)
def BD:Bool:=Bh b (sL a d)
def xE:Int:=z7 .i64 (a + (1:Int))
def BE:al4:=c++ [a]
end
def TU:nL→List (Nat×SV)
 |(a,_,_,_,_,_)=> [(6,(al9 a)),(2,(al8 (.ptr 0 0))),(1,(al8 (.ref 1))),(5,(al8 (.ref 2)))]
def TS:nL→List (Nat×Entry)
 |(_,a,b,c,d,e)=> [(0,(.box 94 [.ref 3,.ref 4,.ref 5])),(1,(ama a)),(3,(ama c)),(4,(ama d)),(5,(amc e)),(2,(amb b))]
def TY:Nat→nL→List (Nat×SV)
 |_,(_,_,_,_,_,_)=> [(5,(al8 (.ref 2)))]
def TW:Nat→nL→List (Nat×Entry)
 |_,(_,a,b,c,d,e)=> [(0,(.box 94 [.ref 3,.ref 4,.ref 5])),(1,(ama a)),(2,(amb b)),(3,(ama c)),(4,(ama d)),(5,(amc e))]
def wl:nL→LT nL
 |(a,b,c,d,e,f)=> .ite (xD a f) (.need [NN a,xD a f,NO a f,NP a b f] (.need [NQ a b c f,NR a b c f] (.ite (BD a b f) (.nrm ((xE a),b,BE a c,d,e,f) [(0,0),(1,1),(2,1088),(3,3),(4,4),(5,5)]) (.nrm ((xE a),b,c,d,e,f) [(0,0),(1,1),(2,2),(3,3),(4,4),(5,5)])))) (.ext 0 [(0,0),(1,1),(2,2),(3,3),(4,4),(5,5)])
def FY(s:St):Option nL:=do
 let some ⟨none,.one ⟨false,[.val (.int .i64 a)]⟩⟩:=s.look 6|none
 let some ⟨none,.one ⟨false,[.ptr 320 0]⟩⟩:=s.look 2|none
 let some ⟨none,.one ⟨false,[.ref 3]⟩⟩:=s.look 1|none
 let some ⟨none,.one ⟨false,[.ref 448]⟩⟩:=s.look 5|none
 let some (.box 94 [.ref 0,.ref 1,.ref 2]):=s.ent 320|none
 let some (.row false 2 (.int .i64) b):=s.ent 3|none
 let some (.row false 2 (.int .i64) d):=s.ent 0|none
 let some (.row false 2 (.int .i64) e):=s.ent 1|none
 let some (.row false 70 (.pair .str (.pair (.sl 125 (.pair (.int .i64) (.pair (.int .i64) .bool))) (.sl 129 (.pair (.int .i64) (.int .i64))))) f):=s.ent 2|none
 let some (.row true 2 (.int .i64) c):=s.ent 448|none
 some (a,b,c,d,e,f)
def iF:Lp nL where
 h:=⟨[8,9,10,11,12,15,16,17,18,19,20,21,22,23,24,25,26,5,13,14,6],[0,1,3,4,5],[2],[]⟩
 JL:=TU
 JE:=TS
 XL:=TY
 XE:=TW
 q:=fun j=>match j with | _=> .exit 0
 tags:= [0]
 lt:=wl
 fuel:=fun(a,b,c,d,e,f)=>a.natAbs + b.length + c.length + d.length + e.length + f.length
 fix:=fun(_,b,_,d,e,f) (a,_,c,_,_,_)=>(a,b,c,d,e,f)
 σ:= [(0,320),(1,3),(3,0),(4,1),(5,2),(2,448)]
 rd:=FY
theorem Si:LoopOk prog (fun k=>Nat.blt k Tryz.f79.ntmps) iF.F (aI f79 0):=by
 refine Lp.ok (tbl:= (T3z [Bc])) (lf:= []) aS iF (by kernel_rfl) (LOk.nil _) (fun _=>rfl) (fun _ _=>rfl) ?_ ?_ ?_ ?_ (fun _=>rfl) ?_
 ·intro _;kernel_rfl
 ·intro _;kernel_rfl
 ·intro s x h
  have h:FY s=some x:=h
  unfold FY at h
  repeat' split at h
  all_goals cases h
  constructor<;>repeat(first|refine aa ‹_› rfl ?_|refine ab rfl ‹_› rfl ?_|rfl)
 ·intro _;kernel_rfl
 ·intro _ _;exact(And.intro (And.intro rfl rfl) trivial)
section
variable (a b:al4)(c:aeT)(d:al4)
def KE:Int×al4×al4×al4×al4×aeT:=((0:Int),d,[],a,b,c)
def Gk:al4:=((Lp.res iF (KE a b c d)).2.2.2).1
def Gl:Bool:=allT [Lp.fin iF (KE a b c d)]
end
def Qx:al6
 | [.one ⟨true,[.ref 0,.ref 1,.ref 2]⟩,.one ⟨false,[.ref 3]⟩],[.row false 2 (.int .i64) a,.row false 2 (.int .i64) b,.row false 70 (.pair (.str) (.pair (.sl 125 (.pair (.int .i64) (.pair (.int .i64) (.bool)))) (.sl 129 (.pair (.int .i64) (.int .i64))))) c,.row false 2 (.int .i64) d]=>some ⟨al8 (.ref 4),[ama a,ama b,aml c,ama d],[amb (Gk a b c d)],[Gl a b c d]⟩
 |_,_=>none
def pV:PF prog:=PF.ofG prog (T3z [Bc]) [iF.F] aS 79 f79 func79 (LOk.fnT (l:= [aI f79 0]) (by kernel_rfl) (.cons Si (.nil _))) Qx (by
 intro _ _ _ h;unfold Qx at h;split at h<;>cases h;kernel_rfl)
abbrev qv:=Int×List (Int×Int)×List Int
section
variable (a:Int)(b:al3)(c:al4)
def sv:Int×Int:=z6 b[w8 a]? ((0:Int),(0:Int))
def Af:Bool:=ltI a (↑b.length:Int)
def Em:Bool:=leI 0 a
def En:Bool:=ltN a.toNat b.length
def Kz:Bool:=leI 0 ((sv a b).1)
def KA:Bool:=ltI ((sv a b).1) (↑c.length:Int)
def KB:Bool:=ltN (w8 ((sv a b).1)) c.length
def KC:Int:=z7 .i64 (a + (1:Int))
def KD:al4:=List.set c (w8 ((sv a b).1)) ((sv a b).2)
end
def Ws:qv→List (Nat×SV)
 |(a,_,_)=> [(9,(al9 a)),(8,(al8 (.ref 0))),(7,(al8 (.ref 1)))]
def Wf:qv→List (Nat×Entry)
 |(_,a,b)=> [(0,(amn a)),(1,(amb b))]
def WS:Nat→qv→List (Nat×SV)
 |_,_=>[]
def IF:qv→LT qv
 |(a,b,c)=> .ite (Af a b) (.need [Em a,Af a b,En a b,Em a,Af a b,En a b,Kz a b,KA a b c,KB a b c] (.nrm ((KC a),b,(KD a b c)) [(0,0),(1,1)])) (.ext 0 [(0,0),(1,1)])
def IZ(s:St):Option qv:=do
 let some ⟨none,.one ⟨false,[.val (.int .i64 a)]⟩⟩:=s.look 9|none
 let some ⟨none,.one ⟨false,[.ref 961]⟩⟩:=s.look 8|none
 let some ⟨none,.one ⟨false,[.ref 512]⟩⟩:=s.look 7|none
 let some (.row false 129 (.pair (.int .i64) (.int .i64)) b):=s.ent 961|none
 let some (.row true 2 (.int .i64) c):=s.ent 512|none
 some (a,b,c)
def oV:Lp qv where
 h:=⟨[18,19,20,21,24,25,26,27,28,29,30,31,32,33,34,35,22,23,9],[0,1],[],[]⟩
 JL:=Ws
 JE:=Wf
 XL:=WS
 XE:=fun _=>Wf
 q:=fun j=>match j with | _=> .exit 0
 tags:= [0]
 lt:=IF
 fuel:=fun(a,b,c)=>a.natAbs + b.length + c.length
 fix:=fun(_,b,_) (a,_,c)=>(a,b,c)
 σ:= [(0,961),(1,512)]
 rd:=IZ
theorem Ui:LoopOk prog (fun k=>Nat.blt k Tryz.f80.ntmps) oV.F (aI f80 0):=by
 refine Lp.ok (tbl:= (T3z [aF])) (lf:= []) aS oV (by kernel_rfl) (LOk.nil _) (fun _=>rfl) (fun _ _=>rfl) ?_ ?_ ?_ ?_ (fun _=>rfl) ?_
 ·intro _;kernel_rfl
 ·intro _;kernel_rfl
 ·intro s x h
  have h:IZ s=some x:=h
  unfold IZ at h
  repeat' split at h
  all_goals cases h
  constructor<;>repeat(first|refine aa ‹_› rfl ?_|refine ab rfl ‹_› rfl ?_|rfl)
 ·intro _;kernel_rfl
 ·intro _ _;exact(And.intro rfl trivial)
section
variable (a:Int)(b:aeT)(c:al4)
def Ib:Int×al3×al4:=((0:Int),(z6 b[w8 a]? (sW (CTy.pair CTy.str (CTy.pair (CTy.sl (125:TypeId) adp) (CTy.sl (129:TypeId) aes))))).2.2,c)
def vJ:al4:=(Lp.res oV (Ib a b c)).2.2.2
def JQ:Bool:=allT [leN c.length (1048576:Nat),leI 0 a,ltI a (↑b.length:Int),ltN a.toNat b.length,Lp.fin oV (Ib a b c)]
end
def TE:al6
 | [.one ⟨true,[.ref 0,.ref 1,.ref 2]⟩,.one ⟨false,[.ref 3]⟩,.one ⟨false,[.val (.int .i64 a)]⟩],[.row false 2 (.int .i64) b,.row false 2 (.int .i64) c,.row false 70 (.pair (.str) (.pair (.sl 125 (.pair (.int .i64) (.pair (.int .i64) (.bool)))) (.sl 129 (.pair (.int .i64) (.int .i64))))) d,.row false 2 (.int .i64) e]=>some ⟨al8 (.ref 4),[ama b,ama c,aml d,ama e],[amb (vJ a d e)],[JQ a d e]⟩
 |_,_=>none
def ta:PF prog:=PF.ofG prog (T3z [aF]) [oV.F] aS 80 f80 func80 (LOk.fnT (l:= [aI f80 0]) (by kernel_rfl) (.cons Ui (.nil _))) TE (by
 intro _ _ _ h;unfold TE at h;split at h<;>cases h;kernel_rfl)
abbrev mK:=Int×List (Int×(Int×Int))×List (Int×(Int×Int))
section
variable (a:Int)(b c:ag5)
def uM:Int×Int×Int:=z6 b[w8 a]? ((0:Int),(0:Int),(0:Int))
def uN:Int×Int×Int:=z6 c[w8 a]? ((0:Int),(0:Int),(0:Int))
def AA:Bool:=ltI a (↑b.length:Int)
def AB:Bool:=leI 0 a
def FI:Bool:=ltN a.toNat b.length
def FJ:Bool:=ltI a (↑c.length:Int)
def FK:Bool:=ltN a.toNat c.length
def FL:Bool:= !bif (uM a b).1==(uN a c).1then bif ((uM a b).2).1==((uN a c).2).1then bif (uM a b).2.2==(uN a c).2.2then true else false else false else false
def FM:Int:=z7 .i64 (a + (1:Int))
end
def SG:mK→List (Nat×SV)
 |(a,_,_)=> [(5,(al9 a)),(0,(al8 (.ref 0))),(1,(al8 (.ref 1)))]
def SD:mK→List (Nat×Entry)
 |(_,a,b)=> [(0,(amf a)),(1,(amf b))]
def SM:Nat→mK→List (Nat×SV)
 |0,(_,_,_)=> [(4,(al8 (.val (.bool false))))]
 |_,_=>[]
def Eh:mK→LT mK
 |(a,b,c)=> .ite (AA a b) (.need [AB a,AA a b,FI a b,AB a,FJ a c,FK a c] (.ite (FL a b c) (.ext 0 [(0,0),(1,1)]) (.nrm ((FM a),b,c) [(0,0),(1,1)]))) (.ext 1 [(0,0),(1,1)])
def Ei(s:St):Option mK:=do
 let some ⟨none,.one ⟨false,[.val (.int .i64 a)]⟩⟩:=s.look 5|none
 let some ⟨none,.one ⟨false,[.ref 0]⟩⟩:=s.look 0|none
 let some ⟨none,.one ⟨false,[.ref 1]⟩⟩:=s.look 1|none
 let some (.row false 42 (.pair (.int .i64) (.pair (.int .i64) (.int .i64))) b):=s.ent 0|none
 let some (.row false 42 (.pair (.int .i64) (.pair (.int .i64) (.int .i64))) c):=s.ent 1|none
 some (a,b,c)
def jB:Lp mK where
 h:=⟨[11,12,13,14,17,18,19,20,21,22,23,24,25,4,15,16,5],[0,1],[],[]⟩
 JL:=SG
 JE:=SD
 XL:=SM
 XE:=fun _=>SD
 q:=fun j=>match j with | 0=> .ret | _=> .exit 0
 tags:= [0,1]
 lt:=Eh
 fuel:=fun(a,b,c)=>a.natAbs + b.length + c.length
 fix:=fun(_,b,c) (a,_,_)=>(a,b,c)
 σ:= [(0,0),(1,1)]
 rd:=Ei
theorem Rz:LoopOk prog (fun k=>Nat.blt k Tryz.f8.ntmps) jB.F (aI f8 0):=by
 refine Lp.ok (tbl:= []) (lf:= []) aS jB (by kernel_rfl) (LOk.nil _) (fun _=>rfl) (fun j _=>by unfold jB;match j with | 0=>rfl | _ + 1=>rfl) ?_ ?_ ?_ ?_ (fun _=>rfl) ?_
 ·intro _;kernel_rfl
 ·intro _;kernel_rfl
 ·intro s x h
  have h:Ei s=some x:=h
  unfold Ei at h
  repeat' split at h
  all_goals cases h
  constructor<;>repeat(first|refine aa ‹_› rfl ?_|refine ab rfl ‹_› rfl ?_|rfl)
 ·intro _;kernel_rfl
 ·intro _ _;exact(And.intro (And.intro trivial rfl) trivial)
section
variable (a b:al1)
def IC:Bool:=(↑a.length:Int)!=(↑b.length:Int)
def ID:Int×al1×al1:=((0:Int),a,b)
def Ed:Bool:=bif IC a b then false else bif Nat.beq ((Lp.res jB (ID a b)).1) 0 then false else true
def Ee:Bool:=allT [IC a b||Lp.fin jB (ID a b)]
end
def Pd:al6
 | [.one ⟨false,[.ref 0]⟩,.one ⟨false,[.ref 1]⟩],[.row false 42 (.pair (.int .i64) (.pair (.int .i64) (.int .i64))) a,.row false 42 (.pair (.int .i64) (.pair (.int .i64) (.int .i64))) b]=>some ⟨al8 (.val (.bool (Ed a b))),[amf a,amf b],[],[Ee a b]⟩
 |_,_=>none
def Kt:PF prog:=PF.ofG prog [] [jB.F] aS 8 f8 func8 (LOk.fnT (l:= [aI f8 0]) (by kernel_rfl) (.cons Rz (.nil _))) Pd (by
 intro _ _ _ h;unfold Pd at h;split at h<;>cases h;kernel_rfl)
def ac6:al6
 | [.one ⟨false,[.val (.int .i64 a)]⟩,.one ⟨false,[.val (.int .i64 b)]⟩],[]=>some ⟨.one ⟨true,[al7 a,al7 b,.val (.bool true)]⟩,[],[],[]⟩
 |_,_=>none
def aat:PF prog:=PF.ofG prog [] [] aS 74 f74 func74 (fun c _=>LOk.nil c) ac6 (by
 intro _ _ _ h;unfold ac6 at h;split at h<;>cases h;kernel_rfl)
def YG:al6
 | [.one ⟨false,[.val (.int .i64 a)]⟩,.one ⟨false,[.val (.int .i64 b)]⟩],[]=>some ⟨.one ⟨true,[al7 a,al7 b,.val (.bool false)]⟩,[],[],[]⟩
 |_,_=>none
def Zy:PF prog:=PF.ofG prog [] [] aS 75 f75 func75 (fun c _=>LOk.nil c) YG (by
 intro _ _ _ h;unfold YG at h;split at h<;>cases h;kernel_rfl)
def oi(a:Int):al5:=Ge a
def Hf(a:Int):Bool:=allT [leI (-9223372036854775808:Int) a,leI a 9223372036854775807]
def Us:al6
 | [.one ⟨false,[.val (.int .i64 a)]⟩],[]=>some ⟨al8 (.val (.string (oi a))),[],[],[Hf a]⟩
 |_,_=>none
def acu:PF prog:=PF.ofG prog [Xf] [] aS 100 f100 func100 (fun c _=>LOk.nil c) Us (by
 intro _ _ _ h;unfold Us at h;split at h<;>cases h;kernel_rfl)
section
variable (a b c:Int)
def ve:al5:=z6 afx[w8 a]? ByteArray.empty
def mP:al5:=ve a++ByteArray.mk #[95]
def vf:al5:=mP a++oi b++ByteArray.mk #[95]
def km:al5:=vf a b++oi c
def nZ:Bool:=allT [leI 0 a,ltI a (↑(w9 afx):Int),ltN a.toNat (w9 afx),leN (ByteArray.size (ve a) + ByteArray.size (ByteArray.mk #[95])) 9223372036854775807,Hf b,leN (ByteArray.size (mP a) + ByteArray.size (oi b)) 9223372036854775807,leN (ByteArray.size (mP a++oi b) + ByteArray.size (ByteArray.mk #[95])) 9223372036854775807,Hf c,leN (ByteArray.size (vf a b) + ByteArray.size (oi c)) 9223372036854775807]
end
def Pc:al6
 | [.one ⟨false,[.val (.int .i64 a)]⟩,.one ⟨false,[.val (.int .i64 b)]⟩,.one ⟨false,[.val (.int .i64 c)]⟩,.one ⟨false,[.ref 0]⟩,.one ⟨false,[.ref 1]⟩],[.row false 125 (.pair (.int .i64) (.pair (.int .i64) (.bool))) d,.row false 129 (.pair (.int .i64) (.int .i64)) e]=>some ⟨.one ⟨true,[.val (.string (km a b c)),.ref 0,.ref 1,al7 a,al7 b,al7 c]⟩,[amd d,amn e],[],[nZ a b c]⟩
 |_,_=>none
def od:PF prog:=PF.ofG prog [acu] [] aS 76 f76 func76 (fun c _=>LOk.nil c) Pc (by
 intro _ _ _ h;unfold Pc at h;split at h<;>cases h;kernel_rfl)
abbrev br:=Int×Int×Int×Int×Int×List (Int×(Int×Bool))
section
variable (a b c d e:Int)(f:agb)
def bO:Int:=z7 .i64 ((3:Int) * e)
def bP:al0:= [(a,z7 .i64 (z7 .i64 ((3:Int) * d) + (2:Int)),false),(a,bO e,false),(a,z7 .i64 (bO e + (1:Int)),false),(a,z7 .i64 (bO e + (2:Int)),false)]
def dX:Bool:=ltI a b
def dY:Bool:= !a !=c||leN (w9 f + w9 (bP a d e)) 9223372036854775807
def dZ:Bool:= !a !=c||leN ((w9 f + w9 (bP a d e)) * 24) 140737488355328
def ea:Bool:=a !=c
def cT:Int:=z7 .i64 (a + (1:Int))
def eb:agb:=f++bP a d e
end
def BQ:br→List (Nat×SV)
 |(a,b,c,d,e,_)=> [(37,(al9 a)),(36,(al9 b)),(1,(al9 c)),(9,(al8 (.ref 0))),(2,(al9 d)),(8,(al9 e))]
def BO:br→List (Nat×Entry)
 |(_,_,_,_,_,a)=> [(0,(amq a))]
def BU:Nat→br→List (Nat×SV)
 |_,(_,_,_,_,_,_)=> [(9,(al8 (.ref 0)))]
def dL:br→LT br
 |(a,b,c,d,e,f)=> .ite (dX a b) (.need [dY a c d e f,dZ a c d e f] (.ite (ea a c) (.nrm ((cT a),b,c,d,e,(eb a d e f)) [(0,1792)]) (.nrm ((cT a),b,c,d,e,f) [(0,0)]))) (.ext 0 [(0,0)])
def mn(s:St):Option br:=do
 let some ⟨none,.one ⟨false,[.val (.int .i64 a)]⟩⟩:=s.look 37|none
 let some ⟨none,.one ⟨false,[.val (.int .i64 b)]⟩⟩:=s.look 36|none
 let some ⟨none,.one ⟨false,[.val (.int .i64 c)]⟩⟩:=s.look 1|none
 let some ⟨none,.one ⟨false,[.ref 1856]⟩⟩:=s.look 9|none
 let some ⟨none,.one ⟨false,[.val (.int .i64 d)]⟩⟩:=s.look 2|none
 let some ⟨none,.one ⟨false,[.val (.int .i64 e)]⟩⟩:=s.look 8|none
 let some (.row true 125 (.pair (.int .i64) (.pair (.int .i64) .bool)) f):=s.ent 1856|none
 some (a,b,c,d,e,f)
def ar:Lp br where
 h:=⟨[38,39,10,40,41,42,43,44,45,46,47,48,49,50,51,52,53,54,55,56,57,58,59,60,61,62,63,64,9,65,37],[],[0],[]⟩
 JL:=BQ
 JE:=BO
 XL:=BU
 XE:=fun _=>BO
 q:=fun j=>match j with | _=> .exit 0
 tags:= [0]
 lt:=dL
 fuel:=fun(a,b,c,d,e,f)=>a.natAbs + b.natAbs + c.natAbs + d.natAbs + e.natAbs + f.length
 fix:=fun(_,b,c,d,e,_) (a,_,_,_,_,f)=>(a,b,c,d,e,f)
 σ:= [(0,1856)]
 rd:=mn
theorem AR:LoopOk prog (fun k=>Nat.blt k Tryz.f52.ntmps) ar.F (aI f52 0):=by
 refine Lp.ok (tbl:= (T3z [af,aat,Zy,od])) (lf:= []) aS ar (by kernel_rfl) (LOk.nil _) (fun _=>rfl) (fun _ _=>rfl) ?_ ?_ ?_ ?_ (fun _=>rfl) ?_
 ·intro _;kernel_rfl
 ·intro _;kernel_rfl
 ·intro s x h
  have h:mn s=some x:=h
  unfold mn at h
  repeat' split at h
  all_goals cases h
  constructor<;>repeat(first|refine aa ‹_› rfl ?_|refine ab rfl ‹_› rfl ?_|rfl)
 ·intro _;kernel_rfl
 ·intro _ _;exact(And.intro (And.intro rfl rfl) trivial)
section
variable (a:Int)(b:Bool)(c d:Int)(e:al4)
def eS:Int:=z7 .i64 ((3:Int) * d)
def eT:Int:=z7 .i64 (eS d + (1:Int))
def eU:Int:=Int.tmod (z7 .i64 (d + (1:Int))) a
def eV:Int:=z7 .i64 (aL e + eU a d)
def iP:Int×Int×Int×Int×Int×al0:=((0:Int),aL e,c,d,eU a d,[(c,eT d,true),(eV a d e,(2:Int),false),(eV a d e,(3:Int),false)])
def iQ:Int:=z7 .i64 (eS d + (2:Int))
def iR:al3:= [(c,iQ d)]
def bI:aeq:= [((km 0 c d,[(c,eS d,true)],[(c,eT d)]),(0:Int),c,d),((km 1 c d,(Lp.res ar (iP a c d e)).2.2.2.2.2.2,iR c d),(1:Int),c,d)]
def eW:aeq:= [((km 2 c d,[(c,eT d,true),(eV a d e,(3:Int),true)],iR c d),(2:Int),c,d)]
def eX:aeq:=bI a c d e++eW a c d e
def bw:aeq:= [((km 3 c d,[(c,iQ d,true)],[(c,z7 .i64 ((3:Int) * eU a d))]),(3:Int),c,d)]
def cA:List ((al5×((agb)×(al3)))×(Int×(Int×Int))):=bif b then eX a c d e++bw a c d else bI a c d e++bw a c d
def fu:Bool:=allT [neI a 0,Lp.fin ar (iP a c d e),nZ 0 c d,nZ 1 c d,!b||nZ 2 c d,!b||leN (w9 (bI a c d e) + w9 (eW a c d e)) 9223372036854775807,!b||leN ((w9 (bI a c d e) + w9 (eW a c d e)) * 88) 140737488355328,!b||nZ 3 c d,!b||leN (w9 (eX a c d e) + w9 (bw a c d)) 9223372036854775807,!b||leN ((w9 (eX a c d e) + w9 (bw a c d)) * 88) 140737488355328,b||nZ 3 c d,b||leN (w9 (bI a c d e) + w9 (bw a c d)) 9223372036854775807,b||leN ((w9 (bI a c d e) + w9 (bw a c d)) * 88) 140737488355328]
end
def uI:al6
 | [.one ⟨true,[.val (.int .i64 a),.ref 0,.val (.int .i64 _x1),.val (.bool b)]⟩,.one ⟨false,[.val (.int .i64 c)]⟩,.one ⟨false,[.val (.int .i64 d)]⟩],[.row false 2 (.int .i64) e]=>some ⟨al8 (.ref 1),[ama e],[amg (cA a b c d e)],[fu a b c d e]⟩
 |_,_=>none
def ak:PF prog:=PF.ofG prog (T3z [af,aat,Zy,od]) [ar.F] aS 52 f52 func52 (LOk.fnT (l:= [aI f52 0]) (by kernel_rfl) (.cons AR (.nil _))) uI (by
 intro _ _ _ h;unfold uI at h;split at h<;>cases h;kernel_rfl)
section
variable (a b c d e f g:Int)
def ci:al5:=km a d e
def dc:agb:= [(f,b,true),(g,e,true)]
def cj:al3:= [(f,c),(g,z7 .i64 (e - (1:Int)))]
def ck:Bool:=allT [nZ a d e]
end
def fg:al6
 | [.one ⟨false,[.val (.int .i64 a)]⟩,.one ⟨false,[.val (.int .i64 b)]⟩,.one ⟨false,[.val (.int .i64 c)]⟩,.one ⟨false,[.ptr 0 0]⟩,.one ⟨false,[.ptr 1 0]⟩,.one ⟨false,[.ptr 2 0]⟩,.one ⟨false,[.ptr 3 0]⟩],[.box 2 [.val (.int .i64 d)],.box 2 [.val (.int .i64 e)],.box 2 [.val (.int .i64 f)],.box 2 [.val (.int .i64 g)]]=>some ⟨.one ⟨true,[.val (.string (ci a d e)),.ref 4,.ref 5,al7 a,al7 d,al7 e]⟩,[.box 2 [al7 d],.box 2 [al7 e],.box 2 [al7 f],.box 2 [al7 g]],[amq (dc b e f g),.row true 129 aes (cj c e f g)],[ck a d e]⟩
 |_,_=>none
def zS:PF prog:=PF.kept (PF.ofG prog (T3z [aat,od]) [] aS 77 f77 func77 (fun c _=>LOk.nil c) fg (by
 intro _ _ _ h;unfold fg at h;split at h<;>cases h;kernel_rfl)) [0,1,2,3] (by
 intro vs es r h;have h:fg vs es=some r:=h;unfold fg at h;split at h
 ·cases h;exact List.forall_mem_cons.2 ⟨rfl,List.forall_mem_cons.2 ⟨rfl,List.forall_mem_cons.2 ⟨rfl,List.forall_mem_cons.2 ⟨rfl,fun _ h=>(by cases h)⟩⟩⟩⟩
 ·cases h)
section
variable (a:Int)(b:Bool)(c d:Int)(e:al4)
def iO:al0:=dc 0 d (z7 .i64 (aL e + c)) (z7 .i64 (aL e + a))
def df:aeq:= [((ci 4 c d,iO a c d e,cj 1 d (z7 .i64 (aL e + c)) (z7 .i64 (aL e + a))),(4:Int),c,d),((ci 5 c d,iO a c d e,cj 2 d (z7 .i64 (aL e + c)) (z7 .i64 (aL e + a))),(5:Int),c,d)]
def eE:aeq:= [((ci 6 c d,dc 1 d (z7 .i64 (aL e + c)) (z7 .i64 (aL e + a)),cj 3 d (z7 .i64 (aL e + c)) (z7 .i64 (aL e + a))),(6:Int),c,d)]
def cz:List ((al5×((agb)×(al3)))×(Int×(Int×Int))):=bif b then df a c d e++eE a c d e else df a c d e
def ft:Bool:=allT [ck 4 c d,ck 5 c d,!b||ck 6 c d,!b||leN (w9 (df a c d e) + w9 (eE a c d e)) 9223372036854775807,!b||leN ((w9 (df a c d e) + w9 (eE a c d e)) * 88) 140737488355328]
end
def uH:al6
 | [.one ⟨true,[.val (.int .i64 a),.ref 0,.val (.int .i64 _x1),.val (.bool b)]⟩,.one ⟨false,[.val (.int .i64 c)]⟩,.one ⟨false,[.val (.int .i64 d)]⟩],[.row false 2 (.int .i64) e]=>some ⟨al8 (.ref 1),[ama e],[amg (cz a b c d e)],[ft a b c d e]⟩
 |_,_=>none
def aj:PF prog:=PF.ofG prog (T3z [af,zS]) [] aS 53 f53 func53 (fun c _=>LOk.nil c) uH (by
 intro _ _ _ h;unfold uH at h;split at h<;>cases h;kernel_rfl)
abbrev bG:=Int×Int×Int×List ((al5×((List (Int×(Int×Bool)))×(List (Int×Int))))×(Int×(Int×Int)))×Int×Int×Bool×List Int
def eF(a b:Int):Bool:=ltI a b
def eG(a b c:Int)(d:Bool)(e:al4):Bool:=fu c d b a e
def eH(a b:Int)(c:List ((al5×((agb)×(al3)))×(Int×(Int×Int))))(d:Int)(e:Bool)(f:al4):Bool:=leN (w9 c + w9 (cA d e b a f)) 9223372036854775807
def eI(a b:Int)(c:List ((al5×((agb)×(al3)))×(Int×(Int×Int))))(d:Int)(e:Bool)(f:al4):Bool:=leN ((w9 c + w9 (cA d e b a f)) * 88) 140737488355328
def eJ(a:Int):Int:=z7 .i64 (a + (1:Int))
def eL(a b:Int)(c:List ((al5×((agb)×(al3)))×(Int×(Int×Int))))(d:Int)(e:Bool)(f:al4):List ((al5×((agb)×(al3)))×(Int×(Int×Int))):=c++cA d e b a f
def CX:bG→List (Nat×SV)
 |(a,b,c,_,_,_,_,_)=> [(18,(al9 a)),(17,(al9 b)),(3,(al8 (.ref 0))),(1,(al8 (.ptr 1 0))),(4,(al9 c))]
def CS:bG→List (Nat×Entry)
 |(_,_,_,a,b,c,d,e)=> [(1,(.box 63 [al7 b,.ref 2,al7 c,.val (.bool d)])),(2,(ama e)),(0,(amg a))]
def Dh:Nat→bG→List (Nat×SV)
 |_,(a,_,_,_,_,_,_,_)=> [(3,(al8 (.ref 0))),(18,(al9 a))]
def Dc:Nat→bG→List (Nat×Entry)
 |_,(_,_,_,a,b,c,d,e)=> [(0,(amg a)),(1,(.box 63 [al7 b,.ref 2,al7 c,.val (.bool d)])),(2,(ama e))]
def eq:bG→LT bG
 |(a,b,c,d,e,f,g,i)=> .ite (eF a b) (.need [eG a c e g i,eH a c d e g i,eI a c d e g i] (.nrm ((eJ a),b,c,eL a c d e g i,e,f,g,i) [(0,576),(1,1),(2,2)])) (.ext 0 [(0,0),(1,1),(2,2)])
def nr(s:St):Option bG:=do
 let some ⟨none,.one ⟨false,[.val (.int .i64 a)]⟩⟩:=s.look 18|none
 let some ⟨none,.one ⟨false,[.val (.int .i64 b)]⟩⟩:=s.look 17|none
 let some ⟨none,.one ⟨false,[.ref 1]⟩⟩:=s.look 3|none
 let some ⟨none,.one ⟨false,[.ptr 0 0]⟩⟩:=s.look 1|none
 let some ⟨none,.one ⟨false,[.val (.int .i64 c)]⟩⟩:=s.look 4|none
 let some (.box 63 [.val (.int .i64 e),.ref 2,.val (.int .i64 f),.val (.bool g)]):=s.ent 0|none
 let some (.row false 2 (.int .i64) i):=s.ent 2|none
 let some (.row true 72 (.pair (.pair .str (.pair (.sl 125 (.pair (.int .i64) (.pair (.int .i64) .bool))) (.sl 129 (.pair (.int .i64) (.int .i64))))) (.pair (.int .i64) (.pair (.int .i64) (.int .i64)))) d):=s.ent 1|none
 some (a,b,c,d,e,f,g,i)
def ax:Lp bG where
 h:=⟨[19,20,5,21,22,23,24,25,26,3,27,18],[1,2],[0],[]⟩
 JL:=CX
 JE:=CS
 XL:=Dh
 XE:=Dc
 q:=fun j=>match j with | _=> .exit 2
 tags:= [0]
 lt:=eq
 fuel:=fun(a,b,c,d,e,f,_,i)=>a.natAbs + b.natAbs + c.natAbs + d.length + e.natAbs + f.natAbs + i.length
 fix:=fun(_,b,c,_,e,f,g,i) (a,_,_,d,_,_,_,_)=>(a,b,c,d,e,f,g,i)
 σ:= [(1,0),(2,2),(0,1)]
 rd:=nr
theorem Cb:LoopOk prog (memN [13,14,4,15,16,17,18,19,20,5,21,22,23,24,25,26,3,27,28,12]) ax.F (AP (aI f28 0) 0):=by
 refine Lp.ok (tbl:= (T3z [af,ak,aj])) (lf:= []) aS ax (by kernel_rfl) (LOk.nil _) (fun _=>rfl) (fun _ _=>rfl) ?_ ?_ ?_ ?_ (fun _=>rfl) ?_
 ·intro _;kernel_rfl
 ·intro _;kernel_rfl
 ·intro s x h
  have h:nr s=some x:=h
  unfold nr at h
  repeat' split at h
  all_goals cases h
  constructor<;>repeat(first|refine aa ‹_› rfl ?_|refine ab rfl ‹_› rfl ?_|rfl)
 ·intro _;kernel_rfl
 ·intro _ _;exact(And.intro rfl trivial)
abbrev cd:=Int×Int×Int×Int×Bool×List ((al5×((List (Int×(Int×Bool)))×(List (Int×Int))))×(Int×(Int×Int)))×List Int
def dv(a b c:Int)(d:Bool)(e:List ((al5×((agb)×(al3)))×(Int×(Int×Int))))(f:al4):Int×Int×Int×aeq×Int×Int×Bool×al4:=((0:Int),b,a,e,b,c,d,f)
def gr(a b:Int):Bool:=ltI a b
def gt(a b c:Int)(d:Bool)(e:List ((al5×((agb)×(al3)))×(Int×(Int×Int))))(f:al4):Bool:=Lp.fin ax (dv a b c d e f)
def gu(a:Int):Int:=z7 .i64 (a + (1:Int))
def gv(a b c:Int)(d:Bool)(e:List ((al5×((agb)×(al3)))×(Int×(Int×Int))))(f:al4):List ((al5×((agb)×(al3)))×(Int×(Int×Int))):=((Lp.res ax (dv a b c d e f)).2.2.2.2).1
def EL:cd→List (Nat×SV)
 |(a,b,_,_,_,_,_)=> [(12,(al9 a)),(11,(al9 b)),(1,(al8 (.ptr 0 0))),(3,(al8 (.ref 1)))]
def EE:cd→List (Nat×Entry)
 |(_,_,a,b,c,d,e)=> [(0,(.box 63 [al7 a,.ref 2,al7 b,.val (.bool c)])),(2,(ama e)),(1,(amg d))]
def EZ:Nat→cd→List (Nat×SV)
 |_,(_,_,_,_,_,_,_)=> [(3,(al8 (.ref 1)))]
def ES:Nat→cd→List (Nat×Entry)
 |_,(_,_,a,b,c,d,e)=> [(0,(.box 63 [al7 a,.ref 2,al7 b,.val (.bool c)])),(1,(amg d)),(2,(ama e))]
def fN:cd→LT cd
 |(a,b,c,d,e,f,g)=> .ite (gr a b) (.need [gt a c d e f g] (.nrm ((gu a),b,c,d,e,gv a c d e f g,g) [(0,0),(1,512),(2,2)])) (.ext 0 [(0,0),(1,1),(2,2)])
def oI(s:St):Option cd:=do
 let some ⟨none,.one ⟨false,[.val (.int .i64 a)]⟩⟩:=s.look 12|none
 let some ⟨none,.one ⟨false,[.val (.int .i64 b)]⟩⟩:=s.look 11|none
 let some ⟨none,.one ⟨false,[.ptr 128 0]⟩⟩:=s.look 1|none
 let some ⟨none,.one ⟨false,[.ref 256]⟩⟩:=s.look 3|none
 let some (.box 63 [.val (.int .i64 c),.ref 0,.val (.int .i64 d),.val (.bool e)]):=s.ent 128|none
 let some (.row false 2 (.int .i64) g):=s.ent 0|none
 let some (.row true 72 (.pair (.pair .str (.pair (.sl 125 (.pair (.int .i64) (.pair (.int .i64) .bool))) (.sl 129 (.pair (.int .i64) (.int .i64))))) (.pair (.int .i64) (.pair (.int .i64) (.int .i64)))) f):=s.ent 256|none
 some (a,b,c,d,e,f,g)
def aD:Lp cd where
 h:=⟨[13,14,4,15,16,17,18,19,20,5,21,22,23,24,25,26,3,27,28,12],[0,2],[1],[]⟩
 JL:=EL
 JE:=EE
 XL:=EZ
 XE:=ES
 q:=fun j=>match j with | _=> .exit 0
 tags:= [0]
 lt:=fN
 fuel:=fun(a,b,c,d,_,f,g)=>a.natAbs + b.natAbs + c.natAbs + d.natAbs + f.length + g.length
 fix:=fun(_,b,c,d,e,_,g) (a,_,_,_,_,f,_)=>(a,b,c,d,e,f,g)
 σ:= [(0,128),(2,0),(1,256)]
 rd:=oI
theorem DS:LoopOk prog (fun k=>Nat.blt k Tryz.f28.ntmps) aD.F (aI f28 0):=by
 refine Lp.ok (tbl:= (T3z [af,ak,aj])) (lf:= [ax.F]) aS aD (by kernel_rfl) (LOk.allT (l:= [AP (aI f28 0) 0]) (by kernel_rfl) (.cons Cb (.nil _))) (fun _=>rfl) (fun _ _=>rfl) ?_ ?_ ?_ ?_ (fun _=>rfl) ?_
 ·intro _;kernel_rfl
 ·intro _;kernel_rfl
 ·intro s x h
  have h:oI s=some x:=h
  unfold oI at h
  repeat' split at h
  all_goals cases h
  constructor<;>repeat(first|refine aa ‹_› rfl ?_|refine ab rfl ‹_› rfl ?_|rfl)
 ·intro _;kernel_rfl
 ·intro _ _;exact(And.intro rfl trivial)
abbrev bH:=Int×Int×List ((al5×((List (Int×(Int×Bool)))×(List (Int×Int))))×(Int×(Int×Int)))×Int×Int×Bool×List Int
def eM(a:Int):Bool:=ltI 0 a
def eN(a b c:Int)(d:Bool)(e:al4):Bool:=ft c d b a e
def eO(a b:Int)(c:List ((al5×((agb)×(al3)))×(Int×(Int×Int))))(d:Int)(e:Bool)(f:al4):Bool:=leN (w9 c + w9 (cz d e b a f)) 9223372036854775807
def eP(a b:Int)(c:List ((al5×((agb)×(al3)))×(Int×(Int×Int))))(d:Int)(e:Bool)(f:al4):Bool:=leN ((w9 c + w9 (cz d e b a f)) * 88) 140737488355328
def eQ(a:Int):Int:=z7 .i64 (a - (1:Int))
def eR(a b:Int)(c:List ((al5×((agb)×(al3)))×(Int×(Int×Int))))(d:Int)(e:Bool)(f:al4):List ((al5×((agb)×(al3)))×(Int×(Int×Int))):=c++cz d e b a f
def CY:bH→List (Nat×SV)
 |(a,b,_,_,_,_,_)=> [(7,(al9 a)),(3,(al8 (.ref 0))),(1,(al8 (.ptr 1 0))),(6,(al9 b))]
def CT:bH→List (Nat×Entry)
 |(_,_,a,b,c,d,e)=> [(1,(.box 63 [al7 b,.ref 2,al7 c,.val (.bool d)])),(2,(ama e)),(0,(amg a))]
def Di:Nat→bH→List (Nat×SV)
 |_,(a,_,_,_,_,_,_)=> [(3,(al8 (.ref 0))),(7,(al9 a))]
def Dd:Nat→bH→List (Nat×Entry)
 |_,(_,_,a,b,c,d,e)=> [(0,(amg a)),(1,(.box 63 [al7 b,.ref 2,al7 c,.val (.bool d)])),(2,(ama e))]
def er:bH→LT bH
 |(a,b,c,d,e,f,g)=> .ite (eM a) (.need [eN a b d f g,eO a b c d f g,eP a b c d f g] (.nrm ((eQ a),b,eR a b c d f g,d,e,f,g) [(0,512),(1,1),(2,2)])) (.ext 0 [(0,0),(1,1),(2,2)])
def nt(s:St):Option bH:=do
 let some ⟨none,.one ⟨false,[.val (.int .i64 a)]⟩⟩:=s.look 7|none
 let some ⟨none,.one ⟨false,[.ref 1]⟩⟩:=s.look 3|none
 let some ⟨none,.one ⟨false,[.ptr 0 0]⟩⟩:=s.look 1|none
 let some ⟨none,.one ⟨false,[.val (.int .i64 b)]⟩⟩:=s.look 6|none
 let some (.box 63 [.val (.int .i64 d),.ref 2,.val (.int .i64 e),.val (.bool f)]):=s.ent 0|none
 let some (.row false 2 (.int .i64) g):=s.ent 2|none
 let some (.row true 72 (.pair (.pair .str (.pair (.sl 125 (.pair (.int .i64) (.pair (.int .i64) .bool))) (.sl 129 (.pair (.int .i64) (.int .i64))))) (.pair (.int .i64) (.pair (.int .i64) (.int .i64)))) c):=s.ent 1|none
 some (a,b,c,d,e,f,g)
def ay:Lp bH where
 h:=⟨[37,38,41,42,43,44,45,46,3,39,40,7],[1,2],[0],[]⟩
 JL:=CY
 JE:=CT
 XL:=Di
 XE:=Dd
 q:=fun j=>match j with | _=> .exit 6
 tags:= [0]
 lt:=er
 fuel:=fun(a,b,c,d,e,_,g)=>a.natAbs + b.natAbs + c.length + d.natAbs + e.natAbs + g.length
 fix:=fun(_,b,_,d,e,f,g) (a,_,c,_,_,_,_)=>(a,b,c,d,e,f,g)
 σ:= [(1,0),(2,2),(0,1)]
 rd:=nt
theorem Cc:LoopOk prog (memN [33,34,6,35,36,7,37,38,41,42,43,44,45,46,3,39,40,47,32]) ay.F (AP (aI f28 1) 0):=by
 refine Lp.ok (tbl:= (T3z [af,ak,aj])) (lf:= []) aS ay (by kernel_rfl) (LOk.nil _) (fun _=>rfl) (fun _ _=>rfl) ?_ ?_ ?_ ?_ (fun _=>rfl) ?_
 ·intro _;kernel_rfl
 ·intro _;kernel_rfl
 ·intro s x h
  have h:nt s=some x:=h
  unfold nt at h
  repeat' split at h
  all_goals cases h
  constructor<;>repeat(first|refine aa ‹_› rfl ?_|refine ab rfl ‹_› rfl ?_|rfl)
 ·intro _;kernel_rfl
 ·intro _ _;exact(And.intro rfl trivial)
abbrev ce:=Int×Int×Int×Int×Bool×List ((al5×((List (Int×(Int×Bool)))×(List (Int×Int))))×(Int×(Int×Int)))×List Int
def dw(a b c:Int)(d:Bool)(e:List ((al5×((agb)×(al3)))×(Int×(Int×Int))))(f:al4):Int×Int×aeq×Int×Int×Bool×al4:=(c,a,e,b,c,d,f)
def gw(a b:Int):Bool:=ltI a b
def gx(a b c:Int)(d:Bool)(e:List ((al5×((agb)×(al3)))×(Int×(Int×Int))))(f:al4):Bool:=Lp.fin ay (dw a b c d e f)
def gy(a:Int):Int:=z7 .i64 (a + (1:Int))
def gz(a b c:Int)(d:Bool)(e:List ((al5×((agb)×(al3)))×(Int×(Int×Int))))(f:al4):List ((al5×((agb)×(al3)))×(Int×(Int×Int))):=((Lp.res ay (dw a b c d e f)).2.2.2).1
def EM:ce→List (Nat×SV)
 |(a,b,_,_,_,_,_)=> [(32,(al9 a)),(31,(al9 b)),(1,(al8 (.ptr 0 0))),(3,(al8 (.ref 1)))]
def EF:ce→List (Nat×Entry)
 |(_,_,a,b,c,d,e)=> [(0,(.box 63 [al7 a,.ref 2,al7 b,.val (.bool c)])),(2,(ama e)),(1,(amg d))]
def Fa:Nat→ce→List (Nat×SV)
 |_,(_,_,_,_,_,_,_)=> [(3,(al8 (.ref 1)))]
def ET:Nat→ce→List (Nat×Entry)
 |_,(_,_,a,b,c,d,e)=> [(0,(.box 63 [al7 a,.ref 2,al7 b,.val (.bool c)])),(1,(amg d)),(2,(ama e))]
def fO:ce→LT ce
 |(a,b,c,d,e,f,g)=> .ite (gw a b) (.need [gx a c d e f g] (.nrm ((gy a),b,c,d,e,gz a c d e f g,g) [(0,0),(1,448),(2,2)])) (.ext 0 [(0,0),(1,1),(2,2)])
def oJ(s:St):Option ce:=do
 let some ⟨none,.one ⟨false,[.val (.int .i64 a)]⟩⟩:=s.look 32|none
 let some ⟨none,.one ⟨false,[.val (.int .i64 b)]⟩⟩:=s.look 31|none
 let some ⟨none,.one ⟨false,[.ptr 128 0]⟩⟩:=s.look 1|none
 let some ⟨none,.one ⟨false,[.ref 640]⟩⟩:=s.look 3|none
 let some (.box 63 [.val (.int .i64 c),.ref 0,.val (.int .i64 d),.val (.bool e)]):=s.ent 128|none
 let some (.row false 2 (.int .i64) g):=s.ent 0|none
 let some (.row true 72 (.pair (.pair .str (.pair (.sl 125 (.pair (.int .i64) (.pair (.int .i64) .bool))) (.sl 129 (.pair (.int .i64) (.int .i64))))) (.pair (.int .i64) (.pair (.int .i64) (.int .i64)))) f):=s.ent 640|none
 some (a,b,c,d,e,f,g)
def aE:Lp ce where
 h:=⟨[33,34,6,35,36,7,37,38,41,42,43,44,45,46,3,39,40,47,32],[0,2],[1],[]⟩
 JL:=EM
 JE:=EF
 XL:=Fa
 XE:=ET
 q:=fun j=>match j with | _=> .exit 4
 tags:= [0]
 lt:=fO
 fuel:=fun(a,b,c,d,_,f,g)=>a.natAbs + b.natAbs + c.natAbs + d.natAbs + f.length + g.length
 fix:=fun(_,b,c,d,e,_,g) (a,_,_,_,_,f,_)=>(a,b,c,d,e,f,g)
 σ:= [(0,128),(2,0),(1,640)]
 rd:=oJ
theorem DT:LoopOk prog (fun k=>Nat.blt k Tryz.f28.ntmps) aE.F (aI f28 1):=by
 refine Lp.ok (tbl:= (T3z [af,ak,aj])) (lf:= [ay.F]) aS aE (by kernel_rfl) (LOk.allT (l:= [AP (aI f28 1) 0]) (by kernel_rfl) (.cons Cc (.nil _))) (fun _=>rfl) (fun _ _=>rfl) ?_ ?_ ?_ ?_ (fun _=>rfl) ?_
 ·intro _;kernel_rfl
 ·intro _;kernel_rfl
 ·intro s x h
  have h:oJ s=some x:=h
  unfold oJ at h
  repeat' split at h
  all_goals cases h
  constructor<;>repeat(first|refine aa ‹_› rfl ?_|refine ab rfl ‹_› rfl ?_|rfl)
 ·intro _;kernel_rfl
 ·intro _ _;exact(And.intro rfl trivial)
section
variable (a b:Int)(c:Bool)(d:al4)
def qP:Int×Int×Int×Int×Bool×aeq×al4:=((0:Int),aL d,a,b,c,[],d)
def qQ:Int×Int×Int×Int×Bool×aeq×al4:=((0:Int),a,a,b,c,((Lp.res aD (qP a b c d)).2.2.2.2.2.2).1,d)
def rt:List ((al5×((agb)×(al3)))×(Int×(Int×Int))):=((Lp.res aE (qQ a b c d)).2.2.2.2.2.2).1
def ru:Bool:=allT [Lp.fin aD (qP a b c d),Lp.fin aE (qQ a b c d)]
end
def xH:al6
 | [.one ⟨true,[.val (.int .i64 a),.ref 0,.val (.int .i64 b),.val (.bool c)]⟩],[.row false 2 (.int .i64) d]=>some ⟨al8 (.ref 1),[ama d],[amg (rt a b c d)],[ru a b c d]⟩
 |_,_=>none
def HP:PF prog:=PF.ofG prog (T3z [af,ak,aj]) [aD.F,aE.F] aS 28 f28 func28 (LOk.fnT (l:= [aI f28 0,aI f28 1]) (by kernel_rfl) (.cons DS (.cons DT (.nil _)))) xH (by
 intro _ _ _ h;unfold xH at h;split at h<;>cases h;kernel_rfl)
section
variable (a b:Int)
def jS:Int:=bif a==4 then(1:Int)else bif a==5 then(1:Int)else bif a==6 then(1:Int)else(0:Int)
def jT:Int:=bif a==4 then b else bif a==5 then b else bif a==6 then b else b
def jU:Int:=bif a==4 then(1:Int)else bif a==5 then(2:Int)else bif a==6 then(3:Int)else(0:Int)
end
def vA:al6
 | [.one ⟨true,[.val (.string _x0),.ref 0,.ref 1,.val (.int .i64 a),.val (.int .i64 b),.val (.int .i64 _x3)]⟩],[.row false 125 (.pair (.int .i64) (.pair (.int .i64) (.bool))) c,.row false 129 (.pair (.int .i64) (.int .i64)) d]=>some ⟨.one ⟨true,[al7 (jS a),al7 (jT a b),al7 (jU a)]⟩,[amd c,amn d],[],[]⟩
 |_,_=>none
def dy:PF prog:=PF.ofG prog [] [] aS 31 f31 func31 (fun c _=>LOk.nil c) vA (by
 intro _ _ _ h;unfold vA at h;split at h<;>cases h;kernel_rfl)
end Go.SX
