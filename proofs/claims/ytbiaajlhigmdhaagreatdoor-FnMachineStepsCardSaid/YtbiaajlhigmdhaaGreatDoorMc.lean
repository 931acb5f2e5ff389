/- What functions of the program come to, and what that says in plain words: part 3. -/
import Derived.Test.YtbiaajlhigmdhaaGreatDoorMb
import Derived.Test.YtbiaajlhigmdhaaGreatDoorTXh
import Derived.Test.YtbiaajlhigmdhaaGreatDoorProg
set_option linter.unusedSimpArgs false
set_option linter.unusedVariables false
open Bool renaming and_eq_true → q9
open Int renaming toNat_natCast → w5
open List renaming length_singleton → w7
open List renaming length_append → w8
open List renaming length_take → w9
open List renaming mem_append → j7
open List renaming length_cons → j8
open List renaming length_nil → j9
open Bool renaming or_true → v3
open List renaming length_replicate → v4
open List renaming getElem?_eq_some_iff → v5
open Int renaming toNat → v6
open List renaming length → v7
open Option renaming getD → v8
open Go.IntKind renaming wrap → v9
open List renaming replicate → qqq
open List renaming eq_of_mem_replicate → qqw
open List renaming mem_singleton → qqz
namespace Go.SX
open Go.Proofs Go.Proofs.Tryz
set_option maxRecDepth 100000
def IF(x0 x1 x2 x3:Int)(x4:List (Int×alV×Int))(x5:List (Int×Int))(x6 x7 x8:List Int)(x9:List (Int×Int×Int))(x10:List Int):Int:=bif !eR x0 x1 x2 x4 x5 then(1:Int)else bif bif !IL x0 x1 x2 x4 x5 x3 x6 x7 x8 x9 then true else !bitsB x0 x10 then(2:Int)else(0:Int)
def Om(x0 x1 x2 x3:Int)(x4:List (Int×alV×Int))(x5:List (Int×Int))(x6 x7 x8:List Int)(x9:List (Int×Int×Int))(x10:List Int):Bool:=allT [ZM x4,!eR x0 x1 x2 x4 x5||pNd x0 x1 x2 x4 x5 x6 x7 x8,!eR x0 x1 x2 x4 x5||(!(!!IL x0 x1 x2 x4 x5 x3 x6 x7 x8 x9&&true)||leN x10.length (9223372036854775807:Nat))]
def aah:List SV→List Entry→Option Out
 | [.one ⟨true,[.val (.int .i64 x0),.val (.int .i64 x1),.val (.int .i64 x2),.ref 0,.ref 1]⟩,.one ⟨true,[.val (.int .i64 x3),.ref 2,.ref 3,.ref 4,.ref 5]⟩,.one ⟨false,[.ref 6]⟩],[.row false 122 (.pair (.int .i64) (.pair (.str) (.int .i64))) x4,.row false 83 (.pair (.int .i64) (.int .i64)) x5,.row false 2 (.int .i64) x6,.row false 2 (.int .i64) x7,.row false 2 (.int .i64) x8,.row false 109 (.pair (.int .i64) (.pair (.int .i64) (.int .i64))) x9,.row false 2 (.int .i64) x10]=>some ⟨.one ⟨false,[.val (.int .i64 (IF x0 x1 x2 x3 x4 x5 x6 x7 x8 x9 x10))]⟩,[.row false 122 afs x4,.row false 83 ahF x5,.row false 2 akd x6,.row false 2 akd x7,.row false 2 akd x8,.row false 109 ac0 x9,.row false 2 akd x10],[],[Om x0 x1 x2 x3 x4 x5 x6 x7 x8 x9 x10]⟩
 |_,_=>none
def SQ:PF prog:=PF.ofG prog (T3z [nP,mg,cP]) [] bG 46 f46 func46 (fun c _=>LOk.nil c) aah (by
 intro vs es r h;unfold aah at h;split at h
 ·cases h;kernel_rfl
 ·cases h)
def tC(x0:List Int)(x1:Int):Bool:= !bitsB x1 x0
def tD(x0:List Int):Bool:=allT [leN x0.length (9223372036854775807:Nat)]
def HA:List SV→List Entry→Option Out
 | [.one ⟨false,[.ref 0]⟩,.one ⟨false,[.ptr 1 0]⟩],[.row false 2 (.int .i64) x0,.box 27 [.val (.int .i64 x1),.val (.int .i64 x2),.val (.int .i64 x3),.ref 2,.ref 3],.row false 122 (.pair (.int .i64) (.pair .str (.int .i64))) x4,.row false 83 (.pair (.int .i64) (.int .i64)) x5]=>some ⟨.one ⟨false,[.val (.bool (tC x0 x1))]⟩,[.row false 2 akd x0,.box 27 [.val (.int .i64 x1),.val (.int .i64 x2),.val (.int .i64 x3),.ref 2,.ref 3],.row false 122 afs x4,.row false 83 ahF x5],[],[tD x0]⟩
 |_,_=>none
def dj:PF prog:=PF.ofG prog (T3z [nW]) [] bG 86 f86 func86 (fun c _=>LOk.nil c) HA (by
 intro vs es r h;unfold HA at h;split at h
 ·cases h;kernel_rfl
 ·cases h)
abbrev bR:=Int×Int×Int×Int×Int×List (List Int)×List (Int×(alV×Int))×List (Int×Int)
section
variable (y0 y1 y2:Int)(y5:List (List Int))
def cJ:List Int:=v8 y5[v6 y0]? (uS (CTy.sl (2:TypeId) akd))
def gL:Bool:=ltI y0 y1
def lp:Bool:=leI 0 y0
def lq:Bool:=ltI y0 (↑y5.length:Int)
def lr:Bool:=ltN y0.toNat y5.length
def lu:Bool:=tD (cJ y0 y5)
def gM:Bool:=tC (cJ y0 y5) y2
def lv:Int:=v9 .i64 (y0 + (1:Int))
end
def FY:bR→List (Nat×SV)
 |(y0,y1,_,_,_,_,_,_)=> [(8,(.one ⟨false,[.val (.int .i64 y0)]⟩)),(7,(.one ⟨false,[.val (.int .i64 y1)]⟩)),(1,(.one ⟨false,[.clo 86 [0]]⟩)),(0,(.one ⟨false,[.ref 1]⟩))]
def FW:bR→List (Nat×Entry)
 |(_,_,y2,y3,y4,y5,y6,y7)=> [(0,(.box 27 [.val (.int .i64 y2),.val (.int .i64 y3),.val (.int .i64 y4),.ref 2,.ref 3])),(1,(.row false 28 (CTy.sl (2:TypeId) akd) y5)),(2,(.row false 122 afs y6)),(3,(.row false 83 ahF y7))]
def Gc:Nat→bR→List (Nat×SV)
 |0,(y0,_,_,_,_,_,_,_)=> [(4,(.one ⟨false,[.val (.int .i64 y0)]⟩))]
 |_,(_,_,_,_,_,_,_,_)=> []
def Ga:Nat→bR→List (Nat×Entry)
 |0,(_,_,y2,y3,y4,y5,y6,y7)=> [(0,(.box 27 [.val (.int .i64 y2),.val (.int .i64 y3),.val (.int .i64 y4),.ref 2,.ref 3])),(1,(.row false 28 (CTy.sl (2:TypeId) akd) y5)),(2,(.row false 122 afs y6)),(3,(.row false 83 ahF y7))]
 |_,(_,_,y2,y3,y4,y5,y6,y7)=> [(0,(.box 27 [.val (.int .i64 y2),.val (.int .i64 y3),.val (.int .i64 y4),.ref 2,.ref 3])),(1,(.row false 28 (CTy.sl (2:TypeId) akd) y5)),(2,(.row false 122 afs y6)),(3,(.row false 83 ahF y7))]
def gi:bR→LT bR
 |(y0,y1,y2,y3,y4,y5,y6,y7)=> .ite (gL y0 y1) (.need [lp y0,lq y0 y5,lr y0 y5,lu y0 y5] (.ite (gM y0 y2 y5) (.ext 0 [(0,0),(1,1),(2,2),(3,3)]) (.nrm ((lv y0),y1,y2,y3,y4,y5,y6,y7) [(0,0),(1,1),(2,2),(3,3)]))) (.ext 1 [(0,0),(1,1),(2,2),(3,3)])
def oJ(s:St):Option bR:=
 (match s.look 8 with
 |some ⟨none,.one ⟨false,[.val (.int .i64 y0)]⟩⟩=>
 (match s.look 7 with
 |some ⟨none,.one ⟨false,[.val (.int .i64 y1)]⟩⟩=>
 (match s.look 1 with
 |some ⟨none,.one ⟨false,[.clo 86 [1]]⟩⟩=>
 (match s.look 0 with
 |some ⟨none,.one ⟨false,[.ref 0]⟩⟩=>
 (match s.ent 1 with
 |some (.box 27 [.val (.int .i64 y2),.val (.int .i64 y3),.val (.int .i64 y4),.ref 2,.ref 3])=>
 (match s.ent 0 with
 |some (.row false 28 (.sl 2 (.int .i64)) y5)=>
 (match s.ent 2 with
 |some (.row false 122 (.pair (.int .i64) (.pair .str (.int .i64))) y6)=>
 (match s.ent 3 with
 |some (.row false 83 (.pair (.int .i64) (.int .i64)) y7)=>
 some (y0,y1,y2,y3,y4,y5,y6,y7)
 |_=>none)
 |_=>none)
 |_=>none)
 |_=>none)
 |_=>none)
 |_=>none)
 |_=>none)
 |_=>none)
def aD:Lp bR where
 h:=⟨[9,10,5,11,12,13,14,15,16,17,4,18,8],[0,1,2,3],[],[]⟩
 JL:=FY
 JE:=FW
 XL:=Gc
 XE:=Ga
 q:=fun j=>match j with | 0=> .ret | _=> .exit 0
 tags:= [0,1]
 lt:=gi
 fuel:=fun(y0,y1,y2,y3,y4,y5,y6,y7)=>y0.natAbs + y1.natAbs + y2.natAbs + y3.natAbs + y4.natAbs + y5.length + y6.length + y7.length
 fix:=fun(_,y1,y2,y3,y4,y5,y6,y7) (y0,_,_,_,_,_,_,_)=>(y0,y1,y2,y3,y4,y5,y6,y7)
 σ:= [(0,1),(1,0),(2,2),(3,3)]
 rd:=oJ
theorem ET:LoopOk prog (fun k=>Nat.blt k Tryz.f128.ntmps) aD.F (bV f128 0):=by
 refine Lp.ok (tbl:= (T3z [dj])) (lf:= []) bG aD (by kernel_rfl) (LOk.nil _) (fun _=>rfl) (fun j _=>by unfold aD;match j with | 0=>rfl | _ + 1=>rfl) ?_ ?_ ?_ ?_ (fun _=>rfl) ?_
 ·rintro⟨y0,y1,y2,y3,y4,y5,y6,y7⟩;kernel_rfl
 ·rintro⟨y0,y1,y2,y3,y4,y5,y6,y7⟩;kernel_rfl
 ·intro s x h
  have h:oJ s=some x:=h
  unfold oJ at h
  repeat' split at h
  all_goals cases h
  constructor<;>repeat(first|refine ab (by assumption) rfl ?_|refine aa rfl (by assumption) rfl ?_|exact rfl)
 ·rintro⟨y0,y1,y2,y3,y4,y5,y6,y7⟩;kernel_rfl
 ·rintro⟨y0,y1,y2,y3,y4,y5,y6,y7⟩ z;exact(And.intro (And.intro trivial rfl) trivial)
section
variable (x0:List (List Int))(x1 x2 x3:Int)(x4:List (Int×alV×Int))(x5:List (Int×Int))
def mj:Int×Int×Int×Int×Int×List (List Int)×List (Int×alV×Int)×List (Int×Int):=((0:Int),(↑x0.length:Int),x1,x2,x3,x0,x4,x5)
def iM:Bool:=Nat.beq ((Lp.res aD (mj x0 x1 x2 x3 x4 x5)).1) 0
def qW:Int:=bif iM x0 x1 x2 x3 x4 x5 then ((Lp.res aD (mj x0 x1 x2 x3 x4 x5)).2).1else(-1:Int)
def yq:Int:=bif iM x0 x1 x2 x3 x4 x5 then x1 else x1
def yt:Int:=bif iM x0 x1 x2 x3 x4 x5 then x2 else x2
def yu:Int:=bif iM x0 x1 x2 x3 x4 x5 then x3 else x3
def qX:Bool:=allT [Lp.fin aD (mj x0 x1 x2 x3 x4 x5)]
end
def xZ:List SV→List Entry→Option Out
 | [.one ⟨false,[.ref 0]⟩,.one ⟨false,[.clo 86 [1]]⟩],[.row false 28 (.sl 2 (.int .i64)) x0,.box 27 [.val (.int .i64 x1),.val (.int .i64 x2),.val (.int .i64 x3),.ref 2,.ref 3],.row false 122 (.pair (.int .i64) (.pair .str (.int .i64))) x4,.row false 83 (.pair (.int .i64) (.int .i64)) x5]=>some ⟨.one ⟨false,[.val (.int .i64 (qW x0 x1 x2 x3 x4 x5))]⟩,[.row false 28 (CTy.sl (2:TypeId) akd) x0,.box 27 [.val (.int .i64 (yq x0 x1 x2 x3 x4 x5)),.val (.int .i64 (yt x0 x1 x2 x3 x4 x5)),.val (.int .i64 (yu x0 x1 x2 x3 x4 x5)),.ref 2,.ref 3],.row false 122 afs x4,.row false 83 ahF x5],[],[qX x0 x1 x2 x3 x4 x5]⟩
 |_,_=>none
def qU:PF prog:=PF.ofG prog (T3z [dj]) [aD.F] bG 128 f128 func128 (LOk.fnT (l:= [bV f128 0]) (by kernel_rfl) (.cons ET (.nil _))) xZ (by
 intro vs es r h;unfold xZ at h;split at h
 ·cases h;kernel_rfl
 ·cases h)
section
variable (x0:List (List Int))(x1 x2 x3:Int)(x4:List (Int×alV×Int))(x5:List (Int×Int))
def ph:Bool:=leI 0 (qW x0 x1 x2 x3 x4 x5)
def Hk:Int:=yq x0 x1 x2 x3 x4 x5
def Hl:Int:=yt x0 x1 x2 x3 x4 x5
def Hm:Int:=yu x0 x1 x2 x3 x4 x5
def pj:Bool:=allT [qX x0 x1 x2 x3 x4 x5]
end
def wy:List SV→List Entry→Option Out
 | [.one ⟨false,[.ref 0]⟩,.one ⟨false,[.clo 86 [1]]⟩],[.row false 28 (.sl 2 (.int .i64)) x0,.box 27 [.val (.int .i64 x1),.val (.int .i64 x2),.val (.int .i64 x3),.ref 2,.ref 3],.row false 122 (.pair (.int .i64) (.pair .str (.int .i64))) x4,.row false 83 (.pair (.int .i64) (.int .i64)) x5]=>some ⟨.one ⟨false,[.val (.bool (ph x0 x1 x2 x3 x4 x5))]⟩,[.row false 28 (CTy.sl (2:TypeId) akd) x0,.box 27 [.val (.int .i64 (Hk x0 x1 x2 x3 x4 x5)),.val (.int .i64 (Hl x0 x1 x2 x3 x4 x5)),.val (.int .i64 (Hm x0 x1 x2 x3 x4 x5)),.ref 2,.ref 3],.row false 122 afs x4,.row false 83 ahF x5],[],[pj x0 x1 x2 x3 x4 x5]⟩
 |_,_=>none
def pe:PF prog:=PF.ofG prog (T3z [qU]) [] bG 85 f85 func85 (fun c _=>LOk.nil c) wy (by
 intro vs es r h;unfold wy at h;split at h
 ·cases h;kernel_rfl
 ·cases h)
def zC(x0 x1 x2 x3:Int)(x4:List (Int×alV×Int))(x5:List (Int×Int))(x6 x7 x8:List Int)(x9:List (Int×Int×Int))(x10:List (List Int)):Int:=bif !eR x0 x1 x2 x4 x5 then(1:Int)else bif bif !IL x0 x1 x2 x4 x5 x3 x6 x7 x8 x9 then true else ph x10 x0 x1 x2 x4 x5 then(2:Int)else(0:Int)
def zD(x0 x1 x2 x3:Int)(x4:List (Int×alV×Int))(x5:List (Int×Int))(x6 x7 x8:List Int)(x9:List (Int×Int×Int))(x10:List (List Int)):Bool:=allT [!eR x0 x1 x2 x4 x5||pNd x0 x1 x2 x4 x5 x6 x7 x8,!eR x0 x1 x2 x4 x5||(!(!!IL x0 x1 x2 x4 x5 x3 x6 x7 x8 x9&&true)||pj x10 x0 x1 x2 x4 x5)]
def Sd:List SV→List Entry→Option Out
 | [.one ⟨true,[.val (.int .i64 x0),.val (.int .i64 x1),.val (.int .i64 x2),.ref 0,.ref 1]⟩,.one ⟨true,[.val (.int .i64 x3),.ref 2,.ref 3,.ref 4,.ref 5]⟩,.one ⟨false,[.ref 6]⟩],[.row false 122 (.pair (.int .i64) (.pair (.str) (.int .i64))) x4,.row false 83 (.pair (.int .i64) (.int .i64)) x5,.row false 2 (.int .i64) x6,.row false 2 (.int .i64) x7,.row false 2 (.int .i64) x8,.row false 109 (.pair (.int .i64) (.pair (.int .i64) (.int .i64))) x9,.row false 28 (.sl 2 (.int .i64)) x10]=>some ⟨.one ⟨false,[.val (.int .i64 (zC x0 x1 x2 x3 x4 x5 x6 x7 x8 x9 x10))]⟩,[.row false 122 afs x4,.row false 83 ahF x5,.row false 2 akd x6,.row false 2 akd x7,.row false 2 akd x8,.row false 109 ac0 x9,.row false 28 (CTy.sl (2:TypeId) akd) x10],[],[zD x0 x1 x2 x3 x4 x5 x6 x7 x8 x9 x10]⟩
 |_,_=>none
def iY:PF prog:=PF.ofG prog (T3z [dB,FT,pe]) [] bG 43 f43 func43 (fun c _=>LOk.nil c) Sd (by
 intro vs es r h;unfold Sd at h;split at h
 ·cases h;kernel_rfl
 ·cases h)
def gg(x1 x2 x3:List Int)(x4:List (Int×Int×Int)):Bool:=allT [leN x1.length (1048576:Nat),leN x2.length (1048576:Nat),leN x3.length (1048576:Nat),leN x4.length (1048576:Nat)]
def uZ:List SV→List Entry→Option Out
 | [.one ⟨true,[.val (.int .i64 x0),.ref 0,.ref 1,.ref 2,.ref 3]⟩],[.row false 2 (.int .i64) x1,.row false 2 (.int .i64) x2,.row false 2 (.int .i64) x3,.row false 109 (.pair (.int .i64) (.pair (.int .i64) (.int .i64))) x4]=>some ⟨.one ⟨true,[.val (.int .i64 x0),.ref 4,.ref 5,.ref 6,.ref 7]⟩,[.row false 2 akd x1,.row false 2 akd x2,.row false 2 akd x3,.row false 109 ac0 x4],[.row true 2 akd x1,.row true 2 akd x2,.row true 2 akd x3,.row true 109 ac0 x4],[gg x1 x2 x3 x4]⟩
 |_,_=>none
def eu:PF prog:=PF.ofG prog (T3z [na,vT]) [] bG 44 f44 func44 (fun c _=>LOk.nil c) uZ (by
 intro vs es r h;unfold uZ at h;split at h
 ·cases h;kernel_rfl
 ·cases h)
section
variable (x0 x1 x2 x3:Int)(x4:List (Int×alV×Int))(x5:List (Int×Int))(x6 x7 x8:List Int)(x9:List (Int×Int×Int))(x10:List Int)
def Jv:Int:=zC x0 x1 x2 x3 x4 x5 x6 x7 x8 x9 [x10]
def mR:Bool:=Jv x0 x1 x2 x3 x4 x5 x6 x7 x8 x9 x10 !=0
def Lh:Int:=bif mR x0 x1 x2 x3 x4 x5 x6 x7 x8 x9 x10 then(0:Int)else bif x3==aq x5 then(0:Int)else (stM x4 x5 x10 x3 x6 x7 x8 x9).1
def Li:Int:=bif mR x0 x1 x2 x3 x4 x5 x6 x7 x8 x9 x10 then Jv x0 x1 x2 x3 x4 x5 x6 x7 x8 x9 x10 else bif x3==aq x5 then(5:Int)else(0:Int)
def Lj:List Int:=bif mR x0 x1 x2 x3 x4 x5 x6 x7 x8 x9 x10 then []else bif x3==aq x5 then []else ((stM x4 x5 x10 x3 x6 x7 x8 x9).2).1
def Lk:List Int:=bif mR x0 x1 x2 x3 x4 x5 x6 x7 x8 x9 x10 then []else bif x3==aq x5 then []else ((stM x4 x5 x10 x3 x6 x7 x8 x9).2.2).1
def Ll:List Int:=bif mR x0 x1 x2 x3 x4 x5 x6 x7 x8 x9 x10 then []else bif x3==aq x5 then []else ((stM x4 x5 x10 x3 x6 x7 x8 x9).2.2.2).1
def Lm:List (Int×(Int×Int)):=bif mR x0 x1 x2 x3 x4 x5 x6 x7 x8 x9 x10 then []else bif x3==aq x5 then []else (stM x4 x5 x10 x3 x6 x7 x8 x9).2.2.2.2
def Ln:Bool:=allT [zD x0 x1 x2 x3 x4 x5 x6 x7 x8 x9 [x10],mR x0 x1 x2 x3 x4 x5 x6 x7 x8 x9 x10||(x3==aq x5||gg x6 x7 x8 x9),mR x0 x1 x2 x3 x4 x5 x6 x7 x8 x9 x10||(x3==aq x5||ahX x0 x1 x2 x4 x5 x10 x3 x6 x7 x8 x9)]
end
def Sc:List SV→List Entry→Option Out
 | [.one ⟨true,[.val (.int .i64 x0),.val (.int .i64 x1),.val (.int .i64 x2),.ref 0,.ref 1]⟩,.one ⟨true,[.val (.int .i64 x3),.ref 2,.ref 3,.ref 4,.ref 5]⟩,.one ⟨false,[.ref 6]⟩],[.row false 122 (.pair (.int .i64) (.pair (.str) (.int .i64))) x4,.row false 83 (.pair (.int .i64) (.int .i64)) x5,.row false 2 (.int .i64) x6,.row false 2 (.int .i64) x7,.row false 2 (.int .i64) x8,.row false 109 (.pair (.int .i64) (.pair (.int .i64) (.int .i64))) x9,.row false 2 (.int .i64) x10]=>some ⟨.tup [⟨true,[.val (.int .i64 (Lh x0 x1 x2 x3 x4 x5 x6 x7 x8 x9 x10)),.ref 7,.ref 8,.ref 9,.ref 10]⟩,⟨false,[.val (.int .i64 (Li x0 x1 x2 x3 x4 x5 x6 x7 x8 x9 x10))]⟩],[.row false 122 afs x4,.row false 83 ahF x5,.row false 2 akd x6,.row false 2 akd x7,.row false 2 akd x8,.row false 109 ac0 x9,.row false 2 akd x10],[.row true 2 akd (Lj x0 x1 x2 x3 x4 x5 x6 x7 x8 x9 x10),.row true 2 akd (Lk x0 x1 x2 x3 x4 x5 x6 x7 x8 x9 x10),.row true 2 akd (Ll x0 x1 x2 x3 x4 x5 x6 x7 x8 x9 x10),.row true 109 ac0 (Lm x0 x1 x2 x3 x4 x5 x6 x7 x8 x9 x10)],[Ln x0 x1 x2 x3 x4 x5 x6 x7 x8 x9 x10]⟩
 |_,_=>none
def aeb:PF prog:=PF.ofG prog (T3z [EN,iY,cd,eu]) [] bG 15 f15 func15 (fun c _=>LOk.nil c) Sc (by
 intro vs es r h;unfold Sc at h;split at h
 ·cases h;kernel_rfl
 ·cases h)
section
variable (x0 x1 x2 x3:Int)(x4:List (Int×alV×Int))(x5:List (Int×Int))(x6 x7 x8:List Int)(x9:List (Int×Int×Int))(x10:List Int)
def mL:Bool:=IF x0 x1 x2 x3 x4 x5 x6 x7 x8 x9 x10 !=0
def Io:Int:=bif mL x0 x1 x2 x3 x4 x5 x6 x7 x8 x9 x10 then(0:Int)else (fnM x4 x5 x10 x3 x6 x7 x8 x9).1
def Ip:Int:=bif mL x0 x1 x2 x3 x4 x5 x6 x7 x8 x9 x10 then IF x0 x1 x2 x3 x4 x5 x6 x7 x8 x9 x10 else(0:Int)
def Iq:List Int:=bif mL x0 x1 x2 x3 x4 x5 x6 x7 x8 x9 x10 then []else ((fnM x4 x5 x10 x3 x6 x7 x8 x9).2).1
def Ir:List Int:=bif mL x0 x1 x2 x3 x4 x5 x6 x7 x8 x9 x10 then []else ((fnM x4 x5 x10 x3 x6 x7 x8 x9).2.2).1
def Is:List Int:=bif mL x0 x1 x2 x3 x4 x5 x6 x7 x8 x9 x10 then []else ((fnM x4 x5 x10 x3 x6 x7 x8 x9).2.2.2).1
def It:List (Int×(Int×Int)):=bif mL x0 x1 x2 x3 x4 x5 x6 x7 x8 x9 x10 then []else (fnM x4 x5 x10 x3 x6 x7 x8 x9).2.2.2.2
def Iu:Bool:=allT [Om x0 x1 x2 x3 x4 x5 x6 x7 x8 x9 x10,mL x0 x1 x2 x3 x4 x5 x6 x7 x8 x9 x10||SW x0 x1 x2 x4 x5 x10 x3 x6 x7 x8 x9]
end
def Qu:List SV→List Entry→Option Out
 | [.one ⟨true,[.val (.int .i64 x0),.val (.int .i64 x1),.val (.int .i64 x2),.ref 0,.ref 1]⟩,.one ⟨true,[.val (.int .i64 x3),.ref 2,.ref 3,.ref 4,.ref 5]⟩,.one ⟨false,[.ref 6]⟩],[.row false 122 (.pair (.int .i64) (.pair (.str) (.int .i64))) x4,.row false 83 (.pair (.int .i64) (.int .i64)) x5,.row false 2 (.int .i64) x6,.row false 2 (.int .i64) x7,.row false 2 (.int .i64) x8,.row false 109 (.pair (.int .i64) (.pair (.int .i64) (.int .i64))) x9,.row false 2 (.int .i64) x10]=>some ⟨.tup [⟨true,[.val (.int .i64 (Io x0 x1 x2 x3 x4 x5 x6 x7 x8 x9 x10)),.ref 7,.ref 8,.ref 9,.ref 10]⟩,⟨false,[.val (.int .i64 (Ip x0 x1 x2 x3 x4 x5 x6 x7 x8 x9 x10))]⟩],[.row false 122 afs x4,.row false 83 ahF x5,.row false 2 akd x6,.row false 2 akd x7,.row false 2 akd x8,.row false 109 ac0 x9,.row false 2 akd x10],[.row false 2 akd (Iq x0 x1 x2 x3 x4 x5 x6 x7 x8 x9 x10),.row false 2 akd (Ir x0 x1 x2 x3 x4 x5 x6 x7 x8 x9 x10),.row false 2 akd (Is x0 x1 x2 x3 x4 x5 x6 x7 x8 x9 x10),.row false 109 ac0 (It x0 x1 x2 x3 x4 x5 x6 x7 x8 x9 x10)],[Iu x0 x1 x2 x3 x4 x5 x6 x7 x8 x9 x10]⟩
 |_,_=>none
def abo:PF prog:=PF.ofG prog (T3z [SQ,Pq]) [] bG 9 f9 func9 (fun c _=>LOk.nil c) Qu (by
 intro vs es r h;unfold Qu at h;split at h
 ·cases h;kernel_rfl
 ·cases h)
section
variable (x0 x1 x2 x3:Int)(x4:List (Int×alV×Int))(x5:List (Int×Int))(x6 x7 x8:List Int)(x9:List (Int×Int×Int))(x10:List Int)
def Gg:Int:=zC x0 x1 x2 x3 x4 x5 x6 x7 x8 x9 [x10]
def kC:Bool:=Gg x0 x1 x2 x3 x4 x5 x6 x7 x8 x9 x10 !=0
def HM:Int:=bif kC x0 x1 x2 x3 x4 x5 x6 x7 x8 x9 x10 then(0:Int)else (fnM x4 x5 x10 x3 x6 x7 x8 x9).1
def HN:Int:=bif kC x0 x1 x2 x3 x4 x5 x6 x7 x8 x9 x10 then Gg x0 x1 x2 x3 x4 x5 x6 x7 x8 x9 x10 else(0:Int)
def HO:List Int:=bif kC x0 x1 x2 x3 x4 x5 x6 x7 x8 x9 x10 then []else ((fnM x4 x5 x10 x3 x6 x7 x8 x9).2).1
def HP:List Int:=bif kC x0 x1 x2 x3 x4 x5 x6 x7 x8 x9 x10 then []else ((fnM x4 x5 x10 x3 x6 x7 x8 x9).2.2).1
def HQ:List Int:=bif kC x0 x1 x2 x3 x4 x5 x6 x7 x8 x9 x10 then []else ((fnM x4 x5 x10 x3 x6 x7 x8 x9).2.2.2).1
def HR:List (Int×(Int×Int)):=bif kC x0 x1 x2 x3 x4 x5 x6 x7 x8 x9 x10 then []else (fnM x4 x5 x10 x3 x6 x7 x8 x9).2.2.2.2
def HS:Bool:=allT [zD x0 x1 x2 x3 x4 x5 x6 x7 x8 x9 [x10],kC x0 x1 x2 x3 x4 x5 x6 x7 x8 x9 x10||gg x6 x7 x8 x9,kC x0 x1 x2 x3 x4 x5 x6 x7 x8 x9 x10||SW x0 x1 x2 x4 x5 x10 x3 x6 x7 x8 x9]
end
def Qr:List SV→List Entry→Option Out
 | [.one ⟨true,[.val (.int .i64 x0),.val (.int .i64 x1),.val (.int .i64 x2),.ref 0,.ref 1]⟩,.one ⟨true,[.val (.int .i64 x3),.ref 2,.ref 3,.ref 4,.ref 5]⟩,.one ⟨false,[.ref 6]⟩],[.row false 122 (.pair (.int .i64) (.pair (.str) (.int .i64))) x4,.row false 83 (.pair (.int .i64) (.int .i64)) x5,.row false 2 (.int .i64) x6,.row false 2 (.int .i64) x7,.row false 2 (.int .i64) x8,.row false 109 (.pair (.int .i64) (.pair (.int .i64) (.int .i64))) x9,.row false 2 (.int .i64) x10]=>some ⟨.tup [⟨true,[.val (.int .i64 (HM x0 x1 x2 x3 x4 x5 x6 x7 x8 x9 x10)),.ref 7,.ref 8,.ref 9,.ref 10]⟩,⟨false,[.val (.int .i64 (HN x0 x1 x2 x3 x4 x5 x6 x7 x8 x9 x10))]⟩],[.row false 122 afs x4,.row false 83 ahF x5,.row false 2 akd x6,.row false 2 akd x7,.row false 2 akd x8,.row false 109 ac0 x9,.row false 2 akd x10],[.row true 2 akd (HO x0 x1 x2 x3 x4 x5 x6 x7 x8 x9 x10),.row true 2 akd (HP x0 x1 x2 x3 x4 x5 x6 x7 x8 x9 x10),.row true 2 akd (HQ x0 x1 x2 x3 x4 x5 x6 x7 x8 x9 x10),.row true 109 ac0 (HR x0 x1 x2 x3 x4 x5 x6 x7 x8 x9 x10)],[HS x0 x1 x2 x3 x4 x5 x6 x7 x8 x9 x10]⟩
 |_,_=>none
def abk:PF prog:=PF.ofG prog (T3z [CL,iY,eu]) [] bG 8 f8 func8 (fun c _=>LOk.nil c) Qr (by
 intro vs es r h;unfold Qr at h;split at h
 ·cases h;kernel_rfl
 ·cases h)
abbrev cR:=Int×Int×Int×Int×Int×List (List Int)×List (Int×(alV×Int))×List (Int×Int)
section
variable (y0 y1 y2:Int)(y5:List (List Int))
def vn:List Int:=v8 y5[v6 y0]? (uS ahG)
def Hs:Bool:=ltI y0 y1
def Ht:Bool:=leI 0 y0
def Hu:Bool:=ltI y0 (↑y5.length:Int)
def Hv:Bool:=ltN y0.toNat y5.length
def Hw:Bool:=tD (vn y0 y5)
def Hx:Bool:=tC (vn y0 y5) y2
def Hy:Int:=v9 .i64 (y0 + (1:Int))
end
def FZ:cR→List (Nat×SV)
 |(y0,y1,_,_,_,_,_,_)=> [(8,(.one ⟨false,[.val (.int .i64 y0)]⟩)),(7,(.one ⟨false,[.val (.int .i64 y1)]⟩)),(1,(.one ⟨false,[.clo 86 [0]]⟩)),(0,(.one ⟨false,[.ref 1]⟩))]
def FX:cR→List (Nat×Entry)
 |(_,_,y2,y3,y4,y5,y6,y7)=> [(0,(.box 27 [.val (.int .i64 y2),.val (.int .i64 y3),.val (.int .i64 y4),.ref 2,.ref 3])),(1,(.row true 28 ahG y5)),(2,(.row false 122 afs y6)),(3,(.row false 83 ahF y7))]
def Gd:Nat→cR→List (Nat×SV)
 |0,(y0,_,_,_,_,_,_,_)=> [(4,(.one ⟨false,[.val (.int .i64 y0)]⟩))]
 |_,(_,_,_,_,_,_,_,_)=> []
def Gb:Nat→cR→List (Nat×Entry)
 |0,(_,_,y2,y3,y4,y5,y6,y7)=> [(0,(.box 27 [.val (.int .i64 y2),.val (.int .i64 y3),.val (.int .i64 y4),.ref 2,.ref 3])),(1,(.row true 28 ahG y5)),(2,(.row false 122 afs y6)),(3,(.row false 83 ahF y7))]
 |_,(_,_,y2,y3,y4,y5,y6,y7)=> [(0,(.box 27 [.val (.int .i64 y2),.val (.int .i64 y3),.val (.int .i64 y4),.ref 2,.ref 3])),(1,(.row true 28 ahG y5)),(2,(.row false 122 afs y6)),(3,(.row false 83 ahF y7))]
def Gj:cR→LT cR
 |(y0,y1,y2,y3,y4,y5,y6,y7)=> .ite (Hs y0 y1) (.need [Ht y0,Hu y0 y5,Hv y0 y5,Hw y0 y5] (.ite (Hx y0 y2 y5) (.ext 0 [(0,0),(1,1),(2,2),(3,3)]) (.nrm ((Hy y0),y1,y2,y3,y4,y5,y6,y7) [(0,0),(1,1),(2,2),(3,3)]))) (.ext 1 [(0,0),(1,1),(2,2),(3,3)])
def oK(s:St):Option cR:=
 (match s.look 8 with
 |some ⟨none,.one ⟨false,[.val (.int .i64 y0)]⟩⟩=>
 (match s.look 7 with
 |some ⟨none,.one ⟨false,[.val (.int .i64 y1)]⟩⟩=>
 (match s.look 1 with
 |some ⟨none,.one ⟨false,[.clo 86 [1]]⟩⟩=>
 (match s.look 0 with
 |some ⟨none,.one ⟨false,[.ref 0]⟩⟩=>
 (match s.ent 1 with
 |some (.box 27 [.val (.int .i64 y2),.val (.int .i64 y3),.val (.int .i64 y4),.ref 2,.ref 3])=>
 (match s.ent 0 with
 |some (.row true 28 (.sl 2 (.int .i64)) y5)=>
 (match s.ent 2 with
 |some (.row false 122 (.pair (.int .i64) (.pair .str (.int .i64))) y6)=>
 (match s.ent 3 with
 |some (.row false 83 (.pair (.int .i64) (.int .i64)) y7)=>
 some (y0,y1,y2,y3,y4,y5,y6,y7)
 |_=>none)
 |_=>none)
 |_=>none)
 |_=>none)
 |_=>none)
 |_=>none)
 |_=>none)
 |_=>none)
def cI:Lp cR where
 h:=⟨[9,10,5,11,12,13,14,15,16,17,4,18,8],[0,1,2,3],[],[]⟩
 JL:=FZ
 JE:=FX
 XL:=Gd
 XE:=Gb
 q:=fun j=>match j with | 0=> .ret | _=> .exit 0
 tags:= [0,1]
 lt:=Gj
 fuel:=fun(y0,y1,y2,y3,y4,y5,y6,y7)=>y0.natAbs + y1.natAbs + y2.natAbs + y3.natAbs + y4.natAbs + y5.length + y6.length + y7.length
 fix:=fun(_,y1,y2,y3,y4,y5,y6,y7) (y0,_,_,_,_,_,_,_)=>(y0,y1,y2,y3,y4,y5,y6,y7)
 σ:= [(0,1),(1,0),(2,2),(3,3)]
 rd:=oK
theorem EU:LoopOk prog (fun k=>Nat.blt k Tryz.f128.ntmps) cI.F (bV f128 0):=by
 refine Lp.ok (tbl:= (T3z [dj])) (lf:= []) bG cI (by kernel_rfl) (LOk.nil _) (fun _=>rfl) (fun j _=>by unfold cI;match j with | 0=>rfl | _ + 1=>rfl) ?_ ?_ ?_ ?_ (fun _=>rfl) ?_
 ·rintro⟨y0,y1,y2,y3,y4,y5,y6,y7⟩;kernel_rfl
 ·rintro⟨y0,y1,y2,y3,y4,y5,y6,y7⟩;kernel_rfl
 ·intro s x h
  have h:oK s=some x:=h
  unfold oK at h
  repeat' split at h
  all_goals cases h
  constructor<;>repeat(first|refine ab (by assumption) rfl ?_|refine aa rfl (by assumption) rfl ?_|exact rfl)
 ·rintro⟨y0,y1,y2,y3,y4,y5,y6,y7⟩;kernel_rfl
 ·rintro⟨y0,y1,y2,y3,y4,y5,y6,y7⟩ z;exact(And.intro (And.intro trivial rfl) trivial)
section
variable (x0:List (List Int))(x1 x2 x3:Int)(x4:List (Int×alV×Int))(x5:List (Int×Int))
def ml:Int×Int×Int×Int×Int×List (List Int)×List (Int×alV×Int)×List (Int×Int):=((0:Int),(↑x0.length:Int),x1,x2,x3,x0,x4,x5)
def fh:Bool:=Nat.beq ((Lp.res cI (ml x0 x1 x2 x3 x4 x5)).1) 0
def qY:Int:=bif fh x0 x1 x2 x3 x4 x5 then ((Lp.res cI (ml x0 x1 x2 x3 x4 x5)).2).1else(-1:Int)
def yw:List (List Int):=bif fh x0 x1 x2 x3 x4 x5 then x0 else x0
def yx:Int:=bif fh x0 x1 x2 x3 x4 x5 then x1 else x1
def yy:Int:=bif fh x0 x1 x2 x3 x4 x5 then x2 else x2
def yz:Int:=bif fh x0 x1 x2 x3 x4 x5 then x3 else x3
def qZ:Bool:=allT [Lp.fin cI (ml x0 x1 x2 x3 x4 x5)]
end
def ya:List SV→List Entry→Option Out
 | [.one ⟨false,[.ref 0]⟩,.one ⟨false,[.clo 86 [1]]⟩],[.row true 28 (.sl 2 (.int .i64)) x0,.box 27 [.val (.int .i64 x1),.val (.int .i64 x2),.val (.int .i64 x3),.ref 2,.ref 3],.row false 122 (.pair (.int .i64) (.pair .str (.int .i64))) x4,.row false 83 (.pair (.int .i64) (.int .i64)) x5]=>some ⟨.one ⟨false,[.val (.int .i64 (qY x0 x1 x2 x3 x4 x5))]⟩,[.row true 28 ahG (yw x0 x1 x2 x3 x4 x5),.box 27 [.val (.int .i64 (yx x0 x1 x2 x3 x4 x5)),.val (.int .i64 (yy x0 x1 x2 x3 x4 x5)),.val (.int .i64 (yz x0 x1 x2 x3 x4 x5)),.ref 2,.ref 3],.row false 122 afs x4,.row false 83 ahF x5],[],[qZ x0 x1 x2 x3 x4 x5]⟩
 |_,_=>none
def qV:PF prog:=PF.ofG prog (T3z [dj]) [cI.F] bG 128 f128 func128 (LOk.fnT (l:= [bV f128 0]) (by kernel_rfl) (.cons EU (.nil _))) ya (by
 intro vs es r h;unfold ya at h;split at h
 ·cases h;kernel_rfl
 ·cases h)
section
variable (x0:List (List Int))(x1 x2 x3:Int)(x4:List (Int×alV×Int))(x5:List (Int×Int))
def lm:Bool:=leI 0 (qY x0 x1 x2 x3 x4 x5)
def Hn:List (List Int):=yw x0 x1 x2 x3 x4 x5
def Ho:Int:=yx x0 x1 x2 x3 x4 x5
def Hq:Int:=yy x0 x1 x2 x3 x4 x5
def Hr:Int:=yz x0 x1 x2 x3 x4 x5
def ln:Bool:=allT [qZ x0 x1 x2 x3 x4 x5]
end
def wz:List SV→List Entry→Option Out
 | [.one ⟨false,[.ref 0]⟩,.one ⟨false,[.clo 86 [1]]⟩],[.row true 28 (.sl 2 (.int .i64)) x0,.box 27 [.val (.int .i64 x1),.val (.int .i64 x2),.val (.int .i64 x3),.ref 2,.ref 3],.row false 122 (.pair (.int .i64) (.pair .str (.int .i64))) x4,.row false 83 (.pair (.int .i64) (.int .i64)) x5]=>some ⟨.one ⟨false,[.val (.bool (lm x0 x1 x2 x3 x4 x5))]⟩,[.row true 28 ahG (Hn x0 x1 x2 x3 x4 x5),.box 27 [.val (.int .i64 (Ho x0 x1 x2 x3 x4 x5)),.val (.int .i64 (Hq x0 x1 x2 x3 x4 x5)),.val (.int .i64 (Hr x0 x1 x2 x3 x4 x5)),.ref 2,.ref 3],.row false 122 afs x4,.row false 83 ahF x5],[],[ln x0 x1 x2 x3 x4 x5]⟩
 |_,_=>none
def pg:PF prog:=PF.ofG prog (T3z [qV]) [] bG 85 f85 func85 (fun c _=>LOk.nil c) wz (by
 intro vs es r h;unfold wz at h;split at h
 ·cases h;kernel_rfl
 ·cases h)
section
variable (x0 x1 x2 x3:Int)(x4:List (Int×alV×Int))(x5:List (Int×Int))(x6 x7 x8:List Int)(x9:List (Int×Int×Int))
def Jq:Bool:= !!IL x0 x1 x2 x4 x5 x3 x6 x7 x8 x9&&true
def uX:List (List Int):=bif Jq x0 x1 x2 x3 x4 x5 x6 x7 x8 x9 then []else []
def oj:Int:=bif !eR x0 x1 x2 x4 x5 then(1:Int)else bif bif !IL x0 x1 x2 x4 x5 x3 x6 x7 x8 x9 then true else lm (uX x0 x1 x2 x3 x4 x5 x6 x7 x8 x9) x0 x1 x2 x4 x5 then(2:Int)else(0:Int)
def rR:Bool:=allT [!eR x0 x1 x2 x4 x5||pNd x0 x1 x2 x4 x5 x6 x7 x8,!eR x0 x1 x2 x4 x5||(!Jq x0 x1 x2 x3 x4 x5 x6 x7 x8 x9||ln (uX x0 x1 x2 x3 x4 x5 x6 x7 x8 x9) x0 x1 x2 x4 x5)]
end
def JZ:List SV→List Entry→Option Out
 | [.one ⟨true,[.val (.int .i64 x0),.val (.int .i64 x1),.val (.int .i64 x2),.ref 0,.ref 1]⟩,.one ⟨true,[.val (.int .i64 x3),.ref 2,.ref 3,.ref 4,.ref 5]⟩,.one ⟨false,[.val (.slice none 0 0)]⟩],[.row false 122 (.pair (.int .i64) (.pair .str (.int .i64))) x4,.row false 83 (.pair (.int .i64) (.int .i64)) x5,.row false 2 (.int .i64) x6,.row false 2 (.int .i64) x7,.row false 2 (.int .i64) x8,.row false 109 (.pair (.int .i64) (.pair (.int .i64) (.int .i64))) x9]=>some ⟨.one ⟨false,[.val (.int .i64 (oj x0 x1 x2 x3 x4 x5 x6 x7 x8 x9))]⟩,[.row false 122 afs x4,.row false 83 ahF x5,.row false 2 akd x6,.row false 2 akd x7,.row false 2 akd x8,.row false 109 ac0 x9],[],[rR x0 x1 x2 x3 x4 x5 x6 x7 x8 x9]⟩
 |_,_=>none
def oo:PF prog:=PF.ofG prog (T3z [dB,FT,pg]) [] bG 43 f43 func43 (fun c _=>LOk.nil c) JZ (by
 intro vs es r h;unfold JZ at h;split at h
 ·cases h;kernel_rfl
 ·cases h)
section
variable (x0 x1 x2 x3:Int)(x4:List (Int×alV×Int))(x5:List (Int×Int))(x6 x7 x8:List Int)(x9:List (Int×Int×Int))
def Sz:Bool:=oj x0 x1 x2 x3 x4 x5 x6 x7 x8 x9 !=0
def VJ:Int:=bif Sz x0 x1 x2 x3 x4 x5 x6 x7 x8 x9 then(0:Int)else v9 .i64 (aq x5 - x3)
def VK:Int:=bif Sz x0 x1 x2 x3 x4 x5 x6 x7 x8 x9 then oj x0 x1 x2 x3 x4 x5 x6 x7 x8 x9 else(0:Int)
def VL:Bool:=allT [rR x0 x1 x2 x3 x4 x5 x6 x7 x8 x9]
end
def acE:List SV→List Entry→Option Out
 | [.one ⟨true,[.val (.int .i64 x0),.val (.int .i64 x1),.val (.int .i64 x2),.ref 0,.ref 1]⟩,.one ⟨true,[.val (.int .i64 x3),.ref 2,.ref 3,.ref 4,.ref 5]⟩],[.row false 122 (.pair (.int .i64) (.pair (.str) (.int .i64))) x4,.row false 83 (.pair (.int .i64) (.int .i64)) x5,.row false 2 (.int .i64) x6,.row false 2 (.int .i64) x7,.row false 2 (.int .i64) x8,.row false 109 (.pair (.int .i64) (.pair (.int .i64) (.int .i64))) x9]=>some ⟨.tup [⟨false,[.val (.int .i64 (VJ x0 x1 x2 x3 x4 x5 x6 x7 x8 x9))]⟩,⟨false,[.val (.int .i64 (VK x0 x1 x2 x3 x4 x5 x6 x7 x8 x9))]⟩],[.row false 122 afs x4,.row false 83 ahF x5,.row false 2 akd x6,.row false 2 akd x7,.row false 2 akd x8,.row false 109 ac0 x9],[],[VL x0 x1 x2 x3 x4 x5 x6 x7 x8 x9]⟩
 |_,_=>none
def ajN:PF prog:=PF.ofG prog (T3z [iY,cd,oo]) [] bG 10 f10 func10 (fun c _=>LOk.nil c) acE (by
 intro vs es r h;unfold acE at h;split at h
 ·cases h;kernel_rfl
 ·cases h)
section
variable (x0 x1 x2 x3:Int)(x4:List (Int×alV×Int))(x5:List (Int×Int))(x6 x7 x8:List Int)(x9:List (Int×Int×Int))
def Wc:Int:=bif !eR x0 x1 x2 x4 x5 then(0:Int)else bif !IL x0 x1 x2 x4 x5 x3 x6 x7 x8 x9 then(0:Int)else v9 .i64 ((↑x5.length:Int) - x3)
def Wd:Int:=bif !eR x0 x1 x2 x4 x5 then(1:Int)else bif !IL x0 x1 x2 x4 x5 x3 x6 x7 x8 x9 then(2:Int)else(0:Int)
def We:Bool:=allT [ZM x4,!eR x0 x1 x2 x4 x5||pNd x0 x1 x2 x4 x5 x6 x7 x8]
end
def acK:List SV→List Entry→Option Out
 | [.one ⟨true,[.val (.int .i64 x0),.val (.int .i64 x1),.val (.int .i64 x2),.ref 0,.ref 1]⟩,.one ⟨true,[.val (.int .i64 x3),.ref 2,.ref 3,.ref 4,.ref 5]⟩],[.row false 122 (.pair (.int .i64) (.pair (.str) (.int .i64))) x4,.row false 83 (.pair (.int .i64) (.int .i64)) x5,.row false 2 (.int .i64) x6,.row false 2 (.int .i64) x7,.row false 2 (.int .i64) x8,.row false 109 (.pair (.int .i64) (.pair (.int .i64) (.int .i64))) x9]=>some ⟨.tup [⟨false,[.val (.int .i64 (Wc x0 x1 x2 x3 x4 x5 x6 x7 x8 x9))]⟩,⟨false,[.val (.int .i64 (Wd x0 x1 x2 x3 x4 x5 x6 x7 x8 x9))]⟩],[.row false 122 afs x4,.row false 83 ahF x5,.row false 2 akd x6,.row false 2 akd x7,.row false 2 akd x8,.row false 109 ac0 x9],[],[We x0 x1 x2 x4 x5 x6 x7 x8]⟩
 |_,_=>none
def ajS:PF prog:=PF.ofG prog (T3z [nP,mg]) [] bG 11 f11 func11 (fun c _=>LOk.nil c) acK (by
 intro vs es r h;unfold acK at h;split at h
 ·cases h;kernel_rfl
 ·cases h)
def Pl(x0 x1 x2 x3:Int)(x4:List (Int×alV×Int))(x5:List (Int×Int))(x6 x7 x8:List Int)(x9:List (Int×Int×Int)):Bool:=oj x0 x1 x2 x3 x4 x5 x6 x7 x8 x9==0
def Pm(x0 x1 x2 x3:Int)(x4:List (Int×alV×Int))(x5:List (Int×Int))(x6 x7 x8:List Int)(x9:List (Int×Int×Int)):Bool:=allT [rR x0 x1 x2 x3 x4 x5 x6 x7 x8 x9]
def Wr:List SV→List Entry→Option Out
 | [.one ⟨true,[.val (.int .i64 x0),.val (.int .i64 x1),.val (.int .i64 x2),.ref 0,.ref 1]⟩,.one ⟨true,[.val (.int .i64 x3),.ref 2,.ref 3,.ref 4,.ref 5]⟩],[.row false 122 (.pair (.int .i64) (.pair (.str) (.int .i64))) x4,.row false 83 (.pair (.int .i64) (.int .i64)) x5,.row false 2 (.int .i64) x6,.row false 2 (.int .i64) x7,.row false 2 (.int .i64) x8,.row false 109 (.pair (.int .i64) (.pair (.int .i64) (.int .i64))) x9]=>some ⟨.one ⟨false,[.val (.bool (Pl x0 x1 x2 x3 x4 x5 x6 x7 x8 x9))]⟩,[.row false 122 afs x4,.row false 83 ahF x5,.row false 2 akd x6,.row false 2 akd x7,.row false 2 akd x8,.row false 109 ac0 x9],[],[Pm x0 x1 x2 x3 x4 x5 x6 x7 x8 x9]⟩
 |_,_=>none
def agK:PF prog:=PF.ofG prog (T3z [iY,oo]) [] bG 13 f13 func13 (fun c _=>LOk.nil c) Wr (by
 intro vs es r h;unfold Wr at h;split at h
 ·cases h;kernel_rfl
 ·cases h)
def Pz(x0 x1 x2 x3:Int)(x4:List (Int×alV×Int))(x5:List (Int×Int))(x6 x7 x8:List Int)(x9:List (Int×Int×Int)):Bool:=bif eR x0 x1 x2 x4 x5 then IL x0 x1 x2 x4 x5 x3 x6 x7 x8 x9 else false
def PA(x0 x1 x2:Int)(x4:List (Int×alV×Int))(x5:List (Int×Int))(x6 x7 x8:List Int):Bool:=allT [ZM x4,!(eR x0 x1 x2 x4 x5&&true)||pNd x0 x1 x2 x4 x5 x6 x7 x8]
def Wv:List SV→List Entry→Option Out
 | [.one ⟨true,[.val (.int .i64 x0),.val (.int .i64 x1),.val (.int .i64 x2),.ref 0,.ref 1]⟩,.one ⟨true,[.val (.int .i64 x3),.ref 2,.ref 3,.ref 4,.ref 5]⟩],[.row false 122 (.pair (.int .i64) (.pair (.str) (.int .i64))) x4,.row false 83 (.pair (.int .i64) (.int .i64)) x5,.row false 2 (.int .i64) x6,.row false 2 (.int .i64) x7,.row false 2 (.int .i64) x8,.row false 109 (.pair (.int .i64) (.pair (.int .i64) (.int .i64))) x9]=>some ⟨.one ⟨false,[.val (.bool (Pz x0 x1 x2 x3 x4 x5 x6 x7 x8 x9))]⟩,[.row false 122 afs x4,.row false 83 ahF x5,.row false 2 akd x6,.row false 2 akd x7,.row false 2 akd x8,.row false 109 ac0 x9],[],[PA x0 x1 x2 x4 x5 x6 x7 x8]⟩
 |_,_=>none
def agO:PF prog:=PF.ofG prog (T3z [nP,mg]) [] bG 14 f14 func14 (fun c _=>LOk.nil c) Wv (by
 intro vs es r h;unfold Wv at h;split at h
 ·cases h;kernel_rfl
 ·cases h)
def tv(i v o:Int)(bs:List TM)(st:List IN)(k:Int)(stk xs os:List Int)(ss:List BS3)(l:List (List Int)):Int:=bif !eR i v o bs st then 1 else bif !(IL i v o bs st k stk xs os ss&&l.all (bitsB i))then 2 else 0
def abd(bs:List TM)(stk xs os:List Int)(l:List (List Int)):Bool:=ZM bs&&(leN stk.length 1048576&&(leN xs.length 1048576&&(leN os.length 1048576&&ags l)))
def gI(y2:Int)(b:List Int):(Unit)→Nat ⊕ (Unit)
 |_=>(bif(tC b y2)then(.inl 0)else(.inr ()))
def cK(y2 y3 y4:Int)(y5:List (List Int))(y6:List (Int×(alV×Int)))(y7:List (Int×Int))(i:Nat):(Unit)→bR
 |_=>((i:Int),(↑y5.length:Int),y2,y3,y4,y5,y6,y7)
def oI:bR→Unit
 |(_,_,_,_,_,_,_,_)=>()
theorem Hz(y2 y3 y4:Int)(y5:List (List Int))(y6:List (Int×(alV×Int)))(y7:List (Int×Int)) (hn:y5.length≤9223372036854775807) (hA: ∀ x∈y5,x.length≤9223372036854775807):
  aD.fin ((0:Int),(↑y5.length:Int),y2,y3,y4,y5,y6,y7)=true∧aD.res ((0:Int),(↑y5.length:Int),y2,y3,y4,y5,y6,y7)=((cX (gI y2) 1 y5 0 ()).1,(cK y2 y3 y4 y5 y6 y7) (cX (gI y2) 1 y5 0 ()).2.1 (cX (gI y2) 1 y5 0 ()).2.2):=by
 have my:=aD.along (cK y2 y3 y4 y5 y6 y7) oI (gI y2) 1 (fun _ _=>True) y5 () (by trivial) (by simp only [aD,cK];omega) (fun i b a hb hI=> ?_) (fun a hI=> ?_)
 ·exact my
 ·obtain⟨⟩:=a
  have eQ:=(v5.1 hb).1
  have ry: ∀ d,v8 y5[i]? d=b:=fun d=>by rw [hb];rfl
  have hw:=IG eQ hn
  have lz:ltI (i:Int) (y5.length:Int)=true:=cS (by omega)
  have Qg:leI (0:Int) (i:Int)=true:=bu (by omega)
  have yL:ltN i y5.length=true:=dI eQ
  refine⟨?_,?_,?_,?_⟩
  ·have hg2:cJ (i:Int) y5=b:=by simp only [cJ,w5];exact ry _
   have h6:leN b.length 9223372036854775807=true:=aR (hA b (List.mem_of_getElem? hb))
   simp [gL,lp,lq,lr,lu,gM,lv,gi,aD,LT.nds,allT,cK,tD,lz,Qg,yL,hg2,h6]
  ·simp [cJ,gL,lp,lq,lr,lu,gM,lv,gi,aD,LT.each,cK,oI,hw]
  ·have hg2:cJ (i:Int) y5=b:=by simp only [cJ,w5];exact ry _
   simp only [gL,gM,gi,aD,LT.fn,cK,oI,gI,w5,lz,hg2,cond_true]
  ·exact fun _ _=>trivial
 ·obtain⟨⟩:=a
  simp [cJ,gL,lp,lq,lr,lu,gM,lv,gi,aD,LT.out,cK]
theorem aom{bs:List TM}{stk xs os:List Int}{l:List (List Int)}(h:abd bs stk xs os l=true):ZM bs=true∧(stk.length≤1048576∧xs.length≤1048576∧os.length≤1048576)∧l.length≤9223372036854775807∧ ∀ x∈l,x.length≤9223372036854775807:=by
 simp only [abd,ags,q9,List.all_eq_true,iv]at h
 exact⟨h.1,⟨h.2.1,h.2.2.1,h.2.2.2.1⟩,h.2.2.2.2.1,h.2.2.2.2.2⟩
theorem amb(i v o:Int)(bs:List TM)(st:List IN)(k:Int)(stk xs os:List Int)(ss:List BS3)(l:List (List Int))(h:abd bs stk xs os l=true):
  zC i v o k bs st stk xs os ss l=tv i v o bs st k stk xs os ss l∧zD i v o k bs st stk xs os ss l=true:=by
 obtain⟨hT,⟨h1,h2,h3⟩,hl,hA⟩:=aom h
 have t1:leN stk.length 9223372036854775807=true:=aR (by omega)
 have t2:leN xs.length 9223372036854775807=true:=aR (by omega)
 have t3:leN os.length 9223372036854775807=true:=aR (by omega)
 obtain⟨w1,w2⟩:=Hz i v o l bs st hl hA
 rw [ow (P:=fun x=> !bitsB i x) (j:=0) (fun x=>rfl)]at w2
 have e5:(l.any fun x=> !bitsB i x)= !l.all (bitsB i):=by simp [List.all_eq_not_any_not]
 rw [e5]at w2
 have q: ∀ m:Nat,leI 0 (m:Int)=true:=fun m=>bu (by omega)
 have q2:leI 0 (-1)=false:=rfl
 simp only [zC,zD,ph,pj,qW,qX,iM,mj,w1,w2,t1,t2,t3,tv,pNd,allT]
 cases hc:eR i v o bs st with
 |false=>exact⟨rfl,rfl⟩
 |true=>cases IL i v o bs st k stk xs os ss <;> cases l.all (bitsB i) <;> simp [Nat.beq,q,q2,cK]
theorem ap5(i v o:Int)(bs:List TM)(st:List IN)(k:Int)(stk xs os:List Int)(ss:List BS3)(inp:List Int)(h:abd bs stk xs os [inp]=true):
  IF i v o k bs st stk xs os ss inp=tv i v o bs st k stk xs os ss [inp]∧Om i v o k bs st stk xs os ss inp=true:=by
 obtain⟨hT,⟨h1,h2,h3⟩,hl,hA⟩:=aom h
 have t1:leN stk.length 9223372036854775807=true:=aR (by omega)
 have t2:leN xs.length 9223372036854775807=true:=aR (by omega)
 have t3:leN os.length 9223372036854775807=true:=aR (by omega)
 have t4:leN inp.length 9223372036854775807=true:=aR (hA inp (by simp))
 simp only [IF,Om,tv,hT,pNd,t1,t2,t3,t4,allT,List.all_cons,List.all_nil,Bool.and_true]
 cases eR i v o bs st <;> cases IL i v o bs st k stk xs os ss <;> cases bitsB i inp <;> simp
theorem apQ{i v o:Int}{bs:List TM}{st:List IN}{k:Int}{stk xs os:List Int}{ss:List BS3}{inp:List Int}(h:tv i v o bs st k stk xs os ss [inp]=0):SW i v o bs st inp k stk xs os ss=true:=by
 simp only [tv,List.all_cons,List.all_nil,Bool.and_true]at h
 cases hc:eR i v o bs st with
 |false=>rw [hc]at h;cases h
 |true=>
  rw [hc]at h
  cases hm:IL i v o bs st k stk xs os ss&&bitsB i inp with
  |false=>rw [hm]at h;cases h
  |true=>
   simp only [q9]at hm
   simp only [SW,hc,hm.1,hm.2];rfl
theorem arp{i v o:Int}{bs:List TM}{st:List IN}{inp:List Int}{k:Int}{stk xs os:List Int}{ss:List BS3}(h:SW i v o bs st inp k stk xs os ss=true):0≤k∧k≤st.length:=by
 simp only [SW,q9]at h
 have:=agy h.1 h.2.2
 exact⟨this.lo,this.hi⟩
def GV(i v o:Int)(bs:List TM)(st:List IN)(k:Int)(stk xs os:List Int)(ss:List BS3)(inp:List Int):Int:=bif tv i v o bs st k stk xs os ss [inp]==0&&k==(st.length:Int)then 5 else tv i v o bs st k stk xs os ss [inp]
def m0:MS:=(0,[],[],[],[])
def ssM(i v o:Int)(bs:List TM)(st:List IN)(k:Int)(stk xs os:List Int)(ss:List BS3)(inp:List Int):MS:=bif GV i v o bs st k stk xs os ss inp==0 then stM bs st inp k stk xs os ss else m0
def sfM(i v o:Int)(bs:List TM)(st:List IN)(k:Int)(stk xs os:List Int)(ss:List BS3)(inp:List Int):MS:=bif tv i v o bs st k stk xs os ss [inp]==0 then fnM bs st inp k stk xs os ss else m0
theorem aqP{i v o:Int}{bs:List TM}{st:List IN}{k:Int}{stk xs os:List Int}{ss:List BS3}{inp:List Int}(h:GV i v o bs st k stk xs os ss inp=0):
  tv i v o bs st k stk xs os ss [inp]=0∧(k==(st.length:Int))=false∧ahX i v o bs st inp k stk xs os ss=true:=by
 simp only [GV]at h
 cases hm:tv i v o bs st k stk xs os ss [inp]==0 with
 |false=>
  rw [hm,Bool.false_and,cond_false]at h
  rw [h]at hm;cases hm
 |true=>
  rw [hm,Bool.true_and]at h
  have hm:=by simpa using hm
  have hr:=apQ hm
  obtain⟨k0,k1⟩:=arp hr
  cases hk:k==(st.length:Int)with
  |true=>rw [hk]at h;cases h
  |false=>
   have hk:=by simpa using hk
   exact⟨hm,rfl,by simp only [ahX,hr,cS (show k < (st.length:Int) by omega)];rfl⟩
theorem ari(i v o:Int)(bs:List TM)(st:List IN)(k:Int)(stk xs os:List Int)(ss:List BS3)(inp:List Int)(h:(abd bs stk xs os [inp]&&leN ss.length 1048576)=true):
  Lh i v o k bs st stk xs os ss inp=(ssM i v o bs st k stk xs os ss inp).1∧Li i v o k bs st stk xs os ss inp=GV i v o bs st k stk xs os ss inp∧
  Lj i v o k bs st stk xs os ss inp=(ssM i v o bs st k stk xs os ss inp).2.1∧Lk i v o k bs st stk xs os ss inp=(ssM i v o bs st k stk xs os ss inp).2.2.1∧
  Ll i v o k bs st stk xs os ss inp=(ssM i v o bs st k stk xs os ss inp).2.2.2.1∧Lm i v o k bs st stk xs os ss inp=(ssM i v o bs st k stk xs os ss inp).2.2.2.2∧Ln i v o k bs st stk xs os ss inp=true:=by
 simp only [q9]at h
 obtain⟨h,l4⟩:=h
 obtain⟨c0,c1⟩:=amb i v o bs st k stk xs os ss [inp] h
 obtain⟨_,⟨h1,h2,h3⟩,_⟩:=aom h
 have t1:leN stk.length 1048576=true:=aR h1
 have t2:leN xs.length 1048576=true:=aR h2
 have t3:leN os.length 1048576=true:=aR h3
 have mn:aq st=(st.length:Int):=rfl
 simp only [Lh,Li,Lj,Lk,Ll,Lm,Ln,mR,Jv,gg,mn,c0,c1,t1,t2,t3,l4,allT]
 by_cases hz:GV i v o bs st k stk xs os ss inp=0
 ·obtain⟨z1,z2,h4⟩:=aqP hz
  simp only [ssM,hz]
  simp [z1,z2,h4]
 ·have hz':(GV i v o bs st k stk xs os ss inp==0)=false:=by simpa using hz
  have e:ssM i v o bs st k stk xs os ss inp=m0:=by simp only [ssM,hz',cond_false]
  rw [e]
  cases hm:tv i v o bs st k stk xs os ss [inp]==0 with
  |false=>
   have e2:GV i v o bs st k stk xs os ss inp=tv i v o bs st k stk xs os ss [inp]:=by simp only [GV,hm,Bool.false_and,cond_false]
   simp [bne,hm,m0,e2]
  |true=>
   cases hk:k==(st.length:Int)with
   |false=>
    simp only [GV,hm,hk,Bool.and_false,cond_false]at hz'
    cases hz'
   |true=>
    have e2:GV i v o bs st k stk xs os ss inp=5:=by simp only [GV,hm,hk,Bool.and_self,cond_true]
    simp [bne,hm,m0,e2]
theorem arq(i v o:Int)(bs:List TM)(st:List IN)(k:Int)(stk xs os:List Int)(ss:List BS3)(inp:List Int)(h:abd bs stk xs os [inp]=true):
  Io i v o k bs st stk xs os ss inp=(sfM i v o bs st k stk xs os ss inp).1∧Ip i v o k bs st stk xs os ss inp=tv i v o bs st k stk xs os ss [inp]∧
  Iq i v o k bs st stk xs os ss inp=(sfM i v o bs st k stk xs os ss inp).2.1∧Ir i v o k bs st stk xs os ss inp=(sfM i v o bs st k stk xs os ss inp).2.2.1∧
  Is i v o k bs st stk xs os ss inp=(sfM i v o bs st k stk xs os ss inp).2.2.2.1∧It i v o k bs st stk xs os ss inp=(sfM i v o bs st k stk xs os ss inp).2.2.2.2∧Iu i v o k bs st stk xs os ss inp=true:=by
 obtain⟨c0,c1⟩:=ap5 i v o bs st k stk xs os ss inp h
 simp only [Io,Ip,Iq,Ir,Is,It,Iu,mL,c0,c1,sfM,allT]
 by_cases h1:tv i v o bs st k stk xs os ss [inp]=0
 ·simp [h1,apQ h1]
 ·have:(tv i v o bs st k stk xs os ss [inp]==0)=false:=by simpa using h1
  simp [bne,this,m0]
theorem arh(i v o:Int)(bs:List TM)(st:List IN)(k:Int)(stk xs os:List Int)(ss:List BS3)(inp:List Int)(h:(abd bs stk xs os [inp]&&leN ss.length 1048576)=true):
  HM i v o k bs st stk xs os ss inp=(sfM i v o bs st k stk xs os ss inp).1∧HN i v o k bs st stk xs os ss inp=tv i v o bs st k stk xs os ss [inp]∧
  HO i v o k bs st stk xs os ss inp=(sfM i v o bs st k stk xs os ss inp).2.1∧HP i v o k bs st stk xs os ss inp=(sfM i v o bs st k stk xs os ss inp).2.2.1∧
  HQ i v o k bs st stk xs os ss inp=(sfM i v o bs st k stk xs os ss inp).2.2.2.1∧HR i v o k bs st stk xs os ss inp=(sfM i v o bs st k stk xs os ss inp).2.2.2.2∧HS i v o k bs st stk xs os ss inp=true:=by
 simp only [q9]at h
 obtain⟨h,l4⟩:=h
 obtain⟨c0,c1⟩:=amb i v o bs st k stk xs os ss [inp] h
 obtain⟨_,⟨h1,h2,h3⟩,_⟩:=aom h
 have t1:leN stk.length 1048576=true:=aR h1
 have t2:leN xs.length 1048576=true:=aR h2
 have t3:leN os.length 1048576=true:=aR h3
 simp only [HM,HN,HO,HP,HQ,HR,HS,kC,Gg,gg,c0,c1,sfM,t1,t2,t3,l4,allT]
 by_cases h1:tv i v o bs st k stk xs os ss [inp]=0
 ·simp [h1,apQ h1]
 ·have:(tv i v o bs st k stk xs os ss [inp]==0)=false:=by simpa using h1
  simp [bne,this,m0]
def Sn:List SV→List Entry→Option Out
 | [.one ⟨true,[.val (.int .i64 x0),.val (.int .i64 x1),.val (.int .i64 x2),.ref 0,.ref 1]⟩,.one ⟨true,[.val (.int .i64 x3),.ref 2,.ref 3,.ref 4,.ref 5]⟩,.one ⟨false,[.ref 6]⟩],[.row false 122 (.pair (.int .i64) (.pair (.str) (.int .i64))) x4,.row false 83 (.pair (.int .i64) (.int .i64)) x5,.row false 2 (.int .i64) x6,.row false 2 (.int .i64) x7,.row false 2 (.int .i64) x8,.row false 109 (.pair (.int .i64) (.pair (.int .i64) (.int .i64))) x9,.row false 2 (.int .i64) x10]=>some ⟨.tup [⟨true,[.val (.int .i64 ((ssM x0 x1 x2 x4 x5 x3 x6 x7 x8 x9 x10).1)),.ref 7,.ref 8,.ref 9,.ref 10]⟩,⟨false,[.val (.int .i64 (GV x0 x1 x2 x4 x5 x3 x6 x7 x8 x9 x10))]⟩],[.row false 122 afs x4,.row false 83 ahF x5,.row false 2 akd x6,.row false 2 akd x7,.row false 2 akd x8,.row false 109 ac0 x9,.row false 2 akd x10],[.row true 2 akd ((ssM x0 x1 x2 x4 x5 x3 x6 x7 x8 x9 x10).2.1),.row true 2 akd ((ssM x0 x1 x2 x4 x5 x3 x6 x7 x8 x9 x10).2.2.1),.row true 2 akd ((ssM x0 x1 x2 x4 x5 x3 x6 x7 x8 x9 x10).2.2.2.1),.row true 109 ac0 ((ssM x0 x1 x2 x4 x5 x3 x6 x7 x8 x9 x10).2.2.2.2)],[abd x4 x6 x7 x8 [x10]&&leN x9.length 1048576]⟩
 |_,_=>none
def vS:PF prog:=PF.alt aeb Sn (by
 intro args es o h cf;unfold Sn at h;split at h
 ·rename_i x0 x1 x2 x3 x4 x5 x6 x7 x8 x9 x10
  cases h
  have cf:=iw cf
  have hh:=ari x0 x1 x2 x4 x5 x3 x6 x7 x8 x9 x10 cf
  obtain⟨e0,e1,e2,e3,e4,e5,en⟩:=hh
  exact mK rfl (gE en) (by simp only [e0,e1] <;> rfl) rfl (by simp only [e2,e3,e4,e5] <;> rfl)
 ·cases h)
def QF:List SV→List Entry→Option Out
 | [.one ⟨true,[.val (.int .i64 x0),.val (.int .i64 x1),.val (.int .i64 x2),.ref 0,.ref 1]⟩,.one ⟨true,[.val (.int .i64 x3),.ref 2,.ref 3,.ref 4,.ref 5]⟩,.one ⟨false,[.ref 6]⟩],[.row false 122 (.pair (.int .i64) (.pair (.str) (.int .i64))) x4,.row false 83 (.pair (.int .i64) (.int .i64)) x5,.row false 2 (.int .i64) x6,.row false 2 (.int .i64) x7,.row false 2 (.int .i64) x8,.row false 109 (.pair (.int .i64) (.pair (.int .i64) (.int .i64))) x9,.row false 2 (.int .i64) x10]=>some ⟨.tup [⟨true,[.val (.int .i64 ((sfM x0 x1 x2 x4 x5 x3 x6 x7 x8 x9 x10).1)),.ref 7,.ref 8,.ref 9,.ref 10]⟩,⟨false,[.val (.int .i64 (tv x0 x1 x2 x4 x5 x3 x6 x7 x8 x9 [x10]))]⟩],[.row false 122 afs x4,.row false 83 ahF x5,.row false 2 akd x6,.row false 2 akd x7,.row false 2 akd x8,.row false 109 ac0 x9,.row false 2 akd x10],[.row false 2 akd ((sfM x0 x1 x2 x4 x5 x3 x6 x7 x8 x9 x10).2.1),.row false 2 akd ((sfM x0 x1 x2 x4 x5 x3 x6 x7 x8 x9 x10).2.2.1),.row false 2 akd ((sfM x0 x1 x2 x4 x5 x3 x6 x7 x8 x9 x10).2.2.2.1),.row false 109 ac0 ((sfM x0 x1 x2 x4 x5 x3 x6 x7 x8 x9 x10).2.2.2.2)],[abd x4 x6 x7 x8 [x10]]⟩
 |_,_=>none
def sF:PF prog:=PF.alt abo QF (by
 intro args es o h cf;unfold QF at h;split at h
 ·rename_i x0 x1 x2 x3 x4 x5 x6 x7 x8 x9 x10
  cases h
  have cf:=iw cf
  have hh:=arq x0 x1 x2 x4 x5 x3 x6 x7 x8 x9 x10 cf
  obtain⟨e0,e1,e2,e3,e4,e5,en⟩:=hh
  exact mK rfl (gE en) (by simp only [e0,e1] <;> rfl) rfl (by simp only [e2,e3,e4,e5] <;> rfl)
 ·cases h)
def QC:List SV→List Entry→Option Out
 | [.one ⟨true,[.val (.int .i64 x0),.val (.int .i64 x1),.val (.int .i64 x2),.ref 0,.ref 1]⟩,.one ⟨true,[.val (.int .i64 x3),.ref 2,.ref 3,.ref 4,.ref 5]⟩,.one ⟨false,[.ref 6]⟩],[.row false 122 (.pair (.int .i64) (.pair (.str) (.int .i64))) x4,.row false 83 (.pair (.int .i64) (.int .i64)) x5,.row false 2 (.int .i64) x6,.row false 2 (.int .i64) x7,.row false 2 (.int .i64) x8,.row false 109 (.pair (.int .i64) (.pair (.int .i64) (.int .i64))) x9,.row false 2 (.int .i64) x10]=>some ⟨.tup [⟨true,[.val (.int .i64 ((sfM x0 x1 x2 x4 x5 x3 x6 x7 x8 x9 x10).1)),.ref 7,.ref 8,.ref 9,.ref 10]⟩,⟨false,[.val (.int .i64 (tv x0 x1 x2 x4 x5 x3 x6 x7 x8 x9 [x10]))]⟩],[.row false 122 afs x4,.row false 83 ahF x5,.row false 2 akd x6,.row false 2 akd x7,.row false 2 akd x8,.row false 109 ac0 x9,.row false 2 akd x10],[.row true 2 akd ((sfM x0 x1 x2 x4 x5 x3 x6 x7 x8 x9 x10).2.1),.row true 2 akd ((sfM x0 x1 x2 x4 x5 x3 x6 x7 x8 x9 x10).2.2.1),.row true 2 akd ((sfM x0 x1 x2 x4 x5 x3 x6 x7 x8 x9 x10).2.2.2.1),.row true 109 ac0 ((sfM x0 x1 x2 x4 x5 x3 x6 x7 x8 x9 x10).2.2.2.2)],[abd x4 x6 x7 x8 [x10]&&leN x9.length 1048576]⟩
 |_,_=>none
def sD:PF prog:=PF.alt abk QC (by
 intro args es o h cf;unfold QC at h;split at h
 ·rename_i x0 x1 x2 x3 x4 x5 x6 x7 x8 x9 x10
  cases h
  have cf:=iw cf
  have hh:=arh x0 x1 x2 x4 x5 x3 x6 x7 x8 x9 x10 cf
  obtain⟨e0,e1,e2,e3,e4,e5,en⟩:=hh
  exact mK rfl (gE en) (by simp only [e0,e1] <;> rfl) rfl (by simp only [e2,e3,e4,e5] <;> rfl)
 ·cases h)
def anT(ll:List (List Int)):Nat:=(ll.map v7).sum
theorem an7{i v o:Int}{bs:List TM}{st:List IN}{inp:List Int}(hC:eR i v o bs st=true)(tu:bitsB i inp=true): ∀ (n:Nat) (m:MS),OkS i v o bs st m→st.length - m.1.toNat=n→
  OkS i v o bs st (ago bs st inp n m)∧(ago bs st inp n m).1=st.length
 |0,m,hm,hn=>⟨hm,by
  have:=hm.lo
  have:=hm.hi
  show m.1=_
  omega⟩
 |n + 1,m,hm,hn=>by
  have h0:=hm.lo
  have eQ:m.1 < st.length:=by omega
  have hs:=(aeQ hC tu hm eQ).1
  have he:(Uk bs st inp m).1=m.1 + 1:=rfl
  exact an7 hC tu n _ hs (by rw [he];omega)
theorem ao3{k:Int}{s:alV}{n:Int}(h:vM k s n=true):possB k n 0 0 0=true:=by
 obtain⟨h1,h2,h3⟩:=XZ h
 have t:inR 0 0 n=true:=tE.2 (by omega)
 have t1:inR 0 0 1=true:=rfl
 rcases kinds h1 with rfl | rfl | rfl | rfl | rfl | rfl <;> simp [possB,cQ,aX,Pn,t,t1] <;> omega
def abK(bs:List TM):List BS3:=qqq bs.length ((0:Int),(0:Int),(0:Int))
theorem ans{l:List (List Int)}(h:ltI 200 (l.length:Int)=false):l.length≤200:=by
 rcases Nat.lt_or_ge 200 l.length with h' | h'
 ·rw [cS (by omega)]at h;cases h
 ·exact h'
def sgO(ins vs os:List alV)(g:alV)(ls:List LN):List (List Int)→List Int→List BS3→List (List Int)
 | [],_,_=> []
 |inp::r,xs,ss=>scO ins vs os g ls inp xs ss::sgO ins vs os g ls r (scV ins vs os ls inp xs ss) (scB ins vs os ls inp xs ss)
def sgM(ins vs os:List alV)(ls:List LN):List (List Int)→List Int→List BS3→List Int×List BS3
 | [],xs,ss=>(xs,ss)
 |inp::r,xs,ss=>sgM ins vs os ls r (scV ins vs os ls inp xs ss) (scB ins vs os ls inp xs ss)
def zv(vs:List alV):List Int:=qqq vs.length 0
theorem aow{nm:alV}{ins vs os:List alV}{g:alV}{ls:List LN}{xs:List Int}{ss:List BS3}{inp:List Int}(h:scG nm ins vs os g ls xs ss inp=true):
  vL vs.length (blL ls) (scV ins vs os ls inp xs ss) (scB ins vs os ls inp xs ss)=true∧(scO ins vs os g ls inp xs ss).length≤20:=by
 obtain⟨h1,h2,h3⟩:=afR.1 h
 have hS:=alf h1 h3
 obtain⟨a,b⟩:=aqL (os:=os) (g:=g) h3 hS.hL h2
 have:=(cO.1 b).2
 have:=hS.h3
 exact⟨a,by omega⟩
theorem amx{nm:alV}{ins vs os:List alV}{g:alV}{ls:List LN}(hS:yR nm ins vs os g ls=true): ∀ (r:List (List Int)) (xs:List Int) (ss:List BS3),
  (∀ x∈r,bitsB ins.length x=true)→vL vs.length (blL ls) xs ss=true→
  (sgO ins vs os g ls r xs ss).length=r.length∧(∀ x∈sgO ins vs os g ls r xs ss,x.length≤20)∧vL vs.length (blL ls) (sgM ins vs os ls r xs ss).1 (sgM ins vs os ls r xs ss).2=true
 | [],_,_,_,hs=>⟨rfl,fun x hx=>(List.not_mem_nil hx).elim,hs⟩
 |inp::r,xs,ss,hA,hs=>by
  obtain⟨h1,h2⟩:=aow (afR.2 ⟨hS,hs,hA inp (by simp)⟩)
  obtain⟨g1,g2,g3⟩:=amx hS r _ _ (fun x hx=>hA x (by simp [hx])) h1
  refine⟨by simp [sgO,g1],fun x hx=> ?_,g3⟩
  rcases List.mem_cons.1 hx with rfl | hx
  ·exact h2
  ·exact g2 x hx
theorem aoA{nm:alV}{ins vs os:List alV}{g:alV}{ls:List LN}(hS:yR nm ins vs os g ls=true):vL vs.length (blL ls) (zv vs) (abK (blL ls))=true:=by
 have hB:=alC ls (ag2 hS).2.1
 refine ajw.2 ⟨by simp [abK],cO.2 ⟨fun z hz=> .inl (qqw hz),by rw [zv,v4]⟩,fun k hk=> ?_⟩
 simp only [Ss,List.all_eq_true]at hB
 have h1:stAt (abK (blL ls)) k=(0,0,0):=by
  simp only [stAt,abK]
  rw [List.getElem?_replicate,if_pos hk];rfl
 have h2:ek (blL ls) k∈blL ls:=by
  simp only [ek,List.getElem?_eq_getElem hk];exact List.getElem_mem hk
 simp only [possAt,h1]
 exact ao3 (hB _ h2)
def rgC(nm:alV)(ins vs os:List alV)(g:alV)(ls:List LN)(l:List (List Int)):Int:=bif !yR nm ins vs os g ls then 1 else bif ltI 200 (l.length:Int)then 3 else bif !l.all (fun x=>bitsB ins.length x)then 2 else 0
def rgO(nm:alV)(ins vs os:List alV)(g:alV)(ls:List LN)(l:List (List Int)):List (List Int):=bif rgC nm ins vs os g ls l==0 then sgO ins vs os g ls l (zv vs) (abK (blL ls))else []
def rgV(nm:alV)(ins vs os:List alV)(g:alV)(ls:List LN)(l:List (List Int)):List Int:=bif rgC nm ins vs os g ls l==0 then(sgM ins vs os ls l (zv vs) (abK (blL ls))).1 else []
def rgB(nm:alV)(ins vs os:List alV)(g:alV)(ls:List LN)(l:List (List Int)):List BS3:=bif rgC nm ins vs os g ls l==0 then(sgM ins vs os ls l (zv vs) (abK (blL ls))).2 else []
def rgN(nm:alV)(ins vs os:List alV)(g:alV)(ls:List LN)(l:List (List Int)):Bool:=ald nm ins vs os g ls&&aqO 9223372036854775807 l
theorem amr(nm:alV)(ins vs os:List alV)(g:alV)(ls:List LN)(l:List (List Int)):
  (yR nm ins vs os g ls=false∧rgC nm ins vs os g ls l=1)∨(yR nm ins vs os g ls=true∧ltI 200 (l.length:Int)=true∧rgC nm ins vs os g ls l=3)∨
  (yR nm ins vs os g ls=true∧ltI 200 (l.length:Int)=false∧l.all (fun x=>bitsB ins.length x)=false∧rgC nm ins vs os g ls l=2)∨
  (yR nm ins vs os g ls=true∧ltI 200 (l.length:Int)=false∧l.all (fun x=>bitsB ins.length x)=true∧rgC nm ins vs os g ls l=0):=by
 simp only [rgC]
 cases yR nm ins vs os g ls <;> cases ltI 200 (l.length:Int) <;> cases l.all (fun x=>bitsB ins.length x) <;> simp
def Dx(y4:List alV)(b:List Int):(Unit)→Nat ⊕ (Unit)
 |_=>(bif(!bitsB (↑y4.length:Int) b)then(.inl 0)else(.inr ()))
def uu(y1:List (List Int))(y2 y3:alV)(y4 y5 y6:List alV)(y7:List (alV×(List (Int×(alV×Int)))))(y8:List Int)(y9:List (Int×(Int×Int)))(i:Nat):(Unit)→oh
 |_=>((i:Int),y1,y2,y3,y4,y5,y6,y7,y8,y9)
def Nc:oh→Unit
 |(_,_,_,_,_,_,_,_,_,_)=>()
theorem ag7(y1:List (List Int))(y2 y3:alV)(y4 y5 y6:List alV)(y7:List (alV×(List (Int×(alV×Int)))))(y8:List Int)(y9:List (Int×(Int×Int))) (hn:y1.length≤9223372036854775807) (hA: ∀ x∈y1,x.length≤9223372036854775807):
  gB.fin ((0:Int),y1,y2,y3,y4,y5,y6,y7,y8,y9)=true∧gB.res ((0:Int),y1,y2,y3,y4,y5,y6,y7,y8,y9)=((cX (Dx y4) 1 y1 0 ()).1,(uu y1 y2 y3 y4 y5 y6 y7 y8 y9) (cX (Dx y4) 1 y1 0 ()).2.1 (cX (Dx y4) 1 y1 0 ()).2.2):=by
 have my:=gB.along (uu y1 y2 y3 y4 y5 y6 y7 y8 y9) Nc (Dx y4) 1 (fun _ _=>True) y1 () (by trivial) (by simp only [gB,uu];omega) (fun i b a hb hI=> ?_) (fun a hI=> ?_)
 ·exact my
 ·obtain⟨⟩:=a
  have eQ:=(v5.1 hb).1
  have ry: ∀ d,v8 y1[i]? d=b:=fun d=>by rw [hb];rfl
  have hw:=IG eQ hn
  have lz:ltI (i:Int) (y1.length:Int)=true:=cS (by omega)
  have Qg:leI (0:Int) (i:Int)=true:=bu (by omega)
  have yL:ltN i y1.length=true:=dI eQ
  refine⟨?_,?_,?_,?_⟩
  ·have hg2:ru (i:Int) y1=b:=by simp only [ru,w5];exact ry _
   have h6:leN b.length 9223372036854775807=true:=aR (hA b (List.mem_of_getElem? hb))
   simp only [zs,DZ,Ea,Eb,Ec,Ed,BE,gB,LT.nds,allT,uu,w5,lz,Qg,yL,hg2,h6,cond_true,Bool.and_self]
   cases !bitsB (y4.length:Int) b <;> rfl
  ·simp [ru,zs,DZ,Ea,Eb,Ec,Ed,BE,gB,LT.each,uu,Nc,hw]
  ·have hg2:ru (i:Int) y1=b:=by simp only [ru,w5];exact ry _
   simp only [zs,DZ,Ea,Eb,Ec,Ed,BE,gB,LT.fn,uu,Nc,Dx,w5,lz,hg2,cond_true]
  ·exact fun _ _=>trivial
 ·obtain⟨⟩:=a
  simp [ru,zs,DZ,Ea,Eb,Ec,Ed,BE,gB,LT.out,uu]
def vP(y3:alV)(y5 y6 y7:List alV)(y8:List (alV×(List (Int×(alV×Int)))))(b:List Int):(List (List Int)×List Int×List (Int×(Int×Int)))→Nat ⊕ (List (List Int)×List Int×List (Int×(Int×Int)))
 |(y4,y9,y10)=>(.inr ((y4++([scO y5 y6 y7 y3 y8 b y9 y10])),scV y5 y6 y7 y8 b y9 y10,(scB y5 y6 y7 y8 b y9 y10)))
def rx(y1:List (List Int))(y2 y3:alV)(y5 y6 y7:List alV)(y8:List (alV×(List (Int×(alV×Int)))))(i:Nat):(List (List Int)×List Int×List (Int×(Int×Int)))→oi
 |(y4,y9,y10)=>((i:Int),y1,y2,y3,y4,y5,y6,y7,y8,y9,y10)
def Nd:oi→List (List Int)×List Int×List (Int×(Int×Int))
 |(_,_,_,_,y4,_,_,_,_,y9,y10)=>(y4,y9,y10)
theorem ag8(y1:List (List Int))(y2 y3:alV)(y5 y6 y7:List alV)(y8:List (alV×(List (Int×(alV×Int)))))(y4:List (List Int))(y9:List Int)(y10:List (Int×(Int×Int)))(hn:y1.length≤9223372036854775807)(hC:yR y2 y5 y6 y7 y3 y8=true)(hA: ∀ x∈y1,bitsB y5.length x=true)(h200:y1.length≤200)(hS:vL y6.length (blL y8) y9 y10=true)(h4:y4.length=0):
  iF.fin ((0:Int),y1,y2,y3,y4,y5,y6,y7,y8,y9,y10)=true∧iF.res ((0:Int),y1,y2,y3,y4,y5,y6,y7,y8,y9,y10)=((cX (vP y3 y5 y6 y7 y8) 0 y1 0 (y4,y9,y10)).1,(rx y1 y2 y3 y5 y6 y7 y8) (cX (vP y3 y5 y6 y7 y8) 0 y1 0 (y4,y9,y10)).2.1 (cX (vP y3 y5 y6 y7 y8) 0 y1 0 (y4,y9,y10)).2.2):=by
 have my:=iF.along (rx y1 y2 y3 y5 y6 y7 y8) Nd (vP y3 y5 y6 y7 y8) 0 (fun i a=>vL y6.length (blL y8) a.2.1 a.2.2=true∧a.1.length=i) y1 (y4,y9,y10) ⟨hS,h4⟩ (by simp only [iF,rx];omega) (fun i b a hb hI=> ?_) (fun a hI=> ?_)
 ·exact my
 ·obtain⟨y4,y9,y10⟩:=a
  have eQ:=(v5.1 hb).1
  have ry: ∀ d,v8 y1[i]? d=b:=fun d=>by rw [hb];rfl
  have hw:=IG eQ hn
  have lz:ltI (i:Int) (y1.length:Int)=true:=cS (by omega)
  have Qg:leI (0:Int) (i:Int)=true:=bu (by omega)
  have yL:ltN i y1.length=true:=dI eQ
  refine⟨?_,?_,?_,?_⟩
  ·have hg2:ni (i:Int) y1=b:=by simp only [ni,w5];exact ry _
   have hl:=hI.2
   have he:scG y2 y5 y6 y7 y3 y8 y9 y10 b=true:=afR.2 ⟨hC,hI.1,hA b (List.mem_of_getElem? hb)⟩
   have h6:leN (y4.length + 1) 9223372036854775807=true:=aR (by simp only at hl;omega)
   have h7:leN ((y4.length + 1) * 24) 140737488355328=true:=aR (by simp only at hl;omega)
   simp only [zt,Ee,Ef,Eg,Eh,Ei,Ej,Ek,El,Em,BF,iF,ui,LT.nds,allT,rx,lz,Qg,yL,hg2,he,w7,h6,h7,w5,cond_true]
  ·simp [ni,ui,zt,Ee,Ef,Eg,Eh,Ei,Ej,Ek,El,Em,BF,iF,LT.each,rx,Nd,hw]
  ·have hg2:ni (i:Int) y1=b:=by simp only [ni,w5];exact ry _
   simp only [zt,Ee,Ef,Eg,Eh,Ei,Ej,Ek,El,Em,BF,iF,ui,LT.fn,rx,Nd,vP,w5,lz,hg2,cond_true]
  ·intro a' hf
   simp only [vP,Sum.inr.injEq]at hf
   subst hf
   have he:scG y2 y5 y6 y7 y3 y8 y9 y10 b=true:=afR.2 ⟨hC,hI.1,hA b (List.mem_of_getElem? hb)⟩
   exact⟨(aow he).1,by have hl:=hI.2;simp only at hl;simp [hl]⟩
 ·obtain⟨y4,y9,y10⟩:=a
  simp [ni,ui,zt,Ee,Ef,Eg,Eh,Ei,Ej,Ek,El,Em,BF,iF,LT.out,rx]
theorem aoC{ins vs os:List alV}{g:alV}{ls:List LN}{f:List Int→List (List Int)×List Int×List BS3→Nat ⊕ (List (List Int)×List Int×List BS3)}
  (hf: ∀ b a,f b a= .inr (a.1++ [scO ins vs os g ls b a.2.1 a.2.2],scV ins vs os ls b a.2.1 a.2.2,scB ins vs os ls b a.2.1 a.2.2)) {e:Nat}:
  ∀ (r:List (List Int)) (i:Nat) (acc:List (List Int)) (xs:List Int) (ss:List BS3),cX f e r i (acc,xs,ss)=(e,i + r.length,acc++sgO ins vs os g ls r xs ss,sgM ins vs os ls r xs ss)
 | [],i,acc,xs,ss=>by simp [cX,sgO,sgM]
 |b::r,i,acc,xs,ss=>by
  simp only [cX,hf]
  rw [aoC hf r]
  simp only [sgO,sgM,List.append_assoc,List.singleton_append,j8]
  congr 2
  omega
theorem zvs(vs:List alV):qqq (v6 (vs.length:Int)) (0:Int)=zv vs:=by rw [w5];rfl
theorem zbs(ls:List LN):qqq (v6 ((blL ls).length:Int)) ((0:Int),(0:Int),(0:Int))=abK (blL ls):=by rw [w5];rfl
theorem ars(nm:alV)(ins vs os:List alV)(g:alV)(ls:List LN)(l:List (List Int))(h:rgN nm ins vs os g ls l=true):
  Qm nm g ins vs os ls l=rgC nm ins vs os g ls l∧Wj nm g ins vs os ls l=rgO nm ins vs os g ls l∧Qn nm g ins vs os ls l=rgV nm ins vs os g ls l∧
  Qo nm g ins vs os ls l=rgB nm ins vs os g ls l∧Qp nm g ins vs os ls l=true:=by
 simp only [rgN,q9]at h
 obtain⟨hT,hl⟩:=h
 obtain⟨hn,hA⟩:=ap7.1 hl
 obtain⟨w1,w2⟩:=ag7 l nm g ins vs os ls [] [] hn hA
 rw [ow (P:=fun x=> !bitsB ins.length x) (j:=0) (fun x=>rfl)]at w2
 have e5:(l.any fun x=> !bitsB ins.length x)= !l.all (fun x=>bitsB ins.length x):=by simp [List.all_eq_not_any_not]
 rw [e5]at w2
 have e1:TD nm g ins vs os ls l=((0:Int),l,nm,g,ins,vs,os,ls,[],[]):=rfl
 have e2:xo nm g ins vs os ls l= !l.all (fun x=>bitsB ins.length x):=by
  simp only [xo,e1,w2]
  cases l.all (fun x=>bitsB ins.length x) <;> rfl
 have e3:NI nm g ins vs os ls l=((0:Int),l,nm,g,[],ins,vs,os,ls,zv vs,abK (blL ls)):=by simp only [NI,Rp,Rq,zvs,zbs]
 simp only [Qm,Wj,Qn,Qo,Qp,xm,TE,TF,e1,e2,e3,w1,hT,rgO,rgV,rgB,allT]
 rcases amr nm ins vs os g ls l with⟨h1,h2⟩ | ⟨h1,h3,h2⟩ | ⟨h1,h3,h4,h2⟩ | ⟨h1,h3,h4,h2⟩
 ·rw [h1,h2];simp
 ·rw [h1,h2,h3];simp
 ·rw [h1,h2,h3,h4];simp
 ·have hA2: ∀ x∈l,bitsB ins.length x=true:=List.all_eq_true.1 h4
  have hS:=aoA h1
  obtain⟨v1,v2⟩:=ag8 l nm g ins vs os ls [] (zv vs) (abK (blL ls)) (by have:=ans h3;omega) h1 hA2 (ans h3) hS rfl
  rw [aoC (ins:=ins) (vs:=vs) (os:=os) (g:=g) (ls:=ls) (f:=vP g ins vs os ls) (fun b a=>rfl)]at v2
  have hX:=alf (inp:=qqq ins.length 0) h1 (cO.2 ⟨fun z hz=> .inl (qqw hz),by simp⟩)
  have hb:=hX.bl
  have hv:=hX.h2
  have u1:leI 0 (vs.length:Int)=true:=bu (by omega)
  have u2:leI (vs.length:Int) (vs.length:Int)=true:=bu (by omega)
  have u3:leI ((↑(8:Nat):Int) * (vs.length:Int)) 281474976710656=true:=bu (by omega)
  have u4:leI (vs.length:Int) 9223372036854775807=true:=bu (by omega)
  have u5:leI 0 ((blL ls).length:Int)=true:=bu (by omega)
  have u6:leI ((blL ls).length:Int) ((blL ls).length:Int)=true:=bu (by omega)
  have u7:leI ((↑(24:Nat):Int) * ((blL ls).length:Int)) 281474976710656=true:=bu (by omega)
  have u8:leI ((blL ls).length:Int) 9223372036854775807=true:=bu (by omega)
  have hLn:=(abv.1 hT).2.2.2.2.2.2
  have f2:KS vs ls=true:=by simp only [KS,u1,u2,u3,u4,u5,u6,u7,u8,hLn,allT,cond_true]
  rw [h1,h2,h3,h4,v1,v2,f2]
  simp [rx]
theorem apa(nm:alV)(ins vs os:List alV)(g:alV)(ls:List LN)(l:List (List Int))(h:rgN nm ins vs os g ls l=true):Tf nm g ins vs os ls l=rgC nm ins vs os g ls l∧Tg nm g ins vs os ls l=rgV nm ins vs os g ls l∧Th nm g ins vs os ls l=rgB nm ins vs os g ls l∧LF nm g ins vs os ls l=true:=by
 obtain⟨s0,s1,s2,s3,s4⟩:=ars nm ins vs os g ls l h
 exact⟨s0,s2,s3,by simp only [LF,s4,allT,cond_true]⟩
def Sp:List SV→List Entry→Option Out
 | [.one ⟨true,[.val (.string x0),.ref 0,.ref 1,.ref 2,.val (.string x1),.ref 3]⟩,.one ⟨false,[.ref 4]⟩],[.row false 9 (.str) x2,.row false 9 (.str) x3,.row false 9 (.str) x4,.row false 142 (.pair (.str) (.sl 122 (.pair (.int .i64) (.pair (.str) (.int .i64))))) x5,.row false 28 (.sl 2 (.int .i64)) x6]=>some ⟨.tup [⟨true,[.ref 5,.ref 6]⟩,⟨false,[.val (.int .i64 (rgC x0 x2 x3 x4 x1 x5 x6))]⟩],[.row false 9 alu x2,.row false 9 alu x3,.row false 9 alu x4,.row false 142 (CTy.pair CTy.str (CTy.sl (122:TypeId) afs)) x5,.row false 28 (CTy.sl (2:TypeId) akd) x6],[.row true 2 akd (rgV x0 x2 x3 x4 x1 x5 x6),.row true 109 ac0 (rgB x0 x2 x3 x4 x1 x5 x6)],[rgN x0 x2 x3 x4 x1 x5 x6]⟩
 |_,_=>none
def vU:PF prog:=PF.alt aed Sp (by
 intro args es o h cf;unfold Sp at h;split at h
 ·rename_i x0 x1 x2 x3 x4 x5 x6
  cases h
  have cf:=iw cf
  have hh:=apa x0 x2 x3 x4 x1 x5 x6 cf
  obtain⟨e0,e1,e2,en⟩:=hh
  exact mK rfl (gE en) (by simp only [e0] <;> rfl) rfl (by simp only [e1,e2] <;> rfl)
 ·cases h)
abbrev rj:=Int×List Int×Int×Int
section
variable (y0:Int)(y1:List Int)
def Hb:Bool:=bif ltI y0 (↑y1.length:Int)then ltI y0 64 else false
def UG:Bool:=leI 0 y0
def UH:Bool:=ltI y0 (↑y1.length:Int)
def UI:Bool:=ltN y0.toNat y1.length
end
def UJ:Bool:=neI 2147483647 0
def UK(y0:Int):Int:=v9 .i64 (y0 + (1:Int))
def UL(y0:Int)(y1:List Int)(y3:Int):Int:=Int.tmod (v9 .i64 (v9 .i64 (y3 * (59:Int)) + v9 .i64 (v8 y1[v6 y0]? 0))) 2147483647
def adp:rj→List (Nat×SV)
 |(y0,_,_,_)=> [(4,(.one ⟨false,[.val (.int .i64 y0)]⟩)),(0,(.one ⟨false,[.ref 0]⟩)),(3,(.one ⟨false,[.ptr 1 0]⟩))]
def adg:rj→List (Nat×Entry)
 |(_,y1,y2,y3)=> [(0,(.row false 5 ake y1)),(1,(.box 113 [.ref 0,.val (.int .i64 y2),.val (.int .i64 y3)]))]
def adH:Nat→rj→List (Nat×SV)
 |_,(_,_,_,_)=> []
def ady:Nat→rj→List (Nat×Entry)
 |_,(_,y1,y2,y3)=> [(0,(.row false 5 ake y1)),(1,(.box 113 [.ref 0,.val (.int .i64 y2),.val (.int .i64 y3)]))]
def zM:rj→LT rj
 |(y0,y1,y2,y3)=> .ite (Hb y0 y1) (.need [UG y0,UH y0 y1,UI y0 y1,UJ] (.nrm ((UK y0),y1,y2,(UL y0 y1 y3)) [(0,0),(1,1)])) (.ext 0 [(0,0),(1,1)])
def Lv(s:St):Option rj:=
 (match s.look 4 with
 |some ⟨none,.one ⟨false,[.val (.int .i64 y0)]⟩⟩=>
 (match s.look 0 with
 |some ⟨none,.one ⟨false,[.ref 0]⟩⟩=>
 (match s.look 3 with
 |some ⟨none,.one ⟨false,[.ptr 320 0]⟩⟩=>
 (match s.ent 0 with
 |some (.row false 5 (.int IntKind.u8) y1)=>
 (match s.ent 320 with
 |some (.box 113 [.ref 0,.val (.int .i64 y2),.val (.int .i64 y3)])=>
 some (y0,y1,y2,y3)
 |_=>none)
 |_=>none)
 |_=>none)
 |_=>none)
 |_=>none)
def nO:Lp rj where
 h:=⟨[8,9,10,11,12,13,14,15,18,19,20,21,22,23,24,25,26,27,28,29,30,31,32,16,17,4],[0,1],[],[]⟩
 JL:=adp
 JE:=adg
 XL:=adH
 XE:=ady
 q:=fun j=>match j with | _=> .exit 0
 tags:= [0]
 lt:=zM
 fuel:=fun(y0,y1,y2,y3)=>y0.natAbs + y1.length + y2.natAbs + y3.natAbs
 fix:=fun(_,y1,y2,_) (y0,_,_,y3)=>(y0,y1,y2,y3)
 σ:= [(0,0),(1,320)]
 rd:=Lv
theorem aa2:LoopOk prog (fun k=>Nat.blt k Tryz.f42.ntmps) nO.F (bV f42 0):=by
 refine Lp.ok (tbl:= []) (lf:= []) bG nO (by kernel_rfl) (LOk.nil _) (fun _=>rfl) (fun _ _=>rfl) ?_ ?_ ?_ ?_ (fun _=>rfl) ?_
 ·rintro⟨y0,y1,y2,y3⟩;kernel_rfl
 ·rintro⟨y0,y1,y2,y3⟩;kernel_rfl
 ·intro s x h
  have h:Lv s=some x:=h
  unfold Lv at h
  repeat' split at h
  all_goals cases h
  constructor<;>repeat(first|refine ab (by assumption) rfl ?_|refine aa rfl (by assumption) rfl ?_|exact rfl)
 ·rintro⟨y0,y1,y2,y3⟩;kernel_rfl
 ·rintro⟨y0,y1,y2,y3⟩ z;exact(And.intro rfl trivial)
section
variable (x0:List Int)
def FO:Int×List Int×Int×Int:=((0:Int),x0,(0:Int),(52021:Int))
def Iv:Int:=(Lp.res nO (FO x0)).2.2.2.2
def Nq:Bool:=allT [Lp.fin nO (FO x0)]
end
def ZS:List SV→List Entry→Option Out
 | [.one ⟨false,[.ref 0]⟩],[.row false 5 (.int .u8) x0]=>some ⟨.one ⟨false,[.ptr 1 0]⟩,[.row false 5 ake x0],[.box 113 [.ref 0,.val (.int .i64 0),.val (.int .i64 (Iv x0))]],[Nq x0]⟩
 |_,_=>none
def ai5:PF prog:=PF.ofG prog [] [nO.F] bG 42 f42 func42 (LOk.fnT (l:= [bV f42 0]) (by kernel_rfl) (.cons aa2 (.nil _))) ZS (by
 intro vs es r h;unfold ZS at h;split at h
 ·cases h;kernel_rfl
 ·cases h)
section
variable (x0 x1 x2:Int)(x3:List Int)
def Bm:Int:=v9 .i64 (x1 + (1:Int))
def FP:Bool:=bif leI x0 256 then Int.tmod (Bm x1) 2==0 else false
def Bn:Int:=v9 .i64 (Bm x1 - (1:Int))
def uL:Int:=Int.tmod (v9 .i64 (v9 .i64 (x2 * (48271:Int)) + (29:Int))) 2147483647
def kw:Int:=bif leI x0 1 then(0:Int)else Int.tmod (bif ltI x1 (↑x3.length:Int)then bif FP x0 x1 then v9 .i64 (v8 x3[v6 (Bn x1)]? 0)else v9 .i64 (v9 .i64 (Int.tdiv (uL x2) 31) + v9 .i64 (v8 x3[v6 x1]? 0))else v9 .i64 (Int.tdiv (uL x2) 31)) x0
def zX:Int:=bif leI x0 1 then x1 else bif ltI x1 (↑x3.length:Int)then Bm x1 else x1
def zY:Int:=bif leI x0 1 then x2 else bif ltI x1 (↑x3.length:Int)then uL x2 else uL x2
def zZ:Bool:=allT [leI x0 1||neI 2147483647 0,leI x0 1||neI 31 0,leI x0 1||(!ltI x1 (↑x3.length:Int)||leI 0 x1),leI x0 1||(!ltI x1 (↑x3.length:Int)||ltI x1 (↑x3.length:Int)),leI x0 1||(!ltI x1 (↑x3.length:Int)||ltN x1.toNat x3.length),leI x0 1||(!ltI x1 (↑x3.length:Int)||(!(leI x0 256&&true)||neI 2 0)),leI x0 1||(!ltI x1 (↑x3.length:Int)||(!FP x0 x1||leI 0 (Bn x1))),leI x0 1||(!ltI x1 (↑x3.length:Int)||(!FP x0 x1||ltI (Bn x1) (↑x3.length:Int))),leI x0 1||(!ltI x1 (↑x3.length:Int)||(!FP x0 x1||ltN (v6 (Bn x1)) x3.length)),leI x0 1||neI x0 0]
end
def ZT:List SV→List Entry→Option Out
 | [.one ⟨false,[.ptr 0 0]⟩,.one ⟨false,[.val (.int .i64 x0)]⟩],[.box 113 [.ref 1,.val (.int .i64 x1),.val (.int .i64 x2)],.row false 5 (.int .u8) x3]=>some ⟨.one ⟨false,[.val (.int .i64 (kw x0 x1 x2 x3))]⟩,[.box 113 [.ref 1,.val (.int .i64 (zX x0 x1 x3)),.val (.int .i64 (zY x0 x1 x2 x3))],.row false 5 ake x3],[],[zZ x0 x1 x3]⟩
 |_,_=>none
def MZ:PF prog:=PF.ofG prog [] [] bG 78 f78 func78 (fun c _=>LOk.nil c) ZT (by
 intro vs es r h;unfold ZT at h;split at h
 ·cases h;kernel_rfl
 ·cases h)
section
variable (x0 x1:Int)(x2 x3:List Int)
def Nr:Int:=v8 x2[v6 (kw (↑x2.length:Int) x0 x1 x3)]? 0
def Ti:Int:=zX (↑x2.length:Int) x0 x3
def Tj:Int:=zY (↑x2.length:Int) x0 x1 x3
def Ns:Bool:=allT [zZ (↑x2.length:Int) x0 x3,leI 0 (kw (↑x2.length:Int) x0 x1 x3),ltI (kw (↑x2.length:Int) x0 x1 x3) (↑x2.length:Int),ltN (v6 (kw (↑x2.length:Int) x0 x1 x3)) x2.length]
end
def ZU:List SV→List Entry→Option Out
 | [.one ⟨false,[.ptr 0 0]⟩,.one ⟨false,[.ref 1]⟩],[.box 113 [.ref 2,.val (.int .i64 x0),.val (.int .i64 x1)],.row false 2 (.int .i64) x2,.row false 5 (.int .u8) x3]=>some ⟨.one ⟨false,[.val (.int .i64 (Nr x0 x1 x2 x3))]⟩,[.box 113 [.ref 2,.val (.int .i64 (Ti x0 x2 x3)),.val (.int .i64 (Tj x0 x1 x2 x3))],.row false 2 akd x2,.row false 5 ake x3],[],[Ns x0 x1 x2 x3]⟩
 |_,_=>none
def ai6:PF prog:=PF.ofG prog (T3z [MZ]) [] bG 83 f83 func83 (fun c _=>LOk.nil c) ZU (by
 intro vs es r h;unfold ZU at h;split at h
 ·cases h;kernel_rfl
 ·cases h)
def aT(a s:Int)(c:List Int):Bool:=(leI 0 a&&leI a 4096)&&((leI 0 s&&ltI s 2147483647)&&(leN c.length 4096&&c.all fun x=>inR x 0 255))
theorem ab1{a s:Int}{c:List Int}:aT a s c=true↔(0≤a∧a≤4096)∧(0≤s∧s < 2147483647)∧c.length≤4096∧ ∀ x∈c,0≤x∧x≤255:=by
 simp only [aT,q9,AE,GX,iv,List.all_eq_true,tE]
theorem Xt{x n:Int}(h:0≤x)(hn:0 < n):0≤Int.tmod x n∧Int.tmod x n < n:=by
 rw [Int.tmod_eq_emod_of_nonneg h]
 exact⟨Int.emod_nonneg _ (by omega),Int.emod_lt_of_pos _ hn⟩
theorem apo{code:List Int}(hb: ∀ x∈code,0≤x∧x≤255)(i:Nat):0≤(code[i]?.getD 0)∧(code[i]?.getD 0)≤255:=by
 cases h:code[i]? with
 |none=>simp
 |some x=>exact hb x (List.mem_of_getElem? h)
def nxV(n a s:Int)(c:List Int):Int:=kw n a s c
def nxA(n a:Int)(c:List Int):Int:=zX n a c
def nxS(n a s:Int)(c:List Int):Int:=zY n a s c
theorem afF(n:Int){a s:Int}{code:List Int}(h:aT a s code=true):
  zZ n a code=true∧aT (nxA n a code) (nxS n a s code) code=true∧0≤nxV n a s code∧(1≤n→nxV n a s code < n):=by
 obtain⟨⟨h0,h1⟩,⟨s0,s1⟩,hn,hb⟩:=ab1.1 h
 have hw1:IntKind.i64.wrap (s * 48271)=s * 48271:=aJ (by omega) (by omega)
 have hw2:IntKind.i64.wrap (s * 48271 + 29)=s * 48271 + 29:=aJ (by omega) (by omega)
 have hw3:IntKind.i64.wrap (a + 1)=a + 1:=aJ (by omega) (by omega)
 have hw4:IntKind.i64.wrap (a + 1 - 1)=a:=by rw [aJ (by omega) (by omega)];omega
 obtain⟨t0,t1⟩:=Xt (x:=s * 48271 + 29) (n:=2147483647) (by omega) (by omega)
 have hd0:0≤Int.tdiv (Int.tmod (s * 48271 + 29) 2147483647) 31:=Int.tdiv_nonneg t0 (by omega)
 have hd1:Int.tdiv (Int.tmod (s * 48271 + 29) 2147483647) 31≤2147483647:=by
  rw [Int.tdiv_eq_ediv_of_nonneg t0];omega
 have hw7:IntKind.i64.wrap (Int.tdiv (Int.tmod (s * 48271 + 29) 2147483647) 31)=Int.tdiv (Int.tmod (s * 48271 + 29) 2147483647) 31:=aJ (by omega) (by omega)
 have q1:neI 2147483647 0=true:=by decide
 have q2:neI 31 0=true:=by decide
 have q3:neI 2 0=true:=by decide
 simp only [nxA,nxS,nxV]
 by_cases hq:n≤1
 ·have d:leI n 1=true:=bu hq
  refine⟨by simp [zZ,allT,d],?_,by simp [kw,d],fun h=>by simp [kw,d];omega⟩
  simp only [zX,zY,d,cond_true]
  exact h
 ·have d:leI n 1=false:=YU (by omega)
  have q4:neI n 0=true:=arN (by omega)
  by_cases hl:a < (code.length:Int)
  ·have dl:ltI a (code.length:Int)=true:=cS hl
   obtain⟨c0,c1⟩:=apo hb a.toNat
   have hw5:IntKind.i64.wrap (code[a.toNat]?.getD 0)=code[a.toNat]?.getD 0:=aJ (by omega) (by omega)
   have hw6:IntKind.i64.wrap (Int.tdiv (Int.tmod (s * 48271 + 29) 2147483647) 31 + code[a.toNat]?.getD 0)=Int.tdiv (Int.tmod (s * 48271 + 29) 2147483647) 31 + code[a.toNat]?.getD 0:=aJ (by omega) (by omega)
   have dn:ltN a.toNat code.length=true:=dI (by omega)
   have dz:leI 0 a=true:=bu h0
   have hwa:IntKind.i64.wrap a=a:=aJ (by omega) (by omega)
   refine⟨?_,?_,?_⟩
   ·simp [zZ,Bm,Bn,allT,d,dl,dn,hw3,hw4,hwa,dz,q1,q2,q3,q4]
   ·simp only [zX,zY,Bm,uL,d,dl,cond_true,cond_false,hw1,hw2,hw3]
    exact ab1.2 ⟨⟨by omega,by omega⟩,⟨t0,t1⟩,hn,hb⟩
   ·simp only [kw,FP,Bn,Bm,uL,d,dl,cond_true,cond_false,hw1,hw2,hw3,hw4,hw5,hw7,hw6]
    cases (bif leI n 256 then Int.tmod (a + 1) 2==0 else false)with
    |true=>
     obtain⟨m0,m1⟩:=Xt (x:=code[a.toNat]?.getD 0) (n:=n) c0 (by omega)
     exact⟨m0,fun _=>m1⟩
    |false=>
     obtain⟨m0,m1⟩:=Xt (x:=Int.tdiv (Int.tmod (s * 48271 + 29) 2147483647) 31 + code[a.toNat]?.getD 0) (n:=n) (by omega) (by omega)
     exact⟨m0,fun _=>m1⟩
  ·have dl:ltI a (code.length:Int)=false:=wO (by omega)
   refine⟨?_,?_,?_⟩
   ·simp [zZ,allT,d,dl,q1,q2,q4]
   ·simp only [zX,zY,uL,d,dl,cond_false,hw1,hw2]
    exact ab1.2 ⟨⟨h0,h1⟩,⟨t0,t1⟩,hn,hb⟩
   ·simp only [kw,uL,d,dl,cond_false,hw1,hw2,hw7]
    obtain⟨m0,m1⟩:=Xt (x:=Int.tdiv (Int.tmod (s * 48271 + 29) 2147483647) 31) (n:=n) hd0 (by omega)
    exact⟨m0,fun _=>m1⟩
theorem ahN(x0 x1 x2:Int)(x3:List Int)(h:aT x1 x2 x3=true):kw x0 x1 x2 x3=nxV x0 x1 x2 x3∧zX x0 x1 x3=nxA x0 x1 x3∧zY x0 x1 x2 x3=nxS x0 x1 x2 x3∧zZ x0 x1 x3=true:=⟨rfl,rfl,rfl,(afF x0 h).1⟩
def aax:List SV→List Entry→Option Out
 | [.one ⟨false,[.ptr 0 0]⟩,.one ⟨false,[.val (.int .i64 x0)]⟩],[.box 113 [.ref 1,.val (.int .i64 x1),.val (.int .i64 x2)],.row false 5 (.int .u8) x3]=>some ⟨.one ⟨false,[.val (.int .i64 (nxV x0 x1 x2 x3))]⟩,[.box 113 [.ref 1,.val (.int .i64 (nxA x0 x1 x3)),.val (.int .i64 (nxS x0 x1 x2 x3))],.row false 5 ake x3],[],[aT x1 x2 x3]⟩
 |_,_=>none
def ao:PF prog:=PF.alt MZ aax (by
 intro args es o h cf;unfold aax at h;split at h
 ·rename_i x0 x1 x2 x3
  cases h
  have cf:=iw cf
  have hh:=ahN x0 x1 x2 x3 cf
  obtain⟨e0,e1,e2,en⟩:=hh
  exact mK rfl (gE en) (by simp only [e0] <;> rfl) (by simp only [e1,e2] <;> rfl) rfl
 ·cases h)
def pkV(a s:Int)(l c:List Int):Int:=Nr a s l c
def pkA(a:Int)(l c:List Int):Int:=Ti a l c
def pkS(a s:Int)(l c:List Int):Int:=Tj a s l c
theorem alc{a s:Int}{l code:List Int}(h:(aT a s code&&leN 1 l.length)=true):
  Ns a s l code=true∧aT (pkA a l code) (pkS a s l code) code=true∧pkV a s l code∈l:=by
 simp only [q9,iv]at h
 obtain⟨n3,n1,n0,nl⟩:=afF (l.length:Int) h.1
 have nl:=nl (by omega)
 simp only [nxV]at n0 nl
 refine⟨?_,n1,?_⟩
 ·have t1:leI 0 (kw (l.length:Int) a s code)=true:=bu n0
  have t2:ltI (kw (l.length:Int) a s code) (l.length:Int)=true:=cS nl
  have t3:ltN (kw (l.length:Int) a s code).toNat l.length=true:=dI (by omega)
  simp only [Ns,allT,n3,t1,t2,t3,cond_true]
 ·have eQ:(kw (l.length:Int) a s code).toNat < l.length:=by omega
  simp only [pkV,Nr,List.getElem?_eq_getElem eQ,Option.getD_some]
  exact List.getElem_mem eQ
theorem ahO(x0 x1:Int)(x2 x3:List Int)(h:(aT x0 x1 x3&&leN 1 x2.length)=true):Nr x0 x1 x2 x3=pkV x0 x1 x2 x3∧Ti x0 x2 x3=pkA x0 x2 x3∧Tj x0 x1 x2 x3=pkS x0 x1 x2 x3∧Ns x0 x1 x2 x3=true:=⟨rfl,rfl,rfl,(alc h).1⟩
def aay:List SV→List Entry→Option Out
 | [.one ⟨false,[.ptr 0 0]⟩,.one ⟨false,[.ref 1]⟩],[.box 113 [.ref 2,.val (.int .i64 x0),.val (.int .i64 x1)],.row false 2 (.int .i64) x2,.row false 5 (.int .u8) x3]=>some ⟨.one ⟨false,[.val (.int .i64 (pkV x0 x1 x2 x3))]⟩,[.box 113 [.ref 2,.val (.int .i64 (pkA x0 x2 x3)),.val (.int .i64 (pkS x0 x1 x2 x3))],.row false 2 akd x2,.row false 5 ake x3],[],[aT x0 x1 x3&&leN 1 x2.length]⟩
 |_,_=>none
def aW:PF prog:=PF.alt ai6 aay (by
 intro args es o h cf;unfold aay at h;split at h
 ·rename_i x0 x1 x2 x3
  cases h
  have cf:=iw cf
  have hh:=ahO x0 x1 x2 x3 cf
  obtain⟨e0,e1,e2,en⟩:=hh
  exact mK rfl (gE en) (by simp only [e0] <;> rfl) (by simp only [e1,e2] <;> rfl) rfl
 ·cases h)
def aoQ(b:Int)(a:Nat×Int):Nat ⊕ (Nat×Int):=bif decide (a.1 < 64)then .inr (a.1 + 1,Int.tmod (a.2 * 59 + b) 2147483647)else .inl 0
def frS(c:List Int):Int:=Iv c
theorem akQ(code:List Int)(h:aT 0 0 code=true):Nq code=true∧aT 0 (frS code) code=true:=by
 obtain⟨_,_,hn,hb⟩:=ab1.1 h
 have my:=abX (lt:=zM) (fun i (a:Nat×Int)=>((i:Int),code,(0:Int),a.2)) aoQ 0 (fun i a=>a.1=i∧0≤a.2∧a.2 < 2147483647) code (fun i b a he hI=>⟨?_,fun a' hf=> ?_⟩) (fun a hI=> ?_) code 0 (0,52021) rfl (by simp) (by decide)
 ·have hres:=nO.run my (ad4 (by simp only [nO];omega))
  have r1:nO.fin ((0:Int),code,(0:Int),(52021:Int))=true:=hres.1
  have r2:nO.res ((0:Int),code,(0:Int),(52021:Int))=_:=hres.2
  have inv: ∀ (r:List Int) (i:Nat) (a:Nat×Int),(∀ x∈r,0≤x∧x≤255)→0≤a.2∧a.2 < 2147483647→0≤(cX aoQ 0 r i a).2.2.2∧(cX aoQ 0 r i a).2.2.2 < 2147483647:=by
   intro r
   induction r with
   |nil=>intro i a _ h;exact h
   |cons b r ih=>
    intro i a hx h
    simp only [cX,aoQ]
    cases decide (a.1 < 64)with
    |false=>exact h
    |true=>
     have hb:=hx b (by simp)
     exact ih _ _ (fun x hm=>hx x (by simp [hm])) (Xt (by omega) (by omega))
  obtain⟨q0,q1⟩:=inv code 0 (0,52021) hb (by decide)
  refine⟨by simp [Nq,FO,allT,r1],ab1.2 ⟨by decide,⟨?_,?_⟩,hn,hb⟩⟩
  ·simp only [frS,Iv,FO,r2];exact q0
  ·simp only [frS,Iv,FO,r2];exact q1
 ·obtain⟨eQ,he⟩:=v5.1 he
  subst he
  obtain⟨h1,h2,h3⟩:=hI
  have hw:=IG eQ (by omega)
  obtain⟨c0,c1⟩:=hb code[i] (List.getElem_mem eQ)
  have hw1:IntKind.i64.wrap (a.2 * 59)=a.2 * 59:=aJ (by omega) (by omega)
  have hw2:IntKind.i64.wrap code[i]=code[i]:=aJ (by omega) (by omega)
  have hw3:IntKind.i64.wrap (a.2 * 59 + code[i])=a.2 * 59 + code[i]:=aJ (by omega) (by omega)
  have q1:neI 2147483647 0=true:=by decide
  have q2:ltI (i:Int) (code.length:Int)=true:=cS (by omega)
  have q3:leI 0 (i:Int)=true:=bu (by omega)
  have q4:ltN i code.length=true:=dI eQ
  simp only [aoQ,h1]
  by_cases h64:i < 64
  ·have d:decide (i < 64)=true:=decide_eq_true h64
   have d':ltI (i:Int) 64=true:=cS (by omega)
   simp [zM,LT.out,allT,Hb,UG,UH,UI,UJ,UK,UL,eQ,hw,d,d',hw1,hw2,hw3,q1,q2,q3,q4]
  ·have d:decide (i < 64)=false:=decide_eq_false h64
   have d':ltI (i:Int) 64=false:=wO (by omega)
   simp [zM,LT.out,Hb,d,d']
 ·simp only [aoQ]at hf
  obtain⟨h1,h2,h3⟩:=hI
  obtain⟨c0,c1⟩:=hb b (List.mem_of_getElem? he)
  cases hd:decide (a.1 < 64)with
  |false=>rw [hd]at hf;cases hf
  |true=>
   rw [hd]at hf
   simp only [cond_true,Sum.inr.injEq]at hf
   subst hf
   obtain⟨m0,m1⟩:=Xt (x:=a.2 * 59 + b) (n:=2147483647) (by omega) (by omega)
   exact⟨by simp [h1],m0,m1⟩
 ·simp [zM,LT.out,Hb]
theorem ahM(x0:List Int)(h:aT 0 0 x0=true):Iv x0=frS x0∧Nq x0=true:=⟨rfl,(akQ x0 h).1⟩
def aaw:List SV→List Entry→Option Out
 | [.one ⟨false,[.ref 0]⟩],[.row false 5 (.int .u8) x0]=>some ⟨.one ⟨false,[.ptr 1 0]⟩,[.row false 5 ake x0],[.box 113 [.ref 0,.val (.int .i64 0),.val (.int .i64 (frS x0))]],[aT 0 0 x0]⟩
 |_,_=>none
def SJ:PF prog:=PF.alt ai5 aaw (by
 intro args es o h cf;unfold aaw at h;split at h
 ·rename_i x0
  cases h
  have cf:=iw cf
  have hh:=ahM x0 cf
  obtain⟨e0,en⟩:=hh
  exact mK rfl (gE en) rfl rfl (by simp only [e0] <;> rfl)
 ·cases h)
def PF.never{P:Program}(k:FuncId)(F:List SV→List Entry→Option Out)(h: ∀ args es o,F args es=some o→false∈o.nd):PF P where
 k:=k
 F:=F
 ok:=fun args es o ho cf=>absurd (cf _ (h args es o ho)) (by simp)
def Qy:List SV→List Entry→Option Out
 | [.one ⟨false,[.ptr 0 0]⟩,.one ⟨false,[.ref 1]⟩,.one ⟨false,[.val (.int .i64 _)]⟩],[.box 113 [.ref 2,.val (.int .i64 x1),.val (.int .i64 x2)],.row false 9 (.str) x3,.row false 5 (.int .u8) x4]=>
  some ⟨.one ⟨false,[.ref 3]⟩,[.box 113 [.ref 2,.val (.int .i64 x1),.val (.int .i64 x2)],.row false 9 (.str) x3,.row false 5 (.int .u8) x4],[.row true 122 (.pair (.int .i64) (.pair (.str) (.int .i64))) []],[false]⟩
 |_,_=>none
def Ih:PF prog:=PF.never 126 Qy (by
 intro args es o h;unfold Qy at h;split at h
 ·cases h;exact qqz.2 rfl
 ·cases h)
section
variable (x0 x1 x2:Int)(x3:List alV)(x4:List Int)
def bS:Bool:=bif x0==0 then true else nxV 4 x1 x2 x4==0
def AG:Bool:= !x0==0&&true
def dR:Int:=bif AG x0 then nxA 4 x1 x4 else x1
def oN:Int:=bif AG x0 then nxS 4 x1 x2 x4 else x2
def OD:Int:=nxV 12 (dR x0 x1 x4) (oN x0 x1 x2 x4) x4
def kD:Bool:=OD x0 x1 x2 x4==0
def kE:Bool:=OD x0 x1 x2 x4==1
def kF:Int:=pkV (dR x0 x1 x4) (oN x0 x1 x2 x4) [(4:Int),(5:Int),(6:Int),(5:Int),(6:Int),(7:Int),(8:Int),(9:Int),(10:Int),(11:Int),(12:Int)] x4
def eT:Bool:=ec (kF x0 x1 x2 x4)==2
def vo:Int:=pkA (dR x0 x1 x4) [(4:Int),(5:Int),(6:Int),(5:Int),(6:Int),(7:Int),(8:Int),(9:Int),(10:Int),(11:Int),(12:Int)] x4
def Nu:Int:=bif ay (kF x0 x1 x2 x4)then nxA 4 (vo x0 x1 x4) x4 else vo x0 x1 x4
def qd:Int:=nxS 12 (dR x0 x1 x4) (oN x0 x1 x2 x4) x4
def yS:Int:=pkS (dR x0 x1 x4) (oN x0 x1 x2 x4) [(4:Int),(5:Int),(6:Int),(5:Int),(6:Int),(7:Int),(8:Int),(9:Int),(10:Int),(11:Int),(12:Int)] x4
def Nv:Int:=bif ay (kF x0 x1 x2 x4)then nxS 4 (vo x0 x1 x4) (yS x0 x1 x2 x4) x4 else yS x0 x1 x2 x4
def tW:Int:=nxV (↑x3.length:Int) (nxA 12 (dR x0 x1 x4) x4) (qd x0 x1 x2 x4) x4
def yT:List (Int×alV×Int):= [(bif ay (kF x0 x1 x2 x4)then kF x0 x1 x2 x4 else kF x0 x1 x2 x4,bif ay (kF x0 x1 x2 x4)then ByteArray.mk #[]else ByteArray.mk #[],bif ay (kF x0 x1 x2 x4)then nxV 4 (vo x0 x1 x4) (yS x0 x1 x2 x4) x4 else(0:Int))]
def Nw:Bool:= !ay (kF x0 x1 x2 x4)||aT (vo x0 x1 x4) (yS x0 x1 x2 x4) x4
def Nx:Bool:=leN (0 + v7 (yT x0 x1 x2 x4)) 9223372036854775807
def Ny:Bool:=leN ((0 + v7 (yT x0 x1 x2 x4)) * 32) 140737488355328
def sK:Int:=bif bS x0 x1 x2 x4 then bif kD x0 x1 x2 x4 then nxA 12 (dR x0 x1 x4) x4 else bif kE x0 x1 x2 x4 then nxA 12 (dR x0 x1 x4) x4 else nxA (↑x3.length:Int) (nxA 12 (dR x0 x1 x4) x4) x4 else bif eT x0 x1 x2 x4 then Nu x0 x1 x2 x4 else Nu x0 x1 x2 x4
def sL:Int:=bif bS x0 x1 x2 x4 then bif kD x0 x1 x2 x4 then qd x0 x1 x2 x4 else bif kE x0 x1 x2 x4 then qd x0 x1 x2 x4 else nxS (↑x3.length:Int) (nxA 12 (dR x0 x1 x4) x4) (qd x0 x1 x2 x4) x4 else bif eT x0 x1 x2 x4 then Nv x0 x1 x2 x4 else Nv x0 x1 x2 x4
def sM:List (Int×(alV×Int)):=bif bS x0 x1 x2 x4 then bif kD x0 x1 x2 x4 then [((2:Int),ByteArray.mk #[],(0:Int))]else bif kE x0 x1 x2 x4 then [((3:Int),ByteArray.mk #[],(0:Int))]else [((1:Int),v8 x3[v6 (tW x0 x1 x2 x3 x4)]? ByteArray.empty,(0:Int))]else bif eT x0 x1 x2 x4 then yT x0 x1 x2 x4 else yT x0 x1 x2 x4
def Iw:Bool:=allT [!AG x0||aT x1 x2 x4,!bS x0 x1 x2 x4||aT (dR x0 x1 x4) (oN x0 x1 x2 x4) x4,!bS x0 x1 x2 x4||(kD x0 x1 x2 x4||(kE x0 x1 x2 x4||aT (nxA 12 (dR x0 x1 x4) x4) (qd x0 x1 x2 x4) x4)),!bS x0 x1 x2 x4||(kD x0 x1 x2 x4||(kE x0 x1 x2 x4||leI 0 (tW x0 x1 x2 x3 x4))),!bS x0 x1 x2 x4||(kD x0 x1 x2 x4||(kE x0 x1 x2 x4||ltI (tW x0 x1 x2 x3 x4) (↑x3.length:Int))),!bS x0 x1 x2 x4||(kD x0 x1 x2 x4||(kE x0 x1 x2 x4||ltN (v6 (tW x0 x1 x2 x3 x4)) x3.length)),bS x0 x1 x2 x4||aT (dR x0 x1 x4) (oN x0 x1 x2 x4) x4&&leN 1 (v7 [(4:Int),(5:Int),(6:Int),(5:Int),(6:Int),(7:Int),(8:Int),(9:Int),(10:Int),(11:Int),(12:Int)]),bS x0 x1 x2 x4||false,bS x0 x1 x2 x4||(!eT x0 x1 x2 x4||false),bS x0 x1 x2 x4||(!eT x0 x1 x2 x4||leN (0 + 0) 9223372036854775807),bS x0 x1 x2 x4||(!eT x0 x1 x2 x4||leN ((0 + 0) * 32) 140737488355328),bS x0 x1 x2 x4||(!eT x0 x1 x2 x4||Nw x0 x1 x2 x4),bS x0 x1 x2 x4||(!eT x0 x1 x2 x4||Nx x0 x1 x2 x4),bS x0 x1 x2 x4||(!eT x0 x1 x2 x4||Ny x0 x1 x2 x4),bS x0 x1 x2 x4||(eT x0 x1 x2 x4||Nw x0 x1 x2 x4),bS x0 x1 x2 x4||(eT x0 x1 x2 x4||Nx x0 x1 x2 x4),bS x0 x1 x2 x4||(eT x0 x1 x2 x4||Ny x0 x1 x2 x4)]
end
def Qv:List SV→List Entry→Option Out
 | [.one ⟨false,[.ptr 0 0]⟩,.one ⟨false,[.ref 1]⟩,.one ⟨false,[.val (.int .i64 x0)]⟩],[.box 113 [.ref 2,.val (.int .i64 x1),.val (.int .i64 x2)],.row false 9 (.str) x3,.row false 5 (.int .u8) x4]=>some ⟨.one ⟨false,[.ref 3]⟩,[.box 113 [.ref 2,.val (.int .i64 (sK x0 x1 x2 x3 x4)),.val (.int .i64 (sL x0 x1 x2 x3 x4))],.row false 9 alu x3,.row false 5 ake x4],[.row true 122 afs (sM x0 x1 x2 x3 x4)],[Iw x0 x1 x2 x3 x4]⟩
 |_,_=>none
def abp:PF prog:=PF.ofG prog (T3z [ao,aW,nX,DE,Ih]) [] bG 126 f126 func126 (fun c _=>LOk.nil c) Qv (by
 intro vs es r h;unfold Qv at h;split at h
 ·cases h;kernel_rfl
 ·cases h)
def amf(ns:List alV):Bool:=leN 1 ns.length&&(leN ns.length 1000&&ns.all fun s=>leN s.size 1000)
def dtN(k d a s:Int)(ns:List alV)(c:List Int):Bool:=(leI 0 d&&leI d k)&&(aT a s c&&amf ns)
def dtL(n:Nat)(ts:List TM):Prop:=1≤ts.length∧ts.length≤n∧ ∀ t∈ts,t.2.1.size≤1000
theorem MO{k d a s:Int}{ns:List alV}{c:List Int}:dtN k d a s ns c=true↔(0≤d∧d≤k)∧aT a s c=true∧amf ns=true:=by
 simp only [dtN,q9,AE]
theorem Xh{ns:List alV}:amf ns=true↔1≤ns.length∧ns.length≤1000∧ ∀ s∈ns,s.size≤1000:=by
 simp only [amf,q9,iv,List.all_eq_true]
theorem kz{n a s:Int}{c:List Int}(h:aT a s c=true):aT (nxA n a c) (nxS n a s c) c=true:=(afF n h).2.1
theorem Ot{a s x:Int}{l c:List Int}(h:aT a s c=true):aT (pkA a (x::l) c) (pkS a s (x::l) c) c=true:=(alc (l:=x::l) (by rw [h];rfl)).2.1
theorem aea{C:Type}(x:C)(l:List C):leN 1 (x::l).length=true:=aR (by simp)
theorem OB{n a s:Int}{c:List Int}(h:aT a s c=true)(hn:1≤n):0≤nxV n a s c∧nxV n a s c < n:=⟨(afF n h).2.2.1,(afF n h).2.2.2 hn⟩
theorem pk{t:Bool}{a a' s s':Int}{c:List Int}(h:aT a s c=true)(h':aT a' s' c=true):aT (bif t then a else a') (bif t then s else s') c=true:=by cases t <;> assumption
theorem ak8{ns:List alV}{i:Int}(hn:amf ns=true)(d:alV)(h0:0≤i)(h1:i < ns.length):(v8 ns[i.toNat]? d).size≤1000:=by
 have eQ:i.toNat < ns.length:=by omega
 rw [List.getElem?_eq_getElem eQ]
 exact(Xh.1 hn).2.2 _ (List.getElem_mem eQ)
theorem am9(d a s:Int)(ns:List alV)(c:List Int)(h:dtN 0 d a s ns c=true):
  Iw d a s ns c=true∧aT (sK d a s ns c) (sL d a s ns c) c=true∧dtL 1 (sM d a s ns c):=by
 obtain⟨⟨h0,h1⟩,hs,hn⟩:=MO.1 h
 have hd:d=0:=by omega
 subst hd
 obtain⟨n1,n2,n3⟩:=Xh.1 hn
 have a0:bS 0 a s c=true:=rfl
 have a1:AG 0=false:=rfl
 have a2:dR 0 a c=a:=rfl
 have a3:oN 0 a s c=s:=rfl
 have a11:qd 0 a s c=nxS 12 a s c:=rfl
 have hs2:aT (nxA 12 a c) (nxS 12 a s c) c=true:=kz hs
 have a14:tW 0 a s ns c=nxV (ns.length:Int) (nxA 12 a c) (nxS 12 a s c) c:=rfl
 obtain⟨i0,i1⟩:=OB (n:=(ns.length:Int)) hs2 (by omega)
 have j0:=bu i0
 have j1:=cS i1
 have j2:ltN (nxV (ns.length:Int) (nxA 12 a c) (nxS 12 a s c) c).toNat ns.length=true:=dI (by omega)
 refine⟨?_,?_,?_⟩
 ·simp only [Iw,a0,a1,a2,a3,a11,a14,hs,hs2,j0,j1,j2,allT,Bool.true_or,v3,Bool.not_true,Bool.not_false,Bool.false_or,cond_true]
  all_goals simp
 ·simp only [sK,sL,a0,a2,a11,cond_true]
  cases kD 0 a s c
  ·cases kE 0 a s c
   ·exact kz hs2
   ·exact hs2
  ·exact hs2
 ·simp only [sM,a0,a14,cond_true]
  cases kD 0 a s c
  ·cases kE 0 a s c
   ·refine⟨by simp,by simp,fun t ht=> ?_⟩
    rw [cond_false,cond_false,qqz]at ht
    subst ht
    exact ak8 hn _ i0 i1
   ·exact⟨by simp,by simp,fun t ht=>by rw [cond_false,cond_true,qqz]at ht;subst ht;exact Nat.zero_le _⟩
  ·exact⟨by simp,by simp,fun t ht=>by rw [cond_true,qqz]at ht;subst ht;exact Nat.zero_le _⟩
theorem ER{n:Nat}{k m:Int}{s:alV}(h:s.size≤1000):dtL (n + 1) [(k,s,m)]:=
 ⟨by simp,by simp,fun t ht=>by rw [qqz]at ht;subst ht;exact h⟩
theorem RO{n m k:Nat}{a b:List TM}(h1:dtL n a)(h2:dtL m b)(h:n + m≤k):dtL k (a++b):=by
 obtain⟨p1,p2,p3⟩:=h1
 obtain⟨q1,q2,q3⟩:=h2
 refine⟨by rw [w8];omega,by rw [w8];omega,fun t ht=> ?_⟩
 rcases j7.1 ht with h | h
 ·exact p3 t h
 ·exact q3 t h
def QG:List SV→List Entry→Option Out
 | [.one ⟨false,[.ptr 0 0]⟩,.one ⟨false,[.ref 1]⟩,.one ⟨false,[.val (.int .i64 x0)]⟩],[.box 113 [.ref 2,.val (.int .i64 x1),.val (.int .i64 x2)],.row false 9 (.str) x3,.row false 5 (.int .u8) x4]=>some ⟨.one ⟨false,[.ref 3]⟩,[.box 113 [.ref 2,.val (.int .i64 (sK x0 x1 x2 x3 x4)),.val (.int .i64 (sL x0 x1 x2 x3 x4))],.row false 9 alu x3,.row false 5 ake x4],[.row true 122 afs (sM x0 x1 x2 x3 x4)],[dtN 0 x0 x1 x2 x3 x4]⟩
 |_,_=>none
def Ib:PF prog:=PF.alt abp QG (by
 intro args es o h cf;unfold QG at h;split at h
 ·rename_i x0 x1 x2 x3 x4
  cases h
  have cf:=iw cf
  have hh:=(am9 x0 x1 x2 x3 x4 cf).1
  have en:=hh
  exact mK rfl (gE en) rfl rfl rfl
 ·cases h)
section
variable (x0 x1 x2:Int)(x3:List alV)(x4:List Int)
def bT:Bool:=bif x0==0 then true else nxV 4 x1 x2 x4==0
def Gu:Bool:= !x0==0&&true
def dv:Int:=bif Gu x0 then nxA 4 x1 x4 else x1
def oO:Int:=bif Gu x0 then nxS 4 x1 x2 x4 else x2
def OE:Int:=nxV 12 (dv x0 x1 x4) (oO x0 x1 x2 x4) x4
def kG:Bool:=OE x0 x1 x2 x4==0
def kH:Bool:=OE x0 x1 x2 x4==1
def dw:Int:=pkV (dv x0 x1 x4) (oO x0 x1 x2 x4) [(4:Int),(5:Int),(6:Int),(5:Int),(6:Int),(7:Int),(8:Int),(9:Int),(10:Int),(11:Int),(12:Int)] x4
def dS:Bool:=ec (dw x0 x1 x2 x4)==2
def gt:Int:=v9 .i64 (x0 - (1:Int))
def qe:Int:=pkA (dv x0 x1 x4) [(4:Int),(5:Int),(6:Int),(5:Int),(6:Int),(7:Int),(8:Int),(9:Int),(10:Int),(11:Int),(12:Int)] x4
def qf:Int:=pkS (dv x0 x1 x4) (oO x0 x1 x2 x4) [(4:Int),(5:Int),(6:Int),(5:Int),(6:Int),(7:Int),(8:Int),(9:Int),(10:Int),(11:Int),(12:Int)] x4
def fG:Int:=sK (gt x0) (qe x0 x1 x4) (qf x0 x1 x2 x4) x3 x4
def gW:Int:=sL (gt x0) (qe x0 x1 x4) (qf x0 x1 x2 x4) x3 x4
def qg:Int:=sK (gt x0) (fG x0 x1 x2 x3 x4) (gW x0 x1 x2 x3 x4) x3 x4
def qh:Int:=nxS 12 (dv x0 x1 x4) (oO x0 x1 x2 x4) x4
def tX:Int:=sL (gt x0) (fG x0 x1 x2 x3 x4) (gW x0 x1 x2 x3 x4) x3 x4
def nR:Int:=nxV (↑x3.length:Int) (nxA 12 (dv x0 x1 x4) x4) (qh x0 x1 x2 x4) x4
def fH:List (Int×alV×Int):=sM (gt x0) (qe x0 x1 x4) (qf x0 x1 x2 x4) x3 x4
def qi:List (Int×alV×Int):=sM (gt x0) (fG x0 x1 x2 x3 x4) (gW x0 x1 x2 x3 x4) x3 x4
def qj:List (Int×alV×Int):=fH x0 x1 x2 x3 x4++qi x0 x1 x2 x3 x4
def Nz:Int:=bif ay (dw x0 x1 x2 x4)then dw x0 x1 x2 x4 else dw x0 x1 x2 x4
def yU:alV:=bif ay (dw x0 x1 x2 x4)then ByteArray.mk #[]else ByteArray.mk #[]
def qk:List (Int×alV×Int):= [(Nz x0 x1 x2 x4,yU x0 x1 x2 x4,bif ay (dw x0 x1 x2 x4)then nxV 4 (qg x0 x1 x2 x3 x4) (tX x0 x1 x2 x3 x4) x4 else(0:Int))]
def ql:List (Int×alV×Int):= [(Nz x0 x1 x2 x4,yU x0 x1 x2 x4,bif ay (dw x0 x1 x2 x4)then nxV 4 (fG x0 x1 x2 x3 x4) (gW x0 x1 x2 x3 x4) x4 else(0:Int))]
def pF:Int:=bif bT x0 x1 x2 x4 then bif kG x0 x1 x2 x4 then nxA 12 (dv x0 x1 x4) x4 else bif kH x0 x1 x2 x4 then nxA 12 (dv x0 x1 x4) x4 else nxA (↑x3.length:Int) (nxA 12 (dv x0 x1 x4) x4) x4 else bif dS x0 x1 x2 x4 then bif ay (dw x0 x1 x2 x4)then nxA 4 (qg x0 x1 x2 x3 x4) x4 else qg x0 x1 x2 x3 x4 else bif ay (dw x0 x1 x2 x4)then nxA 4 (fG x0 x1 x2 x3 x4) x4 else fG x0 x1 x2 x3 x4
def pG:Int:=bif bT x0 x1 x2 x4 then bif kG x0 x1 x2 x4 then qh x0 x1 x2 x4 else bif kH x0 x1 x2 x4 then qh x0 x1 x2 x4 else nxS (↑x3.length:Int) (nxA 12 (dv x0 x1 x4) x4) (qh x0 x1 x2 x4) x4 else bif dS x0 x1 x2 x4 then bif ay (dw x0 x1 x2 x4)then nxS 4 (qg x0 x1 x2 x3 x4) (tX x0 x1 x2 x3 x4) x4 else tX x0 x1 x2 x3 x4 else bif ay (dw x0 x1 x2 x4)then nxS 4 (fG x0 x1 x2 x3 x4) (gW x0 x1 x2 x3 x4) x4 else gW x0 x1 x2 x3 x4
def pH:List (Int×(alV×Int)):=bif bT x0 x1 x2 x4 then bif kG x0 x1 x2 x4 then [((2:Int),ByteArray.mk #[],(0:Int))]else bif kH x0 x1 x2 x4 then [((3:Int),ByteArray.mk #[],(0:Int))]else [((1:Int),v8 x3[v6 (nR x0 x1 x2 x3 x4)]? ByteArray.empty,(0:Int))]else bif dS x0 x1 x2 x4 then qj x0 x1 x2 x3 x4++qk x0 x1 x2 x3 x4 else fH x0 x1 x2 x3 x4++ql x0 x1 x2 x3 x4
def BK:Bool:=allT [!Gu x0||aT x1 x2 x4,!bT x0 x1 x2 x4||aT (dv x0 x1 x4) (oO x0 x1 x2 x4) x4,!bT x0 x1 x2 x4||(kG x0 x1 x2 x4||(kH x0 x1 x2 x4||aT (nxA 12 (dv x0 x1 x4) x4) (qh x0 x1 x2 x4) x4)),!bT x0 x1 x2 x4||(kG x0 x1 x2 x4||(kH x0 x1 x2 x4||leI 0 (nR x0 x1 x2 x3 x4))),!bT x0 x1 x2 x4||(kG x0 x1 x2 x4||(kH x0 x1 x2 x4||ltI (nR x0 x1 x2 x3 x4) (↑x3.length:Int))),!bT x0 x1 x2 x4||(kG x0 x1 x2 x4||(kH x0 x1 x2 x4||ltN (v6 (nR x0 x1 x2 x3 x4)) x3.length)),bT x0 x1 x2 x4||aT (dv x0 x1 x4) (oO x0 x1 x2 x4) x4&&leN 1 (v7 [(4:Int),(5:Int),(6:Int),(5:Int),(6:Int),(7:Int),(8:Int),(9:Int),(10:Int),(11:Int),(12:Int)]),bT x0 x1 x2 x4||dtN 0 (gt x0) (qe x0 x1 x4) (qf x0 x1 x2 x4) x3 x4,bT x0 x1 x2 x4||(!dS x0 x1 x2 x4||dtN 0 (gt x0) (fG x0 x1 x2 x3 x4) (gW x0 x1 x2 x3 x4) x3 x4),bT x0 x1 x2 x4||(!dS x0 x1 x2 x4||leN (v7 (fH x0 x1 x2 x3 x4) + v7 (qi x0 x1 x2 x3 x4)) 9223372036854775807),bT x0 x1 x2 x4||(!dS x0 x1 x2 x4||leN ((v7 (fH x0 x1 x2 x3 x4) + v7 (qi x0 x1 x2 x3 x4)) * 32) 140737488355328),bT x0 x1 x2 x4||(!dS x0 x1 x2 x4||(!ay (dw x0 x1 x2 x4)||aT (qg x0 x1 x2 x3 x4) (tX x0 x1 x2 x3 x4) x4)),bT x0 x1 x2 x4||(!dS x0 x1 x2 x4||leN (v7 (qj x0 x1 x2 x3 x4) + v7 (qk x0 x1 x2 x3 x4)) 9223372036854775807),bT x0 x1 x2 x4||(!dS x0 x1 x2 x4||leN ((v7 (qj x0 x1 x2 x3 x4) + v7 (qk x0 x1 x2 x3 x4)) * 32) 140737488355328),bT x0 x1 x2 x4||(dS x0 x1 x2 x4||(!ay (dw x0 x1 x2 x4)||aT (fG x0 x1 x2 x3 x4) (gW x0 x1 x2 x3 x4) x4)),bT x0 x1 x2 x4||(dS x0 x1 x2 x4||leN (v7 (fH x0 x1 x2 x3 x4) + v7 (ql x0 x1 x2 x3 x4)) 9223372036854775807),bT x0 x1 x2 x4||(dS x0 x1 x2 x4||leN ((v7 (fH x0 x1 x2 x3 x4) + v7 (ql x0 x1 x2 x3 x4)) * 32) 140737488355328)]
end
def Qw:List SV→List Entry→Option Out
 | [.one ⟨false,[.ptr 0 0]⟩,.one ⟨false,[.ref 1]⟩,.one ⟨false,[.val (.int .i64 x0)]⟩],[.box 113 [.ref 2,.val (.int .i64 x1),.val (.int .i64 x2)],.row false 9 (.str) x3,.row false 5 (.int .u8) x4]=>some ⟨.one ⟨false,[.ref 3]⟩,[.box 113 [.ref 2,.val (.int .i64 (pF x0 x1 x2 x3 x4)),.val (.int .i64 (pG x0 x1 x2 x3 x4))],.row false 9 alu x3,.row false 5 ake x4],[.row true 122 afs (pH x0 x1 x2 x3 x4)],[BK x0 x1 x2 x3 x4]⟩
 |_,_=>none
def abq:PF prog:=PF.ofG prog (T3z [ao,aW,nX,DE,Ib]) [] bG 126 f126 func126 (fun c _=>LOk.nil c) Qw (by
 intro vs es r h;unfold Qw at h;split at h
 ·cases h;kernel_rfl
 ·cases h)
theorem ana(d a s:Int)(ns:List alV)(c:List Int)(h:dtN 1 d a s ns c=true):
  BK d a s ns c=true∧aT (pF d a s ns c) (pG d a s ns c) c=true∧dtL 3 (pH d a s ns c):=by
 obtain⟨⟨h0,h1⟩,hs,hn⟩:=MO.1 h
 obtain⟨n1,n2,n3⟩:=Xh.1 hn
 have s23:aT (dv d a c) (oO d a s c) c=true:=pk (kz hs) hs
 have hs2:aT (nxA 12 (dv d a c) c) (qh d a s c) c=true:=kz s23
 obtain⟨i0,i1⟩:0≤nR d a s ns c∧nR d a s ns c < (ns.length:Int):=OB (n:=(ns.length:Int)) hs2 (by omega)
 have j0:=bu i0
 have j1:=cS i1
 have j2:ltN (nR d a s ns c).toNat ns.length=true:=dI (by omega)
 cases h0:bT d a s c with
 |true=>
  refine⟨?_,?_,?_⟩
  ·simp only [BK,h0,hs,s23,hs2,j0,j1,j2,allT,Bool.true_or,v3,Bool.not_true,Bool.false_or,cond_true]
  ·simp only [pF,pG,h0,cond_true]
   cases kG d a s c
   ·cases kH d a s c
    ·exact kz hs2
    ·exact hs2
   ·exact hs2
  ·simp only [pH,h0,cond_true]
   cases kG d a s c
   ·cases kH d a s c
    ·exact ER (ak8 hn _ i0 i1)
    ·exact ER (Nat.zero_le _)
   ·exact ER (Nat.zero_le _)
 |false=>
  have hd:1≤d:=by
   by_cases hd0:d=0
   ·rw [hd0]at h0;cases h0
   ·omega
  have a9:gt d=d - 1:=aJ (by omega) (by omega)
  have s10:aT (qe d a c) (qf d a s c) c=true:=Ot s23
  have d1:dtN 0 (gt d) (qe d a c) (qf d a s c) ns c=true:=MO.2 ⟨by omega,s10,hn⟩
  obtain⟨_,s12,q18⟩:=am9 _ _ _ ns c d1
  have s12:aT (fG d a s ns c) (gW d a s ns c) c=true:=s12
  have q18:dtL 1 (fH d a s ns c):=q18
  have d2:dtN 0 (gt d) (fG d a s ns c) (gW d a s ns c) ns c=true:=MO.2 ⟨by omega,s12,hn⟩
  obtain⟨_,s14,q19⟩:=am9 _ _ _ ns c d2
  have s14:aT (qg d a s ns c) (tX d a s ns c) c=true:=s14
  have q19:dtL 1 (qi d a s ns c):=q19
  have q23:dtL 1 (qk d a s ns c):=ER (by simp only [yU];cases ay (dw d a s c) <;> exact Nat.zero_le _)
  have q24:dtL 1 (ql d a s ns c):=ER (by simp only [yU];cases ay (dw d a s c) <;> exact Nat.zero_le _)
  have q20:dtL 2 (qj d a s ns c):=RO q18 q19 (by omega)
  have l18:=q18.2.1
  have l19:=q19.2.1
  have l20:=q20.2.1
  have l23:=q23.2.1
  have l24:=q24.2.1
  have p10:leN 1 (v7 [(4:Int),5,6,5,6,7,8,9,10,11,12])=true:=rfl
  refine⟨?_,?_,?_⟩
  ·simp only [BK,h0,hs,s23,s10,d1,d2,s12,s14,p10,aR (show (fH d a s ns c).length + (qi d a s ns c).length≤9223372036854775807 by omega),aR (show ((fH d a s ns c).length + (qi d a s ns c).length) * 32≤140737488355328 by omega),
    aR (show (qj d a s ns c).length + (qk d a s ns c).length≤9223372036854775807 by omega),aR (show ((qj d a s ns c).length + (qk d a s ns c).length) * 32≤140737488355328 by omega),
    aR (show (fH d a s ns c).length + (ql d a s ns c).length≤9223372036854775807 by omega),aR (show ((fH d a s ns c).length + (ql d a s ns c).length) * 32≤140737488355328 by omega),
    allT,Bool.true_or,v3,Bool.not_false,Bool.false_or,Bool.and_self,cond_true]
  ·simp only [pF,pG,h0,cond_false]
   cases dS d a s c <;> simp only [cond_true,cond_false]
   ·exact pk (kz s12) s12
   ·exact pk (kz s14) s14
  ·simp only [pH,h0,cond_false]
   cases dS d a s c <;> simp only [cond_true,cond_false]
   ·exact RO q18 q24 (by omega)
   ·exact RO q20 q23 (by omega)
def QH:List SV→List Entry→Option Out
 | [.one ⟨false,[.ptr 0 0]⟩,.one ⟨false,[.ref 1]⟩,.one ⟨false,[.val (.int .i64 x0)]⟩],[.box 113 [.ref 2,.val (.int .i64 x1),.val (.int .i64 x2)],.row false 9 (.str) x3,.row false 5 (.int .u8) x4]=>some ⟨.one ⟨false,[.ref 3]⟩,[.box 113 [.ref 2,.val (.int .i64 (pF x0 x1 x2 x3 x4)),.val (.int .i64 (pG x0 x1 x2 x3 x4))],.row false 9 alu x3,.row false 5 ake x4],[.row true 122 afs (pH x0 x1 x2 x3 x4)],[dtN 1 x0 x1 x2 x3 x4]⟩
 |_,_=>none
def Ic:PF prog:=PF.alt abq QH (by
 intro args es o h cf;unfold QH at h;split at h
 ·rename_i x0 x1 x2 x3 x4
  cases h
  have cf:=iw cf
  have hh:=(ana x0 x1 x2 x3 x4 cf).1
  have en:=hh
  exact mK rfl (gE en) rfl rfl rfl
 ·cases h)
section
variable (x0 x1 x2:Int)(x3:List alV)(x4:List Int)
def bU:Bool:=bif x0==0 then true else nxV 4 x1 x2 x4==0
def Gv:Bool:= !x0==0&&true
def dx:Int:=bif Gv x0 then nxA 4 x1 x4 else x1
def oP:Int:=bif Gv x0 then nxS 4 x1 x2 x4 else x2
def OG:Int:=nxV 12 (dx x0 x1 x4) (oP x0 x1 x2 x4) x4
def kI:Bool:=OG x0 x1 x2 x4==0
def kJ:Bool:=OG x0 x1 x2 x4==1
def dy:Int:=pkV (dx x0 x1 x4) (oP x0 x1 x2 x4) [(4:Int),(5:Int),(6:Int),(5:Int),(6:Int),(7:Int),(8:Int),(9:Int),(10:Int),(11:Int),(12:Int)] x4
def dU:Bool:=ec (dy x0 x1 x2 x4)==2
def gu:Int:=v9 .i64 (x0 - (1:Int))
def qm:Int:=pkA (dx x0 x1 x4) [(4:Int),(5:Int),(6:Int),(5:Int),(6:Int),(7:Int),(8:Int),(9:Int),(10:Int),(11:Int),(12:Int)] x4
def qn:Int:=pkS (dx x0 x1 x4) (oP x0 x1 x2 x4) [(4:Int),(5:Int),(6:Int),(5:Int),(6:Int),(7:Int),(8:Int),(9:Int),(10:Int),(11:Int),(12:Int)] x4
def fI:Int:=pF (gu x0) (qm x0 x1 x4) (qn x0 x1 x2 x4) x3 x4
def gX:Int:=pG (gu x0) (qm x0 x1 x4) (qn x0 x1 x2 x4) x3 x4
def qo:Int:=pF (gu x0) (fI x0 x1 x2 x3 x4) (gX x0 x1 x2 x3 x4) x3 x4
def qp:Int:=nxS 12 (dx x0 x1 x4) (oP x0 x1 x2 x4) x4
def tY:Int:=pG (gu x0) (fI x0 x1 x2 x3 x4) (gX x0 x1 x2 x3 x4) x3 x4
def nS:Int:=nxV (↑x3.length:Int) (nxA 12 (dx x0 x1 x4) x4) (qp x0 x1 x2 x4) x4
def fJ:List (Int×alV×Int):=pH (gu x0) (qm x0 x1 x4) (qn x0 x1 x2 x4) x3 x4
def qq:List (Int×alV×Int):=pH (gu x0) (fI x0 x1 x2 x3 x4) (gX x0 x1 x2 x3 x4) x3 x4
def qr:List (Int×alV×Int):=fJ x0 x1 x2 x3 x4++qq x0 x1 x2 x3 x4
def NA:Int:=bif ay (dy x0 x1 x2 x4)then dy x0 x1 x2 x4 else dy x0 x1 x2 x4
def yV:alV:=bif ay (dy x0 x1 x2 x4)then ByteArray.mk #[]else ByteArray.mk #[]
def qs:List (Int×alV×Int):= [(NA x0 x1 x2 x4,yV x0 x1 x2 x4,bif ay (dy x0 x1 x2 x4)then nxV 4 (qo x0 x1 x2 x3 x4) (tY x0 x1 x2 x3 x4) x4 else(0:Int))]
def qt:List (Int×alV×Int):= [(NA x0 x1 x2 x4,yV x0 x1 x2 x4,bif ay (dy x0 x1 x2 x4)then nxV 4 (fI x0 x1 x2 x3 x4) (gX x0 x1 x2 x3 x4) x4 else(0:Int))]
def pI:Int:=bif bU x0 x1 x2 x4 then bif kI x0 x1 x2 x4 then nxA 12 (dx x0 x1 x4) x4 else bif kJ x0 x1 x2 x4 then nxA 12 (dx x0 x1 x4) x4 else nxA (↑x3.length:Int) (nxA 12 (dx x0 x1 x4) x4) x4 else bif dU x0 x1 x2 x4 then bif ay (dy x0 x1 x2 x4)then nxA 4 (qo x0 x1 x2 x3 x4) x4 else qo x0 x1 x2 x3 x4 else bif ay (dy x0 x1 x2 x4)then nxA 4 (fI x0 x1 x2 x3 x4) x4 else fI x0 x1 x2 x3 x4
def pJ:Int:=bif bU x0 x1 x2 x4 then bif kI x0 x1 x2 x4 then qp x0 x1 x2 x4 else bif kJ x0 x1 x2 x4 then qp x0 x1 x2 x4 else nxS (↑x3.length:Int) (nxA 12 (dx x0 x1 x4) x4) (qp x0 x1 x2 x4) x4 else bif dU x0 x1 x2 x4 then bif ay (dy x0 x1 x2 x4)then nxS 4 (qo x0 x1 x2 x3 x4) (tY x0 x1 x2 x3 x4) x4 else tY x0 x1 x2 x3 x4 else bif ay (dy x0 x1 x2 x4)then nxS 4 (fI x0 x1 x2 x3 x4) (gX x0 x1 x2 x3 x4) x4 else gX x0 x1 x2 x3 x4
def pK:List (Int×(alV×Int)):=bif bU x0 x1 x2 x4 then bif kI x0 x1 x2 x4 then [((2:Int),ByteArray.mk #[],(0:Int))]else bif kJ x0 x1 x2 x4 then [((3:Int),ByteArray.mk #[],(0:Int))]else [((1:Int),v8 x3[v6 (nS x0 x1 x2 x3 x4)]? ByteArray.empty,(0:Int))]else bif dU x0 x1 x2 x4 then qr x0 x1 x2 x3 x4++qs x0 x1 x2 x3 x4 else fJ x0 x1 x2 x3 x4++qt x0 x1 x2 x3 x4
def BL:Bool:=allT [!Gv x0||aT x1 x2 x4,!bU x0 x1 x2 x4||aT (dx x0 x1 x4) (oP x0 x1 x2 x4) x4,!bU x0 x1 x2 x4||(kI x0 x1 x2 x4||(kJ x0 x1 x2 x4||aT (nxA 12 (dx x0 x1 x4) x4) (qp x0 x1 x2 x4) x4)),!bU x0 x1 x2 x4||(kI x0 x1 x2 x4||(kJ x0 x1 x2 x4||leI 0 (nS x0 x1 x2 x3 x4))),!bU x0 x1 x2 x4||(kI x0 x1 x2 x4||(kJ x0 x1 x2 x4||ltI (nS x0 x1 x2 x3 x4) (↑x3.length:Int))),!bU x0 x1 x2 x4||(kI x0 x1 x2 x4||(kJ x0 x1 x2 x4||ltN (v6 (nS x0 x1 x2 x3 x4)) x3.length)),bU x0 x1 x2 x4||aT (dx x0 x1 x4) (oP x0 x1 x2 x4) x4&&leN 1 (v7 [(4:Int),(5:Int),(6:Int),(5:Int),(6:Int),(7:Int),(8:Int),(9:Int),(10:Int),(11:Int),(12:Int)]),bU x0 x1 x2 x4||dtN 1 (gu x0) (qm x0 x1 x4) (qn x0 x1 x2 x4) x3 x4,bU x0 x1 x2 x4||(!dU x0 x1 x2 x4||dtN 1 (gu x0) (fI x0 x1 x2 x3 x4) (gX x0 x1 x2 x3 x4) x3 x4),bU x0 x1 x2 x4||(!dU x0 x1 x2 x4||leN (v7 (fJ x0 x1 x2 x3 x4) + v7 (qq x0 x1 x2 x3 x4)) 9223372036854775807),bU x0 x1 x2 x4||(!dU x0 x1 x2 x4||leN ((v7 (fJ x0 x1 x2 x3 x4) + v7 (qq x0 x1 x2 x3 x4)) * 32) 140737488355328),bU x0 x1 x2 x4||(!dU x0 x1 x2 x4||(!ay (dy x0 x1 x2 x4)||aT (qo x0 x1 x2 x3 x4) (tY x0 x1 x2 x3 x4) x4)),bU x0 x1 x2 x4||(!dU x0 x1 x2 x4||leN (v7 (qr x0 x1 x2 x3 x4) + v7 (qs x0 x1 x2 x3 x4)) 9223372036854775807),bU x0 x1 x2 x4||(!dU x0 x1 x2 x4||leN ((v7 (qr x0 x1 x2 x3 x4) + v7 (qs x0 x1 x2 x3 x4)) * 32) 140737488355328),bU x0 x1 x2 x4||(dU x0 x1 x2 x4||(!ay (dy x0 x1 x2 x4)||aT (fI x0 x1 x2 x3 x4) (gX x0 x1 x2 x3 x4) x4)),bU x0 x1 x2 x4||(dU x0 x1 x2 x4||leN (v7 (fJ x0 x1 x2 x3 x4) + v7 (qt x0 x1 x2 x3 x4)) 9223372036854775807),bU x0 x1 x2 x4||(dU x0 x1 x2 x4||leN ((v7 (fJ x0 x1 x2 x3 x4) + v7 (qt x0 x1 x2 x3 x4)) * 32) 140737488355328)]
end
def Qx:List SV→List Entry→Option Out
 | [.one ⟨false,[.ptr 0 0]⟩,.one ⟨false,[.ref 1]⟩,.one ⟨false,[.val (.int .i64 x0)]⟩],[.box 113 [.ref 2,.val (.int .i64 x1),.val (.int .i64 x2)],.row false 9 (.str) x3,.row false 5 (.int .u8) x4]=>some ⟨.one ⟨false,[.ref 3]⟩,[.box 113 [.ref 2,.val (.int .i64 (pI x0 x1 x2 x3 x4)),.val (.int .i64 (pJ x0 x1 x2 x3 x4))],.row false 9 alu x3,.row false 5 ake x4],[.row true 122 afs (pK x0 x1 x2 x3 x4)],[BL x0 x1 x2 x3 x4]⟩
 |_,_=>none
def abr:PF prog:=PF.ofG prog (T3z [ao,aW,nX,DE,Ic]) [] bG 126 f126 func126 (fun c _=>LOk.nil c) Qx (by
 intro vs es r h;unfold Qx at h;split at h
 ·cases h;kernel_rfl
 ·cases h)
theorem anb(d a s:Int)(ns:List alV)(c:List Int)(h:dtN 2 d a s ns c=true):
  BL d a s ns c=true∧aT (pI d a s ns c) (pJ d a s ns c) c=true∧dtL 7 (pK d a s ns c):=by
 obtain⟨⟨h0,h1⟩,hs,hn⟩:=MO.1 h
 obtain⟨n1,n2,n3⟩:=Xh.1 hn
 have s23:aT (dx d a c) (oP d a s c) c=true:=pk (kz hs) hs
 have hs2:aT (nxA 12 (dx d a c) c) (qp d a s c) c=true:=kz s23
 obtain⟨i0,i1⟩:0≤nS d a s ns c∧nS d a s ns c < (ns.length:Int):=OB (n:=(ns.length:Int)) hs2 (by omega)
 have j0:=bu i0
 have j1:=cS i1
 have j2:ltN (nS d a s ns c).toNat ns.length=true:=dI (by omega)
 cases h0:bU d a s c with
 |true=>
  refine⟨?_,?_,?_⟩
  ·simp only [BL,h0,hs,s23,hs2,j0,j1,j2,allT,Bool.true_or,v3,Bool.not_true,Bool.false_or,cond_true]
  ·simp only [pI,pJ,h0,cond_true]
   cases kI d a s c
   ·cases kJ d a s c
    ·exact kz hs2
    ·exact hs2
   ·exact hs2
  ·simp only [pK,h0,cond_true]
   cases kI d a s c
   ·cases kJ d a s c
    ·exact ER (ak8 hn _ i0 i1)
    ·exact ER (Nat.zero_le _)
   ·exact ER (Nat.zero_le _)
 |false=>
  have hd:1≤d:=by
   by_cases hd0:d=0
   ·rw [hd0]at h0;cases h0
   ·omega
  have a9:gu d=d - 1:=aJ (by omega) (by omega)
  have s10:aT (qm d a c) (qn d a s c) c=true:=Ot s23
  have d1:dtN 1 (gu d) (qm d a c) (qn d a s c) ns c=true:=MO.2 ⟨by omega,s10,hn⟩
  obtain⟨_,s12,q18⟩:=ana _ _ _ ns c d1
  have s12:aT (fI d a s ns c) (gX d a s ns c) c=true:=s12
  have q18:dtL 3 (fJ d a s ns c):=q18
  have d2:dtN 1 (gu d) (fI d a s ns c) (gX d a s ns c) ns c=true:=MO.2 ⟨by omega,s12,hn⟩
  obtain⟨_,s14,q19⟩:=ana _ _ _ ns c d2
  have s14:aT (qo d a s ns c) (tY d a s ns c) c=true:=s14
  have q19:dtL 3 (qq d a s ns c):=q19
  have q23:dtL 1 (qs d a s ns c):=ER (by simp only [yV];cases ay (dy d a s c) <;> exact Nat.zero_le _)
  have q24:dtL 1 (qt d a s ns c):=ER (by simp only [yV];cases ay (dy d a s c) <;> exact Nat.zero_le _)
  have q20:dtL 6 (qr d a s ns c):=RO q18 q19 (by omega)
  have l18:=q18.2.1
  have l19:=q19.2.1
  have l20:=q20.2.1
  have l23:=q23.2.1
  have l24:=q24.2.1
  have p10:leN 1 (v7 [(4:Int),5,6,5,6,7,8,9,10,11,12])=true:=rfl
  refine⟨?_,?_,?_⟩
  ·simp only [BL,h0,hs,s23,s10,d1,d2,s12,s14,p10,aR (show (fJ d a s ns c).length + (qq d a s ns c).length≤9223372036854775807 by omega),aR (show ((fJ d a s ns c).length + (qq d a s ns c).length) * 32≤140737488355328 by omega),
    aR (show (qr d a s ns c).length + (qs d a s ns c).length≤9223372036854775807 by omega),aR (show ((qr d a s ns c).length + (qs d a s ns c).length) * 32≤140737488355328 by omega),
    aR (show (fJ d a s ns c).length + (qt d a s ns c).length≤9223372036854775807 by omega),aR (show ((fJ d a s ns c).length + (qt d a s ns c).length) * 32≤140737488355328 by omega),
    allT,Bool.true_or,v3,Bool.not_false,Bool.false_or,Bool.and_self,cond_true]
  ·simp only [pI,pJ,h0,cond_false]
   cases dU d a s c <;> simp only [cond_true,cond_false]
   ·exact pk (kz s12) s12
   ·exact pk (kz s14) s14
  ·simp only [pK,h0,cond_false]
   cases dU d a s c <;> simp only [cond_true,cond_false]
   ·exact RO q18 q24 (by omega)
   ·exact RO q20 q23 (by omega)
def QI:List SV→List Entry→Option Out
 | [.one ⟨false,[.ptr 0 0]⟩,.one ⟨false,[.ref 1]⟩,.one ⟨false,[.val (.int .i64 x0)]⟩],[.box 113 [.ref 2,.val (.int .i64 x1),.val (.int .i64 x2)],.row false 9 (.str) x3,.row false 5 (.int .u8) x4]=>some ⟨.one ⟨false,[.ref 3]⟩,[.box 113 [.ref 2,.val (.int .i64 (pI x0 x1 x2 x3 x4)),.val (.int .i64 (pJ x0 x1 x2 x3 x4))],.row false 9 alu x3,.row false 5 ake x4],[.row true 122 afs (pK x0 x1 x2 x3 x4)],[dtN 2 x0 x1 x2 x3 x4]⟩
 |_,_=>none
def Id:PF prog:=PF.alt abr QI (by
 intro args es o h cf;unfold QI at h;split at h
 ·rename_i x0 x1 x2 x3 x4
  cases h
  have cf:=iw cf
  have hh:=(anb x0 x1 x2 x3 x4 cf).1
  have en:=hh
  exact mK rfl (gE en) rfl rfl rfl
 ·cases h)
section
variable (x0 x1 x2:Int)(x3:List alV)(x4:List Int)
def ck:Bool:=bif x0==0 then true else nxV 4 x1 x2 x4==0
def Ix:Bool:= !x0==0&&true
def dK:Int:=bif Ix x0 then nxA 4 x1 x4 else x1
def pL:Int:=bif Ix x0 then nxS 4 x1 x2 x4 else x2
def QR:Int:=nxV 12 (dK x0 x1 x4) (pL x0 x1 x2 x4) x4
def lL:Bool:=QR x0 x1 x2 x4==0
def lM:Bool:=QR x0 x1 x2 x4==1
def dL:Int:=pkV (dK x0 x1 x4) (pL x0 x1 x2 x4) [(4:Int),(5:Int),(6:Int),(5:Int),(6:Int),(7:Int),(8:Int),(9:Int),(10:Int),(11:Int),(12:Int)] x4
def eo:Bool:=ec (dL x0 x1 x2 x4)==2
def ip:Int:=v9 .i64 (x0 - (1:Int))
def rD:Int:=pkA (dK x0 x1 x4) [(4:Int),(5:Int),(6:Int),(5:Int),(6:Int),(7:Int),(8:Int),(9:Int),(10:Int),(11:Int),(12:Int)] x4
def rE:Int:=pkS (dK x0 x1 x4) (pL x0 x1 x2 x4) [(4:Int),(5:Int),(6:Int),(5:Int),(6:Int),(7:Int),(8:Int),(9:Int),(10:Int),(11:Int),(12:Int)] x4
def gw:Int:=pI (ip x0) (rD x0 x1 x4) (rE x0 x1 x2 x4) x3 x4
def iU:Int:=pJ (ip x0) (rD x0 x1 x4) (rE x0 x1 x2 x4) x3 x4
def rF:Int:=pI (ip x0) (gw x0 x1 x2 x3 x4) (iU x0 x1 x2 x3 x4) x3 x4
def rG:Int:=nxS 12 (dK x0 x1 x4) (pL x0 x1 x2 x4) x4
def vp:Int:=pJ (ip x0) (gw x0 x1 x2 x3 x4) (iU x0 x1 x2 x3 x4) x3 x4
def oQ:Int:=nxV (↑x3.length:Int) (nxA 12 (dK x0 x1 x4) x4) (rG x0 x1 x2 x4) x4
def gx:List (Int×alV×Int):=pK (ip x0) (rD x0 x1 x4) (rE x0 x1 x2 x4) x3 x4
def rH:List (Int×alV×Int):=pK (ip x0) (gw x0 x1 x2 x3 x4) (iU x0 x1 x2 x3 x4) x3 x4
def rI:List (Int×alV×Int):=gx x0 x1 x2 x3 x4++rH x0 x1 x2 x3 x4
def OH:Int:=bif ay (dL x0 x1 x2 x4)then dL x0 x1 x2 x4 else dL x0 x1 x2 x4
def AH:alV:=bif ay (dL x0 x1 x2 x4)then ByteArray.mk #[]else ByteArray.mk #[]
def rJ:List (Int×alV×Int):= [(OH x0 x1 x2 x4,AH x0 x1 x2 x4,bif ay (dL x0 x1 x2 x4)then nxV 4 (rF x0 x1 x2 x3 x4) (vp x0 x1 x2 x3 x4) x4 else(0:Int))]
def rK:List (Int×alV×Int):= [(OH x0 x1 x2 x4,AH x0 x1 x2 x4,bif ay (dL x0 x1 x2 x4)then nxV 4 (gw x0 x1 x2 x3 x4) (iU x0 x1 x2 x3 x4) x4 else(0:Int))]
def uz:Int:=bif ck x0 x1 x2 x4 then bif lL x0 x1 x2 x4 then nxA 12 (dK x0 x1 x4) x4 else bif lM x0 x1 x2 x4 then nxA 12 (dK x0 x1 x4) x4 else nxA (↑x3.length:Int) (nxA 12 (dK x0 x1 x4) x4) x4 else bif eo x0 x1 x2 x4 then bif ay (dL x0 x1 x2 x4)then nxA 4 (rF x0 x1 x2 x3 x4) x4 else rF x0 x1 x2 x3 x4 else bif ay (dL x0 x1 x2 x4)then nxA 4 (gw x0 x1 x2 x3 x4) x4 else gw x0 x1 x2 x3 x4
def uA:Int:=bif ck x0 x1 x2 x4 then bif lL x0 x1 x2 x4 then rG x0 x1 x2 x4 else bif lM x0 x1 x2 x4 then rG x0 x1 x2 x4 else nxS (↑x3.length:Int) (nxA 12 (dK x0 x1 x4) x4) (rG x0 x1 x2 x4) x4 else bif eo x0 x1 x2 x4 then bif ay (dL x0 x1 x2 x4)then nxS 4 (rF x0 x1 x2 x3 x4) (vp x0 x1 x2 x3 x4) x4 else vp x0 x1 x2 x3 x4 else bif ay (dL x0 x1 x2 x4)then nxS 4 (gw x0 x1 x2 x3 x4) (iU x0 x1 x2 x3 x4) x4 else iU x0 x1 x2 x3 x4
def uB:List (Int×(alV×Int)):=bif ck x0 x1 x2 x4 then bif lL x0 x1 x2 x4 then [((2:Int),ByteArray.mk #[],(0:Int))]else bif lM x0 x1 x2 x4 then [((3:Int),ByteArray.mk #[],(0:Int))]else [((1:Int),v8 x3[v6 (oQ x0 x1 x2 x3 x4)]? ByteArray.empty,(0:Int))]else bif eo x0 x1 x2 x4 then rI x0 x1 x2 x3 x4++rJ x0 x1 x2 x3 x4 else gx x0 x1 x2 x3 x4++rK x0 x1 x2 x3 x4
def Df:Bool:=allT [!Ix x0||aT x1 x2 x4,!ck x0 x1 x2 x4||aT (dK x0 x1 x4) (pL x0 x1 x2 x4) x4,!ck x0 x1 x2 x4||(lL x0 x1 x2 x4||(lM x0 x1 x2 x4||aT (nxA 12 (dK x0 x1 x4) x4) (rG x0 x1 x2 x4) x4)),!ck x0 x1 x2 x4||(lL x0 x1 x2 x4||(lM x0 x1 x2 x4||leI 0 (oQ x0 x1 x2 x3 x4))),!ck x0 x1 x2 x4||(lL x0 x1 x2 x4||(lM x0 x1 x2 x4||ltI (oQ x0 x1 x2 x3 x4) (↑x3.length:Int))),!ck x0 x1 x2 x4||(lL x0 x1 x2 x4||(lM x0 x1 x2 x4||ltN (v6 (oQ x0 x1 x2 x3 x4)) x3.length)),ck x0 x1 x2 x4||aT (dK x0 x1 x4) (pL x0 x1 x2 x4) x4&&leN 1 (v7 [(4:Int),(5:Int),(6:Int),(5:Int),(6:Int),(7:Int),(8:Int),(9:Int),(10:Int),(11:Int),(12:Int)]),ck x0 x1 x2 x4||dtN 2 (ip x0) (rD x0 x1 x4) (rE x0 x1 x2 x4) x3 x4,ck x0 x1 x2 x4||(!eo x0 x1 x2 x4||dtN 2 (ip x0) (gw x0 x1 x2 x3 x4) (iU x0 x1 x2 x3 x4) x3 x4),ck x0 x1 x2 x4||(!eo x0 x1 x2 x4||leN (v7 (gx x0 x1 x2 x3 x4) + v7 (rH x0 x1 x2 x3 x4)) 9223372036854775807),ck x0 x1 x2 x4||(!eo x0 x1 x2 x4||leN ((v7 (gx x0 x1 x2 x3 x4) + v7 (rH x0 x1 x2 x3 x4)) * 32) 140737488355328),ck x0 x1 x2 x4||(!eo x0 x1 x2 x4||(!ay (dL x0 x1 x2 x4)||aT (rF x0 x1 x2 x3 x4) (vp x0 x1 x2 x3 x4) x4)),ck x0 x1 x2 x4||(!eo x0 x1 x2 x4||leN (v7 (rI x0 x1 x2 x3 x4) + v7 (rJ x0 x1 x2 x3 x4)) 9223372036854775807),ck x0 x1 x2 x4||(!eo x0 x1 x2 x4||leN ((v7 (rI x0 x1 x2 x3 x4) + v7 (rJ x0 x1 x2 x3 x4)) * 32) 140737488355328),ck x0 x1 x2 x4||(eo x0 x1 x2 x4||(!ay (dL x0 x1 x2 x4)||aT (gw x0 x1 x2 x3 x4) (iU x0 x1 x2 x3 x4) x4)),ck x0 x1 x2 x4||(eo x0 x1 x2 x4||leN (v7 (gx x0 x1 x2 x3 x4) + v7 (rK x0 x1 x2 x3 x4)) 9223372036854775807),ck x0 x1 x2 x4||(eo x0 x1 x2 x4||leN ((v7 (gx x0 x1 x2 x3 x4) + v7 (rK x0 x1 x2 x3 x4)) * 32) 140737488355328)]
end
def Rw:List SV→List Entry→Option Out
 | [.one ⟨false,[.ptr 0 0]⟩,.one ⟨false,[.ref 1]⟩,.one ⟨false,[.val (.int .i64 x0)]⟩],[.box 113 [.ref 2,.val (.int .i64 x1),.val (.int .i64 x2)],.row false 9 (.str) x3,.row false 5 (.int .u8) x4]=>some ⟨.one ⟨false,[.ref 3]⟩,[.box 113 [.ref 2,.val (.int .i64 (uz x0 x1 x2 x3 x4)),.val (.int .i64 (uA x0 x1 x2 x3 x4))],.row false 9 alu x3,.row false 5 ake x4],[.row true 122 afs (uB x0 x1 x2 x3 x4)],[Df x0 x1 x2 x3 x4]⟩
 |_,_=>none
def acB:PF prog:=PF.ofG prog (T3z [ao,aW,nX,DE,Id]) [] bG 126 f126 func126 (fun c _=>LOk.nil c) Rw (by
 intro vs es r h;unfold Rw at h;split at h
 ·cases h;kernel_rfl
 ·cases h)
theorem aqU(d a s:Int)(ns:List alV)(c:List Int)(h:dtN 3 d a s ns c=true):
  Df d a s ns c=true∧aT (uz d a s ns c) (uA d a s ns c) c=true∧dtL 15 (uB d a s ns c):=by
 obtain⟨⟨h0,h1⟩,hs,hn⟩:=MO.1 h
 obtain⟨n1,n2,n3⟩:=Xh.1 hn
 have s23:aT (dK d a c) (pL d a s c) c=true:=pk (kz hs) hs
 have hs2:aT (nxA 12 (dK d a c) c) (rG d a s c) c=true:=kz s23
 obtain⟨i0,i1⟩:0≤oQ d a s ns c∧oQ d a s ns c < (ns.length:Int):=OB (n:=(ns.length:Int)) hs2 (by omega)
 have j0:=bu i0
 have j1:=cS i1
 have j2:ltN (oQ d a s ns c).toNat ns.length=true:=dI (by omega)
 cases h0:ck d a s c with
 |true=>
  refine⟨?_,?_,?_⟩
  ·simp only [Df,h0,hs,s23,hs2,j0,j1,j2,allT,Bool.true_or,v3,Bool.not_true,Bool.false_or,cond_true]
  ·simp only [uz,uA,h0,cond_true]
   cases lL d a s c
   ·cases lM d a s c
    ·exact kz hs2
    ·exact hs2
   ·exact hs2
  ·simp only [uB,h0,cond_true]
   cases lL d a s c
   ·cases lM d a s c
    ·exact ER (ak8 hn _ i0 i1)
    ·exact ER (Nat.zero_le _)
   ·exact ER (Nat.zero_le _)
 |false=>
  have hd:1≤d:=by
   by_cases hd0:d=0
   ·rw [hd0]at h0;cases h0
   ·omega
  have a9:ip d=d - 1:=aJ (by omega) (by omega)
  have s10:aT (rD d a c) (rE d a s c) c=true:=Ot s23
  have d1:dtN 2 (ip d) (rD d a c) (rE d a s c) ns c=true:=MO.2 ⟨by omega,s10,hn⟩
  obtain⟨_,s12,q18⟩:=anb _ _ _ ns c d1
  have s12:aT (gw d a s ns c) (iU d a s ns c) c=true:=s12
  have q18:dtL 7 (gx d a s ns c):=q18
  have d2:dtN 2 (ip d) (gw d a s ns c) (iU d a s ns c) ns c=true:=MO.2 ⟨by omega,s12,hn⟩
  obtain⟨_,s14,q19⟩:=anb _ _ _ ns c d2
  have s14:aT (rF d a s ns c) (vp d a s ns c) c=true:=s14
  have q19:dtL 7 (rH d a s ns c):=q19
  have q23:dtL 1 (rJ d a s ns c):=ER (by simp only [AH];cases ay (dL d a s c) <;> exact Nat.zero_le _)
  have q24:dtL 1 (rK d a s ns c):=ER (by simp only [AH];cases ay (dL d a s c) <;> exact Nat.zero_le _)
  have q20:dtL 14 (rI d a s ns c):=RO q18 q19 (by omega)
  have l18:=q18.2.1
  have l19:=q19.2.1
  have l20:=q20.2.1
  have l23:=q23.2.1
  have l24:=q24.2.1
  have p10:leN 1 (v7 [(4:Int),5,6,5,6,7,8,9,10,11,12])=true:=rfl
  refine⟨?_,?_,?_⟩
  ·simp only [Df,h0,hs,s23,s10,d1,d2,s12,s14,p10,aR (show (gx d a s ns c).length + (rH d a s ns c).length≤9223372036854775807 by omega),aR (show ((gx d a s ns c).length + (rH d a s ns c).length) * 32≤140737488355328 by omega),
    aR (show (rI d a s ns c).length + (rJ d a s ns c).length≤9223372036854775807 by omega),aR (show ((rI d a s ns c).length + (rJ d a s ns c).length) * 32≤140737488355328 by omega),
    aR (show (gx d a s ns c).length + (rK d a s ns c).length≤9223372036854775807 by omega),aR (show ((gx d a s ns c).length + (rK d a s ns c).length) * 32≤140737488355328 by omega),
    allT,Bool.true_or,v3,Bool.not_false,Bool.false_or,Bool.and_self,cond_true]
  ·simp only [uz,uA,h0,cond_false]
   cases eo d a s c <;> simp only [cond_true,cond_false]
   ·exact pk (kz s12) s12
   ·exact pk (kz s14) s14
  ·simp only [uB,h0,cond_false]
   cases eo d a s c <;> simp only [cond_true,cond_false]
   ·exact RO q18 q24 (by omega)
   ·exact RO q20 q23 (by omega)
def Rz:List SV→List Entry→Option Out
 | [.one ⟨false,[.ptr 0 0]⟩,.one ⟨false,[.ref 1]⟩,.one ⟨false,[.val (.int .i64 x0)]⟩],[.box 113 [.ref 2,.val (.int .i64 x1),.val (.int .i64 x2)],.row false 9 (.str) x3,.row false 5 (.int .u8) x4]=>some ⟨.one ⟨false,[.ref 3]⟩,[.box 113 [.ref 2,.val (.int .i64 (uz x0 x1 x2 x3 x4)),.val (.int .i64 (uA x0 x1 x2 x3 x4))],.row false 9 alu x3,.row false 5 ake x4],[.row true 122 afs (uB x0 x1 x2 x3 x4)],[dtN 3 x0 x1 x2 x3 x4]⟩
 |_,_=>none
def uw:PF prog:=PF.alt acB Rz (by
 intro args es o h cf;unfold Rz at h;split at h
 ·rename_i x0 x1 x2 x3 x4
  cases h
  have cf:=iw cf
  have hh:=(aqU x0 x1 x2 x3 x4 cf).1
  have en:=hh
  exact mK rfl (gE en) rfl rfl rfl
 ·cases h)
abbrev oU:=List alV×Int×Int×List (alV×(List (Int×(alV×Int))))×List alV×List Int
section
variable (y0:List alV)(y1 y2:Int)(y4:List alV)(y5:List Int)
def vY:Int:=nxV 4 (nxA (↑y0.length:Int) y1 y5) (nxS (↑y0.length:Int) y1 y2 y5) y5
def vZ:Int:=nxA 4 (nxA (↑y0.length:Int) y1 y5) y5
def wa:Int:=nxS 4 (nxA (↑y0.length:Int) y1 y5) (nxS (↑y0.length:Int) y1 y2 y5) y5
def Fj:List (alV×List (Int×alV×Int)):= [(v8 y0[v6 (nxV (↑y0.length:Int) y1 y2 y5)]? ByteArray.empty,uB (vY y0 y1 y2 y5) (vZ y0 y1 y5) (wa y0 y1 y2 y5) y4 y5)]
def sj:List alV:=List.drop (v6 0) (List.take (v6 (nxV (↑y0.length:Int) y1 y2 y5)) y0)
def Fk:Int:=v9 .i64 (nxV (↑y0.length:Int) y1 y2 y5 + (1:Int))
def Aa:List alV:=List.drop (v6 (Fk y0 y1 y2 y5)) (List.take (v6 (↑y0.length:Int)) y0)
def He:Bool:=ltI 0 (↑y0.length:Int)
def UO:Bool:=aT y1 y2 y5
def NC:Bool:=leI 0 (nxV (↑y0.length:Int) y1 y2 y5)
def UP:Bool:=ltI (nxV (↑y0.length:Int) y1 y2 y5) (↑y0.length:Int)
def UQ:Bool:=ltN (v6 (nxV (↑y0.length:Int) y1 y2 y5)) y0.length
def UR:Bool:=aT (nxA (↑y0.length:Int) y1 y5) (nxS (↑y0.length:Int) y1 y2 y5) y5
def US:Bool:=dtN 3 (vY y0 y1 y2 y5) (vZ y0 y1 y5) (wa y0 y1 y2 y5) y4 y5
end
def UT(y0:List alV)(y1 y2:Int)(y3:List (alV×(List (Int×(alV×Int)))))(y4:List alV)(y5:List Int):Bool:=leN (v7 y3 + v7 (Fj y0 y1 y2 y4 y5)) 9223372036854775807
def UU(y0:List alV)(y1 y2:Int)(y3:List (alV×(List (Int×(alV×Int)))))(y4:List alV)(y5:List Int):Bool:=leN ((v7 y3 + v7 (Fj y0 y1 y2 y4 y5)) * 40) 140737488355328
def UV:Bool:=leI 0 0
section
variable (y0:List alV)(y1 y2:Int)(y4:List alV)(y5:List Int)
def Tn:Bool:=leI (nxV (↑y0.length:Int) y1 y2 y5) (↑y0.length:Int)
def To:Bool:=leN (0 + v7 (sj y0 y1 y2 y5)) 9223372036854775807
def Tp:Bool:=leN ((0 + v7 (sj y0 y1 y2 y5)) * 16) 140737488355328
def Tq:Bool:=leI 0 (Fk y0 y1 y2 y5)
def Tr:Bool:=leI (Fk y0 y1 y2 y5) (↑y0.length:Int)
def Ts:Bool:=leI (↑y0.length:Int) (↑y0.length:Int)
def Tt:Bool:=leN (v7 (sj y0 y1 y2 y5) + v7 (Aa y0 y1 y2 y5)) 9223372036854775807
def Tu:Bool:=leN ((v7 (sj y0 y1 y2 y5) + v7 (Aa y0 y1 y2 y5)) * 16) 140737488355328
def vX:List alV:=sj y0 y1 y2 y5++Aa y0 y1 y2 y5
def ael:Int:=uz (vY y0 y1 y2 y5) (vZ y0 y1 y5) (wa y0 y1 y2 y5) y4 y5
def aem:Int:=uA (vY y0 y1 y2 y5) (vZ y0 y1 y5) (wa y0 y1 y2 y5) y4 y5
end
def Fi(y0:List alV)(y1 y2:Int)(y3:List (alV×(List (Int×(alV×Int)))))(y4:List alV)(y5:List Int):List (alV×(List (Int×(alV×Int)))):=y3++Fj y0 y1 y2 y4 y5
def adr:oU→List (Nat×SV)
 |(_,_,_,_,_,_)=> [(7,(.one ⟨false,[.ref 0]⟩)),(0,(.one ⟨false,[.ptr 1 0]⟩)),(8,(.one ⟨false,[.ref 2]⟩)),(6,(.one ⟨false,[.ref 3]⟩))]
def adi:oU→List (Nat×Entry)
 |(y0,y1,y2,y3,y4,y5)=> [(1,(.box 113 [.ref 4,.val (.int .i64 y1),.val (.int .i64 y2)])),(3,(.row false 9 alu y4)),(4,(.row false 5 ake y5)),(0,(.row false 9 alu y0)),(2,(.row true 142 aaY y3))]
def adJ:Nat→oU→List (Nat×SV)
 |_,(_,_,_,_,_,_)=> [(8,(.one ⟨false,[.ref 2]⟩))]
def adA:Nat→oU→List (Nat×Entry)
 |_,(y0,y1,y2,y3,y4,y5)=> [(0,(.row false 9 alu y0)),(1,(.box 113 [.ref 4,.val (.int .i64 y1),.val (.int .i64 y2)])),(2,(.row true 142 aaY y3)),(3,(.row false 9 alu y4)),(4,(.row false 5 ake y5))]
def EV:oU→LT oU
 |(y0,y1,y2,y3,y4,y5)=> .ite (He y0) (.need [UO y1 y2 y5] (.need [NC y0 y1 y2 y5,UP y0 y1 y2 y5,UQ y0 y1 y2 y5,UR y0 y1 y2 y5,US y0 y1 y2 y4 y5,UT y0 y1 y2 y3 y4 y5,UU y0 y1 y2 y3 y4 y5] (.need [UV,NC y0 y1 y2 y5,Tn y0 y1 y2 y5,To y0 y1 y2 y5,Tp y0 y1 y2 y5,Tq y0 y1 y2 y5,Tr y0 y1 y2 y5,Ts y0,Tt y0 y1 y2 y5,Tu y0 y1 y2 y5] (.nrm ((vX y0 y1 y2 y5),ael y0 y1 y2 y4 y5,aem y0 y1 y2 y4 y5,Fi y0 y1 y2 y3 y4 y5,y4,y5) [(0,2048),(1,1),(2,1344),(3,3),(4,4)])))) (.ext 0 [(0,0),(1,1),(2,2),(3,3),(4,4)])
def Lx(s:St):Option oU:=
 (match s.look 7 with
 |some ⟨none,.one ⟨false,[.ref 1984]⟩⟩=>
 (match s.look 0 with
 |some ⟨none,.one ⟨false,[.ptr 0 0]⟩⟩=>
 (match s.look 8 with
 |some ⟨none,.one ⟨false,[.ref 2112]⟩⟩=>
 (match s.look 6 with
 |some ⟨none,.one ⟨false,[.ref 1600]⟩⟩=>
 (match s.ent 0 with
 |some (.box 113 [.ref 1,.val (.int .i64 y1),.val (.int .i64 y2)])=>
 (match s.ent 1600 with
 |some (.row false 9 (.str) y4)=>
 (match s.ent 1 with
 |some (.row false 5 (.int IntKind.u8) y5)=>
 (match s.ent 1984 with
 |some (.row false 9 (.str) y0)=>
 (match s.ent 2112 with
 |some (.row true 142 (.pair .str (.sl 122 (.pair (.int .i64) (.pair .str (.int .i64))))) y3)=>
 some (y0,y1,y2,y3,y4,y5)
 |_=>none)
 |_=>none)
 |_=>none)
 |_=>none)
 |_=>none)
 |_=>none)
 |_=>none)
 |_=>none)
 |_=>none)
def kq:Lp oU where
 h:=⟨[36,37,38,39,40,41,42,9,43,44,45,46,47,48,49,50,51,52,53,54,55,8,56,57,58,59,60,61,62,63,64,65,7],[1,3,4],[0,2],[]⟩
 JL:=adr
 JE:=adi
 XL:=adJ
 XE:=adA
 q:=fun j=>match j with | _=> .exit 0
 tags:= [0]
 lt:=EV
 fuel:=fun(y0,y1,y2,y3,y4,y5)=>y0.length + y1.natAbs + y2.natAbs + y3.length + y4.length + y5.length
 fix:=fun(_,_,_,_,y4,y5) (y0,y1,y2,y3,_,_)=>(y0,y1,y2,y3,y4,y5)
 σ:= [(1,0),(3,1600),(4,1),(0,1984),(2,2112)]
 rd:=Lx
 fz:= [1000007,1000006]
theorem aa4:LoopOk prog (fun k=>Nat.blt k Tryz.f80.ntmps) kq.F (bV f80 0):=by
 refine Lp.ok (tbl:= (T3z [ao,uw])) (lf:= []) bG kq (by kernel_rfl) (LOk.nil _) (fun _=>rfl) (fun _ _=>rfl) ?_ ?_ ?_ ?_ (fun _=>rfl) ?_
 ·rintro⟨y0,y1,y2,y3,y4,y5⟩;kernel_rfl
 ·rintro⟨y0,y1,y2,y3,y4,y5⟩;kernel_rfl
 ·intro s x h
  have h:Lx s=some x:=h
  unfold Lx at h
  repeat' split at h
  all_goals cases h
  constructor<;>repeat(first|refine ab (by assumption) rfl ?_|refine aa rfl (by assumption) rfl ?_|exact rfl)
 ·rintro⟨y0,y1,y2,y3,y4,y5⟩;kernel_rfl
 ·rintro⟨y0,y1,y2,y3,y4,y5⟩ z;exact(And.intro rfl trivial)
section
variable (x0 x1:Int)(x2:List Int)
def uM:Int:=nxV 4 (nxA 3 x0 x2) (nxS 3 x0 x1 x2) x2
def gN:List alV:=List.take (v6 (uM x0 x1 x2)) [ByteArray.mk #[120],ByteArray.mk #[121],ByteArray.mk #[122]]
def uN:Int:=nxA 4 (nxA 3 x0 x2) x2
def Bo:Int:=nxS 4 (nxA 3 x0 x2) (nxS 3 x0 x1 x2) x2
def xV:Int:=v9 .i64 ((1:Int) + nxV 2 (uN x0 x2) (Bo x0 x1 x2) x2)
def oc:List alV:=List.take (v6 (xV x0 x1 x2)) [ByteArray.mk #[113],ByteArray.mk #[108,97,109,112]]
def xW:Int:=v9 .i64 ((1:Int) + nxV 3 x0 x1 x2)
def mW:List alV:=List.take (v6 (xW x0 x1 x2)) [ByteArray.mk #[97],ByteArray.mk #[98],ByteArray.mk #[107,101,121]]
def kf:List alV:=mW x0 x1 x2++gN x0 x1 x2
def KO:List alV×Int×Int×List (alV×List (Int×alV×Int))×List alV×List Int:=(gN x0 x1 x2++oc x0 x1 x2,nxA 2 (uN x0 x2) x2,nxS 2 (uN x0 x2) (Bo x0 x1 x2) x2,[],kf x0 x1 x2,x2)
def DL:Int×Int×List (alV×List (Int×alV×Int))×List alV×List Int:=(Lp.res kq (KO x0 x1 x2)).2.2
def lB:Int:=(DL x0 x1 x2).1
def IW:Int×List (alV×List (Int×alV×Int))×List alV×List Int:=(DL x0 x1 x2).2
def zm:Int:=(IW x0 x1 x2).1
def oq:Bool:=ltI 0 (nxV 3 (lB x0 x1 x2) (zm x0 x1 x2) x2)
def zo:Int:=nxS 3 (lB x0 x1 x2) (zm x0 x1 x2) x2
def vW:Int:=nxV (↑(v7 (kf x0 x1 x2)):Int) (nxA 3 (lB x0 x1 x2) x2) (zo x0 x1 x2) x2
def PB:Bool:=leN (0 + v7 (mW x0 x1 x2)) 9223372036854775807
def PC:Bool:=leN ((0 + v7 (mW x0 x1 x2)) * 16) 140737488355328
def PD:Bool:=leN (0 + v7 (gN x0 x1 x2)) 9223372036854775807
def PE:Bool:=leN ((0 + v7 (gN x0 x1 x2)) * 16) 140737488355328
def jm:alV:=bif oq x0 x1 x2 then ByteArray.mk #[114,105,100,101]else ByteArray.mk #[114,105,100,101]
def af:alV:=bif oq x0 x1 x2 then v8 (kf x0 x1 x2)[v6 (vW x0 x1 x2)]? ByteArray.empty else ByteArray.mk #[]
def nb:Int:=bif oq x0 x1 x2 then nxA (↑(v7 (kf x0 x1 x2)):Int) (nxA 3 (lB x0 x1 x2) x2) x2 else nxA 3 (lB x0 x1 x2) x2
def oa:Int:=bif oq x0 x1 x2 then nxS (↑(v7 (kf x0 x1 x2)):Int) (nxA 3 (lB x0 x1 x2) x2) (zo x0 x1 x2) x2 else zo x0 x1 x2
def bQ:List alV:=mW x0 x1 x2
def bY:List alV:=gN x0 x1 x2
def bZ:List alV:=oc x0 x1 x2
def br:List (alV×(List (Int×(alV×Int)))):=((IW x0 x1 x2).2).1
def Tm:Bool:=allT [aT x0 x1 x2,leI 0 (xW x0 x1 x2),leI (xW x0 x1 x2) (↑(v7 [ByteArray.mk #[97],ByteArray.mk #[98],ByteArray.mk #[107,101,121]]):Int),aT (nxA 3 x0 x2) (nxS 3 x0 x1 x2) x2,leI 0 (uM x0 x1 x2),leI (uM x0 x1 x2) (↑(v7 [ByteArray.mk #[120],ByteArray.mk #[121],ByteArray.mk #[122]]):Int),aT (uN x0 x2) (Bo x0 x1 x2) x2,leI 0 (xV x0 x1 x2),leI (xV x0 x1 x2) (↑(v7 [ByteArray.mk #[113],ByteArray.mk #[108,97,109,112]]):Int),PB x0 x1 x2,PC x0 x1 x2,leN (v7 (mW x0 x1 x2) + v7 (gN x0 x1 x2)) 9223372036854775807,leN ((v7 (mW x0 x1 x2) + v7 (gN x0 x1 x2)) * 16) 140737488355328,PD x0 x1 x2,PE x0 x1 x2,leN (v7 (gN x0 x1 x2) + v7 (oc x0 x1 x2)) 9223372036854775807,leN ((v7 (gN x0 x1 x2) + v7 (oc x0 x1 x2)) * 16) 140737488355328,Lp.fin kq (KO x0 x1 x2),PB x0 x1 x2,PC x0 x1 x2,PD x0 x1 x2,PE x0 x1 x2,leN (0 + v7 (oc x0 x1 x2)) 9223372036854775807,leN ((0 + v7 (oc x0 x1 x2)) * 16) 140737488355328,aT (lB x0 x1 x2) (zm x0 x1 x2) x2,!oq x0 x1 x2||aT (nxA 3 (lB x0 x1 x2) x2) (zo x0 x1 x2) x2,!oq x0 x1 x2||leI 0 (vW x0 x1 x2),!oq x0 x1 x2||ltI (vW x0 x1 x2) (↑(v7 (kf x0 x1 x2)):Int),!oq x0 x1 x2||ltN (v6 (vW x0 x1 x2)) (v7 (kf x0 x1 x2))]
end
def ZW:List SV→List Entry→Option Out
 | [.one ⟨false,[.ptr 0 0]⟩],[.box 113 [.ref 1,.val (.int .i64 x0),.val (.int .i64 x1)],.row false 5 (.int .u8) x2]=>some ⟨.one ⟨true,[.val (.string (jm x0 x1 x2)),.ref 2,.ref 3,.ref 4,.val (.string (af x0 x1 x2)),.ref 5]⟩,[.box 113 [.ref 1,.val (.int .i64 (nb x0 x1 x2)),.val (.int .i64 (oa x0 x1 x2))],.row false 5 ake x2],[.row true 9 alu (bQ x0 x1 x2),.row true 9 alu (bY x0 x1 x2),.row true 9 alu (bZ x0 x1 x2),.row true 142 aaY (br x0 x1 x2)],[Tm x0 x1 x2]⟩
 |_,_=>none
def ai8:PF prog:=PF.ofG prog (T3z [ao,uw]) [(fun s=>kq.F (aaL [(1000007,0),(1000006,0)] s))] bG 80 f80 func80 (LOk.fnT (l:= [bV f80 0]) (by kernel_rfl) (.cons (aa4.alias [(1000007,0),(1000006,0)]) (.nil _))) ZW (by
 intro vs es r h;unfold ZW at h;split at h
 ·cases h;kernel_rfl
 ·cases h)
abbrev iy:=Int×alV×alV×List Int×Int×Int×List alV×List alV×List alV×List (alV×(List (Int×(alV×Int))))×List Int
section
variable (y0:Int)(y3:List Int)(y4 y5:Int)(y6:List alV)(y10:List Int)
def rV:List Int:= [nxV 2 y4 y5 y10]
def DR:Bool:=ltI y0 (↑y6.length:Int)
def DS:Bool:=aT y4 y5 y10
def DT:Bool:=leN (v7 y3 + v7 (rV y4 y5 y10)) 9223372036854775807
def DU:Bool:=leN ((v7 y3 + v7 (rV y4 y5 y10)) * 8) 140737488355328
def DV:Int:=v9 .i64 (y0 + (1:Int))
def DW:List Int:=y3++rV y4 y5 y10
def DX:Int:=nxA 2 y4 y10
def DY:Int:=nxS 2 y4 y5 y10
end
def Vt:iy→List (Nat×SV)
 |(y0,_,_,_,_,_,_,_,_,_,_)=> [(6,(.one ⟨false,[.val (.int .i64 y0)]⟩)),(3,(.one ⟨false,[.ptr 0 0]⟩)),(5,(.one ⟨false,[.ref 1]⟩)),(0,(.one ⟨false,[.ptr 2 0]⟩))]
def Vp:iy→List (Nat×Entry)
 |(_,y1,y2,y3,y4,y5,y6,y7,y8,y9,y10)=> [(0,(.box 43 [.val (.string y1),.ref 3,.ref 4,.ref 5,.val (.string y2),.ref 6])),(2,(.box 113 [.ref 7,.val (.int .i64 y4),.val (.int .i64 y5)])),(3,(.row false 9 alu y6)),(4,(.row false 9 alu y7)),(5,(.row false 9 alu y8)),(6,(.row false 142 aaY y9)),(7,(.row false 5 ake y10)),(1,(.row true 2 akd y3))]
def VB:Nat→iy→List (Nat×SV)
 |_,(_,_,_,_,_,_,_,_,_,_,_)=> [(5,(.one ⟨false,[.ref 1]⟩))]
def Vx:Nat→iy→List (Nat×Entry)
 |_,(_,y1,y2,y3,y4,y5,y6,y7,y8,y9,y10)=> [(0,(.box 43 [.val (.string y1),.ref 3,.ref 4,.ref 5,.val (.string y2),.ref 6])),(1,(.row true 2 akd y3)),(2,(.box 113 [.ref 7,.val (.int .i64 y4),.val (.int .i64 y5)])),(3,(.row false 9 alu y6)),(4,(.row false 9 alu y7)),(5,(.row false 9 alu y8)),(6,(.row false 142 aaY y9)),(7,(.row false 5 ake y10))]
def Co:iy→LT iy
 |(y0,y1,y2,y3,y4,y5,y6,y7,y8,y9,y10)=> .ite (DR y0 y6) (.need [DS y4 y5 y10,DT y3 y4 y5 y10,DU y3 y4 y5 y10] (.nrm ((DV y0),y1,y2,DW y3 y4 y5 y10,DX y4 y10,DY y4 y5 y10,y6,y7,y8,y9,y10) [(0,0),(1,640),(2,2),(3,3),(4,4),(5,5),(6,6),(7,7)])) (.ext 0 [(0,0),(1,1),(2,2),(3,3),(4,4),(5,5),(6,6),(7,7)])
def Cp(s:St):Option iy:=
 (match s.look 6 with
 |some ⟨none,.one ⟨false,[.val (.int .i64 y0)]⟩⟩=>
 (match s.look 3 with
 |some ⟨none,.one ⟨false,[.ptr 448 0]⟩⟩=>
 (match s.look 5 with
 |some ⟨none,.one ⟨false,[.ref 576]⟩⟩=>
 (match s.look 0 with
 |some ⟨none,.one ⟨false,[.ptr 0 0]⟩⟩=>
 (match s.ent 448 with
 |some (.box 43 [.val (.string y1),.ref 1,.ref 2,.ref 3,.val (.string y2),.ref 4])=>
 (match s.ent 0 with
 |some (.box 113 [.ref 5,.val (.int .i64 y4),.val (.int .i64 y5)])=>
 (match s.ent 1 with
 |some (.row false 9 (.str) y6)=>
 (match s.ent 2 with
 |some (.row false 9 (.str) y7)=>
 (match s.ent 3 with
 |some (.row false 9 (.str) y8)=>
 (match s.ent 4 with
 |some (.row false 142 (.pair .str (.sl 122 (.pair (.int .i64) (.pair .str (.int .i64))))) y9)=>
 (match s.ent 5 with
 |some (.row false 5 (.int IntKind.u8) y10)=>
 (match s.ent 576 with
 |some (.row true 2 (.int .i64) y3)=>
 some (y0,y1,y2,y3,y4,y5,y6,y7,y8,y9,y10)
 |_=>none)
 |_=>none)
 |_=>none)
 |_=>none)
 |_=>none)
 |_=>none)
 |_=>none)
 |_=>none)
 |_=>none)
 |_=>none)
 |_=>none)
 |_=>none)
def fj:Lp iy where
 h:=⟨[8,9,10,11,12,15,16,17,18,19,5,13,14,6],[0,2,3,4,5,6,7],[1],[]⟩
 JL:=Vt
 JE:=Vp
 XL:=VB
 XE:=Vx
 q:=fun j=>match j with | _=> .exit 0
 tags:= [0]
 lt:=Co
 fuel:=fun(y0,y1,y2,y3,y4,y5,y6,y7,y8,y9,y10)=>y0.natAbs + y1.size + y2.size + y3.length + y4.natAbs + y5.natAbs + y6.length + y7.length + y8.length + y9.length + y10.length
 fix:=fun(_,y1,y2,_,_,_,y6,y7,y8,y9,y10) (y0,_,_,y3,y4,y5,_,_,_,_,_)=>(y0,y1,y2,y3,y4,y5,y6,y7,y8,y9,y10)
 σ:= [(0,448),(2,0),(3,1),(4,2),(5,3),(6,4),(7,5),(1,576)]
 rd:=Cp
theorem SD:LoopOk prog (fun k=>Nat.blt k Tryz.f98.ntmps) fj.F (bV f98 0):=by
 refine Lp.ok (tbl:= (T3z [ao,aW])) (lf:= []) bG fj (by kernel_rfl) (LOk.nil _) (fun _=>rfl) (fun _ _=>rfl) ?_ ?_ ?_ ?_ (fun _=>rfl) ?_
 ·rintro⟨y0,y1,y2,y3,y4,y5,y6,y7,y8,y9,y10⟩;kernel_rfl
 ·rintro⟨y0,y1,y2,y3,y4,y5,y6,y7,y8,y9,y10⟩;kernel_rfl
 ·intro s x h
  have h:Cp s=some x:=h
  unfold Cp at h
  repeat' split at h
  all_goals cases h
  constructor<;>repeat(first|refine ab (by assumption) rfl ?_|refine aa rfl (by assumption) rfl ?_|exact rfl)
 ·rintro⟨y0,y1,y2,y3,y4,y5,y6,y7,y8,y9,y10⟩;kernel_rfl
 ·rintro⟨y0,y1,y2,y3,y4,y5,y6,y7,y8,y9,y10⟩ z;exact(And.intro rfl trivial)
section
variable (x0 x1:alV)(x2 x3:Int)(x4 x5 x6:List alV)(x7:List (alV×List (Int×alV×Int)))(x8:List Int)
def AK:Int×alV×alV×List Int×Int×Int×List alV×List alV×List alV×List (alV×List (Int×alV×Int))×List Int:=((0:Int),x0,x1,[],x2,x3,x4,x5,x6,x7,x8)
def vu:List Int×Int×Int×List alV×List alV×List alV×List (alV×List (Int×alV×Int))×List Int:=(Lp.res fj (AK x0 x1 x2 x3 x4 x5 x6 x7 x8)).2.2.2.2
def AL:Int×Int×List alV×List alV×List alV×List (alV×List (Int×alV×Int))×List Int:=(vu x0 x1 x2 x3 x4 x5 x6 x7 x8).2
def rM:Int:=(AL x0 x1 x2 x3 x4 x5 x6 x7 x8).1
def vv:Int:=((AL x0 x1 x2 x3 x4 x5 x6 x7 x8).2).1
def OK:Int:=nxV 40 (rM x0 x1 x2 x3 x4 x5 x6 x7 x8) (vv x0 x1 x2 x3 x4 x5 x6 x7 x8) x8
def kK:Bool:=OK x0 x1 x2 x3 x4 x5 x6 x7 x8==0
def kL:Int:=nxA 40 (rM x0 x1 x2 x3 x4 x5 x6 x7 x8) x8
def oT:Bool:=OK x0 x1 x2 x3 x4 x5 x6 x7 x8==1
def iV:List Int:=(vu x0 x1 x2 x3 x4 x5 x6 x7 x8).1
def fN:Bool:=ltI 0 (↑(v7 (iV x0 x1 x2 x3 x4 x5 x6 x7 x8)):Int)
def lT:Int:=nxS 40 (rM x0 x1 x2 x3 x4 x5 x6 x7 x8) (vv x0 x1 x2 x3 x4 x5 x6 x7 x8) x8
def lS:Int:=bif kK x0 x1 x2 x3 x4 x5 x6 x7 x8 then kL x0 x1 x2 x3 x4 x5 x6 x7 x8 else bif oT x0 x1 x2 x3 x4 x5 x6 x7 x8 then bif fN x0 x1 x2 x3 x4 x5 x6 x7 x8 then pkA (kL x0 x1 x2 x3 x4 x5 x6 x7 x8) [(-1:Int),(2:Int)] x8 else kL x0 x1 x2 x3 x4 x5 x6 x7 x8 else kL x0 x1 x2 x3 x4 x5 x6 x7 x8
def nD:Int:=bif kK x0 x1 x2 x3 x4 x5 x6 x7 x8 then lT x0 x1 x2 x3 x4 x5 x6 x7 x8 else bif oT x0 x1 x2 x3 x4 x5 x6 x7 x8 then bif fN x0 x1 x2 x3 x4 x5 x6 x7 x8 then pkS (kL x0 x1 x2 x3 x4 x5 x6 x7 x8) (lT x0 x1 x2 x3 x4 x5 x6 x7 x8) [(-1:Int),(2:Int)] x8 else lT x0 x1 x2 x3 x4 x5 x6 x7 x8 else lT x0 x1 x2 x3 x4 x5 x6 x7 x8
def sX:List Int:=bif kK x0 x1 x2 x3 x4 x5 x6 x7 x8 then iV x0 x1 x2 x3 x4 x5 x6 x7 x8++ [(0:Int)]else bif oT x0 x1 x2 x3 x4 x5 x6 x7 x8 then bif fN x0 x1 x2 x3 x4 x5 x6 x7 x8 then List.set (iV x0 x1 x2 x3 x4 x5 x6 x7 x8) (v6 0) (pkV (kL x0 x1 x2 x3 x4 x5 x6 x7 x8) (lT x0 x1 x2 x3 x4 x5 x6 x7 x8) [(-1:Int),(2:Int)] x8)else iV x0 x1 x2 x3 x4 x5 x6 x7 x8 else iV x0 x1 x2 x3 x4 x5 x6 x7 x8
def BM:Bool:=allT [Lp.fin fj (AK x0 x1 x2 x3 x4 x5 x6 x7 x8),aT (rM x0 x1 x2 x3 x4 x5 x6 x7 x8) (vv x0 x1 x2 x3 x4 x5 x6 x7 x8) x8,!kK x0 x1 x2 x3 x4 x5 x6 x7 x8||leN (v7 (iV x0 x1 x2 x3 x4 x5 x6 x7 x8) + v7 [(0:Int)]) (9223372036854775807:Nat),!kK x0 x1 x2 x3 x4 x5 x6 x7 x8||leN ((v7 (iV x0 x1 x2 x3 x4 x5 x6 x7 x8) + v7 [(0:Int)]) * (8:Nat)) 140737488355328,kK x0 x1 x2 x3 x4 x5 x6 x7 x8||(!oT x0 x1 x2 x3 x4 x5 x6 x7 x8||(!fN x0 x1 x2 x3 x4 x5 x6 x7 x8||aT (kL x0 x1 x2 x3 x4 x5 x6 x7 x8) (lT x0 x1 x2 x3 x4 x5 x6 x7 x8) x8&&leN 1 (v7 [(-1:Int),(2:Int)]))),kK x0 x1 x2 x3 x4 x5 x6 x7 x8||(!oT x0 x1 x2 x3 x4 x5 x6 x7 x8||(!fN x0 x1 x2 x3 x4 x5 x6 x7 x8||leI 0 0)),kK x0 x1 x2 x3 x4 x5 x6 x7 x8||(!oT x0 x1 x2 x3 x4 x5 x6 x7 x8||(!fN x0 x1 x2 x3 x4 x5 x6 x7 x8||fN x0 x1 x2 x3 x4 x5 x6 x7 x8)),kK x0 x1 x2 x3 x4 x5 x6 x7 x8||(!oT x0 x1 x2 x3 x4 x5 x6 x7 x8||(!fN x0 x1 x2 x3 x4 x5 x6 x7 x8||ltN (v6 0) (v7 (iV x0 x1 x2 x3 x4 x5 x6 x7 x8))))]
end
def Qz:List SV→List Entry→Option Out
 | [.one ⟨false,[.ptr 0 0]⟩,.one ⟨true,[.val (.string x0),.ref 1,.ref 2,.ref 3,.val (.string x1),.ref 4]⟩],[.box 113 [.ref 5,.val (.int .i64 x2),.val (.int .i64 x3)],.row false 9 (.str) x4,.row false 9 (.str) x5,.row false 9 (.str) x6,.row false 142 (.pair (.str) (.sl 122 (.pair (.int .i64) (.pair (.str) (.int .i64))))) x7,.row false 5 (.int .u8) x8]=>some ⟨.one ⟨false,[.ref 6]⟩,[.box 113 [.ref 5,.val (.int .i64 (lS x0 x1 x2 x3 x4 x5 x6 x7 x8)),.val (.int .i64 (nD x0 x1 x2 x3 x4 x5 x6 x7 x8))],.row false 9 alu x4,.row false 9 alu x5,.row false 9 alu x6,.row false 142 (CTy.pair CTy.str (CTy.sl (122:TypeId) afs)) x7,.row false 5 ake x8],[.row true 2 akd (sX x0 x1 x2 x3 x4 x5 x6 x7 x8)],[BM x0 x1 x2 x3 x4 x5 x6 x7 x8]⟩
 |_,_=>none
def eN:PF prog:=PF.ofG prog (T3z [ao,aW]) [fj.F] bG 98 f98 func98 (LOk.fnT (l:= [bV f98 0]) (by kernel_rfl) (.cons SD (.nil _))) Qz (by
 intro vs es r h;unfold Qz at h;split at h
 ·cases h;kernel_rfl
 ·cases h)
abbrev gS:=Int×List (List Int)×List Int
section
variable (y0:Int)(y1:List (List Int))(y2:List Int)
def Ct:Bool:=leI 0 y0
def Cu:Bool:=leN y2.length (1048576:Nat)
def Cv:Bool:=leN (v7 y1 + v7 [y2]) (9223372036854775807:Nat)
def Cw:Bool:=leN ((v7 y1 + v7 [y2]) * (24:Nat)) 140737488355328
def Cx:Int:=v9 .i64 (y0 - (1:Int))
def Cy:List (List Int):=y1++ [y2]
end
def Ub:gS→List (Nat×SV)
 |(y0,_,_)=> [(8,(.one ⟨false,[.val (.int .i64 y0)]⟩)),(5,(.one ⟨false,[.ref 0]⟩)),(7,(.one ⟨false,[.ref 1]⟩))]
def TY:gS→List (Nat×Entry)
 |(_,y1,y2)=> [(1,(.row true 2 akd y2)),(0,(.row true 28 ahG y1))]
def Uh:Nat→gS→List (Nat×SV)
 |_,(_,_,_)=> [(5,(.one ⟨false,[.ref 0]⟩))]
def Ue:Nat→gS→List (Nat×Entry)
 |_,(_,y1,y2)=> [(0,(.row true 28 ahG y1)),(1,(.row true 2 akd y2))]
def Bd:gS→LT gS
 |(y0,y1,y2)=> .ite (Ct y0) (.need [Cu y2,Cv y1 y2,Cw y1 y2] (.nrm ((Cx y0),Cy y1 y2,y2) [(0,448),(1,1)])) (.ext 0 [(0,0),(1,1)])
def Bg(s:St):Option gS:=
 (match s.look 8 with
 |some ⟨none,.one ⟨false,[.val (.int .i64 y0)]⟩⟩=>
 (match s.look 5 with
 |some ⟨none,.one ⟨false,[.ref 2]⟩⟩=>
 (match s.look 7 with
 |some ⟨none,.one ⟨false,[.ref 320]⟩⟩=>
 (match s.ent 320 with
 |some (.row true 2 (.int .i64) y2)=>
 (match s.ent 2 with
 |some (.row true 28 (.sl 2 (.int .i64)) y1)=>
 some (y0,y1,y2)
 |_=>none)
 |_=>none)
 |_=>none)
 |_=>none)
 |_=>none)
def eM:Lp gS where
 h:=⟨[21,22,25,26,27,28,29,5,23,24,8],[1],[0],[]⟩
 JL:=Ub
 JE:=TY
 XL:=Uh
 XE:=Ue
 q:=fun j=>match j with | _=> .exit 2
 tags:= [0]
 lt:=Bd
 fuel:=fun(y0,y1,y2)=>y0.natAbs + y1.length + y2.length
 fix:=fun(_,_,y2) (y0,y1,_)=>(y0,y1,y2)
 σ:= [(1,320),(0,2)]
 rd:=Bg
theorem RS:LoopOk prog (memN [12,13,16,17,18,7,19,20,8,21,22,25,26,27,28,29,5,23,24,14,15,6]) eM.F (VR (bV f53 0) 0):=by
 refine Lp.ok (tbl:= (T3z [eN,ao,aE])) (lf:= []) bG eM (by kernel_rfl) (LOk.nil _) (fun _=>rfl) (fun _ _=>rfl) ?_ ?_ ?_ ?_ (fun _=>rfl) ?_
 ·rintro⟨y0,y1,y2⟩;kernel_rfl
 ·rintro⟨y0,y1,y2⟩;kernel_rfl
 ·intro s x h
  have h:Bg s=some x:=h
  unfold Bg at h
  repeat' split at h
  all_goals cases h
  constructor<;>repeat(first|refine ab (by assumption) rfl ?_|refine aa rfl (by assumption) rfl ?_|exact rfl)
 ·rintro⟨y0,y1,y2⟩;kernel_rfl
 ·rintro⟨y0,y1,y2⟩ z;exact(And.intro rfl trivial)
abbrev kA:=Int×Int×Int×alV×alV×List (List Int)×List Int×List alV×List alV×List alV×List (alV×(List (Int×(alV×Int))))
def yW(y1 y2:Int)(y3 y4:alV)(y5:List (List Int))(y6:List Int)(y7 y8 y9:List alV)(y10:List (alV×(List (Int×(alV×Int))))):Int×List (List Int)×List Int:=(nxV 4 (lS y3 y4 y1 y2 y7 y8 y9 y10 y6) (nD y3 y4 y1 y2 y7 y8 y9 y10 y6) y6,y5,sX y3 y4 y1 y2 y7 y8 y9 y10 y6)
def GC(y0:Int):Bool:=ltI 0 y0
def GD(y1 y2:Int)(y3 y4:alV)(y6:List Int)(y7 y8 y9:List alV)(y10:List (alV×(List (Int×(alV×Int))))):Bool:=BM y3 y4 y1 y2 y7 y8 y9 y10 y6
def OM(y1 y2:Int)(y3 y4:alV)(y6:List Int)(y7 y8 y9:List alV)(y10:List (alV×(List (Int×(alV×Int))))):Bool:=aT (lS y3 y4 y1 y2 y7 y8 y9 y10 y6) (nD y3 y4 y1 y2 y7 y8 y9 y10 y6) y6
def ON(y1 y2:Int)(y3 y4:alV)(y5:List (List Int))(y6:List Int)(y7 y8 y9:List alV)(y10:List (alV×(List (Int×(alV×Int))))):Bool:=Lp.fin eM (yW y1 y2 y3 y4 y5 y6 y7 y8 y9 y10)
def GE(y0:Int):Int:=v9 .i64 (y0 - (1:Int))
def OO(y1 y2:Int)(y3 y4:alV)(y6:List Int)(y7 y8 y9:List alV)(y10:List (alV×(List (Int×(alV×Int))))):Int:=nxA 4 (lS y3 y4 y1 y2 y7 y8 y9 y10 y6) y6
def OP(y1 y2:Int)(y3 y4:alV)(y6:List Int)(y7 y8 y9:List alV)(y10:List (alV×(List (Int×(alV×Int))))):Int:=nxS 4 (lS y3 y4 y1 y2 y7 y8 y9 y10 y6) (nD y3 y4 y1 y2 y7 y8 y9 y10 y6) y6
def GF(y1 y2:Int)(y3 y4:alV)(y5:List (List Int))(y6:List Int)(y7 y8 y9:List alV)(y10:List (alV×(List (Int×(alV×Int))))):List (List Int):=((Lp.res eM (yW y1 y2 y3 y4 y5 y6 y7 y8 y9 y10)).2.2).1
def XG:kA→List (Nat×SV)
 |(y0,_,_,_,_,_,_,_,_,_,_)=> [(6,(.one ⟨false,[.val (.int .i64 y0)]⟩)),(0,(.one ⟨false,[.ptr 0 0]⟩)),(3,(.one ⟨false,[.ptr 1 0]⟩)),(5,(.one ⟨false,[.ref 2]⟩))]
def XA:kA→List (Nat×Entry)
 |(_,y1,y2,y3,y4,y5,y6,y7,y8,y9,y10)=> [(0,(.box 113 [.ref 3,.val (.int .i64 y1),.val (.int .i64 y2)])),(1,(.box 43 [.val (.string y3),.ref 4,.ref 5,.ref 6,.val (.string y4),.ref 7])),(3,(.row false 5 ake y6)),(4,(.row false 9 alu y7)),(5,(.row false 9 alu y8)),(6,(.row false 9 alu y9)),(7,(.row false 142 aaY y10)),(2,(.row true 28 ahG y5))]
def XR:Nat→kA→List (Nat×SV)
 |_,(_,_,_,_,_,_,_,_,_,_,_)=> [(5,(.one ⟨false,[.ref 2]⟩))]
def XM:Nat→kA→List (Nat×Entry)
 |_,(_,y1,y2,y3,y4,y5,y6,y7,y8,y9,y10)=> [(0,(.box 113 [.ref 3,.val (.int .i64 y1),.val (.int .i64 y2)])),(1,(.box 43 [.val (.string y3),.ref 4,.ref 5,.ref 6,.val (.string y4),.ref 7])),(2,(.row true 28 ahG y5)),(3,(.row false 5 ake y6)),(4,(.row false 9 alu y7)),(5,(.row false 9 alu y8)),(6,(.row false 9 alu y9)),(7,(.row false 142 aaY y10))]
def EW:kA→LT kA
 |(y0,y1,y2,y3,y4,y5,y6,y7,y8,y9,y10)=> .ite (GC y0) (.need [GD y1 y2 y3 y4 y6 y7 y8 y9 y10] (.need [OM y1 y2 y3 y4 y6 y7 y8 y9 y10] (.need [ON y1 y2 y3 y4 y5 y6 y7 y8 y9 y10] (.nrm ((GE y0),OO y1 y2 y3 y4 y6 y7 y8 y9 y10,OP y1 y2 y3 y4 y6 y7 y8 y9 y10,y3,y4,GF y1 y2 y3 y4 y5 y6 y7 y8 y9 y10,y6,y7,y8,y9,y10) [(0,0),(1,1),(2,640),(3,3),(4,4),(5,5),(6,6),(7,7)])))) (.ext 0 [(0,0),(1,1),(2,2),(3,3),(4,4),(5,5),(6,6),(7,7)])
def Fe(s:St):Option kA:=
 (match s.look 6 with
 |some ⟨none,.one ⟨false,[.val (.int .i64 y0)]⟩⟩=>
 (match s.look 0 with
 |some ⟨none,.one ⟨false,[.ptr 0 0]⟩⟩=>
 (match s.look 3 with
 |some ⟨none,.one ⟨false,[.ptr 448 0]⟩⟩=>
 (match s.look 5 with
 |some ⟨none,.one ⟨false,[.ref 576]⟩⟩=>
 (match s.ent 0 with
 |some (.box 113 [.ref 5,.val (.int .i64 y1),.val (.int .i64 y2)])=>
 (match s.ent 448 with
 |some (.box 43 [.val (.string y3),.ref 1,.ref 2,.ref 3,.val (.string y4),.ref 4])=>
 (match s.ent 5 with
 |some (.row false 5 (.int IntKind.u8) y6)=>
 (match s.ent 1 with
 |some (.row false 9 (.str) y7)=>
 (match s.ent 2 with
 |some (.row false 9 (.str) y8)=>
 (match s.ent 3 with
 |some (.row false 9 (.str) y9)=>
 (match s.ent 4 with
 |some (.row false 142 (.pair .str (.sl 122 (.pair (.int .i64) (.pair .str (.int .i64))))) y10)=>
 (match s.ent 576 with
 |some (.row true 28 (.sl 2 (.int .i64)) y5)=>
 some (y0,y1,y2,y3,y4,y5,y6,y7,y8,y9,y10)
 |_=>none)
 |_=>none)
 |_=>none)
 |_=>none)
 |_=>none)
 |_=>none)
 |_=>none)
 |_=>none)
 |_=>none)
 |_=>none)
 |_=>none)
 |_=>none)
def gV:Lp kA where
 h:=⟨[12,13,16,17,18,7,19,20,8,21,22,25,26,27,28,29,5,23,24,14,15,6],[0,1,3,4,5,6,7],[2],[]⟩
 JL:=XG
 JE:=XA
 XL:=XR
 XE:=XM
 q:=fun j=>match j with | _=> .exit 0
 tags:= [0]
 lt:=EW
 fuel:=fun(y0,y1,y2,y3,y4,y5,y6,y7,y8,y9,y10)=>y0.natAbs + y1.natAbs + y2.natAbs + y3.size + y4.size + y5.length + y6.length + y7.length + y8.length + y9.length + y10.length
 fix:=fun(_,_,_,y3,y4,_,y6,y7,y8,y9,y10) (y0,y1,y2,_,_,y5,_,_,_,_,_)=>(y0,y1,y2,y3,y4,y5,y6,y7,y8,y9,y10)
 σ:= [(0,0),(1,448),(3,5),(4,1),(5,2),(6,3),(7,4),(2,576)]
 rd:=Fe
theorem VU:LoopOk prog (fun k=>Nat.blt k Tryz.f53.ntmps) gV.F (bV f53 0):=by
 refine Lp.ok (tbl:= (T3z [eN,ao,aE])) (lf:= [eM.F]) bG gV (by kernel_rfl) (LOk.allT (l:= [VR (bV f53 0) 0]) (by kernel_rfl) (.cons RS (.nil _))) (fun _=>rfl) (fun _ _=>rfl) ?_ ?_ ?_ ?_ (fun _=>rfl) ?_
 ·rintro⟨y0,y1,y2,y3,y4,y5,y6,y7,y8,y9,y10⟩;kernel_rfl
 ·rintro⟨y0,y1,y2,y3,y4,y5,y6,y7,y8,y9,y10⟩;kernel_rfl
 ·intro s x h
  have h:Fe s=some x:=h
  unfold Fe at h
  repeat' split at h
  all_goals cases h
  constructor<;>repeat(first|refine ab (by assumption) rfl ?_|refine aa rfl (by assumption) rfl ?_|exact rfl)
 ·rintro⟨y0,y1,y2,y3,y4,y5,y6,y7,y8,y9,y10⟩;kernel_rfl
 ·rintro⟨y0,y1,y2,y3,y4,y5,y6,y7,y8,y9,y10⟩ z;exact(And.intro rfl trivial)
abbrev kB:=List (List Int)×Int×Int×alV×alV×List Int×List alV×List alV×List alV×List (alV×(List (Int×(alV×Int))))
section
variable (y0:List (List Int))(y1 y2:Int)(y5:List Int)(y6:List alV)
def uh:List (List Int):= [qqq (v6 (↑y6.length:Int)) (0:Int)]
def GG:Bool:=aT y1 y2 y5
def GH:Bool:=ltI (↑y0.length:Int) (v9 .i64 ((200:Int) + nxV 2 y1 y2 y5))
def GI:Bool:=leI 0 (↑y6.length:Int)
def GJ:Bool:=leI (↑y6.length:Int) (↑y6.length:Int)
def GK:Bool:=leI ((↑(8:Nat):Int) * (↑y6.length:Int)) 281474976710656
def GL:Bool:=leI (↑y6.length:Int) 9223372036854775807
def GM:Bool:=leN (v7 y0 + v7 (uh y6)) 9223372036854775807
def GN:Bool:=leN ((v7 y0 + v7 (uh y6)) * 24) 140737488355328
def GO:List (List Int):=y0++uh y6
def rN:Int:=nxA 2 y1 y5
def qy:Int:=nxS 2 y1 y2 y5
end
def XH:kB→List (Nat×SV)
 |(_,_,_,_,_,_,_,_,_,_)=> [(5,(.one ⟨false,[.ref 0]⟩)),(0,(.one ⟨false,[.ptr 1 0]⟩)),(3,(.one ⟨false,[.ptr 2 0]⟩))]
def XB:kB→List (Nat×Entry)
 |(y0,y1,y2,y3,y4,y5,y6,y7,y8,y9)=> [(1,(.box 113 [.ref 3,.val (.int .i64 y1),.val (.int .i64 y2)])),(2,(.box 43 [.val (.string y3),.ref 4,.ref 5,.ref 6,.val (.string y4),.ref 7])),(3,(.row false 5 ake y5)),(4,(.row false 9 alu y6)),(5,(.row false 9 alu y7)),(6,(.row false 9 alu y8)),(7,(.row false 142 aaY y9)),(0,(.row true 28 ahG y0))]
def XS:Nat→kB→List (Nat×SV)
 |_,(_,_,_,_,_,_,_,_,_,_)=> [(5,(.one ⟨false,[.ref 0]⟩))]
def XN:Nat→kB→List (Nat×Entry)
 |_,(y0,y1,y2,y3,y4,y5,y6,y7,y8,y9)=> [(0,(.row true 28 ahG y0)),(1,(.box 113 [.ref 3,.val (.int .i64 (rN y1 y5)),.val (.int .i64 (qy y1 y2 y5))])),(2,(.box 43 [.val (.string y3),.ref 4,.ref 5,.ref 6,.val (.string y4),.ref 7])),(3,(.row false 5 ake y5)),(4,(.row false 9 alu y6)),(5,(.row false 9 alu y7)),(6,(.row false 9 alu y8)),(7,(.row false 142 aaY y9))]
def EX:kB→LT kB
 |(y0,y1,y2,y3,y4,y5,y6,y7,y8,y9)=> .need [GG y1 y2 y5] (.ite (GH y0 y1 y2 y5) (.need [GI y6,GJ y6,GK y6,GL y6,GM y0 y6,GN y0 y6] (.nrm ((GO y0 y6),rN y1 y5,qy y1 y2 y5,y3,y4,y5,y6,y7,y8,y9) [(0,832),(1,1),(2,2),(3,3),(4,4),(5,5),(6,6),(7,7)])) (.ext 0 [(0,0),(1,1),(2,2),(3,3),(4,4),(5,5),(6,6),(7,7)]))
def Ff(s:St):Option kB:=
 (match s.look 5 with
 |some ⟨none,.one ⟨false,[.ref 896]⟩⟩=>
 (match s.look 0 with
 |some ⟨none,.one ⟨false,[.ptr 0 0]⟩⟩=>
 (match s.look 3 with
 |some ⟨none,.one ⟨false,[.ptr 448 0]⟩⟩=>
 (match s.ent 0 with
 |some (.box 113 [.ref 5,.val (.int .i64 y1),.val (.int .i64 y2)])=>
 (match s.ent 448 with
 |some (.box 43 [.val (.string y3),.ref 1,.ref 2,.ref 3,.val (.string y4),.ref 4])=>
 (match s.ent 5 with
 |some (.row false 5 (.int IntKind.u8) y5)=>
 (match s.ent 1 with
 |some (.row false 9 (.str) y6)=>
 (match s.ent 2 with
 |some (.row false 9 (.str) y7)=>
 (match s.ent 3 with
 |some (.row false 9 (.str) y8)=>
 (match s.ent 4 with
 |some (.row false 142 (.pair .str (.sl 122 (.pair (.int .i64) (.pair .str (.int .i64))))) y9)=>
 (match s.ent 896 with
 |some (.row true 28 (.sl 2 (.int .i64)) y0)=>
 some (y0,y1,y2,y3,y4,y5,y6,y7,y8,y9)
 |_=>none)
 |_=>none)
 |_=>none)
 |_=>none)
 |_=>none)
 |_=>none)
 |_=>none)
 |_=>none)
 |_=>none)
 |_=>none)
 |_=>none)
def eF:Lp kB where
 h:=⟨[33,34,35,36,37,38,39,40,41,42,43,44,45,5],[1,2,3,4,5,6,7],[0],[]⟩
 JL:=XH
 JE:=XB
 XL:=XS
 XE:=XN
 q:=fun j=>match j with | _=> .exit 4
 tags:= [0]
 lt:=EX
 fuel:=fun(y0,y1,y2,y3,y4,y5,y6,y7,y8,y9)=>y0.length + y1.natAbs + y2.natAbs + y3.size + y4.size + y5.length + y6.length + y7.length + y8.length + y9.length
 fix:=fun(_,_,_,y3,y4,y5,y6,y7,y8,y9) (y0,y1,y2,_,_,_,_,_,_,_)=>(y0,y1,y2,y3,y4,y5,y6,y7,y8,y9)
 σ:= [(1,0),(2,448),(3,5),(4,1),(5,2),(6,3),(7,4),(0,896)]
 rd:=Ff
theorem VV:LoopOk prog (fun k=>Nat.blt k Tryz.f53.ntmps) eF.F (bV f53 1):=by
 refine Lp.ok (tbl:= (T3z [eN,ao,aE])) (lf:= []) bG eF (by kernel_rfl) (LOk.nil _) (fun _=>rfl) (fun _ _=>rfl) ?_ ?_ ?_ ?_ (fun _=>rfl) ?_
 ·rintro⟨y0,y1,y2,y3,y4,y5,y6,y7,y8,y9⟩;kernel_rfl
 ·rintro⟨y0,y1,y2,y3,y4,y5,y6,y7,y8,y9⟩;kernel_rfl
 ·intro s x h
  have h:Ff s=some x:=h
  unfold Ff at h
  repeat' split at h
  all_goals cases h
  constructor<;>repeat(first|refine ab (by assumption) rfl ?_|refine aa rfl (by assumption) rfl ?_|exact rfl)
 ·rintro⟨y0,y1,y2,y3,y4,y5,y6,y7,y8,y9⟩;kernel_rfl
 ·rintro⟨y0,y1,y2,y3,y4,y5,y6,y7,y8,y9⟩ z;exact(And.intro rfl trivial)
section
variable (x0 x1:alV)(x2 x3:Int)(x4 x5 x6:List alV)(x7:List (alV×List (Int×alV×Int)))(x8:List Int)
def Dg:List Int×List alV×List alV×List alV×List (alV×List (Int×alV×Int)):=(x8,x4,x5,x6,x7)
def Dh:Int×Int×Int×alV×alV×List (List Int)×List Int×List alV×List alV×List alV×List (alV×List (Int×alV×Int)):=(nxV 8 x2 x3 x8,nxA 8 x2 x8,nxS 8 x2 x3 x8,x0,x1,[],Dg x4 x5 x6 x7 x8)
def yG:Int×Int×alV×alV×List (List Int)×List Int×List alV×List alV×List alV×List (alV×List (Int×alV×Int)):=(Lp.res gV (Dh x0 x1 x2 x3 x4 x5 x6 x7 x8)).2.2
def uC:Int:=(yG x0 x1 x2 x3 x4 x5 x6 x7 x8).1
def Di:Int×alV×alV×List (List Int)×List Int×List alV×List alV×List alV×List (alV×List (Int×alV×Int)):=(yG x0 x1 x2 x3 x4 x5 x6 x7 x8).2
def yH:Int:=(Di x0 x1 x2 x3 x4 x5 x6 x7 x8).1
def yI:Bool:=nxV 80 (uC x0 x1 x2 x3 x4 x5 x6 x7 x8) (yH x0 x1 x2 x3 x4 x5 x6 x7 x8) x8==0
def Dj:List (List Int):=((Di x0 x1 x2 x3 x4 x5 x6 x7 x8).2.2.2).1
def Dk:Int:=nxA 80 (uC x0 x1 x2 x3 x4 x5 x6 x7 x8) x8
def Dm:Int:=nxS 80 (uC x0 x1 x2 x3 x4 x5 x6 x7 x8) (yH x0 x1 x2 x3 x4 x5 x6 x7 x8) x8
def sY:List (List Int)×Int×Int×alV×alV×List Int×List alV×List alV×List alV×List (alV×List (Int×alV×Int)):=(Dj x0 x1 x2 x3 x4 x5 x6 x7 x8,Dk x0 x1 x2 x3 x4 x5 x6 x7 x8,Dm x0 x1 x2 x3 x4 x5 x6 x7 x8,x0,x1,Dg x4 x5 x6 x7 x8)
def xg:Int×Int×alV×alV×List Int×List alV×List alV×List alV×List (alV×List (Int×alV×Int)):=(Lp.res eF (sY x0 x1 x2 x3 x4 x5 x6 x7 x8)).2.2
def BN:Int:=(xg x0 x1 x2 x3 x4 x5 x6 x7 x8).1
def nT:Int:=bif yI x0 x1 x2 x3 x4 x5 x6 x7 x8 then rN (BN x0 x1 x2 x3 x4 x5 x6 x7 x8) x8 else Dk x0 x1 x2 x3 x4 x5 x6 x7 x8
def pO:Int:=bif yI x0 x1 x2 x3 x4 x5 x6 x7 x8 then qy (BN x0 x1 x2 x3 x4 x5 x6 x7 x8) (((xg x0 x1 x2 x3 x4 x5 x6 x7 x8).2).1) x8 else Dm x0 x1 x2 x3 x4 x5 x6 x7 x8
def bh:List (List Int):=bif yI x0 x1 x2 x3 x4 x5 x6 x7 x8 then ((Lp.res eF (sY x0 x1 x2 x3 x4 x5 x6 x7 x8)).2).1else Dj x0 x1 x2 x3 x4 x5 x6 x7 x8
def LL:Bool:=allT [aT x2 x3 x8,Lp.fin gV (Dh x0 x1 x2 x3 x4 x5 x6 x7 x8),aT (uC x0 x1 x2 x3 x4 x5 x6 x7 x8) (yH x0 x1 x2 x3 x4 x5 x6 x7 x8) x8,!yI x0 x1 x2 x3 x4 x5 x6 x7 x8||Lp.fin eF (sY x0 x1 x2 x3 x4 x5 x6 x7 x8)]
end
def Sk:List SV→List Entry→Option Out
 | [.one ⟨false,[.ptr 0 0]⟩,.one ⟨true,[.val (.string x0),.ref 1,.ref 2,.ref 3,.val (.string x1),.ref 4]⟩],[.box 113 [.ref 5,.val (.int .i64 x2),.val (.int .i64 x3)],.row false 9 (.str) x4,.row false 9 (.str) x5,.row false 9 (.str) x6,.row false 142 (.pair (.str) (.sl 122 (.pair (.int .i64) (.pair (.str) (.int .i64))))) x7,.row false 5 (.int .u8) x8]=>some ⟨.one ⟨false,[.ref 6]⟩,[.box 113 [.ref 5,.val (.int .i64 (nT x0 x1 x2 x3 x4 x5 x6 x7 x8)),.val (.int .i64 (pO x0 x1 x2 x3 x4 x5 x6 x7 x8))],.row false 9 alu x4,.row false 9 alu x5,.row false 9 alu x6,.row false 142 (CTy.pair CTy.str (CTy.sl (122:TypeId) afs)) x7,.row false 5 ake x8],[.row true 28 ahG (bh x0 x1 x2 x3 x4 x5 x6 x7 x8)],[LL x0 x1 x2 x3 x4 x5 x6 x7 x8]⟩
 |_,_=>none
def aee:PF prog:=PF.ofG prog (T3z [eN,ao,aE]) [gV.F,eF.F] bG 53 f53 func53 (LOk.fnT (l:= [bV f53 0,bV f53 1]) (by kernel_rfl) (.cons VU (.cons VV (.nil _)))) Sk (by
 intro vs es r h;unfold Sk at h;split at h
 ·cases h;kernel_rfl
 ·cases h)
theorem S1:(∀ b:Bool,(b||false)=b)∧((false=true)=False)∧(∀ a b:Bool,((a&&b)=true)=(a=true∧b=true))∧(∀ a b:Int,(ltI a b=true)=(a < b))∧(∀ a b:Int,(leI a b=true)=(a≤b))∧(∀ a b:Int,(ltI a b=false)=(b≤a))∧(∀ a b:Int,(leI a b=false)=(b < a)):=by and_intros <;> intros <;> simp
theorem S2:(∀ (α:Type) (a b:List α),(a++b).length=a.length + b.length)∧(∀ (α:Type) (a:α) (l:List α),(a::l).length=l.length + 1)∧(∀ α:Type,([]:List α).length=0):=by and_intros <;> intros <;> simp
theorem se{a b:Bool}(h:b=true):(a||b)=true:=by rw [h,v3]
theorem HH{b:Bool}{l:List Bool}:allT (b::l)=true↔b=true∧allT l=true:=by cases b <;> simp [allT]
theorem HI:allT []=true↔True:=by simp [allT]
theorem fo{α:Type}{t:Bool}{l l':List α}{n:Nat}(h:l.length≤n)(h':l'.length≤n):(bif t then l else l').length≤n:=by cases t <;> assumption
def LT.ok{X:Type}(J:X→Prop)(Q:Nat→Prop):LT X→Prop
 | .nrm x _=>J x
 | .ext j _=>Q j
 | .need nd t=>allT nd=true∧t.ok J Q
 | .ite b t e=>(b=true→t.ok J Q)∧(b=false→e.ok J Q)
theorem LT.ok_out{X:Type}{J:X→Prop}{Q:Nat→Prop}: ∀ {t:LT X},t.ok J Q→(∃ j,t.out=some (.inl j)∧Q j)∨ ∃ y,t.out=some (.inr y)∧J y
 | .nrm x _,h=> .inr ⟨x,rfl,h⟩
 | .ext j _,h=> .inl ⟨j,rfl,h⟩
 | .need nd t,h=>by
  simp only [LT.ok]at h
  simp only [LT.out,h.1,cond_true]
  exact LT.ok_out (t:=t) h.2
 | .ite b t e,h=>by
  simp only [LT.ok]at h
  simp only [LT.out]
  cases b with
  |true=>exact LT.ok_out (t:=t) (h.1 rfl)
  |false=>exact LT.ok_out (t:=e) (h.2 rfl)
theorem Lp.inv2{X:Type}(p:Lp X)(I:Nat→X→Prop)(Q:X→Prop)(hs: ∀ k x,I (k + 1) x→(p.lt x).ok (I k) (fun _=>Q x))(he: ∀ x,I 0 x→(p.lt x).ok (fun _=>False) (fun _=>Q x))
  (N:Nat) (x:X) (hN:N≤999) (h:I N x):p.fin x=true∧ ∃ j y,p.res x=(j,y)∧Q y:=
 p.inv I (fun _ y=>Q y) (fun k x hx=>LT.ok_out (hs k x hx)) (fun x hx=>by
  rcases LT.ok_out (he x hx)with h | ⟨_,_,h⟩
  ·exact h
  ·exact h.elim) N x hN h
theorem ak2{α:Type}{l:List α}(h:ltI 0 (l.length:Int)=true):1≤l.length:=by have:=GX.1 h;omega
 attribute [local irreducible] nxA nxS nxV pkA pkS pkV
theorem Ty(c:List Int)(x:iy)(hx:match x with | (y0,y1,y2,y3,y4,y5,y6,y7,y8,y9,y10)=>(y6.length:Int)≤y0 + (50:Nat)∧0≤y0∧y0≤(y6.length:Int)∧(y3.length:Int)=y0∧aT y4 y5 y10=true∧y10=c∧y6.length≤50):
  fj.fin x=true∧ ∃ j y,fj.res x=(j,y)∧(match y with | (y0,y1,y2,y3,y4,y5,y6,y7,y8,y9,y10)=>aT y4 y5 c=true∧y3.length≤50∧c=y10):=by
 refine fj.inv2 (fun k x=>match x with | (y0,y1,y2,y3,y4,y5,y6,y7,y8,y9,y10)=>(y6.length:Int)≤y0 + k∧0≤y0∧y0≤(y6.length:Int)∧(y3.length:Int)=y0∧aT y4 y5 y10=true∧y10=c∧y6.length≤50) (fun y=>match y with | (y0,y1,y2,y3,y4,y5,y6,y7,y8,y9,y10)=>aT y4 y5 c=true∧y3.length≤50∧c=y10) (fun k x hx=> ?_) (fun x hx=> ?_) 50 x (by omega) hx
 ·obtain⟨y0,y1,y2,y3,y4,y5,y6,y7,y8,y9,y10⟩:=x
  obtain⟨h0,h1,h2,h3,h4,rfl,h6⟩:=hx
  skip
  simp only [fj,Co,LT.ok,HH,HI,and_true,rV,DR,DS,DT,DU,DV,DW,DX,DY,Bool.or_eq_true,q9]
  repeat' (first | refine And.intro ?_ ?_ | intro _)
  all_goals first
   |omega
   |(repeat (first | assumption | apply kz | apply Ot | apply pk | refine Or.inr ?_ | refine And.intro ?_ ?_ | exact trivial | exact aea _ _ | rfl)
     done)
   |((repeat refine Or.inr ?_)
     exact aR (by first | omega | (simp only [S2];omega)))
   |(simp only [S2]
     omega)
   |(repeat' apply fo
     all_goals first | omega | (simp only [S2];omega))
   |(try simp only [S1]at *
     rw [aJ (by omega) (by omega)]
     first | omega | (simp only [S2];omega))
   |(simp only [S1]at *
     first | omega | (exfalso;omega))
   |(exfalso;simp_all;done)
 ·obtain⟨y0,y1,y2,y3,y4,y5,y6,y7,y8,y9,y10⟩:=x
  obtain⟨h0,h1,h2,h3,h4,rfl,h6⟩:=hx
  skip
  skip
  simp only [fj,Co,LT.ok,HH,HI,and_true,rV,DR,DS,DT,DU,DV,DW,DX,DY,Bool.or_eq_true,q9]
  repeat' (first | refine And.intro ?_ ?_ | intro _)
  all_goals first
   |omega
   |(repeat (first | assumption | apply kz | apply Ot | apply pk | refine Or.inr ?_ | refine And.intro ?_ ?_ | exact trivial | exact aea _ _ | rfl)
     done)
   |((repeat refine Or.inr ?_)
     exact aR (by first | omega | (simp only [S2];omega)))
   |(simp only [S2]
     omega)
   |(repeat' apply fo
     all_goals first | omega | (simp only [S2];omega))
   |(try simp only [S1]at *
     rw [aJ (by omega) (by omega)]
     first | omega | (simp only [S2];omega))
   |(simp only [S1]at *
     first | omega | (exfalso;omega))
   |(exfalso;simp_all;done)
theorem DQ(x0 x1:alV)(x2 x3:Int)(x4 x5 x6:List alV)(x7:List LN)(x8:List Int)(h:aT x2 x3 x8=true)(hi:x4.length≤50):
  BM x0 x1 x2 x3 x4 x5 x6 x7 x8=true∧aT (lS x0 x1 x2 x3 x4 x5 x6 x7 x8) (nD x0 x1 x2 x3 x4 x5 x6 x7 x8) x8=true∧(sX x0 x1 x2 x3 x4 x5 x6 x7 x8).length≤60:=by
 obtain⟨f0,j0,⟨z0,z1,z2,z3,z4,z5,z6,z7,z8,z9,z10⟩,g0,q1,q2,q3⟩:=Ty x8 (AK x0 x1 x2 x3 x4 x5 x6 x7 x8) (by
  simp only [AK]
  exact⟨by omega,by omega,by omega,by simp,h,trivial,hi⟩)
 have e9:iV x0 x1 x2 x3 x4 x5 x6 x7 x8=z3:=by simp only [iV,vu,g0]
 have e3:rM x0 x1 x2 x3 x4 x5 x6 x7 x8=z4:=by simp only [rM,AL,vu,g0]
 have e4:vv x0 x1 x2 x3 x4 x5 x6 x7 x8=z5:=by simp only [vv,AL,vu,g0]
 have s7:aT (kL x0 x1 x2 x3 x4 x5 x6 x7 x8) (lT x0 x1 x2 x3 x4 x5 x6 x7 x8) x8=true:=by
  simp only [kL,lT,e3,e4];exact kz q1
 have k1:leN (z3.length + [(0:Int)].length) 9223372036854775807=true:=aR (by simp only [w7];omega)
 have k2:leN ((z3.length + [(0:Int)].length) * 8) 140737488355328=true:=aR (by simp only [w7];omega)
 have k3:leN 1 (v7 [(-1:Int),2])=true:=rfl
 have k4:fN x0 x1 x2 x3 x4 x5 x6 x7 x8=true→ltN (v6 0) z3.length=true:=fun hh=>by
  simp only [fN,e9]at hh;exact dI (by have:=ak2 hh;simp only [Int.toNat_zero];omega)
 have k5:leI 0 0=true:=rfl
 refine⟨?_,?_,?_⟩
 ·simp only [BM,f0,e3,e4,e9,q1,s7,k1,k2,k3,k5,allT,v3,Bool.and_self,cond_true]
  cases h10:fN x0 x1 x2 x3 x4 x5 x6 x7 x8 with
  |true=>simp only [k4 h10,v3,cond_true]
  |false=>simp only [Bool.not_false,Bool.true_or,v3,cond_true]
 ·simp only [lS,nD]
  exact pk s7 (pk (pk (Ot s7) s7) s7)
 ·simp only [sX,e9]
  refine fo (by rw [w8,w7];omega) (fo (fo (by rw [List.length_set];omega) (by omega)) (by omega))
theorem ait{a s:Int}{c:List Int}{l:List alV}:(aT a s c&&leN l.length 50)=true↔aT a s c=true∧l.length≤50:=by simp only [q9,iv]
def QJ:List SV→List Entry→Option Out
 | [.one ⟨false,[.ptr 0 0]⟩,.one ⟨true,[.val (.string x0),.ref 1,.ref 2,.ref 3,.val (.string x1),.ref 4]⟩],[.box 113 [.ref 5,.val (.int .i64 x2),.val (.int .i64 x3)],.row false 9 (.str) x4,.row false 9 (.str) x5,.row false 9 (.str) x6,.row false 142 (.pair (.str) (.sl 122 (.pair (.int .i64) (.pair (.str) (.int .i64))))) x7,.row false 5 (.int .u8) x8]=>some ⟨.one ⟨false,[.ref 6]⟩,[.box 113 [.ref 5,.val (.int .i64 (lS x0 x1 x2 x3 x4 x5 x6 x7 x8)),.val (.int .i64 (nD x0 x1 x2 x3 x4 x5 x6 x7 x8))],.row false 9 alu x4,.row false 9 alu x5,.row false 9 alu x6,.row false 142 (CTy.pair CTy.str (CTy.sl (122:TypeId) afs)) x7,.row false 5 ake x8],[.row true 2 akd (sX x0 x1 x2 x3 x4 x5 x6 x7 x8)],[aT x2 x3 x8&&leN x4.length 50]⟩
 |_,_=>none
def Ie:PF prog:=PF.alt eN QJ (by
 intro args es o h cf;unfold QJ at h;split at h
 ·rename_i x0 x1 x2 x3 x4 x5 x6 x7 x8
  cases h
  have cf:=iw cf
  have hh:=(DQ x0 x1 x2 x3 x4 x5 x6 x7 x8 (ait.1 cf).1 (ait.1 cf).2).1
  have en:=hh
  exact mK rfl (gE en) rfl rfl rfl
 ·cases h)
def WO(n:Nat)(l:List (List Int)):Bool:=l.all fun x=>leN x.length n
theorem aie{n:Nat}{l:List (List Int)}:WO n l=true↔ ∀ x∈l,x.length≤n:=by simp only [WO,List.all_eq_true,iv]
theorem afh{n:Nat}{a:List (List Int)}{b:List Int}(h:WO n a=true)(hb:b.length≤n):WO n (a++ [b])=true:=by
 refine aie.2 fun x hx=> ?_
 rcases j7.1 hx with hx | hx
 ·exact aie.1 h x hx
 ·rw [qqz.1 hx];exact hb
theorem RW(M:Nat)(x:gS)(hx:match x with | (y0,y1,y2)=>y0 + 1≤(4:Nat)∧ -1≤y0∧y2.length≤60∧y1.length + (4:Nat)≤M∧M≤1000∧WO 60 y1=true):
  eM.fin x=true∧ ∃ j y,eM.res x=(j,y)∧(match y with | (y0,y1,y2)=>y1.length≤M∧WO 60 y1=true):=by
 refine eM.inv2 (fun k x=>match x with | (y0,y1,y2)=>y0 + 1≤k∧ -1≤y0∧y2.length≤60∧y1.length + k≤M∧M≤1000∧WO 60 y1=true) (fun y=>match y with | (y0,y1,y2)=>y1.length≤M∧WO 60 y1=true) (fun k x hx=> ?_) (fun x hx=> ?_) 4 x (by omega) hx
 ·obtain⟨y0,y1,y2⟩:=x
  obtain⟨h0,h1,h2,h3,h4,h5⟩:=hx
  skip
  simp only [eM,Bd,LT.ok,HH,HI,and_true,Ct,Cu,Cv,Cw,Cx,Cy,Bool.or_eq_true,q9]
  repeat' (first | refine And.intro ?_ ?_ | intro _)
  all_goals first
   |omega
   |(repeat (first | assumption | apply kz | apply Ot | apply pk | refine Or.inr ?_ | refine And.intro ?_ ?_ | exact trivial | exact aea _ _ | rfl | exact afh ‹_› ‹_›)
     done)
   |((repeat refine Or.inr ?_)
     exact aR (by first | omega | (simp only [S2];omega)))
   |(simp only [S2]
     omega)
   |(repeat' apply fo
     all_goals first | omega | (simp only [S2];omega))
   |(try simp only [S1]at *
     rw [aJ (by omega) (by omega)]
     first | omega | (simp only [S2];omega))
   |(simp only [S1]at *
     first | omega | (exfalso;omega))
   |(exfalso;simp_all;done)
 ·obtain⟨y0,y1,y2⟩:=x
  obtain⟨h0,h1,h2,h3,h4,h5⟩:=hx
  skip
  skip
  simp only [eM,Bd,LT.ok,HH,HI,and_true,Ct,Cu,Cv,Cw,Cx,Cy,Bool.or_eq_true,q9]
  repeat' (first | refine And.intro ?_ ?_ | intro _)
  all_goals first
   |omega
   |(repeat (first | assumption | apply kz | apply Ot | apply pk | refine Or.inr ?_ | refine And.intro ?_ ?_ | exact trivial | exact aea _ _ | rfl | exact afh ‹_› ‹_›)
     done)
   |((repeat refine Or.inr ?_)
     exact aR (by first | omega | (simp only [S2];omega)))
   |(simp only [S2]
     omega)
   |(repeat' apply fo
     all_goals first | omega | (simp only [S2];omega))
   |(try simp only [S1]at *
     rw [aJ (by omega) (by omega)]
     first | omega | (simp only [S2];omega))
   |(simp only [S1]at *
     first | omega | (exfalso;omega))
   |(exfalso;simp_all;done)
theorem Wi(c:List Int)(x:kB)(hx:match x with | (y0,y1,y2,y3,y4,y5,y6,y7,y8,y9)=>202≤y0.length + (202:Nat)∧aT y1 y2 y5=true∧y6.length≤50∧y0.length + (202:Nat)≤432∧WO 60 y0=true∧y5=c):
  eF.fin x=true∧ ∃ j y,eF.res x=(j,y)∧(match y with | (y0,y1,y2,y3,y4,y5,y6,y7,y8,y9)=>aT y1 y2 c=true∧y0.length≤432∧WO 60 y0=true∧c=y5):=by
 refine eF.inv2 (fun k x=>match x with | (y0,y1,y2,y3,y4,y5,y6,y7,y8,y9)=>202≤y0.length + k∧aT y1 y2 y5=true∧y6.length≤50∧y0.length + k≤432∧WO 60 y0=true∧y5=c) (fun y=>match y with | (y0,y1,y2,y3,y4,y5,y6,y7,y8,y9)=>aT y1 y2 c=true∧y0.length≤432∧WO 60 y0=true∧c=y5) (fun k x hx=> ?_) (fun x hx=> ?_) 202 x (by omega) hx
 ·obtain⟨y0,y1,y2,y3,y4,y5,y6,y7,y8,y9⟩:=x
  obtain⟨h0,h1,h2,h3,h4,rfl⟩:=hx
  have nn:=OB (n:=2) h1 (by omega);have hw:IntKind.i64.wrap (200 + nxV 2 y1 y2 y5)=200 + nxV 2 y1 y2 y5:=aJ (by omega) (by omega);have hz:WO 60 (y0++ [qqq (v6 (↑y6.length:Int)) (0:Int)])=true:=afh h4 (by rw [v4,w5];omega)
  simp only [eF,EX,LT.ok,HH,HI,and_true,uh,GG,GH,GI,GJ,GK,GL,GM,GN,GO,rN,qy,Bool.or_eq_true,q9]
  repeat' (first | refine And.intro ?_ ?_ | intro _)
  all_goals first
   |omega
   |(repeat (first | assumption | apply kz | apply Ot | apply pk | refine Or.inr ?_ | refine And.intro ?_ ?_ | exact trivial | exact aea _ _ | rfl)
     done)
   |((repeat refine Or.inr ?_)
     exact aR (by first | omega | (simp only [S2];omega)))
   |(simp only [S2]
     omega)
   |(repeat' apply fo
     all_goals first | omega | (simp only [S2];omega))
   |(try simp only [S1]at *
     rw [aJ (by omega) (by omega)]
     first | omega | (simp only [S2];omega))
   |(simp only [S1]at *
     first | omega | (exfalso;omega))
   |(exfalso;simp_all;done)
 ·obtain⟨y0,y1,y2,y3,y4,y5,y6,y7,y8,y9⟩:=x
  obtain⟨h0,h1,h2,h3,h4,rfl⟩:=hx
  have nn:=OB (n:=2) h1 (by omega);have hw:IntKind.i64.wrap (200 + nxV 2 y1 y2 y5)=200 + nxV 2 y1 y2 y5:=aJ (by omega) (by omega);have hz:WO 60 (y0++ [qqq (v6 (↑y6.length:Int)) (0:Int)])=true:=afh h4 (by rw [v4,w5];omega)
  have e0:ltI (y0.length:Int) (IntKind.i64.wrap (200 + nxV 2 y1 y2 y5))=false:=by rw [hw];exact wO (by omega)
  simp only [eF,EX,LT.ok,HH,HI,and_true,uh,GG,GH,GI,GJ,GK,GL,GM,GN,GO,rN,qy,Bool.or_eq_true,q9]
  repeat' (first | refine And.intro ?_ ?_ | intro _)
  all_goals first
   |omega
   |(repeat (first | assumption | apply kz | apply Ot | apply pk | refine Or.inr ?_ | refine And.intro ?_ ?_ | exact trivial | exact aea _ _ | rfl)
     done)
   |((repeat refine Or.inr ?_)
     exact aR (by first | omega | (simp only [S2];omega)))
   |(simp only [S2]
     omega)
   |(repeat' apply fo
     all_goals first | omega | (simp only [S2];omega))
   |(try simp only [S1]at *
     rw [aJ (by omega) (by omega)]
     first | omega | (simp only [S2];omega))
   |(simp only [S1]at *
     first | omega | (exfalso;omega))
   |(exfalso;simp_all;done)
theorem Wh(c:List Int)(x:kA)(hx:match x with | (y0,y1,y2,y3,y4,y5,y6,y7,y8,y9,y10)=>y0≤((7:Nat):Int)∧aT y1 y2 y6=true∧y7.length≤50∧y5.length + 4 * (7:Nat)≤28∧WO 60 y5=true∧y6=c):
  gV.fin x=true∧ ∃ j y,gV.res x=(j,y)∧(match y with | (y0,y1,y2,y3,y4,y5,y6,y7,y8,y9,y10)=>aT y1 y2 c=true∧y5.length≤28∧WO 60 y5=true∧c=y6):=by
 refine gV.inv2 (fun k x=>match x with | (y0,y1,y2,y3,y4,y5,y6,y7,y8,y9,y10)=>y0≤(k:Int)∧aT y1 y2 y6=true∧y7.length≤50∧y5.length + 4 * k≤28∧WO 60 y5=true∧y6=c) (fun y=>match y with | (y0,y1,y2,y3,y4,y5,y6,y7,y8,y9,y10)=>aT y1 y2 c=true∧y5.length≤28∧WO 60 y5=true∧c=y6) (fun k x hx=> ?_) (fun x hx=> ?_) 7 x (by omega) hx
 ·obtain⟨y0,y1,y2,y3,y4,y5,y6,y7,y8,y9,y10⟩:=x
  obtain⟨h0,h1,h2,h3,h4,rfl⟩:=hx
  obtain⟨d1,d2,d3⟩:=DQ y3 y4 y1 y2 y7 y8 y9 y10 y6 h1 h2
  have n4:=OB (n:=4) d2 (by omega)
  obtain⟨f0,j0,⟨z0,z1,z2⟩,g0,q1,q2⟩:=RW (y5.length + 4) (yW y1 y2 y3 y4 y5 y6 y7 y8 y9 y10) (by
   simp only [yW]
   exact⟨by omega,by omega,d3,by omega,by omega,h4⟩)
  have p1:GD y1 y2 y3 y4 y6 y7 y8 y9 y10=true:=by first | exact d1 | (simp only [GD,h1,Bool.true_and];exact aR h2)
  have p2:OM y1 y2 y3 y4 y6 y7 y8 y9 y10=true:=d2
  have p3:ON y1 y2 y3 y4 y5 y6 y7 y8 y9 y10=true:=f0
  have p7:GF y1 y2 y3 y4 y5 y6 y7 y8 y9 y10=z1:=by simp only [GF,g0]
  have p56:aT (OO y1 y2 y3 y4 y6 y7 y8 y9 y10) (OP y1 y2 y3 y4 y6 y7 y8 y9 y10) y6=true:=kz d2
  have w4:ltI 0 y0=true→GE y0≤(k:Int):=fun h=>by
   have:=GX.1 h
   simp only [GE];rw [aJ (by omega) (by omega)];omega
  simp only [gV,EW,LT.ok,HH,HI,and_true,true_and,p1,p2,p3,p7,GC]
  exact⟨fun h=>⟨w4 h,p56,h2,by omega,q2⟩,fun _=>⟨h1,by omega,h4⟩⟩
 ·obtain⟨y0,y1,y2,y3,y4,y5,y6,y7,y8,y9,y10⟩:=x
  obtain⟨h0,h1,h2,h3,h4,rfl⟩:=hx
  have e0:ltI 0 y0=false:=wO (by omega)
  simp only [gV,EW,LT.ok,GC,e0,Bool.false_eq_true,false_implies,true_implies,true_and,and_true]
  exact⟨h1,by omega,h4⟩
theorem OL(x0 x1:alV)(x2 x3:Int)(x4 x5 x6:List alV)(x7:List LN)(x8:List Int)(h:aT x2 x3 x8=true)(hi:x4.length≤50):
  LL x0 x1 x2 x3 x4 x5 x6 x7 x8=true∧aT (nT x0 x1 x2 x3 x4 x5 x6 x7 x8) (pO x0 x1 x2 x3 x4 x5 x6 x7 x8) x8=true∧(bh x0 x1 x2 x3 x4 x5 x6 x7 x8).length≤432∧WO 60 (bh x0 x1 x2 x3 x4 x5 x6 x7 x8)=true:=by
 have n8:=OB (n:=8) h (by omega)
 obtain⟨f0,j0,⟨z0,z1,z2,z3,z4,z5,z6,z7,z8,z9,z10⟩,g0,q1,q2,q3,q4⟩:=Wh x8 (Dh x0 x1 x2 x3 x4 x5 x6 x7 x8) (by
  simp only [Dh,Dg]
  exact⟨by omega,kz h,hi,by simp,rfl,trivial⟩)
 have e3:uC x0 x1 x2 x3 x4 x5 x6 x7 x8=z1:=by simp only [uC,yG,g0]
 have e5:yH x0 x1 x2 x3 x4 x5 x6 x7 x8=z2:=by simp only [yH,Di,yG,g0]
 have e7:Dj x0 x1 x2 x3 x4 x5 x6 x7 x8=z5:=by simp only [Dj,Di,yG,g0]
 have s8:aT (Dk x0 x1 x2 x3 x4 x5 x6 x7 x8) (Dm x0 x1 x2 x3 x4 x5 x6 x7 x8) x8=true:=by simp only [Dk,Dm,e3,e5];exact kz q1
 obtain⟨f1,j1,⟨u0,u1,u2,u3,u4,u5,u6,u7,u8,u9⟩,g1,r1,r2,r3,r4⟩:=Wi x8 (sY x0 x1 x2 x3 x4 x5 x6 x7 x8) (by
  simp only [sY,Dg,e7]
  exact⟨by omega,s8,hi,by omega,q3,trivial⟩)
 have e12:BN x0 x1 x2 x3 x4 x5 x6 x7 x8=u1:=by simp only [BN,xg,g1]
 have e13:((xg x0 x1 x2 x3 x4 x5 x6 x7 x8).2).1=u2:=by simp only [xg,g1]
 have e14:((Lp.res eF (sY x0 x1 x2 x3 x4 x5 x6 x7 x8)).2).1=u0:=by simp only [g1]
 refine⟨?_,?_,?_,?_⟩
 ·simp only [LL,h,f0,f1,e3,e5,q1,allT,v3,cond_true]
 ·simp only [nT,pO,e12,e13,rN,qy]
  exact pk (kz r1) s8
 ·simp only [bh,e7,e14]
  exact fo r2 (by omega)
 ·simp only [bh,e7,e14]
  cases yI x0 x1 x2 x3 x4 x5 x6 x7 x8
  ·exact q3
  ·exact r3
def Sq:List SV→List Entry→Option Out
 | [.one ⟨false,[.ptr 0 0]⟩,.one ⟨true,[.val (.string x0),.ref 1,.ref 2,.ref 3,.val (.string x1),.ref 4]⟩],[.box 113 [.ref 5,.val (.int .i64 x2),.val (.int .i64 x3)],.row false 9 (.str) x4,.row false 9 (.str) x5,.row false 9 (.str) x6,.row false 142 (.pair (.str) (.sl 122 (.pair (.int .i64) (.pair (.str) (.int .i64))))) x7,.row false 5 (.int .u8) x8]=>some ⟨.one ⟨false,[.ref 6]⟩,[.box 113 [.ref 5,.val (.int .i64 (nT x0 x1 x2 x3 x4 x5 x6 x7 x8)),.val (.int .i64 (pO x0 x1 x2 x3 x4 x5 x6 x7 x8))],.row false 9 alu x4,.row false 9 alu x5,.row false 9 alu x6,.row false 142 (CTy.pair CTy.str (CTy.sl (122:TypeId) afs)) x7,.row false 5 ake x8],[.row true 28 ahG (bh x0 x1 x2 x3 x4 x5 x6 x7 x8)],[aT x2 x3 x8&&leN x4.length 50]⟩
 |_,_=>none
def vV:PF prog:=PF.alt aee Sq (by
 intro args es o h cf;unfold Sq at h;split at h
 ·rename_i x0 x1 x2 x3 x4 x5 x6 x7 x8
  cases h
  have cf:=iw cf
  have hh:=(OL x0 x1 x2 x3 x4 x5 x6 x7 x8 (ait.1 cf).1 (ait.1 cf).2).1
  have en:=hh
  exact mK rfl (gE en) rfl rfl rfl
 ·cases h)
end Go.SX
namespace Go.SX
open Go.Proofs Go.Proofs.Tryz
set_option maxRecDepth 100000
def SL(n:Nat)(l:List alV):Bool:=leN l.length n&&l.all fun s=>leN s.size 1000
def apd(n:Nat)(l:List TM):Bool:=leN l.length n&&l.all fun t=>leN t.2.1.size 1000
def WY(n:Nat)(ls:List LN):Bool:=leN ls.length n&&ls.all fun l=>leN l.1.size 1000&&apd 100 l.2
def prD(nm:alV)(ins vs os:List alV)(g:alV)(ls:List LN):Bool:=leN nm.size 1000&&(SL 50 ins&&(SL 50 vs&&(SL 50 os&&(leN g.size 1000&&WY 100 ls))))
theorem rT{n:Nat}{l:List alV}:SL n l=true↔l.length≤n∧ ∀ s∈l,s.size≤1000:=by simp only [SL,q9,iv,List.all_eq_true]
theorem Xu{n:Nat}{l:List TM}:apd n l=true↔l.length≤n∧ ∀ t∈l,t.2.1.size≤1000:=by simp only [apd,q9,iv,List.all_eq_true]
theorem Km{n:Nat}{l:List LN}:WY n l=true↔l.length≤n∧ ∀ x∈l,x.1.size≤1000∧apd 100 x.2=true:=by simp only [WY,q9,iv,List.all_eq_true]
theorem afM{nm:alV}{ins vs os:List alV}{g:alV}{ls:List LN}:prD nm ins vs os g ls=true↔
  nm.size≤1000∧SL 50 ins=true∧SL 50 vs=true∧SL 50 os=true∧g.size≤1000∧WY 100 ls=true:=by simp only [prD,q9,iv]
theorem agD{n m:Nat}{l:List alV}(h:SL n l=true)(hm:n≤m):SL m l=true:=by
 obtain⟨h1,h2⟩:=rT.1 h;exact rT.2 ⟨by omega,h2⟩
theorem aoX{n m:Nat}{l:List LN}(h:WY n l=true)(hm:n≤m):WY m l=true:=by
 obtain⟨h1,h2⟩:=Km.1 h;exact Km.2 ⟨by omega,h2⟩
theorem ame{n m k:Nat}{a b:List alV}(ha:SL n a=true)(hb:SL m b=true)(h:n + m≤k):SL k (a++b)=true:=by
 obtain⟨h1,h2⟩:=rT.1 ha;obtain⟨h3,h4⟩:=rT.1 hb
 exact rT.2 ⟨by rw [w8];omega,fun s hs=>(j7.1 hs).elim (h2 s) (h4 s)⟩
theorem agE{n:Nat}(k:Nat){l:List alV}(h:SL n l=true):SL n (l.take k)=true:=by
 obtain⟨h1,h2⟩:=rT.1 h
 exact rT.2 ⟨by rw [w9];omega,fun s hs=>h2 s (List.mem_of_mem_take hs)⟩
theorem apN{n:Nat}{a:List LN}{b:LN}(ha:WY n a=true)(h1:b.1.size≤1000)(h2:apd 100 b.2=true):WY (n + 1) (a++ [b])=true:=by
 obtain⟨k1,k2⟩:=Km.1 ha
 refine Km.2 ⟨by rw [w8,w7];omega,fun x hx=> ?_⟩
 rcases j7.1 hx with hx | hx
 ·exact k2 x hx
 ·rw [qqz.1 hx];exact⟨h1,h2⟩
theorem aql{n m:Nat}{l:List TM}(h:dtL n l)(hm:n≤m):apd m l=true:=Xu.2 ⟨by have:=h.2.1;omega,h.2.2⟩
theorem aqZ{n:Nat}{l:List alV}(h:SL n l=true)(k:Nat):(v8 l[k]? ByteArray.empty).size≤1000:=by
 cases hk:l[k]? with
 |none=>exact Nat.zero_le _
 |some s=>exact(rT.1 h).2 s (List.mem_of_getElem? hk)
 attribute [local irreducible] nxA nxS nxV pkA pkS pkV
theorem abA(c:List Int)(x:oU)(hx:match x with | (y0,y1,y2,y3,y4,y5)=>y0.length≤(5:Nat)∧SL 50 y0=true∧aT y1 y2 y5=true∧(y3.length + y0.length≤50∧1≤y3.length + y0.length)∧WY y3.length y3=true∧amf y4=true∧y5=c):
  kq.fin x=true∧ ∃ j y,kq.res x=(j,y)∧(match y with | (y0,y1,y2,y3,y4,y5)=>aT y1 y2 c=true∧(1≤y3.length∧y3.length≤50)∧WY y3.length y3=true∧c=y5):=by
 refine kq.inv2 (fun k x=>match x with | (y0,y1,y2,y3,y4,y5)=>y0.length≤k∧SL 50 y0=true∧aT y1 y2 y5=true∧(y3.length + y0.length≤50∧1≤y3.length + y0.length)∧WY y3.length y3=true∧amf y4=true∧y5=c) (fun y=>match y with | (y0,y1,y2,y3,y4,y5)=>aT y1 y2 c=true∧(1≤y3.length∧y3.length≤50)∧WY y3.length y3=true∧c=y5) (fun k x hx=> ?_) (fun x hx=> ?_) 5 x (by omega) hx
 ·obtain⟨y0,y1,y2,y3,y4,y5⟩:=x
  obtain⟨h0,h1,h2,⟨h3,h4⟩,h5,h6,rfl⟩:=hx
  cases ht:ltI 0 (y0.length:Int)with
  |false=>
   have:=UA.1 ht
   simp only [kq,EV,LT.ok,He,ht,Bool.false_eq_true,false_implies,true_implies,true_and,and_true]
   exact⟨h2,by omega,h5⟩
  |true=>
   have hp:=ak2 ht
   obtain⟨i0,i1⟩:=OB (n:=(y0.length:Int)) h2 (by omega)
   have s5:aT (nxA (y0.length:Int) y1 y5) (nxS (y0.length:Int) y1 y2 y5) y5=true:=kz h2
   have n4:=OB (n:=4) s5 (by omega)
   have s12:aT (vZ y0 y1 y5) (wa y0 y1 y2 y5) y5=true:=kz s5
   have d:dtN 3 (vY y0 y1 y2 y5) (vZ y0 y1 y5) (wa y0 y1 y2 y5) y4 y5=true:=MO.2 ⟨by simp only [vY];omega,s12,h6⟩
   obtain⟨_,t01,t2⟩:=aqU _ _ _ y4 y5 d
   have hw:Fk y0 y1 y2 y5=nxV (y0.length:Int) y1 y2 y5 + 1:=aJ (by omega) (by omega)
   have l3:(Fj y0 y1 y2 y4 y5).length=1:=rfl
   have l4:(sj y0 y1 y2 y5).length=(nxV (y0.length:Int) y1 y2 y5).toNat:=by
    simp only [sj,Int.toNat_zero,List.drop_zero,w9];omega
   have l6:(Aa y0 y1 y2 y5).length=y0.length - (nxV (y0.length:Int) y1 y2 y5 + 1).toNat:=by
    simp only [Aa,hw,w5,List.take_length,List.length_drop]
   have m18:SL 50 (vX y0 y1 y2 y5)=true:=by
    refine rT.2 ⟨by simp only [vX,w8,l4,l6];omega,fun s hs=> ?_⟩
    simp only [vX,j7]at hs
    rcases hs with hs | hs
    ·exact(rT.1 h1).2 s (List.mem_of_mem_take (List.mem_of_mem_drop hs))
    ·exact(rT.1 h1).2 s (List.mem_of_mem_take (List.mem_of_mem_drop hs))
   have p1:UO y1 y2 y5=true:=h2
   have p2:NC y0 y1 y2 y5=true:=bu i0
   have p3:UP y0 y1 y2 y5=true:=cS i1
   have p4:UQ y0 y1 y2 y5=true:=dI (by omega)
   have p5:UR y0 y1 y2 y5=true:=s5
   have p6:US y0 y1 y2 y4 y5=true:=d
   have p7:UT y0 y1 y2 y3 y4 y5=true:=aR (by rw [l3];omega)
   have p8:UU y0 y1 y2 y3 y4 y5=true:=aR (by rw [l3];omega)
   have p9:UV=true:=rfl
   have p10:Tn y0 y1 y2 y5=true:=bu (by omega)
   have p11:To y0 y1 y2 y5=true:=aR (by rw [l4];omega)
   have p12:Tp y0 y1 y2 y5=true:=aR (by rw [l4];omega)
   have p13:Tq y0 y1 y2 y5=true:=bu (by rw [hw];omega)
   have p14:Tr y0 y1 y2 y5=true:=bu (by rw [hw];omega)
   have p15:Ts y0=true:=bu (by omega)
   have p16:Tt y0 y1 y2 y5=true:=aR (by rw [l4,l6];omega)
   have p17:Tu y0 y1 y2 y5=true:=aR (by rw [l4,l6];omega)
   have l18:(vX y0 y1 y2 y5).length=y0.length - 1:=by simp only [vX,w8,l4,l6];omega
   have l21:(Fi y0 y1 y2 y3 y4 y5).length=y3.length + 1:=by simp only [Fi,w8,l3]
   have m21:WY (y3.length + 1) (Fi y0 y1 y2 y3 y4 y5)=true:=apN h5 (aqZ h1 _) (aql t2 (by omega))
   simp only [kq,EV,LT.ok,He,ht,Bool.false_eq_true,reduceCtorEq,false_implies,true_implies,true_and,and_true,HH,HI,p1,p2,p3,p4,p5,p6,p7,p8,p9,p10,p11,p12,p13,p14,p15,p16,p17]
   exact⟨by omega,m18,t01,by omega,by rw [l21];exact m21,h6⟩
 ·obtain⟨y0,y1,y2,y3,y4,y5⟩:=x
  obtain⟨h0,h1,h2,⟨h3,h4⟩,h5,h6,rfl⟩:=hx
  have ht:ltI 0 (y0.length:Int)=false:=wO (by omega)
  simp only [kq,EV,LT.ok,He,ht,Bool.false_eq_true,false_implies,true_implies,true_and,and_true]
  exact⟨h2,by omega,h5⟩
theorem NB(x0 x1:Int)(x2:List Int)(h:aT x0 x1 x2=true):
  Tm x0 x1 x2=true∧aT (nb x0 x1 x2) (oa x0 x1 x2) x2=true∧(prD (jm x0 x1 x2) (bQ x0 x1 x2) (bY x0 x1 x2) (bZ x0 x1 x2) (af x0 x1 x2) (br x0 x1 x2)=true∧1≤(bQ x0 x1 x2).length)∧1≤(br x0 x1 x2).length∧(br x0 x1 x2).length≤50:=by
 have n3:=OB (n:=3) h (by omega)
 have s1:aT (nxA 3 x0 x2) (nxS 3 x0 x1 x2) x2=true:=kz h
 have n4:0≤uM x0 x1 x2∧uM x0 x1 x2 < 4:=OB (n:=4) s1 (by omega)
 have s2:aT (uN x0 x2) (Bo x0 x1 x2) x2=true:=kz s1
 have n2:=OB (n:=2) s2 (by omega)
 have s3:aT (nxA 2 (uN x0 x2) x2) (nxS 2 (uN x0 x2) (Bo x0 x1 x2) x2) x2=true:=kz s2
 have w6:xW x0 x1 x2=1 + nxV 3 x0 x1 x2:=aJ (by omega) (by omega)
 have w4:xV x0 x1 x2=1 + nxV 2 (uN x0 x2) (Bo x0 x1 x2) x2:=aJ (by omega) (by omega)
 have l7:(mW x0 x1 x2).length=(xW x0 x1 x2).toNat:=by simp only [mW,w9,j8,j9];omega
 have l1:(gN x0 x1 x2).length=(uM x0 x1 x2).toNat:=by simp only [gN,w9,j8,j9];omega
 have l5:(oc x0 x1 x2).length=(xV x0 x1 x2).toNat:=by simp only [oc,w9,j8,j9];omega
 have m7:SL 3 (mW x0 x1 x2)=true:=agE _ rfl
 have m1:SL 3 (gN x0 x1 x2)=true:=agE _ rfl
 have m5:SL 2 (oc x0 x1 x2)=true:=agE _ rfl
 have m8:SL 6 (kf x0 x1 x2)=true:=ame m7 m1 (by omega)
 have l8:(kf x0 x1 x2).length=(mW x0 x1 x2).length + (gN x0 x1 x2).length:=by simp only [kf,w8]
 have d8:amf (kf x0 x1 x2)=true:=Xh.2 ⟨by omega,by omega,(rT.1 m8).2⟩
 obtain⟨f0,j0,⟨z0,z1,z2,z3,z4,z5⟩,g0,q1,q2,q3,q4⟩:=abA x2 (KO x0 x1 x2) (by
  simp only [KO]
  exact⟨by rw [w8];omega,ame m1 m5 (by omega),s3,⟨by rw [w8,j9];omega,by rw [w8,j9];omega⟩,rfl,d8,trivial⟩)
 have e11:lB x0 x1 x2=z1:=by simp only [lB,DL,g0]
 have e13:zm x0 x1 x2=z2:=by simp only [zm,IW,DL,g0]
 have e7:br x0 x1 x2=z3:=by simp only [br,IW,DL,g0]
 have s4:aT (nxA 3 (lB x0 x1 x2) x2) (zo x0 x1 x2) x2=true:=by simp only [zo,e11,e13];exact kz q1
 have n8:0≤vW x0 x1 x2∧vW x0 x1 x2 < ((kf x0 x1 x2).length:Int):=OB (n:=((kf x0 x1 x2).length:Int)) s4 (by omega)
 have q1':aT (lB x0 x1 x2) (zm x0 x1 x2) x2=true:=by rw [e11,e13];exact q1
 have k1:=bu n8.1
 have k2:=cS n8.2
 have k3:ltN (vW x0 x1 x2).toNat (kf x0 x1 x2).length=true:=dI (by omega)
 refine⟨?_,?_,⟨?_,?_⟩,?_,?_⟩
 ·have u1:leI 0 (xW x0 x1 x2)=true:=bu (by omega)
  have u2:leI (xW x0 x1 x2) (([ByteArray.mk #[97],ByteArray.mk #[98],ByteArray.mk #[107,101,121]]:List alV).length:Int)=true:=bu (by simp only [j8,j9];omega)
  have u3:leI 0 (uM x0 x1 x2)=true:=bu (by omega)
  have u4:leI (uM x0 x1 x2) (([ByteArray.mk #[120],ByteArray.mk #[121],ByteArray.mk #[122]]:List alV).length:Int)=true:=bu (by simp only [j8,j9];omega)
  have u5:leI 0 (xV x0 x1 x2)=true:=bu (by omega)
  have u6:leI (xV x0 x1 x2) (([ByteArray.mk #[113],ByteArray.mk #[108,97,109,112]]:List alV).length:Int)=true:=bu (by simp only [j8,j9];omega)
  have b: ∀ (i j:Nat),i≤100→j≤100→leN (i + j) 9223372036854775807=true∧leN ((i + j) * 16) 140737488355328=true:=fun i j hi hj=>⟨aR (by omega),aR (by omega)⟩
  obtain⟨b1,b2⟩:=b (mW x0 x1 x2).length (gN x0 x1 x2).length (by omega) (by omega)
  obtain⟨b3,b4⟩:=b (gN x0 x1 x2).length (oc x0 x1 x2).length (by omega) (by omega)
  obtain⟨b5,b6⟩:=b 0 (mW x0 x1 x2).length (by omega) (by omega)
  obtain⟨b7,b8⟩:=b 0 (gN x0 x1 x2).length (by omega) (by omega)
  obtain⟨b9,b10⟩:=b 0 (oc x0 x1 x2).length (by omega) (by omega)
  have c17:PB x0 x1 x2=true:=b5
  have c18:PC x0 x1 x2=true:=b6
  have c19:PD x0 x1 x2=true:=b7
  have c20:PE x0 x1 x2=true:=b8
  simp only [Tm,h,s1,s2,q1',s4,f0,u1,u2,u3,u4,u5,u6,b1,b2,b3,b4,b9,b10,c17,c18,c19,c20,k1,k2,k3,allT,v3,cond_true]
 ·simp only [nb,oa];exact pk (kz s4) s4
 ·refine afM.2 ⟨?_,agD m7 (by omega),agD m1 (by omega),agD m5 (by omega),?_,?_⟩
  ·simp only [jm];cases oq x0 x1 x2 <;> exact(by decide)
  ·simp only [af]
   cases oq x0 x1 x2
   ·exact Nat.zero_le _
   ·exact aqZ m8 _
  ·rw [e7];exact aoX q3 (by omega)
 ·simp only [bQ,l7];omega
 ·rw [e7];exact q2.1
 ·rw [e7];exact q2.2
def aaA:List SV→List Entry→Option Out
 | [.one ⟨false,[.ptr 0 0]⟩],[.box 113 [.ref 1,.val (.int .i64 x0),.val (.int .i64 x1)],.row false 5 (.int .u8) x2]=>some ⟨.one ⟨true,[.val (.string (jm x0 x1 x2)),.ref 2,.ref 3,.ref 4,.val (.string (af x0 x1 x2)),.ref 5]⟩,[.box 113 [.ref 1,.val (.int .i64 (nb x0 x1 x2)),.val (.int .i64 (oa x0 x1 x2))],.row false 5 ake x2],[.row true 9 alu (bQ x0 x1 x2),.row true 9 alu (bY x0 x1 x2),.row true 9 alu (bZ x0 x1 x2),.row true 142 aaY (br x0 x1 x2)],[aT x0 x1 x2]⟩
 |_,_=>none
def kv:PF prog:=PF.alt ai8 aaA (by
 intro args es o h cf;unfold aaA at h;split at h
 ·rename_i x0 x1 x2
  cases h
  have cf:=iw cf
  have hh:=(NB x0 x1 x2 cf).1
  have en:=hh
  exact mK rfl (gE en) rfl rfl rfl
 ·cases h)
end Go.SX
namespace Go.SX
open Go.Proofs Go.Proofs.Tryz
set_option maxRecDepth 100000
abbrev iz:=Int×Int×Int×List Int×List (Int×(Int×Int))×List Int
section
variable (y0 y1 y2:Int)(y3 y5:List Int)
def xJ:Bool:=ltI y0 (↑y3.length:Int)
def Mr:Bool:=aT y1 y2 y5
def Mt:Bool:=leI 0 y0
def Mu:Bool:=ltN y0.toNat y3.length
def Mv:Int:=v9 .i64 (y0 + (1:Int))
def Mw:Int:=nxA 2 y1 y5
def Mx:Int:=nxS 2 y1 y2 y5
def My:List Int:=List.set y3 y0.toNat (nxV 2 y1 y2 y5)
end
def Vu:iz→List (Nat×SV)
 |(y0,_,_,_,_,_)=> [(7,(.one ⟨false,[.val (.int .i64 y0)]⟩)),(5,(.one ⟨false,[.ptr 0 0]⟩)),(0,(.one ⟨false,[.ptr 1 0]⟩))]
def Vq:iz→List (Nat×Entry)
 |(_,y1,y2,y3,y4,y5)=> [(0,(.box 50 [.ref 2,.ref 3])),(1,(.box 113 [.ref 4,.val (.int .i64 y1),.val (.int .i64 y2)])),(2,(.row true 2 akd y3)),(3,(.row true 109 ac0 y4)),(4,(.row false 5 ake y5))]
def VC:Nat→iz→List (Nat×SV)
 |_,(_,_,_,_,_,_)=> []
def Vy:Nat→iz→List (Nat×Entry)
 |_,(_,y1,y2,y3,y4,y5)=> [(0,(.box 50 [.ref 2,.ref 3])),(1,(.box 113 [.ref 4,.val (.int .i64 y1),.val (.int .i64 y2)])),(2,(.row true 2 akd y3)),(3,(.row true 109 ac0 y4)),(4,(.row false 5 ake y5))]
def wF:iz→LT iz
 |(y0,y1,y2,y3,y4,y5)=> .ite (xJ y0 y3) (.need [Mr y1 y2 y5,Mt y0,xJ y0 y3,Mu y0 y3] (.nrm ((Mv y0),Mw y1 y5,Mx y1 y2 y5,My y0 y1 y2 y3 y5,y4,y5) [(0,0),(1,1),(2,2),(3,3),(4,4)])) (.ext 0 [(0,0),(1,1),(2,2),(3,3),(4,4)])
def Cq(s:St):Option iz:=
 (match s.look 7 with
 |some ⟨none,.one ⟨false,[.val (.int .i64 y0)]⟩⟩=>
 (match s.look 5 with
 |some ⟨none,.one ⟨false,[.ptr 1088 0]⟩⟩=>
 (match s.look 0 with
 |some ⟨none,.one ⟨false,[.ptr 0 0]⟩⟩=>
 (match s.ent 1088 with
 |some (.box 50 [.ref 832,.ref 833])=>
 (match s.ent 0 with
 |some (.box 113 [.ref 5,.val (.int .i64 y1),.val (.int .i64 y2)])=>
 (match s.ent 832 with
 |some (.row true 2 (.int .i64) y3)=>
 (match s.ent 833 with
 |some (.row true 109 (.pair (.int .i64) (.pair (.int .i64) (.int .i64))) y4)=>
 (match s.ent 5 with
 |some (.row false 5 (.int IntKind.u8) y5)=>
 some (y0,y1,y2,y3,y4,y5)
 |_=>none)
 |_=>none)
 |_=>none)
 |_=>none)
 |_=>none)
 |_=>none)
 |_=>none)
 |_=>none)
def eB:Lp iz where
 h:=⟨[62,63,64,65,66,69,70,71,72,73,74,67,68,7],[0,1,2,3,4],[],[]⟩
 JL:=Vu
 JE:=Vq
 XL:=VC
 XE:=Vy
 q:=fun j=>match j with | _=> .exit 1
 tags:= [0]
 lt:=wF
 fuel:=fun(y0,y1,y2,y3,y4,y5)=>y0.natAbs + y1.natAbs + y2.natAbs + y3.length + y4.length + y5.length
 fix:=fun(_,_,_,_,y4,y5) (y0,y1,y2,y3,_,_)=>(y0,y1,y2,y3,y4,y5)
 σ:= [(0,1088),(1,0),(2,832),(3,833),(4,5)]
 rd:=Cq
theorem SE:LoopOk prog (fun k=>Nat.blt k Tryz.f56.ntmps) eB.F (bV f56 0):=by
 refine Lp.ok (tbl:= (T3z [vV,ao,aE,aW,vU])) (lf:= []) bG eB (by kernel_rfl) (LOk.nil _) (fun _=>rfl) (fun _ _=>rfl) ?_ ?_ ?_ ?_ (fun _=>rfl) ?_
 ·rintro⟨y0,y1,y2,y3,y4,y5⟩;kernel_rfl
 ·rintro⟨y0,y1,y2,y3,y4,y5⟩;kernel_rfl
 ·intro s x h
  have h:Cq s=some x:=h
  unfold Cq at h
  repeat' split at h
  all_goals cases h
  constructor<;>repeat(first|refine ab (by assumption) rfl ?_|refine aa rfl (by assumption) rfl ?_|exact rfl)
 ·rintro⟨y0,y1,y2,y3,y4,y5⟩;kernel_rfl
 ·rintro⟨y0,y1,y2,y3,y4,y5⟩ z;exact(And.intro rfl trivial)
section
variable (x0 x1:alV)(x2 x3:Int)(x4 x5 x6:List alV)(x7:List (alV×List (Int×alV×Int)))(x8:List Int)
def bN:Bool:=rgC x0 x4 x5 x6 x1 x7 (bh x0 x1 x2 x3 x4 x5 x6 x7 x8)!=0
def AM:Int:=nxV 30 (nT x0 x1 x2 x3 x4 x5 x6 x7 x8) (pO x0 x1 x2 x3 x4 x5 x6 x7 x8) x8
def df:Bool:=AM x0 x1 x2 x3 x4 x5 x6 x7 x8==0
def iW:Int:=nxA 30 (nT x0 x1 x2 x3 x4 x5 x6 x7 x8) x8
def ew:Bool:=AM x0 x1 x2 x3 x4 x5 x6 x7 x8==1
def kM:Bool:=AM x0 x1 x2 x3 x4 x5 x6 x7 x8==2
def gy:Bool:=ltI 0 (↑(v7 (rgB x0 x4 x5 x6 x1 x7 (bh x0 x1 x2 x3 x4 x5 x6 x7 x8))):Int)
def vz:Bool:=AM x0 x1 x2 x3 x4 x5 x6 x7 x8==3
def kN:Int:=nxS 30 (nT x0 x1 x2 x3 x4 x5 x6 x7 x8) (pO x0 x1 x2 x3 x4 x5 x6 x7 x8) x8
def eV:List Int:=rgV x0 x4 x5 x6 x1 x7 (bh x0 x1 x2 x3 x4 x5 x6 x7 x8)
def yX:Int×Int×Int×List Int×List (Int×Int×Int)×List Int:=((0:Int),iW x0 x1 x2 x3 x4 x5 x6 x7 x8,kN x0 x1 x2 x3 x4 x5 x6 x7 x8,eV x0 x1 x2 x3 x4 x5 x6 x7 x8,rgB x0 x4 x5 x6 x1 x7 (bh x0 x1 x2 x3 x4 x5 x6 x7 x8),x8)
def qz:Int×Int×List Int×List (Int×Int×Int)×List Int:=(Lp.res eB (yX x0 x1 x2 x3 x4 x5 x6 x7 x8)).2.2
def qA:Int×List Int×List (Int×Int×Int)×List Int:=(qz x0 x1 x2 x3 x4 x5 x6 x7 x8).2
def NH:Int×Int:=(v8 (rgB x0 x4 x5 x6 x1 x7 (bh x0 x1 x2 x3 x4 x5 x6 x7 x8))[v6 0]? ((0:Int),(0:Int),(0:Int))).2
def xh:Int:=bif bN x0 x1 x2 x3 x4 x5 x6 x7 x8 then nT x0 x1 x2 x3 x4 x5 x6 x7 x8 else bif df x0 x1 x2 x3 x4 x5 x6 x7 x8 then iW x0 x1 x2 x3 x4 x5 x6 x7 x8 else bif ew x0 x1 x2 x3 x4 x5 x6 x7 x8 then iW x0 x1 x2 x3 x4 x5 x6 x7 x8 else bif kM x0 x1 x2 x3 x4 x5 x6 x7 x8 then bif gy x0 x1 x2 x3 x4 x5 x6 x7 x8 then pkA (iW x0 x1 x2 x3 x4 x5 x6 x7 x8) [(-1:Int),(1:Int),(9:Int)] x8 else iW x0 x1 x2 x3 x4 x5 x6 x7 x8 else bif vz x0 x1 x2 x3 x4 x5 x6 x7 x8 then (qz x0 x1 x2 x3 x4 x5 x6 x7 x8).1else iW x0 x1 x2 x3 x4 x5 x6 x7 x8
def xj:Int:=bif bN x0 x1 x2 x3 x4 x5 x6 x7 x8 then pO x0 x1 x2 x3 x4 x5 x6 x7 x8 else bif df x0 x1 x2 x3 x4 x5 x6 x7 x8 then kN x0 x1 x2 x3 x4 x5 x6 x7 x8 else bif ew x0 x1 x2 x3 x4 x5 x6 x7 x8 then kN x0 x1 x2 x3 x4 x5 x6 x7 x8 else bif kM x0 x1 x2 x3 x4 x5 x6 x7 x8 then bif gy x0 x1 x2 x3 x4 x5 x6 x7 x8 then pkS (iW x0 x1 x2 x3 x4 x5 x6 x7 x8) (kN x0 x1 x2 x3 x4 x5 x6 x7 x8) [(-1:Int),(1:Int),(9:Int)] x8 else kN x0 x1 x2 x3 x4 x5 x6 x7 x8 else bif vz x0 x1 x2 x3 x4 x5 x6 x7 x8 then (qA x0 x1 x2 x3 x4 x5 x6 x7 x8).1else kN x0 x1 x2 x3 x4 x5 x6 x7 x8
def xk:List Int:=bif bN x0 x1 x2 x3 x4 x5 x6 x7 x8 then qqq (v6 (↑x5.length:Int)) (0:Int)else bif df x0 x1 x2 x3 x4 x5 x6 x7 x8 then eV x0 x1 x2 x3 x4 x5 x6 x7 x8++ [(0:Int)]else bif ew x0 x1 x2 x3 x4 x5 x6 x7 x8 then eV x0 x1 x2 x3 x4 x5 x6 x7 x8 else bif kM x0 x1 x2 x3 x4 x5 x6 x7 x8 then eV x0 x1 x2 x3 x4 x5 x6 x7 x8 else bif vz x0 x1 x2 x3 x4 x5 x6 x7 x8 then ((qA x0 x1 x2 x3 x4 x5 x6 x7 x8).2).1else eV x0 x1 x2 x3 x4 x5 x6 x7 x8
def xl:List (Int×(Int×Int)):=bif bN x0 x1 x2 x3 x4 x5 x6 x7 x8 then []else bif df x0 x1 x2 x3 x4 x5 x6 x7 x8 then rgB x0 x4 x5 x6 x1 x7 (bh x0 x1 x2 x3 x4 x5 x6 x7 x8)else bif ew x0 x1 x2 x3 x4 x5 x6 x7 x8 then rgB x0 x4 x5 x6 x1 x7 (bh x0 x1 x2 x3 x4 x5 x6 x7 x8)++ [((0:Int),(0:Int),(0:Int))]else bif kM x0 x1 x2 x3 x4 x5 x6 x7 x8 then bif gy x0 x1 x2 x3 x4 x5 x6 x7 x8 then List.set (rgB x0 x4 x5 x6 x1 x7 (bh x0 x1 x2 x3 x4 x5 x6 x7 x8)) (v6 0) (pkV (iW x0 x1 x2 x3 x4 x5 x6 x7 x8) (kN x0 x1 x2 x3 x4 x5 x6 x7 x8) [(-1:Int),(1:Int),(9:Int)] x8,(NH x0 x1 x2 x3 x4 x5 x6 x7 x8).1,(NH x0 x1 x2 x3 x4 x5 x6 x7 x8).2)else rgB x0 x4 x5 x6 x1 x7 (bh x0 x1 x2 x3 x4 x5 x6 x7 x8)else bif vz x0 x1 x2 x3 x4 x5 x6 x7 x8 then rgB x0 x4 x5 x6 x1 x7 (bh x0 x1 x2 x3 x4 x5 x6 x7 x8)else rgB x0 x4 x5 x6 x1 x7 (bh x0 x1 x2 x3 x4 x5 x6 x7 x8)
def Iy:Bool:=allT [aT x2 x3 x8&&leN x4.length (50:Nat),rgN x0 x4 x5 x6 x1 x7 (bh x0 x1 x2 x3 x4 x5 x6 x7 x8),!bN x0 x1 x2 x3 x4 x5 x6 x7 x8||leI 0 (↑x5.length:Int),!bN x0 x1 x2 x3 x4 x5 x6 x7 x8||leI (↑x5.length:Int) (↑x5.length:Int),!bN x0 x1 x2 x3 x4 x5 x6 x7 x8||leI ((↑(8:Nat):Int) * (↑x5.length:Int)) 281474976710656,!bN x0 x1 x2 x3 x4 x5 x6 x7 x8||leI (↑x5.length:Int) 9223372036854775807,bN x0 x1 x2 x3 x4 x5 x6 x7 x8||aT (nT x0 x1 x2 x3 x4 x5 x6 x7 x8) (pO x0 x1 x2 x3 x4 x5 x6 x7 x8) x8,bN x0 x1 x2 x3 x4 x5 x6 x7 x8||(!df x0 x1 x2 x3 x4 x5 x6 x7 x8||leN (v7 (eV x0 x1 x2 x3 x4 x5 x6 x7 x8)) 1048576),bN x0 x1 x2 x3 x4 x5 x6 x7 x8||(!df x0 x1 x2 x3 x4 x5 x6 x7 x8||leN (v7 (eV x0 x1 x2 x3 x4 x5 x6 x7 x8) + v7 [(0:Int)]) (9223372036854775807:Nat)),bN x0 x1 x2 x3 x4 x5 x6 x7 x8||(!df x0 x1 x2 x3 x4 x5 x6 x7 x8||leN ((v7 (eV x0 x1 x2 x3 x4 x5 x6 x7 x8) + v7 [(0:Int)]) * (8:Nat)) 140737488355328),bN x0 x1 x2 x3 x4 x5 x6 x7 x8||(df x0 x1 x2 x3 x4 x5 x6 x7 x8||(!ew x0 x1 x2 x3 x4 x5 x6 x7 x8||leN (0 + v7 (rgB x0 x4 x5 x6 x1 x7 (bh x0 x1 x2 x3 x4 x5 x6 x7 x8))) 9223372036854775807)),bN x0 x1 x2 x3 x4 x5 x6 x7 x8||(df x0 x1 x2 x3 x4 x5 x6 x7 x8||(!ew x0 x1 x2 x3 x4 x5 x6 x7 x8||leN ((0 + v7 (rgB x0 x4 x5 x6 x1 x7 (bh x0 x1 x2 x3 x4 x5 x6 x7 x8))) * 24) 140737488355328)),bN x0 x1 x2 x3 x4 x5 x6 x7 x8||(df x0 x1 x2 x3 x4 x5 x6 x7 x8||(!ew x0 x1 x2 x3 x4 x5 x6 x7 x8||leN (v7 (rgB x0 x4 x5 x6 x1 x7 (bh x0 x1 x2 x3 x4 x5 x6 x7 x8)) + v7 [((0:Int),(0:Int),(0:Int))]) 9223372036854775807)),bN x0 x1 x2 x3 x4 x5 x6 x7 x8||(df x0 x1 x2 x3 x4 x5 x6 x7 x8||(!ew x0 x1 x2 x3 x4 x5 x6 x7 x8||leN ((v7 (rgB x0 x4 x5 x6 x1 x7 (bh x0 x1 x2 x3 x4 x5 x6 x7 x8)) + v7 [((0:Int),(0:Int),(0:Int))]) * 24) 140737488355328)),bN x0 x1 x2 x3 x4 x5 x6 x7 x8||(df x0 x1 x2 x3 x4 x5 x6 x7 x8||(ew x0 x1 x2 x3 x4 x5 x6 x7 x8||(!kM x0 x1 x2 x3 x4 x5 x6 x7 x8||(!gy x0 x1 x2 x3 x4 x5 x6 x7 x8||aT (iW x0 x1 x2 x3 x4 x5 x6 x7 x8) (kN x0 x1 x2 x3 x4 x5 x6 x7 x8) x8&&leN 1 (v7 [(-1:Int),(1:Int),(9:Int)]))))),bN x0 x1 x2 x3 x4 x5 x6 x7 x8||(df x0 x1 x2 x3 x4 x5 x6 x7 x8||(ew x0 x1 x2 x3 x4 x5 x6 x7 x8||(!kM x0 x1 x2 x3 x4 x5 x6 x7 x8||(!gy x0 x1 x2 x3 x4 x5 x6 x7 x8||leI 0 0)))),bN x0 x1 x2 x3 x4 x5 x6 x7 x8||(df x0 x1 x2 x3 x4 x5 x6 x7 x8||(ew x0 x1 x2 x3 x4 x5 x6 x7 x8||(!kM x0 x1 x2 x3 x4 x5 x6 x7 x8||(!gy x0 x1 x2 x3 x4 x5 x6 x7 x8||gy x0 x1 x2 x3 x4 x5 x6 x7 x8)))),bN x0 x1 x2 x3 x4 x5 x6 x7 x8||(df x0 x1 x2 x3 x4 x5 x6 x7 x8||(ew x0 x1 x2 x3 x4 x5 x6 x7 x8||(!kM x0 x1 x2 x3 x4 x5 x6 x7 x8||(!gy x0 x1 x2 x3 x4 x5 x6 x7 x8||ltN (v6 0) (v7 (rgB x0 x4 x5 x6 x1 x7 (bh x0 x1 x2 x3 x4 x5 x6 x7 x8))))))),bN x0 x1 x2 x3 x4 x5 x6 x7 x8||(df x0 x1 x2 x3 x4 x5 x6 x7 x8||(ew x0 x1 x2 x3 x4 x5 x6 x7 x8||(kM x0 x1 x2 x3 x4 x5 x6 x7 x8||(!vz x0 x1 x2 x3 x4 x5 x6 x7 x8||Lp.fin eB (yX x0 x1 x2 x3 x4 x5 x6 x7 x8)))))]
end
def QA:List SV→List Entry→Option Out
 | [.one ⟨false,[.ptr 0 0]⟩,.one ⟨true,[.val (.string x0),.ref 1,.ref 2,.ref 3,.val (.string x1),.ref 4]⟩],[.box 113 [.ref 5,.val (.int .i64 x2),.val (.int .i64 x3)],.row false 9 (.str) x4,.row false 9 (.str) x5,.row false 9 (.str) x6,.row false 142 (.pair (.str) (.sl 122 (.pair (.int .i64) (.pair (.str) (.int .i64))))) x7,.row false 5 (.int .u8) x8]=>some ⟨.one ⟨true,[.ref 6,.ref 7]⟩,[.box 113 [.ref 5,.val (.int .i64 (xh x0 x1 x2 x3 x4 x5 x6 x7 x8)),.val (.int .i64 (xj x0 x1 x2 x3 x4 x5 x6 x7 x8))],.row false 9 alu x4,.row false 9 alu x5,.row false 9 alu x6,.row false 142 (CTy.pair CTy.str (CTy.sl (122:TypeId) afs)) x7,.row false 5 ake x8],[.row true 2 akd (xk x0 x1 x2 x3 x4 x5 x6 x7 x8),.row true 109 ac0 (xl x0 x1 x2 x3 x4 x5 x6 x7 x8)],[Iy x0 x1 x2 x3 x4 x5 x6 x7 x8]⟩
 |_,_=>none
def abs:PF prog:=PF.ofG prog (T3z [vV,ao,aE,aW,vU]) [eB.F] bG 56 f56 func56 (LOk.fnT (l:= [bV f56 0]) (by kernel_rfl) (.cons SE (.nil _))) QA (by
 intro vs es r h;unfold QA at h;split at h
 ·cases h;kernel_rfl
 ·cases h)
theorem apZ{nm:alV}{ins vs os:List alV}{g:alV}{ls:List LN}(h:prD nm ins vs os g ls=true):ald nm ins vs os g ls=true:=by
 obtain⟨h1,h2,h3,h4,h5,h6⟩:=afM.1 h
 obtain⟨i0,i1⟩:=rT.1 h2
 obtain⟨v0,v1⟩:=rT.1 h3
 obtain⟨o0,o1⟩:=rT.1 h4
 obtain⟨l0,l1⟩:=Km.1 h6
 have my: ∀ {l:List alV},l.length≤50→(∀ s∈l,s.size≤1000)→Pg l=true:=fun {l} a b=>by
  simp only [Pg,q9,List.all_eq_true]
  exact⟨aR (by omega),fun t ht=>aR (by have:=b t ht;omega)⟩
 refine abv.2 ⟨by omega,my i0 i1,my v0 v1,my o0 o1,by omega,by omega,abQ.2 ⟨by omega,fun l hl=> ?_⟩⟩
 obtain⟨a,b⟩:=l1 l hl
 obtain⟨b0,b1⟩:=Xu.1 b
 exact⟨by omega,ab2.2 ⟨by omega,fun t ht=>by have:=b1 t ht;omega⟩⟩
theorem aqg{n:Nat}{l:List (List Int)}(h:WO n l=true)(hl:l.length≤9223372036854775807)(hn:n≤9223372036854775807):aqO 9223372036854775807 l=true:=
 ap7.2 ⟨hl,fun x hx=>by have:=aie.1 h x hx;omega⟩
theorem ap0(nm:alV)(ins vs os:List alV)(g:alV)(ls:List LN)(l:List (List Int)):
  (anT (rgO nm ins vs os g ls l)≤4000∧(rgO nm ins vs os g ls l).length≤200∧ ∀ x∈rgO nm ins vs os g ls l,x.length≤20)∧(rgV nm ins vs os g ls l).length≤20∧(rgB nm ins vs os g ls l).length≤1600:=by
 have ht: ∀ (l:List (List Int)),(∀ x∈l,x.length≤20)→anT l≤20 * l.length:=by
  intro l
  induction l with
  |nil=>intro _;simp [anT]
  |cons a r ih=>
   intro h
   have h1:=h a (by simp)
   have h2:=ih fun x hx=>h x (by simp [hx])
   simp only [anT,List.map_cons,List.sum_cons,j8]at h2 ⊢
   omega
 simp only [rgO,rgV,rgB]
 rcases amr nm ins vs os g ls l with⟨h1,h2⟩ | ⟨h1,h3,h2⟩ | ⟨h1,h3,h4,h2⟩ | ⟨h1,h3,h4,h2⟩
 ·rw [h2];simp [anT]
 ·rw [h2];simp [anT]
 ·rw [h2];simp [anT]
 ·rw [h2]
  obtain⟨g1,g2,g3⟩:=amx h1 l (zv vs) (abK (blL ls)) (List.all_eq_true.1 h4) (aoA h1)
  obtain⟨s1,s2,_⟩:=Xs.1 g3
  have b2:=(cO.1 s2).2
  have:=ans h3
  have h5:=ht _ g2
  have hX:=alf (inp:=qqq ins.length 0) h1 (cO.2 ⟨fun z hz=> .inl (qqw hz),by simp⟩)
  have hb:=hX.bl
  have hv:=hX.h2
  simp only [beq_self_eq_true,cond_true]
  exact⟨⟨by omega,by omega,g2⟩,by omega,by omega⟩
 attribute [local irreducible] nxA nxS nxV pkA pkS pkV
theorem Tz(c:List Int)(x:iz)(hx:match x with | (y0,y1,y2,y3,y4,y5)=>(y3.length:Int)≤y0 + (20:Nat)∧0≤y0∧aT y1 y2 y5=true∧y3.length≤20∧y5=c):
  eB.fin x=true∧ ∃ j y,eB.res x=(j,y)∧(match y with | (y0,y1,y2,y3,y4,y5)=>aT y1 y2 c=true∧y3.length≤20∧c=y5):=by
 refine eB.inv2 (fun k x=>match x with | (y0,y1,y2,y3,y4,y5)=>(y3.length:Int)≤y0 + k∧0≤y0∧aT y1 y2 y5=true∧y3.length≤20∧y5=c) (fun y=>match y with | (y0,y1,y2,y3,y4,y5)=>aT y1 y2 c=true∧y3.length≤20∧c=y5) (fun k x hx=> ?_) (fun x hx=> ?_) 20 x (by omega) hx
 ·obtain⟨y0,y1,y2,y3,y4,y5⟩:=x
  obtain⟨h0,h1,h2,h3,rfl⟩:=hx
  cases ht:xJ y0 y3 with
  |false=>
   simp only [eB,wF,LT.ok,ht,Bool.false_eq_true,false_implies,true_implies,true_and,and_true]
   exact⟨h2,h3⟩
  |true=>
   have eQ:y0 < (y3.length:Int):=GX.1 ht
   have p1:Mr y1 y2 y5=true:=h2
   have p2:Mt y0=true:=bu h1
   have p3:Mu y0 y3=true:=dI (by omega)
   have p4:Mv y0=y0 + 1:=aJ (by omega) (by omega)
   have s5:aT (Mw y1 y5) (Mx y1 y2 y5) y5=true:=kz h2
   have l7:(My y0 y1 y2 y3 y5).length=y3.length:=List.length_set
   simp only [eB,wF,LT.ok,HH,HI,and_true,true_and,ht,p1,p2,p3,Bool.false_eq_true,reduceCtorEq,false_implies,true_implies]
   exact⟨by omega,by omega,s5,by omega⟩
 ·obtain⟨y0,y1,y2,y3,y4,y5⟩:=x
  obtain⟨h0,h1,h2,h3,rfl⟩:=hx
  have ht:xJ y0 y3=false:=wO (by omega)
  simp only [eB,wF,LT.ok,ht,Bool.false_eq_true,false_implies,true_implies,true_and,and_true]
  exact⟨h2,h3⟩
theorem apu{a s:Int}{c:List Int}{nm:alV}{ins vs os:List alV}{g:alV}{ls:List LN}:(aT a s c&&prD nm ins vs os g ls)=true↔aT a s c=true∧prD nm ins vs os g ls=true:=by simp only [q9]
theorem Mq(x0 x1:alV)(x2 x3:Int)(x4 x5 x6:List alV)(x7:List LN)(x8:List Int)(h:aT x2 x3 x8=true)(hp:prD x0 x4 x5 x6 x1 x7=true):
  Iy x0 x1 x2 x3 x4 x5 x6 x7 x8=true∧aT (xh x0 x1 x2 x3 x4 x5 x6 x7 x8) (xj x0 x1 x2 x3 x4 x5 x6 x7 x8) x8=true∧(xk x0 x1 x2 x3 x4 x5 x6 x7 x8).length≤60∧(xl x0 x1 x2 x3 x4 x5 x6 x7 x8).length≤2000:=by
 obtain⟨_,hi,hv,_⟩:=afM.1 hp
 have i0:=(rT.1 hi).1
 have v0:=(rT.1 hv).1
 obtain⟨_,t2,t3,t4⟩:=OL x0 x1 x2 x3 x4 x5 x6 x7 x8 h i0
 have hrg:rgN x0 x4 x5 x6 x1 x7 (bh x0 x1 x2 x3 x4 x5 x6 x7 x8)=true:=by
  simp only [rgN,apZ hp,aqg t4 (by omega) (by omega),Bool.and_self]
 obtain⟨_,w1,w2⟩:=ap0 x0 x4 x5 x6 x1 x7 (bh x0 x1 x2 x3 x4 x5 x6 x7 x8)
 have w1:(eV x0 x1 x2 x3 x4 x5 x6 x7 x8).length≤20:=w1
 have s3:aT (iW x0 x1 x2 x3 x4 x5 x6 x7 x8) (kN x0 x1 x2 x3 x4 x5 x6 x7 x8) x8=true:=kz t2
 obtain⟨f0,j0,⟨z0,z1,z2,z3,z4,z5⟩,g0,q1,q2,q3⟩:=Tz x8 (yX x0 x1 x2 x3 x4 x5 x6 x7 x8) (by
  simp only [yX]
  exact⟨by omega,by omega,s3,w1,trivial⟩)
 have e1:(qz x0 x1 x2 x3 x4 x5 x6 x7 x8).1=z1:=by simp only [qz,g0]
 have e2:(qA x0 x1 x2 x3 x4 x5 x6 x7 x8).1=z2:=by simp only [qA,qz,g0]
 have e3:((qA x0 x1 x2 x3 x4 x5 x6 x7 x8).2).1=z3:=by simp only [qA,qz,g0]
 have hd:(aT x2 x3 x8&&leN x4.length 50)=true:=ait.2 ⟨h,i0⟩
 refine⟨?_,?_,?_,?_⟩
 ·have u1:leI 0 (x5.length:Int)=true:=bu (by omega)
  have u2:leI (x5.length:Int) (x5.length:Int)=true:=bu (by omega)
  have u3:leI ((↑(8:Nat):Int) * (x5.length:Int)) 281474976710656=true:=bu (by omega)
  have u4:leI (x5.length:Int) 9223372036854775807=true:=bu (by omega)
  have o1: [(0:Int)].length=1:=rfl
  have o2: [((0:Int),(0:Int),(0:Int))].length=1:=rfl
  have b1:leN (eV x0 x1 x2 x3 x4 x5 x6 x7 x8).length 1048576=true:=aR (by omega)
  have b2:leN ((eV x0 x1 x2 x3 x4 x5 x6 x7 x8).length + [(0:Int)].length) 9223372036854775807=true:=aR (by rw [o1];omega)
  have b3:leN (((eV x0 x1 x2 x3 x4 x5 x6 x7 x8).length + [(0:Int)].length) * 8) 140737488355328=true:=aR (by rw [o1];omega)
  have b4:leN (0 + (rgB x0 x4 x5 x6 x1 x7 (bh x0 x1 x2 x3 x4 x5 x6 x7 x8)).length) 9223372036854775807=true:=aR (by omega)
  have b5:leN ((0 + (rgB x0 x4 x5 x6 x1 x7 (bh x0 x1 x2 x3 x4 x5 x6 x7 x8)).length) * 24) 140737488355328=true:=aR (by omega)
  have b6:leN ((rgB x0 x4 x5 x6 x1 x7 (bh x0 x1 x2 x3 x4 x5 x6 x7 x8)).length + [((0:Int),(0:Int),(0:Int))].length) 9223372036854775807=true:=aR (by rw [o2];omega)
  have b7:leN (((rgB x0 x4 x5 x6 x1 x7 (bh x0 x1 x2 x3 x4 x5 x6 x7 x8)).length + [((0:Int),(0:Int),(0:Int))].length) * 24) 140737488355328=true:=aR (by rw [o2];omega)
  have b8:leN 1 (v7 [(-1:Int),1,9])=true:=rfl
  have b9:leI 0 0=true:=rfl
  have k6:gy x0 x1 x2 x3 x4 x5 x6 x7 x8=true→ltN (v6 0) (rgB x0 x4 x5 x6 x1 x7 (bh x0 x1 x2 x3 x4 x5 x6 x7 x8)).length=true:=fun hh=>by
   simp only [gy]at hh
   have:=ak2 hh
   exact dI (by simp only [Int.toNat_zero];omega)
  simp only [Iy,hd,hrg,u1,u2,u3,u4,t2,s3,b1,b2,b3,b4,b5,b6,b7,b8,b9,f0,allT,v3,Bool.and_self,cond_true]
  cases h6:gy x0 x1 x2 x3 x4 x5 x6 x7 x8 with
  |true=>simp only [k6 h6,v3,cond_true]
  |false=>simp only [Bool.not_false,Bool.true_or,v3,cond_true]
 ·simp only [xh,xj,e1,e2]
  exact pk t2 (pk s3 (pk s3 (pk (pk (Ot s3) s3) (pk q1 s3))))
 ·simp only [xk,e3]
  exact fo (by rw [v4,w5];omega) (fo (by rw [w8,w7];omega) (fo (by omega) (fo (by omega) (fo (by omega) (by omega)))))
 ·simp only [xl]
  exact fo (by simp) (fo (by omega) (fo (by rw [w8,w7];omega) (fo (fo (by rw [List.length_set];omega) (by omega)) (fo (by omega) (by omega)))))
def QK:List SV→List Entry→Option Out
 | [.one ⟨false,[.ptr 0 0]⟩,.one ⟨true,[.val (.string x0),.ref 1,.ref 2,.ref 3,.val (.string x1),.ref 4]⟩],[.box 113 [.ref 5,.val (.int .i64 x2),.val (.int .i64 x3)],.row false 9 (.str) x4,.row false 9 (.str) x5,.row false 9 (.str) x6,.row false 142 (.pair (.str) (.sl 122 (.pair (.int .i64) (.pair (.str) (.int .i64))))) x7,.row false 5 (.int .u8) x8]=>some ⟨.one ⟨true,[.ref 6,.ref 7]⟩,[.box 113 [.ref 5,.val (.int .i64 (xh x0 x1 x2 x3 x4 x5 x6 x7 x8)),.val (.int .i64 (xj x0 x1 x2 x3 x4 x5 x6 x7 x8))],.row false 9 alu x4,.row false 9 alu x5,.row false 9 alu x6,.row false 142 (CTy.pair CTy.str (CTy.sl (122:TypeId) afs)) x7,.row false 5 ake x8],[.row true 2 akd (xk x0 x1 x2 x3 x4 x5 x6 x7 x8),.row true 109 ac0 (xl x0 x1 x2 x3 x4 x5 x6 x7 x8)],[aT x2 x3 x8&&prD x0 x4 x5 x6 x1 x7]⟩
 |_,_=>none
def Ig:PF prog:=PF.alt abs QK (by
 intro args es o h cf;unfold QK at h;split at h
 ·rename_i x0 x1 x2 x3 x4 x5 x6 x7 x8
  cases h
  have cf:=iw cf
  have hh:=(Mq x0 x1 x2 x3 x4 x5 x6 x7 x8 (apu.1 cf).1 (apu.1 cf).2).1
  have en:=hh
  exact mK rfl (gE en) rfl rfl rfl
 ·cases h)
end Go.SX
namespace Go.SX
open Go.Proofs Go.Proofs.Tryz
set_option maxRecDepth 100000
def tI(x0:List Int):Bool:=ltI 4096 (↑x0.length:Int)
def ah8:List SV→List Entry→Option Out
 | [.one ⟨false,[.ref 0]⟩],[.row false 5 (.int .u8) x0]=>some ⟨.one ⟨false,[.val (.bool (tI x0))]⟩,[.row false 5 ake x0],[],[]⟩
 |_,_=>none
def Pr:PF prog:=PF.ofG prog [] [] bG 6 f6 func6 (fun c _=>LOk.nil c) ah8 (by
 intro vs es r h;unfold ah8 at h;split at h
 ·cases h;kernel_rfl
 ·cases h)
abbrev iS:=Int×List (Int×(Int×Int))×List (Int×(Int×Int))
section
variable (y0:Int)(y1 y2:List (Int×(Int×Int)))
def nM:Int×Int×Int:=v8 y1[v6 y0]? ((0:Int),(0:Int),(0:Int))
def nN:Int×Int×Int:=v8 y2[v6 y0]? ((0:Int),(0:Int),(0:Int))
def rB:Bool:=ltI y0 (↑y1.length:Int)
def rC:Bool:=leI 0 y0
def vd:Bool:=ltN y0.toNat y1.length
def ve:Bool:=ltI y0 (↑y2.length:Int)
def vf:Bool:=ltN y0.toNat y2.length
def vg:Bool:= !bif (nM y0 y1).1==(nN y0 y2).1then bif ((nM y0 y1).2).1==((nN y0 y2).2).1then bif (nM y0 y1).2.2==(nN y0 y2).2.2then true else false else false else false
def vh:Int:=v9 .i64 (y0 + (1:Int))
end
def XD:iS→List (Nat×SV)
 |(y0,_,_)=> [(5,(.one ⟨false,[.val (.int .i64 y0)]⟩)),(0,(.one ⟨false,[.ref 0]⟩)),(1,(.one ⟨false,[.ref 1]⟩))]
def Xy:iS→List (Nat×Entry)
 |(_,y1,y2)=> [(0,(.row false 109 ac0 y1)),(1,(.row false 109 ac0 y2))]
def XP:Nat→iS→List (Nat×SV)
 |0,(_,_,_)=> [(4,(.one ⟨false,[.val (.bool false)]⟩))]
 |_,(_,_,_)=> []
def XJ:Nat→iS→List (Nat×Entry)
 |0,(_,y1,y2)=> [(0,(.row false 109 ac0 y1)),(1,(.row false 109 ac0 y2))]
 |_,(_,y1,y2)=> [(0,(.row false 109 ac0 y1)),(1,(.row false 109 ac0 y2))]
def tJ:iS→LT iS
 |(y0,y1,y2)=> .ite (rB y0 y1) (.need [rC y0,rB y0 y1,vd y0 y1,rC y0,ve y0 y2,vf y0 y2] (.ite (vg y0 y1 y2) (.ext 0 [(0,0),(1,1)]) (.nrm ((vh y0),y1,y2) [(0,0),(1,1)]))) (.ext 1 [(0,0),(1,1)])
def Fc(s:St):Option iS:=
 (match s.look 5 with
 |some ⟨none,.one ⟨false,[.val (.int .i64 y0)]⟩⟩=>
 (match s.look 0 with
 |some ⟨none,.one ⟨false,[.ref 0]⟩⟩=>
 (match s.look 1 with
 |some ⟨none,.one ⟨false,[.ref 1]⟩⟩=>
 (match s.ent 0 with
 |some (.row false 109 (.pair (.int .i64) (.pair (.int .i64) (.int .i64))) y1)=>
 (match s.ent 1 with
 |some (.row false 109 (.pair (.int .i64) (.pair (.int .i64) (.int .i64))) y2)=>
 some (y0,y1,y2)
 |_=>none)
 |_=>none)
 |_=>none)
 |_=>none)
 |_=>none)
def dC:Lp iS where
 h:=⟨[11,12,13,14,17,18,19,20,21,22,23,24,25,4,15,16,5],[0,1],[],[]⟩
 JL:=XD
 JE:=Xy
 XL:=XP
 XE:=XJ
 q:=fun j=>match j with | 0=> .ret | _=> .exit 0
 tags:= [0,1]
 lt:=tJ
 fuel:=fun(y0,y1,y2)=>y0.natAbs + y1.length + y2.length
 fix:=fun(_,y1,y2) (y0,_,_)=>(y0,y1,y2)
 σ:= [(0,0),(1,1)]
 rd:=Fc
theorem VS:LoopOk prog (fun k=>Nat.blt k Tryz.f40.ntmps) dC.F (bV f40 0):=by
 refine Lp.ok (tbl:= []) (lf:= []) bG dC (by kernel_rfl) (LOk.nil _) (fun _=>rfl) (fun j _=>by unfold dC;match j with | 0=>rfl | _ + 1=>rfl) ?_ ?_ ?_ ?_ (fun _=>rfl) ?_
 ·rintro⟨y0,y1,y2⟩;kernel_rfl
 ·rintro⟨y0,y1,y2⟩;kernel_rfl
 ·intro s x h
  have h:Fc s=some x:=h
  unfold Fc at h
  repeat' split at h
  all_goals cases h
  constructor<;>repeat(first|refine ab (by assumption) rfl ?_|refine aa rfl (by assumption) rfl ?_|exact rfl)
 ·rintro⟨y0,y1,y2⟩;kernel_rfl
 ·rintro⟨y0,y1,y2⟩ z;exact(And.intro (And.intro trivial rfl) trivial)
section
variable (x0 x1:List (Int×Int×Int))
def CO:Bool:=(↑x0.length:Int)!=(↑x1.length:Int)
def CP:Int×List (Int×Int×Int)×List (Int×Int×Int):=((0:Int),x0,x1)
def zJ:Bool:=bif CO x0 x1 then false else bif Nat.beq ((Lp.res dC (CP x0 x1)).1) 0 then false else true
def zK:Bool:=allT [CO x0 x1||Lp.fin dC (CP x0 x1)]
end
def Se:List SV→List Entry→Option Out
 | [.one ⟨false,[.ref 0]⟩,.one ⟨false,[.ref 1]⟩],[.row false 109 (.pair (.int .i64) (.pair (.int .i64) (.int .i64))) x0,.row false 109 (.pair (.int .i64) (.pair (.int .i64) (.int .i64))) x1]=>some ⟨.one ⟨false,[.val (.bool (zJ x0 x1))]⟩,[.row false 109 ac0 x0,.row false 109 ac0 x1],[],[zK x0 x1]⟩
 |_,_=>none
def Lt:PF prog:=PF.ofG prog [] [dC.F] bG 40 f40 func40 (LOk.fnT (l:= [bV f40 0]) (by kernel_rfl) (.cons VS (.nil _))) Se (by
 intro vs es r h;unfold Se at h;split at h
 ·cases h;kernel_rfl
 ·cases h)
def HW(x0:List Int)(x1:List (Int×Int×Int))(x2:List Int)(x3:List (Int×Int×Int)):Bool:=bif eqL x0 x2 then zJ x1 x3 else false
def HX(x0:List Int)(x1:List (Int×Int×Int))(x2:List Int)(x3:List (Int×Int×Int)):Bool:=allT [leN x0.length (9223372036854775807:Nat),!(eqL x0 x2&&true)||zK x1 x3]
def Qt:List SV→List Entry→Option Out
 | [.one ⟨true,[.ref 0,.ref 1]⟩,.one ⟨true,[.ref 2,.ref 3]⟩],[.row false 2 (.int .i64) x0,.row false 109 (.pair (.int .i64) (.pair (.int .i64) (.int .i64))) x1,.row false 2 (.int .i64) x2,.row false 109 (.pair (.int .i64) (.pair (.int .i64) (.int .i64))) x3]=>some ⟨.one ⟨false,[.val (.bool (HW x0 x1 x2 x3))]⟩,[.row false 2 akd x0,.row false 109 ac0 x1,.row false 2 akd x2,.row false 109 ac0 x3],[],[HX x0 x1 x2 x3]⟩
 |_,_=>none
def abn:PF prog:=PF.ofG prog (T3z [Bj,Lt]) [] bG 25 f25 func25 (fun c _=>LOk.nil c) Qt (by
 intro vs es r h;unfold Qt at h;split at h
 ·cases h;kernel_rfl
 ·cases h)
def rA(y1 y2:List (Int×(Int×Int)))(b:Nat):(Unit)→Nat ⊕ (Unit)
 |_=>(bif(!bif (v8 y1[b]? ((0:Int),(0:Int),(0:Int))).1==(v8 y2[b]? ((0:Int),(0:Int),(0:Int))).1then bif ((v8 y1[b]? ((0:Int),(0:Int),(0:Int))).2).1==((v8 y2[b]? ((0:Int),(0:Int),(0:Int))).2).1then bif (v8 y1[b]? ((0:Int),(0:Int),(0:Int))).2.2==(v8 y2[b]? ((0:Int),(0:Int),(0:Int))).2.2then true else false else false else false)then(.inl 0)else(.inr ()))
def nV(y1 y2:List (Int×(Int×Int)))(i:Nat):(Unit)→iS
 |_=>((i:Int),y1,y2)
def Fb:iS→Unit
 |(_,_,_)=>()
theorem ZN(y1 y2:List (Int×(Int×Int))) (hn:y1.length≤9223372036854775807) (he:y2.length=y1.length):
  dC.fin ((0:Int),y1,y2)=true∧dC.res ((0:Int),y1,y2)=((cX (rA y1 y2) 1 (List.range y1.length) 0 ()).1,(nV y1 y2) (cX (rA y1 y2) 1 (List.range y1.length) 0 ()).2.1 (cX (rA y1 y2) 1 (List.range y1.length) 0 ()).2.2):=by
 have my:=dC.along (nV y1 y2) Fb (rA y1 y2) 1 (fun _ _=>True) (List.range y1.length) () (by trivial) (by simp only [dC,nV,List.length_range];omega) (fun i b a hb hI=> ?_) (fun a hI=> ?_)
 ·exact my
 ·obtain⟨⟩:=a
  obtain⟨rfl,eQ⟩:=Pv hb
  have hw:IntKind.i64.wrap ((b:Int) + 1)=((b + 1:Nat):Int):=by rw [aJ (by omega) (by omega)];omega
  have lz:ltI (b:Int) (y1.length:Int)=true:=cS (by omega)
  have Qg:leI (0:Int) (b:Int)=true:=bu (by omega)
  have yL:ltN b y1.length=true:=dI (by omega)
  refine⟨?_,?_,?_,?_⟩
  ·simp [nM,nN,rB,rC,vd,ve,vf,vg,vh,tJ,dC,LT.nds,allT,nV,lz,Qg,yL,he]
  ·simp [nM,nN,rB,rC,vd,ve,vf,vg,vh,tJ,dC,LT.each,nV,Fb,hw,he]
  ·simp only [nM,nN,rB,rC,vd,ve,vf,vg,vh,tJ,dC,LT.fn,nV,Fb,rA,w5,lz,cond_true]
  ·exact fun _ _=>trivial
 ·obtain⟨⟩:=a
  simp [nM,nN,rB,rC,vd,ve,vf,vg,vh,tJ,dC,LT.out,nV,List.length_range]
theorem ajG(xs ys:List BS3)(hn:leN xs.length 9223372036854775807=true):zJ xs ys=apy xs ys∧zK xs ys=true:=by
 have hn:=iv.1 hn
 unfold apy
 have h3: ∀ a b:BS3,(!bif a.1==b.1 then bif a.2.1==b.2.1 then bif a.2.2==b.2.2 then true else false else false else false)= !decide (a=b):=fun a b=>by
  obtain⟨a1,a2,a3⟩:=a;obtain⟨b1,b2,b3⟩:=b
  simp only [Prod.mk.injEq]
  by_cases h1:a1=b1 <;> by_cases h2:a2=b2 <;> by_cases h3:a3=b3 <;> simp [h1,h2,h3]
 by_cases hl:ys.length=xs.length
 ·obtain⟨w1,w2⟩:=ZN xs ys hn hl
  have ha:=apg (d:=((0:Int),(0:Int),(0:Int))) hl (P:=fun b=> !decide (v8 xs[b]? ((0:Int),(0:Int),(0:Int))=v8 ys[b]? ((0:Int),(0:Int),(0:Int)))) (fun b=>rfl)
  rw [ow (P:=fun b=> !decide (v8 xs[b]? ((0:Int),(0:Int),(0:Int))=v8 ys[b]? ((0:Int),(0:Int),(0:Int)))) (j:=0) (fun b=>by simp only [rA,h3]),ha]at w2
  simp only [CO,CP,zJ,zK,w1,w2,allT]
  by_cases he:xs=ys
  ·subst he;simp;decide
  ·simp [he,hl]
 ·have RP:xs≠ys:=fun h=>hl (by rw [h])
  simp [CO,CP,zJ,zK,allT,RP]
  omega
def lkM(xs:List Int)(ss:List BS3)(ys:List Int)(us:List BS3):Bool:=eqL xs ys&&apy ss us
theorem apM(xs:List Int)(ss:List BS3):lkM xs ss xs ss=true:=by simp only [lkM,alO,aoL,Bool.and_self]
theorem anu(xs:List Int)(ss:List BS3)(ys:List Int)(us:List BS3)(h:(leN xs.length 9223372036854775807&&leN ss.length 9223372036854775807)=true):
  HW xs ss ys us=lkM xs ss ys us∧HX xs ss ys us=true:=by
 simp only [q9]at h
 obtain⟨a,b⟩:=ajG ss us h.2
 simp only [HW,HX,a,b,h.1,lkM,allT,v3,cond_true,and_true]
 cases eqL xs ys <;> rfl
def QE:List SV→List Entry→Option Out
 | [.one ⟨true,[.ref 0,.ref 1]⟩,.one ⟨true,[.ref 2,.ref 3]⟩],[.row false 2 (.int .i64) x0,.row false 109 (.pair (.int .i64) (.pair (.int .i64) (.int .i64))) x1,.row false 2 (.int .i64) x2,.row false 109 (.pair (.int .i64) (.pair (.int .i64) (.int .i64))) x3]=>some ⟨.one ⟨false,[.val (.bool (lkM x0 x1 x2 x3))]⟩,[.row false 2 akd x0,.row false 109 ac0 x1,.row false 2 akd x2,.row false 109 ac0 x3],[],[leN x0.length 9223372036854775807&&leN x1.length 9223372036854775807]⟩
 |_,_=>none
def Ia:PF prog:=PF.alt abn QE (by
 intro args es o h cf;unfold QE at h;split at h
 ·rename_i x0 x1 x2 x3
  cases h
  have cf:=iw cf
  have hh:=anu x0 x1 x2 x3 cf
  obtain⟨e0,en⟩:=hh
  exact mK rfl (gE en) (by simp only [e0] <;> rfl) rfl rfl
 ·cases h)
section
variable (x2:alV)(x3 x4:Int)(x5 x6:List alV)
def TP:Int:=bif leI 0 (uT x5 x2)then x3 else x4
def TQ:Int:=bif leI 0 (uT x5 x2)then uT x5 x2 else uT x6 x2
def Ev:Bool:=allT [leN x5.length (9223372036854775807:Nat),leI 0 (uT x5 x2)||leN x6.length (9223372036854775807:Nat)]
end
def aag:List SV→List Entry→Option Out
 | [.one ⟨true,[.val (.string _x0),.ref 0,.ref 1,.ref 2,.val (.string _x1),.ref 3]⟩,.one ⟨false,[.val (.string x2)]⟩,.one ⟨false,[.val (.int .i64 x3)]⟩,.one ⟨false,[.val (.int .i64 x4)]⟩],[.row false 9 (.str) x5,.row false 9 (.str) x6,.row false 9 (.str) x7,.row false 142 (.pair (.str) (.sl 122 (.pair (.int .i64) (.pair (.str) (.int .i64))))) x8]=>some ⟨.one ⟨true,[.val (.int .i64 (TP x2 x3 x4 x5)),.val (.int .i64 (TQ x2 x5 x6))]⟩,[.row false 9 alu x5,.row false 9 alu x6,.row false 9 alu x7,.row false 142 (CTy.pair CTy.str (CTy.sl (122:TypeId) afs)) x8],[],[Ev x2 x5 x6]⟩
 |_,_=>none
def tQ:PF prog:=PF.ofG prog (T3z [aU]) [] bG 127 f127 func127 (fun c _=>LOk.nil c) aag (by
 intro vs es r h;unfold aag at h;split at h
 ·cases h;kernel_rfl
 ·cases h)
abbrev iA:=Int×Int×Int×alV×alV×List (Int×Int)×List alV×List alV×List alV×List (alV×(List (Int×(alV×Int))))
def ig(y1:Int)(y9:List (alV×(List (Int×(alV×Int))))):List (Int×alV×Int):=(v8 y9[v6 y1]? (uS aaY)).2
def fk(y0 y1:Int)(y9:List (alV×(List (Int×(alV×Int))))):Int×alV×Int:=v8 (ig y1 y9)[v6 y0]? ((0:Int),ByteArray.empty,(0:Int))
def dQ(y0 y1:Int)(y9:List (alV×(List (Int×(alV×Int))))):Bool:=(fk y0 y1 y9).1==1
def wI(y0 y1:Int)(y6 y7:List alV)(y9:List (alV×(List (Int×(alV×Int))))):List (Int×Int):= [(TP (((fk y0 y1 y9).2).1) 2 3 y6,TQ (((fk y0 y1 y9).2).1) y6 y7)]
def ii(y0 y1:Int)(y9:List (alV×(List (Int×(alV×Int))))):Bool:=(fk y0 y1 y9).1==2
def mh(y0 y1:Int)(y9:List (alV×(List (Int×(alV×Int))))):Bool:=(fk y0 y1 y9).1==3
def Kx(y0 y1:Int)(y9:List (alV×(List (Int×(alV×Int))))):Bool:=(fk y0 y1 y9).1==4
def Ky(y0 y1:Int)(y9:List (alV×(List (Int×(alV×Int))))):Bool:=(fk y0 y1 y9).1==5
def rW(y0 y1:Int)(y9:List (alV×(List (Int×(alV×Int))))):Bool:=bif Kx y0 y1 y9 then Kx y0 y1 y9 else bif Ky y0 y1 y9 then Ky y0 y1 y9 else (fk y0 y1 y9).1==6
def wJ(y0 y1:Int)(y9:List (alV×(List (Int×(alV×Int))))):List (Int×Int):= [(v9 .i64 (v9 .i64 ((fk y0 y1 y9).1 - (4:Int)) + (4:Int)),(0:Int))]
def uY(y2:Int):List (Int×Int):= [((7:Int),y2)]
def xK(y1:Int):Bool:=leI 0 y1
def xL(y1:Int)(y9:List (alV×(List (Int×(alV×Int))))):Bool:=ltI y1 (↑y9.length:Int)
def xM(y1:Int)(y9:List (alV×(List (Int×(alV×Int))))):Bool:=ltN y1.toNat y9.length
def xN(y0 y1:Int)(y9:List (alV×(List (Int×(alV×Int))))):Bool:=ltI y0 (↑(v7 (ig y1 y9)):Int)
def Mz(y0:Int):Bool:=leI 0 y0
def MA(y0 y1:Int)(y9:List (alV×(List (Int×(alV×Int))))):Bool:=ltN y0.toNat (v7 (ig y1 y9))
def MB(y0 y1:Int)(y6 y7:List alV)(y9:List (alV×(List (Int×(alV×Int))))):Bool:= !dQ y0 y1 y9||Ev (((fk y0 y1 y9).2).1) y6 y7
def MC(y0 y1:Int)(y5:List (Int×Int))(y6 y7:List alV)(y9:List (alV×(List (Int×(alV×Int))))):Bool:= !dQ y0 y1 y9||leN (v7 y5 + v7 (wI y0 y1 y6 y7 y9)) 9223372036854775807
def MD(y0 y1:Int)(y5:List (Int×Int))(y6 y7:List alV)(y9:List (alV×(List (Int×(alV×Int))))):Bool:= !dQ y0 y1 y9||leN ((v7 y5 + v7 (wI y0 y1 y6 y7 y9)) * 16) 140737488355328
def ME(y0 y1:Int)(y5:List (Int×Int))(y9:List (alV×(List (Int×(alV×Int))))):Bool:=dQ y0 y1 y9||(!ii y0 y1 y9||leN (v7 y5 + v7 [((1:Int),(1:Int))]) 9223372036854775807)
def Kq(y0 y1:Int)(y5:List (Int×Int))(y9:List (alV×(List (Int×(alV×Int))))):Bool:=dQ y0 y1 y9||(!ii y0 y1 y9||leN ((v7 y5 + v7 [((1:Int),(1:Int))]) * 16) 140737488355328)
def Kr(y0 y1:Int)(y5:List (Int×Int))(y9:List (alV×(List (Int×(alV×Int))))):Bool:=dQ y0 y1 y9||(ii y0 y1 y9||(!mh y0 y1 y9||leN (v7 y5 + v7 [((1:Int),(0:Int))]) 9223372036854775807))
def Ks(y0 y1:Int)(y5:List (Int×Int))(y9:List (alV×(List (Int×(alV×Int))))):Bool:=dQ y0 y1 y9||(ii y0 y1 y9||(!mh y0 y1 y9||leN ((v7 y5 + v7 [((1:Int),(0:Int))]) * 16) 140737488355328))
def Kt(y0 y1:Int)(y5:List (Int×Int))(y9:List (alV×(List (Int×(alV×Int))))):Bool:=dQ y0 y1 y9||(ii y0 y1 y9||(mh y0 y1 y9||(!rW y0 y1 y9||leN (v7 y5 + v7 (wJ y0 y1 y9)) 9223372036854775807)))
def Ku(y0 y1:Int)(y5:List (Int×Int))(y9:List (alV×(List (Int×(alV×Int))))):Bool:=dQ y0 y1 y9||(ii y0 y1 y9||(mh y0 y1 y9||(!rW y0 y1 y9||leN ((v7 y5 + v7 (wJ y0 y1 y9)) * 16) 140737488355328)))
def Kv(y0 y1 y2:Int)(y5:List (Int×Int))(y9:List (alV×(List (Int×(alV×Int))))):Bool:=dQ y0 y1 y9||(ii y0 y1 y9||(mh y0 y1 y9||(rW y0 y1 y9||leN (v7 y5 + v7 (uY y2)) 9223372036854775807)))
def Kw(y0 y1 y2:Int)(y5:List (Int×Int))(y9:List (alV×(List (Int×(alV×Int))))):Bool:=dQ y0 y1 y9||(ii y0 y1 y9||(mh y0 y1 y9||(rW y0 y1 y9||leN ((v7 y5 + v7 (uY y2)) * 16) 140737488355328)))
def Wk(y0 y1:Int)(y9:List (alV×(List (Int×(alV×Int))))):Bool:=dQ y0 y1 y9
def jV(y0:Int):Int:=v9 .i64 (y0 + (1:Int))
def Cz(y0 y1:Int)(y5:List (Int×Int))(y6 y7:List alV)(y9:List (alV×(List (Int×(alV×Int))))):List (Int×Int):=y5++wI y0 y1 y6 y7 y9
def Wl(y0 y1:Int)(y9:List (alV×(List (Int×(alV×Int))))):Bool:=ii y0 y1 y9
def CA(y5:List (Int×Int)):List (Int×Int):=y5++ [((1:Int),(1:Int))]
def Wm(y0 y1:Int)(y9:List (alV×(List (Int×(alV×Int))))):Bool:=mh y0 y1 y9
def CB(y5:List (Int×Int)):List (Int×Int):=y5++ [((1:Int),(0:Int))]
def Wn(y0 y1:Int)(y9:List (alV×(List (Int×(alV×Int))))):Bool:=rW y0 y1 y9
def CC(y0 y1:Int)(y5:List (Int×Int))(y9:List (alV×(List (Int×(alV×Int))))):List (Int×Int):=y5++wJ y0 y1 y9
def Wo(y2:Int):Int:=v9 .i64 (y2 + (1:Int))
def CD(y2:Int)(y5:List (Int×Int)):List (Int×Int):=y5++uY y2
def Vw:iA→List (Nat×SV)
 |(y0,y1,y2,_,_,_,_,_,_,_)=> [(6,(.one ⟨false,[.val (.int .i64 y0)]⟩)),(1,(.one ⟨false,[.ptr 0 0]⟩)),(5,(.one ⟨false,[.val (.int .i64 y1)]⟩)),(3,(.one ⟨false,[.ref 1]⟩)),(4,(.one ⟨false,[.val (.int .i64 y2)]⟩))]
def Vs:iA→List (Nat×Entry)
 |(_,_,_,y3,y4,y5,y6,y7,y8,y9)=> [(0,(.box 43 [.val (.string y3),.ref 2,.ref 3,.ref 4,.val (.string y4),.ref 5])),(2,(.row false 9 alu y6)),(3,(.row false 9 alu y7)),(4,(.row false 9 alu y8)),(5,(.row false 142 aaY y9)),(1,(.row true 83 ahF y5))]
def VE:Nat→iA→List (Nat×SV)
 |_,(y0,_,y2,_,_,_,_,_,_,_)=> [(3,(.one ⟨false,[.ref 1]⟩)),(4,(.one ⟨false,[.val (.int .i64 y2)]⟩)),(6,(.one ⟨false,[.val (.int .i64 y0)]⟩))]
def VA:Nat→iA→List (Nat×Entry)
 |_,(_,_,_,y3,y4,y5,y6,y7,y8,y9)=> [(0,(.box 43 [.val (.string y3),.ref 2,.ref 3,.ref 4,.val (.string y4),.ref 5])),(1,(.row true 83 ahF y5)),(2,(.row false 9 alu y6)),(3,(.row false 9 alu y7)),(4,(.row false 9 alu y8)),(5,(.row false 142 aaY y9))]
def wG:iA→LT iA
 |(y0,y1,y2,y3,y4,y5,y6,y7,y8,y9)=> .need [xK y1,xL y1 y9,xM y1 y9] (.ite (xN y0 y1 y9) (.need [xK y1,xL y1 y9,xM y1 y9,Mz y0,xN y0 y1 y9,MA y0 y1 y9] (.need [MB y0 y1 y6 y7 y9,MC y0 y1 y5 y6 y7 y9,MD y0 y1 y5 y6 y7 y9,ME y0 y1 y5 y9,Kq y0 y1 y5 y9,Kr y0 y1 y5 y9,Ks y0 y1 y5 y9,Kt y0 y1 y5 y9,Ku y0 y1 y5 y9,Kv y0 y1 y2 y5 y9,Kw y0 y1 y2 y5 y9] (.ite (Wk y0 y1 y9) (.nrm ((jV y0),y1,y2,y3,y4,Cz y0 y1 y5 y6 y7 y9,y6,y7,y8,y9) [(0,0),(1,1984),(2,2),(3,3),(4,4),(5,5)]) (.ite (Wl y0 y1 y9) (.nrm ((jV y0),y1,y2,y3,y4,CA y5,y6,y7,y8,y9) [(0,0),(1,1920),(2,2),(3,3),(4,4),(5,5)]) (.ite (Wm y0 y1 y9) (.nrm ((jV y0),y1,y2,y3,y4,CB y5,y6,y7,y8,y9) [(0,0),(1,2048),(2,2),(3,3),(4,4),(5,5)]) (.ite (Wn y0 y1 y9) (.nrm ((jV y0),y1,y2,y3,y4,CC y0 y1 y5 y9,y6,y7,y8,y9) [(0,0),(1,2688),(2,2),(3,3),(4,4),(5,5)]) (.nrm ((jV y0),y1,Wo y2,y3,y4,CD y2 y5,y6,y7,y8,y9) [(0,0),(1,2496),(2,2),(3,3),(4,4),(5,5)]))))))) (.ext 0 [(0,0),(1,1),(2,2),(3,3),(4,4),(5,5)]))
def Cs(s:St):Option iA:=
 (match s.look 6 with
 |some ⟨none,.one ⟨false,[.val (.int .i64 y0)]⟩⟩=>
 (match s.look 1 with
 |some ⟨none,.one ⟨false,[.ptr 0 0]⟩⟩=>
 (match s.look 5 with
 |some ⟨none,.one ⟨false,[.val (.int .i64 y1)]⟩⟩=>
 (match s.look 3 with
 |some ⟨none,.one ⟨false,[.ref 1]⟩⟩=>
 (match s.look 4 with
 |some ⟨none,.one ⟨false,[.val (.int .i64 y2)]⟩⟩=>
 (match s.ent 0 with
 |some (.box 43 [.val (.string y3),.ref 2,.ref 3,.ref 4,.val (.string y4),.ref 5])=>
 (match s.ent 2 with
 |some (.row false 9 (.str) y6)=>
 (match s.ent 3 with
 |some (.row false 9 (.str) y7)=>
 (match s.ent 4 with
 |some (.row false 9 (.str) y8)=>
 (match s.ent 5 with
 |some (.row false 142 (.pair .str (.sl 122 (.pair (.int .i64) (.pair .str (.int .i64))))) y9)=>
 (match s.ent 1 with
 |some (.row true 83 (.pair (.int .i64) (.int .i64)) y5)=>
 some (y0,y1,y2,y3,y4,y5,y6,y7,y8,y9)
 |_=>none)
 |_=>none)
 |_=>none)
 |_=>none)
 |_=>none)
 |_=>none)
 |_=>none)
 |_=>none)
 |_=>none)
 |_=>none)
 |_=>none)
def eC:Lp iA where
 h:=⟨[17,18,19,20,21,22,23,24,25,28,29,30,31,32,33,34,35,36,7,37,38,47,46,48,49,50,51,52,53,54,3,56,55,57,58,59,60,62,61,63,64,65,66,68,67,69,70,71,72,73,74,75,76,77,78,39,40,41,42,43,44,45,4,26,27,6],[0,2,3,4,5],[1],[]⟩
 JL:=Vw
 JE:=Vs
 XL:=VE
 XE:=VA
 q:=fun j=>match j with | _=> .exit 2
 tags:= [0]
 lt:=wG
 fuel:=fun(y0,y1,y2,y3,y4,y5,y6,y7,y8,y9)=>y0.natAbs + y1.natAbs + y2.natAbs + y3.size + y4.size + y5.length + y6.length + y7.length + y8.length + y9.length
 fix:=fun(_,y1,_,y3,y4,_,y6,y7,y8,y9) (y0,_,y2,_,_,y5,_,_,_,_)=>(y0,y1,y2,y3,y4,y5,y6,y7,y8,y9)
 σ:= [(0,0),(2,2),(3,3),(4,4),(5,5),(1,1)]
 rd:=Cs
theorem SG:LoopOk prog (memN [10,11,12,13,14,6,17,18,19,20,21,22,23,24,25,28,29,30,31,32,33,34,35,36,7,37,38,47,46,48,49,50,51,52,53,54,3,56,55,57,58,59,60,62,61,63,64,65,66,68,67,69,70,71,72,73,74,75,76,77,78,39,40,41,42,43,44,45,4,26,27,79,80,81,82,83,84,85,86,87,8,88,89,90,91,92,93,94,95,96,97,98,99,100,101,102,103,104,105,106,107,15,16,5]) eC.F (VR (bV f81 0) 0):=by
 refine Lp.ok (tbl:= (T3z [aU,lA,tQ])) (lf:= []) bG eC (by kernel_rfl) (LOk.nil _) (fun _=>rfl) (fun _ _=>rfl) ?_ ?_ ?_ ?_ (fun _=>rfl) ?_
 ·rintro⟨y0,y1,y2,y3,y4,y5,y6,y7,y8,y9⟩;kernel_rfl
 ·rintro⟨y0,y1,y2,y3,y4,y5,y6,y7,y8,y9⟩;kernel_rfl
 ·intro s x h
  have h:Cs s=some x:=h
  unfold Cs at h
  repeat' split at h
  all_goals cases h
  constructor<;>repeat(first|refine ab (by assumption) rfl ?_|refine aa rfl (by assumption) rfl ?_|exact rfl)
 ·rintro⟨y0,y1,y2,y3,y4,y5,y6,y7,y8,y9⟩;kernel_rfl
 ·rintro⟨y0,y1,y2,y3,y4,y5,y6,y7,y8,y9⟩ z;exact(And.intro (And.intro rfl (And.intro rfl (And.intro rfl (And.intro rfl rfl)))) trivial)
abbrev lG:=Int×Int×alV×alV×List (Int×Int)×List alV×List alV×List alV×List (alV×(List (Int×(alV×Int))))
def OU(y0:Int)(y8:List (alV×(List (Int×(alV×Int))))):Bool:=ltI y0 (↑y8.length:Int)
def AP(y0 y1:Int)(y2 y3:alV)(y4:List (Int×Int))(y5 y6 y7:List alV)(y8:List (alV×(List (Int×(alV×Int))))):Int×Int×Int×alV×alV×List (Int×Int)×List alV×List alV×List alV×List (alV×List (Int×alV×Int)):=((0:Int),y0,y1,y2,y3,y4,y5,y6,y7,y8)
def OV(y0:Int)(y8:List (alV×(List (Int×(alV×Int))))):Bool:=ltN y0.toNat y8.length
def gz(y0:Int)(y8:List (alV×(List (Int×(alV×Int))))):alV:=(v8 y8[v6 y0]? (uS aaY)).1
def GR(y0 y1:Int)(y2 y3:alV)(y4:List (Int×Int))(y5 y6 y7:List alV)(y8:List (alV×(List (Int×(alV×Int))))):Int×alV×alV×List (Int×Int)×List alV×List alV×List alV×List (alV×List (Int×alV×Int)):=(Lp.res eC (AP y0 y1 y2 y3 y4 y5 y6 y7 y8)).2.2.2
def mM(y0 y1:Int)(y2 y3:alV)(y4:List (Int×Int))(y5 y6 y7:List alV)(y8:List (alV×(List (Int×(alV×Int))))):List (Int×Int):=((GR y0 y1 y2 y3 y4 y5 y6 y7 y8).2.2.2).1
def AQ(y0:Int)(y6:List alV)(y8:List (alV×(List (Int×(alV×Int))))):List (Int×Int):= [((8:Int),uT y6 (gz y0 y8))]
def AR(y0:Int)(y7:List alV)(y8:List (alV×(List (Int×(alV×Int))))):List (Int×Int):= [((9:Int),uT y7 (gz y0 y8))]
def BX(y0:Int)(y8:List (alV×(List (Int×(alV×Int))))):Bool:=OU y0 y8
def QV(y0 y1:Int)(y2 y3:alV)(y4:List (Int×Int))(y5 y6 y7:List alV)(y8:List (alV×(List (Int×(alV×Int))))):Bool:=Lp.fin eC (AP y0 y1 y2 y3 y4 y5 y6 y7 y8)
def QW(y0:Int):Bool:=leI 0 y0
def QX(y0:Int)(y8:List (alV×(List (Int×(alV×Int))))):Bool:=OV y0 y8
def QY(y6:List alV):Bool:=leN y6.length (9223372036854775807:Nat)
def QZ(y0 y1:Int)(y2 y3:alV)(y4:List (Int×Int))(y5 y6 y7:List alV)(y8:List (alV×(List (Int×(alV×Int))))):Bool:= !leI 0 (uT y6 (gz y0 y8))||leN (v7 (mM y0 y1 y2 y3 y4 y5 y6 y7 y8) + v7 (AQ y0 y6 y8)) 9223372036854775807
def Ra(y0 y1:Int)(y2 y3:alV)(y4:List (Int×Int))(y5 y6 y7:List alV)(y8:List (alV×(List (Int×(alV×Int))))):Bool:= !leI 0 (uT y6 (gz y0 y8))||leN ((v7 (mM y0 y1 y2 y3 y4 y5 y6 y7 y8) + v7 (AQ y0 y6 y8)) * 16) 140737488355328
def Rb(y0:Int)(y6:List alV)(y8:List (alV×(List (Int×(alV×Int))))):Bool:=leI 0 (uT y6 (gz y0 y8))||leI 0 y0
def Rc(y0:Int)(y6:List alV)(y8:List (alV×(List (Int×(alV×Int))))):Bool:=leI 0 (uT y6 (gz y0 y8))||OU y0 y8
def Rd(y0:Int)(y6:List alV)(y8:List (alV×(List (Int×(alV×Int))))):Bool:=leI 0 (uT y6 (gz y0 y8))||OV y0 y8
def OQ(y0:Int)(y6 y7:List alV)(y8:List (alV×(List (Int×(alV×Int))))):Bool:=leI 0 (uT y6 (gz y0 y8))||leN y7.length (9223372036854775807:Nat)
def OR(y0 y1:Int)(y2 y3:alV)(y4:List (Int×Int))(y5 y6 y7:List alV)(y8:List (alV×(List (Int×(alV×Int))))):Bool:=leI 0 (uT y6 (gz y0 y8))||leN (v7 (mM y0 y1 y2 y3 y4 y5 y6 y7 y8) + v7 (AR y0 y7 y8)) 9223372036854775807
def OS(y0 y1:Int)(y2 y3:alV)(y4:List (Int×Int))(y5 y6 y7:List alV)(y8:List (alV×(List (Int×(alV×Int))))):Bool:=leI 0 (uT y6 (gz y0 y8))||leN ((v7 (mM y0 y1 y2 y3 y4 y5 y6 y7 y8) + v7 (AR y0 y7 y8)) * 16) 140737488355328
def ZJ(y0:Int)(y6:List alV)(y8:List (alV×(List (Int×(alV×Int))))):Bool:=leI 0 (uT y6 (gz y0 y8))
def rP(y0:Int):Int:=v9 .i64 (y0 + (1:Int))
def OT(y0 y1:Int)(y2 y3:alV)(y4:List (Int×Int))(y5 y6 y7:List alV)(y8:List (alV×(List (Int×(alV×Int))))):Int:=(GR y0 y1 y2 y3 y4 y5 y6 y7 y8).1
def GP(y0 y1:Int)(y2 y3:alV)(y4:List (Int×Int))(y5 y6 y7:List alV)(y8:List (alV×(List (Int×(alV×Int))))):List (Int×Int):=mM y0 y1 y2 y3 y4 y5 y6 y7 y8++AQ y0 y6 y8
def GQ(y0 y1:Int)(y2 y3:alV)(y4:List (Int×Int))(y5 y6 y7:List alV)(y8:List (alV×(List (Int×(alV×Int))))):List (Int×Int):=mM y0 y1 y2 y3 y4 y5 y6 y7 y8++AR y0 y7 y8
def Zn:lG→List (Nat×SV)
 |(y0,y1,_,_,_,_,_,_,_)=> [(5,(.one ⟨false,[.val (.int .i64 y0)]⟩)),(1,(.one ⟨false,[.ptr 0 0]⟩)),(3,(.one ⟨false,[.ref 1]⟩)),(4,(.one ⟨false,[.val (.int .i64 y1)]⟩))]
def Zi:lG→List (Nat×Entry)
 |(_,_,y2,y3,y4,y5,y6,y7,y8)=> [(0,(.box 43 [.val (.string y2),.ref 2,.ref 3,.ref 4,.val (.string y3),.ref 5])),(2,(.row false 9 alu y5)),(3,(.row false 9 alu y6)),(4,(.row false 9 alu y7)),(5,(.row false 142 aaY y8)),(1,(.row true 83 ahF y4))]
def Zx:Nat→lG→List (Nat×SV)
 |_,(_,_,_,_,_,_,_,_,_)=> [(3,(.one ⟨false,[.ref 1]⟩))]
def Zs:Nat→lG→List (Nat×Entry)
 |_,(_,_,y2,y3,y4,y5,y6,y7,y8)=> [(0,(.box 43 [.val (.string y2),.ref 2,.ref 3,.ref 4,.val (.string y3),.ref 5])),(1,(.row true 83 ahF y4)),(2,(.row false 9 alu y5)),(3,(.row false 9 alu y6)),(4,(.row false 9 alu y7)),(5,(.row false 142 aaY y8))]
def AF:lG→LT lG
 |(y0,y1,y2,y3,y4,y5,y6,y7,y8)=> .ite (BX y0 y8) (.need [QV y0 y1 y2 y3 y4 y5 y6 y7 y8] (.need [QW y0,BX y0 y8,QX y0 y8,QY y6] (.need [QZ y0 y1 y2 y3 y4 y5 y6 y7 y8,Ra y0 y1 y2 y3 y4 y5 y6 y7 y8,Rb y0 y6 y8,Rc y0 y6 y8,Rd y0 y6 y8,OQ y0 y6 y7 y8,OR y0 y1 y2 y3 y4 y5 y6 y7 y8,OS y0 y1 y2 y3 y4 y5 y6 y7 y8] (.ite (ZJ y0 y6 y8) (.nrm ((rP y0),OT y0 y1 y2 y3 y4 y5 y6 y7 y8,y2,y3,GP y0 y1 y2 y3 y4 y5 y6 y7 y8,y5,y6,y7,y8) [(0,0),(1,1536),(2,2),(3,3),(4,4),(5,5)]) (.nrm ((rP y0),OT y0 y1 y2 y3 y4 y5 y6 y7 y8,y2,y3,GQ y0 y1 y2 y3 y4 y5 y6 y7 y8,y5,y6,y7,y8) [(0,0),(1,2048),(2,2),(3,3),(4,4),(5,5)]))))) (.ext 0 [(0,0),(1,1),(2,2),(3,3),(4,4),(5,5)])
def Gs(s:St):Option lG:=
 (match s.look 5 with
 |some ⟨none,.one ⟨false,[.val (.int .i64 y0)]⟩⟩=>
 (match s.look 1 with
 |some ⟨none,.one ⟨false,[.ptr 320 0]⟩⟩=>
 (match s.look 3 with
 |some ⟨none,.one ⟨false,[.ref 448]⟩⟩=>
 (match s.look 4 with
 |some ⟨none,.one ⟨false,[.val (.int .i64 y1)]⟩⟩=>
 (match s.ent 320 with
 |some (.box 43 [.val (.string y2),.ref 0,.ref 1,.ref 2,.val (.string y3),.ref 3])=>
 (match s.ent 0 with
 |some (.row false 9 (.str) y5)=>
 (match s.ent 1 with
 |some (.row false 9 (.str) y6)=>
 (match s.ent 2 with
 |some (.row false 9 (.str) y7)=>
 (match s.ent 3 with
 |some (.row false 142 (.pair .str (.sl 122 (.pair (.int .i64) (.pair .str (.int .i64))))) y8)=>
 (match s.ent 448 with
 |some (.row true 83 (.pair (.int .i64) (.int .i64)) y4)=>
 some (y0,y1,y2,y3,y4,y5,y6,y7,y8)
 |_=>none)
 |_=>none)
 |_=>none)
 |_=>none)
 |_=>none)
 |_=>none)
 |_=>none)
 |_=>none)
 |_=>none)
 |_=>none)
def gh:Lp lG where
 h:=⟨[10,11,12,13,14,6,17,18,19,20,21,22,23,24,25,28,29,30,31,32,33,34,35,36,7,37,38,47,46,48,49,50,51,52,53,54,3,56,55,57,58,59,60,62,61,63,64,65,66,68,67,69,70,71,72,73,74,75,76,77,78,39,40,41,42,43,44,45,4,26,27,79,80,81,82,83,84,85,86,87,8,88,89,90,91,92,93,94,95,96,97,98,99,100,101,102,103,104,105,106,107,15,16,5],[0,2,3,4,5],[1],[]⟩
 JL:=Zn
 JE:=Zi
 XL:=Zx
 XE:=Zs
 q:=fun j=>match j with | _=> .exit 0
 tags:= [0]
 lt:=AF
 fuel:=fun(y0,y1,y2,y3,y4,y5,y6,y7,y8)=>y0.natAbs + y1.natAbs + y2.size + y3.size + y4.length + y5.length + y6.length + y7.length + y8.length
 fix:=fun(_,_,y2,y3,_,y5,y6,y7,y8) (y0,y1,_,_,y4,_,_,_,_)=>(y0,y1,y2,y3,y4,y5,y6,y7,y8)
 σ:= [(0,320),(2,0),(3,1),(4,2),(5,3),(1,448)]
 rd:=Gs
theorem Xc:LoopOk prog (fun k=>Nat.blt k Tryz.f81.ntmps) gh.F (bV f81 0):=by
 refine Lp.ok (tbl:= (T3z [aU,lA,tQ])) (lf:= [eC.F]) bG gh (by kernel_rfl) (LOk.allT (l:= [VR (bV f81 0) 0]) (by kernel_rfl) (.cons SG (.nil _))) (fun _=>rfl) (fun _ _=>rfl) ?_ ?_ ?_ ?_ (fun _=>rfl) ?_
 ·rintro⟨y0,y1,y2,y3,y4,y5,y6,y7,y8⟩;kernel_rfl
 ·rintro⟨y0,y1,y2,y3,y4,y5,y6,y7,y8⟩;kernel_rfl
 ·intro s x h
  have h:Gs s=some x:=h
  unfold Gs at h
  repeat' split at h
  all_goals cases h
  constructor<;>repeat(first|refine ab (by assumption) rfl ?_|refine aa rfl (by assumption) rfl ?_|exact rfl)
 ·rintro⟨y0,y1,y2,y3,y4,y5,y6,y7,y8⟩;kernel_rfl
 ·rintro⟨y0,y1,y2,y3,y4,y5,y6,y7,y8⟩ z;exact(And.intro (And.intro rfl rfl) trivial)
section
variable (x0 x1:alV)(x2 x3 x4:List alV)(x5:List (alV×List (Int×alV×Int)))
def kx:Bool:= !ByteArray.toList x1==ByteArray.toList (ByteArray.mk #[])
def Fw:Int×Int×alV×alV×List (Int×Int)×List alV×List alV×List alV×List (alV×List (Int×alV×Int)):=((0:Int),(0:Int),x0,x1,[],x2,x3,x4,x5)
def wm:List (Int×Int):=((Lp.res gh (Fw x0 x1 x2 x3 x4 x5)).2.2.2.2.2).1
def Fx:List (Int×Int):= [(TP x1 10 11 x2,TQ x1 x2 x3)]
def cT:Int:=bif kx x1 then(↑x2.length:Int)else(↑x2.length:Int)
def cU:Int:=bif kx x1 then(↑x3.length:Int)else(↑x3.length:Int)
def cV:Int:=bif kx x1 then(↑x4.length:Int)else(↑x4.length:Int)
def cW:List (Int×(alV×Int)):=bif kx x1 then blL x5 else blL x5
def lU:List (Int×Int):=bif kx x1 then wm x0 x1 x2 x3 x4 x5++Fx x1 x2 x3 else wm x0 x1 x2 x3 x4 x5
def NR:Bool:=allT [Lp.fin gh (Fw x0 x1 x2 x3 x4 x5),!kx x1||Ev x1 x2 x3,!kx x1||leN (v7 (wm x0 x1 x2 x3 x4 x5) + v7 (Fx x1 x2 x3)) 9223372036854775807,!kx x1||leN ((v7 (wm x0 x1 x2 x3 x4 x5) + v7 (Fx x1 x2 x3)) * 16) 140737488355328,!kx x1||afy x5,kx x1||afy x5]
end
def Uq:List SV→List Entry→Option Out
 | [.one ⟨true,[.val (.string x0),.ref 0,.ref 1,.ref 2,.val (.string x1),.ref 3]⟩],[.row false 9 (.str) x2,.row false 9 (.str) x3,.row false 9 (.str) x4,.row false 142 (.pair (.str) (.sl 122 (.pair (.int .i64) (.pair (.str) (.int .i64))))) x5]=>some ⟨.one ⟨true,[.val (.int .i64 (cT x1 x2)),.val (.int .i64 (cU x1 x3)),.val (.int .i64 (cV x1 x4)),.ref 4,.ref 5]⟩,[.row false 9 alu x2,.row false 9 alu x3,.row false 9 alu x4,.row false 142 (CTy.pair CTy.str (CTy.sl (122:TypeId) afs)) x5],[.row true 122 afs (cW x1 x5),.row true 83 ahF (lU x0 x1 x2 x3 x4 x5)],[NR x0 x1 x2 x3 x4 x5]⟩
 |_,_=>none
def afJ:PF prog:=PF.ofG prog (T3z [aU,lA,tQ]) [gh.F] bG 81 f81 func81 (LOk.fnT (l:= [bV f81 0]) (by kernel_rfl) (.cons Xc (.nil _))) Uq (by
 intro vs es r h;unfold Uq at h;split at h
 ·cases h;kernel_rfl
 ·cases h)
section
variable (x0 x1 x2:Int)
def Va:Bool:=bif x0==1 then x2==4 else false
def Vb:Bool:=bif x0==4 then x2==4 else false
def Vc:Bool:=bif bif x0==1 then x1==1 else false then x2==5 else false
def Vd:Bool:=bif bif x0==1 then x1==0 else false then x2==6 else false
def Xo:Bool:=bif Va x0 x2 then true else bif Vb x0 x2 then true else bif Vc x0 x1 x2 then true else bif Vd x0 x1 x2 then true else false
def Jb:List (Int×Int):=bif Va x0 x2 then [((1:Int),v9 .i64 ((1:Int) - x1))]else bif Vb x0 x2 then []else bif Vc x0 x1 x2 then []else bif Vd x0 x1 x2 then []else []
end
def WA:List SV→List Entry→Option Out
 | [.one ⟨true,[.val (.int .i64 x0),.val (.int .i64 x1)]⟩,.one ⟨true,[.val (.int .i64 x2),.val (.int .i64 _x3)]⟩],[]=>some ⟨.tup [⟨false,[.ref 0]⟩,⟨false,[.val (.bool (Xo x0 x1 x2))]⟩],[],[.row true 83 ahF (Jb x0 x1 x2)],[]⟩
 |_,_=>none
def Xk:PF prog:=PF.ofG prog [] [] bG 192 f192 func192 (fun c _=>LOk.nil c) WA (by
 intro vs es r h;unfold WA at h;split at h
 ·cases h;kernel_rfl
 ·cases h)
section
variable (x0 x1:Int)(x2 x3 x4:List Int)(x5:List (Int×Int×Int))(x6 x7 x8:List Int)(x9:List (Int×Int×Int))
def AD:Bool:=bif x0==x1 then eqL x2 x6 else false
def HU:Bool:=bif bif AD x0 x1 x2 x6 then eqL x4 x8 else false then lkM x3 x5 x7 x9 else false
def HV:Bool:=allT [!(x0==x1&&true)||leN x2.length (9223372036854775807:Nat),!(AD x0 x1 x2 x6&&true)||leN x4.length (9223372036854775807:Nat),!((bif AD x0 x1 x2 x6 then eqL x4 x8 else false)&&true)||leN x3.length (9223372036854775807:Nat)&&leN x5.length (9223372036854775807:Nat)]
end
def Qs:List SV→List Entry→Option Out
 | [.one ⟨true,[.val (.int .i64 x0),.ref 0,.ref 1,.ref 2,.ref 3]⟩,.one ⟨true,[.val (.int .i64 x1),.ref 4,.ref 5,.ref 6,.ref 7]⟩],[.row false 2 (.int .i64) x2,.row false 2 (.int .i64) x3,.row false 2 (.int .i64) x4,.row false 109 (.pair (.int .i64) (.pair (.int .i64) (.int .i64))) x5,.row false 2 (.int .i64) x6,.row false 2 (.int .i64) x7,.row false 2 (.int .i64) x8,.row false 109 (.pair (.int .i64) (.pair (.int .i64) (.int .i64))) x9]=>some ⟨.one ⟨false,[.val (.bool (HU x0 x1 x2 x3 x4 x5 x6 x7 x8 x9))]⟩,[.row false 2 akd x2,.row false 2 akd x3,.row false 2 akd x4,.row false 109 ac0 x5,.row false 2 akd x6,.row false 2 akd x7,.row false 2 akd x8,.row false 109 ac0 x9],[],[HV x0 x1 x2 x3 x4 x5 x6 x8]⟩
 |_,_=>none
def abm:PF prog:=PF.ofG prog (T3z [Bj,Ia]) [] bG 12 f12 func12 (fun c _=>LOk.nil c) Qs (by
 intro vs es r h;unfold Qs at h;split at h
 ·cases h;kernel_rfl
 ·cases h)
def alv(v:List (Int×Int)→List (Int×Int))(n:Nat):List SV→List Entry→Option Out
 | [.one ⟨false,[.ref 0]⟩],[.row false 83 (.pair (.int .i64) (.int .i64)) x0]=>
  some ⟨.one ⟨false,[.ref 1]⟩,[.row false 83 (.pair (.int .i64) (.int .i64)) x0],[.row true 83 (.pair (.int .i64) (.int .i64)) (v x0)],[leN (x0.length + 1) n,leN x0.length 1000000]⟩
 |_,_=>none
def aqe(v:List (Int×Int)→List (Int×Int))(n:Nat):Prop:=
 ∀ args es o,alv v n args es=some o→(∀ b∈o.nd,b=true)→ ∀ (mem:Nat→Option Obj) (ρ:Nm) (w:World),HpL w mem es ρ w→
  Calls prog 167 (args.map (SV.conc ρ)).toArray w fun e w'=> ∃ ρ':Nm,Ext (memB w mem) (fun i=>Nat.blt i es.length) ρ ρ'∧e= .returned (o.res.conc ρ')∧o.es.length=es.length∧
   o.res.inU (fun i=>Nat.blt i (o.es++o.new).length)∧HpL w mem (o.es++o.new) ρ' w'
def PF.imp(v:List (Int×Int)→List (Int×Int))(n:Nat)(hk:aqe v n):PF prog where
 k:=167
 F:=alv v n
 ok:=hk
abbrev mJ:=Int×List (Int×Int)
section
variable (y0:Int)(y1:List (Int×Int))
def qB:Int:=v9 .i64 (y0 + (1:Int))
def qC:Int×Int:=v8 y1[v6 y0]? ((0:Int),(0:Int))
def Fz:Int:=(v8 y1[v6 (qB y0)]? ((0:Int),(0:Int))).1
def ci:Bool:=Xo ((qC y0 y1).1) ((qC y0 y1).2) (Fz y0 y1)
def nU:List (Int×Int):=List.drop (v6 0) (List.take y0.toNat y1)
def yY:List (Int×Int):=Jb ((qC y0 y1).1) ((qC y0 y1).2) (Fz y0 y1)
def yZ:Int:=v9 .i64 (y0 + (2:Int))
def uk:List (Int×Int):=nU y0 y1++yY y0 y1
def ul:List (Int×Int):=List.drop (v6 (yZ y0)) (List.take (v6 (↑y1.length:Int)) y1)
def jx:List (Int×Int):=uk y0 y1++ul y0 y1
def rQ:Bool:=ltI (qB y0) (↑y1.length:Int)
def OW:Bool:=leI 0 y0
def OX:Bool:=ltI y0 (↑y1.length:Int)
def OY:Bool:=ltN y0.toNat y1.length
def GS:Bool:=leI 0 (qB y0)
def GU:Bool:=ltN (v6 (qB y0)) y1.length
def OZ:Bool:= !ci y0 y1||leI 0 0
def Pa:Bool:= !ci y0 y1||leI 0 y0
def Pb:Bool:= !ci y0 y1||leI y0 (↑y1.length:Int)
def Pc:Bool:= !ci y0 y1||leN (0 + v7 (nU y0 y1)) 9223372036854775807
def Oa:Bool:= !ci y0 y1||leN ((0 + v7 (nU y0 y1)) * 16) 140737488355328
def Ob:Bool:= !ci y0 y1||leN (v7 (nU y0 y1) + v7 (yY y0 y1)) 9223372036854775807
def Oc:Bool:= !ci y0 y1||leN ((v7 (nU y0 y1) + v7 (yY y0 y1)) * 16) 140737488355328
def Od:Bool:= !ci y0 y1||leI 0 (yZ y0)
def Oe:Bool:= !ci y0 y1||leI (yZ y0) (↑y1.length:Int)
def Of:Bool:= !ci y0 y1||leI (↑y1.length:Int) (↑y1.length:Int)
def Og:Bool:= !ci y0 y1||leN (v7 (uk y0 y1) + v7 (ul y0 y1)) 9223372036854775807
def Oh:Bool:= !ci y0 y1||leN ((v7 (uk y0 y1) + v7 (ul y0 y1)) * 16) 140737488355328
end
def Oi(n0:Nat)(y0:Int)(y1:List (Int×Int)):Bool:= !ci y0 y1||leN (v7 (jx y0 y1) + 1) n0
def Oj(y0:Int)(y1:List (Int×Int)):Bool:= !ci y0 y1||leN (v7 (jx y0 y1)) 1000000
def Ok(y0:Int)(y1:List (Int×Int)):Bool:=ci y0 y1
def Ol(v0:List (Int×Int)→List (Int×Int))(y0:Int)(y1:List (Int×Int)):List (Int×Int):=v0 (jx y0 y1)
def Fy(y0:Int):Int:=qB y0
def XI:mJ→List (Nat×SV)
 |(y0,_)=> [(3,(.one ⟨false,[.val (.int .i64 y0)]⟩)),(0,(.one ⟨false,[.ref 0]⟩))]
def XC:mJ→List (Nat×Entry)
 |(_,y1)=> [(0,(.row false 83 ahF y1))]
def XT:Nat→mJ→List (Nat×SV)
 |0,(_,_)=> [(2,(.one ⟨false,[.ref 1]⟩))]
 |_,(_,_)=> []
def XO(v0:List (Int×Int)→List (Int×Int)):Nat→mJ→List (Nat×Entry)
 |0,(y0,y1)=> [(0,(.row false 83 ahF y1)),(1,(.row true 83 ahF (Ol v0 y0 y1)))]
 |_,(_,y1)=> [(0,(.row false 83 ahF y1))]
def Fa(n0:Nat):mJ→LT mJ
 |(y0,y1)=> .ite (rQ y0 y1) (.need [OW y0,OX y0 y1,OY y0 y1,GS y0,rQ y0 y1,GU y0 y1] (.need [OZ y0 y1,Pa y0 y1,Pb y0 y1,Pc y0 y1,Oa y0 y1,Ob y0 y1,Oc y0 y1,Od y0 y1,Oe y0 y1,Of y0 y1,Og y0 y1,Oh y0 y1,Oi n0 y0 y1,Oj y0 y1] (.ite (Ok y0 y1) (.ext 0 [(0,0),(1,2304)]) (.nrm ((Fy y0),y1) [(0,0)])))) (.ext 1 [(0,0)])
def Fg(s:St):Option mJ:=
 (match s.look 3 with
 |some ⟨none,.one ⟨false,[.val (.int .i64 y0)]⟩⟩=>
 (match s.look 0 with
 |some ⟨none,.one ⟨false,[.ref 0]⟩⟩=>
 (match s.ent 0 with
 |some (.row false 83 (.pair (.int .i64) (.int .i64)) y1)=>
 some (y0,y1)
 |_=>none)
 |_=>none)
 |_=>none)
def dh(v0:List (Int×Int)→List (Int×Int))(n0:Nat):Lp mJ where
 h:=⟨[7,8,9,10,11,15,16,17,18,19,20,21,22,23,24,14,25,26,4,5,27,28,29,30,31,32,33,34,6,35,36,37,38,39,40,41,2,12,13,3],[0],[],[1]⟩
 JL:=XI
 JE:=XC
 XL:=XT
 XE:=(XO v0)
 q:=fun j=>match j with | 0=> .ret | _=> .exit 0
 tags:= [0,1]
 lt:=(Fa n0)
 fuel:=fun(y0,y1)=>y0.natAbs + y1.length
 fix:=fun(_,y1) (y0,_)=>(y0,y1)
 σ:= [(0,0)]
 rd:=Fg
theorem VW(v0:List (Int×Int)→List (Int×Int))(n0:Nat)(hk0:aqe v0 n0):LoopOk prog (fun k=>Nat.blt k Tryz.f167.ntmps) (dh v0 n0).F (bV f167 0):=by
 refine Lp.ok (tbl:= [Xk,PF.imp v0 n0 hk0,PF.lend (PF.imp v0 n0 hk0),PF.fz (PF.imp v0 n0 hk0)]) (lf:= []) bG (dh v0 n0) (by kernel_rfl) (LOk.nil _) (fun _=>rfl) (fun j _=>by unfold dh;match j with | 0=>rfl | _ + 1=>rfl) ?_ ?_ ?_ ?_ (fun _=>rfl) ?_
 ·rintro⟨y0,y1⟩;kernel_rfl
 ·rintro⟨y0,y1⟩;kernel_rfl
 ·intro s x h
  have h:Fg s=some x:=h
  unfold Fg at h
  repeat' split at h
  all_goals cases h
  constructor<;>repeat(first|refine ab (by assumption) rfl ?_|refine aa rfl (by assumption) rfl ?_|exact rfl)
 ·rintro⟨y0,y1⟩;kernel_rfl
 ·rintro⟨y0,y1⟩ z;exact(And.intro (And.intro trivial rfl) trivial)
def Dn(v0:List (Int×Int)→List (Int×Int))(n0:Nat)(x0:List (Int×Int)):Bool:=Nat.beq ((Lp.res (dh v0 n0) ((0:Int),x0)).1) 0
def Av(v0:List (Int×Int)→List (Int×Int))(n0:Nat)(x0:List (Int×Int)):List (Int×Int):=bif(Dn v0 n0) x0 then(Ol v0) (((Lp.res (dh v0 n0) ((0:Int),x0)).2).1) x0 else x0
def Mg(v0:List (Int×Int)→List (Int×Int))(n0:Nat)(x0:List (Int×Int)):Bool:=allT [Lp.fin (dh v0 n0) ((0:Int),x0),(Dn v0 n0) x0||leN (0 + v7 x0) 9223372036854775807,(Dn v0 n0) x0||leN ((0 + v7 x0) * 16) 140737488355328]
def Sl(v0:List (Int×Int)→List (Int×Int))(n0:Nat):List SV→List Entry→Option Out
 | [.one ⟨false,[.ref 0]⟩],[.row false 83 (.pair (.int .i64) (.int .i64)) x0]=>some ⟨.one ⟨false,[.ref 1]⟩,[.row false 83 ahF x0],[.row true 83 ahF (Av v0 n0 x0)],[Mg v0 n0 x0]⟩
 |_,_=>none
def aef(v0:List (Int×Int)→List (Int×Int))(n0:Nat)(hk0:aqe v0 n0):PF prog:=PF.ofG prog [Xk,PF.imp v0 n0 hk0,PF.lend (PF.imp v0 n0 hk0),PF.fz (PF.imp v0 n0 hk0)] [(dh v0 n0).F] bG 167 f167 func167 (LOk.fnT (l:= [bV f167 0]) (by kernel_rfl) (.cons (VW v0 n0 hk0) (.nil _))) (Sl v0 n0) (by
 intro vs es r h;unfold Sl at h;split at h
 ·cases h;kernel_rfl
 ·cases h)
end Go.SX
