/- What functions of the program come to, and what that says in plain words: part 1. -/
import Derived.Test.YtjncnnpdaeociaaTXh
import Derived.Test.YtjncnnpdaeociaaProg
import Derived.Shelf.SortM.Plain
import Derived.Ground.SlgmProg
import Derived.Shelf.SlGeneric
import Derived.Test.YtjncnnpdaeociaaTXs
import Derived.Test.YtjncnnpdaeociaaTXw
set_option linter.unusedSimpArgs false
set_option linter.unusedVariables false
namespace Go.SX
open Go.Proofs
def T3z {P : Program} (l : List (PF P)) : List (PF P) :=l.flatMap fun p=>[p,PF.lend p,PF.fz p]
abbrev OL:CTy:=(CTy.pair (CTy.int IntKind.i64) (CTy.pair (CTy.int IntKind.i64) (CTy.int IntKind.i64)))
abbrev OM:CTy:=(CTy.pair (CTy.int IntKind.i64) (CTy.sl 2 (CTy.int IntKind.i64)))
abbrev OO:CTy:=(CTy.int IntKind.i64)
end Go.SX
namespace Go.SX
open Go.Proofs Go.Proofs.Try
set_option maxRecDepth 100000
theorem cf:Try.prog.follows .mixedOrders=true:=by kernel_rfl
def tm(x0:Int)(x1:List Int):Int:=IntKind.wrap .i64 (x0 - (↑x1.length:Int))
def uA(x0:Int)(x1:List Int):Int:=bif ltI (tm x0 x1) 0 then(-1:Int)else tm x0 x1
def zi:List SV→List Entry→Option Out
 | [.one ⟨false,[.ref 0]⟩,.one ⟨false,[.val (.int .i64 x0)]⟩],[.row false 2 (.int .i64) x1]=>some ⟨.one ⟨false,[.val (.int .i64 (uA x0 x1))]⟩,[.row false 2 OO x1],[],[]⟩
 |_,_=>none
def Fs:PF prog:=PF.ofG prog [] [] cf 70 f70 func70 (fun c _=>LOk.nil c) zi (by
 intro vs es r h;unfold zi at h;split at h
 ·cases h;kernel_rfl
 ·cases h)
def eS(x0 x1 x2:Int):Bool:=bif leI x1 x0 then leI x0 x2 else false
def CO:List SV→List Entry→Option Out
 | [.one ⟨false,[.val (.int .i64 x0)]⟩,.one ⟨false,[.val (.int .i64 x1)]⟩,.one ⟨false,[.val (.int .i64 x2)]⟩],[]=>some ⟨.one ⟨false,[.val (.bool (eS x0 x1 x2))]⟩,[],[],[]⟩
 |_,_=>none
def lM:PF prog:=PF.ofG prog [] [] cf 92 f92 func92 (fun c _=>LOk.nil c) CO (by
 intro vs es r h;unfold CO at h;split at h
 ·cases h;kernel_rfl
 ·cases h)
abbrev dY:=Int×Int×List Int
section
variable (y0 y1:Int)(y2:List Int)
def jI:Bool:=ltI y0 (↑y2.length:Int)
def lz:Bool:=leI 0 y0
def lA:Bool:=ltN y0.toNat y2.length
def lB:Bool:= !eS (Option.getD y2[Int.toNat y0]? 0) 0 (IntKind.wrap .i64 (IntKind.wrap .i64 ((3:Int) * y1) - (1:Int)))
def lC:Int:=IntKind.wrap .i64 (y0 + (1:Int))
end
def Ag:dY→List (Nat×SV)
 |(y0,_,_)=> [(3,(.one ⟨false,[.val (.int .i64 y0)]⟩)),(1,(.one ⟨false,[.ptr 0 0]⟩))]
def Ad:dY→List (Nat×Entry)
 |(_,y1,y2)=> [(0,(.box 26 [.val (.int .i64 y1),.ref 1])),(1,(.row false 2 OO y2))]
def Ao:Nat→dY→List (Nat×SV)
 |0,(_,_,_)=> [(2,(.one ⟨false,[.val (.bool false)]⟩))]
 |_,(_,_,_)=> []
def Al:Nat→dY→List (Nat×Entry)
 |0,(_,y1,y2)=> [(0,(.box 26 [.val (.int .i64 y1),.ref 1])),(1,(.row false 2 OO y2))]
 |_,(_,y1,y2)=> [(0,(.box 26 [.val (.int .i64 y1),.ref 1])),(1,(.row false 2 OO y2))]
def kJ:dY→LT dY
 |(y0,y1,y2)=> .ite (jI y0 y2) (.need [lz y0,jI y0 y2,lA y0 y2] (.ite (lB y0 y1 y2) (.ext 0 [(0,0),(1,1)]) (.nrm ((lC y0),y1,y2) [(0,0),(1,1)]))) (.ext 1 [(0,0),(1,1)])
def qo(s:St):Option dY:=
 (match s.look 3 with
 |some ⟨none,.one ⟨false,[.val (.int .i64 y0)]⟩⟩=>
 (match s.look 1 with
 |some ⟨none,.one ⟨false,[.ptr 128 0]⟩⟩=>
 (match s.ent 128 with
 |some (.box 26 [.val (.int .i64 y1),.ref 0])=>
 (match s.ent 0 with
 |some (.row false 2 (.int .i64) y2)=>
 some (y0,y1,y2)
 |_=>none)
 |_=>none)
 |_=>none)
 |_=>none)
def bt:Lp dY where
 h:=⟨[15,16,17,18,19,22,23,24,25,26,27,28,29,30,31,32,2,20,21,3],[0,1],[],[]⟩
 JL:=Ag
 JE:=Ad
 XL:=Ao
 XE:=Al
 q:=fun j=>match j with | 0=> .ret | _=> .exit 0
 tags:= [0,1]
 lt:=kJ
 fuel:=fun(y0,y1,y2)=>y0.natAbs + y1.natAbs + y2.length
 fix:=fun(_,y1,y2) (y0,_,_)=>(y0,y1,y2)
 σ:= [(0,128),(1,0)]
 rd:=qo
theorem yS:LoopOk prog (fun k=>Nat.blt k Try.f43.ntmps) bt.F (cD f43 0):=by
 refine Lp.ok (tbl:= [lM]) (lf:= []) cf bt (by kernel_rfl) (LOk.nil _) (fun _=>rfl) (fun j _=>by unfold bt;match j with | 0=>rfl | _ + 1=>rfl) ?_ ?_ ?_ ?_ (fun _=>rfl) ?_
 ·rintro⟨y0,y1,y2⟩;kernel_rfl
 ·rintro⟨y0,y1,y2⟩;kernel_rfl
 ·intro s x h
  have h:qo s=some x:=h
  unfold qo at h
  repeat' split at h
  all_goals cases h
  constructor<;>repeat(first|refine ah (by assumption) rfl ?_|refine ar rfl (by assumption) rfl ?_|exact rfl)
 ·rintro⟨y0,y1,y2⟩;kernel_rfl
 ·rintro⟨y0,y1,y2⟩ z;exact(And.intro (And.intro trivial rfl) trivial)
section
variable (x0:Int)(x1:List Int)
def sE:Bool:=bif !eS x0 2 8 then true else !eS (↑x1.length:Int) 1 4
def sF:Int×Int×List Int:=((0:Int),x0,x1)
def tG:Bool:=bif sE x0 x1 then false else bif Nat.beq ((Lp.res bt (sF x0 x1)).1) 0 then false else true
def tH:Bool:=allT [sE x0 x1||Lp.fin bt (sF x0 x1)]
end
def wS:List SV→List Entry→Option Out
 | [.one ⟨true,[.val (.int .i64 x0),.ref 0]⟩],[.row false 2 (.int .i64) x1]=>some ⟨.one ⟨false,[.val (.bool (tG x0 x1))]⟩,[.row false 2 OO x1],[],[tH x0 x1]⟩
 |_,_=>none
def Er:PF prog:=PF.ofG prog [lM] [bt.F] cf 43 f43 func43 (LOk.fnT (l:= [cD f43 0]) (by kernel_rfl) (.cons yS (.nil _))) wS (by
 intro vs es r h;unfold wS at h;split at h
 ·cases h;kernel_rfl
 ·cases h)
def wC(x0:List Int):Bool:=allT [leN (0 + List.length x0) 9223372036854775807,leN ((0 + List.length x0) * 8) 140737488355328]
def BQ:List SV→List Entry→Option Out
 | [.one ⟨false,[.ref 0]⟩],[.row false 2 (.int .i64) x0]=>some ⟨.one ⟨false,[.ref 1]⟩,[.row false 2 OO x0],[.row true 2 OO x0],[wC x0]⟩
 |_,_=>none
def Hb:PF prog:=PF.ofG prog [] [] cf 93 f93 func93 (fun c _=>LOk.nil c) BQ (by
 intro vs es r h;unfold BQ at h;split at h
 ·cases h;kernel_rfl
 ·cases h)
abbrev et:=Int×List Int×List Int
section
variable (y0:Int)(y1 y2:List Int)
def kg:Bool:=ltI y0 (↑y1.length:Int)
def kh:Bool:=leI 0 y0
def mC:Bool:=ltN y0.toNat y1.length
def mD:Bool:=ltI y0 (↑y2.length:Int)
def mE:Bool:=ltN y0.toNat y2.length
def mF:Int:=IntKind.wrap .i64 (y0 + (1:Int))
def mG:List Int:=List.set y2 y0.toNat (Option.getD y1[Int.toNat y0]? 0)
end
def Bu:et→List (Nat×SV)
 |(y0,_,_)=> [(4,(.one ⟨false,[.val (.int .i64 y0)]⟩)),(0,(.one ⟨false,[.ref 0]⟩)),(3,(.one ⟨false,[.ref 1]⟩))]
def Bp:et→List (Nat×Entry)
 |(_,y1,y2)=> [(0,(.row false 2 OO y1)),(1,(.row true 2 OO y2))]
def BF:Nat→et→List (Nat×SV)
 |_,(_,_,_)=> []
def BA:Nat→et→List (Nat×Entry)
 |_,(_,y1,y2)=> [(0,(.row false 2 OO y1)),(1,(.row true 2 OO y2))]
def lv:et→LT et
 |(y0,y1,y2)=> .ite (kg y0 y1) (.need [kh y0,kg y0 y1,mC y0 y1,kh y0,mD y0 y2,mE y0 y2] (.nrm ((mF y0),y1,(mG y0 y1 y2)) [(0,0),(1,1)])) (.ext 0 [(0,0),(1,1)])
def rg(s:St):Option et:=
 (match s.look 4 with
 |some ⟨none,.one ⟨false,[.val (.int .i64 y0)]⟩⟩=>
 (match s.look 0 with
 |some ⟨none,.one ⟨false,[.ref 0]⟩⟩=>
 (match s.look 3 with
 |some ⟨none,.one ⟨false,[.ref 320]⟩⟩=>
 (match s.ent 0 with
 |some (.row false 2 (.int .i64) y1)=>
 (match s.ent 320 with
 |some (.row true 2 (.int .i64) y2)=>
 some (y0,y1,y2)
 |_=>none)
 |_=>none)
 |_=>none)
 |_=>none)
 |_=>none)
def cu:Lp et where
 h:=⟨[8,9,10,11,14,15,16,17,18,19,20,12,13,4],[0,1],[],[]⟩
 JL:=Bu
 JE:=Bp
 XL:=BF
 XE:=BA
 q:=fun j=>match j with | _=> .exit 0
 tags:= [0]
 lt:=lv
 fuel:=fun(y0,y1,y2)=>y0.natAbs + y1.length + y2.length
 fix:=fun(_,y1,_) (y0,_,y2)=>(y0,y1,y2)
 σ:= [(0,0),(1,320)]
 rd:=rg
theorem zU:LoopOk prog (fun k=>Nat.blt k Try.f39.ntmps) cu.F (cD f39 0):=by
 refine Lp.ok (tbl:= []) (lf:= []) cf cu (by kernel_rfl) (LOk.nil _) (fun _=>rfl) (fun _ _=>rfl) ?_ ?_ ?_ ?_ (fun _=>rfl) ?_
 ·rintro⟨y0,y1,y2⟩;kernel_rfl
 ·rintro⟨y0,y1,y2⟩;kernel_rfl
 ·intro s x h
  have h:rg s=some x:=h
  unfold rg at h
  repeat' split at h
  all_goals cases h
  constructor<;>repeat(first|refine ah (by assumption) rfl ?_|refine ar rfl (by assumption) rfl ?_|exact rfl)
 ·rintro⟨y0,y1,y2⟩;kernel_rfl
 ·rintro⟨y0,y1,y2⟩ z;exact(And.intro rfl trivial)
section
variable (x0:List Int)
def qJ:Int×List Int×List Int:=((0:Int),x0,List.replicate (Int.toNat (↑x0.length:Int)) (0:Int))
def rx:List Int:=(Lp.res cu (qJ x0)).2.2.2
def ry:Bool:=allT [leI 0 (↑x0.length:Int),leI (↑x0.length:Int) (↑x0.length:Int),leI ((↑(8:Nat):Int) * (↑x0.length:Int)) 281474976710656,leI (↑x0.length:Int) 9223372036854775807,Lp.fin cu (qJ x0)]
end
def zj:List SV→List Entry→Option Out
 | [.one ⟨false,[.ref 0]⟩],[.row false 2 (.int .i64) x0]=>some ⟨.one ⟨false,[.ref 1]⟩,[.row false 2 OO x0],[.row true 2 OO (rx x0)],[ry x0]⟩
 |_,_=>none
def Ft:PF prog:=PF.ofG prog [] [cu.F] cf 39 f39 func39 (LOk.fnT (l:= [cD f39 0]) (by kernel_rfl) (.cons zU (.nil _))) zj (by
 intro vs es r h;unfold zj at h;split at h
 ·cases h;kernel_rfl
 ·cases h)
def fU(x0:List Int):Int:=(↑x0.length:Int)
def uG:List SV→List Entry→Option Out
 | [.one ⟨false,[.ref 0]⟩],[.row false 2 (.int .i64) x0]=>some ⟨.one ⟨false,[.val (.int .i64 (fU x0))]⟩,[.row false 2 OO x0],[],[]⟩
 |_,_=>none
def br:PF prog:=PF.ofG prog [] [] cf 91 f91 func91 (fun c _=>LOk.nil c) uG (by
 intro vs es r h;unfold uG at h;split at h
 ·cases h;kernel_rfl
 ·cases h)
def jj(x0 x1 x2:Int):Bool:=bif leI x1 x0 then leI x0 x2 else false
def BP:List SV→List Entry→Option Out
 | [.one ⟨false,[.val (.int .i64 x0)]⟩,.one ⟨false,[.val (.int .i64 x1)]⟩,.one ⟨false,[.val (.int .i64 x2)]⟩],[]=>some ⟨.one ⟨false,[.val (.bool (jj x0 x1 x2))]⟩,[],[],[]⟩
 |_,_=>none
def pe:PF prog:=PF.ofG prog [] [] cf 98 f98 func98 (fun c _=>LOk.nil c) BP (by
 intro vs es r h;unfold BP at h;split at h
 ·cases h;kernel_rfl
 ·cases h)
def qT(x0:Int):Bool:=jj x0 2 8
def uF:List SV→List Entry→Option Out
 | [.one ⟨false,[.val (.int .i64 x0)]⟩],[]=>some ⟨.one ⟨false,[.val (.bool (qT x0))]⟩,[],[],[]⟩
 |_,_=>none
def BM:PF prog:=PF.ofG prog [pe] [] cf 97 f97 func97 (fun c _=>LOk.nil c) uF (by
 intro vs es r h;unfold uF at h;split at h
 ·cases h;kernel_rfl
 ·cases h)
def mS(x0 x1:Int):Bool:= !jj x0 0 (IntKind.wrap .i64 (IntKind.wrap .i64 ((3:Int) * x1) - (1:Int)))
def sR:List SV→List Entry→Option Out
 | [.one ⟨false,[.val (.int .i64 x0)]⟩,.one ⟨false,[.ptr 0 0]⟩],[.box 26 [.val (.int .i64 x1),.ref 1],.row false 2 (.int .i64) x2]=>some ⟨.one ⟨false,[.val (.bool (mS x0 x1))]⟩,[.box 26 [.val (.int .i64 x1),.ref 1],.row false 2 OO x2],[],[]⟩
 |_,_=>none
def gY:PF prog:=PF.ofG prog [pe] [] cf 100 f100 func100 (fun c _=>LOk.nil c) sR (by
 intro vs es r h;unfold sR at h;split at h
 ·cases h;kernel_rfl
 ·cases h)
abbrev aF:=Int×Int×Int×List Int
section
variable (y0 y1 y2:Int)(y3:List Int)
def di:Bool:=ltI y0 y1
def dj:Bool:=leI 0 y0
def dk:Bool:=ltI y0 (↑y3.length:Int)
def dl:Bool:=ltN y0.toNat y3.length
def dm:Bool:=mS (Option.getD y3[Int.toNat y0]? 0) y2
def dn:Int:=IntKind.wrap .i64 (y0 + (1:Int))
end
def qA:aF→List (Nat×SV)
 |(y0,y1,_,_)=> [(8,(.one ⟨false,[.val (.int .i64 y0)]⟩)),(7,(.one ⟨false,[.val (.int .i64 y1)]⟩)),(1,(.one ⟨false,[.clo 100 [0]]⟩)),(0,(.one ⟨false,[.ref 1]⟩))]
def qz:aF→List (Nat×Entry)
 |(_,_,y2,y3)=> [(0,(.box 26 [.val (.int .i64 y2),.ref 1])),(1,(.row false 2 OO y3))]
def qC:Nat→aF→List (Nat×SV)
 |0,(y0,_,_,_)=> [(4,(.one ⟨false,[.val (.int .i64 y0)]⟩))]
 |_,(_,_,_,_)=> []
def qB:Nat→aF→List (Nat×Entry)
 |0,(_,_,y2,y3)=> [(0,(.box 26 [.val (.int .i64 y2),.ref 1])),(1,(.row false 2 OO y3))]
 |_,(_,_,y2,y3)=> [(0,(.box 26 [.val (.int .i64 y2),.ref 1])),(1,(.row false 2 OO y3))]
def da:aF→LT aF
 |(y0,y1,y2,y3)=> .ite (di y0 y1) (.need [dj y0,dk y0 y3,dl y0 y3] (.ite (dm y0 y2 y3) (.ext 0 [(0,0),(1,1)]) (.nrm ((dn y0),y1,y2,y3) [(0,0),(1,1)]))) (.ext 1 [(0,0),(1,1)])
def gM(s:St):Option aF:=
 (match s.look 8 with
 |some ⟨none,.one ⟨false,[.val (.int .i64 y0)]⟩⟩=>
 (match s.look 7 with
 |some ⟨none,.one ⟨false,[.val (.int .i64 y1)]⟩⟩=>
 (match s.look 1 with
 |some ⟨none,.one ⟨false,[.clo 100 [1]]⟩⟩=>
 (match s.look 0 with
 |some ⟨none,.one ⟨false,[.ref 0]⟩⟩=>
 (match s.ent 1 with
 |some (.box 26 [.val (.int .i64 y2),.ref 0])=>
 (match s.ent 0 with
 |some (.row false 2 (.int .i64) y3)=>
 some (y0,y1,y2,y3)
 |_=>none)
 |_=>none)
 |_=>none)
 |_=>none)
 |_=>none)
 |_=>none)
def am:Lp aF where
 h:=⟨[9,10,5,11,12,13,14,15,16,17,4,18,8],[0,1],[],[]⟩
 JL:=qA
 JE:=qz
 XL:=qC
 XE:=qB
 q:=fun j=>match j with | 0=> .ret | _=> .exit 0
 tags:= [0,1]
 lt:=da
 fuel:=fun(y0,y1,y2,y3)=>y0.natAbs + y1.natAbs + y2.natAbs + y3.length
 fix:=fun(_,y1,y2,y3) (y0,_,_,_)=>(y0,y1,y2,y3)
 σ:= [(0,1),(1,0)]
 rd:=gM
theorem pO:LoopOk prog (fun k=>Nat.blt k Try.f135.ntmps) am.F (cD f135 0):=by
 refine Lp.ok (tbl:= (T3z [gY])) (lf:= []) cf am (by kernel_rfl) (LOk.nil _) (fun _=>rfl) (fun j _=>by unfold am;match j with | 0=>rfl | _ + 1=>rfl) ?_ ?_ ?_ ?_ (fun _=>rfl) ?_
 ·rintro⟨y0,y1,y2,y3⟩;kernel_rfl
 ·rintro⟨y0,y1,y2,y3⟩;kernel_rfl
 ·intro s x h
  have h:gM s=some x:=h
  unfold gM at h
  repeat' split at h
  all_goals cases h
  constructor<;>repeat(first|refine ah (by assumption) rfl ?_|refine ar rfl (by assumption) rfl ?_|exact rfl)
 ·rintro⟨y0,y1,y2,y3⟩;kernel_rfl
 ·rintro⟨y0,y1,y2,y3⟩ z;exact(And.intro (And.intro trivial rfl) trivial)
section
variable (x0:List Int)(x1:Int)
def fB:Int×Int×Int×List Int:=((0:Int),(↑x0.length:Int),x1,x0)
def iu:Bool:=Nat.beq ((Lp.res am (fB x0 x1)).1) 0
def iY:Int:=bif iu x0 x1 then ((Lp.res am (fB x0 x1)).2).1else(-1:Int)
def iZ:Int:=bif iu x0 x1 then x1 else x1
def ja:Bool:=allT [Lp.fin am (fB x0 x1)]
end
def mY:List SV→List Entry→Option Out
 | [.one ⟨false,[.ref 0]⟩,.one ⟨false,[.clo 100 [1]]⟩],[.row false 2 (.int .i64) x0,.box 26 [.val (.int .i64 x1),.ref 0]]=>some ⟨.one ⟨false,[.val (.int .i64 (iY x0 x1))]⟩,[.row false 2 OO x0,.box 26 [.val (.int .i64 (iZ x0 x1)),.ref 0]],[],[ja x0 x1]⟩
 |_,_=>none
def iX:PF prog:=PF.ofG prog (T3z [gY]) [am.F] cf 135 f135 func135 (LOk.fnT (l:= [cD f135 0]) (by kernel_rfl) (.cons pO (.nil _))) mY (by
 intro vs es r h;unfold mY at h;split at h
 ·cases h;kernel_rfl
 ·cases h)
section
variable (x0:List Int)(x1:Int)
def eP:Bool:=leI 0 (iY x0 x1)
def lx:Int:=iZ x0 x1
def eQ:Bool:=allT [ja x0 x1]
end
def li:List SV→List Entry→Option Out
 | [.one ⟨false,[.ref 0]⟩,.one ⟨false,[.clo 100 [1]]⟩],[.row false 2 (.int .i64) x0,.box 26 [.val (.int .i64 x1),.ref 0]]=>some ⟨.one ⟨false,[.val (.bool (eP x0 x1))]⟩,[.row false 2 OO x0,.box 26 [.val (.int .i64 (lx x0 x1)),.ref 0]],[],[eQ x0 x1]⟩
 |_,_=>none
def gS:PF prog:=PF.ofG prog (T3z [iX]) [] cf 99 f99 func99 (fun c _=>LOk.nil c) li (by
 intro vs es r h;unfold li at h;split at h
 ·cases h;kernel_rfl
 ·cases h)
section
variable (x0:Int)(x1:List Int)
def sg:Bool:=bif qT x0 then jj (fU x1) 1 4 else false
def tc:Bool:=bif sg x0 x1 then !eP x1 x0 else false
def td:Bool:=allT [!(sg x0 x1&&true)||eQ x1 x0]
end
def wL:List SV→List Entry→Option Out
 | [.one ⟨true,[.val (.int .i64 x0),.ref 0]⟩],[.row false 2 (.int .i64) x1]=>some ⟨.one ⟨false,[.val (.bool (tc x0 x1))]⟩,[.row false 2 OO x1],[],[td x0 x1]⟩
 |_,_=>none
def Ek:PF prog:=PF.ofG prog (T3z [br,BM,pe,gS]) [] cf 42 f42 func42 (fun c _=>LOk.nil c) wL (by
 intro vs es r h;unfold wL at h;split at h
 ·cases h;kernel_rfl
 ·cases h)
def fc(x1:Int)(x2:List Int):Bool:=jj x1 0 (IntKind.wrap .i64 (fU x2 - (1:Int)))
def je:List SV→List Entry→Option Out
 | [.one ⟨true,[.val (.int .i64 _x0),.ref 0]⟩,.one ⟨false,[.val (.int .i64 x1)]⟩],[.row false 2 (.int .i64) x2]=>some ⟨.one ⟨false,[.val (.bool (fc x1 x2))]⟩,[.row false 2 OO x2],[],[]⟩
 |_,_=>none
def oK:PF prog:=PF.ofG prog (T3z [br,pe]) [] cf 73 f73 func73 (fun c _=>LOk.nil c) je (by
 intro vs es r h;unfold je at h;split at h
 ·cases h;kernel_rfl
 ·cases h)
def mI(x0:List Int):Bool:=allT [ltN 0 x0.length,false||leN (0 + List.length x0) 9223372036854775807,false||leN ((0 + List.length x0) * 8) 140737488355328]
def pR:List SV→List Entry→Option Out
 | [.one ⟨false,[.ref 0]⟩],[.row false 2 (.int .i64) x0]=>some ⟨.one ⟨false,[.ref 1]⟩,[.row false 2 OO x0],[.row true 2 OO x0],[mI x0]⟩
 |_,_=>none
def vC:PF prog:=PF.ofG prog [] [] cf 134 f134 func134 (fun c _=>LOk.nil c) pR (by
 intro vs es r h;unfold pR at h;split at h
 ·cases h;kernel_rfl
 ·cases h)
abbrev er:=Int×List Int×List Int
section
variable (y0:Int)(y1 y2:List Int)
def ke:Bool:=ltI y0 (↑y1.length:Int)
def kf:Bool:=leI 0 y0
def mt:Bool:=ltN y0.toNat y1.length
def mu:Bool:=ltI y0 (↑y2.length:Int)
def mv:Bool:=ltN y0.toNat y2.length
def mw:Bool:=Option.getD y1[Int.toNat y0]? 0!=Option.getD y2[Int.toNat y0]? 0
def my:Int:=IntKind.wrap .i64 (y0 + (1:Int))
end
def Bt:er→List (Nat×SV)
 |(y0,_,_)=> [(5,(.one ⟨false,[.val (.int .i64 y0)]⟩)),(0,(.one ⟨false,[.ref 0]⟩)),(1,(.one ⟨false,[.ref 1]⟩))]
def Bo:er→List (Nat×Entry)
 |(_,y1,y2)=> [(0,(.row false 2 OO y1)),(1,(.row false 2 OO y2))]
def BE:Nat→er→List (Nat×SV)
 |0,(_,_,_)=> [(4,(.one ⟨false,[.val (.bool false)]⟩))]
 |_,(_,_,_)=> []
def Bz:Nat→er→List (Nat×Entry)
 |0,(_,y1,y2)=> [(0,(.row false 2 OO y1)),(1,(.row false 2 OO y2))]
 |_,(_,y1,y2)=> [(0,(.row false 2 OO y1)),(1,(.row false 2 OO y2))]
def lu:er→LT er
 |(y0,y1,y2)=> .ite (ke y0 y1) (.need [kf y0,ke y0 y1,mt y0 y1,kf y0,mu y0 y2,mv y0 y2] (.ite (mw y0 y1 y2) (.ext 0 [(0,0),(1,1)]) (.nrm ((my y0),y1,y2) [(0,0),(1,1)]))) (.ext 1 [(0,0),(1,1)])
def rf(s:St):Option er:=
 (match s.look 5 with
 |some ⟨none,.one ⟨false,[.val (.int .i64 y0)]⟩⟩=>
 (match s.look 0 with
 |some ⟨none,.one ⟨false,[.ref 0]⟩⟩=>
 (match s.look 1 with
 |some ⟨none,.one ⟨false,[.ref 1]⟩⟩=>
 (match s.ent 0 with
 |some (.row false 2 (.int .i64) y1)=>
 (match s.ent 1 with
 |some (.row false 2 (.int .i64) y2)=>
 some (y0,y1,y2)
 |_=>none)
 |_=>none)
 |_=>none)
 |_=>none)
 |_=>none)
def bL:Lp er where
 h:=⟨[11,12,13,14,17,18,19,20,21,22,23,24,25,4,15,16,5],[0,1],[],[]⟩
 JL:=Bt
 JE:=Bo
 XL:=BE
 XE:=Bz
 q:=fun j=>match j with | 0=> .ret | _=> .exit 0
 tags:= [0,1]
 lt:=lu
 fuel:=fun(y0,y1,y2)=>y0.natAbs + y1.length + y2.length
 fix:=fun(_,y1,y2) (y0,_,_)=>(y0,y1,y2)
 σ:= [(0,0),(1,1)]
 rd:=rf
theorem zT:LoopOk prog (fun k=>Nat.blt k Try.f35.ntmps) bL.F (cD f35 0):=by
 refine Lp.ok (tbl:= []) (lf:= []) cf bL (by kernel_rfl) (LOk.nil _) (fun _=>rfl) (fun j _=>by unfold bL;match j with | 0=>rfl | _ + 1=>rfl) ?_ ?_ ?_ ?_ (fun _=>rfl) ?_
 ·rintro⟨y0,y1,y2⟩;kernel_rfl
 ·rintro⟨y0,y1,y2⟩;kernel_rfl
 ·intro s x h
  have h:rf s=some x:=h
  unfold rf at h
  repeat' split at h
  all_goals cases h
  constructor<;>repeat(first|refine ah (by assumption) rfl ?_|refine ar rfl (by assumption) rfl ?_|exact rfl)
 ·rintro⟨y0,y1,y2⟩;kernel_rfl
 ·rintro⟨y0,y1,y2⟩ z;exact(And.intro (And.intro trivial rfl) trivial)
section
variable (x0 x1:List Int)
def qH:Bool:=(↑x0.length:Int)!=(↑x1.length:Int)
def qI:Int×List Int×List Int:=((0:Int),x0,x1)
def ru:Bool:=bif qH x0 x1 then false else bif Nat.beq ((Lp.res bL (qI x0 x1)).1) 0 then false else true
def rv:Bool:=allT [qH x0 x1||Lp.fin bL (qI x0 x1)]
end
def zh:List SV→List Entry→Option Out
 | [.one ⟨false,[.ref 0]⟩,.one ⟨false,[.ref 1]⟩],[.row false 2 (.int .i64) x0,.row false 2 (.int .i64) x1]=>some ⟨.one ⟨false,[.val (.bool (ru x0 x1))]⟩,[.row false 2 OO x0,.row false 2 OO x1],[],[rv x0 x1]⟩
 |_,_=>none
def Fr:PF prog:=PF.ofG prog [] [bL.F] cf 35 f35 func35 (LOk.fnT (l:= [cD f35 0]) (by kernel_rfl) (.cons zT (.nil _))) zh (by
 intro vs es r h;unfold zh at h;split at h
 ·cases h;kernel_rfl
 ·cases h)
abbrev dy:=Int×Int×List Int
section
variable (y0 y1:Int)(y2:List Int)
def iI:Bool:=ltI y0 (↑y2.length:Int)
def kB:Bool:=leI 0 y0
def kC:Bool:=ltN y0.toNat y2.length
def kD:Int:=IntKind.wrap .i64 (y0 + (1:Int))
def kE:Int:=IntKind.wrap .i64 (y1 + (1:Int))
def kF:List Int:=List.set y2 y0.toNat y1
end
def zB:dy→List (Nat×SV)
 |(y0,y1,_)=> [(5,(.one ⟨false,[.val (.int .i64 y0)]⟩)),(0,(.one ⟨false,[.ref 0]⟩)),(1,(.one ⟨false,[.val (.int .i64 y1)]⟩))]
def zu:dy→List (Nat×Entry)
 |(_,_,y2)=> [(0,(.row true 2 OO y2))]
def zL:Nat→dy→List (Nat×SV)
 |_,(_,y1,_)=> [(1,(.one ⟨false,[.val (.int .i64 y1)]⟩))]
def zG:Nat→dy→List (Nat×Entry)
 |_,(_,_,y2)=> [(0,(.row true 2 OO y2))]
def jW:dy→LT dy
 |(y0,y1,y2)=> .ite (iI y0 y2) (.need [kB y0,iI y0 y2,kC y0 y2] (.nrm ((kD y0),kE y1,(kF y0 y1 y2)) [(0,0)])) (.ext 0 [(0,0)])
def pw(s:St):Option dy:=
 (match s.look 5 with
 |some ⟨none,.one ⟨false,[.val (.int .i64 y0)]⟩⟩=>
 (match s.look 0 with
 |some ⟨none,.one ⟨false,[.ref 0]⟩⟩=>
 (match s.look 1 with
 |some ⟨none,.one ⟨false,[.val (.int .i64 y1)]⟩⟩=>
 (match s.ent 0 with
 |some (.row true 2 (.int .i64) y2)=>
 some (y0,y1,y2)
 |_=>none)
 |_=>none)
 |_=>none)
 |_=>none)
def bw:Lp dy where
 h:=⟨[6,7,8,9,12,13,14,15,16,17,1,10,11,5],[0],[],[]⟩
 JL:=zB
 JE:=zu
 XL:=zL
 XE:=zG
 q:=fun j=>match j with | _=> .exit 0
 tags:= [0]
 lt:=jW
 fuel:=fun(y0,y1,y2)=>y0.natAbs + y1.natAbs + y2.length
 fix:=fun(_,_,_) (y0,y1,y2)=>(y0,y1,y2)
 σ:= [(0,0)]
 rd:=pw
theorem xK:LoopOk prog (fun k=>Nat.blt k Try.f36.ntmps) bw.F (cD f36 0):=by
 refine Lp.ok (tbl:= []) (lf:= []) cf bw (by kernel_rfl) (LOk.nil _) (fun _=>rfl) (fun _ _=>rfl) ?_ ?_ ?_ ?_ (fun _=>rfl) ?_
 ·rintro⟨y0,y1,y2⟩;kernel_rfl
 ·rintro⟨y0,y1,y2⟩;kernel_rfl
 ·intro s x h
  have h:pw s=some x:=h
  unfold pw at h
  repeat' split at h
  all_goals cases h
  constructor<;>repeat(first|refine ah (by assumption) rfl ?_|refine ar rfl (by assumption) rfl ?_|exact rfl)
 ·rintro⟨y0,y1,y2⟩;kernel_rfl
 ·rintro⟨y0,y1,y2⟩ z;exact(And.intro rfl trivial)
section
variable (x0:Int)(x1:List Int)
def mA:Int×Int×List Int:=((0:Int),x0,x1)
def mB:Int×List Int:=(Lp.res bw (mA x0 x1)).2.2
def nt:Int:=(mB x0 x1).1
def nu:List Int:=(mB x0 x1).2
def nv:Bool:=allT [Lp.fin bw (mA x0 x1)]
end
def vX:List SV→List Entry→Option Out
 | [.one ⟨false,[.ref 0]⟩,.one ⟨false,[.val (.int .i64 x0)]⟩],[.row true 2 (.int .i64) x1]=>some ⟨.one ⟨false,[.val (.int .i64 (nt x0 x1))]⟩,[.row true 2 OO (nu x0 x1)],[],[nv x0 x1]⟩
 |_,_=>none
def Dx:PF prog:=PF.ofG prog [] [bw.F] cf 36 f36 func36 (LOk.fnT (l:= [cD f36 0]) (by kernel_rfl) (.cons xK (.nil _))) vX (by
 intro vs es r h;unfold vX at h;split at h
 ·cases h;kernel_rfl
 ·cases h)
abbrev dx:=Int×Int×List Int
section
variable (y0 y1:Int)(y2:List Int)
def iG:Bool:=ltI y0 (↑y2.length:Int)
def kw:Bool:=leI 0 y0
def kx:Bool:=ltN y0.toNat y2.length
def ky:Bool:=Option.getD y2[Int.toNat y0]? 0!=y1
end
def iH:Int:=(-1:Int)
def kz(y0:Int):Int:=IntKind.wrap .i64 (y0 + (1:Int))
def kA(y1:Int):Int:=IntKind.wrap .i64 (y1 + (1:Int))
def zA:dx→List (Nat×SV)
 |(y0,y1,_)=> [(5,(.one ⟨false,[.val (.int .i64 y0)]⟩)),(0,(.one ⟨false,[.ref 0]⟩)),(1,(.one ⟨false,[.val (.int .i64 y1)]⟩))]
def zt:dx→List (Nat×Entry)
 |(_,_,y2)=> [(0,(.row false 2 OO y2))]
def zK:Nat→dx→List (Nat×SV)
 |0,(_,_,_)=> [(4,(.one ⟨false,[.val (.int .i64 (iH))]⟩))]
 |_,(_,y1,_)=> [(1,(.one ⟨false,[.val (.int .i64 y1)]⟩))]
def zF:Nat→dx→List (Nat×Entry)
 |0,(_,_,y2)=> [(0,(.row false 2 OO y2))]
 |_,(_,_,y2)=> [(0,(.row false 2 OO y2))]
def jV:dx→LT dx
 |(y0,y1,y2)=> .ite (iG y0 y2) (.need [kw y0,iG y0 y2,kx y0 y2] (.ite (ky y0 y1 y2) (.ext 0 [(0,0)]) (.nrm ((kz y0),kA y1,y2) [(0,0)]))) (.ext 1 [(0,0)])
def pv(s:St):Option dx:=
 (match s.look 5 with
 |some ⟨none,.one ⟨false,[.val (.int .i64 y0)]⟩⟩=>
 (match s.look 0 with
 |some ⟨none,.one ⟨false,[.ref 0]⟩⟩=>
 (match s.look 1 with
 |some ⟨none,.one ⟨false,[.val (.int .i64 y1)]⟩⟩=>
 (match s.ent 0 with
 |some (.row false 2 (.int .i64) y2)=>
 some (y0,y1,y2)
 |_=>none)
 |_=>none)
 |_=>none)
 |_=>none)
def aY:Lp dx where
 h:=⟨[6,7,8,9,12,13,14,15,16,17,4,18,19,1,10,11,5],[0],[],[]⟩
 JL:=zA
 JE:=zt
 XL:=zK
 XE:=zF
 q:=fun j=>match j with | 0=> .ret | _=> .exit 0
 tags:= [0,1]
 lt:=jV
 fuel:=fun(y0,y1,y2)=>y0.natAbs + y1.natAbs + y2.length
 fix:=fun(_,_,y2) (y0,y1,_)=>(y0,y1,y2)
 σ:= [(0,0)]
 rd:=pv
theorem xJ:LoopOk prog (fun k=>Nat.blt k Try.f37.ntmps) aY.F (cD f37 0):=by
 refine Lp.ok (tbl:= []) (lf:= []) cf aY (by kernel_rfl) (LOk.nil _) (fun _=>rfl) (fun j _=>by unfold aY;match j with | 0=>rfl | _ + 1=>rfl) ?_ ?_ ?_ ?_ (fun _=>rfl) ?_
 ·rintro⟨y0,y1,y2⟩;kernel_rfl
 ·rintro⟨y0,y1,y2⟩;kernel_rfl
 ·intro s x h
  have h:pv s=some x:=h
  unfold pv at h
  repeat' split at h
  all_goals cases h
  constructor<;>repeat(first|refine ah (by assumption) rfl ?_|refine ar rfl (by assumption) rfl ?_|exact rfl)
 ·rintro⟨y0,y1,y2⟩;kernel_rfl
 ·rintro⟨y0,y1,y2⟩ z;exact(And.intro (And.intro trivial rfl) trivial)
section
variable (x0:Int)(x1:List Int)
def mz:Int×Int×List Int:=((0:Int),x0,x1)
def nr:Int:=bif Nat.beq ((Lp.res aY (mz x0 x1)).1) 0 then iH else ((Lp.res aY (mz x0 x1)).2.2).1
def pB:Bool:=allT [Lp.fin aY (mz x0 x1)]
end
def vW:List SV→List Entry→Option Out
 | [.one ⟨false,[.ref 0]⟩,.one ⟨false,[.val (.int .i64 x0)]⟩],[.row false 2 (.int .i64) x1]=>some ⟨.one ⟨false,[.val (.int .i64 (nr x0 x1))]⟩,[.row false 2 OO x1],[],[pB x0 x1]⟩
 |_,_=>none
def Dw:PF prog:=PF.ofG prog [] [aY.F] cf 37 f37 func37 (LOk.fnT (l:= [cD f37 0]) (by kernel_rfl) (.cons xJ (.nil _))) vW (by
 intro vs es r h;unfold vW at h;split at h
 ·cases h;kernel_rfl
 ·cases h)
section
variable (x0 x1 x2:Int)
def pd:Bool:=IntKind.wrap .i64 (Int.tdiv x1 3)==x2
def rD:Bool:=Int.tmod x1 3==2
def vE:Bool:=bif pd x1 x2 then true else bif rD x1 then Int.tmod (IntKind.wrap .i64 (IntKind.wrap .i64 (Int.tdiv x1 3) + (1:Int))) x0==x2 else false
def sI:Bool:=allT [!(!pd x1 x2&&true)||neI 3 0,!(rD x1&&(!pd x1 x2&&true))||neI 3 0,!(rD x1&&(!pd x1 x2&&true))||neI x0 0]
end
def Aa:List SV→List Entry→Option Out
 | [.one ⟨false,[.val (.int .i64 x0)]⟩,.one ⟨false,[.val (.int .i64 x1)]⟩,.one ⟨false,[.val (.int .i64 x2)]⟩],[]=>some ⟨.one ⟨false,[.val (.bool (vE x0 x1 x2))]⟩,[],[],[sI x0 x1 x2]⟩
 |_,_=>none
def GA:PF prog:=PF.ofG prog [] [] cf 136 f136 func136 (fun c _=>LOk.nil c) Aa (by
 intro vs es r h;unfold Aa at h;split at h
 ·cases h;kernel_rfl
 ·cases h)
def blk(p:Int):Int:=Int.tdiv p 3
def phs(p:Int):Int:=Int.tmod p 3
def inR(a lo hi:Int):Bool:=leI lo a&&leI a hi
def isT(n:Int)(ps:List Int):Bool:=inR n 2 8&&inR ps.length 1 4&&ps.all fun p=>inR p 0 (3 * n - 1)
def ya(n p b:Int):Bool:=blk p==b||(phs p==2&&Int.tmod (blk p + 1) n==b)
def va(n:Int)(ps:List Int)(b:Int):Nat:=ps.countP fun p=>ya n p b
def eqL(xs ys:List Int):Bool:=decide (xs=ys)
theorem Mu(xs:List Int):eqL xs xs=true:=by simp [eqL]
theorem oT{a lo hi:Int}:inR a lo hi=true↔lo≤a∧a≤hi:=by simp [inR]
theorem yJ(a lo hi:Int):(bif leI lo a then leI a hi else false)=inR a lo hi:=by
 unfold inR;cases leI lo a <;> rfl
theorem ij{n:Int}{ps:List Int}:isT n ps=true↔(2≤n∧n≤8)∧(1≤ps.length∧ps.length≤4)∧ ∀ p∈ps,0≤p∧p≤3 * n - 1:=by
 simp only [isT,Bool.and_eq_true,oT,List.all_eq_true]
 constructor
 ·rintro⟨⟨h1,h2⟩,h3⟩;exact⟨h1,by omega,h3⟩
 ·rintro⟨h1,h2,h3⟩;exact⟨⟨h1,by omega⟩,h3⟩
def jE(y1 b:Int):(Unit)→Nat ⊕ (Unit)
 |_=>(bif(!eS b 0 (IntKind.wrap .i64 (IntKind.wrap .i64 ((3:Int) * y1) - (1:Int))))then(.inl 0)else(.inr ()))
def gF(y1:Int)(y2:List Int)(i:Nat):(Unit)→dY
 |_=>((i:Int),y1,y2)
def ql:dY→Unit
 |(_,_,_)=>()
theorem BO(y1:Int)(y2:List Int) (hn:y2.length≤9223372036854775807):
  bt.fin ((0:Int),y1,y2)=true∧bt.res ((0:Int),y1,y2)=((aN (jE y1) 1 y2 0 ()).1,(gF y1 y2) (aN (jE y1) 1 y2 0 ()).2.1 (aN (jE y1) 1 y2 0 ()).2.2):=by
 have im:=bt.along (gF y1 y2) ql (jE y1) 1 (fun _ _=>True) y2 () (by trivial) (by simp only [bt,gF];omega) (fun i b a hb hI=> ?_) (fun a hI=> ?_)
 ·exact im
 ·obtain⟨⟩:=a
  have dw:=(List.getElem?_eq_some_iff.1 hb).1
  have iC: ∀ d,Option.getD y2[i]? d=b:=fun d=>by rw [hb];rfl
  have hw:=uD dw hn
  have gq:ltI (i:Int) (y2.length:Int)=true:=io (by omega)
  have rZ:leI (0:Int) (i:Int)=true:=jg (by omega)
  have lh:ltN i y2.length=true:=kG dw
  refine⟨?_,?_,?_,?_⟩
  ·simp [jI,lz,lA,lB,lC,kJ,bt,LT.nds,allT,gF,gq,rZ,lh,iC]
  ·simp [jI,lz,lA,lB,lC,kJ,bt,LT.each,gF,ql,hw]
  ·simp only [jI,lz,lA,lB,lC,kJ,bt,LT.fn,gF,ql,jE,Int.toNat_natCast,gq,rZ,lh,iC,cond_true]
  ·exact fun _ _=>trivial
 ·obtain⟨⟩:=a
  simp [jI,lz,lA,lB,lC,kJ,bt,LT.out,gF]
def ct(y2 b:Int):(Unit)→Nat ⊕ (Unit)
 |_=>(bif(mS b y2)then(.inl 0)else(.inr ()))
def aW(y2:Int)(y3:List Int)(i:Nat):(Unit)→aF
 |_=>((i:Int),(↑y3.length:Int),y2,y3)
def gL:aF→Unit
 |(_,_,_,_)=>()
theorem rk(y2:Int)(y3:List Int) (hn:y3.length≤9223372036854775807):
  am.fin ((0:Int),(↑y3.length:Int),y2,y3)=true∧am.res ((0:Int),(↑y3.length:Int),y2,y3)=((aN (ct y2) 1 y3 0 ()).1,(aW y2 y3) (aN (ct y2) 1 y3 0 ()).2.1 (aN (ct y2) 1 y3 0 ()).2.2):=by
 have im:=am.along (aW y2 y3) gL (ct y2) 1 (fun _ _=>True) y3 () (by trivial) (by simp only [am,aW];omega) (fun i b a hb hI=> ?_) (fun a hI=> ?_)
 ·exact im
 ·obtain⟨⟩:=a
  have dw:=(List.getElem?_eq_some_iff.1 hb).1
  have iC: ∀ d,Option.getD y3[i]? d=b:=fun d=>by rw [hb];rfl
  have hw:=uD dw hn
  have gq:ltI (i:Int) (y3.length:Int)=true:=io (by omega)
  have rZ:leI (0:Int) (i:Int)=true:=jg (by omega)
  have lh:ltN i y3.length=true:=kG dw
  refine⟨?_,?_,?_,?_⟩
  ·simp [di,dj,dk,dl,dm,dn,da,am,LT.nds,allT,aW,gq,rZ,lh,iC]
  ·simp [di,dj,dk,dl,dm,dn,da,am,LT.each,aW,gL,hw]
  ·simp only [di,dj,dk,dl,dm,dn,da,am,LT.fn,aW,gL,ct,Int.toNat_natCast,gq,rZ,lh,iC,cond_true]
  ·exact fun _ _=>trivial
 ·obtain⟨⟩:=a
  simp [di,dj,dk,dl,dm,dn,da,am,LT.out,aW]
def iq(y1:List Int)(b:Nat):(List Int)→Nat ⊕ (List Int)
 |y2=>(.inr (List.set y2 b (Option.getD y1[b]? 0)))
def fY(y1:List Int)(i:Nat):(List Int)→et
 |y2=>((i:Int),y1,y2)
def ra:et→List Int
 |(_,_,y2)=>y2
theorem CL(y1 y2:List Int)(hn:y1.length≤9223372036854775807)(hl:y2.length=y1.length):
  cu.fin ((0:Int),y1,y2)=true∧cu.res ((0:Int),y1,y2)=((aN (iq y1) 0 (List.range y1.length) 0 y2).1,(fY y1) (aN (iq y1) 0 (List.range y1.length) 0 y2).2.1 (aN (iq y1) 0 (List.range y1.length) 0 y2).2.2):=by
 have im:=cu.along (fY y1) ra (iq y1) 0 (fun _ a=>a.length=y1.length) (List.range y1.length) y2 hl (by simp only [cu,fY,List.length_range];omega) (fun i b a hb hI=> ?_) (fun a hI=> ?_)
 ·exact im
 ·obtain y2:=a
  obtain⟨rfl,dw⟩:=lS hb
  have hw:IntKind.i64.wrap ((b:Int) + 1)=((b + 1:Nat):Int):=by rw [bZ (by omega) (by omega)];omega
  have gq:ltI (b:Int) (y1.length:Int)=true:=io (by omega)
  have rZ:leI (0:Int) (b:Int)=true:=jg (by omega)
  have lh:ltN b y1.length=true:=kG (by omega)
  refine⟨?_,?_,?_,?_⟩
  ·simp [kg,kh,mC,mD,mE,mF,mG,lv,cu,LT.nds,allT,fY,gq,rZ,lh,hI]
  ·simp [kg,kh,mC,mD,mE,mF,mG,lv,cu,LT.each,fY,ra,hw,hI]
  ·simp only [kg,kh,mC,mD,mE,mF,mG,lv,cu,LT.fn,fY,ra,iq,Int.toNat_natCast,gq,cond_true]
  ·intro a' hf;simp only [iq,Sum.inr.injEq]at hf;subst hf;simpa using hI
 ·obtain y2:=a
  simp [kg,kh,mC,mD,mE,mF,mG,lv,cu,LT.out,fY,List.length_range]
def lX(y1 y2:List Int)(b:Nat):(Unit)→Nat ⊕ (Unit)
 |_=>(bif(Option.getD y1[b]? 0!=Option.getD y2[b]? 0)then(.inl 0)else(.inr ()))
def gT(y1 y2:List Int)(i:Nat):(Unit)→er
 |_=>((i:Int),y1,y2)
def qZ:er→Unit
 |(_,_,_)=>()
theorem CJ(y1 y2:List Int) (hn:y1.length≤9223372036854775807) (he:y2.length=y1.length):
  bL.fin ((0:Int),y1,y2)=true∧bL.res ((0:Int),y1,y2)=((aN (lX y1 y2) 1 (List.range y1.length) 0 ()).1,(gT y1 y2) (aN (lX y1 y2) 1 (List.range y1.length) 0 ()).2.1 (aN (lX y1 y2) 1 (List.range y1.length) 0 ()).2.2):=by
 have im:=bL.along (gT y1 y2) qZ (lX y1 y2) 1 (fun _ _=>True) (List.range y1.length) () (by trivial) (by simp only [bL,gT,List.length_range];omega) (fun i b a hb hI=> ?_) (fun a hI=> ?_)
 ·exact im
 ·obtain⟨⟩:=a
  obtain⟨rfl,dw⟩:=lS hb
  have hw:IntKind.i64.wrap ((b:Int) + 1)=((b + 1:Nat):Int):=by rw [bZ (by omega) (by omega)];omega
  have gq:ltI (b:Int) (y1.length:Int)=true:=io (by omega)
  have rZ:leI (0:Int) (b:Int)=true:=jg (by omega)
  have lh:ltN b y1.length=true:=kG (by omega)
  refine⟨?_,?_,?_,?_⟩
  ·simp [ke,kf,mt,mu,mv,mw,my,lu,bL,LT.nds,allT,gT,gq,rZ,lh,he]
  ·simp [ke,kf,mt,mu,mv,mw,my,lu,bL,LT.each,gT,qZ,hw,he]
  ·simp only [ke,kf,mt,mu,mv,mw,my,lu,bL,LT.fn,gT,qZ,lX,Int.toNat_natCast,gq,cond_true]
  ·exact fun _ _=>trivial
 ·obtain⟨⟩:=a
  simp [ke,kf,mt,mu,mv,mw,my,lu,bL,LT.out,gT,List.length_range]
def gu(b:Nat):(Int×List Int)→Nat ⊕ (Int×List Int)
 |(y1,y2)=>(.inr ((IntKind.wrap .i64 (y1 + (1:Int))),(List.set y2 b y1)))
def dQ(i:Nat):(Int×List Int)→dy
 |(y1,y2)=>((i:Int),y1,y2)
def pp:dy→Int×List Int
 |(_,y1,y2)=>(y1,y2)
theorem AW(y1:Int)(y2:List Int)(n:Nat)(hl:y2.length=n)(hn:n≤9223372036854775807):
  bw.fin ((0:Int),y1,y2)=true∧bw.res ((0:Int),y1,y2)=((aN (gu) 0 (List.range n) 0 (y1,y2)).1,(dQ) (aN (gu) 0 (List.range n) 0 (y1,y2)).2.1 (aN (gu) 0 (List.range n) 0 (y1,y2)).2.2):=by
 have im:=bw.along (dQ) pp (gu) 0 (fun _ a=>a.2.length=n) (List.range n) (y1,y2) hl (by simp only [bw,dQ,List.length_range];omega) (fun i b a hb hI=> ?_) (fun a hI=> ?_)
 ·exact im
 ·obtain⟨y1,y2⟩:=a
  obtain⟨rfl,dw⟩:=lS hb
  have hI0:y2.length=n:=hI
  have hw:IntKind.i64.wrap ((b:Int) + 1)=((b + 1:Nat):Int):=by rw [bZ (by omega) (by omega)];omega
  have gq:ltI (b:Int) (y2.length:Int)=true:=io (by omega)
  have rZ:leI (0:Int) (b:Int)=true:=jg (by omega)
  have lh:ltN b y2.length=true:=kG (by omega)
  refine⟨?_,?_,?_,?_⟩
  ·simp [iI,kB,kC,kD,kE,kF,jW,bw,LT.nds,allT,dQ,gq,rZ,lh]
  ·simp [iI,kB,kC,kD,kE,kF,jW,bw,LT.each,dQ,pp,hw]
  ·simp only [iI,kB,kC,kD,kE,kF,jW,bw,LT.fn,dQ,pp,gu,Int.toNat_natCast,gq,rZ,lh,cond_true]
  ·intro a' hf;simp only [gu,Sum.inr.injEq]at hf;subst hf;simp [hI0]
 ·obtain⟨y1,y2⟩:=a
  have hI0:y2.length=n:=hI
  simp [iI,kB,kC,kD,kE,kF,jW,bw,LT.out,dQ,hI0,List.length_range]
def iB(b:Int):(Int)→Nat ⊕ (Int)
 |y1=>(bif(b !=y1)then(.inl 0)else(.inr (IntKind.wrap .i64 (y1 + (1:Int)))))
def eL(y2:List Int)(i:Nat):(Int)→dx
 |y1=>((i:Int),y1,y2)
def po:dx→Int
 |(_,y1,_)=>y1
theorem uv(y2:List Int)(y1:Int)(hn:y2.length≤9223372036854775807):
  aY.fin ((0:Int),y1,y2)=true∧aY.res ((0:Int),y1,y2)=((aN (iB) 1 y2 0 y1).1,(eL y2) (aN (iB) 1 y2 0 y1).2.1 (aN (iB) 1 y2 0 y1).2.2):=by
 have im:=aY.along (eL y2) po (iB) 1 (fun _ _=>True) y2 y1 (by trivial) (by simp only [aY,eL];omega) (fun i b a hb hI=> ?_) (fun a hI=> ?_)
 ·exact im
 ·obtain y1:=a
  have dw:=(List.getElem?_eq_some_iff.1 hb).1
  have iC: ∀ d,Option.getD y2[i]? d=b:=fun d=>by rw [hb];rfl
  have hw:=uD dw hn
  have gq:ltI (i:Int) (y2.length:Int)=true:=io (by omega)
  have rZ:leI (0:Int) (i:Int)=true:=jg (by omega)
  have lh:ltN i y2.length=true:=kG dw
  refine⟨?_,?_,?_,?_⟩
  ·simp [iG,kw,kx,ky,iH,kz,kA,jV,aY,LT.nds,allT,eL,gq,rZ,lh,iC]
  ·simp [iG,kw,kx,ky,iH,kz,kA,jV,aY,LT.each,eL,po,hw]
  ·simp only [iG,kw,kx,ky,iH,kz,kA,jV,aY,LT.fn,eL,po,iB,Int.toNat_natCast,gq,rZ,lh,iC,cond_true]
  ·exact fun _ _=>trivial
 ·obtain y1:=a
  simp [iG,kw,kx,ky,iH,kz,kA,jV,aY,LT.out,eL]
theorem Mc(xs:List Int)(hn:leN xs.length 1048576=true):rx xs=xs∧ry xs=true:=by
 have hn:=jP.1 hn
 have hr:(List.replicate (Int.toNat (xs.length:Int)) (0:Int)).length=xs.length:=by simp
 obtain⟨w1,w2⟩:=CL xs (List.replicate (Int.toNat (xs.length:Int)) (0:Int)) (by omega) hr
 have hc:=EH (xs:=xs) (d:=(0:Int)) (g:=fun x=>x) (f:=iq xs) (e:=0) (fun b a=>rfl) hr
 rw [hc]at w2
 refine⟨?_,?_⟩
 ·simp only [qJ,rx,ry,w2,fY];simp
 ·simp only [qJ,rx,ry,w1,allT];simp;omega
def zo:List SV→List Entry→Option Out
 | [.one ⟨false,[.ref 0]⟩],[.row false 2 (.int .i64) x0]=>some ⟨.one ⟨false,[.ref 1]⟩,[.row false 2 OO x0],[.row true 2 OO x0],[leN x0.length 1048576]⟩
 |_,_=>none
def nk:PF prog:=PF.alt Ft zo (by
 intro args es o h bh;unfold zo at h;split at h
 ·rename_i x0
  cases h
  have bh:=gR bh
  have hh:=Mc x0 bh
  obtain⟨e0,en⟩:=hh
  exact jT rfl (gA en) rfl rfl (by simp only [e0] <;> rfl)
 ·cases h)
theorem LH(xs ys:List Int)(hn:leN xs.length 9223372036854775807=true):ru xs ys=eqL xs ys∧rv xs ys=true:=by
 have hn:=jP.1 hn
 unfold eqL
 by_cases hl:ys.length=xs.length
 ·obtain⟨w1,w2⟩:=CJ xs ys hn hl
  have ha:=Mg (d:=(0:Int)) hl (P:=fun b=>Option.getD xs[b]? 0 !=Option.getD ys[b]? 0) (fun b=>by simp [bne,BEq.beq])
  rw [pf (P:=fun b=>Option.getD xs[b]? 0 !=Option.getD ys[b]? 0) (j:=0) (fun b=>rfl),ha]at w2
  simp only [qH,qI,ru,rv,w1,w2,allT]
  by_cases he:xs=ys
  ·subst he;simp;decide
  ·simp [he,hl]
 ·have sZ:xs≠ys:=fun h=>hl (by rw [h])
  simp [qH,qI,ru,rv,allT,sZ]
  omega
def zm:List SV→List Entry→Option Out
 | [.one ⟨false,[.ref 0]⟩,.one ⟨false,[.ref 1]⟩],[.row false 2 (.int .i64) x0,.row false 2 (.int .i64) x1]=>some ⟨.one ⟨false,[.val (.bool (eqL x0 x1))]⟩,[.row false 2 OO x0,.row false 2 OO x1],[],[leN x0.length 9223372036854775807]⟩
 |_,_=>none
def nj:PF prog:=PF.alt Fr zm (by
 intro args es o h bh;unfold zm at h;split at h
 ·rename_i x0 x1
  cases h
  have bh:=gR bh
  have hh:=LH x0 x1 bh
  obtain⟨e0,en⟩:=hh
  exact jT rfl (gA en) (by simp only [e0] <;> rfl) rfl rfl
 ·cases h)
def zW(k:Int)(n:Nat):Bool:=leI 0 k&&leI (k + n) 9223372036854775807
theorem xR{k:Int}{n:Nat}:zW k n=true↔0≤k∧k + n≤9223372036854775807:=by simp [zW]
theorem ET(k:Int)(xs:List Int)(h:zW k xs.length=true):nt k xs=k + xs.length∧nu k xs=kZ k xs.length∧nv k xs=true:=by
 obtain⟨h0,h1⟩:=xR.1 h
 obtain⟨w1,w2⟩:=AW k xs xs.length rfl (by omega)
 rw [Me (f:=gu) (fun b k xs=>rfl) h0 h1]at w2
 refine⟨?_,?_,?_⟩
 ·simp only [mA,mB,nt,nu,nv,w2,dQ]
 ·simp only [mA,mB,nt,nu,nv,w2,dQ]
 ·simp only [mA,mB,nt,nu,nv,w1,allT,cond_true]
def wc:List SV→List Entry→Option Out
 | [.one ⟨false,[.ref 0]⟩,.one ⟨false,[.val (.int .i64 x0)]⟩],[.row true 2 (.int .i64) x1]=>some ⟨.one ⟨false,[.val (.int .i64 (x0 + (x1.length:Int)))]⟩,[.row true 2 OO (kZ x0 x1.length)],[],[zW x0 x1.length]⟩
 |_,_=>none
def lg:PF prog:=PF.alt Dx wc (by
 intro args es o h bh;unfold wc at h;split at h
 ·rename_i x0 x1
  cases h
  have bh:=gR bh
  have hh:=ET x0 x1 bh
  obtain⟨e0,e1,en⟩:=hh
  exact jT rfl (gA en) (by simp only [e0] <;> rfl) (by simp only [e1] <;> rfl) rfl
 ·cases h)
def EQ(k:Int)(xs:List Int):Int:=nr k xs
theorem ME(k:Int)(n:Nat)(h:zW k n=true):EQ k (kZ k n)=k + n:=by
 obtain⟨h0,h1⟩:=xR.1 h
 obtain⟨w1,w2⟩:=uv (kZ k n) k (by rw [tO];omega)
 rw [HW (f:=iB) (fun b k=>rfl) h0 h1]at w2
 simp only [EQ,mz,nr,pB,w2,eL]
 rfl
theorem Jm(k:Int)(xs:List Int)(h:leN xs.length 9223372036854775807=true):nr k xs=EQ k xs∧pB k xs=true:=by
 obtain⟨w1,w2⟩:=uv xs k (jP.1 h)
 exact⟨rfl,by simp only [mz,nr,pB,w1,allT,cond_true]⟩
def wb:List SV→List Entry→Option Out
 | [.one ⟨false,[.ref 0]⟩,.one ⟨false,[.val (.int .i64 x0)]⟩],[.row false 2 (.int .i64) x1]=>some ⟨.one ⟨false,[.val (.int .i64 (EQ x0 x1))]⟩,[.row false 2 OO x1],[],[leN x1.length 9223372036854775807]⟩
 |_,_=>none
def sv:PF prog:=PF.alt Dw wb (by
 intro args es o h bh;unfold wb at h;split at h
 ·rename_i x0 x1
  cases h
  have bh:=gR bh
  have hh:=Jm x0 x1 bh
  obtain⟨e0,en⟩:=hh
  exact jT rfl (gA en) (by simp only [e0] <;> rfl) rfl rfl
 ·cases h)
def szV(k:Int)(xs:List Int):Int:=bif ltI (k - xs.length) 0 then -1 else k - xs.length
theorem Ma(k:Int)(xs:List Int)(h:(leN xs.length 9223372036854775807&&(leI (-1) k&&leI k 1048576))=true):uA k xs=szV k xs:=by
 simp only [Bool.and_eq_true,jP,yP]at h
 simp only [tm,uA,szV]
 rw [bZ (by omega) (by omega)]
def zn:List SV→List Entry→Option Out
 | [.one ⟨false,[.ref 0]⟩,.one ⟨false,[.val (.int .i64 x0)]⟩],[.row false 2 (.int .i64) x1]=>some ⟨.one ⟨false,[.val (.int .i64 (szV x0 x1))]⟩,[.row false 2 OO x1],[],[leN x1.length 9223372036854775807&&(leI (-1) x0&&leI x0 1048576)]⟩
 |_,_=>none
def uB:PF prog:=PF.alt Fs zn (by
 intro args es o h bh;unfold zn at h;split at h
 ·rename_i x0 x1
  cases h
  have bh:=gR bh
  have hh:=Ma x0 x1 bh
  have e0:=hh
  exact jT rfl (fun _ h=>by cases h) (by simp only [e0] <;> rfl) rfl rfl
 ·cases h)
theorem Fc{n:Int}(h:2≤n∧n≤8):IntKind.i64.wrap (IntKind.i64.wrap (3 * n) - 1)=3 * n - 1:=by
 rw [bZ (x:=3 * n) (by omega) (by omega),bZ (by omega) (by omega)]
theorem KZ(n:Int)(ps:List Int):tG n ps=isT n ps∧tH n ps=true:=by
 simp only [sE,sF,tG,tH,eS,yJ,isT]
 cases h1:inR n 2 8 with
 |false=>simp [allT]
 |true=>
  cases h2:inR (ps.length:Int) 1 4 with
  |false=>simp [allT]
  |true=>
   have h2':=oT.1 h2
   obtain⟨w1,w2⟩:=BO n ps (by omega)
   rw [pf (P:=fun b=> !inR b 0 (3 * n - 1)) (j:=0) (fun b=>by simp only [jE,Fc (oT.1 h1),eS,yJ])]at w2
   have e5:(ps.any fun b=> !inR b 0 (3 * n - 1))= !(ps.all fun b=>inR b 0 (3 * n - 1)):=by simp [List.all_eq_not_any_not]
   rw [e5]at w2
   simp only [w1,w2,allT]
   cases (ps.all fun b=>inR b 0 (3 * n - 1)) <;> simp <;> rfl
def xm:List SV→List Entry→Option Out
 | [.one ⟨true,[.val (.int .i64 x0),.ref 0]⟩],[.row false 2 (.int .i64) x1]=>some ⟨.one ⟨false,[.val (.bool (isT x0 x1))]⟩,[.row false 2 OO x1],[],[]⟩
 |_,_=>none
def cE:PF prog:=PF.alt Er xm (by
 intro args es o h bh;unfold xm at h;split at h
 ·rename_i x0 x1
  cases h
  have hh:=KZ x0 x1
  obtain⟨e0,en⟩:=hh
  exact jT rfl (gA en) (by simp only [e0] <;> rfl) rfl rfl
 ·cases h)
theorem Ja(n:Int)(h:2≤n∧n≤8)(ps:List Int)(hn:ps.length≤9223372036854775807):
  eP ps n=(ps.any fun b=> !inR b 0 (3 * n - 1))∧eQ ps n=true:=by
 obtain⟨w1,w2⟩:=rk n ps hn
 rw [pf (P:=fun b=> !inR b 0 (3 * n - 1)) (j:=0) (fun b=>by simp only [ct,mS,Fc h,jj,yJ])]at w2
 simp only [eP,lx,eQ,fB,iu,iY,iZ,ja,w1,w2,allT,cond_true,and_true,aW]
 cases (ps.any fun b=> !inR b 0 (3 * n - 1))with
 |true=>exact jg (Int.natCast_nonneg _)
 |false=>rfl
theorem KH(n:Int)(ps:List Int):tc n ps=isT n ps∧td n ps=true:=by
 simp only [sg,tc,td,qT,jj,fU,yJ,isT]
 cases h1:inR n 2 8 with
 |false=>simp [allT]
 |true=>
  cases h2:inR (ps.length:Int) 1 4 with
  |false=>simp [allT]
  |true=>
   have h2':=oT.1 h2
   obtain⟨c1,c2⟩:=Ja n (oT.1 h1) ps (by omega)
   simp only [c1,c2,allT]
   simp [List.all_eq_not_any_not]
def xc:List SV→List Entry→Option Out
 | [.one ⟨true,[.val (.int .i64 x0),.ref 0]⟩],[.row false 2 (.int .i64) x1]=>some ⟨.one ⟨false,[.val (.bool (isT x0 x1))]⟩,[.row false 2 OO x1],[],[]⟩
 |_,_=>none
def tw:PF prog:=PF.alt Ek xc (by
 intro args es o h bh;unfold xc at h;split at h
 ·rename_i x0 x1
  cases h
  have hh:=KH x0 x1
  obtain⟨e0,en⟩:=hh
  exact jT rfl (gA en) (by simp only [e0] <;> rfl) rfl rfl
 ·cases h)
def ro(ps:List Int)(t:Int):Bool:=inR t 0 ((ps.length:Int) - 1)
theorem ub{ps:List Int}{t:Int}:ro ps t=true↔0≤t∧t < ps.length:=by
 rw [ro,oT];omega
theorem Jk(t:Int)(ps:List Int)(h:leN ps.length 9223372036854775807=true):fc t ps=ro ps t:=by
 have h:=jP.1 h
 simp only [fc,jj,fU,ro,yJ]
 rw [bZ (x:=(ps.length:Int) - 1) (by omega) (by omega)]
def jf:List SV→List Entry→Option Out
 | [.one ⟨true,[.val (.int .i64 _x0),.ref 0]⟩,.one ⟨false,[.val (.int .i64 x1)]⟩],[.row false 2 (.int .i64) x2]=>some ⟨.one ⟨false,[.val (.bool (ro x2 x1))]⟩,[.row false 2 OO x2],[],[leN x2.length 9223372036854775807]⟩
 |_,_=>none
def fe:PF prog:=PF.alt oK jf (by
 intro args es o h bh;unfold jf at h;split at h
 ·rename_i _x0 x1 x2
  cases h
  have bh:=gR bh
  have hh:=Jk x1 x2 bh
  have e0:=hh
  exact jT rfl (fun _ h=>by cases h) (by simp only [e0] <;> rfl) rfl rfl
 ·cases h)
theorem Mk(xs:List Int)(h:(leN 1 xs.length&&leN xs.length 1048576)=true):mI xs=true:=by
 simp only [Bool.and_eq_true,jP]at h
 simp [mI,allT]
 omega
def pS:List SV→List Entry→Option Out
 | [.one ⟨false,[.ref 0]⟩],[.row false 2 (.int .i64) x0]=>some ⟨.one ⟨false,[.ref 1]⟩,[.row false 2 OO x0],[.row true 2 OO x0],[leN 1 x0.length&&leN x0.length 1048576]⟩
 |_,_=>none
def aX:PF prog:=PF.alt vC pS (by
 intro args es o h bh;unfold pS at h;split at h
 ·rename_i x0
  cases h
  have bh:=gR bh
  have hh:=Mk x0 bh
  have en:=hh
  exact jT rfl (gA en) rfl rfl rfl
 ·cases h)
theorem NT(xs:List Int)(h:leN xs.length 1048576=true):wC xs=true:=by
 have h:=jP.1 h
 simp [wC,allT]
 omega
def BS:List SV→List Entry→Option Out
 | [.one ⟨false,[.ref 0]⟩],[.row false 2 (.int .i64) x0]=>some ⟨.one ⟨false,[.ref 1]⟩,[.row false 2 OO x0],[.row true 2 OO x0],[leN x0.length 1048576]⟩
 |_,_=>none
def gG:PF prog:=PF.alt Hb BS (by
 intro args es o h bh;unfold BS at h;split at h
 ·rename_i x0
  cases h
  have bh:=gR bh
  have hh:=NT x0 bh
  have en:=hh
  exact jT rfl (gA en) rfl rfl rfl
 ·cases h)
def okP(n p:Int):Bool:=inR n 2 8&&inR p 0 (3 * n - 1)
theorem FD{n p:Int}:okP n p=true↔(2≤n∧n≤8)∧0≤p∧p≤3 * n - 1:=by simp [okP,oT]
theorem FA{n:Int}{ps:List Int}(h:isT n ps=true){p:Int}(hp:p∈ps):okP n p=true:=by
 obtain⟨h1,_,h3⟩:=ij.1 h
 exact FD.2 ⟨h1,h3 p hp⟩
theorem DN{p:Int}(h:0≤p):blk p=p / 3:=by rw [blk,Int.tdiv_eq_ediv_of_nonneg h]
theorem NH(n p b:Int)(h:okP n p=true):vE n p b=ya n p b∧sI n p b=true:=by
 obtain⟨⟨h1,h2⟩,h3,h4⟩:=FD.1 h
 have e1:IntKind.i64.wrap (Int.tdiv p 3)=blk p:=by
  rw [Int.tdiv_eq_ediv_of_nonneg h3,DN h3,bZ (by omega) (by omega)]
 have e2:IntKind.i64.wrap (blk p + 1)=blk p + 1:=by rw [DN h3,bZ (by omega) (by omega)]
 refine⟨?_,?_⟩
 ·simp only [pd,rD,vE,sI,e1,e2,ya,phs]
  cases (blk p==b) <;> cases (Int.tmod p 3==2) <;> simp
 ·have hn:neI n 0=true:=HF (by omega)
  simp [sI,allT,hn]
def Ai:List SV→List Entry→Option Out
 | [.one ⟨false,[.val (.int .i64 x0)]⟩,.one ⟨false,[.val (.int .i64 x1)]⟩,.one ⟨false,[.val (.int .i64 x2)]⟩],[]=>some ⟨.one ⟨false,[.val (.bool (ya x0 x1 x2))]⟩,[],[],[okP x0 x1]⟩
 |_,_=>none
def AG:PF prog:=PF.alt GA Ai (by
 intro args es o h bh;unfold Ai at h;split at h
 ·rename_i x0 x1 x2
  cases h
  have bh:=gR bh
  have hh:=NH x0 x1 x2 bh
  obtain⟨e0,en⟩:=hh
  exact jT rfl (gA en) (by simp only [e0] <;> rfl) rfl rfl
 ·cases h)
def tn(x1:Int)(x2:List Int):Int:=bif ltI (szV x1 x2) 0 then(-1:Int)else szV x1 x2
def tp(x1:Int)(x2:List Int):Bool:=allT [leN x2.length (9223372036854775807:Nat)&&(leI (-1:Int) x1&&leI x1 1048576)]
def wP:List SV→List Entry→Option Out
 | [.one ⟨true,[.val (.int .i64 _x0),.ref 0]⟩,.one ⟨false,[.val (.int .i64 x1)]⟩],[.row false 2 (.int .i64) x2]=>some ⟨.one ⟨false,[.val (.int .i64 (tn x1 x2))]⟩,[.row false 2 OO x2],[],[tp x1 x2]⟩
 |_,_=>none
def Eo:PF prog:=PF.ofG prog (T3z [uB]) [] cf 15 f15 func15 (fun c _=>LOk.nil c) wP (by
 intro vs es r h;unfold wP at h;split at h
 ·cases h;kernel_rfl
 ·cases h)
section
variable (x0 x1:Int)(x2:List Int)
def rC:Int:=IntKind.wrap .i64 ((3:Int) * x0)
def sG:List Int:=List.set x2 x1.toNat (Int.tmod (IntKind.wrap .i64 (Option.getD x2[Int.toNat x1]? 0 + (1:Int))) (rC x0))
def sH:Bool:=allT [leN x2.length (1048576:Nat),leI 0 x1,ltI x1 (↑x2.length:Int),ltN x1.toNat x2.length,neI (rC x0) 0,leI 0 x1,ltI x1 (↑x2.length:Int),ltN x1.toNat x2.length]
end
def zZ:List SV→List Entry→Option Out
 | [.one ⟨true,[.val (.int .i64 x0),.ref 0]⟩,.one ⟨false,[.val (.int .i64 x1)]⟩],[.row false 2 (.int .i64) x2]=>some ⟨.one ⟨true,[.val (.int .i64 x0),.ref 1]⟩,[.row false 2 OO x2],[.row true 2 OO (sG x0 x1 x2)],[sH x0 x1 x2]⟩
 |_,_=>none
def Gz:PF prog:=PF.ofG prog (T3z [gG]) [] cf 72 f72 func72 (fun c _=>LOk.nil c) zZ (by
 intro vs es r h;unfold zZ at h;split at h
 ·cases h;kernel_rfl
 ·cases h)
def tq(x1:List Int):Bool:=allT [leN x1.length (1048576:Nat)]
def wQ:List SV→List Entry→Option Out
 | [.one ⟨true,[.val (.int .i64 x0),.ref 0]⟩],[.row false 2 (.int .i64) x1]=>some ⟨.one ⟨true,[.val (.int .i64 x0),.ref 1]⟩,[.row false 2 OO x1],[.row true 2 OO x1],[tq x1]⟩
 |_,_=>none
def Ep:PF prog:=PF.ofG prog (T3z [nk]) [] cf 17 f17 func17 (fun c _=>LOk.nil c) wQ (by
 intro vs es r h;unfold wQ at h;split at h
 ·cases h;kernel_rfl
 ·cases h)
def aE(x1:List Int):Bool:=allT [leN 1 x1.length&&leN x1.length (1048576:Nat)]
def jQ:List SV→List Entry→Option Out
 | [.one ⟨true,[.val (.int .i64 x0),.ref 0]⟩],[.row false 2 (.int .i64) x1]=>some ⟨.one ⟨true,[.val (.int .i64 x0),.ref 1]⟩,[.row false 2 OO x1],[.row true 2 OO x1],[aE x1]⟩
 |_,_=>none
def aa:PF prog:=PF.ofG prog (T3z [aX]) [] cf 95 f95 func95 (fun c _=>LOk.nil c) jQ (by
 intro vs es r h;unfold jQ at h;split at h
 ·cases h;kernel_rfl
 ·cases h)
section
variable (x0 x1:Int)(x2:List Int)
def dF:Int:=IntKind.wrap .i64 ((3:Int) * x0)
def dM:List Int:=List.set x2 x1.toNat (Int.tmod (IntKind.wrap .i64 (Option.getD x2[Int.toNat x1]? 0 + (1:Int))) (dF x0))
def dN:Bool:=allT [aE x2,leI 0 x1,ltI x1 (↑x2.length:Int),ltN x1.toNat x2.length,neI (dF x0) 0,leI 0 x1,ltI x1 (↑x2.length:Int),ltN x1.toNat x2.length]
end
def jR:List SV→List Entry→Option Out
 | [.one ⟨true,[.val (.int .i64 x0),.ref 0]⟩,.one ⟨false,[.val (.int .i64 x1)]⟩],[.row false 2 (.int .i64) x2]=>some ⟨.one ⟨true,[.val (.int .i64 x0),.ref 1]⟩,[.row false 2 OO x2],[.row true 2 OO (dM x0 x1 x2)],[dN x0 x1 x2]⟩
 |_,_=>none
def pn:PF prog:=PF.ofG prog (T3z [aa]) [] cf 74 f74 func74 (fun c _=>LOk.nil c) jR (by
 intro vs es r h;unfold jR at h;split at h
 ·cases h;kernel_rfl
 ·cases h)
def ti(x0 x1:Int)(x2 x3:List Int):Bool:=bif x0 !=x1 then false else bif !eqL x2 x3 then false else true
def tj(x0 x1:Int)(x2:List Int):Bool:=allT [x0 !=x1||leN x2.length (9223372036854775807:Nat)]
def wO:List SV→List Entry→Option Out
 | [.one ⟨true,[.val (.int .i64 x0),.ref 0]⟩,.one ⟨true,[.val (.int .i64 x1),.ref 1]⟩],[.row false 2 (.int .i64) x2,.row false 2 (.int .i64) x3]=>some ⟨.one ⟨false,[.val (.bool (ti x0 x1 x2 x3))]⟩,[.row false 2 OO x2,.row false 2 OO x3],[],[tj x0 x1 x2]⟩
 |_,_=>none
def En:PF prog:=PF.ofG prog (T3z [nj]) [] cf 19 f19 func19 (fun c _=>LOk.nil c) wO (by
 intro vs es r h;unfold wO at h;split at h
 ·cases h;kernel_rfl
 ·cases h)
section
variable (x1:Int)(x2:List Int)
def rI:Int:=x1 + (↑x2.length:Int)
def rJ:List Int:=kZ x1 x2.length
def rK:Bool:=allT [zW x1 x2.length]
end
def vm:List SV→List Entry→Option Out
 | [.one ⟨true,[.val (.int .i64 _x0),.ref 0]⟩,.one ⟨false,[.val (.int .i64 x1)]⟩],[.row true 2 (.int .i64) x2]=>some ⟨.one ⟨false,[.val (.int .i64 (rI x1 x2))]⟩,[.row true 2 OO (rJ x1 x2)],[],[rK x1 x2]⟩
 |_,_=>none
def CA:PF prog:=PF.ofG prog (T3z [lg]) [] cf 20 f20 func20 (fun c _=>LOk.nil c) vm (by
 intro vs es r h;unfold vm at h;split at h
 ·cases h;kernel_rfl
 ·cases h)
def rG(x1:Int)(x2:List Int):Int:=bif ltI (EQ x1 x2) 0 then(-1:Int)else EQ x1 x2
def rH(x2:List Int):Bool:=allT [leN x2.length (9223372036854775807:Nat)]
def vl:List SV→List Entry→Option Out
 | [.one ⟨true,[.val (.int .i64 _x0),.ref 0]⟩,.one ⟨false,[.val (.int .i64 x1)]⟩],[.row false 2 (.int .i64) x2]=>some ⟨.one ⟨false,[.val (.int .i64 (rG x1 x2))]⟩,[.row false 2 OO x2],[],[rH x2]⟩
 |_,_=>none
def Cz:PF prog:=PF.ofG prog (T3z [sv]) [] cf 21 f21 func21 (fun c _=>LOk.nil c) vl (by
 intro vs es r h;unfold vl at h;split at h
 ·cases h;kernel_rfl
 ·cases h)
abbrev eu:=Int×Int×Int×Int×List Int
section
variable (y0 y1 y2 y3:Int)(y4:List Int)
def jJ:Int:=Option.getD y4[Int.toNat y0]? 0
def ki:Bool:=ltI y0 (↑y4.length:Int)
def mJ:Bool:=leI 0 y0
def mK:Bool:=ltN y0.toNat y4.length
def mL:Bool:=okP y3 (jJ y0 y4)
def mM:Int:=IntKind.wrap .i64 (y0 + (1:Int))
def mN:Int:=bif ya y3 (jJ y0 y4) y1 then IntKind.wrap .i64 (y2 + (1:Int))else y2
end
def Bv:eu→List (Nat×SV)
 |(y0,y1,y2,_,_)=> [(6,(.one ⟨false,[.val (.int .i64 y0)]⟩)),(2,(.one ⟨false,[.ptr 0 0]⟩)),(1,(.one ⟨false,[.val (.int .i64 y1)]⟩)),(5,(.one ⟨false,[.val (.int .i64 y2)]⟩))]
def Bq:eu→List (Nat×Entry)
 |(_,_,_,y3,y4)=> [(0,(.box 26 [.val (.int .i64 y3),.ref 1])),(1,(.row false 2 OO y4))]
def BG:Nat→eu→List (Nat×SV)
 |_,(_,_,y2,_,_)=> [(5,(.one ⟨false,[.val (.int .i64 y2)]⟩))]
def BB:Nat→eu→List (Nat×Entry)
 |_,(_,_,_,y3,y4)=> [(0,(.box 26 [.val (.int .i64 y3),.ref 1])),(1,(.row false 2 OO y4))]
def lw:eu→LT eu
 |(y0,y1,y2,y3,y4)=> .ite (ki y0 y4) (.need [mJ y0,ki y0 y4,mK y0 y4,mL y0 y3 y4] (.nrm ((mM y0),y1,mN y0 y1 y2 y3 y4,y3,y4) [(0,0),(1,1)])) (.ext 0 [(0,0),(1,1)])
def rh(s:St):Option eu:=
 (match s.look 6 with
 |some ⟨none,.one ⟨false,[.val (.int .i64 y0)]⟩⟩=>
 (match s.look 2 with
 |some ⟨none,.one ⟨false,[.ptr 128 0]⟩⟩=>
 (match s.look 1 with
 |some ⟨none,.one ⟨false,[.val (.int .i64 y1)]⟩⟩=>
 (match s.look 5 with
 |some ⟨none,.one ⟨false,[.val (.int .i64 y2)]⟩⟩=>
 (match s.ent 128 with
 |some (.box 26 [.val (.int .i64 y3),.ref 0])=>
 (match s.ent 0 with
 |some (.row false 2 (.int .i64) y4)=>
 some (y0,y1,y2,y3,y4)
 |_=>none)
 |_=>none)
 |_=>none)
 |_=>none)
 |_=>none)
 |_=>none)
def cv:Lp eu where
 h:=⟨[7,8,9,10,11,14,15,16,17,18,19,20,21,22,23,24,5,12,13,6],[0,1],[],[]⟩
 JL:=Bv
 JE:=Bq
 XL:=BG
 XE:=BB
 q:=fun j=>match j with | _=> .exit 0
 tags:= [0]
 lt:=lw
 fuel:=fun(y0,y1,y2,y3,y4)=>y0.natAbs + y1.natAbs + y2.natAbs + y3.natAbs + y4.length
 fix:=fun(_,y1,_,y3,y4) (y0,_,y2,_,_)=>(y0,y1,y2,y3,y4)
 σ:= [(0,128),(1,0)]
 rd:=rh
theorem zV:LoopOk prog (fun k=>Nat.blt k Try.f101.ntmps) cv.F (cD f101 0):=by
 refine Lp.ok (tbl:= [AG]) (lf:= []) cf cv (by kernel_rfl) (LOk.nil _) (fun _=>rfl) (fun _ _=>rfl) ?_ ?_ ?_ ?_ (fun _=>rfl) ?_
 ·rintro⟨y0,y1,y2,y3,y4⟩;kernel_rfl
 ·rintro⟨y0,y1,y2,y3,y4⟩;kernel_rfl
 ·intro s x h
  have h:rh s=some x:=h
  unfold rh at h
  repeat' split at h
  all_goals cases h
  constructor<;>repeat(first|refine ah (by assumption) rfl ?_|refine ar rfl (by assumption) rfl ?_|exact rfl)
 ·rintro⟨y0,y1,y2,y3,y4⟩;kernel_rfl
 ·rintro⟨y0,y1,y2,y3,y4⟩ z;exact(And.intro rfl trivial)
section
variable (x0 x1:Int)(x2:List Int)
def qL:Int×Int×Int×Int×List Int:=((0:Int),x1,(0:Int),x0,x2)
def rA:Int:=((Lp.res cv (qL x0 x1 x2)).2.2.2).1
def rB:Bool:=allT [Lp.fin cv (qL x0 x1 x2)]
end
def zk:List SV→List Entry→Option Out
 | [.one ⟨true,[.val (.int .i64 x0),.ref 0]⟩,.one ⟨false,[.val (.int .i64 x1)]⟩],[.row false 2 (.int .i64) x2]=>some ⟨.one ⟨false,[.val (.int .i64 (rA x0 x1 x2))]⟩,[.row false 2 OO x2],[],[rB x0 x1 x2]⟩
 |_,_=>none
def Fu:PF prog:=PF.ofG prog [AG] [cv.F] cf 101 f101 func101 (LOk.fnT (l:= [cD f101 0]) (by kernel_rfl) (.cons zV (.nil _))) zk (by
 intro vs es r h;unfold zk at h;split at h
 ·cases h;kernel_rfl
 ·cases h)
def sq(n:Int)(ps:List Int)(t:Int):List Int:=ps.set t.toNat (Int.tmod (ps[t.toNat]?.getD 0 + 1) (3 * n))
theorem uk(n:Int)(ps:List Int)(t:Int):(sq n ps t).length=ps.length:=by simp [sq]
theorem Lm{n:Int}{ps:List Int}(h:isT n ps=true)(t:Int):isT n (sq n ps t)=true:=by
 obtain⟨h1,h2,h3⟩:=ij.1 h
 refine ij.2 ⟨h1,by rw [uk];exact h2,fun p hp=> ?_⟩
 rcases List.mem_or_eq_of_mem_set hp with hp | rfl
 ·exact h3 p hp
 ·have h0:0≤ps[t.toNat]?.getD 0:=by
   cases hg:ps[t.toNat]? with
   |none=>simp
   |some q=>exact(h3 q (List.mem_of_getElem? hg)).1
  have:=Int.emod_lt_of_pos (ps[t.toNat]?.getD 0 + 1) (show 0 < 3 * n by omega)
  have:=Int.emod_nonneg (ps[t.toNat]?.getD 0 + 1) (show 3 * n≠0 by omega)
  rw [Int.tmod_eq_emod_of_nonneg (by omega)]
  omega
def xS(n:Int)(ps:List Int)(t:Int):Bool:=isT n ps&&ro ps t
theorem sr{n:Int}{ps:List Int}{t:Int}:xS n ps t=true↔isT n ps=true∧ro ps t=true:=by simp [xS]
theorem Ee{n:Int}{ps:List Int}{t:Int}(h:xS n ps t=true):IntKind.i64.wrap (3 * n)=3 * n∧IntKind.i64.wrap (ps[t.toNat]?.getD 0 + 1)=ps[t.toNat]?.getD 0 + 1∧neI (3 * n) 0=true∧
  leI 0 t=true∧ltI t ps.length=true∧ltN t.toNat ps.length=true∧leN ps.length 1048576=true∧leN 1 ps.length=true:=by
 obtain⟨hT,ht⟩:=sr.1 h
 obtain⟨h1,h2,h3⟩:=ij.1 hT
 have h4:=ub.1 ht
 have dw:t.toNat < ps.length:=by omega
 have hg:ps[t.toNat]?.getD 0=ps[t.toNat]:=by rw [List.getElem?_eq_getElem dw];rfl
 have h5:=h3 _ (List.getElem_mem dw)
 rw [hg]
 exact⟨bZ (by omega) (by omega),bZ (by omega) (by omega),HF (by omega),jg h4.1,io h4.2,kG dw,Cd (by omega),Cd h2.1⟩
theorem JV(n t:Int)(ps:List Int)(h:xS n ps t=true):sG n t ps=sq n ps t∧sH n t ps=true:=by
 obtain⟨e1,e2,e3,e4,e5,e6,e7,e8⟩:=Ee h
 refine⟨?_,?_⟩
 ·simp only [rC,sG,sH,e1,e2,sq]
 ·simp only [rC,sG,sH,e1,e3,e4,e5,e6,e7,allT,cond_true]
def Ah:List SV→List Entry→Option Out
 | [.one ⟨true,[.val (.int .i64 x0),.ref 0]⟩,.one ⟨false,[.val (.int .i64 x1)]⟩],[.row false 2 (.int .i64) x2]=>some ⟨.one ⟨true,[.val (.int .i64 x0),.ref 1]⟩,[.row false 2 OO x2],[.row true 2 OO (sq x0 x2 x1)],[xS x0 x2 x1]⟩
 |_,_=>none
def jq:PF prog:=PF.alt Gz Ah (by
 intro args es o h bh;unfold Ah at h;split at h
 ·rename_i x0 x1 x2
  cases h
  have bh:=gR bh
  have hh:=JV x0 x1 x2 bh
  obtain⟨e0,en⟩:=hh
  exact jT rfl (gA en) rfl rfl (by simp only [e0] <;> rfl)
 ·cases h)
theorem Js(n t:Int)(ps:List Int)(h:xS n ps t=true):dM n t ps=sq n ps t∧dN n t ps=true:=by
 obtain⟨e1,e2,e3,e4,e5,e6,e7,e8⟩:=Ee h
 refine⟨?_,?_⟩
 ·simp only [dF,dM,dN,e1,e2,sq]
 ·simp only [dF,dM,dN,aE,e1,e3,e4,e5,e6,e7,e8,allT,cond_true,Bool.and_self]
def jS:List SV→List Entry→Option Out
 | [.one ⟨true,[.val (.int .i64 x0),.ref 0]⟩,.one ⟨false,[.val (.int .i64 x1)]⟩],[.row false 2 (.int .i64) x2]=>some ⟨.one ⟨true,[.val (.int .i64 x0),.ref 1]⟩,[.row false 2 OO x2],[.row true 2 OO (sq x0 x2 x1)],[xS x0 x2 x1]⟩
 |_,_=>none
def ag:PF prog:=PF.alt pn jS (by
 intro args es o h bh;unfold jS at h;split at h
 ·rename_i x0 x1 x2
  cases h
  have bh:=gR bh
  have hh:=Js x0 x1 x2 bh
  obtain⟨e0,en⟩:=hh
  exact jT rfl (gA en) rfl rfl (by simp only [e0] <;> rfl)
 ·cases h)
theorem NY(ps:List Int)(h:leN ps.length 1048576=true):tq ps=true:=by simp only [tq,allT,h,cond_true]
def xk:List SV→List Entry→Option Out
 | [.one ⟨true,[.val (.int .i64 x0),.ref 0]⟩],[.row false 2 (.int .i64) x1]=>some ⟨.one ⟨true,[.val (.int .i64 x0),.ref 1]⟩,[.row false 2 OO x1],[.row true 2 OO x1],[leN x1.length 1048576]⟩
 |_,_=>none
def tz:PF prog:=PF.alt Ep xk (by
 intro args es o h bh;unfold xk at h;split at h
 ·rename_i x0 x1
  cases h
  have bh:=gR bh
  have hh:=NY x1 bh
  have en:=hh
  exact jT rfl (gA en) rfl rfl rfl
 ·cases h)
def eqT(n m:Int)(ps qs:List Int):Bool:=n==m&&eqL ps qs
theorem Mw(n:Int)(ps:List Int):eqT n n ps ps=true:=by simp [eqT,eqL]
theorem NO(n m:Int)(ps qs:List Int)(h:leN ps.length 9223372036854775807=true):ti n m ps qs=eqT n m ps qs∧tj n m ps=true:=by
 simp only [ti,tj,allT,h,eqT,bne]
 cases n==m <;> cases eqL ps qs <;> simp
def xh:List SV→List Entry→Option Out
 | [.one ⟨true,[.val (.int .i64 x0),.ref 0]⟩,.one ⟨true,[.val (.int .i64 x1),.ref 1]⟩],[.row false 2 (.int .i64) x2,.row false 2 (.int .i64) x3]=>some ⟨.one ⟨false,[.val (.bool (eqT x0 x1 x2 x3))]⟩,[.row false 2 OO x2,.row false 2 OO x3],[],[leN x2.length 9223372036854775807]⟩
 |_,_=>none
def qK:PF prog:=PF.alt En xh (by
 intro args es o h bh;unfold xh at h;split at h
 ·rename_i x0 x1 x2 x3
  cases h
  have bh:=gR bh
  have hh:=NO x0 x1 x2 x3 bh
  obtain⟨e0,en⟩:=hh
  exact jT rfl (gA en) (by simp only [e0] <;> rfl) rfl rfl
 ·cases h)
theorem NX(k:Int)(ps:List Int)(h:(leN ps.length 9223372036854775807&&(leI (-1) k&&leI k 1048576))=true):tn k ps=szV k ps∧tp k ps=true:=by
 simp only [tn,tp,allT,h,cond_true,and_true]
 cases hs:ltI (szV k ps) 0 with
 |false=>rfl
 |true=>
  simp only [szV]at hs ⊢
  cases hq:ltI (k - (ps.length:Int)) 0 with
  |true=>rfl
  |false=>rw [hq,cond_false]at hs;rw [hs]at hq;cases hq
def xj:List SV→List Entry→Option Out
 | [.one ⟨true,[.val (.int .i64 _x0),.ref 0]⟩,.one ⟨false,[.val (.int .i64 x1)]⟩],[.row false 2 (.int .i64) x2]=>some ⟨.one ⟨false,[.val (.int .i64 (szV x1 x2))]⟩,[.row false 2 OO x2],[],[leN x2.length 9223372036854775807&&(leI (-1) x1&&leI x1 1048576)]⟩
 |_,_=>none
def tx:PF prog:=PF.alt Eo xj (by
 intro args es o h bh;unfold xj at h;split at h
 ·rename_i _x0 x1 x2
  cases h
  have bh:=gR bh
  have hh:=NX x1 x2 bh
  obtain⟨e0,en⟩:=hh
  exact jT rfl (gA en) (by simp only [e0] <;> rfl) rfl rfl
 ·cases h)
theorem MK(k:Int)(ps:List Int)(h:zW k ps.length=true):rI k ps=k + ps.length∧rJ k ps=kZ k ps.length∧rK k ps=true:=by
 simp only [rI,rJ,rK,allT,h,cond_true,and_self]
def vo:List SV→List Entry→Option Out
 | [.one ⟨true,[.val (.int .i64 _x0),.ref 0]⟩,.one ⟨false,[.val (.int .i64 x1)]⟩],[.row true 2 (.int .i64) x2]=>some ⟨.one ⟨false,[.val (.int .i64 (x1 + (x2.length:Int)))]⟩,[.row true 2 OO (kZ x1 x2.length)],[],[zW x1 x2.length]⟩
 |_,_=>none
def rL:PF prog:=PF.alt CA vo (by
 intro args es o h bh;unfold vo at h;split at h
 ·rename_i _x0 x1 x2
  cases h
  have bh:=gR bh
  have hh:=MK x1 x2 bh
  obtain⟨e0,e1,en⟩:=hh
  exact jT rfl (gA en) (by simp only [e0] <;> rfl) (by simp only [e1] <;> rfl) rfl
 ·cases h)
def Ct(k:Int)(xs:List Int):Int:=bif ltI (EQ k xs) 0 then -1 else EQ k xs
theorem LL(k:Int)(n:Nat)(h:zW k n=true):Ct k (kZ k n)=k + n:=by
 obtain⟨h0,h1⟩:=xR.1 h
 unfold Ct
 rw [ME k n h,HC (by omega)];rfl
theorem MD(k:Int)(ps:List Int)(h:leN ps.length 9223372036854775807=true):rG k ps=Ct k ps∧rH ps=true:=by
 simp only [rG,rH,Ct,allT,h,cond_true,and_self]
def vn:List SV→List Entry→Option Out
 | [.one ⟨true,[.val (.int .i64 _x0),.ref 0]⟩,.one ⟨false,[.val (.int .i64 x1)]⟩],[.row false 2 (.int .i64) x2]=>some ⟨.one ⟨false,[.val (.int .i64 (Ct x1 x2))]⟩,[.row false 2 OO x2],[],[leN x2.length 9223372036854775807]⟩
 |_,_=>none
def oV:PF prog:=PF.alt Cz vn (by
 intro args es o h bh;unfold vn at h;split at h
 ·rename_i _x0 x1 x2
  cases h
  have bh:=gR bh
  have hh:=MD x1 x2 bh
  obtain⟨e0,en⟩:=hh
  exact jT rfl (gA en) (by simp only [e0] <;> rfl) rfl rfl
 ·cases h)
theorem Mb{ps:List Int}{k:Int}(h:ltI (szV k ps) 0=false):(ps.length:Int)≤k:=by
 unfold szV at h
 cases hq:ltI (k - (ps.length:Int)) 0 with
 |true=>rw [hq]at h;cases h
 |false=>have:=wj.1 hq;omega
def ir(y1 y3 b:Int):(Int)→Nat ⊕ (Int)
 |y2=>(.inr (bif ya y3 b y1 then IntKind.wrap .i64 (y2 + (1:Int))else y2))
def fZ(y1 y3:Int)(y4:List Int)(i:Nat):(Int)→eu
 |y2=>((i:Int),y1,y2,y3,y4)
def rb:eu→Int
 |(_,_,y2,_,_)=>y2
theorem CM(y1 y3:Int)(y4:List Int)(y2:Int)(hn:y4.length≤9223372036854775807)(hT: ∀ p∈y4,okP y3 p=true)(h4:y4.length≤4)(h2:y2=0):
  cv.fin ((0:Int),y1,y2,y3,y4)=true∧cv.res ((0:Int),y1,y2,y3,y4)=((aN (ir y1 y3) 0 y4 0 y2).1,(fZ y1 y3 y4) (aN (ir y1 y3) 0 y4 0 y2).2.1 (aN (ir y1 y3) 0 y4 0 y2).2.2):=by
 have im:=cv.along (fZ y1 y3 y4) rb (ir y1 y3) 0 (fun i a=>0≤a∧a≤i) y4 y2 (by omega) (by simp only [cv,fZ];omega) (fun i b a hb hI=> ?_) (fun a hI=> ?_)
 ·exact im
 ·obtain y2:=a
  have dw:=(List.getElem?_eq_some_iff.1 hb).1
  have iC: ∀ d,Option.getD y4[i]? d=b:=fun d=>by rw [hb];rfl
  have hw:=uD dw hn
  have gq:ltI (i:Int) (y4.length:Int)=true:=io (by omega)
  have rZ:leI (0:Int) (i:Int)=true:=jg (by omega)
  have lh:ltN i y4.length=true:=kG dw
  refine⟨?_,?_,?_,?_⟩
  ·simp [jJ,ki,mJ,mK,mL,mM,mN,lw,cv,LT.nds,allT,fZ,gq,rZ,lh,iC,hT b (List.mem_of_getElem? hb)]
  ·simp [jJ,ki,mJ,mK,mL,mM,mN,lw,cv,LT.each,fZ,rb,hw,hT b (List.mem_of_getElem? hb)]
  ·simp only [jJ,ki,mJ,mK,mL,mM,mN,lw,cv,LT.fn,fZ,rb,ir,Int.toNat_natCast,gq,iC,cond_true]
  ·intro a' hf;simp only [ir,Sum.inr.injEq]at hf;subst hf;cases ya y3 b y1 <;> simp only [cond_true,cond_false] <;> (try rw [bZ (by omega) (by omega)]) <;> omega
 ·obtain y2:=a
  simp [jJ,ki,mJ,mK,mL,mM,mN,lw,cv,LT.out,fZ]
theorem FS(n b:Int): ∀ (ps:List Int) (a:Int),0≤a→a + ps.length≤100→ps.foldl (fun a p=>bif ya n p b then IntKind.wrap .i64 (a + (1:Int))else a) a=a + (va n ps b:Int)
 | [],a,_,_=>by simp [va]
 |p::ps,a,h0,h1=>by
  simp only [List.length_cons]at h1
  simp only [List.foldl_cons,va,List.countP_cons]
  cases hu:ya n p b with
  |true=>
   rw [cond_true,bZ (by omega) (by omega),FS n b ps (a + 1) (by omega) (by omega)]
   simp only [va]
   simp;omega
  |false=>
   rw [cond_false,FS n b ps a h0 (by omega)]
   simp [va]
theorem Mm(n b:Int)(ps:List Int)(h:isT n ps=true):rA n b ps=(va n ps b:Int)∧rB n b ps=true:=by
 have h2:=(ij.1 h).2.1
 obtain⟨w1,w2⟩:=CM b n ps 0 (by omega) (fun p hp=>FA h hp) h2.2 rfl
 rw [oL (f:=ir b n) (g:=fun a p=>bif ya n p b then IntKind.wrap .i64 (a + (1:Int))else a) (fun p a=>rfl),FS n b ps 0 (by omega) (by omega)]at w2
 refine⟨?_,?_⟩
 ·simp only [qL,rA,rB,w2,fZ];omega
 ·simp only [qL,rA,rB,w1,allT,cond_true]
def zp:List SV→List Entry→Option Out
 | [.one ⟨true,[.val (.int .i64 x0),.ref 0]⟩,.one ⟨false,[.val (.int .i64 x1)]⟩],[.row false 2 (.int .i64) x2]=>some ⟨.one ⟨false,[.val (.int .i64 (va x0 x2 x1:Int))]⟩,[.row false 2 OO x2],[],[isT x0 x2]⟩
 |_,_=>none
def dg:PF prog:=PF.alt Fu zp (by
 intro args es o h bh;unfold zp at h;split at h
 ·rename_i x0 x1 x2
  cases h
  have bh:=gR bh
  have hh:=Mm x0 x1 x2 bh
  obtain⟨e0,en⟩:=hh
  exact jT rfl (gA en) (by simp only [e0] <;> rfl) rfl rfl
 ·cases h)
abbrev cw:=Int×Int×List Int
section
variable (y0 y1:Int)(y2:List Int)
def iN:Bool:=ltI y0 y1
def iO:Bool:=isT y1 y2
def iP:Bool:=ltI 1 (↑(va y1 y2 y0):Int)
def iQ:Int:=IntKind.wrap .i64 (y0 + (1:Int))
end
def ws:cw→List (Nat×SV)
 |(y0,_,_)=> [(3,(.one ⟨false,[.val (.int .i64 y0)]⟩)),(1,(.one ⟨false,[.ptr 0 0]⟩))]
def wq:cw→List (Nat×Entry)
 |(_,y1,y2)=> [(0,(.box 26 [.val (.int .i64 y1),.ref 1])),(1,(.row false 2 OO y2))]
def wv:Nat→cw→List (Nat×SV)
 |0,(_,_,_)=> [(2,(.one ⟨false,[.val (.bool false)]⟩))]
 |_,(_,_,_)=> []
def wu:Nat→cw→List (Nat×Entry)
 |0,(_,y1,y2)=> [(0,(.box 26 [.val (.int .i64 y1),.ref 1])),(1,(.row false 2 OO y2))]
 |_,(_,y1,y2)=> [(0,(.box 26 [.val (.int .i64 y1),.ref 1])),(1,(.row false 2 OO y2))]
def ig:cw→LT cw
 |(y0,y1,y2)=> .ite (iN y0 y1) (.need [iO y1 y2] (.ite (iP y0 y1 y2) (.ext 0 [(0,0),(1,1)]) (.nrm ((iQ y0),y1,y2) [(0,0),(1,1)]))) (.ext 1 [(0,0),(1,1)])
def nP(s:St):Option cw:=
 (match s.look 3 with
 |some ⟨none,.one ⟨false,[.val (.int .i64 y0)]⟩⟩=>
 (match s.look 1 with
 |some ⟨none,.one ⟨false,[.ptr 128 0]⟩⟩=>
 (match s.ent 128 with
 |some (.box 26 [.val (.int .i64 y1),.ref 0])=>
 (match s.ent 0 with
 |some (.row false 2 (.int .i64) y2)=>
 some (y0,y1,y2)
 |_=>none)
 |_=>none)
 |_=>none)
 |_=>none)
def aS:Lp cw where
 h:=⟨[7,8,9,10,13,14,15,16,2,11,12,3],[0,1],[],[]⟩
 JL:=ws
 JE:=wq
 XL:=wv
 XE:=wu
 q:=fun j=>match j with | 0=> .ret | _=> .exit 0
 tags:= [0,1]
 lt:=ig
 fuel:=fun(y0,y1,y2)=>y0.natAbs + y1.natAbs + y2.length
 fix:=fun(_,y1,y2) (y0,_,_)=>(y0,y1,y2)
 σ:= [(0,128),(1,0)]
 rd:=nP
theorem vz:LoopOk prog (fun k=>Nat.blt k Try.f45.ntmps) aS.F (cD f45 0):=by
 refine Lp.ok (tbl:= (T3z [dg,cE])) (lf:= []) cf aS (by kernel_rfl) (LOk.nil _) (fun _=>rfl) (fun j _=>by unfold aS;match j with | 0=>rfl | _ + 1=>rfl) ?_ ?_ ?_ ?_ (fun _=>rfl) ?_
 ·rintro⟨y0,y1,y2⟩;kernel_rfl
 ·rintro⟨y0,y1,y2⟩;kernel_rfl
 ·intro s x h
  have h:nP s=some x:=h
  unfold nP at h
  repeat' split at h
  all_goals cases h
  constructor<;>repeat(first|refine ah (by assumption) rfl ?_|refine ar rfl (by assumption) rfl ?_|exact rfl)
 ·rintro⟨y0,y1,y2⟩;kernel_rfl
 ·rintro⟨y0,y1,y2⟩ z;exact(And.intro (And.intro trivial rfl) trivial)
section
variable (x0:Int)(x1:List Int)
def pz:Int×Int×List Int:=((0:Int),x0,x1)
def qt:Bool:=bif !isT x0 x1 then false else bif Nat.beq ((Lp.res aS (pz x0 x1)).1) 0 then false else true
def qu:Bool:=allT [!isT x0 x1||Lp.fin aS (pz x0 x1)]
end
def tV:List SV→List Entry→Option Out
 | [.one ⟨true,[.val (.int .i64 x0),.ref 0]⟩],[.row false 2 (.int .i64) x1]=>some ⟨.one ⟨false,[.val (.bool (qt x0 x1))]⟩,[.row false 2 OO x1],[],[qu x0 x1]⟩
 |_,_=>none
def AP:PF prog:=PF.ofG prog (T3z [dg,cE]) [aS.F] cf 45 f45 func45 (LOk.fnT (l:= [cD f45 0]) (by kernel_rfl) (.cons vz (.nil _))) tV (by
 intro vs es r h;unfold tV at h;split at h
 ·cases h;kernel_rfl
 ·cases h)
def Ly(n:Int)(ps:List Int):Bool:=(List.range n.toNat).all fun b=>leI (va n ps (b:Int):Int) 1
def MG(n:Int)(ps:List Int):Bool:=isT n ps&&Ly n ps
def gk(y1:Int)(y2:List Int)(b:Nat):(Unit)→Nat ⊕ (Unit)
 |_=>(bif(ltI 1 (↑(va y1 y2 (↑b:Int)):Int))then(.inl 0)else(.inr ()))
def ez(y1:Int)(y2:List Int)(i:Nat):(Unit)→cw
 |_=>((i:Int),y1,y2)
def nO:cw→Unit
 |(_,_,_)=>()
theorem yc(y1:Int)(y2:List Int) (hn:y1≤9223372036854775807) (hT:isT y1 y2=true):
  aS.fin ((0:Int),y1,y2)=true∧aS.res ((0:Int),y1,y2)=((aN (gk y1 y2) 1 (List.range y1.toNat) 0 ()).1,(ez y1 y2) (aN (gk y1 y2) 1 (List.range y1.toNat) 0 ()).2.1 (aN (gk y1 y2) 1 (List.range y1.toNat) 0 ()).2.2):=by
 have im:=aS.along (ez y1 y2) nO (gk y1 y2) 1 (fun _ _=>True) (List.range y1.toNat) () (by trivial) (by simp only [aS,ez,List.length_range];omega) (fun i b a hb hI=> ?_) (fun a hI=> ?_)
 ·exact im
 ·obtain⟨⟩:=a
  obtain⟨rfl,dw⟩:=lS hb
  have hw:IntKind.i64.wrap ((b:Int) + 1)=((b + 1:Nat):Int):=by rw [bZ (by omega) (by omega)];omega
  have gq:ltI (b:Int) y1=true:=io (by omega)
  have rZ:leI (0:Int) (b:Int)=true:=jg (by omega)
  refine⟨?_,?_,?_,?_⟩
  ·simp [iN,iO,iP,iQ,ig,aS,LT.nds,allT,ez,gq,rZ,hT]
  ·simp [iN,iO,iP,iQ,ig,aS,LT.each,ez,nO,hw,hT]
  ·simp only [iN,iO,iP,iQ,ig,aS,LT.fn,ez,nO,gk,Int.toNat_natCast,gq,rZ,cond_true,hT]
  ·exact fun _ _=>trivial
 ·obtain⟨⟩:=a
  simp only [iN,iO,iP,iQ,ig,aS,LT.out,ez,List.length_range,Be,Do,cond_false]
theorem LQ(a b:Int):(!leI a b)=ltI b a:=by
 cases h:leI a b with
 |true=>have:=yP.1 h;exact(HC (by omega)).symm
 |false=>have:=Nj.1 h;exact(io (by omega)).symm
theorem JY(n:Int)(ps:List Int):qt n ps=MG n ps∧qu n ps=true:=by
 simp only [pz,qt,qu,MG]
 cases hT:isT n ps with
 |false=>simp [allT]
 |true=>
  have h1:=(ij.1 hT).1
  obtain⟨w1,w2⟩:=yc n ps (by omega) hT
  rw [pf (P:=fun b=> !leI (va n ps ((b:Nat):Int):Int) 1) (j:=0) (fun b=>by simp only [gk,LQ])]at w2
  have e5:((List.range n.toNat).any fun b=> !leI (va n ps ((b:Nat):Int):Int) 1)= !Ly n ps:=by simp [Ly,List.all_eq_not_any_not]
  rw [e5]at w2
  simp only [w1,w2,allT]
  cases Ly n ps <;> simp <;> rfl
def tY:List SV→List Entry→Option Out
 | [.one ⟨true,[.val (.int .i64 x0),.ref 0]⟩],[.row false 2 (.int .i64) x1]=>some ⟨.one ⟨false,[.val (.bool (MG x0 x1))]⟩,[.row false 2 OO x1],[],[]⟩
 |_,_=>none
def eo:PF prog:=PF.alt AP tY (by
 intro args es o h bh;unfold tY at h;split at h
 ·rename_i x0 x1
  cases h
  have hh:=JY x0 x1
  obtain⟨e0,en⟩:=hh
  exact jT rfl (gA en) (by simp only [e0] <;> rfl) rfl rfl
 ·cases h)
theorem Ln(ts:List Int):ltI 200 (ts.length:Int)= !leN ts.length 200:=by
 cases h:leN ts.length 200 with
 |true=>have:=jP.1 h;exact HC (by omega)
 |false=>have:=Nk.1 h;exact io (by omega)
end Go.SX
namespace Go.Proofs
open Go.Shelf
def Try.laysSort_ren:Go.Shelf.Ren:=⟨fun | 5=>175 | 8=>180 | 7=>179 | 19=>190 | 20=>191 | 10=>181 | 11=>182 | 12=>183 | 13=>184 | 14=>185 | 15=>186 | 16=>187 | 17=>188 | 18=>189 | 30=>192 | 31=>193 | 32=>194 | 33=>195 | 34=>196 | 35=>197 | 40=>198 | n=>n,fun | 23=>22 | 25=>2 | 3=>3 | 32=>114 | 22=>22 | 0=>0 | 44=>191 | 46=>62 | 4=>4 | 36=>183 | 35=>182 | 41=>188 | 5=>5 | 9=>9 | 53=>193 | 57=>197 | 63=>199 | 64=>200 | n=>n,fun | n=>n⟩
theorem Try.laysSort:Go.Proofs.SlLaysM.n5 Try.prog Try.laysSort_ren:= {
 mixed:=by kernel_rfl
 f5:=⟨Try.f175.name,by decide,Try.func175.trans (congrArg some (by kernel_rfl))⟩
 f7:=⟨Try.f179.name,by decide,Try.func179.trans (congrArg some (by kernel_rfl))⟩
 f8:=Try.func180.trans (congrArg some (by kernel_rfl))
 f10:=⟨Try.f181.name,by decide,Try.func181.trans (congrArg some (by kernel_rfl))⟩
 f11:=⟨Try.f182.name,by decide,Try.func182.trans (congrArg some (by kernel_rfl))⟩
 f12:=⟨Try.f183.name,by decide,Try.func183.trans (congrArg some (by kernel_rfl))⟩
 f13:=⟨Try.f184.name,by decide,Try.func184.trans (congrArg some (by kernel_rfl))⟩
 f14:=⟨Try.f185.name,by decide,Try.func185.trans (congrArg some (by kernel_rfl))⟩
 f15:=⟨Try.f186.name,by decide,Try.func186.trans (congrArg some (by kernel_rfl))⟩
 f16:=⟨Try.f187.name,by decide,Try.func187.trans (congrArg some (by kernel_rfl))⟩
 f17:=⟨Try.f188.name,by decide,Try.func188.trans (congrArg some (by kernel_rfl))⟩
 f18:=⟨Try.f189.name,by decide,Try.func189.trans (congrArg some (by kernel_rfl))⟩
 f19:=Try.func190.trans (congrArg some (by kernel_rfl))
 f20:=Try.func191.trans (congrArg some (by kernel_rfl))
 f30:=⟨Try.f192.name,by decide,Try.func192.trans (congrArg some (by kernel_rfl))⟩
 f31:=Try.func193.trans (congrArg some (by kernel_rfl))
 f32:=Try.func194.trans (congrArg some (by kernel_rfl))
 f33:=⟨Try.f195.name,by decide,Try.func195.trans (congrArg some (by kernel_rfl))⟩
 f34:=⟨Try.f196.name,by decide,Try.func196.trans (congrArg some (by kernel_rfl))⟩
 f35:=⟨Try.f197.name,by decide,Try.func197.trans (congrArg some (by kernel_rfl))⟩
 f40:=⟨Try.f198.name,by decide,Try.func198.trans (congrArg some (by kernel_rfl))⟩
 t0:=Try.underlying0
 a0:=Try.isAgg0
 z0:=Try.sizeOf0
 v0:=Try.zeroValue0
 t3:=Try.underlying3
 a3:=Try.isAgg3
 z3:=Try.sizeOf3
 v3:=Try.zeroValue3
 t4:=Try.underlying4
 a4:=Try.isAgg4
 z4:=Try.sizeOf4
 v4:=Try.zeroValue4
 t5:=Try.underlying5
 a5:=Try.isAgg5
 z5:=Try.sizeOf5
 v5:=Try.zeroValue5
 t9:=Try.underlying9
 a9:=Try.isAgg9
 z9:=Try.sizeOf9
 v9:=Try.zeroValue9
 t22:=Try.underlying22
 a22:=Try.isAgg22
 z22:=Try.sizeOf22
 v22:=Try.zeroValue22
 t23:=Try.underlying22
 a23:=Try.isAgg22
 z23:=Try.sizeOf22
 v23:=Try.zeroValue22
 t25:=Try.underlying2
 a25:=Try.isAgg2
 z25:=Try.sizeOf2
 v25:=Try.zeroValue2
 t32:=Try.underlying114
 a32:=Try.isAgg114
 z32:=Try.sizeOf114
 v32:=Try.zeroValue114
 t35:=Try.underlying182
 a35:=Try.isAgg182
 z35:=Try.sizeOf182
 v35:=Try.zeroValue182
 t36:=Try.underlying183
 a36:=Try.isAgg183
 z36:=Try.sizeOf183
 v36:=Try.zeroValue183
 t41:=Try.underlying188
 a41:=Try.isAgg188
 z41:=Try.sizeOf188
 v41:=Try.zeroValue188
 t44:=Try.underlying191
 a44:=Try.isAgg191
 z44:=Try.sizeOf191
 v44:=Try.zeroValue191
 t46:=Try.underlying62
 a46:=Try.isAgg62
 z46:=Try.sizeOf62
 v46:=Try.zeroValue62
 t53:=Try.underlying193
 a53:=Try.isAgg193
 z53:=Try.sizeOf193
 v53:=Try.zeroValue193
 t57:=Try.underlying197
 a57:=Try.isAgg197
 z57:=Try.sizeOf197
 v57:=Try.zeroValue197
 t63:=Try.underlying199
 a63:=Try.isAgg199
 z63:=Try.sizeOf199
 v63:=Try.zeroValue199
 t64:=Try.underlying200
 a64:=Try.isAgg200
 z64:=Try.sizeOf200
 v64:=Try.zeroValue200 }
end Go.Proofs
namespace Go.SX
open Go.Proofs Go.Proofs.Try
def nc:PF prog:=PF.sort 175 2 (fun blk off cap zs w h1 h2 h3=>AnyM.slices_Sort_int Try.laysSort blk off cap zs w h1 h2 h3)
end Go.SX
namespace Go.SX
open Go.Proofs Go.Proofs.Try
set_option maxRecDepth 100000
section
variable (x0 x1:Int)(x2:List Int)
def bv:Int:=Option.getD x2[Int.toNat x1]? 0
def cA:Bool:=Int.tmod (bv x1 x2) 3!=2
def dO:List Int:= [IntKind.wrap .i64 (Int.tdiv (bv x1 x2) 3),Int.tmod (IntKind.wrap .i64 (IntKind.wrap .i64 (Int.tdiv (bv x1 x2) 3) + (1:Int))) x0]
def dZ:List Int:=bif cA x1 x2 then [IntKind.wrap .i64 (Int.tdiv (bv x1 x2) 3)]else DF (dO x0 x1 x2)
def ea:Bool:=allT [leI 0 x1,ltI x1 (↑x2.length:Int),ltN x1.toNat x2.length,leI 0 x1,ltI x1 (↑x2.length:Int),ltN x1.toNat x2.length,cA x1 x2||neI x0 0,cA x1 x2||leN (List.length (dO x0 x1 x2)) 4611686018427387903]
end
def kj:List SV→List Entry→Option Out
 | [.one ⟨true,[.val (.int .i64 x0),.ref 0]⟩,.one ⟨false,[.val (.int .i64 x1)]⟩],[.row false 2 (.int .i64) x2]=>some ⟨.one ⟨false,[.ref 1]⟩,[.row false 2 OO x2],[.row true 2 OO (dZ x0 x1 x2)],[ea x0 x1 x2]⟩
 |_,_=>none
def pP:PF prog:=PF.ofG prog (T3z [nc]) [] cf 159 f159 func159 (fun c _=>LOk.nil c) kj (by
 intro vs es r h;unfold kj at h;split at h
 ·cases h;kernel_rfl
 ·cases h)
def uu(n p:Int):List Int:=bif phs p !=2 then [blk p]else DF [blk p,Int.tmod (blk p + 1) n]
theorem MS(a b:Int):DF [a,b]=bif leI a b then [a,b]else [b,a]:=by
 unfold DF
 have hp:=List.mergeSort_perm [a,b] (fun x y=>decide (x≤y))
 have hs:=List.pairwise_mergeSort (le:=fun(x y:Int)=>decide (x≤y)) (fun x y z h1 h2=>by simp at h1 h2 ⊢;omega) (fun x y=>by simp;omega) [a,b]
 generalize hm:List.mergeSort [a,b] (fun x y=>decide (x≤y))=l at hp hs
 have hl:=hp.length_eq
 match l,hl with
 | [x,y],_=>
  simp at hs
  have hx:x∈ [a,b]:=hp.subset (by simp)
  simp at hx
  rcases hx with rfl | rfl
  ·have:=(List.perm_cons x).1 hp
   rw [List.perm_singleton]at this
   simp at this;subst this
   rw [jg hs];rfl
  ·have h2:=hp.trans (List.Perm.swap x a [])
   have:=(List.perm_cons x).1 h2
   rw [List.perm_singleton]at this
   simp at this;subst this
   cases hq:leI y x with
   |false=>rfl
   |true=>
    have:=yP.1 hq;have:x=y:=by omega
    subst this;rfl
def atI(xs:List Int)(t:Int):Int:=xs[t.toNat]?.getD 0
theorem NF(n t:Int)(ps:List Int)(h:xS n ps t=true):dZ n t ps=uu n (atI ps t)∧ea n t ps=true:=by
 obtain⟨e1,e2,e3,e4,e5,e6,e7,e8⟩:=Ee h
 obtain⟨hT,ht⟩:=sr.1 h
 obtain⟨h1,h2,h3⟩:=ij.1 hT
 have h4:=ub.1 ht
 have dw:t.toNat < ps.length:=by omega
 have hg:ps[t.toNat]?.getD 0=ps[t.toNat]:=by rw [List.getElem?_eq_getElem dw];rfl
 have h5:=h3 _ (List.getElem_mem dw)
 rw [← hg]at h5
 have f1:IntKind.i64.wrap (Int.tdiv (ps[t.toNat]?.getD 0) 3)=blk (ps[t.toNat]?.getD 0):=by
  rw [Int.tdiv_eq_ediv_of_nonneg h5.1,DN h5.1,bZ (by omega) (by omega)]
 have f2:IntKind.i64.wrap (blk (ps[t.toNat]?.getD 0) + 1)=blk (ps[t.toNat]?.getD 0) + 1:=by rw [DN h5.1,bZ (by omega) (by omega)]
 have f3:neI n 0=true:=HF (by omega)
 refine⟨?_,?_⟩
 ·simp only [bv,cA,dO,dZ,ea,f1,f2,uu,phs,atI]
 ·simp [bv,cA,dO,dZ,ea,e4,e5,e6,f3,allT]
def km:List SV→List Entry→Option Out
 | [.one ⟨true,[.val (.int .i64 x0),.ref 0]⟩,.one ⟨false,[.val (.int .i64 x1)]⟩],[.row false 2 (.int .i64) x2]=>some ⟨.one ⟨false,[.ref 1]⟩,[.row false 2 OO x2],[.row true 2 OO (uu x0 (atI x2 x1))],[xS x0 x2 x1]⟩
 |_,_=>none
def aG:PF prog:=PF.alt pP km (by
 intro args es o h bh;unfold km at h;split at h
 ·rename_i x0 x1 x2
  cases h
  have bh:=gR bh
  have hh:=NF x0 x1 x2 bh
  obtain⟨e0,en⟩:=hh
  exact jT rfl (gA en) rfl rfl (by simp only [e0] <;> rfl)
 ·cases h)
theorem Le{n p:Int}(h:okP n p=true):(∀ u∈uu n p,0≤u∧u < n)∧(uu n p).length≤2∧ ∀ b:Nat,(uu n p).count (b:Int)=bif ya n p (b:Int)then 1 else 0:=by
 obtain⟨⟨h1,h2⟩,h3,h4⟩:=FD.1 h
 have hb:=DN h3
 have hm:Int.tmod (blk p + 1) n=(blk p + 1) % n:=Int.tmod_eq_emod_of_nonneg (by rw [hb];omega)
 have hb0:0≤blk p∧blk p < n:=by rw [hb];omega
 have hm0:=Int.emod_nonneg (blk p + 1) (show n≠0 by omega)
 have hm1:=Int.emod_lt_of_pos (blk p + 1) (show 0 < n by omega)
 have sZ:(blk p + 1) % n≠blk p:=by
  by_cases hq:blk p + 1=n
  ·rw [hq,Int.emod_self];omega
  ·rw [Int.emod_eq_of_lt (by omega) (by omega)];omega
 unfold uu ya
 rw [hm,MS]
 generalize (blk p + 1) % n=q at *
 generalize blk p=a at *
 cases hp:phs p==2 with
 |false=>
  simp only [bne,hp,Bool.not_false,cond_true,Bool.false_and,Bool.or_false]
  refine⟨fun u hu=>by simp at hu;omega,by simp,fun b=> ?_⟩
  simp only [List.count_cons,List.count_nil]
  cases hab:a==(b:Int) <;> simp [hab]
 |true=>
  simp only [bne,hp,Bool.not_true,cond_false,Bool.true_and]
  have im: ∀ b:Nat,(if (a==(b:Int))=true then 1 else 0) + (if (q==(b:Int))=true then 1 else 0)=(bif a==(b:Int)||q==(b:Int)then 1 else 0:Nat):=by
   intro b
   cases hab:a==(b:Int) <;> cases hqb:q==(b:Int) <;> simp
   have:=eq_of_beq hab;have:=eq_of_beq hqb;omega
  cases leI a q with
  |true=>
   refine⟨fun u hu=>by simp at hu;omega,by simp,fun b=> ?_⟩
   rw [← im b];simp [List.count_cons];omega
  |false=>
   refine⟨fun u hu=>by simp at hu;omega,by simp,fun b=> ?_⟩
   rw [← im b];simp [List.count_cons]
abbrev aq:=Int×Int×List Int×List Int
section
variable (y0 y1:Int)(y2 y3:List Int)
def ay:Int:=Option.getD y2[Int.toNat y0]? 0
def bB:Bool:=ltI y0 y1
def bC:Bool:=leI 0 y0
def bD:Bool:=ltI y0 (↑y2.length:Int)
def bE:Bool:=ltN y0.toNat y2.length
def ba:Bool:=leI 0 (ay y0 y2)
def bc:Bool:=ltI (ay y0 y2) (↑y3.length:Int)
def bd:Bool:=ltN (Int.toNat (ay y0 y2)) y3.length
def bF:Int:=IntKind.wrap .i64 (y0 + (1:Int))
def bG:List Int:=List.set y3 (Int.toNat (ay y0 y2)) (IntKind.wrap .i64 (Option.getD y3[Int.toNat (ay y0 y2)]? 0 + (1:Int)))
end
def nK:aq→List (Nat×SV)
 |(y0,y1,_,_)=> [(20,(.one ⟨false,[.val (.int .i64 y0)]⟩)),(19,(.one ⟨false,[.val (.int .i64 y1)]⟩)),(18,(.one ⟨false,[.ref 0]⟩)),(3,(.one ⟨false,[.ref 1]⟩))]
def nJ:aq→List (Nat×Entry)
 |(_,_,y2,y3)=> [(0,(.row true 2 OO y2)),(1,(.row true 2 OO y3))]
def nM:Nat→aq→List (Nat×SV)
 |_,(_,_,_,_)=> []
def nL:Nat→aq→List (Nat×Entry)
 |_,(_,_,y2,y3)=> [(0,(.row true 2 OO y2)),(1,(.row true 2 OO y3))]
def bA:aq→LT aq
 |(y0,y1,y2,y3)=> .ite (bB y0 y1) (.need [bC y0,bD y0 y2,bE y0 y2] (.need [ba y0 y2,bc y0 y2 y3,bd y0 y2 y3,ba y0 y2,bc y0 y2 y3,bd y0 y2 y3] (.nrm ((bF y0),y1,y2,(bG y0 y2 y3)) [(0,0),(1,1)]))) (.ext 0 [(0,0),(1,1)])
def ey(s:St):Option aq:=
 (match s.look 20 with
 |some ⟨none,.one ⟨false,[.val (.int .i64 y0)]⟩⟩=>
 (match s.look 19 with
 |some ⟨none,.one ⟨false,[.val (.int .i64 y1)]⟩⟩=>
 (match s.look 18 with
 |some ⟨none,.one ⟨false,[.ref 384]⟩⟩=>
 (match s.look 3 with
 |some ⟨none,.one ⟨false,[.ref 1]⟩⟩=>
 (match s.ent 384 with
 |some (.row true 2 (.int .i64) y2)=>
 (match s.ent 1 with
 |some (.row true 2 (.int .i64) y3)=>
 some (y0,y1,y2,y3)
 |_=>none)
 |_=>none)
 |_=>none)
 |_=>none)
 |_=>none)
 |_=>none)
def ae:Lp aq where
 h:=⟨[21,22,23,6,24,25,26,27,28,29,30,20],[0,1],[],[]⟩
 JL:=nK
 JE:=nJ
 XL:=nM
 XE:=nL
 q:=fun j=>match j with | _=> .exit 2
 tags:= [0]
 lt:=bA
 fuel:=fun(y0,y1,y2,y3)=>y0.natAbs + y1.natAbs + y2.length + y3.length
 fix:=fun(_,y1,y2,_) (y0,_,_,y3)=>(y0,y1,y2,y3)
 σ:= [(0,384),(1,1)]
 rd:=ey
theorem nb:LoopOk prog (memN [14,15,4,16,17,18,19,20,21,22,23,6,24,25,26,27,28,29,30,31,13]) ae.F (It (cD f132 0) 0):=by
 refine Lp.ok (tbl:= (T3z [aG,br])) (lf:= []) cf ae (by kernel_rfl) (LOk.nil _) (fun _=>rfl) (fun _ _=>rfl) ?_ ?_ ?_ ?_ (fun _=>rfl) ?_
 ·rintro⟨y0,y1,y2,y3⟩;kernel_rfl
 ·rintro⟨y0,y1,y2,y3⟩;kernel_rfl
 ·intro s x h
  have h:ey s=some x:=h
  unfold ey at h
  repeat' split at h
  all_goals cases h
  constructor<;>repeat(first|refine ah (by assumption) rfl ?_|refine ar rfl (by assumption) rfl ?_|exact rfl)
 ·rintro⟨y0,y1,y2,y3⟩;kernel_rfl
 ·rintro⟨y0,y1,y2,y3⟩ z;exact(And.intro rfl trivial)
abbrev ax:=Int×Int×Int×List Int×List Int
section
variable (y0 y1 y2:Int)(y3 y4:List Int)
def bn:Int×Int×List Int×List Int:=((0:Int),(↑(List.length (uu y2 (atI y4 y0))):Int),uu y2 (atI y4 y0),y3)
def cj:Bool:=ltI y0 y1
def ck:Bool:=xS y2 y4 y0
def cm:Bool:=Lp.fin ae (bn y0 y2 y3 y4)
def cn:Int:=IntKind.wrap .i64 (y0 + (1:Int))
def cp:List Int:=(Lp.res ae (bn y0 y2 y3 y4)).2.2.2.2
end
def oG:ax→List (Nat×SV)
 |(y0,y1,_,_,_)=> [(13,(.one ⟨false,[.val (.int .i64 y0)]⟩)),(12,(.one ⟨false,[.val (.int .i64 y1)]⟩)),(1,(.one ⟨false,[.ptr 0 0]⟩)),(3,(.one ⟨false,[.ref 1]⟩))]
def oF:ax→List (Nat×Entry)
 |(_,_,y2,y3,y4)=> [(0,(.box 26 [.val (.int .i64 y2),.ref 2])),(1,(.row true 2 OO y3)),(2,(.row false 2 OO y4))]
def oJ:Nat→ax→List (Nat×SV)
 |_,(_,_,_,_,_)=> []
def oI:Nat→ax→List (Nat×Entry)
 |_,(_,_,y2,y3,y4)=> [(0,(.box 26 [.val (.int .i64 y2),.ref 2])),(1,(.row true 2 OO y3)),(2,(.row false 2 OO y4))]
def bY:ax→LT ax
 |(y0,y1,y2,y3,y4)=> .ite (cj y0 y1) (.need [ck y0 y2 y4] (.need [cm y0 y2 y3 y4] (.nrm ((cn y0),y1,y2,cp y0 y2 y3 y4,y4) [(0,0),(1,1),(2,2)]))) (.ext 0 [(0,0),(1,1),(2,2)])
def fg(s:St):Option ax:=
 (match s.look 13 with
 |some ⟨none,.one ⟨false,[.val (.int .i64 y0)]⟩⟩=>
 (match s.look 12 with
 |some ⟨none,.one ⟨false,[.val (.int .i64 y1)]⟩⟩=>
 (match s.look 1 with
 |some ⟨none,.one ⟨false,[.ptr 128 0]⟩⟩=>
 (match s.look 3 with
 |some ⟨none,.one ⟨false,[.ref 384]⟩⟩=>
 (match s.ent 128 with
 |some (.box 26 [.val (.int .i64 y2),.ref 0])=>
 (match s.ent 384 with
 |some (.row true 2 (.int .i64) y3)=>
 (match s.ent 0 with
 |some (.row false 2 (.int .i64) y4)=>
 some (y0,y1,y2,y3,y4)
 |_=>none)
 |_=>none)
 |_=>none)
 |_=>none)
 |_=>none)
 |_=>none)
 |_=>none)
def al:Lp ax where
 h:=⟨[14,15,4,16,17,18,19,20,21,22,23,6,24,25,26,27,28,29,30,31,13],[0,1,2],[],[]⟩
 JL:=oG
 JE:=oF
 XL:=oJ
 XE:=oI
 q:=fun j=>match j with | _=> .exit 0
 tags:= [0]
 lt:=bY
 fuel:=fun(y0,y1,y2,y3,y4)=>y0.natAbs + y1.natAbs + y2.natAbs + y3.length + y4.length
 fix:=fun(_,y1,y2,_,y4) (y0,_,_,y3,_)=>(y0,y1,y2,y3,y4)
 σ:= [(0,128),(1,384),(2,0)]
 rd:=fg
theorem nV:LoopOk prog (fun k=>Nat.blt k Try.f132.ntmps) al.F (cD f132 0):=by
 refine Lp.ok (tbl:= (T3z [aG,br])) (lf:= [ae.F]) cf al (by kernel_rfl) (LOk.allT (l:= [It (cD f132 0) 0]) (by kernel_rfl) (.cons nb (.nil _))) (fun _=>rfl) (fun _ _=>rfl) ?_ ?_ ?_ ?_ (fun _=>rfl) ?_
 ·rintro⟨y0,y1,y2,y3,y4⟩;kernel_rfl
 ·rintro⟨y0,y1,y2,y3,y4⟩;kernel_rfl
 ·intro s x h
  have h:fg s=some x:=h
  unfold fg at h
  repeat' split at h
  all_goals cases h
  constructor<;>repeat(first|refine ah (by assumption) rfl ?_|refine ar rfl (by assumption) rfl ?_|exact rfl)
 ·rintro⟨y0,y1,y2,y3,y4⟩;kernel_rfl
 ·rintro⟨y0,y1,y2,y3,y4⟩ z;exact(And.intro rfl trivial)
section
variable (x0:Int)(x1:List Int)
def dP:Int×Int×Int×List Int×List Int:=((0:Int),fU x1,x0,List.replicate x0.toNat (0:Int),x1)
def gg:List Int:=((Lp.res al (dP x0 x1)).2.2.2.2).1
def gh:Bool:=allT [leI 0 x0,leI x0 x0,leI ((↑(8:Nat):Int) * x0) 281474976710656,leI x0 9223372036854775807,Lp.fin al (dP x0 x1)]
end
def kk:List SV→List Entry→Option Out
 | [.one ⟨true,[.val (.int .i64 x0),.ref 0]⟩],[.row false 2 (.int .i64) x1]=>some ⟨.one ⟨false,[.ref 1]⟩,[.row false 2 OO x1],[.row true 2 OO (gg x0 x1)],[gh x0 x1]⟩
 |_,_=>none
def pQ:PF prog:=PF.ofG prog (T3z [aG,br]) [al.F] cf 132 f132 func132 (LOk.fnT (l:= [cD f132 0]) (by kernel_rfl) (.cons nV (.nil _))) kk (by
 intro vs es r h;unfold kk at h;split at h
 ·cases h;kernel_rfl
 ·cases h)
def jb(n:Int)(ps:List Int):List Int:=(List.range n.toNat).map fun(b:Nat)=>(va n ps (b:Int):Int)
theorem wI(n:Int)(ps:List Int):(jb n ps).length=n.toNat:=by simp [jb]
def aO(b:Int):(List Int)→Nat ⊕ (List Int)
 |y3=>(.inr (List.set y3 (Int.toNat b) (IntKind.wrap .i64 (Option.getD y3[Int.toNat (b)]? 0 + (1:Int)))))
def aB(y2:List Int)(i:Nat):(List Int)→aq
 |y3=>((i:Int),(↑y2.length:Int),y2,y3)
def ex:aq→List Int
 |(_,_,_,y3)=>y3
theorem nX(y2 y3:List Int)(hn:y2.length≤9223372036854775807)(hU: ∀ u∈y2,0≤u∧u < (y3.length:Int)):
  ae.fin ((0:Int),(↑y2.length:Int),y2,y3)=true∧ae.res ((0:Int),(↑y2.length:Int),y2,y3)=((aN (aO) 0 y2 0 y3).1,(aB y2) (aN (aO) 0 y2 0 y3).2.1 (aN (aO) 0 y2 0 y3).2.2):=by
 have im:=ae.along (aB y2) ex (aO) 0 (fun _ a=>a.length=y3.length) y2 y3 rfl (by simp only [ae,aB];omega) (fun i b a hb hI=> ?_) (fun a hI=> ?_)
 ·exact im
 ·obtain y3:=a
  have dw:=(List.getElem?_eq_some_iff.1 hb).1
  have iC: ∀ d,Option.getD y2[i]? d=b:=fun d=>by rw [hb];rfl
  have hw:=uD dw hn
  have gq:ltI (i:Int) (y2.length:Int)=true:=io (by omega)
  have rZ:leI (0:Int) (i:Int)=true:=jg (by omega)
  have lh:ltN i y2.length=true:=kG dw
  refine⟨?_,?_,?_,?_⟩
  ·have hu:=hU b (List.mem_of_getElem? hb)
   have e1:leI 0 b=true:=jg hu.1
   have e2:ltI b (a.length:Int)=true:=io (by omega)
   have e3:ltN b.toNat a.length=true:=kG (by omega)
   simp only [ay,bB,bC,bD,bE,ba,bc,bd,bF,bG,bA,ae,LT.nds,allT,aB,Int.toNat_natCast,gq,rZ,lh,iC,e1,e2,e3,cond_true]
  ·simp [ay,bB,bC,bD,bE,ba,bc,bd,bF,bG,bA,ae,LT.each,aB,ex,hw]
  ·simp only [ay,bB,bC,bD,bE,ba,bc,bd,bF,bG,bA,ae,LT.fn,aB,ex,aO,Int.toNat_natCast,gq,rZ,lh,iC,cond_true,Bool.cond_self]
  ·intro a' hf;simp only [aO,Sum.inr.injEq]at hf;subst hf;simpa using hI
 ·obtain y3:=a
  simp [ay,bB,bC,bD,bE,ba,bc,bd,bF,bG,bA,ae,LT.out,aB]
def Nh(a:List Int)(u:Int):List Int:=a.set u.toNat (IntKind.wrap .i64 (Option.getD a[u.toNat]? 0 + 1))
theorem Oe(N:Nat): ∀ (us:List Int) (c:Nat→Int),(∀ u∈us,0≤u∧u < (N:Int))→(∀ b,0≤c b∧c b + us.length≤1000000)→
  us.foldl Nh ((List.range N).map c)=(List.range N).map fun(b:Nat)=>c b + (us.count (b:Int):Int)
 | [],c,_,_=>by simp
 |u::us,c,hu,hc=>by
  have hu0:=hu u (by simp)
  have dw:u.toNat < N:=by omega
  have h1:Nh ((List.range N).map c) u=(List.range N).map fun(b:Nat)=>if (b:Int)=u then c b + 1 else c b:=by
   unfold Nh
   have hg:Option.getD ((List.range N).map c)[u.toNat]? 0=c u.toNat:=by simp [List.getElem?_map,List.getElem?_range dw]
   have hcu:=hc u.toNat
   simp only [List.length_cons]at hcu
   rw [hg,bZ (by omega) (by omega)]
   refine List.ext_getElem? fun i=> ?_
   rw [List.getElem?_set]
   by_cases hi:u.toNat=i
   ·rw [if_pos hi,if_pos (by simpa using dw)]
    subst hi
    rw [List.getElem?_map,List.getElem?_range dw,Option.map_some,if_pos (by omega)]
   ·rw [if_neg hi,List.getElem?_map,List.getElem?_map]
    by_cases hiN:i < N
    ·rw [List.getElem?_range hiN,Option.map_some,Option.map_some,if_neg (by omega)]
    ·rw [List.getElem?_eq_none (by simp;omega)];rfl
  rw [List.foldl_cons,h1,Oe N us _ (fun v hv=>hu v (by simp [hv])) (fun b=>by
   have:=hc b
   simp only [List.length_cons]at this
   split <;> omega)]
  refine List.map_congr_left fun b _=> ?_
  rw [List.count_cons]
  by_cases hb:(b:Int)=u
  ·rw [if_pos hb,if_pos (by simp [hb])];omega
  ·rw [if_neg hb,if_neg (by simp;omega)];omega
theorem Gf{n p:Int}{qs:List Int}(h:okP n p=true)(hq:qs.length≤50):
  ae.fin ((0:Int),((uu n p).length:Int),uu n p,jb n qs)=true∧
   (ae.res ((0:Int),((uu n p).length:Int),uu n p,jb n qs)).2.2.2.2=jb n (qs++ [p]):=by
 obtain⟨hu,hl,hc⟩:=Le h
 have hn:=(FD.1 h).1
 obtain⟨w1,w2⟩:=nX (uu n p) (jb n qs) (by omega) (fun u hm=>by rw [wI];have:=hu u hm;omega)
 refine⟨w1,?_⟩
 rw [w2,oL (f:=aO) (g:=Nh) (fun b a=>rfl)]
 simp only [aB]
 unfold jb
 rw [Oe n.toNat (uu n p) _ (fun u hm=>by have:=hu u hm;omega) (fun b=>by
  have:va n qs (b:Int)≤qs.length:=List.countP_le_length
  omega)]
 refine List.map_congr_left fun b _=> ?_
 rw [hc b]
 simp only [va,List.countP_append,List.countP_cons,List.countP_nil]
 cases ya n p (b:Int) <;> simp
theorem HS{ps:List Int}{b:Nat}(h:b < ps.length):ps.take (b + 1)=ps.take b++ [ps[b]?.getD 0]:=by
 rw [List.take_add_one,List.getElem?_eq_getElem h];rfl
def ap(y2:Int)(y4:List Int)(b:Nat):(List Int)→Nat ⊕ (List Int)
 |y3=>(.inr ((Lp.res ae ((0:Int),(↑(List.length (uu y2 (atI y4 (↑b:Int)))):Int),uu y2 (atI y4 (↑b:Int)),y3)).2.2.2.2))
def aI(y1 y2:Int)(y4:List Int)(i:Nat):(List Int)→ax
 |y3=>((i:Int),y1,y2,y3,y4)
def ff:ax→List Int
 |(_,_,_,y3,_)=>y3
theorem oX(y1 y2:Int)(y4 y3:List Int)(hn:y1≤9223372036854775807)(hl:y1=(y4.length:Int))(hT:isT y2 y4=true)(h3:y3=jb y2 []):
  al.fin ((0:Int),y1,y2,y3,y4)=true∧al.res ((0:Int),y1,y2,y3,y4)=((aN (ap y2 y4) 0 (List.range y1.toNat) 0 y3).1,(aI y1 y2 y4) (aN (ap y2 y4) 0 (List.range y1.toNat) 0 y3).2.1 (aN (ap y2 y4) 0 (List.range y1.toNat) 0 y3).2.2):=by
 have im:=al.along (aI y1 y2 y4) ff (ap y2 y4) 0 (fun i a=>a=jb y2 (y4.take i)) (List.range y1.toNat) y3 (by subst h3;simp) (by simp only [al,aI,List.length_range];omega) (fun i b a hb hI=> ?_) (fun a hI=> ?_)
 ·exact im
 ·obtain y3:=a
  obtain⟨rfl,dw⟩:=lS hb
  have hw:IntKind.i64.wrap ((b:Int) + 1)=((b + 1:Nat):Int):=by rw [bZ (by omega) (by omega)];omega
  have gq:ltI (b:Int) y1=true:=io (by omega)
  have rZ:leI (0:Int) (b:Int)=true:=jg (by omega)
  refine⟨?_,?_,?_,?_⟩
  ·have h4:=(ij.1 hT).2.1
   have Jl:b < y4.length:=by omega
   have hm:xS y2 y4 (b:Int)=true:=sr.2 ⟨hT,ub.2 (by omega)⟩
   have hp:okP y2 (atI y4 (b:Int))=true:=FA hT (by unfold atI;rw [Int.toNat_natCast,List.getElem?_eq_getElem Jl];exact List.getElem_mem Jl)
   obtain⟨i1,i2⟩:=Gf (qs:=y4.take b) hp (by rw [List.length_take];omega)
   subst hI
   simp only [bn,cj,ck,cm,cn,cp,bY,al,LT.nds,allT,aI,gq,hm,i1,cond_true]
  ·simp [bn,cj,ck,cm,cn,cp,bY,al,LT.each,aI,ff,hw]
  ·simp only [bn,cj,ck,cm,cn,cp,bY,al,LT.fn,aI,ff,ap,Int.toNat_natCast,gq,rZ,cond_true,Bool.cond_self]
  ·intro a' hf
   have h4:=(ij.1 hT).2.1
   have Jl:b < y4.length:=by omega
   have hp:okP y2 (atI y4 (b:Int))=true:=FA hT (by unfold atI;rw [Int.toNat_natCast,List.getElem?_eq_getElem Jl];exact List.getElem_mem Jl)
   obtain⟨i1,i2⟩:=Gf (qs:=y4.take b) hp (by rw [List.length_take];omega)
   subst hI
   simp only [ap,i2,Sum.inr.injEq]at hf
   rw [← hf,HS Jl]
   rfl
 ·obtain y3:=a
  simp only [bn,cj,ck,cm,cn,cp,bY,al,LT.out,aI,List.length_range,Be,Do,cond_false]
theorem NG(n:Int)(ps:List Int): ∀ (m:Nat),m≤ps.length→(∀ b,b < m→ ∀ a,a=jb n (ps.take b)→ap n ps b a= .inr (jb n (ps.take (b + 1))))→
  (aN (ap n ps) 0 (List.range m) 0 (jb n [])).2.2=jb n (ps.take m):=by
 have im: ∀ (k i s:Nat),(∀ b,b < s + k→ ∀ a,a=jb n (ps.take b)→ap n ps b a= .inr (jb n (ps.take (b + 1))))→
   (aN (ap n ps) 0 ((List.range k).map (· + s)) i (jb n (ps.take s))).2.2=jb n (ps.take (s + k)):=by
  intro k
  induction k with
  |zero=>intro i s _;rfl
  |succ k ih=>
   intro i s hb
   rw [List.range_succ_eq_map,List.map_cons,List.map_map]
   simp only [aN,Nat.zero_add]
   rw [hb s (by omega) _ rfl]
   have:=ih (i + 1) (s + 1) (fun b dw=>hb b (by omega))
   have he:List.map ((fun x=>x + s) ∘ Nat.succ) (List.range k)=(List.range k).map (· + (s + 1)):=List.map_congr_left fun x _=>by simp only [Function.comp];omega
   rw [he]
   show (aN (ap n ps) 0 ((List.range k).map (· + (s + 1))) (i + 1) (jb n (ps.take (s + 1)))).2.2=_
   rw [this]
   congr 2;omega
 intro m hm hb
 have:=im m 0 0 (by simpa using hb)
 simpa using this
theorem MT(n:Int)(ps:List Int)(hT:isT n ps=true):gg n ps=jb n ps∧gh n ps=true:=by
 have h1:=(ij.1 hT).1
 have h4:=(ij.1 hT).2.1
 have hr:List.replicate (Int.toNat n) (0:Int)=jb n []:=by
  unfold jb
  refine List.ext_getElem (by simp) fun i h1 h2=>by simp [va]
 obtain⟨w1,w2⟩:=oX (ps.length:Int) n ps (jb n []) (by omega) rfl hT rfl
 have hw:=NG n ps ps.length (Nat.le_refl _) (fun b hb a ha=>by
  have hp:okP n (atI ps (b:Int))=true:=FA hT (by unfold atI;rw [Int.toNat_natCast,List.getElem?_eq_getElem hb];exact List.getElem_mem hb)
  obtain⟨i1,i2⟩:=Gf (qs:=ps.take b) hp (by rw [List.length_take];omega)
  subst ha
  simp only [ap,i2,HS hb]
  rfl)
 have e1:(ps.length:Int).toNat=ps.length:=by omega
 rw [e1]at w2
 refine⟨?_,?_⟩
 ·simp only [gg,dP,fU,hr,w2,aI,hw,List.take_length]
 ·simp only [gh,dP,fU,hr,w1,allT]
  simp;omega
def kn:List SV→List Entry→Option Out
 | [.one ⟨true,[.val (.int .i64 x0),.ref 0]⟩],[.row false 2 (.int .i64) x1]=>some ⟨.one ⟨false,[.ref 1]⟩,[.row false 2 OO x1],[.row true 2 OO (jb x0 x1)],[isT x0 x1]⟩
 |_,_=>none
def aH:PF prog:=PF.alt pQ kn (by
 intro args es o h bh;unfold kn at h;split at h
 ·rename_i x0 x1
  cases h
  have bh:=gR bh
  have hh:=MT x0 x1 bh
  obtain⟨e0,en⟩:=hh
  exact jT rfl (gA en) rfl rfl (by simp only [e0] <;> rfl)
 ·cases h)
def lc(x0:Int)(x2:List Int):Bool:= !ro x2 x0
def iF(x2:List Int):Bool:=allT [leN x2.length (9223372036854775807:Nat)]
def rN:List SV→List Entry→Option Out
 | [.one ⟨false,[.val (.int .i64 x0)]⟩,.one ⟨false,[.ptr 0 0]⟩],[.box 26 [.val (.int .i64 x1),.ref 1],.row false 2 (.int .i64) x2]=>some ⟨.one ⟨false,[.val (.bool (lc x0 x2))]⟩,[.box 26 [.val (.int .i64 x1),.ref 1],.row false 2 OO x2],[],[iF x2]⟩
 |_,_=>none
def gn:PF prog:=PF.ofG prog (T3z [fe]) [] cf 133 f133 func133 (fun c _=>LOk.nil c) rN (by
 intro vs es r h;unfold rN at h;split at h
 ·cases h;kernel_rfl
 ·cases h)
abbrev aA:=Int×Int×Int×List Int×List Int
section
variable (y0 y1:Int)(y3 y4:List Int)
def cR:Bool:=ltI y0 y1
def cS:Bool:=leI 0 y0
def cT:Bool:=ltI y0 (↑y3.length:Int)
def cU:Bool:=ltN y0.toNat y3.length
def cV:Bool:=iF y4
def cW:Bool:=lc (Option.getD y3[Int.toNat y0]? 0) y4
def cX:Int:=IntKind.wrap .i64 (y0 + (1:Int))
end
def pI:aA→List (Nat×SV)
 |(y0,y1,_,_,_)=> [(8,(.one ⟨false,[.val (.int .i64 y0)]⟩)),(7,(.one ⟨false,[.val (.int .i64 y1)]⟩)),(1,(.one ⟨false,[.clo 133 [0]]⟩)),(0,(.one ⟨false,[.ref 1]⟩))]
def pH:aA→List (Nat×Entry)
 |(_,_,y2,y3,y4)=> [(0,(.box 26 [.val (.int .i64 y2),.ref 2])),(1,(.row false 2 OO y3)),(2,(.row false 2 OO y4))]
def pK:Nat→aA→List (Nat×SV)
 |0,(y0,_,_,_,_)=> [(4,(.one ⟨false,[.val (.int .i64 y0)]⟩))]
 |_,(_,_,_,_,_)=> []
def pJ:Nat→aA→List (Nat×Entry)
 |0,(_,_,y2,y3,y4)=> [(0,(.box 26 [.val (.int .i64 y2),.ref 2])),(1,(.row false 2 OO y3)),(2,(.row false 2 OO y4))]
 |_,(_,_,y2,y3,y4)=> [(0,(.box 26 [.val (.int .i64 y2),.ref 2])),(1,(.row false 2 OO y3)),(2,(.row false 2 OO y4))]
def cF:aA→LT aA
 |(y0,y1,y2,y3,y4)=> .ite (cR y0 y1) (.need [cS y0,cT y0 y3,cU y0 y3,cV y4] (.ite (cW y0 y3 y4) (.ext 0 [(0,0),(1,1),(2,2)]) (.nrm ((cX y0),y1,y2,y3,y4) [(0,0),(1,1),(2,2)]))) (.ext 1 [(0,0),(1,1),(2,2)])
def gj(s:St):Option aA:=
 (match s.look 8 with
 |some ⟨none,.one ⟨false,[.val (.int .i64 y0)]⟩⟩=>
 (match s.look 7 with
 |some ⟨none,.one ⟨false,[.val (.int .i64 y1)]⟩⟩=>
 (match s.look 1 with
 |some ⟨none,.one ⟨false,[.clo 133 [1]]⟩⟩=>
 (match s.look 0 with
 |some ⟨none,.one ⟨false,[.ref 0]⟩⟩=>
 (match s.ent 1 with
 |some (.box 26 [.val (.int .i64 y2),.ref 2])=>
 (match s.ent 0 with
 |some (.row false 2 (.int .i64) y3)=>
 (match s.ent 2 with
 |some (.row false 2 (.int .i64) y4)=>
 some (y0,y1,y2,y3,y4)
 |_=>none)
 |_=>none)
 |_=>none)
 |_=>none)
 |_=>none)
 |_=>none)
 |_=>none)
def ak:Lp aA where
 h:=⟨[9,10,5,11,12,13,14,15,16,17,4,18,8],[0,1,2],[],[]⟩
 JL:=pI
 JE:=pH
 XL:=pK
 XE:=pJ
 q:=fun j=>match j with | 0=> .ret | _=> .exit 0
 tags:= [0,1]
 lt:=cF
 fuel:=fun(y0,y1,y2,y3,y4)=>y0.natAbs + y1.natAbs + y2.natAbs + y3.length + y4.length
 fix:=fun(_,y1,y2,y3,y4) (y0,_,_,_,_)=>(y0,y1,y2,y3,y4)
 σ:= [(0,1),(1,0),(2,2)]
 rd:=gj
theorem oY:LoopOk prog (fun k=>Nat.blt k Try.f135.ntmps) ak.F (cD f135 0):=by
 refine Lp.ok (tbl:= (T3z [gn])) (lf:= []) cf ak (by kernel_rfl) (LOk.nil _) (fun _=>rfl) (fun j _=>by unfold ak;match j with | 0=>rfl | _ + 1=>rfl) ?_ ?_ ?_ ?_ (fun _=>rfl) ?_
 ·rintro⟨y0,y1,y2,y3,y4⟩;kernel_rfl
 ·rintro⟨y0,y1,y2,y3,y4⟩;kernel_rfl
 ·intro s x h
  have h:gj s=some x:=h
  unfold gj at h
  repeat' split at h
  all_goals cases h
  constructor<;>repeat(first|refine ah (by assumption) rfl ?_|refine ar rfl (by assumption) rfl ?_|exact rfl)
 ·rintro⟨y0,y1,y2,y3,y4⟩;kernel_rfl
 ·rintro⟨y0,y1,y2,y3,y4⟩ z;exact(And.intro (And.intro trivial rfl) trivial)
section
variable (x0:List Int)(x1:Int)(x2:List Int)
def dq:Int×Int×Int×List Int×List Int:=((0:Int),(↑x0.length:Int),x1,x0,x2)
def eR:Bool:=Nat.beq ((Lp.res ak (dq x0 x1 x2)).1) 0
def eY:Int:=bif eR x0 x1 x2 then ((Lp.res ak (dq x0 x1 x2)).2).1else(-1:Int)
def eZ:Int:=bif eR x0 x1 x2 then x1 else x1
def fa:Bool:=allT [Lp.fin ak (dq x0 x1 x2)]
end
def lO:List SV→List Entry→Option Out
 | [.one ⟨false,[.ref 0]⟩,.one ⟨false,[.clo 133 [1]]⟩],[.row false 2 (.int .i64) x0,.box 26 [.val (.int .i64 x1),.ref 2],.row false 2 (.int .i64) x2]=>some ⟨.one ⟨false,[.val (.int .i64 (eY x0 x1 x2))]⟩,[.row false 2 OO x0,.box 26 [.val (.int .i64 (eZ x0 x1 x2)),.ref 2],.row false 2 OO x2],[],[fa x0 x1 x2]⟩
 |_,_=>none
def ii:PF prog:=PF.ofG prog (T3z [gn]) [ak.F] cf 135 f135 func135 (LOk.fnT (l:= [cD f135 0]) (by kernel_rfl) (.cons oY (.nil _))) lO (by
 intro vs es r h;unfold lO at h;split at h
 ·cases h;kernel_rfl
 ·cases h)
section
variable (x0:List Int)(x1:Int)(x2:List Int)
def cP:Bool:=leI 0 (eY x0 x1 x2)
def gD:Int:=eZ x0 x1 x2
def cQ:Bool:=allT [fa x0 x1 x2]
end
def kt:List SV→List Entry→Option Out
 | [.one ⟨false,[.ref 0]⟩,.one ⟨false,[.clo 133 [1]]⟩],[.row false 2 (.int .i64) x0,.box 26 [.val (.int .i64 x1),.ref 2],.row false 2 (.int .i64) x2]=>some ⟨.one ⟨false,[.val (.bool (cP x0 x1 x2))]⟩,[.row false 2 OO x0,.box 26 [.val (.int .i64 (gD x0 x1 x2)),.ref 2],.row false 2 OO x2],[],[cQ x0 x1 x2]⟩
 |_,_=>none
def gC:PF prog:=PF.ofG prog (T3z [ii]) [] cf 99 f99 func99 (fun c _=>LOk.nil c) kt (by
 intro vs es r h;unfold kt at h;split at h
 ·cases h;kernel_rfl
 ·cases h)
def tg(x0:Int)(x1 x2:List Int):Int:=bif !isT x0 x1 then(1:Int)else bif ltI 200 (↑x2.length:Int)then(3:Int)else bif cP x2 x0 x1 then(2:Int)else(0:Int)
def th(x0:Int)(x1 x2:List Int):Bool:=allT [!isT x0 x1||(ltI 200 (↑x2.length:Int)||cQ x2 x0 x1)]
def wN:List SV→List Entry→Option Out
 | [.one ⟨true,[.val (.int .i64 x0),.ref 0]⟩,.one ⟨false,[.ref 1]⟩],[.row false 2 (.int .i64) x1,.row false 2 (.int .i64) x2]=>some ⟨.one ⟨false,[.val (.int .i64 (tg x0 x1 x2))]⟩,[.row false 2 OO x1,.row false 2 OO x2],[],[th x0 x1 x2]⟩
 |_,_=>none
def Em:PF prog:=PF.ofG prog (T3z [tw,gC]) [] cf 94 f94 func94 (fun c _=>LOk.nil c) wN (by
 intro vs es r h;unfold wN at h;split at h
 ·cases h;kernel_rfl
 ·cases h)
def bN(y4:List Int)(b:Int):(Unit)→Nat ⊕ (Unit)
 |_=>(bif(lc b y4)then(.inl 0)else(.inr ()))
def aR(y2:Int)(y3 y4:List Int)(i:Nat):(Unit)→aA
 |_=>((i:Int),(↑y3.length:Int),y2,y3,y4)
def gi:aA→Unit
 |(_,_,_,_,_)=>()
theorem qx(y2:Int)(y3 y4:List Int) (hn:y3.length≤9223372036854775807) (h4:y4.length≤9223372036854775807):
  ak.fin ((0:Int),(↑y3.length:Int),y2,y3,y4)=true∧ak.res ((0:Int),(↑y3.length:Int),y2,y3,y4)=((aN (bN y4) 1 y3 0 ()).1,(aR y2 y3 y4) (aN (bN y4) 1 y3 0 ()).2.1 (aN (bN y4) 1 y3 0 ()).2.2):=by
 have im:=ak.along (aR y2 y3 y4) gi (bN y4) 1 (fun _ _=>True) y3 () (by trivial) (by simp only [ak,aR];omega) (fun i b a hb hI=> ?_) (fun a hI=> ?_)
 ·exact im
 ·obtain⟨⟩:=a
  have dw:=(List.getElem?_eq_some_iff.1 hb).1
  have iC: ∀ d,Option.getD y3[i]? d=b:=fun d=>by rw [hb];rfl
  have hw:=uD dw hn
  have gq:ltI (i:Int) (y3.length:Int)=true:=io (by omega)
  have rZ:leI (0:Int) (i:Int)=true:=jg (by omega)
  have lh:ltN i y3.length=true:=kG dw
  refine⟨?_,?_,?_,?_⟩
  ·simp [cR,cS,cT,cU,cV,cW,cX,cF,ak,LT.nds,allT,aR,gq,rZ,lh,iC,iF,h4]
  ·simp [cR,cS,cT,cU,cV,cW,cX,cF,ak,LT.each,aR,gi,hw,iF,h4]
  ·simp only [cR,cS,cT,cU,cV,cW,cX,cF,ak,LT.fn,aR,gi,bN,Int.toNat_natCast,gq,rZ,lh,iC,cond_true,Bool.cond_self,iF,h4]
  ·exact fun _ _=>trivial
 ·obtain⟨⟩:=a
  simp [cR,cS,cT,cU,cV,cW,cX,cF,ak,LT.out,aR]
def tu(n:Int)(ps ts:List Int):Int:=bif isT n ps then(bif leN ts.length 200 then(bif ts.all (ro ps)then 0 else 2)else 3)else 1
theorem IA(n:Int)(ps ts:List Int):tg n ps ts=tu n ps ts∧th n ps ts=true:=by
 simp only [tg,th,tu,Ln]
 cases hT:isT n ps with
 |false=>simp [allT]
 |true=>
  cases hl:leN ts.length 200 with
  |false=>simp [allT]
  |true=>
   have h4:=(ij.1 hT).2.1
   have hl':=jP.1 hl
   obtain⟨w1,w2⟩:=qx n ts ps (by omega) (by omega)
   rw [pf (P:=fun t=> !ro ps t) (j:=0) (fun t=>by simp only [bN,lc])]at w2
   have e5:(ts.any fun t=> !ro ps t)= !ts.all (ro ps):=by simp [List.all_eq_not_any_not]
   rw [e5]at w2
   have e1:cP ts n ps= !ts.all (ro ps):=by
    simp only [cP,gD,cQ,dq,eR,eY,eZ,fa,w2,aR]
    cases ts.all (ro ps)with
    |true=>rfl
    |false=>exact jg (Int.natCast_nonneg _)
   have e2:cQ ts n ps=true:=by
    simp only [cP,gD,cQ,dq,eR,eY,eZ,fa,w1,allT,cond_true]
   rw [e1,e2]
   cases ts.all (ro ps) <;> simp [allT]
def xg:List SV→List Entry→Option Out
 | [.one ⟨true,[.val (.int .i64 x0),.ref 0]⟩,.one ⟨false,[.ref 1]⟩],[.row false 2 (.int .i64) x1,.row false 2 (.int .i64) x2]=>some ⟨.one ⟨false,[.val (.int .i64 (tu x0 x1 x2))]⟩,[.row false 2 OO x1,.row false 2 OO x2],[],[]⟩
 |_,_=>none
def bz:PF prog:=PF.alt Em xg (by
 intro args es o h bh;unfold xg at h;split at h
 ·rename_i x0 x1 x2
  cases h
  have hh:=IA x0 x1 x2
  obtain⟨e0,en⟩:=hh
  exact jT rfl (gA en) (by simp only [e0] <;> rfl) rfl rfl
 ·cases h)
def oU(x0:Int)(x1:List (Int×Int×Int)):Int:=IntKind.wrap .i64 (x0 - (↑x1.length:Int))
def jU(x0:Int)(x1:List (Int×Int×Int)):Int:=bif ltI (oU x0 x1) 0 then(-1:Int)else oU x0 x1
def sU:List SV→List Entry→Option Out
 | [.one ⟨false,[.ref 0]⟩,.one ⟨false,[.val (.int .i64 x0)]⟩],[.row false 120 (.pair (.int .i64) (.pair (.int .i64) (.int .i64))) x1]=>some ⟨.one ⟨false,[.val (.int .i64 (jU x0 x1))]⟩,[.row false 120 OL x1],[],[]⟩
 |_,_=>none
def pm:PF prog:=PF.ofG prog [] [] cf 51 f51 func51 (fun c _=>LOk.nil c) sU (by
 intro vs es r h;unfold sU at h;split at h
 ·cases h;kernel_rfl
 ·cases h)
def tI(x0:Int):Bool:=eS x0 2 8
def wT:List SV→List Entry→Option Out
 | [.one ⟨false,[.val (.int .i64 x0)]⟩],[]=>some ⟨.one ⟨false,[.val (.bool (tI x0))]⟩,[],[],[]⟩
 |_,_=>none
def tA:PF prog:=PF.ofG prog [lM] [] cf 160 f160 func160 (fun c _=>LOk.nil c) wT (by
 intro vs es r h;unfold wT at h;split at h
 ·cases h;kernel_rfl
 ·cases h)
abbrev cH:=Int×Int×List (Int×(Int×Int))×Int×Int×Int
section
variable (y0 y1:Int)(y2:List (Int×(Int×Int)))(y3 y4:Int)
def gp:Int×Int×Int:=Option.getD y2[Int.toNat y0]? ((0:Int),(0:Int),(0:Int))
def dX:Bool:=(gp y0 y2).1==y3
def ju:Bool:=ltI y0 y1
def jv:Bool:=leI 0 y0
def jw:Bool:=ltI y0 (↑y2.length:Int)
def jx:Bool:=ltN y0.toNat y2.length
def jy:Bool:= !(dX y0 y2 y3&&true)||leI 0 y0
def jz:Bool:= !(dX y0 y2 y3&&true)||ltI y0 (↑y2.length:Int)
def jA:Bool:= !(dX y0 y2 y3&&true)||ltN y0.toNat y2.length
def jB:Bool:=bif dX y0 y2 y3 then ((gp y0 y2).2).1==y4 else false
def jC:Int:=IntKind.wrap .i64 (y0 + (1:Int))
end
def xa:cH→List (Nat×SV)
 |(y0,y1,_,_,_,_)=> [(7,(.one ⟨false,[.val (.int .i64 y0)]⟩)),(5,(.one ⟨false,[.val (.int .i64 y1)]⟩)),(1,(.one ⟨false,[.ref 0]⟩)),(6,(.one ⟨false,[.ptr 1 0]⟩))]
def wX:cH→List (Nat×Entry)
 |(_,_,y2,y3,y4,y5)=> [(0,(.row false 118 OL y2)),(1,(.box 118 [.val (.int .i64 y3),.val (.int .i64 y4),.val (.int .i64 y5)]))]
def xz:Nat→cH→List (Nat×SV)
 |0,(_,_,_,_,_,_)=> [(4,(.one ⟨false,[.val (.bool false)]⟩))]
 |_,(_,_,_,_,_,_)=> []
def xw:Nat→cH→List (Nat×Entry)
 |0,(_,_,y2,y3,y4,y5)=> [(0,(.row false 118 OL y2)),(1,(.box 118 [.val (.int .i64 y3),.val (.int .i64 y4),.val (.int .i64 y5)]))]
 |_,(_,_,y2,y3,y4,y5)=> [(0,(.row false 118 OL y2)),(1,(.box 118 [.val (.int .i64 y3),.val (.int .i64 y4),.val (.int .i64 y5)]))]
def iK:cH→LT cH
 |(y0,y1,y2,y3,y4,y5)=> .ite (ju y0 y1) (.need [jv y0,jw y0 y2,jx y0 y2,jy y0 y2 y3,jz y0 y2 y3,jA y0 y2 y3] (.ite (jB y0 y2 y3 y4) (.ext 0 [(0,0),(1,1)]) (.nrm ((jC y0),y1,y2,y3,y4,y5) [(0,0),(1,1)]))) (.ext 1 [(0,0),(1,1)])
def ou(s:St):Option cH:=
 (match s.look 7 with
 |some ⟨none,.one ⟨false,[.val (.int .i64 y0)]⟩⟩=>
 (match s.look 5 with
 |some ⟨none,.one ⟨false,[.val (.int .i64 y1)]⟩⟩=>
 (match s.look 1 with
 |some ⟨none,.one ⟨false,[.ref 0]⟩⟩=>
 (match s.look 6 with
 |some ⟨none,.one ⟨false,[.ptr 576 0]⟩⟩=>
 (match s.ent 0 with
 |some (.row false 118 (.pair (.int .i64) (.pair (.int .i64) (.int .i64))) y2)=>
 (match s.ent 576 with
 |some (.box 118 [.val (.int .i64 y3),.val (.int .i64 y4),.val (.int .i64 y5)])=>
 some (y0,y1,y2,y3,y4,y5)
 |_=>none)
 |_=>none)
 |_=>none)
 |_=>none)
 |_=>none)
 |_=>none)
def aV:Lp cH where
 h:=⟨[36,37,38,41,42,43,44,45,46,47,48,49,50,51,52,53,54,55,56,57,58,4,39,40,7],[0,1],[],[]⟩
 JL:=xa
 JE:=wX
 XL:=xz
 XE:=xw
 q:=fun j=>match j with | 0=> .ret | _=> .exit 2
 tags:= [0,1]
 lt:=iK
 fuel:=fun(y0,y1,y2,y3,y4,y5)=>y0.natAbs + y1.natAbs + y2.length + y3.natAbs + y4.natAbs + y5.natAbs
 fix:=fun(_,y1,y2,y3,y4,y5) (y0,_,_,_,_,_)=>(y0,y1,y2,y3,y4,y5)
 σ:= [(0,0),(1,576)]
 rd:=ou
theorem vU:LoopOk prog (memN [8,9,10,11,14,15,16,17,6,18,19,20,21,22,23,24,25,26,27,28,29,30,31,32,33,34,35,4,7,36,37,38,41,42,43,44,45,46,47,48,49,50,51,52,53,54,55,56,57,58,39,40,12,13,5]) aV.F (It (cD f137 0) 0):=by
 refine Lp.ok (tbl:= [tA,lM]) (lf:= []) cf aV (by kernel_rfl) (LOk.nil _) (fun _=>rfl) (fun j _=>by unfold aV;match j with | 0=>rfl | _ + 1=>rfl) ?_ ?_ ?_ ?_ (fun _=>rfl) ?_
 ·rintro⟨y0,y1,y2,y3,y4,y5⟩;kernel_rfl
 ·rintro⟨y0,y1,y2,y3,y4,y5⟩;kernel_rfl
 ·intro s x h
  have h:ou s=some x:=h
  unfold ou at h
  repeat' split at h
  all_goals cases h
  constructor<;>repeat(first|refine ah (by assumption) rfl ?_|refine ar rfl (by assumption) rfl ?_|exact rfl)
 ·rintro⟨y0,y1,y2,y3,y4,y5⟩;kernel_rfl
 ·rintro⟨y0,y1,y2,y3,y4,y5⟩ z;exact(And.intro (And.intro trivial rfl) trivial)
abbrev fT:=Int×Int×List (Int×(Int×Int))
section
variable (y0 y1:Int)(y2:List (Int×(Int×Int)))
def gE:Int×Int×Int:=Option.getD y2[Int.toNat y0]? ((0:Int),(0:Int),(0:Int))
def qp:Int×Int×List (Int×Int×Int)×Int×Int×Int:=((0:Int),y0,y2,(gE y0 y2).1,((gE y0 y2).2).1,(gE y0 y2).2.2)
def ly:Bool:=ltI y0 (↑y2.length:Int)
def uQ:Bool:=leI 0 y0
def uR:Bool:=ltN y0.toNat y2.length
def ri:Bool:=bif bif !eS ((gE y0 y2).1) 0 (IntKind.wrap .i64 (y1 - (1:Int)))then true else !eS (((gE y0 y2).2).1) 0 1 then true else !eS ((gE y0 y2).2.2) 0 1
def uS:Bool:=Lp.fin aV (qp y0 y2)
def rj:Bool:=Nat.beq ((Lp.res aV (qp y0 y2)).1) 0
def uT:Int:=IntKind.wrap .i64 (y0 + (1:Int))
end
def Af:fT→List (Nat×SV)
 |(y0,y1,_)=> [(5,(.one ⟨false,[.val (.int .i64 y0)]⟩)),(1,(.one ⟨false,[.ref 0]⟩)),(0,(.one ⟨false,[.val (.int .i64 y1)]⟩))]
def Ac:fT→List (Nat×Entry)
 |(_,_,y2)=> [(0,(.row false 118 OL y2))]
def An:Nat→fT→List (Nat×SV)
 |0,(_,_,_)=> [(4,(.one ⟨false,[.val (.bool false)]⟩))]
 |1,(_,_,_)=> [(4,(.one ⟨false,[.val (.bool false)]⟩))]
 |_,(_,_,_)=> []
def Ak:Nat→fT→List (Nat×Entry)
 |0,(_,_,y2)=> [(0,(.row false 118 OL y2))]
 |1,(_,_,y2)=> [(0,(.row false 118 OL y2))]
 |_,(_,_,y2)=> [(0,(.row false 118 OL y2))]
def kI:fT→LT fT
 |(y0,y1,y2)=> .ite (ly y0 y2) (.need [uQ y0,ly y0 y2,uR y0 y2] (.ite (ri y0 y1 y2) (.ext 0 [(0,0)]) (.need [uS y0 y2] (.ite (rj y0 y2) (.ext 1 [(0,0)]) (.nrm ((uT y0),y1,y2) [(0,0)]))))) (.ext 2 [(0,0)])
def qn(s:St):Option fT:=
 (match s.look 5 with
 |some ⟨none,.one ⟨false,[.val (.int .i64 y0)]⟩⟩=>
 (match s.look 1 with
 |some ⟨none,.one ⟨false,[.ref 0]⟩⟩=>
 (match s.look 0 with
 |some ⟨none,.one ⟨false,[.val (.int .i64 y1)]⟩⟩=>
 (match s.ent 0 with
 |some (.row false 118 (.pair (.int .i64) (.pair (.int .i64) (.int .i64))) y2)=>
 some (y0,y1,y2)
 |_=>none)
 |_=>none)
 |_=>none)
 |_=>none)
def bm:Lp fT where
 h:=⟨[8,9,10,11,14,15,16,17,6,18,19,20,21,22,23,24,25,26,27,28,29,30,31,32,33,34,35,4,7,36,37,38,41,42,43,44,45,46,47,48,49,50,51,52,53,54,55,56,57,58,39,40,12,13,5],[0],[],[]⟩
 JL:=Af
 JE:=Ac
 XL:=An
 XE:=Ak
 q:=fun j=>match j with | 0=> .ret | 1=> .ret | _=> .exit 0
 tags:= [0,1,2]
 lt:=kI
 fuel:=fun(y0,y1,y2)=>y0.natAbs + y1.natAbs + y2.length
 fix:=fun(_,y1,y2) (y0,_,_)=>(y0,y1,y2)
 σ:= [(0,0)]
 rd:=qn
theorem yR:LoopOk prog (fun k=>Nat.blt k Try.f137.ntmps) bm.F (cD f137 0):=by
 refine Lp.ok (tbl:= [tA,lM]) (lf:= [aV.F]) cf bm (by kernel_rfl) (LOk.allT (l:= [It (cD f137 0) 0]) (by kernel_rfl) (.cons vU (.nil _))) (fun _=>rfl) (fun j _=>by unfold bm;match j with | 0=>rfl | 1=>rfl | _ + 2=>rfl) ?_ ?_ ?_ ?_ (fun _=>rfl) ?_
 ·rintro⟨y0,y1,y2⟩;kernel_rfl
 ·rintro⟨y0,y1,y2⟩;kernel_rfl
 ·intro s x h
  have h:qn s=some x:=h
  unfold qn at h
  repeat' split at h
  all_goals cases h
  constructor<;>repeat(first|refine ah (by assumption) rfl ?_|refine ar rfl (by assumption) rfl ?_|exact rfl)
 ·rintro⟨y0,y1,y2⟩;kernel_rfl
 ·rintro⟨y0,y1,y2⟩ z;exact(And.intro (And.intro trivial (And.intro trivial rfl)) trivial)
section
variable (x0:Int)(x1:List (Int×Int×Int))
def nB:Int×Int×List (Int×Int×Int):=((0:Int),x0,x1)
def tE:Bool:=bif Nat.beq ((Lp.res bm (nB x0 x1)).1) 0 then false else bif Nat.beq ((Lp.res bm (nB x0 x1)).1) 1 then false else bif tI x0 then leI (↑x1.length:Int) 8 else false
def tF:Bool:=allT [Lp.fin bm (nB x0 x1)]
end
def wR:List SV→List Entry→Option Out
 | [.one ⟨false,[.val (.int .i64 x0)]⟩,.one ⟨false,[.ref 0]⟩],[.row false 118 (.pair (.int .i64) (.pair (.int .i64) (.int .i64))) x1]=>some ⟨.one ⟨false,[.val (.bool (tE x0 x1))]⟩,[.row false 118 OL x1],[],[tF x0 x1]⟩
 |_,_=>none
def Eq:PF prog:=PF.ofG prog [tA,lM] [bm.F] cf 137 f137 func137 (LOk.fnT (l:= [cD f137 0]) (by kernel_rfl) (.cons yR (.nil _))) wR (by
 intro vs es r h;unfold wR at h;split at h
 ·cases h;kernel_rfl
 ·cases h)
def tT:List SV→List Entry→Option Out
 | [.one ⟨true,[.val (.int .i64 x0),.val (.int .i64 x1),.val (.int .i64 x2)]⟩],[]=>some ⟨.one ⟨true,[.val (.int .i64 x0),.val (.int .i64 x1),.val (.int .i64 x2)]⟩,[],[],[]⟩
 |_,_=>none
def uo:PF prog:=PF.ofG prog [] [] cf 105 f105 func105 (fun c _=>LOk.nil c) tT (by
 intro vs es r h;unfold tT at h;split at h
 ·cases h;kernel_rfl
 ·cases h)
abbrev ce:=Int×List (Int×(Int×Int))×List (Int×(Int×Int))
section
variable (y0:Int)(y1 y2:List (Int×(Int×Int)))
def ed:Int×Int×Int:=Option.getD y1[Int.toNat y0]? ((0:Int),(0:Int),(0:Int))
def fP:Bool:=ltI y0 (↑y1.length:Int)
def fQ:Bool:=leI 0 y0
def hZ:Bool:=ltN y0.toNat y1.length
def ia:Bool:=ltI y0 (↑y2.length:Int)
def ib:Bool:=ltN y0.toNat y2.length
def ic:Int:=IntKind.wrap .i64 (y0 + (1:Int))
def ie:List (Int×(Int×Int)):=List.set y2 y0.toNat ((ed y0 y1).1,((ed y0 y1).2).1,(ed y0 y1).2.2)
end
def vN:ce→List (Nat×SV)
 |(y0,_,_)=> [(4,(.one ⟨false,[.val (.int .i64 y0)]⟩)),(0,(.one ⟨false,[.ref 0]⟩)),(3,(.one ⟨false,[.ref 1]⟩))]
def vL:ce→List (Nat×Entry)
 |(_,y1,y2)=> [(0,(.row false 120 OL y1)),(1,(.row true 118 OL y2))]
def vR:Nat→ce→List (Nat×SV)
 |_,(_,_,_)=> []
def vP:Nat→ce→List (Nat×Entry)
 |_,(_,y1,y2)=> [(0,(.row false 120 OL y1)),(1,(.row true 118 OL y2))]
def gP:ce→LT ce
 |(y0,y1,y2)=> .ite (fP y0 y1) (.need [fQ y0,fP y0 y1,hZ y0 y1,fQ y0,ia y0 y2,ib y0 y2] (.nrm ((ic y0),y1,(ie y0 y1 y2)) [(0,0),(1,1)])) (.ext 0 [(0,0),(1,1)])
def nh(s:St):Option ce:=
 (match s.look 4 with
 |some ⟨none,.one ⟨false,[.val (.int .i64 y0)]⟩⟩=>
 (match s.look 0 with
 |some ⟨none,.one ⟨false,[.ref 0]⟩⟩=>
 (match s.look 3 with
 |some ⟨none,.one ⟨false,[.ref 320]⟩⟩=>
 (match s.ent 0 with
 |some (.row false 120 (.pair (.int .i64) (.pair (.int .i64) (.int .i64))) y1)=>
 (match s.ent 320 with
 |some (.row true 118 (.pair (.int .i64) (.pair (.int .i64) (.int .i64))) y2)=>
 some (y0,y1,y2)
 |_=>none)
 |_=>none)
 |_=>none)
 |_=>none)
 |_=>none)
def aU:Lp ce where
 h:=⟨[8,9,10,11,14,15,16,17,18,19,20,21,12,13,4],[0,1],[],[]⟩
 JL:=vN
 JE:=vL
 XL:=vR
 XE:=vP
 q:=fun j=>match j with | _=> .exit 0
 tags:= [0]
 lt:=gP
 fuel:=fun(y0,y1,y2)=>y0.natAbs + y1.length + y2.length
 fix:=fun(_,y1,_) (y0,_,y2)=>(y0,y1,y2)
 σ:= [(0,0),(1,320)]
 rd:=nh
theorem ve:LoopOk prog (fun k=>Nat.blt k Try.f53.ntmps) aU.F (cD f53 0):=by
 refine Lp.ok (tbl:= [uo]) (lf:= []) cf aU (by kernel_rfl) (LOk.nil _) (fun _=>rfl) (fun _ _=>rfl) ?_ ?_ ?_ ?_ (fun _=>rfl) ?_
 ·rintro⟨y0,y1,y2⟩;kernel_rfl
 ·rintro⟨y0,y1,y2⟩;kernel_rfl
 ·intro s x h
  have h:nh s=some x:=h
  unfold nh at h
  repeat' split at h
  all_goals cases h
  constructor<;>repeat(first|refine ah (by assumption) rfl ?_|refine ar rfl (by assumption) rfl ?_|exact rfl)
 ·rintro⟨y0,y1,y2⟩;kernel_rfl
 ·rintro⟨y0,y1,y2⟩ z;exact(And.intro rfl trivial)
section
variable (x0:List (Int×Int×Int))
def lJ:Int×List (Int×Int×Int)×List (Int×Int×Int):=((0:Int),x0,List.replicate (Int.toNat (↑x0.length:Int)) ((0:Int),(0:Int),(0:Int)))
def mV:List (Int×(Int×Int)):=(Lp.res aU (lJ x0)).2.2.2
def mW:Bool:=allT [leI 0 (↑x0.length:Int),leI (↑x0.length:Int) (↑x0.length:Int),leI ((↑(24:Nat):Int) * (↑x0.length:Int)) 281474976710656,leI (↑x0.length:Int) 9223372036854775807,Lp.fin aU (lJ x0)]
end
def sV:List SV→List Entry→Option Out
 | [.one ⟨false,[.ref 0]⟩],[.row false 120 (.pair (.int .i64) (.pair (.int .i64) (.int .i64))) x0]=>some ⟨.one ⟨false,[.ref 1]⟩,[.row false 120 OL x0],[.row true 118 OL (mV x0)],[mW x0]⟩
 |_,_=>none
def zY:PF prog:=PF.ofG prog [uo] [aU.F] cf 53 f53 func53 (LOk.fnT (l:= [cD f53 0]) (by kernel_rfl) (.cons ve (.nil _))) sV (by
 intro vs es r h;unfold sV at h;split at h
 ·cases h;kernel_rfl
 ·cases h)
def qa(x0:Int):Bool:=bif x0==0 then true else x0==1
def tQ:List SV→List Entry→Option Out
 | [.one ⟨false,[.val (.int .i64 x0)]⟩],[]=>some ⟨.one ⟨false,[.val (.bool (qa x0))]⟩,[],[],[]⟩
 |_,_=>none
def ul:PF prog:=PF.ofG prog [] [] cf 162 f162 func162 (fun c _=>LOk.nil c) tQ (by
 intro vs es r h;unfold tQ at h;split at h
 ·cases h;kernel_rfl
 ·cases h)
def kq(x0 x1 x3 x4:Int):Bool:=bif x0==x3 then x1==x4 else false
def rm:List SV→List Entry→Option Out
 | [.one ⟨true,[.val (.int .i64 x0),.val (.int .i64 x1),.val (.int .i64 _x2)]⟩,.one ⟨false,[.ptr 0 0]⟩],[.box 118 [.val (.int .i64 x3),.val (.int .i64 x4),.val (.int .i64 x5)]]=>some ⟨.one ⟨false,[.val (.bool (kq x0 x1 x3 x4))]⟩,[.box 118 [.val (.int .i64 x3),.val (.int .i64 x4),.val (.int .i64 x5)]],[],[]⟩
 |_,_=>none
def rr:PF prog:=PF.ofG prog [] [] cf 164 f164 func164 (fun c _=>LOk.nil c) rm (by
 intro vs es r h;unfold rm at h;split at h
 ·cases h;kernel_rfl
 ·cases h)
abbrev au:=Int×Int×Int×Int×Int×List (Int×(Int×Int))
section
variable (y0 y1 y2 y3:Int)(y5:List (Int×(Int×Int)))
def be:Int×Int×Int:=Option.getD y5[Int.toNat y0]? ((0:Int),(0:Int),(0:Int))
def bQ:Bool:=ltI y0 y1
def bR:Bool:=leI 0 y0
def bS:Bool:=ltI y0 (↑y5.length:Int)
def bT:Bool:=ltN y0.toNat y5.length
def bU:Bool:=kq ((be y0 y5).1) (((be y0 y5).2).1) y2 y3
def bV:Int:=IntKind.wrap .i64 (y0 + (1:Int))
end
def nS:au→List (Nat×SV)
 |(y0,y1,_,_,_,_)=> [(8,(.one ⟨false,[.val (.int .i64 y0)]⟩)),(7,(.one ⟨false,[.val (.int .i64 y1)]⟩)),(1,(.one ⟨false,[.clo 164 [0]]⟩)),(0,(.one ⟨false,[.ref 1]⟩))]
def nR:au→List (Nat×Entry)
 |(_,_,y2,y3,y4,y5)=> [(0,(.box 118 [.val (.int .i64 y2),.val (.int .i64 y3),.val (.int .i64 y4)])),(1,(.row false 118 OL y5))]
def nU:Nat→au→List (Nat×SV)
 |0,(y0,_,_,_,_,_)=> [(4,(.one ⟨false,[.val (.int .i64 y0)]⟩))]
 |_,(_,_,_,_,_,_)=> []
def nT:Nat→au→List (Nat×Entry)
 |0,(_,_,y2,y3,y4,y5)=> [(0,(.box 118 [.val (.int .i64 y2),.val (.int .i64 y3),.val (.int .i64 y4)])),(1,(.row false 118 OL y5))]
 |_,(_,_,y2,y3,y4,y5)=> [(0,(.box 118 [.val (.int .i64 y2),.val (.int .i64 y3),.val (.int .i64 y4)])),(1,(.row false 118 OL y5))]
def bH:au→LT au
 |(y0,y1,y2,y3,y4,y5)=> .ite (bQ y0 y1) (.need [bR y0,bS y0 y5,bT y0 y5] (.ite (bU y0 y2 y3 y5) (.ext 0 [(0,0),(1,1)]) (.nrm ((bV y0),y1,y2,y3,y4,y5) [(0,0),(1,1)]))) (.ext 1 [(0,0),(1,1)])
def eG(s:St):Option au:=
 (match s.look 8 with
 |some ⟨none,.one ⟨false,[.val (.int .i64 y0)]⟩⟩=>
 (match s.look 7 with
 |some ⟨none,.one ⟨false,[.val (.int .i64 y1)]⟩⟩=>
 (match s.look 1 with
 |some ⟨none,.one ⟨false,[.clo 164 [1]]⟩⟩=>
 (match s.look 0 with
 |some ⟨none,.one ⟨false,[.ref 0]⟩⟩=>
 (match s.ent 1 with
 |some (.box 118 [.val (.int .i64 y2),.val (.int .i64 y3),.val (.int .i64 y4)])=>
 (match s.ent 0 with
 |some (.row false 118 (.pair (.int .i64) (.pair (.int .i64) (.int .i64))) y5)=>
 some (y0,y1,y2,y3,y4,y5)
 |_=>none)
 |_=>none)
 |_=>none)
 |_=>none)
 |_=>none)
 |_=>none)
def ai:Lp au where
 h:=⟨[9,10,5,11,12,13,14,15,16,17,4,18,8],[0,1],[],[]⟩
 JL:=nS
 JE:=nR
 XL:=nU
 XE:=nT
 q:=fun j=>match j with | 0=> .ret | _=> .exit 0
 tags:= [0,1]
 lt:=bH
 fuel:=fun(y0,y1,y2,y3,y4,y5)=>y0.natAbs + y1.natAbs + y2.natAbs + y3.natAbs + y4.natAbs + y5.length
 fix:=fun(_,y1,y2,y3,y4,y5) (y0,_,_,_,_,_)=>(y0,y1,y2,y3,y4,y5)
 σ:= [(0,1),(1,0)]
 rd:=eG
theorem nx:LoopOk prog (fun k=>Nat.blt k Try.f176.ntmps) ai.F (cD f176 0):=by
 refine Lp.ok (tbl:= [rr]) (lf:= []) cf ai (by kernel_rfl) (LOk.nil _) (fun _=>rfl) (fun j _=>by unfold ai;match j with | 0=>rfl | _ + 1=>rfl) ?_ ?_ ?_ ?_ (fun _=>rfl) ?_
 ·rintro⟨y0,y1,y2,y3,y4,y5⟩;kernel_rfl
 ·rintro⟨y0,y1,y2,y3,y4,y5⟩;kernel_rfl
 ·intro s x h
  have h:eG s=some x:=h
  unfold eG at h
  repeat' split at h
  all_goals cases h
  constructor<;>repeat(first|refine ah (by assumption) rfl ?_|refine ar rfl (by assumption) rfl ?_|exact rfl)
 ·rintro⟨y0,y1,y2,y3,y4,y5⟩;kernel_rfl
 ·rintro⟨y0,y1,y2,y3,y4,y5⟩ z;exact(And.intro (And.intro trivial rfl) trivial)
section
variable (x0:List (Int×Int×Int))(x1 x2 x3:Int)
def cq:Int×Int×Int×Int×Int×List (Int×Int×Int):=((0:Int),(↑x0.length:Int),x1,x2,x3,x0)
def bq:Bool:=Nat.beq ((Lp.res ai (cq x0 x1 x2 x3)).1) 0
def dG:Int:=bif bq x0 x1 x2 x3 then ((Lp.res ai (cq x0 x1 x2 x3)).2).1else(-1:Int)
def dH:Int:=bif bq x0 x1 x2 x3 then x1 else x1
def dI:Int:=bif bq x0 x1 x2 x3 then x2 else x2
def dJ:Int:=bif bq x0 x1 x2 x3 then x3 else x3
def dK:Bool:=allT [Lp.fin ai (cq x0 x1 x2 x3)]
end
def jN:List SV→List Entry→Option Out
 | [.one ⟨false,[.ref 0]⟩,.one ⟨false,[.clo 164 [1]]⟩],[.row false 118 (.pair (.int .i64) (.pair (.int .i64) (.int .i64))) x0,.box 118 [.val (.int .i64 x1),.val (.int .i64 x2),.val (.int .i64 x3)]]=>some ⟨.one ⟨false,[.val (.int .i64 (dG x0 x1 x2 x3))]⟩,[.row false 118 OL x0,.box 118 [.val (.int .i64 (dH x0 x1 x2 x3)),.val (.int .i64 (dI x0 x1 x2 x3)),.val (.int .i64 (dJ x0 x1 x2 x3))]],[],[dK x0 x1 x2 x3]⟩
 |_,_=>none
def fK:PF prog:=PF.ofG prog [rr] [ai.F] cf 176 f176 func176 (LOk.fnT (l:= [cD f176 0]) (by kernel_rfl) (.cons nx (.nil _))) jN (by
 intro vs es r h;unfold jN at h;split at h
 ·cases h;kernel_rfl
 ·cases h)
section
variable (x0:List (Int×Int×Int))(x1 x2 x3:Int)
def bO:Bool:=leI 0 (dG x0 x1 x2 x3)
def eU:Int:=dH x0 x1 x2 x3
def eV:Int:=dI x0 x1 x2 x3
def eW:Int:=dJ x0 x1 x2 x3
def bP:Bool:=allT [dK x0 x1 x2 x3]
end
def iy:List SV→List Entry→Option Out
 | [.one ⟨false,[.ref 0]⟩,.one ⟨false,[.clo 164 [1]]⟩],[.row false 118 (.pair (.int .i64) (.pair (.int .i64) (.int .i64))) x0,.box 118 [.val (.int .i64 x1),.val (.int .i64 x2),.val (.int .i64 x3)]]=>some ⟨.one ⟨false,[.val (.bool (bO x0 x1 x2 x3))]⟩,[.row false 118 OL x0,.box 118 [.val (.int .i64 (eU x0 x1 x2 x3)),.val (.int .i64 (eV x0 x1 x2 x3)),.val (.int .i64 (eW x0 x1 x2 x3))]],[],[bP x0 x1 x2 x3]⟩
 |_,_=>none
def bj:PF prog:=PF.ofG prog (T3z [fK]) [] cf 163 f163 func163 (fun c _=>LOk.nil c) iy (by
 intro vs es r h;unfold iy at h;split at h
 ·cases h;kernel_rfl
 ·cases h)
abbrev fS:=Int×Int×Int×List (Int×(Int×Int))
section
variable (y0 y1 y2:Int)(y3:List (Int×(Int×Int)))
def cL:Int×Int×Int:=Option.getD y3[Int.toNat y0]? ((0:Int),(0:Int),(0:Int))
def uc:List (Int×Int×Int):=List.drop (Int.toNat 0) (List.take y0.toNat y3)
def nY:Bool:=ltI y0 y1
def qR:Bool:=leI 0 y0
def uI:Bool:=ltI y0 (↑y3.length:Int)
def uJ:Bool:=ltN y0.toNat y3.length
def qS:Bool:=bif bif !jj ((cL y0 y3).1) 0 (IntKind.wrap .i64 (y2 - (1:Int)))then true else bif ((cL y0 y3).2).1!=0 then ((cL y0 y3).2).1!=1 else false then true else !qa ((cL y0 y3).2.2)
end
def uK:Bool:=leI 0 0
section
variable (y0:Int)(y3:List (Int×(Int×Int)))
def uL:Bool:=leI y0 (↑y3.length:Int)
def uM:Bool:=bP (uc y0 y3) ((cL y0 y3).1) (((cL y0 y3).2).1) ((cL y0 y3).2.2)
def uN:Bool:=bO (uc y0 y3) ((cL y0 y3).1) (((cL y0 y3).2).1) ((cL y0 y3).2.2)
def uO:Int:=IntKind.wrap .i64 (y0 + (1:Int))
end
def Ae:fS→List (Nat×SV)
 |(y0,y1,y2,_)=> [(9,(.one ⟨false,[.val (.int .i64 y0)]⟩)),(8,(.one ⟨false,[.val (.int .i64 y1)]⟩)),(7,(.one ⟨false,[.ref 0]⟩)),(0,(.one ⟨false,[.val (.int .i64 y2)]⟩)),(1,(.one ⟨false,[.ref 0]⟩))]
def Ab:fS→List (Nat×Entry)
 |(_,_,_,y3)=> [(0,(.row false 118 OL y3))]
def Am:Nat→fS→List (Nat×SV)
 |0,(_,_,_,_)=> [(4,(.one ⟨false,[.val (.bool false)]⟩))]
 |1,(_,_,_,_)=> [(4,(.one ⟨false,[.val (.bool false)]⟩))]
 |_,(_,_,_,_)=> []
def Aj:Nat→fS→List (Nat×Entry)
 |0,(_,_,_,y3)=> [(0,(.row false 118 OL y3))]
 |1,(_,_,_,y3)=> [(0,(.row false 118 OL y3))]
 |_,(_,_,_,y3)=> [(0,(.row false 118 OL y3))]
def kH:fS→LT fS
 |(y0,y1,y2,y3)=> .ite (nY y0 y1) (.need [qR y0,uI y0 y3,uJ y0 y3] (.ite (qS y0 y2 y3) (.ext 0 [(0,0)]) (.need [uK,qR y0,uL y0 y3,uM y0 y3] (.ite (uN y0 y3) (.ext 1 [(0,0)]) (.nrm ((uO y0),y1,y2,y3) [(0,0)]))))) (.ext 2 [(0,0)])
def qm(s:St):Option fS:=
 (match s.look 9 with
 |some ⟨none,.one ⟨false,[.val (.int .i64 y0)]⟩⟩=>
 (match s.look 8 with
 |some ⟨none,.one ⟨false,[.val (.int .i64 y1)]⟩⟩=>
 (match s.look 7 with
 |some ⟨none,.one ⟨false,[.ref 0]⟩⟩=>
 (match s.look 0 with
 |some ⟨none,.one ⟨false,[.val (.int .i64 y2)]⟩⟩=>
 (match s.look 1 with
 |some ⟨none,.one ⟨false,[.ref 0]⟩⟩=>
 (match s.ent 0 with
 |some (.row false 118 (.pair (.int .i64) (.pair (.int .i64) (.int .i64))) y3)=>
 some (y0,y1,y2,y3)
 |_=>none)
 |_=>none)
 |_=>none)
 |_=>none)
 |_=>none)
 |_=>none)
def bk:Lp fS where
 h:=⟨[10,11,12,13,6,5,14,15,16,17,18,19,20,21,22,23,24,25,26,27,28,29,30,31,32,33,34,35,4,36,37,38,39,40,41,9],[0],[],[]⟩
 JL:=Ae
 JE:=Ab
 XL:=Am
 XE:=Aj
 q:=fun j=>match j with | 0=> .ret | 1=> .ret | _=> .exit 0
 tags:= [0,1,2]
 lt:=kH
 fuel:=fun(y0,y1,y2,y3)=>y0.natAbs + y1.natAbs + y2.natAbs + y3.length
 fix:=fun(_,y1,y2,y3) (y0,_,_,_)=>(y0,y1,y2,y3)
 σ:= [(0,0)]
 rd:=qm
theorem yQ:LoopOk prog (fun k=>Nat.blt k Try.f140.ntmps) bk.F (cD f140 0):=by
 refine Lp.ok (tbl:= (T3z [ul,pe,bj])) (lf:= []) cf bk (by kernel_rfl) (LOk.nil _) (fun _=>rfl) (fun j _=>by unfold bk;match j with | 0=>rfl | 1=>rfl | _ + 2=>rfl) ?_ ?_ ?_ ?_ (fun _=>rfl) ?_
 ·rintro⟨y0,y1,y2,y3⟩;kernel_rfl
 ·rintro⟨y0,y1,y2,y3⟩;kernel_rfl
 ·intro s x h
  have h:qm s=some x:=h
  unfold qm at h
  repeat' split at h
  all_goals cases h
  constructor<;>repeat(first|refine ah (by assumption) rfl ?_|refine ar rfl (by assumption) rfl ?_|exact rfl)
 ·rintro⟨y0,y1,y2,y3⟩;kernel_rfl
 ·rintro⟨y0,y1,y2,y3⟩ z;exact(And.intro (And.intro trivial (And.intro trivial rfl)) trivial)
section
variable (x0:Int)(x1:List (Int×Int×Int))
def nq:Int×Int×Int×List (Int×Int×Int):=((0:Int),(↑x1.length:Int),x0,x1)
def te:Bool:=bif Nat.beq ((Lp.res bk (nq x0 x1)).1) 0 then false else bif Nat.beq ((Lp.res bk (nq x0 x1)).1) 1 then false else leI (↑x1.length:Int) 8
def tf:Bool:=allT [Lp.fin bk (nq x0 x1)]
end
def wM:List SV→List Entry→Option Out
 | [.one ⟨false,[.val (.int .i64 x0)]⟩,.one ⟨false,[.ref 0]⟩],[.row false 118 (.pair (.int .i64) (.pair (.int .i64) (.int .i64))) x1]=>some ⟨.one ⟨false,[.val (.bool (te x0 x1))]⟩,[.row false 118 OL x1],[],[tf x0 x1]⟩
 |_,_=>none
def El:PF prog:=PF.ofG prog (T3z [ul,pe,bj]) [bk.F] cf 140 f140 func140 (LOk.fnT (l:= [cD f140 0]) (by kernel_rfl) (.cons yQ (.nil _))) wM (by
 intro vs es r h;unfold wM at h;split at h
 ·cases h;kernel_rfl
 ·cases h)
def kv(x0 x1 x2 x3 x4 x5:Int):Bool:=bif x0 !=x3 then false else bif x1 !=x4 then false else bif x2 !=x5 then false else true
def tR:List SV→List Entry→Option Out
 | [.one ⟨true,[.val (.int .i64 x0),.val (.int .i64 x1),.val (.int .i64 x2)]⟩,.one ⟨true,[.val (.int .i64 x3),.val (.int .i64 x4),.val (.int .i64 x5)]⟩],[]=>some ⟨.one ⟨false,[.val (.bool (kv x0 x1 x2 x3 x4 x5))]⟩,[],[],[]⟩
 |_,_=>none
def um:PF prog:=PF.ofG prog [] [] cf 109 f109 func109 (fun c _=>LOk.nil c) tR (by
 intro vs es r h;unfold tR at h;split at h
 ·cases h;kernel_rfl
 ·cases h)
abbrev cd:=Int×List (Int×(Int×Int))×List (Int×(Int×Int))
section
variable (y0:Int)(y1 y2:List (Int×(Int×Int)))
def eb:Int×Int×Int:=Option.getD y1[Int.toNat y0]? ((0:Int),(0:Int),(0:Int))
def ec:Int×Int×Int:=Option.getD y2[Int.toNat y0]? ((0:Int),(0:Int),(0:Int))
def fN:Bool:=ltI y0 (↑y1.length:Int)
def fO:Bool:=leI 0 y0
def gZ:Bool:=ltN y0.toNat y1.length
def hB:Bool:=ltI y0 (↑y2.length:Int)
def hN:Bool:=ltN y0.toNat y2.length
def hO:Bool:= !kv ((eb y0 y1).1) (((eb y0 y1).2).1) ((eb y0 y1).2.2) ((ec y0 y2).1) (((ec y0 y2).2).1) ((ec y0 y2).2.2)
def hY:Int:=IntKind.wrap .i64 (y0 + (1:Int))
end
def vM:cd→List (Nat×SV)
 |(y0,_,_)=> [(5,(.one ⟨false,[.val (.int .i64 y0)]⟩)),(0,(.one ⟨false,[.ref 0]⟩)),(1,(.one ⟨false,[.ref 1]⟩))]
def vK:cd→List (Nat×Entry)
 |(_,y1,y2)=> [(0,(.row false 118 OL y1)),(1,(.row false 118 OL y2))]
def vQ:Nat→cd→List (Nat×SV)
 |0,(_,_,_)=> [(4,(.one ⟨false,[.val (.bool false)]⟩))]
 |_,(_,_,_)=> []
def vO:Nat→cd→List (Nat×Entry)
 |0,(_,y1,y2)=> [(0,(.row false 118 OL y1)),(1,(.row false 118 OL y2))]
 |_,(_,y1,y2)=> [(0,(.row false 118 OL y1)),(1,(.row false 118 OL y2))]
def gO:cd→LT cd
 |(y0,y1,y2)=> .ite (fN y0 y1) (.need [fO y0,fN y0 y1,gZ y0 y1,fO y0,hB y0 y2,hN y0 y2] (.ite (hO y0 y1 y2) (.ext 0 [(0,0),(1,1)]) (.nrm ((hY y0),y1,y2) [(0,0),(1,1)]))) (.ext 1 [(0,0),(1,1)])
def ng(s:St):Option cd:=
 (match s.look 5 with
 |some ⟨none,.one ⟨false,[.val (.int .i64 y0)]⟩⟩=>
 (match s.look 0 with
 |some ⟨none,.one ⟨false,[.ref 0]⟩⟩=>
 (match s.look 1 with
 |some ⟨none,.one ⟨false,[.ref 1]⟩⟩=>
 (match s.ent 0 with
 |some (.row false 118 (.pair (.int .i64) (.pair (.int .i64) (.int .i64))) y1)=>
 (match s.ent 1 with
 |some (.row false 118 (.pair (.int .i64) (.pair (.int .i64) (.int .i64))) y2)=>
 some (y0,y1,y2)
 |_=>none)
 |_=>none)
 |_=>none)
 |_=>none)
 |_=>none)
def aM:Lp cd where
 h:=⟨[11,12,13,14,17,18,19,20,21,22,23,24,25,26,4,15,16,5],[0,1],[],[]⟩
 JL:=vM
 JE:=vK
 XL:=vQ
 XE:=vO
 q:=fun j=>match j with | 0=> .ret | _=> .exit 0
 tags:= [0,1]
 lt:=gO
 fuel:=fun(y0,y1,y2)=>y0.natAbs + y1.length + y2.length
 fix:=fun(_,y1,y2) (y0,_,_)=>(y0,y1,y2)
 σ:= [(0,0),(1,1)]
 rd:=ng
theorem vd:LoopOk prog (fun k=>Nat.blt k Try.f55.ntmps) aM.F (cD f55 0):=by
 refine Lp.ok (tbl:= [um]) (lf:= []) cf aM (by kernel_rfl) (LOk.nil _) (fun _=>rfl) (fun j _=>by unfold aM;match j with | 0=>rfl | _ + 1=>rfl) ?_ ?_ ?_ ?_ (fun _=>rfl) ?_
 ·rintro⟨y0,y1,y2⟩;kernel_rfl
 ·rintro⟨y0,y1,y2⟩;kernel_rfl
 ·intro s x h
  have h:ng s=some x:=h
  unfold ng at h
  repeat' split at h
  all_goals cases h
  constructor<;>repeat(first|refine ah (by assumption) rfl ?_|refine ar rfl (by assumption) rfl ?_|exact rfl)
 ·rintro⟨y0,y1,y2⟩;kernel_rfl
 ·rintro⟨y0,y1,y2⟩ z;exact(And.intro (And.intro trivial rfl) trivial)
section
variable (x0 x1:List (Int×Int×Int))
def lF:Bool:=(↑x0.length:Int)!=(↑x1.length:Int)
def lG:Int×List (Int×Int×Int)×List (Int×Int×Int):=((0:Int),x0,x1)
def mT:Bool:=bif lF x0 x1 then false else bif Nat.beq ((Lp.res aM (lG x0 x1)).1) 0 then false else true
def mU:Bool:=allT [lF x0 x1||Lp.fin aM (lG x0 x1)]
end
def sS:List SV→List Entry→Option Out
 | [.one ⟨false,[.ref 0]⟩,.one ⟨false,[.ref 1]⟩],[.row false 118 (.pair (.int .i64) (.pair (.int .i64) (.int .i64))) x0,.row false 118 (.pair (.int .i64) (.pair (.int .i64) (.int .i64))) x1]=>some ⟨.one ⟨false,[.val (.bool (mT x0 x1))]⟩,[.row false 118 OL x0,.row false 118 OL x1],[],[mU x0 x1]⟩
 |_,_=>none
def zX:PF prog:=PF.ofG prog [um] [aM.F] cf 55 f55 func55 (LOk.fnT (l:= [cD f55 0]) (by kernel_rfl) (.cons vd (.nil _))) sS (by
 intro vs es r h;unfold sS at h;split at h
 ·cases h;kernel_rfl
 ·cases h)
def fIn(n:Int)(f:Int×Int×Int):Bool:=inR f.1 0 (IntKind.i64.wrap (n - 1))&&(inR f.2.1 0 1&&inR f.2.2 0 1)
def EM(f g:Int×Int×Int):Bool:=g.1==f.1&&g.2.1==f.2.1
def fAt(fs:List (Int×Int×Int))(b:Nat):Int×Int×Int:=fs[b]?.getD (0,0,0)
def GP(n:Int)(fs:List (Int×Int×Int))(b:Nat):Bool:= !fIn n (fAt fs b)
def Jf(fs:List (Int×Int×Int))(b:Nat):Bool:=(fs.take b).any (EM (fAt fs b))
def okFs(n:Int)(fs:List (Int×Int×Int)):Bool:=leN fs.length 8&&(List.range fs.length).all fun b=> !(GP n fs b||Jf fs b)
theorem Mh{fs:List (Int×Int×Int)}{P:Int×Int×Int→Bool}{b:Nat}(h:b≤fs.length):((List.range b).any fun j=>P (fs[j]?.getD (0,0,0)))=(fs.take b).any P:=by
 rw [Bool.eq_iff_iff]
 simp only [List.any_eq_true,List.mem_range,List.mem_take_iff_getElem]
 constructor
 ·rintro⟨j,hj,hp⟩
  have hl:j < fs.length:=by omega
  rw [List.getElem?_eq_getElem hl]at hp
  exact⟨fs[j],⟨j,by omega,rfl⟩,hp⟩
 ·rintro⟨x,⟨j,hj,rfl⟩,hp⟩
  have hl:j < fs.length:=by omega
  exact⟨j,by omega,by rw [List.getElem?_eq_getElem hl];exact hp⟩
def gI(y2:List (Int×(Int×Int)))(y3 y4:Int)(b:Nat):(Unit)→Nat ⊕ (Unit)
 |_=>(bif(bif((Option.getD y2[b]? ((0:Int),(0:Int),(0:Int))).1==y3)then ((Option.getD y2[b]? ((0:Int),(0:Int),(0:Int))).2).1==y4 else false)then(.inl 0)else(.inr ()))
def eX(y1:Int)(y2:List (Int×(Int×Int)))(y3 y4 y5:Int)(i:Nat):(Unit)→cH
 |_=>((i:Int),y1,y2,y3,y4,y5)
def oo:cH→Unit
 |(_,_,_,_,_,_)=>()
theorem ze(y1:Int)(y2:List (Int×(Int×Int)))(y3 y4 y5:Int) (hn:y1≤9223372036854775807) (hb:y1≤(y2.length:Int)):
  aV.fin ((0:Int),y1,y2,y3,y4,y5)=true∧aV.res ((0:Int),y1,y2,y3,y4,y5)=((aN (gI y2 y3 y4) 1 (List.range y1.toNat) 0 ()).1,(eX y1 y2 y3 y4 y5) (aN (gI y2 y3 y4) 1 (List.range y1.toNat) 0 ()).2.1 (aN (gI y2 y3 y4) 1 (List.range y1.toNat) 0 ()).2.2):=by
 have im:=aV.along (eX y1 y2 y3 y4 y5) oo (gI y2 y3 y4) 1 (fun _ _=>True) (List.range y1.toNat) () (by trivial) (by simp only [aV,eX,List.length_range];omega) (fun i b a hb hI=> ?_) (fun a hI=> ?_)
 ·exact im
 ·obtain⟨⟩:=a
  obtain⟨rfl,dw⟩:=lS hb
  have hw:IntKind.i64.wrap ((b:Int) + 1)=((b + 1:Nat):Int):=by rw [bZ (by omega) (by omega)];omega
  have gq:ltI (b:Int) y1=true:=io (by omega)
  have rZ:leI (0:Int) (b:Int)=true:=jg (by omega)
  refine⟨?_,?_,?_,?_⟩
  ·have h1:ltI (b:Int) (y2.length:Int)=true:=io (by omega)
   have h2:ltN b y2.length=true:=kG (by omega)
   simp [gp,dX,ju,jv,jw,jx,jy,jz,jA,jB,jC,iK,aV,LT.nds,allT,eX,gq,rZ,h1,h2]
  ·simp [gp,dX,ju,jv,jw,jx,jy,jz,jA,jB,jC,iK,aV,LT.each,eX,oo,hw]
  ·simp only [gp,dX,ju,jv,jw,jx,jy,jz,jA,jB,jC,iK,aV,LT.fn,eX,oo,gI,Int.toNat_natCast,gq,rZ,cond_true,Bool.cond_self]
  ·exact fun _ _=>trivial
 ·obtain⟨⟩:=a
  simp only [gp,dX,ju,jv,jw,jx,jy,jz,jA,jB,jC,iK,aV,LT.out,eX,List.length_range,Be,Do,cond_false]
theorem LM(fs:List (Int×Int×Int))(b:Nat)(hb:b < fs.length)(hn:fs.length≤9223372036854775807):
  uS (b:Int) fs=true∧rj (b:Int) fs=Jf fs b:=by
 obtain⟨w1,w2⟩:=ze (b:Int) fs (fAt fs b).1 (fAt fs b).2.1 (fAt fs b).2.2 (by omega) (by omega)
 rw [pf (P:=fun j=>EM (fAt fs b) (fs[j]?.getD (0,0,0))) (j:=0) (fun j=>by
  simp only [gI,EM];cases (fs[j]?.getD (0,0,0)).1==(fAt fs b).1 <;> rfl),Int.toNat_natCast,Mh (by omega)]at w2
 refine⟨w1,?_⟩
 have e:qp (b:Int) fs=(0,(b:Int),fs,(fAt fs b).1,(fAt fs b).2.1,(fAt fs b).2.2):=rfl
 simp only [rj,e,w2,Jf]
 cases (fs.take b).any (EM (fAt fs b)) <;> rfl
theorem NC(n:Int)(fs:List (Int×Int×Int))(b:Nat):ri (b:Int) n fs=GP n fs b:=by
 simp only [ri,eS,GP,fIn,fAt,gE,Int.toNat_natCast,yJ]
 cases inR (fs[b]?.getD (0,0,0)).1 0 (IntKind.i64.wrap (n - 1)) <;> cases inR (fs[b]?.getD (0,0,0)).2.1 0 1 <;> cases inR (fs[b]?.getD (0,0,0)).2.2 0 1 <;> rfl
def fF(n:Int)(fs:List (Int×Int×Int))(b:Nat)(_:Unit):Nat ⊕ Unit:=bif GP n fs b then .inl 0 else bif Jf fs b then .inl 1 else .inr ()
theorem IJ(n:Int)(fs:List (Int×Int×Int)): ∀ (r:List Nat) (i:Nat),∃ k m,aN (fF n fs) 2 r i ()=(k,m,())∧((k=2∧(r.all fun b=> !(GP n fs b||Jf fs b))=true)∨((k=0∨k=1)∧(r.all fun b=> !(GP n fs b||Jf fs b))=false))
 | [],i=>⟨2,i,rfl,.inl ⟨rfl,rfl⟩⟩
 |b::r,i=>by
  cases h1:GP n fs b with
  |true=>exact⟨0,i,by simp only [aN,fF,h1,cond_true],.inr ⟨.inl rfl,by simp [h1]⟩⟩
  |false=>
   cases h2:Jf fs b with
   |true=>exact⟨1,i,by simp only [aN,fF,h1,h2,cond_true,cond_false],.inr ⟨.inr rfl,by simp [h2]⟩⟩
   |false=>
    obtain⟨k,m,e,h⟩:=IJ n fs r (i + 1)
    exact⟨k,m,by simp only [aN,fF,h1,h2,cond_false];exact e,by simpa [h1,h2] using h⟩
theorem IH(n:Int)(fs:List (Int×Int×Int))(hn:fs.length≤9223372036854775807):
  bm.fin ((0:Int),n,fs)=true∧bm.res ((0:Int),n,fs)=((aN (fF n fs) 2 (List.range fs.length) 0 ()).1,(((aN (fF n fs) 2 (List.range fs.length) 0 ()).2.1:Int),n,fs)):=by
 have im:=bm.along (fun i _=>((i:Int),n,fs)) (fun _=>()) (fF n fs) 2 (fun _ _=>True) (List.range fs.length) () trivial (by simp only [bm,List.length_range];omega) (fun i b a hb hI=> ?_) (fun a hI=> ?_)
 ·exact im
 ·obtain⟨rfl,dw⟩:=lS hb
  have hw:IntKind.i64.wrap ((b:Int) + 1)=((b + 1:Nat):Int):=by rw [bZ (by omega) (by omega)];omega
  have gq:ltI (b:Int) (fs.length:Int)=true:=io (by omega)
  have rZ:leI (0:Int) (b:Int)=true:=jg (by omega)
  have lh:ltN b fs.length=true:=kG (by omega)
  obtain⟨i1,i2⟩:=LM fs b dw hn
  have i3:=NC n fs b
  refine⟨?_,?_,?_,?_⟩
  ·simp [bm,kI,LT.nds,allT,ly,uQ,uR,gq,rZ,lh,i1]
  ·simp [bm,kI,LT.each,uT,hw]
  ·simp only [bm,kI,LT.fn,ly,gq,i2,i3,fF,cond_true]
  ·exact fun _ _=>trivial
 ·simp [bm,kI,LT.out,ly,List.length_range]
theorem He(n:Int)(fs:List (Int×Int×Int))(hn:leN fs.length 9223372036854775807=true):tE n fs=(inR n 2 8&&okFs n fs)∧tF n fs=true:=by
 obtain⟨w1,w2⟩:=IH n fs (jP.1 hn)
 obtain⟨k,m,e,h⟩:=IJ n fs (List.range fs.length) 0
 rw [e]at w2
 refine⟨?_,?_⟩
 ·have hl:leI (fs.length:Int) 8=leN fs.length 8:=by rw [Bool.eq_iff_iff];simp;omega
  simp only [tE,nB,w2,tI,eS,yJ,okFs,hl]
  rcases h with⟨rfl,h⟩ | ⟨rfl | rfl,h⟩ <;> rw [h]
  ·cases inR n 2 8 <;> cases leN fs.length 8 <;> rfl
  ·cases inR n 2 8 <;> cases leN fs.length 8 <;> rfl
  ·cases inR n 2 8 <;> cases leN fs.length 8 <;> rfl
 ·simp only [tF,nB,w1,allT,cond_true]
def xl:List SV→List Entry→Option Out
 | [.one ⟨false,[.val (.int .i64 x0)]⟩,.one ⟨false,[.ref 0]⟩],[.row false 118 (.pair (.int .i64) (.pair (.int .i64) (.int .i64))) x1]=>some ⟨.one ⟨false,[.val (.bool (inR x0 2 8&&okFs x0 x1))]⟩,[.row false 118 OL x1],[],[leN x1.length 9223372036854775807]⟩
 |_,_=>none
def gJ:PF prog:=PF.alt Eq xl (by
 intro args es o h bh;unfold xl at h;split at h
 ·rename_i x0 x1
  cases h
  have bh:=gR bh
  have hh:=He x0 x1 bh
  obtain⟨e0,en⟩:=hh
  exact jT rfl (gA en) (by simp only [e0] <;> rfl) rfl rfl
 ·cases h)
def bi(y2 y3:Int)(b:Int×(Int×Int)):(Unit)→Nat ⊕ (Unit)
 |_=>(bif(kq b.1 (b.2.1) y2 y3)then(.inl 0)else(.inr ()))
def aC(y2 y3 y4:Int)(y5:List (Int×(Int×Int)))(i:Nat):(Unit)→au
 |_=>((i:Int),(↑y5.length:Int),y2,y3,y4,y5)
def eF:au→Unit
 |(_,_,_,_,_,_)=>()
theorem oE(y2 y3 y4:Int)(y5:List (Int×(Int×Int))) (hn:y5.length≤9223372036854775807):
  ai.fin ((0:Int),(↑y5.length:Int),y2,y3,y4,y5)=true∧ai.res ((0:Int),(↑y5.length:Int),y2,y3,y4,y5)=((aN (bi y2 y3) 1 y5 0 ()).1,(aC y2 y3 y4 y5) (aN (bi y2 y3) 1 y5 0 ()).2.1 (aN (bi y2 y3) 1 y5 0 ()).2.2):=by
 have im:=ai.along (aC y2 y3 y4 y5) eF (bi y2 y3) 1 (fun _ _=>True) y5 () (by trivial) (by simp only [ai,aC];omega) (fun i b a hb hI=> ?_) (fun a hI=> ?_)
 ·exact im
 ·obtain⟨⟩:=a
  have dw:=(List.getElem?_eq_some_iff.1 hb).1
  have iC: ∀ d,Option.getD y5[i]? d=b:=fun d=>by rw [hb];rfl
  have hw:=uD dw hn
  have gq:ltI (i:Int) (y5.length:Int)=true:=io (by omega)
  have rZ:leI (0:Int) (i:Int)=true:=jg (by omega)
  have lh:ltN i y5.length=true:=kG dw
  refine⟨?_,?_,?_,?_⟩
  ·simp [be,bQ,bR,bS,bT,bU,bV,bH,ai,LT.nds,allT,aC,gq,rZ,lh,iC]
  ·simp [be,bQ,bR,bS,bT,bU,bV,bH,ai,LT.each,aC,eF,hw]
  ·simp only [be,bQ,bR,bS,bT,bU,bV,bH,ai,LT.fn,aC,eF,bi,Int.toNat_natCast,gq,rZ,lh,iC,cond_true,Bool.cond_self]
  ·exact fun _ _=>trivial
 ·obtain⟨⟩:=a
  simp [be,bQ,bR,bS,bT,bU,bV,bH,ai,LT.out,aC]
theorem KG(xs:List (Int×Int×Int))(f:Int×Int×Int)(hn:xs.length≤9223372036854775807):
  bO xs f.1 f.2.1 f.2.2=xs.any (EM f)∧bP xs f.1 f.2.1 f.2.2=true:=by
 obtain⟨w1,w2⟩:=oE f.1 f.2.1 f.2.2 xs hn
 rw [pf (P:=EM f) (j:=0) (fun t=>by
  simp only [bi,kq,EM];cases t.1==f.1 <;> rfl)]at w2
 refine⟨?_,?_⟩
 ·simp only [bO,eU,eV,eW,bP,cq,bq,dG,dH,dI,dJ,dK,w2,aC]
  cases xs.any (EM f)with
  |false=>rfl
  |true=>exact jg (Int.natCast_nonneg _)
 ·simp only [bO,eU,eV,eW,bP,cq,bq,dG,dH,dI,dJ,dK,w1,allT,cond_true]
theorem Ng(n:Int)(fs:List (Int×Int×Int))(b:Nat):qS (b:Int) n fs=GP n fs b:=by
 have h2: ∀ v:Int,(bif v==0 then true else v==1)=inR v 0 1:=fun v=>by
  rw [Bool.eq_iff_iff,oT];by_cases h:v=0 <;> by_cases h':v=1 <;> simp [h,h'] <;> omega
 have h3: ∀ v:Int,(bif v !=0 then v !=1 else false)= !inR v 0 1:=fun v=>by
  rw [← h2 v];simp only [bne];cases v==0 <;> rfl
 simp only [qS,jj,qa,GP,fIn,fAt,cL,Int.toNat_natCast,yJ,h2,h3]
 cases inR (fs[b]?.getD (0,0,0)).1 0 (IntKind.i64.wrap (n - 1)) <;> cases inR (fs[b]?.getD (0,0,0)).2.1 0 1 <;> cases inR (fs[b]?.getD (0,0,0)).2.2 0 1 <;> rfl
theorem IG(n:Int)(fs:List (Int×Int×Int))(hn:fs.length≤9223372036854775807):
  bk.fin ((0:Int),(fs.length:Int),n,fs)=true∧bk.res ((0:Int),(fs.length:Int),n,fs)=((aN (fF n fs) 2 (List.range fs.length) 0 ()).1,(((aN (fF n fs) 2 (List.range fs.length) 0 ()).2.1:Int),(fs.length:Int),n,fs)):=by
 have im:=bk.along (fun i _=>((i:Int),(fs.length:Int),n,fs)) (fun _=>()) (fF n fs) 2 (fun _ _=>True) (List.range fs.length) () trivial (by simp only [bk,List.length_range];omega) (fun i b a hb hI=> ?_) (fun a hI=> ?_)
 ·exact im
 ·obtain⟨rfl,dw⟩:=lS hb
  have hw:IntKind.i64.wrap ((b:Int) + 1)=((b + 1:Nat):Int):=by rw [bZ (by omega) (by omega)];omega
  have gq:ltI (b:Int) (fs.length:Int)=true:=io (by omega)
  have pL:leI (b:Int) (fs.length:Int)=true:=jg (by omega)
  have rZ:leI (0:Int) (b:Int)=true:=jg (by omega)
  have lh:ltN b fs.length=true:=kG (by omega)
  obtain⟨i2,i1⟩:=KG (fs.take b) (fAt fs b) (by rw [List.length_take];omega)
  have i2:uN (b:Int) fs=Jf fs b:=i2
  have i1:uM (b:Int) fs=true:=i1
  have i3:=Ng n fs b
  refine⟨?_,?_,?_,?_⟩
  ·simp [bk,kH,LT.nds,allT,nY,qR,uI,uJ,uK,uL,gq,rZ,lh,pL,i1]
  ·simp [bk,kH,LT.each,uO,hw]
  ·simp only [bk,kH,LT.fn,nY,gq,i2,i3,fF,cond_true]
  ·exact fun _ _=>trivial
 ·simp [bk,kH,LT.out,nY,List.length_range]
theorem GV(n:Int)(fs:List (Int×Int×Int))(hn:leN fs.length 9223372036854775807=true):te n fs=okFs n fs∧tf n fs=true:=by
 obtain⟨w1,w2⟩:=IG n fs (jP.1 hn)
 obtain⟨k,m,e,h⟩:=IJ n fs (List.range fs.length) 0
 rw [e]at w2
 refine⟨?_,?_⟩
 ·have hl:leI (fs.length:Int) 8=leN fs.length 8:=by rw [Bool.eq_iff_iff];simp;omega
  simp only [te,nq,w2,okFs,hl]
  rcases h with⟨rfl,h⟩ | ⟨rfl | rfl,h⟩ <;> rw [h] <;> cases leN fs.length 8 <;> rfl
 ·simp only [tf,nq,w1,allT,cond_true]
def xf:List SV→List Entry→Option Out
 | [.one ⟨false,[.val (.int .i64 x0)]⟩,.one ⟨false,[.ref 0]⟩],[.row false 118 (.pair (.int .i64) (.pair (.int .i64) (.int .i64))) x1]=>some ⟨.one ⟨false,[.val (.bool (okFs x0 x1))]⟩,[.row false 118 OL x1],[],[leN x1.length 9223372036854775807]⟩
 |_,_=>none
def bx:PF prog:=PF.alt El xf (by
 intro args es o h bh;unfold xf at h;split at h
 ·rename_i x0 x1
  cases h
  have bh:=gR bh
  have hh:=GV x0 x1 bh
  obtain⟨e0,en⟩:=hh
  exact jT rfl (gA en) (by simp only [e0] <;> rfl) rfl rfl
 ·cases h)
def rT(xs ys:List (Int×Int×Int)):Bool:=decide (xs=ys)
def ew(y1:List (Int×(Int×Int)))(b:Nat):(List (Int×(Int×Int)))→Nat ⊕ (List (Int×(Int×Int)))
 |y2=>(.inr (List.set y2 b ((Option.getD y1[b]? ((0:Int),(0:Int),(0:Int))).1,((Option.getD y1[b]? ((0:Int),(0:Int),(0:Int))).2).1,(Option.getD y1[b]? ((0:Int),(0:Int),(0:Int))).2.2)))
def dh(y1:List (Int×(Int×Int)))(i:Nat):(List (Int×(Int×Int)))→ce
 |y2=>((i:Int),y1,y2)
def nf:ce→List (Int×(Int×Int))
 |(_,_,y2)=>y2
theorem wK(y1 y2:List (Int×(Int×Int)))(hn:y1.length≤9223372036854775807)(hl:y2.length=y1.length):
  aU.fin ((0:Int),y1,y2)=true∧aU.res ((0:Int),y1,y2)=((aN (ew y1) 0 (List.range y1.length) 0 y2).1,(dh y1) (aN (ew y1) 0 (List.range y1.length) 0 y2).2.1 (aN (ew y1) 0 (List.range y1.length) 0 y2).2.2):=by
 have im:=aU.along (dh y1) nf (ew y1) 0 (fun _ a=>a.length=y1.length) (List.range y1.length) y2 hl (by simp only [aU,dh,List.length_range];omega) (fun i b a hb hI=> ?_) (fun a hI=> ?_)
 ·exact im
 ·obtain y2:=a
  obtain⟨rfl,dw⟩:=lS hb
  have hw:IntKind.i64.wrap ((b:Int) + 1)=((b + 1:Nat):Int):=by rw [bZ (by omega) (by omega)];omega
  have gq:ltI (b:Int) (y1.length:Int)=true:=io (by omega)
  have rZ:leI (0:Int) (b:Int)=true:=jg (by omega)
  have lh:ltN b y1.length=true:=kG (by omega)
  refine⟨?_,?_,?_,?_⟩
  ·simp [ed,fP,fQ,hZ,ia,ib,ic,ie,gP,aU,LT.nds,allT,dh,gq,rZ,lh,hI]
  ·simp [ed,fP,fQ,hZ,ia,ib,ic,ie,gP,aU,LT.each,dh,nf,hw,hI]
  ·simp only [ed,fP,fQ,hZ,ia,ib,ic,ie,gP,aU,LT.fn,dh,nf,ew,Int.toNat_natCast,gq,cond_true]
  ·intro a' hf;simp only [ew,Sum.inr.injEq]at hf;subst hf;simpa using hI
 ·obtain y2:=a
  simp [ed,fP,fQ,hZ,ia,ib,ic,ie,gP,aU,LT.out,dh,List.length_range]
def fM(y1 y2:List (Int×(Int×Int)))(b:Nat):(Unit)→Nat ⊕ (Unit)
 |_=>(bif(!kv ((Option.getD y1[b]? ((0:Int),(0:Int),(0:Int))).1) (((Option.getD y1[b]? ((0:Int),(0:Int),(0:Int))).2).1) ((Option.getD y1[b]? ((0:Int),(0:Int),(0:Int))).2.2) ((Option.getD y2[b]? ((0:Int),(0:Int),(0:Int))).1) (((Option.getD y2[b]? ((0:Int),(0:Int),(0:Int))).2).1) ((Option.getD y2[b]? ((0:Int),(0:Int),(0:Int))).2.2))then(.inl 0)else(.inr ()))
def ee(y1 y2:List (Int×(Int×Int)))(i:Nat):(Unit)→cd
 |_=>((i:Int),y1,y2)
def ne:cd→Unit
 |(_,_,_)=>()
theorem wJ(y1 y2:List (Int×(Int×Int))) (hn:y1.length≤9223372036854775807) (he:y2.length=y1.length):
  aM.fin ((0:Int),y1,y2)=true∧aM.res ((0:Int),y1,y2)=((aN (fM y1 y2) 1 (List.range y1.length) 0 ()).1,(ee y1 y2) (aN (fM y1 y2) 1 (List.range y1.length) 0 ()).2.1 (aN (fM y1 y2) 1 (List.range y1.length) 0 ()).2.2):=by
 have im:=aM.along (ee y1 y2) ne (fM y1 y2) 1 (fun _ _=>True) (List.range y1.length) () (by trivial) (by simp only [aM,ee,List.length_range];omega) (fun i b a hb hI=> ?_) (fun a hI=> ?_)
 ·exact im
 ·obtain⟨⟩:=a
  obtain⟨rfl,dw⟩:=lS hb
  have hw:IntKind.i64.wrap ((b:Int) + 1)=((b + 1:Nat):Int):=by rw [bZ (by omega) (by omega)];omega
  have gq:ltI (b:Int) (y1.length:Int)=true:=io (by omega)
  have rZ:leI (0:Int) (b:Int)=true:=jg (by omega)
  have lh:ltN b y1.length=true:=kG (by omega)
  refine⟨?_,?_,?_,?_⟩
  ·simp [eb,ec,fN,fO,gZ,hB,hN,hO,hY,gO,aM,LT.nds,allT,ee,gq,rZ,lh,he]
  ·simp [eb,ec,fN,fO,gZ,hB,hN,hO,hY,gO,aM,LT.each,ee,ne,hw,he]
  ·simp only [eb,ec,fN,fO,gZ,hB,hN,hO,hY,gO,aM,LT.fn,ee,ne,fM,Int.toNat_natCast,gq,cond_true]
  ·exact fun _ _=>trivial
 ·obtain⟨⟩:=a
  simp [eb,ec,fN,fO,gZ,hB,hN,hO,hY,gO,aM,LT.out,ee,List.length_range]
theorem JZ(xs:List (Int×Int×Int))(hn:leN xs.length 1048576=true):mV xs=xs∧mW xs=true:=by
 have hn:=jP.1 hn
 have hr:(List.replicate (Int.toNat (xs.length:Int)) ((0:Int),(0:Int),(0:Int))).length=xs.length:=by simp
 obtain⟨w1,w2⟩:=wK xs (List.replicate (Int.toNat (xs.length:Int)) ((0:Int),(0:Int),(0:Int))) (by omega) hr
 have hc:=EH (xs:=xs) (d:=((0:Int),(0:Int),(0:Int))) (g:=fun x=>x) (f:=ew xs) (e:=0) (fun b a=>rfl) hr
 rw [hc]at w2
 refine⟨?_,?_⟩
 ·simp only [lJ,mV,mW,w2,dh];simp
 ·simp only [lJ,mV,mW,w1,allT];simp;omega
def sX:List SV→List Entry→Option Out
 | [.one ⟨false,[.ref 0]⟩],[.row false 120 (.pair (.int .i64) (.pair (.int .i64) (.int .i64))) x0]=>some ⟨.one ⟨false,[.ref 1]⟩,[.row false 120 OL x0],[.row true 118 OL x0],[leN x0.length 1048576]⟩
 |_,_=>none
def pk:PF prog:=PF.alt zY sX (by
 intro args es o h bh;unfold sX at h;split at h
 ·rename_i x0
  cases h
  have bh:=gR bh
  have hh:=JZ x0 bh
  obtain⟨e0,en⟩:=hh
  exact jT rfl (gA en) rfl rfl (by simp only [e0] <;> rfl)
 ·cases h)
theorem Jc(xs ys:List (Int×Int×Int))(hn:leN xs.length 9223372036854775807=true):mT xs ys=rT xs ys∧mU xs ys=true:=by
 have hn:=jP.1 hn
 unfold rT
 have h3: ∀ a b:Int×Int×Int,(!kv a.1 a.2.1 a.2.2 b.1 b.2.1 b.2.2)= !decide (a=b):=fun a b=>by
  obtain⟨a1,a2,a3⟩:=a;obtain⟨b1,b2,b3⟩:=b
  simp only [kv,Prod.mk.injEq]
  by_cases h1:a1=b1 <;> by_cases h2:a2=b2 <;> by_cases h3:a3=b3 <;> simp [h1,h2,h3]
 by_cases hl:ys.length=xs.length
 ·obtain⟨w1,w2⟩:=wJ xs ys hn hl
  have ha:=Mg (d:=((0:Int),(0:Int),(0:Int))) hl (P:=fun b=> !decide (Option.getD xs[b]? (0,0,0)=Option.getD ys[b]? (0,0,0))) (fun b=>rfl)
  rw [pf (P:=fun b=> !decide (Option.getD xs[b]? (0,0,0)=Option.getD ys[b]? (0,0,0))) (j:=0) (fun b=>by simp only [fM,h3]),ha]at w2
  simp only [lF,lG,mT,mU,w1,w2,allT]
  by_cases he:xs=ys
  ·subst he;simp;decide
  ·simp [he,hl]
 ·have sZ:xs≠ys:=fun h=>hl (by rw [h])
  simp [lF,lG,mT,mU,allT,sZ]
  omega
def sW:List SV→List Entry→Option Out
 | [.one ⟨false,[.ref 0]⟩,.one ⟨false,[.ref 1]⟩],[.row false 118 (.pair (.int .i64) (.pair (.int .i64) (.int .i64))) x0,.row false 118 (.pair (.int .i64) (.pair (.int .i64) (.int .i64))) x1]=>some ⟨.one ⟨false,[.val (.bool (rT x0 x1))]⟩,[.row false 118 OL x0,.row false 118 OL x1],[],[leN x0.length 9223372036854775807]⟩
 |_,_=>none
def pj:PF prog:=PF.alt zX sW (by
 intro args es o h bh;unfold sW at h;split at h
 ·rename_i x0 x1
  cases h
  have bh:=gR bh
  have hh:=Jc x0 x1 bh
  obtain⟨e0,en⟩:=hh
  exact jT rfl (gA en) (by simp only [e0] <;> rfl) rfl rfl
 ·cases h)
section
variable (x0 x1:Int)(x2 x3 x4:List Int)
def oW:Int:=Option.getD x2[Int.toNat x1]? 0
def iv:Bool:=Int.tmod (oW x1 x2) 3!=1
def fD:Int:=Int.tmod (IntKind.wrap .i64 (IntKind.wrap .i64 (Int.tdiv (oW x1 x2) 3) + (1:Int))) x0
def rM:Bool:= !(!iv x1 x2&&true)||leI 0 (fD x0 x1 x2)
def sJ:Bool:=bif iv x1 x2 then true else IntKind.wrap .i64 (Option.getD x3[Int.toNat (fD x0 x1 x2)]? 0 + Option.getD x4[Int.toNat (fD x0 x1 x2)]? 0)==0
def sK:Bool:=allT [leI 0 x1,ltI x1 (↑x2.length:Int),ltN x1.toNat x2.length,neI x0 0,leI 0 x1,ltI x1 (↑x2.length:Int),ltN x1.toNat x2.length,rM x0 x1 x2,!(!iv x1 x2&&true)||ltI (fD x0 x1 x2) (↑x3.length:Int),!(!iv x1 x2&&true)||ltN (Int.toNat (fD x0 x1 x2)) x3.length,rM x0 x1 x2,!(!iv x1 x2&&true)||ltI (fD x0 x1 x2) (↑x4.length:Int),!(!iv x1 x2&&true)||ltN (Int.toNat (fD x0 x1 x2)) x4.length]
end
def vZ:List SV→List Entry→Option Out
 | [.one ⟨true,[.val (.int .i64 x0),.ref 0]⟩,.one ⟨true,[.ref 1,.ref 2]⟩,.one ⟨false,[.val (.int .i64 x1)]⟩],[.row false 2 (.int .i64) x2,.row false 2 (.int .i64) x3,.row false 2 (.int .i64) x4]=>some ⟨.one ⟨false,[.val (.bool (sJ x0 x1 x2 x3 x4))]⟩,[.row false 2 OO x2,.row false 2 OO x3,.row false 2 OO x4],[],[sK x0 x1 x2 x3 x4]⟩
 |_,_=>none
def Dy:PF prog:=PF.ofG prog [] [] cf 138 f138 func138 (fun c _=>LOk.nil c) vZ (by
 intro vs es r h;unfold vZ at h;split at h
 ·cases h;kernel_rfl
 ·cases h)
abbrev dz:=Int×Int×List Int×List Int
section
variable (y0 y1:Int)(y2 y3:List Int)
def gc:List Int:= [Jq (↑(va y1 y3 y0):Int) 1 (↑(va y1 y3 y0):Int) 1]
def kL:Bool:=ltI y0 y1
def kM:Bool:=isT y1 y3
def kN:Bool:=leN (List.length y2 + List.length (gc y0 y1 y3)) 9223372036854775807
def kO:Bool:=leN ((List.length y2 + List.length (gc y0 y1 y3)) * 8) 140737488355328
def kP:Int:=IntKind.wrap .i64 (y0 + (1:Int))
def kQ:List Int:=y2++gc y0 y1 y3
end
def zC:dz→List (Nat×SV)
 |(y0,_,_,_)=> [(8,(.one ⟨false,[.val (.int .i64 y0)]⟩)),(3,(.one ⟨false,[.ptr 0 0]⟩)),(7,(.one ⟨false,[.ref 1]⟩))]
def zw:dz→List (Nat×Entry)
 |(_,y1,y2,y3)=> [(0,(.box 26 [.val (.int .i64 y1),.ref 2])),(2,(.row false 2 OO y3)),(1,(.row true 2 OO y2))]
def zM:Nat→dz→List (Nat×SV)
 |_,(_,_,_,_)=> [(7,(.one ⟨false,[.ref 1]⟩))]
def zH:Nat→dz→List (Nat×Entry)
 |_,(_,y1,y2,y3)=> [(0,(.box 26 [.val (.int .i64 y1),.ref 2])),(1,(.row true 2 OO y2)),(2,(.row false 2 OO y3))]
def jX:dz→LT dz
 |(y0,y1,y2,y3)=> .ite (kL y0 y1) (.need [kM y1 y3,kN y0 y1 y2 y3,kO y0 y1 y2 y3] (.nrm ((kP y0),y1,kQ y0 y1 y2 y3,y3) [(0,0),(1,704),(2,2)])) (.ext 0 [(0,0),(1,1),(2,2)])
def px(s:St):Option dz:=
 (match s.look 8 with
 |some ⟨none,.one ⟨false,[.val (.int .i64 y0)]⟩⟩=>
 (match s.look 3 with
 |some ⟨none,.one ⟨false,[.ptr 192 0]⟩⟩=>
 (match s.look 7 with
 |some ⟨none,.one ⟨false,[.ref 320]⟩⟩=>
 (match s.ent 192 with
 |some (.box 26 [.val (.int .i64 y1),.ref 0])=>
 (match s.ent 0 with
 |some (.row false 2 (.int .i64) y3)=>
 (match s.ent 320 with
 |some (.row true 2 (.int .i64) y2)=>
 some (y0,y1,y2,y3)
 |_=>none)
 |_=>none)
 |_=>none)
 |_=>none)
 |_=>none)
 |_=>none)
def aZ:Lp dz where
 h:=⟨[11,12,13,14,17,18,19,20,21,22,23,7,15,16,8],[0,2],[1],[]⟩
 JL:=zC
 JE:=zw
 XL:=zM
 XE:=zH
 q:=fun j=>match j with | _=> .exit 0
 tags:= [0]
 lt:=jX
 fuel:=fun(y0,y1,y2,y3)=>y0.natAbs + y1.natAbs + y2.length + y3.length
 fix:=fun(_,y1,_,y3) (y0,_,y2,_)=>(y0,y1,y2,y3)
 σ:= [(0,192),(2,0),(1,320)]
 rd:=px
theorem xL:LoopOk prog (fun k=>Nat.blt k Try.f161.ntmps) aZ.F (cD f161 0):=by
 refine Lp.ok (tbl:= (T3z [dg])) (lf:= []) cf aZ (by kernel_rfl) (LOk.nil _) (fun _=>rfl) (fun _ _=>rfl) ?_ ?_ ?_ ?_ (fun _=>rfl) ?_
 ·rintro⟨y0,y1,y2,y3⟩;kernel_rfl
 ·rintro⟨y0,y1,y2,y3⟩;kernel_rfl
 ·intro s x h
  have h:px s=some x:=h
  unfold px at h
  repeat' split at h
  all_goals cases h
  constructor<;>repeat(first|refine ah (by assumption) rfl ?_|refine ar rfl (by assumption) rfl ?_|exact rfl)
 ·rintro⟨y0,y1,y2,y3⟩;kernel_rfl
 ·rintro⟨y0,y1,y2,y3⟩ z;exact(And.intro rfl trivial)
abbrev dA:=Int×Int×List (Int×(Int×Int))×List Int
section
variable (y0 y1:Int)(y2:List (Int×(Int×Int)))(y3:List Int)
def dd:Int×Int×Int:=Option.getD y2[Int.toNat y0]? ((0:Int),(0:Int),(0:Int))
def cC:Bool:=((dd y0 y2).2).1==y1
def iR:Bool:=ltI y0 (↑y2.length:Int)
def kR:Bool:=leI 0 y0
def kS:Bool:=ltN y0.toNat y2.length
def iS:Bool:= !cC y0 y1 y2||leI 0 y0
def iT:Bool:= !cC y0 y1 y2||ltI y0 (↑y2.length:Int)
def iU:Bool:= !cC y0 y1 y2||ltN y0.toNat y2.length
def kT:Bool:= !cC y0 y1 y2||leI 0 ((dd y0 y2).1)
def kU:Bool:= !cC y0 y1 y2||ltI ((dd y0 y2).1) (↑y3.length:Int)
def kV:Bool:= !cC y0 y1 y2||ltN (Int.toNat ((dd y0 y2).1)) y3.length
def kW:Int:=IntKind.wrap .i64 (y0 + (1:Int))
def jZ:List Int:=bif cC y0 y1 y2 then List.set y3 (Int.toNat ((dd y0 y2).1)) ((dd y0 y2).2.2)else y3
end
def zD:dA→List (Nat×SV)
 |(y0,y1,_,_)=> [(9,(.one ⟨false,[.val (.int .i64 y0)]⟩)),(1,(.one ⟨false,[.ref 0]⟩)),(2,(.one ⟨false,[.val (.int .i64 y1)]⟩)),(7,(.one ⟨false,[.ref 1]⟩))]
def zx:dA→List (Nat×Entry)
 |(_,_,y2,y3)=> [(0,(.row false 118 OL y2)),(1,(.row true 2 OO y3))]
def zN:Nat→dA→List (Nat×SV)
 |_,(_,_,_,_)=> []
def zI:Nat→dA→List (Nat×Entry)
 |_,(_,_,y2,y3)=> [(0,(.row false 118 OL y2)),(1,(.row true 2 OO y3))]
def jY:dA→LT dA
 |(y0,y1,y2,y3)=> .ite (iR y0 y2) (.need [kR y0,iR y0 y2,kS y0 y2] (.need [iS y0 y1 y2,iT y0 y1 y2,iU y0 y1 y2,iS y0 y1 y2,iT y0 y1 y2,iU y0 y1 y2,kT y0 y1 y2,kU y0 y1 y2 y3,kV y0 y1 y2 y3] (.nrm ((kW y0),y1,y2,(jZ y0 y1 y2 y3)) [(0,0),(1,1)]))) (.ext 0 [(0,0),(1,1)])
def py(s:St):Option dA:=
 (match s.look 9 with
 |some ⟨none,.one ⟨false,[.val (.int .i64 y0)]⟩⟩=>
 (match s.look 1 with
 |some ⟨none,.one ⟨false,[.ref 1]⟩⟩=>
 (match s.look 2 with
 |some ⟨none,.one ⟨false,[.val (.int .i64 y1)]⟩⟩=>
 (match s.look 7 with
 |some ⟨none,.one ⟨false,[.ref 512]⟩⟩=>
 (match s.ent 1 with
 |some (.row false 118 (.pair (.int .i64) (.pair (.int .i64) (.int .i64))) y2)=>
 (match s.ent 512 with
 |some (.row true 2 (.int .i64) y3)=>
 some (y0,y1,y2,y3)
 |_=>none)
 |_=>none)
 |_=>none)
 |_=>none)
 |_=>none)
 |_=>none)
def bp:Lp dA where
 h:=⟨[24,25,26,27,30,31,32,33,34,35,36,37,38,39,40,41,42,43,44,45,46,47,48,28,29,9],[0,1],[],[]⟩
 JL:=zD
 JE:=zx
 XL:=zN
 XE:=zI
 q:=fun j=>match j with | _=> .exit 2
 tags:= [0]
 lt:=jY
 fuel:=fun(y0,y1,y2,y3)=>y0.natAbs + y1.natAbs + y2.length + y3.length
 fix:=fun(_,y1,y2,_) (y0,_,_,y3)=>(y0,y1,y2,y3)
 σ:= [(0,1),(1,512)]
 rd:=py
theorem xM:LoopOk prog (fun k=>Nat.blt k Try.f161.ntmps) bp.F (cD f161 1):=by
 refine Lp.ok (tbl:= (T3z [dg])) (lf:= []) cf bp (by kernel_rfl) (LOk.nil _) (fun _=>rfl) (fun _ _=>rfl) ?_ ?_ ?_ ?_ (fun _=>rfl) ?_
 ·rintro⟨y0,y1,y2,y3⟩;kernel_rfl
 ·rintro⟨y0,y1,y2,y3⟩;kernel_rfl
 ·intro s x h
  have h:py s=some x:=h
  unfold py at h
  repeat' split at h
  all_goals cases h
  constructor<;>repeat(first|refine ah (by assumption) rfl ?_|refine ar rfl (by assumption) rfl ?_|exact rfl)
 ·rintro⟨y0,y1,y2,y3⟩;kernel_rfl
 ·rintro⟨y0,y1,y2,y3⟩ z;exact(And.intro rfl trivial)
section
variable (x0 x1:Int)(x2:List Int)(x3:List (Int×Int×Int))
def mO:Int×Int×List Int×List Int:=((0:Int),x0,[],x2)
def mP:Int×Int×List (Int×Int×Int)×List Int:=((0:Int),x1,x3,((Lp.res aZ (mO x0 x2)).2.2.2).1)
def nD:List Int:=(Lp.res bp (mP x0 x1 x2 x3)).2.2.2.2
def nE:Bool:=allT [Lp.fin aZ (mO x0 x2),Lp.fin bp (mP x0 x1 x2 x3)]
end
def vY:List SV→List Entry→Option Out
 | [.one ⟨true,[.val (.int .i64 x0),.ref 0]⟩,.one ⟨false,[.ref 1]⟩,.one ⟨false,[.val (.int .i64 x1)]⟩],[.row false 2 (.int .i64) x2,.row false 118 (.pair (.int .i64) (.pair (.int .i64) (.int .i64))) x3]=>some ⟨.one ⟨false,[.ref 2]⟩,[.row false 2 OO x2,.row false 118 OL x3],[.row true 2 OO (nD x0 x1 x2 x3)],[nE x0 x1 x2 x3]⟩
 |_,_=>none
def sy:PF prog:=PF.ofG prog (T3z [dg]) [aZ.F,bp.F] cf 161 f161 func161 (LOk.fnT (l:= [cD f161 0,cD f161 1]) (by kernel_rfl) (.cons xL (.cons xM (.nil _)))) vY (by
 intro vs es r h;unfold vY at h;split at h
 ·cases h;kernel_rfl
 ·cases h)
section
variable (x0:Int)(x1:List Int)(x2:List (Int×Int×Int))
def xY:List Int:=nD x0 0 x1 x2
def xZ:List Int:=nD x0 1 x1 x2
def tJ:Bool:=allT [nE x0 0 x1 x2,nE x0 1 x1 x2]
end
def wU:List SV→List Entry→Option Out
 | [.one ⟨true,[.val (.int .i64 x0),.ref 0]⟩,.one ⟨false,[.ref 1]⟩],[.row false 2 (.int .i64) x1,.row false 118 (.pair (.int .i64) (.pair (.int .i64) (.int .i64))) x2]=>some ⟨.one ⟨true,[.ref 2,.ref 3]⟩,[.row false 2 OO x1,.row false 118 OL x2],[.row true 2 OO (xY x0 x1 x2),.row true 2 OO (xZ x0 x1 x2)],[tJ x0 x1 x2]⟩
 |_,_=>none
def Es:PF prog:=PF.ofG prog (T3z [sy]) [] cf 139 f139 func139 (fun c _=>LOk.nil c) wU (by
 intro vs es r h;unfold wU at h;split at h
 ·cases h;kernel_rfl
 ·cases h)
abbrev ep:=Int×Int×List Int×List Int
section
variable (y0 y1:Int)(y2 y3:List Int)
def jG:Int:=Option.getD y2[Int.toNat y0]? 0
def ma:Bool:=ltI y0 y1
def kd:Bool:=leI 0 y0
def mb:Bool:=ltI y0 (↑y2.length:Int)
def mc:Bool:=ltN y0.toNat y2.length
def md:Bool:=ltI y0 (↑y3.length:Int)
def me:Bool:=ltN y0.toNat y3.length
def mf:Int:=IntKind.wrap .i64 (y0 + (1:Int))
def mg:List Int:=List.set y3 y0.toNat (Jq 1 (jG y0 y2) 1 (jG y0 y2))
end
def Br:ep→List (Nat×SV)
 |(y0,y1,_,_)=> [(17,(.one ⟨false,[.val (.int .i64 y0)]⟩)),(16,(.one ⟨false,[.val (.int .i64 y1)]⟩)),(15,(.one ⟨false,[.ref 0]⟩)),(5,(.one ⟨false,[.ref 1]⟩))]
def Bm:ep→List (Nat×Entry)
 |(_,_,y2,y3)=> [(0,(.row true 2 OO y2)),(1,(.row true 2 OO y3))]
def BC:Nat→ep→List (Nat×SV)
 |_,(_,_,_,_)=> []
def Bw:Nat→ep→List (Nat×Entry)
 |_,(_,_,y2,y3)=> [(0,(.row true 2 OO y2)),(1,(.row true 2 OO y3))]
def lr:ep→LT ep
 |(y0,y1,y2,y3)=> .ite (ma y0 y1) (.need [kd y0,mb y0 y2,mc y0 y2] (.need [kd y0,md y0 y3,me y0 y3] (.nrm ((mf y0),y1,y2,(mg y0 y2 y3)) [(0,0),(1,1)]))) (.ext 0 [(0,0),(1,1)])
def rc(s:St):Option ep:=
 (match s.look 17 with
 |some ⟨none,.one ⟨false,[.val (.int .i64 y0)]⟩⟩=>
 (match s.look 16 with
 |some ⟨none,.one ⟨false,[.val (.int .i64 y1)]⟩⟩=>
 (match s.look 15 with
 |some ⟨none,.one ⟨false,[.ref 640]⟩⟩=>
 (match s.look 5 with
 |some ⟨none,.one ⟨false,[.ref 448]⟩⟩=>
 (match s.ent 640 with
 |some (.row true 2 (.int .i64) y2)=>
 (match s.ent 448 with
 |some (.row true 2 (.int .i64) y3)=>
 some (y0,y1,y2,y3)
 |_=>none)
 |_=>none)
 |_=>none)
 |_=>none)
 |_=>none)
 |_=>none)
def bJ:Lp ep where
 h:=⟨[18,19,20,21,6,7,22,23,24,25,26,27,17],[0,1],[],[]⟩
 JL:=Br
 JE:=Bm
 XL:=BC
 XE:=Bw
 q:=fun j=>match j with | _=> .exit 0
 tags:= [0]
 lt:=lr
 fuel:=fun(y0,y1,y2,y3)=>y0.natAbs + y1.natAbs + y2.length + y3.length
 fix:=fun(_,y1,y2,_) (y0,_,_,y3)=>(y0,y1,y2,y3)
 σ:= [(0,640),(1,448)]
 rd:=rc
theorem zR:LoopOk prog (fun k=>Nat.blt k Try.f141.ntmps) bJ.F (cD f141 0):=by
 refine Lp.ok (tbl:= (T3z [aH,aX])) (lf:= []) cf bJ (by kernel_rfl) (LOk.nil _) (fun _=>rfl) (fun _ _=>rfl) ?_ ?_ ?_ ?_ (fun _=>rfl) ?_
 ·rintro⟨y0,y1,y2,y3⟩;kernel_rfl
 ·rintro⟨y0,y1,y2,y3⟩;kernel_rfl
 ·intro s x h
  have h:rc s=some x:=h
  unfold rc at h
  repeat' split at h
  all_goals cases h
  constructor<;>repeat(first|refine ah (by assumption) rfl ?_|refine ar rfl (by assumption) rfl ?_|exact rfl)
 ·rintro⟨y0,y1,y2,y3⟩;kernel_rfl
 ·rintro⟨y0,y1,y2,y3⟩ z;exact(And.intro rfl trivial)
abbrev eq:=Int×Int×List (Int×(Int×Int))×List Int×List Int
section
variable (y0 y1:Int)(y2:List (Int×(Int×Int)))(y3 y4:List Int)
def bI:Int×Int×Int:=Option.getD y2[Int.toNat y0]? ((0:Int),(0:Int),(0:Int))
def cG:Bool:=((bI y0 y2).2).1==0
def jH:Bool:=leI 0 ((bI y0 y2).1)
def mh:Bool:=ltI y0 y1
def mi:Bool:=leI 0 y0
def mj:Bool:=ltI y0 (↑y2.length:Int)
def ml:Bool:=ltN y0.toNat y2.length
def mm:Bool:= !cG y0 y2||jH y0 y2
def mn:Bool:= !cG y0 y2||ltI ((bI y0 y2).1) (↑y3.length:Int)
def mo:Bool:= !cG y0 y2||ltN (Int.toNat ((bI y0 y2).1)) y3.length
def mp:Bool:=cG y0 y2||jH y0 y2
def mq:Bool:=cG y0 y2||ltI ((bI y0 y2).1) (↑y4.length:Int)
def mr:Bool:=cG y0 y2||ltN (Int.toNat ((bI y0 y2).1)) y4.length
def ln:Int:=IntKind.wrap .i64 (y0 + (1:Int))
def lp:List Int:=bif cG y0 y2 then List.set y3 (Int.toNat ((bI y0 y2).1)) ((bI y0 y2).2.2)else y3
def lq:List Int:=bif cG y0 y2 then y4 else List.set y4 (Int.toNat ((bI y0 y2).1)) ((bI y0 y2).2.2)
end
def Bs:eq→List (Nat×SV)
 |(y0,y1,_,_,_)=> [(34,(.one ⟨false,[.val (.int .i64 y0)]⟩)),(33,(.one ⟨false,[.val (.int .i64 y1)]⟩)),(32,(.one ⟨false,[.ref 0]⟩)),(8,(.one ⟨false,[.ptr 1 0]⟩))]
def Bn:eq→List (Nat×Entry)
 |(_,_,y2,y3,y4)=> [(0,(.row false 118 OL y2)),(1,(.box 151 [.ref 2,.ref 3])),(2,(.row true 2 OO y3)),(3,(.row true 2 OO y4))]
def BD:Nat→eq→List (Nat×SV)
 |_,(_,_,_,_,_)=> []
def Bx:Nat→eq→List (Nat×Entry)
 |_,(_,_,y2,y3,y4)=> [(0,(.row false 118 OL y2)),(1,(.box 151 [.ref 2,.ref 3])),(2,(.row true 2 OO y3)),(3,(.row true 2 OO y4))]
def ls:eq→LT eq
 |(y0,y1,y2,y3,y4)=> .ite (mh y0 y1) (.need [mi y0,mj y0 y2,ml y0 y2] (.need [mm y0 y2,mn y0 y2 y3,mo y0 y2 y3,mp y0 y2,mq y0 y2 y4,mr y0 y2 y4] (.nrm ((ln y0),y1,y2,lp y0 y2 y3,(lq y0 y2 y4)) [(0,0),(1,1),(2,2),(3,3)]))) (.ext 0 [(0,0),(1,1),(2,2),(3,3)])
def re(s:St):Option eq:=
 (match s.look 34 with
 |some ⟨none,.one ⟨false,[.val (.int .i64 y0)]⟩⟩=>
 (match s.look 33 with
 |some ⟨none,.one ⟨false,[.val (.int .i64 y1)]⟩⟩=>
 (match s.look 32 with
 |some ⟨none,.one ⟨false,[.ref 1]⟩⟩=>
 (match s.look 8 with
 |some ⟨none,.one ⟨false,[.ptr 1152 0]⟩⟩=>
 (match s.ent 1 with
 |some (.row false 118 (.pair (.int .i64) (.pair (.int .i64) (.int .i64))) y2)=>
 (match s.ent 1152 with
 |some (.box 151 [.ref 448,.ref 1024])=>
 (match s.ent 448 with
 |some (.row true 2 (.int .i64) y3)=>
 (match s.ent 1024 with
 |some (.row true 2 (.int .i64) y4)=>
 some (y0,y1,y2,y3,y4)
 |_=>none)
 |_=>none)
 |_=>none)
 |_=>none)
 |_=>none)
 |_=>none)
 |_=>none)
 |_=>none)
def bK:Lp eq where
 h:=⟨[35,36,37,10,38,39,40,41,42,43,44,45,46,47,48,49,50,51,52,53,54,55,34],[0,1,2,3],[],[]⟩
 JL:=Bs
 JE:=Bn
 XL:=BD
 XE:=Bx
 q:=fun j=>match j with | _=> .exit 2
 tags:= [0]
 lt:=ls
 fuel:=fun(y0,y1,y2,y3,y4)=>y0.natAbs + y1.natAbs + y2.length + y3.length + y4.length
 fix:=fun(_,y1,y2,_,_) (y0,_,_,y3,y4)=>(y0,y1,y2,y3,y4)
 σ:= [(0,1),(1,1152),(2,448),(3,1024)]
 rd:=re
theorem zS:LoopOk prog (fun k=>Nat.blt k Try.f141.ntmps) bK.F (cD f141 1):=by
 refine Lp.ok (tbl:= (T3z [aH,aX])) (lf:= []) cf bK (by kernel_rfl) (LOk.nil _) (fun _=>rfl) (fun _ _=>rfl) ?_ ?_ ?_ ?_ (fun _=>rfl) ?_
 ·rintro⟨y0,y1,y2,y3,y4⟩;kernel_rfl
 ·rintro⟨y0,y1,y2,y3,y4⟩;kernel_rfl
 ·intro s x h
  have h:re s=some x:=h
  unfold re at h
  repeat' split at h
  all_goals cases h
  constructor<;>repeat(first|refine ah (by assumption) rfl ?_|refine ar rfl (by assumption) rfl ?_|exact rfl)
 ·rintro⟨y0,y1,y2,y3,y4⟩;kernel_rfl
 ·rintro⟨y0,y1,y2,y3,y4⟩ z;exact(And.intro rfl trivial)
section
variable (x0:Int)(x1:List Int)(x2:List (Int×Int×Int))
def qE:Int×Int×List Int×List Int:=((0:Int),(↑(List.length (jb x0 x1)):Int),jb x0 x1,List.replicate x0.toNat (0:Int))
def lQ:List Int:=(Lp.res bJ (qE x0 x1)).2.2.2.2
def oi:Int×Int×List (Int×Int×Int)×List Int×List Int:=((0:Int),(↑x2.length:Int),x2,lQ x0 x1,lQ x0 x1)
def qF:List Int×List Int:=(Lp.res bK (oi x0 x1 x2)).2.2.2.2
def ux:List Int:=(qF x0 x1 x2).1
def uy:List Int:=(qF x0 x1 x2).2
def uz:Bool:=allT [leI 0 x0,leI x0 x0,leI ((↑(8:Nat):Int) * x0) 281474976710656,leI x0 9223372036854775807,isT x0 x1,Lp.fin bJ (qE x0 x1),leN 1 (List.length (lQ x0 x1))&&leN (List.length (lQ x0 x1)) 1048576,Lp.fin bK (oi x0 x1 x2)]
end
def zg:List SV→List Entry→Option Out
 | [.one ⟨true,[.val (.int .i64 x0),.ref 0]⟩,.one ⟨false,[.ref 1]⟩],[.row false 2 (.int .i64) x1,.row false 118 (.pair (.int .i64) (.pair (.int .i64) (.int .i64))) x2]=>some ⟨.one ⟨true,[.ref 2,.ref 3]⟩,[.row false 2 OO x1,.row false 118 OL x2],[.row true 2 OO (ux x0 x1 x2),.row true 2 OO (uy x0 x1 x2)],[uz x0 x1 x2]⟩
 |_,_=>none
def Fq:PF prog:=PF.ofG prog (T3z [aH,aX]) [bJ.F,bK.F] cf 141 f141 func141 (LOk.fnT (l:= [cD f141 0,cD f141 1]) (by kernel_rfl) (.cons zR (.cons zS (.nil _)))) zg (by
 intro vs es r h;unfold zg at h;split at h
 ·cases h;kernel_rfl
 ·cases h)
section
variable (x0:Int)(x1 x2:List Int)
def cg:Bool:=Option.getD x1[Int.toNat x0]? 0==0
def fE:Bool:=bif cg x0 x1 then Option.getD x2[Int.toNat x0]? 0==0 else false
def fG:Bool:=allT [leI 0 x0,ltI x0 (↑x1.length:Int),ltN x0.toNat x1.length,!(cg x0 x1&&true)||leI 0 x0,!(cg x0 x1&&true)||ltI x0 (↑x2.length:Int),!(cg x0 x1&&true)||ltN x0.toNat x2.length]
end
def jL:List SV→List Entry→Option Out
 | [.one ⟨true,[.ref 0,.ref 1]⟩,.one ⟨false,[.val (.int .i64 x0)]⟩],[.row false 2 (.int .i64) x1,.row false 2 (.int .i64) x2]=>some ⟨.one ⟨false,[.val (.bool (fE x0 x1 x2))]⟩,[.row false 2 OO x1,.row false 2 OO x2],[],[fG x0 x1 x2]⟩
 |_,_=>none
def fJ:PF prog:=PF.ofG prog [] [] cf 165 f165 func165 (fun c _=>LOk.nil c) jL (by
 intro vs es r h;unfold jL at h;split at h
 ·cases h;kernel_rfl
 ·cases h)
section
variable (x0 x1:Int)(x2 x3 x4:List Int)
def du:Int:=Option.getD x4[Int.toNat x1]? 0
def ci:Bool:=Int.tmod (du x1 x4) 3!=1
def dv:Int:=Int.tmod (IntKind.wrap .i64 (IntKind.wrap .i64 (Int.tdiv (du x1 x4) 3) + (1:Int))) x0
def fH:Bool:=bif ci x1 x4 then true else fE (dv x0 x1 x4) x2 x3
def fI:Bool:=allT [leI 0 x1,ltI x1 (↑x4.length:Int),ltN x1.toNat x4.length,!(!ci x1 x4&&true)||neI 3 0,!(!ci x1 x4&&true)||neI x0 0,!(!ci x1 x4&&true)||fG (dv x0 x1 x4) x2 x3]
end
def jM:List SV→List Entry→Option Out
 | [.one ⟨true,[.ref 0,.ref 1]⟩,.one ⟨true,[.val (.int .i64 x0),.ref 2]⟩,.one ⟨false,[.val (.int .i64 x1)]⟩],[.row false 2 (.int .i64) x2,.row false 2 (.int .i64) x3,.row false 2 (.int .i64) x4]=>some ⟨.one ⟨false,[.val (.bool (fH x0 x1 x2 x3 x4))]⟩,[.row false 2 OO x2,.row false 2 OO x3,.row false 2 OO x4],[],[fI x0 x1 x2 x3 x4]⟩
 |_,_=>none
def pb:PF prog:=PF.ofG prog (T3z [fJ]) [] cf 142 f142 func142 (fun c _=>LOk.nil c) jM (by
 intro vs es r h;unfold jM at h;split at h
 ·cases h;kernel_rfl
 ·cases h)
def occ(c:Int):Int:=bif ltI c 1 then c else 1
def Hd(ch:Int)(l:List Int)(f:Int×Int×Int):List Int:=bif f.2.1==ch then l.set f.1.toNat f.2.2 else l
def BU(n:Int)(ps:List Int):List Int:=(List.range n.toNat).map fun(b:Nat)=>occ (va n ps (b:Int):Int)
def il(n:Int)(ps:List Int)(fs:List (Int×Int×Int))(ch:Int):List Int:=fs.foldl (Hd ch) (BU n ps)
def JM(n:Int)(a:List Int):Bool:=eqI (a.length:Int) n&&a.all fun v=>inR v 0 1
theorem JT(ch:Int)(l:List Int)(f:Int×Int×Int):(Hd ch l f).length=l.length:=by
 unfold Hd;cases f.2.1==ch <;> simp
theorem sd(n:Int)(ps:List Int):(BU n ps).length=n.toNat:=by simp [BU]
theorem xB(ch:Int): ∀ (fs:List (Int×Int×Int)) (l:List Int),(fs.foldl (Hd ch) l).length=l.length
 | [],l=>rfl
 |f::fs,l=>by rw [List.foldl_cons,xB ch fs,JT]
theorem Ic(n:Int)(ps:List Int)(fs:List (Int×Int×Int))(ch:Int):(il n ps fs ch).length=n.toNat:=by
 rw [il,xB,sd]
theorem Nt{n:Int}{fs:List (Int×Int×Int)}(h2:2≤n∧n≤8)(h:okFs n fs=true):fs.length≤8∧ ∀ f∈fs,(0≤f.1∧f.1 < n)∧(f.2.1=0∨f.2.1=1)∧(0≤f.2.2∧f.2.2≤1):=by
 simp only [okFs,Bool.and_eq_true,jP,List.all_eq_true,List.mem_range]at h
 refine⟨h.1,fun f hf=> ?_⟩
 obtain⟨b,hb,rfl⟩:=List.getElem_of_mem hf
 have h3:=h.2 b hb
 simp only [Bool.not_eq_true',Bool.or_eq_false_iff,GP,fAt,List.getElem?_eq_getElem hb,Option.getD_some,Bool.not_eq_false']at h3
 have h4:=h3.1
 simp only [fIn,Bool.and_eq_true,oT]at h4
 rw [bZ (by omega) (by omega)]at h4
 omega
def fV(n:Int)(f:Int×Int×Int):Bool:=(leI 0 f.1&&ltI f.1 n)&&((f.2.1==0||f.2.1==1)&&inR f.2.2 0 1)
def Cu(n:Int)(fs:List (Int×Int×Int)):Bool:=leN fs.length 1000&&fs.all (fV n)
theorem Ip{n:Int}{fs:List (Int×Int×Int)}(h:Cu n fs=true):fs.length≤1000∧ ∀ f∈fs,(0≤f.1∧f.1 < n)∧(f.2.1=0∨f.2.1=1)∧(0≤f.2.2∧f.2.2≤1):=by
 simp only [Cu,Bool.and_eq_true,jP,List.all_eq_true]at h
 refine⟨h.1,fun f hf=> ?_⟩
 have h3:=h.2 f hf
 simp only [fV,Bool.and_eq_true,Bool.or_eq_true,beq_iff_eq,oT,yP,Iu]at h3
 exact h3
theorem Fz{n:Int}{fs:List (Int×Int×Int)}(h2:2≤n∧n≤8)(h:okFs n fs=true):Cu n fs=true:=by
 obtain⟨hl,hf⟩:=Nt h2 h
 simp only [Cu,Bool.and_eq_true,jP,List.all_eq_true]
 refine⟨by omega,fun f hm=> ?_⟩
 simp only [fV,Bool.and_eq_true,Bool.or_eq_true,beq_iff_eq,oT,yP,Iu]
 exact hf f hm
theorem Hv{B C:Type}(g:B→C): ∀ (r:List B) (a:List C),r.foldl (fun a b=>a++ [g b]) a=a++r.map g
 | [],a=>by simp
 |b::r,a=>by rw [List.foldl_cons,Hv g r];simp
theorem Oq(c:Int):Jq c 1 c 1=occ c:=by simp [occ]
theorem Or(c:Int):Jq 1 c 1 c=occ c:=by
 simp only [Nf,occ]
 cases h:ltI 1 c <;> cases h':ltI c 1 <;> simp at h h' ⊢ <;> omega
def fj(y1:Int)(y3:List Int)(b:Nat):(List Int)→Nat ⊕ (List Int)
 |y2=>(.inr (y2++([Jq (↑(va y1 y3 (↑b:Int)):Int) 1 (↑(va y1 y3 (↑b:Int)):Int) 1])))
def eM(y1:Int)(y3:List Int)(i:Nat):(List Int)→dz
 |y2=>((i:Int),y1,y2,y3)
def pq:dz→List Int
 |(_,_,y2,_)=>y2
theorem AX(y1:Int)(y3 y2:List Int)(hn:y1≤9223372036854775807)(hT:isT y1 y3=true)(h0:y2= []):
  aZ.fin ((0:Int),y1,y2,y3)=true∧aZ.res ((0:Int),y1,y2,y3)=((aN (fj y1 y3) 0 (List.range y1.toNat) 0 y2).1,(eM y1 y3) (aN (fj y1 y3) 0 (List.range y1.toNat) 0 y2).2.1 (aN (fj y1 y3) 0 (List.range y1.toNat) 0 y2).2.2):=by
 have im:=aZ.along (eM y1 y3) pq (fj y1 y3) 0 (fun i a=>a.length≤i) (List.range y1.toNat) y2 (by subst h0;simp) (by simp only [aZ,eM,List.length_range];omega) (fun i b a hb hI=> ?_) (fun a hI=> ?_)
 ·exact im
 ·obtain y2:=a
  obtain⟨rfl,dw⟩:=lS hb
  have hw:IntKind.i64.wrap ((b:Int) + 1)=((b + 1:Nat):Int):=by rw [bZ (by omega) (by omega)];omega
  have gq:ltI (b:Int) y1=true:=io (by omega)
  have rZ:leI (0:Int) (b:Int)=true:=jg (by omega)
  refine⟨?_,?_,?_,?_⟩
  ·have h4:=(ij.1 hT).1
   simp [gc,kL,kM,kN,kO,kP,kQ,jX,aZ,LT.nds,allT,eM,gq,hT]
   omega
  ·simp [gc,kL,kM,kN,kO,kP,kQ,jX,aZ,LT.each,eM,pq,hw]
  ·simp only [gc,kL,kM,kN,kO,kP,kQ,jX,aZ,LT.fn,eM,pq,fj,Int.toNat_natCast,gq,rZ,cond_true,Bool.cond_self]
  ·intro a' hf;simp only [fj,Sum.inr.injEq]at hf;subst hf;simp;omega
 ·obtain y2:=a
  simp only [gc,kL,kM,kN,kO,kP,kQ,jX,aZ,LT.out,eM,List.length_range,Be,Do,cond_false]
def gv(y1:Int)(b:Int×(Int×Int)):(List Int)→Nat ⊕ (List Int)
 |y3=>(.inr (bif(b.2.1==y1)then List.set y3 (Int.toNat b.1) b.2.2else y3))
def eN(y1:Int)(y2:List (Int×(Int×Int)))(i:Nat):(List Int)→dA
 |y3=>((i:Int),y1,y2,y3)
def pt:dA→List Int
 |(_,_,_,y3)=>y3
theorem AY(y1:Int)(y2:List (Int×(Int×Int)))(y3:List Int)(hn:y2.length≤9223372036854775807)(n:Nat)(h3:y3.length=n)(hf: ∀ f∈y2,0≤f.1∧f.1 < (n:Int)):
  bp.fin ((0:Int),y1,y2,y3)=true∧bp.res ((0:Int),y1,y2,y3)=((aN (gv y1) 0 y2 0 y3).1,(eN y1 y2) (aN (gv y1) 0 y2 0 y3).2.1 (aN (gv y1) 0 y2 0 y3).2.2):=by
 have im:=bp.along (eN y1 y2) pt (gv y1) 0 (fun _ a=>a.length=n) y2 y3 h3 (by simp only [bp,eN];omega) (fun i b a hb hI=> ?_) (fun a hI=> ?_)
 ·exact im
 ·obtain y3:=a
  have dw:=(List.getElem?_eq_some_iff.1 hb).1
  have iC: ∀ d,Option.getD y2[i]? d=b:=fun d=>by rw [hb];rfl
  have hw:=uD dw hn
  have gq:ltI (i:Int) (y2.length:Int)=true:=io (by omega)
  have rZ:leI (0:Int) (i:Int)=true:=jg (by omega)
  have lh:ltN i y2.length=true:=kG dw
  refine⟨?_,?_,?_,?_⟩
  ·have h5:=hf b (List.mem_of_getElem? hb)
   have h6:leI 0 b.1=true:=jg h5.1
   have h7:ltI b.1 (a.length:Int)=true:=io (by omega)
   have h8:ltN b.1.toNat a.length=true:=kG (by omega)
   simp only [dd,cC,iR,kR,kS,iS,iT,iU,kT,kU,kV,kW,jZ,jY,bp,LT.nds,allT,eN,Int.toNat_natCast,gq,rZ,lh,iC,h6,h7,h8,Bool.or_true,cond_true]
  ·simp [dd,cC,iR,kR,kS,iS,iT,iU,kT,kU,kV,kW,jZ,jY,bp,LT.each,eN,pt,hw]
  ·simp only [dd,cC,iR,kR,kS,iS,iT,iU,kT,kU,kV,kW,jZ,jY,bp,LT.fn,eN,pt,gv,Int.toNat_natCast,gq,rZ,lh,iC,cond_true,Bool.cond_self]
  ·intro a' hf;simp only [gv,Sum.inr.injEq]at hf;subst hf;cases b.2.1==y1 <;> simpa using hI
 ·obtain y3:=a
  simp [dd,cC,iR,kR,kS,iS,iT,iU,kT,kU,kV,kW,jZ,jY,bp,LT.out,eN]
theorem Ff(n ch:Int)(ps:List Int)(fs:List (Int×Int×Int))(hT:isT n ps=true)(hF:Cu n fs=true):
  nD n ch ps fs=il n ps fs ch∧nE n ch ps fs=true:=by
 have h2:=(ij.1 hT).1
 obtain⟨hl,hf⟩:=Ip hF
 obtain⟨w1,w2⟩:=AX n ps [] (by omega) hT rfl
 rw [oL (f:=fj n ps) (g:=fun a b=>a++ [occ (va n ps ((b:Nat):Int):Int)]) (fun b a=>by simp only [fj,Oq]),Hv]at w2
 have e1:((Lp.res aZ (mO n ps)).2.2.2).1=BU n ps:=by
  simp only [mO,w2,eM,List.nil_append];rfl
 obtain⟨v1,v2⟩:=AY ch fs (BU n ps) (by omega) n.toNat (sd n ps) (fun f hm=>by have:=(hf f hm).1;omega)
 rw [oL (f:=gv ch) (g:=Hd ch) (fun b a=>rfl)]at v2
 refine⟨?_,?_⟩
 ·simp only [nD,mP,e1,v2,eN];rfl
 ·have v3:Lp.fin bp (mP n ch ps fs)=true:=by rw [mP,e1];exact v1
  have w3:Lp.fin aZ (mO n ps)=true:=w1
  simp only [nE,v3,w3,allT,cond_true]
theorem Hf(n:Int)(ps:List Int)(fs:List (Int×Int×Int))(h:(isT n ps&&Cu n fs)=true):
  xY n ps fs=il n ps fs 0∧xZ n ps fs=il n ps fs 1∧tJ n ps fs=true:=by
 simp only [Bool.and_eq_true]at h
 obtain⟨a1,a2⟩:=Ff n 0 ps fs h.1 h.2
 obtain⟨b1,b2⟩:=Ff n 1 ps fs h.1 h.2
 exact⟨a1,b1,by simp only [tJ,a2,b2,allT,cond_true]⟩
def xo:List SV→List Entry→Option Out
 | [.one ⟨true,[.val (.int .i64 x0),.ref 0]⟩,.one ⟨false,[.ref 1]⟩],[.row false 2 (.int .i64) x1,.row false 118 (.pair (.int .i64) (.pair (.int .i64) (.int .i64))) x2]=>some ⟨.one ⟨true,[.ref 2,.ref 3]⟩,[.row false 2 OO x1,.row false 118 OL x2],[.row true 2 OO (il x0 x1 x2 0),.row true 2 OO (il x0 x1 x2 1)],[isT x0 x1&&Cu x0 x2]⟩
 |_,_=>none
def gK:PF prog:=PF.alt Es xo (by
 intro args es o h bh;unfold xo at h;split at h
 ·rename_i x0 x1 x2
  cases h
  have bh:=gR bh
  have hh:=Hf x0 x1 x2 bh
  obtain⟨e0,e1,en⟩:=hh
  exact jT rfl (gA en) rfl rfl (by simp only [e0,e1] <;> rfl)
 ·cases h)
def gt(y2:List Int)(b:Nat):(List Int)→Nat ⊕ (List Int)
 |y3=>(.inr (List.set y3 b (Jq 1 (Option.getD y2[b]? 0) 1 (Option.getD y2[b]? 0))))
def fW(y2:List Int)(i:Nat):(List Int)→ep
 |y3=>((i:Int),(↑y2.length:Int),y2,y3)
def qX:ep→List Int
 |(_,_,_,y3)=>y3
theorem CH(y2 y3:List Int)(hn:y2.length≤9223372036854775807)(hl:y3.length=y2.length):
  bJ.fin ((0:Int),(↑y2.length:Int),y2,y3)=true∧bJ.res ((0:Int),(↑y2.length:Int),y2,y3)=((aN (gt y2) 0 (List.range y2.length) 0 y3).1,(fW y2) (aN (gt y2) 0 (List.range y2.length) 0 y3).2.1 (aN (gt y2) 0 (List.range y2.length) 0 y3).2.2):=by
 have im:=bJ.along (fW y2) qX (gt y2) 0 (fun _ a=>a.length=y2.length) (List.range y2.length) y3 hl (by simp only [bJ,fW,List.length_range];omega) (fun i b a hb hI=> ?_) (fun a hI=> ?_)
 ·exact im
 ·obtain y3:=a
  obtain⟨rfl,dw⟩:=lS hb
  have hw:IntKind.i64.wrap ((b:Int) + 1)=((b + 1:Nat):Int):=by rw [bZ (by omega) (by omega)];omega
  have gq:ltI (b:Int) (y2.length:Int)=true:=io (by omega)
  have rZ:leI (0:Int) (b:Int)=true:=jg (by omega)
  have lh:ltN b y2.length=true:=kG (by omega)
  refine⟨?_,?_,?_,?_⟩
  ·simp [jG,ma,kd,mb,mc,md,me,mf,mg,lr,bJ,LT.nds,allT,fW,gq,rZ,lh,hI]
  ·simp [jG,ma,kd,mb,mc,md,me,mf,mg,lr,bJ,LT.each,fW,qX,hw,hI]
  ·simp only [jG,ma,kd,mb,mc,md,me,mf,mg,lr,bJ,LT.fn,fW,qX,gt,Int.toNat_natCast,gq,cond_true]
  ·intro a' hf;simp only [gt,Sum.inr.injEq]at hf;subst hf;simpa using hI
 ·obtain y3:=a
  simp [jG,ma,kd,mb,mc,md,me,mf,mg,lr,bJ,LT.out,fW,List.length_range]
def ip(b:Int×(Int×Int)):(List Int×List Int)→Nat ⊕ (List Int×List Int)
 |(y3,y4)=>(.inr ((bif(b.2.1==0)then List.set y3 (Int.toNat b.1) b.2.2else y3),(bif(b.2.1==0)then y4 else List.set y4 (Int.toNat b.1) b.2.2)))
def fX(y2:List (Int×(Int×Int)))(i:Nat):(List Int×List Int)→eq
 |(y3,y4)=>((i:Int),(↑y2.length:Int),y2,y3,y4)
def qY:eq→List Int×List Int
 |(_,_,_,y3,y4)=>(y3,y4)
theorem CI(y2:List (Int×(Int×Int)))(y3 y4:List Int)(hn:y2.length≤9223372036854775807)(n:Nat)(h3:y3.length=n)(h4:y4.length=n)(hf: ∀ f∈y2,0≤f.1∧f.1 < (n:Int)):
  bK.fin ((0:Int),(↑y2.length:Int),y2,y3,y4)=true∧bK.res ((0:Int),(↑y2.length:Int),y2,y3,y4)=((aN (ip) 0 y2 0 (y3,y4)).1,(fX y2) (aN (ip) 0 y2 0 (y3,y4)).2.1 (aN (ip) 0 y2 0 (y3,y4)).2.2):=by
 have im:=bK.along (fX y2) qY (ip) 0 (fun _ a=>a.1.length=n∧a.2.length=n) y2 (y3,y4) ⟨h3,h4⟩ (by simp only [bK,fX];omega) (fun i b a hb hI=> ?_) (fun a hI=> ?_)
 ·exact im
 ·obtain⟨y3,y4⟩:=a
  have dw:=(List.getElem?_eq_some_iff.1 hb).1
  have iC: ∀ d,Option.getD y2[i]? d=b:=fun d=>by rw [hb];rfl
  have hw:=uD dw hn
  have gq:ltI (i:Int) (y2.length:Int)=true:=io (by omega)
  have rZ:leI (0:Int) (i:Int)=true:=jg (by omega)
  have lh:ltN i y2.length=true:=kG dw
  refine⟨?_,?_,?_,?_⟩
  ·have h5:=hf b (List.mem_of_getElem? hb)
   have hI1:=hI.1
   have hI2:=hI.2
   have h6:leI 0 b.1=true:=jg h5.1
   have h7:ltI b.1 (n:Int)=true:=io (by omega)
   have h8:ltN b.1.toNat n=true:=kG (by omega)
   simp only at hI1 hI2
   simp [bI,cG,jH,mh,mi,mj,ml,mm,mn,mo,mp,mq,mr,ln,lp,lq,ls,bK,LT.nds,allT,fX,gq,rZ,lh,iC,h6,h7,h8,hI1,hI2]
  ·simp [bI,cG,jH,mh,mi,mj,ml,mm,mn,mo,mp,mq,mr,ln,lp,lq,ls,bK,LT.each,fX,qY,hw]
  ·simp only [bI,cG,jH,mh,mi,mj,ml,mm,mn,mo,mp,mq,mr,ln,lp,lq,ls,bK,LT.fn,fX,qY,ip,Int.toNat_natCast,gq,rZ,lh,iC,cond_true,Bool.cond_self]
  ·intro a' hf;simp only [ip,Sum.inr.injEq]at hf;subst hf;have hI1:=hI.1;have hI2:=hI.2;cases b.2.1==0 <;> simpa using ⟨hI1,hI2⟩
 ·obtain⟨y3,y4⟩:=a
  simp [bI,cG,jH,mh,mi,mj,ml,mm,mn,mo,mp,mq,mr,ln,lp,lq,ls,bK,LT.out,fX]
theorem Hu: ∀ (fs:List (Int×Int×Int)) (a:List Int×List Int),(∀ f∈fs,f.2.1=0∨f.2.1=1)→
  fs.foldl (fun a f=>(bif f.2.1==0 then a.1.set f.1.toNat f.2.2 else a.1,bif f.2.1==0 then a.2 else a.2.set f.1.toNat f.2.2)) a=(fs.foldl (Hd 0) a.1,fs.foldl (Hd 1) a.2)
 | [],a,_=>rfl
 |f::fs,a,h=>by
  simp only [List.foldl_cons]
  rw [Hu fs _ (fun g hg=>h g (by simp [hg]))]
  rcases h f (by simp)with e | e <;> simp [Hd,e]
theorem GW(n:Int)(ps:List Int)(fs:List (Int×Int×Int))(h:(isT n ps&&Cu n fs)=true):
  ux n ps fs=il n ps fs 0∧uy n ps fs=il n ps fs 1∧uz n ps fs=true:=by
 simp only [Bool.and_eq_true]at h
 have h2:=(ij.1 h.1).1
 obtain⟨hl,hf⟩:=Ip h.2
 have hr:(List.replicate n.toNat (0:Int)).length=(jb n ps).length:=by rw [wI];simp
 obtain⟨w1,w2⟩:=CH (jb n ps) (List.replicate n.toNat (0:Int)) (by rw [wI];omega) hr
 rw [EH (xs:=jb n ps) (d:=(0:Int)) (g:=occ) (f:=gt (jb n ps)) (e:=0) (fun b a=>by simp only [gt,Or]) hr]at w2
 have e1:lQ n ps=BU n ps:=by
  rw [lQ,qE,w2]
  simp only [fW,jb,BU,List.map_map];rfl
 obtain⟨v1,v2⟩:=CI fs (BU n ps) (BU n ps) (by omega) n.toNat (sd n ps) (sd n ps) (fun f hm=>by have:=(hf f hm).1;omega)
 rw [oL (f:=ip) (g:=fun a f=>(bif f.2.1==0 then a.1.set f.1.toNat f.2.2 else a.1,bif f.2.1==0 then a.2 else a.2.set f.1.toNat f.2.2)) (fun b a=>rfl),Hu _ _ (fun f hm=>(hf f hm).2.1)]at v2
 have e3:qF n ps fs=(il n ps fs 0,il n ps fs 1):=by
  simp only [qF,oi,e1,v2,fX];rfl
 refine⟨by rw [ux,e3],by rw [uy,e3],?_⟩
 have e4:Lp.fin bK (oi n ps fs)=true:=by simp only [oi,e1];exact v1
 have e5:Lp.fin bJ (qE n ps)=true:=w1
 simp only [uz,e4,e5,e1,h.1,sd,allT]
 simp;omega
def zl:List SV→List Entry→Option Out
 | [.one ⟨true,[.val (.int .i64 x0),.ref 0]⟩,.one ⟨false,[.ref 1]⟩],[.row false 2 (.int .i64) x1,.row false 118 (.pair (.int .i64) (.pair (.int .i64) (.int .i64))) x2]=>some ⟨.one ⟨true,[.ref 2,.ref 3]⟩,[.row false 2 OO x1,.row false 118 OL x2],[.row true 2 OO (il x0 x1 x2 0),.row true 2 OO (il x0 x1 x2 1)],[isT x0 x1&&Cu x0 x2]⟩
 |_,_=>none
def bX:PF prog:=PF.alt Fq zl (by
 intro args es o h bh;unfold zl at h;split at h
 ·rename_i x0 x1 x2
  cases h
  have bh:=gR bh
  have hh:=GW x0 x1 x2 bh
  obtain⟨e0,e1,en⟩:=hh
  exact jT rfl (gA en) rfl rfl (by simp only [e0,e1] <;> rfl)
 ·cases h)
def qN(n:Int)(ps:List Int)(t:Int):Int:=Int.tmod (blk (ps[t.toNat]?.getD 0) + 1) n
def uP(n:Int)(ps a b:List Int)(t:Int):Bool:=phs (ps[t.toNat]?.getD 0)!=1||(a[(qN n ps t).toNat]?.getD 0==0&&b[(qN n ps t).toNat]?.getD 0==0)
def uC(n:Int)(ps a b:List Int)(t:Int):Bool:=xS n ps t&&(JM n a&&JM n b)
theorem GC{n t:Int}{ps a b:List Int}(h:uC n ps a b t=true):
  (0≤t∧t < ps.length)∧(2≤n∧n≤8)∧(0≤qN n ps t∧qN n ps t < n)∧((a.length:Int)=n∧(b.length:Int)=n)∧
   IntKind.i64.wrap (IntKind.i64.wrap (Int.tdiv (ps[t.toNat]?.getD 0) 3) + 1)=blk (ps[t.toNat]?.getD 0) + 1∧
   (0≤a[(qN n ps t).toNat]?.getD 0∧a[(qN n ps t).toNat]?.getD 0≤1)∧(0≤b[(qN n ps t).toNat]?.getD 0∧b[(qN n ps t).toNat]?.getD 0≤1):=by
 simp only [uC,Bool.and_eq_true,sr,JM,Ig,List.all_eq_true,oT,ub]at h
 obtain⟨⟨hT,ht⟩,⟨ha,ha2⟩,hb,hb2⟩:=h
 have h1:=ij.1 hT
 have dw:t.toNat < ps.length:=by omega
 have hp:=h1.2.2 (ps[t.toNat]) (List.getElem_mem dw)
 have e0:ps[t.toNat]?.getD 0=ps[t.toNat]:=by rw [List.getElem?_eq_getElem dw];rfl
 rw [qN,e0]
 have hb3:blk ps[t.toNat]=ps[t.toNat] / 3:=DN hp.1
 have hb4:Int.tdiv ps[t.toNat] 3=ps[t.toNat] / 3:=Int.tdiv_eq_ediv_of_nonneg hp.1
 have hq:Int.tmod (blk ps[t.toNat] + 1) n=(ps[t.toNat] / 3 + 1) % n:=by rw [hb3,Int.tmod_eq_emod_of_nonneg (by omega)]
 have hm0:0≤(ps[t.toNat] / 3 + 1) % n:=Int.emod_nonneg _ (by omega)
 have hm1:(ps[t.toNat] / 3 + 1) % n < n:=Int.emod_lt_of_pos _ (by omega)
 rw [hq]
 have la:((ps[t.toNat] / 3 + 1) % n).toNat < a.length:=by omega
 have lb:((ps[t.toNat] / 3 + 1) % n).toNat < b.length:=by omega
 rw [List.getElem?_eq_getElem la,List.getElem?_eq_getElem lb]
 refine⟨ht,h1.1,⟨hm0,hm1⟩,⟨ha,hb⟩,?_,ha2 _ (List.getElem_mem la),hb2 _ (List.getElem_mem lb)⟩
 rw [hb4,bZ (x:=ps[t.toNat] / 3) (by omega) (by omega),bZ (by omega) (by omega),hb3]
theorem JW(n t:Int)(ps a b:List Int)(h:uC n ps a b t=true):sJ n t ps a b=uP n ps a b t∧sK n t ps a b=true:=by
 obtain⟨ht,hn,hx,hl,hw,ha,hb⟩:=GC h
 have e2:fD n t ps=qN n ps t:=by
  simp only [fD,oW,hw];rfl
 refine⟨?_,?_⟩
 ·simp only [sJ,e2,iv,oW,uP,phs]
  rw [bZ (by omega) (by omega)]
  cases Int.tmod (ps[t.toNat]?.getD 0) 3 !=1 with
  |true=>rfl
  |false=>
   rw [cond_false,Bool.false_or,Bool.eq_iff_iff]
   simp only [beq_iff_eq,Bool.and_eq_true]
   omega
 ·have t1:leI 0 t=true:=jg ht.1
  have t2:ltI t (ps.length:Int)=true:=io ht.2
  have t3:ltN t.toNat ps.length=true:=kG (by omega)
  have t4:neI n 0=true:=HF (by omega)
  have t5:leI 0 (qN n ps t)=true:=jg hx.1
  have t6:ltI (qN n ps t) (a.length:Int)=true:=io (by omega)
  have t7:ltN (qN n ps t).toNat a.length=true:=kG (by omega)
  have t8:ltI (qN n ps t) (b.length:Int)=true:=io (by omega)
  have t9:ltN (qN n ps t).toNat b.length=true:=kG (by omega)
  simp only [sK,rM,e2,t1,t2,t3,t4,t5,t6,t7,t8,t9,allT,cond_true,Bool.or_true]
def wd:List SV→List Entry→Option Out
 | [.one ⟨true,[.val (.int .i64 x0),.ref 0]⟩,.one ⟨true,[.ref 1,.ref 2]⟩,.one ⟨false,[.val (.int .i64 x1)]⟩],[.row false 2 (.int .i64) x2,.row false 2 (.int .i64) x3,.row false 2 (.int .i64) x4]=>some ⟨.one ⟨false,[.val (.bool (uP x0 x2 x3 x4 x1))]⟩,[.row false 2 OO x2,.row false 2 OO x3,.row false 2 OO x4],[],[uC x0 x2 x3 x4 x1]⟩
 |_,_=>none
def gd:PF prog:=PF.alt Dy wd (by
 intro args es o h bh;unfold wd at h;split at h
 ·rename_i x0 x1 x2 x3 x4
  cases h
  have bh:=gR bh
  have hh:=JW x0 x1 x2 x3 x4 bh
  obtain⟨e0,en⟩:=hh
  exact jT rfl (gA en) (by simp only [e0] <;> rfl) rfl rfl
 ·cases h)
theorem Jt(n t:Int)(a b ps:List Int)(h:uC n ps a b t=true):fH n t a b ps=uP n ps a b t∧fI n t a b ps=true:=by
 obtain⟨ht,hn,hx,hl,hw,ha,hb⟩:=GC h
 have e2:dv n t ps=qN n ps t:=by
  simp only [dv,du,hw];rfl
 refine⟨?_,?_⟩
 ·simp only [fH,e2,ci,du,fE,cg,uP,phs]
  cases Int.tmod (ps[t.toNat]?.getD 0) 3 !=1 with
  |true=>rfl
  |false=>
   rw [cond_false,Bool.false_or]
   cases a[(qN n ps t).toNat]?.getD 0==0 <;> rfl
 ·have t1:leI 0 t=true:=jg ht.1
  have t2:ltI t (ps.length:Int)=true:=io ht.2
  have t3:ltN t.toNat ps.length=true:=kG (by omega)
  have t4:neI n 0=true:=HF (by omega)
  have t4':neI (3:Int) 0=true:=HF (by omega)
  have t5:leI 0 (qN n ps t)=true:=jg hx.1
  have t6:ltI (qN n ps t) (a.length:Int)=true:=io (by omega)
  have t7:ltN (qN n ps t).toNat a.length=true:=kG (by omega)
  have t8:ltI (qN n ps t) (b.length:Int)=true:=io (by omega)
  have t9:ltN (qN n ps t).toNat b.length=true:=kG (by omega)
  simp only [fI,fG,e2,t1,t2,t3,t4,t4',t5,t6,t7,t8,t9,allT,cond_true,Bool.or_true]
def jO:List SV→List Entry→Option Out
 | [.one ⟨true,[.ref 0,.ref 1]⟩,.one ⟨true,[.val (.int .i64 x0),.ref 2]⟩,.one ⟨false,[.val (.int .i64 x1)]⟩],[.row false 2 (.int .i64) x2,.row false 2 (.int .i64) x3,.row false 2 (.int .i64) x4]=>some ⟨.one ⟨false,[.val (.bool (uP x0 x4 x2 x3 x1))]⟩,[.row false 2 OO x2,.row false 2 OO x3,.row false 2 OO x4],[],[uC x0 x4 x2 x3 x1]⟩
 |_,_=>none
def af:PF prog:=PF.alt pb jO (by
 intro args es o h bh;unfold jO at h;split at h
 ·rename_i x0 x1 x2 x3 x4
  cases h
  have bh:=gR bh
  have hh:=Jt x0 x1 x2 x3 x4 bh
  obtain⟨e0,en⟩:=hh
  exact jT rfl (gA en) (by simp only [e0] <;> rfl) rfl rfl
 ·cases h)
theorem MZ(n:Int)(ps:List Int)(b:Int):inR (occ (va n ps b:Int)) 0 1=true:=by
 rw [oT,occ];cases h:ltI (va n ps b:Int) 1 <;> simp at h ⊢;omega
theorem IW(n:Int)(ps:List Int)(fs:List (Int×Int×Int))(ch:Int)(hT:isT n ps=true)(hF:Cu n fs=true):JM n (il n ps fs ch)=true:=by
 have h2:=(ij.1 hT).1
 obtain⟨hl,hf⟩:=Ip hF
 simp only [JM,Bool.and_eq_true,Ig,Ic]
 refine⟨by omega,?_⟩
 have im: ∀ (fs:List (Int×Int×Int)) (l:List Int),(∀ f∈fs,0≤f.2.2∧f.2.2≤1)→(l.all fun v=>inR v 0 1)=true→((fs.foldl (Hd ch) l).all fun v=>inR v 0 1)=true:=by
  intro fs
  induction fs with
  |nil=>intro l _ h;exact h
  |cons f fs ih=>
   intro l hv h
   rw [List.foldl_cons]
   refine ih _ (fun g hg=>hv g (by simp [hg])) ?_
   unfold Hd
   cases f.2.1==ch with
   |false=>exact h
   |true=>
    simp only [cond_true,List.all_eq_true]at h ⊢
    intro v hm
    rcases List.mem_or_eq_of_mem_set hm with h3 | rfl
    ·exact h v h3
    ·exact oT.2 (hv f (by simp))
 refine im fs _ (fun f hm=>(hf f hm).2.2) ?_
 simp only [BU,List.all_map,List.all_eq_true,Function.comp]
 intro b _;exact MZ n ps b
abbrev fL:=Int×List Int×Int×Int×List Int×List Int
section
variable (y0:Int)(y1 y4:List Int)
def lT:Bool:=ltI y0 (↑y1.length:Int)
def ov:Bool:=leI 0 y0
def ow:Bool:=ltN y0.toNat y1.length
def ox:Bool:= !eS (Option.getD y1[Int.toNat y0]? 0) 0 (IntKind.wrap .i64 ((↑y4.length:Int) - (1:Int)))
def oy:Int:=IntKind.wrap .i64 (y0 + (1:Int))
end
def CR:fL→List (Nat×SV)
 |(y0,_,_,_,_,_)=> [(9,(.one ⟨false,[.val (.int .i64 y0)]⟩)),(2,(.one ⟨false,[.ref 0]⟩)),(3,(.one ⟨false,[.ptr 1 0]⟩)),(6,(.one ⟨false,[.ptr 2 0]⟩))]
def CP:fL→List (Nat×Entry)
 |(_,y1,y2,y3,y4,y5)=> [(0,(.row false 2 OO y1)),(1,(.box 26 [.val (.int .i64 y2),.ref 3])),(2,(.box 26 [.val (.int .i64 y3),.ref 4])),(3,(.row false 2 OO y4)),(4,(.row true 2 OO y5))]
def CV:Nat→fL→List (Nat×SV)
 |0,(_,_,_,_,_,_)=> [(7,(.one ⟨false,[.val (.int .i64 0)]⟩)),(8,(.one ⟨false,[.val (.int .i64 2)]⟩))]
 |_,(_,_,_,_,_,_)=> []
def CT:Nat→fL→List (Nat×Entry)
 |0,(_,y1,y2,_,y4,y5)=> [(0,(.row false 2 OO y1)),(1,(.box 26 [.val (.int .i64 y2),.ref 3])),(2,(.box 26 [.val (.int .i64 0),.ref 5])),(3,(.row false 2 OO y4)),(4,(.row true 2 OO y5)),(5,(.row true 2 OO []))]
 |_,(_,y1,y2,y3,y4,y5)=> [(0,(.row false 2 OO y1)),(1,(.box 26 [.val (.int .i64 y2),.ref 3])),(2,(.box 26 [.val (.int .i64 y3),.ref 4])),(3,(.row false 2 OO y4)),(4,(.row true 2 OO y5))]
def ny:fL→LT fL
 |(y0,y1,y2,y3,y4,y5)=> .ite (lT y0 y1) (.need [ov y0,lT y0 y1,ow y0 y1] (.ite (ox y0 y1 y4) (.ext 0 [(0,0),(1,1),(2,2),(3,3),(4,4),(5,960)]) (.nrm ((oy y0),y1,y2,y3,y4,y5) [(0,0),(1,1),(2,2),(3,3),(4,4)]))) (.ext 1 [(0,0),(1,1),(2,2),(3,3),(4,4)])
def sA(s:St):Option fL:=
 (match s.look 9 with
 |some ⟨none,.one ⟨false,[.val (.int .i64 y0)]⟩⟩=>
 (match s.look 2 with
 |some ⟨none,.one ⟨false,[.ref 2]⟩⟩=>
 (match s.look 3 with
 |some ⟨none,.one ⟨false,[.ptr 256 0]⟩⟩=>
 (match s.look 6 with
 |some ⟨none,.one ⟨false,[.ptr 320 0]⟩⟩=>
 (match s.ent 2 with
 |some (.row false 2 (.int .i64) y1)=>
 (match s.ent 256 with
 |some (.box 26 [.val (.int .i64 y2),.ref 0])=>
 (match s.ent 320 with
 |some (.box 26 [.val (.int .i64 y3),.ref 321])=>
 (match s.ent 0 with
 |some (.row false 2 (.int .i64) y4)=>
 (match s.ent 321 with
 |some (.row true 2 (.int .i64) y5)=>
 some (y0,y1,y2,y3,y4,y5)
 |_=>none)
 |_=>none)
 |_=>none)
 |_=>none)
 |_=>none)
 |_=>none)
 |_=>none)
 |_=>none)
 |_=>none)
def bu:Lp fL where
 h:=⟨[30,31,32,33,36,37,38,39,40,41,42,43,44,45,46,7,8,34,35,9],[0,1,2,3,4],[],[5]⟩
 JL:=CR
 JE:=CP
 XL:=CV
 XE:=CT
 q:=fun j=>match j with | 0=> .ret | _=> .exit 1
 tags:= [0,1]
 lt:=ny
 fuel:=fun(y0,y1,y2,y3,y4,y5)=>y0.natAbs + y1.length + y2.natAbs + y3.natAbs + y4.length + y5.length
 fix:=fun(_,y1,y2,y3,y4,y5) (y0,_,_,_,_,_)=>(y0,y1,y2,y3,y4,y5)
 σ:= [(0,2),(1,256),(2,320),(3,0),(4,321)]
 rd:=sA
theorem BI:LoopOk prog (fun k=>Nat.blt k Try.f104.ntmps) bu.F (cD f104 0):=by
 refine Lp.ok (tbl:= (T3z [gJ,gd,gK,cE,eo,jq,lM,gG])) (lf:= []) cf bu (by kernel_rfl) (LOk.nil _) (fun _=>rfl) (fun j _=>by unfold bu;match j with | 0=>rfl | _ + 1=>rfl) ?_ ?_ ?_ ?_ (fun _=>rfl) ?_
 ·rintro⟨y0,y1,y2,y3,y4,y5⟩;kernel_rfl
 ·rintro⟨y0,y1,y2,y3,y4,y5⟩;kernel_rfl
 ·intro s x h
  have h:sA s=some x:=h
  unfold sA at h
  repeat' split at h
  all_goals cases h
  constructor<;>repeat(first|refine ah (by assumption) rfl ?_|refine ar rfl (by assumption) rfl ?_|exact rfl)
 ·rintro⟨y0,y1,y2,y3,y4,y5⟩;kernel_rfl
 ·rintro⟨y0,y1,y2,y3,y4,y5⟩ z;exact(And.intro (And.intro trivial rfl) trivial)
abbrev iz:=Int×Int×List Int×Int×List (Int×(Int×Int))×Int×List Int×List Int
section
variable (y0 y1:Int)(y2:List Int)(y3:Int)(y4:List (Int×(Int×Int)))(y6:List Int)
def bM:List Int:=bif ltI y1 0&&true then y6 else y6
def gV:Int:=Option.getD y2[Int.toNat y0]? 0
def oz:Bool:=leI y0 (↑y2.length:Int)
def oA:Bool:=y0==(↑y2.length:Int)
def iV:Int:=bif bif ltI y1 0 then !MG y3 y6 else false then y0 else y1
def iW:List Int:=bM y1 y6
def oB:Bool:=isT y3 (bM y1 y6)&&Cu y3 y4
def lU:Bool:=leI 0 y0
def lV:Bool:=ltI y0 (↑y2.length:Int)
def lW:Bool:=ltN y0.toNat y2.length
def oC:Bool:=uC y3 (bM y1 y6) (il y3 (bM y1 y6) y4 0) (il y3 (bM y1 y6) y4 1) (gV y0 y2)
def oD:Bool:= !uP y3 (bM y1 y6) (il y3 (bM y1 y6) y4 0) (il y3 (bM y1 y6) y4 1) (gV y0 y2)
def nF:Bool:=xS y3 (bM y1 y6) (gV y0 y2)
def nG:Int:=IntKind.wrap .i64 (y0 + (1:Int))
def nH:List Int:=sq y3 (bM y1 y6) (gV y0 y2)
end
def CS:iz→List (Nat×SV)
 |(y0,y1,_,_,_,_,_,_)=> [(12,(.one ⟨false,[.val (.int .i64 y0)]⟩)),(2,(.one ⟨false,[.ref 0]⟩)),(11,(.one ⟨false,[.val (.int .i64 y1)]⟩)),(10,(.one ⟨false,[.ptr 1 0]⟩)),(1,(.one ⟨false,[.ref 2]⟩)),(6,(.one ⟨false,[.ptr 3 0]⟩))]
def CQ:iz→List (Nat×Entry)
 |(_,_,y2,y3,y4,y5,y6,y7)=> [(0,(.row false 2 OO y2)),(1,(.box 26 [.val (.int .i64 y3),.ref 4])),(2,(.row false 118 OL y4)),(3,(.box 26 [.val (.int .i64 y5),.ref 5])),(5,(.row true 2 OO y7)),(4,(.row true 2 OO y6))]
def CW:Nat→iz→List (Nat×SV)
 |0,(y0,y1,_,y3,_,_,y6,_)=> [(11,(.one ⟨false,[.val (.int .i64 (iV y0 y1 y3 y6))]⟩))]
 |1,(_,_,_,_,_,_,_,_)=> [(7,(.one ⟨false,[.val (.int .i64 0)]⟩)),(8,(.one ⟨false,[.val (.int .i64 5)]⟩))]
 |_,(_,y1,_,_,_,_,_,_)=> [(11,(.one ⟨false,[.val (.int .i64 y1)]⟩))]
def CU:Nat→iz→List (Nat×Entry)
 |0,(_,y1,y2,y3,y4,y5,y6,y7)=> [(0,(.row false 2 OO y2)),(1,(.box 26 [.val (.int .i64 y3),.ref 4])),(2,(.row false 118 OL y4)),(3,(.box 26 [.val (.int .i64 y5),.ref 5])),(4,(.row true 2 OO (iW y1 y6))),(5,(.row true 2 OO y7))]
 |1,(_,y1,y2,y3,y4,_,y6,y7)=> [(0,(.row false 2 OO y2)),(1,(.box 26 [.val (.int .i64 y3),.ref 4])),(2,(.row false 118 OL y4)),(3,(.box 26 [.val (.int .i64 0),.ref 6])),(4,(.row true 2 OO (iW y1 y6))),(5,(.row true 2 OO y7)),(6,(.row true 2 OO []))]
 |_,(_,_,y2,y3,y4,y5,y6,y7)=> [(0,(.row false 2 OO y2)),(1,(.box 26 [.val (.int .i64 y3),.ref 4])),(2,(.row false 118 OL y4)),(3,(.box 26 [.val (.int .i64 y5),.ref 5])),(4,(.row true 2 OO y6)),(5,(.row true 2 OO y7))]
def nz:iz→LT iz
 |(y0,y1,y2,y3,y4,y5,y6,y7)=> .ite (oz y0 y2) (.ite (oA y0 y2) (.ext 0 [(0,0),(1,1),(2,2),(3,3),(4,4),(5,5)]) (.need [oB y1 y3 y4 y6,lU y0,lV y0 y2,lW y0 y2,oC y0 y1 y2 y3 y4 y6] (.ite (oD y0 y1 y2 y3 y4 y6) (.ext 1 [(0,0),(1,1),(2,2),(3,3),(4,4),(5,5),(6,1792)]) (.need [lU y0,lV y0 y2,lW y0 y2,nF y0 y1 y2 y3 y6] (.nrm ((nG y0),iV y0 y1 y3 y6,y2,y3,y4,y5,nH y0 y1 y2 y3 y6,y7) [(0,0),(1,1),(2,2),(3,3),(4,2112),(5,5)]))))) (.ext 2 [(0,0),(1,1),(2,2),(3,3),(4,4),(5,5)])
def sB(s:St):Option iz:=
 (match s.look 12 with
 |some ⟨none,.one ⟨false,[.val (.int .i64 y0)]⟩⟩=>
 (match s.look 2 with
 |some ⟨none,.one ⟨false,[.ref 2]⟩⟩=>
 (match s.look 11 with
 |some ⟨none,.one ⟨false,[.val (.int .i64 y1)]⟩⟩=>
 (match s.look 10 with
 |some ⟨none,.one ⟨false,[.ptr 1920 0]⟩⟩=>
 (match s.look 1 with
 |some ⟨none,.one ⟨false,[.ref 1]⟩⟩=>
 (match s.look 6 with
 |some ⟨none,.one ⟨false,[.ptr 320 0]⟩⟩=>
 (match s.ent 2 with
 |some (.row false 2 (.int .i64) y2)=>
 (match s.ent 1920 with
 |some (.box 26 [.val (.int .i64 y3),.ref 1792])=>
 (match s.ent 1 with
 |some (.row false 118 (.pair (.int .i64) (.pair (.int .i64) (.int .i64))) y4)=>
 (match s.ent 320 with
 |some (.box 26 [.val (.int .i64 y5),.ref 321])=>
 (match s.ent 321 with
 |some (.row true 2 (.int .i64) y7)=>
 (match s.ent 1792 with
 |some (.row true 2 (.int .i64) y6)=>
 some (y0,y1,y2,y3,y4,y5,y6,y7)
 |_=>none)
 |_=>none)
 |_=>none)
 |_=>none)
 |_=>none)
 |_=>none)
 |_=>none)
 |_=>none)
 |_=>none)
 |_=>none)
 |_=>none)
 |_=>none)
def bg:Lp iz where
 h:=⟨[53,54,55,56,59,60,61,62,63,64,65,66,11,67,68,69,70,71,72,73,74,75,76,77,78,79,80,81,7,8,82,83,84,85,86,87,57,58,12],[0,1,2,3,5],[4],[6]⟩
 JL:=CS
 JE:=CQ
 XL:=CW
 XE:=CU
 q:=fun j=>match j with | 0=> .exit 3 | 1=> .ret | _=> .exit 3
 tags:= [0,1,2]
 lt:=nz
 fuel:=fun(y0,y1,y2,y3,y4,y5,y6,y7)=>y0.natAbs + y1.natAbs + y2.length + y3.natAbs + y4.length + y5.natAbs + y6.length + y7.length
 fix:=fun(_,_,y2,y3,y4,y5,_,y7) (y0,y1,_,_,_,_,y6,_)=>(y0,y1,y2,y3,y4,y5,y6,y7)
 σ:= [(0,2),(1,1920),(2,1),(3,320),(5,321),(4,1792)]
 rd:=sB
theorem BJ:LoopOk prog (fun k=>Nat.blt k Try.f104.ntmps) bg.F (cD f104 1):=by
 refine Lp.ok (tbl:= (T3z [gJ,gd,gK,cE,eo,jq,lM,gG])) (lf:= []) cf bg (by kernel_rfl) (LOk.nil _) (fun _=>rfl) (fun j _=>by unfold bg;match j with | 0=>rfl | 1=>rfl | _ + 2=>rfl) ?_ ?_ ?_ ?_ (fun _=>rfl) ?_
 ·rintro⟨y0,y1,y2,y3,y4,y5,y6,y7⟩;kernel_rfl
 ·rintro⟨y0,y1,y2,y3,y4,y5,y6,y7⟩;kernel_rfl
 ·intro s x h
  have h:sB s=some x:=h
  unfold sB at h
  repeat' split at h
  all_goals cases h
  constructor<;>repeat(first|refine ah (by assumption) rfl ?_|refine ar rfl (by assumption) rfl ?_|exact rfl)
 ·rintro⟨y0,y1,y2,y3,y4,y5,y6,y7⟩;kernel_rfl
 ·rintro⟨y0,y1,y2,y3,y4,y5,y6,y7⟩ z;exact(And.intro (And.intro trivial (And.intro trivial rfl)) trivial)
section
variable (x0:Int)(x1:List Int)(x2:List (Int×Int×Int))(x3:List Int)
def kX:Bool:= !(inR x0 2 8&&okFs x0 x2)
def AV:Int×List Int×List Int:=((0:Int),x1,[])
def sL:Int×List Int×Int×Int×List Int×List Int:=((0:Int),x3,x0,AV x1)
def kY:Bool:=Nat.beq ((Lp.res bu (sL x0 x1 x3)).1) 0
def mQ:Int×Int×List Int×Int×List (Int×Int×Int)×Int×List Int×List Int:=((0:Int),(-1:Int),x3,x0,x2,AV x1)
def qv:Bool:=Nat.beq ((Lp.res bg (mQ x0 x1 x2 x3)).1) 0
def qw:Bool:=Nat.beq ((Lp.res bg (mQ x0 x1 x2 x3)).1) 1
def vF:Int×List Int×Int×List (Int×Int×Int)×Int×List Int×List Int:=(Lp.res bg (mQ x0 x1 x2 x3)).2.2
def sM:Int:=(vF x0 x1 x2 x3).1
def sN:List Int:=((vF x0 x1 x2 x3).2.2.2.2.2).1
def wD:Int:=bif !isT x0 x1 then(0:Int)else bif ltI 200 (↑x3.length:Int)then(0:Int)else bif kX x0 x2 then(0:Int)else bif kY x0 x1 x3 then(0:Int)else bif qv x0 x1 x2 x3 then x0 else bif qw x0 x1 x2 x3 then(0:Int)else x0
def wE:Int:=bif !isT x0 x1 then(0:Int)else bif ltI 200 (↑x3.length:Int)then(0:Int)else bif kX x0 x2 then(0:Int)else bif kY x0 x1 x3 then(0:Int)else bif qv x0 x1 x2 x3 then iV (((Lp.res bg (mQ x0 x1 x2 x3)).2).1) (sM x0 x1 x2 x3) x0 (sN x0 x1 x2 x3)else bif qw x0 x1 x2 x3 then(0:Int)else sM x0 x1 x2 x3
def wF:Int:=bif !isT x0 x1 then(1:Int)else bif ltI 200 (↑x3.length:Int)then(3:Int)else bif kX x0 x2 then(2:Int)else bif kY x0 x1 x3 then(2:Int)else bif qv x0 x1 x2 x3 then(0:Int)else bif qw x0 x1 x2 x3 then(5:Int)else(0:Int)
def wG:List Int:=bif !isT x0 x1 then []else bif ltI 200 (↑x3.length:Int)then []else bif kX x0 x2 then []else bif kY x0 x1 x3 then []else bif qv x0 x1 x2 x3 then iW (sM x0 x1 x2 x3) (sN x0 x1 x2 x3)else bif qw x0 x1 x2 x3 then []else sN x0 x1 x2 x3
def wH:Bool:=allT [!isT x0 x1||(ltI 200 (↑x3.length:Int)||leN x2.length (9223372036854775807:Nat)),!isT x0 x1||(ltI 200 (↑x3.length:Int)||(kX x0 x2||Lp.fin bu (sL x0 x1 x3))),!isT x0 x1||(ltI 200 (↑x3.length:Int)||(kX x0 x2||(kY x0 x1 x3||leN x1.length (1048576:Nat)))),!isT x0 x1||(ltI 200 (↑x3.length:Int)||(kX x0 x2||(kY x0 x1 x3||Lp.fin bg (mQ x0 x1 x2 x3))))]
end
def BR:List SV→List Entry→Option Out
 | [.one ⟨true,[.val (.int .i64 x0),.ref 0]⟩,.one ⟨false,[.ref 1]⟩,.one ⟨false,[.ref 2]⟩],[.row false 2 (.int .i64) x1,.row false 118 (.pair (.int .i64) (.pair (.int .i64) (.int .i64))) x2,.row false 2 (.int .i64) x3]=>some ⟨.tup [⟨true,[.val (.int .i64 (wD x0 x1 x2 x3)),.ref 3]⟩,⟨false,[.val (.int .i64 (wE x0 x1 x2 x3))]⟩,⟨false,[.val (.int .i64 (wF x0 x1 x2 x3))]⟩],[.row false 2 OO x1,.row false 118 OL x2,.row false 2 OO x3],[.row true 2 OO (wG x0 x1 x2 x3)],[wH x0 x1 x2 x3]⟩
 |_,_=>none
def Hc:PF prog:=PF.ofG prog (T3z [gJ,gd,gK,cE,eo,jq,lM,gG]) [bu.F,bg.F] cf 104 f104 func104 (LOk.fnT (l:= [cD f104 0,cD f104 1]) (by kernel_rfl) (.cons BI (.cons BJ (.nil _)))) BR (by
 intro vs es r h;unfold BR at h;split at h
 ·cases h;kernel_rfl
 ·cases h)
abbrev fh:=Int×Int×List Int×Int×List (Int×(Int×Int))×List (Int×(List Int))×List Int
section
variable (y0 y1:Int)(y2:List Int)(y3:Int)(y4:List (Int×(Int×Int)))(y5:List (Int×(List Int)))(y6:List Int)
def bW:Int:=Option.getD y2[Int.toNat y0]? 0
def db:List (Int×List Int):= [(y3,sq y3 y6 (bW y0 y2))]
def fk:Bool:=ltI y0 y1
def fl:Bool:=leI 0 y0
def fm:Bool:=ltI y0 (↑y2.length:Int)
def fo:Bool:=ltN y0.toNat y2.length
def fq:Bool:=isT y3 y6&&Cu y3 y4
def ft:Bool:=uC y3 y6 (il y3 y6 y4 0) (il y3 y6 y4 1) (bW y0 y2)
def fu:Bool:= !uP y3 y6 (il y3 y6 y4 0) (il y3 y6 y4 1) (bW y0 y2)
def fv:Bool:=xS y3 y6 (bW y0 y2)
def fw:Bool:=leN (List.length y5 + List.length (db y0 y2 y3 y6)) 9223372036854775807
def fy:Bool:=leN ((List.length y5 + List.length (db y0 y2 y3 y6)) * 32) 140737488355328
def eI:Int:=IntKind.wrap .i64 (y0 + (1:Int))
def eJ:List (Int×(List Int)):=y5++db y0 y2 y3 y6
def eK:List Int:=sq y3 y6 (bW y0 y2)
end
def zy:fh→List (Nat×SV)
 |(y0,y1,_,_,_,_,_)=> [(38,(.one ⟨false,[.val (.int .i64 y0)]⟩)),(37,(.one ⟨false,[.val (.int .i64 y1)]⟩)),(36,(.one ⟨false,[.ref 0]⟩)),(3,(.one ⟨false,[.ptr 1 0]⟩)),(1,(.one ⟨false,[.ref 2]⟩)),(9,(.one ⟨false,[.ref 3]⟩))]
def zr:fh→List (Nat×Entry)
 |(_,_,y2,y3,y4,y5,y6)=> [(0,(.row false 2 OO y2)),(1,(.box 26 [.val (.int .i64 y3),.ref 4])),(2,(.row false 118 OL y4)),(3,(.row true 26 OM y5)),(4,(.row false 2 OO y6))]
def zJ:Nat→fh→List (Nat×SV)
 |0,(_,_,_,_,_,_,_)=> [(6,(.one ⟨false,[.ref 5]⟩)),(7,(.one ⟨false,[.val (.int .i64 5)]⟩))]
 |_,(_,_,_,_,_,_,_)=> [(9,(.one ⟨false,[.ref 3]⟩))]
def zE:Nat→fh→List (Nat×Entry)
 |0,(_,_,y2,y3,y4,y5,y6)=> [(0,(.row false 2 OO y2)),(1,(.box 26 [.val (.int .i64 y3),.ref 4])),(2,(.row false 118 OL y4)),(3,(.row true 26 OM y5)),(4,(.row false 2 OO y6)),(5,(.row true 26 OM []))]
 |_,(_,_,y2,y3,y4,y5,y6)=> [(0,(.row false 2 OO y2)),(1,(.box 26 [.val (.int .i64 y3),.ref 4])),(2,(.row false 118 OL y4)),(3,(.row true 26 OM y5)),(4,(.row false 2 OO y6))]
def cB:fh→LT fh
 |(y0,y1,y2,y3,y4,y5,y6)=> .ite (fk y0 y1) (.need [fl y0,fm y0 y2,fo y0 y2] (.need [fq y3 y4 y6,ft y0 y2 y3 y4 y6] (.ite (fu y0 y2 y3 y4 y6) (.ext 0 [(0,0),(1,1),(2,2),(3,3),(4,4),(5,768)]) (.need [fv y0 y2 y3 y6] (.need [fw y0 y2 y3 y5 y6,fy y0 y2 y3 y5 y6] (.nrm ((eI y0),y1,y2,y3,y4,eJ y0 y2 y3 y5 y6,(eK y0 y2 y3 y6)) [(0,0),(1,1),(2,2),(3,1216),(4,896)])))))) (.ext 1 [(0,0),(1,1),(2,2),(3,3),(4,4)])
def pu(s:St):Option fh:=
 (match s.look 38 with
 |some ⟨none,.one ⟨false,[.val (.int .i64 y0)]⟩⟩=>
 (match s.look 37 with
 |some ⟨none,.one ⟨false,[.val (.int .i64 y1)]⟩⟩=>
 (match s.look 36 with
 |some ⟨none,.one ⟨false,[.ref 2]⟩⟩=>
 (match s.look 3 with
 |some ⟨none,.one ⟨false,[.ptr 256 0]⟩⟩=>
 (match s.look 1 with
 |some ⟨none,.one ⟨false,[.ref 1]⟩⟩=>
 (match s.look 9 with
 |some ⟨none,.one ⟨false,[.ref 1920]⟩⟩=>
 (match s.ent 2 with
 |some (.row false 2 (.int .i64) y2)=>
 (match s.ent 256 with
 |some (.box 26 [.val (.int .i64 y3),.ref 0])=>
 (match s.ent 1 with
 |some (.row false 118 (.pair (.int .i64) (.pair (.int .i64) (.int .i64))) y4)=>
 (match s.ent 1920 with
 |some (.row true 26 (.pair (.int .i64) (.sl 2 (.int .i64))) y5)=>
 (match s.ent 0 with
 |some (.row false 2 (.int .i64) y6)=>
 some (y0,y1,y2,y3,y4,y5,y6)
 |_=>none)
 |_=>none)
 |_=>none)
 |_=>none)
 |_=>none)
 |_=>none)
 |_=>none)
 |_=>none)
 |_=>none)
 |_=>none)
 |_=>none)
def az:Lp fh where
 h:=⟨[39,40,41,11,42,43,44,45,46,47,48,6,7,49,50,51,52,53,54,55,9,56,38],[0,1,2],[3,4],[5]⟩
 JL:=zy
 JE:=zr
 XL:=zJ
 XE:=zE
 q:=fun j=>match j with | 0=> .ret | _=> .exit 1
 tags:= [0,1]
 lt:=cB
 fuel:=fun(y0,y1,y2,y3,y4,y5,y6)=>y0.natAbs + y1.natAbs + y2.length + y3.natAbs + y4.length + y5.length + y6.length
 fix:=fun(_,y1,y2,y3,y4,_,_) (y0,_,_,_,_,y5,y6)=>(y0,y1,y2,y3,y4,y5,y6)
 σ:= [(0,2),(1,256),(2,1),(3,1920),(4,0)]
 rd:=pu
theorem xI:LoopOk prog (fun k=>Nat.blt k Try.f106.ntmps) az.F (cD f106 0):=by
 refine Lp.ok (tbl:= (T3z [bx,bX,af,ag,bz,aa])) (lf:= []) cf az (by kernel_rfl) (LOk.nil _) (fun _=>rfl) (fun j _=>by unfold az;match j with | 0=>rfl | _ + 1=>rfl) ?_ ?_ ?_ ?_ (fun _=>rfl) ?_
 ·rintro⟨y0,y1,y2,y3,y4,y5,y6⟩;kernel_rfl
 ·rintro⟨y0,y1,y2,y3,y4,y5,y6⟩;kernel_rfl
 ·intro s x h
  have h:pu s=some x:=h
  unfold pu at h
  repeat' split at h
  all_goals cases h
  constructor<;>repeat(first|refine ah (by assumption) rfl ?_|refine ar rfl (by assumption) rfl ?_|exact rfl)
 ·rintro⟨y0,y1,y2,y3,y4,y5,y6⟩;kernel_rfl
 ·rintro⟨y0,y1,y2,y3,y4,y5,y6⟩ z;exact(And.intro (And.intro trivial rfl) trivial)
section
variable (x0:Int)(x1:List Int)(x2:List (Int×Int×Int))(x3:List Int)
def ka:Bool:=bif tu x0 x1 x3==1 then true else tu x0 x1 x3==3
def kb:Bool:=tu x0 x1 x3 !=0
def lZ:Int×Int×List Int×Int×List (Int×Int×Int)×List (Int×List Int)×List Int:=((0:Int),(↑x3.length:Int),x3,x0,x2,[(x0,x1)],x1)
def rF:Bool:=Nat.beq ((Lp.res az (lZ x0 x1 x2 x3)).1) 0
def si:Int:=bif ka x0 x1 x3 then tu x0 x1 x3 else bif bif kb x0 x1 x3 then true else !okFs x0 x2 then(2:Int)else bif rF x0 x1 x2 x3 then(5:Int)else(0:Int)
def sj:List (Int×(List Int)):=bif ka x0 x1 x3 then []else bif bif kb x0 x1 x3 then true else !okFs x0 x2 then []else bif rF x0 x1 x2 x3 then []else ((Lp.res az (lZ x0 x1 x2 x3)).2.2.2.2.2.2).1
def sk:Bool:=allT [ka x0 x1 x3||(!(!kb x0 x1 x3&&true)||leN x2.length (9223372036854775807:Nat)),ka x0 x1 x3||((bif kb x0 x1 x3 then true else !okFs x0 x2)||aE x1),ka x0 x1 x3||((bif kb x0 x1 x3 then true else !okFs x0 x2)||Lp.fin az (lZ x0 x1 x2 x3))]
end
def vV:List SV→List Entry→Option Out
 | [.one ⟨true,[.val (.int .i64 x0),.ref 0]⟩,.one ⟨false,[.ref 1]⟩,.one ⟨false,[.ref 2]⟩],[.row false 2 (.int .i64) x1,.row false 118 (.pair (.int .i64) (.pair (.int .i64) (.int .i64))) x2,.row false 2 (.int .i64) x3]=>some ⟨.tup [⟨false,[.ref 3]⟩,⟨false,[.val (.int .i64 (si x0 x1 x2 x3))]⟩],[.row false 2 OO x1,.row false 118 OL x2,.row false 2 OO x3],[.row true 26 OM (sj x0 x1 x2 x3)],[sk x0 x1 x2 x3]⟩
 |_,_=>none
def Dv:PF prog:=PF.ofG prog (T3z [bx,bX,af,ag,bz,aa]) [az.F] cf 106 f106 func106 (LOk.fnT (l:= [cD f106 0]) (by kernel_rfl) (.cons xI (.nil _))) vV (by
 intro vs es r h;unfold vV at h;split at h
 ·cases h;kernel_rfl
 ·cases h)
def Gw(n:Int)(fs:List (Int×Int×Int))(ps:List Int)(t:Int):Bool:=uP n ps (il n ps fs 0) (il n ps fs 1) t
def okL(n:Int)(fs:List (Int×Int×Int)):List Int→List Int→Bool
 | [],_=>true
 |t::ts,ps=>Gw n fs ps t&&okL n fs ts (sq n ps t)
def trL(n:Int):List Int→List Int→List (List Int)
 | [],ps=> [ps]
 |t::ts,ps=>ps::trL n ts (sq n ps t)
def LF(n:Int)(ts ps:List Int):List Int:=ts.foldl (sq n) ps
def NE(n j:Int)(ps:List Int)(f:Int):Int:=bif bif ltI f 0 then !MG n ps else false then j else f
def MB(n:Int):List (List Int)→Int→Int→Int
 | [],_,f=>f
 |p::r,j,f=>MB n r (j + 1) (NE n j p f)
def mZ(n:Int)(ps:List Int)(fs:List (Int×Int×Int))(ts:List Int):Int:=bif isT n ps then(bif leN ts.length 200 then(bif okFs n fs&&ts.all (ro ps)then(bif okL n fs ts ps then 0 else 5)else 2)else 3)else 1
def Fh(n:Int)(ps:List Int)(fs:List (Int×Int×Int))(ts:List Int):Bool:=eqI (mZ n ps fs ts) 0
theorem Bi{n t:Int}{ps:List Int}{fs:List (Int×Int×Int)}(hT:isT n ps=true)(hF:Cu n fs=true)(ht:ro ps t=true):
  uC n ps (il n ps fs 0) (il n ps fs 1) t=true:=by
 simp only [uC,Bool.and_eq_true]
 exact⟨sr.2 ⟨hT,ht⟩,IW n ps fs 0 hT hF,IW n ps fs 1 hT hF⟩
def lP(y4:List Int)(b:Int):(Unit)→Nat ⊕ (Unit)
 |_=>(bif(!eS b 0 (IntKind.wrap .i64 ((↑y4.length:Int) - (1:Int))))then(.inl 0)else(.inr ()))
def jD(y1:List Int)(y2 y3:Int)(y4 y5:List Int)(i:Nat):(Unit)→fL
 |_=>((i:Int),y1,y2,y3,y4,y5)
def sz:fL→Unit
 |(_,_,_,_,_,_)=>()
theorem EG(y1:List Int)(y2 y3:Int)(y4 y5:List Int) (hn:y1.length≤9223372036854775807):
  bu.fin ((0:Int),y1,y2,y3,y4,y5)=true∧bu.res ((0:Int),y1,y2,y3,y4,y5)=((aN (lP y4) 1 y1 0 ()).1,(jD y1 y2 y3 y4 y5) (aN (lP y4) 1 y1 0 ()).2.1 (aN (lP y4) 1 y1 0 ()).2.2):=by
 have im:=bu.along (jD y1 y2 y3 y4 y5) sz (lP y4) 1 (fun _ _=>True) y1 () (by trivial) (by simp only [bu,jD];omega) (fun i b a hb hI=> ?_) (fun a hI=> ?_)
 ·exact im
 ·obtain⟨⟩:=a
  have dw:=(List.getElem?_eq_some_iff.1 hb).1
  have iC: ∀ d,Option.getD y1[i]? d=b:=fun d=>by rw [hb];rfl
  have hw:=uD dw hn
  have gq:ltI (i:Int) (y1.length:Int)=true:=io (by omega)
  have rZ:leI (0:Int) (i:Int)=true:=jg (by omega)
  have lh:ltN i y1.length=true:=kG dw
  refine⟨?_,?_,?_,?_⟩
  ·simp [lT,ov,ow,ox,oy,ny,bu,LT.nds,allT,jD,gq,rZ,lh,iC]
  ·simp [lT,ov,ow,ox,oy,ny,bu,LT.each,jD,sz,hw]
  ·simp only [lT,ov,ow,ox,oy,ny,bu,LT.fn,jD,sz,lP,Int.toNat_natCast,gq,rZ,lh,iC,cond_true,Bool.cond_self]
  ·exact fun _ _=>trivial
 ·obtain⟨⟩:=a
  simp [lT,ov,ow,ox,oy,ny,bu,LT.out,jD]
def fR(n:Int)(fs:List (Int×Int×Int))(t:Int)(a:Int×Int×List Int):Nat ⊕ (Int×Int×List Int):=bif Gw n fs a.2.2 t then .inr (IntKind.i64.wrap (a.1 + 1),NE n a.1 a.2.2 a.2.1,sq n a.2.2 t)else .inl 1
theorem MQ(y1:Int)(y6:List Int):bM y1 y6=y6:=by
 unfold bM;cases (ltI y1 0&&true) <;> rfl
theorem Md(n y5:Int)(ps y7:List Int)(fs:List (Int×Int×Int))(ts:List Int)(hT:isT n ps=true)(hF:okFs n fs=true)(hl:ts.length≤200)(ht: ∀ t∈ts,ro ps t=true)(f0:Int):
  bg.fin ((0:Int),f0,ts,n,fs,y5,ps,y7)=true∧bg.res ((0:Int),f0,ts,n,fs,y5,ps,y7)=
   ((aN (fR n fs) 0 ts 0 (0,f0,ps)).1,((aN (fR n fs) 0 ts 0 (0,f0,ps)).2.2.1,(aN (fR n fs) 0 ts 0 (0,f0,ps)).2.2.2.1,ts,n,fs,y5,(aN (fR n fs) 0 ts 0 (0,f0,ps)).2.2.2.2,y7)):=by
 have im:=bg.along (fun _ a=>(a.1,a.2.1,ts,n,fs,y5,a.2.2,y7)) (fun x=>(x.1,x.2.1,x.2.2.2.2.2.2.1)) (fR n fs) 0 (fun i a=>a.1=(i:Int)∧isT n a.2.2=true∧a.2.2.length=ps.length) ts (0,f0,ps) ⟨rfl,hT,rfl⟩ (by simp only [bg];omega) (fun i t a hb hI=> ?_) (fun a hI=> ?_)
 ·exact im
 ·obtain⟨j,f,qs⟩:=a
  obtain⟨rfl,hQ,hq⟩:=hI
  simp only at hQ hq
  have dw:=(List.getElem?_eq_some_iff.1 hb).1
  have iC: ∀ d,Option.getD ts[i]? d=t:=fun d=>by rw [hb];rfl
  have hw:=uD dw (by omega)
  have pL:leI (i:Int) (ts.length:Int)=true:=jg (by omega)
  have sZ:((i:Int)==(ts.length:Int))=false:=by simp;omega
  have gq:ltI (i:Int) (ts.length:Int)=true:=io (by omega)
  have rZ:leI (0:Int) (i:Int)=true:=jg (by omega)
  have lh:ltN i ts.length=true:=kG dw
  have hh:ro qs t=true:=by
   have:=ub.1 (ht t (List.mem_of_getElem? hb));exact ub.2 (by omega)
  have hF2:=Fz (ij.1 hT).1 hF
  have hp:=Bi (fs:=fs) hQ hF2 hh
  have hm:xS n qs t=true:=sr.2 ⟨hQ,hh⟩
  refine⟨?_,?_,?_,?_⟩
  ·simp [bM,gV,oz,oA,iV,iW,oB,lU,lV,lW,oC,oD,nF,nG,nH,nz,bg,LT.nds,allT,MQ,pL,sZ,gq,rZ,lh,iC,hp,hm,hQ,hF2]
  ·simp [bM,gV,oz,oA,iV,iW,oB,lU,lV,lW,oC,oD,nF,nG,nH,nz,bg,LT.each,MQ,pL,sZ]
  ·simp only [bM,gV,oz,oA,iV,iW,oB,lU,lV,lW,oC,oD,nF,nG,nH,nz,bg,LT.fn,Bool.cond_self,pL,sZ,iC,Int.toNat_natCast,cond_true,cond_false,fR,Gw,NE]
   cases uP n qs (il n qs fs 0) (il n qs fs 1) t <;> rfl
  ·intro a' hf
   simp only [fR]at hf
   cases hk:Gw n fs qs t <;> rw [hk]at hf <;> simp at hf
   subst hf
   exact⟨hw,Lm hQ t,by simp only [uk];exact hq⟩
 ·obtain⟨j,f,qs⟩:=a
  obtain⟨rfl,_⟩:=hI
  simp [bM,gV,oz,oA,iV,iW,oB,lU,lV,lW,oC,oD,nF,nG,nH,nz,bg,LT.out]
theorem Lz(n:Int)(fs:List (Int×Int×Int)): ∀ (ts ps:List Int) (i:Nat) (j f:Int),0≤j→j + ts.length≤1000→
  ∃ m a,aN (fR n fs) 0 ts i (j,f,ps)=(bif okL n fs ts ps then 0 else 1,m,a)∧(okL n fs ts ps=true→a.2.2=LF n ts ps∧MB n [a.2.2] a.1 a.2.1=MB n (trL n ts ps) j f)
 | [],ps,i,j,f,_,_=>⟨i,(j,f,ps),rfl,fun _=>⟨rfl,rfl⟩⟩
 |t::ts,ps,i,j,f,h0,h1=>by
  simp only [List.length_cons]at h1
  have hw:IntKind.i64.wrap (j + 1)=j + 1:=bZ (by omega) (by omega)
  cases hk:Gw n fs ps t with
  |false=>exact⟨i,(j,f,ps),by simp only [aN,fR,hk,okL,Bool.false_and,cond_false],fun h=>by simp [okL,hk]at h⟩
  |true=>
   obtain⟨m,a,e,h⟩:=Lz n fs ts (sq n ps t) (i + 1) (j + 1) (NE n j ps f) (by omega) (by omega)
   refine⟨m,a,?_,?_⟩
   ·simp only [aN,fR,hk,okL,Bool.true_and,cond_true,hw];exact e
   ·intro cI
    simp only [okL,hk,Bool.true_and]at cI
    exact h cI
def ctN(n:Int)(ps:List Int)(fs:List (Int×Int×Int))(ts:List Int):Int:=bif Fh n ps fs ts then n else 0
def ctF(n:Int)(ps:List Int)(fs:List (Int×Int×Int))(ts:List Int):Int:=bif Fh n ps fs ts then MB n (trL n ts ps) 0 (-1)else 0
def ctP(n:Int)(ps:List Int)(fs:List (Int×Int×Int))(ts:List Int):List Int:=bif Fh n ps fs ts then LF n ts ps else []
def ctL(n:Int)(ps:List Int)(fs:List (Int×Int×Int))(ts:List Int):List (Int×List Int):=bif Fh n ps fs ts then(trL n ts ps).map fun p=>(n,p)else []
theorem JX(n:Int)(ps:List Int)(fs:List (Int×Int×Int))(ts:List Int)(hn:leN fs.length 9223372036854775807=true):
  wD n ps fs ts=ctN n ps fs ts∧wE n ps fs ts=ctF n ps fs ts∧wF n ps fs ts=mZ n ps fs ts∧wG n ps fs ts=ctP n ps fs ts∧wH n ps fs ts=true:=by
 simp only [wD,wE,wF,wG,wH,kX,Ln,ctN,ctF,ctP,Fh,mZ]
 cases hT:isT n ps with
 |false=>simp [allT,eqI]
 |true=>
  have h1:=ij.1 hT
  have qy:inR n 2 8=true:=oT.2 h1.1
  cases hl:leN ts.length 200 with
  |false=>simp [allT,eqI]
  |true=>
   have hl':=jP.1 hl
   cases hF:okFs n fs with
   |false=>simp [allT,eqI,hn]
   |true=>
    obtain⟨w1,w2⟩:=EG ts n 0 ps [] (by omega)
    rw [pf (P:=fun t=> !ro ps t) (j:=0) (fun t=>by
     simp only [lP,eS,yJ,ro];rw [bZ (by omega) (by omega)])]at w2
    have e5:(ts.any fun t=> !ro ps t)= !ts.all (ro ps):=by simp [List.all_eq_not_any_not]
    rw [e5]at w2
    have f3:Lp.fin bu (sL n ps ts)=true:=w1
    have e3:kY n ps ts= !ts.all (ro ps):=by
     have:bu.res (sL n ps ts)=bu.res ((0:Int),ts,n,0,ps,[]):=rfl
     rw [kY,this,w2]
     cases ts.all (ro ps) <;> rfl
    cases ha:ts.all (ro ps)with
    |false=>
     rw [ha]at e3
     simp [allT,eqI,hn,e3,f3,qy]
    |true=>
     rw [ha]at e3
     obtain⟨v1,v2⟩:=Md n 0 ps [] fs ts hT hF hl' (fun t ht=>List.all_eq_true.1 ha t ht) (-1)
     obtain⟨m,a,e,h⟩:=Lz n fs ts ps 0 0 (-1) (by omega) (by omega)
     rw [e]at v2
     have g1:Lp.fin bg (mQ n ps fs ts)=true:=v1
     have g2:bg.res (mQ n ps fs ts)=_:=v2
     simp only [qv,qw,sM,sN,vF,g2]
     have hp4:leN ps.length 1048576=true:=Cd (by omega)
     cases hk:okL n fs ts ps with
     |false=>simp [allT,eqI,hn,e3,f3,qy,g1,hp4,Nat.beq]
     |true=>
      obtain⟨h5,h6⟩:=h hk
      have h6':iV a.1 a.2.1 n a.2.2=MB n (trL n ts ps) 0 (-1):=h6
      rw [h5]at h6'
      simp [allT,eqI,hn,e3,f3,qy,g1,hp4,iW,MQ,h6',h5]
def BT:List SV→List Entry→Option Out
 | [.one ⟨true,[.val (.int .i64 x0),.ref 0]⟩,.one ⟨false,[.ref 1]⟩,.one ⟨false,[.ref 2]⟩],[.row false 2 (.int .i64) x1,.row false 118 (.pair (.int .i64) (.pair (.int .i64) (.int .i64))) x2,.row false 2 (.int .i64) x3]=>some ⟨.tup [⟨true,[.val (.int .i64 (ctN x0 x1 x2 x3)),.ref 3]⟩,⟨false,[.val (.int .i64 (ctF x0 x1 x2 x3))]⟩,⟨false,[.val (.int .i64 (mZ x0 x1 x2 x3))]⟩],[.row false 2 OO x1,.row false 118 OL x2,.row false 2 OO x3],[.row true 2 OO (ctP x0 x1 x2 x3)],[leN x2.length 9223372036854775807]⟩
 |_,_=>none
def wA:PF prog:=PF.alt Hc BT (by
 intro args es o h bh;unfold BT at h;split at h
 ·rename_i x0 x1 x2 x3
  cases h
  have bh:=gR bh
  have hh:=JX x0 x1 x2 x3 bh
  obtain⟨e0,e1,e2,e3,en⟩:=hh
  exact jT rfl (gA en) (by simp only [e0,e1,e2] <;> rfl) rfl (by simp only [e3] <;> rfl)
 ·cases h)
def fC(n:Int)(fs:List (Int×Int×Int))(t:Int)(a:List (Int×List Int)×List Int):Nat ⊕ (List (Int×List Int)×List Int):=bif Gw n fs a.2 t then .inr (a.1++ [(n,sq n a.2 t)],sq n a.2 t)else .inl 0
theorem HV(n:Int)(ps:List Int)(fs:List (Int×Int×Int))(ts:List Int)(hT:isT n ps=true)(hF:okFs n fs=true)(hl:ts.length≤200)(ht: ∀ t∈ts,ro ps t=true)(l0:List (Int×List Int))(h0:l0.length=1):
  az.fin ((0:Int),(ts.length:Int),ts,n,fs,l0,ps)=true∧az.res ((0:Int),(ts.length:Int),ts,n,fs,l0,ps)=
   ((aN (fC n fs) 1 ts 0 (l0,ps)).1,(((aN (fC n fs) 1 ts 0 (l0,ps)).2.1:Int),(ts.length:Int),ts,n,fs,(aN (fC n fs) 1 ts 0 (l0,ps)).2.2.1,(aN (fC n fs) 1 ts 0 (l0,ps)).2.2.2)):=by
 have im:=az.along (fun i a=>((i:Int),(ts.length:Int),ts,n,fs,a.1,a.2)) (fun x=>(x.2.2.2.2.2.1,x.2.2.2.2.2.2)) (fC n fs) 1 (fun i a=>a.1.length=i + 1∧isT n a.2=true∧a.2.length=ps.length) ts (l0,ps) ⟨h0,hT,rfl⟩ (by simp only [az];omega) (fun i t a hb hI=> ?_) (fun a hI=> ?_)
 ·exact im
 ·obtain⟨l,qs⟩:=a
  obtain⟨hL,hQ,hq⟩:=hI
  simp only at hL hQ hq
  have dw:=(List.getElem?_eq_some_iff.1 hb).1
  have iC: ∀ d,Option.getD ts[i]? d=t:=fun d=>by rw [hb];rfl
  have hw:=uD dw (by omega)
  have gq:ltI (i:Int) (ts.length:Int)=true:=io (by omega)
  have rZ:leI (0:Int) (i:Int)=true:=jg (by omega)
  have lh:ltN i ts.length=true:=kG dw
  have hh:ro qs t=true:=by
   have:=ub.1 (ht t (List.mem_of_getElem? hb));exact ub.2 (by omega)
  have hF2:=Fz (ij.1 hT).1 hF
  have hp:=Bi (fs:=fs) hQ hF2 hh
  have hm:xS n qs t=true:=sr.2 ⟨hQ,hh⟩
  refine⟨?_,?_,?_,?_⟩
  ·simp [bW,db,fk,fl,fm,fo,fq,ft,fu,fv,fw,fy,eI,eJ,eK,cB,az,LT.nds,allT,gq,rZ,lh,iC,hp,hm,hQ,hF2]
   exact .inr (by omega)
  ·simp [bW,db,fk,fl,fm,fo,fq,ft,fu,fv,fw,fy,eI,eJ,eK,cB,az,LT.each,hw]
  ·simp only [bW,db,fk,fl,fm,fo,fq,ft,fu,fv,fw,fy,eI,eJ,eK,cB,az,LT.fn,gq,iC,Int.toNat_natCast,cond_true,fC,Gw]
   cases uP n qs (il n qs fs 0) (il n qs fs 1) t <;> rfl
  ·intro a' hf
   simp only [fC]at hf
   cases hk:Gw n fs qs t <;> rw [hk]at hf <;> simp at hf
   subst hf
   exact⟨by simp [hL],Lm hQ t,by simp only [uk];exact hq⟩
 ·obtain⟨l,qs⟩:=a
  simp [bW,db,fk,fl,fm,fo,fq,ft,fu,fv,fw,fy,eI,eJ,eK,cB,az,LT.out]
theorem II(n:Int)(fs:List (Int×Int×Int)): ∀ (ts ps:List Int) (i:Nat) (l:List (Int×List Int)),
  ∃ m a,aN (fC n fs) 1 ts i (l++ [(n,ps)],ps)=(bif okL n fs ts ps then 1 else 0,m,a)∧(okL n fs ts ps=true→a.1=l++(trL n ts ps).map fun p=>(n,p))
 | [],ps,i,l=>⟨i,(l++ [(n,ps)],ps),rfl,fun _=>rfl⟩
 |t::ts,ps,i,l=>by
  cases hk:Gw n fs ps t with
  |false=>exact⟨i,(l++ [(n,ps)],ps),by simp only [aN,fC,hk,okL,Bool.false_and,cond_false],fun h=>by simp [okL,hk]at h⟩
  |true=>
   obtain⟨m,a,e,h⟩:=II n fs ts (sq n ps t) (i + 1) (l++ [(n,ps)])
   refine⟨m,a,?_,?_⟩
   ·simp only [aN,fC,hk,okL,Bool.true_and,cond_true];exact e
   ·intro cI
    simp only [okL,hk,Bool.true_and]at cI
    rw [h cI];simp [trL]
theorem KF(n:Int)(ps:List Int)(fs:List (Int×Int×Int))(ts:List Int)(hn:leN fs.length 9223372036854775807=true):
  si n ps fs ts=mZ n ps fs ts∧sj n ps fs ts=ctL n ps fs ts∧sk n ps fs ts=true:=by
 simp only [si,sj,sk,ka,kb,tu,ctL,Fh,mZ]
 cases hT:isT n ps with
 |false=>simp [allT,eqI]
 |true=>
  have h1:=ij.1 hT
  cases hl:leN ts.length 200 with
  |false=>simp [allT,eqI]
  |true=>
   have hl':=jP.1 hl
   cases ha:ts.all (ro ps)with
   |false=>simp [allT,eqI,hn]
   |true=>
    cases hF:okFs n fs with
    |false=>simp [allT,eqI,hn]
    |true=>
     obtain⟨v1,v2⟩:=HV n ps fs ts hT hF hl' (fun t ht=>List.all_eq_true.1 ha t ht) [(n,ps)] rfl
     obtain⟨m,a,e,h⟩:=II n fs ts ps 0 []
     rw [List.nil_append]at e
     rw [e]at v2
     have g1:Lp.fin az (lZ n ps fs ts)=true:=v1
     have g2:az.res (lZ n ps fs ts)=_:=v2
     have e4:aE ps=true:=by
      simp [aE,allT];omega
     simp only [rF,g2]
     cases hk:okL n fs ts ps with
     |false=>simp [allT,eqI,hn,g1,e4,Nat.beq]
     |true=>
      have h6:=h hk
      rw [List.nil_append]at h6
      simp [allT,eqI,hn,g1,e4,Nat.beq,h6]
def wa:List SV→List Entry→Option Out
 | [.one ⟨true,[.val (.int .i64 x0),.ref 0]⟩,.one ⟨false,[.ref 1]⟩,.one ⟨false,[.ref 2]⟩],[.row false 2 (.int .i64) x1,.row false 118 (.pair (.int .i64) (.pair (.int .i64) (.int .i64))) x2,.row false 2 (.int .i64) x3]=>some ⟨.tup [⟨false,[.ref 3]⟩,⟨false,[.val (.int .i64 (mZ x0 x1 x2 x3))]⟩],[.row false 2 OO x1,.row false 118 OL x2,.row false 2 OO x3],[.row true 26 OM (ctL x0 x1 x2 x3)],[leN x2.length 9223372036854775807]⟩
 |_,_=>none
def su:PF prog:=PF.alt Dv wa (by
 intro args es o h bh;unfold wa at h;split at h
 ·rename_i x0 x1 x2 x3
  cases h
  have bh:=gR bh
  have hh:=KF x0 x1 x2 x3 bh
  obtain⟨e0,e1,en⟩:=hh
  exact jT rfl (gA en) (by simp only [e0] <;> rfl) rfl (by simp only [e1] <;> rfl)
 ·cases h)
theorem GJ(n:Int): ∀ (ts ps:List Int),(trL n ts ps).length=ts.length + 1
 | [],ps=>rfl
 |t::ts,ps=>by simp [trL,GJ n ts]
section
variable (x0:Int)(x1:List Int)(x2:List (Int×Int×Int))(x3:List Int)
def nC:Int:=ctN x0 x1 x2 x3
def qq:Int:=mZ x0 x1 x2 x3
def kK:List Int:=ctP x0 x1 x2 x3
def qr:Bool:=allT [leN x2.length (9223372036854775807:Nat)]
end
def tU:List SV→List Entry→Option Out
 | [.one ⟨true,[.val (.int .i64 x0),.ref 0]⟩,.one ⟨false,[.ref 1]⟩,.one ⟨false,[.ref 2]⟩],[.row false 2 (.int .i64) x1,.row false 118 (.pair (.int .i64) (.pair (.int .i64) (.int .i64))) x2,.row false 2 (.int .i64) x3]=>some ⟨.tup [⟨true,[.val (.int .i64 (nC x0 x1 x2 x3)),.ref 3]⟩,⟨false,[.val (.int .i64 (qq x0 x1 x2 x3))]⟩],[.row false 2 OO x1,.row false 118 OL x2,.row false 2 OO x3],[.row true 2 OO (kK x0 x1 x2 x3)],[qr x2]⟩
 |_,_=>none
def qk:PF prog:=PF.ofG prog (T3z [wA]) [] cf 56 f56 func56 (fun c _=>LOk.nil c) tU (by
 intro vs es r h;unfold tU at h;split at h
 ·cases h;kernel_rfl
 ·cases h)
section
variable (x0:Int)(x1:List Int)(x2:List (Int×Int×Int))(x3:List Int)
def eH:Bool:=mZ x0 x1 x2 x3 !=0
def mR:Int×List Int:=Option.getD (ctL x0 x1 x2 x3)[Int.toNat (↑x3.length:Int)]? (na OM)
def pV:Int:=bif eH x0 x1 x2 x3 then(0:Int)else (mR x0 x1 x2 x3).1
def pW:Int:=bif eH x0 x1 x2 x3 then mZ x0 x1 x2 x3 else(0:Int)
def pX:List Int:=bif eH x0 x1 x2 x3 then []else (mR x0 x1 x2 x3).2
def np:Bool:=allT [leN x2.length (9223372036854775807:Nat),eH x0 x1 x2 x3||leI 0 (↑x3.length:Int),eH x0 x1 x2 x3||ltI (↑x3.length:Int) (↑(List.length (ctL x0 x1 x2 x3)):Int),eH x0 x1 x2 x3||ltN (Int.toNat (↑x3.length:Int)) (List.length (ctL x0 x1 x2 x3))]
end
def tP:List SV→List Entry→Option Out
 | [.one ⟨true,[.val (.int .i64 x0),.ref 0]⟩,.one ⟨false,[.ref 1]⟩,.one ⟨false,[.ref 2]⟩],[.row false 2 (.int .i64) x1,.row false 118 (.pair (.int .i64) (.pair (.int .i64) (.int .i64))) x2,.row false 2 (.int .i64) x3]=>some ⟨.tup [⟨true,[.val (.int .i64 (pV x0 x1 x2 x3)),.ref 3]⟩,⟨false,[.val (.int .i64 (pW x0 x1 x2 x3))]⟩],[.row false 2 OO x1,.row false 118 OL x2,.row false 2 OO x3],[.row false 2 OO (pX x0 x1 x2 x3)],[np x0 x1 x2 x3]⟩
 |_,_=>none
def AM:PF prog:=PF.ofG prog (T3z [su]) [] cf 57 f57 func57 (fun c _=>LOk.nil c) tP (by
 intro vs es r h;unfold tP at h;split at h
 ·cases h;kernel_rfl
 ·cases h)
theorem Kb(n:Int): ∀ (ts ps:List Int),(trL n ts ps)[ts.length]? =some (LF n ts ps)
 | [],ps=>rfl
 |t::ts,ps=>by simp only [trL,List.length_cons,List.getElem?_cons_succ];exact Kb n ts _
theorem Dg(n:Int)(ps:List Int)(fs:List (Int×Int×Int))(ts:List Int)(hn:leN fs.length 9223372036854775807=true):
  pV n ps fs ts=ctN n ps fs ts∧pW n ps fs ts=mZ n ps fs ts∧pX n ps fs ts=ctP n ps fs ts∧np n ps fs ts=true:=by
 simp only [pV,pW,pX,np,eH,mR,hn]
 cases hg:Fh n ps fs ts with
 |false=>
  have h1:(mZ n ps fs ts !=0)=true:=by simp only [Fh]at hg;simpa using Nb.1 hg
  simp [h1,ctN,ctP,hg,allT]
 |true=>
  have h1:(mZ n ps fs ts !=0)=false:=by simp only [Fh]at hg;simpa using Ig.1 hg
  have h0:mZ n ps fs ts=0:=by simpa using h1
  have h2:=GJ n ts ps
  have h3:=Kb n ts ps
  have l1:leI 0 (ts.length:Int)=true:=jg (by omega)
  have l2:ltI (ts.length:Int) (((trL n ts ps).length:Nat):Int)=true:=io (by omega)
  have l3:ltN ts.length (trL n ts ps).length=true:=kG (by omega)
  simp [h1,h0,ctN,ctP,ctL,hg,allT,h3,l1,l2,l3]
  exact⟨rfl,rfl⟩
def tW:List SV→List Entry→Option Out
 | [.one ⟨true,[.val (.int .i64 x0),.ref 0]⟩,.one ⟨false,[.ref 1]⟩,.one ⟨false,[.ref 2]⟩],[.row false 2 (.int .i64) x1,.row false 118 (.pair (.int .i64) (.pair (.int .i64) (.int .i64))) x2,.row false 2 (.int .i64) x3]=>some ⟨.tup [⟨true,[.val (.int .i64 (ctN x0 x1 x2 x3)),.ref 3]⟩,⟨false,[.val (.int .i64 (mZ x0 x1 x2 x3))]⟩],[.row false 2 OO x1,.row false 118 OL x2,.row false 2 OO x3],[.row false 2 OO (ctP x0 x1 x2 x3)],[leN x2.length 9223372036854775807]⟩
 |_,_=>none
def qj:PF prog:=PF.alt AM tW (by
 intro args es o h bh;unfold tW at h;split at h
 ·rename_i x0 x1 x2 x3
  cases h
  have bh:=gR bh
  have hh:=Dg x0 x1 x2 x3 bh
  obtain⟨e0,e1,e2,en⟩:=hh
  exact jT rfl (gA en) (by simp only [e0,e1] <;> rfl) rfl (by simp only [e2] <;> rfl)
 ·cases h)
abbrev ek:=Int×Int×List Int×Int×List (Int×(Int×Int))×List (Int×(List Int))×List Int
section
variable (y0 y1:Int)(y2:List Int)(y3:Int)(y4:List (Int×(Int×Int)))(y5:List (Int×(List Int)))(y6:List Int)
def iE:Int:=Option.getD y2[Int.toNat y0]? 0
def oh:List (Int×List Int):= [(y3,sq y3 y6 (iE y0 y2))]
def yz:Bool:=ltI y0 y1
def yA:Bool:=leI 0 y0
def yB:Bool:=ltI y0 (↑y2.length:Int)
def yC:Bool:=ltN y0.toNat y2.length
def yD:Bool:=isT y3 y6&&Cu y3 y4
def yE:Bool:=uC y3 y6 (il y3 y6 y4 0) (il y3 y6 y4 1) (iE y0 y2)
def yF:Bool:= !uP y3 y6 (il y3 y6 y4 0) (il y3 y6 y4 1) (iE y0 y2)
def yG:Bool:=xS y3 y6 (iE y0 y2)
def yH:Bool:=leN (List.length y5 + List.length (oh y0 y2 y3 y6)) 9223372036854775807
def yI:Bool:=leN ((List.length y5 + List.length (oh y0 y2 y3 y6)) * 32) 140737488355328
def xD:Int:=IntKind.wrap .i64 (y0 + (1:Int))
def xE:List (Int×(List Int)):=y5++oh y0 y2 y3 y6
def xF:List Int:=sq y3 y6 (iE y0 y2)
end
def wY:ek→List (Nat×SV)
 |(y0,y1,_,_,_,_,_)=> [(38,(.one ⟨false,[.val (.int .i64 y0)]⟩)),(37,(.one ⟨false,[.val (.int .i64 y1)]⟩)),(36,(.one ⟨false,[.ref 0]⟩)),(3,(.one ⟨false,[.ptr 1 0]⟩)),(1,(.one ⟨false,[.ref 2]⟩)),(9,(.one ⟨false,[.ref 3]⟩))]
def wV:ek→List (Nat×Entry)
 |(_,_,y2,y3,y4,y5,y6)=> [(0,(.row true 2 OO y2)),(1,(.box 26 [.val (.int .i64 y3),.ref 4])),(2,(.row true 118 OL y4)),(3,(.row true 26 OM y5)),(4,(.row false 2 OO y6))]
def xx:Nat→ek→List (Nat×SV)
 |0,(_,_,_,_,_,_,_)=> [(6,(.one ⟨false,[.ref 5]⟩)),(7,(.one ⟨false,[.val (.int .i64 5)]⟩))]
 |_,(_,_,_,_,_,_,_)=> [(9,(.one ⟨false,[.ref 3]⟩))]
def xt:Nat→ek→List (Nat×Entry)
 |0,(_,_,y2,y3,y4,y5,y6)=> [(0,(.row true 2 OO y2)),(1,(.box 26 [.val (.int .i64 y3),.ref 4])),(2,(.row true 118 OL y4)),(3,(.row true 26 OM y5)),(4,(.row false 2 OO y6)),(5,(.row true 26 OM []))]
 |_,(_,_,y2,y3,y4,y5,y6)=> [(0,(.row true 2 OO y2)),(1,(.box 26 [.val (.int .i64 y3),.ref 4])),(2,(.row true 118 OL y4)),(3,(.row true 26 OM y5)),(4,(.row false 2 OO y6))]
def xN:ek→LT ek
 |(y0,y1,y2,y3,y4,y5,y6)=> .ite (yz y0 y1) (.need [yA y0,yB y0 y2,yC y0 y2] (.need [yD y3 y4 y6,yE y0 y2 y3 y4 y6] (.ite (yF y0 y2 y3 y4 y6) (.ext 0 [(0,0),(1,1),(2,2),(3,3),(4,4),(5,768)]) (.need [yG y0 y2 y3 y6] (.need [yH y0 y2 y3 y5 y6,yI y0 y2 y3 y5 y6] (.nrm ((xD y0),y1,y2,y3,y4,xE y0 y2 y3 y5 y6,(xF y0 y2 y3 y6)) [(0,0),(1,1),(2,2),(3,1216),(4,896)])))))) (.ext 1 [(0,0),(1,1),(2,2),(3,3),(4,4)])
def oq(s:St):Option ek:=
 (match s.look 38 with
 |some ⟨none,.one ⟨false,[.val (.int .i64 y0)]⟩⟩=>
 (match s.look 37 with
 |some ⟨none,.one ⟨false,[.val (.int .i64 y1)]⟩⟩=>
 (match s.look 36 with
 |some ⟨none,.one ⟨false,[.ref 2]⟩⟩=>
 (match s.look 3 with
 |some ⟨none,.one ⟨false,[.ptr 256 0]⟩⟩=>
 (match s.look 1 with
 |some ⟨none,.one ⟨false,[.ref 1]⟩⟩=>
 (match s.look 9 with
 |some ⟨none,.one ⟨false,[.ref 3392]⟩⟩=>
 (match s.ent 2 with
 |some (.row true 2 (.int .i64) y2)=>
 (match s.ent 256 with
 |some (.box 26 [.val (.int .i64 y3),.ref 3072])=>
 (match s.ent 1 with
 |some (.row true 118 (.pair (.int .i64) (.pair (.int .i64) (.int .i64))) y4)=>
 (match s.ent 3392 with
 |some (.row true 26 (.pair (.int .i64) (.sl 2 (.int .i64))) y5)=>
 (match s.ent 3072 with
 |some (.row false 2 (.int .i64) y6)=>
 some (y0,y1,y2,y3,y4,y5,y6)
 |_=>none)
 |_=>none)
 |_=>none)
 |_=>none)
 |_=>none)
 |_=>none)
 |_=>none)
 |_=>none)
 |_=>none)
 |_=>none)
 |_=>none)
def cZ:Lp ek where
 h:=⟨[39,40,41,11,42,43,44,45,46,47,48,6,7,49,50,51,52,53,54,55,9,56,38],[0,1,2],[3,4],[5]⟩
 JL:=wY
 JE:=wV
 XL:=xx
 XE:=xt
 q:=fun j=>match j with | 0=> .ret | _=> .exit 1
 tags:= [0,1]
 lt:=xN
 fuel:=fun(y0,y1,y2,y3,y4,y5,y6)=>y0.natAbs + y1.natAbs + y2.length + y3.natAbs + y4.length + y5.length + y6.length
 fix:=fun(_,y1,y2,y3,y4,_,_) (y0,_,_,_,_,y5,y6)=>(y0,y1,y2,y3,y4,y5,y6)
 σ:= [(0,2),(1,256),(2,1),(3,3392),(4,3072)]
 rd:=oq
theorem vS:LoopOk prog (fun k=>Nat.blt k Try.f106.ntmps) cZ.F (cD f106 0):=by
 refine Lp.ok (tbl:= (T3z [bx,bX,af,ag,bz,aa])) (lf:= []) cf cZ (by kernel_rfl) (LOk.nil _) (fun _=>rfl) (fun j _=>by unfold cZ;match j with | 0=>rfl | _ + 1=>rfl) ?_ ?_ ?_ ?_ (fun _=>rfl) ?_
 ·rintro⟨y0,y1,y2,y3,y4,y5,y6⟩;kernel_rfl
 ·rintro⟨y0,y1,y2,y3,y4,y5,y6⟩;kernel_rfl
 ·intro s x h
  have h:oq s=some x:=h
  unfold oq at h
  repeat' split at h
  all_goals cases h
  constructor<;>repeat(first|refine ah (by assumption) rfl ?_|refine ar rfl (by assumption) rfl ?_|exact rfl)
 ·rintro⟨y0,y1,y2,y3,y4,y5,y6⟩;kernel_rfl
 ·rintro⟨y0,y1,y2,y3,y4,y5,y6⟩ z;exact(And.intro (And.intro trivial rfl) trivial)
section
variable (x0:Int)(x1:List Int)(x2:List (Int×Int×Int))(x3:List Int)
def aT:Bool:=bif tu x0 x1 x3==1 then true else tu x0 x1 x3==3
def aP:Bool:=tu x0 x1 x3 !=0
def dB:List (Int×Int×Int):=bif !aP x0 x1 x3&&true then x2 else x2
def pY:List Int:=il x0 x1 (dB x0 x1 x2 x3) 0
def pZ:List Int:=il x0 x1 (dB x0 x1 x2 x3) 1
def iD:Int:=Option.getD x3[Int.toNat 0]? 0
def dC:Bool:= !uP x0 x1 (pY x0 x1 x2 x3) (pZ x0 x1 x2 x3) (iD x3)
def gx:List (Int×List Int):= [(x0,x1)]
def ku:List (Int×List Int):= [(x0,sq x0 x1 (iD x3))]
def gy:Int×Int×List Int×Int×List (Int×Int×Int)×List (Int×List Int)×List Int:=(IntKind.wrap .i64 ((0:Int) + (1:Int)),(↑x3.length:Int),x3,x0,dB x0 x1 x2 x3,gx x0 x1++ku x0 x1 x3,sq x0 x1 (iD x3))
def gX:Bool:=Nat.beq ((Lp.res cZ (gy x0 x1 x2 x3)).1) 0
def dc:Bool:= !ltI 0 (↑x3.length:Int)
def jF:Int:=bif aT x0 x1 x3 then tu x0 x1 x3 else bif bif aP x0 x1 x3 then true else !okFs x0 x2 then(2:Int)else bif ltI 0 (↑x3.length:Int)then bif dC x0 x1 x2 x3 then(5:Int)else bif gX x0 x1 x2 x3 then(5:Int)else(0:Int)else(0:Int)
def lk:List Int:=bif aT x0 x1 x3 then x1 else bif bif aP x0 x1 x3 then true else !okFs x0 x2 then x1 else bif ltI 0 (↑x3.length:Int)then bif dC x0 x1 x2 x3 then x1 else bif gX x0 x1 x2 x3 then x1 else x1 else x1
def ll:List (Int×(Int×Int)):=bif aT x0 x1 x3 then x2 else bif bif aP x0 x1 x3 then true else !okFs x0 x2 then dB x0 x1 x2 x3 else bif ltI 0 (↑x3.length:Int)then bif dC x0 x1 x2 x3 then dB x0 x1 x2 x3 else bif gX x0 x1 x2 x3 then dB x0 x1 x2 x3 else dB x0 x1 x2 x3 else dB x0 x1 x2 x3
def eO:List Int:=bif aT x0 x1 x3 then x3 else bif bif aP x0 x1 x3 then true else !okFs x0 x2 then x3 else bif ltI 0 (↑x3.length:Int)then bif dC x0 x1 x2 x3 then x3 else bif gX x0 x1 x2 x3 then x3 else x3 else x3
def gQ:List (Int×(List Int)):=bif aT x0 x1 x3 then []else bif bif aP x0 x1 x3 then true else !okFs x0 x2 then []else bif ltI 0 (↑x3.length:Int)then bif dC x0 x1 x2 x3 then []else bif gX x0 x1 x2 x3 then []else ((Lp.res cZ (gy x0 x1 x2 x3)).2.2.2.2.2.2).1else gx x0 x1
def lm:Bool:=allT [aT x0 x1 x3||(!(!aP x0 x1 x3&&true)||leN x2.length (9223372036854775807:Nat)),aT x0 x1 x3||((bif aP x0 x1 x3 then true else !okFs x0 x2)||aE x1),aT x0 x1 x3||((bif aP x0 x1 x3 then true else !okFs x0 x2)||(dc x3||leI 0 0)),aT x0 x1 x3||((bif aP x0 x1 x3 then true else !okFs x0 x2)||(dc x3||ltI 0 (↑x3.length:Int))),aT x0 x1 x3||((bif aP x0 x1 x3 then true else !okFs x0 x2)||(dc x3||ltN (Int.toNat 0) x3.length)),aT x0 x1 x3||((bif aP x0 x1 x3 then true else !okFs x0 x2)||(dc x3||isT x0 x1&&Cu x0 (dB x0 x1 x2 x3))),aT x0 x1 x3||((bif aP x0 x1 x3 then true else !okFs x0 x2)||(dc x3||uC x0 x1 (pY x0 x1 x2 x3) (pZ x0 x1 x2 x3) (iD x3))),aT x0 x1 x3||((bif aP x0 x1 x3 then true else !okFs x0 x2)||(dc x3||(dC x0 x1 x2 x3||xS x0 x1 (iD x3)))),aT x0 x1 x3||((bif aP x0 x1 x3 then true else !okFs x0 x2)||(dc x3||(dC x0 x1 x2 x3||leN (List.length (gx x0 x1) + List.length (ku x0 x1 x3)) 9223372036854775807))),aT x0 x1 x3||((bif aP x0 x1 x3 then true else !okFs x0 x2)||(dc x3||(dC x0 x1 x2 x3||leN ((List.length (gx x0 x1) + List.length (ku x0 x1 x3)) * 32) 140737488355328))),aT x0 x1 x3||((bif aP x0 x1 x3 then true else !okFs x0 x2)||(dc x3||(dC x0 x1 x2 x3||Lp.fin cZ (gy x0 x1 x2 x3))))]
end
def uE:List SV→List Entry→Option Out
 | [.one ⟨true,[.val (.int .i64 x0),.ref 0]⟩,.one ⟨false,[.ref 1]⟩,.one ⟨false,[.ref 2]⟩],[.row true 2 (.int .i64) x1,.row true 118 (.pair (.int .i64) (.pair (.int .i64) (.int .i64))) x2,.row true 2 (.int .i64) x3]=>some ⟨.tup [⟨false,[.ref 3]⟩,⟨false,[.val (.int .i64 (jF x0 x1 x2 x3))]⟩],[.row true 2 OO (lk x0 x1 x2 x3),.row true 118 OL (ll x0 x1 x2 x3),.row true 2 OO (eO x0 x1 x2 x3)],[.row true 26 OM (gQ x0 x1 x2 x3)],[lm x0 x1 x2 x3]⟩
 |_,_=>none
def BL:PF prog:=PF.ofG prog (T3z [bx,bX,af,ag,bz,aa]) [(fun s=>(rE prog (T3z [bx,bX,af,ag,bz,aa]) (fun k=>Nat.blt k Try.f106.ntmps) [] (cD f106 0) s).bind cZ.F)] cf 106 f106 func106 (LOk.fnT (l:= [cD f106 0]) (by kernel_rfl) (.cons (LoopOk.peel (tbl:= (T3z [bx,bX,af,ag,bz,aa])) cf (LOk.nil _) vS) (.nil _))) uE (by
 intro vs es r h;unfold uE at h;split at h
 ·cases h;kernel_rfl
 ·cases h)
section
variable (x0:Int)(x1:List Int)(x2:List (Int×Int×Int))(x3:List Int)
def cz:Bool:=jF x0 x1 x2 x3 !=0
def og:Int×List Int:=Option.getD (gQ x0 x1 x2 x3)[Int.toNat (↑(List.length (eO x0 x1 x2 x3)):Int)]? (na OM)
def oM:Int:=bif cz x0 x1 x2 x3 then(0:Int)else (og x0 x1 x2 x3).1
def oN:Int:=bif cz x0 x1 x2 x3 then jF x0 x1 x2 x3 else(0:Int)
def oO:List Int:=bif cz x0 x1 x2 x3 then lk x0 x1 x2 x3 else lk x0 x1 x2 x3
def oP:List (Int×(Int×Int)):=bif cz x0 x1 x2 x3 then ll x0 x1 x2 x3 else ll x0 x1 x2 x3
def oQ:List Int:=bif cz x0 x1 x2 x3 then eO x0 x1 x2 x3 else eO x0 x1 x2 x3
def oR:List Int:=bif cz x0 x1 x2 x3 then []else (og x0 x1 x2 x3).2
def oS:Bool:=allT [lm x0 x1 x2 x3,cz x0 x1 x2 x3||leI 0 (↑(List.length (eO x0 x1 x2 x3)):Int),cz x0 x1 x2 x3||ltI (↑(List.length (eO x0 x1 x2 x3)):Int) (↑(List.length (gQ x0 x1 x2 x3)):Int),cz x0 x1 x2 x3||ltN (Int.toNat (↑(List.length (eO x0 x1 x2 x3)):Int)) (List.length (gQ x0 x1 x2 x3))]
end
def sb:List SV→List Entry→Option Out
 | [.one ⟨true,[.val (.int .i64 x0),.ref 0]⟩,.one ⟨false,[.ref 1]⟩,.one ⟨false,[.ref 2]⟩],[.row true 2 (.int .i64) x1,.row true 118 (.pair (.int .i64) (.pair (.int .i64) (.int .i64))) x2,.row true 2 (.int .i64) x3]=>some ⟨.tup [⟨true,[.val (.int .i64 (oM x0 x1 x2 x3)),.ref 3]⟩,⟨false,[.val (.int .i64 (oN x0 x1 x2 x3))]⟩],[.row true 2 OO (oO x0 x1 x2 x3),.row true 118 OL (oP x0 x1 x2 x3),.row true 2 OO (oQ x0 x1 x2 x3)],[.row false 2 OO (oR x0 x1 x2 x3)],[oS x0 x1 x2 x3]⟩
 |_,_=>none
def za:PF prog:=PF.ofG prog [PF.first prog,BL] [] cf 57 f57 func57 (fun c _=>LOk.nil c) sb (by
 intro vs es r h;unfold sb at h;split at h
 ·cases h;kernel_rfl
 ·cases h)
theorem Lp.shift{X:Type}(p:Lp X){x y:X}(hf:p.fin x=true)(ho:(p.lt x).out=some (.inr y))(pL:p.fuel x≤p.fuel y):p.fin y=true∧p.res y=p.res x:=by
 have h:=p.fin_ex hf
 have hp:big (p.fuel x)=(big (p.fuel x) - 1) + 1:=by
  have:0 < big (p.fuel x):=by rw [Ia];exact Nat.pow_pos (by omega)
  omega
 rw [hp,HN _ ho]at h
 refine p.run h (Nat.le_trans (Nat.sub_le _ _) ?_)
 rw [Ia,Ia]
 exact Nat.pow_le_pow_left (by omega) 4
theorem LE(n:Int)(ps:List Int)(fs:List (Int×Int×Int))(t:Int)(r:List Int)(hT:isT n ps=true)(hF:okFs n fs=true)(ht:ro ps t=true):
  (cB ((0:Int),((t::r).length:Int),t::r,n,fs,[(n,ps)],ps)).out=some (match fC n fs t ([(n,ps)],ps)with | .inl j=> .inl j | .inr a=> .inr (IntKind.i64.wrap (0 + 1),((t::r).length:Int),t::r,n,fs,a.1,a.2)):=by
 have iC: ∀ d,Option.getD (t::r)[0]? d=t:=fun d=>rfl
 have gq:ltI 0 ((t::r).length:Int)=true:=io (by simp only [List.length_cons];omega)
 have rZ:leI (0:Int) 0=true:=rfl
 have lh:ltN 0 (t::r).length=true:=kG (by simp)
 have hF2:=Fz (ij.1 hT).1 hF
 have hp:=Bi (fs:=fs) hT hF2 ht
 have hm:xS n ps t=true:=sr.2 ⟨hT,ht⟩
 have h1:=LT.out_of (st1:=fun(a:List (Int×List Int)×List Int)=>(IntKind.i64.wrap (0 + 1),((t::r).length:Int),t::r,n,fs,a.1,a.2)) (pr:=fun x=>(x.2.2.2.2.2.1,x.2.2.2.2.2.2))
  (t:=cB ((0:Int),((t::r).length:Int),t::r,n,fs,[(n,ps)],ps)) ?_ ?_
 ·rw [h1]
  have e:(cB ((0:Int),((t::r).length:Int),t::r,n,fs,[(n,ps)],ps)).fn (fun x=>(x.2.2.2.2.2.1,x.2.2.2.2.2.2))=fC n fs t ([(n,ps)],ps):=by
   simp only [bW,db,fk,fl,fm,fo,fq,ft,fu,fv,fw,fy,eI,eJ,eK,cB,az,LT.fn,gq,Int.toNat_zero,iC,cond_true,fC,Gw]
   cases uP n ps (il n ps fs 0) (il n ps fs 1) t <;> rfl
  rw [e]
  cases fC n fs t ([(n,ps)],ps) <;> rfl
 ·simp [bW,db,fk,fl,fm,fo,fq,ft,fu,fv,fw,fy,eI,eJ,eK,cB,az,LT.nds,allT,rZ,lh,hp,hm,hT,hF2]
 ·simp [bW,db,fk,fl,fm,fo,fq,ft,fu,fv,fw,fy,eI,eJ,eK,cB,az,LT.each]
theorem Jr(n:Int)(ps:List Int)(fs:List (Int×Int×Int))(ts:List Int)(hn:leN fs.length 9223372036854775807=true):
  jF n ps fs ts=mZ n ps fs ts∧lk n ps fs ts=ps∧ll n ps fs ts=fs∧eO n ps fs ts=ts∧gQ n ps fs ts=ctL n ps fs ts∧lm n ps fs ts=true:=by
 have a2:dB n ps fs ts=fs:=Bool.cond_self _ _
 have im:jF n ps fs ts=mZ n ps fs ts∧gQ n ps fs ts=ctL n ps fs ts∧lm n ps fs ts=true:=by
  simp only [jF,gQ,lm,aT,aP,pY,pZ,dC,dc,a2,tu,ctL,Fh,mZ]
  cases hT:isT n ps with
  |false=>simp [allT,eqI]
  |true=>
   have h1:=ij.1 hT
   cases hl:leN ts.length 200 with
   |false=>simp [allT,eqI]
   |true=>
    have hl':=jP.1 hl
    cases ha:ts.all (ro ps)with
    |false=>simp [allT,eqI,hn]
    |true=>
     cases hF:okFs n fs with
     |false=>simp [allT,eqI,hn]
     |true=>
      have e4:aE ps=true:=by
       simp [aE,allT];omega
      cases ts with
      |nil=>simp [allT,eqI,hn,e4,okL,trL,gx]
      |cons t r=>
       obtain⟨v1,v2⟩:=HV n ps fs (t::r) hT hF hl' (fun t ht=>List.all_eq_true.1 ha t ht) [(n,ps)] rfl
       obtain⟨m,a,e,h⟩:=II n fs (t::r) ps 0 []
       rw [List.nil_append]at e
       rw [e]at v2
       have ht:ro ps t=true:=List.all_eq_true.1 ha t (by simp)
       have ho:=LE n ps fs t r hT hF ht
       have hF2:=Fz (ij.1 hT).1 hF
       have hp:=Bi (fs:=fs) hT hF2 ht
       have hm:xS n ps t=true:=sr.2 ⟨hT,ht⟩
       have g0:ltI 0 (((t::r).length:Nat):Int)=true:=io (by simp only [List.length_cons];omega)
       have g5:iD (t::r)=t:=rfl
       have g6:ltI 0 ((r.length:Int) + 1)=true:=io (by omega)
       have z1:leI 0 0=true:=rfl
       have z2:ltN (Int.toNat 0) (t::r).length=true:=kG (by simp)
       cases hk1:Gw n fs ps t with
       |false=>
        have hk2:uP n ps (il n ps fs 0) (il n ps fs 1) t=false:=hk1
        simp [okL,hk1,hk2,g0,g5,g6,z1,z2,hp,hT,hF2,allT,eqI,hn,e4,hm]
       |true=>
        have hk2:uP n ps (il n ps fs 0) (il n ps fs 1) t=true:=hk1
        have hfc:fC n fs t ([(n,ps)],ps)= .inr ([(n,ps)]++ [(n,sq n ps t)],sq n ps t):=by simp only [fC,hk1,cond_true]
        rw [hfc]at ho
        have hX1:gy n ps fs (t::r)=(IntKind.i64.wrap (0 + 1),((t::r).length:Int),t::r,n,fs,[(n,ps)]++ [(n,sq n ps t)],sq n ps t):=by
         simp only [gy,a2,g5];rfl
        obtain⟨s1,s2⟩:=az.shift v1 ho (by
         simp only [az,List.length_append,List.length_singleton,uk];rw [bZ (x:=(0:Int) + 1) (by omega) (by omega)];omega)
        rw [← hX1]at s1 s2
        rw [v2]at s2
        have f1:cZ.fin (gy n ps fs (t::r))=true:=s1
        have f2:cZ.res (gy n ps fs (t::r))=_:=s2
        have q1:leN ((gx n ps).length + (ku n ps (t::r)).length) 9223372036854775807=true:=rfl
        have q2:leN (((gx n ps).length + (ku n ps (t::r)).length) * 32) 140737488355328=true:=rfl
        simp only [gX,f1,f2]
        cases hk:okL n fs (t::r) ps with
        |false=>simp [hk2,g0,g5,g6,z1,z2,hp,hT,hF2,allT,eqI,hn,e4,hm,q1,q2,Nat.beq]
        |true=>
         have h6:=h hk
         rw [List.nil_append]at h6
         simp [hk2,g0,g5,g6,z1,z2,hp,hT,hF2,allT,eqI,hn,e4,hm,q1,q2,Nat.beq,h6]
 refine⟨im.1,?_,?_,?_,im.2.1,im.2.2⟩
 ·simp only [lk,Bool.cond_self]
 ·simp only [ll,a2,Bool.cond_self]
 ·simp only [eO,Bool.cond_self]
theorem GU(n:Int)(ps:List Int)(fs:List (Int×Int×Int))(ts:List Int)(hn:leN fs.length 9223372036854775807=true):
  oM n ps fs ts=ctN n ps fs ts∧oN n ps fs ts=mZ n ps fs ts∧oO n ps fs ts=ps∧oP n ps fs ts=fs∧oQ n ps fs ts=ts∧
  oR n ps fs ts=ctP n ps fs ts∧oS n ps fs ts=true:=by
 obtain⟨h0,h1,h2,h3,h4,h5⟩:=Jr n ps fs ts hn
 obtain⟨k0,k1,k2,k3⟩:=Dg n ps fs ts hn
 simp only [oM,oN,oO,oP,oQ,oR,oS,cz,og,h0,h1,h2,h3,h4,h5,Bool.cond_self]
 refine⟨k0,k1,trivial,trivial,trivial,k2,?_⟩
 simp only [np,eH,mR]at k3
 simp only [allT,cond_true]
 simp only [allT,hn,cond_true]at k3
 simpa only [allT] using k3
def sc:List SV→List Entry→Option Out
 | [.one ⟨true,[.val (.int .i64 x0),.ref 0]⟩,.one ⟨false,[.ref 1]⟩,.one ⟨false,[.ref 2]⟩],[.row true 2 (.int .i64) x1,.row true 118 (.pair (.int .i64) (.pair (.int .i64) (.int .i64))) x2,.row true 2 (.int .i64) x3]=>some ⟨.tup [⟨true,[.val (.int .i64 (ctN x0 x1 x2 x3)),.ref 3]⟩,⟨false,[.val (.int .i64 (mZ x0 x1 x2 x3))]⟩],[.row true 2 OO x1,.row true 118 OL x2,.row true 2 OO x3],[.row false 2 OO (ctP x0 x1 x2 x3)],[leN x2.length 9223372036854775807]⟩
 |_,_=>none
def yU:PF prog:=PF.alt za sc (by
 intro args es o h bh;unfold sc at h;split at h
 ·rename_i x0 x1 x2 x3
  cases h
  have bh:=gR bh
  have hh:=GU x0 x1 x2 x3 bh
  obtain⟨e0,e1,e2,e3,e4,e5,en⟩:=hh
  exact jT rfl (gA en) (by simp only [e0,e1] <;> rfl) (by simp only [e2,e3,e4] <;> rfl) (by simp only [e5] <;> rfl)
 ·cases h)
theorem gt0:GT= []:=rfl
def EE:PF prog:=PF.thaw yU gt0
end Go.SX
