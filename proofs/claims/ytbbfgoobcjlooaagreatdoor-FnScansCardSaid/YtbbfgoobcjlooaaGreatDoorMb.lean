/- What functions of the program come to, and what that says in plain words: part 2. -/
import Derived.Test.YtbbfgoobcjlooaaGreatDoorMa
import Derived.Test.YtbbfgoobcjlooaaGreatDoorTXh
import Derived.Test.YtbbfgoobcjlooaaGreatDoorProg
set_option linter.unusedSimpArgs false
set_option linter.unusedVariables false
namespace Go.SX
open Go.Proofs Go.Proofs.Tryz
set_option maxRecDepth 100000
abbrev nB:=Int×ByteArray×ByteArray×List ByteArray×List ByteArray×List ByteArray×List (ByteArray×(List (Int×(ByteArray×Int))))
def wZ(y0:Int)(y6:List (ByteArray×(List (Int×(ByteArray×Int))))):Bool:=ltI y0 (↑y6.length:Int)
def xa(y0:Int)(y6:List (ByteArray×(List (Int×(ByteArray×Int))))):Bool:=ltN y0.toNat y6.length
def oz(y0:Int)(y6:List (ByteArray×(List (Int×(ByteArray×Int))))):ByteArray×List (Int×ByteArray×Int):=Option.getD y6[Int.toNat y0]? (xE aas)
def kx(y0:Int)(y6:List (ByteArray×(List (Int×(ByteArray×Int))))):Bool:= !oC ((oz y0 y6).1)
def tg(y0:Int)(y6:List (ByteArray×(List (Int×(ByteArray×Int))))):List (Int×ByteArray×Int):=bif !kx y0 y6&&true then (oz y0 y6).2else []
def yL(y0:Int)(y6:List (ByteArray×(List (Int×(ByteArray×Int))))):Bool:=wZ y0 y6
def GQ(y0:Int):Bool:=leI 0 y0
def GR(y0:Int)(y6:List (ByteArray×(List (Int×(ByteArray×Int))))):Bool:=xa y0 y6
def GS(y0:Int)(y6:List (ByteArray×(List (Int×(ByteArray×Int))))):Bool:=wi ((oz y0 y6).1)
def GU(y0:Int)(y6:List (ByteArray×(List (Int×(ByteArray×Int))))):Bool:= !(!kx y0 y6&&true)||leI 0 y0
def GV(y0:Int)(y6:List (ByteArray×(List (Int×(ByteArray×Int))))):Bool:= !(!kx y0 y6&&true)||wZ y0 y6
def GW(y0:Int)(y6:List (ByteArray×(List (Int×(ByteArray×Int))))):Bool:= !(!kx y0 y6&&true)||xa y0 y6
def GX(y0:Int)(y6:List (ByteArray×(List (Int×(ByteArray×Int))))):Bool:= !(!kx y0 y6&&true)||UY (tg y0 y6)
def Ct(y0:Int)(y6:List (ByteArray×(List (Int×(ByteArray×Int))))):Bool:=bif kx y0 y6 then true else !agT (tg y0 y6)
def GY(y0:Int):Int:=IntKind.wrap .i64 (y0 + (1:Int))
def acf:nB→List (Nat×SV)
 |(y0,_,_,_,_,_,_)=> [(3,(.one ⟨false,[.val (.int .i64 y0)]⟩)),(1,(.one ⟨false,[.ptr 0 0]⟩))]
def acb:nB→List (Nat×Entry)
 |(_,y1,y2,y3,y4,y5,y6)=> [(0,(.box 63 [.val (.string y1),.ref 1,.ref 2,.ref 3,.val (.string y2),.ref 4])),(1,(.row false 9 alP y3)),(2,(.row false 9 alP y4)),(3,(.row false 9 alP y5)),(4,(.row false 204 aas y6))]
def acA:Nat→nB→List (Nat×SV)
 |0,(_,_,_,_,_,_,_)=> [(2,(.one ⟨false,[.val (.bool false)]⟩))]
 |_,(_,_,_,_,_,_,_)=> []
def acx:Nat→nB→List (Nat×Entry)
 |0,(_,y1,y2,y3,y4,y5,y6)=> [(0,(.box 63 [.val (.string y1),.ref 1,.ref 2,.ref 3,.val (.string y2),.ref 4])),(1,(.row false 9 alP y3)),(2,(.row false 9 alP y4)),(3,(.row false 9 alP y5)),(4,(.row false 204 aas y6))]
 |_,(_,y1,y2,y3,y4,y5,y6)=> [(0,(.box 63 [.val (.string y1),.ref 1,.ref 2,.ref 3,.val (.string y2),.ref 4])),(1,(.row false 9 alP y3)),(2,(.row false 9 alP y4)),(3,(.row false 9 alP y5)),(4,(.row false 204 aas y6))]
def AO:nB→LT nB
 |(y0,y1,y2,y3,y4,y5,y6)=> .ite (yL y0 y6) (.need [GQ y0,yL y0 y6,GR y0 y6,GS y0 y6,GU y0 y6,GV y0 y6,GW y0 y6,GX y0 y6] (.ite (Ct y0 y6) (.ext 0 [(0,0),(1,1),(2,2),(3,3),(4,4)]) (.nrm ((GY y0),y1,y2,y3,y4,y5,y6) [(0,0),(1,1),(2,2),(3,3),(4,4)]))) (.ext 1 [(0,0),(1,1),(2,2),(3,3),(4,4)])
def MK(s:St):Option nB:=
 (match s.look 3 with
 |some ⟨none,.one ⟨false,[.val (.int .i64 y0)]⟩⟩=>
 (match s.look 1 with
 |some ⟨none,.one ⟨false,[.ptr 320 0]⟩⟩=>
 (match s.ent 320 with
 |some (.box 63 [.val (.string y1),.ref 0,.ref 1,.ref 2,.val (.string y2),.ref 3])=>
 (match s.ent 0 with
 |some (.row false 9 (.str) y3)=>
 (match s.ent 1 with
 |some (.row false 9 (.str) y4)=>
 (match s.ent 2 with
 |some (.row false 9 (.str) y5)=>
 (match s.ent 3 with
 |some (.row false 204 (.pair .str (.sl 178 (.pair (.int .i64) (.pair .str (.int .i64))))) y6)=>
 some (y0,y1,y2,y3,y4,y5,y6)
 |_=>none)
 |_=>none)
 |_=>none)
 |_=>none)
 |_=>none)
 |_=>none)
 |_=>none)
def fu:Lp nB where
 h:=⟨[37,38,39,40,41,44,45,46,47,48,49,50,51,52,53,54,55,56,57,58,59,60,61,2,42,43,3],[0,1,2,3,4],[],[]⟩
 JL:=acf
 JE:=acb
 XL:=acA
 XE:=acx
 q:=fun j=>match j with | 0=> .ret | _=> .exit 0
 tags:= [0,1]
 lt:=AO
 fuel:=fun(y0,y1,y2,y3,y4,y5,y6)=>y0.natAbs + y1.size + y2.size + y3.length + y4.length + y5.length + y6.length
 fix:=fun(_,y1,y2,y3,y4,y5,y6) (y0,_,_,_,_,_,_)=>(y0,y1,y2,y3,y4,y5,y6)
 σ:= [(0,320),(1,0),(2,1),(3,2),(4,3)]
 rd:=MK
theorem aat:LoopOk prog (fun k=>Nat.blt k Tryz.f186.ntmps) fu.F (aY f186 0):=by
 refine Lp.ok (tbl:= (T3z [yf,MG,Fb,yK])) (lf:= []) aV fu (by kernel_rfl) (LOk.nil _) (fun _=>rfl) (fun j _=>by unfold fu;match j with | 0=>rfl | _ + 1=>rfl) ?_ ?_ ?_ ?_ (fun _=>rfl) ?_
 ·rintro⟨y0,y1,y2,y3,y4,y5,y6⟩;kernel_rfl
 ·rintro⟨y0,y1,y2,y3,y4,y5,y6⟩;kernel_rfl
 ·intro s x h
  have h:MK s=some x:=h
  unfold MK at h
  repeat' split at h
  all_goals cases h
  constructor<;>repeat(first|refine ab (by assumption) rfl ?_|refine aa rfl (by assumption) rfl ?_|exact rfl)
 ·rintro⟨y0,y1,y2,y3,y4,y5,y6⟩;kernel_rfl
 ·rintro⟨y0,y1,y2,y3,y4,y5,y6⟩ z;exact(And.intro (And.intro trivial rfl) trivial)
section
variable (x0:ByteArray)(x2 x3 x4:List ByteArray)
def Rq:Bool:=bif !oC x0 then true else !(List.all x2 oJ&&inR (↑x2.length:Int) 1 20)
def Rr:Bool:=bif Rq x0 x2 then true else !(List.all x3 oJ&&inR (↑x3.length:Int) 0 20)
def Rs:Bool:=bif Rr x0 x2 x3 then true else !(List.all x4 oJ&&inR (↑x4.length:Int) 1 20)
end
def Rt(x1:ByteArray):Bool:=
 !ByteArray.toList x1==ByteArray.toList { data:= #[] }
section
variable (x0 x1:ByteArray)(x2 x3 x4:List ByteArray)(x5:List (ByteArray×List (Int×ByteArray×Int)))
def Ru:Bool:=bif Rs x0 x2 x3 x4 then true else bif Rt x1 then !oC x1 else false
def Lo:Int×ByteArray×ByteArray×List ByteArray×List ByteArray×List ByteArray×List (ByteArray×List (Int×ByteArray×Int)):=((0:Int),x0,x1,x2,x3,x4,x5)
def HQ:Bool:=bif Ru x0 x1 x2 x3 x4 then false else bif Nat.beq ((Lp.res fu (Lo x0 x1 x2 x3 x4 x5)).1) 0 then false else bL (↑x5.length:Int) 1 40
def NB:Bool:=allT [wi x0,!(!!oC x0&&true)||SA x2,!(!Rq x0 x2&&true)||SA x3,!(!Rr x0 x2 x3&&true)||SA x4,!(Rt x1&&(!Rs x0 x2 x3 x4&&true))||wi x1,Ru x0 x1 x2 x3 x4||Lp.fin fu (Lo x0 x1 x2 x3 x4 x5)]
end
def YZ:List SV→List Entry→Option Out
 | [.one ⟨true,[.val (.string x0),.ref 0,.ref 1,.ref 2,.val (.string x1),.ref 3]⟩],[.row false 9 (.str) x2,.row false 9 (.str) x3,.row false 9 (.str) x4,.row false 204 (.pair (.str) (.sl 178 (.pair (.int .i64) (.pair (.str) (.int .i64))))) x5]=>some ⟨.one ⟨false,[.val (.bool (HQ x0 x1 x2 x3 x4 x5))]⟩,[.row false 9 alP x2,.row false 9 alP x3,.row false 9 alP x4,.row false 204 (CTy.pair CTy.str (CTy.sl (178:TypeId) acQ)) x5],[],[NB x0 x1 x2 x3 x4 x5]⟩
 |_,_=>none
def SP:PF prog:=PF.ofG prog (T3z [yf,MG,Fb,yK]) [fu.F] aV 186 f186 func186 (LOk.fnT (l:= [aY f186 0]) (by kernel_rfl) (.cons aat (.nil _))) YZ (by
 intro vs es r h;unfold YZ at h;split at h
 ·cases h;kernel_rfl
 ·cases h)
def tD(x2:ByteArray)(x3 x4:List ByteArray):Bool:=bif leI 0 (gW x3 x2)then true else leI 0 (gW x4 x2)
def Ez(x2:ByteArray)(x3 x4:List ByteArray):Bool:=allT [leN x3.length (9223372036854775807:Nat),!(!leI 0 (gW x3 x2)&&true)||leN x4.length (9223372036854775807:Nat)]
def Vu:List SV→List Entry→Option Out
 | [.one ⟨true,[.val (.string _x0),.ref 0,.ref 1,.ref 2,.val (.string _x1),.ref 3]⟩,.one ⟨false,[.val (.string x2)]⟩],[.row false 9 (.str) x3,.row false 9 (.str) x4,.row false 9 (.str) x5,.row false 204 (.pair (.str) (.sl 178 (.pair (.int .i64) (.pair (.str) (.int .i64))))) x6]=>some ⟨.one ⟨false,[.val (.bool (tD x2 x3 x4))]⟩,[.row false 9 alP x3,.row false 9 alP x4,.row false 9 alP x5,.row false 204 (CTy.pair CTy.str (CTy.sl (178:TypeId) acQ)) x6],[],[Ez x2 x3 x4]⟩
 |_,_=>none
def lp:PF prog:=PF.ofG prog (T3z [cE]) [] aV 243 f243 func243 (fun c _=>LOk.nil c) Vu (by
 intro vs es r h;unfold Vu at h;split at h
 ·cases h;kernel_rfl
 ·cases h)
abbrev oO:=Int×ByteArray×ByteArray×List ByteArray×List ByteArray×List ByteArray×List ByteArray×List (ByteArray×(List (Int×(ByteArray×Int))))
def jS(y0:Int)(y7:List (ByteArray×(List (Int×(ByteArray×Int))))):ByteArray:=(Option.getD y7[Int.toNat y0]? (xE aas)).1
def Ao(y0:Int)(y7:List (ByteArray×(List (Int×(ByteArray×Int))))):Bool:=ltI y0 (↑y7.length:Int)
def Ek(y0:Int):Bool:=leI 0 y0
def El(y0:Int)(y7:List (ByteArray×(List (Int×(ByteArray×Int))))):Bool:=ltN y0.toNat y7.length
def Em(y5:List ByteArray):Bool:=leN y5.length (9223372036854775807:Nat)
def En(y0:Int)(y5 y6:List ByteArray)(y7:List (ByteArray×(List (Int×(ByteArray×Int))))):Bool:= !(ltI (gW y5 (jS y0 y7)) 0&&true)||leN y6.length (9223372036854775807:Nat)
def Eo(y0:Int)(y5 y6:List ByteArray)(y7:List (ByteArray×(List (Int×(ByteArray×Int))))):Bool:=bif ltI (gW y5 (jS y0 y7)) 0 then ltI (gW y6 (jS y0 y7)) 0 else false
def Ep(y0:Int)(y3:List ByteArray)(y7:List (ByteArray×(List (Int×(ByteArray×Int))))):Bool:=leN (List.length y3 + List.length [jS y0 y7]) (9223372036854775807:Nat)
def Er(y0:Int)(y3:List ByteArray)(y7:List (ByteArray×(List (Int×(ByteArray×Int))))):Bool:=leN ((List.length y3 + List.length [jS y0 y7]) * (16:Nat)) 140737488355328
def Es(y0:Int):Int:=IntKind.wrap .i64 (y0 + (1:Int))
def Et(y0:Int)(y3:List ByteArray)(y7:List (ByteArray×(List (Int×(ByteArray×Int))))):List ByteArray:=y3++ [jS y0 y7]
def adT:oO→List (Nat×SV)
 |(y0,_,_,_,_,_,_,_)=> [(4,(.one ⟨false,[.val (.int .i64 y0)]⟩)),(1,(.one ⟨false,[.ptr 0 0]⟩)),(3,(.one ⟨false,[.ref 1]⟩))]
def adL:oO→List (Nat×Entry)
 |(_,y1,y2,y3,y4,y5,y6,y7)=> [(0,(.box 63 [.val (.string y1),.ref 2,.ref 3,.ref 4,.val (.string y2),.ref 5])),(2,(.row false 9 alP y4)),(3,(.row false 9 alP y5)),(4,(.row false 9 alP y6)),(5,(.row false 204 aas y7)),(1,(.row true 9 alP y3))]
def ad9:Nat→oO→List (Nat×SV)
 |0,(_,_,_,_,_,_,_,_)=> [(2,(.one ⟨false,[.val (.int .i64 3)]⟩))]
 |_,(_,_,_,_,_,_,_,_)=> [(3,(.one ⟨false,[.ref 1]⟩))]
def ad1:Nat→oO→List (Nat×Entry)
 |0,(_,y1,y2,y3,y4,y5,y6,y7)=> [(0,(.box 63 [.val (.string y1),.ref 2,.ref 3,.ref 4,.val (.string y2),.ref 5])),(1,(.row true 9 alP y3)),(2,(.row false 9 alP y4)),(3,(.row false 9 alP y5)),(4,(.row false 9 alP y6)),(5,(.row false 204 aas y7))]
 |_,(_,y1,y2,y3,y4,y5,y6,y7)=> [(0,(.box 63 [.val (.string y1),.ref 2,.ref 3,.ref 4,.val (.string y2),.ref 5])),(1,(.row true 9 alP y3)),(2,(.row false 9 alP y4)),(3,(.row false 9 alP y5)),(4,(.row false 9 alP y6)),(5,(.row false 204 aas y7))]
def Ck:oO→LT oO
 |(y0,y1,y2,y3,y4,y5,y6,y7)=> .ite (Ao y0 y7) (.need [Ek y0,Ao y0 y7,El y0 y7] (.need [Em y5,En y0 y5 y6 y7] (.ite (Eo y0 y5 y6 y7) (.ext 0 [(0,0),(1,1),(2,2),(3,3),(4,4),(5,5)]) (.need [Ep y0 y3 y7,Er y0 y3 y7] (.nrm ((Es y0),y1,y2,Et y0 y3 y7,y4,y5,y6,y7) [(0,0),(1,1792),(2,2),(3,3),(4,4),(5,5)]))))) (.ext 1 [(0,0),(1,1),(2,2),(3,3),(4,4),(5,5)])
def Od(s:St):Option oO:=
 (match s.look 4 with
 |some ⟨none,.one ⟨false,[.val (.int .i64 y0)]⟩⟩=>
 (match s.look 1 with
 |some ⟨none,.one ⟨false,[.ptr 320 0]⟩⟩=>
 (match s.look 3 with
 |some ⟨none,.one ⟨false,[.ref 1280]⟩⟩=>
 (match s.ent 320 with
 |some (.box 63 [.val (.string y1),.ref 0,.ref 1,.ref 2,.val (.string y2),.ref 3])=>
 (match s.ent 0 with
 |some (.row false 9 (.str) y4)=>
 (match s.ent 1 with
 |some (.row false 9 (.str) y5)=>
 (match s.ent 2 with
 |some (.row false 9 (.str) y6)=>
 (match s.ent 3 with
 |some (.row false 204 (.pair .str (.sl 178 (.pair (.int .i64) (.pair .str (.int .i64))))) y7)=>
 (match s.ent 1280 with
 |some (.row true 9 (.str) y3)=>
 some (y0,y1,y2,y3,y4,y5,y6,y7)
 |_=>none)
 |_=>none)
 |_=>none)
 |_=>none)
 |_=>none)
 |_=>none)
 |_=>none)
 |_=>none)
 |_=>none)
def eg:Lp oO where
 h:=⟨[23,24,25,26,27,30,31,32,33,34,35,5,36,37,38,39,40,41,42,43,44,45,46,47,2,48,49,50,51,3,28,29,4],[0,2,3,4,5],[1],[]⟩
 JL:=adT
 JE:=adL
 XL:=ad9
 XE:=ad1
 q:=fun j=>match j with | 0=> .ret | _=> .exit 0
 tags:= [0,1]
 lt:=Ck
 fuel:=fun(y0,y1,y2,y3,y4,y5,y6,y7)=>y0.natAbs + y1.size + y2.size + y3.length + y4.length + y5.length + y6.length + y7.length
 fix:=fun(_,y1,y2,_,y4,y5,y6,y7) (y0,_,_,y3,_,_,_,_)=>(y0,y1,y2,y3,y4,y5,y6,y7)
 σ:= [(0,320),(2,0),(3,1),(4,2),(5,3),(1,1280)]
 rd:=Od
theorem abH:LoopOk prog (fun k=>Nat.blt k Tryz.f187.ntmps) eg.F (aY f187 0):=by
 refine Lp.ok (tbl:= (T3z [cE,tM,pL,lp])) (lf:= []) aV eg (by kernel_rfl) (LOk.nil _) (fun _=>rfl) (fun j _=>by unfold eg;match j with | 0=>rfl | _ + 1=>rfl) ?_ ?_ ?_ ?_ (fun _=>rfl) ?_
 ·rintro⟨y0,y1,y2,y3,y4,y5,y6,y7⟩;kernel_rfl
 ·rintro⟨y0,y1,y2,y3,y4,y5,y6,y7⟩;kernel_rfl
 ·intro s x h
  have h:Od s=some x:=h
  unfold Od at h
  repeat' split at h
  all_goals cases h
  constructor<;>repeat(first|refine ab (by assumption) rfl ?_|refine aa rfl (by assumption) rfl ?_|exact rfl)
 ·rintro⟨y0,y1,y2,y3,y4,y5,y6,y7⟩;kernel_rfl
 ·rintro⟨y0,y1,y2,y3,y4,y5,y6,y7⟩ z;exact(And.intro (And.intro trivial rfl) trivial)
abbrev pF:=Int×Int×ByteArray×ByteArray×List ByteArray×List ByteArray×List ByteArray×List (ByteArray×(List (Int×(ByteArray×Int))))
def yE(y1:Int)(y7:List (ByteArray×(List (Int×(ByteArray×Int))))):List (Int×ByteArray×Int):=(Option.getD y7[Int.toNat y1]? (xE aas)).2
def yF(y0 y1:Int)(y7:List (ByteArray×(List (Int×(ByteArray×Int))))):Int×ByteArray×Int:=Option.getD (yE y1 y7)[Int.toNat y0]? ((0:Int),ByteArray.empty,(0:Int))
def JF(y0 y1:Int)(y7:List (ByteArray×(List (Int×(ByteArray×Int))))):Bool:=(yF y0 y1 y7).1==1
def KP(y1:Int):Bool:=leI 0 y1
def KQ(y1:Int)(y7:List (ByteArray×(List (Int×(ByteArray×Int))))):Bool:=ltI y1 (↑y7.length:Int)
def EL(y1:Int)(y7:List (ByteArray×(List (Int×(ByteArray×Int))))):Bool:=ltN y1.toNat y7.length
def vV(y0 y1:Int)(y7:List (ByteArray×(List (Int×(ByteArray×Int))))):Bool:=ltI y0 (↑(List.length (yE y1 y7)):Int)
def Sr(y0:Int):Bool:=leI 0 y0
def KR(y0 y1:Int)(y7:List (ByteArray×(List (Int×(ByteArray×Int))))):Bool:=ltN y0.toNat (List.length (yE y1 y7))
def KS(y0 y1:Int)(y4 y5:List ByteArray)(y7:List (ByteArray×(List (Int×(ByteArray×Int))))):Bool:= !(JF y0 y1 y7&&true)||Ez (((yF y0 y1 y7).2).1) y4 y5
def KT(y0 y1:Int)(y4 y5:List ByteArray)(y7:List (ByteArray×(List (Int×(ByteArray×Int))))):Bool:=bif JF y0 y1 y7 then !tD (((yF y0 y1 y7).2).1) y4 y5 else false
def Ss(y0:Int):Int:=IntKind.wrap .i64 (y0 + (1:Int))
def ZV:pF→List (Nat×SV)
 |(y0,y1,_,_,_,_,_,_)=> [(7,(.one ⟨false,[.val (.int .i64 y0)]⟩)),(1,(.one ⟨false,[.ptr 0 0]⟩)),(6,(.one ⟨false,[.val (.int .i64 y1)]⟩))]
def ZR:pF→List (Nat×Entry)
 |(_,_,y2,y3,y4,y5,y6,y7)=> [(0,(.box 63 [.val (.string y2),.ref 1,.ref 2,.ref 3,.val (.string y3),.ref 4])),(1,(.row false 9 alP y4)),(2,(.row false 9 alP y5)),(3,(.row false 9 alP y6)),(4,(.row false 204 aas y7))]
def aad:Nat→pF→List (Nat×SV)
 |0,(_,_,_,_,_,_,_,_)=> [(2,(.one ⟨false,[.val (.int .i64 6)]⟩))]
 |_,(_,_,_,_,_,_,_,_)=> []
def ZZ:Nat→pF→List (Nat×Entry)
 |0,(_,_,y2,y3,y4,y5,y6,y7)=> [(0,(.box 63 [.val (.string y2),.ref 1,.ref 2,.ref 3,.val (.string y3),.ref 4])),(1,(.row false 9 alP y4)),(2,(.row false 9 alP y5)),(3,(.row false 9 alP y6)),(4,(.row false 204 aas y7))]
 |_,(_,_,y2,y3,y4,y5,y6,y7)=> [(0,(.box 63 [.val (.string y2),.ref 1,.ref 2,.ref 3,.val (.string y3),.ref 4])),(1,(.row false 9 alP y4)),(2,(.row false 9 alP y5)),(3,(.row false 9 alP y6)),(4,(.row false 204 aas y7))]
def xX:pF→LT pF
 |(y0,y1,y2,y3,y4,y5,y6,y7)=> .need [KP y1,KQ y1 y7,EL y1 y7] (.ite (vV y0 y1 y7) (.need [KP y1,KQ y1 y7,EL y1 y7,Sr y0,vV y0 y1 y7,KR y0 y1 y7] (.need [KS y0 y1 y4 y5 y7] (.ite (KT y0 y1 y4 y5 y7) (.ext 0 [(0,0),(1,1),(2,2),(3,3),(4,4)]) (.nrm ((Ss y0),y1,y2,y3,y4,y5,y6,y7) [(0,0),(1,1),(2,2),(3,3),(4,4)])))) (.ext 1 [(0,0),(1,1),(2,2),(3,3),(4,4)]))
def Jo(s:St):Option pF:=
 (match s.look 7 with
 |some ⟨none,.one ⟨false,[.val (.int .i64 y0)]⟩⟩=>
 (match s.look 1 with
 |some ⟨none,.one ⟨false,[.ptr 0 0]⟩⟩=>
 (match s.look 6 with
 |some ⟨none,.one ⟨false,[.val (.int .i64 y1)]⟩⟩=>
 (match s.ent 0 with
 |some (.box 63 [.val (.string y2),.ref 1,.ref 2,.ref 3,.val (.string y3),.ref 4])=>
 (match s.ent 1 with
 |some (.row false 9 (.str) y4)=>
 (match s.ent 2 with
 |some (.row false 9 (.str) y5)=>
 (match s.ent 3 with
 |some (.row false 9 (.str) y6)=>
 (match s.ent 4 with
 |some (.row false 204 (.pair .str (.sl 178 (.pair (.int .i64) (.pair .str (.int .i64))))) y7)=>
 some (y0,y1,y2,y3,y4,y5,y6,y7)
 |_=>none)
 |_=>none)
 |_=>none)
 |_=>none)
 |_=>none)
 |_=>none)
 |_=>none)
 |_=>none)
def eA:Lp pF where
 h:=⟨[71,72,73,74,75,76,77,78,79,82,83,84,85,86,87,88,89,90,8,91,92,93,94,95,96,97,98,99,100,2,80,81,7],[0,1,2,3,4],[],[]⟩
 JL:=ZV
 JE:=ZR
 XL:=aad
 XE:=ZZ
 q:=fun j=>match j with | 0=> .ret | _=> .exit 4
 tags:= [0,1]
 lt:=xX
 fuel:=fun(y0,y1,y2,y3,y4,y5,y6,y7)=>y0.natAbs + y1.natAbs + y2.size + y3.size + y4.length + y5.length + y6.length + y7.length
 fix:=fun(_,y1,y2,y3,y4,y5,y6,y7) (y0,_,_,_,_,_,_,_)=>(y0,y1,y2,y3,y4,y5,y6,y7)
 σ:= [(0,0),(1,1),(2,2),(3,3),(4,4)]
 rd:=Jo
theorem YF:LoopOk prog (memN [64,65,66,67,68,7,71,72,73,74,75,76,77,78,79,82,83,84,85,86,87,88,89,90,8,91,92,93,94,95,96,97,98,99,100,2,80,81,69,70,6]) eA.F (YD (aY f187 1) 0):=by
 refine Lp.ok (tbl:= (T3z [cE,tM,pL,lp])) (lf:= []) aV eA (by kernel_rfl) (LOk.nil _) (fun _=>rfl) (fun j _=>by unfold eA;match j with | 0=>rfl | _ + 1=>rfl) ?_ ?_ ?_ ?_ (fun _=>rfl) ?_
 ·rintro⟨y0,y1,y2,y3,y4,y5,y6,y7⟩;kernel_rfl
 ·rintro⟨y0,y1,y2,y3,y4,y5,y6,y7⟩;kernel_rfl
 ·intro s x h
  have h:Jo s=some x:=h
  unfold Jo at h
  repeat' split at h
  all_goals cases h
  constructor<;>repeat(first|refine ab (by assumption) rfl ?_|refine aa rfl (by assumption) rfl ?_|exact rfl)
 ·rintro⟨y0,y1,y2,y3,y4,y5,y6,y7⟩;kernel_rfl
 ·rintro⟨y0,y1,y2,y3,y4,y5,y6,y7⟩ z;exact(And.intro (And.intro trivial rfl) trivial)
abbrev sK:=Int×ByteArray×ByteArray×List ByteArray×List ByteArray×List ByteArray×List (ByteArray×(List (Int×(ByteArray×Int))))
def Ok(y0:Int)(y1 y2:ByteArray)(y3 y4 y5:List ByteArray)(y6:List (ByteArray×(List (Int×(ByteArray×Int))))):Int×Int×ByteArray×ByteArray×List ByteArray×List ByteArray×List ByteArray×List (ByteArray×List (Int×ByteArray×Int)):=((0:Int),y0,y1,y2,y3,y4,y5,y6)
def PG(y0:Int)(y6:List (ByteArray×(List (Int×(ByteArray×Int))))):Bool:=ltI y0 (↑y6.length:Int)
def WJ(y0:Int)(y1 y2:ByteArray)(y3 y4 y5:List ByteArray)(y6:List (ByteArray×(List (Int×(ByteArray×Int))))):Bool:=Lp.fin eA (Ok y0 y1 y2 y3 y4 y5 y6)
def PH(y0:Int)(y1 y2:ByteArray)(y3 y4 y5:List ByteArray)(y6:List (ByteArray×(List (Int×(ByteArray×Int))))):Bool:=Nat.beq ((Lp.res eA (Ok y0 y1 y2 y3 y4 y5 y6)).1) 0
def WK(y0:Int):Int:=IntKind.wrap .i64 (y0 + (1:Int))
def adU:sK→List (Nat×SV)
 |(y0,_,_,_,_,_,_)=> [(6,(.one ⟨false,[.val (.int .i64 y0)]⟩)),(1,(.one ⟨false,[.ptr 0 0]⟩))]
def adM:sK→List (Nat×Entry)
 |(_,y1,y2,y3,y4,y5,y6)=> [(0,(.box 63 [.val (.string y1),.ref 1,.ref 2,.ref 3,.val (.string y2),.ref 4])),(1,(.row false 9 alP y3)),(2,(.row false 9 alP y4)),(3,(.row false 9 alP y5)),(4,(.row false 204 aas y6))]
def aea:Nat→sK→List (Nat×SV)
 |0,(_,_,_,_,_,_,_)=> [(2,(.one ⟨false,[.val (.int .i64 6)]⟩))]
 |_,(_,_,_,_,_,_,_)=> []
def ad2:Nat→sK→List (Nat×Entry)
 |0,(_,y1,y2,y3,y4,y5,y6)=> [(0,(.box 63 [.val (.string y1),.ref 1,.ref 2,.ref 3,.val (.string y2),.ref 4])),(1,(.row false 9 alP y3)),(2,(.row false 9 alP y4)),(3,(.row false 9 alP y5)),(4,(.row false 204 aas y6))]
 |_,(_,y1,y2,y3,y4,y5,y6)=> [(0,(.box 63 [.val (.string y1),.ref 1,.ref 2,.ref 3,.val (.string y2),.ref 4])),(1,(.row false 9 alP y3)),(2,(.row false 9 alP y4)),(3,(.row false 9 alP y5)),(4,(.row false 204 aas y6))]
def Cl:sK→LT sK
 |(y0,y1,y2,y3,y4,y5,y6)=> .ite (PG y0 y6) (.need [WJ y0 y1 y2 y3 y4 y5 y6] (.ite (PH y0 y1 y2 y3 y4 y5 y6) (.ext 0 [(0,0),(1,1),(2,2),(3,3),(4,4)]) (.nrm ((WK y0),y1,y2,y3,y4,y5,y6) [(0,0),(1,1),(2,2),(3,3),(4,4)]))) (.ext 1 [(0,0),(1,1),(2,2),(3,3),(4,4)])
def Oe(s:St):Option sK:=
 (match s.look 6 with
 |some ⟨none,.one ⟨false,[.val (.int .i64 y0)]⟩⟩=>
 (match s.look 1 with
 |some ⟨none,.one ⟨false,[.ptr 320 0]⟩⟩=>
 (match s.ent 320 with
 |some (.box 63 [.val (.string y1),.ref 0,.ref 1,.ref 2,.val (.string y2),.ref 3])=>
 (match s.ent 0 with
 |some (.row false 9 (.str) y3)=>
 (match s.ent 1 with
 |some (.row false 9 (.str) y4)=>
 (match s.ent 2 with
 |some (.row false 9 (.str) y5)=>
 (match s.ent 3 with
 |some (.row false 204 (.pair .str (.sl 178 (.pair (.int .i64) (.pair .str (.int .i64))))) y6)=>
 some (y0,y1,y2,y3,y4,y5,y6)
 |_=>none)
 |_=>none)
 |_=>none)
 |_=>none)
 |_=>none)
 |_=>none)
 |_=>none)
def eU:Lp sK where
 h:=⟨[64,65,66,67,68,7,71,72,73,74,75,76,77,78,79,82,83,84,85,86,87,88,89,90,8,91,92,93,94,95,96,97,98,99,100,2,80,81,69,70,6],[0,1,2,3,4],[],[]⟩
 JL:=adU
 JE:=adM
 XL:=aea
 XE:=ad2
 q:=fun j=>match j with | 0=> .ret | _=> .exit 2
 tags:= [0,1]
 lt:=Cl
 fuel:=fun(y0,y1,y2,y3,y4,y5,y6)=>y0.natAbs + y1.size + y2.size + y3.length + y4.length + y5.length + y6.length
 fix:=fun(_,y1,y2,y3,y4,y5,y6) (y0,_,_,_,_,_,_)=>(y0,y1,y2,y3,y4,y5,y6)
 σ:= [(0,320),(1,0),(2,1),(3,2),(4,3)]
 rd:=Oe
theorem abI:LoopOk prog (fun k=>Nat.blt k Tryz.f187.ntmps) eU.F (aY f187 1):=by
 refine Lp.ok (tbl:= (T3z [cE,tM,pL,lp])) (lf:= [eA.F]) aV eU (by kernel_rfl) (LOk.allT (l:= [YD (aY f187 1) 0]) (by kernel_rfl) (.cons YF (.nil _))) (fun _=>rfl) (fun j _=>by unfold eU;match j with | 0=>rfl | _ + 1=>rfl) ?_ ?_ ?_ ?_ (fun _=>rfl) ?_
 ·rintro⟨y0,y1,y2,y3,y4,y5,y6⟩;kernel_rfl
 ·rintro⟨y0,y1,y2,y3,y4,y5,y6⟩;kernel_rfl
 ·intro s x h
  have h:Oe s=some x:=h
  unfold Oe at h
  repeat' split at h
  all_goals cases h
  constructor<;>repeat(first|refine ab (by assumption) rfl ?_|refine aa rfl (by assumption) rfl ?_|exact rfl)
 ·rintro⟨y0,y1,y2,y3,y4,y5,y6⟩;kernel_rfl
 ·rintro⟨y0,y1,y2,y3,y4,y5,y6⟩ z;exact(And.intro (And.intro trivial rfl) trivial)
def xx(x2 x3 x4:List ByteArray):List ByteArray:=x2++x3++x4
def An(x1:ByteArray):Bool:=
 !ByteArray.toList x1==ByteArray.toList { data:= #[] }
section
variable (x0 x1:ByteArray)(x2 x3 x4:List ByteArray)(x5:List (ByteArray×List (Int×ByteArray×Int)))
def ND:List ByteArray×List ByteArray×List ByteArray×List (ByteArray×List (Int×ByteArray×Int)):=(x2,x3,x4,x5)
def Df:Int×ByteArray×ByteArray×List ByteArray×List ByteArray×List ByteArray×List ByteArray×List (ByteArray×List (Int×ByteArray×Int)):=((0:Int),x0,x1,[],ND x2 x3 x4 x5)
def HV:Bool:=Nat.beq ((Lp.res eg (Df x0 x1 x2 x3 x4 x5)).1) 0
def Dg:List ByteArray:=((Lp.res eg (Df x0 x1 x2 x3 x4 x5)).2.2.2.2).1
def NE:Bool:=ltI (↑(List.length (Dg x0 x1 x2 x3 x4 x5)):Int) (IntKind.wrap .i64 ((↑x3.length:Int) + (↑x4.length:Int)))
def NF:Int×ByteArray×ByteArray×List ByteArray×List ByteArray×List ByteArray×List (ByteArray×List (Int×ByteArray×Int)):=((0:Int),x0,x1,ND x2 x3 x4 x5)
def OV:Int:=bif tJ (xx x2 x3 x4)then(1:Int)else bif bif An x1 then !tD x1 x2 x3 else false then(2:Int)else bif HV x0 x1 x2 x3 x4 x5 then(3:Int)else bif tJ (Dg x0 x1 x2 x3 x4 x5)then(4:Int)else bif NE x0 x1 x2 x3 x4 x5 then(5:Int)else bif Nat.beq ((Lp.res eU (NF x0 x1 x2 x3 x4 x5)).1) 0 then(6:Int)else(0:Int)
def OW:Bool:=allT [leN (List.length x2 + List.length x3 + List.length x4) 2000000,leN (List.length (xx x2 x3 x4)) 9223372036854775807,tJ (xx x2 x3 x4)||(!(An x1&&true)||Ez x1 x2 x3),tJ (xx x2 x3 x4)||((bif An x1 then !tD x1 x2 x3 else false)||Lp.fin eg (Df x0 x1 x2 x3 x4 x5)),tJ (xx x2 x3 x4)||((bif An x1 then !tD x1 x2 x3 else false)||(HV x0 x1 x2 x3 x4 x5||leN (List.length (Dg x0 x1 x2 x3 x4 x5)) 9223372036854775807)),tJ (xx x2 x3 x4)||((bif An x1 then !tD x1 x2 x3 else false)||(HV x0 x1 x2 x3 x4 x5||(tJ (Dg x0 x1 x2 x3 x4 x5)||(NE x0 x1 x2 x3 x4 x5||Lp.fin eU (NF x0 x1 x2 x3 x4 x5)))))]
end
def aaS:List SV→List Entry→Option Out
 | [.one ⟨true,[.val (.string x0),.ref 0,.ref 1,.ref 2,.val (.string x1),.ref 3]⟩],[.row false 9 (.str) x2,.row false 9 (.str) x3,.row false 9 (.str) x4,.row false 204 (.pair (.str) (.sl 178 (.pair (.int .i64) (.pair (.str) (.int .i64))))) x5]=>some ⟨.one ⟨false,[.val (.int .i64 (OV x0 x1 x2 x3 x4 x5))]⟩,[.row false 9 alP x2,.row false 9 alP x3,.row false 9 alP x4,.row false 204 (CTy.pair CTy.str (CTy.sl (178:TypeId) acQ)) x5],[],[OW x0 x1 x2 x3 x4 x5]⟩
 |_,_=>none
def Ux:PF prog:=PF.ofG prog (T3z [cE,tM,pL,lp]) [eg.F,eU.F] aV 187 f187 func187 (LOk.fnT (l:= [aY f187 0,aY f187 1]) (by kernel_rfl) (.cons abH (.cons abI (.nil _)))) aaS (by
 intro vs es r h;unfold aaS at h;split at h
 ·cases h;kernel_rfl
 ·cases h)
def Wk(x0 x1:ByteArray)(x2 x3 x4:List ByteArray)(x5:List (ByteArray×List (Int×ByteArray×Int))):Bool:=bif HQ x0 x1 x2 x3 x4 x5 then OV x0 x1 x2 x3 x4 x5==0 else false
def Wl(x0 x1:ByteArray)(x2 x3 x4:List ByteArray)(x5:List (ByteArray×List (Int×ByteArray×Int))):Bool:=allT [NB x0 x1 x2 x3 x4 x5,!(HQ x0 x1 x2 x3 x4 x5&&true)||OW x0 x1 x2 x3 x4 x5]
def abS:List SV→List Entry→Option Out
 | [.one ⟨true,[.val (.string x0),.ref 0,.ref 1,.ref 2,.val (.string x1),.ref 3]⟩],[.row false 9 (.str) x2,.row false 9 (.str) x3,.row false 9 (.str) x4,.row false 204 (.pair (.str) (.sl 178 (.pair (.int .i64) (.pair (.str) (.int .i64))))) x5]=>some ⟨.one ⟨false,[.val (.bool (Wk x0 x1 x2 x3 x4 x5))]⟩,[.row false 9 alP x2,.row false 9 alP x3,.row false 9 alP x4,.row false 204 (CTy.pair CTy.str (CTy.sl (178:TypeId) acQ)) x5],[],[Wl x0 x1 x2 x3 x4 x5]⟩
 |_,_=>none
def akA:PF prog:=PF.ofG prog (T3z [SP,Ux]) [] aV 118 f118 func118 (fun c _=>LOk.nil c) abS (by
 intro vs es r h;unfold abS at h;split at h
 ·cases h;kernel_rfl
 ·cases h)
def HF(x1:List (Int×ByteArray×Int)):Bool:=ltI 40 (↑x1.length:Int)
def wJ:List SV→List Entry→Option Out
 | [.one ⟨true,[.val (.string _x0),.ref 0]⟩],[.row false 178 (.pair (.int .i64) (.pair (.str) (.int .i64))) x1]=>some ⟨.one ⟨false,[.val (.bool (HF x1))]⟩,[.row false 178 acQ x1],[],[]⟩
 |_,_=>none
def pZ:PF prog:=PF.ofG prog [] [] aV 261 f261 func261 (fun c _=>LOk.nil c) wJ (by
 intro vs es r h;unfold wJ at h;split at h
 ·cases h;kernel_rfl
 ·cases h)
def da(x1:List (Int×ByteArray×Int)):Bool:=ltI 40 (↑x1.length:Int)
def sJ:List SV→List Entry→Option Out
 | [.one ⟨true,[.val (.string _x0),.ref 0]⟩],[.row false 178 (.pair (.int .i64) (.pair .str (.int .i64))) x1]=>some ⟨.one ⟨false,[.val (.bool (da x1))]⟩,[.row false 178 acQ x1],[],[]⟩
 |_,_=>none
def dc:PF prog:=PF.ofG prog [] [] aV 261 f261 func261 (fun c _=>LOk.nil c) sJ (by
 intro vs es r h;unfold sJ at h;split at h
 ·cases h;kernel_rfl
 ·cases h)
abbrev bV:=Int×Int×List (ByteArray×(List (Int×(ByteArray×Int))))
def kP(y0 y1:Int):Bool:=ltI y0 y1
def oX(y0:Int):Bool:=leI 0 y0
def oY(y0:Int)(y2:List (ByteArray×(List (Int×(ByteArray×Int))))):Bool:=ltI y0 (↑y2.length:Int)
def oZ(y0:Int)(y2:List (ByteArray×(List (Int×(ByteArray×Int))))):Bool:=ltN y0.toNat y2.length
def gU(y0:Int)(y2:List (ByteArray×(List (Int×(ByteArray×Int))))):Bool:=da ((Option.getD y2[Int.toNat y0]? (xE aas)).2)
def uk(y0:Int):Int:=IntKind.wrap .i64 (y0 + (1:Int))
def LX:bV→List (Nat×SV)
 |(y0,y1,_)=> [(8,(.one ⟨false,[.val (.int .i64 y0)]⟩)),(7,(.one ⟨false,[.val (.int .i64 y1)]⟩)),(1,(.one ⟨false,[.val (.func (.func 261) ⟨[]⟩ ⟨[]⟩)]⟩)),(0,(.one ⟨false,[.ref 0]⟩))]
def LQ:bV→List (Nat×Entry)
 |(_,_,y2)=> [(0,(.row false 204 aas y2))]
def Mi:Nat→bV→List (Nat×SV)
 |0,(y0,_,_)=> [(4,(.one ⟨false,[.val (.int .i64 y0)]⟩))]
 |_,(_,_,_)=> []
def Md:Nat→bV→List (Nat×Entry)
 |0,(_,_,y2)=> [(0,(.row false 204 aas y2))]
 |_,(_,_,y2)=> [(0,(.row false 204 aas y2))]
def kr:bV→LT bV
 |(y0,y1,y2)=> .ite (kP y0 y1) (.need [oX y0,oY y0 y2,oZ y0 y2] (.ite (gU y0 y2) (.ext 0 [(0,0)]) (.nrm ((uk y0),y1,y2) [(0,0)]))) (.ext 1 [(0,0)])
def sV(s:St):Option bV:=
 (match s.look 8 with
 |some ⟨none,.one ⟨false,[.val (.int .i64 y0)]⟩⟩=>
 (match s.look 7 with
 |some ⟨none,.one ⟨false,[.val (.int .i64 y1)]⟩⟩=>
 (match s.look 1 with
 |some ⟨none,.one ⟨false,[.val (.func (.func 261) ⟨[]⟩ ⟨[]⟩)]⟩⟩=>
 (match s.look 0 with
 |some ⟨none,.one ⟨false,[.ref 0]⟩⟩=>
 (match s.ent 0 with
 |some (.row false 204 (.pair .str (.sl 178 (.pair (.int .i64) (.pair .str (.int .i64))))) y2)=>
 some (y0,y1,y2)
 |_=>none)
 |_=>none)
 |_=>none)
 |_=>none)
 |_=>none)
def aB:Lp bV where
 h:=⟨[9,10,5,11,12,13,14,15,16,17,4,18,8],[0],[],[]⟩
 JL:=LX
 JE:=LQ
 XL:=Mi
 XE:=Md
 q:=fun j=>match j with | 0=> .ret | _=> .exit 0
 tags:= [0,1]
 lt:=kr
 fuel:=fun(y0,y1,y2)=>y0.natAbs + y1.natAbs + y2.length
 fix:=fun(_,y1,y2) (y0,_,_)=>(y0,y1,y2)
 σ:= [(0,0)]
 rd:=sV
theorem Kx:LoopOk prog (fun k=>Nat.blt k Tryz.f262.ntmps) aB.F (aY f262 0):=by
 refine Lp.ok (tbl:= (T3z [dc])) (lf:= []) aV aB (by kernel_rfl) (LOk.nil _) (fun _=>rfl) (fun j _=>by unfold aB;match j with | 0=>rfl | _ + 1=>rfl) ?_ ?_ ?_ ?_ (fun _=>rfl) ?_
 ·rintro⟨y0,y1,y2⟩;kernel_rfl
 ·rintro⟨y0,y1,y2⟩;kernel_rfl
 ·intro s x h
  have h:sV s=some x:=h
  unfold sV at h
  repeat' split at h
  all_goals cases h
  constructor<;>repeat(first|refine ab (by assumption) rfl ?_|refine aa rfl (by assumption) rfl ?_|exact rfl)
 ·rintro⟨y0,y1,y2⟩;kernel_rfl
 ·rintro⟨y0,y1,y2⟩ z;exact(And.intro (And.intro trivial rfl) trivial)
section
variable (x0:List (ByteArray×List (Int×ByteArray×Int)))
def qi:Int×Int×List (ByteArray×List (Int×ByteArray×Int)):=((0:Int),(↑x0.length:Int),x0)
def wz:Int:=bif Nat.beq ((Lp.res aB (qi x0)).1) 0 then ((Lp.res aB (qi x0)).2).1else(-1:Int)
def wA:Bool:=allT [Lp.fin aB (qi x0)]
end
def Dk:List SV→List Entry→Option Out
 | [.one ⟨false,[.ref 0]⟩,.one ⟨false,[.val (.func (.func 261) ⟨[]⟩ ⟨[]⟩)]⟩],[.row false 204 (.pair .str (.sl 178 (.pair (.int .i64) (.pair .str (.int .i64))))) x0]=>some ⟨.one ⟨false,[.val (.int .i64 (wz x0))]⟩,[.row false 204 aas x0],[],[wA x0]⟩
 |_,_=>none
def wu:PF prog:=PF.ofG prog (T3z [dc]) [aB.F] aV 262 f262 func262 (LOk.fnT (l:= [aY f262 0]) (by kernel_rfl) (.cons Kx (.nil _))) Dk (by
 intro vs es r h;unfold Dk at h;split at h
 ·cases h;kernel_rfl
 ·cases h)
def ug(x0:List (ByteArray×List (Int×ByteArray×Int))):Bool:=leI 0 (wz x0)
def uh(x0:List (ByteArray×List (Int×ByteArray×Int))):Bool:=allT [wA x0]
def BE:List SV→List Entry→Option Out
 | [.one ⟨false,[.ref 0]⟩,.one ⟨false,[.val (.func (.func 261) ⟨[]⟩ ⟨[]⟩)]⟩],[.row false 204 (.pair .str (.sl 178 (.pair (.int .i64) (.pair .str (.int .i64))))) x0]=>some ⟨.one ⟨false,[.val (.bool (ug x0))]⟩,[.row false 204 aas x0],[],[uh x0]⟩
 |_,_=>none
def tX:PF prog:=PF.ofG prog (T3z [wu]) [] aV 229 f229 func229 (fun c _=>LOk.nil c) BE (by
 intro vs es r h;unfold BE at h;split at h
 ·cases h;kernel_rfl
 ·cases h)
section
variable (x2 x3 x4:List ByteArray)(x5:List (ByteArray×List (Int×ByteArray×Int)))
def qo:Bool:=bif bif bif leI (↑x2.length:Int) 20 then leI (↑x3.length:Int) 20 else false then leI (↑x4.length:Int) 20 else false then leI (↑x5.length:Int) 40 else false
def lJ:Bool:=bif qo x2 x3 x4 x5 then !ug x5 else false
def lK:Bool:=allT [!(qo x2 x3 x4 x5&&true)||uh x5]
end
def xR:List SV→List Entry→Option Out
 | [.one ⟨true,[.val (.string _x0),.ref 0,.ref 1,.ref 2,.val (.string _x1),.ref 3]⟩],[.row false 9 (.str) x2,.row false 9 (.str) x3,.row false 9 (.str) x4,.row false 204 (.pair (.str) (.sl 178 (.pair (.int .i64) (.pair (.str) (.int .i64))))) x5]=>some ⟨.one ⟨false,[.val (.bool (lJ x2 x3 x4 x5))]⟩,[.row false 9 alP x2,.row false 9 alP x3,.row false 9 alP x4,.row false 204 (CTy.pair CTy.str (CTy.sl (178:TypeId) acQ)) x5],[],[lK x2 x3 x4 x5]⟩
 |_,_=>none
def qO:PF prog:=PF.ofG prog (T3z [pZ,tX]) [] aV 228 f228 func228 (fun c _=>LOk.nil c) xR (by
 intro vs es r h;unfold xR at h;split at h
 ·cases h;kernel_rfl
 ·cases h)
def afs(x0:ByteArray)(x1:List (Int×ByteArray×Int)):Bool:= !lineB (x0,x1)
def aft(x1:List (Int×ByteArray×Int)):Bool:=allT [UY x1]
def Vp:List SV→List Entry→Option Out
 | [.one ⟨true,[.val (.string x0),.ref 0]⟩],[.row false 178 (.pair (.int .i64) (.pair (.str) (.int .i64))) x1]=>some ⟨.one ⟨false,[.val (.bool (afs x0 x1))]⟩,[.row false 178 acQ x1],[],[aft x1]⟩
 |_,_=>none
def Pq:PF prog:=PF.ofG prog (T3z [Kj]) [] aV 230 f230 func230 (fun c _=>LOk.nil c) Vp (by
 intro vs es r h;unfold Vp at h;split at h
 ·cases h;kernel_rfl
 ·cases h)
def AB(x0:ByteArray)(x1:List (Int×ByteArray×Int)):Bool:= !lineB (x0,x1)
def Gg(x1:List (Int×ByteArray×Int)):Bool:=allT [UY x1]
def On:List SV→List Entry→Option Out
 | [.one ⟨true,[.val (.string x0),.ref 0]⟩],[.row false 178 (.pair (.int .i64) (.pair .str (.int .i64))) x1]=>some ⟨.one ⟨false,[.val (.bool (AB x0 x1))]⟩,[.row false 178 acQ x1],[],[Gg x1]⟩
 |_,_=>none
def rD:PF prog:=PF.ofG prog (T3z [Kj]) [] aV 230 f230 func230 (fun c _=>LOk.nil c) On (by
 intro vs es r h;unfold On at h;split at h
 ·cases h;kernel_rfl
 ·cases h)
abbrev bW:=Int×Int×List (ByteArray×(List (Int×(ByteArray×Int))))
def cI(y0:Int)(y2:List (ByteArray×(List (Int×(ByteArray×Int))))):ByteArray×List (Int×ByteArray×Int):=Option.getD y2[Int.toNat y0]? (xE aas)
def kQ(y0 y1:Int):Bool:=ltI y0 y1
def pa(y0:Int):Bool:=leI 0 y0
def pb(y0:Int)(y2:List (ByteArray×(List (Int×(ByteArray×Int))))):Bool:=ltI y0 (↑y2.length:Int)
def pc(y0:Int)(y2:List (ByteArray×(List (Int×(ByteArray×Int))))):Bool:=ltN y0.toNat y2.length
def kR(y0:Int)(y2:List (ByteArray×(List (Int×(ByteArray×Int))))):Bool:=Gg ((cI y0 y2).2)
def kS(y0:Int)(y2:List (ByteArray×(List (Int×(ByteArray×Int))))):Bool:=AB ((cI y0 y2).1) ((cI y0 y2).2)
def ul(y0:Int):Int:=IntKind.wrap .i64 (y0 + (1:Int))
def LY:bW→List (Nat×SV)
 |(y0,y1,_)=> [(8,(.one ⟨false,[.val (.int .i64 y0)]⟩)),(7,(.one ⟨false,[.val (.int .i64 y1)]⟩)),(1,(.one ⟨false,[.val (.func (.func 230) ⟨[]⟩ ⟨[]⟩)]⟩)),(0,(.one ⟨false,[.ref 0]⟩))]
def LR:bW→List (Nat×Entry)
 |(_,_,y2)=> [(0,(.row false 204 aas y2))]
def Mj:Nat→bW→List (Nat×SV)
 |0,(y0,_,_)=> [(4,(.one ⟨false,[.val (.int .i64 y0)]⟩))]
 |_,(_,_,_)=> []
def Me:Nat→bW→List (Nat×Entry)
 |0,(_,_,y2)=> [(0,(.row false 204 aas y2))]
 |_,(_,_,y2)=> [(0,(.row false 204 aas y2))]
def kt:bW→LT bW
 |(y0,y1,y2)=> .ite (kQ y0 y1) (.need [pa y0,pb y0 y2,pc y0 y2,kR y0 y2] (.ite (kS y0 y2) (.ext 0 [(0,0)]) (.nrm ((ul y0),y1,y2) [(0,0)]))) (.ext 1 [(0,0)])
def sW(s:St):Option bW:=
 (match s.look 8 with
 |some ⟨none,.one ⟨false,[.val (.int .i64 y0)]⟩⟩=>
 (match s.look 7 with
 |some ⟨none,.one ⟨false,[.val (.int .i64 y1)]⟩⟩=>
 (match s.look 1 with
 |some ⟨none,.one ⟨false,[.val (.func (.func 230) ⟨[]⟩ ⟨[]⟩)]⟩⟩=>
 (match s.look 0 with
 |some ⟨none,.one ⟨false,[.ref 0]⟩⟩=>
 (match s.ent 0 with
 |some (.row false 204 (.pair .str (.sl 178 (.pair (.int .i64) (.pair .str (.int .i64))))) y2)=>
 some (y0,y1,y2)
 |_=>none)
 |_=>none)
 |_=>none)
 |_=>none)
 |_=>none)
def aC:Lp bW where
 h:=⟨[9,10,5,11,12,13,14,15,16,17,4,18,8],[0],[],[]⟩
 JL:=LY
 JE:=LR
 XL:=Mj
 XE:=Me
 q:=fun j=>match j with | 0=> .ret | _=> .exit 0
 tags:= [0,1]
 lt:=kt
 fuel:=fun(y0,y1,y2)=>y0.natAbs + y1.natAbs + y2.length
 fix:=fun(_,y1,y2) (y0,_,_)=>(y0,y1,y2)
 σ:= [(0,0)]
 rd:=sW
theorem Ky:LoopOk prog (fun k=>Nat.blt k Tryz.f262.ntmps) aC.F (aY f262 0):=by
 refine Lp.ok (tbl:= (T3z [rD])) (lf:= []) aV aC (by kernel_rfl) (LOk.nil _) (fun _=>rfl) (fun j _=>by unfold aC;match j with | 0=>rfl | _ + 1=>rfl) ?_ ?_ ?_ ?_ (fun _=>rfl) ?_
 ·rintro⟨y0,y1,y2⟩;kernel_rfl
 ·rintro⟨y0,y1,y2⟩;kernel_rfl
 ·intro s x h
  have h:sW s=some x:=h
  unfold sW at h
  repeat' split at h
  all_goals cases h
  constructor<;>repeat(first|refine ab (by assumption) rfl ?_|refine aa rfl (by assumption) rfl ?_|exact rfl)
 ·rintro⟨y0,y1,y2⟩;kernel_rfl
 ·rintro⟨y0,y1,y2⟩ z;exact(And.intro (And.intro trivial rfl) trivial)
section
variable (x0:List (ByteArray×List (Int×ByteArray×Int)))
def qj:Int×Int×List (ByteArray×List (Int×ByteArray×Int)):=((0:Int),(↑x0.length:Int),x0)
def wB:Int:=bif Nat.beq ((Lp.res aC (qj x0)).1) 0 then ((Lp.res aC (qj x0)).2).1else(-1:Int)
def wC:Bool:=allT [Lp.fin aC (qj x0)]
end
def Dm:List SV→List Entry→Option Out
 | [.one ⟨false,[.ref 0]⟩,.one ⟨false,[.val (.func (.func 230) ⟨[]⟩ ⟨[]⟩)]⟩],[.row false 204 (.pair .str (.sl 178 (.pair (.int .i64) (.pair .str (.int .i64))))) x0]=>some ⟨.one ⟨false,[.val (.int .i64 (wB x0))]⟩,[.row false 204 aas x0],[],[wC x0]⟩
 |_,_=>none
def wv:PF prog:=PF.ofG prog (T3z [rD]) [aC.F] aV 262 f262 func262 (LOk.fnT (l:= [aY f262 0]) (by kernel_rfl) (.cons Ky (.nil _))) Dm (by
 intro vs es r h;unfold Dm at h;split at h
 ·cases h;kernel_rfl
 ·cases h)
def oT(x0:List (ByteArray×List (Int×ByteArray×Int))):Bool:=leI 0 (wB x0)
def oU(x0:List (ByteArray×List (Int×ByteArray×Int))):Bool:=allT [wC x0]
def BF:List SV→List Entry→Option Out
 | [.one ⟨false,[.ref 0]⟩,.one ⟨false,[.val (.func (.func 230) ⟨[]⟩ ⟨[]⟩)]⟩],[.row false 204 (.pair .str (.sl 178 (.pair (.int .i64) (.pair .str (.int .i64))))) x0]=>some ⟨.one ⟨false,[.val (.bool (oT x0))]⟩,[.row false 204 aas x0],[],[oU x0]⟩
 |_,_=>none
def tY:PF prog:=PF.ofG prog (T3z [wv]) [] aV 229 f229 func229 (fun c _=>LOk.nil c) BF (by
 intro vs es r h;unfold BF at h;split at h
 ·cases h;kernel_rfl
 ·cases h)
def Fp(x0:ByteArray)(x2 x3 x4:List ByteArray):List (List ByteArray):=bif nD x0&&true then [x2,x3,x4]else []
def Lk(x0:ByteArray)(x2 x3 x4:List ByteArray):List ByteArray:=bif nD x0&&true then List.flatten (Fp x0 x2 x3 x4)else []
def QQ(x0 x1:ByteArray)(x2 x3 x4:List ByteArray)(x5:List (ByteArray×List (Int×ByteArray×Int))):Bool:=
 bif
  bif
    bif
      bif bif nD x0 then List.all (Lk x0 x2 x3 x4) oJ else false then
       bif ByteArray.toList x1==ByteArray.toList { data:= #[] } then true else nD x1
      else false then
     ltI (0:Int) (↑x2.length:Int)
    else false then
   ltI (0:Int) (↑x4.length:Int)
  else false then
 ltI (0:Int) (↑x5.length:Int)
 else false
section
variable (x0 x1:ByteArray)(x2 x3 x4:List ByteArray)(x5:List (ByteArray×List (Int×ByteArray×Int)))
def QR:Bool:=bif QQ x0 x1 x2 x3 x4 x5 then lJ x2 x3 x4 x5 else false
def Hu:Bool:=bif QR x0 x1 x2 x3 x4 x5 then !oT x5 else false
def Nf:Bool:=allT [!(nD x0&&true)||leN (List.length (Fp x0 x2 x3 x4)) 1000&&leN (Kb (Fp x0 x2 x3 x4)) 2000000,!(nD x0&&true)||leN (List.length (Lk x0 x2 x3 x4)) 9223372036854775807,!(QQ x0 x1 x2 x3 x4 x5&&true)||lK x2 x3 x4 x5,!(QR x0 x1 x2 x3 x4 x5&&true)||oU x5]
end
def YV:List SV→List Entry→Option Out
 | [.one ⟨true,[.val (.string x0),.ref 0,.ref 1,.ref 2,.val (.string x1),.ref 3]⟩],[.row false 9 (.str) x2,.row false 9 (.str) x3,.row false 9 (.str) x4,.row false 204 (.pair (.str) (.sl 178 (.pair (.int .i64) (.pair (.str) (.int .i64))))) x5]=>some ⟨.one ⟨false,[.val (.bool (Hu x0 x1 x2 x3 x4 x5))]⟩,[.row false 9 alP x2,.row false 9 alP x3,.row false 9 alP x4,.row false 204 (CTy.pair CTy.str (CTy.sl (178:TypeId) acQ)) x5],[],[Nf x0 x1 x2 x3 x4 x5]⟩
 |_,_=>none
def SN:PF prog:=PF.ofG prog (T3z [OG,Uu,cP,qO,Pq,tY]) [] aV 183 f183 func183 (fun c _=>LOk.nil c) YV (by
 intro vs es r h;unfold YV at h;split at h
 ·cases h;kernel_rfl
 ·cases h)
section
variable (x2 x3 x4:List ByteArray)
def iN:List (List ByteArray):= [x2,x3,x4]
def bd:List ByteArray:=List.flatten (iN x2 x3 x4)
def mV:Bool:=allT [leN (List.length (iN x2 x3 x4)) 1000&&leN (Kb (iN x2 x3 x4)) 2000000]
end
def zm:List SV→List Entry→Option Out
 | [.one ⟨true,[.val (.string _x0),.ref 0,.ref 1,.ref 2,.val (.string _x1),.ref 3]⟩],[.row false 9 (.str) x2,.row false 9 (.str) x3,.row false 9 (.str) x4,.row false 204 (.pair (.str) (.sl 178 (.pair (.int .i64) (.pair (.str) (.int .i64))))) x5]=>some ⟨.one ⟨false,[.ref 4]⟩,[.row false 9 alP x2,.row false 9 alP x3,.row false 9 alP x4,.row false 204 (CTy.pair CTy.str (CTy.sl (178:TypeId) acQ)) x5],[.row true 9 alP (bd x2 x3 x4)],[mV x2 x3 x4]⟩
 |_,_=>none
def fF:PF prog:=PF.ofG prog (T3z [cP]) [] aV 233 f233 func233 (fun c _=>LOk.nil c) zm (by
 intro vs es r h;unfold zm at h;split at h
 ·cases h;kernel_rfl
 ·cases h)
section
variable (x0:Int)(x1:ByteArray)(x5 x6:List ByteArray)
def qZ:Bool:=bif x0==1 then !mH x5 x1 else false
def rf:Bool:=bif qZ x0 x1 x5 then !mH x6 x1 else false
def rg:Bool:=allT [!(x0==1&&true)||leN x5.length (9223372036854775807:Nat),!(qZ x0 x1 x5&&true)||leN x6.length (9223372036854775807:Nat)]
end
def ra:List SV→List Entry→Option Out
 | [.one ⟨true,[.val (.int .i64 x0),.val (.string x1),.val (.int .i64 _x2)]⟩,.one ⟨false,[.ptr 0 0]⟩],[.box 63 [.val (.string x3),.ref 1,.ref 2,.ref 3,.val (.string x4),.ref 4],.row false 9 (.str) x5,.row false 9 (.str) x6,.row false 9 (.str) x7,.row false 204 (.pair .str (.sl 178 (.pair (.int .i64) (.pair .str (.int .i64))))) x8]=>some ⟨.one ⟨false,[.val (.bool (rf x0 x1 x5 x6))]⟩,[.box 63 [.val (.string x3),.ref 1,.ref 2,.ref 3,.val (.string x4),.ref 4],.row false 9 alP x5,.row false 9 alP x6,.row false 9 alP x7,.row false 204 aas x8],[],[rg x0 x1 x5 x6]⟩
 |_,_=>none
def cF:PF prog:=PF.ofG prog (T3z [aI]) [] aV 265 f265 func265 (fun c _=>LOk.nil c) ra (by
 intro vs es r h;unfold ra at h;split at h
 ·cases h;kernel_rfl
 ·cases h)
abbrev dH:=Int×Int×ByteArray×ByteArray×List (Int×(ByteArray×Int))×List ByteArray×List ByteArray×List ByteArray×List (ByteArray×(List (Int×(ByteArray×Int))))
section
variable (y0 y1:Int)(y4:List (Int×(ByteArray×Int)))(y5 y6:List ByteArray)
def ox:Int×ByteArray×Int:=Option.getD y4[Int.toNat y0]? ((0:Int),ByteArray.empty,(0:Int))
def Nu:Bool:=ltI y0 y1
def Nv:Bool:=leI 0 y0
def Nw:Bool:=ltI y0 (↑y4.length:Int)
def Nx:Bool:=ltN y0.toNat y4.length
def Ny:Bool:=rg ((ox y0 y4).1) (((ox y0 y4).2).1) y5 y6
def Nz:Bool:=rf ((ox y0 y4).1) (((ox y0 y4).2).1) y5 y6
def NA:Int:=IntKind.wrap .i64 (y0 + (1:Int))
end
def Ma:dH→List (Nat×SV)
 |(y0,y1,_,_,_,_,_,_,_)=> [(8,(.one ⟨false,[.val (.int .i64 y0)]⟩)),(7,(.one ⟨false,[.val (.int .i64 y1)]⟩)),(1,(.one ⟨false,[.clo 265 [0]]⟩)),(0,(.one ⟨false,[.ref 1]⟩))]
def LV:dH→List (Nat×Entry)
 |(_,_,y2,y3,y4,y5,y6,y7,y8)=> [(0,(.box 63 [.val (.string y2),.ref 2,.ref 3,.ref 4,.val (.string y3),.ref 5])),(1,(.row false 178 acQ y4)),(2,(.row false 9 alP y5)),(3,(.row false 9 alP y6)),(4,(.row false 9 alP y7)),(5,(.row false 204 aas y8))]
def Ml:Nat→dH→List (Nat×SV)
 |0,(y0,_,_,_,_,_,_,_,_)=> [(4,(.one ⟨false,[.val (.int .i64 y0)]⟩))]
 |_,(_,_,_,_,_,_,_,_,_)=> []
def Mg:Nat→dH→List (Nat×Entry)
 |0,(_,_,y2,y3,y4,y5,y6,y7,y8)=> [(0,(.box 63 [.val (.string y2),.ref 2,.ref 3,.ref 4,.val (.string y3),.ref 5])),(1,(.row false 178 acQ y4)),(2,(.row false 9 alP y5)),(3,(.row false 9 alP y6)),(4,(.row false 9 alP y7)),(5,(.row false 204 aas y8))]
 |_,(_,_,y2,y3,y4,y5,y6,y7,y8)=> [(0,(.box 63 [.val (.string y2),.ref 2,.ref 3,.ref 4,.val (.string y3),.ref 5])),(1,(.row false 178 acQ y4)),(2,(.row false 9 alP y5)),(3,(.row false 9 alP y6)),(4,(.row false 9 alP y7)),(5,(.row false 204 aas y8))]
def My:dH→LT dH
 |(y0,y1,y2,y3,y4,y5,y6,y7,y8)=> .ite (Nu y0 y1) (.need [Nv y0,Nw y0 y4,Nx y0 y4,Ny y0 y4 y5 y6] (.ite (Nz y0 y4 y5 y6) (.ext 0 [(0,0),(1,1),(2,2),(3,3),(4,4),(5,5)]) (.nrm ((NA y0),y1,y2,y3,y4,y5,y6,y7,y8) [(0,0),(1,1),(2,2),(3,3),(4,4),(5,5)]))) (.ext 1 [(0,0),(1,1),(2,2),(3,3),(4,4),(5,5)])
def sY(s:St):Option dH:=
 (match s.look 8 with
 |some ⟨none,.one ⟨false,[.val (.int .i64 y0)]⟩⟩=>
 (match s.look 7 with
 |some ⟨none,.one ⟨false,[.val (.int .i64 y1)]⟩⟩=>
 (match s.look 1 with
 |some ⟨none,.one ⟨false,[.clo 265 [1]]⟩⟩=>
 (match s.look 0 with
 |some ⟨none,.one ⟨false,[.ref 0]⟩⟩=>
 (match s.ent 1 with
 |some (.box 63 [.val (.string y2),.ref 2,.ref 3,.ref 4,.val (.string y3),.ref 5])=>
 (match s.ent 0 with
 |some (.row false 178 (.pair (.int .i64) (.pair .str (.int .i64))) y4)=>
 (match s.ent 2 with
 |some (.row false 9 (.str) y5)=>
 (match s.ent 3 with
 |some (.row false 9 (.str) y6)=>
 (match s.ent 4 with
 |some (.row false 9 (.str) y7)=>
 (match s.ent 5 with
 |some (.row false 204 (.pair .str (.sl 178 (.pair (.int .i64) (.pair .str (.int .i64))))) y8)=>
 some (y0,y1,y2,y3,y4,y5,y6,y7,y8)
 |_=>none)
 |_=>none)
 |_=>none)
 |_=>none)
 |_=>none)
 |_=>none)
 |_=>none)
 |_=>none)
 |_=>none)
 |_=>none)
def ei:Lp dH where
 h:=⟨[9,10,5,11,12,13,14,15,16,17,4,18,8],[0,1,2,3,4,5],[],[]⟩
 JL:=Ma
 JE:=LV
 XL:=Ml
 XE:=Mg
 q:=fun j=>match j with | 0=> .ret | _=> .exit 0
 tags:= [0,1]
 lt:=My
 fuel:=fun(y0,y1,y2,y3,y4,y5,y6,y7,y8)=>y0.natAbs + y1.natAbs + y2.size + y3.size + y4.length + y5.length + y6.length + y7.length + y8.length
 fix:=fun(_,y1,y2,y3,y4,y5,y6,y7,y8) (y0,_,_,_,_,_,_,_,_)=>(y0,y1,y2,y3,y4,y5,y6,y7,y8)
 σ:= [(0,1),(1,0),(2,2),(3,3),(4,4),(5,5)]
 rd:=sY
theorem KA:LoopOk prog (fun k=>Nat.blt k Tryz.f214.ntmps) ei.F (aY f214 0):=by
 refine Lp.ok (tbl:= (T3z [cF])) (lf:= []) aV ei (by kernel_rfl) (LOk.nil _) (fun _=>rfl) (fun j _=>by unfold ei;match j with | 0=>rfl | _ + 1=>rfl) ?_ ?_ ?_ ?_ (fun _=>rfl) ?_
 ·rintro⟨y0,y1,y2,y3,y4,y5,y6,y7,y8⟩;kernel_rfl
 ·rintro⟨y0,y1,y2,y3,y4,y5,y6,y7,y8⟩;kernel_rfl
 ·intro s x h
  have h:sY s=some x:=h
  unfold sY at h
  repeat' split at h
  all_goals cases h
  constructor<;>repeat(first|refine ab (by assumption) rfl ?_|refine aa rfl (by assumption) rfl ?_|exact rfl)
 ·rintro⟨y0,y1,y2,y3,y4,y5,y6,y7,y8⟩;kernel_rfl
 ·rintro⟨y0,y1,y2,y3,y4,y5,y6,y7,y8⟩ z;exact(And.intro (And.intro trivial rfl) trivial)
section
variable (x0:List (Int×ByteArray×Int))(x1 x2:ByteArray)(x3 x4 x5:List ByteArray)(x6:List (ByteArray×List (Int×ByteArray×Int)))
def wc:Int×Int×ByteArray×ByteArray×List (Int×ByteArray×Int)×List ByteArray×List ByteArray×List ByteArray×List (ByteArray×List (Int×ByteArray×Int)):=((0:Int),(↑x0.length:Int),x1,x2,x0,x3,x4,x5,x6)
def wd:Bool:=Nat.beq ((Lp.res ei (wc x0 x1 x2 x3 x4 x5 x6)).1) 0
def DS:Int:=bif wd x0 x1 x2 x3 x4 x5 x6 then ((Lp.res ei (wc x0 x1 x2 x3 x4 x5 x6)).2).1else(-1:Int)
def DT:ByteArray:=bif wd x0 x1 x2 x3 x4 x5 x6 then x1 else x1
def DU:ByteArray:=bif wd x0 x1 x2 x3 x4 x5 x6 then x2 else x2
def DV:Bool:=allT [Lp.fin ei (wc x0 x1 x2 x3 x4 x5 x6)]
end
def Do:List SV→List Entry→Option Out
 | [.one ⟨false,[.ref 0]⟩,.one ⟨false,[.clo 265 [1]]⟩],[.row false 178 (.pair (.int .i64) (.pair .str (.int .i64))) x0,.box 63 [.val (.string x1),.ref 2,.ref 3,.ref 4,.val (.string x2),.ref 5],.row false 9 (.str) x3,.row false 9 (.str) x4,.row false 9 (.str) x5,.row false 204 (.pair .str (.sl 178 (.pair (.int .i64) (.pair .str (.int .i64))))) x6]=>some ⟨.one ⟨false,[.val (.int .i64 (DS x0 x1 x2 x3 x4 x5 x6))]⟩,[.row false 178 acQ x0,.box 63 [.val (.string (DT x0 x1 x2 x3 x4 x5 x6)),.ref 2,.ref 3,.ref 4,.val (.string (DU x0 x1 x2 x3 x4 x5 x6)),.ref 5],.row false 9 alP x3,.row false 9 alP x4,.row false 9 alP x5,.row false 204 aas x6],[],[DV x0 x1 x2 x3 x4 x5 x6]⟩
 |_,_=>none
def wx:PF prog:=PF.ofG prog (T3z [cF]) [ei.F] aV 214 f214 func214 (LOk.fnT (l:= [aY f214 0]) (by kernel_rfl) (.cons KA (.nil _))) Do (by
 intro vs es r h;unfold Do at h;split at h
 ·cases h;kernel_rfl
 ·cases h)
section
variable (x0:List (Int×ByteArray×Int))(x1 x2:ByteArray)(x3 x4 x5:List ByteArray)(x6:List (ByteArray×List (Int×ByteArray×Int)))
def BO:Bool:=leI 0 (DS x0 x1 x2 x3 x4 x5 x6)
def Nq:ByteArray:=DT x0 x1 x2 x3 x4 x5 x6
def Nr:ByteArray:=DU x0 x1 x2 x3 x4 x5 x6
def BP:Bool:=allT [DV x0 x1 x2 x3 x4 x5 x6]
end
def BH:List SV→List Entry→Option Out
 | [.one ⟨false,[.ref 0]⟩,.one ⟨false,[.clo 265 [1]]⟩],[.row false 178 (.pair (.int .i64) (.pair .str (.int .i64))) x0,.box 63 [.val (.string x1),.ref 2,.ref 3,.ref 4,.val (.string x2),.ref 5],.row false 9 (.str) x3,.row false 9 (.str) x4,.row false 9 (.str) x5,.row false 204 (.pair .str (.sl 178 (.pair (.int .i64) (.pair .str (.int .i64))))) x6]=>some ⟨.one ⟨false,[.val (.bool (BO x0 x1 x2 x3 x4 x5 x6))]⟩,[.row false 178 acQ x0,.box 63 [.val (.string (Nq x0 x1 x2 x3 x4 x5 x6)),.ref 2,.ref 3,.ref 4,.val (.string (Nr x0 x1 x2 x3 x4 x5 x6)),.ref 5],.row false 9 alP x3,.row false 9 alP x4,.row false 9 alP x5,.row false 204 aas x6],[],[BP x0 x1 x2 x3 x4 x5 x6]⟩
 |_,_=>none
def tZ:PF prog:=PF.ofG prog (T3z [wx]) [] aV 159 f159 func159 (fun c _=>LOk.nil c) BH (by
 intro vs es r h;unfold BH at h;split at h
 ·cases h;kernel_rfl
 ·cases h)
def Gh(x0 x1:ByteArray)(x3 x4 x5:List ByteArray)(x6:List (ByteArray×List (Int×ByteArray×Int)))(x7:List (Int×ByteArray×Int)):Bool:=BO x7 x0 x1 x3 x4 x5 x6
def Gi(x0 x1:ByteArray)(x3 x4 x5:List ByteArray)(x6:List (ByteArray×List (Int×ByteArray×Int)))(x7:List (Int×ByteArray×Int)):Bool:=allT [BP x7 x0 x1 x3 x4 x5 x6]
def vZ:List SV→List Entry→Option Out
 | [.one ⟨true,[.val (.string x0),.ref 0,.ref 1,.ref 2,.val (.string x1),.ref 3]⟩,.one ⟨true,[.val (.string _x2),.ref 4]⟩],[.row false 9 (.str) x3,.row false 9 (.str) x4,.row false 9 (.str) x5,.row false 204 (.pair (.str) (.sl 178 (.pair (.int .i64) (.pair (.str) (.int .i64))))) x6,.row false 178 (.pair (.int .i64) (.pair (.str) (.int .i64))) x7]=>some ⟨.one ⟨false,[.val (.bool (Gh x0 x1 x3 x4 x5 x6 x7))]⟩,[.row false 9 alP x3,.row false 9 alP x4,.row false 9 alP x5,.row false 204 (CTy.pair CTy.str (CTy.sl (178:TypeId) acQ)) x6,.row false 178 acQ x7],[],[Gi x0 x1 x3 x4 x5 x6 x7]⟩
 |_,_=>none
def dN:PF prog:=PF.ofG prog (T3z [tZ]) [] aV 238 f238 func238 (fun c _=>LOk.nil c) vZ (by
 intro vs es r h;unfold vZ at h;split at h
 ·cases h;kernel_rfl
 ·cases h)
def nZ(x0:ByteArray)(x1:List ByteArray):Bool:= !mH x1 x0
def oa(x1:List ByteArray):Bool:=allT [leN x1.length (9223372036854775807:Nat)]
def uR:List SV→List Entry→Option Out
 | [.one ⟨false,[.val (.string x0)]⟩,.one ⟨false,[.ptr 0 0]⟩],[.box 60 [.ref 1],.row true 9 (.str) x1]=>some ⟨.one ⟨false,[.val (.bool (nZ x0 x1))]⟩,[.box 60 [.ref 1],.row true 9 alP x1],[],[oa x1]⟩
 |_,_=>none
def dC:PF prog:=PF.ofG prog (T3z [aI]) [] aV 236 f236 func236 (fun c _=>LOk.nil c) uR (by
 intro vs es r h;unfold uR at h;split at h
 ·cases h;kernel_rfl
 ·cases h)
abbrev bw:=Int×Int×List ByteArray×List ByteArray
section
variable (y0 y1:Int)(y2 y3:List ByteArray)
def iV:Bool:=ltI y0 y1
def iW:Bool:=leI 0 y0
def iX:Bool:=ltI y0 (↑y2.length:Int)
def iY:Bool:=ltN y0.toNat y2.length
def eQ:Bool:=oa y3
def iZ:Bool:=nZ (Option.getD y2[Int.toNat y0]? ByteArray.empty) y3
def mv:Int:=IntKind.wrap .i64 (y0 + (1:Int))
end
def IU:bw→List (Nat×SV)
 |(y0,y1,_,_)=> [(8,(.one ⟨false,[.val (.int .i64 y0)]⟩)),(7,(.one ⟨false,[.val (.int .i64 y1)]⟩)),(1,(.one ⟨false,[.clo 236 [0]]⟩)),(0,(.one ⟨false,[.ref 1]⟩))]
def IP:bw→List (Nat×Entry)
 |(_,_,y2,y3)=> [(0,(.box 60 [.ref 2])),(1,(.row true 9 alP y2)),(2,(.row true 9 alP y3))]
def Ja:Nat→bw→List (Nat×SV)
 |0,(y0,_,_,_)=> [(4,(.one ⟨false,[.val (.int .i64 y0)]⟩))]
 |_,(_,_,_,_)=> []
def IX:Nat→bw→List (Nat×Entry)
 |0,(_,_,y2,y3)=> [(0,(.box 60 [.ref 2])),(1,(.row true 9 alP y2)),(2,(.row true 9 alP y3))]
 |_,(_,_,y2,y3)=> [(0,(.box 60 [.ref 2])),(1,(.row true 9 alP y2)),(2,(.row true 9 alP y3))]
def iA:bw→LT bw
 |(y0,y1,y2,y3)=> .ite (iV y0 y1) (.need [iW y0,iX y0 y2,iY y0 y2,eQ y3] (.ite (iZ y0 y2 y3) (.ext 0 [(0,0),(1,1),(2,2)]) (.nrm ((mv y0),y1,y2,y3) [(0,0),(1,1),(2,2)]))) (.ext 1 [(0,0),(1,1),(2,2)])
def qT(s:St):Option bw:=
 (match s.look 8 with
 |some ⟨none,.one ⟨false,[.val (.int .i64 y0)]⟩⟩=>
 (match s.look 7 with
 |some ⟨none,.one ⟨false,[.val (.int .i64 y1)]⟩⟩=>
 (match s.look 1 with
 |some ⟨none,.one ⟨false,[.clo 236 [1]]⟩⟩=>
 (match s.look 0 with
 |some ⟨none,.one ⟨false,[.ref 0]⟩⟩=>
 (match s.ent 1 with
 |some (.box 60 [.ref 2])=>
 (match s.ent 0 with
 |some (.row true 9 (.str) y2)=>
 (match s.ent 2 with
 |some (.row true 9 (.str) y3)=>
 some (y0,y1,y2,y3)
 |_=>none)
 |_=>none)
 |_=>none)
 |_=>none)
 |_=>none)
 |_=>none)
 |_=>none)
def ai:Lp bw where
 h:=⟨[9,10,5,11,12,13,14,15,16,17,4,18,8],[0,1,2],[],[]⟩
 JL:=IU
 JE:=IP
 XL:=Ja
 XE:=IX
 q:=fun j=>match j with | 0=> .ret | _=> .exit 0
 tags:= [0,1]
 lt:=iA
 fuel:=fun(y0,y1,y2,y3)=>y0.natAbs + y1.natAbs + y2.length + y3.length
 fix:=fun(_,y1,y2,y3) (y0,_,_,_)=>(y0,y1,y2,y3)
 σ:= [(0,1),(1,0),(2,2)]
 rd:=qT
theorem HK:LoopOk prog (fun k=>Nat.blt k Tryz.f264.ntmps) ai.F (aY f264 0):=by
 refine Lp.ok (tbl:= (T3z [dC])) (lf:= []) aV ai (by kernel_rfl) (LOk.nil _) (fun _=>rfl) (fun j _=>by unfold ai;match j with | 0=>rfl | _ + 1=>rfl) ?_ ?_ ?_ ?_ (fun _=>rfl) ?_
 ·rintro⟨y0,y1,y2,y3⟩;kernel_rfl
 ·rintro⟨y0,y1,y2,y3⟩;kernel_rfl
 ·intro s x h
  have h:qT s=some x:=h
  unfold qT at h
  repeat' split at h
  all_goals cases h
  constructor<;>repeat(first|refine ab (by assumption) rfl ?_|refine aa rfl (by assumption) rfl ?_|exact rfl)
 ·rintro⟨y0,y1,y2,y3⟩;kernel_rfl
 ·rintro⟨y0,y1,y2,y3⟩ z;exact(And.intro (And.intro trivial rfl) trivial)
section
variable (x0 x1:List ByteArray)
def jN:Int×Int×List ByteArray×List ByteArray:=((0:Int),(↑x0.length:Int),x0,x1)
def nX:Bool:=Nat.beq ((Lp.res ai (jN x0 x1)).1) 0
def tc:Int:=bif nX x0 x1 then ((Lp.res ai (jN x0 x1)).2).1else(-1:Int)
def AY:List ByteArray:=bif nX x0 x1 then x0 else x0
def AZ:List ByteArray:=bif nX x0 x1 then x1 else x1
def td:Bool:=allT [Lp.fin ai (jN x0 x1)]
end
def AG:List SV→List Entry→Option Out
 | [.one ⟨false,[.ref 0]⟩,.one ⟨false,[.clo 236 [1]]⟩],[.row true 9 (.str) x0,.box 60 [.ref 2],.row true 9 (.str) x1]=>some ⟨.one ⟨false,[.val (.int .i64 (tc x0 x1))]⟩,[.row true 9 alP (AY x0 x1),.box 60 [.ref 2],.row true 9 alP (AZ x0 x1)],[],[td x0 x1]⟩
 |_,_=>none
def sO:PF prog:=PF.ofG prog (T3z [dC]) [ai.F] aV 264 f264 func264 (LOk.fnT (l:= [aY f264 0]) (by kernel_rfl) (.cons HK (.nil _))) AG (by
 intro vs es r h;unfold AG at h;split at h
 ·cases h;kernel_rfl
 ·cases h)
section
variable (x0 x1:List ByteArray)
def dJ:Bool:=leI 0 (tc x0 x1)
def cQ:List ByteArray:=AY x0 x1
def mq:List ByteArray:=AZ x0 x1
def mr:Bool:=allT [td x0 x1]
end
def yT:List SV→List Entry→Option Out
 | [.one ⟨false,[.ref 0]⟩,.one ⟨false,[.clo 236 [1]]⟩],[.row true 9 (.str) x0,.box 60 [.ref 2],.row true 9 (.str) x1]=>some ⟨.one ⟨false,[.val (.bool (dJ x0 x1))]⟩,[.row true 9 alP (cQ x0 x1),.box 60 [.ref 2],.row true 9 alP (mq x0 x1)],[],[mr x0 x1]⟩
 |_,_=>none
def eN:PF prog:=PF.ofG prog (T3z [sO]) [] aV 235 f235 func235 (fun c _=>LOk.nil c) yT (by
 intro vs es r h;unfold yT at h;split at h
 ·cases h;kernel_rfl
 ·cases h)
def oc(x0:ByteArray)(x1:List ByteArray):Bool:= !mH x1 x0
def od(x1:List ByteArray):Bool:=allT [leN x1.length (9223372036854775807:Nat)]
def uS:List SV→List Entry→Option Out
 | [.one ⟨false,[.val (.string x0)]⟩,.one ⟨false,[.ptr 0 0]⟩],[.box 60 [.ref 1],.row true 9 (.str) x1]=>some ⟨.one ⟨false,[.val (.bool (oc x0 x1))]⟩,[.box 60 [.ref 1],.row true 9 alP x1],[],[od x1]⟩
 |_,_=>none
def dD:PF prog:=PF.ofG prog (T3z [aI]) [] aV 237 f237 func237 (fun c _=>LOk.nil c) uS (by
 intro vs es r h;unfold uS at h;split at h
 ·cases h;kernel_rfl
 ·cases h)
abbrev bx:=Int×Int×List ByteArray×List ByteArray
section
variable (y0 y1:Int)(y2 y3:List ByteArray)
def ja:Bool:=ltI y0 y1
def jb:Bool:=leI 0 y0
def je:Bool:=ltI y0 (↑y2.length:Int)
def jf:Bool:=ltN y0.toNat y2.length
def eR:Bool:=od y3
def jg:Bool:=oc (Option.getD y2[Int.toNat y0]? ByteArray.empty) y3
def mw:Int:=IntKind.wrap .i64 (y0 + (1:Int))
end
def IV:bx→List (Nat×SV)
 |(y0,y1,_,_)=> [(8,(.one ⟨false,[.val (.int .i64 y0)]⟩)),(7,(.one ⟨false,[.val (.int .i64 y1)]⟩)),(1,(.one ⟨false,[.clo 237 [0]]⟩)),(0,(.one ⟨false,[.ref 1]⟩))]
def IQ:bx→List (Nat×Entry)
 |(_,_,y2,y3)=> [(0,(.box 60 [.ref 2])),(1,(.row true 9 alP y2)),(2,(.row true 9 alP y3))]
def Jb:Nat→bx→List (Nat×SV)
 |0,(y0,_,_,_)=> [(4,(.one ⟨false,[.val (.int .i64 y0)]⟩))]
 |_,(_,_,_,_)=> []
def IY:Nat→bx→List (Nat×Entry)
 |0,(_,_,y2,y3)=> [(0,(.box 60 [.ref 2])),(1,(.row true 9 alP y2)),(2,(.row true 9 alP y3))]
 |_,(_,_,y2,y3)=> [(0,(.box 60 [.ref 2])),(1,(.row true 9 alP y2)),(2,(.row true 9 alP y3))]
def iB:bx→LT bx
 |(y0,y1,y2,y3)=> .ite (ja y0 y1) (.need [jb y0,je y0 y2,jf y0 y2,eR y3] (.ite (jg y0 y2 y3) (.ext 0 [(0,0),(1,1),(2,2)]) (.nrm ((mw y0),y1,y2,y3) [(0,0),(1,1),(2,2)]))) (.ext 1 [(0,0),(1,1),(2,2)])
def qU(s:St):Option bx:=
 (match s.look 8 with
 |some ⟨none,.one ⟨false,[.val (.int .i64 y0)]⟩⟩=>
 (match s.look 7 with
 |some ⟨none,.one ⟨false,[.val (.int .i64 y1)]⟩⟩=>
 (match s.look 1 with
 |some ⟨none,.one ⟨false,[.clo 237 [1]]⟩⟩=>
 (match s.look 0 with
 |some ⟨none,.one ⟨false,[.ref 0]⟩⟩=>
 (match s.ent 1 with
 |some (.box 60 [.ref 2])=>
 (match s.ent 0 with
 |some (.row true 9 (.str) y2)=>
 (match s.ent 2 with
 |some (.row true 9 (.str) y3)=>
 some (y0,y1,y2,y3)
 |_=>none)
 |_=>none)
 |_=>none)
 |_=>none)
 |_=>none)
 |_=>none)
 |_=>none)
def aj:Lp bx where
 h:=⟨[9,10,5,11,12,13,14,15,16,17,4,18,8],[0,1,2],[],[]⟩
 JL:=IV
 JE:=IQ
 XL:=Jb
 XE:=IY
 q:=fun j=>match j with | 0=> .ret | _=> .exit 0
 tags:= [0,1]
 lt:=iB
 fuel:=fun(y0,y1,y2,y3)=>y0.natAbs + y1.natAbs + y2.length + y3.length
 fix:=fun(_,y1,y2,y3) (y0,_,_,_)=>(y0,y1,y2,y3)
 σ:= [(0,1),(1,0),(2,2)]
 rd:=qU
theorem HL:LoopOk prog (fun k=>Nat.blt k Tryz.f264.ntmps) aj.F (aY f264 0):=by
 refine Lp.ok (tbl:= (T3z [dD])) (lf:= []) aV aj (by kernel_rfl) (LOk.nil _) (fun _=>rfl) (fun j _=>by unfold aj;match j with | 0=>rfl | _ + 1=>rfl) ?_ ?_ ?_ ?_ (fun _=>rfl) ?_
 ·rintro⟨y0,y1,y2,y3⟩;kernel_rfl
 ·rintro⟨y0,y1,y2,y3⟩;kernel_rfl
 ·intro s x h
  have h:qU s=some x:=h
  unfold qU at h
  repeat' split at h
  all_goals cases h
  constructor<;>repeat(first|refine ab (by assumption) rfl ?_|refine aa rfl (by assumption) rfl ?_|exact rfl)
 ·rintro⟨y0,y1,y2,y3⟩;kernel_rfl
 ·rintro⟨y0,y1,y2,y3⟩ z;exact(And.intro (And.intro trivial rfl) trivial)
section
variable (x0 x1:List ByteArray)
def jO:Int×Int×List ByteArray×List ByteArray:=((0:Int),(↑x0.length:Int),x0,x1)
def nY:Bool:=Nat.beq ((Lp.res aj (jO x0 x1)).1) 0
def te:Int:=bif nY x0 x1 then ((Lp.res aj (jO x0 x1)).2).1else(-1:Int)
def Ba:List ByteArray:=bif nY x0 x1 then x0 else x0
def Bb:List ByteArray:=bif nY x0 x1 then x1 else x1
def tf:Bool:=allT [Lp.fin aj (jO x0 x1)]
end
def AH:List SV→List Entry→Option Out
 | [.one ⟨false,[.ref 0]⟩,.one ⟨false,[.clo 237 [1]]⟩],[.row true 9 (.str) x0,.box 60 [.ref 2],.row true 9 (.str) x1]=>some ⟨.one ⟨false,[.val (.int .i64 (te x0 x1))]⟩,[.row true 9 alP (Ba x0 x1),.box 60 [.ref 2],.row true 9 alP (Bb x0 x1)],[],[tf x0 x1]⟩
 |_,_=>none
def sP:PF prog:=PF.ofG prog (T3z [dD]) [aj.F] aV 264 f264 func264 (LOk.fnT (l:= [aY f264 0]) (by kernel_rfl) (.cons HL (.nil _))) AH (by
 intro vs es r h;unfold AH at h;split at h
 ·cases h;kernel_rfl
 ·cases h)
section
variable (x0 x1:List ByteArray)
def mt:Bool:=leI 0 (te x0 x1)
def zc:List ByteArray:=Ba x0 x1
def zd:List ByteArray:=Bb x0 x1
def mu:Bool:=allT [tf x0 x1]
end
def yU:List SV→List Entry→Option Out
 | [.one ⟨false,[.ref 0]⟩,.one ⟨false,[.clo 237 [1]]⟩],[.row true 9 (.str) x0,.box 60 [.ref 2],.row true 9 (.str) x1]=>some ⟨.one ⟨false,[.val (.bool (mt x0 x1))]⟩,[.row true 9 alP (zc x0 x1),.box 60 [.ref 2],.row true 9 alP (zd x0 x1)],[],[mu x0 x1]⟩
 |_,_=>none
def eP:PF prog:=PF.ofG prog (T3z [sP]) [] aV 235 f235 func235 (fun c _=>LOk.nil c) yU (by
 intro vs es r h;unfold yU at h;split at h
 ·cases h;kernel_rfl
 ·cases h)
section
variable (x0:Int)(x1:ByteArray)(x5 x6:List ByteArray)
def kz:Bool:=bif x0==1 then !mH x5 x1 else false
def fS:Bool:=bif kz x0 x1 x5 then !mH x6 x1 else false
def lk:Bool:=allT [!(x0==1&&true)||leN x5.length (9223372036854775807:Nat),!(kz x0 x1 x5&&true)||leN x6.length (9223372036854775807:Nat)]
end
def rb:List SV→List Entry→Option Out
 | [.one ⟨true,[.val (.int .i64 x0),.val (.string x1),.val (.int .i64 _x2)]⟩,.one ⟨false,[.ptr 0 0]⟩],[.box 63 [.val (.string x3),.ref 1,.ref 2,.ref 3,.val (.string x4),.ref 4],.row false 9 (.str) x5,.row false 9 (.str) x6,.row false 9 (.str) x7,.row false 204 (.pair .str (.sl 178 (.pair (.int .i64) (.pair .str (.int .i64))))) x8]=>some ⟨.one ⟨false,[.val (.bool (fS x0 x1 x5 x6))]⟩,[.box 63 [.val (.string x3),.ref 1,.ref 2,.ref 3,.val (.string x4),.ref 4],.row false 9 alP x5,.row false 9 alP x6,.row false 9 alP x7,.row false 204 aas x8],[],[lk x0 x1 x5 x6]⟩
 |_,_=>none
def cG:PF prog:=PF.ofG prog (T3z [aI]) [] aV 265 f265 func265 (fun c _=>LOk.nil c) rb (by
 intro vs es r h;unfold rb at h;split at h
 ·cases h;kernel_rfl
 ·cases h)
abbrev bY:=Int×Int×ByteArray×ByteArray×List (Int×(ByteArray×Int))×List ByteArray×List ByteArray×List ByteArray×List (ByteArray×(List (Int×(ByteArray×Int))))
section
variable (y0 y1:Int)(y4:List (Int×(ByteArray×Int)))(y5 y6:List ByteArray)
def bQ:Int×ByteArray×Int:=Option.getD y4[Int.toNat y0]? ((0:Int),ByteArray.empty,(0:Int))
def kW:Bool:=ltI y0 y1
def pg:Bool:=leI 0 y0
def ph:Bool:=ltI y0 (↑y4.length:Int)
def pj:Bool:=ltN y0.toNat y4.length
def kX:Bool:=lk ((bQ y0 y4).1) (((bQ y0 y4).2).1) y5 y6
def kY:Bool:=fS ((bQ y0 y4).1) (((bQ y0 y4).2).1) y5 y6
def uo:Int:=IntKind.wrap .i64 (y0 + (1:Int))
end
def Mb:bY→List (Nat×SV)
 |(y0,y1,_,_,_,_,_,_,_)=> [(8,(.one ⟨false,[.val (.int .i64 y0)]⟩)),(7,(.one ⟨false,[.val (.int .i64 y1)]⟩)),(1,(.one ⟨false,[.clo 265 [0]]⟩)),(0,(.one ⟨false,[.ref 1]⟩))]
def LW:bY→List (Nat×Entry)
 |(_,_,y2,y3,y4,y5,y6,y7,y8)=> [(0,(.box 63 [.val (.string y2),.ref 2,.ref 3,.ref 4,.val (.string y3),.ref 5])),(1,(.row false 178 acQ y4)),(2,(.row false 9 alP y5)),(3,(.row false 9 alP y6)),(4,(.row false 9 alP y7)),(5,(.row false 204 aas y8))]
def Mm:Nat→bY→List (Nat×SV)
 |0,(y0,_,_,_,_,_,_,_,_)=> [(4,(.one ⟨false,[.val (.int .i64 y0)]⟩))]
 |_,(_,_,_,_,_,_,_,_,_)=> []
def Mh:Nat→bY→List (Nat×Entry)
 |0,(_,_,y2,y3,y4,y5,y6,y7,y8)=> [(0,(.box 63 [.val (.string y2),.ref 2,.ref 3,.ref 4,.val (.string y3),.ref 5])),(1,(.row false 178 acQ y4)),(2,(.row false 9 alP y5)),(3,(.row false 9 alP y6)),(4,(.row false 9 alP y7)),(5,(.row false 204 aas y8))]
 |_,(_,_,y2,y3,y4,y5,y6,y7,y8)=> [(0,(.box 63 [.val (.string y2),.ref 2,.ref 3,.ref 4,.val (.string y3),.ref 5])),(1,(.row false 178 acQ y4)),(2,(.row false 9 alP y5)),(3,(.row false 9 alP y6)),(4,(.row false 9 alP y7)),(5,(.row false 204 aas y8))]
def kv:bY→LT bY
 |(y0,y1,y2,y3,y4,y5,y6,y7,y8)=> .ite (kW y0 y1) (.need [pg y0,ph y0 y4,pj y0 y4,kX y0 y4 y5 y6] (.ite (kY y0 y4 y5 y6) (.ext 0 [(0,0),(1,1),(2,2),(3,3),(4,4),(5,5)]) (.nrm ((uo y0),y1,y2,y3,y4,y5,y6,y7,y8) [(0,0),(1,1),(2,2),(3,3),(4,4),(5,5)]))) (.ext 1 [(0,0),(1,1),(2,2),(3,3),(4,4),(5,5)])
def sZ(s:St):Option bY:=
 (match s.look 8 with
 |some ⟨none,.one ⟨false,[.val (.int .i64 y0)]⟩⟩=>
 (match s.look 7 with
 |some ⟨none,.one ⟨false,[.val (.int .i64 y1)]⟩⟩=>
 (match s.look 1 with
 |some ⟨none,.one ⟨false,[.clo 265 [1]]⟩⟩=>
 (match s.look 0 with
 |some ⟨none,.one ⟨false,[.ref 0]⟩⟩=>
 (match s.ent 1 with
 |some (.box 63 [.val (.string y2),.ref 2,.ref 3,.ref 4,.val (.string y3),.ref 5])=>
 (match s.ent 0 with
 |some (.row false 178 (.pair (.int .i64) (.pair .str (.int .i64))) y4)=>
 (match s.ent 2 with
 |some (.row false 9 (.str) y5)=>
 (match s.ent 3 with
 |some (.row false 9 (.str) y6)=>
 (match s.ent 4 with
 |some (.row false 9 (.str) y7)=>
 (match s.ent 5 with
 |some (.row false 204 (.pair .str (.sl 178 (.pair (.int .i64) (.pair .str (.int .i64))))) y8)=>
 some (y0,y1,y2,y3,y4,y5,y6,y7,y8)
 |_=>none)
 |_=>none)
 |_=>none)
 |_=>none)
 |_=>none)
 |_=>none)
 |_=>none)
 |_=>none)
 |_=>none)
 |_=>none)
def aE:Lp bY where
 h:=⟨[9,10,5,11,12,13,14,15,16,17,4,18,8],[0,1,2,3,4,5],[],[]⟩
 JL:=Mb
 JE:=LW
 XL:=Mm
 XE:=Mh
 q:=fun j=>match j with | 0=> .ret | _=> .exit 0
 tags:= [0,1]
 lt:=kv
 fuel:=fun(y0,y1,y2,y3,y4,y5,y6,y7,y8)=>y0.natAbs + y1.natAbs + y2.size + y3.size + y4.length + y5.length + y6.length + y7.length + y8.length
 fix:=fun(_,y1,y2,y3,y4,y5,y6,y7,y8) (y0,_,_,_,_,_,_,_,_)=>(y0,y1,y2,y3,y4,y5,y6,y7,y8)
 σ:= [(0,1),(1,0),(2,2),(3,3),(4,4),(5,5)]
 rd:=sZ
theorem KB:LoopOk prog (fun k=>Nat.blt k Tryz.f214.ntmps) aE.F (aY f214 0):=by
 refine Lp.ok (tbl:= (T3z [cG])) (lf:= []) aV aE (by kernel_rfl) (LOk.nil _) (fun _=>rfl) (fun j _=>by unfold aE;match j with | 0=>rfl | _ + 1=>rfl) ?_ ?_ ?_ ?_ (fun _=>rfl) ?_
 ·rintro⟨y0,y1,y2,y3,y4,y5,y6,y7,y8⟩;kernel_rfl
 ·rintro⟨y0,y1,y2,y3,y4,y5,y6,y7,y8⟩;kernel_rfl
 ·intro s x h
  have h:sZ s=some x:=h
  unfold sZ at h
  repeat' split at h
  all_goals cases h
  constructor<;>repeat(first|refine ab (by assumption) rfl ?_|refine aa rfl (by assumption) rfl ?_|exact rfl)
 ·rintro⟨y0,y1,y2,y3,y4,y5,y6,y7,y8⟩;kernel_rfl
 ·rintro⟨y0,y1,y2,y3,y4,y5,y6,y7,y8⟩ z;exact(And.intro (And.intro trivial rfl) trivial)
section
variable (x0:List (Int×ByteArray×Int))(x1 x2:ByteArray)(x3 x4 x5:List ByteArray)(x6:List (ByteArray×List (Int×ByteArray×Int)))
def lP:Int×Int×ByteArray×ByteArray×List (Int×ByteArray×Int)×List ByteArray×List ByteArray×List ByteArray×List (ByteArray×List (Int×ByteArray×Int)):=((0:Int),(↑x0.length:Int),x1,x2,x0,x3,x4,x5,x6)
def qk:Bool:=Nat.beq ((Lp.res aE (lP x0 x1 x2 x3 x4 x5 x6)).1) 0
def wF:Int:=bif qk x0 x1 x2 x3 x4 x5 x6 then ((Lp.res aE (lP x0 x1 x2 x3 x4 x5 x6)).2).1else(-1:Int)
def DW:ByteArray:=bif qk x0 x1 x2 x3 x4 x5 x6 then x1 else x1
def DX:ByteArray:=bif qk x0 x1 x2 x3 x4 x5 x6 then x2 else x2
def wG:Bool:=allT [Lp.fin aE (lP x0 x1 x2 x3 x4 x5 x6)]
end
def Dp:List SV→List Entry→Option Out
 | [.one ⟨false,[.ref 0]⟩,.one ⟨false,[.clo 265 [1]]⟩],[.row false 178 (.pair (.int .i64) (.pair .str (.int .i64))) x0,.box 63 [.val (.string x1),.ref 2,.ref 3,.ref 4,.val (.string x2),.ref 5],.row false 9 (.str) x3,.row false 9 (.str) x4,.row false 9 (.str) x5,.row false 204 (.pair .str (.sl 178 (.pair (.int .i64) (.pair .str (.int .i64))))) x6]=>some ⟨.one ⟨false,[.val (.int .i64 (wF x0 x1 x2 x3 x4 x5 x6))]⟩,[.row false 178 acQ x0,.box 63 [.val (.string (DW x0 x1 x2 x3 x4 x5 x6)),.ref 2,.ref 3,.ref 4,.val (.string (DX x0 x1 x2 x3 x4 x5 x6)),.ref 5],.row false 9 alP x3,.row false 9 alP x4,.row false 9 alP x5,.row false 204 aas x6],[],[wG x0 x1 x2 x3 x4 x5 x6]⟩
 |_,_=>none
def wy:PF prog:=PF.ofG prog (T3z [cG]) [aE.F] aV 214 f214 func214 (LOk.fnT (l:= [aY f214 0]) (by kernel_rfl) (.cons KB (.nil _))) Dp (by
 intro vs es r h;unfold Dp at h;split at h
 ·cases h;kernel_rfl
 ·cases h)
section
variable (x0:List (Int×ByteArray×Int))(x1 x2:ByteArray)(x3 x4 x5:List ByteArray)(x6:List (ByteArray×List (Int×ByteArray×Int)))
def ui:Bool:=leI 0 (wF x0 x1 x2 x3 x4 x5 x6)
def Ns:ByteArray:=DW x0 x1 x2 x3 x4 x5 x6
def Nt:ByteArray:=DX x0 x1 x2 x3 x4 x5 x6
def uj:Bool:=allT [wG x0 x1 x2 x3 x4 x5 x6]
end
def BI:List SV→List Entry→Option Out
 | [.one ⟨false,[.ref 0]⟩,.one ⟨false,[.clo 265 [1]]⟩],[.row false 178 (.pair (.int .i64) (.pair .str (.int .i64))) x0,.box 63 [.val (.string x1),.ref 2,.ref 3,.ref 4,.val (.string x2),.ref 5],.row false 9 (.str) x3,.row false 9 (.str) x4,.row false 9 (.str) x5,.row false 204 (.pair .str (.sl 178 (.pair (.int .i64) (.pair .str (.int .i64))))) x6]=>some ⟨.one ⟨false,[.val (.bool (ui x0 x1 x2 x3 x4 x5 x6))]⟩,[.row false 178 acQ x0,.box 63 [.val (.string (Ns x0 x1 x2 x3 x4 x5 x6)),.ref 2,.ref 3,.ref 4,.val (.string (Nt x0 x1 x2 x3 x4 x5 x6)),.ref 5],.row false 9 alP x3,.row false 9 alP x4,.row false 9 alP x5,.row false 204 aas x6],[],[uj x0 x1 x2 x3 x4 x5 x6]⟩
 |_,_=>none
def ua:PF prog:=PF.ofG prog (T3z [wy]) [] aV 159 f159 func159 (fun c _=>LOk.nil c) BI (by
 intro vs es r h;unfold BI at h;split at h
 ·cases h;kernel_rfl
 ·cases h)
def dZ(x0 x1:ByteArray)(x3 x4 x5:List ByteArray)(x6:List (ByteArray×List (Int×ByteArray×Int)))(x7:List (Int×ByteArray×Int)):Bool:=ui x7 x0 x1 x3 x4 x5 x6
def gp(x0 x1:ByteArray)(x3 x4 x5:List ByteArray)(x6:List (ByteArray×List (Int×ByteArray×Int)))(x7:List (Int×ByteArray×Int)):Bool:=allT [uj x7 x0 x1 x3 x4 x5 x6]
def sc:List SV→List Entry→Option Out
 | [.one ⟨true,[.val (.string x0),.ref 0,.ref 1,.ref 2,.val (.string x1),.ref 3]⟩,.one ⟨true,[.val (.string _x2),.ref 4]⟩],[.row false 9 (.str) x3,.row false 9 (.str) x4,.row false 9 (.str) x5,.row false 204 (.pair .str (.sl 178 (.pair (.int .i64) (.pair .str (.int .i64))))) x6,.row false 178 (.pair (.int .i64) (.pair .str (.int .i64))) x7]=>some ⟨.one ⟨false,[.val (.bool (dZ x0 x1 x3 x4 x5 x6 x7))]⟩,[.row false 9 alP x3,.row false 9 alP x4,.row false 9 alP x5,.row false 204 aas x6,.row false 178 acQ x7],[],[gp x0 x1 x3 x4 x5 x6 x7]⟩
 |_,_=>none
def cT:PF prog:=PF.ofG prog (T3z [ua]) [] aV 238 f238 func238 (fun c _=>LOk.nil c) sc (by
 intro vs es r h;unfold sc at h;split at h
 ·cases h;kernel_rfl
 ·cases h)
abbrev bX:=Int×Int×ByteArray×ByteArray×List ByteArray×List ByteArray×List ByteArray×List (ByteArray×(List (Int×(ByteArray×Int))))
def du(y0:Int)(y7:List (ByteArray×(List (Int×(ByteArray×Int))))):List (Int×ByteArray×Int):=(Option.getD y7[Int.toNat y0]? (xE aas)).2
def kT(y0 y1:Int):Bool:=ltI y0 y1
def pd(y0:Int):Bool:=leI 0 y0
def pe(y0:Int)(y7:List (ByteArray×(List (Int×(ByteArray×Int))))):Bool:=ltI y0 (↑y7.length:Int)
def pf(y0:Int)(y7:List (ByteArray×(List (Int×(ByteArray×Int))))):Bool:=ltN y0.toNat y7.length
def kU(y0:Int)(y2 y3:ByteArray)(y4 y5 y6:List ByteArray)(y7:List (ByteArray×(List (Int×(ByteArray×Int))))):Bool:=gp y2 y3 y4 y5 y6 y7 (du y0 y7)
def kV(y0:Int)(y2 y3:ByteArray)(y4 y5 y6:List ByteArray)(y7:List (ByteArray×(List (Int×(ByteArray×Int))))):Bool:=dZ y2 y3 y4 y5 y6 y7 (du y0 y7)
def um(y0:Int):Int:=IntKind.wrap .i64 (y0 + (1:Int))
def LZ:bX→List (Nat×SV)
 |(y0,y1,y2,y3,_,_,_,_)=> [(8,(.one ⟨false,[.val (.int .i64 y0)]⟩)),(7,(.one ⟨false,[.val (.int .i64 y1)]⟩)),(1,(.one ⟨false,[.bnd 238 [(0,some (.string y2)),(0,none),(1,none),(2,none),(0,some (.string y3)),(3,none)]]⟩)),(0,(.one ⟨false,[.ref 3]⟩))]
def LU:bX→List (Nat×Entry)
 |(_,_,_,_,y4,y5,y6,y7)=> [(0,(.row false 9 alP y4)),(1,(.row false 9 alP y5)),(2,(.row false 9 alP y6)),(3,(.row false 204 aas y7))]
def Mk:Nat→bX→List (Nat×SV)
 |0,(y0,_,_,_,_,_,_,_)=> [(4,(.one ⟨false,[.val (.int .i64 y0)]⟩))]
 |_,(_,_,_,_,_,_,_,_)=> []
def Mf:Nat→bX→List (Nat×Entry)
 |0,(_,_,_,_,y4,y5,y6,y7)=> [(0,(.row false 9 alP y4)),(1,(.row false 9 alP y5)),(2,(.row false 9 alP y6)),(3,(.row false 204 aas y7))]
 |_,(_,_,_,_,y4,y5,y6,y7)=> [(0,(.row false 9 alP y4)),(1,(.row false 9 alP y5)),(2,(.row false 9 alP y6)),(3,(.row false 204 aas y7))]
def ku:bX→LT bX
 |(y0,y1,y2,y3,y4,y5,y6,y7)=> .ite (kT y0 y1) (.need [pd y0,pe y0 y7,pf y0 y7,kU y0 y2 y3 y4 y5 y6 y7] (.ite (kV y0 y2 y3 y4 y5 y6 y7) (.ext 0 [(0,0),(1,1),(2,2),(3,3)]) (.nrm ((um y0),y1,y2,y3,y4,y5,y6,y7) [(0,0),(1,1),(2,2),(3,3)]))) (.ext 1 [(0,0),(1,1),(2,2),(3,3)])
def sX(s:St):Option bX:=
 (match s.look 8 with
 |some ⟨none,.one ⟨false,[.val (.int .i64 y0)]⟩⟩=>
 (match s.look 7 with
 |some ⟨none,.one ⟨false,[.val (.int .i64 y1)]⟩⟩=>
 (match s.look 1 with
 |some ⟨none,.one ⟨false,[.bnd 238 [(0,some (.string y2)),(1,none),(2,none),(3,none),(0,some (.string y3)),(0,none)]]⟩⟩=>
 (match s.look 0 with
 |some ⟨none,.one ⟨false,[.ref 0]⟩⟩=>
 (match s.ent 1 with
 |some (.row false 9 (.str) y4)=>
 (match s.ent 2 with
 |some (.row false 9 (.str) y5)=>
 (match s.ent 3 with
 |some (.row false 9 (.str) y6)=>
 (match s.ent 0 with
 |some (.row false 204 (.pair .str (.sl 178 (.pair (.int .i64) (.pair .str (.int .i64))))) y7)=>
 some (y0,y1,y2,y3,y4,y5,y6,y7)
 |_=>none)
 |_=>none)
 |_=>none)
 |_=>none)
 |_=>none)
 |_=>none)
 |_=>none)
 |_=>none)
def aD:Lp bX where
 h:=⟨[9,10,5,11,12,13,14,15,16,17,4,18,8],[0,1,2,3],[],[]⟩
 JL:=LZ
 JE:=LU
 XL:=Mk
 XE:=Mf
 q:=fun j=>match j with | 0=> .ret | _=> .exit 0
 tags:= [0,1]
 lt:=ku
 fuel:=fun(y0,y1,y2,y3,y4,y5,y6,y7)=>y0.natAbs + y1.natAbs + y2.size + y3.size + y4.length + y5.length + y6.length + y7.length
 fix:=fun(_,y1,y2,y3,y4,y5,y6,y7) (y0,_,_,_,_,_,_,_)=>(y0,y1,y2,y3,y4,y5,y6,y7)
 σ:= [(0,1),(1,2),(2,3),(3,0)]
 rd:=sX
theorem Kz:LoopOk prog (fun k=>Nat.blt k Tryz.f262.ntmps) aD.F (aY f262 0):=by
 refine Lp.ok (tbl:= (T3z [cT])) (lf:= []) aV aD (by kernel_rfl) (LOk.nil _) (fun _=>rfl) (fun j _=>by unfold aD;match j with | 0=>rfl | _ + 1=>rfl) ?_ ?_ ?_ ?_ (fun _=>rfl) ?_
 ·rintro⟨y0,y1,y2,y3,y4,y5,y6,y7⟩;kernel_rfl
 ·rintro⟨y0,y1,y2,y3,y4,y5,y6,y7⟩;kernel_rfl
 ·intro s x h
  have h:sX s=some x:=h
  unfold sX at h
  repeat' split at h
  all_goals cases h
  constructor<;>repeat(first|refine ab (by assumption) rfl ?_|refine aa rfl (by assumption) rfl ?_|exact rfl)
 ·rintro⟨y0,y1,y2,y3,y4,y5,y6,y7⟩;kernel_rfl
 ·rintro⟨y0,y1,y2,y3,y4,y5,y6,y7⟩ z;exact(And.intro (And.intro trivial rfl) trivial)
section
variable (x0 x1:ByteArray)(x2:List (ByteArray×List (Int×ByteArray×Int)))(x3 x4 x5:List ByteArray)
def lN:Int×Int×ByteArray×ByteArray×List ByteArray×List ByteArray×List ByteArray×List (ByteArray×List (Int×ByteArray×Int)):=((0:Int),(↑x2.length:Int),x0,x1,x3,x4,x5,x2)
def wD:Int:=bif Nat.beq ((Lp.res aD (lN x0 x1 x2 x3 x4 x5)).1) 0 then ((Lp.res aD (lN x0 x1 x2 x3 x4 x5)).2).1else(-1:Int)
def wE:Bool:=allT [Lp.fin aD (lN x0 x1 x2 x3 x4 x5)]
end
def Dn:List SV→List Entry→Option Out
 | [.one ⟨false,[.ref 0]⟩,.one ⟨false,[.bnd 238 [(0,some (.string x0)),(1,none),(2,none),(3,none),(0,some (.string x1)),(0,none)]]⟩],[.row false 204 (.pair .str (.sl 178 (.pair (.int .i64) (.pair .str (.int .i64))))) x2,.row false 9 (.str) x3,.row false 9 (.str) x4,.row false 9 (.str) x5]=>some ⟨.one ⟨false,[.val (.int .i64 (wD x0 x1 x2 x3 x4 x5))]⟩,[.row false 204 aas x2,.row false 9 alP x3,.row false 9 alP x4,.row false 9 alP x5],[],[wE x0 x1 x2 x3 x4 x5]⟩
 |_,_=>none
def ww:PF prog:=PF.ofG prog (T3z [cT]) [aD.F] aV 262 f262 func262 (LOk.fnT (l:= [aY f262 0]) (by kernel_rfl) (.cons Kz (.nil _))) Dn (by
 intro vs es r h;unfold Dn at h;split at h
 ·cases h;kernel_rfl
 ·cases h)
def oV(x0 x1:ByteArray)(x2:List (ByteArray×List (Int×ByteArray×Int)))(x3 x4 x5:List ByteArray):Bool:=leI 0 (wD x0 x1 x2 x3 x4 x5)
def oW(x0 x1:ByteArray)(x2:List (ByteArray×List (Int×ByteArray×Int)))(x3 x4 x5:List ByteArray):Bool:=allT [wE x0 x1 x2 x3 x4 x5]
def BG:List SV→List Entry→Option Out
 | [.one ⟨false,[.ref 0]⟩,.one ⟨false,[.bnd 238 [(0,some (.string x0)),(1,none),(2,none),(3,none),(0,some (.string x1)),(0,none)]]⟩],[.row false 204 (.pair .str (.sl 178 (.pair (.int .i64) (.pair .str (.int .i64))))) x2,.row false 9 (.str) x3,.row false 9 (.str) x4,.row false 9 (.str) x5]=>some ⟨.one ⟨false,[.val (.bool (oV x0 x1 x2 x3 x4 x5))]⟩,[.row false 204 aas x2,.row false 9 alP x3,.row false 9 alP x4,.row false 9 alP x5],[],[oW x0 x1 x2 x3 x4 x5]⟩
 |_,_=>none
def gT:PF prog:=PF.ofG prog (T3z [ww]) [] aV 229 f229 func229 (fun c _=>LOk.nil c) BG (by
 intro vs es r h;unfold BG at h;split at h
 ·cases h;kernel_rfl
 ·cases h)
abbrev be:=Int×Int×List (ByteArray×(List (Int×(ByteArray×Int))))×List ByteArray
def bz(y0:Int)(y2:List (ByteArray×(List (Int×(ByteArray×Int))))):List ByteArray:= [(Option.getD y2[Int.toNat y0]? (xE aas)).1]
def gz(y0 y1:Int):Bool:=ltI y0 y1
def gA(y0:Int):Bool:=leI 0 y0
def gB(y0:Int)(y2:List (ByteArray×(List (Int×(ByteArray×Int))))):Bool:=ltI y0 (↑y2.length:Int)
def gC(y0:Int)(y2:List (ByteArray×(List (Int×(ByteArray×Int))))):Bool:=ltN y0.toNat y2.length
def gD(y0:Int)(y2:List (ByteArray×(List (Int×(ByteArray×Int)))))(y3:List ByteArray):Bool:=leN (List.length y3 + List.length (bz y0 y2)) 9223372036854775807
def gE(y0:Int)(y2:List (ByteArray×(List (Int×(ByteArray×Int)))))(y3:List ByteArray):Bool:=leN ((List.length y3 + List.length (bz y0 y2)) * 16) 140737488355328
def gF(y0:Int):Int:=IntKind.wrap .i64 (y0 + (1:Int))
def gG(y0:Int)(y2:List (ByteArray×(List (Int×(ByteArray×Int)))))(y3:List ByteArray):List ByteArray:=y3++bz y0 y2
def Hl:be→List (Nat×SV)
 |(y0,y1,_,_)=> [(10,(.one ⟨false,[.val (.int .i64 y0)]⟩)),(9,(.one ⟨false,[.val (.int .i64 y1)]⟩)),(8,(.one ⟨false,[.ref 0]⟩)),(3,(.one ⟨false,[.ptr 1 0]⟩))]
def Hk:be→List (Nat×Entry)
 |(_,_,y2,y3)=> [(0,(.row false 204 aas y2)),(1,(.box 60 [.ref 2])),(2,(.row true 9 alP y3))]
def Ho:Nat→be→List (Nat×SV)
 |_,(_,_,_,_)=> []
def Hn:Nat→be→List (Nat×Entry)
 |_,(_,_,y2,y3)=> [(0,(.row false 204 aas y2)),(1,(.box 60 [.ref 2])),(2,(.row true 9 alP y3))]
def gi:be→LT be
 |(y0,y1,y2,y3)=> .ite (gz y0 y1) (.need [gA y0,gB y0 y2,gC y0 y2] (.need [gD y0 y2 y3,gE y0 y2 y3] (.nrm ((gF y0),y1,y2,(gG y0 y2 y3)) [(0,0),(1,1),(2,640)]))) (.ext 0 [(0,0),(1,1),(2,2)])
def qb(s:St):Option be:=
 (match s.look 10 with
 |some ⟨none,.one ⟨false,[.val (.int .i64 y0)]⟩⟩=>
 (match s.look 9 with
 |some ⟨none,.one ⟨false,[.val (.int .i64 y1)]⟩⟩=>
 (match s.look 8 with
 |some ⟨none,.one ⟨false,[.ref 3]⟩⟩=>
 (match s.look 3 with
 |some ⟨none,.one ⟨false,[.ptr 448 0]⟩⟩=>
 (match s.ent 3 with
 |some (.row false 204 (.pair .str (.sl 178 (.pair (.int .i64) (.pair .str (.int .i64))))) y2)=>
 (match s.ent 448 with
 |some (.box 60 [.ref 449])=>
 (match s.ent 449 with
 |some (.row true 9 (.str) y3)=>
 some (y0,y1,y2,y3)
 |_=>none)
 |_=>none)
 |_=>none)
 |_=>none)
 |_=>none)
 |_=>none)
 |_=>none)
def ak:Lp be where
 h:=⟨[11,12,13,5,14,15,16,17,18,19,10],[0,1],[2],[]⟩
 JL:=Hl
 JE:=Hk
 XL:=Ho
 XE:=Hn
 q:=fun j=>match j with | _=> .exit 0
 tags:= [0]
 lt:=gi
 fuel:=fun(y0,y1,y2,y3)=>y0.natAbs + y1.natAbs + y2.length + y3.length
 fix:=fun(_,y1,y2,_) (y0,_,_,y3)=>(y0,y1,y2,y3)
 σ:= [(0,3),(1,448),(2,449)]
 rd:=qb
theorem Gj:LoopOk prog (fun k=>Nat.blt k Tryz.f184.ntmps) ak.F (aY f184 0):=by
 refine Lp.ok (tbl:= (T3z [cP,EZ,fF,aI,dN,eN,eP,gT])) (lf:= []) aV ak (by kernel_rfl) (LOk.nil _) (fun _=>rfl) (fun _ _=>rfl) ?_ ?_ ?_ ?_ (fun _=>rfl) ?_
 ·rintro⟨y0,y1,y2,y3⟩;kernel_rfl
 ·rintro⟨y0,y1,y2,y3⟩;kernel_rfl
 ·intro s x h
  have h:qb s=some x:=h
  unfold qb at h
  repeat' split at h
  all_goals cases h
  constructor<;>repeat(first|refine ab (by assumption) rfl ?_|refine aa rfl (by assumption) rfl ?_|exact rfl)
 ·rintro⟨y0,y1,y2,y3⟩;kernel_rfl
 ·rintro⟨y0,y1,y2,y3⟩ z;exact(And.intro rfl trivial)
def mn(x1:ByteArray):Bool:=
 !ByteArray.toList x1==ByteArray.toList { data:= #[] }
section
variable (x0 x1:ByteArray)(x2 x3 x4:List ByteArray)(x5:List (ByteArray×List (Int×ByteArray×Int)))
def eK:Bool:=bif bif mn x1 then !mH x2 x1 else false then !mH x3 x1 else false
def mo:Int×Int×List (ByteArray×List (Int×ByteArray×Int))×List ByteArray:=((0:Int),(↑x5.length:Int),x5,[])
def am:List ByteArray:=(Lp.res ak (mo x5)).2.2.2.2
def ao:List ByteArray:=List.flatten [x3,x4]
def mp:Bool:=mt (mq (am x5) (ao x3 x4)) (cQ (am x5) (ao x3 x4))
def mT:Int:=bif tJ (bd x2 x3 x4)then(1:Int)else bif eK x1 x2 x3 then(2:Int)else bif dJ (am x5) (ao x3 x4)then(3:Int)else bif tJ (cQ (am x5) (ao x3 x4))then(4:Int)else bif mp x3 x4 x5 then(5:Int)else bif oV x0 x1 x5 x2 x3 x4 then(6:Int)else(0:Int)
def mU:Bool:=allT [Lp.fin ak (mo x5),leN (List.length [x3,x4]) (1000:Nat)&&leN (Kb [x3,x4]) 2000000,mV x2 x3 x4,leN (List.length (bd x2 x3 x4)) 9223372036854775807,tJ (bd x2 x3 x4)||(!(mn x1&&true)||leN x2.length (9223372036854775807:Nat)),tJ (bd x2 x3 x4)||(!((bif mn x1 then !mH x2 x1 else false)&&true)||leN x3.length (9223372036854775807:Nat)),tJ (bd x2 x3 x4)||(eK x1 x2 x3||mr (am x5) (ao x3 x4)),tJ (bd x2 x3 x4)||(eK x1 x2 x3||(dJ (am x5) (ao x3 x4)||leN (List.length (cQ (am x5) (ao x3 x4))) 9223372036854775807)),tJ (bd x2 x3 x4)||(eK x1 x2 x3||(dJ (am x5) (ao x3 x4)||(tJ (cQ (am x5) (ao x3 x4))||mu (mq (am x5) (ao x3 x4)) (cQ (am x5) (ao x3 x4))))),tJ (bd x2 x3 x4)||(eK x1 x2 x3||(dJ (am x5) (ao x3 x4)||(tJ (cQ (am x5) (ao x3 x4))||(mp x3 x4 x5||oW x0 x1 x5 x2 x3 x4))))]
end
def zl:List SV→List Entry→Option Out
 | [.one ⟨true,[.val (.string x0),.ref 0,.ref 1,.ref 2,.val (.string x1),.ref 3]⟩],[.row false 9 (.str) x2,.row false 9 (.str) x3,.row false 9 (.str) x4,.row false 204 (.pair (.str) (.sl 178 (.pair (.int .i64) (.pair (.str) (.int .i64))))) x5]=>some ⟨.one ⟨false,[.val (.int .i64 (mT x0 x1 x2 x3 x4 x5))]⟩,[.row false 9 alP x2,.row false 9 alP x3,.row false 9 alP x4,.row false 204 (CTy.pair CTy.str (CTy.sl (178:TypeId) acQ)) x5],[],[mU x0 x1 x2 x3 x4 x5]⟩
 |_,_=>none
def rO:PF prog:=PF.ofG prog (T3z [cP,EZ,fF,aI,dN,eN,eP,gT]) [ak.F] aV 184 f184 func184 (LOk.fnT (l:= [aY f184 0]) (by kernel_rfl) (.cons Gj (.nil _))) zl (by
 intro vs es r h;unfold zl at h;split at h
 ·cases h;kernel_rfl
 ·cases h)
def VF(x0 x1:ByteArray)(x2 x3 x4:List ByteArray)(x5:List (ByteArray×List (Int×ByteArray×Int))):Bool:=bif Hu x0 x1 x2 x3 x4 x5 then mT x0 x1 x2 x3 x4 x5==0 else false
def VG(x0 x1:ByteArray)(x2 x3 x4:List ByteArray)(x5:List (ByteArray×List (Int×ByteArray×Int))):Bool:=allT [Nf x0 x1 x2 x3 x4 x5,!(Hu x0 x1 x2 x3 x4 x5&&true)||mU x0 x1 x2 x3 x4 x5]
def abN:List SV→List Entry→Option Out
 | [.one ⟨true,[.val (.string x0),.ref 0,.ref 1,.ref 2,.val (.string x1),.ref 3]⟩],[.row false 9 (.str) x2,.row false 9 (.str) x3,.row false 9 (.str) x4,.row false 204 (.pair (.str) (.sl 178 (.pair (.int .i64) (.pair (.str) (.int .i64))))) x5]=>some ⟨.one ⟨false,[.val (.bool (VF x0 x1 x2 x3 x4 x5))]⟩,[.row false 9 alP x2,.row false 9 alP x3,.row false 9 alP x4,.row false 204 (CTy.pair CTy.str (CTy.sl (178:TypeId) acQ)) x5],[],[VG x0 x1 x2 x3 x4 x5]⟩
 |_,_=>none
def akw:PF prog:=PF.ofG prog (T3z [SN,rO]) [] aV 115 f115 func115 (fun c _=>LOk.nil c) abN (by
 intro vs es r h;unfold abN at h;split at h
 ·cases h;kernel_rfl
 ·cases h)
theorem anG{ins vs os:List ByteArray}(h1:SA ins=true)(h2:SA vs=true)(h3:SA os=true):
  leN ins.length 9223372036854775807=true∧leN vs.length 9223372036854775807=true∧leN os.length 9223372036854775807=true:=by
 simp only [SA,Bool.and_eq_true]at h1 h2 h3
 exact⟨h1.1,h2.1,h3.1⟩
def NR(nm:ByteArray)(ins vs os:List ByteArray)(g:ByteArray)(ls:List LN):Bool:=leN nm.size 9223372036854775807&&(SA ins&&(SA vs&&(SA os&&(leN g.size 9223372036854775807&&(leN (ins.length + vs.length + os.length) 2000000&&TL ls)))))
theorem MH{nm:ByteArray}{ins vs os:List ByteArray}{g:ByteArray}{ls:List LN}:NR nm ins vs os g ls=true↔
  nm.size≤9223372036854775807∧SA ins=true∧SA vs=true∧SA os=true∧g.size≤9223372036854775807∧ins.length + vs.length + os.length≤2000000∧TL ls=true:=by
 simp only [NR,Bool.and_eq_true,jD]
def uW(b:ByteArray×(List (Int×(ByteArray×Int)))):(Unit)→Nat ⊕ (Unit)
 |_=>(bif(bif(!oC b.1)then true else !agT (bif !(!oC b.1)&&true then b.2else []))then(.inl 0)else(.inr ()))
def tI(y1 y2:ByteArray)(y3 y4 y5:List ByteArray)(y6:List (ByteArray×(List (Int×(ByteArray×Int)))))(i:Nat):(Unit)→nB
 |_=>((i:Int),y1,y2,y3,y4,y5,y6)
def MI:nB→Unit
 |(_,_,_,_,_,_,_)=>()
theorem aej(y1 y2:ByteArray)(y3 y4 y5:List ByteArray)(y6:List (ByteArray×(List (Int×(ByteArray×Int))))) (hn:y6.length≤9223372036854775807) (hA: ∀ l∈y6,l.1.size≤9223372036854775807∧UY l.2=true):
  fu.fin ((0:Int),y1,y2,y3,y4,y5,y6)=true∧fu.res ((0:Int),y1,y2,y3,y4,y5,y6)=((bc (uW) 1 y6 0 ()).1,(tI y1 y2 y3 y4 y5 y6) (bc (uW) 1 y6 0 ()).2.1 (bc (uW) 1 y6 0 ()).2.2):=by
 have oi:=fu.along (tI y1 y2 y3 y4 y5 y6) MI (uW) 1 (fun _ _=>True) y6 () (by trivial) (by simp only [fu,tI];omega) (fun i b a hb hI=> ?_) (fun a hI=> ?_)
 ·exact oi
 ·obtain⟨⟩:=a
  have gV:=(List.getElem?_eq_some_iff.1 hb).1
  have lH: ∀ d,Option.getD y6[i]? d=b:=fun d=>by rw [hb];rfl
  have hw:=yJ gV hn
  have fA:ltI (i:Int) (y6.length:Int)=true:=fv (by omega)
  have Gz:leI (0:Int) (i:Int)=true:=cM (by omega)
  have qn:ltN i y6.length=true:=gM gV
  refine⟨?_,?_,?_,?_⟩
  ·have hg2:oz (i:Int) y6=b:=by simp only [oz,Int.toNat_natCast];exact lH _
   have hm:=hA b (List.mem_of_getElem? hb)
   obtain⟨q1,q2⟩:=Qo b.1 hm.1
   have e0:wZ (i:Int) y6=true:=fA
   have e1:xa (i:Int) y6=true:=by simp only [xa,Int.toNat_natCast];exact qn
   have e3:kx (i:Int) y6= !oJ b.1:=by simp only [kx,hg2,q1]
   have e4:tg (i:Int) y6=bif oJ b.1 then b.2 else []:=by simp only [tg,e3,hg2];cases oJ b.1 <;> rfl
   have h7:UY b.2=true:=hm.2
   have h8:UY []=true:=rfl
   simp only [yL,GQ,GR,GS,GU,GV,GW,GX,Ct,GY,AO,fu,LT.nds,allT,tI,e0,e1,e3,e4,hg2,q2,Gz,cond_true,Bool.or_true]
   cases oJ b.1 <;> simp [LT.nds,h7,h8]
  ·simp [wZ,xa,oz,kx,tg,yL,GQ,GR,GS,GU,GV,GW,GX,Ct,GY,AO,fu,LT.each,tI,MI,hw]
  ·have hg2:oz (i:Int) y6=b:=by simp only [oz,Int.toNat_natCast];exact lH _
   have e0:wZ (i:Int) y6=true:=fA
   simp only [fu,AO,yL,Ct,kx,tg,LT.fn,tI,MI,uW,e0,hg2,cond_true]
  ·exact fun _ _=>trivial
 ·obtain⟨⟩:=a
  simp [wZ,xa,oz,kx,tg,yL,GQ,GR,GS,GU,GV,GW,GX,Ct,GY,AO,fu,LT.out,tI]
theorem akU(nm:ByteArray)(ins vs os:List ByteArray)(g:ByteArray)(ls:List LN)(h:NR nm ins vs os g ls=true):
  HQ nm g ins vs os ls=ahB nm ins vs os g ls∧NB nm g ins vs os ls=true:=by
 obtain⟨h1,h2,h3,h4,h5,h6,h7⟩:=MH.1 h
 obtain⟨hn,hA⟩:=Qg.1 h7
 obtain⟨w1,w2⟩:=aej nm g ins vs os ls (by omega) hA
 have e0:(bc uW 1 ls 0 ())=(bc (fun(k:LN) (_:Unit)=>bif !lineB k then(.inl 0:Nat ⊕ Unit)else .inr ()) 1 ls 0 ()):=by
  refine Yd fun b hb a=> ?_
  simp only [uW,(Qo b.1 (hA b hb).1).1,lineB]
  cases oJ b.1 <;> simp
 rw [e0,kn (P:=fun k=> !lineB k) (j:=0) (fun k=>rfl)]at w2
 have e5:(ls.any fun k=> !lineB k)= !ls.all lineB:=by simp [List.all_eq_not_any_not]
 rw [e5]at w2
 obtain⟨q1,q2⟩:=Qo nm h1
 obtain⟨q3,q4⟩:=Qo g h5
 have c1:inR (ins.length:Int) 1 20=inR (ins.length:Int) ((1:Nat):Int) 20:=rfl
 have c0:inR (vs.length:Int) 0 20=inR (vs.length:Int) ((0:Nat):Int) 20:=rfl
 have c2:inR (os.length:Int) 1 20=inR (os.length:Int) ((1:Nat):Int) 20:=rfl
 refine⟨?_,?_⟩
 ·simp only [HQ,Rq,Rr,Rs,Rt,Ru,Lo,w2,q1,q3,bL,YA,Qj,ahB,afD,c0,c1,c2]
  generalize oJ nm=p1
  generalize ins.all oJ=p2
  generalize inR (ins.length:Int) ((1:Nat):Int) 20=p3
  generalize vs.all oJ=p4
  generalize inR (vs.length:Int) ((0:Nat):Int) 20=p5
  generalize os.all oJ=p6
  generalize inR (os.length:Int) ((1:Nat):Int) 20=p7
  generalize (g.toList== [])=p8
  generalize oJ g=p9
  generalize ls.all lineB=p10
  generalize inR (ls.length:Int) 1 40=p11
  cases p1 <;> cases p2 <;> cases p3 <;> simp <;> cases p4 <;> cases p5 <;> simp <;> cases p6 <;> cases p7 <;> simp <;> cases p8 <;> cases p9 <;> simp <;> cases p10 <;> simp [Nat.beq]
 ·simp only [NB,Lo,w1,q2,q4,h2,h3,h4,allT,Bool.or_true,cond_true]
theorem Qd:(∀ m:Nat,leI 0 (m:Int)=true)∧leI 0 (-1)=false:=⟨fun m=>cM (by omega),rfl⟩
theorem Xu{α:Type}(l:List α)(p:α→Bool):(l.any fun k=> !p k)= !l.all p:=by simp [List.all_eq_not_any_not]
def gP(b:ByteArray×(List (Int×(ByteArray×Int)))):(Unit)→Nat ⊕ (Unit)
 |_=>(bif(da b.2)then(.inl 0)else(.inr ()))
def dv(y2:List (ByteArray×(List (Int×(ByteArray×Int)))))(i:Nat):(Unit)→bV
 |_=>((i:Int),(↑y2.length:Int),y2)
def sQ:bV→Unit
 |(_,_,_)=>()
theorem NH(y2:List (ByteArray×(List (Int×(ByteArray×Int))))) (hn:y2.length≤9223372036854775807):
  aB.fin ((0:Int),(↑y2.length:Int),y2)=true∧aB.res ((0:Int),(↑y2.length:Int),y2)=((bc (gP) 1 y2 0 ()).1,(dv y2) (bc (gP) 1 y2 0 ()).2.1 (bc (gP) 1 y2 0 ()).2.2):=by
 have oi:=aB.along (dv y2) sQ (gP) 1 (fun _ _=>True) y2 () (by trivial) (by simp only [aB,dv];omega) (fun i b a hb hI=> ?_) (fun a hI=> ?_)
 ·exact oi
 ·obtain⟨⟩:=a
  have gV:=(List.getElem?_eq_some_iff.1 hb).1
  have lH: ∀ d,Option.getD y2[i]? d=b:=fun d=>by rw [hb];rfl
  have hw:=yJ gV hn
  have fA:ltI (i:Int) (y2.length:Int)=true:=fv (by omega)
  have Gz:leI (0:Int) (i:Int)=true:=cM (by omega)
  have qn:ltN i y2.length=true:=gM gV
  refine⟨?_,?_,?_,?_⟩
  ·simp only [kP,oX,oY,oZ,kr,aB,LT.nds,allT,dv,fA,Gz,qn,Int.toNat_natCast,cond_true,Bool.and_self]
   cases gU (i:Int) y2 <;> simp [LT.nds]
  ·simp [kP,oX,oY,oZ,gU,uk,kr,aB,LT.each,dv,sQ,hw]
  ·have hg2:gU (i:Int) y2=da b.2:=by
    simp only [gU,Int.toNat_natCast];exact congrArg (fun z:LN=>da z.2) (lH _)
   simp only [kP,kr,aB,LT.fn,dv,sQ,gP,fA,hg2,cond_true]
  ·exact fun _ _=>trivial
 ·obtain⟨⟩:=a
  simp [kP,oX,oY,oZ,gU,uk,kr,aB,LT.out,dv]
theorem ard(ins vs os:List ByteArray)(ls:List LN)(hn:ls.length≤1048576):
  lJ ins vs os ls=(leN ins.length 20&&(leN vs.length 20&&(leN os.length 20&&(leN ls.length 40&&ls.all fun l=>leN l.2.length 40))))∧lK ins vs os ls=true:=by
 obtain⟨w1,w2⟩:=NH ls (by omega)
 have hc: ∀ (k:Nat) (m:Nat),leI (m:Int) (k:Int)=leN m k:=fun k m=>by rw [Bool.eq_iff_iff,Jg,jD];omega
 have hc20: ∀ m:Nat,leI (m:Int) 20=leN m 20:=fun m=>hc 20 m
 have hc40: ∀ m:Nat,leI (m:Int) 40=leN m 40:=fun m=>hc 40 m
 rw [kn (P:=fun k=> !leN k.2.length 40) (j:=0) (fun k=>by
  simp only [gP,da]
  have:ltI 40 (k.2.length:Int)= !leN k.2.length 40:=by rw [Xz,hc40]
  rw [this]),Xu]at w2
 simp only [lJ,lK,qo,ug,uh,wz,wA,qi,w1,w2,allT,dv,hc20,hc40,Bool.or_true,cond_true]
 refine⟨?_,trivial⟩
 generalize (ls.all fun k=>leN k.2.length 40)=q
 cases leN ins.length 20 <;> cases leN vs.length 20 <;> cases leN os.length 20 <;> cases leN ls.length 40 <;> cases q <;> simp [Nat.beq,Qd.1,Qd.2]
def gQ(b:ByteArray×(List (Int×(ByteArray×Int)))):(Unit)→Nat ⊕ (Unit)
 |_=>(bif(AB b.1 b.2)then(.inl 0)else(.inr ()))
def dw(y2:List (ByteArray×(List (Int×(ByteArray×Int)))))(i:Nat):(Unit)→bW
 |_=>((i:Int),(↑y2.length:Int),y2)
def sR:bW→Unit
 |(_,_,_)=>()
theorem NI(y2:List (ByteArray×(List (Int×(ByteArray×Int))))) (hn:y2.length≤9223372036854775807) (hA: ∀ l∈y2,UY l.2=true):
  aC.fin ((0:Int),(↑y2.length:Int),y2)=true∧aC.res ((0:Int),(↑y2.length:Int),y2)=((bc (gQ) 1 y2 0 ()).1,(dw y2) (bc (gQ) 1 y2 0 ()).2.1 (bc (gQ) 1 y2 0 ()).2.2):=by
 have oi:=aC.along (dw y2) sR (gQ) 1 (fun _ _=>True) y2 () (by trivial) (by simp only [aC,dw];omega) (fun i b a hb hI=> ?_) (fun a hI=> ?_)
 ·exact oi
 ·obtain⟨⟩:=a
  have gV:=(List.getElem?_eq_some_iff.1 hb).1
  have lH: ∀ d,Option.getD y2[i]? d=b:=fun d=>by rw [hb];rfl
  have hw:=yJ gV hn
  have fA:ltI (i:Int) (y2.length:Int)=true:=fv (by omega)
  have Gz:leI (0:Int) (i:Int)=true:=cM (by omega)
  have qn:ltN i y2.length=true:=gM gV
  refine⟨?_,?_,?_,?_⟩
  ·have hg2:cI (i:Int) y2=b:=by simp only [cI,Int.toNat_natCast];exact lH _
   have hm:=hA b (List.mem_of_getElem? hb)
   have h4:kR (i:Int) y2=true:=by simp only [kR,hg2,Gg,hm,allT,cond_true]
   simp only [kQ,pa,pb,pc,kt,aC,LT.nds,allT,dw,h4,fA,Gz,qn,Int.toNat_natCast,cond_true,Bool.and_self]
   cases kS (i:Int) y2 <;> simp [LT.nds]
  ·simp [cI,kQ,pa,pb,pc,kR,kS,ul,kt,aC,LT.each,dw,sR,hw]
  ·have hg2:cI (i:Int) y2=b:=by simp only [cI,Int.toNat_natCast];exact lH _
   simp only [kQ,kS,kt,aC,LT.fn,dw,sR,gQ,fA,hg2,cond_true]
  ·exact fun _ _=>trivial
 ·obtain⟨⟩:=a
  simp [cI,kQ,pa,pb,pc,kR,kS,ul,kt,aC,LT.out,dw]
theorem aka(nm:ByteArray)(ins vs os:List ByteArray)(g:ByteArray)(ls:List LN)(h:NR nm ins vs os g ls=true):
  Hu nm g ins vs os ls=ahB nm ins vs os g ls∧Nf nm g ins vs os ls=true:=by
 obtain⟨h1,h2,h3,h4,h5,h6,h7⟩:=MH.1 h
 obtain⟨hn,hA⟩:=Qg.1 h7
 obtain⟨w1,w2⟩:=NI ls (by omega) (fun l hl=>(hA l hl).2)
 rw [kn (P:=fun k=> !lineB k) (j:=0) (fun k=>by simp only [gQ,AB]),Xu]at w2
 obtain⟨s1,s2⟩:=ard ins vs os ls hn
 have t1:Kb [ins,vs,os]≤2000000:=by simp [Kb];omega
 have t2: [ins,vs,os].flatten.length≤2000000:=by simp;omega
 have hfl: [ins,vs,os].flatten.all oJ=(ins.all oJ&&(vs.all oJ&&os.all oJ)):=by simp [List.all_append,Bool.and_assoc]
 have hcont:oT ls= !ls.all lineB∧oU ls=true:=by
  simp only [oT,oU,wB,wC,qj,w1,w2,allT,dw]
  cases ls.all lineB <;> simp [Nat.beq,Qd.1,Qd.2]
 refine⟨?_,?_⟩
 ·have hz: ∀ m k:Nat,inR (m:Int) 1 (k:Int)=(ltI 0 (m:Int)&&leN m k):=fun m k=>by
   rw [Bool.eq_iff_iff,Fw,Bool.and_eq_true,Vh,jD];omega
  have hz0: ∀ m k:Nat,inR (m:Int) ((0:Nat):Int) (k:Int)=leN m k:=fun m k=>by
   rw [Bool.eq_iff_iff,Fw,jD];omega
  have c1:inR (ins.length:Int) ((1:Nat):Int) 20=(ltI 0 (ins.length:Int)&&leN ins.length 20):=hz _ 20
  have c2:inR (os.length:Int) ((1:Nat):Int) 20=(ltI 0 (os.length:Int)&&leN os.length 20):=hz _ 20
  have c3:inR (ls.length:Int) 1 40=(ltI 0 (ls.length:Int)&&leN ls.length 40):=hz _ 40
  have c4:inR (vs.length:Int) ((0:Nat):Int) 20=leN vs.length 20:=hz0 _ 20
  have hl40:ls.all lineB=true→(ls.all fun l=>leN l.2.length 40)=true:=fun hl=>by
   rw [List.all_eq_true]at hl ⊢
   intro l hm
   exact ci (adw (hl l hm)).2.1
  simp only [Hu,Fp,Lk,QQ,QR,Xy,s1,hcont.1,Qj,ahB,afD,c1,c2,c3,c4]
  cases hq:ls.all lineB with
  |false=>simp
  |true=>
   rw [hl40 hq]
   cases oJ nm with
   |false=>simp
   |true=>
    simp only [Bool.and_true,cond_true,hfl]
    generalize ins.all oJ=p2
    generalize vs.all oJ=p4
    generalize os.all oJ=p6
    generalize (g.toList== [])=p8
    generalize oJ g=p9
    generalize ltI 0 (ins.length:Int)=r1
    generalize ltI 0 (os.length:Int)=r2
    generalize ltI 0 (ls.length:Int)=r3
    generalize leN ins.length 20=r4
    generalize leN vs.length 20=r5
    generalize leN os.length 20=r6
    generalize leN ls.length 40=r7
    cases p2 <;> simp <;> cases p4 <;> simp <;> cases p6 <;> simp <;> cases r1 <;> simp <;> cases r2 <;> simp <;> cases r3 <;> simp <;> cases r4 <;> simp <;> cases r5 <;> simp <;> cases r6 <;> simp <;> cases r7 <;> simp <;> cases p8 <;> simp
 ·simp only [Nf,Fp,Lk,s2,hcont.2,Xy,allT,Bool.or_true,cond_true]
  cases oJ nm with
  |false=>simp
  |true=>
   have t4:leN [ins,vs,os].flatten.length 9223372036854775807=true:=ci (by omega)
   have t5:leN (Kb [ins,vs,os]) 2000000=true:=ci t1
   have t6:leN [ins,vs,os].length 1000=true:=rfl
   simp only [Bool.and_true,cond_true,t4,t5,t6,Bool.and_self,Bool.or_true]
theorem ase(l:List ByteArray)(s:ByteArray):ltI (gW l s) 0= !mH l s:=by rw [Xz,Uk]
theorem aiU(s:ByteArray)(ins vs:List ByteArray)(h1:leN ins.length 9223372036854775807=true)(h2:leN vs.length 9223372036854775807=true):
  tD s ins vs=ZD ins vs s∧Ez s ins vs=true:=by
 simp only [tD,Ez,Uk,h1,h2,ZD,allT,Bool.or_true,cond_true,and_true]
 cases mH ins s <;> rfl
def madeB(vs os:List ByteArray)(l:LN):Bool:=mH vs l.1||mH os l.1
def oR(y5 y6:List ByteArray)(b:ByteArray×(List (Int×(ByteArray×Int)))):(List ByteArray)→Nat ⊕ (List ByteArray)
 |y3=>(bif(bif ltI (gW y5 b.1) 0 then ltI (gW y6 b.1) 0 else false)then(.inl 0)else(.inr (y3++ [b.1])))
def rK(y1 y2:ByteArray)(y4 y5 y6:List ByteArray)(y7:List (ByteArray×(List (Int×(ByteArray×Int)))))(i:Nat):(List ByteArray)→oO
 |y3=>((i:Int),y1,y2,y3,y4,y5,y6,y7)
def NW:oO→List ByteArray
 |(_,_,_,y3,_,_,_,_)=>y3
theorem agq(y1 y2:ByteArray)(y4 y5 y6:List ByteArray)(y7:List (ByteArray×(List (Int×(ByteArray×Int)))))(y3:List ByteArray)(hn:y7.length≤9223372036854775807)(hv:leN y5.length 9223372036854775807=true)(ho:leN y6.length 9223372036854775807=true)(hN:y7.length≤1048576)(h3:y3.length=0):
  eg.fin ((0:Int),y1,y2,y3,y4,y5,y6,y7)=true∧eg.res ((0:Int),y1,y2,y3,y4,y5,y6,y7)=((bc (oR y5 y6) 1 y7 0 y3).1,(rK y1 y2 y4 y5 y6 y7) (bc (oR y5 y6) 1 y7 0 y3).2.1 (bc (oR y5 y6) 1 y7 0 y3).2.2):=by
 have oi:=eg.along (rK y1 y2 y4 y5 y6 y7) NW (oR y5 y6) 1 (fun i a=>a.length=i) y7 y3 h3 (by simp only [eg,rK];omega) (fun i b a hb hI=> ?_) (fun a hI=> ?_)
 ·exact oi
 ·obtain y3:=a
  have gV:=(List.getElem?_eq_some_iff.1 hb).1
  have lH: ∀ d,Option.getD y7[i]? d=b:=fun d=>by rw [hb];rfl
  have hw:=yJ gV hn
  have fA:ltI (i:Int) (y7.length:Int)=true:=fv (by omega)
  have Gz:leI (0:Int) (i:Int)=true:=cM (by omega)
  have qn:ltN i y7.length=true:=gM gV
  refine⟨?_,?_,?_,?_⟩
  ·have hg2:jS (i:Int) y7=b.1:=by simp only [jS,Int.toNat_natCast];exact congrArg Prod.fst (lH _)
   have l1: ∀ s:ByteArray,leN (a.length + List.length [s]) 9223372036854775807=true:=fun s=>ci (by rw [List.length_singleton];omega)
   have l2: ∀ s:ByteArray,leN ((a.length + List.length [s]) * 16) 140737488355328=true:=fun s=>ci (by rw [List.length_singleton];omega)
   simp only [Ao,Ek,El,Em,En,Eo,Ep,Er,Es,Et,Ck,eg,LT.nds,allT,rK,fA,Gz,qn,hg2,hv,ho,l1,l2,Int.toNat_natCast,cond_true,Bool.or_true,Bool.and_self]
   generalize (bif ltI (gW y5 b.1) 0 then ltI (gW y6 b.1) 0 else false)=q
   cases q <;> simp [LT.nds]
  ·simp [jS,Ao,Ek,El,Em,En,Eo,Ep,Er,Es,Et,Ck,eg,LT.each,rK,NW,hw]
  ·have hg2:jS (i:Int) y7=b.1:=by simp only [jS,Int.toNat_natCast];exact congrArg Prod.fst (lH _)
   simp only [Ao,Ek,El,Em,En,Eo,Ep,Er,Es,Et,Ck,eg,LT.fn,rK,NW,oR,fA,hg2,cond_true]
  ·intro a' hf
   simp only [oR]at hf
   revert hf
   generalize (bif ltI (gW y5 b.1) 0 then ltI (gW y6 b.1) 0 else false)=q
   cases q with
   |true=>intro hf;cases hf
   |false=>intro hf;simp only [cond_false,Sum.inr.injEq]at hf;subst hf;simp [hI]
 ·obtain y3:=a
  simp [jS,Ao,Ek,El,Em,En,Eo,Ep,Er,Es,Et,Ck,eg,LT.out,rK]
theorem ahA(vs os:List ByteArray): ∀ (ls:List LN) (i:Nat) (acc:List ByteArray),(bc (oR vs os) 1 ls i acc).1=(bif !ls.all (madeB vs os)then 0 else 1)∧
  (ls.all (madeB vs os)=true→(bc (oR vs os) 1 ls i acc).2.2=acc++ls.map Prod.fst)
 | [],i,acc=>by simp [bc]
 |l::r,i,acc=>by
  have hf:oR vs os l acc=bif madeB vs os l then .inr (acc++ [l.1])else .inl 0:=by
   simp only [oR,ase,madeB]
   cases mH vs l.1 <;> cases mH os l.1 <;> rfl
  obtain⟨h1,h2⟩:=ahA vs os r (i + 1) (acc++ [l.1])
  simp only [bc,hf,List.all_cons]
  cases hm:madeB vs os l with
  |false=>simp
  |true=>
   simp only [cond_true,Bool.true_and]
   refine⟨h1,fun h=> ?_⟩
   rw [h2 h];simp
theorem apm(k:Nat)(u v:ByteArray)(ins vs os:List ByteArray)(ls:List LN)(l:LN)(hl:ls[k]? =some l)(hn:l.2.length≤1048576)(h1:leN ins.length 9223372036854775807=true)(h2:leN vs.length 9223372036854775807=true):
  eA.fin ((0:Int),(k:Int),u,v,ins,vs,os,ls)=true∧(eA.res ((0:Int),(k:Int),u,v,ins,vs,os,ls)).1=bif !l.2.all (usedB ins vs)then 0 else 1:=by
 have hkl:=(List.getElem?_eq_some_iff.1 hl).1
 have hgl: ∀ d,Option.getD ls[k]? d=l:=fun d=>by rw [hl];rfl
 have ha2:yE (k:Int) ls=l.2:=by simp only [yE,Int.toNat_natCast];exact congrArg Prod.snd (hgl _)
 have c0:KP (k:Int)=true:=cM (by omega)
 have c1:KQ (k:Int) ls=true:=fv (by omega)
 have c2:EL (k:Int) ls=true:=by simp only [EL,Int.toNat_natCast];exact gM hkl
 have oi:=eA.along2 (fun i (_:Unit)=>((i:Int),(k:Int),u,v,ins,vs,os,ls)) (fun _=>()) (fun(b:TM) (_:Unit)=>bif !usedB ins vs b then .inl 0 else .inr ()) 1 (fun _ _=>True) l.2 () trivial (by omega)
  (fun i b a hb hI=> ?_) (fun a hI=> ?_)
 ·rw [kn (P:=fun b=> !usedB ins vs b) (j:=0) (fun b=>rfl),Xu]at oi
  exact⟨oi.1,by rw [show ((0:Int),(k:Int),u,v,ins,vs,os,ls)=(((0:Nat):Int),(k:Int),u,v,ins,vs,os,ls) from rfl,oi.2]⟩
 ·have gV:=(List.getElem?_eq_some_iff.1 hb).1
  have hw:IntKind.i64.wrap ((i:Int) + 1)=((i + 1:Nat):Int):=by rw [bi (by omega) (by omega)];omega
  have Gz:leI (0:Int) (i:Int)=true:=cM (by omega)
  have hg2:yF (i:Int) (k:Int) ls=b:=by simp only [yF,ha2,Int.toNat_natCast,hb,Option.getD_some]
  have hg3:vV (i:Int) (k:Int) ls=true:=by simp only [vV,ha2];exact fv (by omega)
  have c4:Sr (i:Int)=true:=Gz
  have c5:KR (i:Int) (k:Int) ls=true:=by simp only [KR,ha2,Int.toNat_natCast];exact gM gV
  obtain⟨r1,r2⟩:=aiU b.2.1 ins vs h1 h2
  have c6:KS (i:Int) (k:Int) ins vs ls=true:=by simp only [KS,hg2,r2,Bool.or_true]
  have c7:KT (i:Int) (k:Int) ins vs ls= !usedB ins vs b:=by
   simp only [KT,JF,hg2,r1,usedB]
   cases b.1==1 <;> simp
  have c8:Ss (i:Int)=((i + 1:Nat):Int):=hw
  refine⟨?_,?_,?_,fun _ _=>trivial⟩
  ·simp only [eA,xX,LT.nds,allT,c0,c1,c2,c4,c5,c6,c7,hg3,cond_true,Bool.and_self]
   cases usedB ins vs b <;> simp [LT.nds]
  ·simp only [eA,xX,LT.each,c7,c8,hg3]
   cases usedB ins vs b <;> simp [LT.each]
  ·simp only [eA,xX,LT.fn,c7,hg3,cond_true]
 ·have fA:vV (l.2.length:Int) (k:Int) ls=false:=by simp only [vV,ha2];exact NM (by omega)
  simp [eA,xX,LT.out,allT,c0,c1,c2,fA]
theorem ark(u v:ByteArray)(ins vs os:List ByteArray)(ls:List LN)(hN:ls.length≤1048576)(hL: ∀ l∈ls,l.2.length≤1048576)(h1:leN ins.length 9223372036854775807=true)(h2:leN vs.length 9223372036854775807=true):
  eU.fin ((0:Int),u,v,ins,vs,os,ls)=true∧(eU.res ((0:Int),u,v,ins,vs,os,ls)).1=bif !ls.all (fun l=>l.2.all (usedB ins vs))then 0 else 1:=by
 have oi:=eU.along2 (fun i (_:Unit)=>((i:Int),u,v,ins,vs,os,ls)) (fun _=>()) (fun(b:LN) (_:Unit)=>bif !b.2.all (usedB ins vs)then .inl 0 else .inr ()) 1 (fun _ _=>True) ls () trivial (by omega)
  (fun i b a hb hI=> ?_) (fun a hI=> ?_)
 ·rw [kn (P:=fun b:LN=> !b.2.all (usedB ins vs)) (j:=0) (fun b=>rfl),Xu]at oi
  exact⟨oi.1,by rw [show ((0:Int),u,v,ins,vs,os,ls)=(((0:Nat):Int),u,v,ins,vs,os,ls) from rfl,oi.2]⟩
 ·have gV:=(List.getElem?_eq_some_iff.1 hb).1
  have hw:IntKind.i64.wrap ((i:Int) + 1)=((i + 1:Nat):Int):=by rw [bi (by omega) (by omega)];omega
  obtain⟨k1,k2⟩:=apm i u v ins vs os ls b hb (hL b (List.mem_of_getElem? hb)) h1 h2
  have c0:PG (i:Int) ls=true:=fv (by omega)
  have c1:WJ (i:Int) u v ins vs os ls=true:=k1
  have c2:PH (i:Int) u v ins vs os ls= !b.2.all (usedB ins vs):=by
   simp only [PH,Ok,k2]
   cases b.2.all (usedB ins vs) <;> rfl
  have c3:WK (i:Int)=((i + 1:Nat):Int):=hw
  refine⟨?_,?_,?_,fun _ _=>trivial⟩
  ·simp only [eU,Cl,LT.nds,allT,c0,c1,c2,cond_true]
   cases b.2.all (usedB ins vs) <;> simp [LT.nds]
  ·simp only [eU,Cl,LT.each,c0,c2,c3]
   cases b.2.all (usedB ins vs) <;> simp [LT.each]
  ·simp only [eU,Cl,LT.fn,c0,c2,cond_true]
 ·have fA:PG (ls.length:Int) ls=false:=NM (by omega)
  simp [eU,Cl,LT.out,fA]
theorem amR(nm:ByteArray)(ins vs os:List ByteArray)(g:ByteArray)(ls:List LN)(h:NR nm ins vs os g ls=true):
  (OV nm g ins vs os ls==0)=aph ins vs os g ls∧OW nm g ins vs os ls=true:=by
 obtain⟨h1,h2,h3,h4,h5,h6,h7⟩:=MH.1 h
 obtain⟨hn,hA⟩:=Qg.1 h7
 have hL: ∀ l∈ls,l.2.length≤1048576:=fun l hl=>(Qx.1 (hA l hl).2).1
 obtain⟨l1,l2,l3⟩:=anG h2 h3 h4
 obtain⟨w1,w2⟩:=agq nm g ins vs os ls [] (by omega) l2 l3 hn rfl
 obtain⟨t1,t2⟩:=ahA vs os ls 0 []
 obtain⟨u1,u2⟩:=ark nm g ins vs os ls hn hL l1 l2
 obtain⟨r1,r2⟩:=aiU g ins vs l1 l2
 have a4:HV nm g ins vs os ls= !ls.all (madeB vs os):=by
  simp only [HV,Df,ND,w2,t1]
  cases ls.all (madeB vs os) <;> rfl
 have a5:ls.all (madeB vs os)=true→Dg nm g ins vs os ls=ls.map Prod.fst:=fun hm=>by
  simp only [Dg,Df,ND,w2,rK]
  rw [t2 hm];rfl
 have a6:ls.all (madeB vs os)=true→NE nm g ins vs os ls= !leN (vs.length + os.length) ls.length:=fun hm=>by
  simp only [NE,a5 hm,List.length_map]
  rw [bi (by omega) (by omega),Bool.eq_iff_iff,Vh,Bool.not_eq_true',← Bool.not_eq_true,jD]
  omega
 have e7:(Lp.res eU (NF nm g ins vs os ls)).1=bif !ls.all (fun l=>l.2.all (usedB ins vs))then 0 else 1:=u2
 have e8:Lp.fin eU (NF nm g ins vs os ls)=true:=u1
 have hnil:(g.toList==ByteArray.toList { data:= #[] })=(g.toList== []):=by rw [Qj]
 refine⟨?_,?_⟩
 ·simp only [OV,xx,An,hnil,r1,a4,e7,aph]
  cases hm:ls.all (madeB vs os)with
  |false=>
   have hm2:(ls.all fun l=>mH vs l.1||mH os l.1)=false:=hm
   rw [hm2]
   generalize tJ (ins++vs++os)=p1
   generalize (g.toList== [])=p2
   generalize ZD ins vs g=p3
   cases p1 <;> cases p2 <;> cases p3 <;> rfl
  |true=>
   have hm2:(ls.all fun l=>mH vs l.1||mH os l.1)=true:=hm
   rw [hm2,a5 hm,a6 hm]
   generalize tJ (ins++vs++os)=p1
   generalize (g.toList== [])=p2
   generalize ZD ins vs g=p3
   generalize tJ (ls.map Prod.fst)=p4
   generalize leN (vs.length + os.length) ls.length=p5
   generalize (ls.all fun l=>l.2.all (usedB ins vs))=p6
   cases p1 <;> cases p2 <;> cases p3 <;> cases p4 <;> cases p5 <;> cases p6 <;> rfl
 ·have f1:leN (ins.length + vs.length + os.length) 2000000=true:=ci h6
  have f2:leN (ins++vs++os).length 9223372036854775807=true:=ci (by simp;omega)
  have f3:Lp.fin eg (Df nm g ins vs os ls)=true:=w1
  simp only [OW,xx,An,f1,f2,f3,r2,a4,e8,allT,Bool.or_true,cond_true]
  cases hm:ls.all (madeB vs os)with
  |false=>simp
  |true=>
   have f4:leN (ls.map Prod.fst).length 9223372036854775807=true:=ci (by rw [List.length_map];omega)
   rw [a5 hm,f4]
   simp
def dm(b:ByteArray×(List (Int×(ByteArray×Int)))):(List ByteArray)→Nat ⊕ (List ByteArray)
 |y3=>(.inr (y3++([b.1])))
def cg(y2:List (ByteArray×(List (Int×(ByteArray×Int)))))(i:Nat):(List ByteArray)→be
 |y3=>((i:Int),(↑y2.length:Int),y2,y3)
def qa:be→List ByteArray
 |(_,_,_,y3)=>y3
theorem II(y2:List (ByteArray×(List (Int×(ByteArray×Int)))))(y3:List ByteArray)(hn:y2.length≤9223372036854775807)(hN:y2.length≤1048576)(h3:y3.length=0):
  ak.fin ((0:Int),(↑y2.length:Int),y2,y3)=true∧ak.res ((0:Int),(↑y2.length:Int),y2,y3)=((bc (dm) 0 y2 0 y3).1,(cg y2) (bc (dm) 0 y2 0 y3).2.1 (bc (dm) 0 y2 0 y3).2.2):=by
 have oi:=ak.along (cg y2) qa (dm) 0 (fun i a=>a.length=i) y2 y3 h3 (by simp only [ak,cg];omega) (fun i b a hb hI=> ?_) (fun a hI=> ?_)
 ·exact oi
 ·obtain y3:=a
  have gV:=(List.getElem?_eq_some_iff.1 hb).1
  have lH: ∀ d,Option.getD y2[i]? d=b:=fun d=>by rw [hb];rfl
  have hw:=yJ gV hn
  have fA:ltI (i:Int) (y2.length:Int)=true:=fv (by omega)
  have Gz:leI (0:Int) (i:Int)=true:=cM (by omega)
  have qn:ltN i y2.length=true:=gM gV
  refine⟨?_,?_,?_,?_⟩
  ·have hg2:bz (i:Int) y2= [b.1]:=by simp only [bz,Int.toNat_natCast];exact congrArg (fun z:LN=> [z.1]) (lH _)
   have l1: ∀ s:ByteArray,leN (a.length + List.length [s]) 9223372036854775807=true:=fun s=>ci (by rw [List.length_singleton];omega)
   have l2: ∀ s:ByteArray,leN ((a.length + List.length [s]) * 16) 140737488355328=true:=fun s=>ci (by rw [List.length_singleton];omega)
   simp only [gz,gA,gB,gC,gD,gE,gF,gG,gi,ak,LT.nds,allT,cg,fA,Gz,qn,hg2,l1,l2,Int.toNat_natCast,cond_true,Bool.and_self]
  ·simp [bz,gz,gA,gB,gC,gD,gE,gF,gG,gi,ak,LT.each,cg,qa,hw]
  ·have hg2:bz (i:Int) y2= [b.1]:=by simp only [bz,Int.toNat_natCast];exact congrArg (fun z:LN=> [z.1]) (lH _)
   simp only [gz,gA,gB,gC,gD,gE,gF,gG,gi,ak,LT.fn,cg,qa,dm,fA,hg2,cond_true]
  ·intro a' hf
   simp only [dm,Sum.inr.injEq]at hf
   subst hf;simp [hI]
 ·obtain y3:=a
  simp [bz,gz,gA,gB,gC,gD,gE,gF,gG,gi,ak,LT.out,cg]
theorem ann: ∀ (ls:List LN) (acc:List ByteArray),ls.foldl (fun a l=>a++ [l.1]) acc=acc++ls.map Prod.fst
 | [],acc=>by simp
 |l::r,acc=>by rw [List.foldl_cons,ann r];simp
def iL(y3:List ByteArray)(b:ByteArray):(Unit)→Nat ⊕ (Unit)
 |_=>(bif(nZ b y3)then(.inl 0)else(.inr ()))
def cK(y2 y3:List ByteArray)(i:Nat):(Unit)→bw
 |_=>((i:Int),(↑y2.length:Int),y2,y3)
def qQ:bw→Unit
 |(_,_,_,_)=>()
theorem Kd(y2 y3:List ByteArray) (hn:y2.length≤9223372036854775807) (hm:leN y3.length 9223372036854775807=true):
  ai.fin ((0:Int),(↑y2.length:Int),y2,y3)=true∧ai.res ((0:Int),(↑y2.length:Int),y2,y3)=((bc (iL y3) 1 y2 0 ()).1,(cK y2 y3) (bc (iL y3) 1 y2 0 ()).2.1 (bc (iL y3) 1 y2 0 ()).2.2):=by
 have oi:=ai.along (cK y2 y3) qQ (iL y3) 1 (fun _ _=>True) y2 () (by trivial) (by simp only [ai,cK];omega) (fun i b a hb hI=> ?_) (fun a hI=> ?_)
 ·exact oi
 ·obtain⟨⟩:=a
  have gV:=(List.getElem?_eq_some_iff.1 hb).1
  have lH: ∀ d,Option.getD y2[i]? d=b:=fun d=>by rw [hb];rfl
  have hw:=yJ gV hn
  have fA:ltI (i:Int) (y2.length:Int)=true:=fv (by omega)
  have Gz:leI (0:Int) (i:Int)=true:=cM (by omega)
  have qn:ltN i y2.length=true:=gM gV
  refine⟨?_,?_,?_,?_⟩
  ·have h4:eQ y3=true:=by simp only [eQ,oa,hm,allT,cond_true]
   simp only [iV,iW,iX,iY,iA,ai,LT.nds,allT,cK,h4,fA,Gz,qn,Int.toNat_natCast,cond_true,Bool.and_self]
   cases iZ (i:Int) y2 y3 <;> simp [LT.nds]
  ·simp [iV,iW,iX,iY,eQ,iZ,mv,iA,ai,LT.each,cK,qQ,hw]
  ·simp only [iV,iW,iX,iY,eQ,iZ,mv,iA,ai,LT.fn,cK,qQ,iL,Int.toNat_natCast,fA,Gz,qn,lH,cond_true,Bool.cond_self]
  ·exact fun _ _=>trivial
 ·obtain⟨⟩:=a
  simp [iV,iW,iX,iY,eQ,iZ,mv,iA,ai,LT.out,cK]
def iM(y3:List ByteArray)(b:ByteArray):(Unit)→Nat ⊕ (Unit)
 |_=>(bif(oc b y3)then(.inl 0)else(.inr ()))
def cL(y2 y3:List ByteArray)(i:Nat):(Unit)→bx
 |_=>((i:Int),(↑y2.length:Int),y2,y3)
def qR:bx→Unit
 |(_,_,_,_)=>()
theorem Ke(y2 y3:List ByteArray) (hn:y2.length≤9223372036854775807) (hm:leN y3.length 9223372036854775807=true):
  aj.fin ((0:Int),(↑y2.length:Int),y2,y3)=true∧aj.res ((0:Int),(↑y2.length:Int),y2,y3)=((bc (iM y3) 1 y2 0 ()).1,(cL y2 y3) (bc (iM y3) 1 y2 0 ()).2.1 (bc (iM y3) 1 y2 0 ()).2.2):=by
 have oi:=aj.along (cL y2 y3) qR (iM y3) 1 (fun _ _=>True) y2 () (by trivial) (by simp only [aj,cL];omega) (fun i b a hb hI=> ?_) (fun a hI=> ?_)
 ·exact oi
 ·obtain⟨⟩:=a
  have gV:=(List.getElem?_eq_some_iff.1 hb).1
  have lH: ∀ d,Option.getD y2[i]? d=b:=fun d=>by rw [hb];rfl
  have hw:=yJ gV hn
  have fA:ltI (i:Int) (y2.length:Int)=true:=fv (by omega)
  have Gz:leI (0:Int) (i:Int)=true:=cM (by omega)
  have qn:ltN i y2.length=true:=gM gV
  refine⟨?_,?_,?_,?_⟩
  ·have h4:eR y3=true:=by simp only [eR,od,hm,allT,cond_true]
   simp only [ja,jb,je,jf,iB,aj,LT.nds,allT,cL,h4,fA,Gz,qn,Int.toNat_natCast,cond_true,Bool.and_self]
   cases jg (i:Int) y2 y3 <;> simp [LT.nds]
  ·simp [ja,jb,je,jf,eR,jg,mw,iB,aj,LT.each,cL,qR,hw]
  ·simp only [ja,jb,je,jf,eR,jg,mw,iB,aj,LT.fn,cL,qR,iM,Int.toNat_natCast,fA,Gz,qn,lH,cond_true,Bool.cond_self]
  ·exact fun _ _=>trivial
 ·obtain⟨⟩:=a
  simp [ja,jb,je,jf,eR,jg,mw,iB,aj,LT.out,cL]
theorem arQ(a b:List ByteArray)(ha:leN a.length 9223372036854775807=true)(hb:leN b.length 9223372036854775807=true):
  dJ a b=(a.any fun s=> !mH b s)∧cQ a b=a∧mq a b=b∧mr a b=true:=by
 obtain⟨w1,w2⟩:=Kd a b (jD.1 ha) hb
 rw [kn (P:=fun s=> !mH b s) (j:=0) (fun s=>rfl)]at w2
 refine⟨?_,Bool.cond_self _ _,Bool.cond_self _ _,?_⟩
 ·simp only [dJ,tc,jN,nX,w2,cK]
  cases (a.any fun s=> !mH b s) <;> simp [Nat.beq,Qd.1,Qd.2]
 ·simp only [mr,td,jN,w1,allT,cond_true]
theorem arR(a b:List ByteArray)(ha:leN a.length 9223372036854775807=true)(hb:leN b.length 9223372036854775807=true):
  mt a b=(a.any fun s=> !mH b s)∧zc a b=a∧zd a b=b∧mu a b=true:=by
 obtain⟨w1,w2⟩:=Ke a b (jD.1 ha) hb
 rw [kn (P:=fun s=> !mH b s) (j:=0) (fun s=>rfl)]at w2
 refine⟨?_,Bool.cond_self _ _,Bool.cond_self _ _,?_⟩
 ·simp only [mt,te,jO,nY,w2,cL]
  cases (a.any fun s=> !mH b s) <;> simp [Nat.beq,Qd.1,Qd.2]
 ·simp only [mu,tf,jO,w1,allT,cond_true]
def gS(y5 y6:List ByteArray)(b:Int×(ByteArray×Int)):(Unit)→Nat ⊕ (Unit)
 |_=>(bif(fS b.1 (b.2.1) y5 y6)then(.inl 0)else(.inr ()))
def dy(y2 y3:ByteArray)(y4:List (Int×(ByteArray×Int)))(y5 y6 y7:List ByteArray)(y8:List (ByteArray×(List (Int×(ByteArray×Int)))))(i:Nat):(Unit)→bY
 |_=>((i:Int),(↑y4.length:Int),y2,y3,y4,y5,y6,y7,y8)
def sU:bY→Unit
 |(_,_,_,_,_,_,_,_,_)=>()
theorem NK(y2 y3:ByteArray)(y4:List (Int×(ByteArray×Int)))(y5 y6 y7:List ByteArray)(y8:List (ByteArray×(List (Int×(ByteArray×Int))))) (hn:y4.length≤9223372036854775807) (h5:leN y5.length 9223372036854775807=true) (h6:leN y6.length 9223372036854775807=true):
  aE.fin ((0:Int),(↑y4.length:Int),y2,y3,y4,y5,y6,y7,y8)=true∧aE.res ((0:Int),(↑y4.length:Int),y2,y3,y4,y5,y6,y7,y8)=((bc (gS y5 y6) 1 y4 0 ()).1,(dy y2 y3 y4 y5 y6 y7 y8) (bc (gS y5 y6) 1 y4 0 ()).2.1 (bc (gS y5 y6) 1 y4 0 ()).2.2):=by
 have oi:=aE.along (dy y2 y3 y4 y5 y6 y7 y8) sU (gS y5 y6) 1 (fun _ _=>True) y4 () (by trivial) (by simp only [aE,dy];omega) (fun i b a hb hI=> ?_) (fun a hI=> ?_)
 ·exact oi
 ·obtain⟨⟩:=a
  have gV:=(List.getElem?_eq_some_iff.1 hb).1
  have lH: ∀ d,Option.getD y4[i]? d=b:=fun d=>by rw [hb];rfl
  have hw:=yJ gV hn
  have fA:ltI (i:Int) (y4.length:Int)=true:=fv (by omega)
  have Gz:leI (0:Int) (i:Int)=true:=cM (by omega)
  have qn:ltN i y4.length=true:=gM gV
  refine⟨?_,?_,?_,?_⟩
  ·have hg2:bQ (i:Int) y4=b:=by simp only [bQ,Int.toNat_natCast];exact lH _
   have h4:kX (i:Int) y4 y5 y6=true:=by simp only [kX,lk,h5,h6,allT,Bool.or_true,cond_true]
   simp only [kW,pg,ph,pj,kv,aE,LT.nds,allT,dy,h4,fA,Gz,qn,Int.toNat_natCast,cond_true,Bool.and_self]
   cases kY (i:Int) y4 y5 y6 <;> simp [LT.nds]
  ·simp [bQ,kW,pg,ph,pj,kX,kY,uo,kv,aE,LT.each,dy,sU,hw]
  ·have hg2:bQ (i:Int) y4=b:=by simp only [bQ,Int.toNat_natCast];exact lH _
   simp only [kW,kY,kv,aE,LT.fn,dy,sU,gS,fA,hg2,cond_true]
  ·exact fun _ _=>trivial
 ·obtain⟨⟩:=a
  simp [bQ,kW,pg,ph,pj,kX,kY,uo,kv,aE,LT.out,dy]
theorem ak7(u v:ByteArray)(ins vs os:List ByteArray)(ls:List LN)(ts:List TM)(hn:ts.length≤1048576)(h1:leN ins.length 9223372036854775807=true)(h2:leN vs.length 9223372036854775807=true):
  dZ u v ins vs os ls ts= !ts.all (usedB ins vs)∧gp u v ins vs os ls ts=true:=by
 obtain⟨w1,w2⟩:=NK u v ts ins vs os ls (by omega) h1 h2
 rw [kn (P:=fun b=> !usedB ins vs b) (j:=0) (fun b=>by
  simp only [gS,fS,kz,usedB,ZD]
  cases b.1==1 <;> cases mH ins b.2.1 <;> cases mH vs b.2.1 <;> rfl),Xu]at w2
 refine⟨?_,?_⟩
 ·simp only [dZ,ui,wF,lP,qk,w2,dy]
  cases ts.all (usedB ins vs) <;> simp [Nat.beq,Qd.1,Qd.2]
 ·simp only [gp,uj,wG,lP,w1,allT,cond_true]
def gR(y2 y3:ByteArray)(y4 y5 y6:List ByteArray)(y7:List (ByteArray×(List (Int×(ByteArray×Int)))))(b:ByteArray×(List (Int×(ByteArray×Int)))):(Unit)→Nat ⊕ (Unit)
 |_=>(bif(dZ y2 y3 y4 y5 y6 y7 b.2)then(.inl 0)else(.inr ()))
def dx(y2 y3:ByteArray)(y4 y5 y6:List ByteArray)(y7:List (ByteArray×(List (Int×(ByteArray×Int)))))(i:Nat):(Unit)→bX
 |_=>((i:Int),(↑y7.length:Int),y2,y3,y4,y5,y6,y7)
def sS:bX→Unit
 |(_,_,_,_,_,_,_,_)=>()
theorem NJ(y2 y3:ByteArray)(y4 y5 y6:List ByteArray)(y7:List (ByteArray×(List (Int×(ByteArray×Int))))) (hn:y7.length≤9223372036854775807) (hL: ∀ l∈y7,l.2.length≤1048576) (h4:leN y4.length 9223372036854775807=true) (h5:leN y5.length 9223372036854775807=true):
  aD.fin ((0:Int),(↑y7.length:Int),y2,y3,y4,y5,y6,y7)=true∧aD.res ((0:Int),(↑y7.length:Int),y2,y3,y4,y5,y6,y7)=((bc (gR y2 y3 y4 y5 y6 y7) 1 y7 0 ()).1,(dx y2 y3 y4 y5 y6 y7) (bc (gR y2 y3 y4 y5 y6 y7) 1 y7 0 ()).2.1 (bc (gR y2 y3 y4 y5 y6 y7) 1 y7 0 ()).2.2):=by
 have oi:=aD.along (dx y2 y3 y4 y5 y6 y7) sS (gR y2 y3 y4 y5 y6 y7) 1 (fun _ _=>True) y7 () (by trivial) (by simp only [aD,dx];omega) (fun i b a hb hI=> ?_) (fun a hI=> ?_)
 ·exact oi
 ·obtain⟨⟩:=a
  have gV:=(List.getElem?_eq_some_iff.1 hb).1
  have lH: ∀ d,Option.getD y7[i]? d=b:=fun d=>by rw [hb];rfl
  have hw:=yJ gV hn
  have fA:ltI (i:Int) (y7.length:Int)=true:=fv (by omega)
  have Gz:leI (0:Int) (i:Int)=true:=cM (by omega)
  have qn:ltN i y7.length=true:=gM gV
  refine⟨?_,?_,?_,?_⟩
  ·have hg2:du (i:Int) y7=b.2:=by simp only [du,Int.toNat_natCast];exact congrArg Prod.snd (lH _)
   have k4:kU (i:Int) y2 y3 y4 y5 y6 y7=true:=by simp only [kU,hg2];exact(ak7 y2 y3 y4 y5 y6 y7 b.2 (hL b (List.mem_of_getElem? hb)) h4 h5).2
   simp only [kT,pd,pe,pf,ku,aD,LT.nds,allT,dx,k4,fA,Gz,qn,Int.toNat_natCast,cond_true,Bool.and_self]
   cases kV (i:Int) y2 y3 y4 y5 y6 y7 <;> simp [LT.nds]
  ·simp [du,kT,pd,pe,pf,kU,kV,um,ku,aD,LT.each,dx,sS,hw]
  ·have hg2:du (i:Int) y7=b.2:=by simp only [du,Int.toNat_natCast];exact congrArg Prod.snd (lH _)
   simp only [kT,kV,ku,aD,LT.fn,dx,sS,gR,fA,hg2,cond_true]
  ·exact fun _ _=>trivial
 ·obtain⟨⟩:=a
  simp [du,kT,pd,pe,pf,kU,kV,um,ku,aD,LT.out,dx]
theorem arj(u v:ByteArray)(ins vs os:List ByteArray)(ls:List LN)(hN:ls.length≤1048576)(hL: ∀ l∈ls,l.2.length≤1048576)(h1:leN ins.length 9223372036854775807=true)(h2:leN vs.length 9223372036854775807=true):
  oV u v ls ins vs os= !ls.all (fun l=>l.2.all (usedB ins vs))∧oW u v ls ins vs os=true:=by
 obtain⟨w1,w2⟩:=NJ u v ins vs os ls (by omega) hL h1 h2
 rw [Yd (g:=fun(b:LN) (_:Unit)=>bif !b.2.all (usedB ins vs)then(.inl 0:Nat ⊕ Unit)else .inr ()) (fun b hb a=>by
  simp only [gR,(ak7 u v ins vs os ls b.2 (hL b hb) h1 h2).1]),kn (P:=fun b:LN=> !b.2.all (usedB ins vs)) (j:=0) (fun b=>rfl),Xu]at w2
 refine⟨?_,?_⟩
 ·simp only [oV,wD,lN,w2,dx]
  cases ls.all (fun l=>l.2.all (usedB ins vs)) <;> simp [Nat.beq,Qd.1,Qd.2]
 ·simp only [oW,wE,lN,w1,allT,cond_true]
theorem amA(nm:ByteArray)(ins vs os:List ByteArray)(g:ByteArray)(ls:List LN)(h:NR nm ins vs os g ls=true):
  (mT nm g ins vs os ls==0)=aph ins vs os g ls∧mU nm g ins vs os ls=true:=by
 obtain⟨h1,h2,h3,h4,h5,h6,h7⟩:=MH.1 h
 obtain⟨hn,hA⟩:=Qg.1 h7
 have hL: ∀ l∈ls,l.2.length≤1048576:=fun l hl=>(Qx.1 (hA l hl).2).1
 obtain⟨l1,l2,l3⟩:=anG h2 h3 h4
 obtain⟨w1,w2⟩:=II ls [] (by omega) hn rfl
 rw [Kf (f:=dm) (g:=fun a (l:LN)=>a++ [l.1]) (fun b a=>rfl),ann]at w2
 have a3:am ls=ls.map Prod.fst:=by
  simp only [am,mo,w2,cg,List.nil_append]
 have a4:ao vs os=vs++os:=by simp [ao]
 have n0:bd ins vs os=ins++vs++os:=by simp [bd,iN]
 have k1:leN (ls.map Prod.fst).length 9223372036854775807=true:=ci (by rw [List.length_map];omega)
 have k2:leN (vs++os).length 9223372036854775807=true:=ci (by rw [List.length_append];omega)
 obtain⟨s1,s2,s3,s4⟩:=arQ (ls.map Prod.fst) (vs++os) k1 k2
 obtain⟨v1,v2,v3,v4⟩:=arR (vs++os) (ls.map Prod.fst) k2 k1
 obtain⟨u1,u2⟩:=arj nm g ins vs os ls hn hL l1 l2
 have hnil:(g.toList==ByteArray.toList { data:= #[] })=(g.toList== []):=by rw [Qj]
 have hmade:((ls.map Prod.fst).any fun s=> !mH (vs++os) s)= !ls.all (fun l=>mH vs l.1||mH os l.1):=by
  rw [Xu,List.all_map]
  congr 2
  funext l
  simp only [Function.comp,aiF]
 have a5:mp vs os ls=(vs++os).any fun s=> !mH (ls.map Prod.fst) s:=by
  simp only [mp,a3,a4,s2,s3,v1]
 refine⟨?_,?_⟩
 ·simp only [mT,n0,eK,mn,hnil,a3,a4,s1,s2,u1,hmade,a5,aph,ZD]
  cases p1:tJ (ins++vs++os)with
  |true=>rfl
  |false=>
   cases p3:(ls.all fun l=>mH vs l.1||mH os l.1)with
   |false=>
    generalize (g.toList== [])=q1
    generalize mH ins g=q2
    generalize mH vs g=q3
    cases q1 <;> cases q2 <;> cases q3 <;> rfl
   |true=>
    cases p4:tJ (ls.map Prod.fst)with
    |true=>
     generalize (g.toList== [])=q1
     generalize mH ins g=q2
     generalize mH vs g=q3
     cases q1 <;> cases q2 <;> cases q3 <;> rfl
    |false=>
     rw [aqY p1 p3 p4]
     generalize (g.toList== [])=q1
     generalize mH ins g=q2
     generalize mH vs g=q3
     generalize leN (vs.length + os.length) ls.length=q4
     generalize (ls.all fun l=>l.2.all (usedB ins vs))=q5
     cases q1 <;> cases q2 <;> cases q3 <;> cases q4 <;> cases q5 <;> rfl
 ·have f1:Lp.fin ak (mo ls)=true:=w1
  have f2:(leN [vs,os].length 1000&&leN (Kb [vs,os]) 2000000)=true:=by
   rw [Bool.and_eq_true];exact⟨rfl,ci (by simp [Kb];omega)⟩
  have f3:mV ins vs os=true:=by
   have:(leN [ins,vs,os].length 1000&&leN (Kb [ins,vs,os]) 2000000)=true:=by
    rw [Bool.and_eq_true];exact⟨rfl,ci (by simp [Kb];omega)⟩
   simp only [mV,iN,this,allT,cond_true]
  have f4:leN (ins++vs++os).length 9223372036854775807=true:=ci (by simp;omega)
  simp only [mU,f1,f2,f3,n0,f4,a3,a4,s2,s3,s4,v2,v3,v4,u2,l1,l2,k1,k2,allT,Bool.or_true,cond_true]
def jH(nm:ByteArray)(ins vs os:List ByteArray)(g:ByteArray)(ls:List LN):Bool:=ahB nm ins vs os g ls&&aph ins vs os g ls
theorem amT(nm:ByteArray)(ins vs os:List ByteArray)(g:ByteArray)(ls:List LN)(h:NR nm ins vs os g ls=true):
  Wk nm g ins vs os ls=jH nm ins vs os g ls∧Wl nm g ins vs os ls=true:=by
 obtain⟨a1,a2⟩:=akU nm ins vs os g ls h
 obtain⟨b1,b2⟩:=amR nm ins vs os g ls h
 simp only [Wk,Wl,a1,a2,b1,b2,jH,allT,Bool.or_true,cond_true,and_true]
 cases ahB nm ins vs os g ls <;> rfl
theorem amB(nm:ByteArray)(ins vs os:List ByteArray)(g:ByteArray)(ls:List LN)(h:NR nm ins vs os g ls=true):
  VF nm g ins vs os ls=jH nm ins vs os g ls∧VG nm g ins vs os ls=true:=by
 obtain⟨a1,a2⟩:=aka nm ins vs os g ls h
 obtain⟨b1,b2⟩:=amA nm ins vs os g ls h
 simp only [VF,VG,a1,a2,b1,b2,jH,allT,Bool.or_true,cond_true,and_true]
 cases ahB nm ins vs os g ls <;> rfl
def acm:List SV→List Entry→Option Out
 | [.one ⟨true,[.val (.string x0),.ref 0,.ref 1,.ref 2,.val (.string x1),.ref 3]⟩],[.row false 9 (.str) x2,.row false 9 (.str) x3,.row false 9 (.str) x4,.row false 204 (.pair (.str) (.sl 178 (.pair (.int .i64) (.pair (.str) (.int .i64))))) x5]=>some ⟨.one ⟨false,[.val (.bool (jH x0 x2 x3 x4 x1 x5))]⟩,[.row false 9 alP x2,.row false 9 alP x3,.row false 9 alP x4,.row false 204 (CTy.pair CTy.str (CTy.sl (178:TypeId) acQ)) x5],[],[NR x0 x2 x3 x4 x1 x5]⟩
 |_,_=>none
def mK:PF prog:=PF.alt akA acm (by
 intro args es o h cD;unfold acm at h;split at h
 ·rename_i x0 x1 x2 x3 x4 x5
  cases h
  have cD:=ln cD
  have hh:=amT x0 x2 x3 x4 x1 x5 cD
  obtain⟨e0,en⟩:=hh
  exact qy rfl (kw en) (by simp only [e0] <;> rfl) rfl rfl
 ·cases h)
def aci:List SV→List Entry→Option Out
 | [.one ⟨true,[.val (.string x0),.ref 0,.ref 1,.ref 2,.val (.string x1),.ref 3]⟩],[.row false 9 (.str) x2,.row false 9 (.str) x3,.row false 9 (.str) x4,.row false 204 (.pair (.str) (.sl 178 (.pair (.int .i64) (.pair (.str) (.int .i64))))) x5]=>some ⟨.one ⟨false,[.val (.bool (jH x0 x2 x3 x4 x1 x5))]⟩,[.row false 9 alP x2,.row false 9 alP x3,.row false 9 alP x4,.row false 204 (CTy.pair CTy.str (CTy.sl (178:TypeId) acQ)) x5],[],[NR x0 x2 x3 x4 x1 x5]⟩
 |_,_=>none
def xZ:PF prog:=PF.alt akw aci (by
 intro args es o h cD;unfold aci at h;split at h
 ·rename_i x0 x1 x2 x3 x4 x5
  cases h
  have cD:=ln cD
  have hh:=amB x0 x2 x3 x4 x1 x5 cD
  obtain⟨e0,en⟩:=hh
  exact qy rfl (kw en) (by simp only [e0] <;> rfl) rfl rfl
 ·cases h)
def Tm(x0:List Int)(x1:List (Int×Int×Int)):Bool:=allT [leN x0.length (1048576:Nat),leN (0 + List.length x1) 9223372036854775807,leN ((0 + List.length x1) * 24) 140737488355328]
def aev:List SV→List Entry→Option Out
 | [.one ⟨true,[.ref 0,.ref 1]⟩],[.row false 2 (.int .i64) x0,.row false 172 (.pair (.int .i64) (.pair (.int .i64) (.int .i64))) x1]=>some ⟨.one ⟨true,[.ref 2,.ref 3]⟩,[.row false 2 ai3 x0,.row false 172 abM x1],[.row true 2 ai3 x0,.row true 172 abM x1],[Tm x0 x1]⟩
 |_,_=>none
def AE:PF prog:=PF.ofG prog (T3z [cj]) [] aV 179 f179 func179 (fun c _=>LOk.nil c) aev (by
 intro vs es r h;unfold aev at h;split at h
 ·cases h;kernel_rfl
 ·cases h)
def tO(x2:ByteArray)(x3 x4:List ByteArray)(x7 x9:List Int):Int:=bif leI 0 (gW x3 x2)then Option.getD x9[Int.toNat (gW x3 x2)]? 0 else Option.getD x7[Int.toNat (gW x4 x2)]? 0
def tP(x2:ByteArray)(x3 x4:List ByteArray)(x7 x9:List Int):Bool:=allT [leN x3.length (9223372036854775807:Nat),!leI 0 (gW x3 x2)||leI 0 (gW x3 x2),!leI 0 (gW x3 x2)||ltI (gW x3 x2) (↑x9.length:Int),!leI 0 (gW x3 x2)||ltN (Int.toNat (gW x3 x2)) x9.length,leI 0 (gW x3 x2)||leN x4.length (9223372036854775807:Nat),leI 0 (gW x3 x2)||leI 0 (gW x4 x2),leI 0 (gW x3 x2)||ltI (gW x4 x2) (↑x7.length:Int),leI 0 (gW x3 x2)||ltN (Int.toNat (gW x4 x2)) x7.length]
def aaW:List SV→List Entry→Option Out
 | [.one ⟨true,[.val (.string _x0),.ref 0,.ref 1,.ref 2,.val (.string _x1),.ref 3]⟩,.one ⟨true,[.ref 4,.ref 5]⟩,.one ⟨false,[.ref 6]⟩,.one ⟨false,[.val (.string x2)]⟩],[.row false 9 (.str) x3,.row false 9 (.str) x4,.row false 9 (.str) x5,.row false 204 (.pair (.str) (.sl 178 (.pair (.int .i64) (.pair (.str) (.int .i64))))) x6,.row false 2 (.int .i64) x7,.row false 172 (.pair (.int .i64) (.pair (.int .i64) (.int .i64))) x8,.row false 2 (.int .i64) x9]=>some ⟨.one ⟨false,[.val (.int .i64 (tO x2 x3 x4 x7 x9))]⟩,[.row false 9 alP x3,.row false 9 alP x4,.row false 9 alP x5,.row false 204 (CTy.pair CTy.str (CTy.sl (178:TypeId) acQ)) x6,.row false 2 ai3 x7,.row false 172 abM x8,.row false 2 ai3 x9],[],[tP x2 x3 x4 x7 x9]⟩
 |_,_=>none
def eq:PF prog:=PF.ofG prog (T3z [cE]) [] aV 181 f181 func181 (fun c _=>LOk.nil c) aaW (by
 intro vs es r h;unfold aaW at h;split at h
 ·cases h;kernel_rfl
 ·cases h)
abbrev vt:=Int×Int×List (Int×(ByteArray×Int))×List Int×ByteArray×ByteArray×List Int×List ByteArray×List ByteArray×List ByteArray×List (ByteArray×(List (Int×(ByteArray×Int))))×List Int×List (Int×(Int×Int))
section
variable (y0 y1:Int)(y2:List (Int×(ByteArray×Int)))(y3 y6:List Int)(y7 y8:List ByteArray)(y11:List Int)(y12:List (Int×(Int×Int)))
def eY:Int×ByteArray×Int:=Option.getD y2[Int.toNat y0]? ((0:Int),ByteArray.empty,(0:Int))
def JH:Int:=IntKind.wrap .i64 ((↑y3.length:Int) - jh ((eY y0 y2).1))
def jI:List Int:=List.drop (Int.toNat (JH y0 y2 y3)) (List.take (Int.toNat (↑y3.length:Int)) y3)
def JI:List Int:=List.drop (Int.toNat 0) (List.take (Int.toNat (JH y0 y2 y3)) y3)
def aX:Bool:=(eY y0 y2).1==1
def cw:Bool:=(eY y0 y2).1==2
def cz:Bool:=(eY y0 y2).1==3
def cA:Bool:=(eY y0 y2).1==4
def PJ:Bool:=ltI 0 (↑(List.length (jI y0 y2 y3)):Int)
def PK:Bool:=ltN (Int.toNat 0) (List.length (jI y0 y2 y3))
def cY:Bool:=(eY y0 y2).1==5
def UW:Bool:=ltI 1 (↑(List.length (jI y0 y2 y3)):Int)
def UX:Bool:=ltN (Int.toNat 1) (List.length (jI y0 y2 y3))
def iK:Bool:=(eY y0 y2).1==6
def Ol:Int:=Option.getD (jI y0 y2 y3)[Int.toNat 0]? 0
def nG:Int×Int×Int:=Option.getD y12[Int.toNat y1]? ((0:Int),(0:Int),(0:Int))
def Om:List Int:= [bif aX y0 y2 then tO (((eY y0 y2).2).1) y7 y8 y11 y6 else bif cw y0 y2 then(1:Int)else bif cz y0 y2 then(0:Int)else bif cA y0 y2 then IntKind.wrap .i64 ((1:Int) - Ol y0 y2 y3)else bif cY y0 y2 then IntKind.wrap .i64 (↑(BitVec.toNat (BitVec.ofInt (IntKind.bits IntKind.i64) (Ol y0 y2 y3)&&& BitVec.ofInt (IntKind.bits IntKind.i64) (Option.getD (jI y0 y2 y3)[Int.toNat 1]? 0))):Int)else bif iK y0 y2 then IntKind.wrap .i64 (↑(BitVec.toNat (BitVec.ofInt (IntKind.bits IntKind.i64) (Ol y0 y2 y3)||| BitVec.ofInt (IntKind.bits IntKind.i64) (Option.getD (jI y0 y2 y3)[Int.toNat 1]? 0))):Int)else iI ((eY y0 y2).1) ((eY y0 y2).2.2) ((nG y1 y12).1) (((nG y1 y12).2).1) ((nG y1 y12).2.2) (jI y0 y2 y3)]
def XZ:Bool:=ltI y0 (↑y2.length:Int)
def ahp:Bool:=leI 0 y0
def ahq:Bool:=ltN y0.toNat y2.length
def Ya:Bool:=leI 0 (JH y0 y2 y3)
def Yb:Bool:=leI (JH y0 y2 y3) (↑y3.length:Int)
def ahr:Bool:=leI (↑y3.length:Int) (↑y3.length:Int)
def ahs:Bool:=leN (List.length (jI y0 y2 y3)) 1048576
end
def aht:Bool:=leI 0 0
section
variable (y0 y1:Int)(y2:List (Int×(ByteArray×Int)))(y3 y6:List Int)(y7 y8 y9:List ByteArray)(y11:List Int)(y12:List (Int×(Int×Int)))
def ahu:Bool:=leN (List.length (JI y0 y2 y3)) 1048576
def ahv:Bool:= !aX y0 y2||tP (((eY y0 y2).2).1) y7 y8 y11 y6
def afR:Bool:=aX y0 y2||(cw y0 y2||(cz y0 y2||(!cA y0 y2||leI 0 0)))
def afS:Bool:=aX y0 y2||(cw y0 y2||(cz y0 y2||(!cA y0 y2||PJ y0 y2 y3)))
def afT:Bool:=aX y0 y2||(cw y0 y2||(cz y0 y2||(!cA y0 y2||PK y0 y2 y3)))
def afU:Bool:=aX y0 y2||(cw y0 y2||(cz y0 y2||(cA y0 y2||(!cY y0 y2||leI 0 0))))
def afV:Bool:=aX y0 y2||(cw y0 y2||(cz y0 y2||(cA y0 y2||(!cY y0 y2||PJ y0 y2 y3))))
def afW:Bool:=aX y0 y2||(cw y0 y2||(cz y0 y2||(cA y0 y2||(!cY y0 y2||PK y0 y2 y3))))
def afX:Bool:=aX y0 y2||(cw y0 y2||(cz y0 y2||(cA y0 y2||(!cY y0 y2||leI 0 1))))
def afY:Bool:=aX y0 y2||(cw y0 y2||(cz y0 y2||(cA y0 y2||(!cY y0 y2||UW y0 y2 y3))))
def afZ:Bool:=aX y0 y2||(cw y0 y2||(cz y0 y2||(cA y0 y2||(!cY y0 y2||UX y0 y2 y3))))
def af0:Bool:=aX y0 y2||(cw y0 y2||(cz y0 y2||(cA y0 y2||(cY y0 y2||(!iK y0 y2||leI 0 0)))))
def af1:Bool:=aX y0 y2||(cw y0 y2||(cz y0 y2||(cA y0 y2||(cY y0 y2||(!iK y0 y2||PJ y0 y2 y3)))))
def af2:Bool:=aX y0 y2||(cw y0 y2||(cz y0 y2||(cA y0 y2||(cY y0 y2||(!iK y0 y2||PK y0 y2 y3)))))
def af3:Bool:=aX y0 y2||(cw y0 y2||(cz y0 y2||(cA y0 y2||(cY y0 y2||(!iK y0 y2||leI 0 1)))))
def af4:Bool:=aX y0 y2||(cw y0 y2||(cz y0 y2||(cA y0 y2||(cY y0 y2||(!iK y0 y2||UW y0 y2 y3)))))
def af5:Bool:=aX y0 y2||(cw y0 y2||(cz y0 y2||(cA y0 y2||(cY y0 y2||(!iK y0 y2||UX y0 y2 y3)))))
def WN:Bool:=aX y0 y2||(cw y0 y2||(cz y0 y2||(cA y0 y2||(cY y0 y2||(iK y0 y2||leI 0 y1)))))
def WO:Bool:=aX y0 y2||(cw y0 y2||(cz y0 y2||(cA y0 y2||(cY y0 y2||(iK y0 y2||ltI y1 (↑y12.length:Int))))))
def WP:Bool:=aX y0 y2||(cw y0 y2||(cz y0 y2||(cA y0 y2||(cY y0 y2||(iK y0 y2||ltN y1.toNat y12.length)))))
def af6:Bool:=aX y0 y2||(cw y0 y2||(cz y0 y2||(cA y0 y2||(cY y0 y2||(iK y0 y2||lE (jI y0 y2 y3))))))
def af7:Bool:=leN (List.length (JI y0 y2 y3) + List.length (Om y0 y1 y2 y3 y6 y7 y8 y11 y12)) 9223372036854775807
def af8:Bool:=leN ((List.length (JI y0 y2 y3) + List.length (Om y0 y1 y2 y3 y6 y7 y8 y11 y12)) * 8) 140737488355328
def af9:Int:=IntKind.wrap .i64 (y0 + (1:Int))
def aga:Int:=bif aX y0 y2 then y1 else bif cw y0 y2 then y1 else bif cz y0 y2 then y1 else bif cA y0 y2 then y1 else bif cY y0 y2 then y1 else bif iK y0 y2 then y1 else IntKind.wrap .i64 (y1 + (1:Int))
def agb:List Int:=JI y0 y2 y3++Om y0 y1 y2 y3 y6 y7 y8 y11 y12
def agc:List Int:=bif aX y0 y2 then y6 else y6
def agd:List ByteArray:=bif aX y0 y2 then y7 else y7
def age:List ByteArray:=bif aX y0 y2 then y8 else y8
def agf:List ByteArray:=bif aX y0 y2 then y9 else y9
end
def agh(y0:Int)(y2:List (Int×(ByteArray×Int)))(y10:List (ByteArray×(List (Int×(ByteArray×Int))))):List (ByteArray×(List (Int×(ByteArray×Int)))):=bif aX y0 y2 then y10 else y10
def agi(y0:Int)(y2:List (Int×(ByteArray×Int)))(y11:List Int):List Int:=bif aX y0 y2 then y11 else y11
def agj(y0 y1:Int)(y2:List (Int×(ByteArray×Int)))(y3:List Int)(y12:List (Int×(Int×Int))):List (Int×(Int×Int)):=bif aX y0 y2 then y12 else bif cw y0 y2 then y12 else bif cz y0 y2 then y12 else bif cA y0 y2 then y12 else bif cY y0 y2 then y12 else bif iK y0 y2 then y12 else List.set y12 y1.toNat (jz ((eY y0 y2).1) ((eY y0 y2).2.2) ((nG y1 y12).1) (((nG y1 y12).2).1) ((nG y1 y12).2.2) (jI y0 y2 y3),jA ((eY y0 y2).1) (((nG y1 y12).2).1) ((nG y1 y12).2.2) (jI y0 y2 y3),jB ((eY y0 y2).1) ((eY y0 y2).2.2) ((nG y1 y12).1) ((nG y1 y12).2.2) (jI y0 y2 y3))
def ae2:vt→List (Nat×SV)
 |(y0,y1,_,_,_,_,_,_,_,_,_,_,_)=> [(12,(.one ⟨false,[.val (.int .i64 y0)]⟩)),(3,(.one ⟨false,[.ref 0]⟩)),(11,(.one ⟨false,[.ref 1]⟩)),(5,(.one ⟨false,[.ptr 2 0]⟩)),(6,(.one ⟨false,[.ptr 3 0]⟩)),(2,(.one ⟨false,[.ref 4]⟩)),(4,(.one ⟨false,[.val (.int .i64 y1)]⟩))]
def aeW:vt→List (Nat×Entry)
 |(_,_,y2,y3,y4,y5,y6,y7,y8,y9,y10,y11,y12)=> [(0,(.row true 178 acQ y2)),(2,(.box 63 [.val (.string y4),.ref 5,.ref 6,.ref 7,.val (.string y5),.ref 8])),(3,(.box 48 [.ref 9,.ref 10])),(4,(.row true 2 ai3 y6)),(5,(.row true 9 alP y7)),(6,(.row true 9 alP y8)),(7,(.row true 9 alP y9)),(8,(.row true 204 aas y10)),(9,(.row true 2 ai3 y11)),(10,(.row true 172 abM y12)),(1,(.row true 2 ai3 y3))]
def afe:Nat→vt→List (Nat×SV)
 |_,(_,_,_,_,_,_,_,_,_,_,_,_,_)=> [(11,(.one ⟨false,[.ref 1]⟩))]
def ae8:Nat→vt→List (Nat×Entry)
 |_,(_,_,y2,y3,y4,y5,y6,y7,y8,y9,y10,y11,y12)=> [(0,(.row true 178 acQ y2)),(1,(.row true 2 ai3 y3)),(2,(.box 63 [.val (.string y4),.ref 5,.ref 6,.ref 7,.val (.string y5),.ref 8])),(3,(.box 48 [.ref 9,.ref 10])),(4,(.row true 2 ai3 y6)),(5,(.row true 9 alP y7)),(6,(.row true 9 alP y8)),(7,(.row true 9 alP y9)),(8,(.row true 204 aas y10)),(9,(.row true 2 ai3 y11)),(10,(.row true 172 abM y12))]
def afy:vt→LT vt
 |(y0,y1,y2,y3,y4,y5,y6,y7,y8,y9,y10,y11,y12)=> .ite (XZ y0 y2) (.need [ahp y0,XZ y0 y2,ahq y0 y2] (.need [Ya y0 y2 y3,Yb y0 y2 y3,ahr y3,ahs y0 y2 y3] (.need [aht,Ya y0 y2 y3,Yb y0 y2 y3,ahu y0 y2 y3] (.need [ahv y0 y2 y6 y7 y8 y11,afR y0 y2,afS y0 y2 y3,afT y0 y2 y3,afU y0 y2,afV y0 y2 y3,afW y0 y2 y3,afX y0 y2,afY y0 y2 y3,afZ y0 y2 y3,af0 y0 y2,af1 y0 y2 y3,af2 y0 y2 y3,af3 y0 y2,af4 y0 y2 y3,af5 y0 y2 y3,WN y0 y1 y2,WO y0 y1 y2 y12,WP y0 y1 y2 y12,af6 y0 y2 y3,WN y0 y1 y2,WO y0 y1 y2 y12,WP y0 y1 y2 y12] (.need [af7 y0 y1 y2 y3 y6 y7 y8 y11 y12,af8 y0 y1 y2 y3 y6 y7 y8 y11 y12] (.nrm ((af9 y0),aga y0 y1 y2,y2,agb y0 y1 y2 y3 y6 y7 y8 y11 y12,y4,y5,agc y0 y2 y6,agd y0 y2 y7,age y0 y2 y8,agf y0 y2 y9,agh y0 y2 y10,agi y0 y2 y11,(agj y0 y1 y2 y3 y12)) [(0,0),(1,4544),(2,2),(3,3),(4,4),(5,5),(6,6),(7,7),(8,8),(9,9),(10,10)])))))) (.ext 0 [(0,0),(1,1),(2,2),(3,3),(4,4),(5,5),(6,6),(7,7),(8,8),(9,9),(10,10)])
def Px(s:St):Option vt:=
 (match s.look 12 with
 |some ⟨none,.one ⟨false,[.val (.int .i64 y0)]⟩⟩=>
 (match s.look 3 with
 |some ⟨none,.one ⟨false,[.ref 7]⟩⟩=>
 (match s.look 11 with
 |some ⟨none,.one ⟨false,[.ref 768]⟩⟩=>
 (match s.look 5 with
 |some ⟨none,.one ⟨false,[.ptr 576 0]⟩⟩=>
 (match s.look 6 with
 |some ⟨none,.one ⟨false,[.ptr 640 0]⟩⟩=>
 (match s.look 2 with
 |some ⟨none,.one ⟨false,[.ref 6]⟩⟩=>
 (match s.look 4 with
 |some ⟨none,.one ⟨false,[.val (.int .i64 y1)]⟩⟩=>
 (match s.ent 7 with
 |some (.row true 178 (.pair (.int .i64) (.pair .str (.int .i64))) y2)=>
 (match s.ent 576 with
 |some (.box 63 [.val (.string y4),.ref 0,.ref 1,.ref 2,.val (.string y5),.ref 3])=>
 (match s.ent 640 with
 |some (.box 48 [.ref 4,.ref 5])=>
 (match s.ent 6 with
 |some (.row true 2 (.int .i64) y6)=>
 (match s.ent 0 with
 |some (.row true 9 (.str) y7)=>
 (match s.ent 1 with
 |some (.row true 9 (.str) y8)=>
 (match s.ent 2 with
 |some (.row true 9 (.str) y9)=>
 (match s.ent 3 with
 |some (.row true 204 (.pair .str (.sl 178 (.pair (.int .i64) (.pair .str (.int .i64))))) y10)=>
 (match s.ent 4 with
 |some (.row true 2 (.int .i64) y11)=>
 (match s.ent 5 with
 |some (.row true 172 (.pair (.int .i64) (.pair (.int .i64) (.int .i64))) y12)=>
 (match s.ent 768 with
 |some (.row true 2 (.int .i64) y3)=>
 some (y0,y1,y2,y3,y4,y5,y6,y7,y8,y9,y10,y11,y12)
 |_=>none)
 |_=>none)
 |_=>none)
 |_=>none)
 |_=>none)
 |_=>none)
 |_=>none)
 |_=>none)
 |_=>none)
 |_=>none)
 |_=>none)
 |_=>none)
 |_=>none)
 |_=>none)
 |_=>none)
 |_=>none)
 |_=>none)
 |_=>none)
def DG:Lp vt where
 h:=⟨[20,21,22,23,26,27,28,29,13,30,31,32,33,34,35,14,36,37,38,39,15,40,41,42,43,11,16,44,45,66,65,67,68,69,70,71,72,74,73,76,75,78,77,79,80,81,82,84,83,85,86,87,88,89,90,91,93,92,94,95,96,97,98,99,100,47,48,49,50,51,52,53,54,46,55,56,18,17,57,58,59,60,61,62,63,64,4,101,102,103,104,24,25,12],[0,2,3,4,5,6,7,8,9,10],[1],[]⟩
 JL:=ae2
 JE:=aeW
 XL:=afe
 XE:=ae8
 q:=fun j=>match j with | _=> .exit 0
 tags:= [0]
 lt:=afy
 fuel:=fun(y0,y1,y2,y3,y4,y5,y6,y7,y8,y9,y10,y11,y12)=>y0.natAbs + y1.natAbs + y2.length + y3.length + y4.size + y5.size + y6.length + y7.length + y8.length + y9.length + y10.length + y11.length + y12.length
 fix:=fun(_,_,y2,_,y4,y5,_,_,_,_,_,_,_) (y0,y1,_,y3,_,_,y6,y7,y8,y9,y10,y11,y12)=>(y0,y1,y2,y3,y4,y5,y6,y7,y8,y9,y10,y11,y12)
 σ:= [(0,7),(2,576),(3,640),(4,6),(5,0),(6,1),(7,2),(8,3),(9,4),(10,5),(1,768)]
 rd:=Px
theorem acZ:LoopOk prog (fun k=>Nat.blt k Tryz.f180.ntmps) DG.F (aY f180 0):=by
 refine Lp.ok (tbl:= (PF.mark prog::T3z [cj,eq,rk,tN])) (lf:= []) aV DG (by kernel_rfl) (LOk.nil _) (fun _=>rfl) (fun _ _=>rfl) ?_ ?_ ?_ ?_ (fun _=>rfl) ?_
 ·rintro⟨y0,y1,y2,y3,y4,y5,y6,y7,y8,y9,y10,y11,y12⟩;kernel_rfl
 ·rintro⟨y0,y1,y2,y3,y4,y5,y6,y7,y8,y9,y10,y11,y12⟩;kernel_rfl
 ·intro s x h
  have h:Px s=some x:=h
  unfold Px at h
  repeat' split at h
  all_goals cases h
  constructor<;>repeat(first|refine ab (by assumption) rfl ?_|refine aa rfl (by assumption) rfl ?_|exact rfl)
 ·rintro⟨y0,y1,y2,y3,y4,y5,y6,y7,y8,y9,y10,y11,y12⟩;kernel_rfl
 ·rintro⟨y0,y1,y2,y3,y4,y5,y6,y7,y8,y9,y10,y11,y12⟩ z;exact(And.intro rfl trivial)
section
variable (x0 x1:ByteArray)(x2:Int)(x3 x4 x5:List ByteArray)(x6:List (ByteArray×List (Int×ByteArray×Int)))(x7:List Int)(x8:List (Int×Int×Int))(x9:List Int)(x10:List (Int×ByteArray×Int))
def aba:Int×Int×List (Int×ByteArray×Int)×List Int×ByteArray×ByteArray×List Int×List ByteArray×List ByteArray×List ByteArray×List (ByteArray×List (Int×ByteArray×Int))×List Int×List (Int×Int×Int):=((0:Int),x2,x10,[],x0,x1,x9,x3,x4,x5,x6,x7,x8)
def abb:List Int×ByteArray×ByteArray×List Int×List ByteArray×List ByteArray×List ByteArray×List (ByteArray×List (Int×ByteArray×Int))×List Int×List (Int×Int×Int):=(Lp.res DG (aba x0 x1 x2 x3 x4 x5 x6 x7 x8 x9 x10)).2.2.2.2
def UM:List Int:=(abb x0 x1 x2 x3 x4 x5 x6 x7 x8 x9 x10).1
def abc:List Int×List ByteArray×List ByteArray×List ByteArray×List (ByteArray×List (Int×ByteArray×Int))×List Int×List (Int×Int×Int):=(abb x0 x1 x2 x3 x4 x5 x6 x7 x8 x9 x10).2.2.2
def abd:List ByteArray×List ByteArray×List ByteArray×List (ByteArray×List (Int×ByteArray×Int))×List Int×List (Int×Int×Int):=(abc x0 x1 x2 x3 x4 x5 x6 x7 x8 x9 x10).2
def abe:List ByteArray×List ByteArray×List (ByteArray×List (Int×ByteArray×Int))×List Int×List (Int×Int×Int):=(abd x0 x1 x2 x3 x4 x5 x6 x7 x8 x9 x10).2
def abf:List ByteArray×List (ByteArray×List (Int×ByteArray×Int))×List Int×List (Int×Int×Int):=(abe x0 x1 x2 x3 x4 x5 x6 x7 x8 x9 x10).2
def abg:List (ByteArray×List (Int×ByteArray×Int))×List Int×List (Int×Int×Int):=(abf x0 x1 x2 x3 x4 x5 x6 x7 x8 x9 x10).2
def abh:List Int×List (Int×Int×Int):=(abg x0 x1 x2 x3 x4 x5 x6 x7 x8 x9 x10).2
def akV:Int:=Option.getD (UM x0 x1 x2 x3 x4 x5 x6 x7 x8 x9 x10)[Int.toNat 0]? 0
def akW:List ByteArray:=(abd x0 x1 x2 x3 x4 x5 x6 x7 x8 x9 x10).1
def akX:List ByteArray:=(abe x0 x1 x2 x3 x4 x5 x6 x7 x8 x9 x10).1
def akY:List ByteArray:=(abf x0 x1 x2 x3 x4 x5 x6 x7 x8 x9 x10).1
def akZ:List (ByteArray×(List (Int×(ByteArray×Int)))):=(abg x0 x1 x2 x3 x4 x5 x6 x7 x8 x9 x10).1
def ak0:List Int:=(abh x0 x1 x2 x3 x4 x5 x6 x7 x8 x9 x10).1
def ak1:List (Int×(Int×Int)):=(abh x0 x1 x2 x3 x4 x5 x6 x7 x8 x9 x10).2
def ak2:List Int:=(abc x0 x1 x2 x3 x4 x5 x6 x7 x8 x9 x10).1
def ak3:Bool:=allT [Lp.fin DG (aba x0 x1 x2 x3 x4 x5 x6 x7 x8 x9 x10),ltI 0 (↑(List.length (UM x0 x1 x2 x3 x4 x5 x6 x7 x8 x9 x10)):Int),ltN (Int.toNat 0) (List.length (UM x0 x1 x2 x3 x4 x5 x6 x7 x8 x9 x10))]
end
def ab8:List SV→List Entry→Option Out
 | [.one ⟨true,[.val (.string x0),.ref 0,.ref 1,.ref 2,.val (.string x1),.ref 3]⟩,.one ⟨true,[.ref 4,.ref 5]⟩,.one ⟨false,[.ref 6]⟩,.one ⟨false,[.ref 7]⟩,.one ⟨false,[.val (.int .i64 x2)]⟩],[.row true 9 (.str) x3,.row true 9 (.str) x4,.row true 9 (.str) x5,.row true 204 (.pair (.str) (.sl 178 (.pair (.int .i64) (.pair (.str) (.int .i64))))) x6,.row true 2 (.int .i64) x7,.row true 172 (.pair (.int .i64) (.pair (.int .i64) (.int .i64))) x8,.row true 2 (.int .i64) x9,.row true 178 (.pair (.int .i64) (.pair (.str) (.int .i64))) x10]=>some ⟨.one ⟨false,[.val (.int .i64 (akV x0 x1 x2 x3 x4 x5 x6 x7 x8 x9 x10))]⟩,[.row true 9 alP (akW x0 x1 x2 x3 x4 x5 x6 x7 x8 x9 x10),.row true 9 alP (akX x0 x1 x2 x3 x4 x5 x6 x7 x8 x9 x10),.row true 9 alP (akY x0 x1 x2 x3 x4 x5 x6 x7 x8 x9 x10),.row true 204 aas (akZ x0 x1 x2 x3 x4 x5 x6 x7 x8 x9 x10),.row true 2 ai3 (ak0 x0 x1 x2 x3 x4 x5 x6 x7 x8 x9 x10),.row true 172 abM (ak1 x0 x1 x2 x3 x4 x5 x6 x7 x8 x9 x10),.row true 2 ai3 (ak2 x0 x1 x2 x3 x4 x5 x6 x7 x8 x9 x10),.row true 178 acQ x10],[],[ak3 x0 x1 x2 x3 x4 x5 x6 x7 x8 x9 x10]⟩
 |_,_=>none
def yg:PF prog:=PF.ofG prog (PF.mark prog::T3z [cj,eq,rk,tN]) [DG.F] aV 180 f180 func180 (LOk.fnT (l:= [aY f180 0]) (by kernel_rfl) (.cons acZ (.nil _))) ab8 (by
 intro vs es r h;unfold ab8 at h;split at h
 ·cases h;kernel_rfl
 ·cases h)
abbrev nq:=Int×Int×List (Int×(ByteArray×Int))×List Int×ByteArray×ByteArray×List Int×List ByteArray×List ByteArray×List ByteArray×List (ByteArray×(List (Int×(ByteArray×Int))))×List Int×List (Int×(Int×Int))
section
variable (y0 y1:Int)(y2:List (Int×(ByteArray×Int)))(y3 y6:List Int)(y7 y8:List ByteArray)(y11:List Int)(y12:List (Int×(Int×Int)))
def bC:Int×ByteArray×Int:=Option.getD y2[Int.toNat y0]? ((0:Int),ByteArray.empty,(0:Int))
def rF:Int:=IntKind.wrap .i64 ((↑y3.length:Int) - jh ((bC y0 y2).1))
def cO:List Int:=List.drop (Int.toNat (rF y0 y2 y3)) (List.take (Int.toNat (↑y3.length:Int)) y3)
def rG:List Int:=List.drop (Int.toNat 0) (List.take (Int.toNat (rF y0 y2 y3)) y3)
def ay:Bool:=(bC y0 y2).1==1
def aJ:Bool:=(bC y0 y2).1==2
def aK:Bool:=(bC y0 y2).1==3
def aL:Bool:=(bC y0 y2).1==4
def kj:Bool:=ltI 0 (↑(List.length (cO y0 y2 y3)):Int)
def km:Bool:=ltN (Int.toNat 0) (List.length (cO y0 y2 y3))
def aR:Bool:=(bC y0 y2).1==5
def qI:Bool:=ltI 1 (↑(List.length (cO y0 y2 y3)):Int)
def qJ:Bool:=ltN (Int.toNat 1) (List.length (cO y0 y2 y3))
def cB:Bool:=(bC y0 y2).1==6
def uV:Int:=Option.getD (cO y0 y2 y3)[Int.toNat 0]? 0
def ed:Int×Int×Int:=Option.getD y12[Int.toNat y1]? ((0:Int),(0:Int),(0:Int))
def bp:List Int:= [bif ay y0 y2 then tO (((bC y0 y2).2).1) y7 y8 y11 y6 else bif aJ y0 y2 then(1:Int)else bif aK y0 y2 then(0:Int)else bif aL y0 y2 then IntKind.wrap .i64 ((1:Int) - uV y0 y2 y3)else bif aR y0 y2 then IntKind.wrap .i64 (↑(BitVec.toNat (BitVec.ofInt (IntKind.bits IntKind.i64) (uV y0 y2 y3)&&& BitVec.ofInt (IntKind.bits IntKind.i64) (Option.getD (cO y0 y2 y3)[Int.toNat 1]? 0))):Int)else bif cB y0 y2 then IntKind.wrap .i64 (↑(BitVec.toNat (BitVec.ofInt (IntKind.bits IntKind.i64) (uV y0 y2 y3)||| BitVec.ofInt (IntKind.bits IntKind.i64) (Option.getD (cO y0 y2 y3)[Int.toNat 1]? 0))):Int)else iI ((bC y0 y2).1) ((bC y0 y2).2.2) ((ed y1 y12).1) (((ed y1 y12).2).1) ((ed y1 y12).2.2) (cO y0 y2 y3)]
def eT:Bool:=ltI y0 (↑y2.length:Int)
def nt:Bool:=leI 0 y0
def nu:Bool:=ltN y0.toNat y2.length
def lb:Bool:=leI 0 (rF y0 y2 y3)
def lc:Bool:=leI (rF y0 y2 y3) (↑y3.length:Int)
def nv:Bool:=leI (↑y3.length:Int) (↑y3.length:Int)
def nx:Bool:=leN (List.length (cO y0 y2 y3)) 1048576
end
def ny:Bool:=leI 0 0
section
variable (y0 y1:Int)(y2:List (Int×(ByteArray×Int)))(y3 y6:List Int)(y7 y8:List ByteArray)(y11:List Int)(y12:List (Int×(Int×Int)))
def nz:Bool:=leN (List.length (rG y0 y2 y3)) 1048576
def nA:Bool:= !ay y0 y2||tP (((bC y0 y2).2).1) y7 y8 y11 y6
def lQ:Bool:=ay y0 y2||(aJ y0 y2||(aK y0 y2||(!aL y0 y2||leI 0 0)))
def lR:Bool:=ay y0 y2||(aJ y0 y2||(aK y0 y2||(!aL y0 y2||kj y0 y2 y3)))
def lS:Bool:=ay y0 y2||(aJ y0 y2||(aK y0 y2||(!aL y0 y2||km y0 y2 y3)))
def lT:Bool:=ay y0 y2||(aJ y0 y2||(aK y0 y2||(aL y0 y2||(!aR y0 y2||leI 0 0))))
def lU:Bool:=ay y0 y2||(aJ y0 y2||(aK y0 y2||(aL y0 y2||(!aR y0 y2||kj y0 y2 y3))))
def lW:Bool:=ay y0 y2||(aJ y0 y2||(aK y0 y2||(aL y0 y2||(!aR y0 y2||km y0 y2 y3))))
def lX:Bool:=ay y0 y2||(aJ y0 y2||(aK y0 y2||(aL y0 y2||(!aR y0 y2||leI 0 1))))
def lY:Bool:=ay y0 y2||(aJ y0 y2||(aK y0 y2||(aL y0 y2||(!aR y0 y2||qI y0 y2 y3))))
def lZ:Bool:=ay y0 y2||(aJ y0 y2||(aK y0 y2||(aL y0 y2||(!aR y0 y2||qJ y0 y2 y3))))
def ma:Bool:=ay y0 y2||(aJ y0 y2||(aK y0 y2||(aL y0 y2||(aR y0 y2||(!cB y0 y2||leI 0 0)))))
def mb:Bool:=ay y0 y2||(aJ y0 y2||(aK y0 y2||(aL y0 y2||(aR y0 y2||(!cB y0 y2||kj y0 y2 y3)))))
def mc:Bool:=ay y0 y2||(aJ y0 y2||(aK y0 y2||(aL y0 y2||(aR y0 y2||(!cB y0 y2||km y0 y2 y3)))))
def md:Bool:=ay y0 y2||(aJ y0 y2||(aK y0 y2||(aL y0 y2||(aR y0 y2||(!cB y0 y2||leI 0 1)))))
def me:Bool:=ay y0 y2||(aJ y0 y2||(aK y0 y2||(aL y0 y2||(aR y0 y2||(!cB y0 y2||qI y0 y2 y3)))))
def mf:Bool:=ay y0 y2||(aJ y0 y2||(aK y0 y2||(aL y0 y2||(aR y0 y2||(!cB y0 y2||qJ y0 y2 y3)))))
def kb:Bool:=ay y0 y2||(aJ y0 y2||(aK y0 y2||(aL y0 y2||(aR y0 y2||(cB y0 y2||leI 0 y1)))))
def ke:Bool:=ay y0 y2||(aJ y0 y2||(aK y0 y2||(aL y0 y2||(aR y0 y2||(cB y0 y2||ltI y1 (↑y12.length:Int))))))
def kf:Bool:=ay y0 y2||(aJ y0 y2||(aK y0 y2||(aL y0 y2||(aR y0 y2||(cB y0 y2||ltN y1.toNat y12.length)))))
def mg:Bool:=ay y0 y2||(aJ y0 y2||(aK y0 y2||(aL y0 y2||(aR y0 y2||(cB y0 y2||lE (cO y0 y2 y3))))))
def mh:Bool:=leN (List.length (rG y0 y2 y3) + List.length (bp y0 y1 y2 y3 y6 y7 y8 y11 y12)) 9223372036854775807
def mi:Bool:=leN ((List.length (rG y0 y2 y3) + List.length (bp y0 y1 y2 y3 y6 y7 y8 y11 y12)) * 8) 140737488355328
def kg:Int:=IntKind.wrap .i64 (y0 + (1:Int))
def ck:Int:=bif ay y0 y2 then y1 else bif aJ y0 y2 then y1 else bif aK y0 y2 then y1 else bif aL y0 y2 then y1 else bif aR y0 y2 then y1 else bif cB y0 y2 then y1 else IntKind.wrap .i64 (y1 + (1:Int))
def kh:List Int:=rG y0 y2 y3++bp y0 y1 y2 y3 y6 y7 y8 y11 y12
def ki:List Int:=bif ay y0 y2 then y11 else y11
def cm:List (Int×(Int×Int)):=bif ay y0 y2 then y12 else bif aJ y0 y2 then y12 else bif aK y0 y2 then y12 else bif aL y0 y2 then y12 else bif aR y0 y2 then y12 else bif cB y0 y2 then y12 else List.set y12 y1.toNat (jz ((bC y0 y2).1) ((bC y0 y2).2.2) ((ed y1 y12).1) (((ed y1 y12).2).1) ((ed y1 y12).2.2) (cO y0 y2 y3),jA ((bC y0 y2).1) (((ed y1 y12).2).1) ((ed y1 y12).2.2) (cO y0 y2 y3),jB ((bC y0 y2).1) ((bC y0 y2).2.2) ((ed y1 y12).1) ((ed y1 y12).2.2) (cO y0 y2 y3))
end
def Yj:nq→List (Nat×SV)
 |(y0,y1,_,_,_,_,_,_,_,_,_,_,_)=> [(12,(.one ⟨false,[.val (.int .i64 y0)]⟩)),(3,(.one ⟨false,[.ref 0]⟩)),(11,(.one ⟨false,[.ref 1]⟩)),(5,(.one ⟨false,[.ptr 2 0]⟩)),(6,(.one ⟨false,[.ptr 3 0]⟩)),(2,(.one ⟨false,[.ref 4]⟩)),(4,(.one ⟨false,[.val (.int .i64 y1)]⟩))]
def Yg:nq→List (Nat×Entry)
 |(_,_,y2,y3,y4,y5,y6,y7,y8,y9,y10,y11,y12)=> [(0,(.row false 178 acQ y2)),(2,(.box 63 [.val (.string y4),.ref 5,.ref 6,.ref 7,.val (.string y5),.ref 8])),(3,(.box 48 [.ref 9,.ref 10])),(4,(.row false 2 ai3 y6)),(5,(.row false 9 alP y7)),(6,(.row false 9 alP y8)),(7,(.row false 9 alP y9)),(8,(.row false 204 aas y10)),(9,(.row true 2 ai3 y11)),(10,(.row true 172 abM y12)),(1,(.row true 2 ai3 y3))]
def Yp:Nat→nq→List (Nat×SV)
 |_,(_,_,_,_,_,_,_,_,_,_,_,_,_)=> [(11,(.one ⟨false,[.ref 1]⟩))]
def Ym:Nat→nq→List (Nat×Entry)
 |_,(_,_,y2,y3,y4,y5,y6,y7,y8,y9,y10,y11,y12)=> [(0,(.row false 178 acQ y2)),(1,(.row true 2 ai3 y3)),(2,(.box 63 [.val (.string y4),.ref 5,.ref 6,.ref 7,.val (.string y5),.ref 8])),(3,(.box 48 [.ref 9,.ref 10])),(4,(.row false 2 ai3 y6)),(5,(.row false 9 alP y7)),(6,(.row false 9 alP y8)),(7,(.row false 9 alP y9)),(8,(.row false 204 aas y10)),(9,(.row true 2 ai3 y11)),(10,(.row true 172 abM y12))]
def fQ:nq→LT nq
 |(y0,y1,y2,y3,y4,y5,y6,y7,y8,y9,y10,y11,y12)=> .ite (eT y0 y2) (.need [nt y0,eT y0 y2,nu y0 y2] (.need [lb y0 y2 y3,lc y0 y2 y3,nv y3,nx y0 y2 y3] (.need [ny,lb y0 y2 y3,lc y0 y2 y3,nz y0 y2 y3] (.need [nA y0 y2 y6 y7 y8 y11,lQ y0 y2,lR y0 y2 y3,lS y0 y2 y3,lT y0 y2,lU y0 y2 y3,lW y0 y2 y3,lX y0 y2,lY y0 y2 y3,lZ y0 y2 y3,ma y0 y2,mb y0 y2 y3,mc y0 y2 y3,md y0 y2,me y0 y2 y3,mf y0 y2 y3,kb y0 y1 y2,ke y0 y1 y2 y12,kf y0 y1 y2 y12,mg y0 y2 y3,kb y0 y1 y2,ke y0 y1 y2 y12,kf y0 y1 y2 y12] (.need [mh y0 y1 y2 y3 y6 y7 y8 y11 y12,mi y0 y1 y2 y3 y6 y7 y8 y11 y12] (.nrm ((kg y0),ck y0 y1 y2,y2,kh y0 y1 y2 y3 y6 y7 y8 y11 y12,y4,y5,y6,y7,y8,y9,y10,ki y0 y2 y11,(cm y0 y1 y2 y3 y12)) [(0,0),(1,4544),(2,2),(3,3),(4,4),(5,5),(6,6),(7,7),(8,8),(9,9),(10,10)])))))) (.ext 0 [(0,0),(1,1),(2,2),(3,3),(4,4),(5,5),(6,6),(7,7),(8,8),(9,9),(10,10)])
def Gp(s:St):Option nq:=
 (match s.look 12 with
 |some ⟨none,.one ⟨false,[.val (.int .i64 y0)]⟩⟩=>
 (match s.look 3 with
 |some ⟨none,.one ⟨false,[.ref 7]⟩⟩=>
 (match s.look 11 with
 |some ⟨none,.one ⟨false,[.ref 768]⟩⟩=>
 (match s.look 5 with
 |some ⟨none,.one ⟨false,[.ptr 576 0]⟩⟩=>
 (match s.look 6 with
 |some ⟨none,.one ⟨false,[.ptr 640 0]⟩⟩=>
 (match s.look 2 with
 |some ⟨none,.one ⟨false,[.ref 6]⟩⟩=>
 (match s.look 4 with
 |some ⟨none,.one ⟨false,[.val (.int .i64 y1)]⟩⟩=>
 (match s.ent 7 with
 |some (.row false 178 (.pair (.int .i64) (.pair .str (.int .i64))) y2)=>
 (match s.ent 576 with
 |some (.box 63 [.val (.string y4),.ref 0,.ref 1,.ref 2,.val (.string y5),.ref 3])=>
 (match s.ent 640 with
 |some (.box 48 [.ref 4,.ref 5])=>
 (match s.ent 6 with
 |some (.row false 2 (.int .i64) y6)=>
 (match s.ent 0 with
 |some (.row false 9 (.str) y7)=>
 (match s.ent 1 with
 |some (.row false 9 (.str) y8)=>
 (match s.ent 2 with
 |some (.row false 9 (.str) y9)=>
 (match s.ent 3 with
 |some (.row false 204 (.pair .str (.sl 178 (.pair (.int .i64) (.pair .str (.int .i64))))) y10)=>
 (match s.ent 4 with
 |some (.row true 2 (.int .i64) y11)=>
 (match s.ent 5 with
 |some (.row true 172 (.pair (.int .i64) (.pair (.int .i64) (.int .i64))) y12)=>
 (match s.ent 768 with
 |some (.row true 2 (.int .i64) y3)=>
 some (y0,y1,y2,y3,y4,y5,y6,y7,y8,y9,y10,y11,y12)
 |_=>none)
 |_=>none)
 |_=>none)
 |_=>none)
 |_=>none)
 |_=>none)
 |_=>none)
 |_=>none)
 |_=>none)
 |_=>none)
 |_=>none)
 |_=>none)
 |_=>none)
 |_=>none)
 |_=>none)
 |_=>none)
 |_=>none)
 |_=>none)
def ba:Lp nq where
 h:=⟨[20,21,22,23,26,27,28,29,13,30,31,32,33,34,35,14,36,37,38,39,15,40,41,42,43,11,16,44,45,66,65,67,68,69,70,71,72,74,73,76,75,78,77,79,80,81,82,84,83,85,86,87,88,89,90,91,93,92,94,95,96,97,98,99,100,47,48,49,50,51,52,53,54,46,55,56,18,17,57,58,59,60,61,62,63,64,4,101,102,103,104,24,25,12],[0,2,3,4,5,6,7,8,9,10],[1],[]⟩
 JL:=Yj
 JE:=Yg
 XL:=Yp
 XE:=Ym
 q:=fun j=>match j with | _=> .exit 0
 tags:= [0]
 lt:=fQ
 fuel:=fun(y0,y1,y2,y3,y4,y5,y6,y7,y8,y9,y10,y11,y12)=>y0.natAbs + y1.natAbs + y2.length + y3.length + y4.size + y5.size + y6.length + y7.length + y8.length + y9.length + y10.length + y11.length + y12.length
 fix:=fun(_,_,y2,_,y4,y5,y6,y7,y8,y9,y10,_,_) (y0,y1,_,y3,_,_,_,_,_,_,_,y11,y12)=>(y0,y1,y2,y3,y4,y5,y6,y7,y8,y9,y10,y11,y12)
 σ:= [(0,7),(2,576),(3,640),(4,6),(5,0),(6,1),(7,2),(8,3),(9,4),(10,5),(1,768)]
 rd:=Gp
theorem VT:LoopOk prog (fun k=>Nat.blt k Tryz.f180.ntmps) ba.F (aY f180 0):=by
 refine Lp.ok (tbl:= (PF.mark prog::T3z [cj,eq,rk,tN])) (lf:= []) aV ba (by kernel_rfl) (LOk.nil _) (fun _=>rfl) (fun _ _=>rfl) ?_ ?_ ?_ ?_ (fun _=>rfl) ?_
 ·rintro⟨y0,y1,y2,y3,y4,y5,y6,y7,y8,y9,y10,y11,y12⟩;kernel_rfl
 ·rintro⟨y0,y1,y2,y3,y4,y5,y6,y7,y8,y9,y10,y11,y12⟩;kernel_rfl
 ·intro s x h
  have h:Gp s=some x:=h
  unfold Gp at h
  repeat' split at h
  all_goals cases h
  constructor<;>repeat(first|refine ab (by assumption) rfl ?_|refine aa rfl (by assumption) rfl ?_|exact rfl)
 ·rintro⟨y0,y1,y2,y3,y4,y5,y6,y7,y8,y9,y10,y11,y12⟩;kernel_rfl
 ·rintro⟨y0,y1,y2,y3,y4,y5,y6,y7,y8,y9,y10,y11,y12⟩ z;exact(And.intro rfl trivial)
section
variable (x0 x1:ByteArray)(x2:Int)(x3 x4 x5:List ByteArray)(x6:List (ByteArray×List (Int×ByteArray×Int)))(x7:List Int)(x8:List (Int×Int×Int))(x9:List Int)(x10:List (Int×ByteArray×Int))
def vY:Int×Int×List (Int×ByteArray×Int)×List Int×ByteArray×ByteArray×List Int×List ByteArray×List ByteArray×List ByteArray×List (ByteArray×List (Int×ByteArray×Int))×List Int×List (Int×Int×Int):=((0:Int),x2,x10,[],x0,x1,x9,x3,x4,x5,x6,x7,x8)
def zL:List Int×ByteArray×ByteArray×List Int×List ByteArray×List ByteArray×List ByteArray×List (ByteArray×List (Int×ByteArray×Int))×List Int×List (Int×Int×Int):=(Lp.res ba (vY x0 x1 x2 x3 x4 x5 x6 x7 x8 x9 x10)).2.2.2.2
def zM:List Int:=(zL x0 x1 x2 x3 x4 x5 x6 x7 x8 x9 x10).1
def EP:List Int×List (Int×Int×Int):=(zL x0 x1 x2 x3 x4 x5 x6 x7 x8 x9 x10).2.2.2.2.2.2.2.2
def FR:Int:=Option.getD (zM x0 x1 x2 x3 x4 x5 x6 x7 x8 x9 x10)[Int.toNat 0]? 0
def FS:List Int:=(EP x0 x1 x2 x3 x4 x5 x6 x7 x8 x9 x10).1
def FT:List (Int×(Int×Int)):=(EP x0 x1 x2 x3 x4 x5 x6 x7 x8 x9 x10).2
def FU:Bool:=allT [Lp.fin ba (vY x0 x1 x2 x3 x4 x5 x6 x7 x8 x9 x10),ltI 0 (↑(List.length (zM x0 x1 x2 x3 x4 x5 x6 x7 x8 x9 x10)):Int),ltN (Int.toNat 0) (List.length (zM x0 x1 x2 x3 x4 x5 x6 x7 x8 x9 x10))]
end
def Tz:List SV→List Entry→Option Out
 | [.one ⟨true,[.val (.string x0),.ref 0,.ref 1,.ref 2,.val (.string x1),.ref 3]⟩,.one ⟨true,[.ref 4,.ref 5]⟩,.one ⟨false,[.ref 6]⟩,.one ⟨false,[.ref 7]⟩,.one ⟨false,[.val (.int .i64 x2)]⟩],[.row false 9 (.str) x3,.row false 9 (.str) x4,.row false 9 (.str) x5,.row false 204 (.pair .str (.sl 178 (.pair (.int .i64) (.pair .str (.int .i64))))) x6,.row true 2 (.int .i64) x7,.row true 172 (.pair (.int .i64) (.pair (.int .i64) (.int .i64))) x8,.row false 2 (.int .i64) x9,.row false 178 (.pair (.int .i64) (.pair .str (.int .i64))) x10]=>some ⟨.one ⟨false,[.val (.int .i64 (FR x0 x1 x2 x3 x4 x5 x6 x7 x8 x9 x10))]⟩,[.row false 9 alP x3,.row false 9 alP x4,.row false 9 alP x5,.row false 204 aas x6,.row true 2 ai3 (FS x0 x1 x2 x3 x4 x5 x6 x7 x8 x9 x10),.row true 172 abM (FT x0 x1 x2 x3 x4 x5 x6 x7 x8 x9 x10),.row false 2 ai3 x9,.row false 178 acQ x10],[],[FU x0 x1 x2 x3 x4 x5 x6 x7 x8 x9 x10]⟩
 |_,_=>none
def oq:PF prog:=PF.ofG prog (PF.mark prog::T3z [cj,eq,rk,tN]) [ba.F] aV 180 f180 func180 (LOk.fnT (l:= [aY f180 0]) (by kernel_rfl) (.cons VT (.nil _))) Tz (by
 intro vs es r h;unfold Tz at h;split at h
 ·cases h;kernel_rfl
 ·cases h)
abbrev qx:=Int×Int×Int×ByteArray×ByteArray×List ByteArray×List ByteArray×List ByteArray×List (ByteArray×(List (Int×(ByteArray×Int))))
def zN(y1:Int)(y8:List (ByteArray×(List (Int×(ByteArray×Int))))):List (Int×ByteArray×Int):=(Option.getD y8[Int.toNat y1]? (xE aas)).2
def FW(y1:Int):Bool:=leI 0 y1
def FX(y1:Int)(y8:List (ByteArray×(List (Int×(ByteArray×Int))))):Bool:=ltI y1 (↑y8.length:Int)
def FY(y1:Int)(y8:List (ByteArray×(List (Int×(ByteArray×Int))))):Bool:=ltN y1.toNat y8.length
def xB(y0 y1:Int)(y8:List (ByteArray×(List (Int×(ByteArray×Int))))):Bool:=ltI y0 (↑(List.length (zN y1 y8)):Int)
def Uc(y0:Int):Bool:=leI 0 y0
def Ud(y0 y1:Int)(y8:List (ByteArray×(List (Int×(ByteArray×Int))))):Bool:=ltN y0.toNat (List.length (zN y1 y8))
def Ue(y0:Int):Int:=IntKind.wrap .i64 (y0 + (1:Int))
def Na(y0 y1 y2:Int)(y8:List (ByteArray×(List (Int×(ByteArray×Int))))):Int:=bif leI 7 ((Option.getD (zN y1 y8)[Int.toNat y0]? ((0:Int),ByteArray.empty,(0:Int))).1)then IntKind.wrap .i64 (y2 + (1:Int))else y2
def abr:qx→List (Nat×SV)
 |(y0,y1,y2,_,_,_,_,_,_)=> [(14,(.one ⟨false,[.val (.int .i64 y0)]⟩)),(3,(.one ⟨false,[.ptr 0 0]⟩)),(11,(.one ⟨false,[.val (.int .i64 y1)]⟩)),(10,(.one ⟨false,[.val (.int .i64 y2)]⟩))]
def abm:qx→List (Nat×Entry)
 |(_,_,_,y3,y4,y5,y6,y7,y8)=> [(0,(.box 63 [.val (.string y3),.ref 1,.ref 2,.ref 3,.val (.string y4),.ref 4])),(1,(.row false 9 alP y5)),(2,(.row false 9 alP y6)),(3,(.row false 9 alP y7)),(4,(.row false 204 aas y8))]
def abB:Nat→qx→List (Nat×SV)
 |_,(_,_,y2,_,_,_,_,_,_)=> [(10,(.one ⟨false,[.val (.int .i64 y2)]⟩))]
def abw:Nat→qx→List (Nat×Entry)
 |_,(_,_,_,y3,y4,y5,y6,y7,y8)=> [(0,(.box 63 [.val (.string y3),.ref 1,.ref 2,.ref 3,.val (.string y4),.ref 4])),(1,(.row false 9 alP y5)),(2,(.row false 9 alP y6)),(3,(.row false 9 alP y7)),(4,(.row false 204 aas y8))]
def zA:qx→LT qx
 |(y0,y1,y2,y3,y4,y5,y6,y7,y8)=> .need [FW y1,FX y1 y8,FY y1 y8] (.ite (xB y0 y1 y8) (.need [FW y1,FX y1 y8,FY y1 y8,Uc y0,xB y0 y1 y8,Ud y0 y1 y8] (.nrm ((Ue y0),y1,Na y0 y1 y2 y8,y3,y4,y5,y6,y7,y8) [(0,0),(1,1),(2,2),(3,3),(4,4)])) (.ext 0 [(0,0),(1,1),(2,2),(3,3),(4,4)]))
def KM(s:St):Option qx:=
 (match s.look 14 with
 |some ⟨none,.one ⟨false,[.val (.int .i64 y0)]⟩⟩=>
 (match s.look 3 with
 |some ⟨none,.one ⟨false,[.ptr 0 0]⟩⟩=>
 (match s.look 11 with
 |some ⟨none,.one ⟨false,[.val (.int .i64 y1)]⟩⟩=>
 (match s.look 10 with
 |some ⟨none,.one ⟨false,[.val (.int .i64 y2)]⟩⟩=>
 (match s.ent 0 with
 |some (.box 63 [.val (.string y3),.ref 4,.ref 5,.ref 6,.val (.string y4),.ref 7])=>
 (match s.ent 4 with
 |some (.row false 9 (.str) y5)=>
 (match s.ent 5 with
 |some (.row false 9 (.str) y6)=>
 (match s.ent 6 with
 |some (.row false 9 (.str) y7)=>
 (match s.ent 7 with
 |some (.row false 204 (.pair .str (.sl 178 (.pair (.int .i64) (.pair .str (.int .i64))))) y8)=>
 some (y0,y1,y2,y3,y4,y5,y6,y7,y8)
 |_=>none)
 |_=>none)
 |_=>none)
 |_=>none)
 |_=>none)
 |_=>none)
 |_=>none)
 |_=>none)
 |_=>none)
def gv:Lp qx where
 h:=⟨[67,68,69,70,71,72,73,74,75,78,79,80,81,82,83,84,85,86,87,88,89,90,10,76,77,14],[0,1,2,3,4],[],[]⟩
 JL:=abr
 JE:=abm
 XL:=abB
 XE:=abw
 q:=fun j=>match j with | _=> .exit 2
 tags:= [0]
 lt:=zA
 fuel:=fun(y0,y1,y2,y3,y4,y5,y6,y7,y8)=>y0.natAbs + y1.natAbs + y2.natAbs + y3.size + y4.size + y5.length + y6.length + y7.length + y8.length
 fix:=fun(_,y1,_,y3,y4,y5,y6,y7,y8) (y0,_,y2,_,_,_,_,_,_)=>(y0,y1,y2,y3,y4,y5,y6,y7,y8)
 σ:= [(0,0),(1,4),(2,5),(3,6),(4,7)]
 rd:=KM
theorem Zw:LoopOk prog (memN [21,22,23,24,25,28,29,30,31,32,33,34,35,36,37,38,12,39,40,41,42,43,44,45,46,47,13,48,49,50,51,52,53,54,55,56,57,58,59,60,61,62,63,64,65,66,14,67,68,69,70,71,72,73,74,75,78,79,80,81,82,83,84,85,86,87,88,89,90,10,76,77,26,27,11]) gv.F (YD (aY f113 0) 0):=by
 refine Lp.ok (tbl:= (T3z [cE,AE,yg,eq,oq])) (lf:= []) aV gv (by kernel_rfl) (LOk.nil _) (fun _=>rfl) (fun _ _=>rfl) ?_ ?_ ?_ ?_ (fun _=>rfl) ?_
 ·rintro⟨y0,y1,y2,y3,y4,y5,y6,y7,y8⟩;kernel_rfl
 ·rintro⟨y0,y1,y2,y3,y4,y5,y6,y7,y8⟩;kernel_rfl
 ·intro s x h
  have h:KM s=some x:=h
  unfold KM at h
  repeat' split at h
  all_goals cases h
  constructor<;>repeat(first|refine ab (by assumption) rfl ?_|refine aa rfl (by assumption) rfl ?_|exact rfl)
 ·rintro⟨y0,y1,y2,y3,y4,y5,y6,y7,y8⟩;kernel_rfl
 ·rintro⟨y0,y1,y2,y3,y4,y5,y6,y7,y8⟩ z;exact(And.intro rfl trivial)
abbrev vu:=Int×Int×ByteArray×ByteArray×List Int×List Int×List ByteArray×List ByteArray×List ByteArray×List (ByteArray×(List (Int×(ByteArray×Int))))×List Int×List (Int×(Int×Int))
def PU(y0:Int)(y9:List (ByteArray×(List (Int×(ByteArray×Int))))):Bool:=ltI y0 (↑y9.length:Int)
def PV(y0:Int)(y9:List (ByteArray×(List (Int×(ByteArray×Int))))):Bool:=ltN y0.toNat y9.length
def tH(y0:Int)(y9:List (ByteArray×(List (Int×(ByteArray×Int))))):ByteArray×List (Int×ByteArray×Int):=Option.getD y9[Int.toNat y0]? (xE aas)
def dX(y0:Int)(y7:List ByteArray)(y9:List (ByteArray×(List (Int×(ByteArray×Int))))):Int:=gW y7 ((tH y0 y9).1)
def At(y0 y1:Int)(y2 y3:ByteArray)(y4:List Int)(y6 y7 y8:List ByteArray)(y9:List (ByteArray×(List (Int×(ByteArray×Int)))))(y10:List Int)(y11:List (Int×(Int×Int))):List Int:=FS y2 y3 y1 y6 y7 y8 y9 y10 y11 y4 ((tH y0 y9).2)
def Au(y0:Int)(y8:List ByteArray)(y9:List (ByteArray×(List (Int×(ByteArray×Int))))):Int:=gW y8 ((tH y0 y9).1)
def PW(y0 y1:Int)(y2 y3:ByteArray)(y6 y7 y8:List ByteArray)(y9:List (ByteArray×(List (Int×(ByteArray×Int))))):Int×Int×Int×ByteArray×ByteArray×List ByteArray×List ByteArray×List ByteArray×List (ByteArray×List (Int×ByteArray×Int)):=((0:Int),y0,y1,y2,y3,y6,y7,y8,y9)
def JJ(y0 y1:Int)(y2 y3:ByteArray)(y4:List Int)(y6 y7 y8:List ByteArray)(y9:List (ByteArray×(List (Int×(ByteArray×Int)))))(y10:List Int)(y11:List (Int×(Int×Int))):Int:=FR y2 y3 y1 y6 y7 y8 y9 y10 y11 y4 ((tH y0 y9).2)
def FV(y0:Int)(y9:List (ByteArray×(List (Int×(ByteArray×Int))))):Bool:=PU y0 y9
def RX(y0:Int):Bool:=leI 0 y0
def RY(y0:Int)(y9:List (ByteArray×(List (Int×(ByteArray×Int))))):Bool:=PV y0 y9
def RZ(y0 y1:Int)(y2 y3:ByteArray)(y4:List Int)(y6 y7 y8:List ByteArray)(y9:List (ByteArray×(List (Int×(ByteArray×Int)))))(y10:List Int)(y11:List (Int×(Int×Int))):Bool:=FU y2 y3 y1 y6 y7 y8 y9 y10 y11 y4 ((tH y0 y9).2)
def Yc(y7:List ByteArray):Bool:=leN y7.length (9223372036854775807:Nat)
def Sa(y0:Int)(y7:List ByteArray)(y9:List (ByteArray×(List (Int×(ByteArray×Int))))):Bool:= !leI 0 (dX y0 y7 y9)||leI 0 (dX y0 y7 y9)
def Sb(y0 y1:Int)(y2 y3:ByteArray)(y4:List Int)(y6 y7 y8:List ByteArray)(y9:List (ByteArray×(List (Int×(ByteArray×Int)))))(y10:List Int)(y11:List (Int×(Int×Int))):Bool:= !leI 0 (dX y0 y7 y9)||ltI (dX y0 y7 y9) (↑(List.length (At y0 y1 y2 y3 y4 y6 y7 y8 y9 y10 y11)):Int)
def Sc(y0 y1:Int)(y2 y3:ByteArray)(y4:List Int)(y6 y7 y8:List ByteArray)(y9:List (ByteArray×(List (Int×(ByteArray×Int)))))(y10:List Int)(y11:List (Int×(Int×Int))):Bool:= !leI 0 (dX y0 y7 y9)||ltN (Int.toNat (dX y0 y7 y9)) (List.length (At y0 y1 y2 y3 y4 y6 y7 y8 y9 y10 y11))
def Sd(y0:Int)(y7:List ByteArray)(y9:List (ByteArray×(List (Int×(ByteArray×Int))))):Bool:=leI 0 (dX y0 y7 y9)||leI 0 y0
def Se(y0:Int)(y7:List ByteArray)(y9:List (ByteArray×(List (Int×(ByteArray×Int))))):Bool:=leI 0 (dX y0 y7 y9)||PU y0 y9
def PL(y0:Int)(y7:List ByteArray)(y9:List (ByteArray×(List (Int×(ByteArray×Int))))):Bool:=leI 0 (dX y0 y7 y9)||PV y0 y9
def PM(y0:Int)(y7 y8:List ByteArray)(y9:List (ByteArray×(List (Int×(ByteArray×Int))))):Bool:=leI 0 (dX y0 y7 y9)||leN y8.length (9223372036854775807:Nat)
def PN(y0:Int)(y7 y8:List ByteArray)(y9:List (ByteArray×(List (Int×(ByteArray×Int))))):Bool:=leI 0 (dX y0 y7 y9)||leI 0 (Au y0 y8 y9)
def PO(y0:Int)(y5:List Int)(y7 y8:List ByteArray)(y9:List (ByteArray×(List (Int×(ByteArray×Int))))):Bool:=leI 0 (dX y0 y7 y9)||ltI (Au y0 y8 y9) (↑y5.length:Int)
def PP(y0:Int)(y5:List Int)(y7 y8:List ByteArray)(y9:List (ByteArray×(List (Int×(ByteArray×Int))))):Bool:=leI 0 (dX y0 y7 y9)||ltN (Int.toNat (Au y0 y8 y9)) y5.length
def WT(y0 y1:Int)(y2 y3:ByteArray)(y6 y7 y8:List ByteArray)(y9:List (ByteArray×(List (Int×(ByteArray×Int))))):Bool:=Lp.fin gv (PW y0 y1 y2 y3 y6 y7 y8 y9)
def WU(y0:Int):Int:=IntKind.wrap .i64 (y0 + (1:Int))
def PQ(y0 y1:Int)(y2 y3:ByteArray)(y6 y7 y8:List ByteArray)(y9:List (ByteArray×(List (Int×(ByteArray×Int))))):Int:=((Lp.res gv (PW y0 y1 y2 y3 y6 y7 y8 y9)).2.2.2).1
def PR(y0 y1:Int)(y2 y3:ByteArray)(y4 y5:List Int)(y6 y7 y8:List ByteArray)(y9:List (ByteArray×(List (Int×(ByteArray×Int)))))(y10:List Int)(y11:List (Int×(Int×Int))):List Int:=bif leI 0 (dX y0 y7 y9)then y5 else List.set y5 (Int.toNat (Au y0 y8 y9)) (JJ y0 y1 y2 y3 y4 y6 y7 y8 y9 y10 y11)
def PS(y0 y1:Int)(y2 y3:ByteArray)(y4:List Int)(y6 y7 y8:List ByteArray)(y9:List (ByteArray×(List (Int×(ByteArray×Int)))))(y10:List Int)(y11:List (Int×(Int×Int))):List Int:=bif leI 0 (dX y0 y7 y9)then List.set (At y0 y1 y2 y3 y4 y6 y7 y8 y9 y10 y11) (Int.toNat (dX y0 y7 y9)) (JJ y0 y1 y2 y3 y4 y6 y7 y8 y9 y10 y11)else At y0 y1 y2 y3 y4 y6 y7 y8 y9 y10 y11
def PT(y0 y1:Int)(y2 y3:ByteArray)(y4:List Int)(y6 y7 y8:List ByteArray)(y9:List (ByteArray×(List (Int×(ByteArray×Int)))))(y10:List Int)(y11:List (Int×(Int×Int))):List (Int×(Int×Int)):=FT y2 y3 y1 y6 y7 y8 y9 y10 y11 y4 ((tH y0 y9).2)
def ae3:vu→List (Nat×SV)
 |(y0,y1,_,_,_,_,_,_,_,_,_,_)=> [(11,(.one ⟨false,[.val (.int .i64 y0)]⟩)),(3,(.one ⟨false,[.ptr 0 0]⟩)),(8,(.one ⟨false,[.ptr 1 0]⟩)),(2,(.one ⟨false,[.ref 2]⟩)),(10,(.one ⟨false,[.val (.int .i64 y1)]⟩)),(9,(.one ⟨false,[.ref 3]⟩))]
def aeX:vu→List (Nat×Entry)
 |(_,_,y2,y3,y4,y5,y6,y7,y8,y9,y10,y11)=> [(0,(.box 63 [.val (.string y2),.ref 4,.ref 5,.ref 6,.val (.string y3),.ref 7])),(1,(.box 48 [.ref 8,.ref 9])),(2,(.row false 2 ai3 y4)),(3,(.row true 2 ai3 y5)),(4,(.row false 9 alP y6)),(5,(.row false 9 alP y7)),(6,(.row false 9 alP y8)),(7,(.row false 204 aas y9)),(8,(.row true 2 ai3 y10)),(9,(.row true 172 abM y11))]
def aff:Nat→vu→List (Nat×SV)
 |_,(_,_,_,_,_,_,_,_,_,_,_,_)=> []
def ae9:Nat→vu→List (Nat×Entry)
 |_,(_,_,y2,y3,y4,y5,y6,y7,y8,y9,y10,y11)=> [(0,(.box 63 [.val (.string y2),.ref 4,.ref 5,.ref 6,.val (.string y3),.ref 7])),(1,(.box 48 [.ref 8,.ref 9])),(2,(.row false 2 ai3 y4)),(3,(.row true 2 ai3 y5)),(4,(.row false 9 alP y6)),(5,(.row false 9 alP y7)),(6,(.row false 9 alP y8)),(7,(.row false 204 aas y9)),(8,(.row true 2 ai3 y10)),(9,(.row true 172 abM y11))]
def DK:vu→LT vu
 |(y0,y1,y2,y3,y4,y5,y6,y7,y8,y9,y10,y11)=> .ite (FV y0 y9) (.need [RX y0,FV y0 y9,RY y0 y9,RZ y0 y1 y2 y3 y4 y6 y7 y8 y9 y10 y11] (.need [RX y0,FV y0 y9,RY y0 y9,Yc y7] (.need [Sa y0 y7 y9,Sb y0 y1 y2 y3 y4 y6 y7 y8 y9 y10 y11,Sc y0 y1 y2 y3 y4 y6 y7 y8 y9 y10 y11,Sd y0 y7 y9,Se y0 y7 y9,PL y0 y7 y9,PM y0 y7 y8 y9,PN y0 y7 y8 y9,PO y0 y5 y7 y8 y9,PP y0 y5 y7 y8 y9] (.need [WT y0 y1 y2 y3 y6 y7 y8 y9] (.nrm ((WU y0),PQ y0 y1 y2 y3 y6 y7 y8 y9,y2,y3,y4,PR y0 y1 y2 y3 y4 y5 y6 y7 y8 y9 y10 y11,y6,y7,y8,y9,PS y0 y1 y2 y3 y4 y6 y7 y8 y9 y10 y11,(PT y0 y1 y2 y3 y4 y6 y7 y8 y9 y10 y11)) [(0,0),(1,1),(2,2),(3,3),(4,4),(5,5),(6,6),(7,7),(8,8),(9,9)]))))) (.ext 0 [(0,0),(1,1),(2,2),(3,3),(4,4),(5,5),(6,6),(7,7),(8,8),(9,9)])
def Py(s:St):Option vu:=
 (match s.look 11 with
 |some ⟨none,.one ⟨false,[.val (.int .i64 y0)]⟩⟩=>
 (match s.look 3 with
 |some ⟨none,.one ⟨false,[.ptr 512 0]⟩⟩=>
 (match s.look 8 with
 |some ⟨none,.one ⟨false,[.ptr 896 0]⟩⟩=>
 (match s.look 2 with
 |some ⟨none,.one ⟨false,[.ref 6]⟩⟩=>
 (match s.look 10 with
 |some ⟨none,.one ⟨false,[.val (.int .i64 y1)]⟩⟩=>
 (match s.look 9 with
 |some ⟨none,.one ⟨false,[.ref 1216]⟩⟩=>
 (match s.ent 512 with
 |some (.box 63 [.val (.string y2),.ref 0,.ref 1,.ref 2,.val (.string y3),.ref 3])=>
 (match s.ent 896 with
 |some (.box 48 [.ref 832,.ref 833])=>
 (match s.ent 6 with
 |some (.row false 2 (.int .i64) y4)=>
 (match s.ent 1216 with
 |some (.row true 2 (.int .i64) y5)=>
 (match s.ent 0 with
 |some (.row false 9 (.str) y6)=>
 (match s.ent 1 with
 |some (.row false 9 (.str) y7)=>
 (match s.ent 2 with
 |some (.row false 9 (.str) y8)=>
 (match s.ent 3 with
 |some (.row false 204 (.pair .str (.sl 178 (.pair (.int .i64) (.pair .str (.int .i64))))) y9)=>
 (match s.ent 832 with
 |some (.row true 2 (.int .i64) y10)=>
 (match s.ent 833 with
 |some (.row true 172 (.pair (.int .i64) (.pair (.int .i64) (.int .i64))) y11)=>
 some (y0,y1,y2,y3,y4,y5,y6,y7,y8,y9,y10,y11)
 |_=>none)
 |_=>none)
 |_=>none)
 |_=>none)
 |_=>none)
 |_=>none)
 |_=>none)
 |_=>none)
 |_=>none)
 |_=>none)
 |_=>none)
 |_=>none)
 |_=>none)
 |_=>none)
 |_=>none)
 |_=>none)
def jG:Lp vu where
 h:=⟨[21,22,23,24,25,28,29,30,31,32,33,34,35,36,37,38,12,39,40,41,42,43,44,45,46,47,13,48,49,50,51,52,53,54,55,56,57,58,59,60,61,62,63,64,65,66,14,67,68,69,70,71,72,73,74,75,78,79,80,81,82,83,84,85,86,87,88,89,90,10,76,77,26,27,11],[0,1,2,3,4,5,6,7,8,9],[],[]⟩
 JL:=ae3
 JE:=aeX
 XL:=aff
 XE:=ae9
 q:=fun j=>match j with | _=> .exit 0
 tags:= [0]
 lt:=DK
 fuel:=fun(y0,y1,y2,y3,y4,y5,y6,y7,y8,y9,y10,y11)=>y0.natAbs + y1.natAbs + y2.size + y3.size + y4.length + y5.length + y6.length + y7.length + y8.length + y9.length + y10.length + y11.length
 fix:=fun(_,_,y2,y3,y4,_,y6,y7,y8,y9,_,_) (y0,y1,_,_,_,y5,_,_,_,_,y10,y11)=>(y0,y1,y2,y3,y4,y5,y6,y7,y8,y9,y10,y11)
 σ:= [(0,512),(1,896),(2,6),(3,1216),(4,0),(5,1),(6,2),(7,3),(8,832),(9,833)]
 rd:=Py
theorem ac0:LoopOk prog (fun k=>Nat.blt k Tryz.f113.ntmps) jG.F (aY f113 0):=by
 refine Lp.ok (tbl:= (T3z [cE,AE,yg,eq,oq])) (lf:= [gv.F]) aV jG (by kernel_rfl) (LOk.allT (l:= [YD (aY f113 0) 0]) (by kernel_rfl) (.cons Zw (.nil _))) (fun _=>rfl) (fun _ _=>rfl) ?_ ?_ ?_ ?_ (fun _=>rfl) ?_
 ·rintro⟨y0,y1,y2,y3,y4,y5,y6,y7,y8,y9,y10,y11⟩;kernel_rfl
 ·rintro⟨y0,y1,y2,y3,y4,y5,y6,y7,y8,y9,y10,y11⟩;kernel_rfl
 ·intro s x h
  have h:Py s=some x:=h
  unfold Py at h
  repeat' split at h
  all_goals cases h
  constructor<;>repeat(first|refine ab (by assumption) rfl ?_|refine aa rfl (by assumption) rfl ?_|exact rfl)
 ·rintro⟨y0,y1,y2,y3,y4,y5,y6,y7,y8,y9,y10,y11⟩;kernel_rfl
 ·rintro⟨y0,y1,y2,y3,y4,y5,y6,y7,y8,y9,y10,y11⟩ z;exact(And.intro rfl trivial)
def Fg(x1:ByteArray):Bool:=
 !ByteArray.toList x1==ByteArray.toList { data:= #[] }
section
variable (x0 x1:ByteArray)(x2 x3 x4:List ByteArray)(x5:List (ByteArray×List (Int×ByteArray×Int)))(x6:List Int)(x7:List (Int×Int×Int))(x8:List Int)
def OZ:List Int:=List.replicate (Int.toNat (↑x4.length:Int)) (0:Int)
def Ka:Int×Int×ByteArray×ByteArray×List Int×List Int×List ByteArray×List ByteArray×List ByteArray×List (ByteArray×List (Int×ByteArray×Int))×List Int×List (Int×Int×Int):=((0:Int),(0:Int),x0,x1,x8,OZ x4,x2,x3,x4,x5,x6,x7)
def Pa:List Int×List ByteArray×List ByteArray×List ByteArray×List (ByteArray×List (Int×ByteArray×Int))×List Int×List (Int×Int×Int):=(Lp.res jG (Ka x0 x1 x2 x3 x4 x5 x6 x7 x8)).2.2.2.2.2.2
def Pb:List Int×List (Int×Int×Int):=(Pa x0 x1 x2 x3 x4 x5 x6 x7 x8).2.2.2.2.2
def Fh:List Int:=(Pb x0 x1 x2 x3 x4 x5 x6 x7 x8).1
def wo:Bool:=bif Fg x1 then tO x1 x2 x3 (Fh x0 x1 x2 x3 x4 x5 x6 x7 x8) x8==0 else false
def Pc:List Int:=bif Fg x1&&true then Fh x0 x1 x2 x3 x4 x5 x6 x7 x8 else Fh x0 x1 x2 x3 x4 x5 x6 x7 x8
def Pf:List (Int×Int×Int):=(Pb x0 x1 x2 x3 x4 x5 x6 x7 x8).2
def Pg:List (Int×Int×Int):=bif Fg x1&&true then Pf x0 x1 x2 x3 x4 x5 x6 x7 x8 else Pf x0 x1 x2 x3 x4 x5 x6 x7 x8
def Td:Bool:=leI (↑x4.length:Int) (↑x4.length:Int)
def Te:Bool:=leI ((↑(8:Nat):Int) * (↑x4.length:Int)) 281474976710656
def RS:List Int:=bif wo x0 x1 x2 x3 x4 x5 x6 x7 x8 then OZ x4 else (Pa x0 x1 x2 x3 x4 x5 x6 x7 x8).1
def RT:List Int:=bif wo x0 x1 x2 x3 x4 x5 x6 x7 x8 then Pc x0 x1 x2 x3 x4 x5 x6 x7 x8 else Pc x0 x1 x2 x3 x4 x5 x6 x7 x8
def RU:List (Int×(Int×Int)):=bif wo x0 x1 x2 x3 x4 x5 x6 x7 x8 then Pg x0 x1 x2 x3 x4 x5 x6 x7 x8 else Pg x0 x1 x2 x3 x4 x5 x6 x7 x8
def RW:Bool:=allT [Tm x6 x7,leI 0 (↑x4.length:Int),Td x4,Te x4,leI (↑x4.length:Int) 9223372036854775807,Lp.fin jG (Ka x0 x1 x2 x3 x4 x5 x6 x7 x8),!(Fg x1&&true)||tP x1 x2 x3 (Fh x0 x1 x2 x3 x4 x5 x6 x7 x8) x8,!wo x0 x1 x2 x3 x4 x5 x6 x7 x8||leI 0 (↑x4.length:Int),!wo x0 x1 x2 x3 x4 x5 x6 x7 x8||Td x4,!wo x0 x1 x2 x3 x4 x5 x6 x7 x8||Te x4,!wo x0 x1 x2 x3 x4 x5 x6 x7 x8||leI (↑x4.length:Int) 9223372036854775807]
end
def ab9:List SV→List Entry→Option Out
 | [.one ⟨true,[.val (.string x0),.ref 0,.ref 1,.ref 2,.val (.string x1),.ref 3]⟩,.one ⟨true,[.ref 4,.ref 5]⟩,.one ⟨false,[.ref 6]⟩],[.row false 9 (.str) x2,.row false 9 (.str) x3,.row false 9 (.str) x4,.row false 204 (.pair (.str) (.sl 178 (.pair (.int .i64) (.pair (.str) (.int .i64))))) x5,.row false 2 (.int .i64) x6,.row false 172 (.pair (.int .i64) (.pair (.int .i64) (.int .i64))) x7,.row false 2 (.int .i64) x8]=>some ⟨.tup [⟨false,[.ref 7]⟩,⟨true,[.ref 8,.ref 9]⟩],[.row false 9 alP x2,.row false 9 alP x3,.row false 9 alP x4,.row false 204 (CTy.pair CTy.str (CTy.sl (178:TypeId) acQ)) x5,.row false 2 ai3 x6,.row false 172 abM x7,.row false 2 ai3 x8],[.row true 2 ai3 (RS x0 x1 x2 x3 x4 x5 x6 x7 x8),.row true 2 ai3 (RT x0 x1 x2 x3 x4 x5 x6 x7 x8),.row true 172 abM (RU x0 x1 x2 x3 x4 x5 x6 x7 x8)],[RW x0 x1 x2 x3 x4 x5 x6 x7 x8]⟩
 |_,_=>none
def Rf:PF prog:=PF.ofG prog (T3z [cE,AE,yg,eq,oq]) [jG.F] aV 113 f113 func113 (LOk.fnT (l:= [aY f113 0]) (by kernel_rfl) (.cons ac0 (.nil _))) ab9 (by
 intro vs es r h;unfold ab9 at h;split at h
 ·cases h;kernel_rfl
 ·cases h)
abbrev nC:=Int×List (Int×(ByteArray×Int))×List Int×List (Int×(Int×Int))
section
variable (y0:Int)(y1:List (Int×(ByteArray×Int)))(y3:List (Int×(Int×Int)))
def xA:Int×ByteArray×Int:=Option.getD y1[Int.toNat y0]? ((0:Int),ByteArray.empty,(0:Int))
def tG:Int×Int×Int:=Option.getD y3[Int.toNat y0]? ((0:Int),(0:Int),(0:Int))
def yP:Bool:=ltI y0 (↑y1.length:Int)
def yQ:Bool:=leI 0 y0
def CC:Bool:=ltN y0.toNat y1.length
def CD:Bool:=ltI y0 (↑y3.length:Int)
def CE:Bool:=ltN y0.toNat y3.length
def CF:Bool:= !df ((xA y0 y1).1) ((xA y0 y1).2.2) ((tG y0 y3).1) (((tG y0 y3).2).1) ((tG y0 y3).2.2)
def CG:Int:=IntKind.wrap .i64 (y0 + (1:Int))
end
def ach:nC→List (Nat×SV)
 |(y0,_,_,_)=> [(6,(.one ⟨false,[.val (.int .i64 y0)]⟩)),(5,(.one ⟨false,[.ref 0]⟩)),(3,(.one ⟨false,[.ptr 1 0]⟩))]
def ace:nC→List (Nat×Entry)
 |(_,y1,y2,y3)=> [(0,(.row true 178 acQ y1)),(1,(.box 48 [.ref 2,.ref 3])),(2,(.row false 2 ai3 y2)),(3,(.row false 172 abM y3))]
def acC:Nat→nC→List (Nat×SV)
 |0,(_,_,_,_)=> [(4,(.one ⟨false,[.val (.bool false)]⟩))]
 |_,(_,_,_,_)=> []
def acz:Nat→nC→List (Nat×Entry)
 |0,(_,y1,y2,y3)=> [(0,(.row true 178 acQ y1)),(1,(.box 48 [.ref 2,.ref 3])),(2,(.row false 2 ai3 y2)),(3,(.row false 172 abM y3))]
 |_,(_,y1,y2,y3)=> [(0,(.row true 178 acQ y1)),(1,(.box 48 [.ref 2,.ref 3])),(2,(.row false 2 ai3 y2)),(3,(.row false 172 abM y3))]
def AQ:nC→LT nC
 |(y0,y1,y2,y3)=> .ite (yP y0 y1) (.need [yQ y0,yP y0 y1,CC y0 y1,yQ y0,CD y0 y3,CE y0 y3] (.ite (CF y0 y1 y3) (.ext 0 [(0,0),(1,1),(2,2),(3,3)]) (.nrm ((CG y0),y1,y2,y3) [(0,0),(1,1),(2,2),(3,3)]))) (.ext 1 [(0,0),(1,1),(2,2),(3,3)])
def MM(s:St):Option nC:=
 (match s.look 6 with
 |some ⟨none,.one ⟨false,[.val (.int .i64 y0)]⟩⟩=>
 (match s.look 5 with
 |some ⟨none,.one ⟨false,[.ref 704]⟩⟩=>
 (match s.look 3 with
 |some ⟨none,.one ⟨false,[.ptr 512 0]⟩⟩=>
 (match s.ent 704 with
 |some (.row true 178 (.pair (.int .i64) (.pair .str (.int .i64))) y1)=>
 (match s.ent 512 with
 |some (.box 48 [.ref 4,.ref 5])=>
 (match s.ent 4 with
 |some (.row false 2 (.int .i64) y2)=>
 (match s.ent 5 with
 |some (.row false 172 (.pair (.int .i64) (.pair (.int .i64) (.int .i64))) y3)=>
 some (y0,y1,y2,y3)
 |_=>none)
 |_=>none)
 |_=>none)
 |_=>none)
 |_=>none)
 |_=>none)
 |_=>none)
def ej:Lp nC where
 h:=⟨[24,25,26,27,30,31,32,33,34,35,36,37,38,39,40,4,28,29,6],[0,1,2,3],[],[]⟩
 JL:=ach
 JE:=ace
 XL:=acC
 XE:=acz
 q:=fun j=>match j with | 0=> .ret | _=> .exit 0
 tags:= [0,1]
 lt:=AQ
 fuel:=fun(y0,y1,y2,y3)=>y0.natAbs + y1.length + y2.length + y3.length
 fix:=fun(_,y1,y2,y3) (y0,_,_,_)=>(y0,y1,y2,y3)
 σ:= [(0,704),(1,512),(2,4),(3,5)]
 rd:=MM
theorem aav:LoopOk prog (fun k=>Nat.blt k Tryz.f119.ntmps) ej.F (aY f119 0):=by
 refine Lp.ok (tbl:= (T3z [Wd,tV,jn])) (lf:= []) aV ej (by kernel_rfl) (LOk.nil _) (fun _=>rfl) (fun j _=>by unfold ej;match j with | 0=>rfl | _ + 1=>rfl) ?_ ?_ ?_ ?_ (fun _=>rfl) ?_
 ·rintro⟨y0,y1,y2,y3⟩;kernel_rfl
 ·rintro⟨y0,y1,y2,y3⟩;kernel_rfl
 ·intro s x h
  have h:MM s=some x:=h
  unfold MM at h
  repeat' split at h
  all_goals cases h
  constructor<;>repeat(first|refine ab (by assumption) rfl ?_|refine aa rfl (by assumption) rfl ?_|exact rfl)
 ·rintro⟨y0,y1,y2,y3⟩;kernel_rfl
 ·rintro⟨y0,y1,y2,y3⟩ z;exact(And.intro (And.intro trivial rfl) trivial)
section
variable (x3:List ByteArray)(x5:List (ByteArray×List (Int×ByteArray×Int)))(x6:List Int)(x7:List (Int×Int×Int))
def BT:Bool:=(↑x7.length:Int)!=(↑(List.length (blL x5)):Int)
def Lw:Bool:=bif BT x5 x7 then true else !bitsB (↑x3.length:Int) x6
def Lx:Int×List (Int×ByteArray×Int)×List Int×List (Int×Int×Int):=((0:Int),blL x5,x6,x7)
def Dh:Bool:=bif Lw x3 x5 x6 x7 then false else bif Nat.beq ((Lp.res ej (Lx x5 x6 x7)).1) 0 then false else true
def Ig:Bool:=allT [TL x5,!(!BT x5 x7&&true)||leN x6.length (9223372036854775807:Nat),Lw x3 x5 x6 x7||Lp.fin ej (Lx x5 x6 x7)]
end
def Zd:List SV→List Entry→Option Out
 | [.one ⟨true,[.val (.string _x0),.ref 0,.ref 1,.ref 2,.val (.string _x1),.ref 3]⟩,.one ⟨true,[.ref 4,.ref 5]⟩],[.row false 9 (.str) x2,.row false 9 (.str) x3,.row false 9 (.str) x4,.row false 204 (.pair (.str) (.sl 178 (.pair (.int .i64) (.pair (.str) (.int .i64))))) x5,.row false 2 (.int .i64) x6,.row false 172 (.pair (.int .i64) (.pair (.int .i64) (.int .i64))) x7]=>some ⟨.one ⟨false,[.val (.bool (Dh x3 x5 x6 x7))]⟩,[.row false 9 alP x2,.row false 9 alP x3,.row false 9 alP x4,.row false 204 (CTy.pair CTy.str (CTy.sl (178:TypeId) acQ)) x5,.row false 2 ai3 x6,.row false 172 abM x7],[],[Ig x3 x5 x6 x7]⟩
 |_,_=>none
def Nn:PF prog:=PF.ofG prog (T3z [Wd,tV,jn]) [ej.F] aV 119 f119 func119 (LOk.fnT (l:= [aY f119 0]) (by kernel_rfl) (.cons aav (.nil _))) Zd (by
 intro vs es r h;unfold Zd at h;split at h
 ·cases h;kernel_rfl
 ·cases h)
def MY(x0 x1:ByteArray)(x2 x3 x4:List ByteArray)(x5:List (ByteArray×List (Int×ByteArray×Int)))(x6:List Int)(x7:List (Int×Int×Int))(x8:List Int):Int:=bif !jH x0 x2 x3 x4 x1 x5 then(1:Int)else bif bif !Dh x3 x5 x6 x7 then true else !bitsB (↑x2.length:Int) x8 then(2:Int)else(0:Int)
def RP(x0 x1:ByteArray)(x2 x3 x4:List ByteArray)(x5:List (ByteArray×List (Int×ByteArray×Int)))(x6:List Int)(x7:List (Int×Int×Int))(x8:List Int):Bool:=allT [NR x0 x2 x3 x4 x1 x5,!jH x0 x2 x3 x4 x1 x5||Ig x3 x5 x6 x7,!jH x0 x2 x3 x4 x1 x5||(!(!!Dh x3 x5 x6 x7&&true)||leN x8.length (9223372036854775807:Nat))]
def ab7:List SV→List Entry→Option Out
 | [.one ⟨true,[.val (.string x0),.ref 0,.ref 1,.ref 2,.val (.string x1),.ref 3]⟩,.one ⟨true,[.ref 4,.ref 5]⟩,.one ⟨false,[.ref 6]⟩],[.row false 9 (.str) x2,.row false 9 (.str) x3,.row false 9 (.str) x4,.row false 204 (.pair (.str) (.sl 178 (.pair (.int .i64) (.pair (.str) (.int .i64))))) x5,.row false 2 (.int .i64) x6,.row false 172 (.pair (.int .i64) (.pair (.int .i64) (.int .i64))) x7,.row false 2 (.int .i64) x8]=>some ⟨.one ⟨false,[.val (.int .i64 (MY x0 x1 x2 x3 x4 x5 x6 x7 x8))]⟩,[.row false 9 alP x2,.row false 9 alP x3,.row false 9 alP x4,.row false 204 (CTy.pair CTy.str (CTy.sl (178:TypeId) acQ)) x5,.row false 2 ai3 x6,.row false 172 abM x7,.row false 2 ai3 x8],[],[RP x0 x1 x2 x3 x4 x5 x6 x7 x8]⟩
 |_,_=>none
def We:PF prog:=PF.ofG prog (T3z [mK,Nn,jn]) [] aV 112 f112 func112 (fun c _=>LOk.nil c) ab7 (by
 intro vs es r h;unfold ab7 at h;split at h
 ·cases h;kernel_rfl
 ·cases h)
section
variable (x0 x1:ByteArray)(x2 x3 x4:List ByteArray)(x5:List (ByteArray×List (Int×ByteArray×Int)))(x6:List Int)(x7:List (Int×Int×Int))(x8:List Int)
def Fc:Bool:=MY x0 x1 x2 x3 x4 x5 x6 x7 x8 !=0
def Ea:Int:=bif Fc x0 x1 x2 x3 x4 x5 x6 x7 x8 then MY x0 x1 x2 x3 x4 x5 x6 x7 x8 else(0:Int)
def Rv:List Int:=bif Fc x0 x1 x2 x3 x4 x5 x6 x7 x8 then []else RS x0 x1 x2 x3 x4 x5 x6 x7 x8
def Wp:List Int:=bif Fc x0 x1 x2 x3 x4 x5 x6 x7 x8 then []else RT x0 x1 x2 x3 x4 x5 x6 x7 x8
def Wq:List (Int×(Int×Int)):=bif Fc x0 x1 x2 x3 x4 x5 x6 x7 x8 then []else RU x0 x1 x2 x3 x4 x5 x6 x7 x8
def Rw:Bool:=allT [RP x0 x1 x2 x3 x4 x5 x6 x7 x8,Fc x0 x1 x2 x3 x4 x5 x6 x7 x8||RW x0 x1 x2 x3 x4 x5 x6 x7 x8]
end
def abT:List SV→List Entry→Option Out
 | [.one ⟨true,[.val (.string x0),.ref 0,.ref 1,.ref 2,.val (.string x1),.ref 3]⟩,.one ⟨true,[.ref 4,.ref 5]⟩,.one ⟨false,[.ref 6]⟩],[.row false 9 (.str) x2,.row false 9 (.str) x3,.row false 9 (.str) x4,.row false 204 (.pair (.str) (.sl 178 (.pair (.int .i64) (.pair (.str) (.int .i64))))) x5,.row false 2 (.int .i64) x6,.row false 172 (.pair (.int .i64) (.pair (.int .i64) (.int .i64))) x7,.row false 2 (.int .i64) x8]=>some ⟨.tup [⟨false,[.ref 7]⟩,⟨true,[.ref 8,.ref 9]⟩,⟨false,[.val (.int .i64 (Ea x0 x1 x2 x3 x4 x5 x6 x7 x8))]⟩],[.row false 9 alP x2,.row false 9 alP x3,.row false 9 alP x4,.row false 204 (CTy.pair CTy.str (CTy.sl (178:TypeId) acQ)) x5,.row false 2 ai3 x6,.row false 172 abM x7,.row false 2 ai3 x8],[.row true 2 ai3 (Rv x0 x1 x2 x3 x4 x5 x6 x7 x8),.row true 2 ai3 (Wp x0 x1 x2 x3 x4 x5 x6 x7 x8),.row true 172 abM (Wq x0 x1 x2 x3 x4 x5 x6 x7 x8)],[Rw x0 x1 x2 x3 x4 x5 x6 x7 x8]⟩
 |_,_=>none
def DP:PF prog:=PF.ofG prog (T3z [We,Rf]) [] aV 40 f40 func40 (fun c _=>LOk.nil c) abT (by
 intro vs es r h;unfold abT at h;split at h
 ·cases h;kernel_rfl
 ·cases h)
abbrev oM:=Int×Int×List Int
section
variable (y0:Int)(y2:List Int)
def Ag:Bool:=ltI y0 (↑y2.length:Int)
def Eb:Bool:=leI 0 y0
def Ec:Bool:=ltN y0.toNat y2.length
def Ed:Bool:=Option.getD y2[Int.toNat y0]? 0!=0
def Ee:Int:=IntKind.wrap .i64 (y0 + (1:Int))
end
def adR:oM→List (Nat×SV)
 |(y0,y1,_)=> [(11,(.one ⟨false,[.val (.int .i64 y0)]⟩)),(8,(.one ⟨false,[.ref 0]⟩)),(10,(.one ⟨false,[.val (.int .i64 y1)]⟩))]
def adJ:oM→List (Nat×Entry)
 |(_,_,y2)=> [(0,(.row true 2 ai3 y2))]
def ad7:Nat→oM→List (Nat×SV)
 |0,(_,y1,_)=> [(6,(.one ⟨false,[.val (.bool false)]⟩)),(7,(.one ⟨false,[.val (.int .i64 y1)]⟩))]
 |_,(_,_,_)=> []
def adZ:Nat→oM→List (Nat×Entry)
 |0,(_,_,y2)=> [(0,(.row true 2 ai3 y2))]
 |_,(_,_,y2)=> [(0,(.row true 2 ai3 y2))]
def Ci:oM→LT oM
 |(y0,y1,y2)=> .ite (Ag y0 y2) (.need [Eb y0,Ag y0 y2,Ec y0 y2] (.ite (Ed y0 y2) (.ext 0 [(0,0)]) (.nrm ((Ee y0),y1,y2) [(0,0)]))) (.ext 1 [(0,0)])
def Ob(s:St):Option oM:=
 (match s.look 11 with
 |some ⟨none,.one ⟨false,[.val (.int .i64 y0)]⟩⟩=>
 (match s.look 8 with
 |some ⟨none,.one ⟨false,[.ref 960]⟩⟩=>
 (match s.look 10 with
 |some ⟨none,.one ⟨false,[.val (.int .i64 y1)]⟩⟩=>
 (match s.ent 960 with
 |some (.row true 2 (.int .i64) y2)=>
 some (y0,y1,y2)
 |_=>none)
 |_=>none)
 |_=>none)
 |_=>none)
def fY:Lp oM where
 h:=⟨[20,21,22,23,26,27,28,29,30,31,6,7,24,25,11],[0],[],[]⟩
 JL:=adR
 JE:=adJ
 XL:=ad7
 XE:=adZ
 q:=fun j=>match j with | 0=> .ret | _=> .exit 0
 tags:= [0,1]
 lt:=Ci
 fuel:=fun(y0,y1,y2)=>y0.natAbs + y1.natAbs + y2.length
 fix:=fun(_,y1,y2) (y0,_,_)=>(y0,y1,y2)
 σ:= [(0,960)]
 rd:=Ob
theorem abF:LoopOk prog (fun k=>Nat.blt k Tryz.f42.ntmps) fY.F (aY f42 0):=by
 refine Lp.ok (tbl:= (T3z [DP])) (lf:= []) aV fY (by kernel_rfl) (LOk.nil _) (fun _=>rfl) (fun j _=>by unfold fY;match j with | 0=>rfl | _ + 1=>rfl) ?_ ?_ ?_ ?_ (fun _=>rfl) ?_
 ·rintro⟨y0,y1,y2⟩;kernel_rfl
 ·rintro⟨y0,y1,y2⟩;kernel_rfl
 ·intro s x h
  have h:Ob s=some x:=h
  unfold Ob at h
  repeat' split at h
  all_goals cases h
  constructor<;>repeat(first|refine ab (by assumption) rfl ?_|refine aa rfl (by assumption) rfl ?_|exact rfl)
 ·rintro⟨y0,y1,y2⟩;kernel_rfl
 ·rintro⟨y0,y1,y2⟩ z;exact(And.intro (And.intro trivial rfl) trivial)
section
variable (x0 x1:ByteArray)(x2 x3 x4:List ByteArray)(x5:List (ByteArray×List (Int×ByteArray×Int)))(x6:List Int)(x7:List (Int×Int×Int))(x8:List Int)
def SR:Int×Int×List Int:=((0:Int),Ea x0 x1 x2 x3 x4 x5 x6 x7 x8,Rv x0 x1 x2 x3 x4 x5 x6 x7 x8)
def ST:Bool:=Nat.beq ((Lp.res fY (SR x0 x1 x2 x3 x4 x5 x6 x7 x8)).1) 0
def Uy:Bool:=bif ST x0 x1 x2 x3 x4 x5 x6 x7 x8 then false else Ea x0 x1 x2 x3 x4 x5 x6 x7 x8==0
def Uz:Int:=bif ST x0 x1 x2 x3 x4 x5 x6 x7 x8 then Ea x0 x1 x2 x3 x4 x5 x6 x7 x8 else Ea x0 x1 x2 x3 x4 x5 x6 x7 x8
def UA:Bool:=allT [Rw x0 x1 x2 x3 x4 x5 x6 x7 x8,Lp.fin fY (SR x0 x1 x2 x3 x4 x5 x6 x7 x8)]
end
def aaN:List SV→List Entry→Option Out
 | [.one ⟨true,[.val (.string x0),.ref 0,.ref 1,.ref 2,.val (.string x1),.ref 3]⟩,.one ⟨true,[.ref 4,.ref 5]⟩,.one ⟨false,[.ref 6]⟩],[.row false 9 (.str) x2,.row false 9 (.str) x3,.row false 9 (.str) x4,.row false 204 (.pair (.str) (.sl 178 (.pair (.int .i64) (.pair (.str) (.int .i64))))) x5,.row false 2 (.int .i64) x6,.row false 172 (.pair (.int .i64) (.pair (.int .i64) (.int .i64))) x7,.row false 2 (.int .i64) x8]=>some ⟨.tup [⟨false,[.val (.bool (Uy x0 x1 x2 x3 x4 x5 x6 x7 x8))]⟩,⟨false,[.val (.int .i64 (Uz x0 x1 x2 x3 x4 x5 x6 x7 x8))]⟩],[.row false 9 alP x2,.row false 9 alP x3,.row false 9 alP x4,.row false 204 (CTy.pair CTy.str (CTy.sl (178:TypeId) acQ)) x5,.row false 2 ai3 x6,.row false 172 abM x7,.row false 2 ai3 x8],[],[UA x0 x1 x2 x3 x4 x5 x6 x7 x8]⟩
 |_,_=>none
def ajh:PF prog:=PF.ofG prog (T3z [DP]) [fY.F] aV 42 f42 func42 (LOk.fnT (l:= [aY f42 0]) (by kernel_rfl) (.cons abF (.nil _))) aaN (by
 intro vs es r h;unfold aaN at h;split at h
 ·cases h;kernel_rfl
 ·cases h)
def mS(x0:List Int)(x1:List (Int×Int×Int)):Bool:=allT [leN x0.length (1048576:Nat),leN x1.length (1048576:Nat)]
def zk:List SV→List Entry→Option Out
 | [.one ⟨true,[.ref 0,.ref 1]⟩],[.row false 2 (.int .i64) x0,.row false 172 (.pair (.int .i64) (.pair (.int .i64) (.int .i64))) x1]=>some ⟨.one ⟨true,[.ref 2,.ref 3]⟩,[.row false 2 ai3 x0,.row false 172 abM x1],[.row true 2 ai3 x0,.row true 172 abM x1],[mS x0 x1]⟩
 |_,_=>none
def zB:PF prog:=PF.ofG prog (T3z [DN,Aa]) [] aV 176 f176 func176 (fun c _=>LOk.nil c) zk (by
 intro vs es r h;unfold zk at h;split at h
 ·cases h;kernel_rfl
 ·cases h)
def BN(x0:List Int)(x3:List ByteArray):Bool:= !bitsB (↑x3.length:Int) x0
def HE(x0:List Int):Bool:=allT [leN x0.length (9223372036854775807:Nat)]
def PZ:List SV→List Entry→Option Out
 | [.one ⟨false,[.ref 0]⟩,.one ⟨false,[.ptr 1 0]⟩],[.row false 2 (.int .i64) x0,.box 63 [.val (.string x1),.ref 2,.ref 3,.ref 4,.val (.string x2),.ref 5],.row false 9 (.str) x3,.row false 9 (.str) x4,.row false 9 (.str) x5,.row false 204 (.pair .str (.sl 178 (.pair (.int .i64) (.pair .str (.int .i64))))) x6]=>some ⟨.one ⟨false,[.val (.bool (BN x0 x3))]⟩,[.row false 2 ai3 x0,.box 63 [.val (.string x1),.ref 2,.ref 3,.ref 4,.val (.string x2),.ref 5],.row false 9 alP x3,.row false 9 alP x4,.row false 9 alP x5,.row false 204 aas x6],[],[HE x0]⟩
 |_,_=>none
def sC:PF prog:=PF.ofG prog (T3z [rh]) [] aV 175 f175 func175 (fun c _=>LOk.nil c) PZ (by
 intro vs es r h;unfold PZ at h;split at h
 ·cases h;kernel_rfl
 ·cases h)
abbrev bI:=Int×Int×ByteArray×ByteArray×List (List Int)×List ByteArray×List ByteArray×List ByteArray×List (ByteArray×(List (Int×(ByteArray×Int))))
section
variable (y0 y1:Int)(y4:List (List Int))(y5:List ByteArray)
def cV:List Int:=Option.getD y4[Int.toNat y0]? (xE ahT)
def jK:Bool:=ltI y0 y1
def nT:Bool:=leI 0 y0
def nU:Bool:=ltI y0 (↑y4.length:Int)
def nV:Bool:=ltN y0.toNat y4.length
def jL:Bool:=HE (cV y0 y4)
def jM:Bool:=BN (cV y0 y4) y5
def sB:Int:=IntKind.wrap .i64 (y0 + (1:Int))
end
def Kp:bI→List (Nat×SV)
 |(y0,y1,_,_,_,_,_,_,_)=> [(8,(.one ⟨false,[.val (.int .i64 y0)]⟩)),(7,(.one ⟨false,[.val (.int .i64 y1)]⟩)),(1,(.one ⟨false,[.clo 175 [0]]⟩)),(0,(.one ⟨false,[.ref 1]⟩))]
def Kn:bI→List (Nat×Entry)
 |(_,_,y2,y3,y4,y5,y6,y7,y8)=> [(0,(.box 63 [.val (.string y2),.ref 2,.ref 3,.ref 4,.val (.string y3),.ref 5])),(1,(.row false 41 ahT y4)),(2,(.row false 9 alP y5)),(3,(.row false 9 alP y6)),(4,(.row false 9 alP y7)),(5,(.row false 204 aas y8))]
def Kt:Nat→bI→List (Nat×SV)
 |0,(y0,_,_,_,_,_,_,_,_)=> [(4,(.one ⟨false,[.val (.int .i64 y0)]⟩))]
 |_,(_,_,_,_,_,_,_,_,_)=> []
def Kr:Nat→bI→List (Nat×Entry)
 |0,(_,_,y2,y3,y4,y5,y6,y7,y8)=> [(0,(.box 63 [.val (.string y2),.ref 2,.ref 3,.ref 4,.val (.string y3),.ref 5])),(1,(.row false 41 ahT y4)),(2,(.row false 9 alP y5)),(3,(.row false 9 alP y6)),(4,(.row false 9 alP y7)),(5,(.row false 204 aas y8))]
 |_,(_,_,y2,y3,y4,y5,y6,y7,y8)=> [(0,(.box 63 [.val (.string y2),.ref 2,.ref 3,.ref 4,.val (.string y3),.ref 5])),(1,(.row false 41 ahT y4)),(2,(.row false 9 alP y5)),(3,(.row false 9 alP y6)),(4,(.row false 9 alP y7)),(5,(.row false 204 aas y8))]
def jm:bI→LT bI
 |(y0,y1,y2,y3,y4,y5,y6,y7,y8)=> .ite (jK y0 y1) (.need [nT y0,nU y0 y4,nV y0 y4,jL y0 y4] (.ite (jM y0 y4 y5) (.ext 0 [(0,0),(1,1),(2,2),(3,3),(4,4),(5,5)]) (.nrm ((sB y0),y1,y2,y3,y4,y5,y6,y7,y8) [(0,0),(1,1),(2,2),(3,3),(4,4),(5,5)]))) (.ext 1 [(0,0),(1,1),(2,2),(3,3),(4,4),(5,5)])
def rR(s:St):Option bI:=
 (match s.look 8 with
 |some ⟨none,.one ⟨false,[.val (.int .i64 y0)]⟩⟩=>
 (match s.look 7 with
 |some ⟨none,.one ⟨false,[.val (.int .i64 y1)]⟩⟩=>
 (match s.look 1 with
 |some ⟨none,.one ⟨false,[.clo 175 [1]]⟩⟩=>
 (match s.look 0 with
 |some ⟨none,.one ⟨false,[.ref 0]⟩⟩=>
 (match s.ent 1 with
 |some (.box 63 [.val (.string y2),.ref 2,.ref 3,.ref 4,.val (.string y3),.ref 5])=>
 (match s.ent 0 with
 |some (.row false 41 (.sl 2 (.int .i64)) y4)=>
 (match s.ent 2 with
 |some (.row false 9 (.str) y5)=>
 (match s.ent 3 with
 |some (.row false 9 (.str) y6)=>
 (match s.ent 4 with
 |some (.row false 9 (.str) y7)=>
 (match s.ent 5 with
 |some (.row false 204 (.pair .str (.sl 178 (.pair (.int .i64) (.pair .str (.int .i64))))) y8)=>
 some (y0,y1,y2,y3,y4,y5,y6,y7,y8)
 |_=>none)
 |_=>none)
 |_=>none)
 |_=>none)
 |_=>none)
 |_=>none)
 |_=>none)
 |_=>none)
 |_=>none)
 |_=>none)
def aw:Lp bI where
 h:=⟨[9,10,5,11,12,13,14,15,16,17,4,18,8],[0,1,2,3,4,5],[],[]⟩
 JL:=Kp
 JE:=Kn
 XL:=Kt
 XE:=Kr
 q:=fun j=>match j with | 0=> .ret | _=> .exit 0
 tags:= [0,1]
 lt:=jm
 fuel:=fun(y0,y1,y2,y3,y4,y5,y6,y7,y8)=>y0.natAbs + y1.natAbs + y2.size + y3.size + y4.length + y5.length + y6.length + y7.length + y8.length
 fix:=fun(_,y1,y2,y3,y4,y5,y6,y7,y8) (y0,_,_,_,_,_,_,_,_)=>(y0,y1,y2,y3,y4,y5,y6,y7,y8)
 σ:= [(0,1),(1,0),(2,2),(3,3),(4,4),(5,5)]
 rd:=rR
theorem Jh:LoopOk prog (fun k=>Nat.blt k Tryz.f217.ntmps) aw.F (aY f217 0):=by
 refine Lp.ok (tbl:= (T3z [sC])) (lf:= []) aV aw (by kernel_rfl) (LOk.nil _) (fun _=>rfl) (fun j _=>by unfold aw;match j with | 0=>rfl | _ + 1=>rfl) ?_ ?_ ?_ ?_ (fun _=>rfl) ?_
 ·rintro⟨y0,y1,y2,y3,y4,y5,y6,y7,y8⟩;kernel_rfl
 ·rintro⟨y0,y1,y2,y3,y4,y5,y6,y7,y8⟩;kernel_rfl
 ·intro s x h
  have h:rR s=some x:=h
  unfold rR at h
  repeat' split at h
  all_goals cases h
  constructor<;>repeat(first|refine ab (by assumption) rfl ?_|refine aa rfl (by assumption) rfl ?_|exact rfl)
 ·rintro⟨y0,y1,y2,y3,y4,y5,y6,y7,y8⟩;kernel_rfl
 ·rintro⟨y0,y1,y2,y3,y4,y5,y6,y7,y8⟩ z;exact(And.intro (And.intro trivial rfl) trivial)
section
variable (x0:List (List Int))(x1 x2:ByteArray)(x3 x4 x5:List ByteArray)(x6:List (ByteArray×List (Int×ByteArray×Int)))
def kZ:Int×Int×ByteArray×ByteArray×List (List Int)×List ByteArray×List ByteArray×List ByteArray×List (ByteArray×List (Int×ByteArray×Int)):=((0:Int),(↑x0.length:Int),x1,x2,x0,x3,x4,x5,x6)
def po:Bool:=Nat.beq ((Lp.res aw (kZ x0 x1 x2 x3 x4 x5 x6)).1) 0
def vb:Int:=bif po x0 x1 x2 x3 x4 x5 x6 then ((Lp.res aw (kZ x0 x1 x2 x3 x4 x5 x6)).2).1else(-1:Int)
def Co:ByteArray:=bif po x0 x1 x2 x3 x4 x5 x6 then x1 else x1
def Cp:ByteArray:=bif po x0 x1 x2 x3 x4 x5 x6 then x2 else x2
def vc:Bool:=allT [Lp.fin aw (kZ x0 x1 x2 x3 x4 x5 x6)]
end
def Cc:List SV→List Entry→Option Out
 | [.one ⟨false,[.ref 0]⟩,.one ⟨false,[.clo 175 [1]]⟩],[.row false 41 (.sl 2 (.int .i64)) x0,.box 63 [.val (.string x1),.ref 2,.ref 3,.ref 4,.val (.string x2),.ref 5],.row false 9 (.str) x3,.row false 9 (.str) x4,.row false 9 (.str) x5,.row false 204 (.pair .str (.sl 178 (.pair (.int .i64) (.pair .str (.int .i64))))) x6]=>some ⟨.one ⟨false,[.val (.int .i64 (vb x0 x1 x2 x3 x4 x5 x6))]⟩,[.row false 41 ahT x0,.box 63 [.val (.string (Co x0 x1 x2 x3 x4 x5 x6)),.ref 2,.ref 3,.ref 4,.val (.string (Cp x0 x1 x2 x3 x4 x5 x6)),.ref 5],.row false 9 alP x3,.row false 9 alP x4,.row false 9 alP x5,.row false 204 aas x6],[],[vc x0 x1 x2 x3 x4 x5 x6]⟩
 |_,_=>none
def uZ:PF prog:=PF.ofG prog (T3z [sC]) [aw.F] aV 217 f217 func217 (LOk.fnT (l:= [aY f217 0]) (by kernel_rfl) (.cons Jh (.nil _))) Cc (by
 intro vs es r h;unfold Cc at h;split at h
 ·cases h;kernel_rfl
 ·cases h)
section
variable (x0:List (List Int))(x1 x2:ByteArray)(x3 x4 x5:List ByteArray)(x6:List (ByteArray×List (Int×ByteArray×Int)))
def nP:Bool:=leI 0 (vb x0 x1 x2 x3 x4 x5 x6)
def LA:ByteArray:=Co x0 x1 x2 x3 x4 x5 x6
def LB:ByteArray:=Cp x0 x1 x2 x3 x4 x5 x6
def nQ:Bool:=allT [vc x0 x1 x2 x3 x4 x5 x6]
end
def Ax:List SV→List Entry→Option Out
 | [.one ⟨false,[.ref 0]⟩,.one ⟨false,[.clo 175 [1]]⟩],[.row false 41 (.sl 2 (.int .i64)) x0,.box 63 [.val (.string x1),.ref 2,.ref 3,.ref 4,.val (.string x2),.ref 5],.row false 9 (.str) x3,.row false 9 (.str) x4,.row false 9 (.str) x5,.row false 204 (.pair .str (.sl 178 (.pair (.int .i64) (.pair .str (.int .i64))))) x6]=>some ⟨.one ⟨false,[.val (.bool (nP x0 x1 x2 x3 x4 x5 x6))]⟩,[.row false 41 ahT x0,.box 63 [.val (.string (LA x0 x1 x2 x3 x4 x5 x6)),.ref 2,.ref 3,.ref 4,.val (.string (LB x0 x1 x2 x3 x4 x5 x6)),.ref 5],.row false 9 alP x3,.row false 9 alP x4,.row false 9 alP x5,.row false 204 aas x6],[],[nQ x0 x1 x2 x3 x4 x5 x6]⟩
 |_,_=>none
def sy:PF prog:=PF.ofG prog (T3z [uZ]) [] aV 163 f163 func163 (fun c _=>LOk.nil c) Ax (by
 intro vs es r h;unfold Ax at h;split at h
 ·cases h;kernel_rfl
 ·cases h)
def OK(x0 x1:ByteArray)(x2 x3 x4:List ByteArray)(x5:List (ByteArray×List (Int×ByteArray×Int)))(x6:List Int)(x7:List (Int×Int×Int))(x8:List (List Int)):Int:=bif !jH x0 x2 x3 x4 x1 x5 then(1:Int)else bif bif !zh (↑x3.length:Int) (blL x5) x6 x7 then true else nP x8 x0 x1 x2 x3 x4 x5 then(2:Int)else(0:Int)
def OL(x0 x1:ByteArray)(x2 x3 x4:List ByteArray)(x5:List (ByteArray×List (Int×ByteArray×Int)))(x6:List Int)(x7:List (Int×Int×Int))(x8:List (List Int)):Bool:=allT [NR x0 x2 x3 x4 x1 x5,!jH x0 x2 x3 x4 x1 x5||TL x5,!jH x0 x2 x3 x4 x1 x5||leN x6.length (9223372036854775807:Nat)&&(leN (List.length (blL x5)) 9223372036854775807&&aa6 (blL x5)),!jH x0 x2 x3 x4 x1 x5||(!(!!zh (↑x3.length:Int) (blL x5) x6 x7&&true)||nQ x8 x0 x1 x2 x3 x4 x5)]
def aaK:List SV→List Entry→Option Out
 | [.one ⟨true,[.val (.string x0),.ref 0,.ref 1,.ref 2,.val (.string x1),.ref 3]⟩,.one ⟨true,[.ref 4,.ref 5]⟩,.one ⟨false,[.ref 6]⟩],[.row false 9 (.str) x2,.row false 9 (.str) x3,.row false 9 (.str) x4,.row false 204 (.pair (.str) (.sl 178 (.pair (.int .i64) (.pair (.str) (.int .i64))))) x5,.row false 2 (.int .i64) x6,.row false 172 (.pair (.int .i64) (.pair (.int .i64) (.int .i64))) x7,.row false 41 (.sl 2 (.int .i64)) x8]=>some ⟨.one ⟨false,[.val (.int .i64 (OK x0 x1 x2 x3 x4 x5 x6 x7 x8))]⟩,[.row false 9 alP x2,.row false 9 alP x3,.row false 9 alP x4,.row false 204 (CTy.pair CTy.str (CTy.sl (178:TypeId) acQ)) x5,.row false 2 ai3 x6,.row false 172 abM x7,.row false 41 (CTy.sl (2:TypeId) ai3) x8],[],[OL x0 x1 x2 x3 x4 x5 x6 x7 x8]⟩
 |_,_=>none
def OP:PF prog:=PF.ofG prog (T3z [xZ,cp,bS,sy]) [] aV 110 f110 func110 (fun c _=>LOk.nil c) aaK (by
 intro vs es r h;unfold aaK at h;split at h
 ·cases h;kernel_rfl
 ·cases h)
abbrev ee:=Int×Int×Int×List Int
section
variable (y0 y1 y2:Int)(y3:List Int)
def qz:Bool:=ltI y0 y1
def qA:Bool:=leI 0 y0
def qB:Bool:=ltI y0 (↑y3.length:Int)
def qC:Bool:=ltN y0.toNat y3.length
def qD:Bool:=y2==Option.getD y3[Int.toNat y0]? 0
def qE:Int:=IntKind.wrap .i64 (y0 + (1:Int))
end
def SC:ee→List (Nat×SV)
 |(y0,y1,y2,_)=> [(8,(.one ⟨false,[.val (.int .i64 y0)]⟩)),(7,(.one ⟨false,[.val (.int .i64 y1)]⟩)),(1,(.one ⟨false,[.val (.int .i64 y2)]⟩)),(0,(.one ⟨false,[.ref 0]⟩))]
def SB:ee→List (Nat×Entry)
 |(_,_,_,y3)=> [(0,(.row false 2 ai3 y3))]
def SE:Nat→ee→List (Nat×SV)
 |0,(y0,_,_,_)=> [(4,(.one ⟨false,[.val (.int .i64 y0)]⟩))]
 |_,(_,_,_,_)=> []
def SD:Nat→ee→List (Nat×Entry)
 |0,(_,_,_,y3)=> [(0,(.row false 2 ai3 y3))]
 |_,(_,_,_,y3)=> [(0,(.row false 2 ai3 y3))]
def pY:ee→LT ee
 |(y0,y1,y2,y3)=> .ite (qz y0 y1) (.need [qA y0,qB y0 y3,qC y0 y3] (.ite (qD y0 y2 y3) (.ext 0 [(0,0)]) (.nrm ((qE y0),y1,y2,y3) [(0,0)]))) (.ext 1 [(0,0)])
def Ae(s:St):Option ee:=
 (match s.look 8 with
 |some ⟨none,.one ⟨false,[.val (.int .i64 y0)]⟩⟩=>
 (match s.look 7 with
 |some ⟨none,.one ⟨false,[.val (.int .i64 y1)]⟩⟩=>
 (match s.look 1 with
 |some ⟨none,.one ⟨false,[.val (.int .i64 y2)]⟩⟩=>
 (match s.look 0 with
 |some ⟨none,.one ⟨false,[.ref 0]⟩⟩=>
 (match s.ent 0 with
 |some (.row false 2 (.int .i64) y3)=>
 some (y0,y1,y2,y3)
 |_=>none)
 |_=>none)
 |_=>none)
 |_=>none)
 |_=>none)
def bj:Lp ee where
 h:=⟨[9,10,5,11,12,13,14,15,16,17,4,18,8],[0],[],[]⟩
 JL:=SC
 JE:=SB
 XL:=SE
 XE:=SD
 q:=fun j=>match j with | 0=> .ret | _=> .exit 0
 tags:= [0,1]
 lt:=pY
 fuel:=fun(y0,y1,y2,y3)=>y0.natAbs + y1.natAbs + y2.natAbs + y3.length
 fix:=fun(_,y1,y2,y3) (y0,_,_,_)=>(y0,y1,y2,y3)
 σ:= [(0,0)]
 rd:=Ae
theorem QW:LoopOk prog (fun k=>Nat.blt k Tryz.f182.ntmps) bj.F (aY f182 0):=by
 refine Lp.ok (tbl:= []) (lf:= []) aV bj (by kernel_rfl) (LOk.nil _) (fun _=>rfl) (fun j _=>by unfold bj;match j with | 0=>rfl | _ + 1=>rfl) ?_ ?_ ?_ ?_ (fun _=>rfl) ?_
 ·rintro⟨y0,y1,y2,y3⟩;kernel_rfl
 ·rintro⟨y0,y1,y2,y3⟩;kernel_rfl
 ·intro s x h
  have h:Ae s=some x:=h
  unfold Ae at h
  repeat' split at h
  all_goals cases h
  constructor<;>repeat(first|refine ab (by assumption) rfl ?_|refine aa rfl (by assumption) rfl ?_|exact rfl)
 ·rintro⟨y0,y1,y2,y3⟩;kernel_rfl
 ·rintro⟨y0,y1,y2,y3⟩ z;exact(And.intro (And.intro trivial rfl) trivial)
section
variable (x0:Int)(x1:List Int)
def sx:Int×Int×Int×List Int:=((0:Int),(↑x1.length:Int),x0,x1)
def DY:Int:=bif Nat.beq ((Lp.res bj (sx x0 x1)).1) 0 then ((Lp.res bj (sx x0 x1)).2).1else(-1:Int)
def DZ:Bool:=allT [Lp.fin bj (sx x0 x1)]
end
def LP:List SV→List Entry→Option Out
 | [.one ⟨false,[.ref 0]⟩,.one ⟨false,[.val (.int .i64 x0)]⟩],[.row false 2 (.int .i64) x1]=>some ⟨.one ⟨false,[.val (.int .i64 (DY x0 x1))]⟩,[.row false 2 ai3 x1],[],[DZ x0 x1]⟩
 |_,_=>none
def DO:PF prog:=PF.ofG prog [] [bj.F] aV 182 f182 func182 (LOk.fnT (l:= [aY f182 0]) (by kernel_rfl) (.cons QW (.nil _))) LP (by
 intro vs es r h;unfold LP at h;split at h
 ·cases h;kernel_rfl
 ·cases h)
def vC(x0:Int)(x1:List Int):Bool:=leI 0 (DY x0 x1)
def vD(x0:Int)(x1:List Int):Bool:=allT [DZ x0 x1]
def IK:List SV→List Entry→Option Out
 | [.one ⟨false,[.ref 0]⟩,.one ⟨false,[.val (.int .i64 x0)]⟩],[.row false 2 (.int .i64) x1]=>some ⟨.one ⟨false,[.val (.bool (vC x0 x1))]⟩,[.row false 2 ai3 x1],[],[vD x0 x1]⟩
 |_,_=>none
def AR:PF prog:=PF.ofG prog (T3z [DO]) [] aV 114 f114 func114 (fun c _=>LOk.nil c) IK (by
 intro vs es r h;unfold IK at h;split at h
 ·cases h;kernel_rfl
 ·cases h)
section
variable (x0 x1 x2:ByteArray)(x3:Int)(x4 x5:List ByteArray)(x8:List Int)(x9:List (Int×Int×Int))(x10 x11:List Int)
def kM:Int:=bif leI 0 (gW x4 x0)then Option.getD x10[Int.toNat (gW x4 x0)]? 0 else Option.getD x8[Int.toNat (gW x5 x0)]? 0
def HG:ByteArray:=bif leI 0 (gW x4 x0)then x1 else x1
def HH:ByteArray:=bif leI 0 (gW x4 x0)then x2 else x2
def HI:Int:=bif leI 0 (gW x4 x0)then x3 else x3
def pU:List Int:=bif leI 0 (gW x4 x0)then x8 else x8
def pV:List (Int×(Int×Int)):=bif leI 0 (gW x4 x0)then x9 else x9
def pW:List Int:=bif leI 0 (gW x4 x0)then x11 else x11
def kN:Bool:=allT [leN x4.length (9223372036854775807:Nat),!leI 0 (gW x4 x0)||leI 0 (gW x4 x0),!leI 0 (gW x4 x0)||ltI (gW x4 x0) (↑x10.length:Int),!leI 0 (gW x4 x0)||ltN (Int.toNat (gW x4 x0)) x10.length,leI 0 (gW x4 x0)||leN x5.length (9223372036854775807:Nat),leI 0 (gW x4 x0)||leI 0 (gW x5 x0),leI 0 (gW x4 x0)||ltI (gW x5 x0) (↑x8.length:Int),leI 0 (gW x4 x0)||ltN (Int.toNat (gW x5 x0)) x8.length]
end
def wL:List SV→List Entry→Option Out
 | [.one ⟨false,[.ptr 0 0]⟩,.one ⟨false,[.val (.string x0)]⟩],[.box 202 [.val (.string x1),.ref 1,.ref 2,.ref 3,.val (.string x2),.ref 4,.ref 5,.ref 6,.ref 7,.ref 8,.val (.int .i64 x3)],.row false 9 (.str) x4,.row false 9 (.str) x5,.row false 9 (.str) x6,.row false 204 (.pair (.str) (.sl 178 (.pair (.int .i64) (.pair (.str) (.int .i64))))) x7,.row true 2 (.int .i64) x8,.row true 172 (.pair (.int .i64) (.pair (.int .i64) (.int .i64))) x9,.row false 2 (.int .i64) x10,.row true 2 (.int .i64) x11]=>some ⟨.one ⟨false,[.val (.int .i64 (kM x0 x4 x5 x8 x10))]⟩,[.box 202 [.val (.string (HG x0 x1 x4)),.ref 1,.ref 2,.ref 3,.val (.string (HH x0 x2 x4)),.ref 4,.ref 5,.ref 6,.ref 7,.ref 8,.val (.int .i64 (HI x0 x3 x4))],.row false 9 alP x4,.row false 9 alP x5,.row false 9 alP x6,.row false 204 (CTy.pair CTy.str (CTy.sl (178:TypeId) acQ)) x7,.row true 2 ai3 (pU x0 x4 x8),.row true 172 abM (pV x0 x4 x9),.row false 2 ai3 x10,.row true 2 ai3 (pW x0 x4 x11)],[],[kN x0 x4 x5 x8 x10]⟩
 |_,_=>none
def wY:PF prog:=PF.ofG prog [lm] [] aV 178 f178 func178 (fun c _=>LOk.nil c) wL (by
 intro vs es r h;unfold wL at h;split at h
 ·cases h;kernel_rfl
 ·cases h)
section
variable (x0 x1 x2:ByteArray)(x3:Int)(x4 x5:List ByteArray)(x8:List Int)(x9:List (Int×Int×Int))(x10:List Int)
def pO:Int:=bif leI 0 (gW x4 x0)then Option.getD x10[Int.toNat (gW x4 x0)]? 0 else Option.getD x8[Int.toNat (gW x5 x0)]? 0
def pP:ByteArray:=bif leI 0 (gW x4 x0)then x1 else x1
def pQ:ByteArray:=bif leI 0 (gW x4 x0)then x2 else x2
def pR:Int:=bif leI 0 (gW x4 x0)then x3 else x3
def pS:List (Int×(Int×Int)):=bif leI 0 (gW x4 x0)then x9 else x9
def pT:Bool:=allT [leN x4.length (9223372036854775807:Nat),!leI 0 (gW x4 x0)||leI 0 (gW x4 x0),!leI 0 (gW x4 x0)||ltI (gW x4 x0) (↑x10.length:Int),!leI 0 (gW x4 x0)||ltN (Int.toNat (gW x4 x0)) x10.length,leI 0 (gW x4 x0)||leN x5.length (9223372036854775807:Nat),leI 0 (gW x4 x0)||leI 0 (gW x5 x0),leI 0 (gW x4 x0)||ltI (gW x5 x0) (↑x8.length:Int),leI 0 (gW x4 x0)||ltN (Int.toNat (gW x5 x0)) x8.length]
end
def wK:List SV→List Entry→Option Out
 | [.one ⟨false,[.ptr 0 0]⟩,.one ⟨false,[.val (.string x0)]⟩],[.box 202 [.val (.string x1),.ref 1,.ref 2,.ref 3,.val (.string x2),.ref 4,.ref 5,.ref 6,.ref 7,.ref 8,.val (.int .i64 x3)],.row false 9 (.str) x4,.row false 9 (.str) x5,.row false 9 (.str) x6,.row false 204 (.pair (.str) (.sl 178 (.pair (.int .i64) (.pair (.str) (.int .i64))))) x7,.row false 2 (.int .i64) x8,.row true 172 (.pair (.int .i64) (.pair (.int .i64) (.int .i64))) x9,.row false 2 (.int .i64) x10,.row false 2 (.int .i64) x11]=>some ⟨.one ⟨false,[.val (.int .i64 (pO x0 x4 x5 x8 x10))]⟩,[.box 202 [.val (.string (pP x0 x1 x4)),.ref 1,.ref 2,.ref 3,.val (.string (pQ x0 x2 x4)),.ref 4,.ref 5,.ref 6,.ref 7,.ref 8,.val (.int .i64 (pR x0 x3 x4))],.row false 9 alP x4,.row false 9 alP x5,.row false 9 alP x6,.row false 204 (CTy.pair CTy.str (CTy.sl (178:TypeId) acQ)) x7,.row false 2 ai3 x8,.row true 172 abM (pS x0 x4 x9),.row false 2 ai3 x10,.row false 2 ai3 x11],[],[pT x0 x4 x5 x8 x10]⟩
 |_,_=>none
def HM:PF prog:=PF.ofG prog [lm] [] aV 178 f178 func178 (fun c _=>LOk.nil c) wK (by
 intro vs es r h;unfold wK at h;split at h
 ·cases h;kernel_rfl
 ·cases h)
section
variable (x0 x2 x5:Int)(x6:List Int)(x12:List (Int×Int×Int))
def az:Int×Int×Int:=Option.getD x12[Int.toNat x5]? ((0:Int),(0:Int),(0:Int))
def qp:Int:=Fq x0 x2 ((az x5 x12).1) (((az x5 x12).2).1) ((az x5 x12).2.2) x6
def qq:Int:=IntKind.wrap .i64 (x5 + (1:Int))
def qr:List (Int×(Int×Int)):=List.set x12 x5.toNat (CY x0 x2 ((az x5 x12).1) (((az x5 x12).2).1) ((az x5 x12).2.2) x6,CZ x0 (((az x5 x12).2).1) ((az x5 x12).2.2) x6,Da x0 x2 ((az x5 x12).1) (((az x5 x12).2).1) ((az x5 x12).2.2) x6)
def qs:Bool:=allT [leI 0 x5,ltI x5 (↑x12.length:Int),ltN x5.toNat x12.length,Fr x6,leI 0 x5,ltI x5 (↑x12.length:Int),ltN x5.toNat x12.length]
end
def xJ:List SV→List Entry→Option Out
 | [.one ⟨false,[.ptr 0 0]⟩,.one ⟨true,[.val (.int .i64 x0),.val (.string _x1),.val (.int .i64 x2)]⟩,.one ⟨false,[.ref 1]⟩],[.box 202 [.val (.string x3),.ref 2,.ref 3,.ref 4,.val (.string x4),.ref 5,.ref 6,.ref 7,.ref 8,.ref 9,.val (.int .i64 x5)],.row false 2 (.int .i64) x6,.row false 9 (.str) x7,.row false 9 (.str) x8,.row false 9 (.str) x9,.row false 204 (.pair (.str) (.sl 178 (.pair (.int .i64) (.pair (.str) (.int .i64))))) x10,.row false 2 (.int .i64) x11,.row true 172 (.pair (.int .i64) (.pair (.int .i64) (.int .i64))) x12,.row false 2 (.int .i64) x13,.row false 2 (.int .i64) x14]=>some ⟨.one ⟨false,[.val (.int .i64 (qp x0 x2 x5 x6 x12))]⟩,[.box 202 [.val (.string x3),.ref 2,.ref 3,.ref 4,.val (.string x4),.ref 5,.ref 6,.ref 7,.ref 8,.ref 9,.val (.int .i64 (qq x5))],.row false 2 ai3 x6,.row false 9 alP x7,.row false 9 alP x8,.row false 9 alP x9,.row false 204 (CTy.pair CTy.str (CTy.sl (178:TypeId) acQ)) x10,.row false 2 ai3 x11,.row true 172 abM (qr x0 x2 x5 x6 x12),.row false 2 ai3 x13,.row false 2 ai3 x14],[],[qs x5 x6 x12]⟩
 |_,_=>none
def IH:PF prog:=PF.ofG prog [anR] [] aV 256 f256 func256 (fun c _=>LOk.nil c) xJ (by
 intro vs es r h;unfold xJ at h;split at h
 ·cases h;kernel_rfl
 ·cases h)
section
variable (x0:Int)(x1:ByteArray)(x2:Int)(x3 x4:ByteArray)(x5:Int)(x6:List Int)(x7 x8:List ByteArray)(x11:List Int)(x12:List (Int×Int×Int))(x13:List Int)
def kL:Int:=Option.getD x6[Int.toNat 0]? 0
def cq:Int:=bif x0==1 then pO x1 x7 x8 x11 x13 else bif x0==2 then(1:Int)else bif x0==3 then(0:Int)else bif x0==4 then IntKind.wrap .i64 ((1:Int) - kL x6)else bif x0==5 then IntKind.wrap .i64 (↑(BitVec.toNat (BitVec.ofInt (IntKind.bits IntKind.i64) (kL x6)&&& BitVec.ofInt (IntKind.bits IntKind.i64) (Option.getD x6[Int.toNat 1]? 0))):Int)else bif x0==6 then IntKind.wrap .i64 (↑(BitVec.toNat (BitVec.ofInt (IntKind.bits IntKind.i64) (kL x6)||| BitVec.ofInt (IntKind.bits IntKind.i64) (Option.getD x6[Int.toNat 1]? 0))):Int)else qp x0 x2 x5 x6 x12
def gK:ByteArray:=bif x0==1 then pP x1 x3 x7 else bif x0==2 then x3 else bif x0==3 then x3 else bif x0==4 then x3 else bif x0==5 then x3 else bif x0==6 then x3 else x3
def gL:ByteArray:=bif x0==1 then pQ x1 x4 x7 else bif x0==2 then x4 else bif x0==3 then x4 else bif x0==4 then x4 else bif x0==5 then x4 else bif x0==6 then x4 else x4
def bf:Int:=bif x0==1 then pR x1 x5 x7 else bif x0==2 then x5 else bif x0==3 then x5 else bif x0==4 then x5 else bif x0==5 then x5 else bif x0==6 then x5 else qq x5
def bg:List (Int×(Int×Int)):=bif x0==1 then pS x1 x7 x12 else bif x0==2 then x12 else bif x0==3 then x12 else bif x0==4 then x12 else bif x0==5 then x12 else bif x0==6 then x12 else qr x0 x2 x5 x6 x12
def bh:Bool:=allT [!x0==1||pT x1 x7 x8 x11 x13,x0==1||(x0==2||(x0==3||(!x0==4||leI 0 0))),x0==1||(x0==2||(x0==3||(!x0==4||ltI 0 (↑x6.length:Int)))),x0==1||(x0==2||(x0==3||(!x0==4||ltN (Int.toNat 0) x6.length))),x0==1||(x0==2||(x0==3||(x0==4||(!x0==5||leI 0 0)))),x0==1||(x0==2||(x0==3||(x0==4||(!x0==5||ltI 0 (↑x6.length:Int))))),x0==1||(x0==2||(x0==3||(x0==4||(!x0==5||ltN (Int.toNat 0) x6.length)))),x0==1||(x0==2||(x0==3||(x0==4||(!x0==5||leI 0 1)))),x0==1||(x0==2||(x0==3||(x0==4||(!x0==5||ltI 1 (↑x6.length:Int))))),x0==1||(x0==2||(x0==3||(x0==4||(!x0==5||ltN (Int.toNat 1) x6.length)))),x0==1||(x0==2||(x0==3||(x0==4||(x0==5||(!x0==6||leI 0 0))))),x0==1||(x0==2||(x0==3||(x0==4||(x0==5||(!x0==6||ltI 0 (↑x6.length:Int)))))),x0==1||(x0==2||(x0==3||(x0==4||(x0==5||(!x0==6||ltN (Int.toNat 0) x6.length))))),x0==1||(x0==2||(x0==3||(x0==4||(x0==5||(!x0==6||leI 0 1))))),x0==1||(x0==2||(x0==3||(x0==4||(x0==5||(!x0==6||ltI 1 (↑x6.length:Int)))))),x0==1||(x0==2||(x0==3||(x0==4||(x0==5||(!x0==6||ltN (Int.toNat 1) x6.length))))),x0==1||(x0==2||(x0==3||(x0==4||(x0==5||(x0==6||qs x5 x6 x12)))))]
end
def xL:List SV→List Entry→Option Out
 | [.one ⟨false,[.ptr 0 0]⟩,.one ⟨true,[.val (.int .i64 x0),.val (.string x1),.val (.int .i64 x2)]⟩,.one ⟨false,[.ref 1]⟩],[.box 202 [.val (.string x3),.ref 2,.ref 3,.ref 4,.val (.string x4),.ref 5,.ref 6,.ref 7,.ref 8,.ref 9,.val (.int .i64 x5)],.row false 2 (.int .i64) x6,.row false 9 (.str) x7,.row false 9 (.str) x8,.row false 9 (.str) x9,.row false 204 (.pair (.str) (.sl 178 (.pair (.int .i64) (.pair (.str) (.int .i64))))) x10,.row false 2 (.int .i64) x11,.row true 172 (.pair (.int .i64) (.pair (.int .i64) (.int .i64))) x12,.row false 2 (.int .i64) x13,.row false 2 (.int .i64) x14]=>some ⟨.one ⟨false,[.val (.int .i64 (cq x0 x1 x2 x5 x6 x7 x8 x11 x12 x13))]⟩,[.box 202 [.val (.string (gK x0 x1 x3 x7)),.ref 2,.ref 3,.ref 4,.val (.string (gL x0 x1 x4 x7)),.ref 5,.ref 6,.ref 7,.ref 8,.ref 9,.val (.int .i64 (bf x0 x1 x5 x7))],.row false 2 ai3 x6,.row false 9 alP x7,.row false 9 alP x8,.row false 9 alP x9,.row false 204 (CTy.pair CTy.str (CTy.sl (178:TypeId) acQ)) x10,.row false 2 ai3 x11,.row true 172 abM (bg x0 x1 x2 x5 x6 x7 x12),.row false 2 ai3 x13,.row false 2 ai3 x14],[],[bh x0 x1 x5 x6 x7 x8 x11 x12 x13]⟩
 |_,_=>none
def xN:PF prog:=PF.ofG prog [HM,IH] [] aV 223 f223 func223 (fun c _=>LOk.nil c) xL (by
 intro vs es r h;unfold xL at h;split at h
 ·cases h;kernel_rfl
 ·cases h)
abbrev bP:=Int×Int×List (Int×(ByteArray×Int))×List Int×ByteArray×ByteArray×Int×List ByteArray×List ByteArray×List ByteArray×List (ByteArray×(List (Int×(ByteArray×Int))))×List Int×List (Int×(Int×Int))×List Int×List Int
section
variable (y0 y1:Int)(y2:List (Int×(ByteArray×Int)))(y3:List Int)(y4 y5:ByteArray)(y6:Int)(y7 y8:List ByteArray)(y11:List Int)(y12:List (Int×(Int×Int)))(y13:List Int)
def ac:Int×ByteArray×Int:=Option.getD y2[Int.toNat y0]? ((0:Int),ByteArray.empty,(0:Int))
def aM:Int:=IntKind.wrap .i64 ((↑y3.length:Int) - tR ((ac y0 y2).1))
def ft:List Int:= [cq ((ac y0 y2).1) (((ac y0 y2).2).1) ((ac y0 y2).2.2) y6 (List.drop (Int.toNat (aM y0 y2 y3)) y3) y7 y8 y11 y12 y13]
def fH:Bool:=ltI y0 y1
def fI:Bool:=leI 0 y0
def fJ:Bool:=ltI y0 (↑y2.length:Int)
def fK:Bool:=ltN y0.toNat y2.length
def dL:Bool:=leI 0 (aM y0 y2 y3)
def dM:Bool:=leI (aM y0 y2 y3) (↑y3.length:Int)
def fL:Bool:=leN (Int.toNat (aM y0 y2 y3)) y3.length
def fM:Bool:=bh ((ac y0 y2).1) (((ac y0 y2).2).1) y6 (List.drop (Int.toNat (aM y0 y2 y3)) y3) y7 y8 y11 y12 y13
def fN:Bool:=leN (List.length (List.take (Int.toNat (aM y0 y2 y3)) y3) + List.length (ft y0 y2 y3 y6 y7 y8 y11 y12 y13)) 9223372036854775807
def fO:Bool:=leN ((List.length (List.take (Int.toNat (aM y0 y2 y3)) y3) + List.length (ft y0 y2 y3 y6 y7 y8 y11 y12 y13)) * 8) 140737488355328
def fj:Int:=IntKind.wrap .i64 (y0 + (1:Int))
def fk:List Int:=List.take (Int.toNat (aM y0 y2 y3)) y3++ft y0 y2 y3 y6 y7 y8 y11 y12 y13
def fl:ByteArray:=gK ((ac y0 y2).1) (((ac y0 y2).2).1) y4 y7
def fm:ByteArray:=gL ((ac y0 y2).1) (((ac y0 y2).2).1) y5 y7
def fo:Int:=bf ((ac y0 y2).1) (((ac y0 y2).2).1) y6 y7
def fq:List (Int×(Int×Int)):=bg ((ac y0 y2).1) (((ac y0 y2).2).1) ((ac y0 y2).2.2) y6 (List.drop (Int.toNat (aM y0 y2 y3)) y3) y7 y12
end
def Fk:bP→List (Nat×SV)
 |(y0,y1,_,_,_,_,_,_,_,_,_,_,_,_,_)=> [(13,(.one ⟨false,[.val (.int .i64 y0)]⟩)),(12,(.one ⟨false,[.val (.int .i64 y1)]⟩)),(11,(.one ⟨false,[.ref 0]⟩)),(4,(.one ⟨false,[.ref 1]⟩)),(0,(.one ⟨false,[.ptr 2 0]⟩))]
def Fj:bP→List (Nat×Entry)
 |(_,_,y2,y3,y4,y5,y6,y7,y8,y9,y10,y11,y12,y13,y14)=> [(0,(.row false 178 acQ y2)),(2,(.box 202 [.val (.string y4),.ref 3,.ref 4,.ref 5,.val (.string y5),.ref 6,.ref 7,.ref 8,.ref 9,.ref 10,.val (.int .i64 y6)])),(3,(.row false 9 alP y7)),(4,(.row false 9 alP y8)),(5,(.row false 9 alP y9)),(6,(.row false 204 aas y10)),(7,(.row true 2 ai3 y11)),(8,(.row true 172 abM y12)),(9,(.row false 2 ai3 y13)),(10,(.row true 2 ai3 y14)),(1,(.row true 2 ai3 y3))]
def Fm:Nat→bP→List (Nat×SV)
 |_,(_,_,_,_,_,_,_,_,_,_,_,_,_,_,_)=> [(4,(.one ⟨false,[.ref 1]⟩))]
def Fl:Nat→bP→List (Nat×Entry)
 |_,(_,_,y2,y3,y4,y5,y6,y7,y8,y9,y10,y11,y12,y13,y14)=> [(0,(.row false 178 acQ y2)),(1,(.row true 2 ai3 y3)),(2,(.box 202 [.val (.string y4),.ref 3,.ref 4,.ref 5,.val (.string y5),.ref 6,.ref 7,.ref 8,.ref 9,.ref 10,.val (.int .i64 y6)])),(3,(.row false 9 alP y7)),(4,(.row false 9 alP y8)),(5,(.row false 9 alP y9)),(6,(.row false 204 aas y10)),(7,(.row true 2 ai3 y11)),(8,(.row true 172 abM y12)),(9,(.row false 2 ai3 y13)),(10,(.row true 2 ai3 y14))]
def fw:bP→LT bP
 |(y0,y1,y2,y3,y4,y5,y6,y7,y8,y9,y10,y11,y12,y13,y14)=> .ite (fH y0 y1) (.need [fI y0,fJ y0 y2,fK y0 y2] (.need [dL y0 y2 y3,dM y0 y2 y3,fL y0 y2 y3,fM y0 y2 y3 y6 y7 y8 y11 y12 y13] (.need [dL y0 y2 y3,dM y0 y2 y3,fN y0 y2 y3 y6 y7 y8 y11 y12 y13,fO y0 y2 y3 y6 y7 y8 y11 y12 y13] (.nrm ((fj y0),y1,y2,fk y0 y2 y3 y6 y7 y8 y11 y12 y13,fl y0 y2 y4 y7,fm y0 y2 y5 y7,fo y0 y2 y6 y7,y7,y8,y9,y10,y11,fq y0 y2 y3 y6 y7 y12,y13,y14) [(0,0),(1,1600),(2,2),(3,3),(4,4),(5,5),(6,6),(7,7),(8,8),(9,9),(10,10)])))) (.ext 0 [(0,0),(1,1),(2,2),(3,3),(4,4),(5,5),(6,6),(7,7),(8,8),(9,9),(10,10)])
def ot(s:St):Option bP:=
 (match s.look 13 with
 |some ⟨none,.one ⟨false,[.val (.int .i64 y0)]⟩⟩=>
 (match s.look 12 with
 |some ⟨none,.one ⟨false,[.val (.int .i64 y1)]⟩⟩=>
 (match s.look 11 with
 |some ⟨none,.one ⟨false,[.ref 1]⟩⟩=>
 (match s.look 4 with
 |some ⟨none,.one ⟨false,[.ref 768]⟩⟩=>
 (match s.look 0 with
 |some ⟨none,.one ⟨false,[.ptr 0 0]⟩⟩=>
 (match s.ent 1 with
 |some (.row false 178 (.pair (.int .i64) (.pair .str (.int .i64))) y2)=>
 (match s.ent 0 with
 |some (.box 202 [.val (.string y4),.ref 2,.ref 3,.ref 4,.val (.string y5),.ref 5,.ref 6,.ref 7,.ref 8,.ref 9,.val (.int .i64 y6)])=>
 (match s.ent 2 with
 |some (.row false 9 (.str) y7)=>
 (match s.ent 3 with
 |some (.row false 9 (.str) y8)=>
 (match s.ent 4 with
 |some (.row false 9 (.str) y9)=>
 (match s.ent 5 with
 |some (.row false 204 (.pair .str (.sl 178 (.pair (.int .i64) (.pair .str (.int .i64))))) y10)=>
 (match s.ent 6 with
 |some (.row true 2 (.int .i64) y11)=>
 (match s.ent 7 with
 |some (.row true 172 (.pair (.int .i64) (.pair (.int .i64) (.int .i64))) y12)=>
 (match s.ent 8 with
 |some (.row false 2 (.int .i64) y13)=>
 (match s.ent 9 with
 |some (.row true 2 (.int .i64) y14)=>
 (match s.ent 768 with
 |some (.row true 2 (.int .i64) y3)=>
 some (y0,y1,y2,y3,y4,y5,y6,y7,y8,y9,y10,y11,y12,y13,y14)
 |_=>none)
 |_=>none)
 |_=>none)
 |_=>none)
 |_=>none)
 |_=>none)
 |_=>none)
 |_=>none)
 |_=>none)
 |_=>none)
 |_=>none)
 |_=>none)
 |_=>none)
 |_=>none)
 |_=>none)
 |_=>none)
def al:Lp bP where
 h:=⟨[14,15,16,6,17,18,19,20,21,22,7,23,24,25,26,27,28,8,29,30,31,32,33,34,4,35,13],[0,2,3,4,5,6,7,8,9,10],[1],[]⟩
 JL:=Fk
 JE:=Fj
 XL:=Fm
 XE:=Fl
 q:=fun j=>match j with | _=> .exit 0
 tags:= [0]
 lt:=fw
 fuel:=fun(y0,y1,y2,y3,y4,y5,y6,y7,y8,y9,y10,y11,y12,y13,y14)=>y0.natAbs + y1.natAbs + y2.length + y3.length + y4.size + y5.size + y6.natAbs + y7.length + y8.length + y9.length + y10.length + y11.length + y12.length + y13.length + y14.length
 fix:=fun(_,y1,y2,_,_,_,_,y7,y8,y9,y10,y11,_,y13,y14) (y0,_,_,y3,y4,y5,y6,_,_,_,_,_,y12,_,_)=>(y0,y1,y2,y3,y4,y5,y6,y7,y8,y9,y10,y11,y12,y13,y14)
 σ:= [(0,1),(2,0),(3,2),(4,3),(5,4),(6,5),(7,6),(8,7),(9,8),(10,9),(1,768)]
 rd:=ot
theorem EQ:LoopOk prog (fun k=>Nat.blt k Tryz.f177.ntmps) al.F (aY f177 0):=by
 refine Lp.ok (tbl:= [PF.views prog,lm,Nl,PF.lendBut 172 (PF.view xN)]) (lf:= []) aV al (by kernel_rfl) (LOk.nil _) (fun _=>rfl) (fun _ _=>rfl) ?_ ?_ ?_ ?_ (fun _=>rfl) ?_
 ·rintro⟨y0,y1,y2,y3,y4,y5,y6,y7,y8,y9,y10,y11,y12,y13,y14⟩;kernel_rfl
 ·rintro⟨y0,y1,y2,y3,y4,y5,y6,y7,y8,y9,y10,y11,y12,y13,y14⟩;kernel_rfl
 ·intro s x h
  have h:ot s=some x:=h
  unfold ot at h
  repeat' split at h
  all_goals cases h
  constructor<;>repeat(first|refine ab (by assumption) rfl ?_|refine aa rfl (by assumption) rfl ?_|exact rfl)
 ·rintro⟨y0,y1,y2,y3,y4,y5,y6,y7,y8,y9,y10,y11,y12,y13,y14⟩;kernel_rfl
 ·rintro⟨y0,y1,y2,y3,y4,y5,y6,y7,y8,y9,y10,y11,y12,y13,y14⟩ z;exact(And.intro rfl trivial)
section
variable (x0 x1 x2:ByteArray)(x3:Int)(x4:List (Int×ByteArray×Int))(x5 x6 x7:List ByteArray)(x8:List (ByteArray×List (Int×ByteArray×Int)))(x9:List Int)(x10:List (Int×Int×Int))(x11 x12:List Int)
def ce:Int×Int×List (Int×ByteArray×Int)×List Int×ByteArray×ByteArray×Int×List ByteArray×List ByteArray×List ByteArray×List (ByteArray×List (Int×ByteArray×Int))×List Int×List (Int×Int×Int)×List Int×List Int:=((0:Int),(↑x4.length:Int),x4,[],x1,x2,x3,x5,x6,x7,x8,x9,x10,x11,x12)
def db:List Int×ByteArray×ByteArray×Int×List ByteArray×List ByteArray×List ByteArray×List (ByteArray×List (Int×ByteArray×Int))×List Int×List (Int×Int×Int)×List Int×List Int:=(Lp.res al (ce x1 x2 x3 x4 x5 x6 x7 x8 x9 x10 x11 x12)).2.2.2.2
def ef:ByteArray×ByteArray×Int×List ByteArray×List ByteArray×List ByteArray×List (ByteArray×List (Int×ByteArray×Int))×List Int×List (Int×Int×Int)×List Int×List Int:=(db x1 x2 x3 x4 x5 x6 x7 x8 x9 x10 x11 x12).2
def gg:ByteArray×Int×List ByteArray×List ByteArray×List ByteArray×List (ByteArray×List (Int×ByteArray×Int))×List Int×List (Int×Int×Int)×List Int×List Int:=(ef x1 x2 x3 x4 x5 x6 x7 x8 x9 x10 x11 x12).2
def kH:Int×List ByteArray×List ByteArray×List ByteArray×List (ByteArray×List (Int×ByteArray×Int))×List Int×List (Int×Int×Int)×List Int×List Int:=(gg x1 x2 x3 x4 x5 x6 x7 x8 x9 x10 x11 x12).2
def gh:List Int:=(db x1 x2 x3 x4 x5 x6 x7 x8 x9 x10 x11 x12).1
def kI:Int:=Option.getD (gh x1 x2 x3 x4 x5 x6 x7 x8 x9 x10 x11 x12)[Int.toNat 0]? 0
def kJ:Bool:=ltI 0 (↑(List.length (gh x1 x2 x3 x4 x5 x6 x7 x8 x9 x10 x11 x12)):Int)
def kK:Bool:=ltN (Int.toNat 0) (List.length (gh x1 x2 x3 x4 x5 x6 x7 x8 x9 x10 x11 x12))
def lv:ByteArray:=(ef x1 x2 x3 x4 x5 x6 x7 x8 x9 x10 x11 x12).1
def lw:ByteArray:=(gg x1 x2 x3 x4 x5 x6 x7 x8 x9 x10 x11 x12).1
def ly:Int:=(kH x1 x2 x3 x4 x5 x6 x7 x8 x9 x10 x11 x12).1
def lz:List Int:=bif leI 0 (gW x6 x0)then List.set x9 (Int.toNat (gW x6 x0)) (kI x1 x2 x3 x4 x5 x6 x7 x8 x9 x10 x11 x12)else x9
def lA:List (Int×(Int×Int)):=((kH x1 x2 x3 x4 x5 x6 x7 x8 x9 x10 x11 x12).2.2.2.2.2.2).1
def lC:List Int:=bif leI 0 (gW x6 x0)then x12 else List.set x12 (Int.toNat (gW x7 x0)) (kI x1 x2 x3 x4 x5 x6 x7 x8 x9 x10 x11 x12)
def gJ:Bool:=allT [Lp.fin al (ce x1 x2 x3 x4 x5 x6 x7 x8 x9 x10 x11 x12),leN x6.length (9223372036854775807:Nat),!leI 0 (gW x6 x0)||leI 0 0,!leI 0 (gW x6 x0)||kJ x1 x2 x3 x4 x5 x6 x7 x8 x9 x10 x11 x12,!leI 0 (gW x6 x0)||kK x1 x2 x3 x4 x5 x6 x7 x8 x9 x10 x11 x12,!leI 0 (gW x6 x0)||leI 0 (gW x6 x0),!leI 0 (gW x6 x0)||ltI (gW x6 x0) (↑x9.length:Int),!leI 0 (gW x6 x0)||ltN (Int.toNat (gW x6 x0)) x9.length,leI 0 (gW x6 x0)||leN x7.length (9223372036854775807:Nat),leI 0 (gW x6 x0)||leI 0 0,leI 0 (gW x6 x0)||kJ x1 x2 x3 x4 x5 x6 x7 x8 x9 x10 x11 x12,leI 0 (gW x6 x0)||kK x1 x2 x3 x4 x5 x6 x7 x8 x9 x10 x11 x12,leI 0 (gW x6 x0)||leI 0 (gW x7 x0),leI 0 (gW x6 x0)||ltI (gW x7 x0) (↑x12.length:Int),leI 0 (gW x6 x0)||ltN (Int.toNat (gW x7 x0)) x12.length]
end
def xK:List SV→List Entry→Option Out
 | [.one ⟨false,[.ptr 0 0]⟩,.one ⟨true,[.val (.string x0),.ref 1]⟩],[.box 202 [.val (.string x1),.ref 2,.ref 3,.ref 4,.val (.string x2),.ref 5,.ref 6,.ref 7,.ref 8,.ref 9,.val (.int .i64 x3)],.row false 178 (.pair (.int .i64) (.pair (.str) (.int .i64))) x4,.row false 9 (.str) x5,.row false 9 (.str) x6,.row false 9 (.str) x7,.row false 204 (.pair (.str) (.sl 178 (.pair (.int .i64) (.pair (.str) (.int .i64))))) x8,.row true 2 (.int .i64) x9,.row true 172 (.pair (.int .i64) (.pair (.int .i64) (.int .i64))) x10,.row false 2 (.int .i64) x11,.row true 2 (.int .i64) x12]=>some ⟨.tup [],[.box 202 [.val (.string (lv x1 x2 x3 x4 x5 x6 x7 x8 x9 x10 x11 x12)),.ref 2,.ref 3,.ref 4,.val (.string (lw x1 x2 x3 x4 x5 x6 x7 x8 x9 x10 x11 x12)),.ref 5,.ref 6,.ref 7,.ref 8,.ref 9,.val (.int .i64 (ly x1 x2 x3 x4 x5 x6 x7 x8 x9 x10 x11 x12))],.row false 178 acQ x4,.row false 9 alP x5,.row false 9 alP x6,.row false 9 alP x7,.row false 204 (CTy.pair CTy.str (CTy.sl (178:TypeId) acQ)) x8,.row true 2 ai3 (lz x0 x1 x2 x3 x4 x5 x6 x7 x8 x9 x10 x11 x12),.row true 172 abM (lA x1 x2 x3 x4 x5 x6 x7 x8 x9 x10 x11 x12),.row false 2 ai3 x11,.row true 2 ai3 (lC x0 x1 x2 x3 x4 x5 x6 x7 x8 x9 x10 x11 x12)],[],[gJ x0 x1 x2 x3 x4 x5 x6 x7 x8 x9 x10 x11 x12]⟩
 |_,_=>none
def xM:PF prog:=PF.ofG prog [PF.views prog,lm,Nl,PF.lendBut 172 (PF.view xN)] [al.F] aV 177 f177 func177 (LOk.fnT (l:= [aY f177 0]) (by kernel_rfl) (.cons EQ (.nil _))) xK (by
 intro vs es r h;unfold xK at h;split at h
 ·cases h;kernel_rfl
 ·cases h)
theorem alB{a b:Int}(ha:a=0∨a=1)(hb:b=0∨b=1):IntKind.i64.wrap ((BitVec.toNat (BitVec.ofInt (IntKind.bits IntKind.i64) a&&& BitVec.ofInt (IntKind.bits IntKind.i64) b):Nat):Int)=aqq a b:=by
 rcases ha with rfl | rfl <;> rcases hb with rfl | rfl <;> rfl
theorem anO{a b:Int}(ha:a=0∨a=1)(hb:b=0∨b=1):IntKind.i64.wrap ((BitVec.toNat (BitVec.ofInt (IntKind.bits IntKind.i64) a||| BitVec.ofInt (IntKind.bits IntKind.i64) b):Nat):Int)=orI a b:=by
 rcases ha with rfl | rfl <;> rcases hb with rfl | rfl <;> rfl
theorem anK{a:Int}(ha:a=0∨a=1):IntKind.i64.wrap (1 - a)=1 - a:=by rcases ha with rfl | rfl <;> rfl
theorem QP{l:List ByteArray}{s:ByteArray}(h:mH l s=true):gW l s=(Ps l s:Int):=by simp only [gW,h,cond_true]
theorem ahx(s:ByteArray)(ins vs:List ByteArray)(inp xs:List Int)(hr:ZD ins vs s=true)(h1:leN ins.length 9223372036854775807=true)(h2:leN vs.length 9223372036854775807=true)(hi:inp.length=ins.length)(hx:xs.length=vs.length):
  tO s ins vs xs inp=nmV ins vs inp xs s∧tP s ins vs xs inp=true:=by
 cases h:mH ins s with
 |true=>
  have e:=QP h
  have hp:=XC h
  have l0:leI 0 (Ps ins s:Int)=true:=cM (by omega)
  have l1:ltI (Ps ins s:Int) (inp.length:Int)=true:=fv (by omega)
  have l2:ltN (Ps ins s) inp.length=true:=gM (by omega)
  refine⟨?_,?_⟩
  ·simp only [tO,nmV,h,e,l0,cond_true];rfl
  ·simp only [tP,e,l0,l1,l2,h1,h2,allT,Int.toNat_natCast,Bool.or_true,Bool.true_or,cond_true]
 |false=>
  have hv:mH vs s=true:=by simpa [ZD,h] using hr
  have e0:leI 0 (gW ins s)=false:=by rw [Uk,h]
  have e:=QP hv
  have hp:=XC hv
  have l0:leI 0 (Ps vs s:Int)=true:=cM (by omega)
  have l1:ltI (Ps vs s:Int) (xs.length:Int)=true:=fv (by omega)
  have l2:ltN (Ps vs s) xs.length=true:=gM (by omega)
  refine⟨?_,?_⟩
  ·simp only [tO,nmV,h,e0,e,cond_false];rfl
  ·simp only [tP,e0,e,l0,l1,l2,h1,h2,allT,Int.toNat_natCast,Bool.or_true,Bool.true_or,Bool.not_false,cond_true]
theorem amc(s:ByteArray)(ins vs:List ByteArray)(inp xs:List Int):pO s ins vs xs inp=tO s ins vs xs inp∧pT s ins vs xs inp=tP s ins vs xs inp:=⟨rfl,rfl⟩
theorem amd(s:ByteArray)(ins vs:List ByteArray)(inp xs:List Int):kM s ins vs xs inp=tO s ins vs xs inp∧kN s ins vs xs inp=tP s ins vs xs inp:=⟨rfl,rfl⟩
structure TmOk (ins vs:List ByteArray) (inp xs:List Int) (t:TM) (ar:List Int) (k:Nat) (ss:List BS3):Prop where
 hT:termB t.1 t.2.1 t.2.2=true
 ha:bitsB (takesK t.1) ar=true
 hu:usedB ins vs t=true
 h1:leN ins.length 9223372036854775807=true
 h2:leN vs.length 9223372036854775807=true
 hi:inp.length=ins.length
 hx:xs.length=vs.length
 hb:leI 7 t.1=true→k < ss.length∧possB t.1 t.2.2 (stAt ss k).1 (stAt ss k).2.1 (stAt ss k).2.2=true
 hs:ss.length≤100000
theorem arT{ins vs:List ByteArray}{inp xs:List Int}{kd:Int}{nm:ByteArray}{num:Int}{ar:List Int}{k:Nat}{ss:List BS3}(h:TmOk ins vs inp xs (kd,nm,num) ar k ss)(hk:k≤ss.length)(u v:ByteArray):
  cq kd nm num (k:Int) ar ins vs xs ss inp=tmV ins vs inp xs (kd,nm,num) ar (stAt ss k)∧
  gK kd nm u ins=u∧gL kd nm v ins=v∧
  bf kd nm (k:Int) ins=((bif leI 7 kd then k + 1 else k:Nat):Int)∧
  bg kd nm num (k:Int) ar ins ss=(bif leI 7 kd then ss.set k (aa8 kd num ar (stAt ss k))else ss)∧
  bh kd nm (k:Int) ar ins vs xs ss inp=true:=by
 obtain⟨hT,ha,hu,h1,h2,hi,hx,hb,hs⟩:=h
 have hkk:=aip hT
 simp only at hT ha hu hb hkk
 have hbits:=(eI.1 ha).1
 have qg:=(eI.1 ha).2
 have a0:=Th hbits 0
 have a1:=Th hbits 1
 have hc:kd=1∨kd=2∨kd=3∨kd=4∨kd=5∨kd=6∨(7≤kd∧kd≤12):=by omega
 have c1: ∀ x:ByteArray,pP nm x ins=x:=fun x=>Bool.cond_self _ _
 have c2: ∀ x:ByteArray,pQ nm x ins=x:=fun x=>Bool.cond_self _ _
 have c3: ∀ x:Int,pR nm x ins=x:=fun x=>Bool.cond_self _ _
 have c4: ∀ x:List BS3,pS nm ins x=x:=fun x=>Bool.cond_self _ _
 have z00:leI (0:Int) 0=true:=rfl
 have z01:leI (0:Int) 1=true:=rfl
 have e0:kL ar=atZ ar 0:=rfl
 have e1:Option.getD ar[Int.toNat (1:Int)]? (0:Int)=atZ ar 1:=rfl
 rcases hc with rfl | rfl | rfl | rfl | rfl | rfl | hc
 ·have hr:ZD ins vs nm=true:=by simpa [usedB] using hu
  obtain⟨v1,v2⟩:=ahx nm ins vs inp xs hr h1 h2 hi hx
  have q:leI 7 (1:Int)=false:=rfl
  refine⟨?_,?_,?_,?_,?_,?_⟩
  ·simp [cq,tmV,(amc nm ins vs inp xs).1,v1]
  ·simp [gK,c1]
  ·simp [gL,c2]
  ·simp [bf,c3,q]
  ·simp [bg,c4,q]
  ·simp [bh,(amc nm ins vs inp xs).2,v2,allT]
 ·have q:leI 7 (2:Int)=false:=rfl
  refine⟨rfl,rfl,rfl,?_,?_,?_⟩
  ·simp [bf,q]
  ·simp [bg,q]
  ·simp [bh,allT]
 ·have q:leI 7 (3:Int)=false:=rfl
  refine⟨rfl,rfl,rfl,?_,?_,?_⟩
  ·simp [bf,q]
  ·simp [bg,q]
  ·simp [bh,allT]
 ·have q:leI 7 (4:Int)=false:=rfl
  have t:takesK 4=1:=rfl
  rw [t]at qg
  have s1:ltI 0 (ar.length:Int)=true:=fv (by omega)
  have s2:ltN (Int.toNat 0) ar.length=true:=gM (by simp only [Int.toNat_zero];omega)
  refine⟨?_,rfl,rfl,?_,?_,?_⟩
  ·simp [cq,tmV,e0,anK a0]
  ·simp [bf,q]
  ·simp [bg,q]
  ·simp only [bh,allT,z00,s1,s2];rfl
 ·have q:leI 7 (5:Int)=false:=rfl
  have t:takesK 5=2:=rfl
  rw [t]at qg
  have s1:ltI 0 (ar.length:Int)=true:=fv (by omega)
  have s2:ltN (Int.toNat 0) ar.length=true:=gM (by simp only [Int.toNat_zero];omega)
  have s3:ltI 1 (ar.length:Int)=true:=fv (by omega)
  have s4:ltN (Int.toNat 1) ar.length=true:=gM (by have:(Int.toNat 1)=1:=rfl;omega)
  refine⟨?_,rfl,rfl,?_,?_,?_⟩
  ·have:=alB a0 a1
   simp only [cq,tmV,e0,e1,this];rfl
  ·simp [bf,q]
  ·simp [bg,q]
  ·simp only [bh,allT,z00,z01,s1,s2,s3,s4];rfl
 ·have q:leI 7 (6:Int)=false:=rfl
  have t:takesK 6=2:=rfl
  rw [t]at qg
  have s1:ltI 0 (ar.length:Int)=true:=fv (by omega)
  have s2:ltN (Int.toNat 0) ar.length=true:=gM (by simp only [Int.toNat_zero];omega)
  have s3:ltI 1 (ar.length:Int)=true:=fv (by omega)
  have s4:ltN (Int.toNat 1) ar.length=true:=gM (by have:(Int.toNat 1)=1:=rfl;omega)
  refine⟨?_,rfl,rfl,?_,?_,?_⟩
  ·have:=anO a0 a1
   simp only [cq,tmV,e0,e1,this];rfl
  ·simp [bf,q]
  ·simp [bg,q]
  ·simp only [bh,allT,z00,z01,s1,s2,s3,s4];rfl
 ·have q:leI 7 kd=true:=cM hc.1
  obtain⟨b1,b2⟩:=hb q
  have hB:=WX (t:=(kd,nm,num)) hT q
  simp only at hB
  obtain⟨p0,p1,p2,p3,p4,p5,p6⟩:=amW hB b2 ha
  have t1:(kd==1)=false:=by simp;omega
  have t2:(kd==2)=false:=by simp;omega
  have t3:(kd==3)=false:=by simp;omega
  have t4:(kd==4)=false:=by simp;omega
  have t5:(kd==5)=false:=by simp;omega
  have t6:(kd==6)=false:=by simp;omega
  have ca:az (k:Int) ss=stAt ss k:=by simp only [az,Int.toNat_natCast,stAt]
  have l0:leI 0 (k:Int)=true:=cM (by omega)
  have l1:ltI (k:Int) (ss.length:Int)=true:=fv (by omega)
  have l2:ltN k ss.length=true:=gM b1
  have hw:IntKind.i64.wrap ((k:Int) + 1)=((k + 1:Nat):Int):=by rw [bi (by omega) (by omega)];omega
  refine⟨?_,?_,?_,?_,?_,?_⟩
  ·simp only [cq,tmV,t1,t2,t3,t4,t5,t6,cond_false,qp,ca,p0,arU]
  ·simp only [gK,t1,t2,t3,t4,t5,t6,cond_false]
  ·simp only [gL,t1,t2,t3,t4,t5,t6,cond_false]
  ·simp only [bf,t1,t2,t3,t4,t5,t6,cond_false,q,cond_true,qq,hw]
  ·simp only [bg,t1,t2,t3,t4,t5,t6,cond_false,q,cond_true,qr,ca,p1,p2,p3,aa8,Int.toNat_natCast]
  ·simp only [bh,t1,t2,t3,t4,t5,t6,qs,p4,l0,l1,l2,Int.toNat_natCast,allT,Bool.false_or,Bool.not_false,Bool.true_or,Bool.or_true,cond_true]
theorem amu(ins vs:List ByteArray)(inp xs:List Int): ∀ (ts:List TM) (a:LS),ts.foldl (fun a t=>lnS ins vs inp xs t a) a=afx ins vs inp xs ts a
 | [],a=>rfl
 |t::r,a=>by rw [List.foldl_cons,amu ins vs inp xs r];rfl
structure LineH (ins vs:List ByteArray) (inp xs:List Int) (pre post ts:List TM):Prop where
 hi:bitsB ins.length inp=true
 hx:bitsB vs.length xs=true
 ok: ∃ e,htT ts 0=some e
 hu:ts.all (usedB ins vs)=true
 hn:ts.length≤40
 hbl:(pre++blT ts++post).length≤2000
 h1:leN ins.length 9223372036854775807=true
 h2:leN vs.length 9223372036854775807=true
theorem LineH.tm{ins vs:List ByteArray}{inp xs:List Int}{pre post ts:List TM}(h:LineH ins vs inp xs pre post ts){i:Nat}{t:TM}{a:LS}(ht:ts[i]? =some t)(hI:ajD pre post ts i a):
  TmOk ins vs inp xs t (a.1.drop (ltk t a.1)) a.2.2 a.2.1∧a.2.2≤a.2.1.length∧a.2.1.length≤2000∧(0≤takesK t.1∧takesK t.1≤a.1.length)∧a.1.length≤40∧ajD pre post ts (i + 1) (lnS ins vs inp xs t a):=by
 obtain⟨e,ok⟩:=h.ok
 obtain⟨g1,g2,g3,g4,g5,g6,g7,g8,g9⟩:=alU (ins:=ins) (vs:=vs) h.hi h.hx ok ht hI
 have hi2:=(eI.1 h.hi).2
 have hx2:=(eI.1 h.hx).2
 have hil:=(List.getElem?_eq_some_iff.1 ht).1
 have hn:=h.hn
 have hbl:=h.hbl
 refine⟨⟨g3,g4,List.all_eq_true.1 h.hu t (List.mem_of_getElem? ht),h.h1,h.h2,by omega,by omega,fun h7=> ?_,by omega⟩,by omega,by omega,g1,by omega,g9⟩
 obtain⟨q1,q2⟩:=g6 h7
 exact⟨by omega,q2⟩
theorem aqS{ins vs:List ByteArray}{inp xs:List Int}{pre post ts:List TM}(h:LineH ins vs inp xs pre post ts)(u v:ByteArray)(os:List ByteArray)(ls:List LN)(ou:List Int)(ss:List BS3)(k:Nat)(h0:ajD pre post ts 0 ([],ss,k)):
  al.fin ((0:Int),(ts.length:Int),ts,[],u,v,(k:Int),ins,vs,os,ls,xs,ss,inp,ou)=true∧
  al.res ((0:Int),(ts.length:Int),ts,[],u,v,(k:Int),ins,vs,os,ls,xs,ss,inp,ou)=
   (0,((ts.length:Int),(ts.length:Int),ts,(afx ins vs inp xs ts ([],ss,k)).1,u,v,((afx ins vs inp xs ts ([],ss,k)).2.2:Int),ins,vs,os,ls,xs,(afx ins vs inp xs ts ([],ss,k)).2.1,inp,ou)):=by
 have oi:=al.along2 (fun i (a:LS)=>((i:Int),(ts.length:Int),ts,a.1,u,v,(a.2.2:Int),ins,vs,os,ls,xs,a.2.1,inp,ou)) (fun x=>(x.2.2.2.1,x.2.2.2.2.2.2.2.2.2.2.2.2.1,x.2.2.2.2.2.2.1.toNat))
  (fun(t:TM) a=> .inr (lnS ins vs inp xs t a)) 0 (fun i a=>ajD pre post ts i a) ts ([],ss,k) h0 (by have:=h.hn;omega) (fun i t a hb hI=> ?_) (fun a hI=> ?_)
 ·rw [Kf (g:=fun a t=>lnS ins vs inp xs t a) (fun b a=>rfl),amu]at oi
  simpa using oi
 ·obtain⟨hm,hk,hs,htk,hst,hI2⟩:=h.tm hb hI
  have gV:=(List.getElem?_eq_some_iff.1 hb).1
  have hn:=h.hn
  have hw:IntKind.i64.wrap ((i:Int) + 1)=((i + 1:Nat):Int):=by rw [bi (by omega) (by omega)];omega
  obtain⟨kd,nm,num⟩:=t
  obtain⟨stk,ss',k'⟩:=a
  simp only at hk hs htk hst hm
  have g0:ac (i:Int) ts=(kd,nm,num):=by simp only [ac,Int.toNat_natCast,hb,Option.getD_some]
  have g1:aM (i:Int) ts stk=((ltk (kd,nm,num) stk:Nat):Int):=by
   simp only [aM,g0,app,ltk]
   rw [bi (by omega) (by omega)];omega
  obtain⟨r0,r1,r2,r3,r4,r5⟩:=arT hm hk u v
  have g2:ft (i:Int) ts stk (k':Int) ins vs xs ss' inp= [tmV ins vs inp xs (kd,nm,num) (stk.drop (ltk (kd,nm,num) stk)) (stAt ss' k')]:=by
   simp only [ft,g0,g1,Int.toNat_natCast,r0]
  have hlk:ltk (kd,nm,num) stk≤stk.length:=Nat.sub_le _ _
  have l0:ltI (i:Int) (ts.length:Int)=true:=fv (by omega)
  have l1:leI 0 (i:Int)=true:=cM (by omega)
  have l2:ltN i ts.length=true:=gM gV
  have l3:leI 0 ((ltk (kd,nm,num) stk:Nat):Int)=true:=cM (by omega)
  have l4:leI ((ltk (kd,nm,num) stk:Nat):Int) (stk.length:Int)=true:=cM (by omega)
  have l5:leN (ltk (kd,nm,num) stk) stk.length=true:=ci hlk
  have l6:leN ((List.take (ltk (kd,nm,num) stk) stk).length + 1) 9223372036854775807=true:=ci (by rw [List.length_take];omega)
  have l7:leN (((List.take (ltk (kd,nm,num) stk) stk).length + 1) * 8) 140737488355328=true:=ci (by rw [List.length_take];omega)
  refine⟨?_,?_,?_,fun a' hf=> ?_⟩
  ·simp only [fH,fI,fJ,fK,dL,dM,fL,fM,fN,fO,fj,fk,fl,fm,fo,fq,fw,al,LT.nds,allT,g0,g1,g2,r5,l0,l1,l2,l3,l4,l5,l6,l7,List.length_singleton,Int.toNat_natCast,cond_true,Bool.and_self]
  ·simp only [fH,fI,fJ,fK,dL,dM,fL,fM,fN,fO,fj,fk,fl,fm,fo,fq,fw,al,LT.each,g0,g1,g2,r1,r2,r3,r4,l0,hw,Int.toNat_natCast,Bool.and_true,and_self]
  ·simp only [fH,fI,fJ,fK,dL,dM,fL,fM,fN,fO,fj,fk,fl,fm,fo,fq,fw,al,LT.fn,g0,g1,g2,r3,r4,l0,Int.toNat_natCast,cond_true,lnS]
  ·simp only [Sum.inr.injEq]at hf
   subst hf;exact hI2
 ·have fA:ltI (ts.length:Int) (ts.length:Int)=false:=NM (by omega)
  simp [fH,fI,fJ,fK,dL,dM,fL,fM,fN,fO,fj,fk,fl,fm,fo,fq,fw,al,LT.out,fA]
theorem aqU{ins vs:List ByteArray}{inp xs:List Int}{pre post ts:List TM}(h:LineH ins vs inp xs pre post ts)(u v:ByteArray)(os:List ByteArray)(ls:List LN)(ss:List BS3)(k:Nat)(h0:ajD pre post ts 0 ([],ss,k)):
  ba.fin ((0:Int),(k:Int),ts,[],u,v,inp,ins,vs,os,ls,xs,ss)=true∧
  ba.res ((0:Int),(k:Int),ts,[],u,v,inp,ins,vs,os,ls,xs,ss)=
   (0,((ts.length:Int),((afx ins vs inp xs ts ([],ss,k)).2.2:Int),ts,(afx ins vs inp xs ts ([],ss,k)).1,u,v,inp,ins,vs,os,ls,xs,(afx ins vs inp xs ts ([],ss,k)).2.1)):=by
 have oi:=ba.along2 (fun i (a:LS)=>((i:Int),(a.2.2:Int),ts,a.1,u,v,inp,ins,vs,os,ls,xs,a.2.1)) (fun x=>(x.2.2.2.1,x.2.2.2.2.2.2.2.2.2.2.2.2,x.2.1.toNat))
  (fun(t:TM) a=> .inr (lnS ins vs inp xs t a)) 0 (fun i a=>ajD pre post ts i a) ts ([],ss,k) h0 (by have:=h.hn;omega) (fun i t a hb hI=> ?_) (fun a hI=> ?_)
 ·rw [Kf (g:=fun a t=>lnS ins vs inp xs t a) (fun b a=>rfl),amu]at oi
  simpa using oi
 ·obtain⟨hm,hk,hs,htk,hst,hI2⟩:=h.tm hb hI
  have gV:=(List.getElem?_eq_some_iff.1 hb).1
  have hn:=h.hn
  have hw:IntKind.i64.wrap ((i:Int) + 1)=((i + 1:Nat):Int):=by rw [bi (by omega) (by omega)];omega
  obtain⟨kd,nm,num⟩:=t
  obtain⟨stk,ss',k'⟩:=a
  simp only at hk hs htk hst hm
  have g0:bC (i:Int) ts=(kd,nm,num):=by simp only [bC,Int.toNat_natCast,hb,Option.getD_some]
  have g1:rF (i:Int) ts stk=((ltk (kd,nm,num) stk:Nat):Int):=by
   simp only [rF,g0,show jh kd=takesK kd from rfl,ltk]
   rw [bi (by omega) (by omega)];omega
  have g2:cO (i:Int) ts stk=stk.drop (ltk (kd,nm,num) stk):=by
   simp only [cO,g1,Int.toNat_natCast,List.take_length]
  have g3:rG (i:Int) ts stk=stk.take (ltk (kd,nm,num) stk):=by
   simp only [rG,g1,Int.toNat_natCast,Int.toNat_zero,List.drop_zero]
  have q4:ay (i:Int) ts=(kd==1):=by simp only [ay,g0]
  have q5:aJ (i:Int) ts=(kd==2):=by simp only [aJ,g0]
  have q6:aK (i:Int) ts=(kd==3):=by simp only [aK,g0]
  have q7:aL (i:Int) ts=(kd==4):=by simp only [aL,g0]
  have q10:aR (i:Int) ts=(kd==5):=by simp only [aR,g0]
  have q13:cB (i:Int) ts=(kd==6):=by simp only [cB,g0]
  have q15:ed (k':Int) ss'=stAt ss' k':=by simp only [ed,Int.toNat_natCast,stAt]
  obtain⟨hT,ha,hu,h1,h2,hi,hx,hb7,hss⟩:=hm
  have hkk:=aip hT
  simp only at hT ha hu hb7 hkk
  have hbits:=(eI.1 ha).1
  have qg:=(eI.1 ha).2
  generalize hA:stk.drop (ltk (kd,nm,num) stk)=ar at g2 ha hbits qg
  have a0:=Th hbits 0
  have a1:=Th hbits 1
  have e14:uV (i:Int) ts stk=atZ ar 0:=by simp only [uV,g2];rfl
  have e1:Option.getD ar[Int.toNat (1:Int)]? (0:Int)=atZ ar 1:=rfl
  have hlk:ltk (kd,nm,num) stk≤stk.length:=Nat.sub_le _ _
  have l0:ltI (i:Int) (ts.length:Int)=true:=fv (by omega)
  have l1:leI 0 (i:Int)=true:=cM (by omega)
  have l2:ltN i ts.length=true:=gM gV
  have l3:leI 0 ((ltk (kd,nm,num) stk:Nat):Int)=true:=cM (by omega)
  have l4:leI ((ltk (kd,nm,num) stk:Nat):Int) (stk.length:Int)=true:=cM (by omega)
  have l5:leI (stk.length:Int) (stk.length:Int)=true:=cM (by omega)
  have hal:ar.length≤40:=by rw [← hA,List.length_drop];omega
  have l6:leN ar.length 1048576=true:=ci (by omega)
  have l6b:leN (List.take (ltk (kd,nm,num) stk) stk).length 1048576=true:=ci (by rw [List.length_take];omega)
  have l7:leN ((List.take (ltk (kd,nm,num) stk) stk).length + 1) 9223372036854775807=true:=ci (by rw [List.length_take];omega)
  have l8:leN (((List.take (ltk (kd,nm,num) stk) stk).length + 1) * 8) 140737488355328=true:=ci (by rw [List.length_take];omega)
  have z00:leI (0:Int) 0=true:=rfl
  have z01:leI (0:Int) 1=true:=rfl
  have y0:ki (i:Int) ts xs=xs:=Bool.cond_self _ _
  have hfin:bp (i:Int) (k':Int) ts stk inp ins vs xs ss'= [tmV ins vs inp xs (kd,nm,num) ar (stAt ss' k')]∧
    ck (i:Int) (k':Int) ts=((bif leI 7 kd then k' + 1 else k':Nat):Int)∧cm (i:Int) (k':Int) ts stk ss'=(bif leI 7 kd then ss'.set k' (aa8 kd num ar (stAt ss' k'))else ss')∧
    (ba.lt ((i:Int),(k':Int),ts,stk,u,v,inp,ins,vs,os,ls,xs,ss')).nds=true:=by
   have hc:kd=1∨kd=2∨kd=3∨kd=4∨kd=5∨kd=6∨(7≤kd∧kd≤12):=by omega
   have n29: ∀ z:Int,leN (List.length (List.take (ltk (kd,nm,num) stk) stk) + List.length [z]) 9223372036854775807=true:=fun z=>l7
   have n30: ∀ z:Int,leN ((List.length (List.take (ltk (kd,nm,num) stk) stk) + List.length [z]) * 8) 140737488355328=true:=fun z=>l8
   rcases hc with rfl | rfl | rfl | rfl | rfl | rfl | hc
   ·have hr:ZD ins vs nm=true:=by simpa [usedB] using hu
    obtain⟨v1,v2⟩:=ahx nm ins vs inp xs hr h1 h2 hi hx
    have hv:bp (i:Int) (k':Int) ts stk inp ins vs xs ss'= [tmV ins vs inp xs (1,nm,num) ar (stAt ss' k')]:=by simp [bp,tmV,q4,g0,v1]
    refine⟨hv,?_,?_,?_⟩
    ·simp [ck,q4,show leI 7 (1:Int)=false from rfl]
    ·simp [cm,q4,show leI 7 (1:Int)=false from rfl]
    ·simp only [eT,nt,nu,lb,lc,nv,nx,ny,nz,nA,lQ,lR,lS,lT,lU,lW,lX,lY,lZ,ma,mb,mc,md,me,mf,kb,ke,kf,mg,mh,mi,kg,ck,kh,ki,cm,fQ,ba,LT.nds,allT,g0,g1,g2,g3,q4,q5,q6,q7,q10,q13,hv,v2,l0,l1,l2,l3,l4,l5,l6,l6b,n29,n30,z00,Int.toNat_natCast];rfl
   ·have hv:bp (i:Int) (k':Int) ts stk inp ins vs xs ss'= [tmV ins vs inp xs (2,nm,num) ar (stAt ss' k')]:=by simp [bp,tmV,q4,q5]
    refine⟨hv,?_,?_,?_⟩
    ·simp [ck,q4,q5,show leI 7 (2:Int)=false from rfl]
    ·simp [cm,q4,q5,show leI 7 (2:Int)=false from rfl]
    ·simp only [eT,nt,nu,lb,lc,nv,nx,ny,nz,nA,lQ,lR,lS,lT,lU,lW,lX,lY,lZ,ma,mb,mc,md,me,mf,kb,ke,kf,mg,mh,mi,kg,ck,kh,ki,cm,fQ,ba,LT.nds,allT,g0,g1,g2,g3,q4,q5,q6,q7,q10,q13,hv,l0,l1,l2,l3,l4,l5,l6,l6b,n29,n30,z00,Int.toNat_natCast];rfl
   ·have hv:bp (i:Int) (k':Int) ts stk inp ins vs xs ss'= [tmV ins vs inp xs (3,nm,num) ar (stAt ss' k')]:=by simp [bp,tmV,q4,q5,q6]
    refine⟨hv,?_,?_,?_⟩
    ·simp [ck,q4,q5,q6,show leI 7 (3:Int)=false from rfl]
    ·simp [cm,q4,q5,q6,show leI 7 (3:Int)=false from rfl]
    ·simp only [eT,nt,nu,lb,lc,nv,nx,ny,nz,nA,lQ,lR,lS,lT,lU,lW,lX,lY,lZ,ma,mb,mc,md,me,mf,kb,ke,kf,mg,mh,mi,kg,ck,kh,ki,cm,fQ,ba,LT.nds,allT,g0,g1,g2,g3,q4,q5,q6,q7,q10,q13,hv,l0,l1,l2,l3,l4,l5,l6,l6b,n29,n30,z00,Int.toNat_natCast];rfl
   ·have t:takesK 4=1:=rfl
    rw [t]at qg
    have s1:kj (i:Int) ts stk=true:=by simp only [kj,g2];exact fv (by omega)
    have s2:km (i:Int) ts stk=true:=by simp only [km,g2];exact gM (by simp only [Int.toNat_zero];omega)
    have hv:bp (i:Int) (k':Int) ts stk inp ins vs xs ss'= [tmV ins vs inp xs (4,nm,num) ar (stAt ss' k')]:=by simp [bp,tmV,q4,q5,q6,q7,e14,anK a0]
    refine⟨hv,?_,?_,?_⟩
    ·simp [ck,q4,q5,q6,q7,show leI 7 (4:Int)=false from rfl]
    ·simp [cm,q4,q5,q6,q7,show leI 7 (4:Int)=false from rfl]
    ·simp only [eT,nt,nu,lb,lc,nv,nx,ny,nz,nA,lQ,lR,lS,lT,lU,lW,lX,lY,lZ,ma,mb,mc,md,me,mf,kb,ke,kf,mg,mh,mi,kg,ck,kh,ki,cm,fQ,ba,LT.nds,allT,g0,g1,g2,g3,q4,q5,q6,q7,q10,q13,s1,s2,hv,l0,l1,l2,l3,l4,l5,l6,l6b,n29,n30,z00,Int.toNat_natCast];rfl
   ·have t:takesK 5=2:=rfl
    rw [t]at qg
    have s1:kj (i:Int) ts stk=true:=by simp only [kj,g2];exact fv (by omega)
    have s2:km (i:Int) ts stk=true:=by simp only [km,g2];exact gM (by simp only [Int.toNat_zero];omega)
    have s3:qI (i:Int) ts stk=true:=by simp only [qI,g2];exact fv (by omega)
    have s4:qJ (i:Int) ts stk=true:=by simp only [qJ,g2];exact gM (by have:(Int.toNat 1)=1:=rfl;omega)
    have hv:bp (i:Int) (k':Int) ts stk inp ins vs xs ss'= [tmV ins vs inp xs (5,nm,num) ar (stAt ss' k')]:=by
     have:=alB a0 a1
     simp only [bp,tmV,q4,q5,q6,q7,q10,e14,g2,e1,this];rfl
    refine⟨hv,?_,?_,?_⟩
    ·simp [ck,q4,q5,q6,q7,q10,show leI 7 (5:Int)=false from rfl]
    ·simp [cm,q4,q5,q6,q7,q10,show leI 7 (5:Int)=false from rfl]
    ·simp only [eT,nt,nu,lb,lc,nv,nx,ny,nz,nA,lQ,lR,lS,lT,lU,lW,lX,lY,lZ,ma,mb,mc,md,me,mf,kb,ke,kf,mg,mh,mi,kg,ck,kh,ki,cm,fQ,ba,LT.nds,allT,g0,g1,g2,g3,q4,q5,q6,q7,q10,q13,s1,s2,s3,s4,hv,l0,l1,l2,l3,l4,l5,l6,l6b,n29,n30,z00,z01,Int.toNat_natCast];rfl
   ·have t:takesK 6=2:=rfl
    rw [t]at qg
    have s1:kj (i:Int) ts stk=true:=by simp only [kj,g2];exact fv (by omega)
    have s2:km (i:Int) ts stk=true:=by simp only [km,g2];exact gM (by simp only [Int.toNat_zero];omega)
    have s3:qI (i:Int) ts stk=true:=by simp only [qI,g2];exact fv (by omega)
    have s4:qJ (i:Int) ts stk=true:=by simp only [qJ,g2];exact gM (by have:(Int.toNat 1)=1:=rfl;omega)
    have hv:bp (i:Int) (k':Int) ts stk inp ins vs xs ss'= [tmV ins vs inp xs (6,nm,num) ar (stAt ss' k')]:=by
     have:=anO a0 a1
     simp only [bp,tmV,q4,q5,q6,q7,q10,q13,e14,g2,e1,this];rfl
    refine⟨hv,?_,?_,?_⟩
    ·simp [ck,q4,q5,q6,q7,q10,q13,show leI 7 (6:Int)=false from rfl]
    ·simp [cm,q4,q5,q6,q7,q10,q13,show leI 7 (6:Int)=false from rfl]
    ·simp only [eT,nt,nu,lb,lc,nv,nx,ny,nz,nA,lQ,lR,lS,lT,lU,lW,lX,lY,lZ,ma,mb,mc,md,me,mf,kb,ke,kf,mg,mh,mi,kg,ck,kh,ki,cm,fQ,ba,LT.nds,allT,g0,g1,g2,g3,q4,q5,q6,q7,q10,q13,s1,s2,s3,s4,hv,l0,l1,l2,l3,l4,l5,l6,l6b,n29,n30,z00,z01,Int.toNat_natCast];rfl
   ·have q:leI 7 kd=true:=cM hc.1
    obtain⟨b1,b2⟩:=hb7 q
    have hB:=WX (t:=(kd,nm,num)) hT q
    simp only at hB
    obtain⟨p0,p1,p2,p3,p4,p5,p6⟩:=amW hB b2 ha
    have t1:(kd==1)=false:=by simp;omega
    have t2:(kd==2)=false:=by simp;omega
    have t3:(kd==3)=false:=by simp;omega
    have t4:(kd==4)=false:=by simp;omega
    have t5:(kd==5)=false:=by simp;omega
    have t6:(kd==6)=false:=by simp;omega
    have m0:leI 0 (k':Int)=true:=cM (by omega)
    have m1:ltI (k':Int) (ss'.length:Int)=true:=fv (by omega)
    have m2:ltN k' ss'.length=true:=gM b1
    have hw2:IntKind.i64.wrap ((k':Int) + 1)=((k' + 1:Nat):Int):=by rw [bi (by omega) (by omega)];omega
    have hv:bp (i:Int) (k':Int) ts stk inp ins vs xs ss'= [tmV ins vs inp xs (kd,nm,num) ar (stAt ss' k')]:=by
     simp only [bp,tmV,q4,q5,q6,q7,q10,q13,t1,t2,t3,t4,t5,t6,cond_false,g0,q15,g2,arU]
    refine⟨hv,?_,?_,?_⟩
    ·simp only [ck,q4,q5,q6,q7,q10,q13,t1,t2,t3,t4,t5,t6,cond_false,q,cond_true,hw2]
    ·simp only [cm,q4,q5,q6,q7,q10,q13,t1,t2,t3,t4,t5,t6,cond_false,q,cond_true,g0,q15,g2,aa8,Int.toNat_natCast]
    ·simp only [eT,nt,nu,lb,lc,nv,nx,ny,nz,nA,lQ,lR,lS,lT,lU,lW,lX,lY,lZ,ma,mb,mc,md,me,mf,kb,ke,kf,mg,mh,mi,kg,ck,kh,ki,cm,fQ,ba,LT.nds,allT,g0,g1,g2,g3,q4,q5,q6,q7,q10,q13,t1,t2,t3,t4,t5,t6,hv,p5,m0,m1,m2,l0,l1,l2,l3,l4,l5,l6,l6b,n29,n30,z00,z01,Int.toNat_natCast];rfl
  obtain⟨f1,f2,f3,f4⟩:=hfin
  refine⟨f4,?_,?_,fun a' hf=> ?_⟩
  ·have c31:kg (i:Int)=((i + 1:Nat):Int):=hw
   have c0:eT (i:Int) ts=true:=l0
   simp only [ba,fQ,LT.each,c0,c31,f2,y0,Int.toNat_natCast]
   simp
  ·have c0:eT (i:Int) ts=true:=l0
   simp only [ba,fQ,LT.fn,c0,cond_true,kh,f1,f2,f3,g3,Int.toNat_natCast,lnS,hA]
  ·simp only [Sum.inr.injEq]at hf
   subst hf;exact hI2
 ·have fA:eT (ts.length:Int) ts=false:=NM (by omega)
  simp only [ba,fQ,LT.out,fA]
  rfl
end Go.SX
