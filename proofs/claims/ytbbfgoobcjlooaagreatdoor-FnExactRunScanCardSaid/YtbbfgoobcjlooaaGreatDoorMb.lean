/- What functions of the program come to, and what that says in plain words: part 2. -/
import Derived.Test.YtbbfgoobcjlooaaGreatDoorMa
import Derived.Test.YtbbfgoobcjlooaaGreatDoorTXh
import Derived.Test.YtbbfgoobcjlooaaGreatDoorProg
set_option linter.unusedSimpArgs false
set_option linter.unusedVariables false
namespace Go.SX
open Go.Proofs Go.Proofs.Tryz
set_option maxRecDepth 100000
abbrev mT:=Int×ByteArray×List ByteArray
section
variable (y0:Int)(y1:ByteArray)(y2:List ByteArray)
def xM:Bool:=ltI y0 (↑y2.length:Int)
def CA:Bool:=leI (0:Int) y0
def CB:Bool:=ltN y0.toNat y2.length
def CC:Bool:=ByteArray.toList (Option.getD y2[Int.toNat y0]? ByteArray.empty)==ByteArray.toList y1
def CD:Int:=IntKind.wrap .i64 (y0 + (1:Int))
end
def aaq:mT→List (Nat×SV)
 |(y0,y1,_)=> [(5,(.one ⟨false,[.val (.int .i64 y0)]⟩)),(0,(.one ⟨false,[.ref 0]⟩)),(1,(.one ⟨false,[.val (.string y1)]⟩))]
def aah:mT→List (Nat×Entry)
 |(_,_,y2)=> [(0,(.row false 9 agS y2))]
def aaI:Nat→mT→List (Nat×SV)
 |0,(y0,_,_)=> [(4,(.one ⟨false,[.val (.int .i64 y0)]⟩))]
 |_,(_,_,_)=> []
def aaz:Nat→mT→List (Nat×Entry)
 |0,(_,_,y2)=> [(0,(.row false 9 agS y2))]
 |_,(_,_,y2)=> [(0,(.row false 9 agS y2))]
def AF:mT→LT mT
 |(y0,y1,y2)=> .ite (xM y0 y2) (.need [CA y0,xM y0 y2,CB y0 y2] (.ite (CC y0 y1 y2) (.ext 0 [(0,0)]) (.nrm ((CD y0),y1,y2) [(0,0)]))) (.ext 1 [(0,0)])
def KX(s:St):Option mT:=
 (match s.look 5 with
 |some ⟨none,.one ⟨false,[.val (.int .i64 y0)]⟩⟩=>
 (match s.look 0 with
 |some ⟨none,.one ⟨false,[.ref 0]⟩⟩=>
 (match s.look 1 with
 |some ⟨none,.one ⟨false,[.val (.string y1)]⟩⟩=>
 (match s.ent 0 with
 |some (.row false 9 (.str) y2)=>
 some (y0,y1,y2)
 |_=>none)
 |_=>none)
 |_=>none)
 |_=>none)
def dV:Lp mT where
 h:=⟨[6,7,8,9,12,13,14,15,16,17,18,4,10,11,5],[0],[],[]⟩
 JL:=aaq
 JE:=aah
 XL:=aaI
 XE:=aaz
 q:=fun j=>match j with | 0=> .ret | _=> .exit 0
 tags:= [0,1]
 lt:=AF
 fuel:=fun(y0,y1,y2)=>y0.natAbs + y1.size + y2.length
 fix:=fun(_,y1,y2) (y0,_,_)=>(y0,y1,y2)
 σ:= [(0,0)]
 rd:=KX
theorem Xx:LoopOk prog (fun k=>Nat.blt k Tryz.f143.ntmps) dV.F (aS f143 0):=by
 refine Lp.ok (tbl:= []) (lf:= []) aQ dV (by kernel_rfl) (LOk.nil _) (fun _=>rfl) (fun j _=>by unfold dV;match j with | 0=>rfl | _ + 1=>rfl) ?_ ?_ ?_ ?_ (fun _=>rfl) ?_
 ·rintro⟨y0,y1,y2⟩;kernel_rfl
 ·rintro⟨y0,y1,y2⟩;kernel_rfl
 ·intro s x h
  have h:KX s=some x:=h
  unfold KX at h
  repeat' split at h
  all_goals cases h
  exact⟨aa (by assumption) rfl (aa (by assumption) rfl (aa (by assumption) rfl (rfl))),ab rfl (by assumption) rfl (rfl)⟩
 ·rintro⟨y0,y1,y2⟩;kernel_rfl
 ·rintro⟨y0,y1,y2⟩ z;exact(And.intro (And.intro trivial rfl) trivial)
section
variable (x0:ByteArray)(x1:List ByteArray)
def Ky:Int×ByteArray×List ByteArray:=((0:Int),x0,x1)
def Ho:Int:=bif Nat.beq ((Lp.res dV (Ky x0 x1)).1) (0:Nat)then ((Lp.res dV (Ky x0 x1)).2).1else(-1:Int)
def LV:Bool:=allT [Lp.fin dV (Ky x0 x1)]
end
def Ww:List SV→List Entry→Option Out
 | [.one ⟨false,[.ref 0]⟩,.one ⟨false,[.val (.string x0)]⟩],[.row false 9 (.str) x1]=>some ⟨.one ⟨false,[.val (.int .i64 (Ho x0 x1))]⟩,[.row false 9 agS x1],[],[LV x0 x1]⟩
 |_,_=>none
def zU:PF prog:=PF.ofG prog [] [dV.F] aQ 143 f143 func143 (LOk.fnT (l:= [aS f143 0]) (by kernel_rfl) (.cons Xx (.nil _))) Ww (by
 intro vs es r h;unfold Ww at h;split at h
 ·cases h;kernel_rfl
 ·cases h)
abbrev mR:=Int×List ByteArray
section
variable (y0:Int)(y1:List ByteArray)
def qn:ByteArray:=Option.getD y1[Int.toNat y0]? ByteArray.empty
def xJ:Bool:=ltI y0 (↑y1.length:Int)
def GR:Bool:=leI (0:Int) y0
def GS:Bool:=ltN y0.toNat y1.length
def GU:Bool:=tP (qn y0 y1)
def Cq:Bool:= !mH (qn y0 y1)
def GV:Int:=IntKind.wrap .i64 (y0 + (1:Int))
end
def aan:mR→List (Nat×SV)
 |(y0,_)=> [(5,(.one ⟨false,[.val (.int .i64 y0)]⟩)),(0,(.one ⟨false,[.ref 0]⟩))]
def aae:mR→List (Nat×Entry)
 |(_,y1)=> [(0,(.row false 9 agS y1))]
def aaF:Nat→mR→List (Nat×SV)
 |0,(_,_)=> [(4,(.one ⟨false,[.val (.bool false)]⟩))]
 |_,(_,_)=> []
def aaw:Nat→mR→List (Nat×Entry)
 |0,(_,y1)=> [(0,(.row false 9 agS y1))]
 |_,(_,y1)=> [(0,(.row false 9 agS y1))]
def AC:mR→LT mR
 |(y0,y1)=> .ite (xJ y0 y1) (.need [GR y0,xJ y0 y1,GS y0 y1,GU y0 y1] (.ite (Cq y0 y1) (.ext 0 [(0,0)]) (.nrm ((GV y0),y1) [(0,0)]))) (.ext 1 [(0,0)])
def KU(s:St):Option mR:=
 (match s.look 5 with
 |some ⟨none,.one ⟨false,[.val (.int .i64 y0)]⟩⟩=>
 (match s.look 0 with
 |some ⟨none,.one ⟨false,[.ref 0]⟩⟩=>
 (match s.ent 0 with
 |some (.row false 9 (.str) y1)=>
 some (y0,y1)
 |_=>none)
 |_=>none)
 |_=>none)
def eW:Lp mR where
 h:=⟨[6,7,8,9,12,13,14,15,16,17,4,10,11,5],[0],[],[]⟩
 JL:=aan
 JE:=aae
 XL:=aaF
 XE:=aaw
 q:=fun j=>match j with | 0=> .ret | _=> .exit 0
 tags:= [0,1]
 lt:=AC
 fuel:=fun(y0,y1)=>y0.natAbs + y1.length
 fix:=fun(_,y1) (y0,_)=>(y0,y1)
 σ:= [(0,0)]
 rd:=KU
theorem Xu:LoopOk prog (fun k=>Nat.blt k Tryz.f240.ntmps) eW.F (aS f240 0):=by
 refine Lp.ok (tbl:= [vV,Ju]) (lf:= []) aQ eW (by kernel_rfl) (LOk.nil _) (fun _=>rfl) (fun j _=>by unfold eW;match j with | 0=>rfl | _ + 1=>rfl) ?_ ?_ ?_ ?_ (fun _=>rfl) ?_
 ·rintro⟨y0,y1⟩;kernel_rfl
 ·rintro⟨y0,y1⟩;kernel_rfl
 ·intro s x h
  have h:KU s=some x:=h
  unfold KU at h
  repeat' split at h
  all_goals cases h
  exact⟨aa (by assumption) rfl (aa (by assumption) rfl (rfl)),ab rfl (by assumption) rfl (rfl)⟩
 ·rintro⟨y0,y1⟩;kernel_rfl
 ·rintro⟨y0,y1⟩ z;exact(And.intro (And.intro trivial rfl) trivial)
def Qz(x0:Int)(x1:List ByteArray):Bool:=bif Nat.beq ((Lp.res eW ((0:Int),x1)).1) (0:Nat)then false else bA (↑x1.length:Int) x0 (20:Int)
def QA(x1:List ByteArray):Bool:=allT [Lp.fin eW ((0:Int),x1)]
def Wt:List SV→List Entry→Option Out
 | [.one ⟨false,[.ref 0]⟩,.one ⟨false,[.val (.int .i64 x0)]⟩],[.row false 9 (.str) x1]=>some ⟨.one ⟨false,[.val (.bool (Qz x0 x1))]⟩,[.row false 9 agS x1],[],[QA x1]⟩
 |_,_=>none
def agb:PF prog:=PF.ofG prog [vV,Ju] [eW.F] aQ 240 f240 func240 (LOk.fnT (l:= [aS f240 0]) (by kernel_rfl) (.cons Xu (.nil _))) Wt (by
 intro vs es r h;unfold Wt at h;split at h
 ·cases h;kernel_rfl
 ·cases h)
abbrev km:=Int×Int×List (Int×(ByteArray×Int))×List Int
section
variable (y0 y1:Int)(y2:List (Int×(ByteArray×Int)))(y3:List Int)
def dE:Int×ByteArray×Int:=Option.getD y2[Int.toNat y0]? ((0:Int),ByteArray.empty,(0:Int))
def qz:Bool:= !JN ((dE y0 y2).1) (((dE y0 y2).2).1) ((dE y0 y2).2.2)
def qA:Int:=IntKind.wrap .i64 (IntKind.wrap .i64 (y1 - mr ((dE y0 y2).1)) + (1:Int))
def rI:Bool:=ltI y0 (↑y2.length:Int)
def ve:Bool:=leI (0:Int) y0
def vf:Bool:=ltN y0.toNat y2.length
def yX:Bool:=JO ((dE y0 y2).1) (((dE y0 y2).2).1) ((dE y0 y2).2.2)
def yY:Bool:= !(!qz y0 y2&&true)||leI (0:Int) y0
def yZ:Bool:= !(!qz y0 y2&&true)||ltI y0 (↑y2.length:Int)
def za:Bool:= !(!qz y0 y2&&true)||ltN y0.toNat y2.length
def zb:Bool:=bif qz y0 y2 then true else ltI y1 (mr ((dE y0 y2).1))
def zc:Bool:=leN (List.length y3 + List.length [qA y0 y1 y2]) (9223372036854775807:Nat)
def zd:Bool:=leN ((List.length y3 + List.length [qA y0 y1 y2]) * (8:Nat)) (140737488355328:Nat)
def xc:Int:=IntKind.wrap .i64 (y0 + (1:Int))
def xf:Int:=qA y0 y1 y2
def xg:List Int:=y3++ [qA y0 y1 y2]
end
def Xd:km→List (Nat×SV)
 |(y0,y1,_,_)=> [(6,(.one ⟨false,[.val (.int .i64 y0)]⟩)),(0,(.one ⟨false,[.ref 0]⟩)),(5,(.one ⟨false,[.val (.int .i64 y1)]⟩)),(4,(.one ⟨false,[.ref 1]⟩))]
def WY:km→List (Nat×Entry)
 |(_,_,y2,y3)=> [(0,(.row false 178 aeH y2)),(1,(.row true 2 afY y3))]
def Xn:Nat→km→List (Nat×SV)
 |0,(_,_,_,_)=> [(2,(.one ⟨false,[.ref 2]⟩)),(3,(.one ⟨false,[.val (.bool false)]⟩))]
 |_,(_,y1,_,_)=> [(5,(.one ⟨false,[.val (.int .i64 y1)]⟩)),(4,(.one ⟨false,[.ref 1]⟩))]
def Xi:Nat→km→List (Nat×Entry)
 |0,(_,_,y2,y3)=> [(0,(.row false 178 aeH y2)),(1,(.row true 2 afY y3)),(2,(.row true 2 afY []))]
 |_,(_,_,y2,y3)=> [(0,(.row false 178 aeH y2)),(1,(.row true 2 afY y3))]
def wX:km→LT km
 |(y0,y1,y2,y3)=> .ite (rI y0 y2) (.need [ve y0,rI y0 y2,vf y0 y2,yX y0 y2,yY y0 y2,yZ y0 y2,za y0 y2] (.ite (zb y0 y1 y2) (.ext 0 [(0,0),(1,1),(2,1344)]) (.need [ve y0,rI y0 y2,vf y0 y2] (.need [zc y0 y1 y2 y3,zd y0 y1 y2 y3] (.nrm ((xc y0),xf y0 y1 y2,y2,(xg y0 y1 y2 y3)) [(0,0),(1,2176)]))))) (.ext 1 [(0,0),(1,1)])
def HV(s:St):Option km:=
 (match s.look 6 with
 |some ⟨none,.one ⟨false,[.val (.int .i64 y0)]⟩⟩=>
 (match s.look 0 with
 |some ⟨none,.one ⟨false,[.ref 0]⟩⟩=>
 (match s.look 5 with
 |some ⟨none,.one ⟨false,[.val (.int .i64 y1)]⟩⟩=>
 (match s.look 4 with
 |some ⟨none,.one ⟨false,[.ref 256]⟩⟩=>
 (match s.ent 0 with
 |some (.row false 178 (.pair (.int .i64) (.pair .str (.int .i64))) y2)=>
 (match s.ent 256 with
 |some (.row true 2 (.int .i64) y3)=>
 some (y0,y1,y2,y3)
 |_=>none)
 |_=>none)
 |_=>none)
 |_=>none)
 |_=>none)
 |_=>none)
def dl:Lp km where
 h:=⟨[8,9,10,11,14,15,16,17,18,19,20,21,22,23,24,25,26,27,28,29,2,3,30,31,32,33,34,35,36,37,38,5,39,40,41,42,4,12,13,6],[0],[1],[2]⟩
 JL:=Xd
 JE:=WY
 XL:=Xn
 XE:=Xi
 q:=fun j=>match j with | 0=> .ret | _=> .exit 0
 tags:= [0,1]
 lt:=wX
 fuel:=fun(y0,y1,y2,y3)=>y0.natAbs + y1.natAbs + y2.length + y3.length
 fix:=fun(_,_,y2,_) (y0,y1,_,y3)=>(y0,y1,y2,y3)
 σ:= [(0,0),(1,256)]
 rd:=HV
theorem UU:LoopOk prog (fun k=>Nat.blt k Tryz.f268.ntmps) dl.F (aS f268 0):=by
 refine Lp.ok (tbl:= [ZA,Dd]) (lf:= []) aQ dl (by kernel_rfl) (LOk.nil _) (fun _=>rfl) (fun j _=>by unfold dl;match j with | 0=>rfl | _ + 1=>rfl) ?_ ?_ ?_ ?_ (fun _=>rfl) ?_
 ·rintro⟨y0,y1,y2,y3⟩;kernel_rfl
 ·rintro⟨y0,y1,y2,y3⟩;kernel_rfl
 ·intro s x h
  have h:HV s=some x:=h
  unfold HV at h
  repeat' split at h
  all_goals cases h
  exact⟨aa (by assumption) rfl (aa (by assumption) rfl (aa (by assumption) rfl (aa (by assumption) rfl (rfl)))),ab rfl (by assumption) rfl (ab rfl (by assumption) rfl (rfl))⟩
 ·rintro⟨y0,y1,y2,y3⟩;kernel_rfl
 ·rintro⟨y0,y1,y2,y3⟩ z;exact(And.intro (And.intro trivial rfl) trivial)
section
variable (x0:List (Int×ByteArray×Int))
def GQ:Int×Int×List (Int×ByteArray×Int)×List Int:=((0:Int),(0:Int),x0,[])
def MC:Bool:=Nat.beq ((Lp.res dl (GQ x0)).1) (0:Nat)
def MD:Int×List (Int×ByteArray×Int)×List Int:=(Lp.res dl (GQ x0)).2.2
def Oj:Bool:=bif MC x0 then false else bif (MD x0).1==(1:Int)then leI (↑x0.length:Int) (40:Int)else false
def ad8:List Int:=bif MC x0 then []else (MD x0).2.2
def Ok:Bool:=allT [Lp.fin dl (GQ x0)]
end
def Tg:List SV→List Entry→Option Out
 | [.one ⟨false,[.ref 0]⟩],[.row false 178 (.pair (.int .i64) (.pair (.str) (.int .i64))) x0]=>some ⟨.tup [⟨false,[.ref 1]⟩,⟨false,[.val (.bool (Oj x0))]⟩],[.row false 178 aeH x0],[.row true 2 afY (ad8 x0)],[Ok x0]⟩
 |_,_=>none
def NZ:PF prog:=PF.ofG prog [ZA,Dd] [dl.F] aQ 268 f268 func268 (LOk.fnT (l:= [aS f268 0]) (by kernel_rfl) (.cons UU (.nil _))) Tg (by
 intro vs es r h;unfold Tg at h;split at h
 ·cases h;kernel_rfl
 ·cases h)
def KZ(x0:List (Int×ByteArray×Int)):Bool:=Oj x0
def La(x0:List (Int×ByteArray×Int)):Bool:=allT [Ok x0]
def QJ:List SV→List Entry→Option Out
 | [.one ⟨false,[.ref 0]⟩],[.row false 178 (.pair (.int .i64) (.pair (.str) (.int .i64))) x0]=>some ⟨.one ⟨false,[.val (.bool (KZ x0))]⟩,[.row false 178 aeH x0],[],[La x0]⟩
 |_,_=>none
def aaO:PF prog:=PF.ofG prog [NZ,PF.lend NZ,PF.fz NZ] [] aQ 241 f241 func241 (fun c _=>LOk.nil c) QJ (by
 intro vs es r h;unfold QJ at h;split at h
 ·cases h;kernel_rfl
 ·cases h)
section
variable (x2 x3 x4:List ByteArray)
def Ol:List ByteArray:=x2++x3
def abw:List ByteArray:=Ol x2 x3++x4
def Ui:Bool:=allT [leN ((0:Nat) + List.length x2) (9223372036854775807:Nat),leN (((0:Nat) + List.length x2) * (16:Nat)) (140737488355328:Nat),leN (List.length x2 + List.length x3) (9223372036854775807:Nat),leN ((List.length x2 + List.length x3) * (16:Nat)) (140737488355328:Nat),leN (List.length (Ol x2 x3) + List.length x4) (9223372036854775807:Nat),leN ((List.length (Ol x2 x3) + List.length x4) * (16:Nat)) (140737488355328:Nat)]
end
def aa8:List SV→List Entry→Option Out
 | [.one ⟨true,[.val (.string _x0),.ref 0,.ref 1,.ref 2,.val (.string _x1),.ref 3]⟩],[.row false 9 (.str) x2,.row false 9 (.str) x3,.row false 9 (.str) x4,.row false 204 (.pair (.str) (.sl 178 (.pair (.int .i64) (.pair (.str) (.int .i64))))) x5]=>some ⟨.one ⟨false,[.ref 4]⟩,[.row false 9 agS x2,.row false 9 agS x3,.row false 9 agS x4,.row false 204 (CTy.pair CTy.str (CTy.sl (178:TypeId) aeH)) x5],[.row true 9 agS (abw x2 x3 x4)],[Ui x2 x3 x4]⟩
 |_,_=>none
def ah6:PF prog:=PF.ofG prog [] [] aQ 205 f205 func205 (fun c _=>LOk.nil c) aa8 (by
 intro vs es r h;unfold aa8 at h;split at h
 ·cases h;kernel_rfl
 ·cases h)
abbrev mU:=Int×List ByteArray
section
variable (y0:Int)(y1:List ByteArray)
def AQ:ByteArray:=Option.getD y1[Int.toNat y0]? ByteArray.empty
def td:List ByteArray:=List.drop (Int.toNat (0:Int)) (List.take y0.toNat y1)
def xN:Bool:=ltI y0 (↑y1.length:Int)
end
def CF:Bool:=leI (0:Int) (0:Int)
section
variable (y0:Int)(y1:List ByteArray)
def xO:Bool:=leI (0:Int) y0
def CG:Bool:=leI y0 (↑y1.length:Int)
def CH:Bool:=ltN y0.toNat y1.length
def xP:Bool:=LV (AQ y0 y1) (td y0 y1)
def CI:Bool:=leI (0:Int) (Ho (AQ y0 y1) (td y0 y1))
def GX:Int:=IntKind.wrap .i64 (y0 + (1:Int))
end
def aar:mU→List (Nat×SV)
 |(y0,_)=> [(3,(.one ⟨false,[.val (.int .i64 y0)]⟩)),(0,(.one ⟨false,[.ref 0]⟩))]
def aai:mU→List (Nat×Entry)
 |(_,y1)=> [(0,(.row false 9 agS y1))]
def aaJ:Nat→mU→List (Nat×SV)
 |0,(_,_)=> [(2,(.one ⟨false,[.val (.bool true)]⟩))]
 |_,(_,_)=> []
def aaA:Nat→mU→List (Nat×Entry)
 |0,(_,y1)=> [(0,(.row false 9 agS y1))]
 |_,(_,y1)=> [(0,(.row false 9 agS y1))]
def AG:mU→LT mU
 |(y0,y1)=> .ite (xN y0 y1) (.need [CF,xO y0,CG y0 y1,xO y0,xN y0 y1,CH y0 y1,xP y0 y1] (.ite (CI y0 y1) (.ext 0 [(0,0)]) (.nrm ((GX y0),y1) [(0,0)]))) (.ext 1 [(0,0)])
def KY(s:St):Option mU:=
 (match s.look 3 with
 |some ⟨none,.one ⟨false,[.val (.int .i64 y0)]⟩⟩=>
 (match s.look 0 with
 |some ⟨none,.one ⟨false,[.ref 0]⟩⟩=>
 (match s.ent 0 with
 |some (.row false 9 (.str) y1)=>
 some (y0,y1)
 |_=>none)
 |_=>none)
 |_=>none)
def eX:Lp mU where
 h:=⟨[4,5,6,7,10,11,12,13,14,15,16,17,18,2,8,9,3],[0],[],[]⟩
 JL:=aar
 JE:=aai
 XL:=aaJ
 XE:=aaA
 q:=fun j=>match j with | 0=> .ret | _=> .exit 0
 tags:= [0,1]
 lt:=AG
 fuel:=fun(y0,y1)=>y0.natAbs + y1.length
 fix:=fun(_,y1) (y0,_)=>(y0,y1)
 σ:= [(0,0)]
 rd:=KY
theorem Xy:LoopOk prog (fun k=>Nat.blt k Tryz.f242.ntmps) eX.F (aS f242 0):=by
 refine Lp.ok (tbl:= [zU,PF.lend zU,PF.fz zU]) (lf:= []) aQ eX (by kernel_rfl) (LOk.nil _) (fun _=>rfl) (fun j _=>by unfold eX;match j with | 0=>rfl | _ + 1=>rfl) ?_ ?_ ?_ ?_ (fun _=>rfl) ?_
 ·rintro⟨y0,y1⟩;kernel_rfl
 ·rintro⟨y0,y1⟩;kernel_rfl
 ·intro s x h
  have h:KY s=some x:=h
  unfold KY at h
  repeat' split at h
  all_goals cases h
  exact⟨aa (by assumption) rfl (aa (by assumption) rfl (rfl)),ab rfl (by assumption) rfl (rfl)⟩
 ·rintro⟨y0,y1⟩;kernel_rfl
 ·rintro⟨y0,y1⟩ z;exact(And.intro (And.intro trivial rfl) trivial)
def QC(x0:List ByteArray):Bool:=bif Nat.beq ((Lp.res eX ((0:Int),x0)).1) (0:Nat)then true else false
def QD(x0:List ByteArray):Bool:=allT [Lp.fin eX ((0:Int),x0)]
def Wx:List SV→List Entry→Option Out
 | [.one ⟨false,[.ref 0]⟩],[.row false 9 (.str) x0]=>some ⟨.one ⟨false,[.val (.bool (QC x0))]⟩,[.row false 9 agS x0],[],[QD x0]⟩
 |_,_=>none
def agc:PF prog:=PF.ofG prog [zU,PF.lend zU,PF.fz zU] [eX.F] aQ 242 f242 func242 (LOk.fnT (l:= [aS f242 0]) (by kernel_rfl) (.cons Xy (.nil _))) Wx (by
 intro vs es r h;unfold Wx at h;split at h
 ·cases h;kernel_rfl
 ·cases h)
abbrev mt:=Int×Int×ByteArray×ByteArray×List (Int×(ByteArray×Int))×List ByteArray×List ByteArray×List ByteArray×List (ByteArray×(List (Int×(ByteArray×Int))))
def FQ(y1:Int)(y8:List (ByteArray×(List (Int×(ByteArray×Int))))):Bool:=ltI y1 (↑y8.length:Int)
def zR(y1:Int)(y8:List (ByteArray×(List (Int×(ByteArray×Int))))):Bool:=ltN y1.toNat y8.length
def qY(y1:Int)(y8:List (ByteArray×(List (Int×(ByteArray×Int))))):List (Int×ByteArray×Int):=(Option.getD y8[Int.toNat y1]? (xt (CTy.pair CTy.str (CTy.sl (178:Nat) aeH)))).2
def qZ(y0 y1:Int)(y8:List (ByteArray×(List (Int×(ByteArray×Int))))):Bool:=ltI y0 (↑(List.length (qY y1 y8)):Int)
def ra(y0 y1:Int)(y8:List (ByteArray×(List (Int×(ByteArray×Int))))):Int×ByteArray×Int:=Option.getD (qY y1 y8)[Int.toNat y0]? ((0:Int),ByteArray.empty,(0:Int))
def dR(y0 y1:Int)(y8:List (ByteArray×(List (Int×(ByteArray×Int))))):Bool:=leI (7:Int) ((ra y0 y1 y8).1)
def rb(y0 y1:Int)(y8:List (ByteArray×(List (Int×(ByteArray×Int))))):List (Int×ByteArray×Int):= [((ra y0 y1 y8).1,((ra y0 y1 y8).2).1,(ra y0 y1 y8).2.2)]
def sA(y1:Int):Bool:=leI (0:Int) y1
def sB(y1:Int)(y8:List (ByteArray×(List (Int×(ByteArray×Int))))):Bool:=FQ y1 y8
def sC(y1:Int)(y8:List (ByteArray×(List (Int×(ByteArray×Int))))):Bool:=zR y1 y8
def sD(y0 y1:Int)(y8:List (ByteArray×(List (Int×(ByteArray×Int))))):Bool:=qZ y0 y1 y8
def wc(y0:Int):Bool:=leI (0:Int) y0
def wd(y0 y1:Int)(y8:List (ByteArray×(List (Int×(ByteArray×Int))))):Bool:=ltN y0.toNat (List.length (qY y1 y8))
def we(y0 y1:Int)(y8:List (ByteArray×(List (Int×(ByteArray×Int))))):Bool:= !dR y0 y1 y8||leI (0:Int) y1
def wg(y0 y1:Int)(y8:List (ByteArray×(List (Int×(ByteArray×Int))))):Bool:= !dR y0 y1 y8||FQ y1 y8
def wh(y0 y1:Int)(y8:List (ByteArray×(List (Int×(ByteArray×Int))))):Bool:= !dR y0 y1 y8||zR y1 y8
def wi(y0 y1:Int)(y8:List (ByteArray×(List (Int×(ByteArray×Int))))):Bool:= !dR y0 y1 y8||leI (0:Int) y0
def vg(y0 y1:Int)(y8:List (ByteArray×(List (Int×(ByteArray×Int))))):Bool:= !dR y0 y1 y8||qZ y0 y1 y8
def vh(y0 y1:Int)(y8:List (ByteArray×(List (Int×(ByteArray×Int))))):Bool:= !dR y0 y1 y8||ltN y0.toNat (List.length (qY y1 y8))
def vi(y0 y1:Int)(y4:List (Int×(ByteArray×Int)))(y8:List (ByteArray×(List (Int×(ByteArray×Int))))):Bool:= !dR y0 y1 y8||leN (List.length y4 + List.length (rb y0 y1 y8)) (9223372036854775807:Nat)
def vj(y0 y1:Int)(y4:List (Int×(ByteArray×Int)))(y8:List (ByteArray×(List (Int×(ByteArray×Int))))):Bool:= !dR y0 y1 y8||leN ((List.length y4 + List.length (rb y0 y1 y8)) * (32:Nat)) (140737488355328:Nat)
def vk(y0 y1:Int)(y8:List (ByteArray×(List (Int×(ByteArray×Int))))):Bool:=dR y0 y1 y8
def qX(y0:Int):Int:=IntKind.wrap .i64 (y0 + (1:Int))
def vl(y0 y1:Int)(y4:List (Int×(ByteArray×Int)))(y8:List (ByteArray×(List (Int×(ByteArray×Int))))):List (Int×(ByteArray×Int)):=y4++rb y0 y1 y8
def UC:mt→List (Nat×SV)
 |(y0,y1,_,_,_,_,_,_,_)=> [(5,(.one ⟨false,[.val (.int .i64 y0)]⟩)),(1,(.one ⟨false,[.ptr 0 0]⟩)),(4,(.one ⟨false,[.val (.int .i64 y1)]⟩)),(3,(.one ⟨false,[.ref 1]⟩))]
def UB:mt→List (Nat×Entry)
 |(_,_,y2,y3,y4,y5,y6,y7,y8)=> [(0,(.box 63 [.val (.string y2),.ref 2,.ref 3,.ref 4,.val (.string y3),.ref 5])),(2,(.row false 9 agS y5)),(3,(.row false 9 agS y6)),(4,(.row false 9 agS y7)),(5,(.row false 204 (CTy.pair CTy.str (CTy.sl (178:Nat) aeH)) y8)),(1,(.row true 178 aeH y4))]
def UK:Nat→mt→List (Nat×SV)
 |_,(_,_,_,_,_,_,_,_,_)=> [(3,(.one ⟨false,[.ref 1]⟩))]
def UJ:Nat→mt→List (Nat×Entry)
 |_,(_,_,y2,y3,y4,y5,y6,y7,y8)=> [(0,(.box 63 [.val (.string y2),.ref 2,.ref 3,.ref 4,.val (.string y3),.ref 5])),(1,(.row true 178 aeH y4)),(2,(.row false 9 agS y5)),(3,(.row false 9 agS y6)),(4,(.row false 9 agS y7)),(5,(.row false 204 (CTy.pair CTy.str (CTy.sl (178:Nat) aeH)) y8))]
def uY:mt→LT mt
 |(y0,y1,y2,y3,y4,y5,y6,y7,y8)=> .need [sA y1,sB y1 y8,sC y1 y8] (.ite (sD y0 y1 y8) (.need [sA y1,sB y1 y8,sC y1 y8,wc y0,sD y0 y1 y8,wd y0 y1 y8] (.need [we y0 y1 y8,wg y0 y1 y8,wh y0 y1 y8,wi y0 y1 y8,vg y0 y1 y8,vh y0 y1 y8,vi y0 y1 y4 y8,vj y0 y1 y4 y8] (.ite (vk y0 y1 y8) (.nrm ((qX y0),y1,y2,y3,vl y0 y1 y4 y8,y5,y6,y7,y8) [(0,0),(1,2048),(2,2),(3,3),(4,4),(5,5)]) (.nrm ((qX y0),y1,y2,y3,y4,y5,y6,y7,y8) [(0,0),(1,1),(2,2),(3,3),(4,4),(5,5)])))) (.ext 0 [(0,0),(1,1),(2,2),(3,3),(4,4),(5,5)]))
def FN(s:St):Option mt:=
 (match s.look 5 with
 |some ⟨none,.one ⟨false,[.val (.int .i64 y0)]⟩⟩=>
 (match s.look 1 with
 |some ⟨none,.one ⟨false,[.ptr 0 0]⟩⟩=>
 (match s.look 4 with
 |some ⟨none,.one ⟨false,[.val (.int .i64 y1)]⟩⟩=>
 (match s.look 3 with
 |some ⟨none,.one ⟨false,[.ref 1]⟩⟩=>
 (match s.ent 0 with
 |some (.box 63 [.val (.string y2),.ref 2,.ref 3,.ref 4,.val (.string y3),.ref 5])=>
 (match s.ent 2 with
 |some (.row false 9 (.str) y5)=>
 (match s.ent 3 with
 |some (.row false 9 (.str) y6)=>
 (match s.ent 4 with
 |some (.row false 9 (.str) y7)=>
 (match s.ent 5 with
 |some (.row false 204 (.pair .str (.sl (178:Nat) (.pair (.int .i64) (.pair .str (.int .i64))))) y8)=>
 (match s.ent 1 with
 |some (.row true 178 (.pair (.int .i64) (.pair .str (.int .i64))) y4)=>
 some (y0,y1,y2,y3,y4,y5,y6,y7,y8)
 |_=>none)
 |_=>none)
 |_=>none)
 |_=>none)
 |_=>none)
 |_=>none)
 |_=>none)
 |_=>none)
 |_=>none)
 |_=>none)
def dM:Lp mt where
 h:=⟨[14,15,16,17,18,19,20,21,22,25,26,27,28,29,30,31,32,33,34,35,36,37,38,39,40,41,42,43,44,45,46,47,3,23,24,5],[0,2,3,4,5],[1],[]⟩
 JL:=UC
 JE:=UB
 XL:=UK
 XE:=UJ
 q:=fun j=>match j with | _=> .exit 2
 tags:= [0]
 lt:=uY
 fuel:=fun(y0,y1,y2,y3,y4,y5,y6,y7,y8)=>y0.natAbs + y1.natAbs + y2.size + y3.size + y4.length + y5.length + y6.length + y7.length + y8.length
 fix:=fun(_,y1,y2,y3,_,y5,y6,y7,y8) (y0,_,_,_,y4,_,_,_,_)=>(y0,y1,y2,y3,y4,y5,y6,y7,y8)
 σ:= [(0,0),(2,2),(3,3),(4,4),(5,5),(1,1)]
 rd:=FN
theorem SU:LoopOk prog (memN [7,8,9,10,11,5,14,15,16,17,18,19,20,21,22,25,26,27,28,29,30,31,32,33,34,35,36,37,38,39,40,41,42,43,44,45,46,47,3,23,24,12,13,4]) dM.F (Zg (aS f188 0) 0):=by
 refine Lp.ok (tbl:= []) (lf:= []) aQ dM (by kernel_rfl) (LOk.nil _) (fun _=>rfl) (fun _ _=>rfl) ?_ ?_ ?_ ?_ (fun _=>rfl) ?_
 ·rintro⟨y0,y1,y2,y3,y4,y5,y6,y7,y8⟩;kernel_rfl
 ·rintro⟨y0,y1,y2,y3,y4,y5,y6,y7,y8⟩;kernel_rfl
 ·intro s x h
  have h:FN s=some x:=h
  unfold FN at h
  repeat' split at h
  all_goals cases h
  exact⟨aa (by assumption) rfl (aa (by assumption) rfl (aa (by assumption) rfl (aa (by assumption) rfl (rfl)))),ab rfl (by assumption) rfl (ab rfl (by assumption) rfl (ab rfl (by assumption) rfl (ab rfl (by assumption) rfl (ab rfl (by assumption) rfl (ab rfl (by assumption) rfl (rfl))))))⟩
 ·rintro⟨y0,y1,y2,y3,y4,y5,y6,y7,y8⟩;kernel_rfl
 ·rintro⟨y0,y1,y2,y3,y4,y5,y6,y7,y8⟩ z;exact(And.intro (And.intro rfl rfl) trivial)
abbrev qj:=Int×ByteArray×ByteArray×List (Int×(ByteArray×Int))×List ByteArray×List ByteArray×List ByteArray×List (ByteArray×(List (Int×(ByteArray×Int))))
def ze(y0:Int)(y1 y2:ByteArray)(y3:List (Int×(ByteArray×Int)))(y4 y5 y6:List ByteArray)(y7:List (ByteArray×(List (Int×(ByteArray×Int))))):Int×Int×ByteArray×ByteArray×List (Int×ByteArray×Int)×List ByteArray×List ByteArray×List ByteArray×List (ByteArray×List (Int×ByteArray×Int)):=((0:Int),y0,y1,y2,y3,y4,y5,y6,y7)
def AL(y0:Int)(y7:List (ByteArray×(List (Int×(ByteArray×Int))))):Bool:=ltI y0 (↑y7.length:Int)
def AM(y0:Int)(y1 y2:ByteArray)(y3:List (Int×(ByteArray×Int)))(y4 y5 y6:List ByteArray)(y7:List (ByteArray×(List (Int×(ByteArray×Int))))):Bool:=Lp.fin dM (ze y0 y1 y2 y3 y4 y5 y6 y7)
def AO(y0:Int):Int:=IntKind.wrap .i64 (y0 + (1:Int))
def AP(y0:Int)(y1 y2:ByteArray)(y3:List (Int×(ByteArray×Int)))(y4 y5 y6:List ByteArray)(y7:List (ByteArray×(List (Int×(ByteArray×Int))))):List (Int×(ByteArray×Int)):=((Lp.res dM (ze y0 y1 y2 y3 y4 y5 y6 y7)).2.2.2.2.2).1
def Ym:qj→List (Nat×SV)
 |(y0,_,_,_,_,_,_,_)=> [(4,(.one ⟨false,[.val (.int .i64 y0)]⟩)),(1,(.one ⟨false,[.ptr 0 0]⟩)),(3,(.one ⟨false,[.ref 1]⟩))]
def Ye:qj→List (Nat×Entry)
 |(_,y1,y2,y3,y4,y5,y6,y7)=> [(0,(.box 63 [.val (.string y1),.ref 2,.ref 3,.ref 4,.val (.string y2),.ref 5])),(2,(.row false 9 agS y4)),(3,(.row false 9 agS y5)),(4,(.row false 9 agS y6)),(5,(.row false 204 (CTy.pair CTy.str (CTy.sl (178:Nat) aeH)) y7)),(1,(.row true 178 aeH y3))]
def YM:Nat→qj→List (Nat×SV)
 |_,(_,_,_,_,_,_,_,_)=> [(3,(.one ⟨false,[.ref 1]⟩))]
def YE:Nat→qj→List (Nat×Entry)
 |_,(_,y1,y2,y3,y4,y5,y6,y7)=> [(0,(.box 63 [.val (.string y1),.ref 2,.ref 3,.ref 4,.val (.string y2),.ref 5])),(1,(.row true 178 aeH y3)),(2,(.row false 9 agS y4)),(3,(.row false 9 agS y5)),(4,(.row false 9 agS y6)),(5,(.row false 204 (CTy.pair CTy.str (CTy.sl (178:Nat) aeH)) y7))]
def yI:qj→LT qj
 |(y0,y1,y2,y3,y4,y5,y6,y7)=> .ite (AL y0 y7) (.need [AM y0 y1 y2 y3 y4 y5 y6 y7] (.nrm ((AO y0),y1,y2,AP y0 y1 y2 y3 y4 y5 y6 y7,y4,y5,y6,y7) [(0,0),(1,448),(2,2),(3,3),(4,4),(5,5)])) (.ext 0 [(0,0),(1,1),(2,2),(3,3),(4,4),(5,5)])
def JK(s:St):Option qj:=
 (match s.look 4 with
 |some ⟨none,.one ⟨false,[.val (.int .i64 y0)]⟩⟩=>
 (match s.look 1 with
 |some ⟨none,.one ⟨false,[.ptr 320 0]⟩⟩=>
 (match s.look 3 with
 |some ⟨none,.one ⟨false,[.ref 448]⟩⟩=>
 (match s.ent 320 with
 |some (.box 63 [.val (.string y1),.ref 0,.ref 1,.ref 2,.val (.string y2),.ref 3])=>
 (match s.ent 0 with
 |some (.row false 9 (.str) y4)=>
 (match s.ent 1 with
 |some (.row false 9 (.str) y5)=>
 (match s.ent 2 with
 |some (.row false 9 (.str) y6)=>
 (match s.ent 3 with
 |some (.row false 204 (.pair .str (.sl (178:Nat) (.pair (.int .i64) (.pair .str (.int .i64))))) y7)=>
 (match s.ent 448 with
 |some (.row true 178 (.pair (.int .i64) (.pair .str (.int .i64))) y3)=>
 some (y0,y1,y2,y3,y4,y5,y6,y7)
 |_=>none)
 |_=>none)
 |_=>none)
 |_=>none)
 |_=>none)
 |_=>none)
 |_=>none)
 |_=>none)
 |_=>none)
def iX:Lp qj where
 h:=⟨[7,8,9,10,11,5,14,15,16,17,18,19,20,21,22,25,26,27,28,29,30,31,32,33,34,35,36,37,38,39,40,41,42,43,44,45,46,47,3,23,24,12,13,4],[0,2,3,4,5],[1],[]⟩
 JL:=Ym
 JE:=Ye
 XL:=YM
 XE:=YE
 q:=fun j=>match j with | _=> .exit 0
 tags:= [0]
 lt:=yI
 fuel:=fun(y0,y1,y2,y3,y4,y5,y6,y7)=>y0.natAbs + y1.size + y2.size + y3.length + y4.length + y5.length + y6.length + y7.length
 fix:=fun(_,y1,y2,_,y4,y5,y6,y7) (y0,_,_,y3,_,_,_,_)=>(y0,y1,y2,y3,y4,y5,y6,y7)
 σ:= [(0,320),(2,0),(3,1),(4,2),(5,3),(1,448)]
 rd:=JK
theorem VP:LoopOk prog (fun k=>Nat.blt k Tryz.f188.ntmps) iX.F (aS f188 0):=by
 refine Lp.ok (tbl:= []) (lf:= [dM.F]) aQ iX (by kernel_rfl) (LOk.allT (l:= [Zg (aS f188 0) 0]) (by kernel_rfl) (.cons SU (.nil _))) (fun _=>rfl) (fun _ _=>rfl) ?_ ?_ ?_ ?_ (fun _=>rfl) ?_
 ·rintro⟨y0,y1,y2,y3,y4,y5,y6,y7⟩;kernel_rfl
 ·rintro⟨y0,y1,y2,y3,y4,y5,y6,y7⟩;kernel_rfl
 ·intro s x h
  have h:JK s=some x:=h
  unfold JK at h
  repeat' split at h
  all_goals cases h
  exact⟨aa (by assumption) rfl (aa (by assumption) rfl (aa (by assumption) rfl (rfl))),ab rfl (by assumption) rfl (ab rfl (by assumption) rfl (ab rfl (by assumption) rfl (ab rfl (by assumption) rfl (ab rfl (by assumption) rfl (ab rfl (by assumption) rfl (rfl))))))⟩
 ·rintro⟨y0,y1,y2,y3,y4,y5,y6,y7⟩;kernel_rfl
 ·rintro⟨y0,y1,y2,y3,y4,y5,y6,y7⟩ z;exact(And.intro rfl trivial)
section
variable (x0 x1:ByteArray)(x2 x3 x4:List ByteArray)(x5:List (ByteArray×List (Int×ByteArray×Int)))
def Om:Int×ByteArray×ByteArray×List (Int×ByteArray×Int)×List ByteArray×List ByteArray×List ByteArray×List (ByteArray×List (Int×ByteArray×Int)):=((0:Int),x0,x1,[],x2,x3,x4,x5)
def Pv:List (Int×(ByteArray×Int)):=((Lp.res iX (Om x0 x1 x2 x3 x4 x5)).2.2.2.2).1
def Pw:Bool:=allT [Lp.fin iX (Om x0 x1 x2 x3 x4 x5)]
end
def Uz:List SV→List Entry→Option Out
 | [.one ⟨true,[.val (.string x0),.ref 0,.ref 1,.ref 2,.val (.string x1),.ref 3]⟩],[.row false 9 (.str) x2,.row false 9 (.str) x3,.row false 9 (.str) x4,.row false 204 (.pair (.str) (.sl 178 (.pair (.int .i64) (.pair (.str) (.int .i64))))) x5]=>some ⟨.one ⟨false,[.ref 4]⟩,[.row false 9 agS x2,.row false 9 agS x3,.row false 9 agS x4,.row false 204 (CTy.pair CTy.str (CTy.sl (178:TypeId) aeH)) x5],[.row true 178 aeH (Pv x0 x1 x2 x3 x4 x5)],[Pw x0 x1 x2 x3 x4 x5]⟩
 |_,_=>none
def ae6:PF prog:=PF.ofG prog [] [iX.F] aQ 188 f188 func188 (LOk.fnT (l:= [aS f188 0]) (by kernel_rfl) (.cons VP (.nil _))) Uz (by
 intro vs es r h;unfold Uz at h;split at h
 ·cases h;kernel_rfl
 ·cases h)
def adI(x0:ByteArray):Bool:= !lN x0
def SY:List SV→List Entry→Option Out
 | [.one ⟨false,[.val (.string x0)]⟩],[]=>some ⟨.one ⟨false,[.val (.bool (adI x0))]⟩,[],[],[]⟩
 |_,_=>none
def adV:PF prog:=PF.ofG prog [Lq] [] aQ 259 f259 func259 (fun c _=>LOk.nil c) SY (by
 intro vs es r h;unfold SY at h;split at h
 ·cases h;kernel_rfl
 ·cases h)
def zq(x0:ByteArray):Bool:= !lN x0
def MU:List SV→List Entry→Option Out
 | [.one ⟨false,[.val (.string x0)]⟩],[]=>some ⟨.one ⟨false,[.val (.bool (zq x0))]⟩,[],[],[]⟩
 |_,_=>none
def Nf:PF prog:=PF.ofG prog [Lq] [] aQ 259 f259 func259 (fun c _=>LOk.nil c) MU (by
 intro vs es r h;unfold MU at h;split at h
 ·cases h;kernel_rfl
 ·cases h)
abbrev bn:=Int×Int×List ByteArray
section
variable (y0 y1:Int)(y2:List ByteArray)
def gI:Bool:=ltI y0 y1
def gJ:Bool:=leI (0:Int) y0
def gK:Bool:=ltI y0 (↑y2.length:Int)
def gL:Bool:=ltN y0.toNat y2.length
def gM:Bool:=zq (Option.getD y2[Int.toNat y0]? ByteArray.empty)
def gN:Int:=IntKind.wrap .i64 (y0 + (1:Int))
end
def Gn:bn→List (Nat×SV)
 |(y0,y1,_)=> [(8,(.one ⟨false,[.val (.int .i64 y0)]⟩)),(7,(.one ⟨false,[.val (.int .i64 y1)]⟩)),(1,(.one ⟨false,[.val (.func (.func 259) ⟨[]⟩ ⟨[]⟩)]⟩)),(0,(.one ⟨false,[.ref 0]⟩))]
def Gk:bn→List (Nat×Entry)
 |(_,_,y2)=> [(0,(.row false 9 agS y2))]
def Gv:Nat→bn→List (Nat×SV)
 |0,(y0,_,_)=> [(4,(.one ⟨false,[.val (.int .i64 y0)]⟩))]
 |_,(_,_,_)=> []
def Gs:Nat→bn→List (Nat×Entry)
 |0,(_,_,y2)=> [(0,(.row false 9 agS y2))]
 |_,(_,_,y2)=> [(0,(.row false 9 agS y2))]
def gw:bn→LT bn
 |(y0,y1,y2)=> .ite (gI y0 y1) (.need [gJ y0,gK y0 y2,gL y0 y2] (.ite (gM y0 y2) (.ext 0 [(0,0)]) (.nrm ((gN y0),y1,y2) [(0,0)]))) (.ext 1 [(0,0)])
def pI(s:St):Option bn:=
 (match s.look 8 with
 |some ⟨none,.one ⟨false,[.val (.int .i64 y0)]⟩⟩=>
 (match s.look 7 with
 |some ⟨none,.one ⟨false,[.val (.int .i64 y1)]⟩⟩=>
 (match s.look 1 with
 |some ⟨none,.one ⟨false,[.val (.func (.func 259) ⟨[]⟩ ⟨[]⟩)]⟩⟩=>
 (match s.look 0 with
 |some ⟨none,.one ⟨false,[.ref 0]⟩⟩=>
 (match s.ent 0 with
 |some (.row false 9 (.str) y2)=>
 some (y0,y1,y2)
 |_=>none)
 |_=>none)
 |_=>none)
 |_=>none)
 |_=>none)
def ah:Lp bn where
 h:=⟨[9,10,5,11,12,13,14,15,16,17,4,18,8],[0],[],[]⟩
 JL:=Gn
 JE:=Gk
 XL:=Gv
 XE:=Gs
 q:=fun j=>match j with | 0=> .ret | _=> .exit 0
 tags:= [0,1]
 lt:=gw
 fuel:=fun(y0,y1,y2)=>y0.natAbs + y1.natAbs + y2.length
 fix:=fun(_,y1,y2) (y0,_,_)=>(y0,y1,y2)
 σ:= [(0,0)]
 rd:=pI
theorem FJ:LoopOk prog (fun k=>Nat.blt k Tryz.f264.ntmps) ah.F (aS f264 0):=by
 refine Lp.ok (tbl:= [Nf]) (lf:= []) aQ ah (by kernel_rfl) (LOk.nil _) (fun _=>rfl) (fun j _=>by unfold ah;match j with | 0=>rfl | _ + 1=>rfl) ?_ ?_ ?_ ?_ (fun _=>rfl) ?_
 ·rintro⟨y0,y1,y2⟩;kernel_rfl
 ·rintro⟨y0,y1,y2⟩;kernel_rfl
 ·intro s x h
  have h:pI s=some x:=h
  unfold pI at h
  repeat' split at h
  all_goals cases h
  exact⟨aa (by assumption) rfl (aa (by assumption) rfl (aa (by assumption) rfl (aa (by assumption) rfl (rfl)))),ab rfl (by assumption) rfl (rfl)⟩
 ·rintro⟨y0,y1,y2⟩;kernel_rfl
 ·rintro⟨y0,y1,y2⟩ z;exact(And.intro (And.intro trivial rfl) trivial)
section
variable (x0:List ByteArray)
def md:Int×Int×List ByteArray:=((0:Int),(↑x0.length:Int),x0)
def rB:Int:=bif Nat.beq ((Lp.res ah (md x0)).1) (0:Nat)then ((Lp.res ah (md x0)).2).1else(-1:Int)
def rC:Bool:=allT [Lp.fin ah (md x0)]
end
def ya:List SV→List Entry→Option Out
 | [.one ⟨false,[.ref 0]⟩,.one ⟨false,[.val (.func (.func 259) ⟨[]⟩ ⟨[]⟩)]⟩],[.row false 9 (.str) x0]=>some ⟨.one ⟨false,[.val (.int .i64 (rB x0))]⟩,[.row false 9 agS x0],[],[rC x0]⟩
 |_,_=>none
def rn:PF prog:=PF.ofG prog [Nf] [ah.F] aQ 264 f264 func264 (LOk.fnT (l:= [aS f264 0]) (by kernel_rfl) (.cons FJ (.nil _))) ya (by
 intro vs es r h;unfold ya at h;split at h
 ·cases h;kernel_rfl
 ·cases h)
def pX(x0:List ByteArray):Bool:=leI (0:Int) (rB x0)
def pY(x0:List ByteArray):Bool:=allT [rC x0]
def wA:List SV→List Entry→Option Out
 | [.one ⟨false,[.ref 0]⟩,.one ⟨false,[.val (.func (.func 259) ⟨[]⟩ ⟨[]⟩)]⟩],[.row false 9 (.str) x0]=>some ⟨.one ⟨false,[.val (.bool (pX x0))]⟩,[.row false 9 agS x0],[],[pY x0]⟩
 |_,_=>none
def pT:PF prog:=PF.ofG prog [rn,PF.lend rn,PF.fz rn] [] aQ 235 f235 func235 (fun c _=>LOk.nil c) wA (by
 intro vs es r h;unfold wA at h;split at h
 ·cases h;kernel_rfl
 ·cases h)
def Qh(x0:List ByteArray):Bool:= !pX x0
def Qi(x0:List ByteArray):Bool:=allT [pY x0]
def Wg:List SV→List Entry→Option Out
 | [.one ⟨false,[.ref 0]⟩],[.row false 9 (.str) x0]=>some ⟨.one ⟨false,[.val (.bool (Qh x0))]⟩,[.row false 9 agS x0],[],[Qi x0]⟩
 |_,_=>none
def af4:PF prog:=PF.ofG prog [adV,pT,PF.lend pT,PF.fz pT] [] aQ 226 f226 func226 (fun c _=>LOk.nil c) Wg (by
 intro vs es r h;unfold Wg at h;split at h
 ·cases h;kernel_rfl
 ·cases h)
abbrev qb:=Int×Int×Int×Int×List (Int×(ByteArray×Int))
section
variable (y0 y1 y2 y3:Int)(y4:List (Int×(ByteArray×Int)))
def qC:Int×ByteArray×Int:=Option.getD y4[Int.toNat y0]? ((0:Int),ByteArray.empty,(0:Int))
def vI:Int:=IntKind.wrap .i64 (y2 + IntKind.wrap .i64 ((1:Int) - rX ((qC y0 y4).1)))
def Fu:Bool:=ltI y0 y1
def Fv:Bool:=leI (0:Int) y0
def Fw:Bool:=ltI y0 (↑y4.length:Int)
def Fx:Bool:=ltN y0.toNat y4.length
def Fy:Bool:=bif !Li ((qC y0 y4).1) (((qC y0 y4).2).1) ((qC y0 y4).2.2)then true else ltI y2 (rX ((qC y0 y4).1))
def Fz:Int:=IntKind.wrap .i64 (y0 + (1:Int))
def FA:Int:=vI y0 y2 y4
def FB:Int:=aeI y3 (vI y0 y2 y4) (vI y0 y2 y4) y3
end
def adr:qb→List (Nat×SV)
 |(y0,y1,y2,y3,_)=> [(10,(.one ⟨false,[.val (.int .i64 y0)]⟩)),(9,(.one ⟨false,[.val (.int .i64 y1)]⟩)),(8,(.one ⟨false,[.ref 0]⟩)),(4,(.one ⟨false,[.val (.int .i64 y2)]⟩)),(5,(.one ⟨false,[.val (.int .i64 y3)]⟩))]
def adq:qb→List (Nat×Entry)
 |(_,_,_,_,y4)=> [(0,(.row false 178 aeH y4))]
def adt:Nat→qb→List (Nat×SV)
 |0,(_,_,_,_,_)=> [(2,(.one ⟨false,[.val (.int .i64 (0:Int))]⟩)),(3,(.one ⟨false,[.val (.bool false)]⟩))]
 |_,(_,_,y2,y3,_)=> [(4,(.one ⟨false,[.val (.int .i64 y2)]⟩)),(5,(.one ⟨false,[.val (.int .i64 y3)]⟩))]
def ads:Nat→qb→List (Nat×Entry)
 |0,(_,_,_,_,y4)=> [(0,(.row false 178 aeH y4))]
 |_,(_,_,_,_,y4)=> [(0,(.row false 178 aeH y4))]
def Eg:qb→LT qb
 |(y0,y1,y2,y3,y4)=> .ite (Fu y0 y1) (.need [Fv y0,Fw y0 y4,Fx y0 y4] (.ite (Fy y0 y2 y4) (.ext 0 [(0,0)]) (.nrm ((Fz y0),y1,FA y0 y2 y4,FB y0 y2 y3 y4,y4) [(0,0)]))) (.ext 1 [(0,0)])
def Ob(s:St):Option qb:=
 (match s.look 10 with
 |some ⟨none,.one ⟨false,[.val (.int .i64 y0)]⟩⟩=>
 (match s.look 9 with
 |some ⟨none,.one ⟨false,[.val (.int .i64 y1)]⟩⟩=>
 (match s.look 8 with
 |some ⟨none,.one ⟨false,[.ref 0]⟩⟩=>
 (match s.look 4 with
 |some ⟨none,.one ⟨false,[.val (.int .i64 y2)]⟩⟩=>
 (match s.look 5 with
 |some ⟨none,.one ⟨false,[.val (.int .i64 y3)]⟩⟩=>
 (match s.ent 0 with
 |some (.row false 178 (.pair (.int .i64) (.pair .str (.int .i64))) y4)=>
 some (y0,y1,y2,y3,y4)
 |_=>none)
 |_=>none)
 |_=>none)
 |_=>none)
 |_=>none)
 |_=>none)
def gq:Lp qb where
 h:=⟨[11,12,13,7,14,15,16,17,18,19,20,21,22,23,2,3,24,25,26,27,28,29,4,30,31,32,5,33,10],[0],[],[]⟩
 JL:=adr
 JE:=adq
 XL:=adt
 XE:=ads
 q:=fun j=>match j with | 0=> .ret | _=> .exit 0
 tags:= [0,1]
 lt:=Eg
 fuel:=fun(y0,y1,y2,y3,y4)=>y0.natAbs + y1.natAbs + y2.natAbs + y3.natAbs + y4.length
 fix:=fun(_,y1,_,_,y4) (y0,_,y2,y3,_)=>(y0,y1,y2,y3,y4)
 σ:= [(0,0)]
 rd:=Ob
theorem aaM:LoopOk prog (fun k=>Nat.blt k Tryz.f275.ntmps) gq.F (aS f275 0):=by
 refine Lp.ok (tbl:= [abp,Ki]) (lf:= []) aQ gq (by kernel_rfl) (LOk.nil _) (fun _=>rfl) (fun j _=>by unfold gq;match j with | 0=>rfl | _ + 1=>rfl) ?_ ?_ ?_ ?_ (fun _=>rfl) ?_
 ·rintro⟨y0,y1,y2,y3,y4⟩;kernel_rfl
 ·rintro⟨y0,y1,y2,y3,y4⟩;kernel_rfl
 ·intro s x h
  have h:Ob s=some x:=h
  unfold Ob at h
  repeat' split at h
  all_goals cases h
  exact⟨aa (by assumption) rfl (aa (by assumption) rfl (aa (by assumption) rfl (aa (by assumption) rfl (aa (by assumption) rfl (rfl))))),ab rfl (by assumption) rfl (rfl)⟩
 ·rintro⟨y0,y1,y2,y3,y4⟩;kernel_rfl
 ·rintro⟨y0,y1,y2,y3,y4⟩ z;exact(And.intro (And.intro trivial rfl) trivial)
section
variable (x0:List (Int×ByteArray×Int))
def NI:Int×Int×Int×Int×List (Int×ByteArray×Int):=((0:Int),(↑x0.length:Int),(0:Int),(0:Int),x0)
def RL:Bool:=Nat.beq ((Lp.res gq (NI x0)).1) (0:Nat)
def RM:Int×Int×List (Int×ByteArray×Int):=(Lp.res gq (NI x0)).2.2.2
def ahX:Int:=bif RL x0 then(0:Int)else ((RM x0).2).1
def TR:Bool:=bif RL x0 then false else (RM x0).1==(1:Int)
def TS:Bool:=allT [Lp.fin gq (NI x0)]
end
def aaV:List SV→List Entry→Option Out
 | [.one ⟨false,[.ref 0]⟩],[.row false 178 (.pair (.int .i64) (.pair (.str) (.int .i64))) x0]=>some ⟨.tup [⟨false,[.val (.int .i64 (ahX x0))]⟩,⟨false,[.val (.bool (TR x0))]⟩],[.row false 178 aeH x0],[],[TS x0]⟩
 |_,_=>none
def Uf:PF prog:=PF.ofG prog [abp,Ki] [gq.F] aQ 275 f275 func275 (LOk.fnT (l:= [aS f275 0]) (by kernel_rfl) (.cons aaM (.nil _))) aaV (by
 intro vs es r h;unfold aaV at h;split at h
 ·cases h;kernel_rfl
 ·cases h)
def ET(x0:List (Int×ByteArray×Int)):Bool:=bif TR x0 then leI (↑x0.length:Int) (40:Int)else false
def EU(x0:List (Int×ByteArray×Int)):Bool:=allT [TS x0]
def QG:List SV→List Entry→Option Out
 | [.one ⟨false,[.ref 0]⟩],[.row false 178 (.pair (.int .i64) (.pair (.str) (.int .i64))) x0]=>some ⟨.one ⟨false,[.val (.bool (ET x0))]⟩,[.row false 178 aeH x0],[],[EU x0]⟩
 |_,_=>none
def KH:PF prog:=PF.ofG prog [Uf,PF.lend Uf,PF.fz Uf] [] aQ 263 f263 func263 (fun c _=>LOk.nil c) QG (by
 intro vs es r h;unfold QG at h;split at h
 ·cases h;kernel_rfl
 ·cases h)
def TT(x0:ByteArray)(x1:List (Int×ByteArray×Int)):Bool:=bif lN x0 then ET x1 else false
def TU(x0:ByteArray)(x1:List (Int×ByteArray×Int)):Bool:=allT [!(lN x0&&true)||EU x1]
def aaW:List SV→List Entry→Option Out
 | [.one ⟨true,[.val (.string x0),.ref 0]⟩],[.row false 178 (.pair (.int .i64) (.pair (.str) (.int .i64))) x1]=>some ⟨.one ⟨false,[.val (.bool (TT x0 x1))]⟩,[.row false 178 aeH x1],[],[TU x0 x1]⟩
 |_,_=>none
def ah3:PF prog:=PF.ofG prog [Lq,KH,PF.lend KH,PF.fz KH] [] aQ 231 f231 func231 (fun c _=>LOk.nil c) aaW (by
 intro vs es r h;unfold aaW at h;split at h
 ·cases h;kernel_rfl
 ·cases h)
abbrev mN:=Int×Int×List ByteArray
section
variable (y0 y1:Int)(y2:List ByteArray)
def zY:ByteArray:=Option.getD y2[Int.toNat y0]? ByteArray.empty
def sX:List ByteArray:=List.drop (Int.toNat (0:Int)) (List.take y0.toNat y2)
def Bt:Bool:=ltI y0 y1
def xy:Bool:=leI (0:Int) y0
def Bu:Bool:=ltI y0 (↑y2.length:Int)
def Bv:Bool:=ltN y0.toNat y2.length
end
def Bw:Bool:=leI (0:Int) (0:Int)
section
variable (y0:Int)(y2:List ByteArray)
def Bx:Bool:=leI y0 (↑y2.length:Int)
def xz:Bool:=kf (zY y0 y2) (sX y0 y2)
def Bz:Bool:=gZ (zY y0 y2) (sX y0 y2)
def Gz:Int:=IntKind.wrap .i64 (y0 + (1:Int))
end
def aaj:mN→List (Nat×SV)
 |(y0,y1,_)=> [(7,(.one ⟨false,[.val (.int .i64 y0)]⟩)),(6,(.one ⟨false,[.val (.int .i64 y1)]⟩)),(5,(.one ⟨false,[.ref 0]⟩)),(0,(.one ⟨false,[.ref 0]⟩))]
def aaa:mN→List (Nat×Entry)
 |(_,_,y2)=> [(0,(.row false 9 agS y2))]
def aaB:Nat→mN→List (Nat×SV)
 |0,(_,_,_)=> [(2,(.one ⟨false,[.val (.bool true)]⟩))]
 |_,(_,_,_)=> []
def aas:Nat→mN→List (Nat×Entry)
 |0,(_,_,y2)=> [(0,(.row false 9 agS y2))]
 |_,(_,_,y2)=> [(0,(.row false 9 agS y2))]
def Az:mN→LT mN
 |(y0,y1,y2)=> .ite (Bt y0 y1) (.need [xy y0,Bu y0 y2,Bv y0 y2] (.need [Bw,xy y0,Bx y0 y2,xz y0 y2] (.ite (Bz y0 y2) (.ext 0 [(0,0)]) (.nrm ((Gz y0),y1,y2) [(0,0)])))) (.ext 1 [(0,0)])
def KQ(s:St):Option mN:=
 (match s.look 7 with
 |some ⟨none,.one ⟨false,[.val (.int .i64 y0)]⟩⟩=>
 (match s.look 6 with
 |some ⟨none,.one ⟨false,[.val (.int .i64 y1)]⟩⟩=>
 (match s.look 5 with
 |some ⟨none,.one ⟨false,[.ref 0]⟩⟩=>
 (match s.look 0 with
 |some ⟨none,.one ⟨false,[.ref 0]⟩⟩=>
 (match s.ent 0 with
 |some (.row false 9 (.str) y2)=>
 some (y0,y1,y2)
 |_=>none)
 |_=>none)
 |_=>none)
 |_=>none)
 |_=>none)
def eU:Lp mN where
 h:=⟨[8,9,10,11,3,4,12,13,14,15,16,2,17,7],[0],[],[]⟩
 JL:=aaj
 JE:=aaa
 XL:=aaB
 XE:=aas
 q:=fun j=>match j with | 0=> .ret | _=> .exit 0
 tags:= [0,1]
 lt:=Az
 fuel:=fun(y0,y1,y2)=>y0.natAbs + y1.natAbs + y2.length
 fix:=fun(_,y1,y2) (y0,_,_)=>(y0,y1,y2)
 σ:= [(0,0)]
 rd:=KQ
theorem Xq:LoopOk prog (fun k=>Nat.blt k Tryz.f232.ntmps) eU.F (aS f232 0):=by
 refine Lp.ok (tbl:= [cW,PF.lend cW,PF.fz cW]) (lf:= []) aQ eU (by kernel_rfl) (LOk.nil _) (fun _=>rfl) (fun j _=>by unfold eU;match j with | 0=>rfl | _ + 1=>rfl) ?_ ?_ ?_ ?_ (fun _=>rfl) ?_
 ·rintro⟨y0,y1,y2⟩;kernel_rfl
 ·rintro⟨y0,y1,y2⟩;kernel_rfl
 ·intro s x h
  have h:KQ s=some x:=h
  unfold KQ at h
  repeat' split at h
  all_goals cases h
  exact⟨aa (by assumption) rfl (aa (by assumption) rfl (aa (by assumption) rfl (aa (by assumption) rfl (rfl)))),ab rfl (by assumption) rfl (rfl)⟩
 ·rintro⟨y0,y1,y2⟩;kernel_rfl
 ·rintro⟨y0,y1,y2⟩ z;exact(And.intro (And.intro trivial rfl) trivial)
section
variable (x0:List ByteArray)
def OV:Int×Int×List ByteArray:=((0:Int),(↑x0.length:Int),x0)
def Qj:Bool:=bif Nat.beq ((Lp.res eU (OV x0)).1) (0:Nat)then true else false
def Qk:Bool:=allT [Lp.fin eU (OV x0)]
end
def Wh:List SV→List Entry→Option Out
 | [.one ⟨false,[.ref 0]⟩],[.row false 9 (.str) x0]=>some ⟨.one ⟨false,[.val (.bool (Qj x0))]⟩,[.row false 9 agS x0],[],[Qk x0]⟩
 |_,_=>none
def af5:PF prog:=PF.ofG prog [cW,PF.lend cW,PF.fz cW] [eU.F] aQ 232 f232 func232 (LOk.fnT (l:= [aS f232 0]) (by kernel_rfl) (.cons Xq (.nil _))) Wh (by
 intro vs es r h;unfold Wh at h;split at h
 ·cases h;kernel_rfl
 ·cases h)
abbrev aR:=Int×Int×List (Int×(ByteArray×Int))×List (Int×(ByteArray×Int))
section
variable (y0 y1:Int)(y2 y3:List (Int×(ByteArray×Int)))
def aO:Int×ByteArray×Int:=Option.getD y2[Int.toNat y0]? ((0:Int),ByteArray.empty,(0:Int))
def bO:Bool:=leI (7:Int) ((aO y0 y2).1)
def bP:List (Int×ByteArray×Int):= [((aO y0 y2).1,((aO y0 y2).2).1,(aO y0 y2).2.2)]
def dX:Bool:=ltI y0 y1
def dY:Bool:=leI (0:Int) y0
def dZ:Bool:=ltI y0 (↑y2.length:Int)
def ea:Bool:=ltN y0.toNat y2.length
def ec:Bool:= !bO y0 y2||leN (List.length y3 + List.length (bP y0 y2)) (9223372036854775807:Nat)
def ed:Bool:= !bO y0 y2||leN ((List.length y3 + List.length (bP y0 y2)) * (32:Nat)) (140737488355328:Nat)
def ee:Bool:=bO y0 y2
def cZ:Int:=IntKind.wrap .i64 (y0 + (1:Int))
def ef:List (Int×(ByteArray×Int)):=y3++bP y0 y2
end
def CS:aR→List (Nat×SV)
 |(y0,y1,_,_)=> [(18,(.one ⟨false,[.val (.int .i64 y0)]⟩)),(17,(.one ⟨false,[.val (.int .i64 y1)]⟩)),(16,(.one ⟨false,[.ref 0]⟩)),(3,(.one ⟨false,[.ref 1]⟩))]
def CR:aR→List (Nat×Entry)
 |(_,_,y2,y3)=> [(0,(.row false 178 aeH y2)),(1,(.row true 178 aeH y3))]
def CU:Nat→aR→List (Nat×SV)
 |_,(_,_,_,_)=> [(3,(.one ⟨false,[.ref 1]⟩))]
def CT:Nat→aR→List (Nat×Entry)
 |_,(_,_,y2,y3)=> [(0,(.row false 178 aeH y2)),(1,(.row true 178 aeH y3))]
def dJ:aR→LT aR
 |(y0,y1,y2,y3)=> .ite (dX y0 y1) (.need [dY y0,dZ y0 y2,ea y0 y2] (.need [ec y0 y2 y3,ed y0 y2 y3] (.ite (ee y0 y2) (.nrm ((cZ y0),y1,y2,(ef y0 y2 y3)) [(0,0),(1,768)]) (.nrm ((cZ y0),y1,y2,y3) [(0,0),(1,1)])))) (.ext 0 [(0,0),(1,1)])
def mq(s:St):Option aR:=
 (match s.look 18 with
 |some ⟨none,.one ⟨false,[.val (.int .i64 y0)]⟩⟩=>
 (match s.look 17 with
 |some ⟨none,.one ⟨false,[.val (.int .i64 y1)]⟩⟩=>
 (match s.look 16 with
 |some ⟨none,.one ⟨false,[.ref 192]⟩⟩=>
 (match s.look 3 with
 |some ⟨none,.one ⟨false,[.ref 1]⟩⟩=>
 (match s.ent 192 with
 |some (.row false 178 (.pair (.int .i64) (.pair .str (.int .i64))) y2)=>
 (match s.ent 1 with
 |some (.row true 178 (.pair (.int .i64) (.pair .str (.int .i64))) y3)=>
 some (y0,y1,y2,y3)
 |_=>none)
 |_=>none)
 |_=>none)
 |_=>none)
 |_=>none)
 |_=>none)
def ae:Lp aR where
 h:=⟨[19,20,21,7,22,23,24,25,26,27,28,3,29,18],[0],[1],[]⟩
 JL:=CS
 JE:=CR
 XL:=CU
 XE:=CT
 q:=fun j=>match j with | _=> .exit 2
 tags:= [0]
 lt:=dJ
 fuel:=fun(y0,y1,y2,y3)=>y0.natAbs + y1.natAbs + y2.length + y3.length
 fix:=fun(_,y1,y2,_) (y0,_,_,y3)=>(y0,y1,y2,y3)
 σ:= [(0,192),(1,1)]
 rd:=mq
theorem BP:LoopOk prog (memN [12,13,14,5,15,16,17,18,19,20,21,7,22,23,24,25,26,27,28,3,29,30,11]) ae.F (Zg (aS f117 0) 0):=by
 refine Lp.ok (tbl:= []) (lf:= []) aQ ae (by kernel_rfl) (LOk.nil _) (fun _=>rfl) (fun _ _=>rfl) ?_ ?_ ?_ ?_ (fun _=>rfl) ?_
 ·rintro⟨y0,y1,y2,y3⟩;kernel_rfl
 ·rintro⟨y0,y1,y2,y3⟩;kernel_rfl
 ·intro s x h
  have h:mq s=some x:=h
  unfold mq at h
  repeat' split at h
  all_goals cases h
  exact⟨aa (by assumption) rfl (aa (by assumption) rfl (aa (by assumption) rfl (aa (by assumption) rfl (rfl)))),ab rfl (by assumption) rfl (ab rfl (by assumption) rfl (rfl))⟩
 ·rintro⟨y0,y1,y2,y3⟩;kernel_rfl
 ·rintro⟨y0,y1,y2,y3⟩ z;exact(And.intro (And.intro rfl rfl) trivial)
abbrev aW:=Int×Int×List (ByteArray×(List (Int×(ByteArray×Int))))×List (Int×(ByteArray×Int))
def bB(y0:Int)(y2:List (ByteArray×(List (Int×(ByteArray×Int))))):List (Int×ByteArray×Int):=(Option.getD y2[Int.toNat y0]? (xt (CTy.pair CTy.str (CTy.sl (178:Nat) aeH)))).2
def dq(y0:Int)(y2:List (ByteArray×(List (Int×(ByteArray×Int)))))(y3:List (Int×(ByteArray×Int))):Int×Int×List (Int×ByteArray×Int)×List (Int×ByteArray×Int):=((0:Int),(↑(List.length (bB y0 y2)):Int),bB y0 y2,y3)
def ff(y0 y1:Int):Bool:=ltI y0 y1
def jm(y0:Int):Bool:=leI (0:Int) y0
def jn(y0:Int)(y2:List (ByteArray×(List (Int×(ByteArray×Int))))):Bool:=ltI y0 (↑y2.length:Int)
def jo(y0:Int)(y2:List (ByteArray×(List (Int×(ByteArray×Int))))):Bool:=ltN y0.toNat y2.length
def fg(y0:Int)(y2:List (ByteArray×(List (Int×(ByteArray×Int)))))(y3:List (Int×(ByteArray×Int))):Bool:=Lp.fin ae (dq y0 y2 y3)
def ox(y0:Int):Int:=IntKind.wrap .i64 (y0 + (1:Int))
def jp(y0:Int)(y2:List (ByteArray×(List (Int×(ByteArray×Int)))))(y3:List (Int×(ByteArray×Int))):List (Int×(ByteArray×Int)):=(Lp.res ae (dq y0 y2 y3)).2.2.2.2
def EO:aW→List (Nat×SV)
 |(y0,y1,_,_)=> [(11,(.one ⟨false,[.val (.int .i64 y0)]⟩)),(10,(.one ⟨false,[.val (.int .i64 y1)]⟩)),(9,(.one ⟨false,[.ref 0]⟩)),(3,(.one ⟨false,[.ref 1]⟩))]
def EN:aW→List (Nat×Entry)
 |(_,_,y2,y3)=> [(0,(.row false 204 (CTy.pair CTy.str (CTy.sl (178:Nat) aeH)) y2)),(1,(.row true 178 aeH y3))]
def EQ:Nat→aW→List (Nat×SV)
 |_,(_,_,_,_)=> [(3,(.one ⟨false,[.ref 1]⟩))]
def EP:Nat→aW→List (Nat×Entry)
 |_,(_,_,y2,y3)=> [(0,(.row false 204 (CTy.pair CTy.str (CTy.sl (178:Nat) aeH)) y2)),(1,(.row true 178 aeH y3))]
def eR:aW→LT aW
 |(y0,y1,y2,y3)=> .ite (ff y0 y1) (.need [jm y0,jn y0 y2,jo y0 y2] (.need [fg y0 y2 y3] (.nrm ((ox y0),y1,y2,(jp y0 y2 y3)) [(0,0),(1,640)]))) (.ext 0 [(0,0),(1,1)])
def nJ(s:St):Option aW:=
 (match s.look 11 with
 |some ⟨none,.one ⟨false,[.val (.int .i64 y0)]⟩⟩=>
 (match s.look 10 with
 |some ⟨none,.one ⟨false,[.val (.int .i64 y1)]⟩⟩=>
 (match s.look 9 with
 |some ⟨none,.one ⟨false,[.ref 3]⟩⟩=>
 (match s.look 3 with
 |some ⟨none,.one ⟨false,[.ref 448]⟩⟩=>
 (match s.ent 3 with
 |some (.row false 204 (.pair .str (.sl (178:Nat) (.pair (.int .i64) (.pair .str (.int .i64))))) y2)=>
 (match s.ent 448 with
 |some (.row true 178 (.pair (.int .i64) (.pair .str (.int .i64))) y3)=>
 some (y0,y1,y2,y3)
 |_=>none)
 |_=>none)
 |_=>none)
 |_=>none)
 |_=>none)
 |_=>none)
def ax:Lp aW where
 h:=⟨[12,13,14,5,15,16,17,18,19,20,21,7,22,23,24,25,26,27,28,3,29,30,11],[0],[1],[]⟩
 JL:=EO
 JE:=EN
 XL:=EQ
 XE:=EP
 q:=fun j=>match j with | _=> .exit 0
 tags:= [0]
 lt:=eR
 fuel:=fun(y0,y1,y2,y3)=>y0.natAbs + y1.natAbs + y2.length + y3.length
 fix:=fun(_,y1,y2,_) (y0,_,_,y3)=>(y0,y1,y2,y3)
 σ:= [(0,3),(1,448)]
 rd:=nJ
theorem Ef:LoopOk prog (fun k=>Nat.blt k Tryz.f117.ntmps) ax.F (aS f117 0):=by
 refine Lp.ok (tbl:= []) (lf:= [ae.F]) aQ ax (by kernel_rfl) (LOk.allT (l:= [Zg (aS f117 0) 0]) (by kernel_rfl) (.cons BP (.nil _))) (fun _=>rfl) (fun _ _=>rfl) ?_ ?_ ?_ ?_ (fun _=>rfl) ?_
 ·rintro⟨y0,y1,y2,y3⟩;kernel_rfl
 ·rintro⟨y0,y1,y2,y3⟩;kernel_rfl
 ·intro s x h
  have h:nJ s=some x:=h
  unfold nJ at h
  repeat' split at h
  all_goals cases h
  exact⟨aa (by assumption) rfl (aa (by assumption) rfl (aa (by assumption) rfl (aa (by assumption) rfl (rfl)))),ab rfl (by assumption) rfl (ab rfl (by assumption) rfl (rfl))⟩
 ·rintro⟨y0,y1,y2,y3⟩;kernel_rfl
 ·rintro⟨y0,y1,y2,y3⟩ z;exact(And.intro rfl trivial)
section
variable (x5:List (ByteArray×List (Int×ByteArray×Int)))
def pD:Int×Int×List (ByteArray×List (Int×ByteArray×Int))×List (Int×ByteArray×Int):=((0:Int),(↑x5.length:Int),x5,[])
def pO:List (Int×(ByteArray×Int)):=(Lp.res ax (pD x5)).2.2.2.2
def pP:Bool:=allT [Lp.fin ax (pD x5)]
end
def wz:List SV→List Entry→Option Out
 | [.one ⟨true,[.val (.string _x0),.ref 0,.ref 1,.ref 2,.val (.string _x1),.ref 3]⟩],[.row false 9 (.str) x2,.row false 9 (.str) x3,.row false 9 (.str) x4,.row false 204 (.pair (.str) (.sl 178 (.pair (.int .i64) (.pair (.str) (.int .i64))))) x5]=>some ⟨.one ⟨false,[.ref 4]⟩,[.row false 9 agS x2,.row false 9 agS x3,.row false 9 agS x4,.row false 204 (CTy.pair CTy.str (CTy.sl (178:TypeId) aeH)) x5],[.row true 178 aeH (pO x5)],[pP x5]⟩
 |_,_=>none
def Hn:PF prog:=PF.ofG prog [] [ax.F] aQ 117 f117 func117 (LOk.fnT (l:= [aS f117 0]) (by kernel_rfl) (.cons Ef (.nil _))) wz (by
 intro vs es r h;unfold wz at h;split at h
 ·cases h;kernel_rfl
 ·cases h)
abbrev lJ:=Int×Int×List ByteArray
section
variable (y0 y1:Int)(y2:List ByteArray)
def uS:Int:=IntKind.wrap .i64 (y1 - (↑(ByteArray.size (Option.getD y2[Int.toNat y0]? ByteArray.empty)):Int))
def wq:Bool:=ltI y0 (↑y2.length:Int)
def Ap:Bool:=leI (0:Int) y0
def Aq:Bool:=ltN y0.toNat y2.length
def Ar:Bool:=ltI (uS y0 y1 y2) (0:Int)
end
def sZ:Int:=(-1:Int)
def As(y0:Int):Int:=IntKind.wrap .i64 (y0 + (1:Int))
def At(y0 y1:Int)(y2:List ByteArray):Int:=uS y0 y1 y2
def Yj:lJ→List (Nat×SV)
 |(y0,y1,_)=> [(5,(.one ⟨false,[.val (.int .i64 y0)]⟩)),(0,(.one ⟨false,[.ref 0]⟩)),(1,(.one ⟨false,[.val (.int .i64 y1)]⟩))]
def Yb:lJ→List (Nat×Entry)
 |(_,_,y2)=> [(0,(.row false 9 agS y2))]
def YJ:Nat→lJ→List (Nat×SV)
 |0,(_,_,_)=> [(4,(.one ⟨false,[.val (.int .i64 (sZ))]⟩))]
 |_,(_,y1,_)=> [(1,(.one ⟨false,[.val (.int .i64 y1)]⟩))]
def YB:Nat→lJ→List (Nat×Entry)
 |0,(_,_,y2)=> [(0,(.row false 9 agS y2))]
 |_,(_,_,y2)=> [(0,(.row false 9 agS y2))]
def yF:lJ→LT lJ
 |(y0,y1,y2)=> .ite (wq y0 y2) (.need [Ap y0,wq y0 y2,Aq y0 y2] (.ite (Ar y0 y1 y2) (.ext 0 [(0,0)]) (.nrm ((As y0),At y0 y1 y2,y2) [(0,0)]))) (.ext 1 [(0,0)])
def JH(s:St):Option lJ:=
 (match s.look 5 with
 |some ⟨none,.one ⟨false,[.val (.int .i64 y0)]⟩⟩=>
 (match s.look 0 with
 |some ⟨none,.one ⟨false,[.ref 0]⟩⟩=>
 (match s.look 1 with
 |some ⟨none,.one ⟨false,[.val (.int .i64 y1)]⟩⟩=>
 (match s.ent 0 with
 |some (.row false 9 (.str) y2)=>
 some (y0,y1,y2)
 |_=>none)
 |_=>none)
 |_=>none)
 |_=>none)
def dz:Lp lJ where
 h:=⟨[12,13,14,15,18,19,20,21,22,23,24,1,25,26,4,16,17,5],[0],[],[]⟩
 JL:=Yj
 JE:=Yb
 XL:=YJ
 XE:=YB
 q:=fun j=>match j with | 0=> .ret | _=> .exit 0
 tags:= [0,1]
 lt:=yF
 fuel:=fun(y0,y1,y2)=>y0.natAbs + y1.natAbs + y2.length
 fix:=fun(_,_,y2) (y0,y1,_)=>(y0,y1,y2)
 σ:= [(0,0)]
 rd:=JH
theorem VM:LoopOk prog (fun k=>Nat.blt k Tryz.f129.ntmps) dz.F (aS f129 0):=by
 refine Lp.ok (tbl:= []) (lf:= []) aQ dz (by kernel_rfl) (LOk.nil _) (fun _=>rfl) (fun j _=>by unfold dz;match j with | 0=>rfl | _ + 1=>rfl) ?_ ?_ ?_ ?_ (fun _=>rfl) ?_
 ·rintro⟨y0,y1,y2⟩;kernel_rfl
 ·rintro⟨y0,y1,y2⟩;kernel_rfl
 ·intro s x h
  have h:JH s=some x:=h
  unfold JH at h
  repeat' split at h
  all_goals cases h
  exact⟨aa (by assumption) rfl (aa (by assumption) rfl (aa (by assumption) rfl (rfl))),ab rfl (by assumption) rfl (rfl)⟩
 ·rintro⟨y0,y1,y2⟩;kernel_rfl
 ·rintro⟨y0,y1,y2⟩ z;exact(And.intro (And.intro trivial rfl) trivial)
section
variable (x0:Int)(x1:List ByteArray)
def It:Int:=IntKind.wrap .i64 (x0 - (↑x1.length:Int))
def Iu:Int×Int×List ByteArray:=((0:Int),It x0 x1,x1)
def Pb:Int:=bif ltI (It x0 x1) (0:Int)then(-1:Int)else bif Nat.beq ((Lp.res dz (Iu x0 x1)).1) (0:Nat)then sZ else ((Lp.res dz (Iu x0 x1)).2.2).1
def Pc:Bool:=allT [ltI (It x0 x1) (0:Int)||Lp.fin dz (Iu x0 x1)]
end
def Ut:List SV→List Entry→Option Out
 | [.one ⟨false,[.ref 0]⟩,.one ⟨false,[.val (.int .i64 x0)]⟩],[.row false 9 (.str) x1]=>some ⟨.one ⟨false,[.val (.int .i64 (Pb x0 x1))]⟩,[.row false 9 agS x1],[],[Pc x0 x1]⟩
 |_,_=>none
def ae3:PF prog:=PF.ofG prog [] [dz.F] aQ 129 f129 func129 (LOk.fnT (l:= [aS f129 0]) (by kernel_rfl) (.cons VM (.nil _))) Ut (by
 intro vs es r h;unfold Ut at h;split at h
 ·cases h;kernel_rfl
 ·cases h)
abbrev lK:=Int×List ByteArray×List ByteArray
section
variable (y0:Int)(y1 y2:List ByteArray)
def ws:Bool:=ltI y0 (↑y1.length:Int)
def wu:Bool:=leI (0:Int) y0
def Au:Bool:=ltN y0.toNat y1.length
def Av:Bool:=ltI y0 (↑y2.length:Int)
def Aw:Bool:=ltN y0.toNat y2.length
def Ax:Int:=IntKind.wrap .i64 (y0 + (1:Int))
def Ay:List ByteArray:=List.set y2 y0.toNat (Option.getD y1[Int.toNat y0]? ByteArray.empty)
end
def Yk:lK→List (Nat×SV)
 |(y0,_,_)=> [(4,(.one ⟨false,[.val (.int .i64 y0)]⟩)),(0,(.one ⟨false,[.ref 0]⟩)),(3,(.one ⟨false,[.ref 1]⟩))]
def Yc:lK→List (Nat×Entry)
 |(_,y1,y2)=> [(0,(.row false 9 agS y1)),(1,(.row true 9 agS y2))]
def YK:Nat→lK→List (Nat×SV)
 |_,(_,_,_)=> []
def YC:Nat→lK→List (Nat×Entry)
 |_,(_,y1,y2)=> [(0,(.row false 9 agS y1)),(1,(.row true 9 agS y2))]
def yG:lK→LT lK
 |(y0,y1,y2)=> .ite (ws y0 y1) (.need [wu y0,ws y0 y1,Au y0 y1,wu y0,Av y0 y2,Aw y0 y2] (.nrm ((Ax y0),y1,(Ay y0 y1 y2)) [(0,0),(1,1)])) (.ext 0 [(0,0),(1,1)])
def JI(s:St):Option lK:=
 (match s.look 4 with
 |some ⟨none,.one ⟨false,[.val (.int .i64 y0)]⟩⟩=>
 (match s.look 0 with
 |some ⟨none,.one ⟨false,[.ref 0]⟩⟩=>
 (match s.look 3 with
 |some ⟨none,.one ⟨false,[.ref 320]⟩⟩=>
 (match s.ent 0 with
 |some (.row false 9 (.str) y1)=>
 (match s.ent 320 with
 |some (.row true 9 (.str) y2)=>
 some (y0,y1,y2)
 |_=>none)
 |_=>none)
 |_=>none)
 |_=>none)
 |_=>none)
def fl:Lp lK where
 h:=⟨[8,9,10,11,14,15,16,17,18,19,20,12,13,4],[0,1],[],[]⟩
 JL:=Yk
 JE:=Yc
 XL:=YK
 XE:=YC
 q:=fun j=>match j with | _=> .exit 0
 tags:= [0]
 lt:=yG
 fuel:=fun(y0,y1,y2)=>y0.natAbs + y1.length + y2.length
 fix:=fun(_,y1,_) (y0,_,y2)=>(y0,y1,y2)
 σ:= [(0,0),(1,320)]
 rd:=JI
theorem VN:LoopOk prog (fun k=>Nat.blt k Tryz.f131.ntmps) fl.F (aS f131 0):=by
 refine Lp.ok (tbl:= []) (lf:= []) aQ fl (by kernel_rfl) (LOk.nil _) (fun _=>rfl) (fun _ _=>rfl) ?_ ?_ ?_ ?_ (fun _=>rfl) ?_
 ·rintro⟨y0,y1,y2⟩;kernel_rfl
 ·rintro⟨y0,y1,y2⟩;kernel_rfl
 ·intro s x h
  have h:JI s=some x:=h
  unfold JI at h
  repeat' split at h
  all_goals cases h
  exact⟨aa (by assumption) rfl (aa (by assumption) rfl (aa (by assumption) rfl (rfl))),ab rfl (by assumption) rfl (ab rfl (by assumption) rfl (rfl))⟩
 ·rintro⟨y0,y1,y2⟩;kernel_rfl
 ·rintro⟨y0,y1,y2⟩ z;exact(And.intro rfl trivial)
def Ix(x0:List ByteArray):Int×List ByteArray×List ByteArray:=
 ((0:Int),x0,List.replicate (Int.toNat (↑x0.length:Int)) { data:= #[] })
def Kf(x0:List ByteArray):List ByteArray:=(Lp.res fl (Ix x0)).2.2.2
def Kg(x0:List ByteArray):Bool:=allT [leI (0:Int) (↑x0.length:Int),leI (↑x0.length:Int) (↑x0.length:Int),leI ((↑(16:Nat):Int) * (↑x0.length:Int)) (281474976710656:Int),leI (↑x0.length:Int) (9223372036854775807:Int),Lp.fin fl (Ix x0)]
def Uv:List SV→List Entry→Option Out
 | [.one ⟨false,[.ref 0]⟩],[.row false 9 (.str) x0]=>some ⟨.one ⟨false,[.ref 1]⟩,[.row false 9 agS x0],[.row true 9 agS (Kf x0)],[Kg x0]⟩
 |_,_=>none
def ae4:PF prog:=PF.ofG prog [] [fl.F] aQ 131 f131 func131 (LOk.fnT (l:= [aS f131 0]) (by kernel_rfl) (.cons VN (.nil _))) Uv (by
 intro vs es r h;unfold Uv at h;split at h
 ·cases h;kernel_rfl
 ·cases h)
abbrev lH:=Int×List ByteArray×List ByteArray
section
variable (y0:Int)(y1 y2:List ByteArray)
def wm:Bool:=ltI y0 (↑y1.length:Int)
def wn:Bool:=leI (0:Int) y0
def Aa:Bool:=ltN y0.toNat y1.length
def Ab:Bool:=ltI y0 (↑y2.length:Int)
def Ac:Bool:=ltN y0.toNat y2.length
def Ad:Bool:= !ByteArray.toList (Option.getD y1[Int.toNat y0]? ByteArray.empty)==ByteArray.toList (Option.getD y2[Int.toNat y0]? ByteArray.empty)
def Ae:Int:=IntKind.wrap .i64 (y0 + (1:Int))
end
def Yg:lH→List (Nat×SV)
 |(y0,_,_)=> [(5,(.one ⟨false,[.val (.int .i64 y0)]⟩)),(0,(.one ⟨false,[.ref 0]⟩)),(1,(.one ⟨false,[.ref 1]⟩))]
def XY:lH→List (Nat×Entry)
 |(_,y1,y2)=> [(0,(.row false 9 agS y1)),(1,(.row false 9 agS y2))]
def YG:Nat→lH→List (Nat×SV)
 |0,(_,_,_)=> [(4,(.one ⟨false,[.val (.bool false)]⟩))]
 |_,(_,_,_)=> []
def Yy:Nat→lH→List (Nat×Entry)
 |0,(_,y1,y2)=> [(0,(.row false 9 agS y1)),(1,(.row false 9 agS y2))]
 |_,(_,y1,y2)=> [(0,(.row false 9 agS y1)),(1,(.row false 9 agS y2))]
def yC:lH→LT lH
 |(y0,y1,y2)=> .ite (wm y0 y1) (.need [wn y0,wm y0 y1,Aa y0 y1,wn y0,Ab y0 y2,Ac y0 y2] (.ite (Ad y0 y1 y2) (.ext 0 [(0,0),(1,1)]) (.nrm ((Ae y0),y1,y2) [(0,0),(1,1)]))) (.ext 1 [(0,0),(1,1)])
def JD(s:St):Option lH:=
 (match s.look 5 with
 |some ⟨none,.one ⟨false,[.val (.int .i64 y0)]⟩⟩=>
 (match s.look 0 with
 |some ⟨none,.one ⟨false,[.ref 0]⟩⟩=>
 (match s.look 1 with
 |some ⟨none,.one ⟨false,[.ref 1]⟩⟩=>
 (match s.ent 0 with
 |some (.row false 9 (.str) y1)=>
 (match s.ent 1 with
 |some (.row false 9 (.str) y2)=>
 some (y0,y1,y2)
 |_=>none)
 |_=>none)
 |_=>none)
 |_=>none)
 |_=>none)
def eq:Lp lH where
 h:=⟨[11,12,13,14,17,18,19,20,21,22,23,24,25,4,15,16,5],[0,1],[],[]⟩
 JL:=Yg
 JE:=XY
 XL:=YG
 XE:=Yy
 q:=fun j=>match j with | 0=> .ret | _=> .exit 0
 tags:= [0,1]
 lt:=yC
 fuel:=fun(y0,y1,y2)=>y0.natAbs + y1.length + y2.length
 fix:=fun(_,y1,y2) (y0,_,_)=>(y0,y1,y2)
 σ:= [(0,0),(1,1)]
 rd:=JD
theorem VJ:LoopOk prog (fun k=>Nat.blt k Tryz.f133.ntmps) eq.F (aS f133 0):=by
 refine Lp.ok (tbl:= []) (lf:= []) aQ eq (by kernel_rfl) (LOk.nil _) (fun _=>rfl) (fun j _=>by unfold eq;match j with | 0=>rfl | _ + 1=>rfl) ?_ ?_ ?_ ?_ (fun _=>rfl) ?_
 ·rintro⟨y0,y1,y2⟩;kernel_rfl
 ·rintro⟨y0,y1,y2⟩;kernel_rfl
 ·intro s x h
  have h:JD s=some x:=h
  unfold JD at h
  repeat' split at h
  all_goals cases h
  exact⟨aa (by assumption) rfl (aa (by assumption) rfl (aa (by assumption) rfl (rfl))),ab rfl (by assumption) rfl (ab rfl (by assumption) rfl (rfl))⟩
 ·rintro⟨y0,y1,y2⟩;kernel_rfl
 ·rintro⟨y0,y1,y2⟩ z;exact(And.intro (And.intro trivial rfl) trivial)
section
variable (x0 x1:List ByteArray)
def Ih:Bool:=(↑x0.length:Int)!=(↑x1.length:Int)
def Ii:Int×List ByteArray×List ByteArray:=((0:Int),x0,x1)
def Ka:Bool:=bif Ih x0 x1 then false else bif Nat.beq ((Lp.res eq (Ii x0 x1)).1) (0:Nat)then false else true
def Kb:Bool:=allT [Ih x0 x1||Lp.fin eq (Ii x0 x1)]
end
def Up:List SV→List Entry→Option Out
 | [.one ⟨false,[.ref 0]⟩,.one ⟨false,[.ref 1]⟩],[.row false 9 (.str) x0,.row false 9 (.str) x1]=>some ⟨.one ⟨false,[.val (.bool (Ka x0 x1))]⟩,[.row false 9 agS x0,.row false 9 agS x1],[],[Kb x0 x1]⟩
 |_,_=>none
def ae1:PF prog:=PF.ofG prog [] [eq.F] aQ 133 f133 func133 (LOk.fnT (l:= [aS f133 0]) (by kernel_rfl) (.cons VJ (.nil _))) Up (by
 intro vs es r h;unfold Up at h;split at h
 ·cases h;kernel_rfl
 ·cases h)
abbrev nK:=Int×Int×List ByteArray
section
variable (y0 y1:Int)(y2:List ByteArray)
def CM:Bool:=ltI y0 (↑y2.length:Int)
def OL:Bool:=leI (0:Int) y1&&leI y1 (9223372036854775807:Int)
def OM:Bool:=leI (0:Int) y0
def ON:Bool:=ltN y0.toNat y2.length
def OO:Int:=IntKind.wrap .i64 (y0 + (1:Int))
def wS:Int:=IntKind.wrap .i64 (y1 + (1:Int))
def wT:List ByteArray:=List.set y2 y0.toNat (nS y1)
end
def Vq:nK→List (Nat×SV)
 |(y0,y1,_)=> [(5,(.one ⟨false,[.val (.int .i64 y0)]⟩)),(0,(.one ⟨false,[.ref 0]⟩)),(1,(.one ⟨false,[.val (.int .i64 y1)]⟩))]
def Vo:nK→List (Nat×Entry)
 |(_,_,y2)=> [(0,(.row true 9 agS y2))]
def Vu:Nat→nK→List (Nat×SV)
 |_,(_,y1,_)=> [(1,(.one ⟨false,[.val (.int .i64 y1)]⟩))]
def Vs:Nat→nK→List (Nat×Entry)
 |_,(_,_,y2)=> [(0,(.row true 9 agS y2))]
def vP:nK→LT nK
 |(y0,y1,y2)=> .ite (CM y0 y2) (.need [OL y1,OM y0,CM y0 y2,ON y0 y2] (.nrm ((OO y0),wS y1,(wT y0 y1 y2)) [(0,0)])) (.ext 0 [(0,0)])
def GM(s:St):Option nK:=
 (match s.look 5 with
 |some ⟨none,.one ⟨false,[.val (.int .i64 y0)]⟩⟩=>
 (match s.look 0 with
 |some ⟨none,.one ⟨false,[.ref 0]⟩⟩=>
 (match s.look 1 with
 |some ⟨none,.one ⟨false,[.val (.int .i64 y1)]⟩⟩=>
 (match s.ent 0 with
 |some (.row true 9 (.str) y2)=>
 some (y0,y1,y2)
 |_=>none)
 |_=>none)
 |_=>none)
 |_=>none)
def eN:Lp nK where
 h:=⟨[6,7,8,9,12,13,14,15,16,17,18,1,10,11,5],[0],[],[]⟩
 JL:=Vq
 JE:=Vo
 XL:=Vu
 XE:=Vs
 q:=fun j=>match j with | _=> .exit 0
 tags:= [0]
 lt:=vP
 fuel:=fun(y0,y1,y2)=>y0.natAbs + y1.natAbs + y2.length
 fix:=fun(_,_,_) (y0,y1,y2)=>(y0,y1,y2)
 σ:= [(0,0)]
 rd:=GM
theorem Uc:LoopOk prog (fun k=>Nat.blt k Tryz.f137.ntmps) eN.F (aS f137 0):=by
 refine Lp.ok (tbl:= [LL]) (lf:= []) aQ eN (by kernel_rfl) (LOk.nil _) (fun _=>rfl) (fun _ _=>rfl) ?_ ?_ ?_ ?_ (fun _=>rfl) ?_
 ·rintro⟨y0,y1,y2⟩;kernel_rfl
 ·rintro⟨y0,y1,y2⟩;kernel_rfl
 ·intro s x h
  have h:GM s=some x:=h
  unfold GM at h
  repeat' split at h
  all_goals cases h
  exact⟨aa (by assumption) rfl (aa (by assumption) rfl (aa (by assumption) rfl (rfl))),ab rfl (by assumption) rfl (rfl)⟩
 ·rintro⟨y0,y1,y2⟩;kernel_rfl
 ·rintro⟨y0,y1,y2⟩ z;exact(And.intro rfl trivial)
section
variable (x0:Int)(x1:List ByteArray)
def EW:Int×Int×List ByteArray:=((0:Int),x0,x1)
def KG:Int×List ByteArray:=(Lp.res eN (EW x0 x1)).2.2
def dh:Int:=(KG x0 x1).1
def GH:List ByteArray:=(KG x0 x1).2
def xD:Bool:=allT [Lp.fin eN (EW x0 x1)]
end
def Rl:List SV→List Entry→Option Out
 | [.one ⟨false,[.ref 0]⟩,.one ⟨false,[.val (.int .i64 x0)]⟩],[.row true 9 (.str) x1]=>some ⟨.one ⟨false,[.val (.int .i64 (dh x0 x1))]⟩,[.row true 9 agS (GH x0 x1)],[],[xD x0 x1]⟩
 |_,_=>none
def Mi:PF prog:=PF.ofG prog [LL] [eN.F] aQ 137 f137 func137 (LOk.fnT (l:= [aS f137 0]) (by kernel_rfl) (.cons Uc (.nil _))) Rl (by
 intro vs es r h;unfold Rl at h;split at h
 ·cases h;kernel_rfl
 ·cases h)
section
variable (x0:Int)
def bf:Int:=IntKind.wrap .i64 (x0 - IntKind.wrap .i64 ((↑(0:Nat):Int) - (↑(0:Nat):Int)))
def xI:Bool:= !ltI (0:Int) (bf x0)||leI (0:Int) (↑(0:Nat):Int)
def tw:List ByteArray:=bif ltI (0:Int) (bf x0)then List.take (Int.toNat (↑(0:Nat):Int)) (List.replicate (Int.toNat (bf x0)) (ByteArray.mk #[]))else []
def tx:Bool:=allT [!ltI x0 (0:Int),!ltI (0:Int) (bf x0)||leI (0:Int) (0:Int),xI x0,!ltI (0:Int) (bf x0)||leI (↑(0:Nat):Int) (0:Int),!ltI (0:Int) (bf x0)||leI (1:Int) (bf x0),!ltI (0:Int) (bf x0)||leI (bf x0) (9223372036854775807:Int),!ltI (0:Int) (bf x0)||leI (bf x0 * (↑(16:Nat):Int)) (281474976710656:Int),xI x0,!ltI (0:Int) (bf x0)||leI (↑(0:Nat):Int) (↑(List.length (List.replicate (Int.toNat (bf x0)) (ByteArray.mk #[]))):Int)]
end
def Gh:List SV→List Entry→Option Out
 | [.one ⟨false,[.val (.slice none 0 0)]⟩,.one ⟨false,[.val (.int .i64 x0)]⟩],[]=>some ⟨.one ⟨false,[.ref 0]⟩,[],[.row true 9 agS (tw x0)],[tx x0]⟩
 |_,_=>none
def yL:PF prog:=PF.ofG prog [PF.raw prog] [] aQ 260 f260 func260 (fun c _=>LOk.nil c) Gh (by
 intro vs es r h;unfold Gh at h;split at h
 ·cases h;kernel_rfl
 ·cases h)
abbrev cF:=Int×Int×Int×List (List ByteArray)
section
variable (y0 y1 y2:Int)(y3:List (List ByteArray))
def fq:Int:=IntKind.wrap .i64 (y2 + (↑(List.length (Option.getD y3[Int.toNat y0]? (xt (CTy.sl (9:Nat) CTy.str)))):Int))
def mC:Bool:=ltI y0 y1
def qD:Bool:=leI (0:Int) y0
def qE:Bool:=ltI y0 (↑y3.length:Int)
def qF:Bool:=ltN y0.toNat y3.length
def qG:Bool:= !ltI (fq y0 y2 y3) (0:Int)
def wa:Int:=IntKind.wrap .i64 (y0 + (1:Int))
def qH:Int:=fq y0 y2 y3
end
def Nk:cF→List (Nat×SV)
 |(y0,y1,y2,_)=> [(11,(.one ⟨false,[.val (.int .i64 y0)]⟩)),(10,(.one ⟨false,[.val (.int .i64 y1)]⟩)),(9,(.one ⟨false,[.ref 0]⟩)),(3,(.one ⟨false,[.val (.int .i64 y2)]⟩))]
def Ni:cF→List (Nat×Entry)
 |(_,_,_,y3)=> [(0,(.row false 60 (CTy.sl (9:Nat) CTy.str) y3))]
def Nq:Nat→cF→List (Nat×SV)
 |_,(_,_,y2,_)=> [(3,(.one ⟨false,[.val (.int .i64 y2)]⟩))]
def Nn:Nat→cF→List (Nat×Entry)
 |_,(_,_,_,y3)=> [(0,(.row false 60 (CTy.sl (9:Nat) CTy.str) y3))]
def lQ:cF→LT cF
 |(y0,y1,y2,y3)=> .ite (mC y0 y1) (.need [qD y0,qE y0 y3,qF y0 y3] (.need [qG y0 y2 y3] (.nrm ((wa y0),y1,qH y0 y2 y3,y3) [(0,0)]))) (.ext 0 [(0,0)])
def vt(s:St):Option cF:=
 (match s.look 11 with
 |some ⟨none,.one ⟨false,[.val (.int .i64 y0)]⟩⟩=>
 (match s.look 10 with
 |some ⟨none,.one ⟨false,[.val (.int .i64 y1)]⟩⟩=>
 (match s.look 9 with
 |some ⟨none,.one ⟨false,[.ref 0]⟩⟩=>
 (match s.look 3 with
 |some ⟨none,.one ⟨false,[.val (.int .i64 y2)]⟩⟩=>
 (match s.ent 0 with
 |some (.row false 60 (.sl (9:Nat) .str) y3)=>
 some (y0,y1,y2,y3)
 |_=>none)
 |_=>none)
 |_=>none)
 |_=>none)
 |_=>none)
def bj:Lp cF where
 h:=⟨[12,13,14,5,15,16,17,18,3,19,20,21,22,11],[0],[],[]⟩
 JL:=Nk
 JE:=Ni
 XL:=Nq
 XE:=Nn
 q:=fun j=>match j with | _=> .exit 0
 tags:= [0]
 lt:=lQ
 fuel:=fun(y0,y1,y2,y3)=>y0.natAbs + y1.natAbs + y2.natAbs + y3.length
 fix:=fun(_,y1,_,y3) (y0,_,y2,_)=>(y0,y1,y2,y3)
 σ:= [(0,0)]
 rd:=vt
theorem Ll:LoopOk prog (fun k=>Nat.blt k Tryz.f227.ntmps) bj.F (aS f227 0):=by
 refine Lp.ok (tbl:= [yL]) (lf:= []) aQ bj (by kernel_rfl) (LOk.nil _) (fun _=>rfl) (fun _ _=>rfl) ?_ ?_ ?_ ?_ (fun _=>rfl) ?_
 ·rintro⟨y0,y1,y2,y3⟩;kernel_rfl
 ·rintro⟨y0,y1,y2,y3⟩;kernel_rfl
 ·intro s x h
  have h:vt s=some x:=h
  unfold vt at h
  repeat' split at h
  all_goals cases h
  exact⟨aa (by assumption) rfl (aa (by assumption) rfl (aa (by assumption) rfl (aa (by assumption) rfl (rfl)))),ab rfl (by assumption) rfl (rfl)⟩
 ·rintro⟨y0,y1,y2,y3⟩;kernel_rfl
 ·rintro⟨y0,y1,y2,y3⟩ z;exact(And.intro rfl trivial)
abbrev cG:=Int×Int×List (List ByteArray)×List ByteArray
section
variable (y0 y1:Int)(y2:List (List ByteArray))(y3:List ByteArray)
def dc:List ByteArray:=Option.getD y2[Int.toNat y0]? (xt (CTy.sl (9:Nat) CTy.str))
def mD:Bool:=ltI y0 y1
def qI:Bool:=leI (0:Int) y0
def qJ:Bool:=ltI y0 (↑y2.length:Int)
def qK:Bool:=ltN y0.toNat y2.length
def qL:Bool:=leN (List.length y3 + List.length (dc y0 y2)) (9223372036854775807:Nat)
def qM:Bool:=leN ((List.length y3 + List.length (dc y0 y2)) * (16:Nat)) (140737488355328:Nat)
def wb:Int:=IntKind.wrap .i64 (y0 + (1:Int))
def qN:List ByteArray:=y3++dc y0 y2
end
def Nl:cG→List (Nat×SV)
 |(y0,y1,_,_)=> [(27,(.one ⟨false,[.val (.int .i64 y0)]⟩)),(26,(.one ⟨false,[.val (.int .i64 y1)]⟩)),(25,(.one ⟨false,[.ref 0]⟩)),(6,(.one ⟨false,[.ref 1]⟩))]
def Nj:cG→List (Nat×Entry)
 |(_,_,y2,y3)=> [(0,(.row false 60 (CTy.sl (9:Nat) CTy.str) y2)),(1,(.row true 9 agS y3))]
def Nr:Nat→cG→List (Nat×SV)
 |_,(_,_,_,_)=> [(6,(.one ⟨false,[.ref 1]⟩))]
def Np:Nat→cG→List (Nat×Entry)
 |_,(_,_,y2,y3)=> [(0,(.row false 60 (CTy.sl (9:Nat) CTy.str) y2)),(1,(.row true 9 agS y3))]
def lR:cG→LT cG
 |(y0,y1,y2,y3)=> .ite (mD y0 y1) (.need [qI y0,qJ y0 y2,qK y0 y2] (.need [qL y0 y2 y3,qM y0 y2 y3] (.nrm ((wb y0),y1,y2,(qN y0 y2 y3)) [(0,0),(1,448)]))) (.ext 0 [(0,0),(1,1)])
def vu(s:St):Option cG:=
 (match s.look 27 with
 |some ⟨none,.one ⟨false,[.val (.int .i64 y0)]⟩⟩=>
 (match s.look 26 with
 |some ⟨none,.one ⟨false,[.val (.int .i64 y1)]⟩⟩=>
 (match s.look 25 with
 |some ⟨none,.one ⟨false,[.ref 0]⟩⟩=>
 (match s.look 6 with
 |some ⟨none,.one ⟨false,[.ref 576]⟩⟩=>
 (match s.ent 0 with
 |some (.row false 60 (.sl (9:Nat) .str) y2)=>
 (match s.ent 576 with
 |some (.row true 9 (.str) y3)=>
 some (y0,y1,y2,y3)
 |_=>none)
 |_=>none)
 |_=>none)
 |_=>none)
 |_=>none)
 |_=>none)
def bk:Lp cG where
 h:=⟨[28,29,30,8,31,32,33,6,34,27],[0],[1],[]⟩
 JL:=Nl
 JE:=Nj
 XL:=Nr
 XE:=Np
 q:=fun j=>match j with | _=> .exit 2
 tags:= [0]
 lt:=lR
 fuel:=fun(y0,y1,y2,y3)=>y0.natAbs + y1.natAbs + y2.length + y3.length
 fix:=fun(_,y1,y2,_) (y0,_,_,y3)=>(y0,y1,y2,y3)
 σ:= [(0,0),(1,576)]
 rd:=vu
theorem Lm:LoopOk prog (fun k=>Nat.blt k Tryz.f227.ntmps) bk.F (aS f227 1):=by
 refine Lp.ok (tbl:= [yL]) (lf:= []) aQ bk (by kernel_rfl) (LOk.nil _) (fun _=>rfl) (fun _ _=>rfl) ?_ ?_ ?_ ?_ (fun _=>rfl) ?_
 ·rintro⟨y0,y1,y2,y3⟩;kernel_rfl
 ·rintro⟨y0,y1,y2,y3⟩;kernel_rfl
 ·intro s x h
  have h:vu s=some x:=h
  unfold vu at h
  repeat' split at h
  all_goals cases h
  exact⟨aa (by assumption) rfl (aa (by assumption) rfl (aa (by assumption) rfl (aa (by assumption) rfl (rfl)))),ab rfl (by assumption) rfl (ab rfl (by assumption) rfl (rfl))⟩
 ·rintro⟨y0,y1,y2,y3⟩;kernel_rfl
 ·rintro⟨y0,y1,y2,y3⟩ z;exact(And.intro rfl trivial)
section
variable (x0:List (List ByteArray))
def si:Int×Int×Int×List (List ByteArray):=((0:Int),(↑x0.length:Int),(0:Int),x0)
def sj:Int:=((Lp.res bj (si x0)).2.2.2).1
def sk:Int×Int×List (List ByteArray)×List ByteArray:=((0:Int),(↑x0.length:Int),x0,tw (sj x0))
def yN:List ByteArray:=(Lp.res bk (sk x0)).2.2.2.2
def yO:Bool:=allT [Lp.fin bj (si x0),tx (sj x0),Lp.fin bk (sk x0)]
end
def Gg:List SV→List Entry→Option Out
 | [.one ⟨false,[.ref 0]⟩],[.row false 60 (.sl 9 (.str)) x0]=>some ⟨.one ⟨false,[.ref 1]⟩,[.row false 60 (CTy.sl (9:TypeId) CTy.str) x0],[.row true 9 agS (yN x0)],[yO x0]⟩
 |_,_=>none
def PW:PF prog:=PF.ofG prog [yL] [bj.F,bk.F] aQ 227 f227 func227 (LOk.fnT (l:= [aS f227 0,aS f227 1]) (by kernel_rfl) (.cons Ll (.cons Lm (.nil _)))) Gg (by
 intro vs es r h;unfold Gg at h;split at h
 ·cases h;kernel_rfl
 ·cases h)
def atZ(l:List Int)(k:Int):Int:=Option.getD l[Int.toNat k]? (0:Int)
def anb(a b:Int):Int:=bif a==1 then b else 0
def orI(a b:Int):Int:=bif a==1 then 1 else b
theorem Ra{l:List Int}(h: ∀ z∈l,z=0∨z=1)(k:Int):atZ l k=0∨atZ l k=1:=by
 unfold atZ
 cases hk:l[k.toNat]? with
 |none=>exact .inl rfl
 |some z=>exact h z (List.mem_of_getElem? hk)
theorem ajN{n:Int}{l:List Int}(h:bitsB n l=true)(k:Nat){z:Int}(hz:z=0∨z=1):bitsB n (l.set k z)=true:=by
 obtain⟨h1,h2⟩:=ir.1 h
 refine ir.2 ⟨fun y hy=> ?_,by rw [List.length_set];exact h2⟩
 rcases List.mem_or_eq_of_mem_set hy with hy | rfl
 ·exact h1 y hy
 ·exact hz
theorem aoB{k n a b c:Int}{s:ByteArray}{l:List Int}(hB:VB k s n=true)(hP:possB k n a b c=true)(hA:bitsB (takesK k) l=true):gz k n a b c l=0∨gz k n a b c l=1:=by
 obtain⟨hk,hn,_⟩:=ach hB
 have hb:=(ZC hP hn).2.1
 have hc:=(ZC hP hn).2.2
 have hp:=hP
 rcases kinds hk with rfl | rfl | rfl | rfl | rfl | rfl
 ·obtain⟨x,rfl,hx⟩:=UL hA
  rcases hx with rfl | rfl <;> simp only [ck,iH,kW,fu,kX,kY,kZ,la,jP,gz,io,ip,iq,ke,gY,iG,jO,kU,kV,mI,mJ,mK,mL,iJ] <;> simp [Bool.cond_eq_ite] <;> (repeat' split) <;> omega
 ·obtain⟨x,rfl,hx⟩:=UL hA
  rcases hx with rfl | rfl <;> simp only [ck,iH,kW,fu,kX,kY,kZ,la,jP,gz,io,ip,iq,ke,gY,iG,jO,kU,kV,mI,mJ,mK,mL,iJ] <;> simp [Bool.cond_eq_ite] <;> (repeat' split) <;> omega
 ·obtain⟨x,rfl,hx⟩:=UL hA
  simp [possB,cU,bA]at hp
  rcases hx with rfl | rfl <;> simp only [ck,iH,kW,fu,kX,kY,kZ,la,jP,gz,io,ip,iq,ke,gY,iG,jO,kU,kV,mI,mJ,mK,mL,iJ] <;> simp [Bool.cond_eq_ite] <;> (repeat' split) <;> omega
 ·obtain⟨x,y,rfl,hx,hy⟩:=UM hA
  simp [possB,cU,bA]at hp
  rcases hx with rfl | rfl <;> rcases hy with rfl | rfl <;> simp only [ck,iH,kW,fu,kX,kY,kZ,la,jP,gz,io,ip,iq,ke,gY,iG,jO,kU,kV,mI,mJ,mK,mL,iJ] <;> simp [Bool.cond_eq_ite] <;> (repeat' split) <;> omega
 ·obtain⟨x,y,rfl,hx,hy⟩:=UM hA
  rcases hb with rfl | rfl <;> rcases hc with rfl | rfl <;> rcases hx with rfl | rfl <;> rcases hy with rfl | rfl <;> simp only [ck,iH,kW,fu,kX,kY,kZ,la,jP,gz,io,ip,iq,ke,gY,iG,jO,kU,kV,mI,mJ,mK,mL,iJ] <;> simp [Bool.cond_eq_ite] <;> (repeat' split) <;> omega
 ·obtain⟨x,y,rfl,hx,hy⟩:=UM hA
  rcases hb with rfl | rfl <;> rcases hc with rfl | rfl <;> rcases hx with rfl | rfl <;> rcases hy with rfl | rfl <;> simp only [ck,iH,kW,fu,kX,kY,kZ,la,jP,gz,io,ip,iq,ke,gY,iG,jO,kU,kV,mI,mJ,mK,mL,iJ] <;> simp [Bool.cond_eq_ite] <;> (repeat' split) <;> omega
abbrev LN:=ByteArray×List TM
def mu(l:List ByteArray)(s:ByteArray):Bool:=l.any fun k=>k.toList==s.toList
def Qx(l:List ByteArray)(s:ByteArray):Nat:=(l.takeWhile fun k=> !(k.toList==s.toList)).length
def iI(l:List ByteArray)(s:ByteArray):Int:=bif mu l s then(Qx l s:Int)else -1
theorem VY{s:ByteArray}: ∀ {l:List ByteArray},mu l s=true→Qx l s < l.length
 | [],h=>by cases h
 |a::r,h=>by
  simp only [mu,List.any_cons]at h
  simp only [Qx,List.takeWhile_cons]
  cases ha:a.toList==s.toList with
  |true=>simp
  |false=>
   rw [ha,Bool.false_or]at h
   have:=VY (l:=r) h
   simp only [Qx]at this
   simp only [Bool.not_false,if_true,List.length_cons]
   omega
theorem afu(a b:List ByteArray)(s:ByteArray):mu (a++b) s=(mu a s||mu b s):=List.any_append
theorem Zb{l:List ByteArray}{s:ByteArray}:mu l s=true↔s.toList∈l.map ByteArray.toList:=by
 simp only [mu,List.any_eq_true,beq_iff_eq,List.mem_map]
def htT:List TM→Int→Option Int
 | [],n=>some n
 |t::r,n=>bif termB t.1 t.2.1 t.2.2&&leI (takesK t.1) n then htT r (n - takesK t.1 + 1)else none
def adD(ts:List TM):Bool:=leN ts.length 40&&(match htT ts 0 with | some n=>n==1 | none=>false)
def lineB(x:LN):Bool:=mM x.1&&adD x.2
def aeR(l:List ByteArray)(lo:Nat):Bool:=l.all mM&&inR (l.length:Int) lo 20
def afV(nm:ByteArray)(ins vs os:List ByteArray)(g:ByteArray)(ls:List LN):Bool:=mM nm&&(aeR ins 1&&(aeR vs 0&&(aeR os 1&&((g.toList== []||mM g)&&(ls.all lineB&&inR (ls.length:Int) 1 40)))))
def rS(l:List ByteArray):Bool:=(List.range l.length).any fun i=>mu (l.take i) (Option.getD l[i]? ⟨#[]⟩)
def Vb(ins vs:List ByteArray)(s:ByteArray):Bool:=mu ins s||mu vs s
def usedB(ins vs:List ByteArray)(t:TM):Bool:= !(t.1==1)||Vb ins vs t.2.1
def am2(ins vs os:List ByteArray)(g:ByteArray)(ls:List LN):Bool:= !rS (ins++vs++os)&&((g.toList== []||Vb ins vs g)&&(ls.all (fun l=>mu vs l.1||mu os l.1)&&(!rS (ls.map Prod.fst)&&(leN (vs.length + os.length) ls.length&&ls.all fun l=>l.2.all (usedB ins vs)))))
theorem aiP{l:List ByteArray}:rS l=false↔(l.map ByteArray.toList).Nodup:=by
 rw [List.nodup_iff_pairwise_ne,List.pairwise_iff_getElem]
 simp only [rS,List.any_eq_false,List.mem_range,Bool.not_eq_true,List.length_map,List.getElem_map]
 constructor
 ·intro h i j hi hj Vn he
  have h1:=h j hj
  rw [← Bool.not_eq_true,Zb]at h1
  apply h1
  rw [List.getElem?_eq_getElem hj,Option.getD_some,← he]
  refine List.mem_map.2 ⟨l[i],?_,rfl⟩
  rw [List.mem_take_iff_getElem]
  exact⟨i,by omega,rfl⟩
 ·intro h j hj
  rw [← Bool.not_eq_true,Zb,List.mem_map]
  rintro⟨x,hx,he⟩
  rw [List.mem_take_iff_getElem]at hx
  obtain⟨i,hi,rfl⟩:=hx
  rw [List.getElem?_eq_getElem hj,Option.getD_some]at he
  exact h i j (by omega) hj (by omega) he
theorem alH{α:Type}[DecidableEq α]: ∀ (a b:List α),a.Nodup→(∀ x∈a,x∈b)→a.length≤b.length
 | [],b,_,_=>Nat.zero_le _
 |x::r,b,hn,hs=>by
  obtain⟨h1,h2⟩:=List.nodup_cons.1 hn
  have hx:=hs x (by simp)
  have:=alH r (b.erase x) h2 (fun y hy=>(List.mem_erase_of_ne (fun h:y=x=>h1 (by rw [← h];exact hy))).2 (hs y (by simp [hy])))
  rw [List.length_erase_of_mem hx]at this
  have h0:=List.length_pos_of_mem hx
  simp only [List.length_cons]
  omega
theorem aoV{α:Type}[DecidableEq α]{a b:List α}(ha:a.Nodup)(hb:b.Nodup)(hs: ∀ x∈a,x∈b):(∀ y∈b,y∈a)↔b.length≤a.length:=by
 constructor
 ·intro h;exact alH b a hb h
 ·intro h y hy
  refine Decidable.byContradiction fun hn=> ?_
  have:=alH (y::a) b (List.nodup_cons.2 ⟨hn,ha⟩) (fun z hz=>(List.mem_cons.1 hz).elim (fun h=>h ▸ hy) (fun h=>hs z h))
  rw [List.length_cons]at this
  omega
theorem anG{ins vs os:List ByteArray}{ls:List LN}(h1:rS (ins++vs++os)=false)(h3:ls.all (fun l=>mu vs l.1||mu os l.1)=true)(h4:rS (ls.map Prod.fst)=false):
  ((vs++os).any fun s=> !mu (ls.map Prod.fst) s)= !leN (vs.length + os.length) ls.length:=by
 have n1:((vs++os).map ByteArray.toList).Nodup:=by
  have:=aiP.1 h1
  rw [List.append_assoc,List.map_append]at this
  exact(List.nodup_append.1 this).2.1
 have n4:=aiP.1 h4
 have hs: ∀ x∈(ls.map Prod.fst).map ByteArray.toList,x∈(vs++os).map ByteArray.toList:=by
  intro x hx
  simp only [List.mem_map]at hx
  obtain⟨y,⟨l,hl,rfl⟩,rfl⟩:=hx
  have:=List.all_eq_true.1 h3 l hl
  rw [← afu]at this
  exact Zb.1 this
 have jT:=aoV n4 n1 hs
 rw [Bool.eq_iff_iff,Bool.not_eq_true',← Bool.not_eq_true,fQ]
 simp only [List.length_map,List.length_append]at jT
 rw [← jT]
 simp only [List.any_eq_true,Bool.not_eq_true']
 constructor
 ·rintro⟨s,hs1,hs2⟩ h
  have:=h _ (List.mem_map.2 ⟨s,hs1,rfl⟩)
  have h2:mu (ls.map Prod.fst) s=true:=Zb.2 this
  rw [h2]at hs2;cases hs2
 ·intro h
  refine Classical.byContradiction fun hn=>h fun y hy=> ?_
  obtain⟨s,hs1,rfl⟩:=List.mem_map.1 hy
  refine Classical.byContradiction fun hn2=>hn ⟨s,hs1,?_⟩
  cases hh:mu (ls.map Prod.fst) s with
  |false=>rfl
  |true=>exact absurd (Zb.1 hh) hn2
def nmV(ins vs:List ByteArray)(inp xs:List Int)(s:ByteArray):Int:=bif mu ins s then atZ inp (Qx ins s)else atZ xs (Qx vs s)
def tmV(ins vs:List ByteArray)(inp xs:List Int)(t:TM)(ar:List Int)(b:BS3):Int:=bif t.1==1 then nmV ins vs inp xs t.2.1 else bif t.1==2 then 1 else bif t.1==3 then 0 else bif t.1==4 then 1 - atZ ar 0 else bif t.1==5 then anb (atZ ar 0) (atZ ar 1)else bif t.1==6 then orI (atZ ar 0) (atZ ar 1)else aoA t.1 t.2.2 ar b
def ltk(t:TM)(stk:List Int):Nat:=stk.length - (takesK t.1).toNat
abbrev LS:=List Int×List BS3×Nat
def lnS(ins vs:List ByteArray)(inp xs:List Int)(t:TM)(a:LS):LS:=(a.1.take (ltk t a.1)++ [tmV ins vs inp xs t (a.1.drop (ltk t a.1)) (stAt a.2.1 a.2.2)],bif leI 7 t.1 then a.2.1.set a.2.2 (WL t.1 t.2.2 (a.1.drop (ltk t a.1)) (stAt a.2.1 a.2.2))else a.2.1,bif leI 7 t.1 then a.2.2 + 1 else a.2.2)
def acx(ins vs:List ByteArray)(inp xs:List Int):List TM→LS→LS
 | [],a=>a
 |t::r,a=>acx ins vs inp xs r (lnS ins vs inp xs t a)
theorem PA(k:Int):0≤takesK k∧takesK k≤2:=by
 simp only [takesK,mr]
 refine⟨?_,?_⟩ <;> simp only [Bool.cond_eq_ite] <;> (repeat' split) <;> decide
structure LnOk (bl:List TM) (n:Int) (k:Nat) (a:LS):Prop where
 hb: ∀ z∈a.1,z=0∨z=1
 hl:(a.1.length:Int)=n
 sl:a.2.1.length=bl.length
 sp: ∀ j,j < bl.length→possAt bl a.2.1 j=true
 hk:a.2.2=k
theorem anM{ins vs:List ByteArray}{inp xs:List Int}(hi:bitsB ins.length inp=true)(hx:bitsB vs.length xs=true)(s:ByteArray):nmV ins vs inp xs s=0∨nmV ins vs inp xs s=1:=by
 simp only [nmV]
 cases mu ins s with
 |true=>exact Ra (ir.1 hi).1 _
 |false=>exact Ra (ir.1 hx).1 _
theorem anc{a b:Int}(hb:b=0∨b=1):anb a b=0∨anb a b=1:=by simp only [anb];cases a==1 <;> simp [hb]
theorem aon{a b:Int}(hb:b=0∨b=1):orI a b=0∨orI a b=1:=by simp only [orI];cases a==1 <;> simp [hb]
theorem anO{a:Int}(ha:a=0∨a=1):1 - a=0∨1 - a=1:=by rcases ha with rfl | rfl <;> simp
theorem aii{t:TM}{stk:List Int}(hb: ∀ z∈stk,z=0∨z=1)(ht:takesK t.1≤stk.length):bitsB (takesK t.1) (stk.drop (ltk t stk))=true:=by
 have h0:=(PA t.1).1
 refine ir.2 ⟨fun z hz=>hb z (List.mem_of_mem_drop hz),?_⟩
 simp only [ltk,List.length_drop]
 omega
theorem SN{t:TM}(hT:termB t.1 t.2.1 t.2.2=true)(h7:leI 7 t.1=true):VB t.1 t.2.1 t.2.2=true:=by simp only [VB,hT,h7];rfl
theorem afh{t:TM}(hT:termB t.1 t.2.1 t.2.2=true):1≤t.1∧t.1≤12:=by
 simp only [termB,Bool.and_eq_true,GA]at hT;exact hT.1
theorem apd{ins vs:List ByteArray}{inp xs:List Int}{bl:List TM}{n:Int}{k:Nat}{a:LS}{t:TM}(hi:bitsB ins.length inp=true)(hx:bitsB vs.length xs=true)
  (hT:termB t.1 t.2.1 t.2.2=true) (ht:takesK t.1≤n) (hblk:leI 7 t.1=true→k < bl.length∧QF bl k=t) (h:LnOk bl n k a):
  (tmV ins vs inp xs t (a.1.drop (ltk t a.1)) (stAt a.2.1 a.2.2)=0∨tmV ins vs inp xs t (a.1.drop (ltk t a.1)) (stAt a.2.1 a.2.2)=1)∧
  LnOk bl (n - takesK t.1 + 1) (bif leI 7 t.1 then k + 1 else k) (lnS ins vs inp xs t a):=by
 have hl:=h.hl
 have hdb:=aii (t:=t) h.hb (by omega)
 have hd:=(ir.1 hdb).1
 have d0:=Ra hd 0
 have d1:=Ra hd 1
 have h0:=PA t.1
 have hv:leI 7 t.1=true→(tmV ins vs inp xs t (a.1.drop (ltk t a.1)) (stAt a.2.1 a.2.2)=aoA t.1 t.2.2 (a.1.drop (ltk t a.1)) (stAt a.2.1 a.2.2)):=by
  intro h7
  have h7:=Ee.1 h7
  simp only [tmV]
  rw [show (t.1==1)=false by simp;omega,show (t.1==2)=false by simp;omega,show (t.1==3)=false by simp;omega,show (t.1==4)=false by simp;omega,show (t.1==5)=false by simp;omega,show (t.1==6)=false by simp;omega]
  rfl
 have hvb:tmV ins vs inp xs t (a.1.drop (ltk t a.1)) (stAt a.2.1 a.2.2)=0∨tmV ins vs inp xs t (a.1.drop (ltk t a.1)) (stAt a.2.1 a.2.2)=1:=by
  cases h7:leI 7 t.1 with
  |true=>
   obtain⟨hk,hbt⟩:=hblk h7
   rw [hv h7]
   have hp:=h.sp k hk
   simp only [possAt,hbt]at hp
   rw [h.hk]
   exact aoB (SN hT h7) hp hdb
  |false=>
   have hkk:=afh hT
   have h7': ¬ (7≤t.1):=fun hc=>by rw [cw hc]at h7;cases h7
   have hc:t.1=1∨t.1=2∨t.1=3∨t.1=4∨t.1=5∨t.1=6:=by omega
   rcases hc with e | e | e | e | e | e <;> simp only [tmV,e] <;> simp
   ·exact anM hi hx _
   ·exact anO d0
   ·exact anc d1
   ·exact aon d1
 refine⟨hvb,⟨?_,?_,?_,?_,?_⟩⟩
 ·intro z hz
  simp only [lnS,List.mem_append,List.mem_singleton]at hz
  rcases hz with hz | rfl
  ·exact h.hb z (List.mem_of_mem_take hz)
  ·exact hvb
 ·simp only [lnS,List.length_append,List.length_take,List.length_singleton,ltk]
  omega
 ·simp only [lnS]
  cases leI 7 t.1 with
  |true=>simp only [cond_true,List.length_set];exact h.sl
  |false=>exact h.sl
 ·intro j hj
  simp only [lnS]
  cases h7:leI 7 t.1 with
  |false=>exact h.sp j hj
  |true=>
   obtain⟨hk,hbt⟩:=hblk h7
   simp only [cond_true]
   rw [h.hk]
   by_cases hjk:j=k
   ·subst hjk
    have hp:=h.sp j hj
    simp only [possAt,hbt]at hp ⊢
    have hs:stAt (a.2.1.set j (WL t.1 t.2.2 (a.1.drop (ltk t a.1)) (stAt a.2.1 j))) j=WL t.1 t.2.2 (a.1.drop (ltk t a.1)) (stAt a.2.1 j):=by
     simp only [stAt]
     rw [List.getElem?_set_self (by rw [h.sl];exact hj)];rfl
    rw [hs]
    exact(anN (SN hT h7) hp hdb).2
   ·have hs:stAt (a.2.1.set k (WL t.1 t.2.2 (a.1.drop (ltk t a.1)) (stAt a.2.1 k))) j=stAt a.2.1 j:=by
     simp only [stAt]
     rw [List.getElem?_set_ne (fun h=>hjk h.symm)]
    simp only [possAt,hs]
    exact h.sp j hj
 ·simp only [lnS]
  rw [h.hk]
def blT(ts:List TM):List TM:=ts.filter fun t=>leI 7 t.1
def blL(ls:List LN):List TM:=ls.flatMap fun l=>blT l.2
theorem acp: ∀ (l1 l2:List TM) (n:Int),htT (l1++l2) n=match htT l1 n with | some m=>htT l2 m | none=>none
 | [],l2,n=>rfl
 |t::r,l2,n=>by
  simp only [List.cons_append,htT]
  cases (termB t.1 t.2.1 t.2.2&&leI (takesK t.1) n)with
  |false=>rfl
  |true=>simp only [cond_true];exact acp r l2 _
theorem aml: ∀ (l:List TM) (n m:Int),0≤n→htT l n=some m→0≤m∧m≤n + l.length
 | [],n,m,hn,h=>by simp only [htT,Option.some.injEq]at h;simp;omega
 |t::r,n,m,hn,h=>by
  simp only [htT]at h
  have hg:=PA t.1
  cases hc:(termB t.1 t.2.1 t.2.2&&leI (takesK t.1) n)with
  |false=>rw [hc]at h;cases h
  |true=>
   rw [hc,cond_true]at h
   simp only [Bool.and_eq_true,Ee]at hc
   have:=aml r _ m (by omega) h
   simp only [List.length_cons]
   omega
theorem aoS{ts:List TM}{e:Int}(lG:htT ts 0=some e){i:Nat}{t:TM}(ht:ts[i]? =some t):
  ∃ n,htT (ts.take i) 0=some n∧(0≤n∧n≤i)∧termB t.1 t.2.1 t.2.2=true∧takesK t.1≤n∧htT (ts.take (i + 1)) 0=some (n - takesK t.1 + 1):=by
 obtain⟨hi,rfl⟩:=List.getElem?_eq_some_iff.1 ht
 have hs:ts=ts.take i++ts[i]::ts.drop (i + 1):=by rw [List.getElem_cons_drop,List.take_append_drop]
 have h1:=acp (ts.take i) (ts[i]::ts.drop (i + 1)) 0
 rw [← hs,lG]at h1
 cases hp:htT (ts.take i) 0 with
 |none=>rw [hp]at h1;cases h1
 |some n=>
  rw [hp]at h1
  simp only [htT]at h1
  cases hc:(termB ts[i].1 ts[i].2.1 ts[i].2.2&&leI (takesK ts[i].1) n)with
  |false=>rw [hc]at h1;cases h1
  |true=>
   have h2:=acp (ts.take i) [ts[i]] 0
   rw [hp]at h2
   simp only [htT,hc,cond_true]at h2
   simp only [Bool.and_eq_true,Ee]at hc
   have hb:=aml _ _ _ (Int.le_refl 0) hp
   rw [List.length_take]at hb
   exact⟨n,rfl,by omega,hc.1,hc.2,by rw [← h2,List.take_succ_eq_append_getElem hi]⟩
theorem afy{ins vs:List ByteArray}{inp xs:List Int}: ∀ (l1 l2:List TM) (a:LS),acx ins vs inp xs (l1++l2) a=acx ins vs inp xs l2 (acx ins vs inp xs l1 a)
 | [],l2,a=>rfl
 |t::r,l2,a=>afy r l2 _
theorem VA(a b:List TM):blT (a++b)=blT a++blT b:=List.filter_append ..
theorem agC(a b:List LN):blL (a++b)=blL a++blL b:=List.flatMap_append
theorem ak9{pre post ts:List TM}{i:Nat}{t:TM}(ht:ts[i]? =some t)(h7:leI 7 t.1=true):
  pre.length + (blT (ts.take i)).length < (pre++blT ts++post).length∧QF (pre++blT ts++post) (pre.length + (blT (ts.take i)).length)=t∧(blT (ts.take (i + 1))).length=(blT (ts.take i)).length + 1:=by
 obtain⟨hi,rfl⟩:=List.getElem?_eq_some_iff.1 ht
 have hs:ts=ts.take i++ts[i]::ts.drop (i + 1):=by rw [List.getElem_cons_drop,List.take_append_drop]
 have hb:blT ts=blT (ts.take i)++ts[i]::blT (ts.drop (i + 1)):=by
  conv=>lhs;rw [hs,VA]
  congr 1
  simp only [blT,List.filter_cons,h7,if_true]
 have hb2:blT (ts.take (i + 1))=blT (ts.take i)++ [ts[i]]:=by
  rw [List.take_succ_eq_append_getElem hi,VA]
  congr 1
  simp only [blT,List.filter_cons,h7,if_true,List.filter_nil]
 refine⟨?_,?_,by rw [hb2];simp⟩
 ·rw [hb];simp
 ·simp only [QF]
  rw [List.append_assoc,List.getElem?_append_right (by omega),Nat.add_sub_cancel_left,hb,List.append_assoc,List.getElem?_append_right (by omega),Nat.sub_self]
  rfl
theorem an3{ts:List TM}{i:Nat}{t:TM}(ht:ts[i]? =some t)(h7:leI 7 t.1=false):(blT (ts.take (i + 1))).length=(blT (ts.take i)).length:=by
 obtain⟨hi,rfl⟩:=List.getElem?_eq_some_iff.1 ht
 rw [List.take_succ_eq_append_getElem hi,VA]
 simp [blT,List.filter_cons,h7]
def agt(pre post ts:List TM)(i:Nat)(a:LS):Prop:= ∃ n,htT (ts.take i) 0=some n∧LnOk (pre++blT ts++post) n (pre.length + (blT (ts.take i)).length) a
theorem aiw{ins vs:List ByteArray}{inp xs:List Int}{pre post ts:List TM}{e:Int}{i:Nat}{a:LS}{t:TM}(hi:bitsB ins.length inp=true)(hx:bitsB vs.length xs=true)
  (lG:htT ts 0=some e) (ht:ts[i]? =some t) (h:agt pre post ts i a):
  (0≤takesK t.1∧takesK t.1≤a.1.length)∧a.1.length≤i∧termB t.1 t.2.1 t.2.2=true∧bitsB (takesK t.1) (a.1.drop (ltk t a.1))=true∧a.2.1.length=(pre++blT ts++post).length∧
  (leI 7 t.1=true→a.2.2 < (pre++blT ts++post).length∧possB t.1 t.2.2 (stAt a.2.1 a.2.2).1 (stAt a.2.1 a.2.2).2.1 (stAt a.2.1 a.2.2).2.2=true)∧
  a.2.2≤(pre++blT ts++post).length∧(∀ z∈a.1,z=0∨z=1)∧
  agt pre post ts (i + 1) (lnS ins vs inp xs t a):=by
 obtain⟨n,h1,h2⟩:=h
 obtain⟨n',g1,g2,g3,g4,g5⟩:=aoS lG ht
 rw [h1]at g1;cases g1
 have hl:=h2.hl
 have h0:=PA t.1
 have hblk:leI 7 t.1=true→pre.length + (blT (ts.take i)).length < (pre++blT ts++post).length∧QF (pre++blT ts++post) (pre.length + (blT (ts.take i)).length)=t:=
  fun h7=>⟨(ak9 ht h7).1,(ak9 ht h7).2.1⟩
 obtain⟨_,k2⟩:=apd (ins:=ins) (vs:=vs) hi hx g3 g4 hblk h2
 have hkle:a.2.2≤(pre++blT ts++post).length:=by
  rw [h2.hk]
  have:(blT (ts.take i)).length≤(blT ts).length:=by
   conv=>rhs;rw [← List.take_append_drop i ts,VA]
   simp
  simp;omega
 refine⟨by omega,by omega,g3,aii h2.hb (by omega),h2.sl,fun h7=> ?_,hkle,h2.hb,⟨_,g5,?_⟩⟩
 ·obtain⟨q1,q2⟩:=hblk h7
  rw [h2.hk]
  have:=h2.sp _ q1
  simp only [possAt,q2]at this
  exact⟨q1,this⟩
 ·have:(bif leI 7 t.1 then pre.length + (blT (ts.take i)).length + 1 else pre.length + (blT (ts.take i)).length)=pre.length + (blT (ts.take (i + 1))).length:=by
   cases h7:leI 7 t.1 with
   |true=>rw [(ak9 (pre:=pre) (post:=post) ht h7).2.2];rfl
   |false=>rw [an3 ht h7];rfl
  rw [← this];exact k2
theorem amo{ins vs:List ByteArray}{inp xs:List Int}{pre post ts:List TM}{e:Int}{a:LS}(hi:bitsB ins.length inp=true)(hx:bitsB vs.length xs=true)(lG:htT ts 0=some e)(h:agt pre post ts 0 a):
  ∀ i,i≤ts.length→agt pre post ts i (acx ins vs inp xs (ts.take i) a)
 |0,_=>h
 |i + 1,fa=>by
  have h1:=amo hi hx lG h i (by omega)
  rw [List.take_succ_eq_append_getElem (by omega),afy]
  exact(aiw hi hx lG (List.getElem?_eq_getElem (by omega)) h1).2.2.2.2.2.2.2.2
theorem Pz{v:Int}{bs:List TM}{xs:List Int}{ss:List BS3}:JR v bs xs ss=true↔ss.length=bs.length∧bitsB v xs=true∧ ∀ k,k < bs.length→possAt bs ss k=true:=by
 simp only [JR,Bool.and_eq_true,beq_iff_eq,List.all_eq_true,List.mem_range]
 constructor
 ·rintro⟨h1,h2,h3⟩;exact⟨by omega,h2,h3⟩
 ·rintro⟨h1,h2,h3⟩;exact⟨by omega,h2,h3⟩
abbrev SS4:=List Int×List Int×List BS3×Nat
def lnV(ins vs:List ByteArray)(inp:List Int)(l:LN)(a:SS4):LS:=acx ins vs inp a.1 l.2 ([],a.2.2.1,a.2.2.2)
def scS(ins vs os:List ByteArray)(inp:List Int)(l:LN)(a:SS4):SS4:=(bif mu vs l.1 then a.1.set (Qx vs l.1) (atZ (lnV ins vs inp l a).1 0)else a.1,bif mu vs l.1 then a.2.1 else a.2.1.set (Qx os l.1) (atZ (lnV ins vs inp l a).1 0),(lnV ins vs inp l a).2.1,(lnV ins vs inp l a).2.2)
def alW(ins vs os:List ByteArray)(inp:List Int):List LN→SS4→SS4
 | [],a=>a
 |l::r,a=>alW ins vs os inp r (scS ins vs os inp l a)
theorem afL{ins vs os:List ByteArray}{inp:List Int}: ∀ (l1 l2:List LN) (a:SS4),alW ins vs os inp (l1++l2) a=alW ins vs os inp l2 (alW ins vs os inp l1 a)
 | [],l2,a=>rfl
 |t::r,l2,a=>afL r l2 _
structure ScAt (vs os:List ByteArray) (ls:List LN) (i:Nat) (a:SS4):Prop where
 hx:bitsB vs.length a.1=true
 ho:bitsB os.length a.2.1=true
 sl:a.2.2.1.length=(blL ls).length
 sp: ∀ j,j < (blL ls).length→possAt (blL ls) a.2.2.1 j=true
 hk:a.2.2.2=(blL (ls.take i)).length
theorem ZF{ls:List LN}{i:Nat}{l:LN}(hl:ls[i]? =some l):blL ls=blL (ls.take i)++blT l.2++blL (ls.drop (i + 1))∧(blL (ls.take (i + 1))).length=(blL (ls.take i)).length + (blT l.2).length:=by
 obtain⟨hi,rfl⟩:=List.getElem?_eq_some_iff.1 hl
 have hs:ls=ls.take i++ls[i]::ls.drop (i + 1):=by rw [List.getElem_cons_drop,List.take_append_drop]
 refine⟨?_,?_⟩
 ·conv=>lhs;rw [hs,agC]
  rw [List.append_assoc]
  rfl
 ·rw [List.take_succ_eq_append_getElem hi,agC]
  simp [blL]
theorem ZP{x:LN}(h:lineB x=true):mM x.1=true∧x.2.length≤40∧htT x.2 0=some 1:=by
 simp only [lineB,adD,Bool.and_eq_true,fQ]at h
 obtain⟨h1,h2,h3⟩:=h
 refine⟨h1,h2,?_⟩
 split at h3
 ·rename_i n hn;rw [hn];congr 1;exact eq_of_beq h3
 ·cases h3
theorem afe{vs os:List ByteArray}{ls:List LN}{i:Nat}{a:SS4}{l:LN}(hl:ls[i]? =some l)(h:ScAt vs os ls i a):
  agt (blL (ls.take i)) (blL (ls.drop (i + 1))) l.2 0 ([],a.2.2.1,a.2.2.2):=by
 have hs:=(ZF hl).1
 refine⟨0,by simp [htT],⟨fun z hz=>(List.not_mem_nil hz).elim,rfl,?_,?_,?_⟩⟩
 ·rw [← hs];exact h.sl
 ·rw [← hs];exact h.sp
 ·simp [blT,h.hk]
theorem Vd{ins vs os:List ByteArray}{inp:List Int}{ls:List LN}{i:Nat}{a:SS4}{l:LN}(hi:bitsB ins.length inp=true)(hL:lineB l=true)(hl:ls[i]? =some l)
  (h:ScAt vs os ls i a):(lnV ins vs inp l a).1.length=1∧(atZ (lnV ins vs inp l a).1 0=0∨atZ (lnV ins vs inp l a).1 0=1)∧ScAt vs os ls (i + 1) (scS ins vs os inp l a):=by
 obtain⟨hn,oL,hht⟩:=ZP hL
 obtain⟨hs,hs2⟩:=ZF hl
 have h0:=amo (ins:=ins) (vs:=vs) hi h.hx hht (afe hl h) l.2.length (Nat.le_refl _)
 rw [List.take_length]at h0
 obtain⟨n,g1,g2⟩:=h0
 rw [List.take_length,hht]at g1;cases g1
 have hlen1:(lnV ins vs inp l a).1.length=1:=by have:=g2.hl;simp only [lnV];omega
 have hbit:atZ (lnV ins vs inp l a).1 0=0∨atZ (lnV ins vs inp l a).1 0=1:=Ra g2.hb 0
 refine⟨hlen1,hbit,⟨?_,?_,?_,?_,?_⟩⟩
 ·simp only [scS]
  cases mu vs l.1 with
  |true=>exact ajN h.hx _ hbit
  |false=>exact h.hx
 ·simp only [scS]
  cases mu vs l.1 with
  |true=>exact h.ho
  |false=>exact ajN h.ho _ hbit
 ·simp only [scS,lnV];rw [hs];exact g2.sl
 ·simp only [scS,lnV];rw [hs];exact g2.sp
 ·simp only [scS,lnV]
  rw [g2.hk,hs2,List.take_length]
theorem amv{ins vs os:List ByteArray}{inp:List Int}{ls:List LN}{a:SS4}(hi:bitsB ins.length inp=true)(hL:ls.all lineB=true)(h:ScAt vs os ls 0 a):
  ∀ i,i≤ls.length→ScAt vs os ls i (alW ins vs os inp (ls.take i) a)
 |0,_=>h
 |i + 1,fa=>by
  have h1:=amv hi hL h i (by omega)
  rw [List.take_succ_eq_append_getElem (by omega),afL]
  exact(Vd hi (List.all_eq_true.1 hL _ (List.getElem_mem (by omega))) (List.getElem?_eq_getElem (by omega)) h1).2.2
def scE(ins vs os:List ByteArray)(ls:List LN)(inp xs:List Int)(ss:List BS3):SS4:=alW ins vs os inp ls (xs,List.replicate os.length 0,ss,0)
def scO(ins vs os:List ByteArray)(g:ByteArray)(ls:List LN)(inp xs:List Int)(ss:List BS3):List Int:=bif !(g.toList== [])&&nmV ins vs inp (scE ins vs os ls inp xs ss).1 g==0 then List.replicate os.length 0 else(scE ins vs os ls inp xs ss).2.1
def scV(ins vs os:List ByteArray)(ls:List LN)(inp xs:List Int)(ss:List BS3):List Int:=(scE ins vs os ls inp xs ss).1
def scB(ins vs os:List ByteArray)(ls:List LN)(inp xs:List Int)(ss:List BS3):List BS3:=(scE ins vs os ls inp xs ss).2.2.1
theorem alV{ins vs os:List ByteArray}{inp xs:List Int}{ss:List BS3}{ls:List LN}(hi:bitsB ins.length inp=true)(hL:ls.all lineB=true)(hs:JR vs.length (blL ls) xs ss=true):
  ScAt vs os ls ls.length (scE ins vs os ls inp xs ss):=by
 obtain⟨h1,h2,h3⟩:=Pz.1 hs
 have h0:ScAt vs os ls 0 (xs,List.replicate os.length 0,ss,0):=⟨h2,ir.2 ⟨fun z hz=> .inl (List.eq_of_mem_replicate hz),by simp⟩,h1,h3,by simp [blL]⟩
 have:=amv hi hL h0 ls.length (Nat.le_refl _)
 rw [List.take_length]at this
 exact this
theorem amw{ins vs os:List ByteArray}{g:ByteArray}{inp xs:List Int}{ss:List BS3}{ls:List LN}(hi:bitsB ins.length inp=true)(hL:ls.all lineB=true)(hs:JR vs.length (blL ls) xs ss=true):
  JR vs.length (blL ls) (scV ins vs os ls inp xs ss) (scB ins vs os ls inp xs ss)=true∧bitsB os.length (scO ins vs os g ls inp xs ss)=true:=by
 have h:=alV (os:=os) hi hL hs
 refine⟨Pz.2 ⟨h.sl,h.hx,h.sp⟩,?_⟩
 simp only [scO]
 cases (!(g.toList== [])&&nmV ins vs inp (scE ins vs os ls inp xs ss).1 g==0)with
 |true=>exact ir.2 ⟨fun z hz=> .inl (List.eq_of_mem_replicate hz),by simp⟩
 |false=>exact h.ho
theorem TC{A B:Type}{f g:B→A→Nat ⊕ A}{e:Nat}: ∀ {l:List B} {i:Nat} {a:A},(∀ b∈l,∀ a,f b a=g b a)→aq f e l i a=aq g e l i a
 | [],_,_,_=>rfl
 |b::r,i,a,h=>by
  simp only [aq,h b (by simp) a]
  cases g b a with
  |inl j=>rfl
  |inr a'=>exact TC fun x hx=>h x (by simp [hx])
def Bs(y1 b:ByteArray):(Unit)→Nat ⊕ (Unit)
 |_=>(bif(ByteArray.toList (b)==ByteArray.toList y1)then(.inl 0)else(.inr ()))
def qq(y1:ByteArray)(y2:List ByteArray)(i:Nat):(Unit)→mT
 |_=>((i:Int),y1,y2)
def KO:mT→Unit
 |(_,_,_)=>()
theorem adj(y1:ByteArray)(y2:List ByteArray) (hn:y2.length≤9223372036854775807):
  dV.fin ((0:Int),y1,y2)=true∧dV.res ((0:Int),y1,y2)=((aq (Bs y1) 1 y2 0 ()).1,(qq y1 y2) (aq (Bs y1) 1 y2 0 ()).2.1 (aq (Bs y1) 1 y2 0 ()).2.2):=by
 have jT:=dV.along (qq y1 y2) KO (Bs y1) 1 (fun _ _=>True) y2 () (by trivial) (by simp only [dV,qq];omega) (fun i b a hb hI=> ?_) (fun a hI=> ?_)
 ·exact jT
 ·obtain⟨⟩:=a
  have fa:=(List.getElem?_eq_some_iff.1 hb).1
  have jS: ∀ d,Option.getD y2[i]? d=b:=fun d=>by rw [hb];rfl
  have hw:=wM fa hn
  have cq:ltI (i:Int) (y2.length:Int)=true:=eQ (by omega)
  have xl:leI (0:Int) (i:Int)=true:=cw (by omega)
  have iU:ltN i y2.length=true:=ib fa
  refine⟨?_,?_,?_,?_⟩
  ·simp [xM,CA,CB,CC,CD,AF,dV,LT.nds,allT,qq,cq,xl,iU,jS]
  ·simp [xM,CA,CB,CC,CD,AF,dV,LT.each,qq,KO,hw]
  ·simp only [xM,CA,CB,CC,CD,AF,dV,LT.fn,qq,KO,Bs,Int.toNat_natCast,cq,xl,iU,jS,cond_true,Bool.cond_self]
  ·exact fun _ _=>trivial
 ·obtain⟨⟩:=a
  simp [xM,CA,CB,CC,CD,AF,dV,LT.out,qq]
theorem acH(s:ByteArray)(l:List ByteArray)(h:leN l.length 9223372036854775807=true):Ho s l=iI l s∧LV s l=true:=by
 obtain⟨w1,w2⟩:=adj s l (fQ.1 h)
 rw [iS (P:=fun k=>k.toList==s.toList) (j:=0) (fun k=>rfl)]at w2
 simp only [Ho,LV,Ky,w1,w2,allT,qq,iI,mu,Qx]
 cases l.any fun k=>k.toList==s.toList <;> simp [Nat.beq]
theorem agT(s:ByteArray)(l:List ByteArray)(h:leN l.length 9223372036854775807=true):pZ s l=iI l s∧qa s l=true:=by
 obtain⟨w1,w2⟩:=EM s l (fQ.1 h)
 rw [iS (P:=fun k=>s.toList==k.toList) (j:=0) (fun k=>rfl)]at w2
 have e1:(fun k:ByteArray=>s.toList==k.toList)=fun k=>k.toList==s.toList:=funext fun k=>BEq.comm
 have e2:(fun k:ByteArray=> !(s.toList==k.toList))=fun k=> !(k.toList==s.toList):=funext fun k=>by rw [BEq.comm]
 rw [e1,e2]at w2
 simp only [pZ,qa,pk,w1,w2,allT,du,iI,mu,Qx]
 cases l.any fun k=>k.toList==s.toList <;> simp [Nat.beq]
theorem Qf(l:List ByteArray)(s:ByteArray):leI 0 (iI l s)=mu l s:=by
 simp only [iI]
 cases mu l s with
 |true=>exact cw (by simp)
 |false=>rfl
def WG:List SV→List Entry→Option Out
 | [.one ⟨false,[.ref 0]⟩,.one ⟨false,[.val (.string x0)]⟩],[.row false 9 (.str) x1]=>some ⟨.one ⟨false,[.val (.int .i64 (iI x1 x0))]⟩,[.row false 9 agS x1],[],[leN x1.length 9223372036854775807]⟩
 |_,_=>none
def bV:PF prog:=PF.alt zU WG (by
 intro args es o h da;unfold WG at h;split at h
 ·rename_i x0 x1
  cases h
  have da:=pb da
  have hh:=acH x0 x1 da
  obtain⟨e0,en⟩:=hh
  exact tU rfl (pc en) (by simp only [e0] <;> rfl) rfl rfl
 ·cases h)
def Hg:List SV→List Entry→Option Out
 | [.one ⟨false,[.ref 0]⟩,.one ⟨false,[.val (.string x0)]⟩],[.row false 9 (.str) x1]=>some ⟨.one ⟨false,[.val (.int .i64 (iI x1 x0))]⟩,[.row false 9 agS x1],[],[leN x1.length 9223372036854775807]⟩
 |_,_=>none
def tR:PF prog:=PF.alt tS Hg (by
 intro args es o h da;unfold Hg at h;split at h
 ·rename_i x0 x1
  cases h
  have da:=pb da
  have hh:=agT x0 x1 da
  obtain⟨e0,en⟩:=hh
  exact tU rfl (pc en) (by simp only [e0] <;> rfl) rfl rfl
 ·cases h)
theorem als(s:ByteArray)(l:List ByteArray)(h:leN l.length 9223372036854775807=true):gZ s l=mu l s∧kf s l=true:=by
 obtain⟨e1,e2⟩:=agT s l h
 simp only [gZ,kf,e1,e2,Qf,allT,and_self,cond_true]
def EK:List SV→List Entry→Option Out
 | [.one ⟨false,[.ref 0]⟩,.one ⟨false,[.val (.string x0)]⟩],[.row false 9 (.str) x1]=>some ⟨.one ⟨false,[.val (.bool (mu x1 x0))]⟩,[.row false 9 agS x1],[],[leN x1.length 9223372036854775807]⟩
 |_,_=>none
def aH:PF prog:=PF.alt cW EK (by
 intro args es o h da;unfold EK at h;split at h
 ·rename_i x0 x1
  cases h
  have da:=pb da
  have hh:=als x0 x1 da
  obtain⟨e0,en⟩:=hh
  exact tU rfl (pc en) (by simp only [e0] <;> rfl) rfl rfl
 ·cases h)
theorem aoI(a b c:List ByteArray)(h:leN (a.length + b.length + c.length) 2000000=true):abw a b c=a++b++c∧Ui a b c=true:=by
 have h:=fQ.1 h
 refine⟨rfl,?_⟩
 simp [Ui,Ol,allT]
 omega
def abe:List SV→List Entry→Option Out
 | [.one ⟨true,[.val (.string _x0),.ref 0,.ref 1,.ref 2,.val (.string _x1),.ref 3]⟩],[.row false 9 (.str) x2,.row false 9 (.str) x3,.row false 9 (.str) x4,.row false 204 (.pair (.str) (.sl 178 (.pair (.int .i64) (.pair (.str) (.int .i64))))) x5]=>some ⟨.one ⟨false,[.ref 4]⟩,[.row false 9 agS x2,.row false 9 agS x3,.row false 9 agS x4,.row false 204 (CTy.pair CTy.str (CTy.sl (178:TypeId) aeH)) x5],[.row true 9 agS (x2++x3++x4)],[leN (x2.length + x3.length + x4.length) 2000000]⟩
 |_,_=>none
def rT:PF prog:=PF.alt ah6 abe (by
 intro args es o h da;unfold abe at h;split at h
 ·rename_i _x0 _x1 x2 x3 x4 x5
  cases h
  have da:=pb da
  have hh:=aoI x2 x3 x4 da
  obtain⟨e0,en⟩:=hh
  exact tU rfl (pc en) rfl rfl (by simp only [e0] <;> rfl)
 ·cases h)
theorem Ng(s:ByteArray)(h:s.size≤9223372036854775807):mH s=mM s∧tP s=true:=by
 obtain⟨e1,e2⟩:=ahv s
 have hl:leN s.size 9223372036854775807=true:=dx h
 refine⟨?_,?_⟩
 ·simp only [mH,e1,mM];cases QX s <;> rfl
 ·simp only [tP,e2,hl,allT,Bool.or_true,cond_true]
theorem Tp(s:ByteArray):lN s=mM s:=by simp only [lN,mM];cases QX s <;> rfl
def OR(l:List ByteArray):Bool:=leN l.length 9223372036854775807&&l.all fun s=>leN s.size 9223372036854775807
def tW(b:ByteArray):(Unit)→Nat ⊕ (Unit)
 |_=>(bif(!mH b)then(.inl 0)else(.inr ()))
def tg(y1:List ByteArray)(i:Nat):(Unit)→mR
 |_=>((i:Int),y1)
def KM:mR→Unit
 |(_,_)=>()
theorem adh(y1:List ByteArray) (hn:y1.length≤9223372036854775807) (hA: ∀ x∈y1,x.size≤9223372036854775807):
  eW.fin ((0:Int),y1)=true∧eW.res ((0:Int),y1)=((aq (tW) 1 y1 0 ()).1,(tg y1) (aq (tW) 1 y1 0 ()).2.1 (aq (tW) 1 y1 0 ()).2.2):=by
 have jT:=eW.along (tg y1) KM (tW) 1 (fun _ _=>True) y1 () (by trivial) (by simp only [eW,tg];omega) (fun i b a hb hI=> ?_) (fun a hI=> ?_)
 ·exact jT
 ·obtain⟨⟩:=a
  have fa:=(List.getElem?_eq_some_iff.1 hb).1
  have jS: ∀ d,Option.getD y1[i]? d=b:=fun d=>by rw [hb];rfl
  have hw:=wM fa hn
  have cq:ltI (i:Int) (y1.length:Int)=true:=eQ (by omega)
  have xl:leI (0:Int) (i:Int)=true:=cw (by omega)
  have iU:ltN i y1.length=true:=ib fa
  refine⟨?_,?_,?_,?_⟩
  ·have hg2:qn (i:Int) y1=b:=by simp only [qn,Int.toNat_natCast];exact jS _
   have h6:=(Ng b (hA b (List.mem_of_getElem? hb))).2
   simp [xJ,GR,GS,GU,Cq,GV,AC,eW,LT.nds,allT,tg,cq,xl,iU,hg2,h6]
  ·simp [qn,xJ,GR,GS,GU,Cq,GV,AC,eW,LT.each,tg,KM,hw]
  ·have hg2:qn (i:Int) y1=b:=by simp only [qn,Int.toNat_natCast];exact jS _
   simp only [xJ,Cq,AC,eW,LT.fn,tg,KM,tW,Int.toNat_natCast,cq,hg2,cond_true]
  ·exact fun _ _=>trivial
 ·obtain⟨⟩:=a
  simp [qn,xJ,GR,GS,GU,Cq,GV,AC,eW,LT.out,tg]
theorem ajx(lo:Int)(l:List ByteArray)(h:OR l=true):Qz lo l=(l.all mM&&inR (l.length:Int) lo 20)∧QA l=true:=by
 simp only [OR,Bool.and_eq_true,fQ,List.all_eq_true]at h
 obtain⟨w1,w2⟩:=adh l h.1 h.2
 have e0:(aq tW 1 l 0 ())=(aq (fun(k:ByteArray) (_:Unit)=>bif !mM k then(.inl 0:Nat ⊕ Unit)else .inr ()) 1 l 0 ()):=by
  refine TC fun b hb a=> ?_
  simp only [tW,(Ng b (h.2 b hb)).1]
 rw [e0,iS (P:=fun k=> !mM k) (j:=0) (fun k=>rfl)]at w2
 have e5:(l.any fun k=> !mM k)= !l.all mM:=by simp [List.all_eq_not_any_not]
 rw [e5]at w2
 simp only [Qz,QA,w1,w2,allT,bA,VI]
 cases l.all mM <;> simp [Nat.beq]
def dK(b:ByteArray):(Unit)→Nat ⊕ (Unit)
 |_=>(bif(zq b)then(.inl 0)else(.inr ()))
def cd(y2:List ByteArray)(i:Nat):(Unit)→bn
 |_=>((i:Int),(↑y2.length:Int),y2)
def pF:bn→Unit
 |(_,_,_)=>()
theorem Hs(y2:List ByteArray) (hn:y2.length≤9223372036854775807):
  ah.fin ((0:Int),(↑y2.length:Int),y2)=true∧ah.res ((0:Int),(↑y2.length:Int),y2)=((aq (dK) 1 y2 0 ()).1,(cd y2) (aq (dK) 1 y2 0 ()).2.1 (aq (dK) 1 y2 0 ()).2.2):=by
 have jT:=ah.along (cd y2) pF (dK) 1 (fun _ _=>True) y2 () (by trivial) (by simp only [ah,cd];omega) (fun i b a hb hI=> ?_) (fun a hI=> ?_)
 ·exact jT
 ·obtain⟨⟩:=a
  have fa:=(List.getElem?_eq_some_iff.1 hb).1
  have jS: ∀ d,Option.getD y2[i]? d=b:=fun d=>by rw [hb];rfl
  have hw:=wM fa hn
  have cq:ltI (i:Int) (y2.length:Int)=true:=eQ (by omega)
  have xl:leI (0:Int) (i:Int)=true:=cw (by omega)
  have iU:ltN i y2.length=true:=ib fa
  refine⟨?_,?_,?_,?_⟩
  ·simp [gI,gJ,gK,gL,gM,gN,gw,ah,LT.nds,allT,cd,cq,xl,iU,jS]
  ·simp [gI,gJ,gK,gL,gM,gN,gw,ah,LT.each,cd,pF,hw]
  ·simp only [gI,gJ,gK,gL,gM,gN,gw,ah,LT.fn,cd,pF,dK,Int.toNat_natCast,cq,xl,iU,jS,cond_true,Bool.cond_self]
  ·exact fun _ _=>trivial
 ·obtain⟨⟩:=a
  simp [gI,gJ,gK,gL,gM,gN,gw,ah,LT.out,cd]
theorem ajL(l:List ByteArray)(h:leN l.length 9223372036854775807=true):Qh l=l.all mM∧Qi l=true:=by
 obtain⟨w1,w2⟩:=Hs l (fQ.1 h)
 rw [iS (P:=fun k=> !mM k) (j:=0) (fun k=>by simp only [dK,zq,Tp])]at w2
 have e5:(l.any fun k=> !mM k)= !l.all mM:=by simp [List.all_eq_not_any_not]
 rw [e5]at w2
 have q: ∀ m:Nat,leI 0 (m:Int)=true:=fun m=>cw (by omega)
 have q2:leI 0 (-1)=false:=rfl
 simp only [Qh,Qi,pX,pY,rB,rC,md,w1,w2,allT,cd]
 cases (l.all mM) <;> simp [Nat.beq,q,q2]
def WF:List SV→List Entry→Option Out
 | [.one ⟨false,[.ref 0]⟩,.one ⟨false,[.val (.int .i64 x0)]⟩],[.row false 9 (.str) x1]=>some ⟨.one ⟨false,[.val (.bool (x1.all mM&&inR (x1.length:Int) x0 20))]⟩,[.row false 9 agS x1],[],[OR x1]⟩
 |_,_=>none
def Dc:PF prog:=PF.alt agb WF (by
 intro args es o h da;unfold WF at h;split at h
 ·rename_i x0 x1
  cases h
  have da:=pb da
  have hh:=ajx x0 x1 da
  obtain⟨e0,en⟩:=hh
  exact tU rfl (pc en) (by simp only [e0] <;> rfl) rfl rfl
 ·cases h)
def Wz:List SV→List Entry→Option Out
 | [.one ⟨false,[.ref 0]⟩],[.row false 9 (.str) x0]=>some ⟨.one ⟨false,[.val (.bool (x0.all mM))]⟩,[.row false 9 agS x0],[],[leN x0.length 9223372036854775807]⟩
 |_,_=>none
def Qp:PF prog:=PF.alt af4 Wz (by
 intro args es o h da;unfold Wz at h;split at h
 ·rename_i x0
  cases h
  have da:=pb da
  have hh:=ajL x0 da
  obtain⟨e0,en⟩:=hh
  exact tU rfl (pc en) (by simp only [e0] <;> rfl) rfl rfl
 ·cases h)
theorem ahO(l:List ByteArray):(List.range l.length).any (fun b=>mu (List.take b l) (Option.getD l[b]? ByteArray.empty))=rS l:=rfl
def xx(y1:List ByteArray)(b:Nat):(Unit)→Nat ⊕ (Unit)
 |_=>(bif(leI (0:Int) (Ho (Option.getD y1[b]? ByteArray.empty) (List.drop (Int.toNat (0:Int)) (List.take b y1))))then(.inl 0)else(.inr ()))
def th(y1:List ByteArray)(i:Nat):(Unit)→mU
 |_=>((i:Int),y1)
def KP:mU→Unit
 |(_,_)=>()
theorem adk(y1:List ByteArray) (hn:y1.length≤9223372036854775807):
  eX.fin ((0:Int),y1)=true∧eX.res ((0:Int),y1)=((aq (xx y1) 1 (List.range y1.length) 0 ()).1,(th y1) (aq (xx y1) 1 (List.range y1.length) 0 ()).2.1 (aq (xx y1) 1 (List.range y1.length) 0 ()).2.2):=by
 have jT:=eX.along (th y1) KP (xx y1) 1 (fun _ _=>True) (List.range y1.length) () (by trivial) (by simp only [eX,th,List.length_range];omega) (fun i b a hb hI=> ?_) (fun a hI=> ?_)
 ·exact jT
 ·obtain⟨⟩:=a
  obtain⟨rfl,fa⟩:=oJ hb
  have hw:IntKind.i64.wrap ((b:Int) + 1)=((b + 1:Nat):Int):=by rw [aT (by omega) (by omega)];omega
  have cq:ltI (b:Int) (y1.length:Int)=true:=eQ (by omega)
  have xl:leI (0:Int) (b:Int)=true:=cw (by omega)
  have iU:ltN b y1.length=true:=ib (by omega)
  refine⟨?_,?_,?_,?_⟩
  ·have oL:(List.take b y1).length≤9223372036854775807:=by rw [List.length_take];omega
   have e:td (b:Int) y1=List.take b y1:=by simp [td]
   have h5:xP (b:Int) y1=true:=by simp only [xP,e];exact(acH _ _ (dx oL)).2
   have h3:CG (b:Int) y1=true:=cw (by omega)
   have h1:CF=true:=rfl
   simp only [AG,eX,LT.nds,allT,th,xN,xO,CH,h1,h3,h5,cq,xl,iU,Int.toNat_natCast,cond_true,Bool.and_self,List.all_nil,List.all_cons]
   cases CI (b:Int) y1 <;> simp [LT.nds]
  ·simp [AQ,td,xN,CF,xO,CG,CH,xP,CI,GX,AG,eX,LT.each,th,KP,hw]
  ·simp only [AQ,td,xN,CF,xO,CG,CH,xP,CI,GX,AG,eX,LT.fn,th,KP,xx,Int.toNat_natCast,cq,cond_true]
  ·exact fun _ _=>trivial
 ·obtain⟨⟩:=a
  simp [AQ,td,xN,CF,xO,CG,CH,xP,CI,GX,AG,eX,LT.out,th,List.length_range]
theorem ajz(l:List ByteArray)(h:leN l.length 9223372036854775807=true):QC l=rS l∧QD l=true:=by
 have hn:=fQ.1 h
 obtain⟨w1,w2⟩:=adk l hn
 have hi: ∀ b:Nat,(List.take b l).length≤9223372036854775807:=fun b=>by rw [List.length_take];omega
 rw [iS (P:=fun b=>mu (List.take b l) (Option.getD l[b]? ByteArray.empty)) (j:=0) (fun b=>by
  simp only [xx,Int.toNat_zero,List.drop_zero,(acH _ _ (dx (hi b))).1,Qf]),ahO]at w2
 simp only [QC,QD,w1,w2,allT]
 cases rS l <;> simp [Nat.beq]
theorem JS{A B:Type}{f:B→A→Nat ⊕ A}{g:A→B→A}{e:Nat}(hf: ∀ b a,f b a= .inr (g a b)): ∀ (l:List B) (i:Nat) (a:A),aq f e l i a=(e,i + l.length,l.foldl g a)
 | [],i,a=>rfl
 |b::r,i,a=>by
  simp only [aq,hf,List.foldl_cons]
  rw [JS hf r]
  simp [Nat.add_assoc,Nat.add_comm 1]
def xw(y2:List ByteArray)(b:Nat):(Unit)→Nat ⊕ (Unit)
 |_=>(bif(gZ (Option.getD y2[b]? ByteArray.empty) (List.drop (Int.toNat (0:Int)) (List.take b y2)))then(.inl 0)else(.inr ()))
def te(y2:List ByteArray)(i:Nat):(Unit)→mN
 |_=>((i:Int),(↑y2.length:Int),y2)
def KJ:mN→Unit
 |(_,_,_)=>()
theorem ade(y2:List ByteArray) (hn:y2.length≤9223372036854775807):
  eU.fin ((0:Int),(↑y2.length:Int),y2)=true∧eU.res ((0:Int),(↑y2.length:Int),y2)=((aq (xw y2) 1 (List.range y2.length) 0 ()).1,(te y2) (aq (xw y2) 1 (List.range y2.length) 0 ()).2.1 (aq (xw y2) 1 (List.range y2.length) 0 ()).2.2):=by
 have jT:=eU.along (te y2) KJ (xw y2) 1 (fun _ _=>True) (List.range y2.length) () (by trivial) (by simp only [eU,te,List.length_range];omega) (fun i b a hb hI=> ?_) (fun a hI=> ?_)
 ·exact jT
 ·obtain⟨⟩:=a
  obtain⟨rfl,fa⟩:=oJ hb
  have hw:IntKind.i64.wrap ((b:Int) + 1)=((b + 1:Nat):Int):=by rw [aT (by omega) (by omega)];omega
  have cq:ltI (b:Int) (y2.length:Int)=true:=eQ (by omega)
  have xl:leI (0:Int) (b:Int)=true:=cw (by omega)
  have iU:ltN b y2.length=true:=ib (by omega)
  refine⟨?_,?_,?_,?_⟩
  ·have oL:(List.take b y2).length≤9223372036854775807:=by rw [List.length_take];omega
   have e:sX (b:Int) y2=List.take b y2:=by simp [sX]
   have h5:xz (b:Int) y2=true:=by simp only [xz,e];exact(als _ _ (dx oL)).2
   have h3:Bx (b:Int) y2=true:=cw (by omega)
   have h1:Bw=true:=rfl
   simp only [Az,eU,LT.nds,allT,te,Bt,xy,Bu,Bv,h1,h3,h5,cq,xl,iU,Int.toNat_natCast,cond_true,Bool.and_self,List.all_nil,List.all_cons]
   cases Bz (b:Int) y2 <;> simp [LT.nds]
  ·simp [zY,sX,Bt,xy,Bu,Bv,Bw,Bx,xz,Bz,Gz,Az,eU,LT.each,te,KJ,hw]
  ·simp only [zY,sX,Bt,xy,Bu,Bv,Bw,Bx,xz,Bz,Gz,Az,eU,LT.fn,te,KJ,xw,Int.toNat_natCast,cq,cond_true]
  ·exact fun _ _=>trivial
 ·obtain⟨⟩:=a
  simp [zY,sX,Bt,xy,Bu,Bv,Bw,Bx,xz,Bz,Gz,Az,eU,LT.out,te,List.length_range]
theorem aji(l:List ByteArray)(h:leN l.length 9223372036854775807=true):Qj l=rS l∧Qk l=true:=by
 have hn:=fQ.1 h
 obtain⟨w1,w2⟩:=ade l hn
 have hi: ∀ b:Nat,(List.take b l).length≤9223372036854775807:=fun b=>by rw [List.length_take];omega
 rw [iS (P:=fun b=>mu (List.take b l) (Option.getD l[b]? ByteArray.empty)) (j:=0) (fun b=>by
  simp only [xw,Int.toNat_zero,List.drop_zero,(als _ _ (dx (hi b))).1]),ahO]at w2
 simp only [Qj,Qk,OV,w1,w2,allT]
 cases rS l <;> simp [Nat.beq]
def WH:List SV→List Entry→Option Out
 | [.one ⟨false,[.ref 0]⟩],[.row false 9 (.str) x0]=>some ⟨.one ⟨false,[.val (.bool (rS x0))]⟩,[.row false 9 agS x0],[],[leN x0.length 9223372036854775807]⟩
 |_,_=>none
def nT:PF prog:=PF.alt agc WH (by
 intro args es o h da;unfold WH at h;split at h
 ·rename_i x0
  cases h
  have da:=pb da
  have hh:=ajz x0 da
  obtain⟨e0,en⟩:=hh
  exact tU rfl (pc en) (by simp only [e0] <;> rfl) rfl rfl
 ·cases h)
def WA:List SV→List Entry→Option Out
 | [.one ⟨false,[.ref 0]⟩],[.row false 9 (.str) x0]=>some ⟨.one ⟨false,[.val (.bool (rS x0))]⟩,[.row false 9 agS x0],[],[leN x0.length 9223372036854775807]⟩
 |_,_=>none
def CZ:PF prog:=PF.alt af5 WA (by
 intro args es o h da;unfold WA at h;split at h
 ·rename_i x0
  cases h
  have da:=pb da
  have hh:=aji x0 da
  obtain⟨e0,en⟩:=hh
  exact tU rfl (pc en) (by simp only [e0] <;> rfl) rfl rfl
 ·cases h)
theorem amc(k:Int):rX k=takesK k:=rfl
theorem amy(n k:Int)(h0:0≤n)(h1:n≤9223372036854775000):IntKind.i64.wrap (IntKind.i64.wrap (n - takesK k) + 1)=n - takesK k + 1∧IntKind.i64.wrap (n + IntKind.i64.wrap (1 - takesK k))=n - takesK k + 1:=by
 have:=PA k
 refine⟨?_,?_⟩
 ·rw [aT (x:=n - takesK k) (by omega) (by omega),aT (by omega) (by omega)]
 ·rw [aT (x:=1 - takesK k) (by omega) (by omega),aT (by omega) (by omega)];omega
theorem Tq(a b:Int):ltI a b= !leI b a:=by
 cases h:leI b a with
 |true=>have:=Ee.1 h;exact Na (by omega)
 |false=>rw [aod]at h;exact eQ (by omega)
def QW(ts:List TM):Bool:=leN ts.length 1048576&&ts.all fun t=>leN t.2.1.size 9223372036854775807
def WK(ls:List LN):Bool:=leN ls.length 1048576&&ls.all fun l=>leN l.1.size 9223372036854775807&&QW l.2
theorem Nh{ts:List TM}:QW ts=true↔ts.length≤1048576∧ ∀ t∈ts,t.2.1.size≤9223372036854775807:=by
 simp only [QW,Bool.and_eq_true,fQ,List.all_eq_true]
theorem MZ{ls:List LN}:WK ls=true↔ls.length≤1048576∧ ∀ l∈ls,l.1.size≤9223372036854775807∧QW l.2=true:=by
 simp only [WK,Bool.and_eq_true,fQ,List.all_eq_true]
def qc(b:Int×(ByteArray×Int)):(Int×Int)→Nat ⊕ (Int×Int)
 |(y2,y3)=>(bif(bif !Li b.1 (b.2.1) b.2.2then true else ltI y2 (rX b.1))then(.inl 0)else(.inr ((IntKind.wrap .i64 (y2 + IntKind.wrap .i64 ((1:Int) - rX b.1))),(aeI y3 (IntKind.wrap .i64 (y2 + IntKind.wrap .i64 ((1:Int) - rX b.1))) (IntKind.wrap .i64 (y2 + IntKind.wrap .i64 ((1:Int) - rX b.1))) y3))))
def tz(y4:List (Int×(ByteArray×Int)))(i:Nat):(Int×Int)→qb
 |(y2,y3)=>((i:Int),(↑y4.length:Int),y2,y3,y4)
def Oa:qb→Int×Int
 |(_,_,y2,y3,_)=>(y2,y3)
theorem afj(y4:List (Int×(ByteArray×Int)))(y2 y3:Int)(hn:y4.length≤9223372036854775807):
  gq.fin ((0:Int),(↑y4.length:Int),y2,y3,y4)=true∧gq.res ((0:Int),(↑y4.length:Int),y2,y3,y4)=((aq (qc) 1 y4 0 (y2,y3)).1,(tz y4) (aq (qc) 1 y4 0 (y2,y3)).2.1 (aq (qc) 1 y4 0 (y2,y3)).2.2):=by
 have jT:=gq.along (tz y4) Oa (qc) 1 (fun _ _=>True) y4 (y2,y3) (by trivial) (by simp only [gq,tz];omega) (fun i b a hb hI=> ?_) (fun a hI=> ?_)
 ·exact jT
 ·obtain⟨y2,y3⟩:=a
  have fa:=(List.getElem?_eq_some_iff.1 hb).1
  have jS: ∀ d,Option.getD y4[i]? d=b:=fun d=>by rw [hb];rfl
  have hw:=wM fa hn
  have cq:ltI (i:Int) (y4.length:Int)=true:=eQ (by omega)
  have xl:leI (0:Int) (i:Int)=true:=cw (by omega)
  have iU:ltN i y4.length=true:=ib fa
  refine⟨?_,?_,?_,?_⟩
  ·simp [qC,vI,Fu,Fv,Fw,Fx,Fy,Fz,FA,FB,Eg,gq,LT.nds,allT,tz,cq,xl,iU,jS]
  ·simp [qC,vI,Fu,Fv,Fw,Fx,Fy,Fz,FA,FB,Eg,gq,LT.each,tz,Oa,hw]
  ·simp only [qC,vI,Fu,Fv,Fw,Fx,Fy,Fz,FA,FB,Eg,gq,LT.fn,tz,Oa,qc,Int.toNat_natCast,cq,xl,iU,jS,cond_true,Bool.cond_self]
  ·exact fun _ _=>trivial
 ·obtain⟨y2,y3⟩:=a
  simp [qC,vI,Fu,Fv,Fw,Fx,Fy,Fz,FA,FB,Eg,gq,LT.out,tz]
theorem afU: ∀ (ts:List TM) (i:Nat) (n m:Int),0≤n→n + ts.length≤9223372036854775000→
  match htT ts n with
  |some k=>(aq qc 1 ts i (n,m)).1=1∧(aq qc 1 ts i (n,m)).2.2.1=k
  |none=>(aq qc 1 ts i (n,m)).1=0
 | [],i,n,m,_,_=>⟨rfl,rfl⟩
 |t::r,i,n,m,h0,h1=>by
  rw [List.length_cons]at h1
  have hw:=(amy n t.1 h0 (by omega)).2
  have ht:=PA t.1
  have hf:qc t (n,m)=(bif termB t.1 t.2.1 t.2.2&&leI (takesK t.1) n then .inr (n - takesK t.1 + 1,aeI m (n - takesK t.1 + 1) (n - takesK t.1 + 1) m)else .inl 0):=by
   simp only [qc,akf,amc,hw,Tq]
   cases termB t.1 t.2.1 t.2.2 <;> cases leI (takesK t.1) n <;> rfl
  simp only [aq,hf,htT]
  cases hc:termB t.1 t.2.1 t.2.2&&leI (takesK t.1) n with
  |false=>rfl
  |true=>
   simp only [Bool.and_eq_true,Ee]at hc
   simp only [cond_true]
   exact afU r (i + 1) _ _ (by omega) (by omega)
theorem akd(ts:List TM)(h:QW ts=true):ET ts=adD ts∧EU ts=true:=by
 obtain⟨hn,_⟩:=Nh.1 h
 obtain⟨w1,w2⟩:=afj ts 0 0 (by omega)
 have hh:=afU ts 0 0 0 (by omega) (by omega)
 have Le:leI (ts.length:Int) 40=leN ts.length 40:=by
  rw [Bool.eq_iff_iff,Ee,fQ];omega
 simp only [ET,EU,TR,TS,NI,RL,RM,w1,w2,allT,adD,Le,cond_true,tz]
 cases hq:htT ts 0 with
 |none=>
  rw [hq]at hh
  simp only at hh
  rw [hh];simp [Nat.beq]
 |some k=>
  rw [hq]at hh
  simp only at hh
  rw [hh.1,hh.2]
  dsimp only
  generalize (k==1)=q
  cases q <;> cases leN ts.length 40 <;> simp [Nat.beq]
def iT(b:Int×(ByteArray×Int)):(Int×List Int)→Nat ⊕ (Int×List Int)
 |(y1,y3)=>(bif(bif(!JN b.1 (b.2.1) b.2.2)then true else ltI y1 (mr b.1))then(.inl 0)else(.inr ((IntKind.wrap .i64 (IntKind.wrap .i64 (y1 - mr b.1) + (1:Int))),(y3++ [IntKind.wrap .i64 (IntKind.wrap .i64 (y1 - mr b.1) + (1:Int))]))))
def nO(y2:List (Int×(ByteArray×Int)))(i:Nat):(Int×List Int)→km
 |(y1,y3)=>((i:Int),y1,y2,y3)
def HR:km→Int×List Int
 |(_,y1,_,y3)=>(y1,y3)
theorem ZJ(y2:List (Int×(ByteArray×Int)))(y1:Int)(y3:List Int)(hn:y2.length≤9223372036854775807)(hT:y2.length≤1048576)(hA: ∀ x∈y2,x.2.1.size≤9223372036854775807)(h3:y3.length=0):
  dl.fin ((0:Int),y1,y2,y3)=true∧dl.res ((0:Int),y1,y2,y3)=((aq (iT) 1 y2 0 (y1,y3)).1,(nO y2) (aq (iT) 1 y2 0 (y1,y3)).2.1 (aq (iT) 1 y2 0 (y1,y3)).2.2):=by
 have jT:=dl.along (nO y2) HR (iT) 1 (fun i a=>a.2.length=i) y2 (y1,y3) h3 (by simp only [dl,nO];omega) (fun i b a hb hI=> ?_) (fun a hI=> ?_)
 ·exact jT
 ·obtain⟨y1,y3⟩:=a
  have fa:=(List.getElem?_eq_some_iff.1 hb).1
  have jS: ∀ d,Option.getD y2[i]? d=b:=fun d=>by rw [hb];rfl
  have hw:=wM fa hn
  have cq:ltI (i:Int) (y2.length:Int)=true:=eQ (by omega)
  have xl:leI (0:Int) (i:Int)=true:=cw (by omega)
  have iU:ltN i y2.length=true:=ib fa
  refine⟨?_,?_,?_,?_⟩
  ·have hg2:dE (i:Int) y2=b:=by simp only [dE,Int.toNat_natCast];exact jS _
   have h6:JO b.1 b.2.1 b.2.2=true:=(afM b.1 b.2.1 b.2.2 (dx (hA b (List.mem_of_getElem? hb)))).2
   simp only at hI
   have h8:leN (y3.length + 1) 9223372036854775807=true:=dx (by omega)
   have h9:leN ((y3.length + 1) * 8) 140737488355328=true:=dx (by omega)
   simp [rI,ve,vf,yX,yY,yZ,za,zb,zc,zd,xc,xf,xg,wX,dl,LT.nds,allT,nO,cq,xl,iU,hg2,h6,h8,h9]
  ·simp [dE,qz,qA,rI,ve,vf,yX,yY,yZ,za,zb,zc,zd,xc,xf,xg,wX,dl,LT.each,nO,HR,hw]
  ·have hg2:dE (i:Int) y2=b:=by simp only [dE,Int.toNat_natCast];exact jS _
   simp only [rI,ve,vf,yX,yY,yZ,za,zb,zc,zd,xc,xf,xg,wX,dl,qz,qA,LT.fn,nO,HR,iT,Int.toNat_natCast,cq,hg2,cond_true]
  ·intro a' hf
   simp only at hI
   simp only [iT]at hf
   revert hf
   generalize (bif _ then true else _)=c
   cases c with
   |true=>intro hf;cases hf
   |false=>intro hf;simp only [cond_false,Sum.inr.injEq]at hf;subst hf;simp [hI]
 ·obtain⟨y1,y3⟩:=a
  simp [dE,qz,qA,rI,ve,vf,yX,yY,yZ,za,zb,zc,zd,xc,xf,xg,wX,dl,LT.out,nO]
theorem aep: ∀ (ts:List TM) (i:Nat) (n:Int) (L:List Int),(∀ x∈ts,x.2.1.size≤9223372036854775807)→0≤n→n + ts.length≤9223372036854775000→
  match htT ts n with
  |some k=>(aq iT 1 ts i (n,L)).1=1∧(aq iT 1 ts i (n,L)).2.2.1=k
  |none=>(aq iT 1 ts i (n,L)).1=0
 | [],i,n,m,_,_,_=>⟨rfl,rfl⟩
 |t::r,i,n,m,hs,h0,h1=>by
  rw [List.length_cons]at h1
  have hw:=(amy n t.1 h0 (by omega)).1
  have ht:=PA t.1
  have hf:iT t (n,m)=(bif termB t.1 t.2.1 t.2.2&&leI (takesK t.1) n then .inr (n - takesK t.1 + 1,m++ [n - takesK t.1 + 1])else .inl 0):=by
   simp only [iT,(afM t.1 t.2.1 t.2.2 (dx (hs t (by simp)))).1,show mr t.1=takesK t.1 from rfl,hw,Tq]
   cases termB t.1 t.2.1 t.2.2 <;> cases leI (takesK t.1) n <;> rfl
  simp only [aq,hf,htT]
  cases hc:termB t.1 t.2.1 t.2.2&&leI (takesK t.1) n with
  |false=>rfl
  |true=>
   simp only [Bool.and_eq_true,Ee]at hc
   simp only [cond_true]
   exact aep r (i + 1) _ _ (fun x hx=>hs x (by simp [hx])) (by omega) (by omega)
theorem akO(ts:List TM)(h:QW ts=true):KZ ts=adD ts∧La ts=true:=by
 obtain⟨hn,hs⟩:=Nh.1 h
 obtain⟨w1,w2⟩:=ZJ ts 0 [] (by omega) hn hs rfl
 have hh:=aep ts 0 0 [] hs (by omega) (by omega)
 have Le:leI (ts.length:Int) 40=leN ts.length 40:=by
  rw [Bool.eq_iff_iff,Ee,fQ];omega
 simp only [KZ,La,Oj,Ok,GQ,MC,MD,w1,w2,allT,adD,Le,cond_true,nO]
 cases hq:htT ts 0 with
 |none=>
  rw [hq]at hh
  simp only at hh
  rw [hh];simp [Nat.beq]
 |some k=>
  rw [hq]at hh
  simp only at hh
  rw [hh.1,hh.2]
  dsimp only
  generalize (k==1)=q
  cases q <;> cases leN ts.length 40 <;> simp [Nat.beq]
theorem amQ(s:ByteArray)(ts:List TM)(h:QW ts=true):TT s ts=lineB (s,ts)∧TU s ts=true:=by
 obtain⟨e1,e2⟩:=akd ts h
 simp only [TT,TU,e1,e2,Tp,lineB,allT,Bool.or_true,cond_true]
 cases mM s <;> simp
def QL:List SV→List Entry→Option Out
 | [.one ⟨false,[.ref 0]⟩],[.row false 178 (.pair (.int .i64) (.pair (.str) (.int .i64))) x0]=>some ⟨.one ⟨false,[.val (.bool (adD x0))]⟩,[.row false 178 aeH x0],[],[QW x0]⟩
 |_,_=>none
def wv:PF prog:=PF.alt aaO QL (by
 intro args es o h da;unfold QL at h;split at h
 ·rename_i x0
  cases h
  have da:=pb da
  have hh:=akO x0 da
  obtain⟨e0,en⟩:=hh
  exact tU rfl (pc en) (by simp only [e0] <;> rfl) rfl rfl
 ·cases h)
def abb:List SV→List Entry→Option Out
 | [.one ⟨true,[.val (.string x0),.ref 0]⟩],[.row false 178 (.pair (.int .i64) (.pair (.str) (.int .i64))) x1]=>some ⟨.one ⟨false,[.val (.bool (lineB (x0,x1)))]⟩,[.row false 178 aeH x1],[],[QW x1]⟩
 |_,_=>none
def Hx:PF prog:=PF.alt ah3 abb (by
 intro args es o h da;unfold abb at h;split at h
 ·rename_i x0 x1
  cases h
  have da:=pb da
  have hh:=amQ x0 x1 da
  obtain⟨e0,en⟩:=hh
  exact tU rfl (pc en) (by simp only [e0] <;> rfl) rfl rfl
 ·cases h)
theorem Lp.along2{X A B:Type}(p:Lp X)(st:Nat→A→X)(pr:X→A)(f:B→A→Nat ⊕ A)(e:Nat)(Inv:Nat→A→Prop)(xs:List B)(a:A)
  (h0:Inv 0 a) (hf:xs.length≤100000000000)
  (hs: ∀ i b a,xs[i]? =some b→Inv i a→(p.lt (st i a)).nds=true∧(p.lt (st i a)).each (fun y=>y=st (i + 1) (pr y))∧(p.lt (st i a)).fn pr=f b a∧ ∀ a',f b a= .inr a'→Inv (i + 1) a')
  (he: ∀ a,Inv xs.length a→(p.lt (st xs.length a)).out=some (.inl e)):
  p.fin (st 0 a)=true∧p.res (st 0 a)=((aq f e xs 0 a).1,st (aq f e xs 0 a).2.1 (aq f e xs 0 a).2.2):=by
 have hs': ∀ i b a,xs[i]? =some b→Inv i a→(p.lt (st i a)).out=some (match f b a with | .inl j=> .inl j | .inr a'=> .inr (st (i + 1) a'))∧ ∀ a',f b a= .inr a'→Inv (i + 1) a':=by
  intro i b a hb hI
  obtain⟨h1,h2,h3,h4⟩:=hs i b a hb hI
  refine⟨?_,h4⟩
  rw [LT.out_of h1 h2,h3]
  cases f b a <;> rfl
 refine p.run (afc st f e Inv xs hs' he xs 0 a rfl (by omega) h0) ?_
 rw [ane]
 have:1000 ^ 4≤(p.fuel (st 0 a) + 1000) ^ 4:=Nat.pow_le_pow_left (by omega) 4
 omega
def agD(a:List TM)(b:TM):List TM:=bif leI 7 b.1 then a++ [b]else a
theorem agQ: ∀ (ts acc:List TM),ts.foldl agD acc=acc++blT ts
 | [],acc=>by simp [blT]
 |t::r,acc=>by
  rw [List.foldl_cons,agQ r]
  simp only [agD,blT,List.filter_cons]
  cases leI 7 t.1 <;> simp
theorem ain: ∀ (ls:List LN) (acc:List TM),ls.foldl (fun a l=>a++blT l.2) acc=acc++blL ls
 | [],acc=>by simp [blL]
 |l::r,acc=>by
  rw [List.foldl_cons,ain r]
  simp [blL]
theorem aiZ(ts:List TM):(blT ts).length≤ts.length:=List.length_filter_le _ _
theorem ajP(a:List TM)(b:TM):(agD a b).length≤a.length + 1:=by
 simp only [agD];cases leI 7 b.1 <;> simp
def bv(b:Int×(ByteArray×Int)):(List (Int×(ByteArray×Int)))→Nat ⊕ (List (Int×(ByteArray×Int)))
 |y3=>(bif(leI (7:Int) b.1)then(.inr (y3++([(b.1,b.2.1,b.2.2)])))else(.inr y3))
def bU(y2:List (Int×(ByteArray×Int)))(i:Nat):(List (Int×(ByteArray×Int)))→aR
 |y3=>((i:Int),(↑y2.length:Int),y2,y3)
def mp:aR→List (Int×(ByteArray×Int))
 |(_,_,_,y3)=>y3
theorem Ew(y2 y3:List (Int×(ByteArray×Int)))(hn:y2.length≤9223372036854775807)(hc:y3.length + y2.length≤4000000000000):
  ae.fin ((0:Int),(↑y2.length:Int),y2,y3)=true∧ae.res ((0:Int),(↑y2.length:Int),y2,y3)=((aq (bv) 0 y2 0 y3).1,(bU y2) (aq (bv) 0 y2 0 y3).2.1 (aq (bv) 0 y2 0 y3).2.2):=by
 have jT:=ae.along (bU y2) mp (bv) 0 (fun i a=>a.length≤y3.length + i) y2 y3 (Nat.le_refl _) (by simp only [ae,bU];omega) (fun i b a hb hI=> ?_) (fun a hI=> ?_)
 ·exact jT
 ·obtain y3:=a
  have fa:=(List.getElem?_eq_some_iff.1 hb).1
  have jS: ∀ d,Option.getD y2[i]? d=b:=fun d=>by rw [hb];rfl
  have hw:=wM fa hn
  have cq:ltI (i:Int) (y2.length:Int)=true:=eQ (by omega)
  have xl:leI (0:Int) (i:Int)=true:=cw (by omega)
  have iU:ltN i y2.length=true:=ib fa
  refine⟨?_,?_,?_,?_⟩
  ·have hg2:aO (i:Int) y2=b:=by simp only [aO,Int.toNat_natCast];exact jS _
   have h8: ∀ z:TM,leN (a.length + List.length [z]) 9223372036854775807=true:=fun z=>dx (by rw [List.length_singleton];omega)
   have h9: ∀ z:TM,leN ((a.length + List.length [z]) * 32) 140737488355328=true:=fun z=>dx (by rw [List.length_singleton];omega)
   simp only [dX,dY,dZ,ea,ec,ed,ee,cZ,ef,dJ,ae,bO,bP,LT.nds,allT,bU,cq,xl,iU,hg2,h8,h9,Int.toNat_natCast,cond_true,Bool.or_true]
   cases leI 7 b.1 <;> simp [LT.nds]
  ·simp [aO,bO,bP,dX,dY,dZ,ea,ec,ed,ee,cZ,ef,dJ,ae,LT.each,bU,mp,hw]
  ·have hg2:aO (i:Int) y2=b:=by simp only [aO,Int.toNat_natCast];exact jS _
   simp only [dX,dY,dZ,ea,ec,ed,ee,cZ,ef,dJ,ae,bO,bP,LT.fn,bU,mp,bv,Int.toNat_natCast,cq,hg2,cond_true]
  ·intro a' hf
   have hf2:bv b a= .inr (agD a b):=by
    simp only [bv,agD];cases leI 7 b.1 <;> rfl
   rw [hf2]at hf
   simp only [Sum.inr.injEq]at hf
   subst hf
   have:=ajP a b
   omega
 ·obtain y3:=a
  simp [aO,bO,bP,dX,dY,dZ,ea,ec,ed,ee,cZ,ef,dJ,ae,LT.out,bU]
theorem acg(ts acc:List TM)(hn:ts.length≤9223372036854775807)(hc:acc.length + ts.length≤4000000000000):
  ae.fin ((0:Int),(ts.length:Int),ts,acc)=true∧(ae.res ((0:Int),(ts.length:Int),ts,acc)).2.2.2.2=acc++blT ts:=by
 obtain⟨w1,w2⟩:=Ew ts acc hn hc
 rw [JS (g:=agD) (fun b a=>by simp only [bv,agD];cases leI 7 b.1 <;> rfl)]at w2
 exact⟨w1,by rw [w2];exact agQ ts acc⟩
def bH(b:ByteArray×(List (Int×(ByteArray×Int)))):(List (Int×(ByteArray×Int)))→Nat ⊕ (List (Int×(ByteArray×Int)))
 |y3=>(.inr ((Lp.res ae ((0:Int),(↑(List.length b.2):Int),b.2,y3)).2.2.2.2))
def bC(y2:List (ByteArray×(List (Int×(ByteArray×Int)))))(i:Nat):(List (Int×(ByteArray×Int)))→aW
 |y3=>((i:Int),(↑y2.length:Int),y2,y3)
def nI:aW→List (Int×(ByteArray×Int))
 |(_,_,_,y3)=>y3
theorem FT(y2:List (ByteArray×(List (Int×(ByteArray×Int)))))(y3:List (Int×(ByteArray×Int)))(hn:y2.length≤9223372036854775807)(hN:y2.length≤1048576)(hL: ∀ l∈y2,l.2.length≤1048576)(h3:y3.length=0):
  ax.fin ((0:Int),(↑y2.length:Int),y2,y3)=true∧ax.res ((0:Int),(↑y2.length:Int),y2,y3)=((aq (bH) 0 y2 0 y3).1,(bC y2) (aq (bH) 0 y2 0 y3).2.1 (aq (bH) 0 y2 0 y3).2.2):=by
 have jT:=ax.along (bC y2) nI (bH) 0 (fun i a=>a.length≤i * 1048576) y2 y3 (by omega) (by simp only [ax,bC];omega) (fun i b a hb hI=> ?_) (fun a hI=> ?_)
 ·exact jT
 ·obtain y3:=a
  have fa:=(List.getElem?_eq_some_iff.1 hb).1
  have jS: ∀ d,Option.getD y2[i]? d=b:=fun d=>by rw [hb];rfl
  have hw:=wM fa hn
  have cq:ltI (i:Int) (y2.length:Int)=true:=eQ (by omega)
  have xl:leI (0:Int) (i:Int)=true:=cw (by omega)
  have iU:ltN i y2.length=true:=ib fa
  refine⟨?_,?_,?_,?_⟩
  ·have hg2:bB (i:Int) y2=b.2:=by simp only [bB,Int.toNat_natCast];exact congrArg Prod.snd (jS _)
   have hbl:=hL b (List.mem_of_getElem? hb)
   have h4:fg (i:Int) y2 a=true:=by
    simp only [fg,dq,hg2]
    exact(acg b.2 a (by omega) (by omega)).1
   simp only [ax,eR,ff,jm,jn,jo,LT.nds,allT,bC,cq,xl,iU,h4,Int.toNat_natCast,cond_true,Bool.and_self]
  ·simp [bB,dq,ff,jm,jn,jo,fg,ox,jp,eR,ax,LT.each,bC,nI,hw]
  ·have hg2:bB (i:Int) y2=b.2:=by simp only [bB,Int.toNat_natCast];exact congrArg Prod.snd (jS _)
   simp only [ax,eR,ff,jp,dq,LT.fn,bC,nI,bH,cq,hg2,cond_true]
  ·intro a' hf
   have hbl:=hL b (List.mem_of_getElem? hb)
   have h5:=aiZ b.2
   simp only [bH,Sum.inr.injEq,(acg b.2 a (by omega) (by omega)).2]at hf
   subst hf
   rw [List.length_append]
   omega
 ·obtain y3:=a
  simp [bB,dq,ff,jm,jn,jo,fg,ox,jp,eR,ax,LT.out,bC]
theorem amj{f:LN→List TM→Nat ⊕ List TM}{e:Nat}: ∀ (ls:List LN) (i:Nat) (acc:List TM) (c:Nat),(∀ l∈ls,∀ a:List TM,a.length≤c + (ls.length * 1048576)→f l a= .inr (a++blT l.2))→(∀ l∈ls,l.2.length≤1048576)→acc.length≤c→
  aq f e ls i acc=(e,i + ls.length,acc++blL ls)
 | [],i,acc,c,_,_,_=>by simp [aq,blL]
 |l::r,i,acc,c,hf,hL,hc=>by
  have h5:=aiZ l.2
  have h6:=hL l (by simp)
  simp only [aq,hf l (by simp) acc (by omega)]
  rw [amj r (i + 1) (acc++blT l.2) (c + 1048576) (fun x hx a ha=>hf x (by simp [hx]) a (by rw [List.length_cons];omega)) (fun x hx=>hL x (by simp [hx])) (by rw [List.length_append];omega)]
  simp [blL];omega
theorem akb(ls:List LN)(h:WK ls=true):pO ls=blL ls∧pP ls=true:=by
 obtain⟨hn,hA⟩:=MZ.1 h
 have hL: ∀ l∈ls,l.2.length≤1048576:=fun l hl=>(Nh.1 (hA l hl).2).1
 obtain⟨w1,w2⟩:=FT ls [] (by omega) hn hL rfl
 have hw:=amj (f:=bH) (e:=0) ls 0 [] 0 (fun l hl a ha=>by
  have:=hL l hl
  simp only [bH,(acg l.2 a (by omega) (by omega)).2]) hL (by simp)
 rw [hw]at w2
 simp only [pO,pP,pD,w1,w2,allT,bC]
 simp
theorem ak8(k:Nat)(u v:ByteArray)(acc:List TM)(p q r:List ByteArray)(ls:List LN)(l:LN)(hl:ls[k]? =some l)(hn:l.2.length≤1048576)(hc:acc.length + l.2.length≤4000000000000):
  dM.fin ((0:Int),(k:Int),u,v,acc,p,q,r,ls)=true∧dM.res ((0:Int),(k:Int),u,v,acc,p,q,r,ls)=(0,((l.2.length:Int),(k:Int),u,v,acc++blT l.2,p,q,r,ls)):=by
 have hkl:=(List.getElem?_eq_some_iff.1 hl).1
 have hgl: ∀ d,Option.getD ls[k]? d=l:=fun d=>by rw [hl];rfl
 have ha2:qY (k:Int) ls=l.2:=by simp only [qY,Int.toNat_natCast];exact congrArg Prod.snd (hgl _)
 have ha0:FQ (k:Int) ls=true:=eQ (by omega)
 have ha1:zR (k:Int) ls=true:=by simp only [zR,Int.toNat_natCast];exact ib hkl
 have hk0:leI 0 (k:Int)=true:=cw (by omega)
 have jT:=dM.along2 (fun i (a:List TM)=>((i:Int),(k:Int),u,v,a,p,q,r,ls)) (fun x=>x.2.2.2.2.1) (fun(b:TM) a=> .inr (agD a b)) 0 (fun i a=>a.length≤acc.length + i) l.2 acc (by omega)
  (by omega) (fun i b a hb hI=> ?_) (fun a hI=> ?_)
 ·rw [JS (g:=agD) (fun b a=>rfl),agQ]at jT
  simpa using jT
 ·have fa:=(List.getElem?_eq_some_iff.1 hb).1
  have hw:IntKind.i64.wrap ((i:Int) + 1)=((i + 1:Nat):Int):=by rw [aT (by omega) (by omega)];omega
  have cq:ltI (i:Int) (l.2.length:Int)=true:=eQ (by omega)
  have xl:leI (0:Int) (i:Int)=true:=cw (by omega)
  have iU:ltN i l.2.length=true:=ib fa
  have hg2:ra (i:Int) (k:Int) ls=b:=by simp only [ra,ha2,Int.toNat_natCast,hb,Option.getD_some]
  have hg3:qZ (i:Int) (k:Int) ls=true:=by simp only [qZ,ha2,cq]
  have h8: ∀ z:TM,leN (a.length + List.length [z]) 9223372036854775807=true:=fun z=>dx (by rw [List.length_singleton];omega)
  have h9: ∀ z:TM,leN ((a.length + List.length [z]) * 32) 140737488355328=true:=fun z=>dx (by rw [List.length_singleton];omega)
  refine⟨?_,?_,?_,?_⟩
  ·simp only [sA,sB,sC,sD,wc,wd,we,wg,wh,wi,vg,vh,vi,vj,vk,qX,vl,uY,dM,dR,rb,LT.nds,allT,ha0,ha1,ha2,hk0,hg2,hg3,cq,xl,iU,h8,h9,Int.toNat_natCast,cond_true,Bool.or_true]
   cases leI 7 b.1 <;> simp [LT.nds]
  ·simp only [sA,sB,sC,sD,wc,wd,we,wg,wh,wi,vg,vh,vi,vj,vk,qX,vl,uY,dM,dR,rb,LT.each,hw,hg2,hg3]
   cases leI 7 b.1 <;> simp [LT.each]
  ·simp only [sA,sB,sC,sD,wc,wd,we,wg,wh,wi,vg,vh,vi,vj,vk,qX,vl,uY,dM,dR,rb,LT.fn,hg2,hg3,cond_true,agD]
   cases leI 7 b.1 <;> rfl
  ·intro a' hf
   simp only [Sum.inr.injEq]at hf
   subst hf
   have:=ajP a b
   omega
 ·have cq:qZ (l.2.length:Int) (k:Int) ls=false:=by simp only [qZ,ha2];exact Na (by omega)
  simp [sA,sB,sC,sD,wc,wd,we,wg,wh,wi,vg,vh,vi,vj,vk,qX,vl,uY,dM,LT.out,allT,ha0,ha1,hk0,cq]
theorem akM(u v:ByteArray)(p q r:List ByteArray)(ls:List LN)(h:WK ls=true):Pv u v p q r ls=blL ls∧Pw u v p q r ls=true:=by
 obtain⟨hn,hA⟩:=MZ.1 h
 have hL: ∀ l∈ls,l.2.length≤1048576:=fun l hl=>(Nh.1 (hA l hl).2).1
 have jT:=iX.along (fun i (a:List TM)=>((i:Int),u,v,a,p,q,r,ls)) (fun x=>x.2.2.2.1) (fun(b:LN) a=> .inr (a++blT b.2)) 0 (fun i a=>a.length≤i * 1048576) ls [] (by simp)
  (by simp only [iX];omega) (fun i b a hb hI=> ?_) (fun a hI=> ?_)
 ·rw [JS (g:=fun a (l:LN)=>a++blT l.2) (fun b a=>rfl),ain]at jT
  simp only [Pv,Pw,Om,allT]
  simp only [List.nil_append,Nat.zero_add]at jT
  have e0:((0:Nat):Int)=0:=rfl
  rw [e0]at jT
  rw [jT.1,jT.2]
  exact⟨rfl,rfl⟩
 ·have fa:=(List.getElem?_eq_some_iff.1 hb).1
  have hbl:=hL b (List.mem_of_getElem? hb)
  have hw:IntKind.i64.wrap ((i:Int) + 1)=((i + 1:Nat):Int):=by rw [aT (by omega) (by omega)];omega
  have cq:ltI (i:Int) (ls.length:Int)=true:=eQ (by omega)
  obtain⟨k1,k2⟩:=ak8 i u v a p q r ls b hb hbl (by omega)
  refine⟨?_,?_,?_,?_⟩
  ·simp [AL,AM,AO,AP,yI,iX,ze,LT.nds,allT,cq,k1]
  ·simp [AL,AM,AO,AP,yI,iX,ze,LT.each,cq,hw,k2]
  ·simp [AL,AM,AO,AP,yI,iX,ze,LT.fn,cq,k2]
  ·intro a' hf
   simp only [Sum.inr.injEq]at hf
   subst hf
   have:=aiZ b.2
   rw [List.length_append];omega
 ·have cq:ltI (ls.length:Int) (ls.length:Int)=false:=Na (by omega)
  simp [AL,AM,AO,AP,yI,iX,LT.out,cq]
def wD:List SV→List Entry→Option Out
 | [.one ⟨true,[.val (.string _x0),.ref 0,.ref 1,.ref 2,.val (.string _x1),.ref 3]⟩],[.row false 9 (.str) x2,.row false 9 (.str) x3,.row false 9 (.str) x4,.row false 204 (.pair (.str) (.sl 178 (.pair (.int .i64) (.pair (.str) (.int .i64))))) x5]=>some ⟨.one ⟨false,[.ref 4]⟩,[.row false 9 agS x2,.row false 9 agS x3,.row false 9 agS x4,.row false 204 (CTy.pair CTy.str (CTy.sl (178:TypeId) aeH)) x5],[.row true 178 aeH (blL x5)],[WK x5]⟩
 |_,_=>none
def pS:PF prog:=PF.alt Hn wD (by
 intro args es o h da;unfold wD at h;split at h
 ·rename_i _x0 _x1 x2 x3 x4 x5
  cases h
  have da:=pb da
  have hh:=akb x5 da
  obtain⟨e0,en⟩:=hh
  exact tU rfl (pc en) rfl rfl (by simp only [e0] <;> rfl)
 ·cases h)
def UI:List SV→List Entry→Option Out
 | [.one ⟨true,[.val (.string x0),.ref 0,.ref 1,.ref 2,.val (.string x1),.ref 3]⟩],[.row false 9 (.str) x2,.row false 9 (.str) x3,.row false 9 (.str) x4,.row false 204 (.pair (.str) (.sl 178 (.pair (.int .i64) (.pair (.str) (.int .i64))))) x5]=>some ⟨.one ⟨false,[.ref 4]⟩,[.row false 9 agS x2,.row false 9 agS x3,.row false 9 agS x4,.row false 204 (CTy.pair CTy.str (CTy.sl (178:TypeId) aeH)) x5],[.row true 178 aeH (blL x5)],[WK x5]⟩
 |_,_=>none
def Bi:PF prog:=PF.alt ae6 UI (by
 intro args es o h da;unfold UI at h;split at h
 ·rename_i x0 x1 x2 x3 x4 x5
  cases h
  have da:=pb da
  have hh:=akM x0 x1 x2 x3 x4 x5 da
  obtain⟨e0,en⟩:=hh
  exact tU rfl (pc en) rfl rfl (by simp only [e0] <;> rfl)
 ·cases h)
theorem aob(n:Int)(h0:0≤n)(h1:n≤100000000):tw n= []∧tx n=true:=by
 have w0:IntKind.i64.wrap ((↑(0:Nat):Int) - (↑(0:Nat):Int))=0:=rfl
 have e0:bf n=n:=by simp only [bf,w0];rw [aT (by omega) (by omega)];omega
 refine⟨?_,?_⟩
 ·simp only [tw,e0];cases ltI 0 n <;> rfl
 ·have t0:ltI n 0=false:=Na h0
  have t1:leI (0:Int) (0:Int)=true:=rfl
  have t2:leI (↑(0:Nat):Int) (0:Int)=true:=rfl
  have t3:leI (0:Int) (↑(0:Nat):Int)=true:=rfl
  have t4:leI n 9223372036854775807=true:=cw (by omega)
  have t5:leI (n * (↑(16:Nat):Int)) 281474976710656=true:=cw (by omega)
  have t6: ∀ m:Nat,leI (↑(0:Nat):Int) (m:Int)=true:=fun m=>cw (by omega)
  have t7:(!ltI 0 n||leI 1 n)=true:=by
   cases h:ltI 0 n with
   |false=>rfl
   |true=>have:=agm.1 h;rw [cw (by omega)];rfl
  simp only [tx,xI,e0,t0,t1,t2,t3,t4,t5,t6,t7,allT,Bool.or_true,Bool.not_false,cond_true]
def Hr(l:List (List ByteArray)):Nat:=(l.map List.length).sum
theorem afT(a b:List (List ByteArray)):Hr (a++b)=Hr a + Hr b:=by simp [Hr]
theorem ZZ{l:List (List ByteArray)}{i:Nat}{b:List ByteArray}(hb:l[i]? =some b):Hr (l.take (i + 1))=Hr (l.take i) + b.length∧Hr (l.take (i + 1))≤Hr l:=by
 obtain⟨hi,rfl⟩:=List.getElem?_eq_some_iff.1 hb
 refine⟨?_,?_⟩
 ·rw [List.take_succ_eq_append_getElem hi,afT];simp [Hr]
 ·have h5:=afT (l.take (i + 1)) (l.drop (i + 1))
  rw [List.take_append_drop]at h5
  omega
def cH(b:List ByteArray):(Int)→Nat ⊕ (Int)
 |y2=>(.inr (IntKind.wrap .i64 (y2 + (↑(List.length b):Int))))
def dH(y3:List (List ByteArray))(i:Nat):(Int)→cF
 |y2=>((i:Int),(↑y3.length:Int),y2,y3)
def vq:cF→Int
 |(_,_,y2,_)=>y2
theorem OE(y3:List (List ByteArray))(y2:Int)(hn:y3.length≤9223372036854775807)(h0:y2=0)(hS:Hr y3≤2000000):
  bj.fin ((0:Int),(↑y3.length:Int),y2,y3)=true∧bj.res ((0:Int),(↑y3.length:Int),y2,y3)=((aq (cH) 0 y3 0 y2).1,(dH y3) (aq (cH) 0 y3 0 y2).2.1 (aq (cH) 0 y3 0 y2).2.2):=by
 have jT:=bj.along (dH y3) vq (cH) 0 (fun i a=>a=(Hr (y3.take i):Int)) y3 y2 (by rw [h0];simp [Hr]) (by simp only [bj,dH];omega) (fun i b a hb hI=> ?_) (fun a hI=> ?_)
 ·exact jT
 ·obtain y2:=a
  have fa:=(List.getElem?_eq_some_iff.1 hb).1
  have jS: ∀ d,Option.getD y3[i]? d=b:=fun d=>by rw [hb];rfl
  have hw:=wM fa hn
  have cq:ltI (i:Int) (y3.length:Int)=true:=eQ (by omega)
  have xl:leI (0:Int) (i:Int)=true:=cw (by omega)
  have iU:ltN i y3.length=true:=ib fa
  refine⟨?_,?_,?_,?_⟩
  ·have hg2:fq (i:Int) a y3=(Hr (y3.take (i + 1)):Int):=by
    have h3:=ZZ hb
    simp only [fq,Int.toNat_natCast]
    refine(congrArg (fun z:List ByteArray=>IntKind.i64.wrap (a + (z.length:Int))) (jS _)).trans ?_
    show IntKind.i64.wrap (a + (b.length:Int))=_
    rw [hI,aT (by omega) (by omega)];omega
   have h6:ltI (Hr (y3.take (i + 1)):Int) 0=false:=Na (by omega)
   simp only [bj,lQ,mC,qD,qE,qF,qG,LT.nds,allT,dH,cq,xl,iU,hg2,h6,Int.toNat_natCast,cond_true,Bool.and_self,Bool.not_false]
  ·simp [fq,mC,qD,qE,qF,qG,wa,qH,lQ,bj,LT.each,dH,vq,hw]
  ·simp only [bj,lQ,mC,qH,fq,LT.fn,dH,vq,cH,cq,Int.toNat_natCast,cond_true]
   exact congrArg (fun z:List ByteArray=>(Sum.inr (IntKind.i64.wrap (a + (z.length:Int))):Nat ⊕ Int)) (jS _)
  ·intro a' hf
   have h3:=ZZ hb
   simp only [cH,Sum.inr.injEq]at hf
   rw [← hf,hI,aT (by omega) (by omega)];omega
 ·obtain y2:=a
  simp [fq,mC,qD,qE,qF,qG,wa,qH,lQ,bj,LT.out,dH]
def fU(b:List ByteArray):(List ByteArray)→Nat ⊕ (List ByteArray)
 |y3=>(.inr (y3++(b)))
def dI(y2:List (List ByteArray))(i:Nat):(List ByteArray)→cG
 |y3=>((i:Int),(↑y2.length:Int),y2,y3)
def vr:cG→List ByteArray
 |(_,_,_,y3)=>y3
theorem OG(y2:List (List ByteArray))(y3:List ByteArray)(hn:y2.length≤9223372036854775807)(hS:Hr y2≤2000000)(h3:y3= []):
  bk.fin ((0:Int),(↑y2.length:Int),y2,y3)=true∧bk.res ((0:Int),(↑y2.length:Int),y2,y3)=((aq (fU) 0 y2 0 y3).1,(dI y2) (aq (fU) 0 y2 0 y3).2.1 (aq (fU) 0 y2 0 y3).2.2):=by
 have jT:=bk.along (dI y2) vr (fU) 0 (fun i a=>a.length=Hr (y2.take i)) y2 y3 (by rw [h3];simp [Hr]) (by simp only [bk,dI];omega) (fun i b a hb hI=> ?_) (fun a hI=> ?_)
 ·exact jT
 ·obtain y3:=a
  have fa:=(List.getElem?_eq_some_iff.1 hb).1
  have jS: ∀ d,Option.getD y2[i]? d=b:=fun d=>by rw [hb];rfl
  have hw:=wM fa hn
  have cq:ltI (i:Int) (y2.length:Int)=true:=eQ (by omega)
  have xl:leI (0:Int) (i:Int)=true:=cw (by omega)
  have iU:ltN i y2.length=true:=ib fa
  refine⟨?_,?_,?_,?_⟩
  ·have hg2:dc (i:Int) y2=b:=by simp only [dc,Int.toNat_natCast];exact jS _
   have h3:=ZZ hb
   have h6:leN (a.length + b.length) 9223372036854775807=true:=dx (by omega)
   have h7:leN ((a.length + b.length) * 16) 140737488355328=true:=dx (by omega)
   simp only [bk,lR,mD,qI,qJ,qK,qL,qM,LT.nds,allT,dI,cq,xl,iU,hg2,h6,h7,Int.toNat_natCast,cond_true,Bool.and_self]
  ·simp [dc,mD,qI,qJ,qK,qL,qM,wb,qN,lR,bk,LT.each,dI,vr,hw]
  ·have hg2:dc (i:Int) y2=b:=by simp only [dc,Int.toNat_natCast];exact jS _
   simp only [bk,lR,mD,qN,LT.fn,dI,vr,fU,cq,hg2,cond_true]
  ·intro a' hf
   have h3:=ZZ hb
   simp only [fU,Sum.inr.injEq]at hf
   rw [← hf,List.length_append];omega
 ·obtain y3:=a
  simp [dc,mD,qI,qJ,qK,qL,qM,wb,qN,lR,bk,LT.out,dI]
theorem aj1: ∀ (l:List (List ByteArray)) (acc:List ByteArray),l.foldl (fun a b=>a++b) acc=acc++l.flatten
 | [],acc=>by simp
 |a::r,acc=>by rw [List.foldl_cons,aj1 r];simp
theorem aoM(l:List (List ByteArray))(h:(leN l.length 1000&&leN (Hr l) 2000000)=true):yN l=l.flatten∧yO l=true:=by
 simp only [Bool.and_eq_true,fQ]at h
 obtain⟨w1,w2⟩:=OE l 0 (by omega) rfl h.2
 have hw:(aq cH 0 l 0 (0:Int)).2.2=(Hr l:Int):=by
  have hg: ∀ (r:List (List ByteArray)) (i:Nat) (a:Int),0≤a→a + Hr r≤2000000→(aq cH 0 r i a).2.2=a + Hr r:=by
   intro r
   induction r with
   |nil=>intro i a _ _;simp [aq,Hr]
   |cons x r ih=>
    intro i a h0 h1
    have h3:Hr (x::r)=x.length + Hr r:=by simp [Hr]
    have hf:cH x a= .inr (a + (x.length:Int)):=by
     simp only [cH]
     rw [aT (by omega) (by omega)]
    simp only [aq,hf]
    rw [ih (i + 1) (a + (x.length:Int)) (by omega) (by omega),h3]
    omega
  have:=hg l 0 0 (by omega) (by omega)
  omega
 have ha1:sj l=(Hr l:Int):=by
  simp only [sj,si,w2,dH]
  exact hw
 obtain⟨g1,g2⟩:=aob (Hr l:Int) (by omega) (by omega)
 obtain⟨v1,v2⟩:=OG l [] (by omega) h.2 rfl
 rw [JS (f:=fU) (g:=fun a b=>a++b) (fun b a=>rfl),aj1]at v2
 refine⟨?_,?_⟩
 ·simp only [yN,sk,ha1,g1,v2,dI,List.nil_append]
 ·simp only [yO,sk,ha1,g1,g2,v1,si,w1,allT,cond_true]
def Gi:List SV→List Entry→Option Out
 | [.one ⟨false,[.ref 0]⟩],[.row false 60 (.sl 9 (.str)) x0]=>some ⟨.one ⟨false,[.ref 1]⟩,[.row false 60 (CTy.sl (9:TypeId) CTy.str) x0],[.row true 9 agS (x0.flatten)],[leN x0.length 1000&&leN (Hr x0) 2000000]⟩
 |_,_=>none
def ci:PF prog:=PF.alt PW Gi (by
 intro args es o h da;unfold Gi at h;split at h
 ·rename_i x0
  cases h
  have da:=pb da
  have hh:=aoM x0 da
  obtain⟨e0,en⟩:=hh
  exact tU rfl (pc en) rfl rfl (by simp only [e0] <;> rfl)
 ·cases h)
def ahJ:List ByteArray→Nat
 | []=>0
 |s::r=>s.size + ahJ r
def al5(k:Int)(s:ByteArray):Int:=IntKind.i64.wrap (k - (s.size:Int))
def afP:Int→List ByteArray→Int
 |k,[]=>k
 |k,s::r=>bif ltI (al5 k s) 0 then -1 else afP (al5 k s) r
def Lr(k:Int)(ts:List ByteArray):Int:=bif ltI (k - ts.length) 0 then -1 else afP (k - ts.length) ts
def ql(b:ByteArray):(Int)→Nat ⊕ (Int)
 |y1=>(bif(ltI (IntKind.wrap .i64 (y1 - (↑(ByteArray.size b):Int))) (0:Int))then(.inl 0)else(.inr (IntKind.wrap .i64 (y1 - (↑(ByteArray.size b):Int)))))
def pp(y2:List ByteArray)(i:Nat):(Int)→lJ
 |y1=>((i:Int),y1,y2)
def Jz:lJ→Int
 |(_,y1,_)=>y1
theorem aaR(y2:List ByteArray)(y1:Int)(hn:y2.length≤9223372036854775807):
  dz.fin ((0:Int),y1,y2)=true∧dz.res ((0:Int),y1,y2)=((aq (ql) 1 y2 0 y1).1,(pp y2) (aq (ql) 1 y2 0 y1).2.1 (aq (ql) 1 y2 0 y1).2.2):=by
 have jT:=dz.along (pp y2) Jz (ql) 1 (fun _ _=>True) y2 y1 (by trivial) (by simp only [dz,pp];omega) (fun i b a hb hI=> ?_) (fun a hI=> ?_)
 ·exact jT
 ·obtain y1:=a
  have fa:=(List.getElem?_eq_some_iff.1 hb).1
  have jS: ∀ d,Option.getD y2[i]? d=b:=fun d=>by rw [hb];rfl
  have hw:=wM fa hn
  have cq:ltI (i:Int) (y2.length:Int)=true:=eQ (by omega)
  have xl:leI (0:Int) (i:Int)=true:=cw (by omega)
  have iU:ltN i y2.length=true:=ib fa
  refine⟨?_,?_,?_,?_⟩
  ·simp [uS,wq,Ap,Aq,Ar,sZ,As,At,yF,dz,LT.nds,allT,pp,cq,xl,iU,jS]
  ·simp [uS,wq,Ap,Aq,Ar,sZ,As,At,yF,dz,LT.each,pp,Jz,hw]
  ·simp only [uS,wq,Ap,Aq,Ar,sZ,As,At,yF,dz,LT.fn,pp,Jz,ql,Int.toNat_natCast,cq,xl,iU,jS,cond_true,Bool.cond_self]
  ·exact fun _ _=>trivial
 ·obtain y1:=a
  simp [uS,wq,Ap,Aq,Ar,sZ,As,At,yF,dz,LT.out,pp]
theorem akX: ∀ (r:List ByteArray) (i:Nat) (k:Int),(bif Nat.beq (aq ql 1 r i k).1 0 then -1 else(aq ql 1 r i k).2.2)=afP k r
 | [],i,k=>rfl
 |t::r,i,k=>by
  have hf:ql t k=bif ltI (al5 k t) 0 then .inl 0 else .inr (al5 k t):=rfl
  simp only [aq,hf,afP]
  cases h:ltI (al5 k t) 0 with
  |true=>rfl
  |false=>simp only [cond_false];exact akX r (i + 1) _
theorem ao2(k:Int)(xs:List ByteArray)(h:(leN xs.length 9223372036854775807&&(leI (-1) k&&leI k 1048576))=true):Pb k xs=Lr k xs∧Pc k xs=true:=by
 simp only [Bool.and_eq_true,fQ,Ee]at h
 have hw:IntKind.i64.wrap (k - (xs.length:Int))=k - (xs.length:Int):=aT (by omega) (by omega)
 obtain⟨w1,w2⟩:=aaR xs (k - (xs.length:Int)) h.1
 have hs:=akX xs 0 (k - (xs.length:Int))
 have e:sZ= -1:=rfl
 simp only [Pb,Pc,It,Iu,hw,w1,w2,pp,allT,Bool.or_true,cond_true,Lr,e,hs,and_self]
theorem afQ: ∀ (r:List ByteArray) (k:Int),(∀ t∈r,t.size≤9223372036854775807)→0≤k→k≤1048576→ltI (afP k r) 0=false→afP k r=k - ahJ r∧(ahJ r:Int)≤k
 | [],k,_,h0,h1,_=>by simp [afP,ahJ];omega
 |t::r,k,hs,h0,h1,h=>by
  have hz:=hs t (by simp)
  have ht:al5 k t=k - (t.size:Int):=by rw [al5];exact aT (by omega) (by omega)
  simp only [afP]at h ⊢
  rw [ht]at h ⊢
  cases h2:ltI (k - (t.size:Int)) 0 with
  |true=>rw [h2]at h;exact absurd (show ltI (-1) 0=false from h) (by decide)
  |false=>
   have h3:=zM.1 h2
   rw [h2,cond_false]at h
   obtain⟨q1,q2⟩:=afQ r _ (fun t ht=>hs t (by simp [ht])) h3 (by omega) h
   rw [cond_false,q1]
   simp only [ahJ]
   omega
theorem adb{k:Int}{xs:List ByteArray}(hs: ∀ t∈xs,t.size≤9223372036854775807)(hk:k≤1048576)(h:ltI (Lr k xs) 0=false):Lr k xs=k - xs.length - ahJ xs∧(xs.length:Int) + ahJ xs≤k:=by
 simp only [Lr]at h ⊢
 cases h2:ltI (k - (xs.length:Int)) 0 with
 |true=>rw [h2]at h;simp at h
 |false=>
  have h3:=zM.1 h2
  rw [h2,cond_false]at h
  obtain⟨q1,q2⟩:=afQ xs _ hs h3 (by omega) h
  rw [cond_false,q1]
  omega
def UG:List SV→List Entry→Option Out
 | [.one ⟨false,[.ref 0]⟩,.one ⟨false,[.val (.int .i64 x0)]⟩],[.row false 9 (.str) x1]=>some ⟨.one ⟨false,[.val (.int .i64 (Lr x0 x1))]⟩,[.row false 9 agS x1],[],[leN x1.length 9223372036854775807&&(leI (-1) x0&&leI x0 1048576)]⟩
 |_,_=>none
def Pj:PF prog:=PF.alt ae3 UG (by
 intro args es o h da;unfold UG at h;split at h
 ·rename_i x0 x1
  cases h
  have da:=pb da
  have hh:=ao2 x0 x1 da
  obtain⟨e0,en⟩:=hh
  exact tU rfl (pc en) (by simp only [e0] <;> rfl) rfl rfl
 ·cases h)
def adC(xs ys:List ByteArray):Bool:=decide (xs=ys)
theorem amH(xs:List ByteArray):adC xs xs=true:=by simp [adC]
def sV(y1:List ByteArray)(b:Nat):(List ByteArray)→Nat ⊕ (List ByteArray)
 |y2=>(.inr (List.set y2 b (Option.getD y1[b]? ByteArray.empty)))
def pq(y1:List ByteArray)(i:Nat):(List ByteArray)→lK
 |y2=>((i:Int),y1,y2)
def JA:lK→List ByteArray
 |(_,_,y2)=>y2
theorem aaS(y1 y2:List ByteArray)(hn:y1.length≤9223372036854775807)(hl:y2.length=y1.length):
  fl.fin ((0:Int),y1,y2)=true∧fl.res ((0:Int),y1,y2)=((aq (sV y1) 0 (List.range y1.length) 0 y2).1,(pq y1) (aq (sV y1) 0 (List.range y1.length) 0 y2).2.1 (aq (sV y1) 0 (List.range y1.length) 0 y2).2.2):=by
 have jT:=fl.along (pq y1) JA (sV y1) 0 (fun _ a=>a.length=y1.length) (List.range y1.length) y2 hl (by simp only [fl,pq,List.length_range];omega) (fun i b a hb hI=> ?_) (fun a hI=> ?_)
 ·exact jT
 ·obtain y2:=a
  obtain⟨rfl,fa⟩:=oJ hb
  have hw:IntKind.i64.wrap ((b:Int) + 1)=((b + 1:Nat):Int):=by rw [aT (by omega) (by omega)];omega
  have cq:ltI (b:Int) (y1.length:Int)=true:=eQ (by omega)
  have xl:leI (0:Int) (b:Int)=true:=cw (by omega)
  have iU:ltN b y1.length=true:=ib (by omega)
  refine⟨?_,?_,?_,?_⟩
  ·simp [ws,wu,Au,Av,Aw,Ax,Ay,yG,fl,LT.nds,allT,pq,cq,xl,iU,hI]
  ·simp [ws,wu,Au,Av,Aw,Ax,Ay,yG,fl,LT.each,pq,JA,hw,hI]
  ·simp only [ws,wu,Au,Av,Aw,Ax,Ay,yG,fl,LT.fn,pq,JA,sV,Int.toNat_natCast,cq,cond_true]
  ·intro a' hf;simp only [sV,Sum.inr.injEq]at hf;subst hf;simpa using hI
 ·obtain y2:=a
  simp [ws,wu,Au,Av,Aw,Ax,Ay,yG,fl,LT.out,pq,List.length_range]
def wl(y1 y2:List ByteArray)(b:Nat):(Unit)→Nat ⊕ (Unit)
 |_=>(bif(!ByteArray.toList (Option.getD y1[b]? ByteArray.empty)==ByteArray.toList (Option.getD y2[b]? ByteArray.empty))then(.inl 0)else(.inr ()))
def rM(y1 y2:List ByteArray)(i:Nat):(Unit)→lH
 |_=>((i:Int),y1,y2)
def Jv:lH→Unit
 |(_,_,_)=>()
theorem aaP(y1 y2:List ByteArray) (hn:y1.length≤9223372036854775807) (he:y2.length=y1.length):
  eq.fin ((0:Int),y1,y2)=true∧eq.res ((0:Int),y1,y2)=((aq (wl y1 y2) 1 (List.range y1.length) 0 ()).1,(rM y1 y2) (aq (wl y1 y2) 1 (List.range y1.length) 0 ()).2.1 (aq (wl y1 y2) 1 (List.range y1.length) 0 ()).2.2):=by
 have jT:=eq.along (rM y1 y2) Jv (wl y1 y2) 1 (fun _ _=>True) (List.range y1.length) () (by trivial) (by simp only [eq,rM,List.length_range];omega) (fun i b a hb hI=> ?_) (fun a hI=> ?_)
 ·exact jT
 ·obtain⟨⟩:=a
  obtain⟨rfl,fa⟩:=oJ hb
  have hw:IntKind.i64.wrap ((b:Int) + 1)=((b + 1:Nat):Int):=by rw [aT (by omega) (by omega)];omega
  have cq:ltI (b:Int) (y1.length:Int)=true:=eQ (by omega)
  have xl:leI (0:Int) (b:Int)=true:=cw (by omega)
  have iU:ltN b y1.length=true:=ib (by omega)
  refine⟨?_,?_,?_,?_⟩
  ·simp [wm,wn,Aa,Ab,Ac,Ad,Ae,yC,eq,LT.nds,allT,rM,cq,xl,iU,he]
  ·simp [wm,wn,Aa,Ab,Ac,Ad,Ae,yC,eq,LT.each,rM,Jv,hw,he]
  ·simp only [wm,wn,Aa,Ab,Ac,Ad,Ae,yC,eq,LT.fn,rM,Jv,wl,Int.toNat_natCast,cq,cond_true]
  ·exact fun _ _=>trivial
 ·obtain⟨⟩:=a
  simp [wm,wn,Aa,Ab,Ac,Ad,Ae,yC,eq,LT.out,rM,List.length_range]
theorem ajF(xs:List ByteArray)(hn:leN xs.length 1048576=true):Kf xs=xs∧Kg xs=true:=by
 have hn:=fQ.1 hn
 have hr:(List.replicate (Int.toNat (xs.length:Int)) (⟨#[]⟩:ByteArray)).length=xs.length:=by simp
 obtain⟨w1,w2⟩:=aaS xs (List.replicate (Int.toNat (xs.length:Int)) (⟨#[]⟩:ByteArray)) (by omega) hr
 have hc:=Vk (xs:=xs) (d:=ByteArray.empty) (g:=fun x=>x) (f:=sV xs) (e:=0) (fun b a=>rfl) hr
 rw [hc]at w2
 refine⟨?_,?_⟩
 ·simp only [Ix,Kf,Kg,w2,pq];simp
 ·simp only [Ix,Kf,Kg,w1,allT];simp;omega
def UH:List SV→List Entry→Option Out
 | [.one ⟨false,[.ref 0]⟩],[.row false 9 (.str) x0]=>some ⟨.one ⟨false,[.ref 1]⟩,[.row false 9 agS x0],[.row true 9 agS x0],[leN x0.length 1048576]⟩
 |_,_=>none
def Pk:PF prog:=PF.alt ae4 UH (by
 intro args es o h da;unfold UH at h;split at h
 ·rename_i x0
  cases h
  have da:=pb da
  have hh:=ajF x0 da
  obtain⟨e0,en⟩:=hh
  exact tU rfl (pc en) rfl rfl (by simp only [e0] <;> rfl)
 ·cases h)
theorem ai7(xs ys:List ByteArray)(hn:leN xs.length 9223372036854775807=true):Ka xs ys=adC xs ys∧Kb xs ys=true:=by
 have hn:=fQ.1 hn
 unfold adC
 have h3: ∀ a b:ByteArray,(!(a.toList==b.toList))= !decide (a=b):=fun a b=>by
  by_cases h:a=b <;> simp [h,ajQ]
 by_cases hl:ys.length=xs.length
 ·obtain⟨w1,w2⟩:=aaP xs ys hn hl
  have ha:=aiW (d:=ByteArray.empty) hl (P:=fun b=> !decide (Option.getD xs[b]? ByteArray.empty=Option.getD ys[b]? ByteArray.empty)) (fun b=>rfl)
  rw [iS (P:=fun b=> !decide (Option.getD xs[b]? ByteArray.empty=Option.getD ys[b]? ByteArray.empty)) (j:=0) (fun b=>by simp only [wl,h3]),ha]at w2
  simp only [Ih,Ii,Ka,Kb,w1,w2,allT]
  by_cases he:xs=ys
  ·subst he;simp;decide
  ·simp [he,hl]
 ·have PT:xs≠ys:=fun h=>hl (by rw [h])
  simp [Ih,Ii,Ka,Kb,allT,PT]
  omega
def UE:List SV→List Entry→Option Out
 | [.one ⟨false,[.ref 0]⟩,.one ⟨false,[.ref 1]⟩],[.row false 9 (.str) x0,.row false 9 (.str) x1]=>some ⟨.one ⟨false,[.val (.bool (adC x0 x1))]⟩,[.row false 9 agS x0,.row false 9 agS x1],[],[leN x0.length 9223372036854775807]⟩
 |_,_=>none
def Ph:PF prog:=PF.alt ae1 UE (by
 intro args es o h da;unfold UE at h;split at h
 ·rename_i x0 x1
  cases h
  have da:=pb da
  have hh:=ai7 x0 x1 da
  obtain⟨e0,en⟩:=hh
  exact tU rfl (pc en) (by simp only [e0] <;> rfl) rfl rfl
 ·cases h)
section
variable (x0:ByteArray)(x1:Int)(x2:List (Int×ByteArray×Int))
def yB:Int:=IntKind.wrap .i64 (x1 - (↑(ByteArray.size x0):Int))
def Hw:Int:=bif ltI (yB x0 x1) (0:Int)then(-1:Int)else bif ltI (ajE (yB x0 x1) x2) (0:Int)then(-1:Int)else ajE (yB x0 x1) x2
def PG:Bool:=allT [ltI (yB x0 x1) (0:Int)||leN x2.length (9223372036854775807:Nat)&&(leI (-1:Int) (yB x0 x1)&&leI (yB x0 x1) (1048576:Int))]
end
def aa3:List SV→List Entry→Option Out
 | [.one ⟨true,[.val (.string x0),.ref 0]⟩,.one ⟨false,[.val (.int .i64 x1)]⟩],[.row false 175 (.pair (.int .i64) (.pair (.str) (.int .i64))) x2]=>some ⟨.one ⟨false,[.val (.int .i64 (Hw x0 x1 x2))]⟩,[.row false 175 aeH x2],[],[PG x0 x1 x2]⟩
 |_,_=>none
def Hz:PF prog:=PF.ofG prog [Se,PF.lend Se,PF.fz Se] [] aQ 200 f200 func200 (fun c _=>LOk.nil c) aa3 (by
 intro vs es r h;unfold aa3 at h;split at h
 ·cases h;kernel_rfl
 ·cases h)
abbrev oO:=Int×Int×List (ByteArray×(List (Int×(ByteArray×Int))))
def mZ(y0:Int)(y2:List (ByteArray×(List (Int×(ByteArray×Int))))):ByteArray×List (Int×ByteArray×Int):=Option.getD y2[Int.toNat y0]? (xt (CTy.pair CTy.str (CTy.sl (175:Nat) aeH)))
def BI(y0 y1:Int)(y2:List (ByteArray×(List (Int×(ByteArray×Int))))):Int:=Hw ((mZ y0 y2).1) y1 ((mZ y0 y2).2)
def zE(y0:Int)(y2:List (ByteArray×(List (Int×(ByteArray×Int))))):Bool:=ltI y0 (↑y2.length:Int)
def Ip(y0:Int):Bool:=leI (0:Int) y0
def Iq(y0:Int)(y2:List (ByteArray×(List (Int×(ByteArray×Int))))):Bool:=ltN y0.toNat y2.length
def DK(y0 y1:Int)(y2:List (ByteArray×(List (Int×(ByteArray×Int))))):Bool:=PG ((mZ y0 y2).1) y1 ((mZ y0 y2).2)
def DL(y0 y1:Int)(y2:List (ByteArray×(List (Int×(ByteArray×Int))))):Bool:=ltI (BI y0 y1 y2) (0:Int)
def DM:Int:=(-1:Int)
def NQ(y0:Int):Int:=IntKind.wrap .i64 (y0 + (1:Int))
def Ir(y0 y1:Int)(y2:List (ByteArray×(List (Int×(ByteArray×Int))))):Int:=BI y0 y1 y2
def abL:oO→List (Nat×SV)
 |(y0,y1,_)=> [(5,(.one ⟨false,[.val (.int .i64 y0)]⟩)),(0,(.one ⟨false,[.ref 0]⟩)),(1,(.one ⟨false,[.val (.int .i64 y1)]⟩))]
def abB:oO→List (Nat×Entry)
 |(_,_,y2)=> [(0,(.row false 225 (CTy.pair CTy.str (CTy.sl (175:Nat) aeH)) y2))]
def ab5:Nat→oO→List (Nat×SV)
 |0,(_,_,_)=> [(4,(.one ⟨false,[.val (.int .i64 (DM))]⟩))]
 |_,(_,y1,_)=> [(1,(.one ⟨false,[.val (.int .i64 y1)]⟩))]
def abV:Nat→oO→List (Nat×Entry)
 |0,(_,_,y2)=> [(0,(.row false 225 (CTy.pair CTy.str (CTy.sl (175:Nat) aeH)) y2))]
 |_,(_,_,y2)=> [(0,(.row false 225 (CTy.pair CTy.str (CTy.sl (175:Nat) aeH)) y2))]
def BT:oO→LT oO
 |(y0,y1,y2)=> .ite (zE y0 y2) (.need [Ip y0,zE y0 y2,Iq y0 y2,DK y0 y1 y2] (.ite (DL y0 y1 y2) (.ext 0 [(0,0)]) (.nrm ((NQ y0),Ir y0 y1 y2,y2) [(0,0)]))) (.ext 1 [(0,0)])
def Mt(s:St):Option oO:=
 (match s.look 5 with
 |some ⟨none,.one ⟨false,[.val (.int .i64 y0)]⟩⟩=>
 (match s.look 0 with
 |some ⟨none,.one ⟨false,[.ref 0]⟩⟩=>
 (match s.look 1 with
 |some ⟨none,.one ⟨false,[.val (.int .i64 y1)]⟩⟩=>
 (match s.ent 0 with
 |some (.row false 225 (.pair .str (.sl (175:Nat) (.pair (.int .i64) (.pair .str (.int .i64))))) y2)=>
 some (y0,y1,y2)
 |_=>none)
 |_=>none)
 |_=>none)
 |_=>none)
def eS:Lp oO where
 h:=⟨[12,13,14,15,18,19,20,21,22,23,1,24,25,4,16,17,5],[0],[],[]⟩
 JL:=abL
 JE:=abB
 XL:=ab5
 XE:=abV
 q:=fun j=>match j with | 0=> .ret | _=> .exit 0
 tags:= [0,1]
 lt:=BT
 fuel:=fun(y0,y1,y2)=>y0.natAbs + y1.natAbs + y2.length
 fix:=fun(_,_,y2) (y0,y1,_)=>(y0,y1,y2)
 σ:= [(0,0)]
 rd:=Mt
theorem Zj:LoopOk prog (fun k=>Nat.blt k Tryz.f130.ntmps) eS.F (aS f130 0):=by
 refine Lp.ok (tbl:= [Hz,PF.lend Hz,PF.fz Hz]) (lf:= []) aQ eS (by kernel_rfl) (LOk.nil _) (fun _=>rfl) (fun j _=>by unfold eS;match j with | 0=>rfl | _ + 1=>rfl) ?_ ?_ ?_ ?_ (fun _=>rfl) ?_
 ·rintro⟨y0,y1,y2⟩;kernel_rfl
 ·rintro⟨y0,y1,y2⟩;kernel_rfl
 ·intro s x h
  have h:Mt s=some x:=h
  unfold Mt at h
  repeat' split at h
  all_goals cases h
  exact⟨aa (by assumption) rfl (aa (by assumption) rfl (aa (by assumption) rfl (rfl))),ab rfl (by assumption) rfl (rfl)⟩
 ·rintro⟨y0,y1,y2⟩;kernel_rfl
 ·rintro⟨y0,y1,y2⟩ z;exact(And.intro (And.intro trivial rfl) trivial)
section
variable (x0:Int)(x1:List (ByteArray×List (Int×ByteArray×Int)))
def Hk:Int:=IntKind.wrap .i64 (x0 - (↑x1.length:Int))
def LC:Int×Int×List (ByteArray×List (Int×ByteArray×Int)):=((0:Int),Hk x0 x1,x1)
def FE:Int:=bif ltI (Hk x0 x1) (0:Int)then(-1:Int)else bif Nat.beq ((Lp.res eS (LC x0 x1)).1) (0:Nat)then DM else ((Lp.res eS (LC x0 x1)).2.2).1
def Jn:Bool:=allT [ltI (Hk x0 x1) (0:Int)||Lp.fin eS (LC x0 x1)]
end
def XH:List SV→List Entry→Option Out
 | [.one ⟨false,[.ref 0]⟩,.one ⟨false,[.val (.int .i64 x0)]⟩],[.row false 225 (.pair (.str) (.sl 175 (.pair (.int .i64) (.pair (.str) (.int .i64))))) x1]=>some ⟨.one ⟨false,[.val (.int .i64 (FE x0 x1))]⟩,[.row false 225 (CTy.pair CTy.str (CTy.sl (175:TypeId) aeH)) x1],[],[Jn x0 x1]⟩
 |_,_=>none
def Sj:PF prog:=PF.ofG prog [Hz,PF.lend Hz,PF.fz Hz] [eS.F] aQ 130 f130 func130 (LOk.fnT (l:= [aS f130 0]) (by kernel_rfl) (.cons Zj (.nil _))) XH (by
 intro vs es r h;unfold XH at h;split at h
 ·cases h;kernel_rfl
 ·cases h)
section
variable (x0 x1:ByteArray)(x2:Int)(x3 x4 x5:List ByteArray)(x6:List (ByteArray×List (Int×ByteArray×Int)))
def cY:Int:=IntKind.wrap .i64 (x2 - (↑(ByteArray.size x0):Int))
def DN:Bool:=ltI (Lr (Lr (cY x0 x2) x3) x4) (0:Int)
def Is:Bool:=ltI (Lr (Lr (Lr (cY x0 x2) x3) x4) x5) (0:Int)
def zF:Int:=IntKind.wrap .i64 (Lr (Lr (Lr (cY x0 x2) x3) x4) x5 - (↑(ByteArray.size x1):Int))
def DO:Bool:=ltI (zF x0 x1 x2 x3 x4 x5) (0:Int)
def iu:Int:=bif ltI (cY x0 x2) (0:Int)then(-1:Int)else bif ltI (Lr (cY x0 x2) x3) (0:Int)then(-1:Int)else bif DN x0 x2 x3 x4 then(-1:Int)else bif Is x0 x2 x3 x4 x5 then(-1:Int)else bif DO x0 x1 x2 x3 x4 x5 then(-1:Int)else bif ltI (FE (zF x0 x1 x2 x3 x4 x5) x6) (0:Int)then(-1:Int)else FE (zF x0 x1 x2 x3 x4 x5) x6
def rZ:Bool:=allT [ltI (cY x0 x2) (0:Int)||leN x3.length (9223372036854775807:Nat)&&(leI (-1:Int) (cY x0 x2)&&leI (cY x0 x2) (1048576:Int)),ltI (cY x0 x2) (0:Int)||(ltI (Lr (cY x0 x2) x3) (0:Int)||leN x4.length (9223372036854775807:Nat)&&(leI (-1:Int) (Lr (cY x0 x2) x3)&&leI (Lr (cY x0 x2) x3) (1048576:Int))),ltI (cY x0 x2) (0:Int)||(ltI (Lr (cY x0 x2) x3) (0:Int)||(DN x0 x2 x3 x4||leN x5.length (9223372036854775807:Nat)&&(leI (-1:Int) (Lr (Lr (cY x0 x2) x3) x4)&&leI (Lr (Lr (cY x0 x2) x3) x4) (1048576:Int)))),ltI (cY x0 x2) (0:Int)||(ltI (Lr (cY x0 x2) x3) (0:Int)||(DN x0 x2 x3 x4||(Is x0 x2 x3 x4 x5||(DO x0 x1 x2 x3 x4 x5||Jn (zF x0 x1 x2 x3 x4 x5) x6))))]
end
def Us:List SV→List Entry→Option Out
 | [.one ⟨true,[.val (.string x0),.ref 0,.ref 1,.ref 2,.val (.string x1),.ref 3]⟩,.one ⟨false,[.val (.int .i64 x2)]⟩],[.row false 9 (.str) x3,.row false 9 (.str) x4,.row false 9 (.str) x5,.row false 225 (.pair (.str) (.sl 175 (.pair (.int .i64) (.pair (.str) (.int .i64))))) x6]=>some ⟨.one ⟨false,[.val (.int .i64 (iu x0 x1 x2 x3 x4 x5 x6))]⟩,[.row false 9 agS x3,.row false 9 agS x4,.row false 9 agS x5,.row false 225 (CTy.pair CTy.str (CTy.sl (175:TypeId) aeH)) x6],[],[rZ x0 x1 x2 x3 x4 x5 x6]⟩
 |_,_=>none
def Po:PF prog:=PF.ofG prog [Pj,PF.lend Pj,PF.fz Pj,Sj,PF.lend Sj,PF.fz Sj] [] aQ 58 f58 func58 (fun c _=>LOk.nil c) Us (by
 intro vs es r h;unfold Us at h;split at h
 ·cases h;kernel_rfl
 ·cases h)
def Ua(x1:List (Int×ByteArray×Int)):Bool:=allT [leN x1.length (1048576:Nat)]
def aa5:List SV→List Entry→Option Out
 | [.one ⟨true,[.val (.string x0),.ref 0]⟩],[.row false 175 (.pair (.int .i64) (.pair (.str) (.int .i64))) x1]=>some ⟨.one ⟨true,[.val (.string x0),.ref 1]⟩,[.row false 175 aeH x1],[.row true 178 aeH x1],[Ua x1]⟩
 |_,_=>none
def HA:PF prog:=PF.ofG prog [Sf,PF.lend Sf,PF.fz Sf] [] aQ 201 f201 func201 (fun c _=>LOk.nil c) aa5 (by
 intro vs es r h;unfold aa5 at h;split at h
 ·cases h;kernel_rfl
 ·cases h)
abbrev oQ:=Int×List (ByteArray×(List (Int×(ByteArray×Int))))×List (ByteArray×(List (Int×(ByteArray×Int))))
def tZ(y0:Int)(y1:List (ByteArray×(List (Int×(ByteArray×Int))))):ByteArray×List (Int×ByteArray×Int):=Option.getD y1[Int.toNat y0]? (xt (CTy.pair CTy.str (CTy.sl (175:Nat) aeH)))
def zH(y0:Int)(y1:List (ByteArray×(List (Int×(ByteArray×Int))))):Bool:=ltI y0 (↑y1.length:Int)
def zI(y0:Int):Bool:=leI (0:Int) y0
def DW(y0:Int)(y1:List (ByteArray×(List (Int×(ByteArray×Int))))):Bool:=ltN y0.toNat y1.length
def zJ(y0:Int)(y1:List (ByteArray×(List (Int×(ByteArray×Int))))):Bool:=Ua ((tZ y0 y1).2)
def DX(y0:Int)(y2:List (ByteArray×(List (Int×(ByteArray×Int))))):Bool:=ltI y0 (↑y2.length:Int)
def DY(y0:Int)(y2:List (ByteArray×(List (Int×(ByteArray×Int))))):Bool:=ltN y0.toNat y2.length
def Iv(y0:Int):Int:=IntKind.wrap .i64 (y0 + (1:Int))
def Iw(y0:Int)(y1 y2:List (ByteArray×(List (Int×(ByteArray×Int))))):List (ByteArray×(List (Int×(ByteArray×Int)))):=List.set y2 y0.toNat ((tZ y0 y1).1,(tZ y0 y1).2)
def abN:oQ→List (Nat×SV)
 |(y0,_,_)=> [(4,(.one ⟨false,[.val (.int .i64 y0)]⟩)),(0,(.one ⟨false,[.ref 0]⟩)),(3,(.one ⟨false,[.ref 1]⟩))]
def abD:oQ→List (Nat×Entry)
 |(_,y1,y2)=> [(0,(.row false 225 (CTy.pair CTy.str (CTy.sl (175:Nat) aeH)) y1)),(1,(.tree 204 (CTy.pair CTy.str (CTy.sl (178:Nat) aeH)) y2 none))]
def ab7:Nat→oQ→List (Nat×SV)
 |_,(_,_,_)=> []
def abX:Nat→oQ→List (Nat×Entry)
 |_,(_,y1,y2)=> [(0,(.row false 225 (CTy.pair CTy.str (CTy.sl (175:Nat) aeH)) y1)),(1,(.tree 204 (CTy.pair CTy.str (CTy.sl (178:Nat) aeH)) y2 none))]
def BV:oQ→LT oQ
 |(y0,y1,y2)=> .ite (zH y0 y1) (.need [zI y0,zH y0 y1,DW y0 y1,zJ y0 y1,zI y0,DX y0 y2,DY y0 y2] (.nrm ((Iv y0),y1,(Iw y0 y1 y2)) [(0,0),(1,1)])) (.ext 0 [(0,0),(1,1)])
def Mv(s:St):Option oQ:=
 (match s.look 4 with
 |some ⟨none,.one ⟨false,[.val (.int .i64 y0)]⟩⟩=>
 (match s.look 0 with
 |some ⟨none,.one ⟨false,[.ref 0]⟩⟩=>
 (match s.look 3 with
 |some ⟨none,.one ⟨false,[.ref 320]⟩⟩=>
 (match s.ent 0 with
 |some (.row false 225 (.pair .str (.sl (175:Nat) (.pair (.int .i64) (.pair .str (.int .i64))))) y1)=>
 (match s.ent 320 with
 |some (.tree 204 (.pair .str (.sl (178:Nat) (.pair (.int .i64) (.pair .str (.int .i64))))) y2 none)=>
 some (y0,y1,y2)
 |_=>none)
 |_=>none)
 |_=>none)
 |_=>none)
 |_=>none)
def iv:Lp oQ where
 h:=⟨[8,9,10,11,14,15,16,17,18,19,20,21,12,13,4],[0,1],[],[]⟩
 JL:=abN
 JE:=abD
 XL:=ab7
 XE:=abX
 q:=fun j=>match j with | _=> .exit 0
 tags:= [0]
 lt:=BV
 fuel:=fun(y0,y1,y2)=>y0.natAbs + y1.length + y2.length
 fix:=fun(_,y1,_) (y0,_,y2)=>(y0,y1,y2)
 σ:= [(0,0),(1,320)]
 rd:=Mv
theorem Zl:LoopOk prog (fun k=>Nat.blt k Tryz.f132.ntmps) iv.F (aS f132 0):=by
 refine Lp.ok (tbl:= [PF.trees prog,HA,PF.lend HA,PF.fz HA]) (lf:= []) aQ iv (by kernel_rfl) (LOk.nil _) (fun _=>rfl) (fun _ _=>rfl) ?_ ?_ ?_ ?_ (fun _=>rfl) ?_
 ·rintro⟨y0,y1,y2⟩;kernel_rfl
 ·rintro⟨y0,y1,y2⟩;kernel_rfl
 ·intro s x h
  have h:Mv s=some x:=h
  unfold Mv at h
  repeat' split at h
  all_goals cases h
  exact⟨aa (by assumption) rfl (aa (by assumption) rfl (aa (by assumption) rfl (rfl))),ab rfl (by assumption) rfl (ab rfl (by assumption) rfl (rfl))⟩
 ·rintro⟨y0,y1,y2⟩;kernel_rfl
 ·rintro⟨y0,y1,y2⟩ z;exact(And.intro rfl trivial)
def wJ(x0:List (ByteArray×List (Int×ByteArray×Int))):Int:=(↑x0.length:Int)
def LI(x0:List (ByteArray×List (Int×ByteArray×Int))):Int×List (ByteArray×List (Int×ByteArray×Int))×List (ByteArray×List (Int×ByteArray×Int)):=
 ((0:Int),x0,List.replicate (Int.toNat (wJ x0)) ({ data:= #[] },[]))
def Jo(x0:List (ByteArray×List (Int×ByteArray×Int))):List (ByteArray×(List (Int×(ByteArray×Int)))):=(Lp.res iv (LI x0)).2.2.2
def NR(x0:List (ByteArray×List (Int×ByteArray×Int))):Bool:=allT [leI (0:Int) (wJ x0),leI (wJ x0) (wJ x0),leI ((↑(40:Nat):Int) * wJ x0) (281474976710656:Int),leI (wJ x0) (9223372036854775807:Int),Lp.fin iv (LI x0)]
def XJ:List SV→List Entry→Option Out
 | [.one ⟨false,[.ref 0]⟩],[.row false 225 (.pair (.str) (.sl 175 (.pair (.int .i64) (.pair (.str) (.int .i64))))) x0]=>some ⟨.one ⟨false,[.ref 1]⟩,[.row false 225 (CTy.pair CTy.str (CTy.sl (175:TypeId) aeH)) x0],[.tree 204 (CTy.pair CTy.str (CTy.sl (178:Nat) aeH)) (Jo x0) none],[NR x0]⟩
 |_,_=>none
def Sk:PF prog:=PF.ofG prog [PF.trees prog,HA,PF.lend HA,PF.fz HA] [iv.F] aQ 132 f132 func132 (LOk.fnT (l:= [aS f132 0]) (by kernel_rfl) (.cons Zl (.nil _))) XJ (by
 intro vs es r h;unfold XJ at h;split at h
 ·cases h;kernel_rfl
 ·cases h)
def aX(x5:List (ByteArray×List (Int×ByteArray×Int))):List (ByteArray×(List (Int×(ByteArray×Int)))):=Jo x5
def Bf(x2 x3 x4:List ByteArray)(x5:List (ByteArray×List (Int×ByteArray×Int))):Bool:=allT [leN x2.length (1048576:Nat),leN x3.length (1048576:Nat),leN x4.length (1048576:Nat),NR x5]
def Uu:List SV→List Entry→Option Out
 | [.one ⟨true,[.val (.string x0),.ref 0,.ref 1,.ref 2,.val (.string x1),.ref 3]⟩],[.row false 9 (.str) x2,.row false 9 (.str) x3,.row false 9 (.str) x4,.row false 225 (.pair (.str) (.sl 175 (.pair (.int .i64) (.pair (.str) (.int .i64))))) x5]=>some ⟨.one ⟨true,[.val (.string x0),.ref 4,.ref 5,.ref 6,.val (.string x1),.ref 7]⟩,[.row false 9 agS x2,.row false 9 agS x3,.row false 9 agS x4,.row false 225 (CTy.pair CTy.str (CTy.sl (175:TypeId) aeH)) x5],[.row true 9 agS x2,.row true 9 agS x3,.row true 9 agS x4,.tree 204 (CTy.pair CTy.str (CTy.sl (178:Nat) aeH)) (aX x5) none],[Bf x2 x3 x4 x5]⟩
 |_,_=>none
def Pp:PF prog:=PF.ofG prog [PF.trees prog,Pk,PF.lend Pk,PF.fz Pk,Sk,PF.lend Sk,PF.fz Sk] [] aQ 59 f59 func59 (fun c _=>LOk.nil c) Uu (by
 intro vs es r h;unfold Uu at h;split at h
 ·cases h;kernel_rfl
 ·cases h)
section
variable (x0 x1:ByteArray)(x2 x3:List (Int×ByteArray×Int))
def RN:Bool:= !ByteArray.toList x0==ByteArray.toList x1
def Lj:Bool:=bif RN x0 x1 then false else bif !amI x2 x3 then false else true
def TZ:Bool:=allT [RN x0 x1||leN x2.length (9223372036854775807:Nat)]
end
def aa1:List SV→List Entry→Option Out
 | [.one ⟨true,[.val (.string x0),.ref 0]⟩,.one ⟨true,[.val (.string x1),.ref 1]⟩],[.row false 178 (.pair (.int .i64) (.pair (.str) (.int .i64))) x2,.row false 178 (.pair (.int .i64) (.pair (.str) (.int .i64))) x3]=>some ⟨.one ⟨false,[.val (.bool (Lj x0 x1 x2 x3))]⟩,[.row false 178 aeH x2,.row false 178 aeH x3],[],[TZ x0 x1 x2]⟩
 |_,_=>none
def Hy:PF prog:=PF.ofG prog [Sd,PF.lend Sd,PF.fz Sd] [] aQ 202 f202 func202 (fun c _=>LOk.nil c) aa1 (by
 intro vs es r h;unfold aa1 at h;split at h
 ·cases h;kernel_rfl
 ·cases h)
abbrev oM:=Int×List (ByteArray×(List (Int×(ByteArray×Int))))×List (ByteArray×(List (Int×(ByteArray×Int))))
def pC(y0:Int)(y1:List (ByteArray×(List (Int×(ByteArray×Int))))):ByteArray×List (Int×ByteArray×Int):=Option.getD y1[Int.toNat y0]? (xt (CTy.pair CTy.str (CTy.sl (178:Nat) aeH)))
def xC(y0:Int)(y2:List (ByteArray×(List (Int×(ByteArray×Int))))):ByteArray×List (Int×ByteArray×Int):=Option.getD y2[Int.toNat y0]? (xt (CTy.pair CTy.str (CTy.sl (178:Nat) aeH)))
def zu(y0:Int)(y1:List (ByteArray×(List (Int×(ByteArray×Int))))):Bool:=ltI y0 (↑y1.length:Int)
def zw(y0:Int):Bool:=leI (0:Int) y0
def Dx(y0:Int)(y1:List (ByteArray×(List (Int×(ByteArray×Int))))):Bool:=ltN y0.toNat y1.length
def Dy(y0:Int)(y2:List (ByteArray×(List (Int×(ByteArray×Int))))):Bool:=ltI y0 (↑y2.length:Int)
def Dz(y0:Int)(y2:List (ByteArray×(List (Int×(ByteArray×Int))))):Bool:=ltN y0.toNat y2.length
def zx(y0:Int)(y1 y2:List (ByteArray×(List (Int×(ByteArray×Int))))):Bool:=TZ ((pC y0 y1).1) ((xC y0 y2).1) ((pC y0 y1).2)
def DA(y0:Int)(y1 y2:List (ByteArray×(List (Int×(ByteArray×Int))))):Bool:= !Lj ((pC y0 y1).1) ((xC y0 y2).1) ((pC y0 y1).2) ((xC y0 y2).2)
def Ie(y0:Int):Int:=IntKind.wrap .i64 (y0 + (1:Int))
def abJ:oM→List (Nat×SV)
 |(y0,_,_)=> [(5,(.one ⟨false,[.val (.int .i64 y0)]⟩)),(0,(.one ⟨false,[.ref 0]⟩)),(1,(.one ⟨false,[.ref 1]⟩))]
def abz:oM→List (Nat×Entry)
 |(_,y1,y2)=> [(0,(.row false 204 (CTy.pair CTy.str (CTy.sl (178:Nat) aeH)) y1)),(1,(.row false 204 (CTy.pair CTy.str (CTy.sl (178:Nat) aeH)) y2))]
def ab3:Nat→oM→List (Nat×SV)
 |0,(_,_,_)=> [(4,(.one ⟨false,[.val (.bool false)]⟩))]
 |_,(_,_,_)=> []
def abT:Nat→oM→List (Nat×Entry)
 |0,(_,y1,y2)=> [(0,(.row false 204 (CTy.pair CTy.str (CTy.sl (178:Nat) aeH)) y1)),(1,(.row false 204 (CTy.pair CTy.str (CTy.sl (178:Nat) aeH)) y2))]
 |_,(_,y1,y2)=> [(0,(.row false 204 (CTy.pair CTy.str (CTy.sl (178:Nat) aeH)) y1)),(1,(.row false 204 (CTy.pair CTy.str (CTy.sl (178:Nat) aeH)) y2))]
def BQ:oM→LT oM
 |(y0,y1,y2)=> .ite (zu y0 y1) (.need [zw y0,zu y0 y1,Dx y0 y1,zw y0,Dy y0 y2,Dz y0 y2,zx y0 y1 y2] (.ite (DA y0 y1 y2) (.ext 0 [(0,0),(1,1)]) (.nrm ((Ie y0),y1,y2) [(0,0),(1,1)]))) (.ext 1 [(0,0),(1,1)])
def Mq(s:St):Option oM:=
 (match s.look 5 with
 |some ⟨none,.one ⟨false,[.val (.int .i64 y0)]⟩⟩=>
 (match s.look 0 with
 |some ⟨none,.one ⟨false,[.ref 0]⟩⟩=>
 (match s.look 1 with
 |some ⟨none,.one ⟨false,[.ref 1]⟩⟩=>
 (match s.ent 0 with
 |some (.row false 204 (.pair .str (.sl (178:Nat) (.pair (.int .i64) (.pair .str (.int .i64))))) y1)=>
 (match s.ent 1 with
 |some (.row false 204 (.pair .str (.sl (178:Nat) (.pair (.int .i64) (.pair .str (.int .i64))))) y2)=>
 some (y0,y1,y2)
 |_=>none)
 |_=>none)
 |_=>none)
 |_=>none)
 |_=>none)
def gr:Lp oM where
 h:=⟨[11,12,13,14,17,18,19,20,21,22,23,24,25,26,4,15,16,5],[0,1],[],[]⟩
 JL:=abJ
 JE:=abz
 XL:=ab3
 XE:=abT
 q:=fun j=>match j with | 0=> .ret | _=> .exit 0
 tags:= [0,1]
 lt:=BQ
 fuel:=fun(y0,y1,y2)=>y0.natAbs + y1.length + y2.length
 fix:=fun(_,y1,y2) (y0,_,_)=>(y0,y1,y2)
 σ:= [(0,0),(1,1)]
 rd:=Mq
theorem Zh:LoopOk prog (fun k=>Nat.blt k Tryz.f134.ntmps) gr.F (aS f134 0):=by
 refine Lp.ok (tbl:= [Hy,PF.lend Hy,PF.fz Hy]) (lf:= []) aQ gr (by kernel_rfl) (LOk.nil _) (fun _=>rfl) (fun j _=>by unfold gr;match j with | 0=>rfl | _ + 1=>rfl) ?_ ?_ ?_ ?_ (fun _=>rfl) ?_
 ·rintro⟨y0,y1,y2⟩;kernel_rfl
 ·rintro⟨y0,y1,y2⟩;kernel_rfl
 ·intro s x h
  have h:Mq s=some x:=h
  unfold Mq at h
  repeat' split at h
  all_goals cases h
  exact⟨aa (by assumption) rfl (aa (by assumption) rfl (aa (by assumption) rfl (rfl))),ab rfl (by assumption) rfl (ab rfl (by assumption) rfl (rfl))⟩
 ·rintro⟨y0,y1,y2⟩;kernel_rfl
 ·rintro⟨y0,y1,y2⟩ z;exact(And.intro (And.intro trivial rfl) trivial)
section
variable (x0 x1:List (ByteArray×List (Int×ByteArray×Int)))
def Lz:Bool:=(↑x0.length:Int)!=(↑x1.length:Int)
def Ql:Int×List (ByteArray×List (Int×ByteArray×Int))×List (ByteArray×List (Int×ByteArray×Int)):=((0:Int),x0,x1)
def NK:Bool:=bif Lz x0 x1 then false else bif Nat.beq ((Lp.res gr (Ql x0 x1)).1) (0:Nat)then false else true
def NL:Bool:=allT [Lz x0 x1||Lp.fin gr (Ql x0 x1)]
end
def XF:List SV→List Entry→Option Out
 | [.one ⟨false,[.ref 0]⟩,.one ⟨false,[.ref 1]⟩],[.row false 204 (.pair (.str) (.sl 178 (.pair (.int .i64) (.pair (.str) (.int .i64))))) x0,.row false 204 (.pair (.str) (.sl 178 (.pair (.int .i64) (.pair (.str) (.int .i64))))) x1]=>some ⟨.one ⟨false,[.val (.bool (NK x0 x1))]⟩,[.row false 204 (CTy.pair CTy.str (CTy.sl (178:TypeId) aeH)) x0,.row false 204 (CTy.pair CTy.str (CTy.sl (178:TypeId) aeH)) x1],[],[NL x0 x1]⟩
 |_,_=>none
def Si:PF prog:=PF.ofG prog [Hy,PF.lend Hy,PF.fz Hy] [gr.F] aQ 134 f134 func134 (LOk.fnT (l:= [aS f134 0]) (by kernel_rfl) (.cons Zh (.nil _))) XF (by
 intro vs es r h;unfold XF at h;split at h
 ·cases h;kernel_rfl
 ·cases h)
section
variable (x0 x1 x2 x3:ByteArray)(x4 x5 x6:List ByteArray)(x7:List (ByteArray×List (Int×ByteArray×Int)))(x8 x9 x10:List ByteArray)(x11:List (ByteArray×List (Int×ByteArray×Int)))
def vL:Bool:= !ByteArray.toList x0==ByteArray.toList x2
def Ig:Bool:= !ByteArray.toList x1==ByteArray.toList x3
def JY:Bool:=bif vL x0 x2 then false else bif !adC x4 x8 then false else bif !adC x5 x9 then false else bif !adC x6 x10 then false else bif Ig x1 x3 then false else bif !NK x7 x11 then false else true
def JZ:Bool:=allT [vL x0 x2||leN x4.length (9223372036854775807:Nat),vL x0 x2||(!adC x4 x8||leN x5.length (9223372036854775807:Nat)),vL x0 x2||(!adC x4 x8||(!adC x5 x9||leN x6.length (9223372036854775807:Nat))),vL x0 x2||(!adC x4 x8||(!adC x5 x9||(!adC x6 x10||(Ig x1 x3||NL x7 x11))))]
end
def Uo:List SV→List Entry→Option Out
 | [.one ⟨true,[.val (.string x0),.ref 0,.ref 1,.ref 2,.val (.string x1),.ref 3]⟩,.one ⟨true,[.val (.string x2),.ref 4,.ref 5,.ref 6,.val (.string x3),.ref 7]⟩],[.row false 9 (.str) x4,.row false 9 (.str) x5,.row false 9 (.str) x6,.row false 204 (.pair (.str) (.sl 178 (.pair (.int .i64) (.pair (.str) (.int .i64))))) x7,.row false 9 (.str) x8,.row false 9 (.str) x9,.row false 9 (.str) x10,.row false 204 (.pair (.str) (.sl 178 (.pair (.int .i64) (.pair (.str) (.int .i64))))) x11]=>some ⟨.one ⟨false,[.val (.bool (JY x0 x1 x2 x3 x4 x5 x6 x7 x8 x9 x10 x11))]⟩,[.row false 9 agS x4,.row false 9 agS x5,.row false 9 agS x6,.row false 204 (CTy.pair CTy.str (CTy.sl (178:TypeId) aeH)) x7,.row false 9 agS x8,.row false 9 agS x9,.row false 9 agS x10,.row false 204 (CTy.pair CTy.str (CTy.sl (178:TypeId) aeH)) x11],[],[JZ x0 x1 x2 x3 x4 x5 x6 x7 x8 x9 x10 x11]⟩
 |_,_=>none
def Pm:PF prog:=PF.ofG prog [Ph,PF.lend Ph,PF.fz Ph,Si,PF.lend Si,PF.fz Si] [] aQ 60 f60 func60 (fun c _=>LOk.nil c) Uo (by
 intro vs es r h;unfold Uo at h;split at h
 ·cases h;kernel_rfl
 ·cases h)
abbrev lL:=Int×ByteArray×ByteArray×List ByteArray×List ByteArray×List ByteArray×List (ByteArray×(List (Int×(ByteArray×Int))))
def vb(y0:Int)(y6:List (ByteArray×(List (Int×(ByteArray×Int))))):Bool:=ltI y0 (↑y6.length:Int)
def vc(y0:Int)(y6:List (ByteArray×(List (Int×(ByteArray×Int))))):Bool:=ltN y0.toNat y6.length
def mG(y0:Int)(y6:List (ByteArray×(List (Int×(ByteArray×Int))))):ByteArray×List (Int×ByteArray×Int):=Option.getD y6[Int.toNat y0]? (xt (CTy.pair CTy.str (CTy.sl (178:Nat) aeH)))
def je(y0:Int)(y6:List (ByteArray×(List (Int×(ByteArray×Int))))):Bool:= !mH ((mG y0 y6).1)
def rH(y0:Int)(y6:List (ByteArray×(List (Int×(ByteArray×Int))))):List (Int×ByteArray×Int):=bif !je y0 y6&&true then (mG y0 y6).2else []
def ww(y0:Int)(y6:List (ByteArray×(List (Int×(ByteArray×Int))))):Bool:=vb y0 y6
def EZ(y0:Int):Bool:=leI (0:Int) y0
def Fa(y0:Int)(y6:List (ByteArray×(List (Int×(ByteArray×Int))))):Bool:=vc y0 y6
def Fb(y0:Int)(y6:List (ByteArray×(List (Int×(ByteArray×Int))))):Bool:=tP ((mG y0 y6).1)
def Fc(y0:Int)(y6:List (ByteArray×(List (Int×(ByteArray×Int))))):Bool:= !(!je y0 y6&&true)||leI (0:Int) y0
def Fd(y0:Int)(y6:List (ByteArray×(List (Int×(ByteArray×Int))))):Bool:= !(!je y0 y6&&true)||vb y0 y6
def Fe(y0:Int)(y6:List (ByteArray×(List (Int×(ByteArray×Int))))):Bool:= !(!je y0 y6&&true)||vc y0 y6
def Ff(y0:Int)(y6:List (ByteArray×(List (Int×(ByteArray×Int))))):Bool:= !(!je y0 y6&&true)||QW (rH y0 y6)
def AK(y0:Int)(y6:List (ByteArray×(List (Int×(ByteArray×Int))))):Bool:=bif je y0 y6 then true else !adD (rH y0 y6)
def Fg(y0:Int):Int:=IntKind.wrap .i64 (y0 + (1:Int))
def Yl:lL→List (Nat×SV)
 |(y0,_,_,_,_,_,_)=> [(3,(.one ⟨false,[.val (.int .i64 y0)]⟩)),(1,(.one ⟨false,[.ptr 0 0]⟩))]
def Yd:lL→List (Nat×Entry)
 |(_,y1,y2,y3,y4,y5,y6)=> [(0,(.box 63 [.val (.string y1),.ref 1,.ref 2,.ref 3,.val (.string y2),.ref 4])),(1,(.row false 9 agS y3)),(2,(.row false 9 agS y4)),(3,(.row false 9 agS y5)),(4,(.row false 204 (CTy.pair CTy.str (CTy.sl (178:Nat) aeH)) y6))]
def YL:Nat→lL→List (Nat×SV)
 |0,(_,_,_,_,_,_,_)=> [(2,(.one ⟨false,[.val (.bool false)]⟩))]
 |_,(_,_,_,_,_,_,_)=> []
def YD:Nat→lL→List (Nat×Entry)
 |0,(_,y1,y2,y3,y4,y5,y6)=> [(0,(.box 63 [.val (.string y1),.ref 1,.ref 2,.ref 3,.val (.string y2),.ref 4])),(1,(.row false 9 agS y3)),(2,(.row false 9 agS y4)),(3,(.row false 9 agS y5)),(4,(.row false 204 (CTy.pair CTy.str (CTy.sl (178:Nat) aeH)) y6))]
 |_,(_,y1,y2,y3,y4,y5,y6)=> [(0,(.box 63 [.val (.string y1),.ref 1,.ref 2,.ref 3,.val (.string y2),.ref 4])),(1,(.row false 9 agS y3)),(2,(.row false 9 agS y4)),(3,(.row false 9 agS y5)),(4,(.row false 204 (CTy.pair CTy.str (CTy.sl (178:Nat) aeH)) y6))]
def yH:lL→LT lL
 |(y0,y1,y2,y3,y4,y5,y6)=> .ite (ww y0 y6) (.need [EZ y0,ww y0 y6,Fa y0 y6,Fb y0 y6,Fc y0 y6,Fd y0 y6,Fe y0 y6,Ff y0 y6] (.ite (AK y0 y6) (.ext 0 [(0,0),(1,1),(2,2),(3,3),(4,4)]) (.nrm ((Fg y0),y1,y2,y3,y4,y5,y6) [(0,0),(1,1),(2,2),(3,3),(4,4)]))) (.ext 1 [(0,0),(1,1),(2,2),(3,3),(4,4)])
def JJ(s:St):Option lL:=
 (match s.look 3 with
 |some ⟨none,.one ⟨false,[.val (.int .i64 y0)]⟩⟩=>
 (match s.look 1 with
 |some ⟨none,.one ⟨false,[.ptr 320 0]⟩⟩=>
 (match s.ent 320 with
 |some (.box 63 [.val (.string y1),.ref 0,.ref 1,.ref 2,.val (.string y2),.ref 3])=>
 (match s.ent 0 with
 |some (.row false 9 (.str) y3)=>
 (match s.ent 1 with
 |some (.row false 9 (.str) y4)=>
 (match s.ent 2 with
 |some (.row false 9 (.str) y5)=>
 (match s.ent 3 with
 |some (.row false 204 (.pair .str (.sl (178:Nat) (.pair (.int .i64) (.pair .str (.int .i64))))) y6)=>
 some (y0,y1,y2,y3,y4,y5,y6)
 |_=>none)
 |_=>none)
 |_=>none)
 |_=>none)
 |_=>none)
 |_=>none)
 |_=>none)
def er:Lp lL where
 h:=⟨[37,38,39,40,41,44,45,46,47,48,49,50,51,52,53,54,55,56,57,58,59,60,61,2,42,43,3],[0,1,2,3,4],[],[]⟩
 JL:=Yl
 JE:=Yd
 XL:=YL
 XE:=YD
 q:=fun j=>match j with | 0=> .ret | _=> .exit 0
 tags:= [0,1]
 lt:=yH
 fuel:=fun(y0,y1,y2,y3,y4,y5,y6)=>y0.natAbs + y1.size + y2.size + y3.length + y4.length + y5.length + y6.length
 fix:=fun(_,y1,y2,y3,y4,y5,y6) (y0,_,_,_,_,_,_)=>(y0,y1,y2,y3,y4,y5,y6)
 σ:= [(0,320),(1,0),(2,1),(3,2),(4,3)]
 rd:=JJ
theorem VO:LoopOk prog (fun k=>Nat.blt k Tryz.f186.ntmps) er.F (aS f186 0):=by
 refine Lp.ok (tbl:= [vV,Ju,Dc,PF.lend Dc,PF.fz Dc,wv,PF.lend wv,PF.fz wv]) (lf:= []) aQ er (by kernel_rfl) (LOk.nil _) (fun _=>rfl) (fun j _=>by unfold er;match j with | 0=>rfl | _ + 1=>rfl) ?_ ?_ ?_ ?_ (fun _=>rfl) ?_
 ·rintro⟨y0,y1,y2,y3,y4,y5,y6⟩;kernel_rfl
 ·rintro⟨y0,y1,y2,y3,y4,y5,y6⟩;kernel_rfl
 ·intro s x h
  have h:JJ s=some x:=h
  unfold JJ at h
  repeat' split at h
  all_goals cases h
  exact⟨aa (by assumption) rfl (aa (by assumption) rfl (rfl)),ab rfl (by assumption) rfl (ab rfl (by assumption) rfl (ab rfl (by assumption) rfl (ab rfl (by assumption) rfl (ab rfl (by assumption) rfl (rfl)))))⟩
 ·rintro⟨y0,y1,y2,y3,y4,y5,y6⟩;kernel_rfl
 ·rintro⟨y0,y1,y2,y3,y4,y5,y6⟩ z;exact(And.intro (And.intro trivial rfl) trivial)
section
variable (x0:ByteArray)(x2 x3 x4:List ByteArray)
def Od:Bool:=bif !mH x0 then true else !(List.all x2 mM&&inR (↑x2.length:Int) (1:Int) (20:Int))
def Oe:Bool:=bif Od x0 x2 then true else !(List.all x3 mM&&inR (↑x3.length:Int) (0:Int) (20:Int))
def Of:Bool:=bif Oe x0 x2 x3 then true else !(List.all x4 mM&&inR (↑x4.length:Int) (1:Int) (20:Int))
end
def Og(x1:ByteArray):Bool:=
 !ByteArray.toList x1==ByteArray.toList { data:= #[] }
section
variable (x0 x1:ByteArray)(x2 x3 x4:List ByteArray)(x5:List (ByteArray×List (Int×ByteArray×Int)))
def Oh:Bool:=bif Of x0 x2 x3 x4 then true else bif Og x1 then !mH x1 else false
def IA:Int×ByteArray×ByteArray×List ByteArray×List ByteArray×List ByteArray×List (ByteArray×List (Int×ByteArray×Int)):=((0:Int),x0,x1,x2,x3,x4,x5)
def FO:Bool:=bif Oh x0 x1 x2 x3 x4 then false else bif Nat.beq ((Lp.res er (IA x0 x1 x2 x3 x4 x5)).1) (0:Nat)then false else bA (↑x5.length:Int) (1:Int) (40:Int)
def Ku:Bool:=allT [tP x0,!(!!mH x0&&true)||OR x2,!(!Od x0 x2&&true)||OR x3,!(!Oe x0 x2 x3&&true)||OR x4,!(Og x1&&(!Of x0 x2 x3 x4&&true))||tP x1,Oh x0 x1 x2 x3 x4||Lp.fin er (IA x0 x1 x2 x3 x4 x5)]
end
def Uw:List SV→List Entry→Option Out
 | [.one ⟨true,[.val (.string x0),.ref 0,.ref 1,.ref 2,.val (.string x1),.ref 3]⟩],[.row false 9 (.str) x2,.row false 9 (.str) x3,.row false 9 (.str) x4,.row false 204 (.pair (.str) (.sl 178 (.pair (.int .i64) (.pair (.str) (.int .i64))))) x5]=>some ⟨.one ⟨false,[.val (.bool (FO x0 x1 x2 x3 x4 x5))]⟩,[.row false 9 agS x2,.row false 9 agS x3,.row false 9 agS x4,.row false 204 (CTy.pair CTy.str (CTy.sl (178:TypeId) aeH)) x5],[],[Ku x0 x1 x2 x3 x4 x5]⟩
 |_,_=>none
def Pr:PF prog:=PF.ofG prog [vV,Ju,Dc,PF.lend Dc,PF.fz Dc,wv,PF.lend wv,PF.fz wv] [er.F] aQ 186 f186 func186 (LOk.fnT (l:= [aS f186 0]) (by kernel_rfl) (.cons VO (.nil _))) Uw (by
 intro vs es r h;unfold Uw at h;split at h
 ·cases h;kernel_rfl
 ·cases h)
def rJ(x2:ByteArray)(x3 x4:List ByteArray):Bool:=bif leI (0:Int) (iI x3 x2)then true else leI (0:Int) (iI x4 x2)
def CE(x2:ByteArray)(x3 x4:List ByteArray):Bool:=allT [leN x3.length (9223372036854775807:Nat),!(!leI (0:Int) (iI x3 x2)&&true)||leN x4.length (9223372036854775807:Nat)]
def Rn:List SV→List Entry→Option Out
 | [.one ⟨true,[.val (.string _x0),.ref 0,.ref 1,.ref 2,.val (.string _x1),.ref 3]⟩,.one ⟨false,[.val (.string x2)]⟩],[.row false 9 (.str) x3,.row false 9 (.str) x4,.row false 9 (.str) x5,.row false 204 (.pair (.str) (.sl 178 (.pair (.int .i64) (.pair (.str) (.int .i64))))) x6]=>some ⟨.one ⟨false,[.val (.bool (rJ x2 x3 x4))]⟩,[.row false 9 agS x3,.row false 9 agS x4,.row false 9 agS x5,.row false 204 (CTy.pair CTy.str (CTy.sl (178:TypeId) aeH)) x6],[],[CE x2 x3 x4]⟩
 |_,_=>none
def jN:PF prog:=PF.ofG prog [bV,PF.lend bV,PF.fz bV] [] aQ 243 f243 func243 (fun c _=>LOk.nil c) Rn (by
 intro vs es r h;unfold Rn at h;split at h
 ·cases h;kernel_rfl
 ·cases h)
abbrev mS:=Int×ByteArray×ByteArray×List ByteArray×List ByteArray×List ByteArray×List ByteArray×List (ByteArray×(List (Int×(ByteArray×Int))))
def iF(y0:Int)(y7:List (ByteArray×(List (Int×(ByteArray×Int))))):ByteArray:=(Option.getD y7[Int.toNat y0]? (xt (CTy.pair CTy.str (CTy.sl (178:Nat) aeH)))).1
def xL(y0:Int)(y7:List (ByteArray×(List (Int×(ByteArray×Int))))):Bool:=ltI y0 (↑y7.length:Int)
def Cr(y0:Int):Bool:=leI (0:Int) y0
def Cs(y0:Int)(y7:List (ByteArray×(List (Int×(ByteArray×Int))))):Bool:=ltN y0.toNat y7.length
def Ct(y5:List ByteArray):Bool:=leN y5.length (9223372036854775807:Nat)
def Cu(y0:Int)(y5 y6:List ByteArray)(y7:List (ByteArray×(List (Int×(ByteArray×Int))))):Bool:= !(ltI (iI y5 (iF y0 y7)) (0:Int)&&true)||leN y6.length (9223372036854775807:Nat)
def Cv(y0:Int)(y5 y6:List ByteArray)(y7:List (ByteArray×(List (Int×(ByteArray×Int))))):Bool:=bif ltI (iI y5 (iF y0 y7)) (0:Int)then ltI (iI y6 (iF y0 y7)) (0:Int)else false
def Cw(y0:Int)(y3:List ByteArray)(y7:List (ByteArray×(List (Int×(ByteArray×Int))))):Bool:=leN (List.length y3 + List.length [iF y0 y7]) (9223372036854775807:Nat)
def Cx(y0:Int)(y3:List ByteArray)(y7:List (ByteArray×(List (Int×(ByteArray×Int))))):Bool:=leN ((List.length y3 + List.length [iF y0 y7]) * (16:Nat)) (140737488355328:Nat)
def Cy(y0:Int):Int:=IntKind.wrap .i64 (y0 + (1:Int))
def Cz(y0:Int)(y3:List ByteArray)(y7:List (ByteArray×(List (Int×(ByteArray×Int))))):List ByteArray:=y3++ [iF y0 y7]
def aao:mS→List (Nat×SV)
 |(y0,_,_,_,_,_,_,_)=> [(4,(.one ⟨false,[.val (.int .i64 y0)]⟩)),(1,(.one ⟨false,[.ptr 0 0]⟩)),(3,(.one ⟨false,[.ref 1]⟩))]
def aaf:mS→List (Nat×Entry)
 |(_,y1,y2,y3,y4,y5,y6,y7)=> [(0,(.box 63 [.val (.string y1),.ref 2,.ref 3,.ref 4,.val (.string y2),.ref 5])),(2,(.row false 9 agS y4)),(3,(.row false 9 agS y5)),(4,(.row false 9 agS y6)),(5,(.row false 204 (CTy.pair CTy.str (CTy.sl (178:Nat) aeH)) y7)),(1,(.row true 9 agS y3))]
def aaG:Nat→mS→List (Nat×SV)
 |0,(_,_,_,_,_,_,_,_)=> [(2,(.one ⟨false,[.val (.int .i64 (3:Int))]⟩))]
 |_,(_,_,_,_,_,_,_,_)=> [(3,(.one ⟨false,[.ref 1]⟩))]
def aax:Nat→mS→List (Nat×Entry)
 |0,(_,y1,y2,y3,y4,y5,y6,y7)=> [(0,(.box 63 [.val (.string y1),.ref 2,.ref 3,.ref 4,.val (.string y2),.ref 5])),(1,(.row true 9 agS y3)),(2,(.row false 9 agS y4)),(3,(.row false 9 agS y5)),(4,(.row false 9 agS y6)),(5,(.row false 204 (CTy.pair CTy.str (CTy.sl (178:Nat) aeH)) y7))]
 |_,(_,y1,y2,y3,y4,y5,y6,y7)=> [(0,(.box 63 [.val (.string y1),.ref 2,.ref 3,.ref 4,.val (.string y2),.ref 5])),(1,(.row true 9 agS y3)),(2,(.row false 9 agS y4)),(3,(.row false 9 agS y5)),(4,(.row false 9 agS y6)),(5,(.row false 204 (CTy.pair CTy.str (CTy.sl (178:Nat) aeH)) y7))]
def AD:mS→LT mS
 |(y0,y1,y2,y3,y4,y5,y6,y7)=> .ite (xL y0 y7) (.need [Cr y0,xL y0 y7,Cs y0 y7] (.need [Ct y5,Cu y0 y5 y6 y7] (.ite (Cv y0 y5 y6 y7) (.ext 0 [(0,0),(1,1),(2,2),(3,3),(4,4),(5,5)]) (.need [Cw y0 y3 y7,Cx y0 y3 y7] (.nrm ((Cy y0),y1,y2,Cz y0 y3 y7,y4,y5,y6,y7) [(0,0),(1,1792),(2,2),(3,3),(4,4),(5,5)]))))) (.ext 1 [(0,0),(1,1),(2,2),(3,3),(4,4),(5,5)])
def KV(s:St):Option mS:=
 (match s.look 4 with
 |some ⟨none,.one ⟨false,[.val (.int .i64 y0)]⟩⟩=>
 (match s.look 1 with
 |some ⟨none,.one ⟨false,[.ptr 320 0]⟩⟩=>
 (match s.look 3 with
 |some ⟨none,.one ⟨false,[.ref 1280]⟩⟩=>
 (match s.ent 320 with
 |some (.box 63 [.val (.string y1),.ref 0,.ref 1,.ref 2,.val (.string y2),.ref 3])=>
 (match s.ent 0 with
 |some (.row false 9 (.str) y4)=>
 (match s.ent 1 with
 |some (.row false 9 (.str) y5)=>
 (match s.ent 2 with
 |some (.row false 9 (.str) y6)=>
 (match s.ent 3 with
 |some (.row false 204 (.pair .str (.sl (178:Nat) (.pair (.int .i64) (.pair .str (.int .i64))))) y7)=>
 (match s.ent 1280 with
 |some (.row true 9 (.str) y3)=>
 some (y0,y1,y2,y3,y4,y5,y6,y7)
 |_=>none)
 |_=>none)
 |_=>none)
 |_=>none)
 |_=>none)
 |_=>none)
 |_=>none)
 |_=>none)
 |_=>none)
def dy:Lp mS where
 h:=⟨[23,24,25,26,27,30,31,32,33,34,35,5,36,37,38,39,40,41,42,43,44,45,46,47,2,48,49,50,51,3,28,29,4],[0,2,3,4,5],[1],[]⟩
 JL:=aao
 JE:=aaf
 XL:=aaG
 XE:=aax
 q:=fun j=>match j with | 0=> .ret | _=> .exit 0
 tags:= [0,1]
 lt:=AD
 fuel:=fun(y0,y1,y2,y3,y4,y5,y6,y7)=>y0.natAbs + y1.size + y2.size + y3.length + y4.length + y5.length + y6.length + y7.length
 fix:=fun(_,y1,y2,_,y4,y5,y6,y7) (y0,_,_,y3,_,_,_,_)=>(y0,y1,y2,y3,y4,y5,y6,y7)
 σ:= [(0,320),(2,0),(3,1),(4,2),(5,3),(1,1280)]
 rd:=KV
theorem Xv:LoopOk prog (fun k=>Nat.blt k Tryz.f187.ntmps) dy.F (aS f187 0):=by
 refine Lp.ok (tbl:= [bV,PF.lend bV,PF.fz bV,rT,PF.lend rT,PF.fz rT,nT,PF.lend nT,PF.fz nT,jN,PF.lend jN,PF.fz jN]) (lf:= []) aQ dy (by kernel_rfl) (LOk.nil _) (fun _=>rfl) (fun j _=>by unfold dy;match j with | 0=>rfl | _ + 1=>rfl) ?_ ?_ ?_ ?_ (fun _=>rfl) ?_
 ·rintro⟨y0,y1,y2,y3,y4,y5,y6,y7⟩;kernel_rfl
 ·rintro⟨y0,y1,y2,y3,y4,y5,y6,y7⟩;kernel_rfl
 ·intro s x h
  have h:KV s=some x:=h
  unfold KV at h
  repeat' split at h
  all_goals cases h
  exact⟨aa (by assumption) rfl (aa (by assumption) rfl (aa (by assumption) rfl (rfl))),ab rfl (by assumption) rfl (ab rfl (by assumption) rfl (ab rfl (by assumption) rfl (ab rfl (by assumption) rfl (ab rfl (by assumption) rfl (ab rfl (by assumption) rfl (rfl))))))⟩
 ·rintro⟨y0,y1,y2,y3,y4,y5,y6,y7⟩;kernel_rfl
 ·rintro⟨y0,y1,y2,y3,y4,y5,y6,y7⟩ z;exact(And.intro (And.intro trivial rfl) trivial)
abbrev nL:=Int×Int×ByteArray×ByteArray×List ByteArray×List ByteArray×List ByteArray×List (ByteArray×(List (Int×(ByteArray×Int))))
def wj(y1:Int)(y7:List (ByteArray×(List (Int×(ByteArray×Int))))):List (Int×ByteArray×Int):=(Option.getD y7[Int.toNat y1]? (xt (CTy.pair CTy.str (CTy.sl (178:Nat) aeH)))).2
def wk(y0 y1:Int)(y7:List (ByteArray×(List (Int×(ByteArray×Int))))):Int×ByteArray×Int:=Option.getD (wj y1 y7)[Int.toNat y0]? ((0:Int),ByteArray.empty,(0:Int))
def GW(y0 y1:Int)(y7:List (ByteArray×(List (Int×(ByteArray×Int))))):Bool:=(wk y0 y1 y7).1==(1:Int)
def HX(y1:Int):Bool:=leI (0:Int) y1
def HY(y1:Int)(y7:List (ByteArray×(List (Int×(ByteArray×Int))))):Bool:=ltI y1 (↑y7.length:Int)
def CO(y1:Int)(y7:List (ByteArray×(List (Int×(ByteArray×Int))))):Bool:=ltN y1.toNat y7.length
def tD(y0 y1:Int)(y7:List (ByteArray×(List (Int×(ByteArray×Int))))):Bool:=ltI y0 (↑(List.length (wj y1 y7)):Int)
def OP(y0:Int):Bool:=leI (0:Int) y0
def HZ(y0 y1:Int)(y7:List (ByteArray×(List (Int×(ByteArray×Int))))):Bool:=ltN y0.toNat (List.length (wj y1 y7))
def Ia(y0 y1:Int)(y4 y5:List ByteArray)(y7:List (ByteArray×(List (Int×(ByteArray×Int))))):Bool:= !(GW y0 y1 y7&&true)||CE (((wk y0 y1 y7).2).1) y4 y5
def Ib(y0 y1:Int)(y4 y5:List ByteArray)(y7:List (ByteArray×(List (Int×(ByteArray×Int))))):Bool:=bif GW y0 y1 y7 then !rJ (((wk y0 y1 y7).2).1) y4 y5 else false
def OQ(y0:Int):Int:=IntKind.wrap .i64 (y0 + (1:Int))
def Vr:nL→List (Nat×SV)
 |(y0,y1,_,_,_,_,_,_)=> [(7,(.one ⟨false,[.val (.int .i64 y0)]⟩)),(1,(.one ⟨false,[.ptr 0 0]⟩)),(6,(.one ⟨false,[.val (.int .i64 y1)]⟩))]
def Vp:nL→List (Nat×Entry)
 |(_,_,y2,y3,y4,y5,y6,y7)=> [(0,(.box 63 [.val (.string y2),.ref 1,.ref 2,.ref 3,.val (.string y3),.ref 4])),(1,(.row false 9 agS y4)),(2,(.row false 9 agS y5)),(3,(.row false 9 agS y6)),(4,(.row false 204 (CTy.pair CTy.str (CTy.sl (178:Nat) aeH)) y7))]
def Vv:Nat→nL→List (Nat×SV)
 |0,(_,_,_,_,_,_,_,_)=> [(2,(.one ⟨false,[.val (.int .i64 (6:Int))]⟩))]
 |_,(_,_,_,_,_,_,_,_)=> []
def Vt:Nat→nL→List (Nat×Entry)
 |0,(_,_,y2,y3,y4,y5,y6,y7)=> [(0,(.box 63 [.val (.string y2),.ref 1,.ref 2,.ref 3,.val (.string y3),.ref 4])),(1,(.row false 9 agS y4)),(2,(.row false 9 agS y5)),(3,(.row false 9 agS y6)),(4,(.row false 204 (CTy.pair CTy.str (CTy.sl (178:Nat) aeH)) y7))]
 |_,(_,_,y2,y3,y4,y5,y6,y7)=> [(0,(.box 63 [.val (.string y2),.ref 1,.ref 2,.ref 3,.val (.string y3),.ref 4])),(1,(.row false 9 agS y4)),(2,(.row false 9 agS y5)),(3,(.row false 9 agS y6)),(4,(.row false 204 (CTy.pair CTy.str (CTy.sl (178:Nat) aeH)) y7))]
def vQ:nL→LT nL
 |(y0,y1,y2,y3,y4,y5,y6,y7)=> .need [HX y1,HY y1 y7,CO y1 y7] (.ite (tD y0 y1 y7) (.need [HX y1,HY y1 y7,CO y1 y7,OP y0,tD y0 y1 y7,HZ y0 y1 y7] (.need [Ia y0 y1 y4 y5 y7] (.ite (Ib y0 y1 y4 y5 y7) (.ext 0 [(0,0),(1,1),(2,2),(3,3),(4,4)]) (.nrm ((OQ y0),y1,y2,y3,y4,y5,y6,y7) [(0,0),(1,1),(2,2),(3,3),(4,4)])))) (.ext 1 [(0,0),(1,1),(2,2),(3,3),(4,4)]))
def GN(s:St):Option nL:=
 (match s.look 7 with
 |some ⟨none,.one ⟨false,[.val (.int .i64 y0)]⟩⟩=>
 (match s.look 1 with
 |some ⟨none,.one ⟨false,[.ptr 0 0]⟩⟩=>
 (match s.look 6 with
 |some ⟨none,.one ⟨false,[.val (.int .i64 y1)]⟩⟩=>
 (match s.ent 0 with
 |some (.box 63 [.val (.string y2),.ref 1,.ref 2,.ref 3,.val (.string y3),.ref 4])=>
 (match s.ent 1 with
 |some (.row false 9 (.str) y4)=>
 (match s.ent 2 with
 |some (.row false 9 (.str) y5)=>
 (match s.ent 3 with
 |some (.row false 9 (.str) y6)=>
 (match s.ent 4 with
 |some (.row false 204 (.pair .str (.sl (178:Nat) (.pair (.int .i64) (.pair .str (.int .i64))))) y7)=>
 some (y0,y1,y2,y3,y4,y5,y6,y7)
 |_=>none)
 |_=>none)
 |_=>none)
 |_=>none)
 |_=>none)
 |_=>none)
 |_=>none)
 |_=>none)
def dG:Lp nL where
 h:=⟨[71,72,73,74,75,76,77,78,79,82,83,84,85,86,87,88,89,90,8,91,92,93,94,95,96,97,98,99,100,2,80,81,7],[0,1,2,3,4],[],[]⟩
 JL:=Vr
 JE:=Vp
 XL:=Vv
 XE:=Vt
 q:=fun j=>match j with | 0=> .ret | _=> .exit 4
 tags:= [0,1]
 lt:=vQ
 fuel:=fun(y0,y1,y2,y3,y4,y5,y6,y7)=>y0.natAbs + y1.natAbs + y2.size + y3.size + y4.length + y5.length + y6.length + y7.length
 fix:=fun(_,y1,y2,y3,y4,y5,y6,y7) (y0,_,_,_,_,_,_,_)=>(y0,y1,y2,y3,y4,y5,y6,y7)
 σ:= [(0,0),(1,1),(2,2),(3,3),(4,4)]
 rd:=GN
theorem Ud:LoopOk prog (memN [64,65,66,67,68,7,71,72,73,74,75,76,77,78,79,82,83,84,85,86,87,88,89,90,8,91,92,93,94,95,96,97,98,99,100,2,80,81,69,70,6]) dG.F (Zg (aS f187 1) 0):=by
 refine Lp.ok (tbl:= [bV,PF.lend bV,PF.fz bV,rT,PF.lend rT,PF.fz rT,nT,PF.lend nT,PF.fz nT,jN,PF.lend jN,PF.fz jN]) (lf:= []) aQ dG (by kernel_rfl) (LOk.nil _) (fun _=>rfl) (fun j _=>by unfold dG;match j with | 0=>rfl | _ + 1=>rfl) ?_ ?_ ?_ ?_ (fun _=>rfl) ?_
 ·rintro⟨y0,y1,y2,y3,y4,y5,y6,y7⟩;kernel_rfl
 ·rintro⟨y0,y1,y2,y3,y4,y5,y6,y7⟩;kernel_rfl
 ·intro s x h
  have h:GN s=some x:=h
  unfold GN at h
  repeat' split at h
  all_goals cases h
  exact⟨aa (by assumption) rfl (aa (by assumption) rfl (aa (by assumption) rfl (rfl))),ab rfl (by assumption) rfl (ab rfl (by assumption) rfl (ab rfl (by assumption) rfl (ab rfl (by assumption) rfl (ab rfl (by assumption) rfl (rfl)))))⟩
 ·rintro⟨y0,y1,y2,y3,y4,y5,y6,y7⟩;kernel_rfl
 ·rintro⟨y0,y1,y2,y3,y4,y5,y6,y7⟩ z;exact(And.intro (And.intro trivial rfl) trivial)
abbrev rf:=Int×ByteArray×ByteArray×List ByteArray×List ByteArray×List ByteArray×List (ByteArray×(List (Int×(ByteArray×Int))))
def Lb(y0:Int)(y1 y2:ByteArray)(y3 y4 y5:List ByteArray)(y6:List (ByteArray×(List (Int×(ByteArray×Int))))):Int×Int×ByteArray×ByteArray×List ByteArray×List ByteArray×List ByteArray×List (ByteArray×List (Int×ByteArray×Int)):=((0:Int),y0,y1,y2,y3,y4,y5,y6)
def ME(y0:Int)(y6:List (ByteArray×(List (Int×(ByteArray×Int))))):Bool:=ltI y0 (↑y6.length:Int)
def SE(y0:Int)(y1 y2:ByteArray)(y3 y4 y5:List ByteArray)(y6:List (ByteArray×(List (Int×(ByteArray×Int))))):Bool:=Lp.fin dG (Lb y0 y1 y2 y3 y4 y5 y6)
def MF(y0:Int)(y1 y2:ByteArray)(y3 y4 y5:List ByteArray)(y6:List (ByteArray×(List (Int×(ByteArray×Int))))):Bool:=Nat.beq ((Lp.res dG (Lb y0 y1 y2 y3 y4 y5 y6)).1) (0:Nat)
def SF(y0:Int):Int:=IntKind.wrap .i64 (y0 + (1:Int))
def aap:rf→List (Nat×SV)
 |(y0,_,_,_,_,_,_)=> [(6,(.one ⟨false,[.val (.int .i64 y0)]⟩)),(1,(.one ⟨false,[.ptr 0 0]⟩))]
def aag:rf→List (Nat×Entry)
 |(_,y1,y2,y3,y4,y5,y6)=> [(0,(.box 63 [.val (.string y1),.ref 1,.ref 2,.ref 3,.val (.string y2),.ref 4])),(1,(.row false 9 agS y3)),(2,(.row false 9 agS y4)),(3,(.row false 9 agS y5)),(4,(.row false 204 (CTy.pair CTy.str (CTy.sl (178:Nat) aeH)) y6))]
def aaH:Nat→rf→List (Nat×SV)
 |0,(_,_,_,_,_,_,_)=> [(2,(.one ⟨false,[.val (.int .i64 (6:Int))]⟩))]
 |_,(_,_,_,_,_,_,_)=> []
def aay:Nat→rf→List (Nat×Entry)
 |0,(_,y1,y2,y3,y4,y5,y6)=> [(0,(.box 63 [.val (.string y1),.ref 1,.ref 2,.ref 3,.val (.string y2),.ref 4])),(1,(.row false 9 agS y3)),(2,(.row false 9 agS y4)),(3,(.row false 9 agS y5)),(4,(.row false 204 (CTy.pair CTy.str (CTy.sl (178:Nat) aeH)) y6))]
 |_,(_,y1,y2,y3,y4,y5,y6)=> [(0,(.box 63 [.val (.string y1),.ref 1,.ref 2,.ref 3,.val (.string y2),.ref 4])),(1,(.row false 9 agS y3)),(2,(.row false 9 agS y4)),(3,(.row false 9 agS y5)),(4,(.row false 204 (CTy.pair CTy.str (CTy.sl (178:Nat) aeH)) y6))]
def AE:rf→LT rf
 |(y0,y1,y2,y3,y4,y5,y6)=> .ite (ME y0 y6) (.need [SE y0 y1 y2 y3 y4 y5 y6] (.ite (MF y0 y1 y2 y3 y4 y5 y6) (.ext 0 [(0,0),(1,1),(2,2),(3,3),(4,4)]) (.nrm ((SF y0),y1,y2,y3,y4,y5,y6) [(0,0),(1,1),(2,2),(3,3),(4,4)]))) (.ext 1 [(0,0),(1,1),(2,2),(3,3),(4,4)])
def KW(s:St):Option rf:=
 (match s.look 6 with
 |some ⟨none,.one ⟨false,[.val (.int .i64 y0)]⟩⟩=>
 (match s.look 1 with
 |some ⟨none,.one ⟨false,[.ptr 320 0]⟩⟩=>
 (match s.ent 320 with
 |some (.box 63 [.val (.string y1),.ref 0,.ref 1,.ref 2,.val (.string y2),.ref 3])=>
 (match s.ent 0 with
 |some (.row false 9 (.str) y3)=>
 (match s.ent 1 with
 |some (.row false 9 (.str) y4)=>
 (match s.ent 2 with
 |some (.row false 9 (.str) y5)=>
 (match s.ent 3 with
 |some (.row false 204 (.pair .str (.sl (178:Nat) (.pair (.int .i64) (.pair .str (.int .i64))))) y6)=>
 some (y0,y1,y2,y3,y4,y5,y6)
 |_=>none)
 |_=>none)
 |_=>none)
 |_=>none)
 |_=>none)
 |_=>none)
 |_=>none)
def dU:Lp rf where
 h:=⟨[64,65,66,67,68,7,71,72,73,74,75,76,77,78,79,82,83,84,85,86,87,88,89,90,8,91,92,93,94,95,96,97,98,99,100,2,80,81,69,70,6],[0,1,2,3,4],[],[]⟩
 JL:=aap
 JE:=aag
 XL:=aaH
 XE:=aay
 q:=fun j=>match j with | 0=> .ret | _=> .exit 2
 tags:= [0,1]
 lt:=AE
 fuel:=fun(y0,y1,y2,y3,y4,y5,y6)=>y0.natAbs + y1.size + y2.size + y3.length + y4.length + y5.length + y6.length
 fix:=fun(_,y1,y2,y3,y4,y5,y6) (y0,_,_,_,_,_,_)=>(y0,y1,y2,y3,y4,y5,y6)
 σ:= [(0,320),(1,0),(2,1),(3,2),(4,3)]
 rd:=KW
theorem Xw:LoopOk prog (fun k=>Nat.blt k Tryz.f187.ntmps) dU.F (aS f187 1):=by
 refine Lp.ok (tbl:= [bV,PF.lend bV,PF.fz bV,rT,PF.lend rT,PF.fz rT,nT,PF.lend nT,PF.fz nT,jN,PF.lend jN,PF.fz jN]) (lf:= [dG.F]) aQ dU (by kernel_rfl) (LOk.allT (l:= [Zg (aS f187 1) 0]) (by kernel_rfl) (.cons Ud (.nil _))) (fun _=>rfl) (fun j _=>by unfold dU;match j with | 0=>rfl | _ + 1=>rfl) ?_ ?_ ?_ ?_ (fun _=>rfl) ?_
 ·rintro⟨y0,y1,y2,y3,y4,y5,y6⟩;kernel_rfl
 ·rintro⟨y0,y1,y2,y3,y4,y5,y6⟩;kernel_rfl
 ·intro s x h
  have h:KW s=some x:=h
  unfold KW at h
  repeat' split at h
  all_goals cases h
  exact⟨aa (by assumption) rfl (aa (by assumption) rfl (rfl)),ab rfl (by assumption) rfl (ab rfl (by assumption) rfl (ab rfl (by assumption) rfl (ab rfl (by assumption) rfl (ab rfl (by assumption) rfl (rfl)))))⟩
 ·rintro⟨y0,y1,y2,y3,y4,y5,y6⟩;kernel_rfl
 ·rintro⟨y0,y1,y2,y3,y4,y5,y6⟩ z;exact(And.intro (And.intro trivial rfl) trivial)
def vm(x2 x3 x4:List ByteArray):List ByteArray:=x2++x3++x4
def xK(x1:ByteArray):Bool:=
 !ByteArray.toList x1==ByteArray.toList { data:= #[] }
section
variable (x0 x1:ByteArray)(x2 x3 x4:List ByteArray)(x5:List (ByteArray×List (Int×ByteArray×Int)))
def Kv:List ByteArray×List ByteArray×List ByteArray×List (ByteArray×List (Int×ByteArray×Int)):=(x2,x3,x4,x5)
def Bj:Int×ByteArray×ByteArray×List ByteArray×List ByteArray×List ByteArray×List ByteArray×List (ByteArray×List (Int×ByteArray×Int)):=((0:Int),x0,x1,[],Kv x2 x3 x4 x5)
def FR:Bool:=Nat.beq ((Lp.res dy (Bj x0 x1 x2 x3 x4 x5)).1) (0:Nat)
def Bk:List ByteArray:=((Lp.res dy (Bj x0 x1 x2 x3 x4 x5)).2.2.2.2).1
def Kw:Bool:=ltI (↑(List.length (Bk x0 x1 x2 x3 x4 x5)):Int) (IntKind.wrap .i64 ((↑x3.length:Int) + (↑x4.length:Int)))
def Kx:Int×ByteArray×ByteArray×List ByteArray×List ByteArray×List ByteArray×List (ByteArray×List (Int×ByteArray×Int)):=((0:Int),x0,x1,Kv x2 x3 x4 x5)
def LR:Int:=bif rS (vm x2 x3 x4)then(1:Int)else bif bif xK x1 then !rJ x1 x2 x3 else false then(2:Int)else bif FR x0 x1 x2 x3 x4 x5 then(3:Int)else bif rS (Bk x0 x1 x2 x3 x4 x5)then(4:Int)else bif Kw x0 x1 x2 x3 x4 x5 then(5:Int)else bif Nat.beq ((Lp.res dU (Kx x0 x1 x2 x3 x4 x5)).1) (0:Nat)then(6:Int)else(0:Int)
def LU:Bool:=allT [leN (List.length x2 + List.length x3 + List.length x4) (2000000:Nat),leN (List.length (vm x2 x3 x4)) (9223372036854775807:Nat),rS (vm x2 x3 x4)||(!(xK x1&&true)||CE x1 x2 x3),rS (vm x2 x3 x4)||((bif xK x1 then !rJ x1 x2 x3 else false)||Lp.fin dy (Bj x0 x1 x2 x3 x4 x5)),rS (vm x2 x3 x4)||((bif xK x1 then !rJ x1 x2 x3 else false)||(FR x0 x1 x2 x3 x4 x5||leN (List.length (Bk x0 x1 x2 x3 x4 x5)) (9223372036854775807:Nat))),rS (vm x2 x3 x4)||((bif xK x1 then !rJ x1 x2 x3 else false)||(FR x0 x1 x2 x3 x4 x5||(rS (Bk x0 x1 x2 x3 x4 x5)||(Kw x0 x1 x2 x3 x4 x5||Lp.fin dU (Kx x0 x1 x2 x3 x4 x5)))))]
end
def Wv:List SV→List Entry→Option Out
 | [.one ⟨true,[.val (.string x0),.ref 0,.ref 1,.ref 2,.val (.string x1),.ref 3]⟩],[.row false 9 (.str) x2,.row false 9 (.str) x3,.row false 9 (.str) x4,.row false 204 (.pair (.str) (.sl 178 (.pair (.int .i64) (.pair (.str) (.int .i64))))) x5]=>some ⟨.one ⟨false,[.val (.int .i64 (LR x0 x1 x2 x3 x4 x5))]⟩,[.row false 9 agS x2,.row false 9 agS x3,.row false 9 agS x4,.row false 204 (CTy.pair CTy.str (CTy.sl (178:TypeId) aeH)) x5],[],[LU x0 x1 x2 x3 x4 x5]⟩
 |_,_=>none
def Qw:PF prog:=PF.ofG prog [bV,PF.lend bV,PF.fz bV,rT,PF.lend rT,PF.fz rT,nT,PF.lend nT,PF.fz nT,jN,PF.lend jN,PF.fz jN] [dy.F,dU.F] aQ 187 f187 func187 (LOk.fnT (l:= [aS f187 0,aS f187 1]) (by kernel_rfl) (.cons Xv (.cons Xw (.nil _)))) Wv (by
 intro vs es r h;unfold Wv at h;split at h
 ·cases h;kernel_rfl
 ·cases h)
def Su(x0 x1:ByteArray)(x2 x3 x4:List ByteArray)(x5:List (ByteArray×List (Int×ByteArray×Int))):Bool:=bif FO x0 x1 x2 x3 x4 x5 then LR x0 x1 x2 x3 x4 x5==(0:Int)else false
def Sv(x0 x1:ByteArray)(x2 x3 x4:List ByteArray)(x5:List (ByteArray×List (Int×ByteArray×Int))):Bool:=allT [Ku x0 x1 x2 x3 x4 x5,!(FO x0 x1 x2 x3 x4 x5&&true)||LU x0 x1 x2 x3 x4 x5]
def XM:List SV→List Entry→Option Out
 | [.one ⟨true,[.val (.string x0),.ref 0,.ref 1,.ref 2,.val (.string x1),.ref 3]⟩],[.row false 9 (.str) x2,.row false 9 (.str) x3,.row false 9 (.str) x4,.row false 204 (.pair (.str) (.sl 178 (.pair (.int .i64) (.pair (.str) (.int .i64))))) x5]=>some ⟨.one ⟨false,[.val (.bool (Su x0 x1 x2 x3 x4 x5))]⟩,[.row false 9 agS x2,.row false 9 agS x3,.row false 9 agS x4,.row false 204 (CTy.pair CTy.str (CTy.sl (178:TypeId) aeH)) x5],[],[Sv x0 x1 x2 x3 x4 x5]⟩
 |_,_=>none
def ahj:PF prog:=PF.ofG prog [Pr,PF.lend Pr,PF.fz Pr,Qw,PF.lend Qw,PF.fz Qw] [] aQ 118 f118 func118 (fun c _=>LOk.nil c) XM (by
 intro vs es r h;unfold XM at h;split at h
 ·cases h;kernel_rfl
 ·cases h)
def FF(x1:List (Int×ByteArray×Int)):Bool:=ltI (40:Int) (↑x1.length:Int)
def uu:List SV→List Entry→Option Out
 | [.one ⟨true,[.val (.string _x0),.ref 0]⟩],[.row false 178 (.pair (.int .i64) (.pair (.str) (.int .i64))) x1]=>some ⟨.one ⟨false,[.val (.bool (FF x1))]⟩,[.row false 178 aeH x1],[],[]⟩
 |_,_=>none
def oH:PF prog:=PF.ofG prog [] [] aQ 261 f261 func261 (fun c _=>LOk.nil c) uu (by
 intro vs es r h;unfold uu at h;split at h
 ·cases h;kernel_rfl
 ·cases h)
def cB(x1:List (Int×ByteArray×Int)):Bool:=ltI (40:Int) (↑x1.length:Int)
def rc:List SV→List Entry→Option Out
 | [.one ⟨true,[.val (.string _x0),.ref 0]⟩],[.row false 178 (.pair (.int .i64) (.pair .str (.int .i64))) x1]=>some ⟨.one ⟨false,[.val (.bool (cB x1))]⟩,[.row false 178 aeH x1],[],[]⟩
 |_,_=>none
def cE:PF prog:=PF.ofG prog [] [] aQ 261 f261 func261 (fun c _=>LOk.nil c) rc (by
 intro vs es r h;unfold rc at h;split at h
 ·cases h;kernel_rfl
 ·cases h)
abbrev bD:=Int×Int×List (ByteArray×(List (Int×(ByteArray×Int))))
def jy(y0 y1:Int):Bool:=ltI y0 y1
def ni(y0:Int):Bool:=leI (0:Int) y0
def nj(y0:Int)(y2:List (ByteArray×(List (Int×(ByteArray×Int))))):Bool:=ltI y0 (↑y2.length:Int)
def nk(y0:Int)(y2:List (ByteArray×(List (Int×(ByteArray×Int))))):Bool:=ltN y0.toNat y2.length
def fS(y0:Int)(y2:List (ByteArray×(List (Int×(ByteArray×Int))))):Bool:=cB ((Option.getD y2[Int.toNat y0]? (xt (CTy.pair CTy.str (CTy.sl (178:Nat) aeH)))).2)
def su(y0:Int):Int:=IntKind.wrap .i64 (y0 + (1:Int))
def IR:bD→List (Nat×SV)
 |(y0,y1,_)=> [(8,(.one ⟨false,[.val (.int .i64 y0)]⟩)),(7,(.one ⟨false,[.val (.int .i64 y1)]⟩)),(1,(.one ⟨false,[.val (.func (.func 261) ⟨[]⟩ ⟨[]⟩)]⟩)),(0,(.one ⟨false,[.ref 0]⟩))]
def IL:bD→List (Nat×Entry)
 |(_,_,y2)=> [(0,(.row false 204 (CTy.pair CTy.str (CTy.sl (178:Nat) aeH)) y2))]
def Je:Nat→bD→List (Nat×SV)
 |0,(y0,_,_)=> [(4,(.one ⟨false,[.val (.int .i64 y0)]⟩))]
 |_,(_,_,_)=> []
def IZ:Nat→bD→List (Nat×Entry)
 |0,(_,_,y2)=> [(0,(.row false 204 (CTy.pair CTy.str (CTy.sl (178:Nat) aeH)) y2))]
 |_,(_,_,y2)=> [(0,(.row false 204 (CTy.pair CTy.str (CTy.sl (178:Nat) aeH)) y2))]
def iY:bD→LT bD
 |(y0,y1,y2)=> .ite (jy y0 y1) (.need [ni y0,nj y0 y2,nk y0 y2] (.ite (fS y0 y2) (.ext 0 [(0,0)]) (.nrm ((su y0),y1,y2) [(0,0)]))) (.ext 1 [(0,0)])
def rv(s:St):Option bD:=
 (match s.look 8 with
 |some ⟨none,.one ⟨false,[.val (.int .i64 y0)]⟩⟩=>
 (match s.look 7 with
 |some ⟨none,.one ⟨false,[.val (.int .i64 y1)]⟩⟩=>
 (match s.look 1 with
 |some ⟨none,.one ⟨false,[.val (.func (.func 261) ⟨[]⟩ ⟨[]⟩)]⟩⟩=>
 (match s.look 0 with
 |some ⟨none,.one ⟨false,[.ref 0]⟩⟩=>
 (match s.ent 0 with
 |some (.row false 204 (.pair .str (.sl (178:Nat) (.pair (.int .i64) (.pair .str (.int .i64))))) y2)=>
 some (y0,y1,y2)
 |_=>none)
 |_=>none)
 |_=>none)
 |_=>none)
 |_=>none)
def aB:Lp bD where
 h:=⟨[9,10,5,11,12,13,14,15,16,17,4,18,8],[0],[],[]⟩
 JL:=IR
 JE:=IL
 XL:=Je
 XE:=IZ
 q:=fun j=>match j with | 0=> .ret | _=> .exit 0
 tags:= [0,1]
 lt:=iY
 fuel:=fun(y0,y1,y2)=>y0.natAbs + y1.natAbs + y2.length
 fix:=fun(_,y1,y2) (y0,_,_)=>(y0,y1,y2)
 σ:= [(0,0)]
 rd:=rv
theorem HJ:LoopOk prog (fun k=>Nat.blt k Tryz.f262.ntmps) aB.F (aS f262 0):=by
 refine Lp.ok (tbl:= [cE,PF.lend cE,PF.fz cE]) (lf:= []) aQ aB (by kernel_rfl) (LOk.nil _) (fun _=>rfl) (fun j _=>by unfold aB;match j with | 0=>rfl | _ + 1=>rfl) ?_ ?_ ?_ ?_ (fun _=>rfl) ?_
 ·rintro⟨y0,y1,y2⟩;kernel_rfl
 ·rintro⟨y0,y1,y2⟩;kernel_rfl
 ·intro s x h
  have h:rv s=some x:=h
  unfold rv at h
  repeat' split at h
  all_goals cases h
  exact⟨aa (by assumption) rfl (aa (by assumption) rfl (aa (by assumption) rfl (aa (by assumption) rfl (rfl)))),ab rfl (by assumption) rfl (rfl)⟩
 ·rintro⟨y0,y1,y2⟩;kernel_rfl
 ·rintro⟨y0,y1,y2⟩ z;exact(And.intro (And.intro trivial rfl) trivial)
section
variable (x0:List (ByteArray×List (Int×ByteArray×Int)))
def oT:Int×Int×List (ByteArray×List (Int×ByteArray×Int)):=((0:Int),(↑x0.length:Int),x0)
def ug:Int:=bif Nat.beq ((Lp.res aB (oT x0)).1) (0:Nat)then ((Lp.res aB (oT x0)).2).1else(-1:Int)
def uh:Bool:=allT [Lp.fin aB (oT x0)]
end
def Bm:List SV→List Entry→Option Out
 | [.one ⟨false,[.ref 0]⟩,.one ⟨false,[.val (.func (.func 261) ⟨[]⟩ ⟨[]⟩)]⟩],[.row false 204 (.pair .str (.sl (178:Nat) (.pair (.int .i64) (.pair .str (.int .i64))))) x0]=>some ⟨.one ⟨false,[.val (.int .i64 (ug x0))]⟩,[.row false 204 (CTy.pair CTy.str (CTy.sl (178:Nat) aeH)) x0],[],[uh x0]⟩
 |_,_=>none
def ub:PF prog:=PF.ofG prog [cE,PF.lend cE,PF.fz cE] [aB.F] aQ 262 f262 func262 (LOk.fnT (l:= [aS f262 0]) (by kernel_rfl) (.cons HJ (.nil _))) Bm (by
 intro vs es r h;unfold Bm at h;split at h
 ·cases h;kernel_rfl
 ·cases h)
def sm(x0:List (ByteArray×List (Int×ByteArray×Int))):Bool:=leI (0:Int) (ug x0)
def sn(x0:List (ByteArray×List (Int×ByteArray×Int))):Bool:=allT [uh x0]
def zg:List SV→List Entry→Option Out
 | [.one ⟨false,[.ref 0]⟩,.one ⟨false,[.val (.func (.func 261) ⟨[]⟩ ⟨[]⟩)]⟩],[.row false 204 (.pair .str (.sl (178:Nat) (.pair (.int .i64) (.pair .str (.int .i64))))) x0]=>some ⟨.one ⟨false,[.val (.bool (sm x0))]⟩,[.row false 204 (CTy.pair CTy.str (CTy.sl (178:Nat) aeH)) x0],[],[sn x0]⟩
 |_,_=>none
def sb:PF prog:=PF.ofG prog [ub,PF.lend ub,PF.fz ub] [] aQ 229 f229 func229 (fun c _=>LOk.nil c) zg (by
 intro vs es r h;unfold zg at h;split at h
 ·cases h;kernel_rfl
 ·cases h)
section
variable (x2 x3 x4:List ByteArray)(x5:List (ByteArray×List (Int×ByteArray×Int)))
def oW:Bool:=bif bif bif leI (↑x2.length:Int) (20:Int)then leI (↑x3.length:Int) (20:Int)else false then leI (↑x4.length:Int) (20:Int)else false then leI (↑x5.length:Int) (40:Int)else false
def kg:Bool:=bif oW x2 x3 x4 x5 then !sm x5 else false
def kh:Bool:=allT [!(oW x2 x3 x4 x5&&true)||sn x5]
end
def vF:List SV→List Entry→Option Out
 | [.one ⟨true,[.val (.string _x0),.ref 0,.ref 1,.ref 2,.val (.string _x1),.ref 3]⟩],[.row false 9 (.str) x2,.row false 9 (.str) x3,.row false 9 (.str) x4,.row false 204 (.pair (.str) (.sl 178 (.pair (.int .i64) (.pair (.str) (.int .i64))))) x5]=>some ⟨.one ⟨false,[.val (.bool (kg x2 x3 x4 x5))]⟩,[.row false 9 agS x2,.row false 9 agS x3,.row false 9 agS x4,.row false 204 (CTy.pair CTy.str (CTy.sl (178:TypeId) aeH)) x5],[],[kh x2 x3 x4 x5]⟩
 |_,_=>none
def pE:PF prog:=PF.ofG prog [oH,PF.lend oH,PF.fz oH,sb,PF.lend sb,PF.fz sb] [] aQ 228 f228 func228 (fun c _=>LOk.nil c) vF (by
 intro vs es r h;unfold vF at h;split at h
 ·cases h;kernel_rfl
 ·cases h)
def acq(x0:ByteArray)(x1:List (Int×ByteArray×Int)):Bool:= !lineB (x0,x1)
def acr(x1:List (Int×ByteArray×Int)):Bool:=allT [QW x1]
def Rj:List SV→List Entry→Option Out
 | [.one ⟨true,[.val (.string x0),.ref 0]⟩],[.row false 178 (.pair (.int .i64) (.pair (.str) (.int .i64))) x1]=>some ⟨.one ⟨false,[.val (.bool (acq x0 x1))]⟩,[.row false 178 aeH x1],[],[acr x1]⟩
 |_,_=>none
def Mg:PF prog:=PF.ofG prog [Hx,PF.lend Hx,PF.fz Hx] [] aQ 230 f230 func230 (fun c _=>LOk.nil c) Rj (by
 intro vs es r h;unfold Rj at h;split at h
 ·cases h;kernel_rfl
 ·cases h)
def xX(x0:ByteArray)(x1:List (Int×ByteArray×Int)):Bool:= !lineB (x0,x1)
def Ez(x1:List (Int×ByteArray×Int)):Bool:=allT [QW x1]
def Lf:List SV→List Entry→Option Out
 | [.one ⟨true,[.val (.string x0),.ref 0]⟩],[.row false 178 (.pair (.int .i64) (.pair .str (.int .i64))) x1]=>some ⟨.one ⟨false,[.val (.bool (xX x0 x1))]⟩,[.row false 178 aeH x1],[],[Ez x1]⟩
 |_,_=>none
def qf:PF prog:=PF.ofG prog [Hx,PF.lend Hx,PF.fz Hx] [] aQ 230 f230 func230 (fun c _=>LOk.nil c) Lf (by
 intro vs es r h;unfold Lf at h;split at h
 ·cases h;kernel_rfl
 ·cases h)
abbrev bE:=Int×Int×List (ByteArray×(List (Int×(ByteArray×Int))))
def bZ(y0:Int)(y2:List (ByteArray×(List (Int×(ByteArray×Int))))):ByteArray×List (Int×ByteArray×Int):=Option.getD y2[Int.toNat y0]? (xt (CTy.pair CTy.str (CTy.sl (178:Nat) aeH)))
def jz(y0 y1:Int):Bool:=ltI y0 y1
def nn(y0:Int):Bool:=leI (0:Int) y0
def np(y0:Int)(y2:List (ByteArray×(List (Int×(ByteArray×Int))))):Bool:=ltI y0 (↑y2.length:Int)
def nq(y0:Int)(y2:List (ByteArray×(List (Int×(ByteArray×Int))))):Bool:=ltN y0.toNat y2.length
def jA(y0:Int)(y2:List (ByteArray×(List (Int×(ByteArray×Int))))):Bool:=Ez ((bZ y0 y2).2)
def jB(y0:Int)(y2:List (ByteArray×(List (Int×(ByteArray×Int))))):Bool:=xX ((bZ y0 y2).1) ((bZ y0 y2).2)
def sv(y0:Int):Int:=IntKind.wrap .i64 (y0 + (1:Int))
def IU:bE→List (Nat×SV)
 |(y0,y1,_)=> [(8,(.one ⟨false,[.val (.int .i64 y0)]⟩)),(7,(.one ⟨false,[.val (.int .i64 y1)]⟩)),(1,(.one ⟨false,[.val (.func (.func 230) ⟨[]⟩ ⟨[]⟩)]⟩)),(0,(.one ⟨false,[.ref 0]⟩))]
def IM:bE→List (Nat×Entry)
 |(_,_,y2)=> [(0,(.row false 204 (CTy.pair CTy.str (CTy.sl (178:Nat) aeH)) y2))]
def Jf:Nat→bE→List (Nat×SV)
 |0,(y0,_,_)=> [(4,(.one ⟨false,[.val (.int .i64 y0)]⟩))]
 |_,(_,_,_)=> []
def Ja:Nat→bE→List (Nat×Entry)
 |0,(_,_,y2)=> [(0,(.row false 204 (CTy.pair CTy.str (CTy.sl (178:Nat) aeH)) y2))]
 |_,(_,_,y2)=> [(0,(.row false 204 (CTy.pair CTy.str (CTy.sl (178:Nat) aeH)) y2))]
def iZ:bE→LT bE
 |(y0,y1,y2)=> .ite (jz y0 y1) (.need [nn y0,np y0 y2,nq y0 y2,jA y0 y2] (.ite (jB y0 y2) (.ext 0 [(0,0)]) (.nrm ((sv y0),y1,y2) [(0,0)]))) (.ext 1 [(0,0)])
def rx(s:St):Option bE:=
 (match s.look 8 with
 |some ⟨none,.one ⟨false,[.val (.int .i64 y0)]⟩⟩=>
 (match s.look 7 with
 |some ⟨none,.one ⟨false,[.val (.int .i64 y1)]⟩⟩=>
 (match s.look 1 with
 |some ⟨none,.one ⟨false,[.val (.func (.func 230) ⟨[]⟩ ⟨[]⟩)]⟩⟩=>
 (match s.look 0 with
 |some ⟨none,.one ⟨false,[.ref 0]⟩⟩=>
 (match s.ent 0 with
 |some (.row false 204 (.pair .str (.sl (178:Nat) (.pair (.int .i64) (.pair .str (.int .i64))))) y2)=>
 some (y0,y1,y2)
 |_=>none)
 |_=>none)
 |_=>none)
 |_=>none)
 |_=>none)
def aC:Lp bE where
 h:=⟨[9,10,5,11,12,13,14,15,16,17,4,18,8],[0],[],[]⟩
 JL:=IU
 JE:=IM
 XL:=Jf
 XE:=Ja
 q:=fun j=>match j with | 0=> .ret | _=> .exit 0
 tags:= [0,1]
 lt:=iZ
 fuel:=fun(y0,y1,y2)=>y0.natAbs + y1.natAbs + y2.length
 fix:=fun(_,y1,y2) (y0,_,_)=>(y0,y1,y2)
 σ:= [(0,0)]
 rd:=rx
theorem HK:LoopOk prog (fun k=>Nat.blt k Tryz.f262.ntmps) aC.F (aS f262 0):=by
 refine Lp.ok (tbl:= [qf,PF.lend qf,PF.fz qf]) (lf:= []) aQ aC (by kernel_rfl) (LOk.nil _) (fun _=>rfl) (fun j _=>by unfold aC;match j with | 0=>rfl | _ + 1=>rfl) ?_ ?_ ?_ ?_ (fun _=>rfl) ?_
 ·rintro⟨y0,y1,y2⟩;kernel_rfl
 ·rintro⟨y0,y1,y2⟩;kernel_rfl
 ·intro s x h
  have h:rx s=some x:=h
  unfold rx at h
  repeat' split at h
  all_goals cases h
  exact⟨aa (by assumption) rfl (aa (by assumption) rfl (aa (by assumption) rfl (aa (by assumption) rfl (rfl)))),ab rfl (by assumption) rfl (rfl)⟩
 ·rintro⟨y0,y1,y2⟩;kernel_rfl
 ·rintro⟨y0,y1,y2⟩ z;exact(And.intro (And.intro trivial rfl) trivial)
section
variable (x0:List (ByteArray×List (Int×ByteArray×Int)))
def oU:Int×Int×List (ByteArray×List (Int×ByteArray×Int)):=((0:Int),(↑x0.length:Int),x0)
def ui:Int:=bif Nat.beq ((Lp.res aC (oU x0)).1) (0:Nat)then ((Lp.res aC (oU x0)).2).1else(-1:Int)
def uj:Bool:=allT [Lp.fin aC (oU x0)]
end
def Bn:List SV→List Entry→Option Out
 | [.one ⟨false,[.ref 0]⟩,.one ⟨false,[.val (.func (.func 230) ⟨[]⟩ ⟨[]⟩)]⟩],[.row false 204 (.pair .str (.sl (178:Nat) (.pair (.int .i64) (.pair .str (.int .i64))))) x0]=>some ⟨.one ⟨false,[.val (.int .i64 (ui x0))]⟩,[.row false 204 (CTy.pair CTy.str (CTy.sl (178:Nat) aeH)) x0],[],[uj x0]⟩
 |_,_=>none
def uc:PF prog:=PF.ofG prog [qf,PF.lend qf,PF.fz qf] [aC.F] aQ 262 f262 func262 (LOk.fnT (l:= [aS f262 0]) (by kernel_rfl) (.cons HK (.nil _))) Bn (by
 intro vs es r h;unfold Bn at h;split at h
 ·cases h;kernel_rfl
 ·cases h)
def ne(x0:List (ByteArray×List (Int×ByteArray×Int))):Bool:=leI (0:Int) (ui x0)
def nf(x0:List (ByteArray×List (Int×ByteArray×Int))):Bool:=allT [uj x0]
def zh:List SV→List Entry→Option Out
 | [.one ⟨false,[.ref 0]⟩,.one ⟨false,[.val (.func (.func 230) ⟨[]⟩ ⟨[]⟩)]⟩],[.row false 204 (.pair .str (.sl (178:Nat) (.pair (.int .i64) (.pair .str (.int .i64))))) x0]=>some ⟨.one ⟨false,[.val (.bool (ne x0))]⟩,[.row false 204 (CTy.pair CTy.str (CTy.sl (178:Nat) aeH)) x0],[],[nf x0]⟩
 |_,_=>none
def sc:PF prog:=PF.ofG prog [uc,PF.lend uc,PF.fz uc] [] aQ 229 f229 func229 (fun c _=>LOk.nil c) zh (by
 intro vs es r h;unfold zh at h;split at h
 ·cases h;kernel_rfl
 ·cases h)
def Do(x0:ByteArray)(x2 x3 x4:List ByteArray):List (List ByteArray):=bif lN x0&&true then [x2,x3,x4]else []
def Id(x0:ByteArray)(x2 x3 x4:List ByteArray):List ByteArray:=bif lN x0&&true then List.flatten (Do x0 x2 x3 x4)else []
def NG(x0 x1:ByteArray)(x2 x3 x4:List ByteArray)(x5:List (ByteArray×List (Int×ByteArray×Int))):Bool:=
 bif
  bif
    bif
      bif bif lN x0 then List.all (Id x0 x2 x3 x4) mM else false then
       bif ByteArray.toList x1==ByteArray.toList { data:= #[] } then true else lN x1
      else false then
     ltI (0:Int) (↑x2.length:Int)
    else false then
   ltI (0:Int) (↑x4.length:Int)
  else false then
 ltI (0:Int) (↑x5.length:Int)
 else false
section
variable (x0 x1:ByteArray)(x2 x3 x4:List ByteArray)(x5:List (ByteArray×List (Int×ByteArray×Int)))
def NH:Bool:=bif NG x0 x1 x2 x3 x4 x5 then kg x2 x3 x4 x5 else false
def Ft:Bool:=bif NH x0 x1 x2 x3 x4 x5 then !ne x5 else false
def JU:Bool:=allT [!(lN x0&&true)||leN (List.length (Do x0 x2 x3 x4)) (1000:Nat)&&leN (Hr (Do x0 x2 x3 x4)) (2000000:Nat),!(lN x0&&true)||leN (List.length (Id x0 x2 x3 x4)) (9223372036854775807:Nat),!(NG x0 x1 x2 x3 x4 x5&&true)||kh x2 x3 x4 x5,!(NH x0 x1 x2 x3 x4 x5&&true)||nf x5]
end
def Uk:List SV→List Entry→Option Out
 | [.one ⟨true,[.val (.string x0),.ref 0,.ref 1,.ref 2,.val (.string x1),.ref 3]⟩],[.row false 9 (.str) x2,.row false 9 (.str) x3,.row false 9 (.str) x4,.row false 204 (.pair (.str) (.sl 178 (.pair (.int .i64) (.pair (.str) (.int .i64))))) x5]=>some ⟨.one ⟨false,[.val (.bool (Ft x0 x1 x2 x3 x4 x5))]⟩,[.row false 9 agS x2,.row false 9 agS x3,.row false 9 agS x4,.row false 204 (CTy.pair CTy.str (CTy.sl (178:TypeId) aeH)) x5],[],[JU x0 x1 x2 x3 x4 x5]⟩
 |_,_=>none
def Pl:PF prog:=PF.ofG prog [Lq,Qp,PF.lend Qp,PF.fz Qp,ci,PF.lend ci,PF.fz ci,pE,PF.lend pE,PF.fz pE,Mg,PF.lend Mg,PF.fz Mg,sc,PF.lend sc,PF.fz sc] [] aQ 183 f183 func183 (fun c _=>LOk.nil c) Uk (by
 intro vs es r h;unfold Uk at h;split at h
 ·cases h;kernel_rfl
 ·cases h)
section
variable (x2 x3 x4:List ByteArray)
def gF:List (List ByteArray):= [x2,x3,x4]
def aZ:List ByteArray:=List.flatten (gF x2 x3 x4)
def lj:Bool:=allT [leN (List.length (gF x2 x3 x4)) (1000:Nat)&&leN (Hr (gF x2 x3 x4)) (2000000:Nat)]
end
def wP:List SV→List Entry→Option Out
 | [.one ⟨true,[.val (.string _x0),.ref 0,.ref 1,.ref 2,.val (.string _x1),.ref 3]⟩],[.row false 9 (.str) x2,.row false 9 (.str) x3,.row false 9 (.str) x4,.row false 204 (.pair (.str) (.sl 178 (.pair (.int .i64) (.pair (.str) (.int .i64))))) x5]=>some ⟨.one ⟨false,[.ref 4]⟩,[.row false 9 agS x2,.row false 9 agS x3,.row false 9 agS x4,.row false 204 (CTy.pair CTy.str (CTy.sl (178:TypeId) aeH)) x5],[.row true 9 agS (aZ x2 x3 x4)],[lj x2 x3 x4]⟩
 |_,_=>none
def eA:PF prog:=PF.ofG prog [ci,PF.lend ci,PF.fz ci] [] aQ 233 f233 func233 (fun c _=>LOk.nil c) wP (by
 intro vs es r h;unfold wP at h;split at h
 ·cases h;kernel_rfl
 ·cases h)
section
variable (x0:Int)(x1:ByteArray)(x5 x6:List ByteArray)
def pL:Bool:=bif x0==(1:Int)then !mu x5 x1 else false
def pQ:Bool:=bif pL x0 x1 x5 then !mu x6 x1 else false
def pR:Bool:=allT [!(x0==(1:Int)&&true)||leN x5.length (9223372036854775807:Nat),!(pL x0 x1 x5&&true)||leN x6.length (9223372036854775807:Nat)]
end
def pM:List SV→List Entry→Option Out
 | [.one ⟨true,[.val (.int .i64 x0),.val (.string x1),.val (.int .i64 _x2)]⟩,.one ⟨false,[.ptr 0 0]⟩],[.box 63 [.val (.string x3),.ref 1,.ref 2,.ref 3,.val (.string x4),.ref 4],.row false 9 (.str) x5,.row false 9 (.str) x6,.row false 9 (.str) x7,.row false 204 (.pair .str (.sl (178:Nat) (.pair (.int .i64) (.pair .str (.int .i64))))) x8]=>some ⟨.one ⟨false,[.val (.bool (pQ x0 x1 x5 x6))]⟩,[.box 63 [.val (.string x3),.ref 1,.ref 2,.ref 3,.val (.string x4),.ref 4],.row false 9 agS x5,.row false 9 agS x6,.row false 9 agS x7,.row false 204 (CTy.pair CTy.str (CTy.sl (178:Nat) aeH)) x8],[],[pR x0 x1 x5 x6]⟩
 |_,_=>none
def bW:PF prog:=PF.ofG prog [aH,PF.lend aH,PF.fz aH] [] aQ 265 f265 func265 (fun c _=>LOk.nil c) pM (by
 intro vs es r h;unfold pM at h;split at h
 ·cases h;kernel_rfl
 ·cases h)
abbrev cX:=Int×Int×ByteArray×ByteArray×List (Int×(ByteArray×Int))×List ByteArray×List ByteArray×List ByteArray×List (ByteArray×(List (Int×(ByteArray×Int))))
section
variable (y0 y1:Int)(y4:List (Int×(ByteArray×Int)))(y5 y6:List ByteArray)
def mE:Int×ByteArray×Int:=Option.getD y4[Int.toNat y0]? ((0:Int),ByteArray.empty,(0:Int))
def Kn:Bool:=ltI y0 y1
def Ko:Bool:=leI (0:Int) y0
def Kp:Bool:=ltI y0 (↑y4.length:Int)
def Kq:Bool:=ltN y0.toNat y4.length
def Kr:Bool:=pR ((mE y0 y4).1) (((mE y0 y4).2).1) y5 y6
def Ks:Bool:=pQ ((mE y0 y4).1) (((mE y0 y4).2).1) y5 y6
def Kt:Int:=IntKind.wrap .i64 (y0 + (1:Int))
end
def IW:cX→List (Nat×SV)
 |(y0,y1,_,_,_,_,_,_,_)=> [(8,(.one ⟨false,[.val (.int .i64 y0)]⟩)),(7,(.one ⟨false,[.val (.int .i64 y1)]⟩)),(1,(.one ⟨false,[.clo 265 [0]]⟩)),(0,(.one ⟨false,[.ref 1]⟩))]
def IP:cX→List (Nat×Entry)
 |(_,_,y2,y3,y4,y5,y6,y7,y8)=> [(0,(.box 63 [.val (.string y2),.ref 2,.ref 3,.ref 4,.val (.string y3),.ref 5])),(1,(.row false 178 aeH y4)),(2,(.row false 9 agS y5)),(3,(.row false 9 agS y6)),(4,(.row false 9 agS y7)),(5,(.row false 204 (CTy.pair CTy.str (CTy.sl (178:Nat) aeH)) y8))]
def Jh:Nat→cX→List (Nat×SV)
 |0,(y0,_,_,_,_,_,_,_,_)=> [(4,(.one ⟨false,[.val (.int .i64 y0)]⟩))]
 |_,(_,_,_,_,_,_,_,_,_)=> []
def Jc:Nat→cX→List (Nat×Entry)
 |0,(_,_,y2,y3,y4,y5,y6,y7,y8)=> [(0,(.box 63 [.val (.string y2),.ref 2,.ref 3,.ref 4,.val (.string y3),.ref 5])),(1,(.row false 178 aeH y4)),(2,(.row false 9 agS y5)),(3,(.row false 9 agS y6)),(4,(.row false 9 agS y7)),(5,(.row false 204 (CTy.pair CTy.str (CTy.sl (178:Nat) aeH)) y8))]
 |_,(_,_,y2,y3,y4,y5,y6,y7,y8)=> [(0,(.box 63 [.val (.string y2),.ref 2,.ref 3,.ref 4,.val (.string y3),.ref 5])),(1,(.row false 178 aeH y4)),(2,(.row false 9 agS y5)),(3,(.row false 9 agS y6)),(4,(.row false 9 agS y7)),(5,(.row false 204 (CTy.pair CTy.str (CTy.sl (178:Nat) aeH)) y8))]
def Jq:cX→LT cX
 |(y0,y1,y2,y3,y4,y5,y6,y7,y8)=> .ite (Kn y0 y1) (.need [Ko y0,Kp y0 y4,Kq y0 y4,Kr y0 y4 y5 y6] (.ite (Ks y0 y4 y5 y6) (.ext 0 [(0,0),(1,1),(2,2),(3,3),(4,4),(5,5)]) (.nrm ((Kt y0),y1,y2,y3,y4,y5,y6,y7,y8) [(0,0),(1,1),(2,2),(3,3),(4,4),(5,5)]))) (.ext 1 [(0,0),(1,1),(2,2),(3,3),(4,4),(5,5)])
def rz(s:St):Option cX:=
 (match s.look 8 with
 |some ⟨none,.one ⟨false,[.val (.int .i64 y0)]⟩⟩=>
 (match s.look 7 with
 |some ⟨none,.one ⟨false,[.val (.int .i64 y1)]⟩⟩=>
 (match s.look 1 with
 |some ⟨none,.one ⟨false,[.clo 265 [1]]⟩⟩=>
 (match s.look 0 with
 |some ⟨none,.one ⟨false,[.ref 0]⟩⟩=>
 (match s.ent 1 with
 |some (.box 63 [.val (.string y2),.ref 2,.ref 3,.ref 4,.val (.string y3),.ref 5])=>
 (match s.ent 0 with
 |some (.row false 178 (.pair (.int .i64) (.pair .str (.int .i64))) y4)=>
 (match s.ent 2 with
 |some (.row false 9 (.str) y5)=>
 (match s.ent 3 with
 |some (.row false 9 (.str) y6)=>
 (match s.ent 4 with
 |some (.row false 9 (.str) y7)=>
 (match s.ent 5 with
 |some (.row false 204 (.pair .str (.sl (178:Nat) (.pair (.int .i64) (.pair .str (.int .i64))))) y8)=>
 some (y0,y1,y2,y3,y4,y5,y6,y7,y8)
 |_=>none)
 |_=>none)
 |_=>none)
 |_=>none)
 |_=>none)
 |_=>none)
 |_=>none)
 |_=>none)
 |_=>none)
 |_=>none)
def dA:Lp cX where
 h:=⟨[9,10,5,11,12,13,14,15,16,17,4,18,8],[0,1,2,3,4,5],[],[]⟩
 JL:=IW
 JE:=IP
 XL:=Jh
 XE:=Jc
 q:=fun j=>match j with | 0=> .ret | _=> .exit 0
 tags:= [0,1]
 lt:=Jq
 fuel:=fun(y0,y1,y2,y3,y4,y5,y6,y7,y8)=>y0.natAbs + y1.natAbs + y2.size + y3.size + y4.length + y5.length + y6.length + y7.length + y8.length
 fix:=fun(_,y1,y2,y3,y4,y5,y6,y7,y8) (y0,_,_,_,_,_,_,_,_)=>(y0,y1,y2,y3,y4,y5,y6,y7,y8)
 σ:= [(0,1),(1,0),(2,2),(3,3),(4,4),(5,5)]
 rd:=rz
theorem HM:LoopOk prog (fun k=>Nat.blt k Tryz.f214.ntmps) dA.F (aS f214 0):=by
 refine Lp.ok (tbl:= [bW,PF.lend bW,PF.fz bW]) (lf:= []) aQ dA (by kernel_rfl) (LOk.nil _) (fun _=>rfl) (fun j _=>by unfold dA;match j with | 0=>rfl | _ + 1=>rfl) ?_ ?_ ?_ ?_ (fun _=>rfl) ?_
 ·rintro⟨y0,y1,y2,y3,y4,y5,y6,y7,y8⟩;kernel_rfl
 ·rintro⟨y0,y1,y2,y3,y4,y5,y6,y7,y8⟩;kernel_rfl
 ·intro s x h
  have h:rz s=some x:=h
  unfold rz at h
  repeat' split at h
  all_goals cases h
  exact⟨aa (by assumption) rfl (aa (by assumption) rfl (aa (by assumption) rfl (aa (by assumption) rfl (rfl)))),ab rfl (by assumption) rfl (ab rfl (by assumption) rfl (ab rfl (by assumption) rfl (ab rfl (by assumption) rfl (ab rfl (by assumption) rfl (ab rfl (by assumption) rfl (rfl))))))⟩
 ·rintro⟨y0,y1,y2,y3,y4,y5,y6,y7,y8⟩;kernel_rfl
 ·rintro⟨y0,y1,y2,y3,y4,y5,y6,y7,y8⟩ z;exact(And.intro (And.intro trivial rfl) trivial)
section
variable (x0:List (Int×ByteArray×Int))(x1 x2:ByteArray)(x3 x4 x5:List ByteArray)(x6:List (ByteArray×List (Int×ByteArray×Int)))
def tM:Int×Int×ByteArray×ByteArray×List (Int×ByteArray×Int)×List ByteArray×List ByteArray×List ByteArray×List (ByteArray×List (Int×ByteArray×Int)):=((0:Int),(↑x0.length:Int),x1,x2,x0,x3,x4,x5,x6)
def tN:Bool:=Nat.beq ((Lp.res dA (tM x0 x1 x2 x3 x4 x5 x6)).1) (0:Nat)
def Cj:Int:=bif tN x0 x1 x2 x3 x4 x5 x6 then ((Lp.res dA (tM x0 x1 x2 x3 x4 x5 x6)).2).1else(-1:Int)
def Ck:ByteArray:=bif tN x0 x1 x2 x3 x4 x5 x6 then x1 else x1
def Cl:ByteArray:=bif tN x0 x1 x2 x3 x4 x5 x6 then x2 else x2
def Cm:Bool:=allT [Lp.fin dA (tM x0 x1 x2 x3 x4 x5 x6)]
end
def Bp:List SV→List Entry→Option Out
 | [.one ⟨false,[.ref 0]⟩,.one ⟨false,[.clo 265 [1]]⟩],[.row false 178 (.pair (.int .i64) (.pair .str (.int .i64))) x0,.box 63 [.val (.string x1),.ref 2,.ref 3,.ref 4,.val (.string x2),.ref 5],.row false 9 (.str) x3,.row false 9 (.str) x4,.row false 9 (.str) x5,.row false 204 (.pair .str (.sl (178:Nat) (.pair (.int .i64) (.pair .str (.int .i64))))) x6]=>some ⟨.one ⟨false,[.val (.int .i64 (Cj x0 x1 x2 x3 x4 x5 x6))]⟩,[.row false 178 aeH x0,.box 63 [.val (.string (Ck x0 x1 x2 x3 x4 x5 x6)),.ref 2,.ref 3,.ref 4,.val (.string (Cl x0 x1 x2 x3 x4 x5 x6)),.ref 5],.row false 9 agS x3,.row false 9 agS x4,.row false 9 agS x5,.row false 204 (CTy.pair CTy.str (CTy.sl (178:Nat) aeH)) x6],[],[Cm x0 x1 x2 x3 x4 x5 x6]⟩
 |_,_=>none
def ue:PF prog:=PF.ofG prog [bW,PF.lend bW,PF.fz bW] [dA.F] aQ 214 f214 func214 (LOk.fnT (l:= [aS f214 0]) (by kernel_rfl) (.cons HM (.nil _))) Bp (by
 intro vs es r h;unfold Bp at h;split at h
 ·cases h;kernel_rfl
 ·cases h)
section
variable (x0:List (Int×ByteArray×Int))(x1 x2:ByteArray)(x3 x4 x5:List ByteArray)(x6:List (ByteArray×List (Int×ByteArray×Int)))
def zP:Bool:=leI (0:Int) (Cj x0 x1 x2 x3 x4 x5 x6)
def Kj:ByteArray:=Ck x0 x1 x2 x3 x4 x5 x6
def Kk:ByteArray:=Cl x0 x1 x2 x3 x4 x5 x6
def zQ:Bool:=allT [Cm x0 x1 x2 x3 x4 x5 x6]
end
def zj:List SV→List Entry→Option Out
 | [.one ⟨false,[.ref 0]⟩,.one ⟨false,[.clo 265 [1]]⟩],[.row false 178 (.pair (.int .i64) (.pair .str (.int .i64))) x0,.box 63 [.val (.string x1),.ref 2,.ref 3,.ref 4,.val (.string x2),.ref 5],.row false 9 (.str) x3,.row false 9 (.str) x4,.row false 9 (.str) x5,.row false 204 (.pair .str (.sl (178:Nat) (.pair (.int .i64) (.pair .str (.int .i64))))) x6]=>some ⟨.one ⟨false,[.val (.bool (zP x0 x1 x2 x3 x4 x5 x6))]⟩,[.row false 178 aeH x0,.box 63 [.val (.string (Kj x0 x1 x2 x3 x4 x5 x6)),.ref 2,.ref 3,.ref 4,.val (.string (Kk x0 x1 x2 x3 x4 x5 x6)),.ref 5],.row false 9 agS x3,.row false 9 agS x4,.row false 9 agS x5,.row false 204 (CTy.pair CTy.str (CTy.sl (178:Nat) aeH)) x6],[],[zQ x0 x1 x2 x3 x4 x5 x6]⟩
 |_,_=>none
def sd:PF prog:=PF.ofG prog [ue,PF.lend ue,PF.fz ue] [] aQ 159 f159 func159 (fun c _=>LOk.nil c) zj (by
 intro vs es r h;unfold zj at h;split at h
 ·cases h;kernel_rfl
 ·cases h)
def EA(x0 x1:ByteArray)(x3 x4 x5:List ByteArray)(x6:List (ByteArray×List (Int×ByteArray×Int)))(x7:List (Int×ByteArray×Int)):Bool:=zP x7 x0 x1 x3 x4 x5 x6
def EB(x0 x1:ByteArray)(x3 x4 x5:List ByteArray)(x6:List (ByteArray×List (Int×ByteArray×Int)))(x7:List (Int×ByteArray×Int)):Bool:=allT [zQ x7 x0 x1 x3 x4 x5 x6]
def tF:List SV→List Entry→Option Out
 | [.one ⟨true,[.val (.string x0),.ref 0,.ref 1,.ref 2,.val (.string x1),.ref 3]⟩,.one ⟨true,[.val (.string _x2),.ref 4]⟩],[.row false 9 (.str) x3,.row false 9 (.str) x4,.row false 9 (.str) x5,.row false 204 (.pair (.str) (.sl 178 (.pair (.int .i64) (.pair (.str) (.int .i64))))) x6,.row false 178 (.pair (.int .i64) (.pair (.str) (.int .i64))) x7]=>some ⟨.one ⟨false,[.val (.bool (EA x0 x1 x3 x4 x5 x6 x7))]⟩,[.row false 9 agS x3,.row false 9 agS x4,.row false 9 agS x5,.row false 204 (CTy.pair CTy.str (CTy.sl (178:TypeId) aeH)) x6,.row false 178 aeH x7],[],[EB x0 x1 x3 x4 x5 x6 x7]⟩
 |_,_=>none
def dg:PF prog:=PF.ofG prog [sd,PF.lend sd,PF.fz sd] [] aQ 238 f238 func238 (fun c _=>LOk.nil c) tF (by
 intro vs es r h;unfold tF at h;split at h
 ·cases h;kernel_rfl
 ·cases h)
end Go.SX
