/- What functions of the program come to, and what that says in plain words: part 3. -/
import Derived.Test.YtbajbgcdcaknpaaGreatDoorMb
import Derived.Test.YtbajbgcdcaknpaaGreatDoorTXh
import Derived.Test.YtbajbgcdcaknpaaGreatDoorProg
set_option linter.unusedSimpArgs false
set_option linter.unusedVariables false
namespace Go.SX
open Go.Proofs Go.Proofs.Tryz
set_option maxRecDepth 100000
abbrev tA:=Int×Int×Int×Int×Int×List Int×List Int
section
variable (y0 y1 y2 y3 y4:Int)(y5 y6:List Int)
def YU:Int:=pkV y3 y4 [(0:Int),(1:Int),(1:Int),(2:Int)] y6
def FI:List Int:= [IntKind.wrap .i64 (IntKind.wrap .i64 ((3:Int) * Int.tmod y1 y2) + YU y3 y4 y6)]
def FJ:Int:=pkA y3 [(0:Int),(1:Int),(1:Int),(2:Int)] y6
def KH:Int:=pkS y3 y4 [(0:Int),(1:Int),(1:Int),(2:Int)] y6
def Tf:Bool:=ltI 0 y0
def ZY:Bool:=aD y3 y4 y6&&leN 1 (List.length [(0:Int),(1:Int),(1:Int),(2:Int)])
def ZZ:Bool:=neI y2 0
def aaa:Bool:=leN (List.length y5 + List.length (FI y1 y2 y3 y4 y6)) 9223372036854775807
def aab:Bool:=leN ((List.length y5 + List.length (FI y1 y2 y3 y4 y6)) * 8) 140737488355328
end
def Tg:Bool:=neI 2 0
section
variable (y0 y1 y2 y3 y4:Int)(y5 y6:List Int)
def aac:Bool:=aD (FJ y3 y6) (KH y3 y4 y6) y6
def aad:Int:=IntKind.wrap .i64 (y0 - (1:Int))
def ajz:Int:=IntKind.wrap .i64 (IntKind.wrap .i64 (IntKind.wrap .i64 (y1 + (1:Int)) + IntKind.wrap .i64 (Int.tdiv (YU y3 y4 y6) 2)) + IntKind.wrap .i64 (Int.tdiv (nxV 3 (FJ y3 y6) (KH y3 y4 y6) y6) 2))
def aae:Int:=nxA 3 (FJ y3 y6) y6
def YS:Int:=nxS 3 (FJ y3 y6) (KH y3 y4 y6) y6
def YT:List Int:=y5++FI y1 y2 y3 y4 y6
end
def ahI:tA→List (Nat×SV)
 |(y0,y1,y2,_,_,_,_)=> [(6,(.one ⟨false,[.val (.int .i64 y0)]⟩)),(0,(.one ⟨false,[.ptr 0 0]⟩)),(4,(.one ⟨false,[.ref 1]⟩)),(5,(.one ⟨false,[.val (.int .i64 y1)]⟩)),(3,(.one ⟨false,[.val (.int .i64 y2)]⟩))]
def ahz:tA→List (Nat×Entry)
 |(_,_,_,y3,y4,y5,y6)=> [(0,(.box 157 [.ref 2,.val (.int .i64 y3),.val (.int .i64 y4)])),(2,(.row false 5 ak9 y6)),(1,(.row true 2 aj1 y5))]
def ah1:Nat→tA→List (Nat×SV)
 |_,(_,_,_,_,_,_,_)=> [(4,(.one ⟨false,[.ref 1]⟩))]
def ahS:Nat→tA→List (Nat×Entry)
 |_,(_,_,_,y3,y4,y5,y6)=> [(0,(.box 157 [.ref 2,.val (.int .i64 y3),.val (.int .i64 y4)])),(1,(.row true 2 aj1 y5)),(2,(.row false 5 ak9 y6))]
def QH:tA→LT tA
 |(y0,y1,y2,y3,y4,y5,y6)=> .ite (Tf y0) (.need [ZY y3 y4 y6] (.need [ZZ y2,aaa y1 y2 y3 y4 y5 y6,aab y1 y2 y3 y4 y5 y6] (.need [Tg,aac y3 y4 y6,Tg] (.nrm ((aad y0),ajz y1 y3 y4 y6,y2,aae y3 y6,YS y3 y4 y6,YT y1 y2 y3 y4 y5 y6,y6) [(0,0),(1,960),(2,2)])))) (.ext 0 [(0,0),(1,1),(2,2)])
def QV(s:St):Option tA:=
 (match s.look 6 with
 |some ⟨none,.one ⟨false,[.val (.int .i64 y0)]⟩⟩=>
 (match s.look 0 with
 |some ⟨none,.one ⟨false,[.ptr 0 0]⟩⟩=>
 (match s.look 4 with
 |some ⟨none,.one ⟨false,[.ref 512]⟩⟩=>
 (match s.look 5 with
 |some ⟨none,.one ⟨false,[.val (.int .i64 y1)]⟩⟩=>
 (match s.look 3 with
 |some ⟨none,.one ⟨false,[.val (.int .i64 y2)]⟩⟩=>
 (match s.ent 0 with
 |some (.box 157 [.ref 1,.val (.int .i64 y3),.val (.int .i64 y4)])=>
 (match s.ent 1 with
 |some (.row false 5 (.int IntKind.u8) y6)=>
 (match s.ent 512 with
 |some (.row true 2 (.int .i64) y5)=>
 some (y0,y1,y2,y3,y4,y5,y6)
 |_=>none)
 |_=>none)
 |_=>none)
 |_=>none)
 |_=>none)
 |_=>none)
 |_=>none)
 |_=>none)
def iT:Lp tA where
 h:=⟨[20,21,24,25,26,7,27,28,29,30,31,32,33,34,35,4,36,37,38,39,40,41,42,43,44,5,22,23,6],[0,2],[1],[]⟩
 JL:=ahI
 JE:=ahz
 XL:=ah1
 XE:=ahS
 q:=fun j=>match j with | _=> .exit 0
 tags:= [0]
 lt:=QH
 fuel:=fun(y0,y1,y2,y3,y4,y5,y6)=>y0.natAbs + y1.natAbs + y2.natAbs + y3.natAbs + y4.natAbs + y5.length + y6.length
 fix:=fun(_,_,y2,_,_,_,y6) (y0,y1,_,y3,y4,y5,_)=>(y0,y1,y2,y3,y4,y5,y6)
 σ:= [(0,0),(2,1),(1,512)]
 rd:=QV
theorem afy:LoopOk prog (fun k=>Nat.blt k Tryz.f137.ntmps) iT.F (aH f137 0):=by
 refine Lp.ok (tbl:= (T3z [am,ao])) (lf:= []) aO iT (by kernel_rfl) (LOk.nil _) (fun _=>rfl) (fun _ _=>rfl) ?_ ?_ ?_ ?_ (fun _=>rfl) ?_
 ·rintro⟨y0,y1,y2,y3,y4,y5,y6⟩;kernel_rfl
 ·rintro⟨y0,y1,y2,y3,y4,y5,y6⟩;kernel_rfl
 ·intro s x h
  have h:QV s=some x:=h
  unfold QV at h
  repeat' split at h
  all_goals cases h
  constructor<;>repeat(first|refine ae (by assumption) rfl ?_|refine af rfl (by assumption) rfl ?_|exact rfl)
 ·rintro⟨y0,y1,y2,y3,y4,y5,y6⟩;kernel_rfl
 ·rintro⟨y0,y1,y2,y3,y4,y5,y6⟩ z;exact(And.intro rfl trivial)
section
variable (x0 x1:Int)(x2:List Int)
def cu:Int:=IntKind.wrap .i64 ((2:Int) + nxV 5 x0 x1 x2)
def ki:Int:=afi (cu x0 x1 x2) 4 (cu x0 x1 x2) 4
def mW:Int:=nxA (cu x0 x1 x2) (nxA 5 x0 x2) x2
def sf:Int:=nxS (cu x0 x1 x2) (nxA 5 x0 x2) (nxS 5 x0 x1 x2) x2
def Gv:Int×Int×Int×Int×Int×List Int×List Int:=(IntKind.wrap .i64 ((1:Int) + nxV (ki x0 x1 x2) (mW x0 x1 x2) (sf x0 x1 x2) x2),nxV (cu x0 x1 x2) (nxA 5 x0 x2) (nxS 5 x0 x1 x2) x2,cu x0 x1 x2,nxA (ki x0 x1 x2) (mW x0 x1 x2) x2,nxS (ki x0 x1 x2) (mW x0 x1 x2) (sf x0 x1 x2) x2,[],x2)
def Lm:Int×Int×List Int×List Int:=(Lp.res iT (Gv x0 x1 x2)).2.2.2.2
def cv:Int:=(Lm x0 x1 x2).1
def yJ:Int×List Int×List Int:=(Lm x0 x1 x2).2
def Qy:Int:=nxV 40 (cv x0 x1 x2) ((yJ x0 x1 x2).1) x2
def ie:Bool:=Qy x0 x1 x2==0
def jX:Int:=nxS 40 (cv x0 x1 x2) ((yJ x0 x1 x2).1) x2
def gO:Bool:=Qy x0 x1 x2==1
def np:Bool:=Qy x0 x1 x2==2
def Eo:Bool:=Qy x0 x1 x2==3
def act:Int:=IntKind.wrap .i64 ((3:Int) * cu x0 x1 x2)
def Ep:List Int:= [(-1:Int),IntKind.wrap .i64 (act x0 x1 x2 - (1:Int)),act x0 x1 x2]
def nq:List Int:=((yJ x0 x1 x2).2).1
def kY:Int:=IntKind.wrap .i64 ((4:Int) + nxV 2 (nxA 40 (cv x0 x1 x2) x2) (jX x0 x1 x2) x2)
def OC:Bool:=aD (nxA 40 (cv x0 x1 x2) x2) (jX x0 x1 x2) x2
def kn:Int:=bif ie x0 x1 x2 then pkV (nxA 40 (cv x0 x1 x2) x2) (jX x0 x1 x2) [(1:Int),(8:Int),(9:Int)] x2 else bif gO x0 x1 x2 then cu x0 x1 x2 else bif np x0 x1 x2 then cu x0 x1 x2 else bif Eo x0 x1 x2 then cu x0 x1 x2 else cu x0 x1 x2
def nk:Int:=bif ie x0 x1 x2 then pkA (nxA 40 (cv x0 x1 x2) x2) [(1:Int),(8:Int),(9:Int)] x2 else bif gO x0 x1 x2 then pkA (nxA 40 (cv x0 x1 x2) x2) (Ep x0 x1 x2) x2 else bif np x0 x1 x2 then nxA 2 (nxA 40 (cv x0 x1 x2) x2) x2 else bif Eo x0 x1 x2 then nxA 40 (cv x0 x1 x2) x2 else nxA 40 (cv x0 x1 x2) x2
def BE:Int:=bif ie x0 x1 x2 then pkS (nxA 40 (cv x0 x1 x2) x2) (jX x0 x1 x2) [(1:Int),(8:Int),(9:Int)] x2 else bif gO x0 x1 x2 then pkS (nxA 40 (cv x0 x1 x2) x2) (jX x0 x1 x2) (Ep x0 x1 x2) x2 else bif np x0 x1 x2 then nxS 2 (nxA 40 (cv x0 x1 x2) x2) (jX x0 x1 x2) x2 else bif Eo x0 x1 x2 then jX x0 x1 x2 else jX x0 x1 x2
def rS:List Int:=bif ie x0 x1 x2 then nq x0 x1 x2 else bif gO x0 x1 x2 then List.set (nq x0 x1 x2) (Int.toNat 0) (pkV (nxA 40 (cv x0 x1 x2) x2) (jX x0 x1 x2) (Ep x0 x1 x2) x2)else bif np x0 x1 x2 then List.replicate (Int.toNat (kY x0 x1 x2)) (0:Int)else bif Eo x0 x1 x2 then []else nq x0 x1 x2
def YR:Bool:=allT [aD x0 x1 x2,aD (nxA 5 x0 x2) (nxS 5 x0 x1 x2) x2,aD (mW x0 x1 x2) (sf x0 x1 x2) x2,Lp.fin iT (Gv x0 x1 x2),aD (cv x0 x1 x2) ((yJ x0 x1 x2).1) x2,!ie x0 x1 x2||OC x0 x1 x2&&leN 1 (List.length [(1:Int),(8:Int),(9:Int)]),ie x0 x1 x2||(!gO x0 x1 x2||OC x0 x1 x2&&leN 1 (List.length (Ep x0 x1 x2))),ie x0 x1 x2||(!gO x0 x1 x2||leI 0 0),ie x0 x1 x2||(!gO x0 x1 x2||ltI 0 (↑(List.length (nq x0 x1 x2)):Int)),ie x0 x1 x2||(!gO x0 x1 x2||ltN (Int.toNat 0) (List.length (nq x0 x1 x2))),ie x0 x1 x2||(gO x0 x1 x2||(!np x0 x1 x2||OC x0 x1 x2)),ie x0 x1 x2||(gO x0 x1 x2||(!np x0 x1 x2||leI 0 (kY x0 x1 x2))),ie x0 x1 x2||(gO x0 x1 x2||(!np x0 x1 x2||leI (kY x0 x1 x2) (kY x0 x1 x2))),ie x0 x1 x2||(gO x0 x1 x2||(!np x0 x1 x2||leI ((↑(8:Nat):Int) * kY x0 x1 x2) 281474976710656)),ie x0 x1 x2||(gO x0 x1 x2||(!np x0 x1 x2||leI (kY x0 x1 x2) 9223372036854775807))]
end
def aeE:List SV→List Entry→Option Out
 | [.one ⟨false,[.ptr 0 0]⟩],[.box 157 [.ref 1,.val (.int .i64 x0),.val (.int .i64 x1)],.row false 5 (.int .u8) x2]=>some ⟨.one ⟨true,[.val (.int .i64 (kn x0 x1 x2)),.ref 2]⟩,[.box 157 [.ref 1,.val (.int .i64 (nk x0 x1 x2)),.val (.int .i64 (BE x0 x1 x2))],.row false 5 ak9 x2],[.row true 2 aj1 (rS x0 x1 x2)],[YR x0 x1 x2]⟩
 |_,_=>none
def amD:PF prog:=PF.ofG prog (T3z [am,ao]) [iT.F] aO 137 f137 func137 (LOk.fnT (l:= [aH f137 0]) (by kernel_rfl) (.cons afy (.nil _))) aeE (by
 intro vs es r h;unfold aeE at h;split at h
 ·cases h;kernel_rfl
 ·cases h)
abbrev kB:=Int×Int×Int×Int×List (Int×(Int×Int))×List Int
section
variable (y0 y1 y2 y3:Int)(y4:List (Int×(Int×Int)))(y5:List Int)
def ef:Bool:=nxV 6 y2 y3 y5==0
def Ic:Bool:=aD (nxA 6 y2 y5) (nxS 6 y2 y3 y5) y5
def ui:Int:=nxA 2 (nxA 6 y2 y5) y5
def Al:Int:=nxS 2 (nxA 6 y2 y5) (nxS 6 y2 y3 y5) y5
def uj:List (Int×Int×Int):= [(y0,nxV 2 (nxA 6 y2 y5) (nxS 6 y2 y3 y5) y5,nxV 2 (ui y2 y5) (Al y2 y3 y5) y5)]
def lS:Bool:=nxV 6 y2 y3 y5==1
def pb:Bool:=nxV 4 (nxA 6 y2 y5) (nxS 6 y2 y3 y5) y5==0
def pc:Int:=nxA 4 (nxA 6 y2 y5) y5
def uk:Int:=nxS 4 (nxA 6 y2 y5) (nxS 6 y2 y3 y5) y5
def ul:List (Int×Int×Int):= [(y0,(0:Int),(0:Int)),(y0,(1:Int),IntKind.wrap .i64 (Int.tdiv (nxV 3 (pc y2 y5) (uk y2 y3 y5) y5) 2))]
def JN:Bool:=bif ltI y0 y1 then ltI y0 7 else false
def RF:Bool:=aD y2 y3 y5
def RG:Bool:= !ef y2 y3 y5||Ic y2 y3 y5
def RH:Bool:= !ef y2 y3 y5||aD (ui y2 y5) (Al y2 y3 y5) y5
def RI:Bool:= !ef y2 y3 y5||leN (List.length y4 + List.length (uj y0 y2 y3 y5)) 9223372036854775807
def RJ:Bool:= !ef y2 y3 y5||leN ((List.length y4 + List.length (uj y0 y2 y3 y5)) * 24) 140737488355328
def RK:Bool:=ef y2 y3 y5||(!lS y2 y3 y5||Ic y2 y3 y5)
def RL:Bool:=ef y2 y3 y5||(!lS y2 y3 y5||(!pb y2 y3 y5||aD (pc y2 y5) (uk y2 y3 y5) y5))
def RM:Bool:=ef y2 y3 y5||(!lS y2 y3 y5||(!pb y2 y3 y5||neI 2 0))
def RN:Bool:=ef y2 y3 y5||(!lS y2 y3 y5||(!pb y2 y3 y5||leN (List.length y4 + List.length (ul y0 y2 y3 y5)) 9223372036854775807))
def PO:Bool:=ef y2 y3 y5||(!lS y2 y3 y5||(!pb y2 y3 y5||leN ((List.length y4 + List.length (ul y0 y2 y3 y5)) * 24) 140737488355328))
def PP:Bool:=ef y2 y3 y5
def uh:Int:=IntKind.wrap .i64 (y0 + (1:Int))
def PQ:Int:=nxA 2 (ui y2 y5) y5
def PR:Int:=nxS 2 (ui y2 y5) (Al y2 y3 y5) y5
def PS:List (Int×(Int×Int)):=y4++uj y0 y2 y3 y5
def PT:Bool:=lS y2 y3 y5
def PU:Bool:=pb y2 y3 y5
def PV:Int:=nxA 3 (pc y2 y5) y5
def PW:Int:=nxS 3 (pc y2 y5) (uk y2 y3 y5) y5
def PX:List (Int×(Int×Int)):=y4++ul y0 y2 y3 y5
def PY:Int:=pc y2 y5
def PZ:Int:=uk y2 y3 y5
def Qa:Int:=nxA 6 y2 y5
def Qb:Int:=nxS 6 y2 y3 y5
end
def aay:kB→List (Nat×SV)
 |(y0,y1,_,_,_,_)=> [(6,(.one ⟨false,[.val (.int .i64 y0)]⟩)),(1,(.one ⟨false,[.val (.int .i64 y1)]⟩)),(0,(.one ⟨false,[.ptr 0 0]⟩)),(5,(.one ⟨false,[.ref 1]⟩))]
def aap:kB→List (Nat×Entry)
 |(_,_,y2,y3,y4,y5)=> [(0,(.box 157 [.ref 2,.val (.int .i64 y2),.val (.int .i64 y3)])),(2,(.row false 5 ak9 y5)),(1,(.row true 169 adH y4))]
def aaQ:Nat→kB→List (Nat×SV)
 |_,(_,_,_,_,_,_)=> [(5,(.one ⟨false,[.ref 1]⟩))]
def aaH:Nat→kB→List (Nat×Entry)
 |_,(_,_,y2,y3,y4,y5)=> [(0,(.box 157 [.ref 2,.val (.int .i64 y2),.val (.int .i64 y3)])),(1,(.row true 169 adH y4)),(2,(.row false 5 ak9 y5))]
def Ai:kB→LT kB
 |(y0,y1,y2,y3,y4,y5)=> .ite (JN y0 y1) (.need [RF y2 y3 y5] (.need [RG y2 y3 y5,RH y2 y3 y5,RI y0 y2 y3 y4 y5,RJ y0 y2 y3 y4 y5,RK y2 y3 y5,RL y2 y3 y5,RM y2 y3 y5,RN y0 y2 y3 y4 y5,PO y0 y2 y3 y4 y5] (.ite (PP y2 y3 y5) (.nrm ((uh y0),y1,PQ y2 y5,PR y2 y3 y5,PS y0 y2 y3 y4 y5,y5) [(0,0),(1,1280),(2,2)]) (.ite (PT y2 y3 y5) (.ite (PU y2 y3 y5) (.nrm ((uh y0),y1,PV y2 y5,PW y2 y3 y5,PX y0 y2 y3 y4 y5,y5) [(0,0),(1,1664),(2,2)]) (.nrm ((uh y0),y1,PY y2 y5,PZ y2 y3 y5,y4,y5) [(0,0),(1,1),(2,2)])) (.nrm ((uh y0),y1,Qa y2 y5,Qb y2 y3 y5,y4,y5) [(0,0),(1,1),(2,2)]))))) (.ext 0 [(0,0),(1,1),(2,2)])
def HT(s:St):Option kB:=
 (match s.look 6 with
 |some ⟨none,.one ⟨false,[.val (.int .i64 y0)]⟩⟩=>
 (match s.look 1 with
 |some ⟨none,.one ⟨false,[.val (.int .i64 y1)]⟩⟩=>
 (match s.look 0 with
 |some ⟨none,.one ⟨false,[.ptr 0 0]⟩⟩=>
 (match s.look 5 with
 |some ⟨none,.one ⟨false,[.ref 256]⟩⟩=>
 (match s.ent 0 with
 |some (.box 157 [.ref 1,.val (.int .i64 y2),.val (.int .i64 y3)])=>
 (match s.ent 1 with
 |some (.row false 5 (.int IntKind.u8) y5)=>
 (match s.ent 256 with
 |some (.row true 169 (.pair (.int .i64) (.pair (.int .i64) (.int .i64))) y4)=>
 some (y0,y1,y2,y3,y4,y5)
 |_=>none)
 |_=>none)
 |_=>none)
 |_=>none)
 |_=>none)
 |_=>none)
 |_=>none)
def cz:Lp kB where
 h:=⟨[9,10,11,12,13,14,15,18,19,21,20,22,23,24,25,26,27,28,29,30,5,32,31,33,34,35,36,37,38,39,40,41,42,43,44,45,16,17,6],[0,2],[1],[]⟩
 JL:=aay
 JE:=aap
 XL:=aaQ
 XE:=aaH
 q:=fun j=>match j with | _=> .exit 0
 tags:= [0]
 lt:=Ai
 fuel:=fun(y0,y1,y2,y3,y4,y5)=>y0.natAbs + y1.natAbs + y2.natAbs + y3.natAbs + y4.length + y5.length
 fix:=fun(_,y1,_,_,_,y5) (y0,_,y2,y3,y4,_)=>(y0,y1,y2,y3,y4,y5)
 σ:= [(0,0),(2,1),(1,256)]
 rd:=HT
theorem Ya:LoopOk prog (fun k=>Nat.blt k Tryz.f138.ntmps) cz.F (aH f138 0):=by
 refine Lp.ok (tbl:= (T3z [am,ao])) (lf:= []) aO cz (by kernel_rfl) (LOk.nil _) (fun _=>rfl) (fun _ _=>rfl) ?_ ?_ ?_ ?_ (fun _=>rfl) ?_
 ·rintro⟨y0,y1,y2,y3,y4,y5⟩;kernel_rfl
 ·rintro⟨y0,y1,y2,y3,y4,y5⟩;kernel_rfl
 ·intro s x h
  have h:HT s=some x:=h
  unfold HT at h
  repeat' split at h
  all_goals cases h
  constructor<;>repeat(first|refine ae (by assumption) rfl ?_|refine af rfl (by assumption) rfl ?_|exact rfl)
 ·rintro⟨y0,y1,y2,y3,y4,y5⟩;kernel_rfl
 ·rintro⟨y0,y1,y2,y3,y4,y5⟩ z;exact(And.intro (And.intro rfl (And.intro (And.intro rfl rfl) rfl)) trivial)
abbrev kC:=Int×Int×Int×List (Int×(Int×Int))×List Int
section
variable (y0 y1 y2:Int)(y4:List Int)
def um:List (Int×Int×Int):= [(IntKind.wrap .i64 (Int.tdiv y0 2),Int.tmod y0 2,(1:Int))]
def Cd:Bool:=aD y1 y2 y4
def Ce:Bool:=ltI y0 (IntKind.wrap .i64 ((8:Int) + nxV 2 y1 y2 y4))
end
def JO:Bool:=neI 2 0
section
variable (y0 y1 y2:Int)(y3:List (Int×(Int×Int)))(y4:List Int)
def RO:Bool:=leN (List.length y3 + List.length (um y0)) 9223372036854775807
def RP:Bool:=leN ((List.length y3 + List.length (um y0)) * 24) 140737488355328
def RQ:Int:=IntKind.wrap .i64 (y0 + (1:Int))
def Cf:Int:=nxA 2 y1 y4
def Cg:Int:=nxS 2 y1 y2 y4
def RR:List (Int×(Int×Int)):=y3++um y0
end
def aaz:kC→List (Nat×SV)
 |(y0,_,_,_,_)=> [(7,(.one ⟨false,[.val (.int .i64 y0)]⟩)),(0,(.one ⟨false,[.ptr 0 0]⟩)),(5,(.one ⟨false,[.ref 1]⟩))]
def aaq:kC→List (Nat×Entry)
 |(_,y1,y2,y3,y4)=> [(0,(.box 157 [.ref 2,.val (.int .i64 y1),.val (.int .i64 y2)])),(2,(.row false 5 ak9 y4)),(1,(.row true 169 adH y3))]
def aaR:Nat→kC→List (Nat×SV)
 |_,(_,_,_,_,_)=> [(5,(.one ⟨false,[.ref 1]⟩))]
def aaI:Nat→kC→List (Nat×Entry)
 |_,(_,y1,y2,y3,y4)=> [(0,(.box 157 [.ref 2,.val (.int .i64 (Cf y1 y4)),.val (.int .i64 (Cg y1 y2 y4))])),(1,(.row true 169 adH y3)),(2,(.row false 5 ak9 y4))]
def Aj:kC→LT kC
 |(y0,y1,y2,y3,y4)=> .need [Cd y1 y2 y4] (.ite (Ce y0 y1 y2 y4) (.need [JO,JO,RO y0 y3,RP y0 y3] (.nrm ((RQ y0),Cf y1 y4,Cg y1 y2 y4,RR y0 y3,y4) [(0,0),(1,832),(2,2)])) (.ext 0 [(0,0),(1,1),(2,2)]))
def HU(s:St):Option kC:=
 (match s.look 7 with
 |some ⟨none,.one ⟨false,[.val (.int .i64 y0)]⟩⟩=>
 (match s.look 0 with
 |some ⟨none,.one ⟨false,[.ptr 0 0]⟩⟩=>
 (match s.look 5 with
 |some ⟨none,.one ⟨false,[.ref 896]⟩⟩=>
 (match s.ent 0 with
 |some (.box 157 [.ref 1,.val (.int .i64 y1),.val (.int .i64 y2)])=>
 (match s.ent 1 with
 |some (.row false 5 (.int IntKind.u8) y4)=>
 (match s.ent 896 with
 |some (.row true 169 (.pair (.int .i64) (.pair (.int .i64) (.int .i64))) y3)=>
 some (y0,y1,y2,y3,y4)
 |_=>none)
 |_=>none)
 |_=>none)
 |_=>none)
 |_=>none)
 |_=>none)
def cA:Lp kC where
 h:=⟨[66,67,68,69,70,73,74,75,76,77,78,79,80,5,71,72,7],[0,2],[1],[]⟩
 JL:=aaz
 JE:=aaq
 XL:=aaR
 XE:=aaI
 q:=fun j=>match j with | _=> .exit 4
 tags:= [0]
 lt:=Aj
 fuel:=fun(y0,y1,y2,y3,y4)=>y0.natAbs + y1.natAbs + y2.natAbs + y3.length + y4.length
 fix:=fun(_,_,_,_,y4) (y0,y1,y2,y3,_)=>(y0,y1,y2,y3,y4)
 σ:= [(0,0),(2,1),(1,896)]
 rd:=HU
theorem Yb:LoopOk prog (fun k=>Nat.blt k Tryz.f138.ntmps) cA.F (aH f138 1):=by
 refine Lp.ok (tbl:= (T3z [am,ao])) (lf:= []) aO cA (by kernel_rfl) (LOk.nil _) (fun _=>rfl) (fun _ _=>rfl) ?_ ?_ ?_ ?_ (fun _=>rfl) ?_
 ·rintro⟨y0,y1,y2,y3,y4⟩;kernel_rfl
 ·rintro⟨y0,y1,y2,y3,y4⟩;kernel_rfl
 ·intro s x h
  have h:HU s=some x:=h
  unfold HU at h
  repeat' split at h
  all_goals cases h
  constructor<;>repeat(first|refine ae (by assumption) rfl ?_|refine af rfl (by assumption) rfl ?_|exact rfl)
 ·rintro⟨y0,y1,y2,y3,y4⟩;kernel_rfl
 ·rintro⟨y0,y1,y2,y3,y4⟩ z;exact(And.intro rfl trivial)
section
variable (x0 x1 x2:Int)(x3:List Int)
def TQ:List (Int×Int×Int)×List Int:=([],x3)
def FV:Int×Int×Int×Int×List (Int×Int×Int)×List Int:=((0:Int),x0,x1,x2,TQ x3)
def zn:Int×Int×List (Int×Int×Int)×List Int:=(Lp.res cz (FV x0 x1 x2 x3)).2.2.2
def ec:Int:=(zn x0 x1 x2 x3).1
def FW:Int×List (Int×Int×Int)×List Int:=(zn x0 x1 x2 x3).2
def tR:Int:=(FW x0 x1 x2 x3).1
def TR:Int:=nxV 40 (ec x0 x1 x2 x3) (tR x0 x1 x2 x3) x3
def gG:Bool:=TR x0 x1 x2 x3==0
def zo:List Int:= [(-1:Int),(0:Int),x0]
def zp:Int:=pkA (nxA 40 (ec x0 x1 x2 x3) x3) (zo x0) x3
def xI:Int:=pkA (zp x0 x1 x2 x3) [(0:Int),(1:Int),(2:Int)] x3
def sz:Bool:=TR x0 x1 x2 x3==1
def sE:Int:=nxS 40 (ec x0 x1 x2 x3) (tR x0 x1 x2 x3) x3
def Dq:Int×Int×Int×List (Int×Int×Int)×List Int:=((0:Int),nxA 40 (ec x0 x1 x2 x3) x3,sE x0 x1 x2 x3,TQ x3)
def xJ:Int×Int×List (Int×Int×Int)×List Int:=(Lp.res cA (Dq x0 x1 x2 x3)).2.2
def Dr:Int:=(xJ x0 x1 x2 x3).1
def Ds:Int:=pkS (nxA 40 (ec x0 x1 x2 x3) x3) (sE x0 x1 x2 x3) (zo x0) x3
def Dt:Int:=pkS (zp x0 x1 x2 x3) (Ds x0 x1 x2 x3) [(0:Int),(1:Int),(2:Int)] x3
def sF:Int×List (Int×Int×Int)×List Int:=(xJ x0 x1 x2 x3).2
def lm:List (Int×Int×Int):=((FW x0 x1 x2 x3).2).1
def sG:List (Int×Int×Int):= [(pkV (nxA 40 (ec x0 x1 x2 x3) x3) (sE x0 x1 x2 x3) (zo x0) x3,pkV (zp x0 x1 x2 x3) (Ds x0 x1 x2 x3) [(0:Int),(1:Int),(2:Int)] x3,nxV 3 (xI x0 x1 x2 x3) (Dt x0 x1 x2 x3) x3)]
def BF:Int:=bif gG x0 x1 x2 x3 then nxA 3 (xI x0 x1 x2 x3) x3 else bif sz x0 x1 x2 x3 then Cf (Dr x0 x1 x2 x3) x3 else nxA 40 (ec x0 x1 x2 x3) x3
def BG:Int:=bif gG x0 x1 x2 x3 then nxS 3 (xI x0 x1 x2 x3) (Dt x0 x1 x2 x3) x3 else bif sz x0 x1 x2 x3 then Cg (Dr x0 x1 x2 x3) ((sF x0 x1 x2 x3).1) x3 else sE x0 x1 x2 x3
def BH:List (Int×(Int×Int)):=bif gG x0 x1 x2 x3 then lm x0 x1 x2 x3++sG x0 x1 x2 x3 else bif sz x0 x1 x2 x3 then ((sF x0 x1 x2 x3).2).1else lm x0 x1 x2 x3
def NN:Bool:=allT [Lp.fin cz (FV x0 x1 x2 x3),aD (ec x0 x1 x2 x3) (tR x0 x1 x2 x3) x3,!gG x0 x1 x2 x3||aD (nxA 40 (ec x0 x1 x2 x3) x3) (sE x0 x1 x2 x3) x3&&leN 1 (List.length (zo x0)),!gG x0 x1 x2 x3||aD (zp x0 x1 x2 x3) (Ds x0 x1 x2 x3) x3&&leN 1 (List.length [(0:Int),(1:Int),(2:Int)]),!gG x0 x1 x2 x3||aD (xI x0 x1 x2 x3) (Dt x0 x1 x2 x3) x3,!gG x0 x1 x2 x3||leN (List.length (lm x0 x1 x2 x3) + List.length (sG x0 x1 x2 x3)) 9223372036854775807,!gG x0 x1 x2 x3||leN ((List.length (lm x0 x1 x2 x3) + List.length (sG x0 x1 x2 x3)) * 24) 140737488355328,gG x0 x1 x2 x3||(!sz x0 x1 x2 x3||Lp.fin cA (Dq x0 x1 x2 x3))]
end
def UZ:List SV→List Entry→Option Out
 | [.one ⟨false,[.ptr 0 0]⟩,.one ⟨false,[.val (.int .i64 x0)]⟩],[.box 157 [.ref 1,.val (.int .i64 x1),.val (.int .i64 x2)],.row false 5 (.int .u8) x3]=>some ⟨.one ⟨false,[.ref 2]⟩,[.box 157 [.ref 1,.val (.int .i64 (BF x0 x1 x2 x3)),.val (.int .i64 (BG x0 x1 x2 x3))],.row false 5 ak9 x3],[.row true 169 adH (BH x0 x1 x2 x3)],[NN x0 x1 x2 x3]⟩
 |_,_=>none
def afQ:PF prog:=PF.ofG prog (T3z [am,ao]) [cz.F,cA.F] aO 138 f138 func138 (LOk.fnT (l:= [aH f138 0,aH f138 1]) (by kernel_rfl) (.cons Ya (.cons Yb (.nil _)))) UZ (by
 intro vs es r h;unfold UZ at h;split at h
 ·cases h;kernel_rfl
 ·cases h)
abbrev iE:=Int×Int×Int×Int×List (Int×(Int×Int))×List Int
section
variable (y0 y1 y2 y3:Int)(y4:List (Int×(Int×Int)))(y5:List Int)
def cZ:Bool:=nxV 6 y2 y3 y5==0
def uo:Bool:=aD (nxA 6 y2 y5) (nxS 6 y2 y3 y5) y5
def lU:Int:=nxA 2 (nxA 6 y2 y5) y5
def pd:Int:=nxS 2 (nxA 6 y2 y5) (nxS 6 y2 y3 y5) y5
def pe:List (Int×Int×Int):= [(y0,nxV 2 (nxA 6 y2 y5) (nxS 6 y2 y3 y5) y5,nxV 2 (lU y2 y5) (pd y2 y3 y5) y5)]
def jS:Bool:=nxV 6 y2 y3 y5==1
def lV:Bool:=bif nxV 4 (nxA 6 y2 y5) (nxS 6 y2 y3 y5) y5==0 then ltI (↑y4.length:Int) 6 else false
def jT:Int:=nxA 4 (nxA 6 y2 y5) y5
def lW:Int:=nxS 4 (nxA 6 y2 y5) (nxS 6 y2 y3 y5) y5
def pf:List (Int×Int×Int):= [(y0,(0:Int),(1:Int)),(y0,(1:Int),nxV 2 (jT y2 y5) (lW y2 y3 y5) y5)]
def Ch:Bool:=bif ltI y0 y1 then ltI y0 7 else false
def Ci:Bool:=aD y2 y3 y5
def Cj:Bool:= !cZ y2 y3 y5||uo y2 y3 y5
def Ck:Bool:= !cZ y2 y3 y5||aD (lU y2 y5) (pd y2 y3 y5) y5
def Cl:Bool:= !cZ y2 y3 y5||leN (List.length y4 + List.length (pe y0 y2 y3 y5)) 9223372036854775807
def Cm:Bool:= !cZ y2 y3 y5||leN ((List.length y4 + List.length (pe y0 y2 y3 y5)) * 24) 140737488355328
def Cn:Bool:=cZ y2 y3 y5||(!jS y2 y3 y5||uo y2 y3 y5)
def Co:Bool:=cZ y2 y3 y5||(!jS y2 y3 y5||(!lV y2 y3 y4 y5||aD (jT y2 y5) (lW y2 y3 y5) y5))
def Cp:Bool:=cZ y2 y3 y5||(!jS y2 y3 y5||(!lV y2 y3 y4 y5||leN (List.length y4 + List.length (pf y0 y2 y3 y5)) 9223372036854775807))
def Cq:Bool:=cZ y2 y3 y5||(!jS y2 y3 y5||(!lV y2 y3 y4 y5||leN ((List.length y4 + List.length (pf y0 y2 y3 y5)) * 24) 140737488355328))
def Am:Bool:=cZ y2 y3 y5
def lT:Int:=IntKind.wrap .i64 (y0 + (1:Int))
def An:Int:=nxA 2 (lU y2 y5) y5
def Ao:Int:=nxS 2 (lU y2 y5) (pd y2 y3 y5) y5
def Ap:List (Int×(Int×Int)):=y4++pe y0 y2 y3 y5
def Aq:Bool:=jS y2 y3 y5
def Ar:Bool:=lV y2 y3 y4 y5
def As:Int:=nxA 2 (jT y2 y5) y5
def At:Int:=nxS 2 (jT y2 y5) (lW y2 y3 y5) y5
def Au:List (Int×(Int×Int)):=y4++pf y0 y2 y3 y5
def Av:Int:=jT y2 y5
def Aw:Int:=lW y2 y3 y5
def Ax:Int:=nxA 6 y2 y5
def Ay:Int:=nxS 6 y2 y3 y5
end
def aaA:iE→List (Nat×SV)
 |(y0,y1,_,_,_,_)=> [(6,(.one ⟨false,[.val (.int .i64 y0)]⟩)),(1,(.one ⟨false,[.val (.int .i64 y1)]⟩)),(0,(.one ⟨false,[.ptr 0 0]⟩)),(5,(.one ⟨false,[.ref 1]⟩))]
def aar:iE→List (Nat×Entry)
 |(_,_,y2,y3,y4,y5)=> [(0,(.box 157 [.ref 2,.val (.int .i64 y2),.val (.int .i64 y3)])),(2,(.row false 5 ak9 y5)),(1,(.row true 100 adH y4))]
def aaS:Nat→iE→List (Nat×SV)
 |_,(_,_,_,_,_,_)=> [(5,(.one ⟨false,[.ref 1]⟩))]
def aaJ:Nat→iE→List (Nat×Entry)
 |_,(_,_,y2,y3,y4,y5)=> [(0,(.box 157 [.ref 2,.val (.int .i64 y2),.val (.int .i64 y3)])),(1,(.row true 100 adH y4)),(2,(.row false 5 ak9 y5))]
def HH:iE→LT iE
 |(y0,y1,y2,y3,y4,y5)=> .ite (Ch y0 y1) (.need [Ci y2 y3 y5] (.need [Cj y2 y3 y5,Ck y2 y3 y5,Cl y0 y2 y3 y4 y5,Cm y0 y2 y3 y4 y5,Cn y2 y3 y5,Co y2 y3 y4 y5,Cp y0 y2 y3 y4 y5,Cq y0 y2 y3 y4 y5] (.ite (Am y2 y3 y5) (.nrm ((lT y0),y1,An y2 y5,Ao y2 y3 y5,Ap y0 y2 y3 y4 y5,y5) [(0,0),(1,1280),(2,2)]) (.ite (Aq y2 y3 y5) (.ite (Ar y2 y3 y4 y5) (.nrm ((lT y0),y1,As y2 y5,At y2 y3 y5,Au y0 y2 y3 y4 y5,y5) [(0,0),(1,1920),(2,2)]) (.nrm ((lT y0),y1,Av y2 y5,Aw y2 y3 y5,y4,y5) [(0,0),(1,1),(2,2)])) (.nrm ((lT y0),y1,Ax y2 y5,Ay y2 y3 y5,y4,y5) [(0,0),(1,1),(2,2)]))))) (.ext 0 [(0,0),(1,1),(2,2)])
def HV(s:St):Option iE:=
 (match s.look 6 with
 |some ⟨none,.one ⟨false,[.val (.int .i64 y0)]⟩⟩=>
 (match s.look 1 with
 |some ⟨none,.one ⟨false,[.val (.int .i64 y1)]⟩⟩=>
 (match s.look 0 with
 |some ⟨none,.one ⟨false,[.ptr 0 0]⟩⟩=>
 (match s.look 5 with
 |some ⟨none,.one ⟨false,[.ref 256]⟩⟩=>
 (match s.ent 0 with
 |some (.box 157 [.ref 1,.val (.int .i64 y2),.val (.int .i64 y3)])=>
 (match s.ent 1 with
 |some (.row false 5 (.int IntKind.u8) y5)=>
 (match s.ent 256 with
 |some (.row true 100 (.pair (.int .i64) (.pair (.int .i64) (.int .i64))) y4)=>
 some (y0,y1,y2,y3,y4,y5)
 |_=>none)
 |_=>none)
 |_=>none)
 |_=>none)
 |_=>none)
 |_=>none)
 |_=>none)
def fj:Lp iE where
 h:=⟨[9,10,11,12,13,14,15,18,19,21,20,22,23,24,25,26,27,28,29,30,5,32,31,33,34,35,36,37,38,39,40,41,42,43,44,45,46,47,48,49,16,17,6],[0,2],[1],[]⟩
 JL:=aaA
 JE:=aar
 XL:=aaS
 XE:=aaJ
 q:=fun j=>match j with | _=> .exit 0
 tags:= [0]
 lt:=HH
 fuel:=fun(y0,y1,y2,y3,y4,y5)=>y0.natAbs + y1.natAbs + y2.natAbs + y3.natAbs + y4.length + y5.length
 fix:=fun(_,y1,_,_,_,y5) (y0,_,y2,y3,y4,_)=>(y0,y1,y2,y3,y4,y5)
 σ:= [(0,0),(2,1),(1,256)]
 rd:=HV
theorem Yc:LoopOk prog (fun k=>Nat.blt k Tryz.f139.ntmps) fj.F (aH f139 0):=by
 refine Lp.ok (tbl:= (T3z [am,ao])) (lf:= []) aO fj (by kernel_rfl) (LOk.nil _) (fun _=>rfl) (fun _ _=>rfl) ?_ ?_ ?_ ?_ (fun _=>rfl) ?_
 ·rintro⟨y0,y1,y2,y3,y4,y5⟩;kernel_rfl
 ·rintro⟨y0,y1,y2,y3,y4,y5⟩;kernel_rfl
 ·intro s x h
  have h:HV s=some x:=h
  unfold HV at h
  repeat' split at h
  all_goals cases h
  constructor<;>repeat(first|refine ae (by assumption) rfl ?_|refine af rfl (by assumption) rfl ?_|exact rfl)
 ·rintro⟨y0,y1,y2,y3,y4,y5⟩;kernel_rfl
 ·rintro⟨y0,y1,y2,y3,y4,y5⟩ z;exact(And.intro (And.intro rfl (And.intro (And.intro rfl rfl) rfl)) trivial)
abbrev iF:=Int×Int×Int×List (Int×(Int×Int))×List Int
section
variable (y0 y1 y2:Int)(y4:List Int)
def lX:List (Int×Int×Int):= [(IntKind.wrap .i64 (Int.tdiv y0 2),Int.tmod y0 2,(0:Int))]
def vZ:Bool:=aD y1 y2 y4
def wa:Bool:=ltI y0 (IntKind.wrap .i64 ((8:Int) + nxV 2 y1 y2 y4))
end
def re:Bool:=neI 2 0
section
variable (y0 y1 y2:Int)(y3:List (Int×(Int×Int)))(y4:List Int)
def wb:Bool:=leN (List.length y3 + List.length (lX y0)) 9223372036854775807
def wc:Bool:=leN ((List.length y3 + List.length (lX y0)) * 24) 140737488355328
def wd:Int:=IntKind.wrap .i64 (y0 + (1:Int))
def nr:Int:=nxA 2 y1 y4
def nt:Int:=nxS 2 y1 y2 y4
def we:List (Int×(Int×Int)):=y3++lX y0
end
def aaB:iF→List (Nat×SV)
 |(y0,_,_,_,_)=> [(7,(.one ⟨false,[.val (.int .i64 y0)]⟩)),(0,(.one ⟨false,[.ptr 0 0]⟩)),(5,(.one ⟨false,[.ref 1]⟩))]
def aas:iF→List (Nat×Entry)
 |(_,y1,y2,y3,y4)=> [(0,(.box 157 [.ref 2,.val (.int .i64 y1),.val (.int .i64 y2)])),(2,(.row false 5 ak9 y4)),(1,(.row true 100 adH y3))]
def aaT:Nat→iF→List (Nat×SV)
 |_,(_,_,_,_,_)=> [(5,(.one ⟨false,[.ref 1]⟩))]
def aaK:Nat→iF→List (Nat×Entry)
 |_,(_,y1,y2,y3,y4)=> [(0,(.box 157 [.ref 2,.val (.int .i64 (nr y1 y4)),.val (.int .i64 (nt y1 y2 y4))])),(1,(.row true 100 adH y3)),(2,(.row false 5 ak9 y4))]
def HI:iF→LT iF
 |(y0,y1,y2,y3,y4)=> .need [vZ y1 y2 y4] (.ite (wa y0 y1 y2 y4) (.need [re,re,wb y0 y3,wc y0 y3] (.nrm ((wd y0),nr y1 y4,nt y1 y2 y4,we y0 y3,y4) [(0,0),(1,832),(2,2)])) (.ext 0 [(0,0),(1,1),(2,2)]))
def HW(s:St):Option iF:=
 (match s.look 7 with
 |some ⟨none,.one ⟨false,[.val (.int .i64 y0)]⟩⟩=>
 (match s.look 0 with
 |some ⟨none,.one ⟨false,[.ptr 0 0]⟩⟩=>
 (match s.look 5 with
 |some ⟨none,.one ⟨false,[.ref 896]⟩⟩=>
 (match s.ent 0 with
 |some (.box 157 [.ref 1,.val (.int .i64 y1),.val (.int .i64 y2)])=>
 (match s.ent 1 with
 |some (.row false 5 (.int IntKind.u8) y4)=>
 (match s.ent 896 with
 |some (.row true 100 (.pair (.int .i64) (.pair (.int .i64) (.int .i64))) y3)=>
 some (y0,y1,y2,y3,y4)
 |_=>none)
 |_=>none)
 |_=>none)
 |_=>none)
 |_=>none)
 |_=>none)
def fk:Lp iF where
 h:=⟨[70,71,72,73,74,77,78,79,80,81,82,83,84,5,75,76,7],[0,2],[1],[]⟩
 JL:=aaB
 JE:=aas
 XL:=aaT
 XE:=aaK
 q:=fun j=>match j with | _=> .exit 4
 tags:= [0]
 lt:=HI
 fuel:=fun(y0,y1,y2,y3,y4)=>y0.natAbs + y1.natAbs + y2.natAbs + y3.length + y4.length
 fix:=fun(_,_,_,_,y4) (y0,y1,y2,y3,_)=>(y0,y1,y2,y3,y4)
 σ:= [(0,0),(2,1),(1,896)]
 rd:=HW
theorem Yd:LoopOk prog (fun k=>Nat.blt k Tryz.f139.ntmps) fk.F (aH f139 1):=by
 refine Lp.ok (tbl:= (T3z [am,ao])) (lf:= []) aO fk (by kernel_rfl) (LOk.nil _) (fun _=>rfl) (fun _ _=>rfl) ?_ ?_ ?_ ?_ (fun _=>rfl) ?_
 ·rintro⟨y0,y1,y2,y3,y4⟩;kernel_rfl
 ·rintro⟨y0,y1,y2,y3,y4⟩;kernel_rfl
 ·intro s x h
  have h:HW s=some x:=h
  unfold HW at h
  repeat' split at h
  all_goals cases h
  constructor<;>repeat(first|refine ae (by assumption) rfl ?_|refine af rfl (by assumption) rfl ?_|exact rfl)
 ·rintro⟨y0,y1,y2,y3,y4⟩;kernel_rfl
 ·rintro⟨y0,y1,y2,y3,y4⟩ z;exact(And.intro rfl trivial)
section
variable (x0 x1 x2:Int)(x3:List Int)
def pO:List (Int×Int×Int)×List Int:=([],x3)
def mp:Int×Int×Int×Int×List (Int×Int×Int)×List Int:=((0:Int),x0,x1,x2,pO x3)
def pP:Int×Int×List (Int×Int×Int)×List Int:=(Lp.res fj (mp x0 x1 x2 x3)).2.2.2
def dh:Int:=(pP x0 x1 x2 x3).1
def pQ:Int×List (Int×Int×Int)×List Int:=(pP x0 x1 x2 x3).2
def mq:Int:=(pQ x0 x1 x2 x3).1
def pR:Int:=nxV 40 (dh x0 x1 x2 x3) (mq x0 x1 x2 x3) x3
def di:Bool:=pR x0 x1 x2 x3==0
def kx:List Int:= [(-1:Int),(0:Int),x0]
def ky:Int:=pkA (nxA 40 (dh x0 x1 x2 x3) x3) (kx x0) x3
def jx:Int:=pkA (ky x0 x1 x2 x3) [(0:Int),(1:Int),(2:Int)] x3
def jy:Bool:=pR x0 x1 x2 x3==1
def il:Int:=nxS 40 (dh x0 x1 x2 x3) (mq x0 x1 x2 x3) x3
def lu:Int×Int×Int×List (Int×Int×Int)×List Int:=((0:Int),nxA 40 (dh x0 x1 x2 x3) x3,il x0 x1 x2 x3,pO x3)
def ov:Int×Int×List (Int×Int×Int)×List Int:=(Lp.res fk (lu x0 x1 x2 x3)).2.2
def ow:Int:=(ov x0 x1 x2 x3).1
def lv:Int:=pkS (nxA 40 (dh x0 x1 x2 x3) x3) (il x0 x1 x2 x3) (kx x0) x3
def lw:Int:=pkS (ky x0 x1 x2 x3) (lv x0 x1 x2 x3) [(0:Int),(1:Int),(2:Int)] x3
def ox:Int×List (Int×Int×Int)×List Int:=(ov x0 x1 x2 x3).2
def jz:List (Int×Int×Int):=((pQ x0 x1 x2 x3).2).1
def lx:List (Int×Int×Int):= [(pkV (nxA 40 (dh x0 x1 x2 x3) x3) (il x0 x1 x2 x3) (kx x0) x3,pkV (ky x0 x1 x2 x3) (lv x0 x1 x2 x3) [(0:Int),(1:Int),(2:Int)] x3,nxV 3 (jx x0 x1 x2 x3) (lw x0 x1 x2 x3) x3)]
def ln:Int:=bif di x0 x1 x2 x3 then nxA 3 (jx x0 x1 x2 x3) x3 else bif jy x0 x1 x2 x3 then nr (ow x0 x1 x2 x3) x3 else nxA 40 (dh x0 x1 x2 x3) x3
def lq:Int:=bif di x0 x1 x2 x3 then nxS 3 (jx x0 x1 x2 x3) (lw x0 x1 x2 x3) x3 else bif jy x0 x1 x2 x3 then nt (ow x0 x1 x2 x3) ((ox x0 x1 x2 x3).1) x3 else il x0 x1 x2 x3
def lr:List (Int×(Int×Int)):=bif di x0 x1 x2 x3 then jz x0 x1 x2 x3++lx x0 x1 x2 x3 else bif jy x0 x1 x2 x3 then ((ox x0 x1 x2 x3).2).1else jz x0 x1 x2 x3
def rT:Bool:=allT [Lp.fin fj (mp x0 x1 x2 x3),aD (dh x0 x1 x2 x3) (mq x0 x1 x2 x3) x3,!di x0 x1 x2 x3||aD (nxA 40 (dh x0 x1 x2 x3) x3) (il x0 x1 x2 x3) x3&&leN 1 (List.length (kx x0)),!di x0 x1 x2 x3||aD (ky x0 x1 x2 x3) (lv x0 x1 x2 x3) x3&&leN 1 (List.length [(0:Int),(1:Int),(2:Int)]),!di x0 x1 x2 x3||aD (jx x0 x1 x2 x3) (lw x0 x1 x2 x3) x3,!di x0 x1 x2 x3||leN (List.length (jz x0 x1 x2 x3) + List.length (lx x0 x1 x2 x3)) 9223372036854775807,!di x0 x1 x2 x3||leN ((List.length (jz x0 x1 x2 x3) + List.length (lx x0 x1 x2 x3)) * 24) 140737488355328,di x0 x1 x2 x3||(!jy x0 x1 x2 x3||Lp.fin fk (lu x0 x1 x2 x3))]
end
def Va:List SV→List Entry→Option Out
 | [.one ⟨false,[.ptr 0 0]⟩,.one ⟨false,[.val (.int .i64 x0)]⟩],[.box 157 [.ref 1,.val (.int .i64 x1),.val (.int .i64 x2)],.row false 5 (.int .u8) x3]=>some ⟨.one ⟨false,[.ref 2]⟩,[.box 157 [.ref 1,.val (.int .i64 (ln x0 x1 x2 x3)),.val (.int .i64 (lq x0 x1 x2 x3))],.row false 5 ak9 x3],[.row true 100 adH (lr x0 x1 x2 x3)],[rT x0 x1 x2 x3]⟩
 |_,_=>none
def afR:PF prog:=PF.ofG prog (T3z [am,ao]) [fj.F,fk.F] aO 139 f139 func139 (LOk.fnT (l:= [aH f139 0,aH f139 1]) (by kernel_rfl) (.cons Yc (.cons Yd (.nil _)))) Va (by
 intro vs es r h;unfold Va at h;split at h
 ·cases h;kernel_rfl
 ·cases h)
abbrev qa:=Int×List (Int×Int)×Int×Int×List Int
section
variable (y0:Int)(y1:List (Int×Int))(y2 y3:Int)(y4:List Int)
def uT:List Int:= [(1:Int),(7:Int),(30:Int),IntKind.wrap .i64 ((1:Int) + nxV 40 y2 y3 y4),(366:Int)]
def uU:Int:=pkA (nxA 40 y2 y4) (uT y2 y3 y4) y4
def zL:Int:=pkS (nxA 40 y2 y4) (nxS 40 y2 y3 y4) (uT y2 y3 y4) y4
def zM:List (Int×Int):= [(pkV (nxA 40 y2 y4) (nxS 40 y2 y3 y4) (uT y2 y3 y4) y4,nxV 60 (uU y2 y3 y4) (zL y2 y3 y4) y4)]
def Mq:Bool:=ltI 0 y0
def Mr:Bool:=aD y2 y3 y4
def Mt:Bool:=aD (nxA 40 y2 y4) (nxS 40 y2 y3 y4) y4&&leN 1 (List.length (uT y2 y3 y4))
def Mu:Bool:=aD (uU y2 y3 y4) (zL y2 y3 y4) y4
def Mv:Bool:=leN (List.length y1 + List.length (zM y2 y3 y4)) 9223372036854775807
def Mw:Bool:=leN ((List.length y1 + List.length (zM y2 y3 y4)) * 16) 140737488355328
def Mx:Int:=IntKind.wrap .i64 (y0 - (1:Int))
def My:List (Int×Int):=y1++zM y2 y3 y4
def Mz:Int:=nxA 60 (uU y2 y3 y4) y4
def MA:Int:=nxS 60 (uU y2 y3 y4) (zL y2 y3 y4) y4
end
def ahJ:qa→List (Nat×SV)
 |(y0,_,_,_,_)=> [(4,(.one ⟨false,[.val (.int .i64 y0)]⟩)),(3,(.one ⟨false,[.ref 0]⟩)),(0,(.one ⟨false,[.ptr 1 0]⟩))]
def ahA:qa→List (Nat×Entry)
 |(_,y1,y2,y3,y4)=> [(1,(.box 157 [.ref 2,.val (.int .i64 y2),.val (.int .i64 y3)])),(2,(.row false 5 ak9 y4)),(0,(.row true 173 aej y1))]
def ah2:Nat→qa→List (Nat×SV)
 |_,(_,_,_,_,_)=> [(3,(.one ⟨false,[.ref 0]⟩))]
def ahT:Nat→qa→List (Nat×Entry)
 |_,(_,y1,y2,y3,y4)=> [(0,(.row true 173 aej y1)),(1,(.box 157 [.ref 2,.val (.int .i64 y2),.val (.int .i64 y3)])),(2,(.row false 5 ak9 y4))]
def QI:qa→LT qa
 |(y0,y1,y2,y3,y4)=> .ite (Mq y0) (.need [Mr y2 y3 y4,Mt y2 y3 y4,Mu y2 y3 y4,Mv y1 y2 y3 y4,Mw y1 y2 y3 y4] (.nrm ((Mx y0),My y1 y2 y3 y4,Mz y2 y3 y4,MA y2 y3 y4,y4) [(0,896),(1,1),(2,2)])) (.ext 0 [(0,0),(1,1),(2,2)])
def QW(s:St):Option qa:=
 (match s.look 4 with
 |some ⟨none,.one ⟨false,[.val (.int .i64 y0)]⟩⟩=>
 (match s.look 3 with
 |some ⟨none,.one ⟨false,[.ref 256]⟩⟩=>
 (match s.look 0 with
 |some ⟨none,.one ⟨false,[.ptr 0 0]⟩⟩=>
 (match s.ent 0 with
 |some (.box 157 [.ref 1,.val (.int .i64 y2),.val (.int .i64 y3)])=>
 (match s.ent 1 with
 |some (.row false 5 (.int IntKind.u8) y4)=>
 (match s.ent 256 with
 |some (.row true 173 (.pair (.int .i64) (.int .i64)) y1)=>
 some (y0,y1,y2,y3,y4)
 |_=>none)
 |_=>none)
 |_=>none)
 |_=>none)
 |_=>none)
 |_=>none)
def lM:Lp qa where
 h:=⟨[9,10,13,14,15,16,17,18,19,20,21,22,23,24,3,11,12,4],[1,2],[0],[]⟩
 JL:=ahJ
 JE:=ahA
 XL:=ah2
 XE:=ahT
 q:=fun j=>match j with | _=> .exit 0
 tags:= [0]
 lt:=QI
 fuel:=fun(y0,y1,y2,y3,y4)=>y0.natAbs + y1.length + y2.natAbs + y3.natAbs + y4.length
 fix:=fun(_,_,_,_,y4) (y0,y1,y2,y3,_)=>(y0,y1,y2,y3,y4)
 σ:= [(1,0),(2,1),(0,256)]
 rd:=QW
theorem afz:LoopOk prog (fun k=>Nat.blt k Tryz.f140.ntmps) lM.F (aH f140 0):=by
 refine Lp.ok (tbl:= (T3z [am,ao])) (lf:= []) aO lM (by kernel_rfl) (LOk.nil _) (fun _=>rfl) (fun _ _=>rfl) ?_ ?_ ?_ ?_ (fun _=>rfl) ?_
 ·rintro⟨y0,y1,y2,y3,y4⟩;kernel_rfl
 ·rintro⟨y0,y1,y2,y3,y4⟩;kernel_rfl
 ·intro s x h
  have h:QW s=some x:=h
  unfold QW at h
  repeat' split at h
  all_goals cases h
  constructor<;>repeat(first|refine ae (by assumption) rfl ?_|refine af rfl (by assumption) rfl ?_|exact rfl)
 ·rintro⟨y0,y1,y2,y3,y4⟩;kernel_rfl
 ·rintro⟨y0,y1,y2,y3,y4⟩ z;exact(And.intro rfl trivial)
abbrev qb:=Int×Int×Int×List (Int×Int)×List Int
section
variable (y0 y1 y2:Int)(y3:List (Int×Int))(y4:List Int)
def uV:List (Int×Int):= [(IntKind.wrap .i64 ((1:Int) + y0),(0:Int))]
def Hk:Bool:=aD y1 y2 y4
def Hl:Bool:=ltI y0 (IntKind.wrap .i64 ((12:Int) + nxV 2 y1 y2 y4))
def Hm:Bool:=leN (List.length y3 + List.length (uV y0)) 9223372036854775807
def Hn:Bool:=leN ((List.length y3 + List.length (uV y0)) * 16) 140737488355328
def Ho:Int:=IntKind.wrap .i64 (y0 + (1:Int))
def xU:Int:=nxA 2 y1 y4
def xV:Int:=nxS 2 y1 y2 y4
def Hq:List (Int×Int):=y3++uV y0
end
def ahK:qb→List (Nat×SV)
 |(y0,_,_,_,_)=> [(5,(.one ⟨false,[.val (.int .i64 y0)]⟩)),(0,(.one ⟨false,[.ptr 0 0]⟩)),(3,(.one ⟨false,[.ref 1]⟩))]
def ahB:qb→List (Nat×Entry)
 |(_,y1,y2,y3,y4)=> [(0,(.box 157 [.ref 2,.val (.int .i64 y1),.val (.int .i64 y2)])),(2,(.row false 5 ak9 y4)),(1,(.row true 173 aej y3))]
def ah3:Nat→qb→List (Nat×SV)
 |_,(_,_,_,_,_)=> [(3,(.one ⟨false,[.ref 1]⟩))]
def ahU:Nat→qb→List (Nat×Entry)
 |_,(_,y1,y2,y3,y4)=> [(0,(.box 157 [.ref 2,.val (.int .i64 (xU y1 y4)),.val (.int .i64 (xV y1 y2 y4))])),(1,(.row true 173 aej y3)),(2,(.row false 5 ak9 y4))]
def QJ:qb→LT qb
 |(y0,y1,y2,y3,y4)=> .need [Hk y1 y2 y4] (.ite (Hl y0 y1 y2 y4) (.need [Hm y0 y3,Hn y0 y3] (.nrm ((Ho y0),xU y1 y4,xV y1 y2 y4,Hq y0 y3,y4) [(0,0),(1,704),(2,2)])) (.ext 0 [(0,0),(1,1),(2,2)]))
def QX(s:St):Option qb:=
 (match s.look 5 with
 |some ⟨none,.one ⟨false,[.val (.int .i64 y0)]⟩⟩=>
 (match s.look 0 with
 |some ⟨none,.one ⟨false,[.ptr 0 0]⟩⟩=>
 (match s.look 3 with
 |some ⟨none,.one ⟨false,[.ref 1024]⟩⟩=>
 (match s.ent 0 with
 |some (.box 157 [.ref 1,.val (.int .i64 y1),.val (.int .i64 y2)])=>
 (match s.ent 1 with
 |some (.row false 5 (.int IntKind.u8) y4)=>
 (match s.ent 1024 with
 |some (.row true 173 (.pair (.int .i64) (.int .i64)) y3)=>
 some (y0,y1,y2,y3,y4)
 |_=>none)
 |_=>none)
 |_=>none)
 |_=>none)
 |_=>none)
 |_=>none)
def lN:Lp qb where
 h:=⟨[42,43,44,45,46,49,50,51,52,53,54,3,47,48,5],[0,2],[1],[]⟩
 JL:=ahK
 JE:=ahB
 XL:=ah3
 XE:=ahU
 q:=fun j=>match j with | _=> .exit 3
 tags:= [0]
 lt:=QJ
 fuel:=fun(y0,y1,y2,y3,y4)=>y0.natAbs + y1.natAbs + y2.natAbs + y3.length + y4.length
 fix:=fun(_,_,_,_,y4) (y0,y1,y2,y3,_)=>(y0,y1,y2,y3,y4)
 σ:= [(0,0),(2,1),(1,1024)]
 rd:=QX
theorem afA:LoopOk prog (fun k=>Nat.blt k Tryz.f140.ntmps) lN.F (aH f140 1):=by
 refine Lp.ok (tbl:= (T3z [am,ao])) (lf:= []) aO lN (by kernel_rfl) (LOk.nil _) (fun _=>rfl) (fun _ _=>rfl) ?_ ?_ ?_ ?_ (fun _=>rfl) ?_
 ·rintro⟨y0,y1,y2,y3,y4⟩;kernel_rfl
 ·rintro⟨y0,y1,y2,y3,y4⟩;kernel_rfl
 ·intro s x h
  have h:QX s=some x:=h
  unfold QX at h
  repeat' split at h
  all_goals cases h
  constructor<;>repeat(first|refine ae (by assumption) rfl ?_|refine af rfl (by assumption) rfl ?_|exact rfl)
 ·rintro⟨y0,y1,y2,y3,y4⟩;kernel_rfl
 ·rintro⟨y0,y1,y2,y3,y4⟩ z;exact(And.intro rfl trivial)
section
variable (x0 x1:Int)(x2:List Int)
def yK:Int×List (Int×Int)×Int×Int×List Int:=(nxV 5 x0 x1 x2,[],nxA 5 x0 x2,nxS 5 x0 x1 x2,x2)
def Cx:List (Int×Int)×Int×Int×List Int:=(Lp.res lM (yK x0 x1 x2)).2.2
def sg:Int×Int×List Int:=(Cx x0 x1 x2).2
def yL:Int:=((sg x0 x1 x2).2).1
def Cy:Int:=nxV 40 ((sg x0 x1 x2).1) (yL x0 x1 x2) x2
def kZ:Bool:=Cy x0 x1 x2==0
def oT:Int:=nxA 40 ((sg x0 x1 x2).1) x2
def uy:Int:=pkA (oT x0 x1 x2) [(0:Int),(1:Int),(367:Int)] x2
def uz:Bool:=Cy x0 x1 x2==1
def si:Int:=nxS 40 ((sg x0 x1 x2).1) (yL x0 x1 x2) x2
def wg:Int×Int×Int×List (Int×Int)×List Int:=((0:Int),oT x0 x1 x2,si x0 x1 x2,[],x2)
def zI:Int×Int×List (Int×Int)×List Int:=(Lp.res lN (wg x0 x1 x2)).2.2
def zJ:Int:=(zI x0 x1 x2).1
def wh:Int:=pkS (oT x0 x1 x2) (si x0 x1 x2) [(0:Int),(1:Int),(367:Int)] x2
def zK:Int×List (Int×Int)×List Int:=(zI x0 x1 x2).2
def sH:List (Int×Int):=(Cx x0 x1 x2).1
def wi:List (Int×Int):= [(pkV (oT x0 x1 x2) (si x0 x1 x2) [(0:Int),(1:Int),(367:Int)] x2,pkV (uy x0 x1 x2) (wh x0 x1 x2) [(-1:Int),(100000:Int),(100001:Int)] x2)]
def xR:Int:=bif kZ x0 x1 x2 then pkA (uy x0 x1 x2) [(-1:Int),(100000:Int),(100001:Int)] x2 else bif uz x0 x1 x2 then xU (zJ x0 x1 x2) x2 else oT x0 x1 x2
def xS:Int:=bif kZ x0 x1 x2 then pkS (uy x0 x1 x2) (wh x0 x1 x2) [(-1:Int),(100000:Int),(100001:Int)] x2 else bif uz x0 x1 x2 then xV (zJ x0 x1 x2) ((zK x0 x1 x2).1) x2 else si x0 x1 x2
def xT:List (Int×Int):=bif kZ x0 x1 x2 then sH x0 x1 x2++wi x0 x1 x2 else bif uz x0 x1 x2 then ((zK x0 x1 x2).2).1else sH x0 x1 x2
def FO:Bool:=allT [aD x0 x1 x2,Lp.fin lM (yK x0 x1 x2),aD ((sg x0 x1 x2).1) (yL x0 x1 x2) x2,!kZ x0 x1 x2||aD (oT x0 x1 x2) (si x0 x1 x2) x2&&leN 1 (List.length [(0:Int),(1:Int),(367:Int)]),!kZ x0 x1 x2||aD (uy x0 x1 x2) (wh x0 x1 x2) x2&&leN 1 (List.length [(-1:Int),(100000:Int),(100001:Int)]),!kZ x0 x1 x2||leN (List.length (sH x0 x1 x2) + List.length (wi x0 x1 x2)) 9223372036854775807,!kZ x0 x1 x2||leN ((List.length (sH x0 x1 x2) + List.length (wi x0 x1 x2)) * 16) 140737488355328,kZ x0 x1 x2||(!uz x0 x1 x2||Lp.fin lN (wg x0 x1 x2))]
end
def aeH:List SV→List Entry→Option Out
 | [.one ⟨false,[.ptr 0 0]⟩],[.box 157 [.ref 1,.val (.int .i64 x0),.val (.int .i64 x1)],.row false 5 (.int .u8) x2]=>some ⟨.one ⟨false,[.ref 2]⟩,[.box 157 [.ref 1,.val (.int .i64 (xR x0 x1 x2)),.val (.int .i64 (xS x0 x1 x2))],.row false 5 ak9 x2],[.row true 173 aej (xT x0 x1 x2)],[FO x0 x1 x2]⟩
 |_,_=>none
def amF:PF prog:=PF.ofG prog (T3z [am,ao]) [lM.F,lN.F] aO 140 f140 func140 (LOk.fnT (l:= [aH f140 0,aH f140 1]) (by kernel_rfl) (.cons afz (.cons afA (.nil _)))) aeH (by
 intro vs es r h;unfold aeH at h;split at h
 ·cases h;kernel_rfl
 ·cases h)
abbrev jo:=Int×Int×List (Int×Int)×Int×Int×List Int
section
variable (y0 y1:Int)(y2:List (Int×Int))(y3 y4:Int)(y5:List Int)
def rf:List (Int×Int):= [(nxV 4 y3 y4 y5,y1)]
def Du:Bool:=ltI 0 y0
def Dv:Bool:=aD y3 y4 y5
def Dw:Bool:=leN (List.length y2 + List.length (rf y1 y3 y4 y5)) 9223372036854775807
def Dx:Bool:=leN ((List.length y2 + List.length (rf y1 y3 y4 y5)) * 16) 140737488355328
def Dy:Bool:=aD (nxA 4 y3 y5) (nxS 4 y3 y4 y5) y5
def Dz:Int:=IntKind.wrap .i64 (y0 - (1:Int))
def DA:Int:=IntKind.wrap .i64 (IntKind.wrap .i64 (y1 + (1:Int)) + nxV 3 (nxA 4 y3 y5) (nxS 4 y3 y4 y5) y5)
def DB:List (Int×Int):=y2++rf y1 y3 y4 y5
def DC:Int:=nxA 3 (nxA 4 y3 y5) y5
def DD:Int:=nxS 3 (nxA 4 y3 y5) (nxS 4 y3 y4 y5) y5
end
def abx:jo→List (Nat×SV)
 |(y0,y1,_,_,_,_)=> [(5,(.one ⟨false,[.val (.int .i64 y0)]⟩)),(3,(.one ⟨false,[.ref 0]⟩)),(0,(.one ⟨false,[.ptr 1 0]⟩)),(4,(.one ⟨false,[.val (.int .i64 y1)]⟩))]
def abs:jo→List (Nat×Entry)
 |(_,_,y2,y3,y4,y5)=> [(1,(.box 157 [.ref 2,.val (.int .i64 y3),.val (.int .i64 y4)])),(2,(.row false 5 ak9 y5)),(0,(.row true 176 aej y2))]
def abO:Nat→jo→List (Nat×SV)
 |_,(_,_,_,_,_,_)=> [(3,(.one ⟨false,[.ref 0]⟩))]
def abJ:Nat→jo→List (Nat×Entry)
 |_,(_,_,y2,y3,y4,y5)=> [(0,(.row true 176 aej y2)),(1,(.box 157 [.ref 2,.val (.int .i64 y3),.val (.int .i64 y4)])),(2,(.row false 5 ak9 y5))]
def Ji:jo→LT jo
 |(y0,y1,y2,y3,y4,y5)=> .ite (Du y0) (.need [Dv y3 y4 y5,Dw y1 y2 y3 y4 y5,Dx y1 y2 y3 y4 y5] (.need [Dy y3 y4 y5] (.nrm ((Dz y0),DA y1 y3 y4 y5,DB y1 y2 y3 y4 y5,DC y3 y5,DD y3 y4 y5,y5) [(0,576),(1,1),(2,2)]))) (.ext 0 [(0,0),(1,1),(2,2)])
def Js(s:St):Option jo:=
 (match s.look 5 with
 |some ⟨none,.one ⟨false,[.val (.int .i64 y0)]⟩⟩=>
 (match s.look 3 with
 |some ⟨none,.one ⟨false,[.ref 256]⟩⟩=>
 (match s.look 0 with
 |some ⟨none,.one ⟨false,[.ptr 0 0]⟩⟩=>
 (match s.look 4 with
 |some ⟨none,.one ⟨false,[.val (.int .i64 y1)]⟩⟩=>
 (match s.ent 0 with
 |some (.box 157 [.ref 1,.val (.int .i64 y3),.val (.int .i64 y4)])=>
 (match s.ent 1 with
 |some (.row false 5 (.int IntKind.u8) y5)=>
 (match s.ent 256 with
 |some (.row true 176 (.pair (.int .i64) (.int .i64)) y2)=>
 some (y0,y1,y2,y3,y4,y5)
 |_=>none)
 |_=>none)
 |_=>none)
 |_=>none)
 |_=>none)
 |_=>none)
 |_=>none)
def gm:Lp jo where
 h:=⟨[13,14,17,18,19,20,21,22,23,3,24,25,26,27,28,4,15,16,5],[1,2],[0],[]⟩
 JL:=abx
 JE:=abs
 XL:=abO
 XE:=abJ
 q:=fun j=>match j with | _=> .exit 0
 tags:= [0]
 lt:=Ji
 fuel:=fun(y0,y1,y2,y3,y4,y5)=>y0.natAbs + y1.natAbs + y2.length + y3.natAbs + y4.natAbs + y5.length
 fix:=fun(_,_,_,_,_,y5) (y0,y1,y2,y3,y4,_)=>(y0,y1,y2,y3,y4,y5)
 σ:= [(1,0),(2,1),(0,256)]
 rd:=Js
theorem Zp:LoopOk prog (fun k=>Nat.blt k Tryz.f141.ntmps) gm.F (aH f141 0):=by
 refine Lp.ok (tbl:= (T3z [am,ao])) (lf:= []) aO gm (by kernel_rfl) (LOk.nil _) (fun _=>rfl) (fun _ _=>rfl) ?_ ?_ ?_ ?_ (fun _=>rfl) ?_
 ·rintro⟨y0,y1,y2,y3,y4,y5⟩;kernel_rfl
 ·rintro⟨y0,y1,y2,y3,y4,y5⟩;kernel_rfl
 ·intro s x h
  have h:Js s=some x:=h
  unfold Js at h
  repeat' split at h
  all_goals cases h
  constructor<;>repeat(first|refine ae (by assumption) rfl ?_|refine af rfl (by assumption) rfl ?_|exact rfl)
 ·rintro⟨y0,y1,y2,y3,y4,y5⟩;kernel_rfl
 ·rintro⟨y0,y1,y2,y3,y4,y5⟩ z;exact(And.intro rfl trivial)
abbrev jp:=Int×Int×Int×List (Int×Int)×List Int
section
variable (y0 y1 y2:Int)(y4:List Int)
def nu:List (Int×Int):= [(y0,IntKind.wrap .i64 ((1:Int) + Int.tmod y0 3))]
def xK:Bool:=aD y1 y2 y4
def xL:Bool:=ltI y0 (IntKind.wrap .i64 ((8:Int) + nxV 2 y1 y2 y4))
end
def xM:Bool:=neI 3 0
section
variable (y0 y1 y2:Int)(y3:List (Int×Int))(y4:List Int)
def xN:Bool:=leN (List.length y3 + List.length (nu y0)) 9223372036854775807
def xO:Bool:=leN ((List.length y3 + List.length (nu y0)) * 16) 140737488355328
def xP:Int:=IntKind.wrap .i64 (y0 + (1:Int))
def oy:Int:=nxA 2 y1 y4
def oz:Int:=nxS 2 y1 y2 y4
def xQ:List (Int×Int):=y3++nu y0
end
def aby:jp→List (Nat×SV)
 |(y0,_,_,_,_)=> [(6,(.one ⟨false,[.val (.int .i64 y0)]⟩)),(0,(.one ⟨false,[.ptr 0 0]⟩)),(3,(.one ⟨false,[.ref 1]⟩))]
def abt:jp→List (Nat×Entry)
 |(_,y1,y2,y3,y4)=> [(0,(.box 157 [.ref 2,.val (.int .i64 y1),.val (.int .i64 y2)])),(2,(.row false 5 ak9 y4)),(1,(.row true 176 aej y3))]
def abP:Nat→jp→List (Nat×SV)
 |_,(_,_,_,_,_)=> [(3,(.one ⟨false,[.ref 1]⟩))]
def abK:Nat→jp→List (Nat×Entry)
 |_,(_,y1,y2,y3,y4)=> [(0,(.box 157 [.ref 2,.val (.int .i64 (oy y1 y4)),.val (.int .i64 (oz y1 y2 y4))])),(1,(.row true 176 aej y3)),(2,(.row false 5 ak9 y4))]
def Jj:jp→LT jp
 |(y0,y1,y2,y3,y4)=> .need [xK y1 y2 y4] (.ite (xL y0 y1 y2 y4) (.need [xM,xN y0 y3,xO y0 y3] (.nrm ((xP y0),oy y1 y4,oz y1 y2 y4,xQ y0 y3,y4) [(0,0),(1,832),(2,2)])) (.ext 0 [(0,0),(1,1),(2,2)]))
def Jt(s:St):Option jp:=
 (match s.look 6 with
 |some ⟨none,.one ⟨false,[.val (.int .i64 y0)]⟩⟩=>
 (match s.look 0 with
 |some ⟨none,.one ⟨false,[.ptr 0 0]⟩⟩=>
 (match s.look 3 with
 |some ⟨none,.one ⟨false,[.ref 1280]⟩⟩=>
 (match s.ent 0 with
 |some (.box 157 [.ref 1,.val (.int .i64 y1),.val (.int .i64 y2)])=>
 (match s.ent 1 with
 |some (.row false 5 (.int IntKind.u8) y4)=>
 (match s.ent 1280 with
 |some (.row true 176 (.pair (.int .i64) (.int .i64)) y3)=>
 some (y0,y1,y2,y3,y4)
 |_=>none)
 |_=>none)
 |_=>none)
 |_=>none)
 |_=>none)
 |_=>none)
def gn:Lp jp where
 h:=⟨[46,47,48,49,50,53,54,55,56,57,58,59,60,3,51,52,6],[0,2],[1],[]⟩
 JL:=aby
 JE:=abt
 XL:=abP
 XE:=abK
 q:=fun j=>match j with | _=> .exit 3
 tags:= [0]
 lt:=Jj
 fuel:=fun(y0,y1,y2,y3,y4)=>y0.natAbs + y1.natAbs + y2.natAbs + y3.length + y4.length
 fix:=fun(_,_,_,_,y4) (y0,y1,y2,y3,_)=>(y0,y1,y2,y3,y4)
 σ:= [(0,0),(2,1),(1,1280)]
 rd:=Jt
theorem Zq:LoopOk prog (fun k=>Nat.blt k Tryz.f141.ntmps) gn.F (aH f141 1):=by
 refine Lp.ok (tbl:= (T3z [am,ao])) (lf:= []) aO gn (by kernel_rfl) (LOk.nil _) (fun _=>rfl) (fun _ _=>rfl) ?_ ?_ ?_ ?_ (fun _=>rfl) ?_
 ·rintro⟨y0,y1,y2,y3,y4⟩;kernel_rfl
 ·rintro⟨y0,y1,y2,y3,y4⟩;kernel_rfl
 ·intro s x h
  have h:Jt s=some x:=h
  unfold Jt at h
  repeat' split at h
  all_goals cases h
  constructor<;>repeat(first|refine ae (by assumption) rfl ?_|refine af rfl (by assumption) rfl ?_|exact rfl)
 ·rintro⟨y0,y1,y2,y3,y4⟩;kernel_rfl
 ·rintro⟨y0,y1,y2,y3,y4⟩ z;exact(And.intro rfl trivial)
section
variable (x0 x1:Int)(x2:List Int)
def nW:Int×Int×List (Int×Int)×Int×Int×List Int:=(nxV 5 (nxA 3 x0 x2) (nxS 3 x0 x1 x2) x2,IntKind.wrap .i64 ((1:Int) + nxV 3 x0 x1 x2),[],nxA 5 (nxA 3 x0 x2) x2,nxS 5 (nxA 3 x0 x2) (nxS 3 x0 x1 x2) x2,x2)
def rU:List (Int×Int)×Int×Int×List Int:=(Lp.res gm (nW x0 x1 x2)).2.2.2
def jU:Int×Int×List Int:=(rU x0 x1 x2).2
def nX:Int:=((jU x0 x1 x2).2).1
def nY:Int:=nxV 40 ((jU x0 x1 x2).1) (nX x0 x1 x2) x2
def cV:Bool:=nY x0 x1 x2==0
def ge:Int:=nxA 40 ((jU x0 x1 x2).1) x2
def ly:Int:=pkA (ge x0 x1 x2) [(-1:Int),(0:Int),(23:Int),(24:Int)] x2
def iw:Bool:=nY x0 x1 x2==1
def iy:Int:=nxS 40 ((jU x0 x1 x2).1) (nX x0 x1 x2) x2
def mr:Int×Int×Int×List (Int×Int)×List Int:=((0:Int),ge x0 x1 x2,iy x0 x1 x2,[],x2)
def pS:Int×Int×List (Int×Int)×List Int:=(Lp.res gn (mr x0 x1 x2)).2.2
def pT:Int:=(pS x0 x1 x2).1
def iR:Bool:=nY x0 x1 x2==2
def mt:Int:=pkS (ge x0 x1 x2) (iy x0 x1 x2) [(-1:Int),(0:Int),(23:Int),(24:Int)] x2
def pU:Int×List (Int×Int)×List Int:=(pS x0 x1 x2).2
def cE:List (Int×Int):=(rU x0 x1 x2).1
def mu:List (Int×Int):= [(pkV (ge x0 x1 x2) (iy x0 x1 x2) [(-1:Int),(0:Int),(23:Int),(24:Int)] x2,pkV (ly x0 x1 x2) (mt x0 x1 x2) [(0:Int),(999:Int),(1000:Int)] x2)]
def mO:Int:=bif cV x0 x1 x2 then pkA (ly x0 x1 x2) [(0:Int),(999:Int),(1000:Int)] x2 else bif iw x0 x1 x2 then oy (pT x0 x1 x2) x2 else bif iR x0 x1 x2 then ge x0 x1 x2 else ge x0 x1 x2
def mQ:Int:=bif cV x0 x1 x2 then pkS (ly x0 x1 x2) (mt x0 x1 x2) [(0:Int),(999:Int),(1000:Int)] x2 else bif iw x0 x1 x2 then oz (pT x0 x1 x2) ((pU x0 x1 x2).1) x2 else bif iR x0 x1 x2 then iy x0 x1 x2 else iy x0 x1 x2
def mS:List (Int×Int):=bif cV x0 x1 x2 then cE x0 x1 x2++mu x0 x1 x2 else bif iw x0 x1 x2 then ((pU x0 x1 x2).2).1else bif iR x0 x1 x2 then cE x0 x1 x2++cE x0 x1 x2 else cE x0 x1 x2
def tv:Bool:=allT [aD x0 x1 x2,aD (nxA 3 x0 x2) (nxS 3 x0 x1 x2) x2,Lp.fin gm (nW x0 x1 x2),aD ((jU x0 x1 x2).1) (nX x0 x1 x2) x2,!cV x0 x1 x2||aD (ge x0 x1 x2) (iy x0 x1 x2) x2&&leN 1 (List.length [(-1:Int),(0:Int),(23:Int),(24:Int)]),!cV x0 x1 x2||aD (ly x0 x1 x2) (mt x0 x1 x2) x2&&leN 1 (List.length [(0:Int),(999:Int),(1000:Int)]),!cV x0 x1 x2||leN (List.length (cE x0 x1 x2) + List.length (mu x0 x1 x2)) 9223372036854775807,!cV x0 x1 x2||leN ((List.length (cE x0 x1 x2) + List.length (mu x0 x1 x2)) * 16) 140737488355328,cV x0 x1 x2||(!iw x0 x1 x2||Lp.fin gn (mr x0 x1 x2)),cV x0 x1 x2||(iw x0 x1 x2||(!iR x0 x1 x2||leN (List.length (cE x0 x1 x2) + List.length (cE x0 x1 x2)) 9223372036854775807)),cV x0 x1 x2||(iw x0 x1 x2||(!iR x0 x1 x2||leN ((List.length (cE x0 x1 x2) + List.length (cE x0 x1 x2)) * 16) 140737488355328))]
end
def Ww:List SV→List Entry→Option Out
 | [.one ⟨false,[.ptr 0 0]⟩],[.box 157 [.ref 1,.val (.int .i64 x0),.val (.int .i64 x1)],.row false 5 (.int .u8) x2]=>some ⟨.one ⟨false,[.ref 2]⟩,[.box 157 [.ref 1,.val (.int .i64 (mO x0 x1 x2)),.val (.int .i64 (mQ x0 x1 x2))],.row false 5 ak9 x2],[.row true 176 aej (mS x0 x1 x2)],[tv x0 x1 x2]⟩
 |_,_=>none
def ag0:PF prog:=PF.ofG prog (T3z [am,ao]) [gm.F,gn.F] aO 141 f141 func141 (LOk.fnT (l:= [aH f141 0,aH f141 1]) (by kernel_rfl) (.cons Zp (.cons Zq (.nil _)))) Ww (by
 intro vs es r h;unfold Ww at h;split at h
 ·cases h;kernel_rfl
 ·cases h)
abbrev ld:=Int×Int×List Int
section
variable (y0 y1:Int)(y2:List Int)
def To:Bool:=ltI 0 y0
def Tp:Bool:=leN (List.length y2 + List.length [y1]) (9223372036854775807:Nat)
def Tq:Bool:=leN ((List.length y2 + List.length [y1]) * (8:Nat)) (140737488355328:Nat)
def Tr:Int:=IntKind.wrap .i64 (y0 - (1:Int))
def Ts:List Int:=y2++ [y1]
end
def ahM:ld→List (Nat×SV)
 |(y0,y1,_)=> [(0,(.one ⟨false,[.val (.int .i64 y0)]⟩)),(5,(.one ⟨false,[.ref 0]⟩)),(1,(.one ⟨false,[.val (.int .i64 y1)]⟩))]
def ahD:ld→List (Nat×Entry)
 |(_,_,y2)=> [(0,(.row true 2 aj1 y2))]
def ah5:Nat→ld→List (Nat×SV)
 |_,(_,_,_)=> [(5,(.one ⟨false,[.ref 0]⟩))]
def ahW:Nat→ld→List (Nat×Entry)
 |_,(_,_,y2)=> [(0,(.row true 2 aj1 y2))]
def QK:ld→LT ld
 |(y0,y1,y2)=> .ite (To y0) (.need [Tp y1 y2,Tq y1 y2] (.nrm ((Tr y0),y1,(Ts y1 y2)) [(0,384)])) (.ext 0 [(0,0)])
def QZ(s:St):Option ld:=
 (match s.look 0 with
 |some ⟨none,.one ⟨false,[.val (.int .i64 y0)]⟩⟩=>
 (match s.look 5 with
 |some ⟨none,.one ⟨false,[.ref 128]⟩⟩=>
 (match s.look 1 with
 |some ⟨none,.one ⟨false,[.val (.int .i64 y1)]⟩⟩=>
 (match s.ent 128 with
 |some (.row true 2 (.int .i64) y2)=>
 some (y0,y1,y2)
 |_=>none)
 |_=>none)
 |_=>none)
 |_=>none)
def eD:Lp ld where
 h:=⟨[7,8,11,12,13,14,5,9,10,0],[],[0],[]⟩
 JL:=ahM
 JE:=ahD
 XL:=ah5
 XE:=ahW
 q:=fun j=>match j with | _=> .exit 0
 tags:= [0]
 lt:=QK
 fuel:=fun(y0,y1,y2)=>y0.natAbs + y1.natAbs + y2.length
 fix:=fun(_,y1,_) (y0,_,y2)=>(y0,y1,y2)
 σ:= [(0,128)]
 rd:=QZ
theorem afC:LoopOk prog (fun k=>Nat.blt k Tryz.f74.ntmps) eD.F (aH f74 0):=by
 refine Lp.ok (tbl:= []) (lf:= []) aO eD (by kernel_rfl) (LOk.nil _) (fun _=>rfl) (fun _ _=>rfl) ?_ ?_ ?_ ?_ (fun _=>rfl) ?_
 ·rintro⟨y0,y1,y2⟩;kernel_rfl
 ·rintro⟨y0,y1,y2⟩;kernel_rfl
 ·intro s x h
  have h:QZ s=some x:=h
  unfold QZ at h
  repeat' split at h
  all_goals cases h
  constructor<;>repeat(first|refine ae (by assumption) rfl ?_|refine af rfl (by assumption) rfl ?_|exact rfl)
 ·rintro⟨y0,y1,y2⟩;kernel_rfl
 ·rintro⟨y0,y1,y2⟩ z;exact(And.intro rfl trivial)
section
variable (x0 x1:Int)
def uA:Int×Int×List Int:=(x0,x1,[])
def jm:List Int:=(Lp.res eD (uA x0 x1)).2.2.2
def xX:Bool:=allT [Lp.fin eD (uA x0 x1)]
end
def aeK:List SV→List Entry→Option Out
 | [.one ⟨false,[.val (.int .i64 x0)]⟩,.one ⟨false,[.val (.int .i64 x1)]⟩],[]=>some ⟨.one ⟨false,[.ref 0]⟩,[],[.row true 2 aj1 (jm x0 x1)],[xX x0 x1]⟩
 |_,_=>none
def amG:PF prog:=PF.ofG prog [] [eD.F] aO 74 f74 func74 (LOk.fnT (l:= [aH f74 0]) (by kernel_rfl) (.cons afC (.nil _))) aeK (by
 intro vs es r h;unfold aeK at h;split at h
 ·cases h;kernel_rfl
 ·cases h)
theorem Lp.inv{X:Type}(p:Lp X)(I Q:Nat→X→Prop)
  (hs: ∀ k x,I (k + 1) x→(∃ j,(p.lt x).out=some (.inl j)∧Q j x)∨ ∃ y,(p.lt x).out=some (.inr y)∧I k y)
  (he: ∀ x,I 0 x→ ∃ j,(p.lt x).out=some (.inl j)∧Q j x) (N:Nat) (x:X) (hN:N≤999) (h:I N x):
  p.fin x=true∧ ∃ j y,p.res x=(j,y)∧Q j y:=by
 have dC: ∀ (k:Nat) (x:X),I k x→ ∃ j y,Ra p.lt (k + 1) x=some (j,y)∧Q j y:=by
  intro k
  induction k with
  |zero=>
   intro x h
   obtain⟨j,h1,h2⟩:=he x h
   exact⟨j,x,ajv _ h1,h2⟩
  |succ k ih=>
   intro x h
   rcases hs k x h with⟨j,h1,h2⟩ | ⟨y,h1,h2⟩
   ·exact⟨j,x,ajv _ h1,h2⟩
   ·obtain⟨j,z,h3,h4⟩:=ih y h2
    exact⟨j,z,by rw [anT _ h1];exact h3,h4⟩
 obtain⟨j,y,h1,h2⟩:=dC N x h
 obtain⟨r1,r2⟩:=p.run h1 (aos (by omega))
 exact⟨r1,j,y,r2,h2⟩
theorem iB{n a s:Int}{c:List Int}(h:aD a s c=true):aD (nxA n a c) (nxS n a s c) c=true:=(aji n h).2.1
theorem rZ{a s x:Int}{l c:List Int}(h:aD a s c=true):aD (pkA a (x::l) c) (pkS a s (x::l) c) c=true:=(art (l:=x::l) (by rw [h];rfl)).2.1
theorem ace{n a s:Int}{c:List Int}(h:aD a s c=true)(hn:1≤n):0≤nxV n a s c∧nxV n a s c < n:=⟨(aji n h).2.2.1,(aji n h).2.2.2 hn⟩
theorem uM{C:Type}(x:C)(l:List C):leN 1 (x::l).length=true:=dj (by simp)
theorem asy(c:List Int)(bl:Int)(hbl:bl≠0)(K:Nat)(hK:K≤100)(p a s:Int)(h:aD a s c=true):
  iT.fin ((K:Int),p,bl,a,s,[],c)=true∧ ∃ j y,iT.res ((K:Int),p,bl,a,s,[],c)=(j,y)∧aD y.2.2.2.1 y.2.2.2.2.1 c=true∧y.2.2.2.2.2.1.length=K:=by
 refine iT.inv (fun k x=>x.1=(k:Int)∧x.2.2.1=bl∧aD x.2.2.2.1 x.2.2.2.2.1 c=true∧x.2.2.2.2.2.1.length + k=K∧x.2.2.2.2.2.2=c) (fun _ y=>aD y.2.2.2.1 y.2.2.2.2.1 c=true∧y.2.2.2.2.2.1.length=K)
  (fun k x hx=> .inr ?_) (fun x hx=> ?_) K _ (by omega) ⟨rfl,rfl,h,by simp,rfl⟩
 ·obtain⟨y0,y1,y2,y3,y4,y5,y6⟩:=x
  obtain⟨h0,h1,h2,h3,h4⟩:=hx
  simp only at h0 h1 h2 h3 h4
  subst h0 h1 h4
  have t1:ltI 0 ((k + 1:Nat):Int)=true:=eg (by omega)
  have t2:neI y2 0=true:=akW hbl
  have t3:neI 2 0=true:=by decide
  have t4:=rZ (x:=0) (l:= [1,1,2]) h2
  have t5:leN (y5.length + 1) 9223372036854775807=true:=dj (by omega)
  have t6:leN ((y5.length + 1) * 8) 140737488355328=true:=dj (by omega)
  have t7:=uM (0:Int) [1,1,2]
  refine⟨?_,?_,?_⟩
  rotate_left
  ·simp only [iT,QH,LT.out,allT,Tf,ZY,ZZ,aaa,aab,Tg,aac,FI,FJ,KH,List.length_singleton,t1,t2,t3,t4,t5,t6,t7,h2,cond_true,Bool.and_self]
   rfl
  ·have s9:aD (aae y3 y6) (YS y3 y4 y6) y6=true:=iB (n:=3) t4
   refine⟨?_,rfl,s9,?_,rfl⟩
   ·simp only [aad];rw [ar (by omega) (by omega)];omega
   ·simp only [YT,FI,List.length_append,List.length_singleton];omega
 ·obtain⟨y0,y1,y2,y3,y4,y5,y6⟩:=x
  obtain⟨h0,h1,h2,h3,h4⟩:=hx
  simp only at h0 h1 h2 h3 h4
  subst h0 h1 h4
  exact⟨0,by simp [iT,QH,LT.out,Tf],h2,by simpa using h3⟩
theorem ame(a s:Int)(c:List Int)(h:aD a s c=true):
  YR a s c=true∧aD (nk a s c) (BE a s c) c=true∧(rS a s c).length≤9:=by
 have n1:=ace (n:=5) h (by omega)
 have s1:=iB (n:=5) h
 have a0:cu a s c=2 + nxV 5 a s c:=by simp only [cu];rw [ar (by omega) (by omega)]
 have s2:=iB (n:=cu a s c) s1
 have a1:2≤ki a s c∧ki a s c≤4:=by
  simp only [ki,af7]
  cases hl:ltI (cu a s c) 4 with
  |true=>have:=UQ.1 hl;simp only [cond_true];omega
  |false=>simp
 have n2:=ace (n:=ki a s c) s2 (by omega)
 have s3:=iB (n:=ki a s c) s2
 obtain⟨r1,j,y,r2,r3,r4⟩:=asy c (cu a s c) (by omega) (1 + nxV (ki a s c) (mW a s c) (sf a s c) c).toNat
  (by simp only [mW,sf];omega) (nxV (cu a s c) (nxA 5 a c) (nxS 5 a s c) c) _ _ s3
 have e4:Gv a s c=(((1 + nxV (ki a s c) (mW a s c) (sf a s c) c).toNat:Int),nxV (cu a s c) (nxA 5 a c) (nxS 5 a s c) c,cu a s c,
   nxA (ki a s c) (mW a s c) c,nxS (ki a s c) (mW a s c) (sf a s c) c,[],c):=by
  simp only [Gv,mW,sf]
  rw [ar (by omega) (by omega)]
  rw [show (((1 + nxV (ki a s c) (nxA (cu a s c) (nxA 5 a c) c) (nxS (cu a s c) (nxA 5 a c) (nxS 5 a s c) c) c).toNat:Nat):Int)=1 + nxV (ki a s c) (nxA (cu a s c) (nxA 5 a c) c) (nxS (cu a s c) (nxA 5 a c) (nxS 5 a s c) c) c by omega]
 have f1:Lp.fin iT (Gv a s c)=true:=by rw [e4];exact r1
 have f2:Lp.res iT (Gv a s c)=(j,y):=by rw [e4];exact r2
 have g6:cv a s c=y.2.2.2.1:=by simp only [cv,Lm,f2]
 have g7:(yJ a s c).1=y.2.2.2.2.1:=by simp only [yJ,Lm,f2]
 have g16:nq a s c=y.2.2.2.2.2.1:=by simp only [nq,yJ,Lm,f2]
 have s4:aD (cv a s c) ((yJ a s c).1) c=true:=by rw [g6,g7];exact r3
 have s5:=iB (n:=40) s4
 have n5:=ace (n:=2) s5 (by omega)
 have hK:1≤(nq a s c).length∧(nq a s c).length≤4:=by
  rw [g16,r4];simp only [mW,sf];omega
 have a17:4≤kY a s c∧kY a s c≤5:=by
  simp only [kY,jX];rw [ar (by omega) (by omega)];omega
 have t1:ltI 0 (((nq a s c).length:Nat):Int)=true:=eg (by omega)
 have t2:ltN 0 (nq a s c).length=true:=gC (by omega)
 have t3:leI 0 (kY a s c)=true:=cR (by omega)
 have t4:leI ((8:Nat) * kY a s c) 281474976710656=true:=cR (by omega)
 have t5:leI (kY a s c) 9223372036854775807=true:=cR (by omega)
 have a18:OC a s c=true:=s5
 have s2':aD (mW a s c) (sf a s c) c=true:=s2
 refine⟨?_,?_,?_⟩
 ·simp only [YR,allT,h,s1,s2',f1,s4,a18,Ep,uM,t1,t2,t3,t4,t5,asz,Int.toNat_zero,Bool.or_true,Bool.and_self,cond_true]
 ·have s5':aD (nxA 40 (cv a s c) c) (jX a s c) c=true:=s5
  have hnx: ∀ n,aD (nxA n (nxA 40 (cv a s c) c) c) (nxS n (nxA 40 (cv a s c) c) (jX a s c) c) c=true:=fun n=>iB s5'
  have hpk: ∀ x l,aD (pkA (nxA 40 (cv a s c) c) (x::l) c) (pkS (nxA 40 (cv a s c) c) (jX a s c) (x::l) c) c=true:=fun x l=>rZ s5'
  simp only [nk,BE,Ep]
  cases ie a s c <;> cases gO a s c <;> cases np a s c <;> cases Eo a s c <;> simp only [cond_true,cond_false,s5',hnx,hpk]
 ·simp only [rS]
  cases ie a s c <;> cases gO a s c <;> cases np a s c <;> cases Eo a s c <;> simp only [cond_true,cond_false,List.length_set,List.length_replicate,List.length_nil] <;> omega
def aeW:List SV→List Entry→Option Out
 | [.one ⟨false,[.ptr 0 0]⟩],[.box 157 [.ref 1,.val (.int .i64 x0),.val (.int .i64 x1)],.row false 5 (.int .u8) x2]=>some ⟨.one ⟨true,[.val (.int .i64 (kn x0 x1 x2)),.ref 2]⟩,[.box 157 [.ref 1,.val (.int .i64 (nk x0 x1 x2)),.val (.int .i64 (BE x0 x1 x2))],.row false 5 ak9 x2],[.row true 2 aj1 (rS x0 x1 x2)],[aD x0 x1 x2]⟩
 |_,_=>none
def xl:PF prog:=PF.alt amD aeW (by
 intro args es o h bE;unfold aeW at h;split at h
 ·rename_i x0 x1 x2
  cases h
  have bE:=jW bE
  have hh:=(ame x0 x1 x2 bE).1
  have en:=hh
  exact nO rfl (iY en) rfl rfl rfl
 ·cases h)
theorem aoc(c:List Int)(bl a s:Int)(h:aD a s c=true):
  cz.fin ((0:Int),bl,a,s,[],c)=true∧ ∃ j y,cz.res ((0:Int),bl,a,s,[],c)=(j,y)∧aD y.2.2.1 y.2.2.2.1 c=true∧y.2.2.2.2.1.length≤14:=by
 refine cz.inv (fun k x=>x.1=7 - (k:Int)∧k≤7∧aD x.2.2.1 x.2.2.2.1 c=true∧x.2.2.2.2.1.length + 2 * k≤14∧x.2.2.2.2.2=c) (fun _ y=>aD y.2.2.1 y.2.2.2.1 c=true∧y.2.2.2.2.1.length≤14)
  (fun k x hx=> ?_) (fun x hx=> ?_) 7 _ (by omega) ⟨by simp,by omega,h,by simp,rfl⟩
 ·obtain⟨y0,y1,y2,y3,y4,y5⟩:=x
  obtain⟨h0,h1,h2,h3,h4⟩:=hx
  simp only at h0 h1 h2 h3 h4
  subst h4
  have s1:=iB (n:=6) h2
  have s2:=iB (n:=2) s1
  have s3:=iB (n:=4) s1
  have s2':aD (ui y2 y5) (Al y2 y3 y5) y5=true:=s2
  have s3':aD (pc y2 y5) (uk y2 y3 y5) y5=true:=s3
  have sA:aD (PQ y2 y5) (PR y2 y3 y5) y5=true:=iB (n:=2) s2
  have sB:aD (PV y2 y5) (PW y2 y3 y5) y5=true:=iB (n:=3) s3
  have sC:aD (PY y2 y5) (PZ y2 y3 y5) y5=true:=s3
  have sD:aD (Qa y2 y5) (Qb y2 y3 y5) y5=true:=s1
  have hw:IntKind.i64.wrap (y0 + 1)=y0 + 1:=ar (by omega) (by omega)
  have t3:neI 2 0=true:=by decide
  have t5:leN (y4.length + 1) 9223372036854775807=true:=dj (by omega)
  have t6:leN ((y4.length + 1) * 24) 140737488355328=true:=dj (by omega)
  have t7:leN (y4.length + 2) 9223372036854775807=true:=dj (by omega)
  have t8:leN ((y4.length + 2) * 24) 140737488355328=true:=dj (by omega)
  cases hc:JN y0 y1 with
  |false=>exact .inl ⟨0,by simp [cz,Ai,LT.out,hc],h2,by simp only;omega⟩
  |true=>
   right
   cases c0:ef y2 y3 y5 <;> cases c5:lS y2 y3 y5 <;> cases c6:pb y2 y3 y5
   all_goals
    refine⟨?_,?_,?_⟩
    rotate_left
    ·simp only [cz,Ai,LT.out,allT,hc,RF,RG,RH,RI,RJ,RK,RL,RM,RN,PO,PP,PT,PU,Ic,uj,ul,List.length_cons,List.length_nil,Nat.zero_add,Nat.reduceAdd,c0,c5,c6,h2,s1,s2',s3',t3,t5,t6,t7,t8,cond_true,cond_false,Bool.or_true,Bool.true_or,Bool.or_false,Bool.not_true,Bool.not_false,Bool.and_self]
     try rfl
    ·refine⟨?_,by omega,?_,?_,rfl⟩
     ·simp only [uh,hw];omega
     ·simp only [sA,sB,sC,sD]
     ·simp only [PS,PX,uj,ul,List.length_append,List.length_cons,List.length_nil];omega
 ·obtain⟨y0,y1,y2,y3,y4,y5⟩:=x
  obtain⟨h0,h1,h2,h3,h4⟩:=hx
  simp only at h0 h1 h2 h3 h4
  have t1:ltI y0 7=false:=ai9 (by omega)
  refine⟨0,?_,h2,by simp only;omega⟩
  simp only [cz,Ai,LT.out,JN,t1]
  cases ltI y0 y1 <;> rfl
theorem aod(c:List Int)(a s:Int)(h:aD a s c=true):
  cA.fin ((0:Int),a,s,[],c)=true∧ ∃ j y,cA.res ((0:Int),a,s,[],c)=(j,y)∧aD y.2.1 y.2.2.1 c=true∧y.2.2.2.1.length≤14:=by
 refine cA.inv (fun k x=>x.1=9 - (k:Int)∧k≤9∧aD x.2.1 x.2.2.1 c=true∧x.2.2.2.1.length + k≤9∧x.2.2.2.2=c) (fun _ y=>aD y.2.1 y.2.2.1 c=true∧y.2.2.2.1.length≤14)
  (fun k x hx=> ?_) (fun x hx=> ?_) 9 _ (by omega) ⟨by simp,by omega,h,by simp,rfl⟩
 ·obtain⟨y0,y1,y2,y3,y4⟩:=x
  obtain⟨h0,h1,h2,h3,h4⟩:=hx
  simp only at h0 h1 h2 h3 h4
  subst h4
  have s1:=iB (n:=2) h2
  have hw:IntKind.i64.wrap (y0 + 1)=y0 + 1:=ar (by omega) (by omega)
  have t3:neI 2 0=true:=by decide
  have t5:leN (y3.length + 1) 9223372036854775807=true:=dj (by omega)
  have t6:leN ((y3.length + 1) * 24) 140737488355328=true:=dj (by omega)
  cases hc:Ce y0 y1 y2 y4 with
  |false=>exact .inl ⟨0,by simp [cA,Aj,LT.out,hc,allT,Cd,h2],h2,by simp only;omega⟩
  |true=>
   right
   refine⟨?_,?_,?_⟩
   rotate_left
   ·simp only [cA,Aj,LT.out,allT,hc,Cd,JO,RO,RP,um,List.length_singleton,h2,t3,t5,t6,cond_true]
    rfl
   ·refine⟨?_,by omega,s1,?_,rfl⟩
    ·simp only [RQ,hw];omega
    ·simp only [RR,um,List.length_append,List.length_singleton];omega
 ·obtain⟨y0,y1,y2,y3,y4⟩:=x
  obtain⟨h0,h1,h2,h3,h4⟩:=hx
  simp only at h0 h1 h2 h3 h4
  subst h4
  have n1:=ace (n:=2) h2 (by omega)
  have t1:Ce y0 y1 y2 y4=false:=by
   simp only [Ce];rw [ar (by omega) (by omega)];exact ai9 (by omega)
  exact⟨0,by simp [cA,Aj,LT.out,t1,allT,Cd,h2],h2,by simp only;omega⟩
theorem ahg(bl a s:Int)(c:List Int)(h:aD a s c=true):
  NN bl a s c=true∧aD (BF bl a s c) (BG bl a s c) c=true∧(BH bl a s c).length≤15:=by
 obtain⟨r1,j,y,r2,r3,r4⟩:=aoc c bl a s h
 have f1:Lp.fin cz (FV bl a s c)=true:=r1
 have f2:Lp.res cz (FV bl a s c)=(j,y):=r2
 have g3:ec bl a s c=y.2.2.1:=by simp only [ec,zn,f2]
 have g5:tR bl a s c=y.2.2.2.1:=by simp only [tR,FW,zn,f2]
 have g19:lm bl a s c=y.2.2.2.2.1:=by simp only [lm,FW,zn,f2]
 have s1:aD (ec bl a s c) (tR bl a s c) c=true:=by rw [g3,g5];exact r3
 have s2:aD (nxA 40 (ec bl a s c) c) (sE bl a s c) c=true:=iB s1
 have s3:aD (zp bl a s c) (Ds bl a s c) c=true:=rZ s2
 have s4:aD (xI bl a s c) (Dt bl a s c) c=true:=rZ s3
 obtain⟨q1,j',z,q2,q3,q4⟩:=aod c _ _ s2
 have f3:Lp.fin cA (Dq bl a s c)=true:=q1
 have f4:Lp.res cA (Dq bl a s c)=(j',z):=q2
 have g15:Dr bl a s c=z.2.1:=by simp only [Dr,xJ,f4]
 have g18:(sF bl a s c).1=z.2.2.1:=by simp only [sF,xJ,f4]
 have g18':((sF bl a s c).2).1=z.2.2.2.1:=by simp only [sF,xJ,f4]
 have l20:(sG bl a s c).length=1:=rfl
 have t5:leN ((lm bl a s c).length + (sG bl a s c).length) 9223372036854775807=true:=dj (by rw [g19,l20];omega)
 have t6:leN (((lm bl a s c).length + (sG bl a s c).length) * 24) 140737488355328=true:=dj (by rw [g19,l20];omega)
 refine⟨?_,?_,?_⟩
 ·simp only [NN,allT,f1,s1,s2,s3,s4,f3,t5,t6,zo,uM,Bool.or_true,Bool.and_self,cond_true]
 ·simp only [BF,BG]
  cases gG bl a s c with
  |true=>exact iB s4
  |false=>
   cases sz bl a s c with
   |true=>
    simp only [cond_true,cond_false,g15,g18,Cf,Cg]
    exact iB q3
   |false=>exact s2
 ·simp only [BH]
  cases gG bl a s c with
  |true=>simp only [cond_true,List.length_append,g19,l20];omega
  |false=>
   cases sz bl a s c with
   |true=>simp only [cond_true,cond_false,g18'];omega
   |false=>simp only [cond_false,g19];omega
def Vg:List SV→List Entry→Option Out
 | [.one ⟨false,[.ptr 0 0]⟩,.one ⟨false,[.val (.int .i64 x0)]⟩],[.box 157 [.ref 1,.val (.int .i64 x1),.val (.int .i64 x2)],.row false 5 (.int .u8) x3]=>some ⟨.one ⟨false,[.ref 2]⟩,[.box 157 [.ref 1,.val (.int .i64 (BF x0 x1 x2 x3)),.val (.int .i64 (BG x0 x1 x2 x3))],.row false 5 ak9 x3],[.row true 169 adH (BH x0 x1 x2 x3)],[aD x1 x2 x3]⟩
 |_,_=>none
def lk:PF prog:=PF.alt afQ Vg (by
 intro args es o h bE;unfold Vg at h;split at h
 ·rename_i x0 x1 x2 x3
  cases h
  have bE:=jW bE
  have hh:=(ahg x0 x1 x2 x3 bE).1
  have en:=hh
  exact nO rfl (iY en) rfl rfl rfl
 ·cases h)
theorem S1:(∀ b:Bool,(b||false)=b)∧((false=true)=False)∧(∀ a b:Bool,((a&&b)=true)=(a=true∧b=true))∧(∀ a b:Int,(ltI a b=true)=(a < b))∧(∀ a b:Int,(leI a b=true)=(a≤b))∧(∀ a b:Int,(ltI a b=false)=(b≤a))∧(∀ a b:Int,(leI a b=false)=(b < a)):=by and_intros <;> intros <;> simp
theorem S2:(∀ (α:Type) (a b:List α),(a++b).length=a.length + b.length)∧(∀ (α:Type) (a:α) (l:List α),(a::l).length=l.length + 1)∧(∀ α:Type,([]:List α).length=0):=by and_intros <;> intros <;> simp
theorem IU{b:Bool}{l:List Bool}:allT (b::l)=true↔b=true∧allT l=true:=by cases b <;> simp [allT]
theorem IV:allT []=true↔True:=by simp [allT]
theorem yN{t:Bool}{a a' s s':Int}{c:List Int}(h:aD a s c=true)(h':aD a' s' c=true):aD (bif t then a else a') (bif t then s else s') c=true:=by cases t <;> assumption
theorem qv{α:Type}{t:Bool}{l l':List α}{n:Nat}(h:l.length≤n)(h':l'.length≤n):(bif t then l else l').length≤n:=by cases t <;> assumption
def LT.ok{X:Type}(J:X→Prop)(Q:Nat→Prop):LT X→Prop
 | .nrm x _=>J x
 | .ext j _=>Q j
 | .need nd t=>allT nd=true∧t.ok J Q
 | .ite b t e=>(b=true→t.ok J Q)∧(b=false→e.ok J Q)
theorem LT.ok_out{X:Type}{J:X→Prop}{Q:Nat→Prop}: ∀ {t:LT X},t.ok J Q→(∃ j,t.out=some (.inl j)∧Q j)∨ ∃ y,t.out=some (.inr y)∧J y
 | .nrm x _,h=> .inr ⟨x,rfl,h⟩
 | .ext j _,h=> .inl ⟨j,rfl,h⟩
 | .need nd t,h=>by
  simp only [LT.ok]at h
  simp only [LT.out,h.1,cond_true]
  exact LT.ok_out (t:=t) h.2
 | .ite b t e,h=>by
  simp only [LT.ok]at h
  simp only [LT.out]
  cases b with
  |true=>exact LT.ok_out (t:=t) (h.1 rfl)
  |false=>exact LT.ok_out (t:=e) (h.2 rfl)
theorem Lp.inv2{X:Type}(p:Lp X)(I:Nat→X→Prop)(Q:X→Prop)(hs: ∀ k x,I (k + 1) x→(p.lt x).ok (I k) (fun _=>Q x))(he: ∀ x,I 0 x→(p.lt x).ok (fun _=>False) (fun _=>Q x))
  (N:Nat) (x:X) (hN:N≤999) (h:I N x):p.fin x=true∧ ∃ j y,p.res x=(j,y)∧Q y:=
 p.inv I (fun _ y=>Q y) (fun k x hx=>LT.ok_out (hs k x hx)) (fun x hx=>by
  rcases LT.ok_out (he x hx)with h | ⟨_,_,h⟩
  ·exact h
  ·exact h.elim) N x hN h
 attribute [local irreducible] nxA nxS nxV pkA pkS pkV
theorem afX(c:List Int)(x:qa)(hx:match x with | (y0,y1,y2,y3,y4)=>y0≤((5:Nat):Int)∧aD y2 y3 y4=true∧y1.length + (5:Nat)≤5∧y4=c):
  lM.fin x=true∧ ∃ j y,lM.res x=(j,y)∧(match y with | (y0,y1,y2,y3,y4)=>aD y2 y3 c=true∧y1.length≤5∧c=y4):=by
 refine lM.inv2 (fun k x=>match x with | (y0,y1,y2,y3,y4)=>y0≤(k:Int)∧aD y2 y3 y4=true∧y1.length + k≤5∧y4=c) (fun y=>match y with | (y0,y1,y2,y3,y4)=>aD y2 y3 c=true∧y1.length≤5∧c=y4) (fun k x hx=> ?_) (fun x hx=> ?_) 5 x (by omega) hx
 ·obtain⟨y0,y1,y2,y3,y4⟩:=x
  obtain⟨h0,h1,h2,rfl⟩:=hx
  skip
  simp only [lM,QI,LT.ok,IU,IV,and_true,uT,uU,zL,zM,Mq,Mr,Mt,Mu,Mv,Mw,Mx,My,Mz,MA,Bool.or_eq_true,Bool.and_eq_true]
  repeat' (first | refine And.intro ?_ ?_ | intro _)
  all_goals first
   |omega
   |(repeat (first | assumption | apply iB | apply rZ | apply yN | refine Or.inr ?_ | refine And.intro ?_ ?_ | exact trivial | exact uM _ _ | rfl)
     done)
   |((repeat refine Or.inr ?_)
     exact dj (by first | omega | (simp only [S2];omega)))
   |(simp only [S2]
     omega)
   |(repeat' apply qv
     all_goals first | omega | (simp only [S2];omega))
   |(try simp only [S1]at *
     rw [ar (by omega) (by omega)]
     first | omega | (simp only [S2];omega))
   |(simp only [S1]at *
     first | omega | (exfalso;omega))
   |(exfalso;simp_all;done)
 ·obtain⟨y0,y1,y2,y3,y4⟩:=x
  obtain⟨h0,h1,h2,rfl⟩:=hx
  skip
  skip
  simp only [lM,QI,LT.ok,IU,IV,and_true,uT,uU,zL,zM,Mq,Mr,Mt,Mu,Mv,Mw,Mx,My,Mz,MA,Bool.or_eq_true,Bool.and_eq_true]
  repeat' (first | refine And.intro ?_ ?_ | intro _)
  all_goals first
   |omega
   |(repeat (first | assumption | apply iB | apply rZ | apply yN | refine Or.inr ?_ | refine And.intro ?_ ?_ | exact trivial | exact uM _ _ | rfl)
     done)
   |((repeat refine Or.inr ?_)
     exact dj (by first | omega | (simp only [S2];omega)))
   |(simp only [S2]
     omega)
   |(repeat' apply qv
     all_goals first | omega | (simp only [S2];omega))
   |(try simp only [S1]at *
     rw [ar (by omega) (by omega)]
     first | omega | (simp only [S2];omega))
   |(simp only [S1]at *
     first | omega | (exfalso;omega))
   |(exfalso;simp_all;done)
theorem afY(c:List Int)(x:qb)(hx:match x with | (y0,y1,y2,y3,y4)=>y0=(13:Int) - (13:Nat)∧(13:Nat)≤13∧aD y1 y2 y4=true∧y3.length + (13:Nat)≤13∧y4=c):
  lN.fin x=true∧ ∃ j y,lN.res x=(j,y)∧(match y with | (y0,y1,y2,y3,y4)=>aD y1 y2 c=true∧y3.length≤13∧c=y4):=by
 refine lN.inv2 (fun k x=>match x with | (y0,y1,y2,y3,y4)=>y0=(13:Int) - k∧k≤13∧aD y1 y2 y4=true∧y3.length + k≤13∧y4=c) (fun y=>match y with | (y0,y1,y2,y3,y4)=>aD y1 y2 c=true∧y3.length≤13∧c=y4) (fun k x hx=> ?_) (fun x hx=> ?_) 13 x (by omega) hx
 ·obtain⟨y0,y1,y2,y3,y4⟩:=x
  obtain⟨h0,h5,h1,h2,rfl⟩:=hx
  have nn:=ace (n:=2) h1 (by omega);have hw:IntKind.i64.wrap (12 + nxV 2 y1 y2 y4)=12 + nxV 2 y1 y2 y4:=ar (by omega) (by omega)
  simp only [lN,QJ,LT.ok,IU,IV,and_true,uV,Hk,Hl,Hm,Hn,Ho,xU,xV,Hq,Bool.or_eq_true,Bool.and_eq_true]
  repeat' (first | refine And.intro ?_ ?_ | intro _)
  all_goals first
   |omega
   |(repeat (first | assumption | apply iB | apply rZ | apply yN | refine Or.inr ?_ | refine And.intro ?_ ?_ | exact trivial | exact uM _ _ | rfl)
     done)
   |((repeat refine Or.inr ?_)
     exact dj (by first | omega | (simp only [S2];omega)))
   |(simp only [S2]
     omega)
   |(repeat' apply qv
     all_goals first | omega | (simp only [S2];omega))
   |(try simp only [S1]at *
     rw [ar (by omega) (by omega)]
     first | omega | (simp only [S2];omega))
   |(simp only [S1]at *
     first | omega | (exfalso;omega))
   |(exfalso;simp_all;done)
 ·obtain⟨y0,y1,y2,y3,y4⟩:=x
  obtain⟨h0,h5,h1,h2,rfl⟩:=hx
  have nn:=ace (n:=2) h1 (by omega);have hw:IntKind.i64.wrap (12 + nxV 2 y1 y2 y4)=12 + nxV 2 y1 y2 y4:=ar (by omega) (by omega)
  skip
  simp only [lN,QJ,LT.ok,IU,IV,and_true,uV,Hk,Hl,Hm,Hn,Ho,xU,xV,Hq,Bool.or_eq_true,Bool.and_eq_true]
  repeat' (first | refine And.intro ?_ ?_ | intro _)
  all_goals first
   |omega
   |(repeat (first | assumption | apply iB | apply rZ | apply yN | refine Or.inr ?_ | refine And.intro ?_ ?_ | exact trivial | exact uM _ _ | rfl)
     done)
   |((repeat refine Or.inr ?_)
     exact dj (by first | omega | (simp only [S2];omega)))
   |(simp only [S2]
     omega)
   |(repeat' apply qv
     all_goals first | omega | (simp only [S2];omega))
   |(try simp only [S1]at *
     rw [ar (by omega) (by omega)]
     first | omega | (simp only [S2];omega))
   |(simp only [S1]at *
     first | omega | (exfalso;omega))
   |(exfalso;simp_all;done)
theorem aaf(a s:Int)(c:List Int)(h:aD a s c=true):FO a s c=true∧aD (xR a s c) (xS a s c) c=true∧(xT a s c).length≤20:=by
 have n5:=ace (n:=5) h (by omega)
 obtain⟨f0,j0,⟨z0,z1,z2,z3,z4⟩,g0,hq0⟩:=afX c (yK a s c) (by
  simp only [yK,Cx,sg,yL,Cy,kZ,oT,uy,uz,si,wg,zI,zJ,wh,zK,sH,wi,xR,xS,xT,FO]
  repeat' refine And.intro ?_ ?_
  all_goals first
   |omega
   |(repeat (first | assumption | apply iB | apply rZ | apply yN | refine Or.inr ?_ | refine And.intro ?_ ?_ | exact trivial | exact uM _ _ | rfl | apply qv)
     done)
   |((repeat refine Or.inr ?_)
     exact dj (by first | omega | (simp only [S2];omega)))
   |(simp only [S2]
     omega)
   |(repeat' apply qv
     all_goals first | omega | (simp only [S2];omega))
   |(try simp only [S1]at *
     rw [ar (by omega) (by omega)]
     first | omega | (simp only [S2];omega))
   |(simp only [S1]at *
     first | omega | (exfalso;omega))
   |(exfalso;simp_all;done))
 obtain⟨p1,p2,rfl⟩:=hq0
 simp only [yK,Cx,sg,yL,Cy,kZ,oT,uy,uz,si,wg,zI,zJ,wh,zK,sH,wi,xR,xS,xT,FO]at f0 g0
 obtain⟨f1,j1,⟨u0,u1,u2,u3,u4⟩,g1,hq1⟩:=afY c (wg a s c) (by
  simp only [yK,Cx,sg,yL,Cy,kZ,oT,uy,uz,si,wg,zI,zJ,wh,zK,sH,wi,xR,xS,xT,FO,f0,g0,uV,Hk,Hl,Hm,Hn,Ho,xU,xV,Hq]
  repeat' refine And.intro ?_ ?_
  all_goals first
   |omega
   |(repeat (first | assumption | apply iB | apply rZ | apply yN | refine Or.inr ?_ | refine And.intro ?_ ?_ | exact trivial | exact uM _ _ | rfl | apply qv)
     done)
   |((repeat refine Or.inr ?_)
     exact dj (by first | omega | (simp only [S2];omega)))
   |(simp only [S2]
     omega)
   |(repeat' apply qv
     all_goals first | omega | (simp only [S2];omega))
   |(try simp only [S1]at *
     rw [ar (by omega) (by omega)]
     first | omega | (simp only [S2];omega))
   |(simp only [S1]at *
     first | omega | (exfalso;omega))
   |(exfalso;simp_all;done))
 obtain⟨p3,p4,rfl⟩:=hq1
 simp only [yK,Cx,sg,yL,Cy,kZ,oT,uy,uz,si,wg,zI,zJ,wh,zK,sH,wi,xR,xS,xT,FO,f0,g0]at f1 g1
 refine⟨?_,?_,?_⟩
 all_goals simp only [yK,Cx,sg,yL,Cy,kZ,oT,uy,uz,si,wg,zI,zJ,wh,zK,sH,wi,xR,xS,xT,FO,f0,g0,f1,g1,uT,uU,zL,zM,Mq,Mr,Mt,Mu,Mv,Mw,Mx,My,Mz,MA,uV,Hk,Hl,Hm,Hn,Ho,xU,xV,Hq,IU,IV,and_true,Bool.or_eq_true,Bool.and_eq_true]
 all_goals repeat' refine And.intro ?_ ?_
 all_goals first
   |omega
   |(repeat (first | assumption | apply iB | apply rZ | apply yN | refine Or.inr ?_ | refine And.intro ?_ ?_ | exact trivial | exact uM _ _ | rfl | apply qv)
     done)
   |((repeat refine Or.inr ?_)
     exact dj (by first | omega | (simp only [S2];omega)))
   |(simp only [S2]
     omega)
   |(repeat' apply qv
     all_goals first | omega | (simp only [S2];omega))
   |(try simp only [S1]at *
     rw [ar (by omega) (by omega)]
     first | omega | (simp only [S2];omega))
   |(simp only [S1]at *
     first | omega | (exfalso;omega))
   |(exfalso;simp_all;done)
theorem Zr(c:List Int)(x:jo)(hx:match x with | (y0,y1,y2,y3,y4,y5)=>y0≤((5:Nat):Int)∧aD y3 y4 y5=true∧y2.length + (5:Nat)≤5∧y5=c):
  gm.fin x=true∧ ∃ j y,gm.res x=(j,y)∧(match y with | (y0,y1,y2,y3,y4,y5)=>aD y3 y4 c=true∧y2.length≤5∧c=y5):=by
 refine gm.inv2 (fun k x=>match x with | (y0,y1,y2,y3,y4,y5)=>y0≤(k:Int)∧aD y3 y4 y5=true∧y2.length + k≤5∧y5=c) (fun y=>match y with | (y0,y1,y2,y3,y4,y5)=>aD y3 y4 c=true∧y2.length≤5∧c=y5) (fun k x hx=> ?_) (fun x hx=> ?_) 5 x (by omega) hx
 ·obtain⟨y0,y1,y2,y3,y4,y5⟩:=x
  obtain⟨h0,h1,h2,rfl⟩:=hx
  skip
  simp only [gm,Ji,LT.ok,IU,IV,and_true,rf,Du,Dv,Dw,Dx,Dy,Dz,DA,DB,DC,DD,Bool.or_eq_true,Bool.and_eq_true]
  repeat' (first | refine And.intro ?_ ?_ | intro _)
  all_goals first
   |omega
   |(repeat (first | assumption | apply iB | apply rZ | apply yN | refine Or.inr ?_ | refine And.intro ?_ ?_ | exact trivial | exact uM _ _ | rfl)
     done)
   |((repeat refine Or.inr ?_)
     exact dj (by first | omega | (simp only [S2];omega)))
   |(simp only [S2]
     omega)
   |(repeat' apply qv
     all_goals first | omega | (simp only [S2];omega))
   |(try simp only [S1]at *
     rw [ar (by omega) (by omega)]
     first | omega | (simp only [S2];omega))
   |(simp only [S1]at *
     first | omega | (exfalso;omega))
   |(exfalso;simp_all;done)
 ·obtain⟨y0,y1,y2,y3,y4,y5⟩:=x
  obtain⟨h0,h1,h2,rfl⟩:=hx
  skip
  skip
  simp only [gm,Ji,LT.ok,IU,IV,and_true,rf,Du,Dv,Dw,Dx,Dy,Dz,DA,DB,DC,DD,Bool.or_eq_true,Bool.and_eq_true]
  repeat' (first | refine And.intro ?_ ?_ | intro _)
  all_goals first
   |omega
   |(repeat (first | assumption | apply iB | apply rZ | apply yN | refine Or.inr ?_ | refine And.intro ?_ ?_ | exact trivial | exact uM _ _ | rfl)
     done)
   |((repeat refine Or.inr ?_)
     exact dj (by first | omega | (simp only [S2];omega)))
   |(simp only [S2]
     omega)
   |(repeat' apply qv
     all_goals first | omega | (simp only [S2];omega))
   |(try simp only [S1]at *
     rw [ar (by omega) (by omega)]
     first | omega | (simp only [S2];omega))
   |(simp only [S1]at *
     first | omega | (exfalso;omega))
   |(exfalso;simp_all;done)
theorem Zs(c:List Int)(x:jp)(hx:match x with | (y0,y1,y2,y3,y4)=>y0=(9:Int) - (9:Nat)∧(9:Nat)≤9∧aD y1 y2 y4=true∧y3.length + (9:Nat)≤9∧y4=c):
  gn.fin x=true∧ ∃ j y,gn.res x=(j,y)∧(match y with | (y0,y1,y2,y3,y4)=>aD y1 y2 c=true∧y3.length≤9∧c=y4):=by
 refine gn.inv2 (fun k x=>match x with | (y0,y1,y2,y3,y4)=>y0=(9:Int) - k∧k≤9∧aD y1 y2 y4=true∧y3.length + k≤9∧y4=c) (fun y=>match y with | (y0,y1,y2,y3,y4)=>aD y1 y2 c=true∧y3.length≤9∧c=y4) (fun k x hx=> ?_) (fun x hx=> ?_) 9 x (by omega) hx
 ·obtain⟨y0,y1,y2,y3,y4⟩:=x
  obtain⟨h0,h5,h1,h2,rfl⟩:=hx
  have nn:=ace (n:=2) h1 (by omega);have hw:IntKind.i64.wrap (8 + nxV 2 y1 y2 y4)=8 + nxV 2 y1 y2 y4:=ar (by omega) (by omega)
  simp only [gn,Jj,LT.ok,IU,IV,and_true,nu,xK,xL,xM,xN,xO,xP,oy,oz,xQ,Bool.or_eq_true,Bool.and_eq_true]
  repeat' (first | refine And.intro ?_ ?_ | intro _)
  all_goals first
   |omega
   |(repeat (first | assumption | apply iB | apply rZ | apply yN | refine Or.inr ?_ | refine And.intro ?_ ?_ | exact trivial | exact uM _ _ | rfl)
     done)
   |((repeat refine Or.inr ?_)
     exact dj (by first | omega | (simp only [S2];omega)))
   |(simp only [S2]
     omega)
   |(repeat' apply qv
     all_goals first | omega | (simp only [S2];omega))
   |(try simp only [S1]at *
     rw [ar (by omega) (by omega)]
     first | omega | (simp only [S2];omega))
   |(simp only [S1]at *
     first | omega | (exfalso;omega))
   |(exfalso;simp_all;done)
 ·obtain⟨y0,y1,y2,y3,y4⟩:=x
  obtain⟨h0,h5,h1,h2,rfl⟩:=hx
  have nn:=ace (n:=2) h1 (by omega);have hw:IntKind.i64.wrap (8 + nxV 2 y1 y2 y4)=8 + nxV 2 y1 y2 y4:=ar (by omega) (by omega)
  skip
  simp only [gn,Jj,LT.ok,IU,IV,and_true,nu,xK,xL,xM,xN,xO,xP,oy,oz,xQ,Bool.or_eq_true,Bool.and_eq_true]
  repeat' (first | refine And.intro ?_ ?_ | intro _)
  all_goals first
   |omega
   |(repeat (first | assumption | apply iB | apply rZ | apply yN | refine Or.inr ?_ | refine And.intro ?_ ?_ | exact trivial | exact uM _ _ | rfl)
     done)
   |((repeat refine Or.inr ?_)
     exact dj (by first | omega | (simp only [S2];omega)))
   |(simp only [S2]
     omega)
   |(repeat' apply qv
     all_goals first | omega | (simp only [S2];omega))
   |(try simp only [S1]at *
     rw [ar (by omega) (by omega)]
     first | omega | (simp only [S2];omega))
   |(simp only [S1]at *
     first | omega | (exfalso;omega))
   |(exfalso;simp_all;done)
theorem Tj(a s:Int)(c:List Int)(h:aD a s c=true):tv a s c=true∧aD (mO a s c) (mQ a s c) c=true∧(mS a s c).length≤20:=by
 have n5:=ace (n:=5) (iB (n:=3) h) (by omega)
 obtain⟨f0,j0,⟨z0,z1,z2,z3,z4,z5⟩,g0,hq0⟩:=Zr c (nW a s c) (by
  simp only [nW,rU,jU,nX,nY,cV,ge,ly,iw,iy,mr,pS,pT,iR,mt,pU,cE,mu,mO,mQ,mS,tv]
  repeat' refine And.intro ?_ ?_
  all_goals first
   |omega
   |(repeat (first | assumption | apply iB | apply rZ | apply yN | refine Or.inr ?_ | refine And.intro ?_ ?_ | exact trivial | exact uM _ _ | rfl | apply qv)
     done)
   |((repeat refine Or.inr ?_)
     exact dj (by first | omega | (simp only [S2];omega)))
   |(simp only [S2]
     omega)
   |(repeat' apply qv
     all_goals first | omega | (simp only [S2];omega))
   |(try simp only [S1]at *
     rw [ar (by omega) (by omega)]
     first | omega | (simp only [S2];omega))
   |(simp only [S1]at *
     first | omega | (exfalso;omega))
   |(exfalso;simp_all;done))
 obtain⟨p1,p2,rfl⟩:=hq0
 simp only [nW,rU,jU,nX,nY,cV,ge,ly,iw,iy,mr,pS,pT,iR,mt,pU,cE,mu,mO,mQ,mS,tv]at f0 g0
 obtain⟨f1,j1,⟨u0,u1,u2,u3,u4⟩,g1,hq1⟩:=Zs c (mr a s c) (by
  simp only [nW,rU,jU,nX,nY,cV,ge,ly,iw,iy,mr,pS,pT,iR,mt,pU,cE,mu,mO,mQ,mS,tv,f0,g0,nu,xK,xL,xM,xN,xO,xP,oy,oz,xQ]
  repeat' refine And.intro ?_ ?_
  all_goals first
   |omega
   |(repeat (first | assumption | apply iB | apply rZ | apply yN | refine Or.inr ?_ | refine And.intro ?_ ?_ | exact trivial | exact uM _ _ | rfl | apply qv)
     done)
   |((repeat refine Or.inr ?_)
     exact dj (by first | omega | (simp only [S2];omega)))
   |(simp only [S2]
     omega)
   |(repeat' apply qv
     all_goals first | omega | (simp only [S2];omega))
   |(try simp only [S1]at *
     rw [ar (by omega) (by omega)]
     first | omega | (simp only [S2];omega))
   |(simp only [S1]at *
     first | omega | (exfalso;omega))
   |(exfalso;simp_all;done))
 obtain⟨p3,p4,rfl⟩:=hq1
 simp only [nW,rU,jU,nX,nY,cV,ge,ly,iw,iy,mr,pS,pT,iR,mt,pU,cE,mu,mO,mQ,mS,tv,f0,g0]at f1 g1
 refine⟨?_,?_,?_⟩
 all_goals simp only [nW,rU,jU,nX,nY,cV,ge,ly,iw,iy,mr,pS,pT,iR,mt,pU,cE,mu,mO,mQ,mS,tv,f0,g0,f1,g1,rf,Du,Dv,Dw,Dx,Dy,Dz,DA,DB,DC,DD,nu,xK,xL,xM,xN,xO,xP,oy,oz,xQ,IU,IV,and_true,Bool.or_eq_true,Bool.and_eq_true]
 all_goals repeat' refine And.intro ?_ ?_
 all_goals first
   |omega
   |(repeat (first | assumption | apply iB | apply rZ | apply yN | refine Or.inr ?_ | refine And.intro ?_ ?_ | exact trivial | exact uM _ _ | rfl | apply qv)
     done)
   |((repeat refine Or.inr ?_)
     exact dj (by first | omega | (simp only [S2];omega)))
   |(simp only [S2]
     omega)
   |(repeat' apply qv
     all_goals first | omega | (simp only [S2];omega))
   |(try simp only [S1]at *
     rw [ar (by omega) (by omega)]
     first | omega | (simp only [S2];omega))
   |(simp only [S1]at *
     first | omega | (exfalso;omega))
   |(exfalso;simp_all;done)
theorem YW(c:List Int)(x:iE)(hx:match x with | (y0,y1,y2,y3,y4,y5)=>y0=(7:Int) - (7:Nat)∧(7:Nat)≤7∧aD y2 y3 y5=true∧y4.length + 2 * (7:Nat)≤14∧y5=c):
  fj.fin x=true∧ ∃ j y,fj.res x=(j,y)∧(match y with | (y0,y1,y2,y3,y4,y5)=>aD y2 y3 c=true∧y4.length≤14∧c=y5):=by
 refine fj.inv2 (fun k x=>match x with | (y0,y1,y2,y3,y4,y5)=>y0=(7:Int) - k∧k≤7∧aD y2 y3 y5=true∧y4.length + 2 * k≤14∧y5=c) (fun y=>match y with | (y0,y1,y2,y3,y4,y5)=>aD y2 y3 c=true∧y4.length≤14∧c=y5) (fun k x hx=> ?_) (fun x hx=> ?_) 7 x (by omega) hx
 ·obtain⟨y0,y1,y2,y3,y4,y5⟩:=x
  obtain⟨h0,h5,h1,h2,rfl⟩:=hx
  skip
  simp only [fj,HH,LT.ok,IU,IV,and_true,cZ,uo,lU,pd,pe,jS,lV,jT,lW,pf,Ch,Ci,Cj,Ck,Cl,Cm,Cn,Co,Cp,Cq,Am,lT,An,Ao,Ap,Aq,Ar,As,At,Au,Av,Aw,Ax,Ay,Bool.or_eq_true,Bool.and_eq_true]
  repeat' (first | refine And.intro ?_ ?_ | intro _)
  all_goals first
   |omega
   |(repeat (first | assumption | apply iB | apply rZ | apply yN | refine Or.inr ?_ | refine And.intro ?_ ?_ | exact trivial | exact uM _ _ | rfl)
     done)
   |((repeat refine Or.inr ?_)
     exact dj (by first | omega | (simp only [S2];omega)))
   |(simp only [S2]
     omega)
   |(repeat' apply qv
     all_goals first | omega | (simp only [S2];omega))
   |(try simp only [S1]at *
     rw [ar (by omega) (by omega)]
     first | omega | (simp only [S2];omega))
   |(simp only [S1]at *
     first | omega | (exfalso;omega))
   |(exfalso;simp_all;done)
 ·obtain⟨y0,y1,y2,y3,y4,y5⟩:=x
  obtain⟨h0,h5,h1,h2,rfl⟩:=hx
  skip
  have e0:(bif ltI y0 y1 then ltI y0 7 else false)=false:=by rw [show ltI y0 7=false from ai9 (by omega)];cases ltI y0 y1 <;> rfl
  simp only [fj,HH,LT.ok,IU,IV,and_true,cZ,uo,lU,pd,pe,jS,lV,jT,lW,pf,Ch,Ci,Cj,Ck,Cl,Cm,Cn,Co,Cp,Cq,Am,lT,An,Ao,Ap,Aq,Ar,As,At,Au,Av,Aw,Ax,Ay,Bool.or_eq_true,Bool.and_eq_true]
  repeat' (first | refine And.intro ?_ ?_ | intro _)
  all_goals first
   |omega
   |(repeat (first | assumption | apply iB | apply rZ | apply yN | refine Or.inr ?_ | refine And.intro ?_ ?_ | exact trivial | exact uM _ _ | rfl)
     done)
   |((repeat refine Or.inr ?_)
     exact dj (by first | omega | (simp only [S2];omega)))
   |(simp only [S2]
     omega)
   |(repeat' apply qv
     all_goals first | omega | (simp only [S2];omega))
   |(try simp only [S1]at *
     rw [ar (by omega) (by omega)]
     first | omega | (simp only [S2];omega))
   |(simp only [S1]at *
     first | omega | (exfalso;omega))
   |(exfalso;simp_all;done)
theorem YX(c:List Int)(x:iF)(hx:match x with | (y0,y1,y2,y3,y4)=>y0=(9:Int) - (9:Nat)∧(9:Nat)≤9∧aD y1 y2 y4=true∧y3.length + (9:Nat)≤9∧y4=c):
  fk.fin x=true∧ ∃ j y,fk.res x=(j,y)∧(match y with | (y0,y1,y2,y3,y4)=>aD y1 y2 c=true∧y3.length≤9∧c=y4):=by
 refine fk.inv2 (fun k x=>match x with | (y0,y1,y2,y3,y4)=>y0=(9:Int) - k∧k≤9∧aD y1 y2 y4=true∧y3.length + k≤9∧y4=c) (fun y=>match y with | (y0,y1,y2,y3,y4)=>aD y1 y2 c=true∧y3.length≤9∧c=y4) (fun k x hx=> ?_) (fun x hx=> ?_) 9 x (by omega) hx
 ·obtain⟨y0,y1,y2,y3,y4⟩:=x
  obtain⟨h0,h5,h1,h2,rfl⟩:=hx
  have nn:=ace (n:=2) h1 (by omega);have hw:IntKind.i64.wrap (8 + nxV 2 y1 y2 y4)=8 + nxV 2 y1 y2 y4:=ar (by omega) (by omega)
  simp only [fk,HI,LT.ok,IU,IV,and_true,lX,vZ,wa,re,wb,wc,wd,nr,nt,we,Bool.or_eq_true,Bool.and_eq_true]
  repeat' (first | refine And.intro ?_ ?_ | intro _)
  all_goals first
   |omega
   |(repeat (first | assumption | apply iB | apply rZ | apply yN | refine Or.inr ?_ | refine And.intro ?_ ?_ | exact trivial | exact uM _ _ | rfl)
     done)
   |((repeat refine Or.inr ?_)
     exact dj (by first | omega | (simp only [S2];omega)))
   |(simp only [S2]
     omega)
   |(repeat' apply qv
     all_goals first | omega | (simp only [S2];omega))
   |(try simp only [S1]at *
     rw [ar (by omega) (by omega)]
     first | omega | (simp only [S2];omega))
   |(simp only [S1]at *
     first | omega | (exfalso;omega))
   |(exfalso;simp_all;done)
 ·obtain⟨y0,y1,y2,y3,y4⟩:=x
  obtain⟨h0,h5,h1,h2,rfl⟩:=hx
  have nn:=ace (n:=2) h1 (by omega);have hw:IntKind.i64.wrap (8 + nxV 2 y1 y2 y4)=8 + nxV 2 y1 y2 y4:=ar (by omega) (by omega)
  skip
  simp only [fk,HI,LT.ok,IU,IV,and_true,lX,vZ,wa,re,wb,wc,wd,nr,nt,we,Bool.or_eq_true,Bool.and_eq_true]
  repeat' (first | refine And.intro ?_ ?_ | intro _)
  all_goals first
   |omega
   |(repeat (first | assumption | apply iB | apply rZ | apply yN | refine Or.inr ?_ | refine And.intro ?_ ?_ | exact trivial | exact uM _ _ | rfl)
     done)
   |((repeat refine Or.inr ?_)
     exact dj (by first | omega | (simp only [S2];omega)))
   |(simp only [S2]
     omega)
   |(repeat' apply qv
     all_goals first | omega | (simp only [S2];omega))
   |(try simp only [S1]at *
     rw [ar (by omega) (by omega)]
     first | omega | (simp only [S2];omega))
   |(simp only [S1]at *
     first | omega | (exfalso;omega))
   |(exfalso;simp_all;done)
theorem RT(b a s:Int)(c:List Int)(h:aD a s c=true):rT b a s c=true∧aD (ln b a s c) (lq b a s c) c=true∧(lr b a s c).length≤20:=by
 skip
 obtain⟨f0,j0,⟨z0,z1,z2,z3,z4,z5⟩,g0,hq0⟩:=YW c (mp b a s c) (by
  simp only [pO,mp,pP,dh,pQ,mq,pR,di,kx,ky,jx,jy,il,lu,ov,ow,lv,lw,ox,jz,lx,ln,lq,lr,rT]
  repeat' refine And.intro ?_ ?_
  all_goals first
   |omega
   |(repeat (first | assumption | apply iB | apply rZ | apply yN | refine Or.inr ?_ | refine And.intro ?_ ?_ | exact trivial | exact uM _ _ | rfl | apply qv)
     done)
   |((repeat refine Or.inr ?_)
     exact dj (by first | omega | (simp only [S2];omega)))
   |(simp only [S2]
     omega)
   |(repeat' apply qv
     all_goals first | omega | (simp only [S2];omega))
   |(try simp only [S1]at *
     rw [ar (by omega) (by omega)]
     first | omega | (simp only [S2];omega))
   |(simp only [S1]at *
     first | omega | (exfalso;omega))
   |(exfalso;simp_all;done))
 obtain⟨p1,p2,rfl⟩:=hq0
 simp only [pO,mp,pP,dh,pQ,mq,pR,di,kx,ky,jx,jy,il,lu,ov,ow,lv,lw,ox,jz,lx,ln,lq,lr,rT]at f0 g0
 obtain⟨f1,j1,⟨u0,u1,u2,u3,u4⟩,g1,hq1⟩:=YX c (lu b a s c) (by
  simp only [pO,mp,pP,dh,pQ,mq,pR,di,kx,ky,jx,jy,il,lu,ov,ow,lv,lw,ox,jz,lx,ln,lq,lr,rT,f0,g0,lX,vZ,wa,re,wb,wc,wd,nr,nt,we]
  repeat' refine And.intro ?_ ?_
  all_goals first
   |omega
   |(repeat (first | assumption | apply iB | apply rZ | apply yN | refine Or.inr ?_ | refine And.intro ?_ ?_ | exact trivial | exact uM _ _ | rfl | apply qv)
     done)
   |((repeat refine Or.inr ?_)
     exact dj (by first | omega | (simp only [S2];omega)))
   |(simp only [S2]
     omega)
   |(repeat' apply qv
     all_goals first | omega | (simp only [S2];omega))
   |(try simp only [S1]at *
     rw [ar (by omega) (by omega)]
     first | omega | (simp only [S2];omega))
   |(simp only [S1]at *
     first | omega | (exfalso;omega))
   |(exfalso;simp_all;done))
 obtain⟨p3,p4,rfl⟩:=hq1
 simp only [pO,mp,pP,dh,pQ,mq,pR,di,kx,ky,jx,jy,il,lu,ov,ow,lv,lw,ox,jz,lx,ln,lq,lr,rT,f0,g0]at f1 g1
 refine⟨?_,?_,?_⟩
 all_goals simp only [pO,mp,pP,dh,pQ,mq,pR,di,kx,ky,jx,jy,il,lu,ov,ow,lv,lw,ox,jz,lx,ln,lq,lr,rT,f0,g0,f1,g1,cZ,uo,lU,pd,pe,jS,lV,jT,lW,pf,Ch,Ci,Cj,Ck,Cl,Cm,Cn,Co,Cp,Cq,Am,lT,An,Ao,Ap,Aq,Ar,As,At,Au,Av,Aw,Ax,Ay,lX,vZ,wa,re,wb,wc,wd,nr,nt,we,IU,IV,and_true,Bool.or_eq_true,Bool.and_eq_true]
 all_goals repeat' refine And.intro ?_ ?_
 all_goals first
   |omega
   |(repeat (first | assumption | apply iB | apply rZ | apply yN | refine Or.inr ?_ | refine And.intro ?_ ?_ | exact trivial | exact uM _ _ | rfl | apply qv)
     done)
   |((repeat refine Or.inr ?_)
     exact dj (by first | omega | (simp only [S2];omega)))
   |(simp only [S2]
     omega)
   |(repeat' apply qv
     all_goals first | omega | (simp only [S2];omega))
   |(try simp only [S1]at *
     rw [ar (by omega) (by omega)]
     first | omega | (simp only [S2];omega))
   |(simp only [S1]at *
     first | omega | (exfalso;omega))
   |(exfalso;simp_all;done)
theorem afZ(r:Int)(x:ld)(hx:match x with | (y0,y1,y2)=>y0≤((500:Nat):Int)∧0≤y0∧(y2.length:Int) + y0=r∧r≤500):
  eD.fin x=true∧ ∃ j y,eD.res x=(j,y)∧(match y with | (y0,y1,y2)=>(y2.length:Int)=r):=by
 refine eD.inv2 (fun k x=>match x with | (y0,y1,y2)=>y0≤(k:Int)∧0≤y0∧(y2.length:Int) + y0=r∧r≤500) (fun y=>match y with | (y0,y1,y2)=>(y2.length:Int)=r) (fun k x hx=> ?_) (fun x hx=> ?_) 500 x (by omega) hx
 ·obtain⟨y0,y1,y2⟩:=x
  obtain⟨h0,h1,h2,h3⟩:=hx
  skip
  simp only [eD,QK,LT.ok,IU,IV,and_true,To,Tp,Tq,Tr,Ts,Bool.or_eq_true,Bool.and_eq_true]
  repeat' (first | refine And.intro ?_ ?_ | intro _)
  all_goals first
   |omega
   |(repeat (first | assumption | apply iB | apply rZ | apply yN | refine Or.inr ?_ | refine And.intro ?_ ?_ | exact trivial | exact uM _ _ | rfl)
     done)
   |((repeat refine Or.inr ?_)
     exact dj (by first | omega | (simp only [S2];omega)))
   |(simp only [S2]
     omega)
   |(repeat' apply qv
     all_goals first | omega | (simp only [S2];omega))
   |(try simp only [S1]at *
     rw [ar (by omega) (by omega)]
     first | omega | (simp only [S2];omega))
   |(simp only [S1]at *
     first | omega | (exfalso;omega))
   |(exfalso;simp_all;done)
 ·obtain⟨y0,y1,y2⟩:=x
  obtain⟨h0,h1,h2,h3⟩:=hx
  skip
  skip
  simp only [eD,QK,LT.ok,IU,IV,and_true,To,Tp,Tq,Tr,Ts,Bool.or_eq_true,Bool.and_eq_true]
  repeat' (first | refine And.intro ?_ ?_ | intro _)
  all_goals first
   |omega
   |(repeat (first | assumption | apply iB | apply rZ | apply yN | refine Or.inr ?_ | refine And.intro ?_ ?_ | exact trivial | exact uM _ _ | rfl)
     done)
   |((repeat refine Or.inr ?_)
     exact dj (by first | omega | (simp only [S2];omega)))
   |(simp only [S2]
     omega)
   |(repeat' apply qv
     all_goals first | omega | (simp only [S2];omega))
   |(try simp only [S1]at *
     rw [ar (by omega) (by omega)]
     first | omega | (simp only [S2];omega))
   |(simp only [S1]at *
     first | omega | (exfalso;omega))
   |(exfalso;simp_all;done)
theorem aag(r s:Int)(h:(leI 0 r&&leI r 500)=true):xX r s=true∧((jm r s).length:Int)=r:=by
 simp only [Bool.and_eq_true,Qt]at h
 obtain⟨f0,j0,⟨z0,z1,z2⟩,g0,hq0⟩:=afZ r (uA r s) (by
  simp only [uA,jm,xX]
  refine⟨by omega,by omega,by simp,by omega⟩)
 simp only [uA,jm,xX]at f0 g0
 refine⟨?_,?_⟩
 ·simp only [uA,jm,xX,f0,g0,allT,cond_true]
 ·simp only [uA,jm,xX,f0,g0];exact hq0
def aeY:List SV→List Entry→Option Out
 | [.one ⟨false,[.ptr 0 0]⟩],[.box 157 [.ref 1,.val (.int .i64 x0),.val (.int .i64 x1)],.row false 5 (.int .u8) x2]=>some ⟨.one ⟨false,[.ref 2]⟩,[.box 157 [.ref 1,.val (.int .i64 (xR x0 x1 x2)),.val (.int .i64 (xS x0 x1 x2))],.row false 5 ak9 x2],[.row true 173 aej (xT x0 x1 x2)],[aD x0 x1 x2]⟩
 |_,_=>none
def xm:PF prog:=PF.alt amF aeY (by
 intro args es o h bE;unfold aeY at h;split at h
 ·rename_i x0 x1 x2
  cases h
  have bE:=jW bE
  have hh:=(aaf x0 x1 x2 bE).1
  have en:=hh
  exact nO rfl (iY en) rfl rfl rfl
 ·cases h)
def Wx:List SV→List Entry→Option Out
 | [.one ⟨false,[.ptr 0 0]⟩],[.box 157 [.ref 1,.val (.int .i64 x0),.val (.int .i64 x1)],.row false 5 (.int .u8) x2]=>some ⟨.one ⟨false,[.ref 2]⟩,[.box 157 [.ref 1,.val (.int .i64 (mO x0 x1 x2)),.val (.int .i64 (mQ x0 x1 x2))],.row false 5 ak9 x2],[.row true 176 aej (mS x0 x1 x2)],[aD x0 x1 x2]⟩
 |_,_=>none
def mA:PF prog:=PF.alt ag0 Wx (by
 intro args es o h bE;unfold Wx at h;split at h
 ·rename_i x0 x1 x2
  cases h
  have bE:=jW bE
  have hh:=(Tj x0 x1 x2 bE).1
  have en:=hh
  exact nO rfl (iY en) rfl rfl rfl
 ·cases h)
def Vh:List SV→List Entry→Option Out
 | [.one ⟨false,[.ptr 0 0]⟩,.one ⟨false,[.val (.int .i64 x0)]⟩],[.box 157 [.ref 1,.val (.int .i64 x1),.val (.int .i64 x2)],.row false 5 (.int .u8) x3]=>some ⟨.one ⟨false,[.ref 2]⟩,[.box 157 [.ref 1,.val (.int .i64 (ln x0 x1 x2 x3)),.val (.int .i64 (lq x0 x1 x2 x3))],.row false 5 ak9 x3],[.row true 100 adH (lr x0 x1 x2 x3)],[aD x1 x2 x3]⟩
 |_,_=>none
def ll:PF prog:=PF.alt afR Vh (by
 intro args es o h bE;unfold Vh at h;split at h
 ·rename_i x0 x1 x2 x3
  cases h
  have bE:=jW bE
  have hh:=(RT x0 x1 x2 x3 bE).1
  have en:=hh
  exact nO rfl (iY en) rfl rfl rfl
 ·cases h)
def aeZ:List SV→List Entry→Option Out
 | [.one ⟨false,[.val (.int .i64 x0)]⟩,.one ⟨false,[.val (.int .i64 x1)]⟩],[]=>some ⟨.one ⟨false,[.ref 0]⟩,[],[.row true 2 aj1 (jm x0 x1)],[leI 0 x0&&leI x0 500]⟩
 |_,_=>none
def Nt:PF prog:=PF.alt amG aeZ (by
 intro args es o h bE;unfold aeZ at h;split at h
 ·rename_i x0 x1
  cases h
  have bE:=jW bE
  have hh:=(aag x0 x1 bE).1
  have en:=hh
  exact nO rfl (iY en) rfl rfl rfl
 ·cases h)
end Go.SX
namespace Go.SX
open Go.Proofs Go.Proofs.Tryz
set_option maxRecDepth 100000
def al0(n day:Int)(fs lf:L3)(pl ls:L2)(s:RS):LI×Int×Int×Int×LI×L3×List LI×L3×L2×L2:=(s.2.2.2.1,n,s.1,day,s.2.1,fs,s.2.2.1,lf,pl,ls)
def nD(b:Int×(Int×((Int×Int)×(Int×(Int×Bool))))):(List Int×Int×Int×Int×List Int×List (Int×(Int×Int))×List (List Int)×List (Int×(Int×Int))×List (Int×Int)×List (Int×Int))→Nat ⊕ (List Int×Int×Int×Int×List Int×List (Int×(Int×Int))×List (List Int)×List (Int×(Int×Int))×List (Int×Int)×List (Int×Int))
 |(y3,y4,y5,y6,y7,y8,y9,y10,y11,y12)=>(.inr ((y3++([dK b.1 (b.2.1) (b.2.2.1.1) (b.2.2.1.2) (b.2.2.2.1) (b.2.2.2.2.1) b.2.2.2.2.2 y4 y5 y6 y7 y8 y9 y10 y11 y12])),dL b.1 (b.2.1) (b.2.2.1.1) (b.2.2.1.2) (b.2.2.2.1) (b.2.2.2.2.1) b.2.2.2.2.2 y4 y5 y6 y7 y8 y9 y10 y11 y12,dM b.1 (b.2.1) (b.2.2.1.1) (b.2.2.1.2) (b.2.2.2.1) (b.2.2.2.2.1) b.2.2.2.2.2 y4 y5 y6 y7 y8 y9 y10 y11 y12,dN b.1 (b.2.1) (b.2.2.1.1) (b.2.2.1.2) (b.2.2.2.1) (b.2.2.2.2.1) b.2.2.2.2.2 y4 y5 y6 y7 y8 y9 y10 y11 y12,dO b.1 (b.2.1) (b.2.2.1.1) (b.2.2.1.2) (b.2.2.2.1) (b.2.2.2.2.1) b.2.2.2.2.2 y4 y5 y6 y7 y8 y9 y10 y11 y12,dP b.1 (b.2.1) (b.2.2.1.1) (b.2.2.1.2) (b.2.2.2.1) (b.2.2.2.2.1) b.2.2.2.2.2 y4 y5 y6 y7 y8 y9 y10 y11 y12,dQ b.1 (b.2.1) (b.2.2.1.1) (b.2.2.1.2) (b.2.2.2.1) (b.2.2.2.2.1) b.2.2.2.2.2 y4 y5 y6 y7 y9 y11 y12,dR b.1 (b.2.1) (b.2.2.1.1) (b.2.2.1.2) (b.2.2.2.1) (b.2.2.2.2.1) b.2.2.2.2.2 y4 y5 y6 y7 y8 y9 y10 y11 y12,dS b.1 (b.2.1) (b.2.2.1.1) (b.2.2.1.2) (b.2.2.2.1) (b.2.2.2.2.1) b.2.2.2.2.2 y4 y5 y6 y7 y8 y9 y10 y11 y12,(dU b.1 (b.2.1) (b.2.2.1.1) (b.2.2.1.2) (b.2.2.2.1) (b.2.2.2.2.1) b.2.2.2.2.2 y4 y5 y6 y7 y8 y9 y10 y11 y12)))
def oB(y2:List (Int×(Int×((Int×Int)×(Int×(Int×Bool))))))(i:Nat):(List Int×Int×Int×Int×List Int×List (Int×(Int×Int))×List (List Int)×List (Int×(Int×Int))×List (Int×Int)×List (Int×Int))→nA
 |(y3,y4,y5,y6,y7,y8,y9,y10,y11,y12)=>((i:Int),(↑y2.length:Int),y2,y3,y4,y5,y6,y7,y8,y9,y10,y11,y12)
def QO:nA→List Int×Int×Int×Int×List Int×List (Int×(Int×Int))×List (List Int)×List (Int×(Int×Int))×List (Int×Int)×List (Int×Int)
 |(_,_,_,y3,y4,y5,y6,y7,y8,y9,y10,y11,y12)=>(y3,y4,y5,y6,y7,y8,y9,y10,y11,y12)
theorem ajC(y2:List (Int×(Int×((Int×Int)×(Int×(Int×Bool))))))(y3:List Int)(y4 y5 y6:Int)(y7:List Int)(y8:List (Int×(Int×Int)))(y9:List (List Int))(y10:List (Int×(Int×Int)))(y11 y12:List (Int×Int))(hn:y2.length≤9223372036854775807)(n day:Int)(fs lf:L3)(pl ls:L2)(ps0:LI)(rs0:List LI)(hX: ∀ x∈y2,isX ps0 rs0 x=true)(s0:RS)(hs0:(y3,y4,y5,y6,y7,y8,y9,y10,y11,y12)=al0 n day fs lf pl ls s0)(hi0:ap5 n day fs lf pl ls ps0 rs0 0 s0)(h200:y2.length≤200):
  eB.fin ((0:Int),(↑y2.length:Int),y2,y3,y4,y5,y6,y7,y8,y9,y10,y11,y12)=true∧eB.res ((0:Int),(↑y2.length:Int),y2,y3,y4,y5,y6,y7,y8,y9,y10,y11,y12)=((aL (nD) 0 y2 0 (y3,y4,y5,y6,y7,y8,y9,y10,y11,y12)).1,(oB y2) (aL (nD) 0 y2 0 (y3,y4,y5,y6,y7,y8,y9,y10,y11,y12)).2.1 (aL (nD) 0 y2 0 (y3,y4,y5,y6,y7,y8,y9,y10,y11,y12)).2.2):=by
 have dC:=eB.along (oB y2) QO (nD) 0 (fun i a=> ∃ s,a=al0 n day fs lf pl ls s∧ap5 n day fs lf pl ls ps0 rs0 i s) y2 (y3,y4,y5,y6,y7,y8,y9,y10,y11,y12) ⟨s0,hs0,hi0⟩ (by simp only [eB,oB];omega) (fun i b a hb hI=> ?_) (fun a hI=> ?_)
 ·exact dC
 ·obtain⟨y3,y4,y5,y6,y7,y8,y9,y10,y11,y12⟩:=a
  have eO:=(List.getElem?_eq_some_iff.1 hb).1
  have lh: ∀ d,Option.getD y2[i]? d=b:=fun d=>by rw [hb];rfl
  have hw:=DJ eO hn
  have cm:ltI (i:Int) (y2.length:Int)=true:=eg (by omega)
  have tS:leI (0:Int) (i:Int)=true:=cR (by omega)
  have io:ltN i y2.length=true:=gC eO
  refine⟨?_,?_,?_,?_⟩
  ·have hm:=hX b (List.mem_of_getElem? hb)
   obtain⟨s,he,hI⟩:=hI
   obtain⟨hx,_⟩:=agb hI hm
   obtain⟨o0,o1,o2,o3,o4,o5,o6,o7,o8,o9,o10⟩:=acW hI.1 hx
   simp only [al0,Prod.mk.injEq]at he
   obtain⟨rfl,rfl,rfl,rfl,rfl,rfl,rfl,rfl,rfl,rfl⟩:=he
   have nP:s.2.2.2.1.length≤i:=hI.2.2.2
   have h6:leN (s.2.2.2.1.length + 1) 9223372036854775807=true:=dj (by omega)
   have h7:leN ((s.2.2.2.1.length + 1) * 8) 140737488355328=true:=dj (by omega)
   simp [zq,ew,zr,ex,rr,ey,ez,eA,bd,uI,GE,GF,GG,GH,GI,GJ,GK,GL,GM,GN,Eu,Ev,Ew,Ey,Ez,EA,EB,EC,Fm,eB,LT.nds,allT,oB,al0,cm,tS,io,lh,o0,o1,o2,o3,o4,o5,o6,o7,o8,o9,o10,h6,h7]
  ·simp [zq,ew,zr,ex,rr,ey,ez,eA,bd,uI,GE,GF,GG,GH,GI,GJ,GK,GL,GM,GN,Eu,Ev,Ew,Ey,Ez,EA,EB,EC,Fm,eB,LT.each,oB,QO,hw]
  ·simp only [zq,ew,zr,ex,rr,ey,ez,eA,bd,uI,GE,GF,GG,GH,GI,GJ,GK,GL,GM,GN,Eu,Ev,Ew,Ey,Ez,EA,EB,EC,Fm,eB,LT.fn,oB,QO,nD,Int.toNat_natCast,cm,tS,io,lh,cond_true,Bool.cond_self]
  ·intro a' hf
   obtain⟨s,he,hI⟩:=hI
   have hm:=hX b (List.mem_of_getElem? hb)
   obtain⟨hx,hk⟩:=agb hI hm
   obtain⟨o0,o1,o2,o3,o4,o5,o6,o7,o8,o9,o10⟩:=acW hI.1 hx
   refine⟨stX n day fs lf pl ls s b,?_,hk⟩
   rw [he]at hf
   simp only [al0,nD,Sum.inr.injEq,o0,o1,o2,o3,o4,o5,o6,o7,o8,o9]at hf
   rw [← hf]
   rfl
 ·obtain⟨y3,y4,y5,y6,y7,y8,y9,y10,y11,y12⟩:=a
  simp [zq,ew,zr,ex,rr,ey,ez,eA,bd,uI,GE,GF,GG,GH,GI,GJ,GK,GL,GM,GN,Eu,Ev,Ew,Ey,Ez,EA,EB,EC,Fm,eB,LT.out,oB]
def dE(y6:List Int)(y8:List (List Int))(b:Int×(Int×((Int×Int)×(Int×(Int×Bool))))):(Unit)→Nat ⊕ (Unit)
 |_=>(bif(Ah b.1 (b.2.1) (b.2.2.1.1) (b.2.2.1.2) (b.2.2.2.1) (b.2.2.2.2.1) b.2.2.2.2.2 y6 y8)then(.inl 0)else(.inr ()))
def cj(y2 y3 y4:Int)(y5:List (Int×(Int×((Int×Int)×(Int×(Int×Bool))))))(y6:List Int)(y7:List (Int×(Int×Int)))(y8:List (List Int))(y9:List (Int×(Int×Int)))(y10 y11:List (Int×Int))(i:Nat):(Unit)→be
 |_=>((i:Int),(↑y5.length:Int),y2,y3,y4,y5,y6,y7,y8,y9,y10,y11)
def ol:be→Unit
 |(_,_,_,_,_,_,_,_,_,_,_,_)=>()
theorem Lo(y2 y3 y4:Int)(y5:List (Int×(Int×((Int×Int)×(Int×(Int×Bool))))))(y6:List Int)(y7:List (Int×(Int×Int)))(y8:List (List Int))(y9:List (Int×(Int×Int)))(y10 y11:List (Int×Int)) (hn:y5.length≤9223372036854775807) (f:RideF y2 y3 y4 y6 y7 y8 y9 y10 y11):
  ak.fin ((0:Int),(↑y5.length:Int),y2,y3,y4,y5,y6,y7,y8,y9,y10,y11)=true∧ak.res ((0:Int),(↑y5.length:Int),y2,y3,y4,y5,y6,y7,y8,y9,y10,y11)=((aL (dE y6 y8) 1 y5 0 ()).1,(cj y2 y3 y4 y5 y6 y7 y8 y9 y10 y11) (aL (dE y6 y8) 1 y5 0 ()).2.1 (aL (dE y6 y8) 1 y5 0 ()).2.2):=by
 have dC:=ak.along (cj y2 y3 y4 y5 y6 y7 y8 y9 y10 y11) ol (dE y6 y8) 1 (fun _ _=>True) y5 () (by trivial) (by simp only [ak,cj];omega) (fun i b a hb hI=> ?_) (fun a hI=> ?_)
 ·exact dC
 ·obtain⟨⟩:=a
  have eO:=(List.getElem?_eq_some_iff.1 hb).1
  have lh: ∀ d,Option.getD y5[i]? d=b:=fun d=>by rw [hb];rfl
  have hw:=DJ eO hn
  have cm:ltI (i:Int) (y5.length:Int)=true:=eg (by omega)
  have tS:leI (0:Int) (i:Int)=true:=cR (by omega)
  have io:ltN i y5.length=true:=gC eO
  refine⟨?_,?_,?_,?_⟩
  ·have e:=(amb b.1 b.2.1 b.2.2.1.1 b.2.2.1.2 b.2.2.2.1 b.2.2.2.2.1 b.2.2.2.2.2 f).2
   simp [dr,du,dv,dw,bO,dx,fU,fW,fX,fY,fZ,gc,gd,fy,ak,LT.nds,allT,cj,HG,cm,tS,io,lh,e]
  ·simp [dr,du,dv,dw,bO,dx,fU,fW,fX,fY,fZ,gc,gd,fy,ak,LT.each,cj,ol,hw]
  ·simp only [dr,du,dv,dw,bO,dx,fU,fW,fX,fY,fZ,gc,gd,fy,ak,LT.fn,cj,ol,dE,Int.toNat_natCast,cm,tS,io,lh,cond_true,Bool.cond_self]
  ·exact fun _ _=>trivial
 ·obtain⟨⟩:=a
  simp [dr,du,dv,dw,bO,dx,fU,fW,fX,fY,fZ,gc,gd,fy,ak,LT.out,cj]
def aoX(ps:LI)(rs:List LI)(xs:List RX):Bool:=xs.any fun x=> !isX ps rs x
def rrC(n mode day:Int)(ps:LI)(fs:L3)(rs:List LI)(lf:L3)(pl ls:L2)(xs:List RX):Int:=bif !uL n ps fs rs lf mode pl ls day then 1 else bif ltI 200 (xs.length:Int)then 3 else bif aoX ps rs xs then 2 else 0
def rrE(n mode day:Int)(ps:LI)(fs:L3)(rs:List LI)(lf:L3)(pl ls:L2)(xs:List RX):RS:=xs.foldl (stX n day fs lf pl ls) (mode,ps,rs,[],0)
def rrB(n mode day:Int)(ps:LI)(fs:L3)(rs:List LI)(lf:L3)(pl ls:L2)(xs:List RX):Bool:=rrC n mode day ps fs rs lf pl ls xs==0
def rrN(n mode day:Int)(ps:LI)(fs:L3)(rs:List LI)(lf:L3)(pl ls:L2)(xs:List RX):Int:=bif rrB n mode day ps fs rs lf pl ls xs then n else 0
def rrM(n mode day:Int)(ps:LI)(fs:L3)(rs:List LI)(lf:L3)(pl ls:L2)(xs:List RX):Int:=bif rrB n mode day ps fs rs lf pl ls xs then(rrE n mode day ps fs rs lf pl ls xs).1 else 0
def rrD(n mode day:Int)(ps:LI)(fs:L3)(rs:List LI)(lf:L3)(pl ls:L2)(xs:List RX):Int:=bif rrB n mode day ps fs rs lf pl ls xs then day else 0
def rrP(n mode day:Int)(ps:LI)(fs:L3)(rs:List LI)(lf:L3)(pl ls:L2)(xs:List RX):LI:=bif rrB n mode day ps fs rs lf pl ls xs then(rrE n mode day ps fs rs lf pl ls xs).2.1 else []
def rrF(n mode day:Int)(ps:LI)(fs:L3)(rs:List LI)(lf:L3)(pl ls:L2)(xs:List RX):L3:=bif rrB n mode day ps fs rs lf pl ls xs then fs else []
def rrR(n mode day:Int)(ps:LI)(fs:L3)(rs:List LI)(lf:L3)(pl ls:L2)(xs:List RX):List LI:=bif rrB n mode day ps fs rs lf pl ls xs then(rrE n mode day ps fs rs lf pl ls xs).2.2.1 else []
def rrL(n mode day:Int)(ps:LI)(fs:L3)(rs:List LI)(lf:L3)(pl ls:L2)(xs:List RX):L3:=bif rrB n mode day ps fs rs lf pl ls xs then lf else []
def anh(n mode day:Int)(ps:LI)(fs:L3)(rs:List LI)(lf:L3)(pl ls:L2)(xs:List RX):L2:=bif rrB n mode day ps fs rs lf pl ls xs then pl else []
def ang(n mode day:Int)(ps:LI)(fs:L3)(rs:List LI)(lf:L3)(pl ls:L2)(xs:List RX):L2:=bif rrB n mode day ps fs rs lf pl ls xs then ls else []
def rrV(n mode day:Int)(ps:LI)(fs:L3)(rs:List LI)(lf:L3)(pl ls:L2)(xs:List RX):LI:=bif rrB n mode day ps fs rs lf pl ls xs then(rrE n mode day ps fs rs lf pl ls xs).2.2.2.1 else []
def rrT(n mode day:Int)(ps:LI)(fs:L3)(rs:List LI)(lf:L3)(pl ls:L2)(xs:List RX):Int:=bif rrB n mode day ps fs rs lf pl ls xs then(rrE n mode day ps fs rs lf pl ls xs).2.2.2.2 else 0
theorem atV{ps:LI}{rs:List LI}{xs:List RX}(h:aoX ps rs xs=false): ∀ x∈xs,isX ps rs x=true:=by
 simp only [aoX,List.any_eq_false,Bool.not_eq_true',Bool.not_eq_false]at h
 exact h
theorem atS{n mode day:Int}{ps:LI}{fs:L3}{rs:List LI}{lf:L3}{pl ls:L2}(f:RideF n mode day ps fs rs lf pl ls):ap5 n day fs lf pl ls ps rs 0 (mode,ps,rs,[],0):=
 ⟨f,rfl,rfl,Nat.le_refl _⟩
theorem apg(n mode day:Int)(ps:LI)(fs:L3)(rs:List LI)(lf:L3)(pl ls:L2)(xs:List RX)(hN:uD 9223372036854775807 ps fs rs lf pl ls=true):
  zx n mode day ps fs rs lf pl ls xs=rrC n mode day ps fs rs lf pl ls xs∧DO n mode day ps fs rs lf pl ls xs=true:=by
 cases hO:uL n ps fs rs lf mode pl ls day with
 |false=>simp [zx,DO,rrC,hO,hN,allT]
 |true=>
  have f:=aqS hO
  cases h2:Sw xs with
  |true=>
   have h2':ltI 200 (xs.length:Int)=true:=h2
   simp only [zx,DO,rrC,hO,hN,h2,h2',allT,Bool.not_true,cond_false,cond_true,Bool.or_true,Bool.true_or,and_self,Bool.false_or]
  |false=>
   have h2':ltI 200 (xs.length:Int)=false:=h2
   have hl:xs.length≤200:=by have:=SA.1 h2';omega
   obtain⟨w1,w2⟩:=Lo n mode day xs ps fs rs lf pl ls (by omega) f
   rw [kH (P:=fun x=> !isX ps rs x) (j:=0) (fun b=>by
    simp only [dE,Ah,(amb b.1 b.2.1 b.2.2.1.1 b.2.2.1.2 b.2.2.2.1 b.2.2.2.2.1 b.2.2.2.2.2 f).1];rfl)]at w2
   have w1':Lp.fin ak (gP xs n mode day ps fs rs lf pl ls)=true:=w1
   have e:kb xs n mode day ps fs rs lf pl ls=aoX ps rs xs:=by
    rw [kb,rB,gQ,gP,w2]
    show leI 0 (bif Nat.beq (bif aoX ps rs xs then 0 else 1) 0 then _ else(-1:Int))=_
    cases aoX ps rs xs with
    |true=>exact cR (Int.natCast_nonneg _)
    |false=>rfl
   simp only [zx,DO,oS,rC,rrC,hO,hN,h2,h2',e,w1',allT,Bool.not_true,cond_false,cond_true,Bool.or_true,Bool.true_or,and_self,Bool.false_or]
theorem asO{n mode day:Int}{ps:LI}{fs:L3}{rs:List LI}{lf:L3}{pl ls:L2}{xs:List RX}(h:rrB n mode day ps fs rs lf pl ls xs=true):
  RideF n mode day ps fs rs lf pl ls∧xs.length≤200∧ ∀ x∈xs,isX ps rs x=true:=by
 simp only [rrB,rrC]at h
 cases hO:uL n ps fs rs lf mode pl ls day with
 |false=>rw [hO]at h;cases h
 |true=>
  cases h2:ltI 200 (xs.length:Int)with
  |true=>rw [hO,h2]at h;cases h
  |false=>
   cases hB:aoX ps rs xs with
   |true=>rw [hO,h2,hB]at h;cases h
   |false=>exact⟨aqS hO,by have:=SA.1 h2;omega,atV hB⟩
theorem ate{n day:Int}{fs lf:L3}{pl ls:L2}{ps0:LI}{rs0:List LI}{i:Nat}{s:RS}(hI:ap5 n day fs lf pl ls ps0 rs0 i s){b:RX}(hm:isX ps0 rs0 b=true):
  nD b (al0 n day fs lf pl ls s)= .inr (al0 n day fs lf pl ls (stX n day fs lf pl ls s b)):=by
 obtain⟨hx,_⟩:=agb hI hm
 obtain⟨o0,o1,o2,o3,o4,o5,o6,o7,o8,o9,o10⟩:=acW hI.1 hx
 simp only [al0,nD,o0,o1,o2,o3,o4,o5,o6,o7,o8,o9]
 rfl
theorem arc(n mode day:Int)(ps:LI)(fs:L3)(rs:List LI)(lf:L3)(pl ls:L2)(xs:List RX):(rrC n mode day ps fs rs lf pl ls xs !=0)= !rrB n mode day ps fs rs lf pl ls xs:=rfl
theorem aqy(n mode day:Int)(ps:LI)(fs:L3)(rs:List LI)(lf:L3)(pl ls:L2)(xs:List RX)(hN:uD 9223372036854775807 ps fs rs lf pl ls=true):
  Nc n mode day ps fs rs lf pl ls xs=rrN n mode day ps fs rs lf pl ls xs∧Nd n mode day ps fs rs lf pl ls xs=rrM n mode day ps fs rs lf pl ls xs∧
  Nf n mode day ps fs rs lf pl ls xs=rrD n mode day ps fs rs lf pl ls xs∧
  Ng n mode day ps fs rs lf pl ls xs=rrC n mode day ps fs rs lf pl ls xs∧Nh n mode day ps fs rs lf pl ls xs=rrP n mode day ps fs rs lf pl ls xs∧
  Ni n mode day ps fs rs lf pl ls xs=rrF n mode day ps fs rs lf pl ls xs∧Nj n mode day ps fs rs lf pl ls xs=rrR n mode day ps fs rs lf pl ls xs∧
  Nk n mode day ps fs rs lf pl ls xs=rrL n mode day ps fs rs lf pl ls xs∧Nl n mode day ps fs rs lf pl ls xs=anh n mode day ps fs rs lf pl ls xs∧
  Nn n mode day ps fs rs lf pl ls xs=ang n mode day ps fs rs lf pl ls xs∧KW n mode day ps fs rs lf pl ls xs=rrV n mode day ps fs rs lf pl ls xs∧
  KX n mode day ps fs rs lf pl ls xs=true:=by
 obtain⟨c1,c2⟩:=apg n mode day ps fs rs lf pl ls xs hN
 have a0:iS n mode day ps fs rs lf pl ls xs= !rrB n mode day ps fs rs lf pl ls xs:=by rw [iS,c1];rfl
 cases hb:rrB n mode day ps fs rs lf pl ls xs with
 |false=>
  rw [hb,Bool.not_false]at a0
  simp only [Nc,Nd,Nf,Ng,Nh,Ni,Nj,Nk,Nl,Nn,KW,KX,rrN,rrM,rrD,rrT,rrP,rrF,rrR,rrL,anh,ang,rrV,hb,c1,c2,a0,allT,cond_true,cond_false,Bool.true_or,and_self]
 |true=>
  rw [hb,Bool.not_true]at a0
  have hc:rrC n mode day ps fs rs lf pl ls xs=0:=beq_iff_eq.1 hb
  obtain⟨f,hl,hX⟩:=asO hb
  obtain⟨o1,o2⟩:=aom n mode day f.cp
  obtain⟨v1,v2⟩:=ajC xs [] n mode day ps fs rs lf pl ls (by omega) n day fs lf pl ls ps rs hX (mode,ps,rs,[],0) rfl (atS f) hl
  have hw:=(ap1 (e:=0) (i:=0) (r:=xs) (f:=nD) (g:=stX n day fs lf pl ls) (emb:=al0 n day fs lf pl ls) (Inv:=fun s=> ∃ i,ap5 n day fs lf pl ls ps rs i s)
   (fun b hb s hs=>by obtain⟨i,hI⟩:=hs;exact⟨ate hI (hX b hb),_,(agb hI (hX b hb)).2⟩) ⟨0,atS f⟩).1
  change aL nD 0 xs 0 (([]:LI),n,mode,day,ps,fs,rs,lf,pl,ls)=_ at hw
  rw [hw]at v2
  have v1':Lp.fin eB (Gj n mode day ps fs rs lf pl ls xs)=true:=by rw [Gj,o1];exact v1
  have v2':Lp.res eB (Gj n mode day ps fs rs lf pl ls xs)=(0,oB xs xs.length (al0 n day fs lf pl ls (rrE n mode day ps fs rs lf pl ls xs))):=by
   rw [Gj,o1,v2];simp only [Nat.zero_add];rfl
  simp only [Nc,Nd,Nf,Ng,Nh,Ni,Nj,Nk,Nl,Nn,KW,KX,VP,VQ,VR,VS,VT,VU,VV,VW,Up,v2',v1',o2,oB,al0,rrN,rrM,rrD,rrT,rrP,rrF,rrR,rrL,anh,ang,rrV,hb,hc,c1,c2,a0,allT,cond_true,cond_false,Bool.or_true,Bool.and_self,and_self]
theorem aud(n mode day:Int)(ps:LI)(fs:L3)(rs:List LI)(lf:L3)(pl ls:L2)(x:RX):
  rrC n mode day ps fs rs lf pl ls [x]=bif !uL n ps fs rs lf mode pl ls day then 1 else bif !isX ps rs x then 2 else 0:=by
 simp only [rrC,aoX,List.any_cons,List.any_nil,Bool.or_false];rfl
def srV(n mode day:Int)(ps:LI)(fs:L3)(rs:List LI)(lf:L3)(pl ls:L2)(x:RX):Int:=bif rrB n mode day ps fs rs lf pl ls [x]then vX n day fs lf pl ls (mode,ps,rs,[],0) x else 0
theorem auf(n mode day:Int)(ps:LI)(fs:L3)(rs:List LI)(lf:L3)(pl ls:L2)(x:RX)(h:rrB n mode day ps fs rs lf pl ls [x]=true):rrV n mode day ps fs rs lf pl ls [x]= [srV n mode day ps fs rs lf pl ls x]:=by
 rw [rrV,srV,h];rfl
theorem arI(n mode day k t rk row ck role:Int)(dC:Bool)(ps:LI)(fs:L3)(rs:List LI)(lf:L3)(pl ls:L2)(hN:uD 9223372036854775807 ps fs rs lf pl ls=true):
  Qf n mode day k t rk row ck role dC ps fs rs lf pl ls=rrN n mode day ps fs rs lf pl ls [(k,t,(rk,row),ck,role,dC)]∧Qg n mode day k t rk row ck role dC ps fs rs lf pl ls=rrM n mode day ps fs rs lf pl ls [(k,t,(rk,row),ck,role,dC)]∧
  Qh n mode day k t rk row ck role dC ps fs rs lf pl ls=rrD n mode day ps fs rs lf pl ls [(k,t,(rk,row),ck,role,dC)]∧Qi n mode day k t rk row ck role dC ps fs rs lf pl ls=srV n mode day ps fs rs lf pl ls (k,t,(rk,row),ck,role,dC)∧
  Qj n mode day k t rk row ck role dC ps fs rs lf pl ls=rrC n mode day ps fs rs lf pl ls [(k,t,(rk,row),ck,role,dC)]∧Qk n mode day k t rk row ck role dC ps fs rs lf pl ls=rrP n mode day ps fs rs lf pl ls [(k,t,(rk,row),ck,role,dC)]∧
  Ql n mode day k t rk row ck role dC ps fs rs lf pl ls=rrF n mode day ps fs rs lf pl ls [(k,t,(rk,row),ck,role,dC)]∧Qm n mode day k t rk row ck role dC ps fs rs lf pl ls=rrR n mode day ps fs rs lf pl ls [(k,t,(rk,row),ck,role,dC)]∧
  Qn n mode day k t rk row ck role dC ps fs rs lf pl ls=rrL n mode day ps fs rs lf pl ls [(k,t,(rk,row),ck,role,dC)]∧Qo n mode day k t rk row ck role dC ps fs rs lf pl ls=anh n mode day ps fs rs lf pl ls [(k,t,(rk,row),ck,role,dC)]∧
  Ob n mode day k t rk row ck role dC ps fs rs lf pl ls=ang n mode day ps fs rs lf pl ls [(k,t,(rk,row),ck,role,dC)]∧Oc n mode day k t rk row ck role dC ps fs rs lf pl ls=true:=by
 obtain⟨o0,o1,o2,o3,o4,o5,o6,o7,o8,o9,o10,o11⟩:=aqy n mode day ps fs rs lf pl ls [(k,t,(rk,row),ck,role,dC)] hN
 cases hb:rrB n mode day ps fs rs lf pl ls [(k,t,(rk,row),ck,role,dC)]with
 |false=>
  have hb':=hb
  rw [rrB]at hb'
  simp only [iG,Od,fL,Jf,Qf,Qg,Qh,Qi,Qj,Qk,Ql,Qm,Qn,Qo,Ob,Oc,o0,o1,o2,o3,o4,o5,o6,o7,o8,o9,o10,o11,arc,hb,rrN,rrM,rrD,srV,rrP,rrF,rrR,rrL,anh,ang,allT,Bool.not_false,Bool.true_or,cond_true,cond_false,and_self]
 |true=>
  have hc:rrC n mode day ps fs rs lf pl ls [(k,t,(rk,row),ck,role,dC)]=0:=beq_iff_eq.1 hb
  have hv:=auf n mode day ps fs rs lf pl ls _ hb
  have n1:leI 0 0=true:=rfl
  have n2:ltI 0 (([srV n mode day ps fs rs lf pl ls (k,t,(rk,row),ck,role,dC)].length:Nat):Int)=true:=rfl
  have n3:ltN (Int.toNat 0) [srV n mode day ps fs rs lf pl ls (k,t,(rk,row),ck,role,dC)].length=true:=rfl
  simp only [iG,Od,fL,Jf,Qf,Qg,Qh,Qi,Qj,Qk,Ql,Qm,Qn,Qo,Ob,Oc,o0,o1,o2,o3,o4,o5,o6,o7,o8,o9,o10,o11,arc,hb,hv,n1,n2,n3,allT,Bool.not_true,Bool.false_or,cond_true,cond_false,and_self,true_and]
  exact⟨rfl,hc.symm,trivial⟩
def adB:List SV→List Entry→Option Out
 | [.one ⟨true,[.val (.int .i64 x0),.ref 0,.ref 1,.ref 2,.ref 3,.val (.int .i64 x1),.ref 4,.ref 5,.val (.int .i64 x2)]⟩,.one ⟨true,[.val (.int .i64 x3),.val (.int .i64 x4),.val (.int .i64 x5),.val (.int .i64 x6),.val (.int .i64 x7),.val (.int .i64 x8),.val (.bool x9)]⟩],[.row false 2 (.int .i64) x10,.row false 169 (.pair (.int .i64) (.pair (.int .i64) (.int .i64))) x11,.row false 24 (.sl 2 (.int .i64)) x12,.row false 100 (.pair (.int .i64) (.pair (.int .i64) (.int .i64))) x13,.row false 173 (.pair (.int .i64) (.int .i64)) x14,.row false 176 (.pair (.int .i64) (.int .i64)) x15]=>some ⟨.tup [⟨true,[.val (.int .i64 (rrN x0 x1 x2 x10 x11 x12 x13 x14 x15 [(x3,x4,(x5,x6),x7,x8,x9)])),.ref 6,.ref 7,.ref 8,.ref 9,.val (.int .i64 (rrM x0 x1 x2 x10 x11 x12 x13 x14 x15 [(x3,x4,(x5,x6),x7,x8,x9)])),.ref 10,.ref 11,.val (.int .i64 (rrD x0 x1 x2 x10 x11 x12 x13 x14 x15 [(x3,x4,(x5,x6),x7,x8,x9)]))]⟩,⟨false,[.val (.int .i64 (srV x0 x1 x2 x10 x11 x12 x13 x14 x15 (x3,x4,(x5,x6),x7,x8,x9)))]⟩,⟨false,[.val (.int .i64 (rrC x0 x1 x2 x10 x11 x12 x13 x14 x15 [(x3,x4,(x5,x6),x7,x8,x9)]))]⟩],[.row false 2 aj1 x10,.row false 169 adH x11,.row false 24 (CTy.sl (2:TypeId) aj1) x12,.row false 100 adH x13,.row false 173 aej x14,.row false 176 aej x15],[.row true 2 aj1 (rrP x0 x1 x2 x10 x11 x12 x13 x14 x15 [(x3,x4,(x5,x6),x7,x8,x9)]),.row true 169 adH (rrF x0 x1 x2 x10 x11 x12 x13 x14 x15 [(x3,x4,(x5,x6),x7,x8,x9)]),.tree 24 ajI (rrR x0 x1 x2 x10 x11 x12 x13 x14 x15 [(x3,x4,(x5,x6),x7,x8,x9)]) none,.row true 100 adH (rrL x0 x1 x2 x10 x11 x12 x13 x14 x15 [(x3,x4,(x5,x6),x7,x8,x9)]),.row true 173 aej (anh x0 x1 x2 x10 x11 x12 x13 x14 x15 [(x3,x4,(x5,x6),x7,x8,x9)]),.row true 176 aej (ang x0 x1 x2 x10 x11 x12 x13 x14 x15 [(x3,x4,(x5,x6),x7,x8,x9)])],[uD 9223372036854775807 x10 x11 x12 x13 x14 x15]⟩
 |_,_=>none
def Wg:PF prog:=PF.alt aln adB (by
 intro args es o h bE;unfold adB at h;split at h
 ·rename_i x0 x1 x2 x3 x4 x5 x6 x7 x8 x9 x10 x11 x12 x13 x14 x15
  cases h
  have bE:=jW bE
  have hh:=arI x0 x1 x2 x3 x4 x5 x6 x7 x8 x9 x10 x11 x12 x13 x14 x15 bE
  obtain⟨e0,e1,e2,e3,e4,e5,e6,e7,e8,e9,e10,en⟩:=hh
  exact nO rfl (iY en) (by simp only [e0,e1,e2,e3,e4] <;> rfl) rfl (by simp only [e5,e6,e7,e8,e9,e10] <;> rfl)
 ·cases h)
abbrev ij:=Int×Int×List Int×Int×Int×List Int
section
variable (y0 y1:Int)(y2:List Int)(y3 y4:Int)(y5:List Int)
def Id:Bool:=ltI y0 y1
def Ie:Bool:=aD y3 y4 y5&&leN 1 (List.length [(2:Int),(2:Int),(1:Int),(0:Int)])
def Ig:Bool:=leI 0 y0
def Ih:Bool:=ltI y0 (↑y2.length:Int)
def Ii:Bool:=ltN y0.toNat y2.length
def Ij:Int:=IntKind.wrap .i64 (y0 + (1:Int))
def Ik:List Int:=List.set y2 y0.toNat (pkV y3 y4 [(2:Int),(2:Int),(1:Int),(0:Int)] y5)
def Il:Int:=pkA y3 [(2:Int),(2:Int),(1:Int),(0:Int)] y5
def Im:Int:=pkS y3 y4 [(2:Int),(2:Int),(1:Int),(0:Int)] y5
end
def Zg:ij→List (Nat×SV)
 |(y0,y1,_,_,_,_)=> [(9,(.one ⟨false,[.val (.int .i64 y0)]⟩)),(4,(.one ⟨false,[.val (.int .i64 y1)]⟩)),(8,(.one ⟨false,[.ref 0]⟩)),(0,(.one ⟨false,[.ptr 1 0]⟩))]
def Ze:ij→List (Nat×Entry)
 |(_,_,y2,y3,y4,y5)=> [(0,(.row true 2 aj1 y2)),(1,(.box 157 [.ref 2,.val (.int .i64 y3),.val (.int .i64 y4)])),(2,(.row false 5 ak9 y5))]
def Zk:Nat→ij→List (Nat×SV)
 |_,(_,_,_,_,_,_)=> []
def Zi:Nat→ij→List (Nat×Entry)
 |_,(_,_,y2,y3,y4,y5)=> [(0,(.row true 2 aj1 y2)),(1,(.box 157 [.ref 2,.val (.int .i64 y3),.val (.int .i64 y4)])),(2,(.row false 5 ak9 y5))]
def Gd:ij→LT ij
 |(y0,y1,y2,y3,y4,y5)=> .ite (Id y0 y1) (.need [Ie y3 y4 y5,Ig y0,Ih y0 y2,Ii y0 y2] (.nrm ((Ij y0),y1,Ik y0 y2 y3 y4 y5,Il y3 y5,Im y3 y4 y5,y5) [(0,0),(1,1),(2,2)])) (.ext 0 [(0,0),(1,1),(2,2)])
def Gh(s:St):Option ij:=
 (match s.look 9 with
 |some ⟨none,.one ⟨false,[.val (.int .i64 y0)]⟩⟩=>
 (match s.look 4 with
 |some ⟨none,.one ⟨false,[.val (.int .i64 y1)]⟩⟩=>
 (match s.look 8 with
 |some ⟨none,.one ⟨false,[.ref 448]⟩⟩=>
 (match s.look 0 with
 |some ⟨none,.one ⟨false,[.ptr 1 0]⟩⟩=>
 (match s.ent 448 with
 |some (.row true 2 (.int .i64) y2)=>
 (match s.ent 1 with
 |some (.box 157 [.ref 4,.val (.int .i64 y3),.val (.int .i64 y4)])=>
 (match s.ent 4 with
 |some (.row false 5 (.int IntKind.u8) y5)=>
 some (y0,y1,y2,y3,y4,y5)
 |_=>none)
 |_=>none)
 |_=>none)
 |_=>none)
 |_=>none)
 |_=>none)
 |_=>none)
def eN:Lp ij where
 h:=⟨[57,58,59,62,63,64,65,66,67,60,61,9],[0,1,2],[],[]⟩
 JL:=Zg
 JE:=Ze
 XL:=Zk
 XE:=Zi
 q:=fun j=>match j with | _=> .exit 2
 tags:= [0]
 lt:=Gd
 fuel:=fun(y0,y1,y2,y3,y4,y5)=>y0.natAbs + y1.natAbs + y2.length + y3.natAbs + y4.natAbs + y5.length
 fix:=fun(_,y1,_,_,_,y5) (y0,_,y2,y3,y4,_)=>(y0,y1,y2,y3,y4,y5)
 σ:= [(0,448),(1,1),(2,4)]
 rd:=Gh
theorem WY:LoopOk prog (memN [32,33,34,35,36,39,40,8,41,42,43,44,45,46,47,48,49,50,51,52,53,54,55,56,9,57,58,59,62,63,64,65,66,67,60,61,68,69,70,71,6,37,38,7]) eN.F (Wb (aH f51 0) 0):=by
 refine Lp.ok (tbl:= (T3z [xl,lk,ll,xm,mA,am,ao,Nt])) (lf:= []) aO eN (by kernel_rfl) (LOk.nil _) (fun _=>rfl) (fun _ _=>rfl) ?_ ?_ ?_ ?_ (fun _=>rfl) ?_
 ·rintro⟨y0,y1,y2,y3,y4,y5⟩;kernel_rfl
 ·rintro⟨y0,y1,y2,y3,y4,y5⟩;kernel_rfl
 ·intro s x h
  have h:Gh s=some x:=h
  unfold Gh at h
  repeat' split at h
  all_goals cases h
  constructor<;>repeat(first|refine ae (by assumption) rfl ?_|refine af rfl (by assumption) rfl ?_|exact rfl)
 ·rintro⟨y0,y1,y2,y3,y4,y5⟩;kernel_rfl
 ·rintro⟨y0,y1,y2,y3,y4,y5⟩ z;exact(And.intro rfl trivial)
abbrev kr:=Int×Int×Int×Int×Int×List (List Int)×List Int×List Int
section
variable (y0 y1 y2 y3 y4:Int)(y5:List (List Int))(y6 y7:List Int)
def DE:Bool:=Option.getD y6[Int.toNat y0]? 0==IntKind.wrap .i64 (IntKind.wrap .i64 ((3:Int) * IntKind.wrap .i64 (y2 - (1:Int))) + (1:Int))
def oA:Bool:=bif DE y0 y2 y6 then true else nxV 40 y3 y4 y7==0
def DF:Int:=bif !DE y0 y2 y6&&true then nxA 40 y3 y7 else y3
def DG:Int:=bif !DE y0 y2 y6&&true then nxS 40 y3 y4 y7 else y4
def DH:Int×Int×List Int×Int×Int×List Int:=((0:Int),y1,jm y1 2,DF y0 y2 y3 y6 y7,DG y0 y2 y3 y4 y6 y7,y7)
def DI:List Int×Int×Int×List Int:=(Lp.res eN (DH y0 y1 y2 y3 y4 y6 y7)).2.2.2
def xW:List (List Int):= [bif oA y0 y2 y3 y4 y6 y7 then (DI y0 y1 y2 y3 y4 y6 y7).1else jm y1 2]
def KL:Int×Int×List Int:=(DI y0 y1 y2 y3 y4 y6 y7).2
def FX:Bool:=ltI y0 (↑y6.length:Int)
def TT:Bool:=leI 0 y1&&leI y1 500
def TU:Bool:=leI 0 y0
def TV:Bool:=ltN y0.toNat y6.length
def TW:Bool:= !(!DE y0 y2 y6&&true)||aD y3 y4 y7
def TX:Bool:= !oA y0 y2 y3 y4 y6 y7||Lp.fin eN (DH y0 y1 y2 y3 y4 y6 y7)
def TY:Bool:=leN (List.length y5 + List.length (xW y0 y1 y2 y3 y4 y6 y7)) 9223372036854775807
def TZ:Bool:=leN ((List.length y5 + List.length (xW y0 y1 y2 y3 y4 y6 y7)) * 24) 140737488355328
def Ua:Int:=IntKind.wrap .i64 (y0 + (1:Int))
def LY:Int:=bif oA y0 y2 y3 y4 y6 y7 then (KL y0 y1 y2 y3 y4 y6 y7).1else DF y0 y2 y3 y6 y7
def KK:Int:=bif oA y0 y2 y3 y4 y6 y7 then ((KL y0 y1 y2 y3 y4 y6 y7).2).1else DG y0 y2 y3 y4 y6 y7
def Tm:List (List Int):=y5++xW y0 y1 y2 y3 y4 y6 y7
def Tn:List Int:=bif oA y0 y2 y3 y4 y6 y7 then y7 else y7
end
def acD:kr→List (Nat×SV)
 |(y0,y1,_,_,_,_,_,_)=> [(7,(.one ⟨false,[.val (.int .i64 y0)]⟩)),(3,(.one ⟨false,[.ptr 0 0]⟩)),(4,(.one ⟨false,[.val (.int .i64 y1)]⟩)),(0,(.one ⟨false,[.ptr 1 0]⟩)),(6,(.one ⟨false,[.ref 2]⟩))]
def acB:kr→List (Nat×Entry)
 |(_,_,y2,y3,y4,y5,y6,y7)=> [(0,(.box 26 [.val (.int .i64 y2),.ref 3])),(1,(.box 157 [.ref 4,.val (.int .i64 y3),.val (.int .i64 y4)])),(3,(.row true 2 aj1 y6)),(4,(.row false 5 ak9 y7)),(2,(.row true 24 ajI y5))]
def acH:Nat→kr→List (Nat×SV)
 |_,(_,_,_,_,_,_,_,_)=> [(6,(.one ⟨false,[.ref 2]⟩))]
def acF:Nat→kr→List (Nat×Entry)
 |_,(_,_,y2,y3,y4,y5,y6,y7)=> [(0,(.box 26 [.val (.int .i64 y2),.ref 3])),(1,(.box 157 [.ref 4,.val (.int .i64 y3),.val (.int .i64 y4)])),(2,(.row true 24 ajI y5)),(3,(.row true 2 aj1 y6)),(4,(.row false 5 ak9 y7))]
def Ky:kr→LT kr
 |(y0,y1,y2,y3,y4,y5,y6,y7)=> .ite (FX y0 y6) (.need [TT y1] (.need [TU y0,FX y0 y6,TV y0 y6,TW y0 y2 y3 y4 y6 y7] (.need [TX y0 y1 y2 y3 y4 y6 y7] (.need [TY y0 y1 y2 y3 y4 y5 y6 y7,TZ y0 y1 y2 y3 y4 y5 y6 y7] (.nrm ((Ua y0),y1,y2,LY y0 y1 y2 y3 y4 y6 y7,KK y0 y1 y2 y3 y4 y6 y7,Tm y0 y1 y2 y3 y4 y5 y6 y7,y6,(Tn y0 y2 y3 y4 y6 y7)) [(0,0),(1,1),(2,1920),(3,3),(4,4)]))))) (.ext 0 [(0,0),(1,1),(2,2),(3,3),(4,4)])
def KC(s:St):Option kr:=
 (match s.look 7 with
 |some ⟨none,.one ⟨false,[.val (.int .i64 y0)]⟩⟩=>
 (match s.look 3 with
 |some ⟨none,.one ⟨false,[.ptr 384 0]⟩⟩=>
 (match s.look 4 with
 |some ⟨none,.one ⟨false,[.val (.int .i64 y1)]⟩⟩=>
 (match s.look 0 with
 |some ⟨none,.one ⟨false,[.ptr 0 0]⟩⟩=>
 (match s.look 6 with
 |some ⟨none,.one ⟨false,[.ref 1920]⟩⟩=>
 (match s.ent 384 with
 |some (.box 26 [.val (.int .i64 y2),.ref 320])=>
 (match s.ent 0 with
 |some (.box 157 [.ref 1,.val (.int .i64 y3),.val (.int .i64 y4)])=>
 (match s.ent 320 with
 |some (.row true 2 (.int .i64) y6)=>
 (match s.ent 1 with
 |some (.row false 5 (.int IntKind.u8) y7)=>
 (match s.ent 1920 with
 |some (.row true 24 (.sl 2 (.int .i64)) y5)=>
 some (y0,y1,y2,y3,y4,y5,y6,y7)
 |_=>none)
 |_=>none)
 |_=>none)
 |_=>none)
 |_=>none)
 |_=>none)
 |_=>none)
 |_=>none)
 |_=>none)
 |_=>none)
def ik:Lp kr where
 h:=⟨[32,33,34,35,36,39,40,8,41,42,43,44,45,46,47,48,49,50,51,52,53,54,55,56,9,57,58,59,62,63,64,65,66,67,60,61,68,69,70,71,6,37,38,7],[0,1,3,4],[2],[]⟩
 JL:=acD
 JE:=acB
 XL:=acH
 XE:=acF
 q:=fun j=>match j with | _=> .exit 0
 tags:= [0]
 lt:=Ky
 fuel:=fun(y0,y1,y2,y3,y4,y5,y6,y7)=>y0.natAbs + y1.natAbs + y2.natAbs + y3.natAbs + y4.natAbs + y5.length + y6.length + y7.length
 fix:=fun(_,y1,y2,_,_,_,y6,_) (y0,_,_,y3,y4,y5,_,y7)=>(y0,y1,y2,y3,y4,y5,y6,y7)
 σ:= [(0,384),(1,0),(3,320),(4,1),(2,1920)]
 rd:=KC
theorem aa2:LoopOk prog (fun k=>Nat.blt k Tryz.f51.ntmps) ik.F (aH f51 0):=by
 refine Lp.ok (tbl:= (T3z [xl,lk,ll,xm,mA,am,ao,Nt])) (lf:= [eN.F]) aO ik (by kernel_rfl) (LOk.allT (l:= [Wb (aH f51 0) 0]) (by kernel_rfl) (.cons WY (.nil _))) (fun _=>rfl) (fun _ _=>rfl) ?_ ?_ ?_ ?_ (fun _=>rfl) ?_
 ·rintro⟨y0,y1,y2,y3,y4,y5,y6,y7⟩;kernel_rfl
 ·rintro⟨y0,y1,y2,y3,y4,y5,y6,y7⟩;kernel_rfl
 ·intro s x h
  have h:KC s=some x:=h
  unfold KC at h
  repeat' split at h
  all_goals cases h
  constructor<;>repeat(first|refine ae (by assumption) rfl ?_|refine af rfl (by assumption) rfl ?_|exact rfl)
 ·rintro⟨y0,y1,y2,y3,y4,y5,y6,y7⟩;kernel_rfl
 ·rintro⟨y0,y1,y2,y3,y4,y5,y6,y7⟩ z;exact(And.intro rfl trivial)
section
variable (x0 x1:Int)(x2:List Int)
def tw:Int:=IntKind.wrap .i64 ((1:Int) + nxV 3 (nk x0 x1 x2) (BE x0 x1 x2) x2)
def De:Int:=nxS 3 (nk x0 x1 x2) (BE x0 x1 x2) x2
def Df:Int:=BF (kn x0 x1 x2) (nxA 3 (nk x0 x1 x2) x2) (De x0 x1 x2) x2
def Dg:Int:=BG (kn x0 x1 x2) (nxA 3 (nk x0 x1 x2) x2) (De x0 x1 x2) x2
def mT:Int:=ln (tw x0 x1 x2) (Df x0 x1 x2) (Dg x0 x1 x2) x2
def IP:Int:=lq (tw x0 x1 x2) (Df x0 x1 x2) (Dg x0 x1 x2) x2
def Dh:List Int:= [(3:Int),(3:Int),(3:Int),(2:Int),nxV 6 (mT x0 x1 x2) (IP x0 x1 x2) x2]
def Di:Int:=pkA (nxA 6 (mT x0 x1 x2) x2) (Dh x0 x1 x2) x2
def IQ:Int:=nxS 6 (mT x0 x1 x2) (IP x0 x1 x2) x2
def IR:Int:=pkS (nxA 6 (mT x0 x1 x2) x2) (IQ x0 x1 x2) (Dh x0 x1 x2) x2
def Hy:Int×Int×Int×Int×Int×List (List Int)×List Int×List Int:=((0:Int),tw x0 x1 x2,kn x0 x1 x2,nxA 40 (Di x0 x1 x2) x2,nxS 40 (Di x0 x1 x2) (IR x0 x1 x2) x2,[],rS x0 x1 x2,x2)
def wj:Int×Int×List (List Int)×List Int×List Int:=(Lp.res ik (Hy x0 x1 x2)).2.2.2.2
def wl:Int:=(wj x0 x1 x2).1
def BI:Int×List (List Int)×List Int×List Int:=(wj x0 x1 x2).2
def BJ:Int:=(BI x0 x1 x2).1
def Hz:List (List Int)×List Int×List Int:=(BI x0 x1 x2).2
def aq:List Int:=(Hz x0 x1 x2).2.2
def aF:Bool:=nxV 3 (wl x0 x1 x2) (BJ x0 x1 x2) (aq x0 x1 x2)==0
def lz:Int:=nxA 3 (wl x0 x1 x2) (aq x0 x1 x2)
def nZ:Int:=nxS 3 (wl x0 x1 x2) (BJ x0 x1 x2) (aq x0 x1 x2)
def wm:Int:=xR (lz x0 x1 x2) (nZ x0 x1 x2) (aq x0 x1 x2)
def wn:Int:=xS (lz x0 x1 x2) (nZ x0 x1 x2) (aq x0 x1 x2)
def wo:Int:=mO (wm x0 x1 x2) (wn x0 x1 x2) (aq x0 x1 x2)
def BK:Int:=mQ (wm x0 x1 x2) (wn x0 x1 x2) (aq x0 x1 x2)
def NO:Int:=nxV 40 (wo x0 x1 x2) (BK x0 x1 x2) (aq x0 x1 x2)
def bk:Bool:=NO x0 x1 x2==0
def bt:Bool:=NO x0 x1 x2==1
def rV:Bool:=NO x0 x1 x2==2
def NP:Int:=nxV 40 (lz x0 x1 x2) (nZ x0 x1 x2) (aq x0 x1 x2)
def bu:Bool:=NP x0 x1 x2==0
def bD:Bool:=NP x0 x1 x2==1
def rW:Bool:=NP x0 x1 x2==2
def iz:Int:=nxA 40 (wo x0 x1 x2) (aq x0 x1 x2)
def lA:Int:=nxS 40 (wo x0 x1 x2) (BK x0 x1 x2) (aq x0 x1 x2)
def wq:Int:=pkV (nxA 6 (mT x0 x1 x2) x2) (IQ x0 x1 x2) (Dh x0 x1 x2) x2
def iA:Int:=nxA 40 (lz x0 x1 x2) (aq x0 x1 x2)
def lB:Int:=nxS 40 (lz x0 x1 x2) (nZ x0 x1 x2) (aq x0 x1 x2)
def ws:Int:=nxV 40 (Di x0 x1 x2) (IR x0 x1 x2) x2
def rX:List (Int×Int×Int):=BH (kn x0 x1 x2) (nxA 3 (nk x0 x1 x2) x2) (De x0 x1 x2) x2
def lC:List (List Int):=(Hz x0 x1 x2).1
def wu:List (List Int):=lC x0 x1 x2++ [[(2:Int)]]
def rY:List (Int×Int×Int):=lr (tw x0 x1 x2) (Df x0 x1 x2) (Dg x0 x1 x2) x2
def BL:List (Int×Int):=xT (lz x0 x1 x2) (nZ x0 x1 x2) (aq x0 x1 x2)
def HA:List (Int×Int):=bif bu x0 x1 x2 then []else bif bD x0 x1 x2 then []else []
def BM:List (Int×Int):=mS (wm x0 x1 x2) (wn x0 x1 x2) (aq x0 x1 x2)
def NQ:Bool:=aD (lz x0 x1 x2) (nZ x0 x1 x2) (aq x0 x1 x2)
def NR:Bool:=aD (iz x0 x1 x2) (lA x0 x1 x2) (aq x0 x1 x2)
def NS:Bool:=leN (List.length (lC x0 x1 x2) + List.length [[(2:Int)]]) (9223372036854775807:Nat)
def NT:Bool:=leN ((List.length (lC x0 x1 x2) + List.length [[(2:Int)]]) * (24:Nat)) 140737488355328
def NU:Bool:=aD (iA x0 x1 x2) (lB x0 x1 x2) (aq x0 x1 x2)
def Rj:Int:=bif aF x0 x1 x2 then bif bk x0 x1 x2 then kn x0 x1 x2 else bif bt x0 x1 x2 then kn x0 x1 x2 else bif rV x0 x1 x2 then kn x0 x1 x2 else kn x0 x1 x2 else bif bu x0 x1 x2 then kn x0 x1 x2 else bif bD x0 x1 x2 then kn x0 x1 x2 else bif rW x0 x1 x2 then kn x0 x1 x2 else kn x0 x1 x2
def Rk:Int:=bif aF x0 x1 x2 then bif bk x0 x1 x2 then pkV (iz x0 x1 x2) (lA x0 x1 x2) [(-1:Int),(6:Int)] (aq x0 x1 x2)else bif bt x0 x1 x2 then wq x0 x1 x2 else bif rV x0 x1 x2 then wq x0 x1 x2 else wq x0 x1 x2 else bif bu x0 x1 x2 then pkV (iA x0 x1 x2) (lB x0 x1 x2) [(-1:Int),(6:Int)] (aq x0 x1 x2)else bif bD x0 x1 x2 then wq x0 x1 x2 else bif rW x0 x1 x2 then wq x0 x1 x2 else wq x0 x1 x2
def Rl:Int:=bif aF x0 x1 x2 then bif bk x0 x1 x2 then ws x0 x1 x2 else bif bt x0 x1 x2 then ws x0 x1 x2 else bif rV x0 x1 x2 then pkV (iz x0 x1 x2) (lA x0 x1 x2) [(-1:Int),(100000:Int),(100001:Int)] (aq x0 x1 x2)else ws x0 x1 x2 else bif bu x0 x1 x2 then ws x0 x1 x2 else bif bD x0 x1 x2 then ws x0 x1 x2 else bif rW x0 x1 x2 then pkV (iA x0 x1 x2) (lB x0 x1 x2) [(-1:Int),(100000:Int),(100001:Int)] (aq x0 x1 x2)else ws x0 x1 x2
def KI:Int:=bif aF x0 x1 x2 then bif bk x0 x1 x2 then pkA (iz x0 x1 x2) [(-1:Int),(6:Int)] (aq x0 x1 x2)else bif bt x0 x1 x2 then iz x0 x1 x2 else bif rV x0 x1 x2 then pkA (iz x0 x1 x2) [(-1:Int),(100000:Int),(100001:Int)] (aq x0 x1 x2)else iz x0 x1 x2 else bif bu x0 x1 x2 then pkA (iA x0 x1 x2) [(-1:Int),(6:Int)] (aq x0 x1 x2)else bif bD x0 x1 x2 then iA x0 x1 x2 else bif rW x0 x1 x2 then pkA (iA x0 x1 x2) [(-1:Int),(100000:Int),(100001:Int)] (aq x0 x1 x2)else iA x0 x1 x2
def KJ:Int:=bif aF x0 x1 x2 then bif bk x0 x1 x2 then pkS (iz x0 x1 x2) (lA x0 x1 x2) [(-1:Int),(6:Int)] (aq x0 x1 x2)else bif bt x0 x1 x2 then lA x0 x1 x2 else bif rV x0 x1 x2 then pkS (iz x0 x1 x2) (lA x0 x1 x2) [(-1:Int),(100000:Int),(100001:Int)] (aq x0 x1 x2)else lA x0 x1 x2 else bif bu x0 x1 x2 then pkS (iA x0 x1 x2) (lB x0 x1 x2) [(-1:Int),(6:Int)] (aq x0 x1 x2)else bif bD x0 x1 x2 then lB x0 x1 x2 else bif rW x0 x1 x2 then pkS (iA x0 x1 x2) (lB x0 x1 x2) [(-1:Int),(100000:Int),(100001:Int)] (aq x0 x1 x2)else lB x0 x1 x2
def zN:List Int:=bif aF x0 x1 x2 then bif bk x0 x1 x2 then rS x0 x1 x2 else bif bt x0 x1 x2 then rS x0 x1 x2 else rS x0 x1 x2 else bif bu x0 x1 x2 then rS x0 x1 x2 else bif bD x0 x1 x2 then rS x0 x1 x2 else rS x0 x1 x2
def zO:List (Int×(Int×Int)):=bif aF x0 x1 x2 then bif bk x0 x1 x2 then rX x0 x1 x2 else bif bt x0 x1 x2 then rX x0 x1 x2 else rX x0 x1 x2 else bif bu x0 x1 x2 then rX x0 x1 x2 else bif bD x0 x1 x2 then rX x0 x1 x2 else rX x0 x1 x2
def uY:List (List Int):=bif aF x0 x1 x2 then bif bk x0 x1 x2 then lC x0 x1 x2 else bif bt x0 x1 x2 then wu x0 x1 x2 else lC x0 x1 x2 else bif bu x0 x1 x2 then lC x0 x1 x2 else bif bD x0 x1 x2 then wu x0 x1 x2 else lC x0 x1 x2
def zP:List (Int×(Int×Int)):=bif aF x0 x1 x2 then bif bk x0 x1 x2 then rY x0 x1 x2 else bif bt x0 x1 x2 then rY x0 x1 x2 else rY x0 x1 x2 else bif bu x0 x1 x2 then rY x0 x1 x2 else bif bD x0 x1 x2 then rY x0 x1 x2 else rY x0 x1 x2
def zQ:List (Int×Int):=bif aF x0 x1 x2 then bif bk x0 x1 x2 then BL x0 x1 x2 else bif bt x0 x1 x2 then BL x0 x1 x2 else BL x0 x1 x2 else HA x0 x1 x2
def yy:List (Int×Int):=bif aF x0 x1 x2 then bif bk x0 x1 x2 then BM x0 x1 x2 else bif bt x0 x1 x2 then BM x0 x1 x2 else BM x0 x1 x2 else HA x0 x1 x2
def Pt:Bool:=allT [aD x0 x1 x2,aD (nk x0 x1 x2) (BE x0 x1 x2) x2,aD (nxA 3 (nk x0 x1 x2) x2) (De x0 x1 x2) x2,aD (Df x0 x1 x2) (Dg x0 x1 x2) x2,aD (mT x0 x1 x2) (IP x0 x1 x2) x2,aD (nxA 6 (mT x0 x1 x2) x2) (IQ x0 x1 x2) x2&&leN 1 (List.length (Dh x0 x1 x2)),aD (Di x0 x1 x2) (IR x0 x1 x2) x2,Lp.fin ik (Hy x0 x1 x2),aD (wl x0 x1 x2) (BJ x0 x1 x2) (aq x0 x1 x2),!aF x0 x1 x2||NQ x0 x1 x2,!aF x0 x1 x2||aD (wm x0 x1 x2) (wn x0 x1 x2) (aq x0 x1 x2),!aF x0 x1 x2||aD (wo x0 x1 x2) (BK x0 x1 x2) (aq x0 x1 x2),!aF x0 x1 x2||(!bk x0 x1 x2||NR x0 x1 x2&&leN 1 (List.length [(-1:Int),(6:Int)])),!aF x0 x1 x2||(bk x0 x1 x2||(!bt x0 x1 x2||NS x0 x1 x2)),!aF x0 x1 x2||(bk x0 x1 x2||(!bt x0 x1 x2||NT x0 x1 x2)),!aF x0 x1 x2||(bk x0 x1 x2||(bt x0 x1 x2||(!rV x0 x1 x2||NR x0 x1 x2&&leN 1 (List.length [(-1:Int),(100000:Int),(100001:Int)])))),aF x0 x1 x2||NQ x0 x1 x2,aF x0 x1 x2||(!bu x0 x1 x2||NU x0 x1 x2&&leN 1 (List.length [(-1:Int),(6:Int)])),aF x0 x1 x2||(bu x0 x1 x2||(!bD x0 x1 x2||NS x0 x1 x2)),aF x0 x1 x2||(bu x0 x1 x2||(!bD x0 x1 x2||NT x0 x1 x2)),aF x0 x1 x2||(bu x0 x1 x2||(bD x0 x1 x2||(!rW x0 x1 x2||NU x0 x1 x2&&leN 1 (List.length [(-1:Int),(100000:Int),(100001:Int)]))))]
end
def Xn:List SV→List Entry→Option Out
 | [.one ⟨false,[.ptr 0 0]⟩],[.box 157 [.ref 1,.val (.int .i64 x0),.val (.int .i64 x1)],.row false 5 (.int .u8) x2]=>some ⟨.one ⟨true,[.val (.int .i64 (Rj x0 x1 x2)),.ref 2,.ref 3,.ref 4,.ref 5,.val (.int .i64 (Rk x0 x1 x2)),.ref 6,.ref 7,.val (.int .i64 (Rl x0 x1 x2))]⟩,[.box 157 [.ref 1,.val (.int .i64 (KI x0 x1 x2)),.val (.int .i64 (KJ x0 x1 x2))],.row false 5 ak9 x2],[.row true 2 aj1 (zN x0 x1 x2),.row true 169 adH (zO x0 x1 x2),.row true 24 ajI (uY x0 x1 x2),.row true 100 adH (zP x0 x1 x2),.row true 173 aej (zQ x0 x1 x2),.row true 176 aej (yy x0 x1 x2)],[Pt x0 x1 x2]⟩
 |_,_=>none
def aiq:PF prog:=PF.ofG prog (T3z [xl,lk,ll,xm,mA,am,ao,Nt]) [ik.F] aO 51 f51 func51 (LOk.fnT (l:= [aH f51 0]) (by kernel_rfl) (.cons aa2 (.nil _))) Xn (by
 intro vs es r h;unfold Xn at h;split at h
 ·cases h;kernel_rfl
 ·cases h)
 attribute [local irreducible] nxA nxS nxV pkA pkS pkV
def alK(n:Nat)(l:List (List Int)):Prop:= ∀ x∈l,x.length≤n
theorem ar6(n:Nat):alK n []:=fun _ h=>by cases h
theorem aoU{n:Nat}{l:List (List Int)}{x:List Int}(h:alK n l)(hx:x.length≤n):alK n (l++ [x]):=fun y hy=>by
 simp only [List.mem_append,List.mem_cons,List.not_mem_nil,or_false]at hy
 rcases hy with hy | rfl
 ·exact h y hy
 ·exact hx
theorem ar5{n:Nat}{l:List (List Int)}{x:List Int}(h:alK n l)(hx:x∈l):x.length≤n:=h x hx
 attribute [local irreducible] alK
theorem Xb(c:List Int)(x:ij)(hx:match x with | (y0,y1,y2,y3,y4,y5)=>y1 - y0≤((500:Nat):Int)∧0≤y0∧(y2.length:Int)=y1∧y1≤500∧aD y3 y4 y5=true∧y5=c):
  eN.fin x=true∧ ∃ j y,eN.res x=(j,y)∧(match y with | (y0,y1,y2,y3,y4,y5)=>(y2.length:Int)≤500∧aD y3 y4 c=true∧c=y5):=by
 refine eN.inv2 (fun k x=>match x with | (y0,y1,y2,y3,y4,y5)=>y1 - y0≤(k:Int)∧0≤y0∧(y2.length:Int)=y1∧y1≤500∧aD y3 y4 y5=true∧y5=c) (fun y=>match y with | (y0,y1,y2,y3,y4,y5)=>(y2.length:Int)≤500∧aD y3 y4 c=true∧c=y5) (fun k x hx=> ?_) (fun x hx=> ?_) 500 x (by omega) hx
 ·obtain⟨y0,y1,y2,y3,y4,y5⟩:=x
  obtain⟨h0,h1,h2,h3,h4,rfl⟩:=hx
  skip
  simp only [eN,Gd,LT.ok,IU,IV,and_true,Id,Ie,Ig,Ih,Ii,Ij,Ik,Il,Im,Bool.or_eq_true,Bool.and_eq_true]
  repeat' (first | refine And.intro ?_ ?_ | intro _)
  all_goals first
   |omega
   |(repeat (first | assumption | apply iB | apply rZ | apply yN | refine Or.inr ?_ | refine And.intro ?_ ?_ | exact trivial | exact uM _ _ | rfl)
     done)
   |((repeat refine Or.inr ?_)
     exact dj (by first | omega | (simp only [S2];omega)))
   |(simp only [S2]
     omega)
   |(repeat' apply qv
     all_goals first | omega | (simp only [S2];omega))
   |(try simp only [S1,WZ,dD,List.length_set]at *
     rw [ar (by omega) (by omega)]
     first | omega | (simp only [S2];omega))
   |(simp only [S1,WZ,dD,List.length_set]at *
     first | omega | (exfalso;omega))
   |(exfalso;simp_all;done)
 ·obtain⟨y0,y1,y2,y3,y4,y5⟩:=x
  obtain⟨h0,h1,h2,h3,h4,rfl⟩:=hx
  skip
  skip
  simp only [eN,Gd,LT.ok,IU,IV,and_true,Id,Ie,Ig,Ih,Ii,Ij,Ik,Il,Im,Bool.or_eq_true,Bool.and_eq_true]
  repeat' (first | refine And.intro ?_ ?_ | intro _)
  all_goals first
   |omega
   |(repeat (first | assumption | apply iB | apply rZ | apply yN | refine Or.inr ?_ | refine And.intro ?_ ?_ | exact trivial | exact uM _ _ | rfl)
     done)
   |((repeat refine Or.inr ?_)
     exact dj (by first | omega | (simp only [S2];omega)))
   |(simp only [S2]
     omega)
   |(repeat' apply qv
     all_goals first | omega | (simp only [S2];omega))
   |(try simp only [S1,WZ,dD,List.length_set]at *
     rw [ar (by omega) (by omega)]
     first | omega | (simp only [S2];omega))
   |(simp only [S1,WZ,dD,List.length_set]at *
     first | omega | (exfalso;omega))
   |(exfalso;simp_all;done)
theorem abd(c:List Int)(x:kr)(hx:match x with | (y0,y1,y2,y3,y4,y5,y6,y7)=>0≤y0∧(y6.length:Int) - y0≤((9:Nat):Int)∧y6.length≤9∧(1≤y1∧y1≤500)∧aD y3 y4 y7=true∧y5.length + (9:Nat)≤9∧alK 500 y5∧y7=c):
  ik.fin x=true∧ ∃ j y,ik.res x=(j,y)∧(match y with | (y0,y1,y2,y3,y4,y5,y6,y7)=>aD y3 y4 c=true∧y5.length≤9∧alK 500 y5∧c=y7):=by
 refine ik.inv2 (fun k x=>match x with | (y0,y1,y2,y3,y4,y5,y6,y7)=>0≤y0∧(y6.length:Int) - y0≤(k:Int)∧y6.length≤9∧(1≤y1∧y1≤500)∧aD y3 y4 y7=true∧y5.length + k≤9∧alK 500 y5∧y7=c) (fun y=>match y with | (y0,y1,y2,y3,y4,y5,y6,y7)=>aD y3 y4 c=true∧y5.length≤9∧alK 500 y5∧c=y7) (fun k x hx=> ?_) (fun x hx=> ?_) 9 x (by omega) hx
 ·obtain⟨y0,y1,y2,y3,y4,y5,y6,y7⟩:=x
  obtain⟨h0,h1,h2,h3,h4,h5,h6,rfl⟩:=hx
  have hs:aD (DF y0 y2 y3 y6 y7) (DG y0 y2 y3 y4 y6 y7) y7=true:=by simp only [DF,DG];exact yN (iB h4) h4
  have hf:=aag y1 2 (by rw [cR (by omega),cR (by omega)];rfl)
  obtain⟨f1,j1,⟨z0,z1,z2,z3,z4,z5⟩,g1,q1,q2,q3⟩:=Xb y7 (DH y0 y1 y2 y3 y4 y6 y7) (by
   simp only [DH]
   refine⟨by omega,by omega,hf.2,by omega,?_⟩
   exact⟨hs,trivial⟩)
  subst q3
  have hr:leI 0 y1=true∧leI y1 500=true:=⟨cR (by omega),cR (by omega)⟩
  have hl:(bif oA y0 y2 y3 y4 y6 y7 then z2 else jm y1 2).length≤500:=qv (by omega) (by omega)
  have e9:aD (LY y0 y1 y2 y3 y4 y6 y7) (KK y0 y1 y2 y3 y4 y6 y7) y7=true:=by
   simp only [LY,KK,KL,DI,g1]
   exact yN q2 hs
  have e6:xW y0 y1 y2 y3 y4 y6 y7= [bif oA y0 y2 y3 y4 y6 y7 then z2 else jm y1 2]:=by simp only [xW,DI,g1]
  simp only [ik,Ky,LT.ok,IU,IV,and_true,FX,TT,TU,TV,TW,TX,TY,TZ,Ua,Tm,Tn,Bool.cond_self,f1,e6,Bool.or_eq_true,Bool.and_eq_true]
  repeat' (first | refine And.intro ?_ ?_ | intro _)
  all_goals first
   |exact aoU h6 hl
   |exact e9
   |exact hr.1
   |exact hr.2
   |omega
   |(repeat (first | assumption | apply iB | apply rZ | apply yN | refine Or.inr ?_ | refine And.intro ?_ ?_ | exact trivial | exact uM _ _ | rfl | exact iB h4 | exact h4)
     done)
   |((repeat refine Or.inr ?_)
     exact dj (by first | omega | (simp only [S2];omega)))
   |(simp only [S2]
     omega)
   |(repeat' apply qv
     all_goals first | omega | (simp only [S2];omega))
   |(try simp only [S1,WZ,dD,List.length_set]at *
     rw [ar (by omega) (by omega)]
     first | omega | (simp only [S2];omega))
   |(simp only [S1,WZ,dD,List.length_set]at *
     first | omega | (exfalso;omega))
   |(exfalso;simp_all;done)
 ·obtain⟨y0,y1,y2,y3,y4,y5,y6,y7⟩:=x
  obtain⟨h0,h1,h2,h3,h4,h5,h6,rfl⟩:=hx
  have e0:ltI y0 (y6.length:Int)=false:=ai9 (by omega)
  simp only [ik,Ky,LT.ok,FX,e0,Bool.false_eq_true,false_implies,true_implies,true_and,and_true]
  exact⟨h4,by omega,h6⟩
theorem TS(a s:Int)(c:List Int)(h:aD a s c=true):Pt a s c=true∧aD (KI a s c) (KJ a s c) c=true∧
  uD 1000000 (zN a s c) (zO a s c) (uY a s c) (zP a s c) (zQ a s c) (yy a s c)=true:=by
 obtain⟨_,d1,d2⟩:=ame a s c h
 have s1:aD (nxA 3 (nk a s c) c) (De a s c) c=true:=iB d1
 have n1:=ace (n:=3) d1 (by omega)
 have r0:tw a s c=1 + nxV 3 (nk a s c) (BE a s c) c:=by simp only [tw];exact ar (by omega) (by omega)
 obtain⟨_,d3,d4⟩:=ahg (kn a s c) _ _ c s1
 have s2:aD (Df a s c) (Dg a s c) c=true:=d3
 obtain⟨_,d5,d6⟩:=RT (tw a s c) _ _ c s2
 have s3:aD (mT a s c) (IP a s c) c=true:=d5
 have s4:aD (nxA 6 (mT a s c) c) (IQ a s c) c=true:=iB s3
 have s5:aD (Di a s c) (IR a s c) c=true:=rZ s4
 obtain⟨f0,j0,⟨z0,z1,z2,z3,z4,z5,z6,z7⟩,g0,q1,q2,q3,q4⟩:=abd c (Hy a s c) (by
  simp only [Hy]
  exact⟨by omega,by omega,d2,by omega,iB s5,by simp,ar6 _,trivial⟩)
 subst q4
 have e12:wl a s c=z3:=by simp only [wl,wj,g0]
 have e14:BJ a s c=z4:=by simp only [BJ,BI,wj,g0]
 have e16:aq a s c=c:=by simp only [aq,Hz,BI,wj,g0]
 have e39:lC a s c=z5:=by simp only [lC,Hz,BI,wj,g0]
 have s6:aD (lz a s c) (nZ a s c) c=true:=by simp only [lz,nZ,e12,e14,e16];exact iB q1
 obtain⟨_,d7,d8⟩:=aaf _ _ c s6
 have s7:aD (wm a s c) (wn a s c) c=true:=by simp only [wm,wn,e16];exact d7
 obtain⟨_,d9,d10⟩:=Tj _ _ c s7
 have s8:aD (wo a s c) (BK a s c) c=true:=by simp only [wo,BK,e16];exact d9
 have s9:aD (iz a s c) (lA a s c) c=true:=by simp only [iz,lA,e16];exact iB s8
 have s10:aD (iA a s c) (lB a s c) c=true:=by simp only [iA,lB,e16];exact iB s6
 have l5:z5.length≤9:=q2
 refine⟨?_,?_,?_⟩
 ·have k1:leN (z5.length + [[(2:Int)]].length) 9223372036854775807=true:=dj (by simp only [List.length_cons,List.length_nil];omega)
  have k2:leN ((z5.length + [[(2:Int)]].length) * 24) 140737488355328=true:=dj (by simp only [List.length_cons,List.length_nil];omega)
  have s11:aD z3 z4 c=true:=q1
  simp only [Pt,NQ,NR,NS,NT,NU,Dh,e12,e14,e16,e39,h,d1,s1,s2,s3,s4,s5,s6,s7,s8,s9,s10,s11,f0,k1,k2,uM,allT,Bool.or_true,Bool.and_self,cond_true]
 ·simp only [KI,KJ,e16]
  cases aF a s c <;> cases bk a s c <;> cases bt a s c <;> cases rV a s c <;> cases bu a s c <;> cases bD a s c <;> cases rW a s c <;> first | exact s9 | exact s10 | exact rZ s9 | exact rZ s10
 ·have m0:alK 500 (wu a s c):=by simp only [wu,e39];exact aoU q3 (by simp)
  have m1:(wu a s c).length≤10:=by simp only [wu,e39,List.length_append,List.length_cons,List.length_nil];omega
  have m2:(uY a s c).length≤10∧alK 500 (uY a s c):=by
   simp only [uY,e39]
   cases aF a s c <;> cases bk a s c <;> cases bt a s c <;> cases bu a s c <;> cases bD a s c <;> (simp only [cond_true,cond_false];first | exact⟨by omega,q3⟩ | exact⟨m1,m0⟩)
  have m3:(zN a s c).length≤20:=by
   simp only [zN]
   cases aF a s c <;> cases bk a s c <;> cases bt a s c <;> cases bu a s c <;> cases bD a s c <;> (simp only [cond_true,cond_false];omega)
  have m4:(zO a s c).length≤20:=by
   have d4':(rX a s c).length≤15:=d4
   simp only [zO]
   cases aF a s c <;> cases bk a s c <;> cases bt a s c <;> cases bu a s c <;> cases bD a s c <;> (simp only [cond_true,cond_false];omega)
  have m5:(zP a s c).length≤20:=by
   have d6':(rY a s c).length≤20:=d6
   simp only [zP]
   cases aF a s c <;> cases bk a s c <;> cases bt a s c <;> cases bu a s c <;> cases bD a s c <;> (simp only [cond_true,cond_false];omega)
  have m6:(zQ a s c).length≤20:=by
   have d8':(BL a s c).length≤20:=by simp only [BL,e16];exact d8
   simp only [zQ,HA]
   cases aF a s c <;> cases bk a s c <;> cases bt a s c <;> cases bu a s c <;> cases bD a s c <;> (simp only [cond_true,cond_false,List.length_nil];omega)
  have m7:(yy a s c).length≤20:=by
   have d10':(BM a s c).length≤20:=by simp only [BM,e16];exact d10
   simp only [yy,HA]
   cases aF a s c <;> cases bk a s c <;> cases bt a s c <;> cases bu a s c <;> cases bD a s c <;> (simp only [cond_true,cond_false,List.length_nil];omega)
  have m8:=m2.2
  refine OA.2 ⟨by omega,by omega,⟨by omega,fun x hx=> ?_⟩,by omega,by omega,by omega⟩
  have:=ar5 m8 hx
  omega
def Xq:List SV→List Entry→Option Out
 | [.one ⟨false,[.ptr 0 0]⟩],[.box 157 [.ref 1,.val (.int .i64 x0),.val (.int .i64 x1)],.row false 5 (.int .u8) x2]=>some ⟨.one ⟨true,[.val (.int .i64 (Rj x0 x1 x2)),.ref 2,.ref 3,.ref 4,.ref 5,.val (.int .i64 (Rk x0 x1 x2)),.ref 6,.ref 7,.val (.int .i64 (Rl x0 x1 x2))]⟩,[.box 157 [.ref 1,.val (.int .i64 (KI x0 x1 x2)),.val (.int .i64 (KJ x0 x1 x2))],.row false 5 ak9 x2],[.row true 2 aj1 (zN x0 x1 x2),.row true 169 adH (zO x0 x1 x2),.row true 24 ajI (uY x0 x1 x2),.row true 100 adH (zP x0 x1 x2),.row true 173 aej (zQ x0 x1 x2),.row true 176 aej (yy x0 x1 x2)],[aD x0 x1 x2]⟩
 |_,_=>none
def QL:PF prog:=PF.alt aiq Xq (by
 intro args es o h bE;unfold Xq at h;split at h
 ·rename_i x0 x1 x2
  cases h
  have bE:=jW bE
  have hh:=(TS x0 x1 x2 bE).1
  have en:=hh
  exact nO rfl (iY en) rfl rfl rfl
 ·cases h)
end Go.SX
namespace Go.SX
open Go.Proofs Go.Proofs.Tryz
set_option maxRecDepth 100000
def lK(x0:List Int):Bool:=ltI 4096 (↑x0.length:Int)
def alI:List SV→List Entry→Option Out
 | [.one ⟨false,[.ref 0]⟩],[.row false 5 (.int .u8) x0]=>some ⟨.one ⟨false,[.val (.bool (lK x0))]⟩,[.row false 5 ak9 x0],[],[]⟩
 |_,_=>none
def aip:PF prog:=PF.ofG prog [] [] aO 10 f10 func10 (fun c _=>LOk.nil c) alI (by
 intro vs es r h;unfold alI at h;split at h
 ·cases h;kernel_rfl
 ·cases h)
def CL(x0 x1:Int)(x2 x3:List Int):Bool:=bif x0==x1 then eqL x2 x3 else false
def II(x0 x1:Int)(x2:List Int):Bool:=allT [!(x0==x1&&true)||leN x2.length (9223372036854775807:Nat)]
def Wt:List SV→List Entry→Option Out
 | [.one ⟨true,[.val (.int .i64 x0),.ref 0]⟩,.one ⟨true,[.val (.int .i64 x1),.ref 1]⟩],[.row false 2 (.int .i64) x2,.row false 2 (.int .i64) x3]=>some ⟨.one ⟨false,[.val (.bool (CL x0 x1 x2 x3))]⟩,[.row false 2 aj1 x2,.row false 2 aj1 x3],[],[II x0 x1 x2]⟩
 |_,_=>none
def mB:PF prog:=PF.ofG prog (T3z [mV]) [] aO 58 f58 func58 (fun c _=>LOk.nil c) Wt (by
 intro vs es r h;unfold Wt at h;split at h
 ·cases h;kernel_rfl
 ·cases h)
abbrev iQ:=Int×List (Int×(Int×Int))×List (Int×(Int×Int))
section
variable (y0:Int)(y1 y2:List (Int×(Int×Int)))
def og:Int×Int×Int:=Option.getD y1[Int.toNat y0]? ((0:Int),(0:Int),(0:Int))
def oh:Int×Int×Int:=Option.getD y2[Int.toNat y0]? ((0:Int),(0:Int),(0:Int))
def tJ:Bool:=ltI y0 (↑y1.length:Int)
def tK:Bool:=leI 0 y0
def zb:Bool:=ltN y0.toNat y1.length
def zc:Bool:=ltI y0 (↑y2.length:Int)
def zd:Bool:=ltN y0.toNat y2.length
def ze:Bool:= !bif (og y0 y1).1==(oh y0 y2).1then bif ((og y0 y1).2).1==((oh y0 y2).2).1then bif (og y0 y1).2.2==(oh y0 y2).2.2then true else false else false else false
def zf:Int:=IntKind.wrap .i64 (y0 + (1:Int))
end
def acC:iQ→List (Nat×SV)
 |(y0,_,_)=> [(5,(.one ⟨false,[.val (.int .i64 y0)]⟩)),(0,(.one ⟨false,[.ref 0]⟩)),(1,(.one ⟨false,[.ref 1]⟩))]
def acA:iQ→List (Nat×Entry)
 |(_,y1,y2)=> [(0,(.row false 169 adH y1)),(1,(.row false 169 adH y2))]
def acG:Nat→iQ→List (Nat×SV)
 |0,(_,_,_)=> [(4,(.one ⟨false,[.val (.bool false)]⟩))]
 |_,(_,_,_)=> []
def acE:Nat→iQ→List (Nat×Entry)
 |0,(_,y1,y2)=> [(0,(.row false 169 adH y1)),(1,(.row false 169 adH y2))]
 |_,(_,y1,y2)=> [(0,(.row false 169 adH y1)),(1,(.row false 169 adH y2))]
def xh:iQ→LT iQ
 |(y0,y1,y2)=> .ite (tJ y0 y1) (.need [tK y0,tJ y0 y1,zb y0 y1,tK y0,zc y0 y2,zd y0 y2] (.ite (ze y0 y1 y2) (.ext 0 [(0,0),(1,1)]) (.nrm ((zf y0),y1,y2) [(0,0),(1,1)]))) (.ext 1 [(0,0),(1,1)])
def KB(s:St):Option iQ:=
 (match s.look 5 with
 |some ⟨none,.one ⟨false,[.val (.int .i64 y0)]⟩⟩=>
 (match s.look 0 with
 |some ⟨none,.one ⟨false,[.ref 0]⟩⟩=>
 (match s.look 1 with
 |some ⟨none,.one ⟨false,[.ref 1]⟩⟩=>
 (match s.ent 0 with
 |some (.row false 169 (.pair (.int .i64) (.pair (.int .i64) (.int .i64))) y1)=>
 (match s.ent 1 with
 |some (.row false 169 (.pair (.int .i64) (.pair (.int .i64) (.int .i64))) y2)=>
 some (y0,y1,y2)
 |_=>none)
 |_=>none)
 |_=>none)
 |_=>none)
 |_=>none)
def cM:Lp iQ where
 h:=⟨[11,12,13,14,17,18,19,20,21,22,23,24,25,4,15,16,5],[0,1],[],[]⟩
 JL:=acC
 JE:=acA
 XL:=acG
 XE:=acE
 q:=fun j=>match j with | 0=> .ret | _=> .exit 0
 tags:= [0,1]
 lt:=xh
 fuel:=fun(y0,y1,y2)=>y0.natAbs + y1.length + y2.length
 fix:=fun(_,y1,y2) (y0,_,_)=>(y0,y1,y2)
 σ:= [(0,0),(1,1)]
 rd:=KB
theorem aa1:LoopOk prog (fun k=>Nat.blt k Tryz.f59.ntmps) cM.F (aH f59 0):=by
 refine Lp.ok (tbl:= []) (lf:= []) aO cM (by kernel_rfl) (LOk.nil _) (fun _=>rfl) (fun j _=>by unfold cM;match j with | 0=>rfl | _ + 1=>rfl) ?_ ?_ ?_ ?_ (fun _=>rfl) ?_
 ·rintro⟨y0,y1,y2⟩;kernel_rfl
 ·rintro⟨y0,y1,y2⟩;kernel_rfl
 ·intro s x h
  have h:KB s=some x:=h
  unfold KB at h
  repeat' split at h
  all_goals cases h
  constructor<;>repeat(first|refine ae (by assumption) rfl ?_|refine af rfl (by assumption) rfl ?_|exact rfl)
 ·rintro⟨y0,y1,y2⟩;kernel_rfl
 ·rintro⟨y0,y1,y2⟩ z;exact(And.intro (And.intro trivial rfl) trivial)
section
variable (x0 x1:List (Int×Int×Int))
def CJ:Bool:=(↑x0.length:Int)!=(↑x1.length:Int)
def IH:Int×List (Int×Int×Int)×List (Int×Int×Int):=((0:Int),x0,x1)
def Kt:Bool:=bif CJ x0 x1 then false else bif Nat.beq ((Lp.res cM (IH x0 x1)).1) 0 then false else true
def Fd:Bool:=allT [CJ x0 x1||Lp.fin cM (IH x0 x1)]
end
def Xl:List SV→List Entry→Option Out
 | [.one ⟨false,[.ref 0]⟩,.one ⟨false,[.ref 1]⟩],[.row false 169 (.pair (.int .i64) (.pair (.int .i64) (.int .i64))) x0,.row false 169 (.pair (.int .i64) (.pair (.int .i64) (.int .i64))) x1]=>some ⟨.one ⟨false,[.val (.bool (Kt x0 x1))]⟩,[.row false 169 adH x0,.row false 169 adH x1],[],[Fd x0 x1]⟩
 |_,_=>none
def oj:PF prog:=PF.ofG prog [] [cM.F] aO 59 f59 func59 (LOk.fnT (l:= [aH f59 0]) (by kernel_rfl) (.cons aa1 (.nil _))) Xl (by
 intro vs es r h;unfold Xl at h;split at h
 ·cases h;kernel_rfl
 ·cases h)
abbrev jG:=Int×List (Int×Int)×List (Int×Int)
section
variable (y0:Int)(y1 y2:List (Int×Int))
def tO:Int×Int:=Option.getD y1[Int.toNat y0]? ((0:Int),(0:Int))
def tP:Int×Int:=Option.getD y2[Int.toNat y0]? ((0:Int),(0:Int))
def vF:Bool:=ltI y0 (↑y1.length:Int)
def vG:Bool:=leI 0 y0
def Bp:Bool:=ltN y0.toNat y1.length
def Bq:Bool:=ltI y0 (↑y2.length:Int)
def Br:Bool:=ltN y0.toNat y2.length
def Bs:Bool:= !bif (tO y0 y1).1==(tP y0 y2).1then bif (tO y0 y1).2==(tP y0 y2).2then true else false else false
def Bt:Int:=IntKind.wrap .i64 (y0 + (1:Int))
end
def ad6:jG→List (Nat×SV)
 |(y0,_,_)=> [(5,(.one ⟨false,[.val (.int .i64 y0)]⟩)),(0,(.one ⟨false,[.ref 0]⟩)),(1,(.one ⟨false,[.ref 1]⟩))]
def ad0:jG→List (Nat×Entry)
 |(_,y1,y2)=> [(0,(.row false 173 aej y1)),(1,(.row false 173 aej y2))]
def aei:Nat→jG→List (Nat×SV)
 |0,(_,_,_)=> [(4,(.one ⟨false,[.val (.bool false)]⟩))]
 |_,(_,_,_)=> []
def aec:Nat→jG→List (Nat×Entry)
 |0,(_,y1,y2)=> [(0,(.row false 173 aej y1)),(1,(.row false 173 aej y2))]
 |_,(_,y1,y2)=> [(0,(.row false 173 aej y1)),(1,(.row false 173 aej y2))]
def zl:jG→LT jG
 |(y0,y1,y2)=> .ite (vF y0 y1) (.need [vG y0,vF y0 y1,Bp y0 y1,vG y0,Bq y0 y2,Br y0 y2] (.ite (Bs y0 y1 y2) (.ext 0 [(0,0),(1,1)]) (.nrm ((Bt y0),y1,y2) [(0,0),(1,1)]))) (.ext 1 [(0,0),(1,1)])
def LW(s:St):Option jG:=
 (match s.look 5 with
 |some ⟨none,.one ⟨false,[.val (.int .i64 y0)]⟩⟩=>
 (match s.look 0 with
 |some ⟨none,.one ⟨false,[.ref 0]⟩⟩=>
 (match s.look 1 with
 |some ⟨none,.one ⟨false,[.ref 1]⟩⟩=>
 (match s.ent 0 with
 |some (.row false 173 (.pair (.int .i64) (.int .i64)) y1)=>
 (match s.ent 1 with
 |some (.row false 173 (.pair (.int .i64) (.int .i64)) y2)=>
 some (y0,y1,y2)
 |_=>none)
 |_=>none)
 |_=>none)
 |_=>none)
 |_=>none)
def dg:Lp jG where
 h:=⟨[11,12,13,14,17,18,19,20,21,22,23,24,25,4,15,16,5],[0,1],[],[]⟩
 JL:=ad6
 JE:=ad0
 XL:=aei
 XE:=aec
 q:=fun j=>match j with | 0=> .ret | _=> .exit 0
 tags:= [0,1]
 lt:=zl
 fuel:=fun(y0,y1,y2)=>y0.natAbs + y1.length + y2.length
 fix:=fun(_,y1,y2) (y0,_,_)=>(y0,y1,y2)
 σ:= [(0,0),(1,1)]
 rd:=LW
theorem aca:LoopOk prog (fun k=>Nat.blt k Tryz.f60.ntmps) dg.F (aH f60 0):=by
 refine Lp.ok (tbl:= []) (lf:= []) aO dg (by kernel_rfl) (LOk.nil _) (fun _=>rfl) (fun j _=>by unfold dg;match j with | 0=>rfl | _ + 1=>rfl) ?_ ?_ ?_ ?_ (fun _=>rfl) ?_
 ·rintro⟨y0,y1,y2⟩;kernel_rfl
 ·rintro⟨y0,y1,y2⟩;kernel_rfl
 ·intro s x h
  have h:LW s=some x:=h
  unfold LW at h
  repeat' split at h
  all_goals cases h
  constructor<;>repeat(first|refine ae (by assumption) rfl ?_|refine af rfl (by assumption) rfl ?_|exact rfl)
 ·rintro⟨y0,y1,y2⟩;kernel_rfl
 ·rintro⟨y0,y1,y2⟩ z;exact(And.intro (And.intro trivial rfl) trivial)
section
variable (x0 x1:List (Int×Int))
def Fk:Bool:=(↑x0.length:Int)!=(↑x1.length:Int)
def Kv:Int×List (Int×Int)×List (Int×Int):=((0:Int),x0,x1)
def Mj:Bool:=bif Fk x0 x1 then false else bif Nat.beq ((Lp.res dg (Kv x0 x1)).1) 0 then false else true
def GV:Bool:=allT [Fk x0 x1||Lp.fin dg (Kv x0 x1)]
end
def ZA:List SV→List Entry→Option Out
 | [.one ⟨false,[.ref 0]⟩,.one ⟨false,[.ref 1]⟩],[.row false 173 (.pair (.int .i64) (.int .i64)) x0,.row false 173 (.pair (.int .i64) (.int .i64)) x1]=>some ⟨.one ⟨false,[.val (.bool (Mj x0 x1))]⟩,[.row false 173 aej x0,.row false 173 aej x1],[],[GV x0 x1]⟩
 |_,_=>none
def qf:PF prog:=PF.ofG prog [] [dg.F] aO 60 f60 func60 (LOk.fnT (l:= [aH f60 0]) (by kernel_rfl) (.cons aca (.nil _))) ZA (by
 intro vs es r h;unfold ZA at h;split at h
 ·cases h;kernel_rfl
 ·cases h)
abbrev jD:=Int×List (Int×Int)×List (Int×Int)
section
variable (y0:Int)(y1 y2:List (Int×Int))
def tL:Int×Int:=Option.getD y1[Int.toNat y0]? ((0:Int),(0:Int))
def tM:Int×Int:=Option.getD y2[Int.toNat y0]? ((0:Int),(0:Int))
def vz:Bool:=ltI y0 (↑y1.length:Int)
def vA:Bool:=leI 0 y0
def AZ:Bool:=ltN y0.toNat y1.length
def Ba:Bool:=ltI y0 (↑y2.length:Int)
def Bb:Bool:=ltN y0.toNat y2.length
def Bc:Bool:= !bif (tL y0 y1).1==(tM y0 y2).1then bif (tL y0 y1).2==(tM y0 y2).2then true else false else false
def Bd:Int:=IntKind.wrap .i64 (y0 + (1:Int))
end
def ad3:jD→List (Nat×SV)
 |(y0,_,_)=> [(5,(.one ⟨false,[.val (.int .i64 y0)]⟩)),(0,(.one ⟨false,[.ref 0]⟩)),(1,(.one ⟨false,[.ref 1]⟩))]
def adX:jD→List (Nat×Entry)
 |(_,y1,y2)=> [(0,(.row false 176 aej y1)),(1,(.row false 176 aej y2))]
def aef:Nat→jD→List (Nat×SV)
 |0,(_,_,_)=> [(4,(.one ⟨false,[.val (.bool false)]⟩))]
 |_,(_,_,_)=> []
def ad9:Nat→jD→List (Nat×Entry)
 |0,(_,y1,y2)=> [(0,(.row false 176 aej y1)),(1,(.row false 176 aej y2))]
 |_,(_,y1,y2)=> [(0,(.row false 176 aej y1)),(1,(.row false 176 aej y2))]
def zi:jD→LT jD
 |(y0,y1,y2)=> .ite (vz y0 y1) (.need [vA y0,vz y0 y1,AZ y0 y1,vA y0,Ba y0 y2,Bb y0 y2] (.ite (Bc y0 y1 y2) (.ext 0 [(0,0),(1,1)]) (.nrm ((Bd y0),y1,y2) [(0,0),(1,1)]))) (.ext 1 [(0,0),(1,1)])
def LS(s:St):Option jD:=
 (match s.look 5 with
 |some ⟨none,.one ⟨false,[.val (.int .i64 y0)]⟩⟩=>
 (match s.look 0 with
 |some ⟨none,.one ⟨false,[.ref 0]⟩⟩=>
 (match s.look 1 with
 |some ⟨none,.one ⟨false,[.ref 1]⟩⟩=>
 (match s.ent 0 with
 |some (.row false 176 (.pair (.int .i64) (.int .i64)) y1)=>
 (match s.ent 1 with
 |some (.row false 176 (.pair (.int .i64) (.int .i64)) y2)=>
 some (y0,y1,y2)
 |_=>none)
 |_=>none)
 |_=>none)
 |_=>none)
 |_=>none)
def dd:Lp jD where
 h:=⟨[11,12,13,14,17,18,19,20,21,22,23,24,25,4,15,16,5],[0,1],[],[]⟩
 JL:=ad3
 JE:=adX
 XL:=aef
 XE:=ad9
 q:=fun j=>match j with | 0=> .ret | _=> .exit 0
 tags:= [0,1]
 lt:=zi
 fuel:=fun(y0,y1,y2)=>y0.natAbs + y1.length + y2.length
 fix:=fun(_,y1,y2) (y0,_,_)=>(y0,y1,y2)
 σ:= [(0,0),(1,1)]
 rd:=LS
theorem ab7:LoopOk prog (fun k=>Nat.blt k Tryz.f61.ntmps) dd.F (aH f61 0):=by
 refine Lp.ok (tbl:= []) (lf:= []) aO dd (by kernel_rfl) (LOk.nil _) (fun _=>rfl) (fun j _=>by unfold dd;match j with | 0=>rfl | _ + 1=>rfl) ?_ ?_ ?_ ?_ (fun _=>rfl) ?_
 ·rintro⟨y0,y1,y2⟩;kernel_rfl
 ·rintro⟨y0,y1,y2⟩;kernel_rfl
 ·intro s x h
  have h:LS s=some x:=h
  unfold LS at h
  repeat' split at h
  all_goals cases h
  constructor<;>repeat(first|refine ae (by assumption) rfl ?_|refine af rfl (by assumption) rfl ?_|exact rfl)
 ·rintro⟨y0,y1,y2⟩;kernel_rfl
 ·rintro⟨y0,y1,y2⟩ z;exact(And.intro (And.intro trivial rfl) trivial)
section
variable (x0 x1:List (Int×Int))
def Fj:Bool:=(↑x0.length:Int)!=(↑x1.length:Int)
def Ku:Int×List (Int×Int)×List (Int×Int):=((0:Int),x0,x1)
def Mh:Bool:=bif Fj x0 x1 then false else bif Nat.beq ((Lp.res dd (Ku x0 x1)).1) 0 then false else true
def GU:Bool:=allT [Fj x0 x1||Lp.fin dd (Ku x0 x1)]
end
def Zy:List SV→List Entry→Option Out
 | [.one ⟨false,[.ref 0]⟩,.one ⟨false,[.ref 1]⟩],[.row false 176 (.pair (.int .i64) (.int .i64)) x0,.row false 176 (.pair (.int .i64) (.int .i64)) x1]=>some ⟨.one ⟨false,[.val (.bool (Mh x0 x1))]⟩,[.row false 176 aej x0,.row false 176 aej x1],[],[GU x0 x1]⟩
 |_,_=>none
def qe:PF prog:=PF.ofG prog [] [dd.F] aO 61 f61 func61 (LOk.fnT (l:= [aH f61 0]) (by kernel_rfl) (.cons ab7 (.nil _))) Zy (by
 intro vs es r h;unfold Zy at h;split at h
 ·cases h;kernel_rfl
 ·cases h)
abbrev jE:=Int×Int×Int×Int×Int×Int×Int×List Int×List (Int×(Int×Int))×List (List Int)×List (Int×(Int×Int))×List (Int×Int)×List (Int×Int)×List Int×List (Int×(Int×Int))×List (List Int)×List (Int×(Int×Int))×List (Int×Int)×List (Int×Int)
section
variable (y0:Int)(y9 y15:List (List Int))
def tN:List Int:=Option.getD y9[Int.toNat y0]? (vf ajI)
def vB:Bool:=ltI y0 (↑y9.length:Int)
def vC:Bool:=leI 0 y0
def Be:Bool:=ltN y0.toNat y9.length
def Bf:Bool:=ltI y0 (↑y15.length:Int)
def Bg:Bool:=ltN y0.toNat y15.length
def Bh:Bool:=leN (List.length (tN y0 y9)) 9223372036854775807
def Bi:Bool:= !eqL (tN y0 y9) (Option.getD y15[Int.toNat y0]? (vf ajI))
def Bj:Int:=IntKind.wrap .i64 (y0 + (1:Int))
end
def ad4:jE→List (Nat×SV)
 |(y0,_,_,_,_,_,_,_,_,_,_,_,_,_,_,_,_,_,_)=> [(5,(.one ⟨false,[.val (.int .i64 y0)]⟩)),(2,(.one ⟨false,[.ptr 0 0]⟩)),(3,(.one ⟨false,[.ptr 1 0]⟩))]
def adY:jE→List (Nat×Entry)
 |(_,y1,y2,y3,y4,y5,y6,y7,y8,y9,y10,y11,y12,y13,y14,y15,y16,y17,y18)=> [(0,(.box 33 [.val (.int .i64 y1),.ref 2,.ref 3,.ref 4,.ref 5,.val (.int .i64 y2),.ref 6,.ref 7,.val (.int .i64 y3)])),(1,(.box 33 [.val (.int .i64 y4),.ref 8,.ref 9,.ref 10,.ref 11,.val (.int .i64 y5),.ref 12,.ref 13,.val (.int .i64 y6)])),(2,(.row false 2 aj1 y7)),(3,(.row false 169 adH y8)),(4,(.row false 24 ajI y9)),(5,(.row false 100 adH y10)),(6,(.row false 173 aej y11)),(7,(.row false 176 aej y12)),(8,(.row false 2 aj1 y13)),(9,(.row false 169 adH y14)),(10,(.row false 24 ajI y15)),(11,(.row false 100 adH y16)),(12,(.row false 173 aej y17)),(13,(.row false 176 aej y18))]
def aeg:Nat→jE→List (Nat×SV)
 |0,(_,_,_,_,_,_,_,_,_,_,_,_,_,_,_,_,_,_,_)=> [(4,(.one ⟨false,[.val (.bool false)]⟩))]
 |_,(_,_,_,_,_,_,_,_,_,_,_,_,_,_,_,_,_,_,_)=> []
def aea:Nat→jE→List (Nat×Entry)
 |0,(_,y1,y2,y3,y4,y5,y6,y7,y8,y9,y10,y11,y12,y13,y14,y15,y16,y17,y18)=> [(0,(.box 33 [.val (.int .i64 y1),.ref 2,.ref 3,.ref 4,.ref 5,.val (.int .i64 y2),.ref 6,.ref 7,.val (.int .i64 y3)])),(1,(.box 33 [.val (.int .i64 y4),.ref 8,.ref 9,.ref 10,.ref 11,.val (.int .i64 y5),.ref 12,.ref 13,.val (.int .i64 y6)])),(2,(.row false 2 aj1 y7)),(3,(.row false 169 adH y8)),(4,(.row false 24 ajI y9)),(5,(.row false 100 adH y10)),(6,(.row false 173 aej y11)),(7,(.row false 176 aej y12)),(8,(.row false 2 aj1 y13)),(9,(.row false 169 adH y14)),(10,(.row false 24 ajI y15)),(11,(.row false 100 adH y16)),(12,(.row false 173 aej y17)),(13,(.row false 176 aej y18))]
 |_,(_,y1,y2,y3,y4,y5,y6,y7,y8,y9,y10,y11,y12,y13,y14,y15,y16,y17,y18)=> [(0,(.box 33 [.val (.int .i64 y1),.ref 2,.ref 3,.ref 4,.ref 5,.val (.int .i64 y2),.ref 6,.ref 7,.val (.int .i64 y3)])),(1,(.box 33 [.val (.int .i64 y4),.ref 8,.ref 9,.ref 10,.ref 11,.val (.int .i64 y5),.ref 12,.ref 13,.val (.int .i64 y6)])),(2,(.row false 2 aj1 y7)),(3,(.row false 169 adH y8)),(4,(.row false 24 ajI y9)),(5,(.row false 100 adH y10)),(6,(.row false 173 aej y11)),(7,(.row false 176 aej y12)),(8,(.row false 2 aj1 y13)),(9,(.row false 169 adH y14)),(10,(.row false 24 ajI y15)),(11,(.row false 100 adH y16)),(12,(.row false 173 aej y17)),(13,(.row false 176 aej y18))]
def zj:jE→LT jE
 |(y0,y1,y2,y3,y4,y5,y6,y7,y8,y9,y10,y11,y12,y13,y14,y15,y16,y17,y18)=> .ite (vB y0 y9) (.need [vC y0,vB y0 y9,Be y0 y9,vC y0,Bf y0 y15,Bg y0 y15,Bh y0 y9] (.ite (Bi y0 y9 y15) (.ext 0 [(0,0),(1,1),(2,2),(3,3),(4,4),(5,5),(6,6),(7,7),(8,8),(9,9),(10,10),(11,11),(12,12),(13,13)]) (.nrm ((Bj y0),y1,y2,y3,y4,y5,y6,y7,y8,y9,y10,y11,y12,y13,y14,y15,y16,y17,y18) [(0,0),(1,1),(2,2),(3,3),(4,4),(5,5),(6,6),(7,7),(8,8),(9,9),(10,10),(11,11),(12,12),(13,13)]))) (.ext 1 [(0,0),(1,1),(2,2),(3,3),(4,4),(5,5),(6,6),(7,7),(8,8),(9,9),(10,10),(11,11),(12,12),(13,13)])
def LU(s:St):Option jE:=
 (match s.look 5 with
 |some ⟨none,.one ⟨false,[.val (.int .i64 y0)]⟩⟩=>
 (match s.look 2 with
 |some ⟨none,.one ⟨false,[.ptr 832 0]⟩⟩=>
 (match s.look 3 with
 |some ⟨none,.one ⟨false,[.ptr 896 0]⟩⟩=>
 (match s.ent 832 with
 |some (.box 33 [.val (.int .i64 y1),.ref 0,.ref 1,.ref 2,.ref 3,.val (.int .i64 y2),.ref 4,.ref 5,.val (.int .i64 y3)])=>
 (match s.ent 896 with
 |some (.box 33 [.val (.int .i64 y4),.ref 6,.ref 7,.ref 8,.ref 9,.val (.int .i64 y5),.ref 10,.ref 11,.val (.int .i64 y6)])=>
 (match s.ent 0 with
 |some (.row false 2 (.int .i64) y7)=>
 (match s.ent 1 with
 |some (.row false 169 (.pair (.int .i64) (.pair (.int .i64) (.int .i64))) y8)=>
 (match s.ent 2 with
 |some (.row false 24 (.sl 2 (.int .i64)) y9)=>
 (match s.ent 3 with
 |some (.row false 100 (.pair (.int .i64) (.pair (.int .i64) (.int .i64))) y10)=>
 (match s.ent 4 with
 |some (.row false 173 (.pair (.int .i64) (.int .i64)) y11)=>
 (match s.ent 5 with
 |some (.row false 176 (.pair (.int .i64) (.int .i64)) y12)=>
 (match s.ent 6 with
 |some (.row false 2 (.int .i64) y13)=>
 (match s.ent 7 with
 |some (.row false 169 (.pair (.int .i64) (.pair (.int .i64) (.int .i64))) y14)=>
 (match s.ent 8 with
 |some (.row false 24 (.sl 2 (.int .i64)) y15)=>
 (match s.ent 9 with
 |some (.row false 100 (.pair (.int .i64) (.pair (.int .i64) (.int .i64))) y16)=>
 (match s.ent 10 with
 |some (.row false 173 (.pair (.int .i64) (.int .i64)) y17)=>
 (match s.ent 11 with
 |some (.row false 176 (.pair (.int .i64) (.int .i64)) y18)=>
 some (y0,y1,y2,y3,y4,y5,y6,y7,y8,y9,y10,y11,y12,y13,y14,y15,y16,y17,y18)
 |_=>none)
 |_=>none)
 |_=>none)
 |_=>none)
 |_=>none)
 |_=>none)
 |_=>none)
 |_=>none)
 |_=>none)
 |_=>none)
 |_=>none)
 |_=>none)
 |_=>none)
 |_=>none)
 |_=>none)
 |_=>none)
 |_=>none)
def de:Lp jE where
 h:=⟨[23,24,25,26,27,30,31,32,33,34,35,36,37,38,39,40,41,4,28,29,5],[0,1,2,3,4,5,6,7,8,9,10,11,12,13],[],[]⟩
 JL:=ad4
 JE:=adY
 XL:=aeg
 XE:=aea
 q:=fun j=>match j with | 0=> .ret | _=> .exit 0
 tags:= [0,1]
 lt:=zj
 fuel:=fun(y0,y1,y2,y3,y4,y5,y6,y7,y8,y9,y10,y11,y12,y13,y14,y15,y16,y17,y18)=>y0.natAbs + y1.natAbs + y2.natAbs + y3.natAbs + y4.natAbs + y5.natAbs + y6.natAbs + y7.length + y8.length + y9.length + y10.length + y11.length + y12.length + y13.length + y14.length + y15.length + y16.length + y17.length + y18.length
 fix:=fun(_,y1,y2,y3,y4,y5,y6,y7,y8,y9,y10,y11,y12,y13,y14,y15,y16,y17,y18) (y0,_,_,_,_,_,_,_,_,_,_,_,_,_,_,_,_,_,_)=>(y0,y1,y2,y3,y4,y5,y6,y7,y8,y9,y10,y11,y12,y13,y14,y15,y16,y17,y18)
 σ:= [(0,832),(1,896),(2,0),(3,1),(4,2),(5,3),(6,4),(7,5),(8,6),(9,7),(10,8),(11,9),(12,10),(13,11)]
 rd:=LU
theorem ab8:LoopOk prog (fun k=>Nat.blt k Tryz.f15.ntmps) de.F (aH f15 0):=by
 refine Lp.ok (tbl:= (T3z [mV,mB,oj,qf,qe])) (lf:= []) aO de (by kernel_rfl) (LOk.nil _) (fun _=>rfl) (fun j _=>by unfold de;match j with | 0=>rfl | _ + 1=>rfl) ?_ ?_ ?_ ?_ (fun _=>rfl) ?_
 ·rintro⟨y0,y1,y2,y3,y4,y5,y6,y7,y8,y9,y10,y11,y12,y13,y14,y15,y16,y17,y18⟩;kernel_rfl
 ·rintro⟨y0,y1,y2,y3,y4,y5,y6,y7,y8,y9,y10,y11,y12,y13,y14,y15,y16,y17,y18⟩;kernel_rfl
 ·intro s x h
  have h:LU s=some x:=h
  unfold LU at h
  repeat' split at h
  all_goals cases h
  constructor<;>repeat(first|refine ae (by assumption) rfl ?_|refine af rfl (by assumption) rfl ?_|exact rfl)
 ·rintro⟨y0,y1,y2,y3,y4,y5,y6,y7,y8,y9,y10,y11,y12,y13,y14,y15,y16,y17,y18⟩;kernel_rfl
 ·rintro⟨y0,y1,y2,y3,y4,y5,y6,y7,y8,y9,y10,y11,y12,y13,y14,y15,y16,y17,y18⟩ z;exact(And.intro (And.intro trivial rfl) trivial)
abbrev jF:=Int×Int×Int×Int×Int×Int×Int×List Int×List (Int×(Int×Int))×List (List Int)×List (Int×(Int×Int))×List (Int×Int)×List (Int×Int)×List Int×List (Int×(Int×Int))×List (List Int)×List (Int×(Int×Int))×List (Int×Int)×List (Int×Int)
section
variable (y0:Int)(y10 y16:List (Int×(Int×Int)))
def pv:Int×Int×Int:=Option.getD y10[Int.toNat y0]? ((0:Int),(0:Int),(0:Int))
def pw:Int×Int×Int:=Option.getD y16[Int.toNat y0]? ((0:Int),(0:Int),(0:Int))
def vD:Bool:=ltI y0 (↑y10.length:Int)
def vE:Bool:=leI 0 y0
def Bk:Bool:=ltN y0.toNat y10.length
def Bl:Bool:=ltI y0 (↑y16.length:Int)
def Bm:Bool:=ltN y0.toNat y16.length
def Bn:Bool:= !bif (pv y0 y10).1==(pw y0 y16).1then bif ((pv y0 y10).2).1==((pw y0 y16).2).1then bif (pv y0 y10).2.2==(pw y0 y16).2.2then true else false else false else false
def Bo:Int:=IntKind.wrap .i64 (y0 + (1:Int))
end
def ad5:jF→List (Nat×SV)
 |(y0,_,_,_,_,_,_,_,_,_,_,_,_,_,_,_,_,_,_)=> [(6,(.one ⟨false,[.val (.int .i64 y0)]⟩)),(2,(.one ⟨false,[.ptr 0 0]⟩)),(3,(.one ⟨false,[.ptr 1 0]⟩))]
def adZ:jF→List (Nat×Entry)
 |(_,y1,y2,y3,y4,y5,y6,y7,y8,y9,y10,y11,y12,y13,y14,y15,y16,y17,y18)=> [(0,(.box 33 [.val (.int .i64 y1),.ref 2,.ref 3,.ref 4,.ref 5,.val (.int .i64 y2),.ref 6,.ref 7,.val (.int .i64 y3)])),(1,(.box 33 [.val (.int .i64 y4),.ref 8,.ref 9,.ref 10,.ref 11,.val (.int .i64 y5),.ref 12,.ref 13,.val (.int .i64 y6)])),(2,(.row false 2 aj1 y7)),(3,(.row false 169 adH y8)),(4,(.row false 24 ajI y9)),(5,(.row false 100 adH y10)),(6,(.row false 173 aej y11)),(7,(.row false 176 aej y12)),(8,(.row false 2 aj1 y13)),(9,(.row false 169 adH y14)),(10,(.row false 24 ajI y15)),(11,(.row false 100 adH y16)),(12,(.row false 173 aej y17)),(13,(.row false 176 aej y18))]
def aeh:Nat→jF→List (Nat×SV)
 |0,(_,_,_,_,_,_,_,_,_,_,_,_,_,_,_,_,_,_,_)=> [(4,(.one ⟨false,[.val (.bool false)]⟩))]
 |_,(_,_,_,_,_,_,_,_,_,_,_,_,_,_,_,_,_,_,_)=> []
def aeb:Nat→jF→List (Nat×Entry)
 |0,(_,y1,y2,y3,y4,y5,y6,y7,y8,y9,y10,y11,y12,y13,y14,y15,y16,y17,y18)=> [(0,(.box 33 [.val (.int .i64 y1),.ref 2,.ref 3,.ref 4,.ref 5,.val (.int .i64 y2),.ref 6,.ref 7,.val (.int .i64 y3)])),(1,(.box 33 [.val (.int .i64 y4),.ref 8,.ref 9,.ref 10,.ref 11,.val (.int .i64 y5),.ref 12,.ref 13,.val (.int .i64 y6)])),(2,(.row false 2 aj1 y7)),(3,(.row false 169 adH y8)),(4,(.row false 24 ajI y9)),(5,(.row false 100 adH y10)),(6,(.row false 173 aej y11)),(7,(.row false 176 aej y12)),(8,(.row false 2 aj1 y13)),(9,(.row false 169 adH y14)),(10,(.row false 24 ajI y15)),(11,(.row false 100 adH y16)),(12,(.row false 173 aej y17)),(13,(.row false 176 aej y18))]
 |_,(_,y1,y2,y3,y4,y5,y6,y7,y8,y9,y10,y11,y12,y13,y14,y15,y16,y17,y18)=> [(0,(.box 33 [.val (.int .i64 y1),.ref 2,.ref 3,.ref 4,.ref 5,.val (.int .i64 y2),.ref 6,.ref 7,.val (.int .i64 y3)])),(1,(.box 33 [.val (.int .i64 y4),.ref 8,.ref 9,.ref 10,.ref 11,.val (.int .i64 y5),.ref 12,.ref 13,.val (.int .i64 y6)])),(2,(.row false 2 aj1 y7)),(3,(.row false 169 adH y8)),(4,(.row false 24 ajI y9)),(5,(.row false 100 adH y10)),(6,(.row false 173 aej y11)),(7,(.row false 176 aej y12)),(8,(.row false 2 aj1 y13)),(9,(.row false 169 adH y14)),(10,(.row false 24 ajI y15)),(11,(.row false 100 adH y16)),(12,(.row false 173 aej y17)),(13,(.row false 176 aej y18))]
def zk:jF→LT jF
 |(y0,y1,y2,y3,y4,y5,y6,y7,y8,y9,y10,y11,y12,y13,y14,y15,y16,y17,y18)=> .ite (vD y0 y10) (.need [vE y0,vD y0 y10,Bk y0 y10,vE y0,Bl y0 y16,Bm y0 y16] (.ite (Bn y0 y10 y16) (.ext 0 [(0,0),(1,1),(2,2),(3,3),(4,4),(5,5),(6,6),(7,7),(8,8),(9,9),(10,10),(11,11),(12,12),(13,13)]) (.nrm ((Bo y0),y1,y2,y3,y4,y5,y6,y7,y8,y9,y10,y11,y12,y13,y14,y15,y16,y17,y18) [(0,0),(1,1),(2,2),(3,3),(4,4),(5,5),(6,6),(7,7),(8,8),(9,9),(10,10),(11,11),(12,12),(13,13)]))) (.ext 1 [(0,0),(1,1),(2,2),(3,3),(4,4),(5,5),(6,6),(7,7),(8,8),(9,9),(10,10),(11,11),(12,12),(13,13)])
def LV(s:St):Option jF:=
 (match s.look 6 with
 |some ⟨none,.one ⟨false,[.val (.int .i64 y0)]⟩⟩=>
 (match s.look 2 with
 |some ⟨none,.one ⟨false,[.ptr 832 0]⟩⟩=>
 (match s.look 3 with
 |some ⟨none,.one ⟨false,[.ptr 896 0]⟩⟩=>
 (match s.ent 832 with
 |some (.box 33 [.val (.int .i64 y1),.ref 0,.ref 1,.ref 2,.ref 3,.val (.int .i64 y2),.ref 4,.ref 5,.val (.int .i64 y3)])=>
 (match s.ent 896 with
 |some (.box 33 [.val (.int .i64 y4),.ref 6,.ref 7,.ref 8,.ref 9,.val (.int .i64 y5),.ref 10,.ref 11,.val (.int .i64 y6)])=>
 (match s.ent 0 with
 |some (.row false 2 (.int .i64) y7)=>
 (match s.ent 1 with
 |some (.row false 169 (.pair (.int .i64) (.pair (.int .i64) (.int .i64))) y8)=>
 (match s.ent 2 with
 |some (.row false 24 (.sl 2 (.int .i64)) y9)=>
 (match s.ent 3 with
 |some (.row false 100 (.pair (.int .i64) (.pair (.int .i64) (.int .i64))) y10)=>
 (match s.ent 4 with
 |some (.row false 173 (.pair (.int .i64) (.int .i64)) y11)=>
 (match s.ent 5 with
 |some (.row false 176 (.pair (.int .i64) (.int .i64)) y12)=>
 (match s.ent 6 with
 |some (.row false 2 (.int .i64) y13)=>
 (match s.ent 7 with
 |some (.row false 169 (.pair (.int .i64) (.pair (.int .i64) (.int .i64))) y14)=>
 (match s.ent 8 with
 |some (.row false 24 (.sl 2 (.int .i64)) y15)=>
 (match s.ent 9 with
 |some (.row false 100 (.pair (.int .i64) (.pair (.int .i64) (.int .i64))) y16)=>
 (match s.ent 10 with
 |some (.row false 173 (.pair (.int .i64) (.int .i64)) y17)=>
 (match s.ent 11 with
 |some (.row false 176 (.pair (.int .i64) (.int .i64)) y18)=>
 some (y0,y1,y2,y3,y4,y5,y6,y7,y8,y9,y10,y11,y12,y13,y14,y15,y16,y17,y18)
 |_=>none)
 |_=>none)
 |_=>none)
 |_=>none)
 |_=>none)
 |_=>none)
 |_=>none)
 |_=>none)
 |_=>none)
 |_=>none)
 |_=>none)
 |_=>none)
 |_=>none)
 |_=>none)
 |_=>none)
 |_=>none)
 |_=>none)
def df:Lp jF where
 h:=⟨[42,43,44,45,46,49,50,51,52,53,54,55,56,57,58,59,4,47,48,6],[0,1,2,3,4,5,6,7,8,9,10,11,12,13],[],[]⟩
 JL:=ad5
 JE:=adZ
 XL:=aeh
 XE:=aeb
 q:=fun j=>match j with | 0=> .ret | _=> .exit 2
 tags:= [0,1]
 lt:=zk
 fuel:=fun(y0,y1,y2,y3,y4,y5,y6,y7,y8,y9,y10,y11,y12,y13,y14,y15,y16,y17,y18)=>y0.natAbs + y1.natAbs + y2.natAbs + y3.natAbs + y4.natAbs + y5.natAbs + y6.natAbs + y7.length + y8.length + y9.length + y10.length + y11.length + y12.length + y13.length + y14.length + y15.length + y16.length + y17.length + y18.length
 fix:=fun(_,y1,y2,y3,y4,y5,y6,y7,y8,y9,y10,y11,y12,y13,y14,y15,y16,y17,y18) (y0,_,_,_,_,_,_,_,_,_,_,_,_,_,_,_,_,_,_)=>(y0,y1,y2,y3,y4,y5,y6,y7,y8,y9,y10,y11,y12,y13,y14,y15,y16,y17,y18)
 σ:= [(0,832),(1,896),(2,0),(3,1),(4,2),(5,3),(6,4),(7,5),(8,6),(9,7),(10,8),(11,9),(12,10),(13,11)]
 rd:=LV
theorem ab9:LoopOk prog (fun k=>Nat.blt k Tryz.f15.ntmps) df.F (aH f15 1):=by
 refine Lp.ok (tbl:= (T3z [mV,mB,oj,qf,qe])) (lf:= []) aO df (by kernel_rfl) (LOk.nil _) (fun _=>rfl) (fun j _=>by unfold df;match j with | 0=>rfl | _ + 1=>rfl) ?_ ?_ ?_ ?_ (fun _=>rfl) ?_
 ·rintro⟨y0,y1,y2,y3,y4,y5,y6,y7,y8,y9,y10,y11,y12,y13,y14,y15,y16,y17,y18⟩;kernel_rfl
 ·rintro⟨y0,y1,y2,y3,y4,y5,y6,y7,y8,y9,y10,y11,y12,y13,y14,y15,y16,y17,y18⟩;kernel_rfl
 ·intro s x h
  have h:LV s=some x:=h
  unfold LV at h
  repeat' split at h
  all_goals cases h
  constructor<;>repeat(first|refine ae (by assumption) rfl ?_|refine af rfl (by assumption) rfl ?_|exact rfl)
 ·rintro⟨y0,y1,y2,y3,y4,y5,y6,y7,y8,y9,y10,y11,y12,y13,y14,y15,y16,y17,y18⟩;kernel_rfl
 ·rintro⟨y0,y1,y2,y3,y4,y5,y6,y7,y8,y9,y10,y11,y12,y13,y14,y15,y16,y17,y18⟩ z;exact(And.intro (And.intro trivial rfl) trivial)
section
variable (x0 x1 x2 x3 x4 x5:Int)(x6:List Int)(x7:List (Int×Int×Int))(x8:List (List Int))(x9:List (Int×Int×Int))(x10 x11:List (Int×Int))(x12:List Int)(x13:List (Int×Int×Int))(x14:List (List Int))(x15:List (Int×Int×Int))(x16 x17:List (Int×Int))
def lL:Bool:=bif(↑x8.length:Int)!=(↑x14.length:Int)then true else(↑x9.length:Int)!=(↑x15.length:Int)
def uJ:Int×Int×Int×Int×Int×Int×Int×List Int×List (Int×Int×Int)×List (List Int)×List (Int×Int×Int)×List (Int×Int)×List (Int×Int)×List Int×List (Int×Int×Int)×List (List Int)×List (Int×Int×Int)×List (Int×Int)×List (Int×Int):=((0:Int),x0,x1,x2,x3,x4,x5,x6,x7,x8,x9,x10,x11,x12,x13,x14,x15,x16,x17)
def rt:Bool:=Nat.beq ((Lp.res de (uJ x0 x1 x2 x3 x4 x5 x6 x7 x8 x9 x10 x11 x12 x13 x14 x15 x16 x17)).1) 0
def uK:Bool:=Nat.beq ((Lp.res df (uJ x0 x1 x2 x3 x4 x5 x6 x7 x8 x9 x10 x11 x12 x13 x14 x15 x16 x17)).1) 0
def QF:Bool:=bif bif CL x0 x3 x6 x12 then Kt x7 x13 else false then x1==x4 else false
def QG:Bool:=bif QF x0 x1 x3 x4 x6 x7 x12 x13 then Mj x10 x16 else false
def xg:Bool:=bif lL x8 x9 x14 x15 then false else bif rt x0 x1 x2 x3 x4 x5 x6 x7 x8 x9 x10 x11 x12 x13 x14 x15 x16 x17 then false else bif uK x0 x1 x2 x3 x4 x5 x6 x7 x8 x9 x10 x11 x12 x13 x14 x15 x16 x17 then false else bif bif QG x0 x1 x3 x4 x6 x7 x10 x12 x13 x16 then Mh x11 x17 else false then x2==x5 else false
def Mi:Bool:=allT [lL x8 x9 x14 x15||Lp.fin de (uJ x0 x1 x2 x3 x4 x5 x6 x7 x8 x9 x10 x11 x12 x13 x14 x15 x16 x17),lL x8 x9 x14 x15||(rt x0 x1 x2 x3 x4 x5 x6 x7 x8 x9 x10 x11 x12 x13 x14 x15 x16 x17||Lp.fin df (uJ x0 x1 x2 x3 x4 x5 x6 x7 x8 x9 x10 x11 x12 x13 x14 x15 x16 x17)),lL x8 x9 x14 x15||(rt x0 x1 x2 x3 x4 x5 x6 x7 x8 x9 x10 x11 x12 x13 x14 x15 x16 x17||(uK x0 x1 x2 x3 x4 x5 x6 x7 x8 x9 x10 x11 x12 x13 x14 x15 x16 x17||II x0 x3 x6)),lL x8 x9 x14 x15||(rt x0 x1 x2 x3 x4 x5 x6 x7 x8 x9 x10 x11 x12 x13 x14 x15 x16 x17||(uK x0 x1 x2 x3 x4 x5 x6 x7 x8 x9 x10 x11 x12 x13 x14 x15 x16 x17||(!(CL x0 x3 x6 x12&&true)||Fd x7 x13))),lL x8 x9 x14 x15||(rt x0 x1 x2 x3 x4 x5 x6 x7 x8 x9 x10 x11 x12 x13 x14 x15 x16 x17||(uK x0 x1 x2 x3 x4 x5 x6 x7 x8 x9 x10 x11 x12 x13 x14 x15 x16 x17||(!(QF x0 x1 x3 x4 x6 x7 x12 x13&&true)||GV x10 x16))),lL x8 x9 x14 x15||(rt x0 x1 x2 x3 x4 x5 x6 x7 x8 x9 x10 x11 x12 x13 x14 x15 x16 x17||(uK x0 x1 x2 x3 x4 x5 x6 x7 x8 x9 x10 x11 x12 x13 x14 x15 x16 x17||(!(QG x0 x1 x3 x4 x6 x7 x10 x12 x13 x16&&true)||GU x11 x17)))]
end
def Zz:List SV→List Entry→Option Out
 | [.one ⟨true,[.val (.int .i64 x0),.ref 0,.ref 1,.ref 2,.ref 3,.val (.int .i64 x1),.ref 4,.ref 5,.val (.int .i64 x2)]⟩,.one ⟨true,[.val (.int .i64 x3),.ref 6,.ref 7,.ref 8,.ref 9,.val (.int .i64 x4),.ref 10,.ref 11,.val (.int .i64 x5)]⟩],[.row false 2 (.int .i64) x6,.row false 169 (.pair (.int .i64) (.pair (.int .i64) (.int .i64))) x7,.row false 24 (.sl 2 (.int .i64)) x8,.row false 100 (.pair (.int .i64) (.pair (.int .i64) (.int .i64))) x9,.row false 173 (.pair (.int .i64) (.int .i64)) x10,.row false 176 (.pair (.int .i64) (.int .i64)) x11,.row false 2 (.int .i64) x12,.row false 169 (.pair (.int .i64) (.pair (.int .i64) (.int .i64))) x13,.row false 24 (.sl 2 (.int .i64)) x14,.row false 100 (.pair (.int .i64) (.pair (.int .i64) (.int .i64))) x15,.row false 173 (.pair (.int .i64) (.int .i64)) x16,.row false 176 (.pair (.int .i64) (.int .i64)) x17]=>some ⟨.one ⟨false,[.val (.bool (xg x0 x1 x2 x3 x4 x5 x6 x7 x8 x9 x10 x11 x12 x13 x14 x15 x16 x17))]⟩,[.row false 2 aj1 x6,.row false 169 adH x7,.row false 24 (CTy.sl (2:TypeId) aj1) x8,.row false 100 adH x9,.row false 173 aej x10,.row false 176 aej x11,.row false 2 aj1 x12,.row false 169 adH x13,.row false 24 (CTy.sl (2:TypeId) aj1) x14,.row false 100 adH x15,.row false 173 aej x16,.row false 176 aej x17],[],[Mi x0 x1 x2 x3 x4 x5 x6 x7 x8 x9 x10 x11 x12 x13 x14 x15 x16 x17]⟩
 |_,_=>none
def ajm:PF prog:=PF.ofG prog (T3z [mV,mB,oj,qf,qe]) [de.F,df.F] aO 15 f15 func15 (LOk.fnT (l:= [aH f15 0,aH f15 1]) (by kernel_rfl) (.cons ab8 (.cons ab9 (.nil _)))) Zz (by
 intro vs es r h;unfold Zz at h;split at h
 ·cases h;kernel_rfl
 ·cases h)
def tH(y1 y2:List (Int×(Int×Int)))(b:Nat):(Unit)→Nat ⊕ (Unit)
 |_=>(bif(!bif (Option.getD y1[b]? ((0:Int),(0:Int),(0:Int))).1==(Option.getD y2[b]? ((0:Int),(0:Int),(0:Int))).1then bif ((Option.getD y1[b]? ((0:Int),(0:Int),(0:Int))).2).1==((Option.getD y2[b]? ((0:Int),(0:Int),(0:Int))).2).1then bif (Option.getD y1[b]? ((0:Int),(0:Int),(0:Int))).2.2==(Option.getD y2[b]? ((0:Int),(0:Int),(0:Int))).2.2then true else false else false else false)then(.inl 0)else(.inr ()))
def oC(y1 y2:List (Int×(Int×Int)))(i:Nat):(Unit)→iQ
 |_=>((i:Int),y1,y2)
def KA:iQ→Unit
 |(_,_,_)=>()
theorem Ub(y1 y2:List (Int×(Int×Int))) (hn:y1.length≤9223372036854775807) (he:y2.length=y1.length):
  cM.fin ((0:Int),y1,y2)=true∧cM.res ((0:Int),y1,y2)=((aL (tH y1 y2) 1 (List.range y1.length) 0 ()).1,(oC y1 y2) (aL (tH y1 y2) 1 (List.range y1.length) 0 ()).2.1 (aL (tH y1 y2) 1 (List.range y1.length) 0 ()).2.2):=by
 have dC:=cM.along (oC y1 y2) KA (tH y1 y2) 1 (fun _ _=>True) (List.range y1.length) () (by trivial) (by simp only [cM,oC,List.length_range];omega) (fun i b a hb hI=> ?_) (fun a hI=> ?_)
 ·exact dC
 ·obtain⟨⟩:=a
  obtain⟨rfl,eO⟩:=od hb
  have hw:IntKind.i64.wrap ((b:Int) + 1)=((b + 1:Nat):Int):=by rw [ar (by omega) (by omega)];omega
  have cm:ltI (b:Int) (y1.length:Int)=true:=eg (by omega)
  have tS:leI (0:Int) (b:Int)=true:=cR (by omega)
  have io:ltN b y1.length=true:=gC (by omega)
  refine⟨?_,?_,?_,?_⟩
  ·simp [og,oh,tJ,tK,zb,zc,zd,ze,zf,xh,cM,LT.nds,allT,oC,cm,tS,io,he]
  ·simp [og,oh,tJ,tK,zb,zc,zd,ze,zf,xh,cM,LT.each,oC,KA,hw,he]
  ·simp only [og,oh,tJ,tK,zb,zc,zd,ze,zf,xh,cM,LT.fn,oC,KA,tH,Int.toNat_natCast,cm,cond_true]
  ·exact fun _ _=>trivial
 ·obtain⟨⟩:=a
  simp [og,oh,tJ,tK,zb,zc,zd,ze,zf,xh,cM,LT.out,oC,List.length_range]
theorem am4(xs ys:List (Int×Int×Int))(h:leN xs.length 9223372036854775807=true):Fd xs ys=true:=by
 have hn:=dD.1 h
 cases ha:CJ xs ys with
 |true=>simp [Fd,ha,allT]
 |false=>
  have hl:ys.length=xs.length:=by simp [CJ]at ha;omega
  obtain⟨w1,w2⟩:=Ub xs ys hn hl
  simp only [Fd,IH,w1,allT,Bool.or_true,cond_true]
theorem alb(xs:List (Int×Int×Int))(h:leN xs.length 9223372036854775807=true):Kt xs xs=true:=by
 have hn:=dD.1 h
 obtain⟨w1,w2⟩:=Ub xs xs hn rfl
 rw [kH (P:=fun _=>false) (j:=0) (fun b=>by simp [tH])]at w2
 have e:(List.range xs.length).any (fun _=>false)=false:=by simp
 simp only [Kt,CJ,IH,w2,e,bne_self_eq_false,cond_false]
 rfl
def vj(y1 y2:List (Int×Int))(b:Nat):(Unit)→Nat ⊕ (Unit)
 |_=>(bif(!bif (Option.getD y1[b]? ((0:Int),(0:Int))).1==(Option.getD y2[b]? ((0:Int),(0:Int))).1then bif (Option.getD y1[b]? ((0:Int),(0:Int))).2==(Option.getD y2[b]? ((0:Int),(0:Int))).2then true else false else false)then(.inl 0)else(.inr ()))
def pY(y1 y2:List (Int×Int))(i:Nat):(Unit)→jG
 |_=>((i:Int),y1,y2)
def LP:jG→Unit
 |(_,_,_)=>()
theorem Vz(y1 y2:List (Int×Int)) (hn:y1.length≤9223372036854775807) (he:y2.length=y1.length):
  dg.fin ((0:Int),y1,y2)=true∧dg.res ((0:Int),y1,y2)=((aL (vj y1 y2) 1 (List.range y1.length) 0 ()).1,(pY y1 y2) (aL (vj y1 y2) 1 (List.range y1.length) 0 ()).2.1 (aL (vj y1 y2) 1 (List.range y1.length) 0 ()).2.2):=by
 have dC:=dg.along (pY y1 y2) LP (vj y1 y2) 1 (fun _ _=>True) (List.range y1.length) () (by trivial) (by simp only [dg,pY,List.length_range];omega) (fun i b a hb hI=> ?_) (fun a hI=> ?_)
 ·exact dC
 ·obtain⟨⟩:=a
  obtain⟨rfl,eO⟩:=od hb
  have hw:IntKind.i64.wrap ((b:Int) + 1)=((b + 1:Nat):Int):=by rw [ar (by omega) (by omega)];omega
  have cm:ltI (b:Int) (y1.length:Int)=true:=eg (by omega)
  have tS:leI (0:Int) (b:Int)=true:=cR (by omega)
  have io:ltN b y1.length=true:=gC (by omega)
  refine⟨?_,?_,?_,?_⟩
  ·simp [tO,tP,vF,vG,Bp,Bq,Br,Bs,Bt,zl,dg,LT.nds,allT,pY,cm,tS,io,he]
  ·simp [tO,tP,vF,vG,Bp,Bq,Br,Bs,Bt,zl,dg,LT.each,pY,LP,hw,he]
  ·simp only [tO,tP,vF,vG,Bp,Bq,Br,Bs,Bt,zl,dg,LT.fn,pY,LP,vj,Int.toNat_natCast,cm,cond_true]
  ·exact fun _ _=>trivial
 ·obtain⟨⟩:=a
  simp [tO,tP,vF,vG,Bp,Bq,Br,Bs,Bt,zl,dg,LT.out,pY,List.length_range]
theorem aov(xs ys:List (Int×Int))(h:leN xs.length 9223372036854775807=true):GV xs ys=true:=by
 have hn:=dD.1 h
 cases ha:Fk xs ys with
 |true=>simp [GV,ha,allT]
 |false=>
  have hl:ys.length=xs.length:=by simp [Fk]at ha;omega
  obtain⟨w1,w2⟩:=Vz xs ys hn hl
  simp only [GV,Kv,w1,allT,Bool.or_true,cond_true]
theorem amj(xs:List (Int×Int))(h:leN xs.length 9223372036854775807=true):Mj xs xs=true:=by
 have hn:=dD.1 h
 obtain⟨w1,w2⟩:=Vz xs xs hn rfl
 rw [kH (P:=fun _=>false) (j:=0) (fun b=>by simp [vj])]at w2
 have e:(List.range xs.length).any (fun _=>false)=false:=by simp
 simp only [Mj,Fk,Kv,w2,e,bne_self_eq_false,cond_false]
 rfl
def vg(y1 y2:List (Int×Int))(b:Nat):(Unit)→Nat ⊕ (Unit)
 |_=>(bif(!bif (Option.getD y1[b]? ((0:Int),(0:Int))).1==(Option.getD y2[b]? ((0:Int),(0:Int))).1then bif (Option.getD y1[b]? ((0:Int),(0:Int))).2==(Option.getD y2[b]? ((0:Int),(0:Int))).2then true else false else false)then(.inl 0)else(.inr ()))
def pV(y1 y2:List (Int×Int))(i:Nat):(Unit)→jD
 |_=>((i:Int),y1,y2)
def LM:jD→Unit
 |(_,_,_)=>()
theorem Vw(y1 y2:List (Int×Int)) (hn:y1.length≤9223372036854775807) (he:y2.length=y1.length):
  dd.fin ((0:Int),y1,y2)=true∧dd.res ((0:Int),y1,y2)=((aL (vg y1 y2) 1 (List.range y1.length) 0 ()).1,(pV y1 y2) (aL (vg y1 y2) 1 (List.range y1.length) 0 ()).2.1 (aL (vg y1 y2) 1 (List.range y1.length) 0 ()).2.2):=by
 have dC:=dd.along (pV y1 y2) LM (vg y1 y2) 1 (fun _ _=>True) (List.range y1.length) () (by trivial) (by simp only [dd,pV,List.length_range];omega) (fun i b a hb hI=> ?_) (fun a hI=> ?_)
 ·exact dC
 ·obtain⟨⟩:=a
  obtain⟨rfl,eO⟩:=od hb
  have hw:IntKind.i64.wrap ((b:Int) + 1)=((b + 1:Nat):Int):=by rw [ar (by omega) (by omega)];omega
  have cm:ltI (b:Int) (y1.length:Int)=true:=eg (by omega)
  have tS:leI (0:Int) (b:Int)=true:=cR (by omega)
  have io:ltN b y1.length=true:=gC (by omega)
  refine⟨?_,?_,?_,?_⟩
  ·simp [tL,tM,vz,vA,AZ,Ba,Bb,Bc,Bd,zi,dd,LT.nds,allT,pV,cm,tS,io,he]
  ·simp [tL,tM,vz,vA,AZ,Ba,Bb,Bc,Bd,zi,dd,LT.each,pV,LM,hw,he]
  ·simp only [tL,tM,vz,vA,AZ,Ba,Bb,Bc,Bd,zi,dd,LT.fn,pV,LM,vg,Int.toNat_natCast,cm,cond_true]
  ·exact fun _ _=>trivial
 ·obtain⟨⟩:=a
  simp [tL,tM,vz,vA,AZ,Ba,Bb,Bc,Bd,zi,dd,LT.out,pV,List.length_range]
theorem aou(xs ys:List (Int×Int))(h:leN xs.length 9223372036854775807=true):GU xs ys=true:=by
 have hn:=dD.1 h
 cases ha:Fj xs ys with
 |true=>simp [GU,ha,allT]
 |false=>
  have hl:ys.length=xs.length:=by simp [Fj]at ha;omega
  obtain⟨w1,w2⟩:=Vw xs ys hn hl
  simp only [GU,Ku,w1,allT,Bool.or_true,cond_true]
theorem ami(xs:List (Int×Int))(h:leN xs.length 9223372036854775807=true):Mh xs xs=true:=by
 have hn:=dD.1 h
 obtain⟨w1,w2⟩:=Vw xs xs hn rfl
 rw [kH (P:=fun _=>false) (j:=0) (fun b=>by simp [vg])]at w2
 have e:(List.range xs.length).any (fun _=>false)=false:=by simp
 simp only [Mh,Fj,Ku,w2,e,bne_self_eq_false,cond_false]
 rfl
theorem auh{m:Nat}{xs:List (List Int)}(h: ∀ x∈xs,x.length≤m)(b:Nat):((xs[b]?).getD []).length≤m:=by
 cases hb:xs[b]? with
 |none=>simp
 |some x=>simpa using h x (List.mem_of_getElem? hb)
def vh(y9 y15:List (List Int))(b:Nat):(Unit)→Nat ⊕ (Unit)
 |_=>(bif(!eqL (Option.getD y9[b]? (vf ajI)) (Option.getD y15[b]? (vf ajI)))then(.inl 0)else(.inr ()))
def pW(y1 y2 y3 y4 y5 y6:Int)(y7:List Int)(y8:List (Int×(Int×Int)))(y9:List (List Int))(y10:List (Int×(Int×Int)))(y11 y12:List (Int×Int))(y13:List Int)(y14:List (Int×(Int×Int)))(y15:List (List Int))(y16:List (Int×(Int×Int)))(y17 y18:List (Int×Int))(i:Nat):(Unit)→jE
 |_=>((i:Int),y1,y2,y3,y4,y5,y6,y7,y8,y9,y10,y11,y12,y13,y14,y15,y16,y17,y18)
def LN:jE→Unit
 |(_,_,_,_,_,_,_,_,_,_,_,_,_,_,_,_,_,_,_)=>()
theorem Vx(y1 y2 y3 y4 y5 y6:Int)(y7:List Int)(y8:List (Int×(Int×Int)))(y9:List (List Int))(y10:List (Int×(Int×Int)))(y11 y12:List (Int×Int))(y13:List Int)(y14:List (Int×(Int×Int)))(y15:List (List Int))(y16:List (Int×(Int×Int)))(y17 y18:List (Int×Int)) (hn:y9.length≤9223372036854775807) (he:y15.length=y9.length) (hA: ∀ x∈y9,x.length≤9223372036854775807):
  de.fin ((0:Int),y1,y2,y3,y4,y5,y6,y7,y8,y9,y10,y11,y12,y13,y14,y15,y16,y17,y18)=true∧de.res ((0:Int),y1,y2,y3,y4,y5,y6,y7,y8,y9,y10,y11,y12,y13,y14,y15,y16,y17,y18)=((aL (vh y9 y15) 1 (List.range y9.length) 0 ()).1,(pW y1 y2 y3 y4 y5 y6 y7 y8 y9 y10 y11 y12 y13 y14 y15 y16 y17 y18) (aL (vh y9 y15) 1 (List.range y9.length) 0 ()).2.1 (aL (vh y9 y15) 1 (List.range y9.length) 0 ()).2.2):=by
 have dC:=de.along (pW y1 y2 y3 y4 y5 y6 y7 y8 y9 y10 y11 y12 y13 y14 y15 y16 y17 y18) LN (vh y9 y15) 1 (fun _ _=>True) (List.range y9.length) () (by trivial) (by simp only [de,pW,List.length_range];omega) (fun i b a hb hI=> ?_) (fun a hI=> ?_)
 ·exact dC
 ·obtain⟨⟩:=a
  obtain⟨rfl,eO⟩:=od hb
  have hw:IntKind.i64.wrap ((b:Int) + 1)=((b + 1:Nat):Int):=by rw [ar (by omega) (by omega)];omega
  have cm:ltI (b:Int) (y9.length:Int)=true:=eg (by omega)
  have tS:leI (0:Int) (b:Int)=true:=cR (by omega)
  have io:ltN b y9.length=true:=gC (by omega)
  refine⟨?_,?_,?_,?_⟩
  ·have h6:Bh (b:Int) y9=true:=dj (by simp only [tN,Int.toNat_natCast];exact auh hA b)
   simp [vB,vC,Be,Bf,Bg,Bi,Bj,zj,de,LT.nds,allT,pW,cm,tS,io,he,h6]
  ·simp [tN,vB,vC,Be,Bf,Bg,Bh,Bi,Bj,zj,de,LT.each,pW,LN,hw,he]
  ·simp only [tN,vB,vC,Be,Bf,Bg,Bh,Bi,Bj,zj,de,LT.fn,pW,LN,vh,Int.toNat_natCast,cm,cond_true]
  ·exact fun _ _=>trivial
 ·obtain⟨⟩:=a
  simp [tN,vB,vC,Be,Bf,Bg,Bh,Bi,Bj,zj,de,LT.out,pW,List.length_range]
def vi(y10 y16:List (Int×(Int×Int)))(b:Nat):(Unit)→Nat ⊕ (Unit)
 |_=>(bif(!bif (Option.getD y10[b]? ((0:Int),(0:Int),(0:Int))).1==(Option.getD y16[b]? ((0:Int),(0:Int),(0:Int))).1then bif ((Option.getD y10[b]? ((0:Int),(0:Int),(0:Int))).2).1==((Option.getD y16[b]? ((0:Int),(0:Int),(0:Int))).2).1then bif (Option.getD y10[b]? ((0:Int),(0:Int),(0:Int))).2.2==(Option.getD y16[b]? ((0:Int),(0:Int),(0:Int))).2.2then true else false else false else false)then(.inl 0)else(.inr ()))
def pX(y1 y2 y3 y4 y5 y6:Int)(y7:List Int)(y8:List (Int×(Int×Int)))(y9:List (List Int))(y10:List (Int×(Int×Int)))(y11 y12:List (Int×Int))(y13:List Int)(y14:List (Int×(Int×Int)))(y15:List (List Int))(y16:List (Int×(Int×Int)))(y17 y18:List (Int×Int))(i:Nat):(Unit)→jF
 |_=>((i:Int),y1,y2,y3,y4,y5,y6,y7,y8,y9,y10,y11,y12,y13,y14,y15,y16,y17,y18)
def LO:jF→Unit
 |(_,_,_,_,_,_,_,_,_,_,_,_,_,_,_,_,_,_,_)=>()
theorem Vy(y1 y2 y3 y4 y5 y6:Int)(y7:List Int)(y8:List (Int×(Int×Int)))(y9:List (List Int))(y10:List (Int×(Int×Int)))(y11 y12:List (Int×Int))(y13:List Int)(y14:List (Int×(Int×Int)))(y15:List (List Int))(y16:List (Int×(Int×Int)))(y17 y18:List (Int×Int)) (hn:y10.length≤9223372036854775807) (he:y16.length=y10.length):
  df.fin ((0:Int),y1,y2,y3,y4,y5,y6,y7,y8,y9,y10,y11,y12,y13,y14,y15,y16,y17,y18)=true∧df.res ((0:Int),y1,y2,y3,y4,y5,y6,y7,y8,y9,y10,y11,y12,y13,y14,y15,y16,y17,y18)=((aL (vi y10 y16) 1 (List.range y10.length) 0 ()).1,(pX y1 y2 y3 y4 y5 y6 y7 y8 y9 y10 y11 y12 y13 y14 y15 y16 y17 y18) (aL (vi y10 y16) 1 (List.range y10.length) 0 ()).2.1 (aL (vi y10 y16) 1 (List.range y10.length) 0 ()).2.2):=by
 have dC:=df.along (pX y1 y2 y3 y4 y5 y6 y7 y8 y9 y10 y11 y12 y13 y14 y15 y16 y17 y18) LO (vi y10 y16) 1 (fun _ _=>True) (List.range y10.length) () (by trivial) (by simp only [df,pX,List.length_range];omega) (fun i b a hb hI=> ?_) (fun a hI=> ?_)
 ·exact dC
 ·obtain⟨⟩:=a
  obtain⟨rfl,eO⟩:=od hb
  have hw:IntKind.i64.wrap ((b:Int) + 1)=((b + 1:Nat):Int):=by rw [ar (by omega) (by omega)];omega
  have cm:ltI (b:Int) (y10.length:Int)=true:=eg (by omega)
  have tS:leI (0:Int) (b:Int)=true:=cR (by omega)
  have io:ltN b y10.length=true:=gC (by omega)
  refine⟨?_,?_,?_,?_⟩
  ·simp [pv,pw,vD,vE,Bk,Bl,Bm,Bn,Bo,zk,df,LT.nds,allT,pX,cm,tS,io,he]
  ·simp [pv,pw,vD,vE,Bk,Bl,Bm,Bn,Bo,zk,df,LT.each,pX,LO,hw,he]
  ·simp only [pv,pw,vD,vE,Bk,Bl,Bm,Bn,Bo,zk,df,LT.fn,pX,LO,vi,Int.toNat_natCast,cm,cond_true]
  ·exact fun _ _=>trivial
 ·obtain⟨⟩:=a
  simp [pv,pw,vD,vE,Bk,Bl,Bm,Bn,Bo,zk,df,LT.out,pX,List.length_range]
theorem asC(n m d n' m' d':Int)(ps:LI)(fs:L3)(rs:List LI)(lf:L3)(pl ls:L2)(ps':LI)(fs':L3)(rs':List LI)(lf':L3)(pl' ls':L2)(h:uD 9223372036854775807 ps fs rs lf pl ls=true):
  Mi n m d n' m' d' ps fs rs lf pl ls ps' fs' rs' lf' pl' ls'=true:=by
 have h':=h
 simp only [uD,Bool.and_eq_true]at h'
 obtain⟨h1,h2,h3,h4,h5,h6⟩:=h'
 obtain⟨hn,hA⟩:=aqY.1 h3
 have q1:II n n' ps=true:=by simp only [II,h1,allT,Bool.or_true,cond_true]
 have q2:=am4 fs fs' h2
 have q3:=aov pl pl' h5
 have q4:=aou ls ls' h6
 cases ha:lL rs lf rs' lf' with
 |true=>simp only [Mi,ha,allT,Bool.true_or,cond_true]
 |false=>
  have hl:rs'.length=rs.length∧lf'.length=lf.length:=by
   simp only [lL]at ha
   cases hq:((rs.length:Int)!=(rs'.length:Int))with
   |true=>rw [hq]at ha;cases ha
   |false=>rw [hq,cond_false]at ha;simp at ha hq;omega
  obtain⟨w1,_⟩:=Vx n m d n' m' d' ps fs rs lf pl ls ps' fs' rs' lf' pl' ls' hn hl.1 hA
  obtain⟨v1,_⟩:=Vy n m d n' m' d' ps fs rs lf pl ls ps' fs' rs' lf' pl' ls' (dD.1 h4) hl.2
  simp only [Mi,uJ,w1,v1,q1,q2,q3,q4,allT,Bool.or_true,cond_true]
theorem aqE(n m d:Int)(ps:LI)(fs:L3)(rs:List LI)(lf:L3)(pl ls:L2)(h:uD 9223372036854775807 ps fs rs lf pl ls=true):
  xg n m d n m d ps fs rs lf pl ls ps fs rs lf pl ls=true:=by
 have h':=h
 simp only [uD,Bool.and_eq_true]at h'
 obtain⟨h1,h2,h3,h4,h5,h6⟩:=h'
 obtain⟨hn,hA⟩:=aqY.1 h3
 have q1:CL n n ps ps=true:=by simp [CL,eqL]
 have q2:=alb fs h2
 have q3:=amj pl h5
 have q4:=ami ls h6
 obtain⟨_,w2⟩:=Vx n m d n m d ps fs rs lf pl ls ps fs rs lf pl ls hn rfl hA
 obtain⟨_,v2⟩:=Vy n m d n m d ps fs rs lf pl ls ps fs rs lf pl ls (dD.1 h4) rfl
 rw [kH (P:=fun _=>false) (j:=0) (fun b=>by simp [vh,eqL])]at w2
 rw [kH (P:=fun _=>false) (j:=0) (fun b=>by simp [vi])]at v2
 have e: ∀ k:Nat,(List.range k).any (fun _=>false)=false:=fun k=>by simp
 have a2:rt n m d n m d ps fs rs lf pl ls ps fs rs lf pl ls=false:=by simp only [rt,uJ,w2,e,cond_false];rfl
 have a3:uK n m d n m d ps fs rs lf pl ls ps fs rs lf pl ls=false:=by simp only [uK,uJ,v2,e,cond_false];rfl
 simp only [xg,lL,a2,a3,QF,QG,q1,q2,q3,q4,bne_self_eq_false,beq_self_eq_true,cond_false,cond_true]
def ZF:List SV→List Entry→Option Out
 | [.one ⟨true,[.val (.int .i64 x0),.ref 0,.ref 1,.ref 2,.ref 3,.val (.int .i64 x1),.ref 4,.ref 5,.val (.int .i64 x2)]⟩,.one ⟨true,[.val (.int .i64 x3),.ref 6,.ref 7,.ref 8,.ref 9,.val (.int .i64 x4),.ref 10,.ref 11,.val (.int .i64 x5)]⟩],[.row false 2 (.int .i64) x6,.row false 169 (.pair (.int .i64) (.pair (.int .i64) (.int .i64))) x7,.row false 24 (.sl 2 (.int .i64)) x8,.row false 100 (.pair (.int .i64) (.pair (.int .i64) (.int .i64))) x9,.row false 173 (.pair (.int .i64) (.int .i64)) x10,.row false 176 (.pair (.int .i64) (.int .i64)) x11,.row false 2 (.int .i64) x12,.row false 169 (.pair (.int .i64) (.pair (.int .i64) (.int .i64))) x13,.row false 24 (.sl 2 (.int .i64)) x14,.row false 100 (.pair (.int .i64) (.pair (.int .i64) (.int .i64))) x15,.row false 173 (.pair (.int .i64) (.int .i64)) x16,.row false 176 (.pair (.int .i64) (.int .i64)) x17]=>some ⟨.one ⟨false,[.val (.bool (xg x0 x1 x2 x3 x4 x5 x6 x7 x8 x9 x10 x11 x12 x13 x14 x15 x16 x17))]⟩,[.row false 2 aj1 x6,.row false 169 adH x7,.row false 24 (CTy.sl (2:TypeId) aj1) x8,.row false 100 adH x9,.row false 173 aej x10,.row false 176 aej x11,.row false 2 aj1 x12,.row false 169 adH x13,.row false 24 (CTy.sl (2:TypeId) aj1) x14,.row false 100 adH x15,.row false 173 aej x16,.row false 176 aej x17],[],[uD 9223372036854775807 x6 x7 x8 x9 x10 x11]⟩
 |_,_=>none
def SD:PF prog:=PF.alt ajm ZF (by
 intro args es o h bE;unfold ZF at h;split at h
 ·rename_i x0 x1 x2 x3 x4 x5 x6 x7 x8 x9 x10 x11 x12 x13 x14 x15 x16 x17
  cases h
  have bE:=jW bE
  have hh:=asC x0 x1 x2 x3 x4 x5 x6 x7 x8 x9 x10 x11 x12 x13 x14 x15 x16 x17 bE
  have en:=hh
  exact nO rfl (iY en) rfl rfl rfl
 ·cases h)
 attribute [local irreducible] nxA nxS nxV pkA pkS pkV uD
end Go.SX
namespace Go.SX
open Go.Proofs Go.Proofs.Tryz
set_option maxRecDepth 100000
abbrev ig:=Int×Int×List (Int×(Int×Int))×List Int
section
variable (y0 y1:Int)(y2:List (Int×(Int×Int)))(y3:List Int)
def dF:Int×Int×Int:=Option.getD y2[Int.toNat y0]? ((0:Int),(0:Int),(0:Int))
def qZ:Bool:=(dF y0 y2).2.2==0
def wO:Bool:=ltI y0 y1
def wP:Bool:=leI 0 y0
def wQ:Bool:=ltI y0 (↑y2.length:Int)
def wR:Bool:=ltN y0.toNat y2.length
def wS:Bool:= !qZ y0 y2||dY ((dF y0 y2).1) y3
def wT:Bool:=qZ y0 y2
def wU:Bool:=aW ((dF y0 y2).1) y3
def wV:Bool:=leN (List.length y3 + List.length [(dF y0 y2).1]) (9223372036854775807:Nat)
def wW:Bool:=leN ((List.length y3 + List.length [(dF y0 y2).1]) * 8) 140737488355328
def sm:Int:=IntKind.wrap .i64 (y0 + (1:Int))
def vk:List Int:=y3++ [(dF y0 y2).1]
end
def abu:ig→List (Nat×SV)
 |(y0,y1,_,_)=> [(8,(.one ⟨false,[.val (.int .i64 y0)]⟩)),(7,(.one ⟨false,[.val (.int .i64 y1)]⟩)),(6,(.one ⟨false,[.ref 0]⟩)),(3,(.one ⟨false,[.ref 1]⟩))]
def abp:ig→List (Nat×Entry)
 |(_,_,y2,y3)=> [(0,(.row false 169 adH y2)),(1,(.row true 2 aj1 y3))]
def abL:Nat→ig→List (Nat×SV)
 |0,(_,_,_,_)=> [(2,(.one ⟨false,[.val (.bool false)]⟩))]
 |_,(_,_,_,_)=> []
def abG:Nat→ig→List (Nat×Entry)
 |0,(_,_,y2,y3)=> [(0,(.row false 169 adH y2)),(1,(.row true 2 aj1 y3))]
 |_,(_,_,y2,y3)=> [(0,(.row false 169 adH y2)),(1,(.row true 2 aj1 y3))]
def vH:ig→LT ig
 |(y0,y1,y2,y3)=> .ite (wO y0 y1) (.need [wP y0,wQ y0 y2,wR y0 y2] (.need [wS y0 y2 y3] (.ite (wT y0 y2) (.ite (wU y0 y2 y3) (.ext 0 [(0,0),(1,1)]) (.need [wV y0 y2 y3,wW y0 y2 y3] (.nrm ((sm y0),y1,y2,(vk y0 y2 y3)) [(0,0),(1,1088)]))) (.nrm ((sm y0),y1,y2,y3) [(0,0),(1,1)])))) (.ext 1 [(0,0),(1,1)])
def Jp(s:St):Option ig:=
 (match s.look 8 with
 |some ⟨none,.one ⟨false,[.val (.int .i64 y0)]⟩⟩=>
 (match s.look 7 with
 |some ⟨none,.one ⟨false,[.val (.int .i64 y1)]⟩⟩=>
 (match s.look 6 with
 |some ⟨none,.one ⟨false,[.ref 0]⟩⟩=>
 (match s.look 3 with
 |some ⟨none,.one ⟨false,[.ref 192]⟩⟩=>
 (match s.ent 0 with
 |some (.row false 169 (.pair (.int .i64) (.pair (.int .i64) (.int .i64))) y2)=>
 (match s.ent 192 with
 |some (.row true 2 (.int .i64) y3)=>
 some (y0,y1,y2,y3)
 |_=>none)
 |_=>none)
 |_=>none)
 |_=>none)
 |_=>none)
 |_=>none)
def bP:Lp ig where
 h:=⟨[9,10,11,5,12,13,14,15,16,17,18,2,19,20,21,22,23,3,24,8],[0],[1],[]⟩
 JL:=abu
 JE:=abp
 XL:=abL
 XE:=abG
 q:=fun j=>match j with | 0=> .ret | _=> .exit 0
 tags:= [0,1]
 lt:=vH
 fuel:=fun(y0,y1,y2,y3)=>y0.natAbs + y1.natAbs + y2.length + y3.length
 fix:=fun(_,y1,y2,_) (y0,_,_,y3)=>(y0,y1,y2,y3)
 σ:= [(0,0),(1,192)]
 rd:=Jp
theorem Zm:LoopOk prog (fun k=>Nat.blt k Tryz.f65.ntmps) bP.F (aH f65 0):=by
 refine Lp.ok (tbl:= (T3z [az])) (lf:= []) aO bP (by kernel_rfl) (LOk.nil _) (fun _=>rfl) (fun j _=>by unfold bP;match j with | 0=>rfl | _ + 1=>rfl) ?_ ?_ ?_ ?_ (fun _=>rfl) ?_
 ·rintro⟨y0,y1,y2,y3⟩;kernel_rfl
 ·rintro⟨y0,y1,y2,y3⟩;kernel_rfl
 ·intro s x h
  have h:Jp s=some x:=h
  unfold Jp at h
  repeat' split at h
  all_goals cases h
  constructor<;>repeat(first|refine ae (by assumption) rfl ?_|refine af rfl (by assumption) rfl ?_|exact rfl)
 ·rintro⟨y0,y1,y2,y3⟩;kernel_rfl
 ·rintro⟨y0,y1,y2,y3⟩ z;exact(And.intro (And.intro (And.intro trivial rfl) rfl) trivial)
section
variable (x0:List (Int×Int×Int))
def GP:Int×Int×List (Int×Int×Int)×List Int:=((0:Int),(↑x0.length:Int),x0,[])
def IE:Bool:=bif Nat.beq ((Lp.res bP (GP x0)).1) 0 then false else true
def IF:Bool:=allT [Lp.fin bP (GP x0)]
end
def Wq:List SV→List Entry→Option Out
 | [.one ⟨false,[.ref 0]⟩],[.row false 169 (.pair (.int .i64) (.pair (.int .i64) (.int .i64))) x0]=>some ⟨.one ⟨false,[.val (.bool (IE x0))]⟩,[.row false 169 adH x0],[],[IF x0]⟩
 |_,_=>none
def OR:PF prog:=PF.ofG prog (T3z [az]) [bP.F] aO 65 f65 func65 (LOk.fnT (l:= [aH f65 0]) (by kernel_rfl) (.cons Zm (.nil _))) Wq (by
 intro vs es r h;unfold Wq at h;split at h
 ·cases h;kernel_rfl
 ·cases h)
abbrev gh:=Int×Int×List (Int×(Int×Int))×List Int
section
variable (y0 y1:Int)(y2:List (Int×(Int×Int)))(y3:List Int)
def cY:Int×Int×Int:=Option.getD y2[Int.toNat y0]? ((0:Int),(0:Int),(0:Int))
def oW:Bool:=(cY y0 y2).2.2==1
def vl:Bool:=ltI y0 y1
def vm:Bool:=leI 0 y0
def vn:Bool:=ltI y0 (↑y2.length:Int)
def vo:Bool:=ltN y0.toNat y2.length
def vp:Bool:= !oW y0 y2||dY ((cY y0 y2).1) y3
def vq:Bool:=oW y0 y2
def vr:Bool:=aW ((cY y0 y2).1) y3
def vt:Bool:=leN (List.length y3 + List.length [(cY y0 y2).1]) (9223372036854775807:Nat)
def vu:Bool:=leN ((List.length y3 + List.length [(cY y0 y2).1]) * 8) 140737488355328
def ra:Int:=IntKind.wrap .i64 (y0 + (1:Int))
def tV:List Int:=y3++ [(cY y0 y2).1]
end
def aau:gh→List (Nat×SV)
 |(y0,y1,_,_)=> [(8,(.one ⟨false,[.val (.int .i64 y0)]⟩)),(7,(.one ⟨false,[.val (.int .i64 y1)]⟩)),(6,(.one ⟨false,[.ref 0]⟩)),(3,(.one ⟨false,[.ref 1]⟩))]
def aal:gh→List (Nat×Entry)
 |(_,_,y2,y3)=> [(0,(.row false 100 adH y2)),(1,(.row true 2 aj1 y3))]
def aaM:Nat→gh→List (Nat×SV)
 |0,(_,_,_,_)=> [(2,(.one ⟨false,[.val (.bool false)]⟩))]
 |_,(_,_,_,_)=> []
def aaD:Nat→gh→List (Nat×Entry)
 |0,(_,_,y2,y3)=> [(0,(.row false 100 adH y2)),(1,(.row true 2 aj1 y3))]
 |_,(_,_,y2,y3)=> [(0,(.row false 100 adH y2)),(1,(.row true 2 aj1 y3))]
def ud:gh→LT gh
 |(y0,y1,y2,y3)=> .ite (vl y0 y1) (.need [vm y0,vn y0 y2,vo y0 y2] (.need [vp y0 y2 y3] (.ite (vq y0 y2) (.ite (vr y0 y2 y3) (.ext 0 [(0,0),(1,1)]) (.need [vt y0 y2 y3,vu y0 y2 y3] (.nrm ((ra y0),y1,y2,(tV y0 y2 y3)) [(0,0),(1,1088)]))) (.nrm ((ra y0),y1,y2,y3) [(0,0),(1,1)])))) (.ext 1 [(0,0),(1,1)])
def HP(s:St):Option gh:=
 (match s.look 8 with
 |some ⟨none,.one ⟨false,[.val (.int .i64 y0)]⟩⟩=>
 (match s.look 7 with
 |some ⟨none,.one ⟨false,[.val (.int .i64 y1)]⟩⟩=>
 (match s.look 6 with
 |some ⟨none,.one ⟨false,[.ref 0]⟩⟩=>
 (match s.look 3 with
 |some ⟨none,.one ⟨false,[.ref 192]⟩⟩=>
 (match s.ent 0 with
 |some (.row false 100 (.pair (.int .i64) (.pair (.int .i64) (.int .i64))) y2)=>
 (match s.ent 192 with
 |some (.row true 2 (.int .i64) y3)=>
 some (y0,y1,y2,y3)
 |_=>none)
 |_=>none)
 |_=>none)
 |_=>none)
 |_=>none)
 |_=>none)
def bH:Lp gh where
 h:=⟨[9,10,11,5,12,13,14,15,16,17,18,2,19,20,21,22,23,3,24,8],[0],[1],[]⟩
 JL:=aau
 JE:=aal
 XL:=aaM
 XE:=aaD
 q:=fun j=>match j with | 0=> .ret | _=> .exit 0
 tags:= [0,1]
 lt:=ud
 fuel:=fun(y0,y1,y2,y3)=>y0.natAbs + y1.natAbs + y2.length + y3.length
 fix:=fun(_,y1,y2,_) (y0,_,_,y3)=>(y0,y1,y2,y3)
 σ:= [(0,0),(1,192)]
 rd:=HP
theorem XW:LoopOk prog (fun k=>Nat.blt k Tryz.f66.ntmps) bH.F (aH f66 0):=by
 refine Lp.ok (tbl:= (T3z [az])) (lf:= []) aO bH (by kernel_rfl) (LOk.nil _) (fun _=>rfl) (fun j _=>by unfold bH;match j with | 0=>rfl | _ + 1=>rfl) ?_ ?_ ?_ ?_ (fun _=>rfl) ?_
 ·rintro⟨y0,y1,y2,y3⟩;kernel_rfl
 ·rintro⟨y0,y1,y2,y3⟩;kernel_rfl
 ·intro s x h
  have h:HP s=some x:=h
  unfold HP at h
  repeat' split at h
  all_goals cases h
  constructor<;>repeat(first|refine ae (by assumption) rfl ?_|refine af rfl (by assumption) rfl ?_|exact rfl)
 ·rintro⟨y0,y1,y2,y3⟩;kernel_rfl
 ·rintro⟨y0,y1,y2,y3⟩ z;exact(And.intro (And.intro (And.intro trivial rfl) rfl) trivial)
section
variable (x0:List (Int×Int×Int))
def FT:Int×Int×List (Int×Int×Int)×List Int:=((0:Int),(↑x0.length:Int),x0,[])
def GR:Bool:=bif Nat.beq ((Lp.res bH (FT x0)).1) 0 then false else true
def GS:Bool:=allT [Lp.fin bH (FT x0)]
end
def UV:List SV→List Entry→Option Out
 | [.one ⟨false,[.ref 0]⟩],[.row false 100 (.pair (.int .i64) (.pair (.int .i64) (.int .i64))) x0]=>some ⟨.one ⟨false,[.val (.bool (GR x0))]⟩,[.row false 100 adH x0],[],[GS x0]⟩
 |_,_=>none
def Nv:PF prog:=PF.ofG prog (T3z [az]) [bH.F] aO 66 f66 func66 (LOk.fnT (l:= [aH f66 0]) (by kernel_rfl) (.cons XW (.nil _))) UV (by
 intro vs es r h;unfold UV at h;split at h
 ·cases h;kernel_rfl
 ·cases h)
section
variable (x0 x1 x2:Int)(x3:List Int)(x4:List (Int×Int×Int))(x5:List (List Int))(x6:List (Int×Int×Int))(x7 x8:List (Int×Int))
def Km:Bool:=bif uL x0 x3 x4 x5 x6 x1 x7 x8 x2 then IE x4 else false
def BU:Bool:=bif Km x0 x1 x2 x3 x4 x5 x6 x7 x8 then GR x6 else false
def BV:Bool:=allT [uD 9223372036854775807 x3 x4 x5 x6 x7 x8,!(uL x0 x3 x4 x5 x6 x1 x7 x8 x2&&true)||IF x4,!(Km x0 x1 x2 x3 x4 x5 x6 x7 x8&&true)||GS x6]
end
def Zu:List SV→List Entry→Option Out
 | [.one ⟨true,[.val (.int .i64 x0),.ref 0,.ref 1,.ref 2,.ref 3,.val (.int .i64 x1),.ref 4,.ref 5,.val (.int .i64 x2)]⟩],[.row false 2 (.int .i64) x3,.row false 169 (.pair (.int .i64) (.pair (.int .i64) (.int .i64))) x4,.row false 24 (.sl 2 (.int .i64)) x5,.row false 100 (.pair (.int .i64) (.pair (.int .i64) (.int .i64))) x6,.row false 173 (.pair (.int .i64) (.int .i64)) x7,.row false 176 (.pair (.int .i64) (.int .i64)) x8]=>some ⟨.one ⟨false,[.val (.bool (BU x0 x1 x2 x3 x4 x5 x6 x7 x8))]⟩,[.row false 2 aj1 x3,.row false 169 adH x4,.row false 24 (CTy.sl (2:TypeId) aj1) x5,.row false 100 adH x6,.row false 173 aej x7,.row false 176 aej x8],[],[BV x0 x1 x2 x3 x4 x5 x6 x7 x8]⟩
 |_,_=>none
def SH:PF prog:=PF.ofG prog (T3z [lO,OR,Nv]) [] aO 17 f17 func17 (fun c _=>LOk.nil c) Zu (by
 intro vs es r h;unfold Zu at h;split at h
 ·cases h;kernel_rfl
 ·cases h)
theorem WR(x:Int)(l:List Int)(h:l.length≤9223372036854775807):aW x l=arE x l∧dY x l=true:=WS x l h
def lg(b:Int×(Int×Int)):(List Int)→Nat ⊕ (List Int)
 |y3=>(bif(b.2.2==0)then(bif(aW b.1 y3)then(.inl 0)else(.inr (y3++ [b.1])))else(.inr y3))
def nx(y2:List (Int×(Int×Int)))(i:Nat):(List Int)→ig
 |y3=>((i:Int),(↑y2.length:Int),y2,y3)
def Jn:ig→List Int
 |(_,_,_,y3)=>y3
theorem adk(y2:List (Int×(Int×Int)))(y3:List Int)(hn:y2.length≤9223372036854775807)(h8:y2.length≤1000)(h0:y3= []):
  bP.fin ((0:Int),(↑y2.length:Int),y2,y3)=true∧bP.res ((0:Int),(↑y2.length:Int),y2,y3)=((aL (lg) 1 y2 0 y3).1,(nx y2) (aL (lg) 1 y2 0 y3).2.1 (aL (lg) 1 y2 0 y3).2.2):=by
 have dC:=bP.along (nx y2) Jn (lg) 1 (fun i a=>a.length≤i) y2 y3 (by subst h0;simp) (by simp only [bP,nx];omega) (fun i b a hb hI=> ?_) (fun a hI=> ?_)
 ·exact dC
 ·obtain y3:=a
  have eO:=(List.getElem?_eq_some_iff.1 hb).1
  have lh: ∀ d,Option.getD y2[i]? d=b:=fun d=>by rw [hb];rfl
  have hw:=DJ eO hn
  have cm:ltI (i:Int) (y2.length:Int)=true:=eg (by omega)
  have tS:leI (0:Int) (i:Int)=true:=cR (by omega)
  have io:ltN i y2.length=true:=gC eO
  refine⟨?_,?_,?_,?_⟩
  ·have hg2:dF (i:Int) y2=b:=by simp only [dF,Int.toNat_natCast];exact lh _
   have hc:=(WR b.1 a (by omega)).2
   simp [dF,qZ,wO,wP,wQ,wR,wS,wT,wU,wV,wW,sm,vk,vH,bP,LT.nds,allT,nx,cm,tS,io,lh,hc]
   exact .inr (by omega)
  ·simp [dF,qZ,wO,wP,wQ,wR,wS,wT,wU,wV,wW,sm,vk,vH,bP,LT.each,nx,Jn,hw]
  ·simp only [dF,qZ,wO,wP,wQ,wR,wS,wT,wU,wV,wW,sm,vk,vH,bP,LT.fn,nx,Jn,lg,Int.toNat_natCast,cm,tS,io,lh,cond_true,Bool.cond_self]
  ·intro a' hf;simp only [lg]at hf;cases hz:b.2.2==0 <;> rw [hz]at hf <;> simp at hf <;> (try (cases hc:aW b.1 a <;> rw [hc]at hf <;> simp at hf)) <;> subst hf <;> (try simp) <;> omega
 ·obtain y3:=a
  simp [dF,qZ,wO,wP,wQ,wR,wS,wT,wU,wV,wW,sm,vk,vH,bP,LT.out,nx]
theorem Ma: ∀ (fs:List (Int×Int×Int)) (i:Nat) (a:List Int),a.length + fs.length≤9223372036854775807→ ∃ m b,aL lg 1 fs i a=(bif Xc 0 fs a then 1 else 0,m,b)
 | [],i,a,_=>⟨i,a,rfl⟩
 |f::r,i,a,h=>by
  simp only [List.length_cons]at h
  simp only [aL,lg,Xc]
  cases hz:f.2.2==0 with
  |false=>exact Ma r (i + 1) a (by omega)
  |true=>
   simp only [cond_true,(WR f.1 a (by omega)).1]
   cases hh:arE f.1 a with
   |true=>exact⟨i,a,rfl⟩
   |false=>exact Ma r (i + 1) (a++ [f.1]) (by simp;omega)
theorem afj(fs:List (Int×Int×Int))(hn:leN fs.length 1000=true):IE fs=Xc 0 fs []∧IF fs=true:=by
 have hn:=dD.1 hn
 obtain⟨w1,w2⟩:=adk fs [] (by omega) (by omega) rfl
 obtain⟨m,b,e⟩:=Ma fs 0 [] (by simp;omega)
 rw [e]at w2
 have e1:Lp.fin bP (GP fs)=true:=w1
 have e2:bP.res (GP fs)=_:=w2
 simp only [IE,IF,e1,e2,allT]
 cases Xc 0 fs [] <;> simp [Nat.beq]
def kD(b:Int×(Int×Int)):(List Int)→Nat ⊕ (List Int)
 |y3=>(bif(b.2.2==1)then(bif(aW b.1 y3)then(.inl 0)else(.inr (y3++ [b.1])))else(.inr y3))
def lY(y2:List (Int×(Int×Int)))(i:Nat):(List Int)→gh
 |y3=>((i:Int),(↑y2.length:Int),y2,y3)
def HL:gh→List Int
 |(_,_,_,y3)=>y3
theorem acv(y2:List (Int×(Int×Int)))(y3:List Int)(hn:y2.length≤9223372036854775807)(h8:y2.length≤1000)(h0:y3= []):
  bH.fin ((0:Int),(↑y2.length:Int),y2,y3)=true∧bH.res ((0:Int),(↑y2.length:Int),y2,y3)=((aL (kD) 1 y2 0 y3).1,(lY y2) (aL (kD) 1 y2 0 y3).2.1 (aL (kD) 1 y2 0 y3).2.2):=by
 have dC:=bH.along (lY y2) HL (kD) 1 (fun i a=>a.length≤i) y2 y3 (by subst h0;simp) (by simp only [bH,lY];omega) (fun i b a hb hI=> ?_) (fun a hI=> ?_)
 ·exact dC
 ·obtain y3:=a
  have eO:=(List.getElem?_eq_some_iff.1 hb).1
  have lh: ∀ d,Option.getD y2[i]? d=b:=fun d=>by rw [hb];rfl
  have hw:=DJ eO hn
  have cm:ltI (i:Int) (y2.length:Int)=true:=eg (by omega)
  have tS:leI (0:Int) (i:Int)=true:=cR (by omega)
  have io:ltN i y2.length=true:=gC eO
  refine⟨?_,?_,?_,?_⟩
  ·have hg2:cY (i:Int) y2=b:=by simp only [cY,Int.toNat_natCast];exact lh _
   have hc:=(WR b.1 a (by omega)).2
   simp [cY,oW,vl,vm,vn,vo,vp,vq,vr,vt,vu,ra,tV,ud,bH,LT.nds,allT,lY,cm,tS,io,lh,hc]
   exact .inr (by omega)
  ·simp [cY,oW,vl,vm,vn,vo,vp,vq,vr,vt,vu,ra,tV,ud,bH,LT.each,lY,HL,hw]
  ·simp only [cY,oW,vl,vm,vn,vo,vp,vq,vr,vt,vu,ra,tV,ud,bH,LT.fn,lY,HL,kD,Int.toNat_natCast,cm,tS,io,lh,cond_true,Bool.cond_self]
  ·intro a' hf;simp only [kD]at hf;cases hz:b.2.2==1 <;> rw [hz]at hf <;> simp at hf <;> (try (cases hc:aW b.1 a <;> rw [hc]at hf <;> simp at hf)) <;> subst hf <;> (try simp) <;> omega
 ·obtain y3:=a
  simp [cY,oW,vl,vm,vn,vo,vp,vq,vr,vt,vu,ra,tV,ud,bH,LT.out,lY]
theorem KO: ∀ (fs:List (Int×Int×Int)) (i:Nat) (a:List Int),a.length + fs.length≤9223372036854775807→ ∃ m b,aL kD 1 fs i a=(bif Xc 1 fs a then 1 else 0,m,b)
 | [],i,a,_=>⟨i,a,rfl⟩
 |f::r,i,a,h=>by
  simp only [List.length_cons]at h
  simp only [aL,kD,Xc]
  cases hz:f.2.2==1 with
  |false=>exact KO r (i + 1) a (by omega)
  |true=>
   simp only [cond_true,(WR f.1 a (by omega)).1]
   cases hh:arE f.1 a with
   |true=>exact⟨i,a,rfl⟩
   |false=>exact KO r (i + 1) (a++ [f.1]) (by simp;omega)
theorem aek(fs:List (Int×Int×Int))(hn:leN fs.length 1000=true):GR fs=Xc 1 fs []∧GS fs=true:=by
 have hn:=dD.1 hn
 obtain⟨w1,w2⟩:=acv fs [] (by omega) (by omega) rfl
 obtain⟨m,b,e⟩:=KO fs 0 [] (by simp;omega)
 rw [e]at w2
 have e1:Lp.fin bH (FT fs)=true:=w1
 have e2:bH.res (FT fs)=_:=w2
 simp only [GR,GS,e1,e2,allT]
 cases Xc 1 fs [] <;> simp [Nat.beq]
theorem akM(n mode day:Int)(ps:LI)(fs:L3)(rs:List LI)(lf:L3)(pl ls:L2)(h:uD 9223372036854775807 ps fs rs lf pl ls=true):
  BU n mode day ps fs rs lf pl ls=aah n ps fs rs lf mode pl ls day∧BV n mode day ps fs rs lf pl ls=true:=by
 cases ho:uL n ps fs rs lf mode pl ls day with
 |false=>simp [BU,BV,Km,aah,ho,h,allT]
 |true=>
  have f:=aqS ho
  obtain⟨e1,e2⟩:=afj fs (dj (by have:=f.lfs;omega))
  obtain⟨e3,e4⟩:=aek lf (dj (by have:=f.llf;omega))
  simp only [BU,BV,Km,aah,ho,h,e1,e2,e3,e4,allT,cond_true,Bool.true_and,Bool.or_true,and_true]
  cases Xc 0 fs [] <;> rfl
end Go.SX
