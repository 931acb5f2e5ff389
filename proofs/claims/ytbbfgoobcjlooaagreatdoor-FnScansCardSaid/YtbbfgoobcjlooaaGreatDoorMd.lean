/- What functions of the program come to, and what that says in plain words: part 4. -/
import Derived.Test.YtbbfgoobcjlooaaGreatDoorMc
import Derived.Test.YtbbfgoobcjlooaaGreatDoorTXh
import Derived.Test.YtbbfgoobcjlooaaGreatDoorProg
import Derived.Test.YtbbfgoobcjlooaaGreatDoorTXi
set_option linter.unusedSimpArgs false
set_option linter.unusedVariables false
namespace Go.SX
open Go.Proofs Go.Proofs.Tryz
set_option maxRecDepth 100000
abbrev oj:=List ByteArray×Int×Int×List Int
section
variable (y0:List ByteArray)(y1 y2:Int)(y3:List Int)
def EF:List ByteArray:= [ByteArray.mk #[105]++Kk (↑y0.length:Int)]
def MO:Bool:=aA y1 y2 y3
def MP:Bool:=ltI (↑y0.length:Int) (IntKind.wrap .i64 ((20:Int) + nxV 2 y1 y2 y3))
def MQ:Bool:=leI 0 (↑y0.length:Int)&&ltI (↑y0.length:Int) 100
def TT:Bool:=leN (ByteArray.size (ByteArray.mk #[105]) + ByteArray.size (Kk (↑y0.length:Int))) 9223372036854775807
def TU:Bool:=leN (List.length y0 + List.length (EF y0)) 9223372036854775807
def TV:Bool:=leN ((List.length y0 + List.length (EF y0)) * 16) 140737488355328
def FL:List ByteArray:=y0++EF y0
def Bg:Int:=nxA 2 y1 y3
def Bh:Int:=nxS 2 y1 y2 y3
end
def abo:oj→List (Nat×SV)
 |(_,_,_,_)=> [(5,(.one ⟨false,[.ref 0]⟩)),(0,(.one ⟨false,[.ptr 1 0]⟩))]
def abj:oj→List (Nat×Entry)
 |(y0,y1,y2,y3)=> [(1,(.box 197 [.ref 2,.val (.int .i64 y1),.val (.int .i64 y2)])),(2,(.row false 5 aj7 y3)),(0,(.row true 9 alP y0))]
def aby:Nat→oj→List (Nat×SV)
 |_,(_,_,_,_)=> [(5,(.one ⟨false,[.ref 0]⟩))]
def abt:Nat→oj→List (Nat×Entry)
 |_,(y0,y1,y2,y3)=> [(0,(.row true 9 alP y0)),(1,(.box 197 [.ref 2,.val (.int .i64 (Bg y1 y3)),.val (.int .i64 (Bh y1 y2 y3))])),(2,(.row false 5 aj7 y3))]
def KD:oj→LT oj
 |(y0,y1,y2,y3)=> .need [MO y1 y2 y3] (.ite (MP y0 y1 y2 y3) (.need [MQ y0,TT y0,TU y0,TV y0] (.nrm ((FL y0),Bg y1 y3,Bh y1 y2 y3,y3) [(0,832),(1,1),(2,2)])) (.ext 0 [(0,0),(1,1),(2,2)]))
def KJ(s:St):Option oj:=
 (match s.look 5 with
 |some ⟨none,.one ⟨false,[.ref 320]⟩⟩=>
 (match s.look 0 with
 |some ⟨none,.one ⟨false,[.ptr 0 0]⟩⟩=>
 (match s.ent 0 with
 |some (.box 197 [.ref 1,.val (.int .i64 y1),.val (.int .i64 y2)])=>
 (match s.ent 1 with
 |some (.row false 5 (.int IntKind.u8) y3)=>
 (match s.ent 320 with
 |some (.row true 9 (.str) y0)=>
 some (y0,y1,y2,y3)
 |_=>none)
 |_=>none)
 |_=>none)
 |_=>none)
 |_=>none)
def gt:Lp oj where
 h:=⟨[68,69,70,71,72,73,74,75,76,77,78,79,80,5],[1,2],[0],[]⟩
 JL:=abo
 JE:=abj
 XL:=aby
 XE:=abt
 q:=fun j=>match j with | _=> .exit 1
 tags:= [0]
 lt:=KD
 fuel:=fun(y0,y1,y2,y3)=>y0.length + y1.natAbs + y2.natAbs + y3.length
 fix:=fun(_,_,_,y3) (y0,y1,y2,_)=>(y0,y1,y2,y3)
 σ:= [(1,0),(2,1),(0,320)]
 rd:=KJ
theorem Zt:LoopOk prog (fun k=>Nat.blt k Tryz.f172.ntmps) gt.F (aY f172 0):=by
 refine Lp.ok (tbl:= (T3z [af,ri,jX,YI])) (lf:= []) aV gt (by kernel_rfl) (LOk.nil _) (fun _=>rfl) (fun _ _=>rfl) ?_ ?_ ?_ ?_ (fun _=>rfl) ?_
 ·rintro⟨y0,y1,y2,y3⟩;kernel_rfl
 ·rintro⟨y0,y1,y2,y3⟩;kernel_rfl
 ·intro s x h
  have h:KJ s=some x:=h
  unfold KJ at h
  repeat' split at h
  all_goals cases h
  constructor<;>repeat(first|refine ab (by assumption) rfl ?_|refine aa rfl (by assumption) rfl ?_|exact rfl)
 ·rintro⟨y0,y1,y2,y3⟩;kernel_rfl
 ·rintro⟨y0,y1,y2,y3⟩ z;exact(And.intro rfl trivial)
abbrev ol:=List (ByteArray×(List (Int×(ByteArray×Int))))×Int×Int×List Int
def EG(y0:List (ByteArray×(List (Int×(ByteArray×Int))))):Int:=(↑y0.length:Int)
def EH(y0:List (ByteArray×(List (Int×(ByteArray×Int))))):ByteArray×List (Int×ByteArray×Int):=Option.getD y0[Int.toNat 0]? (xE aas)
def EI(y0:List (ByteArray×(List (Int×(ByteArray×Int))))):List (ByteArray×List (Int×ByteArray×Int)):= [((EH y0).1,(EH y0).2)]
def MR(y1 y2:Int)(y3:List Int):Bool:=aA y1 y2 y3
def MT(y0:List (ByteArray×(List (Int×(ByteArray×Int)))))(y1 y2:Int)(y3:List Int):Bool:=ltI (EG y0) (IntKind.wrap .i64 ((40:Int) + nxV 2 y1 y2 y3))
def TW:Bool:=leI 0 0
def TX(y0:List (ByteArray×(List (Int×(ByteArray×Int))))):Bool:=ltI 0 (EG y0)
def TY(y0:List (ByteArray×(List (Int×(ByteArray×Int))))):Bool:=ltN (Int.toNat 0) y0.length
def TZ(y0:List (ByteArray×(List (Int×(ByteArray×Int))))):Bool:=leN (List.length y0 + List.length (EI y0)) 9223372036854775807
def Ua(y0:List (ByteArray×(List (Int×(ByteArray×Int))))):Bool:=leN ((List.length y0 + List.length (EI y0)) * 40) 140737488355328
def FM(y0:List (ByteArray×(List (Int×(ByteArray×Int))))):List (ByteArray×(List (Int×(ByteArray×Int)))):=y0++EI y0
def Bi(y1:Int)(y3:List Int):Int:=nxA 2 y1 y3
def Bj(y1 y2:Int)(y3:List Int):Int:=nxS 2 y1 y2 y3
def abp:ol→List (Nat×SV)
 |(_,_,_,_)=> [(6,(.one ⟨false,[.ref 0]⟩)),(0,(.one ⟨false,[.ptr 1 0]⟩))]
def abk:ol→List (Nat×Entry)
 |(y0,y1,y2,y3)=> [(1,(.box 197 [.ref 2,.val (.int .i64 y1),.val (.int .i64 y2)])),(2,(.row false 5 aj7 y3)),(0,(.row true 204 aas y0))]
def abz:Nat→ol→List (Nat×SV)
 |_,(_,_,_,_)=> [(6,(.one ⟨false,[.ref 0]⟩))]
def abu:Nat→ol→List (Nat×Entry)
 |_,(y0,y1,y2,y3)=> [(0,(.row true 204 aas y0)),(1,(.box 197 [.ref 2,.val (.int .i64 (Bi y1 y3)),.val (.int .i64 (Bj y1 y2 y3))])),(2,(.row false 5 aj7 y3))]
def KE:ol→LT ol
 |(y0,y1,y2,y3)=> .need [MR y1 y2 y3] (.ite (MT y0 y1 y2 y3) (.need [TW,TX y0,TY y0,TZ y0,Ua y0] (.nrm ((FM y0),Bi y1 y3,Bj y1 y2 y3,y3) [(0,768),(1,1),(2,2)])) (.ext 0 [(0,0),(1,1),(2,2)]))
def KK(s:St):Option ol:=
 (match s.look 6 with
 |some ⟨none,.one ⟨false,[.ref 323]⟩⟩=>
 (match s.look 0 with
 |some ⟨none,.one ⟨false,[.ptr 0 0]⟩⟩=>
 (match s.ent 0 with
 |some (.box 197 [.ref 1,.val (.int .i64 y1),.val (.int .i64 y2)])=>
 (match s.ent 1 with
 |some (.row false 5 (.int IntKind.u8) y3)=>
 (match s.ent 323 with
 |some (.row true 204 (.pair .str (.sl 178 (.pair (.int .i64) (.pair .str (.int .i64))))) y0)=>
 some (y0,y1,y2,y3)
 |_=>none)
 |_=>none)
 |_=>none)
 |_=>none)
 |_=>none)
def gu:Lp ol where
 h:=⟨[87,88,89,90,91,92,93,94,95,96,97,98,6],[1,2],[0],[]⟩
 JL:=abp
 JE:=abk
 XL:=abz
 XE:=abu
 q:=fun j=>match j with | _=> .exit 3
 tags:= [0]
 lt:=KE
 fuel:=fun(y0,y1,y2,y3)=>y0.length + y1.natAbs + y2.natAbs + y3.length
 fix:=fun(_,_,_,y3) (y0,y1,y2,_)=>(y0,y1,y2,y3)
 σ:= [(1,0),(2,1),(0,323)]
 rd:=KK
theorem Zu:LoopOk prog (fun k=>Nat.blt k Tryz.f172.ntmps) gu.F (aY f172 1):=by
 refine Lp.ok (tbl:= (T3z [af,ri,jX,YI])) (lf:= []) aV gu (by kernel_rfl) (LOk.nil _) (fun _=>rfl) (fun _ _=>rfl) ?_ ?_ ?_ ?_ (fun _=>rfl) ?_
 ·rintro⟨y0,y1,y2,y3⟩;kernel_rfl
 ·rintro⟨y0,y1,y2,y3⟩;kernel_rfl
 ·intro s x h
  have h:KK s=some x:=h
  unfold KK at h
  repeat' split at h
  all_goals cases h
  constructor<;>repeat(first|refine ab (by assumption) rfl ?_|refine aa rfl (by assumption) rfl ?_|exact rfl)
 ·rintro⟨y0,y1,y2,y3⟩;kernel_rfl
 ·rintro⟨y0,y1,y2,y3⟩ z;exact(And.intro rfl trivial)
section
variable (x0 x1:Int)(x2:List Int)
def lq:Int:=(↑(List.length (gk x0 x1 x2)):Int)
def Jt:Int:=nxS (lq x0 x1 x2) (qe x0 x1 x2) (Bk x0 x1 x2) x2
def th:Int:=nxV 30 (nxA (lq x0 x1 x2) (qe x0 x1 x2) x2) (Jt x0 x1 x2) x2
def aq:Bool:=th x0 x1 x2==0
def cN:Int:=nxA 30 (nxA (lq x0 x1 x2) (qe x0 x1 x2) x2) x2
def ek:Int:=nxS 30 (nxA (lq x0 x1 x2) (qe x0 x1 x2) x2) (Jt x0 x1 x2) x2
def oS:Int:=nxV 3 (cN x0 x1 x2) (ek x0 x1 x2) x2
def aG:Bool:=th x0 x1 x2==1
def aH:Bool:=th x0 x1 x2==2
def aS:Bool:=th x0 x1 x2==3
def bH:Bool:=th x0 x1 x2==4
def cX:Bool:=th x0 x1 x2==5
def dA:Bool:=th x0 x1 x2==6
def dO:Bool:=th x0 x1 x2==7
def GZ:Int×Int×List Int:=(cN x0 x1 x2,ek x0 x1 x2,x2)
def yM:List ByteArray×Int×Int×List Int:=(mP x0 x1 x2,GZ x0 x1 x2)
def vf:Int×Int×List Int:=(Lp.res gt (yM x0 x1 x2)).2.2
def yN:List (ByteArray×List (Int×ByteArray×Int))×Int×Int×List Int:=(gk x0 x1 x2,GZ x0 x1 x2)
def vg:Int×Int×List Int:=(Lp.res gu (yN x0 x1 x2)).2.2
def UU:Int:=nxS 3 (cN x0 x1 x2) (ek x0 x1 x2) x2
def UV:Int:=nxS 4 (cN x0 x1 x2) (ek x0 x1 x2) x2
def nE:Int:=nxV 4 (cN x0 x1 x2) (ek x0 x1 x2) x2
def vh:List ByteArray:= [Option.getD [ByteArray.mk #[97],ByteArray.mk #[113],ByteArray.mk #[119],ByteArray.mk #[111,110]][Int.toNat (nE x0 x1 x2)]? ByteArray.empty]
def nF:Int:=nxV (lq x0 x1 x2) (qe x0 x1 x2) (Bk x0 x1 x2) x2
def Ha:ByteArray×List (Int×ByteArray×Int):=Option.getD (gk x0 x1 x2)[Int.toNat (nF x0 x1 x2)]? (xE aas)
def Oj:Bool:=ltN (Int.toNat (nF x0 x1 x2)) (List.length (gk x0 x1 x2))
def FD:ByteArray:=bif aq x0 x1 x2 then Option.getD [ByteArray.mk #[],ByteArray.mk #[101,110,100],ByteArray.mk #[82,105,100,101]][Int.toNat (oS x0 x1 x2)]? ByteArray.empty else bif aG x0 x1 x2 then qd x0 x1 x2 else bif aH x0 x1 x2 then qd x0 x1 x2 else bif aS x0 x1 x2 then qd x0 x1 x2 else bif bH x0 x1 x2 then qd x0 x1 x2 else bif cX x0 x1 x2 then qd x0 x1 x2 else bif dA x0 x1 x2 then qd x0 x1 x2 else bif dO x0 x1 x2 then qd x0 x1 x2 else qd x0 x1 x2
def FE:ByteArray:=bif aq x0 x1 x2 then rr x0 x1 x2 else bif aG x0 x1 x2 then ByteArray.mk #[]else bif aH x0 x1 x2 then Option.getD [ByteArray.mk #[97,110,100],ByteArray.mk #[120],ByteArray.mk #[110,111,119,104,101,114,101]][Int.toNat (oS x0 x1 x2)]? ByteArray.empty else bif aS x0 x1 x2 then rr x0 x1 x2 else bif bH x0 x1 x2 then rr x0 x1 x2 else bif cX x0 x1 x2 then rr x0 x1 x2 else bif dA x0 x1 x2 then rr x0 x1 x2 else bif dO x0 x1 x2 then rr x0 x1 x2 else rr x0 x1 x2
def FF:Int:=bif aq x0 x1 x2 then nxA 3 (cN x0 x1 x2) x2 else bif aG x0 x1 x2 then cN x0 x1 x2 else bif aH x0 x1 x2 then nxA 3 (cN x0 x1 x2) x2 else bif aS x0 x1 x2 then nxA 4 (cN x0 x1 x2) x2 else bif bH x0 x1 x2 then we (cN x0 x1 x2) (ek x0 x1 x2) x2 else bif cX x0 x1 x2 then Bg ((vf x0 x1 x2).1) x2 else bif dA x0 x1 x2 then Bi ((vg x0 x1 x2).1) x2 else bif dO x0 x1 x2 then nxA 4 (cN x0 x1 x2) x2 else cN x0 x1 x2
def FG:Int:=bif aq x0 x1 x2 then UU x0 x1 x2 else bif aG x0 x1 x2 then ek x0 x1 x2 else bif aH x0 x1 x2 then UU x0 x1 x2 else bif aS x0 x1 x2 then UV x0 x1 x2 else bif bH x0 x1 x2 then wg (cN x0 x1 x2) (ek x0 x1 x2) x2 else bif cX x0 x1 x2 then Bh ((vf x0 x1 x2).1) (((vf x0 x1 x2).2).1) x2 else bif dA x0 x1 x2 then Bj ((vg x0 x1 x2).1) (((vg x0 x1 x2).2).1) x2 else bif dO x0 x1 x2 then UV x0 x1 x2 else ek x0 x1 x2
def FH:List ByteArray:=bif aq x0 x1 x2 then mP x0 x1 x2 else bif aG x0 x1 x2 then []else bif aH x0 x1 x2 then mP x0 x1 x2 else bif aS x0 x1 x2 then mP x0 x1 x2 else bif bH x0 x1 x2 then mP x0 x1 x2 else bif cX x0 x1 x2 then ((Lp.res gt (yM x0 x1 x2)).2).1else bif dA x0 x1 x2 then mP x0 x1 x2 else bif dO x0 x1 x2 then mP x0 x1 x2 else mP x0 x1 x2
def FI:List ByteArray:=bif aq x0 x1 x2 then eH x0 x1 x2 else bif aG x0 x1 x2 then eH x0 x1 x2 else bif aH x0 x1 x2 then eH x0 x1 x2 else bif aS x0 x1 x2 then eH x0 x1 x2 else bif bH x0 x1 x2 then eH x0 x1 x2 else bif cX x0 x1 x2 then eH x0 x1 x2 else bif dA x0 x1 x2 then eH x0 x1 x2 else bif dO x0 x1 x2 then eH x0 x1 x2++vh x0 x1 x2 else eH x0 x1 x2
def FJ:List ByteArray:=bif aq x0 x1 x2 then qf x0 x1 x2 else bif aG x0 x1 x2 then qf x0 x1 x2 else bif aH x0 x1 x2 then qf x0 x1 x2 else bif aS x0 x1 x2 then qf x0 x1 x2 else bif bH x0 x1 x2 then qf x0 x1 x2 else bif cX x0 x1 x2 then qf x0 x1 x2 else bif dA x0 x1 x2 then qf x0 x1 x2 else bif dO x0 x1 x2 then qf x0 x1 x2 else qf x0 x1 x2
def FK:List (ByteArray×(List (Int×(ByteArray×Int)))):=bif aq x0 x1 x2 then gk x0 x1 x2 else bif aG x0 x1 x2 then gk x0 x1 x2 else bif aH x0 x1 x2 then gk x0 x1 x2 else bif aS x0 x1 x2 then List.set (gk x0 x1 x2) (Int.toNat (nF x0 x1 x2)) (Option.getD [ByteArray.mk #[],ByteArray.mk #[111,114],ByteArray.mk #[97],ByteArray.mk #[113]][Int.toNat (nE x0 x1 x2)]? ByteArray.empty,(Ha x0 x1 x2).2)else bif bH x0 x1 x2 then List.set (gk x0 x1 x2) (Int.toNat (nF x0 x1 x2)) ((Ha x0 x1 x2).1,wh (cN x0 x1 x2) (ek x0 x1 x2) x2)else bif cX x0 x1 x2 then gk x0 x1 x2 else bif dA x0 x1 x2 then ((Lp.res gu (yN x0 x1 x2)).2).1else bif dO x0 x1 x2 then gk x0 x1 x2 else gk x0 x1 x2
def RB:Bool:=allT [aA x0 x1 x2,aA (qe x0 x1 x2) (Bk x0 x1 x2) x2,aA (nxA (lq x0 x1 x2) (qe x0 x1 x2) x2) (Jt x0 x1 x2) x2,!aq x0 x1 x2||aA (cN x0 x1 x2) (ek x0 x1 x2) x2,!aq x0 x1 x2||leI 0 (oS x0 x1 x2),!aq x0 x1 x2||ltI (oS x0 x1 x2) (↑(List.length [ByteArray.mk #[],ByteArray.mk #[101,110,100],ByteArray.mk #[82,105,100,101]]):Int),!aq x0 x1 x2||ltN (Int.toNat (oS x0 x1 x2)) (List.length [ByteArray.mk #[],ByteArray.mk #[101,110,100],ByteArray.mk #[82,105,100,101]]),aq x0 x1 x2||(aG x0 x1 x2||(!aH x0 x1 x2||aA (cN x0 x1 x2) (ek x0 x1 x2) x2)),aq x0 x1 x2||(aG x0 x1 x2||(!aH x0 x1 x2||leI 0 (oS x0 x1 x2))),aq x0 x1 x2||(aG x0 x1 x2||(!aH x0 x1 x2||ltI (oS x0 x1 x2) (↑(List.length [ByteArray.mk #[97,110,100],ByteArray.mk #[120],ByteArray.mk #[110,111,119,104,101,114,101]]):Int))),aq x0 x1 x2||(aG x0 x1 x2||(!aH x0 x1 x2||ltN (Int.toNat (oS x0 x1 x2)) (List.length [ByteArray.mk #[97,110,100],ByteArray.mk #[120],ByteArray.mk #[110,111,119,104,101,114,101]]))),aq x0 x1 x2||(aG x0 x1 x2||(aH x0 x1 x2||(!aS x0 x1 x2||aA (cN x0 x1 x2) (ek x0 x1 x2) x2))),aq x0 x1 x2||(aG x0 x1 x2||(aH x0 x1 x2||(!aS x0 x1 x2||leI 0 (nE x0 x1 x2)))),aq x0 x1 x2||(aG x0 x1 x2||(aH x0 x1 x2||(!aS x0 x1 x2||ltI (nE x0 x1 x2) (↑(List.length [ByteArray.mk #[],ByteArray.mk #[111,114],ByteArray.mk #[97],ByteArray.mk #[113]]):Int)))),aq x0 x1 x2||(aG x0 x1 x2||(aH x0 x1 x2||(!aS x0 x1 x2||ltN (Int.toNat (nE x0 x1 x2)) (List.length [ByteArray.mk #[],ByteArray.mk #[111,114],ByteArray.mk #[97],ByteArray.mk #[113]])))),aq x0 x1 x2||(aG x0 x1 x2||(aH x0 x1 x2||(!aS x0 x1 x2||leI 0 (nF x0 x1 x2)))),aq x0 x1 x2||(aG x0 x1 x2||(aH x0 x1 x2||(!aS x0 x1 x2||ltI (nF x0 x1 x2) (lq x0 x1 x2)))),aq x0 x1 x2||(aG x0 x1 x2||(aH x0 x1 x2||(!aS x0 x1 x2||Oj x0 x1 x2))),aq x0 x1 x2||(aG x0 x1 x2||(aH x0 x1 x2||(aS x0 x1 x2||(!bH x0 x1 x2||aA (cN x0 x1 x2) (ek x0 x1 x2) x2)))),aq x0 x1 x2||(aG x0 x1 x2||(aH x0 x1 x2||(aS x0 x1 x2||(!bH x0 x1 x2||leI 0 (nF x0 x1 x2))))),aq x0 x1 x2||(aG x0 x1 x2||(aH x0 x1 x2||(aS x0 x1 x2||(!bH x0 x1 x2||ltI (nF x0 x1 x2) (lq x0 x1 x2))))),aq x0 x1 x2||(aG x0 x1 x2||(aH x0 x1 x2||(aS x0 x1 x2||(!bH x0 x1 x2||Oj x0 x1 x2)))),aq x0 x1 x2||(aG x0 x1 x2||(aH x0 x1 x2||(aS x0 x1 x2||(bH x0 x1 x2||(!cX x0 x1 x2||Lp.fin gt (yM x0 x1 x2)))))),aq x0 x1 x2||(aG x0 x1 x2||(aH x0 x1 x2||(aS x0 x1 x2||(bH x0 x1 x2||(cX x0 x1 x2||(!dA x0 x1 x2||Lp.fin gu (yN x0 x1 x2))))))),aq x0 x1 x2||(aG x0 x1 x2||(aH x0 x1 x2||(aS x0 x1 x2||(bH x0 x1 x2||(cX x0 x1 x2||(dA x0 x1 x2||(!dO x0 x1 x2||leN (0 + List.length (eH x0 x1 x2)) 9223372036854775807))))))),aq x0 x1 x2||(aG x0 x1 x2||(aH x0 x1 x2||(aS x0 x1 x2||(bH x0 x1 x2||(cX x0 x1 x2||(dA x0 x1 x2||(!dO x0 x1 x2||leN ((0 + List.length (eH x0 x1 x2)) * 16) 140737488355328))))))),aq x0 x1 x2||(aG x0 x1 x2||(aH x0 x1 x2||(aS x0 x1 x2||(bH x0 x1 x2||(cX x0 x1 x2||(dA x0 x1 x2||(!dO x0 x1 x2||aA (cN x0 x1 x2) (ek x0 x1 x2) x2))))))),aq x0 x1 x2||(aG x0 x1 x2||(aH x0 x1 x2||(aS x0 x1 x2||(bH x0 x1 x2||(cX x0 x1 x2||(dA x0 x1 x2||(!dO x0 x1 x2||leI 0 (nE x0 x1 x2)))))))),aq x0 x1 x2||(aG x0 x1 x2||(aH x0 x1 x2||(aS x0 x1 x2||(bH x0 x1 x2||(cX x0 x1 x2||(dA x0 x1 x2||(!dO x0 x1 x2||ltI (nE x0 x1 x2) (↑(List.length [ByteArray.mk #[97],ByteArray.mk #[113],ByteArray.mk #[119],ByteArray.mk #[111,110]]):Int)))))))),aq x0 x1 x2||(aG x0 x1 x2||(aH x0 x1 x2||(aS x0 x1 x2||(bH x0 x1 x2||(cX x0 x1 x2||(dA x0 x1 x2||(!dO x0 x1 x2||ltN (Int.toNat (nE x0 x1 x2)) (List.length [ByteArray.mk #[97],ByteArray.mk #[113],ByteArray.mk #[119],ByteArray.mk #[111,110]])))))))),aq x0 x1 x2||(aG x0 x1 x2||(aH x0 x1 x2||(aS x0 x1 x2||(bH x0 x1 x2||(cX x0 x1 x2||(dA x0 x1 x2||(!dO x0 x1 x2||leN (List.length (eH x0 x1 x2) + List.length (vh x0 x1 x2)) 9223372036854775807))))))),aq x0 x1 x2||(aG x0 x1 x2||(aH x0 x1 x2||(aS x0 x1 x2||(bH x0 x1 x2||(cX x0 x1 x2||(dA x0 x1 x2||(!dO x0 x1 x2||leN ((List.length (eH x0 x1 x2) + List.length (vh x0 x1 x2)) * 16) 140737488355328)))))))]
end
def Xp:List SV→List Entry→Option Out
 | [.one ⟨false,[.ptr 0 0]⟩],[.box 197 [.ref 1,.val (.int .i64 x0),.val (.int .i64 x1)],.row false 5 (.int .u8) x2]=>some ⟨.one ⟨true,[.val (.string (FD x0 x1 x2)),.ref 2,.ref 3,.ref 4,.val (.string (FE x0 x1 x2)),.ref 5]⟩,[.box 197 [.ref 1,.val (.int .i64 (FF x0 x1 x2)),.val (.int .i64 (FG x0 x1 x2))],.row false 5 aj7 x2],[.row true 9 alP (FH x0 x1 x2),.row true 9 alP (FI x0 x1 x2),.row true 9 alP (FJ x0 x1 x2),.row true 204 aas (FK x0 x1 x2)],[RB x0 x1 x2]⟩
 |_,_=>none
def ahf:PF prog:=PF.ofG prog (T3z [af,ri,jX,YI]) [gt.F,gu.F] aV 172 f172 func172 (LOk.fnT (l:= [aY f172 0,aY f172 1]) (by kernel_rfl) (.cons Zt (.cons Zu (.nil _)))) Xp (by
 intro vs es r h;unfold Xp at h;split at h
 ·cases h;kernel_rfl
 ·cases h)
theorem anH{m:Nat}{a:List LN}(i:Nat){b:LN}(h:YC m a=true)(h1:b.1.size≤1000)(h2:Sk 1000 b.2=true):YC m (a.set i b)=true:=by
 obtain⟨k1,k2⟩:=OA.1 h
 refine OA.2 ⟨by rw [List.length_set];omega,fun x hx=> ?_⟩
 rcases List.mem_or_eq_of_mem_set hx with hx | hx
 ·exact k2 x hx
 ·rw [hx];exact⟨h1,h2⟩
theorem arY{m:Nat}{l:List LN}{d:LN}(h:YC m l=true)(k:Nat)(hd:d.1.size≤1000∧Sk 1000 d.2=true):(Option.getD l[k]? d).1.size≤1000∧Sk 1000 (Option.getD l[k]? d).2=true:=by
 cases hk:l[k]? with
 |none=>exact hd
 |some s=>exact(OA.1 h).2 s (List.mem_of_getElem? hk)
 attribute [local irreducible] nxA nxS nxV pkA pkS pkV
theorem ZH(c:List Int)(x:oj)(hx:match x with | (y0,y1,y2,y3)=>22≤y0.length + (22:Nat)∧aA y1 y2 y3=true∧y0.length + (22:Nat)≤30∧Pp 50 y0=true∧y3=c):
  gt.fin x=true∧ ∃ j y,gt.res x=(j,y)∧(match y with | (y0,y1,y2,y3)=>aA y1 y2 c=true∧Pp 50 y0=true∧c=y3):=by
 refine gt.inv2 (fun k x=>match x with | (y0,y1,y2,y3)=>22≤y0.length + k∧aA y1 y2 y3=true∧y0.length + k≤30∧Pp 50 y0=true∧y3=c) (fun y=>match y with | (y0,y1,y2,y3)=>aA y1 y2 c=true∧Pp 50 y0=true∧c=y3) (fun k x hx=> ?_) (fun x hx=> ?_) 22 x (by omega) hx
 ·obtain⟨y0,y1,y2,y3⟩:=x
  obtain⟨h0,h1,h2,h3,rfl⟩:=hx
  have hd:MQ y0=true:=by simp only [MQ,Bool.and_eq_true];exact⟨cM (by omega),fv (by omega)⟩
  have ds:=(aqE _ hd).2
  have l0:(EF y0).length=1:=rfl
  have p0:MO y1 y2 y3=true:=h1
  have p3:TT y0=true:=ci (by have:(ByteArray.mk #[105]).size=1:=rfl;omega)
  have p4:TU y0=true:=ci (by rw [l0];omega)
  have p5:TV y0=true:=ci (by rw [l0];omega)
  have l6:(FL y0).length=y0.length + 1:=by simp only [FL,List.length_append,l0]
  have m6:Pp 50 (FL y0)=true:=by
   refine sM.2 ⟨by omega,fun s hs=> ?_⟩
   rcases List.mem_append.1 hs with hs | hs
   ·exact(sM.1 h3).2 s hs
   ·rw [List.mem_singleton.1 hs,ByteArray.size_append]
    have:(ByteArray.mk #[105]).size=1:=rfl
    omega
  have s7:aA (Bg y1 y3) (Bh y1 y2 y3) y3=true:=jJ h1
  simp only [gt,KD,LT.ok,Pj,Pk,and_true,true_and,p0,hd,p3,p4,p5]
  exact⟨fun _=>⟨by omega,s7,by omega,m6⟩,fun _=>⟨h1,h3⟩⟩
 ·obtain⟨y0,y1,y2,y3⟩:=x
  obtain⟨h0,h1,h2,h3,rfl⟩:=hx
  have nn:=Ln (n:=2) h1 (by omega)
  have hw:IntKind.i64.wrap (20 + nxV 2 y1 y2 y3)=20 + nxV 2 y1 y2 y3:=bi (by omega) (by omega)
  have e1:MP y0 y1 y2 y3=false:=by simp only [MP,hw];exact NM (by omega)
  have p0:MO y1 y2 y3=true:=h1
  simp only [gt,KD,LT.ok,Pj,Pk,and_true,true_and,p0,e1,Bool.false_eq_true,false_implies,true_implies]
  exact⟨h1,h3⟩
theorem ZI(c:List Int)(x:ol)(hx:match x with | (y0,y1,y2,y3)=>42≤y0.length + (42:Nat)∧aA y1 y2 y3=true∧y0.length + (42:Nat)≤92∧1≤y0.length∧YC 100 y0=true∧y3=c):
  gu.fin x=true∧ ∃ j y,gu.res x=(j,y)∧(match y with | (y0,y1,y2,y3)=>aA y1 y2 c=true∧YC 100 y0=true∧c=y3):=by
 refine gu.inv2 (fun k x=>match x with | (y0,y1,y2,y3)=>42≤y0.length + k∧aA y1 y2 y3=true∧y0.length + k≤92∧1≤y0.length∧YC 100 y0=true∧y3=c) (fun y=>match y with | (y0,y1,y2,y3)=>aA y1 y2 c=true∧YC 100 y0=true∧c=y3) (fun k x hx=> ?_) (fun x hx=> ?_) 42 x (by omega) hx
 ·obtain⟨y0,y1,y2,y3⟩:=x
  obtain⟨h0,h1,h2,h3,h4,rfl⟩:=hx
  have l2:(EI y0).length=1:=rfl
  have p0:MR y1 y2 y3=true:=h1
  have p2:TW=true:=rfl
  have p3:TX y0=true:=fv (by simp only [EG];omega)
  have p4:TY y0=true:=gM (by simp only [Int.toNat_zero];omega)
  have p5:TZ y0=true:=ci (by rw [l2];omega)
  have p6:Ua y0=true:=ci (by rw [l2];omega)
  have l7:(FM y0).length=y0.length + 1:=by simp only [FM,List.length_append,l2]
  have ha:(EH y0).1.size≤1000∧Sk 1000 (EH y0).2=true:=arY h4 _ ⟨Nat.zero_le _,rfl⟩
  have m7:YC 100 (FM y0)=true:=by
   refine OA.2 ⟨by omega,fun x hx=> ?_⟩
   rcases List.mem_append.1 hx with hx | hx
   ·exact(OA.1 h4).2 x hx
   ·rw [List.mem_singleton.1 hx];exact ha
  have s7:aA (Bi y1 y3) (Bj y1 y2 y3) y3=true:=jJ h1
  simp only [gu,KE,LT.ok,Pj,Pk,and_true,true_and,p0,p2,p3,p4,p5,p6]
  exact⟨fun _=>⟨by omega,s7,by omega,by omega,m7⟩,fun _=>⟨h1,h4⟩⟩
 ·obtain⟨y0,y1,y2,y3⟩:=x
  obtain⟨h0,h1,h2,h3,h4,rfl⟩:=hx
  have nn:=Ln (n:=2) h1 (by omega)
  have hw:IntKind.i64.wrap (40 + nxV 2 y1 y2 y3)=40 + nxV 2 y1 y2 y3:=bi (by omega) (by omega)
  have e1:MT y0 y1 y2 y3=false:=by simp only [MT,EG,hw];exact NM (by omega)
  have p0:MR y1 y2 y3=true:=h1
  simp only [gu,KE,LT.ok,Pj,Pk,and_true,true_and,p0,e1,Bool.false_eq_true,false_implies,true_implies]
  exact⟨h1,h4⟩
theorem asz{i:Int}{l:List ByteArray}(h:0≤i∧i < 3)(hl:l.length=3):leI 0 i=true∧ltI i (l.length:Int)=true∧ltN i.toNat l.length=true:=⟨cM h.1,fv (by omega),gM (by omega)⟩
theorem asA{i:Int}{l:List ByteArray}(h:0≤i∧i < 4)(hl:l.length=4):leI 0 i=true∧ltI i (l.length:Int)=true∧ltN i.toNat l.length=true:=⟨cM h.1,fv (by omega),gM (by omega)⟩
theorem TS(x0 x1:Int)(x2:List Int)(h:aA x0 x1 x2=true):
  RB x0 x1 x2=true∧aA (FF x0 x1 x2) (FG x0 x1 x2) x2=true∧prD (FD x0 x1 x2) (FH x0 x1 x2) (FI x0 x1 x2) (FJ x0 x1 x2) (FE x0 x1 x2) (FK x0 x1 x2)=true:=by
 obtain⟨_,s0,⟨hp,_⟩,l7,l7'⟩:=RJ x0 x1 x2 h
 obtain⟨b1,b2,b3,b4,b5,b6⟩:=Np.1 hp
 have m4:Pp 3 (mP x0 x1 x2)=true:=Zz _ rfl
 have m5:Pp 3 (eH x0 x1 x2)=true:=Zz _ rfl
 have c4:=(sM.1 m4).1
 have c5:=(sM.1 m5).1
 obtain⟨i0,i1⟩:0≤nF x0 x1 x2∧nF x0 x1 x2 < lq x0 x1 x2:=Ln s0 (by simp only [lq];omega)
 have s1:aA (nxA (lq x0 x1 x2) (qe x0 x1 x2) x2) (Jt x0 x1 x2) x2=true:=jJ s0
 have s4:aA (cN x0 x1 x2) (ek x0 x1 x2) x2=true:=jJ s1
 have k6:0≤oS x0 x1 x2∧oS x0 x1 x2 < 3:=Ln (n:=3) s4 (by omega)
 have k21:0≤nE x0 x1 x2∧nE x0 x1 x2 < 4:=Ln (n:=4) s4 (by omega)
 obtain⟨d1,d2,d3⟩:=Lu (cN x0 x1 x2) (ek x0 x1 x2) x2 s4
 obtain⟨f0,j0,⟨z0,z1,z2,z3⟩,g0,q1,q2,q3⟩:=ZH x2 (yM x0 x1 x2) (by
  simp only [yM,GZ]
  exact⟨by omega,s4,by omega,b2,trivial⟩)
 obtain⟨f1,j1,⟨u0,u1,u2,u3⟩,g1,r1,r2,r3⟩:=ZI x2 (yN x0 x1 x2) (by
  simp only [yN,GZ]
  exact⟨by omega,s4,by omega,l7,b6,trivial⟩)
 have e1:(vf x0 x1 x2).1=z1:=by simp only [vf,g0]
 have e2:((vf x0 x1 x2).2).1=z2:=by simp only [vf,g0]
 have e0:((Lp.res gt (yM x0 x1 x2)).2).1=z0:=by rw [g0]
 have v1:(vg x0 x1 x2).1=u1:=by simp only [vg,g1]
 have v2:((vg x0 x1 x2).2).1=u2:=by simp only [vg,g1]
 have v0:((Lp.res gu (yN x0 x1 x2)).2).1=u0:=by rw [g1]
 have ha:(Ha x0 x1 x2).1.size≤1000∧Sk 1000 (Ha x0 x1 x2).2=true:=arY b6 _ ⟨Nat.zero_le _,rfl⟩
 have m22:Pp 1 (vh x0 x1 x2)=true:=sM.2 ⟨Nat.le_refl _,fun s hs=>by rw [List.mem_singleton.1 hs];exact akr (n:=4) rfl _⟩
 have c1:=cM i0
 have c2:=fv i1
 have c3:Oj x0 x1 x2=true:=gM (by simp only [lq]at i1;omega)
 refine⟨?_,?_,?_⟩
 ·obtain⟨t1,t2,t3⟩:=asz (l:= [ByteArray.mk #[],ByteArray.mk #[101,110,100],ByteArray.mk #[82,105,100,101]]) k6 rfl
  obtain⟨t4,t5,t6⟩:=asz (l:= [ByteArray.mk #[97,110,100],ByteArray.mk #[120],ByteArray.mk #[110,111,119,104,101,114,101]]) k6 rfl
  obtain⟨t7,t8,t9⟩:=asA (l:= [ByteArray.mk #[],ByteArray.mk #[111,114],ByteArray.mk #[97],ByteArray.mk #[113]]) k21 rfl
  obtain⟨w7,w8,w9⟩:=asA (l:= [ByteArray.mk #[97],ByteArray.mk #[113],ByteArray.mk #[119],ByteArray.mk #[111,110]]) k21 rfl
  have l22:(vh x0 x1 x2).length=1:=rfl
  have n1:leN ((eH x0 x1 x2).length + (vh x0 x1 x2).length) 9223372036854775807=true:=ci (by rw [l22];omega)
  have n2:leN (((eH x0 x1 x2).length + (vh x0 x1 x2).length) * 16) 140737488355328=true:=ci (by rw [l22];omega)
  have n3:leN (0 + (eH x0 x1 x2).length) 9223372036854775807=true:=ci (by omega)
  have n4:leN ((0 + (eH x0 x1 x2).length) * 16) 140737488355328=true:=ci (by omega)
  simp only [RB,h,s0,s1,s4,d1,f0,f1,c1,c2,c3,t1,t2,t3,t4,t5,t6,t7,t8,t9,w7,w8,w9,n1,n2,n3,n4,allT,Bool.or_true,Bool.and_self,cond_true]
 ·simp only [FF,FG,e1,e2,v1,v2,Bg,Bh,Bi,Bj]
  exact pE (jJ s4) (pE s4 (pE (jJ s4) (pE (jJ s4) (pE d2 (pE (jJ q1) (pE (jJ r1) (pE (jJ s4) s4)))))))
 ·simp only [FD,FE,FH,FI,FJ,FK,e0,v0]
  cases aq x0 x1 x2 <;> simp only [cond_true,cond_false]
  ·cases aG x0 x1 x2 <;> simp only [cond_true,cond_false]
   ·cases aH x0 x1 x2 <;> simp only [cond_true,cond_false]
    ·cases aS x0 x1 x2 <;> simp only [cond_true,cond_false]
     ·cases bH x0 x1 x2 <;> simp only [cond_true,cond_false]
      ·cases cX x0 x1 x2 <;> simp only [cond_true,cond_false]
       ·cases dA x0 x1 x2 <;> simp only [cond_true,cond_false]
        ·cases dO x0 x1 x2 <;> simp only [cond_true,cond_false]
         ·exact hp
         ·exact Np.2 ⟨b1,b2,aks m5 m22 (by omega),b4,b5,b6⟩
        ·exact Np.2 ⟨b1,b2,b3,b4,b5,r2⟩
       ·exact Np.2 ⟨b1,q2,b3,b4,b5,b6⟩
      ·exact Np.2 ⟨b1,b2,b3,b4,b5,anH _ b6 ha.1 d3⟩
     ·exact Np.2 ⟨b1,b2,b3,b4,b5,anH _ b6 (akr (n:=4) rfl _) ha.2⟩
    ·exact Np.2 ⟨b1,b2,b3,b4,akr (n:=3) rfl _,b6⟩
   ·exact Np.2 ⟨b1,rfl,b3,b4,Nat.zero_le _,b6⟩
  ·exact Np.2 ⟨akr (n:=3) rfl _,b2,b3,b4,b5,b6⟩
def Xt:List SV→List Entry→Option Out
 | [.one ⟨false,[.ptr 0 0]⟩],[.box 197 [.ref 1,.val (.int .i64 x0),.val (.int .i64 x1)],.row false 5 (.int .u8) x2]=>some ⟨.one ⟨true,[.val (.string (FD x0 x1 x2)),.ref 2,.ref 3,.ref 4,.val (.string (FE x0 x1 x2)),.ref 5]⟩,[.box 197 [.ref 1,.val (.int .i64 (FF x0 x1 x2)),.val (.int .i64 (FG x0 x1 x2))],.row false 5 aj7 x2],[.row true 9 alP (FH x0 x1 x2),.row true 9 alP (FI x0 x1 x2),.row true 9 alP (FJ x0 x1 x2),.row true 204 aas (FK x0 x1 x2)],[aA x0 x1 x2]⟩
 |_,_=>none
def Ra:PF prog:=PF.alt ahf Xt (by
 intro args es o h cD;unfold Xt at h;split at h
 ·rename_i x0 x1 x2
  cases h
  have cD:=ln cD
  have hh:=(TS x0 x1 x2 cD).1
  have en:=hh
  exact qy rfl (kw en) rfl rfl rfl
 ·cases h)
end Go.SX
namespace Go.SX
open Go.Proofs Go.Proofs.Tryz
set_option maxRecDepth 100000
section
variable (x0 x1:Int)(x2:List Int)
def rv:Bool:=nxV 4 x0 x1 x2==0
def UH:Bool:=aA (nxA 4 x0 x2) (nxS 4 x0 x1 x2) x2
def tx:ByteArray:=bif rv x0 x1 x2 then FD (nxA 4 x0 x2) (nxS 4 x0 x1 x2) x2 else qd (nxA 4 x0 x2) (nxS 4 x0 x1 x2) x2
def tz:ByteArray:=bif rv x0 x1 x2 then FE (nxA 4 x0 x2) (nxS 4 x0 x1 x2) x2 else rr (nxA 4 x0 x2) (nxS 4 x0 x1 x2) x2
def yC:Int:=bif rv x0 x1 x2 then FF (nxA 4 x0 x2) (nxS 4 x0 x1 x2) x2 else qe (nxA 4 x0 x2) (nxS 4 x0 x1 x2) x2
def yD:Int:=bif rv x0 x1 x2 then FG (nxA 4 x0 x2) (nxS 4 x0 x1 x2) x2 else Bk (nxA 4 x0 x2) (nxS 4 x0 x1 x2) x2
def ru:List ByteArray:=bif rv x0 x1 x2 then FH (nxA 4 x0 x2) (nxS 4 x0 x1 x2) x2 else mP (nxA 4 x0 x2) (nxS 4 x0 x1 x2) x2
def tA:List ByteArray:=bif rv x0 x1 x2 then FI (nxA 4 x0 x2) (nxS 4 x0 x1 x2) x2 else eH (nxA 4 x0 x2) (nxS 4 x0 x1 x2) x2
def tB:List ByteArray:=bif rv x0 x1 x2 then FJ (nxA 4 x0 x2) (nxS 4 x0 x1 x2) x2 else qf (nxA 4 x0 x2) (nxS 4 x0 x1 x2) x2
def tC:List (ByteArray×(List (Int×(ByteArray×Int)))):=bif rv x0 x1 x2 then FK (nxA 4 x0 x2) (nxS 4 x0 x1 x2) x2 else gk (nxA 4 x0 x2) (nxS 4 x0 x1 x2) x2
def WI:Bool:=allT [aA x0 x1 x2,!rv x0 x1 x2||UH x0 x1 x2,rv x0 x1 x2||UH x0 x1 x2]
end
def ab4:List SV→List Entry→Option Out
 | [.one ⟨false,[.ptr 0 0]⟩],[.box 197 [.ref 1,.val (.int .i64 x0),.val (.int .i64 x1)],.row false 5 (.int .u8) x2]=>some ⟨.one ⟨true,[.val (.string (tx x0 x1 x2)),.ref 2,.ref 3,.ref 4,.val (.string (tz x0 x1 x2)),.ref 5]⟩,[.box 197 [.ref 1,.val (.int .i64 (yC x0 x1 x2)),.val (.int .i64 (yD x0 x1 x2))],.row false 5 aj7 x2],[.row true 9 alP (ru x0 x1 x2),.row true 9 alP (tA x0 x1 x2),.row true 9 alP (tB x0 x1 x2),.row true 204 aas (tC x0 x1 x2)],[WI x0 x1 x2]⟩
 |_,_=>none
def akI:PF prog:=PF.ofG prog (T3z [af,ri,Ra]) [] aV 107 f107 func107 (fun c _=>LOk.nil c) ab4 (by
 intro vs es r h;unfold ab4 at h;split at h
 ·cases h;kernel_rfl
 ·cases h)
abbrev kB:=Int×Int×Int×List Int×List (Int×(Int×Int))×List Int
section
variable (y0 y1 y2:Int)(y3 y5:List Int)
def BR:Bool:=ltI y0 (↑y3.length:Int)
def Qq:Bool:=aA y1 y2 y5
def Qr:Bool:=leI 0 y0
def Qs:Bool:=ltN y0.toNat y3.length
def Qt:Int:=IntKind.wrap .i64 (y0 + (1:Int))
def Qu:Int:=nxA 2 y1 y5
def Qv:Int:=nxS 2 y1 y2 y5
def Qw:List Int:=List.set y3 y0.toNat (nxV 2 y1 y2 y5)
end
def Yi:kB→List (Nat×SV)
 |(y0,_,_,_,_,_)=> [(7,(.one ⟨false,[.val (.int .i64 y0)]⟩)),(5,(.one ⟨false,[.ptr 0 0]⟩)),(0,(.one ⟨false,[.ptr 1 0]⟩))]
def Yf:kB→List (Nat×Entry)
 |(_,y1,y2,y3,y4,y5)=> [(0,(.box 48 [.ref 2,.ref 3])),(1,(.box 197 [.ref 4,.val (.int .i64 y1),.val (.int .i64 y2)])),(2,(.row true 2 ai3 y3)),(3,(.row true 172 abM y4)),(4,(.row false 5 aj7 y5))]
def Yo:Nat→kB→List (Nat×SV)
 |_,(_,_,_,_,_,_)=> []
def Yl:Nat→kB→List (Nat×Entry)
 |_,(_,y1,y2,y3,y4,y5)=> [(0,(.box 48 [.ref 2,.ref 3])),(1,(.box 197 [.ref 4,.val (.int .i64 y1),.val (.int .i64 y2)])),(2,(.row true 2 ai3 y3)),(3,(.row true 172 abM y4)),(4,(.row false 5 aj7 y5))]
def AD:kB→LT kB
 |(y0,y1,y2,y3,y4,y5)=> .ite (BR y0 y3) (.need [Qq y1 y2 y5,Qr y0,BR y0 y3,Qs y0 y3] (.nrm ((Qt y0),Qu y1 y5,Qv y1 y2 y5,Qw y0 y1 y2 y3 y5,y4,y5) [(0,0),(1,1),(2,2),(3,3),(4,4)])) (.ext 0 [(0,0),(1,1),(2,2),(3,3),(4,4)])
def Gn(s:St):Option kB:=
 (match s.look 7 with
 |some ⟨none,.one ⟨false,[.val (.int .i64 y0)]⟩⟩=>
 (match s.look 5 with
 |some ⟨none,.one ⟨false,[.ptr 1088 0]⟩⟩=>
 (match s.look 0 with
 |some ⟨none,.one ⟨false,[.ptr 0 0]⟩⟩=>
 (match s.ent 1088 with
 |some (.box 48 [.ref 832,.ref 833])=>
 (match s.ent 0 with
 |some (.box 197 [.ref 5,.val (.int .i64 y1),.val (.int .i64 y2)])=>
 (match s.ent 832 with
 |some (.row true 2 (.int .i64) y3)=>
 (match s.ent 833 with
 |some (.row true 172 (.pair (.int .i64) (.pair (.int .i64) (.int .i64))) y4)=>
 (match s.ent 5 with
 |some (.row false 5 (.int IntKind.u8) y5)=>
 some (y0,y1,y2,y3,y4,y5)
 |_=>none)
 |_=>none)
 |_=>none)
 |_=>none)
 |_=>none)
 |_=>none)
 |_=>none)
 |_=>none)
def fP:Lp kB where
 h:=⟨[62,63,64,65,66,69,70,71,72,73,74,67,68,7],[0,1,2,3,4],[],[]⟩
 JL:=Yi
 JE:=Yf
 XL:=Yo
 XE:=Yl
 q:=fun j=>match j with | _=> .exit 1
 tags:= [0]
 lt:=AD
 fuel:=fun(y0,y1,y2,y3,y4,y5)=>y0.natAbs + y1.natAbs + y2.natAbs + y3.length + y4.length + y5.length
 fix:=fun(_,_,_,_,y4,y5) (y0,y1,y2,y3,_,_)=>(y0,y1,y2,y3,y4,y5)
 σ:= [(0,1088),(1,0),(2,832),(3,833),(4,5)]
 rd:=Gn
theorem VS:LoopOk prog (fun k=>Nat.blt k Tryz.f108.ntmps) fP.F (aY f108 0):=by
 refine Lp.ok (tbl:= (T3z [Ac,af,cj,cn,Ab])) (lf:= []) aV fP (by kernel_rfl) (LOk.nil _) (fun _=>rfl) (fun _ _=>rfl) ?_ ?_ ?_ ?_ (fun _=>rfl) ?_
 ·rintro⟨y0,y1,y2,y3,y4,y5⟩;kernel_rfl
 ·rintro⟨y0,y1,y2,y3,y4,y5⟩;kernel_rfl
 ·intro s x h
  have h:Gn s=some x:=h
  unfold Gn at h
  repeat' split at h
  all_goals cases h
  constructor<;>repeat(first|refine ab (by assumption) rfl ?_|refine aa rfl (by assumption) rfl ?_|exact rfl)
 ·rintro⟨y0,y1,y2,y3,y4,y5⟩;kernel_rfl
 ·rintro⟨y0,y1,y2,y3,y4,y5⟩ z;exact(And.intro rfl trivial)
section
variable (x0 x1:ByteArray)(x2 x3:Int)(x4 x5 x6:List ByteArray)(x7:List (ByteArray×List (Int×ByteArray×Int)))(x8:List Int)
def bB:Bool:=rgC x0 x4 x5 x6 x1 x7 (aT x0 x1 x2 x3 x4 x5 x6 x7 x8)!=0
def EO:Int:=nxV 30 (qX x0 x1 x2 x3 x4 x5 x6 x7 x8) (tF x0 x1 x2 x3 x4 x5 x6 x7 x8) x8
def dB:Bool:=EO x0 x1 x2 x3 x4 x5 x6 x7 x8==0
def lh:Int:=nxA 30 (qX x0 x1 x2 x3 x4 x5 x6 x7 x8) x8
def fG:Bool:=EO x0 x1 x2 x3 x4 x5 x6 x7 x8==1
def nk:Bool:=EO x0 x1 x2 x3 x4 x5 x6 x7 x8==2
def jC:Bool:=ltI 0 (↑(List.length (rgB x0 x4 x5 x6 x1 x7 (aT x0 x1 x2 x3 x4 x5 x6 x7 x8))):Int)
def zK:Bool:=EO x0 x1 x2 x3 x4 x5 x6 x7 x8==3
def np:Int:=nxS 30 (qX x0 x1 x2 x3 x4 x5 x6 x7 x8) (tF x0 x1 x2 x3 x4 x5 x6 x7 x8) x8
def gy:List Int:=rgV x0 x4 x5 x6 x1 x7 (aT x0 x1 x2 x3 x4 x5 x6 x7 x8)
def CW:Int×Int×Int×List Int×List (Int×Int×Int)×List Int:=((0:Int),lh x0 x1 x2 x3 x4 x5 x6 x7 x8,np x0 x1 x2 x3 x4 x5 x6 x7 x8,gy x0 x1 x2 x3 x4 x5 x6 x7 x8,rgB x0 x4 x5 x6 x1 x7 (aT x0 x1 x2 x3 x4 x5 x6 x7 x8),x8)
def uP:Int×Int×List Int×List (Int×Int×Int)×List Int:=(Lp.res fP (CW x0 x1 x2 x3 x4 x5 x6 x7 x8)).2.2
def uQ:Int×List Int×List (Int×Int×Int)×List Int:=(uP x0 x1 x2 x3 x4 x5 x6 x7 x8).2
def RQ:Int×Int:=(Option.getD (rgB x0 x4 x5 x6 x1 x7 (aT x0 x1 x2 x3 x4 x5 x6 x7 x8))[Int.toNat 0]? ((0:Int),(0:Int),(0:Int))).2
def Bu:Int:=bif bB x0 x1 x2 x3 x4 x5 x6 x7 x8 then qX x0 x1 x2 x3 x4 x5 x6 x7 x8 else bif dB x0 x1 x2 x3 x4 x5 x6 x7 x8 then lh x0 x1 x2 x3 x4 x5 x6 x7 x8 else bif fG x0 x1 x2 x3 x4 x5 x6 x7 x8 then lh x0 x1 x2 x3 x4 x5 x6 x7 x8 else bif nk x0 x1 x2 x3 x4 x5 x6 x7 x8 then bif jC x0 x1 x2 x3 x4 x5 x6 x7 x8 then pkA (lh x0 x1 x2 x3 x4 x5 x6 x7 x8) [(-1:Int),(1:Int),(9:Int)] x8 else lh x0 x1 x2 x3 x4 x5 x6 x7 x8 else bif zK x0 x1 x2 x3 x4 x5 x6 x7 x8 then (uP x0 x1 x2 x3 x4 x5 x6 x7 x8).1else lh x0 x1 x2 x3 x4 x5 x6 x7 x8
def Bv:Int:=bif bB x0 x1 x2 x3 x4 x5 x6 x7 x8 then tF x0 x1 x2 x3 x4 x5 x6 x7 x8 else bif dB x0 x1 x2 x3 x4 x5 x6 x7 x8 then np x0 x1 x2 x3 x4 x5 x6 x7 x8 else bif fG x0 x1 x2 x3 x4 x5 x6 x7 x8 then np x0 x1 x2 x3 x4 x5 x6 x7 x8 else bif nk x0 x1 x2 x3 x4 x5 x6 x7 x8 then bif jC x0 x1 x2 x3 x4 x5 x6 x7 x8 then pkS (lh x0 x1 x2 x3 x4 x5 x6 x7 x8) (np x0 x1 x2 x3 x4 x5 x6 x7 x8) [(-1:Int),(1:Int),(9:Int)] x8 else np x0 x1 x2 x3 x4 x5 x6 x7 x8 else bif zK x0 x1 x2 x3 x4 x5 x6 x7 x8 then (uQ x0 x1 x2 x3 x4 x5 x6 x7 x8).1else np x0 x1 x2 x3 x4 x5 x6 x7 x8
def Bw:List Int:=bif bB x0 x1 x2 x3 x4 x5 x6 x7 x8 then List.replicate (Int.toNat (↑x5.length:Int)) (0:Int)else bif dB x0 x1 x2 x3 x4 x5 x6 x7 x8 then gy x0 x1 x2 x3 x4 x5 x6 x7 x8++ [(0:Int)]else bif fG x0 x1 x2 x3 x4 x5 x6 x7 x8 then gy x0 x1 x2 x3 x4 x5 x6 x7 x8 else bif nk x0 x1 x2 x3 x4 x5 x6 x7 x8 then gy x0 x1 x2 x3 x4 x5 x6 x7 x8 else bif zK x0 x1 x2 x3 x4 x5 x6 x7 x8 then ((uQ x0 x1 x2 x3 x4 x5 x6 x7 x8).2).1else gy x0 x1 x2 x3 x4 x5 x6 x7 x8
def Bx:List (Int×(Int×Int)):=bif bB x0 x1 x2 x3 x4 x5 x6 x7 x8 then []else bif dB x0 x1 x2 x3 x4 x5 x6 x7 x8 then rgB x0 x4 x5 x6 x1 x7 (aT x0 x1 x2 x3 x4 x5 x6 x7 x8)else bif fG x0 x1 x2 x3 x4 x5 x6 x7 x8 then rgB x0 x4 x5 x6 x1 x7 (aT x0 x1 x2 x3 x4 x5 x6 x7 x8)++ [((0:Int),(0:Int),(0:Int))]else bif nk x0 x1 x2 x3 x4 x5 x6 x7 x8 then bif jC x0 x1 x2 x3 x4 x5 x6 x7 x8 then List.set (rgB x0 x4 x5 x6 x1 x7 (aT x0 x1 x2 x3 x4 x5 x6 x7 x8)) (Int.toNat 0) (pkV (lh x0 x1 x2 x3 x4 x5 x6 x7 x8) (np x0 x1 x2 x3 x4 x5 x6 x7 x8) [(-1:Int),(1:Int),(9:Int)] x8,(RQ x0 x1 x2 x3 x4 x5 x6 x7 x8).1,(RQ x0 x1 x2 x3 x4 x5 x6 x7 x8).2)else rgB x0 x4 x5 x6 x1 x7 (aT x0 x1 x2 x3 x4 x5 x6 x7 x8)else bif zK x0 x1 x2 x3 x4 x5 x6 x7 x8 then rgB x0 x4 x5 x6 x1 x7 (aT x0 x1 x2 x3 x4 x5 x6 x7 x8)else rgB x0 x4 x5 x6 x1 x7 (aT x0 x1 x2 x3 x4 x5 x6 x7 x8)
def MZ:Bool:=allT [aA x2 x3 x8&&leN x4.length (50:Nat),rgN x0 x4 x5 x6 x1 x7 (aT x0 x1 x2 x3 x4 x5 x6 x7 x8),!bB x0 x1 x2 x3 x4 x5 x6 x7 x8||leI 0 (↑x5.length:Int),!bB x0 x1 x2 x3 x4 x5 x6 x7 x8||leI (↑x5.length:Int) (↑x5.length:Int),!bB x0 x1 x2 x3 x4 x5 x6 x7 x8||leI ((↑(8:Nat):Int) * (↑x5.length:Int)) 281474976710656,!bB x0 x1 x2 x3 x4 x5 x6 x7 x8||leI (↑x5.length:Int) 9223372036854775807,bB x0 x1 x2 x3 x4 x5 x6 x7 x8||aA (qX x0 x1 x2 x3 x4 x5 x6 x7 x8) (tF x0 x1 x2 x3 x4 x5 x6 x7 x8) x8,bB x0 x1 x2 x3 x4 x5 x6 x7 x8||(!dB x0 x1 x2 x3 x4 x5 x6 x7 x8||leN (List.length (gy x0 x1 x2 x3 x4 x5 x6 x7 x8)) 1048576),bB x0 x1 x2 x3 x4 x5 x6 x7 x8||(!dB x0 x1 x2 x3 x4 x5 x6 x7 x8||leN (List.length (gy x0 x1 x2 x3 x4 x5 x6 x7 x8) + List.length [(0:Int)]) (9223372036854775807:Nat)),bB x0 x1 x2 x3 x4 x5 x6 x7 x8||(!dB x0 x1 x2 x3 x4 x5 x6 x7 x8||leN ((List.length (gy x0 x1 x2 x3 x4 x5 x6 x7 x8) + List.length [(0:Int)]) * (8:Nat)) 140737488355328),bB x0 x1 x2 x3 x4 x5 x6 x7 x8||(dB x0 x1 x2 x3 x4 x5 x6 x7 x8||(!fG x0 x1 x2 x3 x4 x5 x6 x7 x8||leN (0 + List.length (rgB x0 x4 x5 x6 x1 x7 (aT x0 x1 x2 x3 x4 x5 x6 x7 x8))) 9223372036854775807)),bB x0 x1 x2 x3 x4 x5 x6 x7 x8||(dB x0 x1 x2 x3 x4 x5 x6 x7 x8||(!fG x0 x1 x2 x3 x4 x5 x6 x7 x8||leN ((0 + List.length (rgB x0 x4 x5 x6 x1 x7 (aT x0 x1 x2 x3 x4 x5 x6 x7 x8))) * 24) 140737488355328)),bB x0 x1 x2 x3 x4 x5 x6 x7 x8||(dB x0 x1 x2 x3 x4 x5 x6 x7 x8||(!fG x0 x1 x2 x3 x4 x5 x6 x7 x8||leN (List.length (rgB x0 x4 x5 x6 x1 x7 (aT x0 x1 x2 x3 x4 x5 x6 x7 x8)) + List.length [((0:Int),(0:Int),(0:Int))]) 9223372036854775807)),bB x0 x1 x2 x3 x4 x5 x6 x7 x8||(dB x0 x1 x2 x3 x4 x5 x6 x7 x8||(!fG x0 x1 x2 x3 x4 x5 x6 x7 x8||leN ((List.length (rgB x0 x4 x5 x6 x1 x7 (aT x0 x1 x2 x3 x4 x5 x6 x7 x8)) + List.length [((0:Int),(0:Int),(0:Int))]) * 24) 140737488355328)),bB x0 x1 x2 x3 x4 x5 x6 x7 x8||(dB x0 x1 x2 x3 x4 x5 x6 x7 x8||(fG x0 x1 x2 x3 x4 x5 x6 x7 x8||(!nk x0 x1 x2 x3 x4 x5 x6 x7 x8||(!jC x0 x1 x2 x3 x4 x5 x6 x7 x8||aA (lh x0 x1 x2 x3 x4 x5 x6 x7 x8) (np x0 x1 x2 x3 x4 x5 x6 x7 x8) x8&&leN 1 (List.length [(-1:Int),(1:Int),(9:Int)]))))),bB x0 x1 x2 x3 x4 x5 x6 x7 x8||(dB x0 x1 x2 x3 x4 x5 x6 x7 x8||(fG x0 x1 x2 x3 x4 x5 x6 x7 x8||(!nk x0 x1 x2 x3 x4 x5 x6 x7 x8||(!jC x0 x1 x2 x3 x4 x5 x6 x7 x8||leI 0 0)))),bB x0 x1 x2 x3 x4 x5 x6 x7 x8||(dB x0 x1 x2 x3 x4 x5 x6 x7 x8||(fG x0 x1 x2 x3 x4 x5 x6 x7 x8||(!nk x0 x1 x2 x3 x4 x5 x6 x7 x8||(!jC x0 x1 x2 x3 x4 x5 x6 x7 x8||jC x0 x1 x2 x3 x4 x5 x6 x7 x8)))),bB x0 x1 x2 x3 x4 x5 x6 x7 x8||(dB x0 x1 x2 x3 x4 x5 x6 x7 x8||(fG x0 x1 x2 x3 x4 x5 x6 x7 x8||(!nk x0 x1 x2 x3 x4 x5 x6 x7 x8||(!jC x0 x1 x2 x3 x4 x5 x6 x7 x8||ltN (Int.toNat 0) (List.length (rgB x0 x4 x5 x6 x1 x7 (aT x0 x1 x2 x3 x4 x5 x6 x7 x8))))))),bB x0 x1 x2 x3 x4 x5 x6 x7 x8||(dB x0 x1 x2 x3 x4 x5 x6 x7 x8||(fG x0 x1 x2 x3 x4 x5 x6 x7 x8||(nk x0 x1 x2 x3 x4 x5 x6 x7 x8||(!zK x0 x1 x2 x3 x4 x5 x6 x7 x8||Lp.fin fP (CW x0 x1 x2 x3 x4 x5 x6 x7 x8)))))]
end
def Ty:List SV→List Entry→Option Out
 | [.one ⟨false,[.ptr 0 0]⟩,.one ⟨true,[.val (.string x0),.ref 1,.ref 2,.ref 3,.val (.string x1),.ref 4]⟩],[.box 197 [.ref 5,.val (.int .i64 x2),.val (.int .i64 x3)],.row false 9 (.str) x4,.row false 9 (.str) x5,.row false 9 (.str) x6,.row false 204 (.pair (.str) (.sl 178 (.pair (.int .i64) (.pair (.str) (.int .i64))))) x7,.row false 5 (.int .u8) x8]=>some ⟨.one ⟨true,[.ref 6,.ref 7]⟩,[.box 197 [.ref 5,.val (.int .i64 (Bu x0 x1 x2 x3 x4 x5 x6 x7 x8)),.val (.int .i64 (Bv x0 x1 x2 x3 x4 x5 x6 x7 x8))],.row false 9 alP x4,.row false 9 alP x5,.row false 9 alP x6,.row false 204 (CTy.pair CTy.str (CTy.sl (178:TypeId) acQ)) x7,.row false 5 aj7 x8],[.row true 2 ai3 (Bw x0 x1 x2 x3 x4 x5 x6 x7 x8),.row true 172 abM (Bx x0 x1 x2 x3 x4 x5 x6 x7 x8)],[MZ x0 x1 x2 x3 x4 x5 x6 x7 x8]⟩
 |_,_=>none
def adf:PF prog:=PF.ofG prog (T3z [Ac,af,cj,cn,Ab]) [fP.F] aV 108 f108 func108 (LOk.fnT (l:= [aY f108 0]) (by kernel_rfl) (.cons VS (.nil _))) Ty (by
 intro vs es r h;unfold Ty at h;split at h
 ·cases h;kernel_rfl
 ·cases h)
theorem aq7{nm:ByteArray}{ins vs os:List ByteArray}{g:ByteArray}{ls:List LN}(h:prD nm ins vs os g ls=true):NR nm ins vs os g ls=true:=by
 obtain⟨h1,h2,h3,h4,h5,h6⟩:=Np.1 h
 obtain⟨i0,i1⟩:=sM.1 h2
 obtain⟨v0,v1⟩:=sM.1 h3
 obtain⟨o0,o1⟩:=sM.1 h4
 obtain⟨l0,l1⟩:=OA.1 h6
 have oi: ∀ {l:List ByteArray},l.length≤50→(∀ s∈l,s.size≤1000)→SA l=true:=fun {l} a b=>by
  simp only [SA,Bool.and_eq_true,List.all_eq_true]
  exact⟨ci (by omega),fun t ht=>ci (by have:=b t ht;omega)⟩
 refine MH.2 ⟨by omega,oi i0 i1,oi v0 v1,oi o0 o1,by omega,by omega,Qg.2 ⟨by omega,fun l hl=> ?_⟩⟩
 obtain⟨a,b⟩:=l1 l hl
 obtain⟨b0,b1⟩:=Nb.1 b
 exact⟨by omega,Qx.2 ⟨by omega,fun t ht=>by have:=b1 t ht;omega⟩⟩
theorem aro{n:Nat}{l:List (List Int)}(h:Zl n l=true)(hl:l.length≤9223372036854775807)(hn:n≤9223372036854775807):arP 9223372036854775807 l=true:=
 arh.2 ⟨hl,fun x hx=>by have:=ajK.1 h x hx;omega⟩
theorem ap5{nm:ByteArray}{ins vs os:List ByteArray}{g:ByteArray}{ls:List LN}(h:jH nm ins vs os g ls=true)(hv:mH vs g=true):mH ins g=false∧(g.toList== [])=false:=by
 simp only [jH,ahB,aph,afD,Bool.and_eq_true]at h
 obtain⟨⟨_,_,⟨hvn,_⟩,_⟩,htw,_⟩:=h
 rw [Bool.not_eq_true']at htw
 obtain⟨k,hk,he⟩:=List.mem_map.1 (VD.1 hv)
 refine⟨?_,?_⟩
 ·rw [← Bool.not_eq_true,VD]
  intro hi
  have hn:=aiq.1 htw
  rw [List.map_append,List.map_append,List.append_assoc]at hn
  have h2:=(List.nodup_append.1 hn).2.2
  exact h2 _ hi _ (List.mem_append_left _ (List.mem_map.2 ⟨k,hk,he⟩)) rfl
 ·have hb:=apH (List.all_eq_true.1 hvn k hk)
  rw [he]at hb
  exact hb
theorem aq8(nm:ByteArray)(ins vs os:List ByteArray)(g:ByteArray)(ls:List LN)(l:List (List Int)):
  (apl (rgO nm ins vs os g ls l)≤4000∧(rgO nm ins vs os g ls l).length≤200∧ ∀ x∈rgO nm ins vs os g ls l,x.length≤20)∧(rgV nm ins vs os g ls l).length≤20∧(rgB nm ins vs os g ls l).length≤1600:=by
 have ht: ∀ (l:List (List Int)),(∀ x∈l,x.length≤20)→apl l≤20 * l.length:=by
  intro l
  induction l with
  |nil=>intro _;simp [apl]
  |cons a r ih=>
   intro h
   have h1:=h a (by simp)
   have h2:=ih fun x hx=>h x (by simp [hx])
   simp only [apl,List.map_cons,List.sum_cons,List.length_cons]at h2 ⊢
   omega
 simp only [rgO,rgV,rgB]
 rcases anZ nm ins vs os g ls l with⟨h1,h2⟩ | ⟨h1,h3,h2⟩ | ⟨h1,h3,h4,h2⟩ | ⟨h1,h3,h4,h2⟩
 ·rw [h2];simp [apl]
 ·rw [h2];simp [apl]
 ·rw [h2];simp [apl]
 ·rw [h2]
  obtain⟨g1,g2,g3⟩:=an4 h1 l (zv vs) (adr (blL ls)) (List.all_eq_true.1 h4) (apQ h1)
  obtain⟨s1,s2,_⟩:=Kl.1 g3
  have b2:=(eI.1 s2).2
  have:=aoU h3
  have h5:=ht _ g2
  have hX:=adk (inp:=List.replicate ins.length 0) h1 (eI.2 ⟨fun z hz=> .inl (List.eq_of_mem_replicate hz),by simp⟩)
  have hb:=hX.bl
  have hv:=hX.h2
  simp only [beq_self_eq_true,cond_true]
  exact⟨⟨by omega,by omega,g2⟩,by omega,by omega⟩
 attribute [local irreducible] nxA nxS nxV pkA pkS pkV
theorem XY(x0 x1:Int)(x2:List Int)(h:aA x0 x1 x2=true):
  WI x0 x1 x2=true∧aA (yC x0 x1 x2) (yD x0 x1 x2) x2=true∧prD (tx x0 x1 x2) (ru x0 x1 x2) (tA x0 x1 x2) (tB x0 x1 x2) (tz x0 x1 x2) (tC x0 x1 x2)=true:=by
 have s1:aA (nxA 4 x0 x2) (nxS 4 x0 x1 x2) x2=true:=jJ h
 obtain⟨_,a2,a3⟩:=TS _ _ x2 s1
 obtain⟨_,b2,⟨b3,_⟩,_⟩:=RJ _ _ x2 s1
 refine⟨?_,?_,?_⟩
 ·simp only [WI,UH,h,s1,allT,Bool.or_true,cond_true]
 ·simp only [yC,yD];exact pE a2 b2
 ·simp only [tx,tz,ru,tA,tB,tC]
  cases rv x0 x1 x2
  ·exact b3
  ·exact a3
def acu:List SV→List Entry→Option Out
 | [.one ⟨false,[.ptr 0 0]⟩],[.box 197 [.ref 1,.val (.int .i64 x0),.val (.int .i64 x1)],.row false 5 (.int .u8) x2]=>some ⟨.one ⟨true,[.val (.string (tx x0 x1 x2)),.ref 2,.ref 3,.ref 4,.val (.string (tz x0 x1 x2)),.ref 5]⟩,[.box 197 [.ref 1,.val (.int .i64 (yC x0 x1 x2)),.val (.int .i64 (yD x0 x1 x2))],.row false 5 aj7 x2],[.row true 9 alP (ru x0 x1 x2),.row true 9 alP (tA x0 x1 x2),.row true 9 alP (tB x0 x1 x2),.row true 204 aas (tC x0 x1 x2)],[aA x0 x1 x2]⟩
 |_,_=>none
def Wa:PF prog:=PF.alt akI acu (by
 intro args es o h cD;unfold acu at h;split at h
 ·rename_i x0 x1 x2
  cases h
  have cD:=ln cD
  have hh:=(XY x0 x1 x2 cD).1
  have en:=hh
  exact qy rfl (kw en) rfl rfl rfl
 ·cases h)
theorem WM(c:List Int)(x:kB)(hx:match x with | (y0,y1,y2,y3,y4,y5)=>(y3.length:Int)≤y0 + (20:Nat)∧0≤y0∧aA y1 y2 y5=true∧y3.length≤20∧y5=c):
  fP.fin x=true∧ ∃ j y,fP.res x=(j,y)∧(match y with | (y0,y1,y2,y3,y4,y5)=>aA y1 y2 c=true∧y3.length≤20∧c=y5):=by
 refine fP.inv2 (fun k x=>match x with | (y0,y1,y2,y3,y4,y5)=>(y3.length:Int)≤y0 + k∧0≤y0∧aA y1 y2 y5=true∧y3.length≤20∧y5=c) (fun y=>match y with | (y0,y1,y2,y3,y4,y5)=>aA y1 y2 c=true∧y3.length≤20∧c=y5) (fun k x hx=> ?_) (fun x hx=> ?_) 20 x (by omega) hx
 ·obtain⟨y0,y1,y2,y3,y4,y5⟩:=x
  obtain⟨h0,h1,h2,h3,rfl⟩:=hx
  cases ht:BR y0 y3 with
  |false=>
   simp only [fP,AD,LT.ok,ht,Bool.false_eq_true,false_implies,true_implies,true_and,and_true]
   exact⟨h2,h3⟩
  |true=>
   have gV:y0 < (y3.length:Int):=Vh.1 ht
   have p1:Qq y1 y2 y5=true:=h2
   have p2:Qr y0=true:=cM h1
   have p3:Qs y0 y3=true:=gM (by omega)
   have p4:Qt y0=y0 + 1:=bi (by omega) (by omega)
   have s5:aA (Qu y1 y5) (Qv y1 y2 y5) y5=true:=jJ h2
   have l7:(Qw y0 y1 y2 y3 y5).length=y3.length:=List.length_set
   simp only [fP,AD,LT.ok,Pj,Pk,and_true,true_and,ht,p1,p2,p3,Bool.false_eq_true,reduceCtorEq,false_implies,true_implies]
   exact⟨by omega,by omega,s5,by omega⟩
 ·obtain⟨y0,y1,y2,y3,y4,y5⟩:=x
  obtain⟨h0,h1,h2,h3,rfl⟩:=hx
  have ht:BR y0 y3=false:=NM (by omega)
  simp only [fP,AD,LT.ok,ht,Bool.false_eq_true,false_implies,true_implies,true_and,and_true]
  exact⟨h2,h3⟩
theorem aqD{a s:Int}{c:List Int}{nm:ByteArray}{ins vs os:List ByteArray}{g:ByteArray}{ls:List LN}:(aA a s c&&prD nm ins vs os g ls)=true↔aA a s c=true∧prD nm ins vs os g ls=true:=by simp only [Bool.and_eq_true]
theorem Qp(x0 x1:ByteArray)(x2 x3:Int)(x4 x5 x6:List ByteArray)(x7:List LN)(x8:List Int)(h:aA x2 x3 x8=true)(hp:prD x0 x4 x5 x6 x1 x7=true):
  MZ x0 x1 x2 x3 x4 x5 x6 x7 x8=true∧aA (Bu x0 x1 x2 x3 x4 x5 x6 x7 x8) (Bv x0 x1 x2 x3 x4 x5 x6 x7 x8) x8=true∧(Bw x0 x1 x2 x3 x4 x5 x6 x7 x8).length≤60∧(Bx x0 x1 x2 x3 x4 x5 x6 x7 x8).length≤2000:=by
 obtain⟨_,hi,hv,_⟩:=Np.1 hp
 have i0:=(sM.1 hi).1
 have v0:=(sM.1 hv).1
 obtain⟨_,t2,t3,t4⟩:=Sv x0 x1 x2 x3 x4 x5 x6 x7 x8 h i0
 have hrg:rgN x0 x4 x5 x6 x1 x7 (aT x0 x1 x2 x3 x4 x5 x6 x7 x8)=true:=by
  simp only [rgN,aq7 hp,aro t4 (by omega) (by omega),Bool.and_self]
 obtain⟨_,w1,w2⟩:=aq8 x0 x4 x5 x6 x1 x7 (aT x0 x1 x2 x3 x4 x5 x6 x7 x8)
 have w1:(gy x0 x1 x2 x3 x4 x5 x6 x7 x8).length≤20:=w1
 have s3:aA (lh x0 x1 x2 x3 x4 x5 x6 x7 x8) (np x0 x1 x2 x3 x4 x5 x6 x7 x8) x8=true:=jJ t2
 obtain⟨f0,j0,⟨z0,z1,z2,z3,z4,z5⟩,g0,q1,q2,q3⟩:=WM x8 (CW x0 x1 x2 x3 x4 x5 x6 x7 x8) (by
  simp only [CW]
  exact⟨by omega,by omega,s3,w1,trivial⟩)
 have e1:(uP x0 x1 x2 x3 x4 x5 x6 x7 x8).1=z1:=by simp only [uP,g0]
 have e2:(uQ x0 x1 x2 x3 x4 x5 x6 x7 x8).1=z2:=by simp only [uQ,uP,g0]
 have e3:((uQ x0 x1 x2 x3 x4 x5 x6 x7 x8).2).1=z3:=by simp only [uQ,uP,g0]
 have hd:(aA x2 x3 x8&&leN x4.length 50)=true:=ajX.2 ⟨h,i0⟩
 refine⟨?_,?_,?_,?_⟩
 ·have u1:leI 0 (x5.length:Int)=true:=cM (by omega)
  have u2:leI (x5.length:Int) (x5.length:Int)=true:=cM (by omega)
  have u3:leI ((↑(8:Nat):Int) * (x5.length:Int)) 281474976710656=true:=cM (by omega)
  have u4:leI (x5.length:Int) 9223372036854775807=true:=cM (by omega)
  have o1: [(0:Int)].length=1:=rfl
  have o2: [((0:Int),(0:Int),(0:Int))].length=1:=rfl
  have b1:leN (gy x0 x1 x2 x3 x4 x5 x6 x7 x8).length 1048576=true:=ci (by omega)
  have b2:leN ((gy x0 x1 x2 x3 x4 x5 x6 x7 x8).length + [(0:Int)].length) 9223372036854775807=true:=ci (by rw [o1];omega)
  have b3:leN (((gy x0 x1 x2 x3 x4 x5 x6 x7 x8).length + [(0:Int)].length) * 8) 140737488355328=true:=ci (by rw [o1];omega)
  have b4:leN (0 + (rgB x0 x4 x5 x6 x1 x7 (aT x0 x1 x2 x3 x4 x5 x6 x7 x8)).length) 9223372036854775807=true:=ci (by omega)
  have b5:leN ((0 + (rgB x0 x4 x5 x6 x1 x7 (aT x0 x1 x2 x3 x4 x5 x6 x7 x8)).length) * 24) 140737488355328=true:=ci (by omega)
  have b6:leN ((rgB x0 x4 x5 x6 x1 x7 (aT x0 x1 x2 x3 x4 x5 x6 x7 x8)).length + [((0:Int),(0:Int),(0:Int))].length) 9223372036854775807=true:=ci (by rw [o2];omega)
  have b7:leN (((rgB x0 x4 x5 x6 x1 x7 (aT x0 x1 x2 x3 x4 x5 x6 x7 x8)).length + [((0:Int),(0:Int),(0:Int))].length) * 24) 140737488355328=true:=ci (by rw [o2];omega)
  have b8:leN 1 (List.length [(-1:Int),1,9])=true:=rfl
  have b9:leI 0 0=true:=rfl
  have k6:jC x0 x1 x2 x3 x4 x5 x6 x7 x8=true→ltN (Int.toNat 0) (rgB x0 x4 x5 x6 x1 x7 (aT x0 x1 x2 x3 x4 x5 x6 x7 x8)).length=true:=fun hh=>by
   simp only [jC]at hh
   have:=amG hh
   exact gM (by simp only [Int.toNat_zero];omega)
  simp only [MZ,hd,hrg,u1,u2,u3,u4,t2,s3,b1,b2,b3,b4,b5,b6,b7,b8,b9,f0,allT,Bool.or_true,Bool.and_self,cond_true]
  cases h6:jC x0 x1 x2 x3 x4 x5 x6 x7 x8 with
  |true=>simp only [k6 h6,Bool.or_true,cond_true]
  |false=>simp only [Bool.not_false,Bool.true_or,Bool.or_true,cond_true]
 ·simp only [Bu,Bv,e1,e2]
  exact pE t2 (pE s3 (pE s3 (pE (pE (PX s3) s3) (pE q1 s3))))
 ·simp only [Bw,e3]
  exact DF (by rw [List.length_replicate,Int.toNat_natCast];omega) (DF (by rw [List.length_append,List.length_singleton];omega) (DF (by omega) (DF (by omega) (DF (by omega) (by omega)))))
 ·simp only [Bx]
  exact DF (by simp) (DF (by omega) (DF (by rw [List.length_append,List.length_singleton];omega) (DF (DF (by rw [List.length_set];omega) (by omega)) (DF (by omega) (by omega)))))
def TF:List SV→List Entry→Option Out
 | [.one ⟨false,[.ptr 0 0]⟩,.one ⟨true,[.val (.string x0),.ref 1,.ref 2,.ref 3,.val (.string x1),.ref 4]⟩],[.box 197 [.ref 5,.val (.int .i64 x2),.val (.int .i64 x3)],.row false 9 (.str) x4,.row false 9 (.str) x5,.row false 9 (.str) x6,.row false 204 (.pair (.str) (.sl 178 (.pair (.int .i64) (.pair (.str) (.int .i64))))) x7,.row false 5 (.int .u8) x8]=>some ⟨.one ⟨true,[.ref 6,.ref 7]⟩,[.box 197 [.ref 5,.val (.int .i64 (Bu x0 x1 x2 x3 x4 x5 x6 x7 x8)),.val (.int .i64 (Bv x0 x1 x2 x3 x4 x5 x6 x7 x8))],.row false 9 alP x4,.row false 9 alP x5,.row false 9 alP x6,.row false 204 (CTy.pair CTy.str (CTy.sl (178:TypeId) acQ)) x7,.row false 5 aj7 x8],[.row true 2 ai3 (Bw x0 x1 x2 x3 x4 x5 x6 x7 x8),.row true 172 abM (Bx x0 x1 x2 x3 x4 x5 x6 x7 x8)],[aA x2 x3 x8&&prD x0 x4 x5 x6 x1 x7]⟩
 |_,_=>none
def ME:PF prog:=PF.alt adf TF (by
 intro args es o h cD;unfold TF at h;split at h
 ·rename_i x0 x1 x2 x3 x4 x5 x6 x7 x8
  cases h
  have cD:=ln cD
  have hh:=(Qp x0 x1 x2 x3 x4 x5 x6 x7 x8 (aqD.1 cD).1 (aqD.1 cD).2).1
  have en:=hh
  exact qy rfl (kw en) rfl rfl rfl
 ·cases h)
end Go.SX
namespace Go.SX
open Go.Proofs Go.Proofs.Tryz
set_option maxRecDepth 100000
section
variable (x0:List Int)
def GO:Int:=Bu (tx 0 (frS x0) x0) (tz 0 (frS x0) x0) (yC 0 (frS x0) x0) (yD 0 (frS x0) x0) (ru 0 (frS x0) x0) (tA 0 (frS x0) x0) (tB 0 (frS x0) x0) (tC 0 (frS x0) x0) x0
def GP:Int:=Bv (tx 0 (frS x0) x0) (tz 0 (frS x0) x0) (yC 0 (frS x0) x0) (yD 0 (frS x0) x0) (ru 0 (frS x0) x0) (tA 0 (frS x0) x0) (tB 0 (frS x0) x0) (tC 0 (frS x0) x0) x0
def bK:ByteArray:=tx 0 (frS x0) x0
def bt:ByteArray:=tz 0 (frS x0) x0
def bD:List ByteArray:=ru 0 (frS x0) x0
def bE:List ByteArray:=tA 0 (frS x0) x0
def bF:List ByteArray:=tB 0 (frS x0) x0
def dE:List (ByteArray×(List (Int×(ByteArray×Int)))):=tC 0 (frS x0) x0
def dd:List Int:=Bw (tx 0 (frS x0) x0) (tz 0 (frS x0) x0) (yC 0 (frS x0) x0) (yD 0 (frS x0) x0) (ru 0 (frS x0) x0) (tA 0 (frS x0) x0) (tB 0 (frS x0) x0) (tC 0 (frS x0) x0) x0
def eX:List (Int×(Int×Int)):=Bx (tx 0 (frS x0) x0) (tz 0 (frS x0) x0) (yC 0 (frS x0) x0) (yD 0 (frS x0) x0) (ru 0 (frS x0) x0) (tA 0 (frS x0) x0) (tB 0 (frS x0) x0) (tC 0 (frS x0) x0) x0
def iC:List Int:=xy (tx 0 (frS x0) x0) (tz 0 (frS x0) x0) (GO x0) (GP x0) (ru 0 (frS x0) x0) (tA 0 (frS x0) x0) (tB 0 (frS x0) x0) (tC 0 (frS x0) x0) x0
def PA:Bool:=allT [aA 0 0 x0,aA 0 (frS x0) x0,aA (yC 0 (frS x0) x0) (yD 0 (frS x0) x0) x0&&prD (tx 0 (frS x0) x0) (ru 0 (frS x0) x0) (tA 0 (frS x0) x0) (tB 0 (frS x0) x0) (tz 0 (frS x0) x0) (tC 0 (frS x0) x0),aA (GO x0) (GP x0) x0&&leN (List.length (ru 0 (frS x0) x0)) 50]
end
def Vr:List SV→List Entry→Option Out
 | [.one ⟨false,[.ref 0]⟩],[.row false 5 (.int .u8) x0]=>some ⟨.tup [⟨true,[.val (.string (bK x0)),.ref 1,.ref 2,.ref 3,.val (.string (bt x0)),.ref 4]⟩,⟨true,[.ref 5,.ref 6]⟩,⟨false,[.ref 7]⟩],[.row false 5 aj7 x0],[.row true 9 alP (bD x0),.row true 9 alP (bE x0),.row true 9 alP (bF x0),.row true 204 aas (dE x0),.row true 2 ai3 (dd x0),.row true 172 abM (eX x0),.row true 2 ai3 (iC x0)],[PA x0]⟩
 |_,_=>none
def afI:PF prog:=PF.ofG prog (T3z [VZ,Wa,ME,MD]) [] aV 38 f38 func38 (fun c _=>LOk.nil c) Vr (by
 intro vs es r h;unfold Vr at h;split at h
 ·cases h;kernel_rfl
 ·cases h)
def ws(x0:List Int):Bool:=ltI 4096 (↑x0.length:Int)
def ajx:List SV→List Entry→Option Out
 | [.one ⟨false,[.ref 0]⟩],[.row false 5 (.int .u8) x0]=>some ⟨.one ⟨false,[.val (.bool (ws x0))]⟩,[.row false 5 aj7 x0],[],[]⟩
 |_,_=>none
def afH:PF prog:=PF.ofG prog [] [] aV 37 f37 func37 (fun c _=>LOk.nil c) ajx (by
 intro vs es r h;unfold ajx at h;split at h
 ·cases h;kernel_rfl
 ·cases h)
abbrev ld:=Int×List (Int×(Int×Int))×List (Int×(Int×Int))
section
variable (y0:Int)(y1 y2:List (Int×(Int×Int)))
def qK:Int×Int×Int:=Option.getD y1[Int.toNat y0]? ((0:Int),(0:Int),(0:Int))
def qL:Int×Int×Int:=Option.getD y2[Int.toNat y0]? ((0:Int),(0:Int),(0:Int))
def vL:Bool:=ltI y0 (↑y1.length:Int)
def vM:Bool:=leI 0 y0
def zq:Bool:=ltN y0.toNat y1.length
def zs:Bool:=ltI y0 (↑y2.length:Int)
def zt:Bool:=ltN y0.toNat y2.length
def zu:Bool:= !bif (qK y0 y1).1==(qL y0 y2).1then bif ((qK y0 y1).2).1==((qL y0 y2).2).1then bif (qK y0 y1).2.2==(qL y0 y2).2.2then true else false else false else false
def zw:Int:=IntKind.wrap .i64 (y0 + (1:Int))
end
def ZU:ld→List (Nat×SV)
 |(y0,_,_)=> [(5,(.one ⟨false,[.val (.int .i64 y0)]⟩)),(0,(.one ⟨false,[.ref 0]⟩)),(1,(.one ⟨false,[.ref 1]⟩))]
def ZQ:ld→List (Nat×Entry)
 |(_,y1,y2)=> [(0,(.row false 172 abM y1)),(1,(.row false 172 abM y2))]
def aac:Nat→ld→List (Nat×SV)
 |0,(_,_,_)=> [(4,(.one ⟨false,[.val (.bool false)]⟩))]
 |_,(_,_,_)=> []
def ZY:Nat→ld→List (Nat×Entry)
 |0,(_,y1,y2)=> [(0,(.row false 172 abM y1)),(1,(.row false 172 abM y2))]
 |_,(_,y1,y2)=> [(0,(.row false 172 abM y1)),(1,(.row false 172 abM y2))]
def xW:ld→LT ld
 |(y0,y1,y2)=> .ite (vL y0 y1) (.need [vM y0,vL y0 y1,zq y0 y1,vM y0,zs y0 y2,zt y0 y2] (.ite (zu y0 y1 y2) (.ext 0 [(0,0),(1,1)]) (.nrm ((zw y0),y1,y2) [(0,0),(1,1)]))) (.ext 1 [(0,0),(1,1)])
def Jn(s:St):Option ld:=
 (match s.look 5 with
 |some ⟨none,.one ⟨false,[.val (.int .i64 y0)]⟩⟩=>
 (match s.look 0 with
 |some ⟨none,.one ⟨false,[.ref 0]⟩⟩=>
 (match s.look 1 with
 |some ⟨none,.one ⟨false,[.ref 1]⟩⟩=>
 (match s.ent 0 with
 |some (.row false 172 (.pair (.int .i64) (.pair (.int .i64) (.int .i64))) y1)=>
 (match s.ent 1 with
 |some (.row false 172 (.pair (.int .i64) (.pair (.int .i64) (.int .i64))) y2)=>
 some (y0,y1,y2)
 |_=>none)
 |_=>none)
 |_=>none)
 |_=>none)
 |_=>none)
def ea:Lp ld where
 h:=⟨[11,12,13,14,17,18,19,20,21,22,23,24,25,4,15,16,5],[0,1],[],[]⟩
 JL:=ZU
 JE:=ZQ
 XL:=aac
 XE:=ZY
 q:=fun j=>match j with | 0=> .ret | _=> .exit 0
 tags:= [0,1]
 lt:=xW
 fuel:=fun(y0,y1,y2)=>y0.natAbs + y1.length + y2.length
 fix:=fun(_,y1,y2) (y0,_,_)=>(y0,y1,y2)
 σ:= [(0,0),(1,1)]
 rd:=Jn
theorem YE:LoopOk prog (fun k=>Nat.blt k Tryz.f83.ntmps) ea.F (aY f83 0):=by
 refine Lp.ok (tbl:= []) (lf:= []) aV ea (by kernel_rfl) (LOk.nil _) (fun _=>rfl) (fun j _=>by unfold ea;match j with | 0=>rfl | _ + 1=>rfl) ?_ ?_ ?_ ?_ (fun _=>rfl) ?_
 ·rintro⟨y0,y1,y2⟩;kernel_rfl
 ·rintro⟨y0,y1,y2⟩;kernel_rfl
 ·intro s x h
  have h:Jn s=some x:=h
  unfold Jn at h
  repeat' split at h
  all_goals cases h
  constructor<;>repeat(first|refine ab (by assumption) rfl ?_|refine aa rfl (by assumption) rfl ?_|exact rfl)
 ·rintro⟨y0,y1,y2⟩;kernel_rfl
 ·rintro⟨y0,y1,y2⟩ z;exact(And.intro (And.intro trivial rfl) trivial)
section
variable (x0 x1:List (Int×Int×Int))
def GL:Bool:=(↑x0.length:Int)!=(↑x1.length:Int)
def GM:Int×List (Int×Int×Int)×List (Int×Int×Int):=((0:Int),x0,x1)
def DD:Bool:=bif GL x0 x1 then false else bif Nat.beq ((Lp.res ea (GM x0 x1)).1) 0 then false else true
def DE:Bool:=allT [GL x0 x1||Lp.fin ea (GM x0 x1)]
end
def Vq:List SV→List Entry→Option Out
 | [.one ⟨false,[.ref 0]⟩,.one ⟨false,[.ref 1]⟩],[.row false 172 (.pair (.int .i64) (.pair (.int .i64) (.int .i64))) x0,.row false 172 (.pair (.int .i64) (.pair (.int .i64) (.int .i64))) x1]=>some ⟨.one ⟨false,[.val (.bool (DD x0 x1))]⟩,[.row false 172 abM x0,.row false 172 abM x1],[],[DE x0 x1]⟩
 |_,_=>none
def Pr:PF prog:=PF.ofG prog [] [ea.F] aV 83 f83 func83 (LOk.fnT (l:= [aY f83 0]) (by kernel_rfl) (.cons YE (.nil _))) Vq (by
 intro vs es r h;unfold Vq at h;split at h
 ·cases h;kernel_rfl
 ·cases h)
def Mu(x0:List Int)(x1:List (Int×Int×Int))(x2:List Int)(x3:List (Int×Int×Int)):Bool:=bif eqL x0 x2 then DD x1 x3 else false
def Mv(x0:List Int)(x1:List (Int×Int×Int))(x2:List Int)(x3:List (Int×Int×Int)):Bool:=allT [leN x0.length (9223372036854775807:Nat),!(eqL x0 x2&&true)||DE x1 x3]
def Ts:List SV→List Entry→Option Out
 | [.one ⟨true,[.ref 0,.ref 1]⟩,.one ⟨true,[.ref 2,.ref 3]⟩],[.row false 2 (.int .i64) x0,.row false 172 (.pair (.int .i64) (.pair (.int .i64) (.int .i64))) x1,.row false 2 (.int .i64) x2,.row false 172 (.pair (.int .i64) (.pair (.int .i64) (.int .i64))) x3]=>some ⟨.one ⟨false,[.val (.bool (Mu x0 x1 x2 x3))]⟩,[.row false 2 ai3 x0,.row false 172 abM x1,.row false 2 ai3 x2,.row false 172 abM x3],[],[Mv x0 x1 x2 x3]⟩
 |_,_=>none
def ac9:PF prog:=PF.ofG prog (T3z [Fa,Pr]) [] aV 44 f44 func44 (fun c _=>LOk.nil c) Ts (by
 intro vs es r h;unfold Ts at h;split at h
 ·cases h;kernel_rfl
 ·cases h)
section
variable (x0 x1:ByteArray)(x2 x3 x4:List ByteArray)(x5:List (ByteArray×List (Int×ByteArray×Int)))(x6:List Int)(x7:List (Int×Int×Int))
def Je:List (Int×ByteArray×Int):=bif jH x0 x2 x3 x4 x1 x5&&true then blL x5 else []
def Li:Bool:=bif jH x0 x2 x3 x4 x1 x5 then zh (↑x3.length:Int) (Je x0 x1 x2 x3 x4 x5) x6 x7 else false
def Lj:Bool:=allT [NR x0 x2 x3 x4 x1 x5,!(jH x0 x2 x3 x4 x1 x5&&true)||TL x5,!(jH x0 x2 x3 x4 x1 x5&&true)||leN x6.length (9223372036854775807:Nat)&&(leN (List.length (Je x0 x1 x2 x3 x4 x5)) 9223372036854775807&&aa6 (Je x0 x1 x2 x3 x4 x5))]
end
def Xj:List SV→List Entry→Option Out
 | [.one ⟨true,[.val (.string x0),.ref 0,.ref 1,.ref 2,.val (.string x1),.ref 3]⟩,.one ⟨true,[.ref 4,.ref 5]⟩],[.row false 9 (.str) x2,.row false 9 (.str) x3,.row false 9 (.str) x4,.row false 204 (.pair (.str) (.sl 178 (.pair (.int .i64) (.pair (.str) (.int .i64))))) x5,.row false 2 (.int .i64) x6,.row false 172 (.pair (.int .i64) (.pair (.int .i64) (.int .i64))) x7]=>some ⟨.one ⟨false,[.val (.bool (Li x0 x1 x2 x3 x4 x5 x6 x7))]⟩,[.row false 9 alP x2,.row false 9 alP x3,.row false 9 alP x4,.row false 204 (CTy.pair CTy.str (CTy.sl (178:TypeId) acQ)) x5,.row false 2 ai3 x6,.row false 172 abM x7],[],[Lj x0 x1 x2 x3 x4 x5 x6]⟩
 |_,_=>none
def aha:PF prog:=PF.ofG prog (T3z [xZ,cp,bS]) [] aV 45 f45 func45 (fun c _=>LOk.nil c) Xj (by
 intro vs es r h;unfold Xj at h;split at h
 ·cases h;kernel_rfl
 ·cases h)
def Rn(x0 x1:ByteArray)(x2 x3 x4:List ByteArray)(x5:List (ByteArray×List (Int×ByteArray×Int)))(x6:List Int)(x7:List (Int×Int×Int)):Bool:=bif jH x0 x2 x3 x4 x1 x5 then zh (↑x3.length:Int) (blL x5) x6 x7 else false
def Rp(x0 x1:ByteArray)(x2 x3 x4:List ByteArray)(x5:List (ByteArray×List (Int×ByteArray×Int)))(x6:List Int):Bool:=allT [NR x0 x2 x3 x4 x1 x5,!(jH x0 x2 x3 x4 x1 x5&&true)||TL x5&&leN x6.length (9223372036854775807:Nat)]
def Xn:List SV→List Entry→Option Out
 | [.one ⟨true,[.val (.string x0),.ref 0,.ref 1,.ref 2,.val (.string x1),.ref 3]⟩,.one ⟨true,[.ref 4,.ref 5]⟩],[.row false 9 (.str) x2,.row false 9 (.str) x3,.row false 9 (.str) x4,.row false 204 (.pair (.str) (.sl 178 (.pair (.int .i64) (.pair (.str) (.int .i64))))) x5,.row false 2 (.int .i64) x6,.row false 172 (.pair (.int .i64) (.pair (.int .i64) (.int .i64))) x7]=>some ⟨.one ⟨false,[.val (.bool (Rn x0 x1 x2 x3 x4 x5 x6 x7))]⟩,[.row false 9 alP x2,.row false 9 alP x3,.row false 9 alP x4,.row false 204 (CTy.pair CTy.str (CTy.sl (178:TypeId) acQ)) x5,.row false 2 ai3 x6,.row false 172 abM x7],[],[Rp x0 x1 x2 x3 x4 x5 x6]⟩
 |_,_=>none
def ahd:PF prog:=PF.ofG prog (T3z [mK,SM]) [] aV 46 f46 func46 (fun c _=>LOk.nil c) Xn (by
 intro vs es r h;unfold Xn at h;split at h
 ·cases h;kernel_rfl
 ·cases h)
abbrev xP:=Int×Int×List Int
section
variable (y0 y1:Int)(y2:List Int)
def Ki:Bool:=ltI y0 (↑y2.length:Int)
def Ow:Bool:=leI 0 y0
def Ox:Bool:=ltN y0.toNat y2.length
def Oy:Int:=IntKind.wrap .i64 (y0 + (1:Int))
def Oz:Int:=IntKind.wrap .i64 (y1 + Option.getD y2[Int.toNat y0]? 0)
end
def ajC:xP→List (Nat×SV)
 |(y0,y1,_)=> [(4,(.one ⟨false,[.val (.int .i64 y0)]⟩)),(0,(.one ⟨false,[.ref 0]⟩)),(3,(.one ⟨false,[.val (.int .i64 y1)]⟩))]
def ajA:xP→List (Nat×Entry)
 |(_,_,y2)=> [(0,(.row false 2 ai3 y2))]
def ajJ:Nat→xP→List (Nat×SV)
 |_,(_,y1,_)=> [(3,(.one ⟨false,[.val (.int .i64 y1)]⟩))]
def ajH:Nat→xP→List (Nat×Entry)
 |_,(_,_,y2)=> [(0,(.row false 2 ai3 y2))]
def Mx:xP→LT xP
 |(y0,y1,y2)=> .ite (Ki y0 y2) (.need [Ow y0,Ki y0 y2,Ox y0 y2] (.nrm ((Oy y0),Oz y0 y1 y2,y2) [(0,0)])) (.ext 0 [(0,0)])
def Wi(s:St):Option xP:=
 (match s.look 4 with
 |some ⟨none,.one ⟨false,[.val (.int .i64 y0)]⟩⟩=>
 (match s.look 0 with
 |some ⟨none,.one ⟨false,[.ref 0]⟩⟩=>
 (match s.look 3 with
 |some ⟨none,.one ⟨false,[.val (.int .i64 y1)]⟩⟩=>
 (match s.ent 0 with
 |some (.row false 2 (.int .i64) y2)=>
 some (y0,y1,y2)
 |_=>none)
 |_=>none)
 |_=>none)
 |_=>none)
def pX:Lp xP where
 h:=⟨[5,6,7,8,11,12,13,14,15,16,3,9,10,4],[0],[],[]⟩
 JL:=ajC
 JE:=ajA
 XL:=ajJ
 XE:=ajH
 q:=fun j=>match j with | _=> .exit 0
 tags:= [0]
 lt:=Mx
 fuel:=fun(y0,y1,y2)=>y0.natAbs + y1.natAbs + y2.length
 fix:=fun(_,_,y2) (y0,y1,_)=>(y0,y1,y2)
 σ:= [(0,0)]
 rd:=Wi
theorem ahY:LoopOk prog (fun k=>Nat.blt k Tryz.f47.ntmps) pX.F (aY f47 0):=by
 refine Lp.ok (tbl:= []) (lf:= []) aV pX (by kernel_rfl) (LOk.nil _) (fun _=>rfl) (fun _ _=>rfl) ?_ ?_ ?_ ?_ (fun _=>rfl) ?_
 ·rintro⟨y0,y1,y2⟩;kernel_rfl
 ·rintro⟨y0,y1,y2⟩;kernel_rfl
 ·intro s x h
  have h:Wi s=some x:=h
  unfold Wi at h
  repeat' split at h
  all_goals cases h
  constructor<;>repeat(first|refine ab (by assumption) rfl ?_|refine aa rfl (by assumption) rfl ?_|exact rfl)
 ·rintro⟨y0,y1,y2⟩;kernel_rfl
 ·rintro⟨y0,y1,y2⟩ z;exact(And.intro rfl trivial)
section
variable (x0:List Int)
def acS:Int×Int×List Int:=((0:Int),(0:Int),x0)
def afv:Int:=((Lp.res pX (acS x0)).2.2).1
def afw:Bool:=allT [Lp.fin pX (acS x0)]
end
def ajy:List SV→List Entry→Option Out
 | [.one ⟨false,[.ref 0]⟩],[.row false 2 (.int .i64) x0]=>some ⟨.one ⟨false,[.val (.int .i64 (afv x0))]⟩,[.row false 2 ai3 x0],[],[afw x0]⟩
 |_,_=>none
def ao1:PF prog:=PF.ofG prog [] [pX.F] aV 47 f47 func47 (LOk.fnT (l:= [aY f47 0]) (by kernel_rfl) (.cons ahY (.nil _))) ajy (by
 intro vs es r h;unfold ajy at h;split at h
 ·cases h;kernel_rfl
 ·cases h)
def Qe(x0:List Int)(x3:List ByteArray):Bool:= !bitsB (↑x3.length:Int) x0
def Qf(x0:List Int):Bool:=allT [leN x0.length (9223372036854775807:Nat)]
def Qa:List SV→List Entry→Option Out
 | [.one ⟨false,[.ref 0]⟩,.one ⟨false,[.ptr 1 0]⟩],[.row false 2 (.int .i64) x0,.box 63 [.val (.string x1),.ref 2,.ref 3,.ref 4,.val (.string x2),.ref 5],.row false 9 (.str) x3,.row false 9 (.str) x4,.row false 9 (.str) x5,.row false 204 (.pair .str (.sl 178 (.pair (.int .i64) (.pair .str (.int .i64))))) x6]=>some ⟨.one ⟨false,[.val (.bool (Qe x0 x3))]⟩,[.row false 2 ai3 x0,.box 63 [.val (.string x1),.ref 2,.ref 3,.ref 4,.val (.string x2),.ref 5],.row false 9 alP x3,.row false 9 alP x4,.row false 9 alP x5,.row false 204 aas x6],[],[Qf x0]⟩
 |_,_=>none
def sD:PF prog:=PF.ofG prog (T3z [rh]) [] aV 175 f175 func175 (fun c _=>LOk.nil c) Qa (by
 intro vs es r h;unfold Qa at h;split at h
 ·cases h;kernel_rfl
 ·cases h)
abbrev dh:=Int×Int×ByteArray×ByteArray×List (List Int)×List ByteArray×List ByteArray×List ByteArray×List (ByteArray×(List (Int×(ByteArray×Int))))
section
variable (y0 y1:Int)(y4:List (List Int))(y5:List ByteArray)
def zC:List Int:=Option.getD y4[Int.toNat y0]? (xE ahT)
def LF:Bool:=ltI y0 y1
def LG:Bool:=leI 0 y0
def LH:Bool:=ltI y0 (↑y4.length:Int)
def LI:Bool:=ltN y0.toNat y4.length
def LJ:Bool:=Qf (zC y0 y4)
def LK:Bool:=Qe (zC y0 y4) y5
def LL:Int:=IntKind.wrap .i64 (y0 + (1:Int))
end
def Kq:dh→List (Nat×SV)
 |(y0,y1,_,_,_,_,_,_,_)=> [(8,(.one ⟨false,[.val (.int .i64 y0)]⟩)),(7,(.one ⟨false,[.val (.int .i64 y1)]⟩)),(1,(.one ⟨false,[.clo 175 [0]]⟩)),(0,(.one ⟨false,[.ref 1]⟩))]
def Ko:dh→List (Nat×Entry)
 |(_,_,y2,y3,y4,y5,y6,y7,y8)=> [(0,(.box 63 [.val (.string y2),.ref 2,.ref 3,.ref 4,.val (.string y3),.ref 5])),(1,(.row true 41 ahT y4)),(2,(.row false 9 alP y5)),(3,(.row false 9 alP y6)),(4,(.row false 9 alP y7)),(5,(.row false 204 aas y8))]
def Ku:Nat→dh→List (Nat×SV)
 |0,(y0,_,_,_,_,_,_,_,_)=> [(4,(.one ⟨false,[.val (.int .i64 y0)]⟩))]
 |_,(_,_,_,_,_,_,_,_,_)=> []
def Ks:Nat→dh→List (Nat×Entry)
 |0,(_,_,y2,y3,y4,y5,y6,y7,y8)=> [(0,(.box 63 [.val (.string y2),.ref 2,.ref 3,.ref 4,.val (.string y3),.ref 5])),(1,(.row true 41 ahT y4)),(2,(.row false 9 alP y5)),(3,(.row false 9 alP y6)),(4,(.row false 9 alP y7)),(5,(.row false 204 aas y8))]
 |_,(_,_,y2,y3,y4,y5,y6,y7,y8)=> [(0,(.box 63 [.val (.string y2),.ref 2,.ref 3,.ref 4,.val (.string y3),.ref 5])),(1,(.row true 41 ahT y4)),(2,(.row false 9 alP y5)),(3,(.row false 9 alP y6)),(4,(.row false 9 alP y7)),(5,(.row false 204 aas y8))]
def KC:dh→LT dh
 |(y0,y1,y2,y3,y4,y5,y6,y7,y8)=> .ite (LF y0 y1) (.need [LG y0,LH y0 y4,LI y0 y4,LJ y0 y4] (.ite (LK y0 y4 y5) (.ext 0 [(0,0),(1,1),(2,2),(3,3),(4,4),(5,5)]) (.nrm ((LL y0),y1,y2,y3,y4,y5,y6,y7,y8) [(0,0),(1,1),(2,2),(3,3),(4,4),(5,5)]))) (.ext 1 [(0,0),(1,1),(2,2),(3,3),(4,4),(5,5)])
def rS(s:St):Option dh:=
 (match s.look 8 with
 |some ⟨none,.one ⟨false,[.val (.int .i64 y0)]⟩⟩=>
 (match s.look 7 with
 |some ⟨none,.one ⟨false,[.val (.int .i64 y1)]⟩⟩=>
 (match s.look 1 with
 |some ⟨none,.one ⟨false,[.clo 175 [1]]⟩⟩=>
 (match s.look 0 with
 |some ⟨none,.one ⟨false,[.ref 0]⟩⟩=>
 (match s.ent 1 with
 |some (.box 63 [.val (.string y2),.ref 2,.ref 3,.ref 4,.val (.string y3),.ref 5])=>
 (match s.ent 0 with
 |some (.row true 41 (.sl 2 (.int .i64)) y4)=>
 (match s.ent 2 with
 |some (.row false 9 (.str) y5)=>
 (match s.ent 3 with
 |some (.row false 9 (.str) y6)=>
 (match s.ent 4 with
 |some (.row false 9 (.str) y7)=>
 (match s.ent 5 with
 |some (.row false 204 (.pair .str (.sl 178 (.pair (.int .i64) (.pair .str (.int .i64))))) y8)=>
 some (y0,y1,y2,y3,y4,y5,y6,y7,y8)
 |_=>none)
 |_=>none)
 |_=>none)
 |_=>none)
 |_=>none)
 |_=>none)
 |_=>none)
 |_=>none)
 |_=>none)
 |_=>none)
def cU:Lp dh where
 h:=⟨[9,10,5,11,12,13,14,15,16,17,4,18,8],[0,1,2,3,4,5],[],[]⟩
 JL:=Kq
 JE:=Ko
 XL:=Ku
 XE:=Ks
 q:=fun j=>match j with | 0=> .ret | _=> .exit 0
 tags:= [0,1]
 lt:=KC
 fuel:=fun(y0,y1,y2,y3,y4,y5,y6,y7,y8)=>y0.natAbs + y1.natAbs + y2.size + y3.size + y4.length + y5.length + y6.length + y7.length + y8.length
 fix:=fun(_,y1,y2,y3,y4,y5,y6,y7,y8) (y0,_,_,_,_,_,_,_,_)=>(y0,y1,y2,y3,y4,y5,y6,y7,y8)
 σ:= [(0,1),(1,0),(2,2),(3,3),(4,4),(5,5)]
 rd:=rS
theorem Ji:LoopOk prog (fun k=>Nat.blt k Tryz.f217.ntmps) cU.F (aY f217 0):=by
 refine Lp.ok (tbl:= (T3z [sD])) (lf:= []) aV cU (by kernel_rfl) (LOk.nil _) (fun _=>rfl) (fun j _=>by unfold cU;match j with | 0=>rfl | _ + 1=>rfl) ?_ ?_ ?_ ?_ (fun _=>rfl) ?_
 ·rintro⟨y0,y1,y2,y3,y4,y5,y6,y7,y8⟩;kernel_rfl
 ·rintro⟨y0,y1,y2,y3,y4,y5,y6,y7,y8⟩;kernel_rfl
 ·intro s x h
  have h:rS s=some x:=h
  unfold rS at h
  repeat' split at h
  all_goals cases h
  constructor<;>repeat(first|refine ab (by assumption) rfl ?_|refine aa rfl (by assumption) rfl ?_|exact rfl)
 ·rintro⟨y0,y1,y2,y3,y4,y5,y6,y7,y8⟩;kernel_rfl
 ·rintro⟨y0,y1,y2,y3,y4,y5,y6,y7,y8⟩ z;exact(And.intro (And.intro trivial rfl) trivial)
section
variable (x0:List (List Int))(x1 x2:ByteArray)(x3 x4 x5:List ByteArray)(x6:List (ByteArray×List (Int×ByteArray×Int)))
def pp:Int×Int×ByteArray×ByteArray×List (List Int)×List ByteArray×List ByteArray×List ByteArray×List (ByteArray×List (Int×ByteArray×Int)):=((0:Int),(↑x0.length:Int),x1,x2,x0,x3,x4,x5,x6)
def la:Bool:=Nat.beq ((Lp.res cU (pp x0 x1 x2 x3 x4 x5 x6)).1) 0
def vd:Int:=bif la x0 x1 x2 x3 x4 x5 x6 then ((Lp.res cU (pp x0 x1 x2 x3 x4 x5 x6)).2).1else(-1:Int)
def Cq:List (List Int):=bif la x0 x1 x2 x3 x4 x5 x6 then x0 else x0
def Cr:ByteArray:=bif la x0 x1 x2 x3 x4 x5 x6 then x1 else x1
def Cs:ByteArray:=bif la x0 x1 x2 x3 x4 x5 x6 then x2 else x2
def ve:Bool:=allT [Lp.fin cU (pp x0 x1 x2 x3 x4 x5 x6)]
end
def Cd:List SV→List Entry→Option Out
 | [.one ⟨false,[.ref 0]⟩,.one ⟨false,[.clo 175 [1]]⟩],[.row true 41 (.sl 2 (.int .i64)) x0,.box 63 [.val (.string x1),.ref 2,.ref 3,.ref 4,.val (.string x2),.ref 5],.row false 9 (.str) x3,.row false 9 (.str) x4,.row false 9 (.str) x5,.row false 204 (.pair .str (.sl 178 (.pair (.int .i64) (.pair .str (.int .i64))))) x6]=>some ⟨.one ⟨false,[.val (.int .i64 (vd x0 x1 x2 x3 x4 x5 x6))]⟩,[.row true 41 ahT (Cq x0 x1 x2 x3 x4 x5 x6),.box 63 [.val (.string (Cr x0 x1 x2 x3 x4 x5 x6)),.ref 2,.ref 3,.ref 4,.val (.string (Cs x0 x1 x2 x3 x4 x5 x6)),.ref 5],.row false 9 alP x3,.row false 9 alP x4,.row false 9 alP x5,.row false 204 aas x6],[],[ve x0 x1 x2 x3 x4 x5 x6]⟩
 |_,_=>none
def va:PF prog:=PF.ofG prog (T3z [sD]) [cU.F] aV 217 f217 func217 (LOk.fnT (l:= [aY f217 0]) (by kernel_rfl) (.cons Ji (.nil _))) Cd (by
 intro vs es r h;unfold Cd at h;split at h
 ·cases h;kernel_rfl
 ·cases h)
section
variable (x0:List (List Int))(x1 x2:ByteArray)(x3 x4 x5:List ByteArray)(x6:List (ByteArray×List (Int×ByteArray×Int)))
def nR:Bool:=leI 0 (vd x0 x1 x2 x3 x4 x5 x6)
def LC:List (List Int):=Cq x0 x1 x2 x3 x4 x5 x6
def LD:ByteArray:=Cr x0 x1 x2 x3 x4 x5 x6
def LE:ByteArray:=Cs x0 x1 x2 x3 x4 x5 x6
def nS:Bool:=allT [ve x0 x1 x2 x3 x4 x5 x6]
end
def Ay:List SV→List Entry→Option Out
 | [.one ⟨false,[.ref 0]⟩,.one ⟨false,[.clo 175 [1]]⟩],[.row true 41 (.sl 2 (.int .i64)) x0,.box 63 [.val (.string x1),.ref 2,.ref 3,.ref 4,.val (.string x2),.ref 5],.row false 9 (.str) x3,.row false 9 (.str) x4,.row false 9 (.str) x5,.row false 204 (.pair .str (.sl 178 (.pair (.int .i64) (.pair .str (.int .i64))))) x6]=>some ⟨.one ⟨false,[.val (.bool (nR x0 x1 x2 x3 x4 x5 x6))]⟩,[.row true 41 ahT (LC x0 x1 x2 x3 x4 x5 x6),.box 63 [.val (.string (LD x0 x1 x2 x3 x4 x5 x6)),.ref 2,.ref 3,.ref 4,.val (.string (LE x0 x1 x2 x3 x4 x5 x6)),.ref 5],.row false 9 alP x3,.row false 9 alP x4,.row false 9 alP x5,.row false 204 aas x6],[],[nS x0 x1 x2 x3 x4 x5 x6]⟩
 |_,_=>none
def sA:PF prog:=PF.ofG prog (T3z [va]) [] aV 163 f163 func163 (fun c _=>LOk.nil c) Ay (by
 intro vs es r h;unfold Ay at h;split at h
 ·cases h;kernel_rfl
 ·cases h)
section
variable (x0 x1:ByteArray)(x2 x3 x4:List ByteArray)(x5:List (ByteArray×List (Int×ByteArray×Int)))(x6:List Int)(x7:List (Int×Int×Int))
def QV:Bool:= !!zh (↑x3.length:Int) (blL x5) x6 x7&&true
def CJ:List (List Int):=bif QV x3 x5 x6 x7 then []else []
def zp:Int:=bif !jH x0 x2 x3 x4 x1 x5 then(1:Int)else bif bif !zh (↑x3.length:Int) (blL x5) x6 x7 then true else nR (CJ x3 x5 x6 x7) x0 x1 x2 x3 x4 x5 then(2:Int)else(0:Int)
def EE:Bool:=allT [NR x0 x2 x3 x4 x1 x5,!jH x0 x2 x3 x4 x1 x5||TL x5,!jH x0 x2 x3 x4 x1 x5||leN x6.length (9223372036854775807:Nat)&&(leN (List.length (blL x5)) 9223372036854775807&&aa6 (blL x5)),!jH x0 x2 x3 x4 x1 x5||(!QV x3 x5 x6 x7||nS (CJ x3 x5 x6 x7) x0 x1 x2 x3 x4 x5)]
end
def Sl:List SV→List Entry→Option Out
 | [.one ⟨true,[.val (.string x0),.ref 0,.ref 1,.ref 2,.val (.string x1),.ref 3]⟩,.one ⟨true,[.ref 4,.ref 5]⟩,.one ⟨false,[.val (.slice none 0 0)]⟩],[.row false 9 (.str) x2,.row false 9 (.str) x3,.row false 9 (.str) x4,.row false 204 (.pair .str (.sl 178 (.pair (.int .i64) (.pair .str (.int .i64))))) x5,.row false 2 (.int .i64) x6,.row false 172 (.pair (.int .i64) (.pair (.int .i64) (.int .i64))) x7]=>some ⟨.one ⟨false,[.val (.int .i64 (zp x0 x1 x2 x3 x4 x5 x6 x7))]⟩,[.row false 9 alP x2,.row false 9 alP x3,.row false 9 alP x4,.row false 204 aas x5,.row false 2 ai3 x6,.row false 172 abM x7],[],[EE x0 x1 x2 x3 x4 x5 x6 x7]⟩
 |_,_=>none
def KF:PF prog:=PF.ofG prog (T3z [xZ,cp,bS,sA]) [] aV 110 f110 func110 (fun c _=>LOk.nil c) Sl (by
 intro vs es r h;unfold Sl at h;split at h
 ·cases h;kernel_rfl
 ·cases h)
section
variable (x0 x1 x2:ByteArray)(x3 x4 x5:List ByteArray)(x6:List (ByteArray×List (Int×ByteArray×Int)))(x7:List Int)(x8:List (Int×Int×Int))
def BV:Bool:=zp x0 x1 x3 x4 x5 x6 x7 x8 !=0
def VJ:Int:=bif BV x0 x1 x3 x4 x5 x6 x7 x8 then(0:Int)else bif ltI (gW x4 x2) 0 then(0:Int)else Option.getD x7[Int.toNat (gW x4 x2)]? 0
def VK:Int:=bif BV x0 x1 x3 x4 x5 x6 x7 x8 then zp x0 x1 x3 x4 x5 x6 x7 x8 else bif ltI (gW x4 x2) 0 then(4:Int)else(0:Int)
def VL:Bool:=allT [EE x0 x1 x3 x4 x5 x6 x7 x8,BV x0 x1 x3 x4 x5 x6 x7 x8||leN x4.length (9223372036854775807:Nat),BV x0 x1 x3 x4 x5 x6 x7 x8||(ltI (gW x4 x2) 0||leI 0 (gW x4 x2)),BV x0 x1 x3 x4 x5 x6 x7 x8||(ltI (gW x4 x2) 0||ltI (gW x4 x2) (↑x7.length:Int)),BV x0 x1 x3 x4 x5 x6 x7 x8||(ltI (gW x4 x2) 0||ltN (Int.toNat (gW x4 x2)) x7.length)]
end
def abP:List SV→List Entry→Option Out
 | [.one ⟨true,[.val (.string x0),.ref 0,.ref 1,.ref 2,.val (.string x1),.ref 3]⟩,.one ⟨true,[.ref 4,.ref 5]⟩,.one ⟨false,[.val (.string x2)]⟩],[.row false 9 (.str) x3,.row false 9 (.str) x4,.row false 9 (.str) x5,.row false 204 (.pair (.str) (.sl 178 (.pair (.int .i64) (.pair (.str) (.int .i64))))) x6,.row false 2 (.int .i64) x7,.row false 172 (.pair (.int .i64) (.pair (.int .i64) (.int .i64))) x8]=>some ⟨.tup [⟨false,[.val (.int .i64 (VJ x0 x1 x2 x3 x4 x5 x6 x7 x8))]⟩,⟨false,[.val (.int .i64 (VK x0 x1 x2 x3 x4 x5 x6 x7 x8))]⟩],[.row false 9 alP x3,.row false 9 alP x4,.row false 9 alP x5,.row false 204 (CTy.pair CTy.str (CTy.sl (178:TypeId) acQ)) x6,.row false 2 ai3 x7,.row false 172 abM x8],[],[VL x0 x1 x2 x3 x4 x5 x6 x7 x8]⟩
 |_,_=>none
def akx:PF prog:=PF.ofG prog (T3z [Uv,lm,KF]) [] aV 48 f48 func48 (fun c _=>LOk.nil c) abP (by
 intro vs es r h;unfold abP at h;split at h
 ·cases h;kernel_rfl
 ·cases h)
def vK(y1 y2:List (Int×(Int×Int)))(b:Nat):(Unit)→Nat ⊕ (Unit)
 |_=>(bif(!bif (Option.getD y1[b]? ((0:Int),(0:Int),(0:Int))).1==(Option.getD y2[b]? ((0:Int),(0:Int),(0:Int))).1then bif ((Option.getD y1[b]? ((0:Int),(0:Int),(0:Int))).2).1==((Option.getD y2[b]? ((0:Int),(0:Int),(0:Int))).2).1then bif (Option.getD y1[b]? ((0:Int),(0:Int),(0:Int))).2.2==(Option.getD y2[b]? ((0:Int),(0:Int),(0:Int))).2.2then true else false else false else false)then(.inl 0)else(.inr ()))
def qY(y1 y2:List (Int×(Int×Int)))(i:Nat):(Unit)→ld
 |_=>((i:Int),y1,y2)
def Jm:ld→Unit
 |(_,_,_)=>()
theorem abL(y1 y2:List (Int×(Int×Int))) (hn:y1.length≤9223372036854775807) (he:y2.length=y1.length):
  ea.fin ((0:Int),y1,y2)=true∧ea.res ((0:Int),y1,y2)=((bc (vK y1 y2) 1 (List.range y1.length) 0 ()).1,(qY y1 y2) (bc (vK y1 y2) 1 (List.range y1.length) 0 ()).2.1 (bc (vK y1 y2) 1 (List.range y1.length) 0 ()).2.2):=by
 have oi:=ea.along (qY y1 y2) Jm (vK y1 y2) 1 (fun _ _=>True) (List.range y1.length) () (by trivial) (by simp only [ea,qY,List.length_range];omega) (fun i b a hb hI=> ?_) (fun a hI=> ?_)
 ·exact oi
 ·obtain⟨⟩:=a
  obtain⟨rfl,gV⟩:=Ql hb
  have hw:IntKind.i64.wrap ((b:Int) + 1)=((b + 1:Nat):Int):=by rw [bi (by omega) (by omega)];omega
  have fA:ltI (b:Int) (y1.length:Int)=true:=fv (by omega)
  have Gz:leI (0:Int) (b:Int)=true:=cM (by omega)
  have qn:ltN b y1.length=true:=gM (by omega)
  refine⟨?_,?_,?_,?_⟩
  ·simp [qK,qL,vL,vM,zq,zs,zt,zu,zw,xW,ea,LT.nds,allT,qY,fA,Gz,qn,he]
  ·simp [qK,qL,vL,vM,zq,zs,zt,zu,zw,xW,ea,LT.each,qY,Jm,hw,he]
  ·simp only [qK,qL,vL,vM,zq,zs,zt,zu,zw,xW,ea,LT.fn,qY,Jm,vK,Int.toNat_natCast,fA,cond_true]
  ·exact fun _ _=>trivial
 ·obtain⟨⟩:=a
  simp [qK,qL,vL,vM,zq,zs,zt,zu,zw,xW,ea,LT.out,qY,List.length_range]
def Kh(b:Int):(Int)→Nat ⊕ (Int)
 |y1=>(.inr (IntKind.wrap .i64 (y1 + b)))
def BB(y2:List Int)(i:Nat):(Int)→xP
 |y1=>((i:Int),y1,y2)
def Wg:xP→Int
 |(_,y1,_)=>y1
theorem alx(y2:List Int)(y1:Int)(hn:y2.length≤9223372036854775807):
  pX.fin ((0:Int),y1,y2)=true∧pX.res ((0:Int),y1,y2)=((bc (Kh) 0 y2 0 y1).1,(BB y2) (bc (Kh) 0 y2 0 y1).2.1 (bc (Kh) 0 y2 0 y1).2.2):=by
 have oi:=pX.along (BB y2) Wg (Kh) 0 (fun _ _=>True) y2 y1 (by trivial) (by simp only [pX,BB];omega) (fun i b a hb hI=> ?_) (fun a hI=> ?_)
 ·exact oi
 ·obtain y1:=a
  have gV:=(List.getElem?_eq_some_iff.1 hb).1
  have lH: ∀ d,Option.getD y2[i]? d=b:=fun d=>by rw [hb];rfl
  have hw:=yJ gV hn
  have fA:ltI (i:Int) (y2.length:Int)=true:=fv (by omega)
  have Gz:leI (0:Int) (i:Int)=true:=cM (by omega)
  have qn:ltN i y2.length=true:=gM gV
  refine⟨?_,?_,?_,?_⟩
  ·simp [Ki,Ow,Ox,Oy,Oz,Mx,pX,LT.nds,allT,BB,fA,Gz,qn,lH]
  ·simp [Ki,Ow,Ox,Oy,Oz,Mx,pX,LT.each,BB,Wg,hw]
  ·simp only [Ki,Ow,Ox,Oy,Oz,Mx,pX,LT.fn,BB,Wg,Kh,Int.toNat_natCast,fA,Gz,qn,lH,cond_true,Bool.cond_self]
  ·exact fun _ _=>trivial
 ·obtain y1:=a
  simp [Ki,Ow,Ox,Oy,Oz,Mx,pX,LT.out,BB]
theorem ali(xs ys:List BS3)(hn:leN xs.length 9223372036854775807=true):DD xs ys=aqJ xs ys∧DE xs ys=true:=by
 have hn:=jD.1 hn
 unfold aqJ
 have h3: ∀ a b:BS3,(!bif a.1==b.1 then bif a.2.1==b.2.1 then bif a.2.2==b.2.2 then true else false else false else false)= !decide (a=b):=fun a b=>by
  obtain⟨a1,a2,a3⟩:=a;obtain⟨b1,b2,b3⟩:=b
  simp only [Prod.mk.injEq]
  by_cases h1:a1=b1 <;> by_cases h2:a2=b2 <;> by_cases h3:a3=b3 <;> simp [h1,h2,h3]
 by_cases hl:ys.length=xs.length
 ·obtain⟨w1,w2⟩:=abL xs ys hn hl
  have ha:=aqs (d:=((0:Int),(0:Int),(0:Int))) hl (P:=fun b=> !decide (Option.getD xs[b]? ((0:Int),(0:Int),(0:Int))=Option.getD ys[b]? ((0:Int),(0:Int),(0:Int)))) (fun b=>rfl)
  rw [kn (P:=fun b=> !decide (Option.getD xs[b]? ((0:Int),(0:Int),(0:Int))=Option.getD ys[b]? ((0:Int),(0:Int),(0:Int)))) (j:=0) (fun b=>by simp only [vK,h3]),ha]at w2
  simp only [GL,GM,DD,DE,w1,w2,allT]
  by_cases he:xs=ys
  ·subst he;simp;decide
  ·simp [he,hl]
 ·have Vf:xs≠ys:=fun h=>hl (by rw [h])
  simp [GL,GM,DD,DE,allT,Vf]
  omega
def lkM(xs:List Int)(ss:List BS3)(ys:List Int)(us:List BS3):Bool:=eqL xs ys&&aqJ ss us
theorem aqV(xs:List Int)(ss:List BS3):lkM xs ss xs ss=true:=by simp only [lkM,anj,apZ,Bool.and_self]
theorem aoW(xs:List Int)(ss:List BS3)(ys:List Int)(us:List BS3)(h:(leN xs.length 9223372036854775807&&leN ss.length 9223372036854775807)=true):
  Mu xs ss ys us=lkM xs ss ys us∧Mv xs ss ys us=true:=by
 simp only [Bool.and_eq_true]at h
 obtain⟨a,b⟩:=ali ss us h.2
 simp only [Mu,Mv,a,b,h.1,lkM,allT,Bool.or_true,cond_true,and_true]
 cases eqL xs ys <;> rfl
def TA:List SV→List Entry→Option Out
 | [.one ⟨true,[.ref 0,.ref 1]⟩,.one ⟨true,[.ref 2,.ref 3]⟩],[.row false 2 (.int .i64) x0,.row false 172 (.pair (.int .i64) (.pair (.int .i64) (.int .i64))) x1,.row false 2 (.int .i64) x2,.row false 172 (.pair (.int .i64) (.pair (.int .i64) (.int .i64))) x3]=>some ⟨.one ⟨false,[.val (.bool (lkM x0 x1 x2 x3))]⟩,[.row false 2 ai3 x0,.row false 172 abM x1,.row false 2 ai3 x2,.row false 172 abM x3],[],[leN x0.length 9223372036854775807&&leN x1.length 9223372036854775807]⟩
 |_,_=>none
def Mz:PF prog:=PF.alt ac9 TA (by
 intro args es o h cD;unfold TA at h;split at h
 ·rename_i x0 x1 x2 x3
  cases h
  have cD:=ln cD
  have hh:=aoW x0 x1 x2 x3 cD
  obtain⟨e0,en⟩:=hh
  exact qy rfl (kw en) (by simp only [e0] <;> rfl) rfl rfl
 ·cases h)
def smW(l:List Int):Int:=l.foldl (fun a b=>IntKind.i64.wrap (a + b)) 0
theorem aso(l:List Int)(h:leN l.length 9223372036854775807=true):afv l=smW l∧afw l=true:=by
 obtain⟨w1,w2⟩:=alx l 0 (jD.1 h)
 rw [Kf (f:=Kh) (g:=fun a b=>IntKind.i64.wrap (a + b)) (fun b a=>rfl)]at w2
 simp only [afv,afw,acS,w1,w2,BB,smW,allT,cond_true,and_true]
def ajE:List SV→List Entry→Option Out
 | [.one ⟨false,[.ref 0]⟩],[.row false 2 (.int .i64) x0]=>some ⟨.one ⟨false,[.val (.int .i64 (smW x0))]⟩,[.row false 2 ai3 x0],[],[leN x0.length 9223372036854775807]⟩
 |_,_=>none
def afC:PF prog:=PF.alt ao1 ajE (by
 intro args es o h cD;unfold ajE at h;split at h
 ·rename_i x0
  cases h
  have cD:=ln cD
  have hh:=aso x0 cD
  obtain⟨e0,en⟩:=hh
  exact qy rfl (kw en) (by simp only [e0] <;> rfl) rfl rfl
 ·cases h)
theorem arf: ∀ (l:List Int) (a:Int),(∀ z∈l,z=0∨z=1)→0≤a→a + l.length≤1000→
  (l.foldl (fun a b=>IntKind.i64.wrap (a + b)) a=a∧(∀ z∈l,z=0))∨(a < l.foldl (fun a b=>IntKind.i64.wrap (a + b)) a∧ ∃ z∈l,z≠0)
 | [],a,_,_,_=> .inl ⟨rfl,fun z hz=>(List.not_mem_nil hz).elim⟩
 |b::r,a,hb,h0,h1=>by
  have hbb:=hb b (by simp)
  simp only [List.length_cons]at h1
  have hw:IntKind.i64.wrap (a + b)=a + b:=bi (by omega) (by omega)
  rw [List.foldl_cons,hw]
  have hr:=arf r (a + b) (fun z hz=>hb z (by simp [hz])) (by omega) (by omega)
  rcases hbb with rfl | rfl
  ·rw [Int.add_zero]at hr ⊢
   rcases hr with⟨h2,h3⟩ | ⟨h2,z,hz,h3⟩
   ·exact .inl ⟨h2,fun z hz=>(List.mem_cons.1 hz).elim (fun e=>e) (h3 z)⟩
   ·exact .inr ⟨h2,z,by simp [hz],h3⟩
  ·rcases hr with⟨h2,_⟩ | ⟨h2,_⟩
   ·exact .inr ⟨by omega,1,by simp,by decide⟩
   ·exact .inr ⟨by omega,1,by simp,by decide⟩
theorem arg{l:List Int}(hb: ∀ z∈l,z=0∨z=1)(hl:l.length≤900):(smW l==0)=l.all fun z=>z==0:=by
 rcases arf l 0 hb (Int.le_refl _) (by omega)with⟨h1,h2⟩ | ⟨h1,z,hz,h2⟩
 ·have e:smW l=0:=h1
  have ha:(l.all fun z=>z==0)=true:=List.all_eq_true.2 fun z hz=>by rw [h2 z hz];rfl
  rw [e,ha];rfl
 ·have e:smW l≠0:=fun e=>by unfold smW at e;omega
  have ha:(l.all fun z=>z==0)=false:=by
   rw [← Bool.not_eq_true,List.all_eq_true]
   intro h
   have:=h z hz
   simp only [beq_iff_eq]at this
   exact h2 this
  rw [ha,beq_eq_false_iff_ne];exact e
def ai4(nm:ByteArray)(ins vs os:List ByteArray)(g:ByteArray)(ls:List LN)(xs:List Int)(ss:List BS3):Bool:=jH nm ins vs os g ls&&zh vs.length (blL ls) xs ss
theorem agZ{nm:ByteArray}{ins vs os:List ByteArray}{g:ByteArray}{ls:List LN}{xs:List Int}:(NR nm ins vs os g ls&&leN xs.length 9223372036854775807)=true↔NR nm ins vs os g ls=true∧leN xs.length 9223372036854775807=true:=by simp only [Bool.and_eq_true]
theorem api(nm:ByteArray)(ins vs os:List ByteArray)(g:ByteArray)(ls:List LN)(xs:List Int)(ss:List BS3)(h:(NR nm ins vs os g ls&&leN xs.length 9223372036854775807)=true):
  Rn nm g ins vs os ls xs ss=ai4 nm ins vs os g ls xs ss∧Rp nm g ins vs os ls xs=true:=by
 obtain⟨h1,h2⟩:=agZ.1 h
 have h3:=(MH.1 h1).2.2.2.2.2.2
 simp only [Rn,Rp,ai4,h1,h2,h3,allT,Bool.and_self,Bool.or_true,cond_true,and_true]
 cases jH nm ins vs os g ls <;> rfl
theorem aoN(nm:ByteArray)(ins vs os:List ByteArray)(g:ByteArray)(ls:List LN)(xs:List Int)(ss:List BS3)(h:(NR nm ins vs os g ls&&leN xs.length 9223372036854775807)=true):
  Li nm g ins vs os ls xs ss=ai4 nm ins vs os g ls xs ss∧Lj nm g ins vs os ls xs=true:=by
 obtain⟨h1,h2⟩:=agZ.1 h
 have h3:=(MH.1 h1).2.2.2.2.2.2
 have hbl:=amH h3
 have hbl2:leN (blL ls).length 9223372036854775807=true:=ci (by omega)
 cases hs:jH nm ins vs os g ls with
 |false=>simp only [Li,Lj,ai4,h1,hs,allT,Bool.false_and,Bool.not_false,Bool.true_or,cond_true,cond_false,and_self]
 |true=>
  have hb:=acG ls (Qn hs).2.1
  simp only [Li,Lj,Je,ai4,h1,h2,h3,hs,hb,hbl2,allT,Bool.and_self,Bool.true_and,Bool.or_true,cond_true,and_self]
def Xs:List SV→List Entry→Option Out
 | [.one ⟨true,[.val (.string x0),.ref 0,.ref 1,.ref 2,.val (.string x1),.ref 3]⟩,.one ⟨true,[.ref 4,.ref 5]⟩],[.row false 9 (.str) x2,.row false 9 (.str) x3,.row false 9 (.str) x4,.row false 204 (.pair (.str) (.sl 178 (.pair (.int .i64) (.pair (.str) (.int .i64))))) x5,.row false 2 (.int .i64) x6,.row false 172 (.pair (.int .i64) (.pair (.int .i64) (.int .i64))) x7]=>some ⟨.one ⟨false,[.val (.bool (ai4 x0 x2 x3 x4 x1 x5 x6 x7))]⟩,[.row false 9 alP x2,.row false 9 alP x3,.row false 9 alP x4,.row false 204 (CTy.pair CTy.str (CTy.sl (178:TypeId) acQ)) x5,.row false 2 ai3 x6,.row false 172 abM x7],[],[NR x0 x2 x3 x4 x1 x5&&leN x6.length 9223372036854775807]⟩
 |_,_=>none
def QZ:PF prog:=PF.alt ahd Xs (by
 intro args es o h cD;unfold Xs at h;split at h
 ·rename_i x0 x1 x2 x3 x4 x5 x6 x7
  cases h
  have cD:=ln cD
  have hh:=api x0 x2 x3 x4 x1 x5 x6 x7 cD
  obtain⟨e0,en⟩:=hh
  exact qy rfl (kw en) (by simp only [e0] <;> rfl) rfl rfl
 ·cases h)
def Xr:List SV→List Entry→Option Out
 | [.one ⟨true,[.val (.string x0),.ref 0,.ref 1,.ref 2,.val (.string x1),.ref 3]⟩,.one ⟨true,[.ref 4,.ref 5]⟩],[.row false 9 (.str) x2,.row false 9 (.str) x3,.row false 9 (.str) x4,.row false 204 (.pair (.str) (.sl 178 (.pair (.int .i64) (.pair (.str) (.int .i64))))) x5,.row false 2 (.int .i64) x6,.row false 172 (.pair (.int .i64) (.pair (.int .i64) (.int .i64))) x7]=>some ⟨.one ⟨false,[.val (.bool (ai4 x0 x2 x3 x4 x1 x5 x6 x7))]⟩,[.row false 9 alP x2,.row false 9 alP x3,.row false 9 alP x4,.row false 204 (CTy.pair CTy.str (CTy.sl (178:TypeId) acQ)) x5,.row false 2 ai3 x6,.row false 172 abM x7],[],[NR x0 x2 x3 x4 x1 x5&&leN x6.length 9223372036854775807]⟩
 |_,_=>none
def QY:PF prog:=PF.alt aha Xr (by
 intro args es o h cD;unfold Xr at h;split at h
 ·rename_i x0 x1 x2 x3 x4 x5 x6 x7
  cases h
  have cD:=ln cD
  have hh:=aoN x0 x2 x3 x4 x1 x5 x6 x7 cD
  obtain⟨e0,en⟩:=hh
  exact qy rfl (kw en) (by simp only [e0] <;> rfl) rfl rfl
 ·cases h)
theorem art(nm g:ByteArray)(ins vs os:List ByteArray)(ls:List LN):nR [] nm g ins vs os ls=false∧nS [] nm g ins vs os ls=true:=by
 obtain⟨f0,j,y,g0,rfl,rfl⟩:=cU.inv (fun _ y=>y=((0:Int),(0:Int),nm,g,[],ins,vs,os,ls)) (fun j y=>j=1∧y=((0:Int),(0:Int),nm,g,[],ins,vs,os,ls)) (fun k x hx=> .inl ⟨1,by subst hx;rfl,rfl,hx⟩) (fun x hx=>⟨1,by subst hx;rfl,rfl,hx⟩) 0 _ (by omega) rfl
 have e0:pp [] nm g ins vs os ls=((0:Int),(0:Int),nm,g,[],ins,vs,os,ls):=rfl
 simp only [nR,nS,vd,ve,la,e0,f0,g0,allT,cond_true,and_true]
 rfl
theorem apf(nm:ByteArray)(ins vs os:List ByteArray)(g:ByteArray)(ls:List LN)(xs:List Int)(ss:List BS3)(h:(NR nm ins vs os g ls&&leN xs.length 9223372036854775807)=true):
  zp nm g ins vs os ls xs ss=Jr nm ins vs os g ls xs ss []∧EE nm g ins vs os ls xs ss=true:=by
 obtain⟨h1,h2⟩:=agZ.1 h
 have h3:=(MH.1 h1).2.2.2.2.2.2
 have hbl:=amH h3
 have hbl2:leN (blL ls).length 9223372036854775807=true:=ci (by omega)
 have e1:CJ vs ls xs ss= []:=by simp only [CJ,Bool.cond_self]
 obtain⟨c0,c4⟩:=art nm g ins vs os ls
 simp only [zp,EE,e1,c0,c4,h1,h2,h3,hbl2,Jr,allT,List.all_nil,Bool.not_true,Bool.or_false,Bool.or_true,Bool.true_and,cond_true]
 cases hs:jH nm ins vs os g ls with
 |false=>exact⟨rfl,rfl⟩
 |true=>
  rw [acG ls (Qn hs).2.1]
  cases zh vs.length (blL ls) xs ss <;> exact⟨rfl,rfl⟩
def viC(nm:ByteArray)(ins vs os:List ByteArray)(g:ByteArray)(ls:List LN)(xs:List Int)(ss:List BS3)(s:ByteArray):Int:=bif Jr nm ins vs os g ls xs ss []!=0 then Jr nm ins vs os g ls xs ss []else bif mH vs s then 0 else 4
def viV(nm:ByteArray)(ins vs os:List ByteArray)(g:ByteArray)(ls:List LN)(xs:List Int)(ss:List BS3)(s:ByteArray):Int:=bif Jr nm ins vs os g ls xs ss []!=0 then 0 else bif mH vs s then atZ xs (Ps vs s)else 0
theorem ap7(nm:ByteArray)(ins vs os:List ByteArray)(g:ByteArray)(ls:List LN)(xs:List Int)(ss:List BS3)(s:ByteArray)(h:(NR nm ins vs os g ls&&leN xs.length 9223372036854775807)=true):
  VJ nm g s ins vs os ls xs ss=viV nm ins vs os g ls xs ss s∧VK nm g s ins vs os ls xs ss=viC nm ins vs os g ls xs ss s∧VL nm g s ins vs os ls xs ss=true:=by
 obtain⟨c0,c1⟩:=apf nm ins vs os g ls xs ss h
 obtain⟨h1,h2⟩:=agZ.1 h
 simp only [VJ,VK,VL,BV,c0,c1,viC,viV,allT]
 cases hz:(Jr nm ins vs os g ls xs ss []!=0)with
 |true=>simp only [cond_true,Bool.true_or,and_self]
 |false=>
  obtain⟨k1,k2,_⟩:=al8 hz
  obtain⟨_,s2,_⟩:=Kl.1 k2
  have hx:=(eI.1 s2).2
  obtain⟨_,_,_,_,_,_,hv,_⟩:=Qn k1
  have hn:leN vs.length 9223372036854775807=true:=ci (by omega)
  simp only [cond_false,Bool.false_or,hn,cond_true]
  cases hh:mH vs s with
  |false=>
   have e:ltI (gW vs s) 0=true:=by simp only [gW,hh,cond_false];rfl
   simp only [e,cond_true,cond_false,Bool.true_or,and_self]
  |true=>
   have hp:=XC hh
   have e:ltI (Ps vs s:Int) 0=false:=NM (by omega)
   have q1:leI 0 (Ps vs s:Int)=true:=cM (by omega)
   have q2:ltI (Ps vs s:Int) (xs.length:Int)=true:=fv (by omega)
   have q3:ltN (Ps vs s) xs.length=true:=gM (by omega)
   simp only [QP hh,e,q1,q2,q3,Int.toNat_natCast,cond_true,cond_false,Bool.false_or,and_self,atZ]
def ack:List SV→List Entry→Option Out
 | [.one ⟨true,[.val (.string x0),.ref 0,.ref 1,.ref 2,.val (.string x1),.ref 3]⟩,.one ⟨true,[.ref 4,.ref 5]⟩,.one ⟨false,[.val (.string x2)]⟩],[.row false 9 (.str) x3,.row false 9 (.str) x4,.row false 9 (.str) x5,.row false 204 (.pair (.str) (.sl 178 (.pair (.int .i64) (.pair (.str) (.int .i64))))) x6,.row false 2 (.int .i64) x7,.row false 172 (.pair (.int .i64) (.pair (.int .i64) (.int .i64))) x8]=>some ⟨.tup [⟨false,[.val (.int .i64 (viV x0 x3 x4 x5 x1 x6 x7 x8 x2))]⟩,⟨false,[.val (.int .i64 (viC x0 x3 x4 x5 x1 x6 x7 x8 x2))]⟩],[.row false 9 alP x3,.row false 9 alP x4,.row false 9 alP x5,.row false 204 (CTy.pair CTy.str (CTy.sl (178:TypeId) acQ)) x6,.row false 2 ai3 x7,.row false 172 abM x8],[],[NR x0 x3 x4 x5 x1 x6&&leN x7.length 9223372036854775807]⟩
 |_,_=>none
def VX:PF prog:=PF.alt akx ack (by
 intro args es o h cD;unfold ack at h;split at h
 ·rename_i x0 x1 x2 x3 x4 x5 x6 x7 x8
  cases h
  have cD:=ln cD
  have hh:=ap7 x0 x3 x4 x5 x1 x6 x7 x8 x2 cD
  obtain⟨e0,e1,en⟩:=hh
  exact qy rfl (kw en) (by simp only [e0,e1] <;> rfl) rfl rfl
 ·cases h)
theorem Sm(c:List Int)(h:aA 0 0 c=true):
  PA c=true∧prD (bK c) (bD c) (bE c) (bF c) (bt c) (dE c)=true∧(dd c).length≤60∧(eX c).length≤2000∧(iC c).length≤60:=by
 have h1:=(apy c h).2
 obtain⟨_,s2,hp⟩:=XY 0 (frS c) c h1
 have i0:=(sM.1 (Np.1 hp).2.1).1
 obtain⟨_,s3,m2,m3⟩:=Qp _ _ _ _ _ _ _ _ c s2 hp
 have s3:aA (GO c) (GP c) c=true:=s3
 obtain⟨_,_,m8⟩:=HW (bK c) (bt c) (GO c) (GP c) (bD c) (bE c) (bF c) (dE c) c s3 i0
 refine⟨?_,hp,m2,m3,m8⟩
 simp only [PA,h,h1,s2,hp,s3,ci i0,allT,Bool.and_self,cond_true]
def Vx:List SV→List Entry→Option Out
 | [.one ⟨false,[.ref 0]⟩],[.row false 5 (.int .u8) x0]=>some ⟨.tup [⟨true,[.val (.string (bK x0)),.ref 1,.ref 2,.ref 3,.val (.string (bt x0)),.ref 4]⟩,⟨true,[.ref 5,.ref 6]⟩,⟨false,[.ref 7]⟩],[.row false 5 aj7 x0],[.row true 9 alP (bD x0),.row true 9 alP (bE x0),.row true 9 alP (bF x0),.row true 204 aas (dE x0),.row true 2 ai3 (dd x0),.row true 172 abM (eX x0),.row true 2 ai3 (iC x0)],[aA 0 0 x0]⟩
 |_,_=>none
def Po:PF prog:=PF.alt afI Vx (by
 intro args es o h cD;unfold Vx at h;split at h
 ·rename_i x0
  cases h
  have cD:=ln cD
  have hh:=(Sm x0 cD).1
  have en:=hh
  exact qy rfl (kw en) rfl rfl rfl
 ·cases h)
section
variable (x0:List Int)
def gr:Int:=Jr (bK x0) (bD x0) (bE x0) (bF x0) (bt x0) (dE x0) (dd x0) (eX x0) [iC x0]
def tK:List Int:=rnO (bK x0) (bD x0) (bE x0) (bF x0) (bt x0) (dE x0) (dd x0) (eX x0) (iC x0)
def pK:Bool:=bif gr x0 !=gr x0 then true else !eqL (tK x0) (tK x0)
def jP:List Int:=rnV (bK x0) (bD x0) (bE x0) (bF x0) (bt x0) (dE x0) (dd x0) (eX x0) (iC x0)
def wk:Bool:=sfB (bK x0) (bD x0) (bE x0) (bF x0) (bt x0) (dE x0) (dd x0) (eX x0) (iC x0)
def ch:Bool:=bif bif bif pK x0 then true else !lkM (jP x0) (rnB (bK x0) (bD x0) (bE x0) (bF x0) (bt x0) (dE x0) (dd x0) (eX x0) (iC x0)) (jP x0) (rnB (bK x0) (bD x0) (bE x0) (bF x0) (bt x0) (dE x0) (dd x0) (eX x0) (iC x0))then true else gr x0 !=gr x0 then true else !wk x0==wk x0
def wl:List (ByteArray×List (Int×ByteArray×Int)):=bif !ch x0&&true then dE x0 else dE x0
def tL:Bool:=bif ch x0 then true else !ai4 (bK x0) (bD x0) (bE x0) (bF x0) (bt x0) (dE x0) (dd x0) (eX x0)==ai4 (bK x0) (bif !ch x0&&true then bD x0 else bD x0) (bif !ch x0&&true then bE x0 else bE x0) (bif !ch x0&&true then bF x0 else bF x0) (bt x0) (wl x0) (bif !ch x0&&true then dd x0 else dd x0) (bif !ch x0&&true then eX x0 else eX x0)
def za:List Int:=bif !gr x0 !=gr x0&&true then tK x0 else tK x0
def zb:Bool:=smW (za x0)==0
def mj:List ByteArray:=bif !ch x0&&true then bif !ch x0&&true then bD x0 else bD x0 else bif !ch x0&&true then bD x0 else bD x0
def ml:List ByteArray:=bif !ch x0&&true then bif !ch x0&&true then bE x0 else bE x0 else bif !ch x0&&true then bE x0 else bE x0
def mm:List ByteArray:=bif !ch x0&&true then bif !ch x0&&true then bF x0 else bF x0 else bif !ch x0&&true then bF x0 else bF x0
def tT:List (ByteArray×List (Int×ByteArray×Int)):=bif !ch x0&&true then wl x0 else wl x0
def wS:List (Int×Int×Int):=bif !pK x0&&true then rnB (bK x0) (bD x0) (bE x0) (bF x0) (bt x0) (dE x0) (dd x0) (eX x0) (iC x0)else rnB (bK x0) (bD x0) (bE x0) (bF x0) (bt x0) (dE x0) (dd x0) (eX x0) (iC x0)
def wT:Bool:=bif !wk x0==zb x0 then true else !ai4 (bK x0) (mj x0) (ml x0) (mm x0) (bt x0) (tT x0) (bif !pK x0&&true then jP x0 else jP x0) (wS x0)
def fC:Bool:= !!wk x0==zb x0&&true
def wU:List (ByteArray×List (Int×ByteArray×Int)):=bif fC x0 then tT x0 else tT x0
def wV:List Int:=bif fC x0 then bif !pK x0&&true then jP x0 else jP x0 else bif !pK x0&&true then jP x0 else jP x0
def zW:List (Int×Int×Int):=bif fC x0 then wS x0 else wS x0
def zX:Bool:=bif viC (bK x0) (bif fC x0 then mj x0 else mj x0) (bif fC x0 then ml x0 else ml x0) (bif fC x0 then mm x0 else mm x0) (bt x0) (wU x0) (wV x0) (zW x0) (bt x0)!=0 then true else viV (bK x0) (bif fC x0 then mj x0 else mj x0) (bif fC x0 then ml x0 else ml x0) (bif fC x0 then mm x0 else mm x0) (bt x0) (wU x0) (wV x0) (zW x0) (bt x0)==1
def tU:Bool:=ws x0||cdG (bK x0) (bD x0) (bE x0) (bF x0) (bt x0) (dE x0) (dd x0) [iC x0]
def Mr:Bool:=bif ws x0 then true else bif tL x0 then false else bif gr x0 !=0 then true else bif wT x0 then false else bif zX x0 then true else zb x0
def Mt:Bool:=allT [ws x0||aA 0 0 x0,tU x0,tU x0,tU x0,tU x0,ws x0||(!(!gr x0 !=gr x0&&true)||leN (List.length (tK x0)) 9223372036854775807),ws x0||(!(!pK x0&&true)||leN (List.length (jP x0)) 9223372036854775807&&leN (List.length (rnB (bK x0) (bD x0) (bE x0) (bF x0) (bt x0) (dE x0) (dd x0) (eX x0) (iC x0))) 9223372036854775807),ws x0||(!(!ch x0&&true)||NR (bK x0) (bD x0) (bE x0) (bF x0) (bt x0) (dE x0)&&leN (List.length (dd x0)) 9223372036854775807),ws x0||(!(!ch x0&&true)||NR (bK x0) (bif !ch x0&&true then bD x0 else bD x0) (bif !ch x0&&true then bE x0 else bE x0) (bif !ch x0&&true then bF x0 else bF x0) (bt x0) (wl x0)&&leN (List.length (bif !ch x0&&true then dd x0 else dd x0)) 9223372036854775807),ws x0||(tL x0||(gr x0 !=0||leN (List.length (za x0)) 9223372036854775807)),ws x0||(tL x0||(gr x0 !=0||(!fC x0||NR (bK x0) (mj x0) (ml x0) (mm x0) (bt x0) (tT x0)&&leN (List.length (bif !pK x0&&true then jP x0 else jP x0)) 9223372036854775807))),ws x0||(tL x0||(gr x0 !=0||(wT x0||NR (bK x0) (bif fC x0 then mj x0 else mj x0) (bif fC x0 then ml x0 else ml x0) (bif fC x0 then mm x0 else mm x0) (bt x0) (wU x0)&&leN (List.length (wV x0)) 9223372036854775807))),ws x0||(tL x0||(gr x0 !=0||(wT x0||(!(!zX x0&&true)||leN (List.length (za x0)) 9223372036854775807))))]
end
def abR:List SV→List Entry→Option Out
 | [.one ⟨false,[.ref 0]⟩],[.row false 5 (.int .u8) x0]=>some ⟨.one ⟨false,[.val (.bool (Mr x0))]⟩,[.row false 5 aj7 x0],[],[Mt x0]⟩
 |_,_=>none
def akz:PF prog:=PF.ofG prog (T3z [afH,Po,VW,VY,Ut,Uw,Fa,Mz,QY,QZ,afC,VX]) [] aV 5 f5 func5 (fun c _=>LOk.nil c) abR (by
 intro vs es r h;unfold abR at h;split at h
 ·cases h;kernel_rfl
 ·cases h)
theorem asl{c:List Int}(hb: ∀ (i:Nat) (x:Int),c[i]? =some x→0≤x∧x≤255)(h:ws c=false):aA 0 0 c=true:=by
 simp only [ws]at h
 have hn:=aaw.1 h
 refine adF.2 ⟨by omega,by omega,by omega,fun x hx=> ?_⟩
 obtain⟨i,hi,rfl⟩:=List.mem_iff_getElem.1 hx
 exact hb i _ (List.getElem?_eq_getElem hi)
theorem arL(nm:ByteArray)(ins vs os:List ByteArray)(g:ByteArray)(ls:List LN)(xs:List Int)(ss:List BS3)(inp:List Int):
  (rnO nm ins vs os g ls xs ss inp).length≤20∧(rnV nm ins vs os g ls xs ss inp).length≤20∧(rnB nm ins vs os g ls xs ss inp).length≤1600:=by
 refine⟨(ahk nm ins vs os g ls xs ss inp).2,?_⟩
 simp only [rnV,rnB]
 cases hz:(Jr nm ins vs os g ls xs ss [inp]!=0)with
 |true=>exact⟨by simp,by simp⟩
 |false=>
  obtain⟨h1,h2,h3⟩:=Tl.1 (akP hz)
  have hS:=adk h1 h3
  obtain⟨s1,s2,_⟩:=Kl.1 (ajv (os:=os) (g:=g) h3 hS.hL h2).1
  have b2:=(eI.1 s2).2
  have hb:=hS.bl
  have hv:=hS.h2
  exact⟨by simp only [cond_false];omega,by simp only [cond_false];omega⟩
theorem aqk{nm:ByteArray}{ins vs os:List ByteArray}{g:ByteArray}{ls:List LN}{xs:List Int}{ss:List BS3}{inp:List Int}(hz:(Jr nm ins vs os g ls xs ss [inp]!=0)=false):
  ai4 nm ins vs os g ls (rnV nm ins vs os g ls xs ss inp) (rnB nm ins vs os g ls xs ss inp)=true∧
  (bif(bif viC nm ins vs os g ls (rnV nm ins vs os g ls xs ss inp) (rnB nm ins vs os g ls xs ss inp) g !=0 then true else viV nm ins vs os g ls (rnV nm ins vs os g ls xs ss inp) (rnB nm ins vs os g ls xs ss inp) g==1)then true else(rnO nm ins vs os g ls xs ss inp).all fun z=>z==0)=true:=by
 have hG:=akP hz
 obtain⟨h1,h2,h3⟩:=Tl.1 hG
 have hS:=adk h1 h3
 have eV:rnV nm ins vs os g ls xs ss inp=scV ins vs os ls inp xs ss:=by simp only [rnV,hz,cond_false]
 have eB:rnB nm ins vs os g ls xs ss inp=scB ins vs os ls inp xs ss:=by simp only [rnB,hz,cond_false]
 have eO:rnO nm ins vs os g ls xs ss inp=scO ins vs os g ls inp xs ss:=by simp only [rnO,hz,cond_false]
 obtain⟨k1,_⟩:=ajv (os:=os) (g:=g) h3 hS.hL h2
 rw [eV,eB,eO]
 refine⟨by simp only [ai4,h1,k1,Bool.and_self],?_⟩
 have c0:Jr nm ins vs os g ls (scV ins vs os ls inp xs ss) (scB ins vs os ls inp xs ss) []=0:=by
  simp only [Jr,h1,k1,List.all_nil,Bool.not_true,Bool.or_self,cond_false]
 have c1:((0:Int)!=0)=false:=rfl
 simp only [viC,viV,c0,c1,cond_false]
 cases hv:mH vs g with
 |false=>rfl
 |true=>
  obtain⟨g1,g2⟩:=ap5 h1 hv
  obtain⟨_,s2,_⟩:=Kl.1 k1
  have hbit:=Th (eI.1 s2).1 (Ps vs g)
  simp only [cond_true,c1,cond_false]
  rcases hbit with hb | hb
  ·have e:nmV ins vs inp (scE ins vs os ls inp xs ss).1 g=0:=by simp only [nmV,g1,cond_false];exact hb
   have ez:((0:Int)==1)=false:=rfl
   rw [hb,ez,cond_false]
   have:scO ins vs os g ls inp xs ss=List.replicate os.length 0:=by
    simp only [scO,g2,e,Bool.not_false,Bool.true_and]
    rfl
   rw [this]
   exact List.all_eq_true.2 fun z hz=>by rw [List.eq_of_mem_replicate hz];rfl
  ·rw [hb];rfl
theorem aqa(c:List Int)(w:wfD (.sl 5 (.int .u8)) c):Mr c=true∧Mt c=true:=by
 have hb: ∀ (i:Nat) (x:Int),c[i]? =some x→0≤x∧x≤255:=fun i x hx=>asJ (w.2 x (List.mem_of_getElem? hx))
 cases Db:ws c with
 |true=>simp [Mr,Mt,gr,tK,pK,jP,wk,ch,wl,tL,za,zb,mj,ml,mm,tT,wS,wT,fC,wU,wV,zW,zX,tU,allT,Db]
 |false=>
  have BD:=asl hb Db
  obtain⟨_,hp,hx6,hx7,hx8⟩:=Sm c BD
  generalize u0:bK c=nm at hp
  generalize u1:bt c=g at hp
  generalize u2:bD c=ins at hp
  generalize u3:bE c=vs at hp
  generalize u4:bF c=os at hp
  generalize u5:dE c=ls at hp
  generalize u6:dd c=xs at hx6
  generalize u7:eX c=ss at hx7
  generalize u8:iC c=inp at hx8
  have pk:=aq7 hp
  have lx:leN xs.length 9223372036854775807=true:=ci (by omega)
  have li:leN inp.length 9223372036854775807=true:=ci (by omega)
  have cd:cdG nm ins vs os g ls xs [inp]=true:=amn.2 ⟨pk,lx,by simp,fun l hl=>by rw [List.mem_singleton.1 hl];exact li⟩
  obtain⟨n1,n2,n3⟩:=arL nm ins vs os g ls xs ss inp
  obtain⟨ob,_⟩:=ahk nm ins vs os g ls xs ss inp
  have sl:=fun hz=>aqk (nm:=nm) (ins:=ins) (vs:=vs) (os:=os) (g:=g) (ls:=ls) (xs:=xs) (ss:=ss) (inp:=inp) hz
  have sf:sfB nm ins vs os g ls xs ss inp=(Jr nm ins vs os g ls xs ss [inp]==0&&(rnO nm ins vs os g ls xs ss inp).all fun z=>z==0):=rfl
  generalize hK:Jr nm ins vs os g ls xs ss [inp]=K at sl sf
  generalize hO:rnO nm ins vs os g ls xs ss inp=O at n1 ob sl sf
  generalize hV:rnV nm ins vs os g ls xs ss inp=V at n2 sl
  generalize hB:rnB nm ins vs os g ls xs ss inp=B at n3 sl
  have sz:=arg ob (by omega)
  have lO:leN O.length 9223372036854775807=true:=ci (by omega)
  have lV:leN V.length 9223372036854775807=true:=ci (by omega)
  have lB:leN B.length 9223372036854775807=true:=ci (by omega)
  have eO:eqL O O=true:=anj O
  have eM:lkM V B V B=true:=aqV V B
  have kk:(K !=K)=false:=by simp
  cases hz:(K !=0)with
  |true=>
   have r_a0:=Eq.refl (gr c)
   conv at r_a0=>rhs;simp only [gr,S0z,allT,Db,BD,u0,u1,u2,u3,u4,u5,u6,u7,u8,hK,hO,hV,hB,eO,eM,kk,hz,cd,pk,lx,lO,lV,lB,Bool.not_false]
   have r_a1:=Eq.refl (tK c)
   conv at r_a1=>rhs;simp only [tK,S0z,allT,Db,BD,u0,u1,u2,u3,u4,u5,u6,u7,u8,hK,hO,hV,hB,eO,eM,kk,hz,cd,pk,lx,lO,lV,lB,Bool.not_false,r_a0]
   have r_a2:=Eq.refl (pK c)
   conv at r_a2=>rhs;simp only [pK,S0z,allT,Db,BD,u0,u1,u2,u3,u4,u5,u6,u7,u8,hK,hO,hV,hB,eO,eM,kk,hz,cd,pk,lx,lO,lV,lB,Bool.not_false,r_a0,r_a1]
   have r_a3:=Eq.refl (jP c)
   conv at r_a3=>rhs;simp only [jP,S0z,allT,Db,BD,u0,u1,u2,u3,u4,u5,u6,u7,u8,hK,hO,hV,hB,eO,eM,kk,hz,cd,pk,lx,lO,lV,lB,Bool.not_false,r_a0,r_a1,r_a2]
   have r_a4:=Eq.refl (wk c)
   conv at r_a4=>rhs;simp only [wk,S0z,allT,Db,BD,u0,u1,u2,u3,u4,u5,u6,u7,u8,hK,hO,hV,hB,eO,eM,kk,hz,cd,pk,lx,lO,lV,lB,Bool.not_false,r_a0,r_a1,r_a2,r_a3]
   have r_a5:=Eq.refl (ch c)
   conv at r_a5=>rhs;simp only [ch,S0z,allT,Db,BD,u0,u1,u2,u3,u4,u5,u6,u7,u8,hK,hO,hV,hB,eO,eM,kk,hz,cd,pk,lx,lO,lV,lB,Bool.not_false,r_a0,r_a1,r_a2,r_a3,r_a4]
   have r_a6:=Eq.refl (wl c)
   conv at r_a6=>rhs;simp only [wl,S0z,allT,Db,BD,u0,u1,u2,u3,u4,u5,u6,u7,u8,hK,hO,hV,hB,eO,eM,kk,hz,cd,pk,lx,lO,lV,lB,Bool.not_false,r_a0,r_a1,r_a2,r_a3,r_a4,r_a5]
   have r_a7:=Eq.refl (tL c)
   conv at r_a7=>rhs;simp only [tL,S0z,allT,Db,BD,u0,u1,u2,u3,u4,u5,u6,u7,u8,hK,hO,hV,hB,eO,eM,kk,hz,cd,pk,lx,lO,lV,lB,Bool.not_false,r_a0,r_a1,r_a2,r_a3,r_a4,r_a5,r_a6]
   have r_a8:=Eq.refl (za c)
   conv at r_a8=>rhs;simp only [za,S0z,allT,Db,BD,u0,u1,u2,u3,u4,u5,u6,u7,u8,hK,hO,hV,hB,eO,eM,kk,hz,cd,pk,lx,lO,lV,lB,Bool.not_false,r_a0,r_a1,r_a2,r_a3,r_a4,r_a5,r_a6,r_a7]
   have r_a9:=Eq.refl (zb c)
   conv at r_a9=>rhs;simp only [zb,S0z,allT,Db,BD,u0,u1,u2,u3,u4,u5,u6,u7,u8,hK,hO,hV,hB,eO,eM,kk,hz,cd,pk,lx,lO,lV,lB,Bool.not_false,r_a0,r_a1,r_a2,r_a3,r_a4,r_a5,r_a6,r_a7,r_a8]
   have r_a10:=Eq.refl (mj c)
   conv at r_a10=>rhs;simp only [mj,S0z,allT,Db,BD,u0,u1,u2,u3,u4,u5,u6,u7,u8,hK,hO,hV,hB,eO,eM,kk,hz,cd,pk,lx,lO,lV,lB,Bool.not_false,r_a0,r_a1,r_a2,r_a3,r_a4,r_a5,r_a6,r_a7,r_a8,r_a9]
   have r_a11:=Eq.refl (ml c)
   conv at r_a11=>rhs;simp only [ml,S0z,allT,Db,BD,u0,u1,u2,u3,u4,u5,u6,u7,u8,hK,hO,hV,hB,eO,eM,kk,hz,cd,pk,lx,lO,lV,lB,Bool.not_false,r_a0,r_a1,r_a2,r_a3,r_a4,r_a5,r_a6,r_a7,r_a8,r_a9,r_a10]
   have r_a12:=Eq.refl (mm c)
   conv at r_a12=>rhs;simp only [mm,S0z,allT,Db,BD,u0,u1,u2,u3,u4,u5,u6,u7,u8,hK,hO,hV,hB,eO,eM,kk,hz,cd,pk,lx,lO,lV,lB,Bool.not_false,r_a0,r_a1,r_a2,r_a3,r_a4,r_a5,r_a6,r_a7,r_a8,r_a9,r_a10,r_a11]
   have r_a13:=Eq.refl (tT c)
   conv at r_a13=>rhs;simp only [tT,S0z,allT,Db,BD,u0,u1,u2,u3,u4,u5,u6,u7,u8,hK,hO,hV,hB,eO,eM,kk,hz,cd,pk,lx,lO,lV,lB,Bool.not_false,r_a0,r_a1,r_a2,r_a3,r_a4,r_a5,r_a6,r_a7,r_a8,r_a9,r_a10,r_a11,r_a12]
   have r_a14:=Eq.refl (wS c)
   conv at r_a14=>rhs;simp only [wS,S0z,allT,Db,BD,u0,u1,u2,u3,u4,u5,u6,u7,u8,hK,hO,hV,hB,eO,eM,kk,hz,cd,pk,lx,lO,lV,lB,Bool.not_false,r_a0,r_a1,r_a2,r_a3,r_a4,r_a5,r_a6,r_a7,r_a8,r_a9,r_a10,r_a11,r_a12,r_a13]
   have r_a15:=Eq.refl (wT c)
   conv at r_a15=>rhs;simp only [wT,S0z,allT,Db,BD,u0,u1,u2,u3,u4,u5,u6,u7,u8,hK,hO,hV,hB,eO,eM,kk,hz,cd,pk,lx,lO,lV,lB,Bool.not_false,r_a0,r_a1,r_a2,r_a3,r_a4,r_a5,r_a6,r_a7,r_a8,r_a9,r_a10,r_a11,r_a12,r_a13,r_a14]
   have r_a16:=Eq.refl (fC c)
   conv at r_a16=>rhs;simp only [fC,S0z,allT,Db,BD,u0,u1,u2,u3,u4,u5,u6,u7,u8,hK,hO,hV,hB,eO,eM,kk,hz,cd,pk,lx,lO,lV,lB,Bool.not_false,r_a0,r_a1,r_a2,r_a3,r_a4,r_a5,r_a6,r_a7,r_a8,r_a9,r_a10,r_a11,r_a12,r_a13,r_a14,r_a15]
   have r_a17:=Eq.refl (wU c)
   conv at r_a17=>rhs;simp only [wU,S0z,allT,Db,BD,u0,u1,u2,u3,u4,u5,u6,u7,u8,hK,hO,hV,hB,eO,eM,kk,hz,cd,pk,lx,lO,lV,lB,Bool.not_false,r_a0,r_a1,r_a2,r_a3,r_a4,r_a5,r_a6,r_a7,r_a8,r_a9,r_a10,r_a11,r_a12,r_a13,r_a14,r_a15,r_a16]
   have r_a18:=Eq.refl (wV c)
   conv at r_a18=>rhs;simp only [wV,S0z,allT,Db,BD,u0,u1,u2,u3,u4,u5,u6,u7,u8,hK,hO,hV,hB,eO,eM,kk,hz,cd,pk,lx,lO,lV,lB,Bool.not_false,r_a0,r_a1,r_a2,r_a3,r_a4,r_a5,r_a6,r_a7,r_a8,r_a9,r_a10,r_a11,r_a12,r_a13,r_a14,r_a15,r_a16,r_a17]
   have r_a19:=Eq.refl (zW c)
   conv at r_a19=>rhs;simp only [zW,S0z,allT,Db,BD,u0,u1,u2,u3,u4,u5,u6,u7,u8,hK,hO,hV,hB,eO,eM,kk,hz,cd,pk,lx,lO,lV,lB,Bool.not_false,r_a0,r_a1,r_a2,r_a3,r_a4,r_a5,r_a6,r_a7,r_a8,r_a9,r_a10,r_a11,r_a12,r_a13,r_a14,r_a15,r_a16,r_a17,r_a18]
   have r_a20:=Eq.refl (zX c)
   conv at r_a20=>rhs;simp only [zX,S0z,allT,Db,BD,u0,u1,u2,u3,u4,u5,u6,u7,u8,hK,hO,hV,hB,eO,eM,kk,hz,cd,pk,lx,lO,lV,lB,Bool.not_false,r_a0,r_a1,r_a2,r_a3,r_a4,r_a5,r_a6,r_a7,r_a8,r_a9,r_a10,r_a11,r_a12,r_a13,r_a14,r_a15,r_a16,r_a17,r_a18,r_a19]
   have r_a21:=Eq.refl (tU c)
   conv at r_a21=>rhs;simp only [tU,S0z,allT,Db,BD,u0,u1,u2,u3,u4,u5,u6,u7,u8,hK,hO,hV,hB,eO,eM,kk,hz,cd,pk,lx,lO,lV,lB,Bool.not_false,r_a0,r_a1,r_a2,r_a3,r_a4,r_a5,r_a6,r_a7,r_a8,r_a9,r_a10,r_a11,r_a12,r_a13,r_a14,r_a15,r_a16,r_a17,r_a18,r_a19,r_a20]
   refine⟨?_,?_⟩ <;> simp only [Mr,Mt,S0z,allT,Db,BD,u0,u1,u2,u3,u4,u5,u6,u7,u8,hK,hO,hV,hB,eO,eM,kk,hz,cd,pk,lx,lO,lV,lB,Bool.not_false,r_a0,r_a1,r_a2,r_a3,r_a4,r_a5,r_a6,r_a7,r_a8,r_a9,r_a10,r_a11,r_a12,r_a13,r_a14,r_a15,r_a16,r_a17,r_a18,r_a19,r_a20,r_a21]
  |false=>
   obtain⟨s1,s2⟩:=sl hz
   have hk0:(K==0)=true:=by simpa using hz
   rw [hk0,Bool.true_and,← sz]at sf
   rw [← sz]at s2
   generalize hQ:(smW O==0)=Q at sf s2
   have r_a0:=Eq.refl (gr c)
   conv at r_a0=>rhs;simp only [gr,S0z,allT,Db,BD,u0,u1,u2,u3,u4,u5,u6,u7,u8,hK,hO,hV,hB,eO,eM,kk,hz,cd,pk,lx,lO,lV,lB,s1,s2,sf,hQ,Bool.not_false]
   have r_a1:=Eq.refl (tK c)
   conv at r_a1=>rhs;simp only [tK,S0z,allT,Db,BD,u0,u1,u2,u3,u4,u5,u6,u7,u8,hK,hO,hV,hB,eO,eM,kk,hz,cd,pk,lx,lO,lV,lB,s1,s2,sf,hQ,Bool.not_false,r_a0]
   have r_a2:=Eq.refl (pK c)
   conv at r_a2=>rhs;simp only [pK,S0z,allT,Db,BD,u0,u1,u2,u3,u4,u5,u6,u7,u8,hK,hO,hV,hB,eO,eM,kk,hz,cd,pk,lx,lO,lV,lB,s1,s2,sf,hQ,Bool.not_false,r_a0,r_a1]
   have r_a3:=Eq.refl (jP c)
   conv at r_a3=>rhs;simp only [jP,S0z,allT,Db,BD,u0,u1,u2,u3,u4,u5,u6,u7,u8,hK,hO,hV,hB,eO,eM,kk,hz,cd,pk,lx,lO,lV,lB,s1,s2,sf,hQ,Bool.not_false,r_a0,r_a1,r_a2]
   have r_a4:=Eq.refl (wk c)
   conv at r_a4=>rhs;simp only [wk,S0z,allT,Db,BD,u0,u1,u2,u3,u4,u5,u6,u7,u8,hK,hO,hV,hB,eO,eM,kk,hz,cd,pk,lx,lO,lV,lB,s1,s2,sf,hQ,Bool.not_false,r_a0,r_a1,r_a2,r_a3]
   have r_a5:=Eq.refl (ch c)
   conv at r_a5=>rhs;simp only [ch,S0z,allT,Db,BD,u0,u1,u2,u3,u4,u5,u6,u7,u8,hK,hO,hV,hB,eO,eM,kk,hz,cd,pk,lx,lO,lV,lB,s1,s2,sf,hQ,Bool.not_false,r_a0,r_a1,r_a2,r_a3,r_a4]
   have r_a6:=Eq.refl (wl c)
   conv at r_a6=>rhs;simp only [wl,S0z,allT,Db,BD,u0,u1,u2,u3,u4,u5,u6,u7,u8,hK,hO,hV,hB,eO,eM,kk,hz,cd,pk,lx,lO,lV,lB,s1,s2,sf,hQ,Bool.not_false,r_a0,r_a1,r_a2,r_a3,r_a4,r_a5]
   have r_a7:=Eq.refl (tL c)
   conv at r_a7=>rhs;simp only [tL,S0z,allT,Db,BD,u0,u1,u2,u3,u4,u5,u6,u7,u8,hK,hO,hV,hB,eO,eM,kk,hz,cd,pk,lx,lO,lV,lB,s1,s2,sf,hQ,Bool.not_false,r_a0,r_a1,r_a2,r_a3,r_a4,r_a5,r_a6]
   have r_a8:=Eq.refl (za c)
   conv at r_a8=>rhs;simp only [za,S0z,allT,Db,BD,u0,u1,u2,u3,u4,u5,u6,u7,u8,hK,hO,hV,hB,eO,eM,kk,hz,cd,pk,lx,lO,lV,lB,s1,s2,sf,hQ,Bool.not_false,r_a0,r_a1,r_a2,r_a3,r_a4,r_a5,r_a6,r_a7]
   have r_a9:=Eq.refl (zb c)
   conv at r_a9=>rhs;simp only [zb,S0z,allT,Db,BD,u0,u1,u2,u3,u4,u5,u6,u7,u8,hK,hO,hV,hB,eO,eM,kk,hz,cd,pk,lx,lO,lV,lB,s1,s2,sf,hQ,Bool.not_false,r_a0,r_a1,r_a2,r_a3,r_a4,r_a5,r_a6,r_a7,r_a8]
   have r_a10:=Eq.refl (mj c)
   conv at r_a10=>rhs;simp only [mj,S0z,allT,Db,BD,u0,u1,u2,u3,u4,u5,u6,u7,u8,hK,hO,hV,hB,eO,eM,kk,hz,cd,pk,lx,lO,lV,lB,s1,s2,sf,hQ,Bool.not_false,r_a0,r_a1,r_a2,r_a3,r_a4,r_a5,r_a6,r_a7,r_a8,r_a9]
   have r_a11:=Eq.refl (ml c)
   conv at r_a11=>rhs;simp only [ml,S0z,allT,Db,BD,u0,u1,u2,u3,u4,u5,u6,u7,u8,hK,hO,hV,hB,eO,eM,kk,hz,cd,pk,lx,lO,lV,lB,s1,s2,sf,hQ,Bool.not_false,r_a0,r_a1,r_a2,r_a3,r_a4,r_a5,r_a6,r_a7,r_a8,r_a9,r_a10]
   have r_a12:=Eq.refl (mm c)
   conv at r_a12=>rhs;simp only [mm,S0z,allT,Db,BD,u0,u1,u2,u3,u4,u5,u6,u7,u8,hK,hO,hV,hB,eO,eM,kk,hz,cd,pk,lx,lO,lV,lB,s1,s2,sf,hQ,Bool.not_false,r_a0,r_a1,r_a2,r_a3,r_a4,r_a5,r_a6,r_a7,r_a8,r_a9,r_a10,r_a11]
   have r_a13:=Eq.refl (tT c)
   conv at r_a13=>rhs;simp only [tT,S0z,allT,Db,BD,u0,u1,u2,u3,u4,u5,u6,u7,u8,hK,hO,hV,hB,eO,eM,kk,hz,cd,pk,lx,lO,lV,lB,s1,s2,sf,hQ,Bool.not_false,r_a0,r_a1,r_a2,r_a3,r_a4,r_a5,r_a6,r_a7,r_a8,r_a9,r_a10,r_a11,r_a12]
   have r_a14:=Eq.refl (wS c)
   conv at r_a14=>rhs;simp only [wS,S0z,allT,Db,BD,u0,u1,u2,u3,u4,u5,u6,u7,u8,hK,hO,hV,hB,eO,eM,kk,hz,cd,pk,lx,lO,lV,lB,s1,s2,sf,hQ,Bool.not_false,r_a0,r_a1,r_a2,r_a3,r_a4,r_a5,r_a6,r_a7,r_a8,r_a9,r_a10,r_a11,r_a12,r_a13]
   have r_a15:=Eq.refl (wT c)
   conv at r_a15=>rhs;simp only [wT,S0z,allT,Db,BD,u0,u1,u2,u3,u4,u5,u6,u7,u8,hK,hO,hV,hB,eO,eM,kk,hz,cd,pk,lx,lO,lV,lB,s1,s2,sf,hQ,Bool.not_false,r_a0,r_a1,r_a2,r_a3,r_a4,r_a5,r_a6,r_a7,r_a8,r_a9,r_a10,r_a11,r_a12,r_a13,r_a14]
   have r_a16:=Eq.refl (fC c)
   conv at r_a16=>rhs;simp only [fC,S0z,allT,Db,BD,u0,u1,u2,u3,u4,u5,u6,u7,u8,hK,hO,hV,hB,eO,eM,kk,hz,cd,pk,lx,lO,lV,lB,s1,s2,sf,hQ,Bool.not_false,r_a0,r_a1,r_a2,r_a3,r_a4,r_a5,r_a6,r_a7,r_a8,r_a9,r_a10,r_a11,r_a12,r_a13,r_a14,r_a15]
   have r_a17:=Eq.refl (wU c)
   conv at r_a17=>rhs;simp only [wU,S0z,allT,Db,BD,u0,u1,u2,u3,u4,u5,u6,u7,u8,hK,hO,hV,hB,eO,eM,kk,hz,cd,pk,lx,lO,lV,lB,s1,s2,sf,hQ,Bool.not_false,r_a0,r_a1,r_a2,r_a3,r_a4,r_a5,r_a6,r_a7,r_a8,r_a9,r_a10,r_a11,r_a12,r_a13,r_a14,r_a15,r_a16]
   have r_a18:=Eq.refl (wV c)
   conv at r_a18=>rhs;simp only [wV,S0z,allT,Db,BD,u0,u1,u2,u3,u4,u5,u6,u7,u8,hK,hO,hV,hB,eO,eM,kk,hz,cd,pk,lx,lO,lV,lB,s1,s2,sf,hQ,Bool.not_false,r_a0,r_a1,r_a2,r_a3,r_a4,r_a5,r_a6,r_a7,r_a8,r_a9,r_a10,r_a11,r_a12,r_a13,r_a14,r_a15,r_a16,r_a17]
   have r_a19:=Eq.refl (zW c)
   conv at r_a19=>rhs;simp only [zW,S0z,allT,Db,BD,u0,u1,u2,u3,u4,u5,u6,u7,u8,hK,hO,hV,hB,eO,eM,kk,hz,cd,pk,lx,lO,lV,lB,s1,s2,sf,hQ,Bool.not_false,r_a0,r_a1,r_a2,r_a3,r_a4,r_a5,r_a6,r_a7,r_a8,r_a9,r_a10,r_a11,r_a12,r_a13,r_a14,r_a15,r_a16,r_a17,r_a18]
   have r_a20:=Eq.refl (zX c)
   conv at r_a20=>rhs;simp only [zX,S0z,allT,Db,BD,u0,u1,u2,u3,u4,u5,u6,u7,u8,hK,hO,hV,hB,eO,eM,kk,hz,cd,pk,lx,lO,lV,lB,s1,s2,sf,hQ,Bool.not_false,r_a0,r_a1,r_a2,r_a3,r_a4,r_a5,r_a6,r_a7,r_a8,r_a9,r_a10,r_a11,r_a12,r_a13,r_a14,r_a15,r_a16,r_a17,r_a18,r_a19]
   have r_a21:=Eq.refl (tU c)
   conv at r_a21=>rhs;simp only [tU,S0z,allT,Db,BD,u0,u1,u2,u3,u4,u5,u6,u7,u8,hK,hO,hV,hB,eO,eM,kk,hz,cd,pk,lx,lO,lV,lB,s1,s2,sf,hQ,Bool.not_false,r_a0,r_a1,r_a2,r_a3,r_a4,r_a5,r_a6,r_a7,r_a8,r_a9,r_a10,r_a11,r_a12,r_a13,r_a14,r_a15,r_a16,r_a17,r_a18,r_a19,r_a20]
   refine⟨?_,?_⟩ <;> simp only [Mr,Mt,S0z,allT,Db,BD,u0,u1,u2,u3,u4,u5,u6,u7,u8,hK,hO,hV,hB,eO,eM,kk,hz,cd,pk,lx,lO,lV,lB,s1,s2,sf,hQ,Bool.not_false,r_a0,r_a1,r_a2,r_a3,r_a4,r_a5,r_a6,r_a7,r_a8,r_a9,r_a10,r_a11,r_a12,r_a13,r_a14,r_a15,r_a16,r_a17,r_a18,r_a19,r_a20,r_a21]
end Go.SX
