/- What functions of the program come to, and what that says in plain words: part 1. -/
import Derived.Test.YtbbfgoobcjlooaaGreatDoorTXh
import Derived.Test.YtbbfgoobcjlooaaGreatDoorProg
set_option linter.unusedSimpArgs false
set_option linter.unusedVariables false
namespace Go.SX
open Go.Proofs
abbrev abM:CTy:=(CTy.pair (CTy.int IntKind.i64) (CTy.pair (CTy.int IntKind.i64) (CTy.int IntKind.i64)))
abbrev acD:CTy:=(CTy.pair (CTy.int IntKind.i64) (CTy.pair CTy.str (CTy.int IntKind.i64)))
abbrev agR:CTy:=(CTy.int IntKind.i64)
abbrev aih:CTy:=(CTy.str)
theorem S0z:(∀ (α:Type) (a b:α),(bif true then a else b)=a)∧(∀ (α:Type) (a b:α),(bif false then a else b)=b)∧(∀ (α:Type) (c:Bool) (a:α),(bif c then a else a)=a)∧((!true)=false)∧((!false)=true)∧(∀ b:Bool,(true||b)=true)∧(∀ b:Bool,(b||true)=true)∧(∀ b:Bool,(false||b)=b)∧(∀ b:Bool,(b||false)=b)∧(∀ b:Bool,(b&&b)=b)∧(∀ b:Bool,(b&&true)=b)∧(∀ b:Bool,(true&&b)=b)∧(∀ b:Bool,(false&&b)=false)∧(∀ b:Bool,(b&&false)=false)∧(∀ (α:Type) [BEq α] [LawfulBEq α] (a:α),(a != a)=false)∧(∀ (α:Type) [BEq α] [LawfulBEq α] (a:α),(a==a)=true):=by and_intros <;> intros <;> simp
end Go.SX
namespace Go.SX
open Go.Proofs Go.Proofs.Tryz
set_option maxRecDepth 100000
theorem aN:Tryz.prog.follows .mixedOrders=true:=by kernel_rfl
def QS(x0:Int)(x1:List Int):Int:=IntKind.wrap .i64 (x0 - (↑x1.length:Int))
def Sj(x0:Int)(x1:List Int):Int:=bif ltI (QS x0 x1) (0:Int)then(-1:Int)else QS x0 x1
def Yw:List SV→List Entry→Option Out
 | [.one ⟨false,[.ref 0]⟩,.one ⟨false,[.val (.int .i64 x0)]⟩],[.row false 2 (.int .i64) x1]=>some ⟨.one ⟨false,[.val (.int .i64 (Sj x0 x1))]⟩,[.row false 2 agR x1],[],[]⟩
 |_,_=>none
def ais:PF prog:=PF.ofG prog [] [] aN 86 f86 func86 (fun c _=>LOk.nil c) Yw (by
 intro vs es r h;unfold Yw at h;split at h
 ·cases h;kernel_rfl
 ·cases h)
def bx(x0 x1 x2:Int):Bool:=bif leI x1 x0 then leI x0 x2 else false
def aft:List SV→List Entry→Option Out
 | [.one ⟨false,[.val (.int .i64 x0)]⟩,.one ⟨false,[.val (.int .i64 x1)]⟩,.one ⟨false,[.val (.int .i64 x2)]⟩],[]=>some ⟨.one ⟨false,[.val (.bool (bx x0 x1 x2))]⟩,[],[],[]⟩
 |_,_=>none
def yB:PF prog:=PF.ofG prog [] [] aN 153 f153 func153 (fun c _=>LOk.nil c) aft (by
 intro vs es r h;unfold aft at h;split at h
 ·cases h;kernel_rfl
 ·cases h)
def Wa(x0:List Int):Bool:=allT [leN ((0:Nat) + List.length x0) (9223372036854775807:Nat),leN (((0:Nat) + List.length x0) * (8:Nat)) (140737488355328:Nat)]
def ac5:List SV→List Entry→Option Out
 | [.one ⟨false,[.ref 0]⟩],[.row false 2 (.int .i64) x0]=>some ⟨.one ⟨false,[.ref 1]⟩,[.row false 2 agR x0],[.row true 2 agR x0],[Wa x0]⟩
 |_,_=>none
def akq:PF prog:=PF.ofG prog [] [] aN 173 f173 func173 (fun c _=>LOk.nil c) ac5 (by
 intro vs es r h;unfold ac5 at h;split at h
 ·cases h;kernel_rfl
 ·cases h)
abbrev mQ:=Int×List Int×List Int
section
variable (y0:Int)(y1 y2:List Int)
def xX:Bool:=ltI y0 (↑y1.length:Int)
def xY:Bool:=leI (0:Int) y0
def CH:Bool:=ltN y0.toNat y1.length
def CI:Bool:=ltI y0 (↑y2.length:Int)
def CJ:Bool:=ltN y0.toNat y2.length
def CL:Int:=IntKind.wrap .i64 (y0 + (1:Int))
def CM:List Int:=List.set y2 y0.toNat (Option.getD y1[Int.toNat y0]? (0:Int))
end
def acd:mQ→List (Nat×SV)
 |(y0,_,_)=> [(4,(.one ⟨false,[.val (.int .i64 y0)]⟩)),(0,(.one ⟨false,[.ref 0]⟩)),(3,(.one ⟨false,[.ref 1]⟩))]
def ab2:mQ→List (Nat×Entry)
 |(_,y1,y2)=> [(0,(.row false 2 agR y1)),(1,(.row true 2 agR y2))]
def acx:Nat→mQ→List (Nat×SV)
 |_,(_,_,_)=> []
def acn:Nat→mQ→List (Nat×Entry)
 |_,(_,y1,y2)=> [(0,(.row false 2 agR y1)),(1,(.row true 2 agR y2))]
def Bs:mQ→LT mQ
 |(y0,y1,y2)=> .ite (xX y0 y1) (.need [xY y0,xX y0 y1,CH y0 y1,xY y0,CI y0 y2,CJ y0 y2] (.nrm ((CL y0),y1,(CM y0 y1 y2)) [(0,0),(1,1)])) (.ext 0 [(0,0),(1,1)])
def Mz(s:St):Option mQ:=
 (match s.look 4 with
 |some ⟨none,.one ⟨false,[.val (.int .i64 y0)]⟩⟩=>
 (match s.look 0 with
 |some ⟨none,.one ⟨false,[.ref 0]⟩⟩=>
 (match s.look 3 with
 |some ⟨none,.one ⟨false,[.ref 320]⟩⟩=>
 (match s.ent 0 with
 |some (.row false 2 (.int .i64) y1)=>
 (match s.ent 320 with
 |some (.row true 2 (.int .i64) y2)=>
 some (y0,y1,y2)
 |_=>none)
 |_=>none)
 |_=>none)
 |_=>none)
 |_=>none)
def gK:Lp mQ where
 h:=⟨[8,9,10,11,14,15,16,17,18,19,20,12,13,4],[0,1],[],[]⟩
 JL:=acd
 JE:=ab2
 XL:=acx
 XE:=acn
 q:=fun j=>match j with | _=> .exit 0
 tags:= [0]
 lt:=Bs
 fuel:=fun(y0,y1,y2)=>y0.natAbs + y1.length + y2.length
 fix:=fun(_,y1,_) (y0,_,y2)=>(y0,y1,y2)
 σ:= [(0,0),(1,320)]
 rd:=Mz
theorem ZD:LoopOk prog (fun k=>Nat.blt k Tryz.f29.ntmps) gK.F (aL f29 0):=by
 refine Lp.ok (tbl:= []) (lf:= []) aN gK (by kernel_rfl) (LOk.nil _) (fun _=>rfl) (fun _ _=>rfl) ?_ ?_ ?_ ?_ (fun _=>rfl) ?_
 ·rintro⟨y0,y1,y2⟩;kernel_rfl
 ·rintro⟨y0,y1,y2⟩;kernel_rfl
 ·intro s x h
  have h:Mz s=some x:=h
  unfold Mz at h
  repeat' split at h
  all_goals cases h
  exact⟨aa (by assumption) rfl (aa (by assumption) rfl (aa (by assumption) rfl (rfl))),ab rfl (by assumption) rfl (ab rfl (by assumption) rfl (rfl))⟩
 ·rintro⟨y0,y1,y2⟩;kernel_rfl
 ·rintro⟨y0,y1,y2⟩ z;exact(And.intro rfl trivial)
section
variable (x0:List Int)
def LD:Int×List Int×List Int:=((0:Int),x0,List.replicate (Int.toNat (↑x0.length:Int)) (0:Int))
def Nn:List Int:=(Lp.res gK (LD x0)).2.2.2
def Np:Bool:=allT [leI (0:Int) (↑x0.length:Int),leI (↑x0.length:Int) (↑x0.length:Int),leI ((↑(8:Nat):Int) * (↑x0.length:Int)) (281474976710656:Int),leI (↑x0.length:Int) (9223372036854775807:Int),Lp.fin gK (LD x0)]
end
def Yx:List SV→List Entry→Option Out
 | [.one ⟨false,[.ref 0]⟩],[.row false 2 (.int .i64) x0]=>some ⟨.one ⟨false,[.ref 1]⟩,[.row false 2 agR x0],[.row true 2 agR (Nn x0)],[Np x0]⟩
 |_,_=>none
def ait:PF prog:=PF.ofG prog [] [gK.F] aN 29 f29 func29 (LOk.fnT (l:= [aL f29 0]) (by kernel_rfl) (.cons ZD (.nil _))) Yx (by
 intro vs es r h;unfold Yx at h;split at h
 ·cases h;kernel_rfl
 ·cases h)
def tS(x0 x1 x2:Int):Bool:=bif leI x1 x0 then leI x0 x2 else false
def acY:List SV→List Entry→Option Out
 | [.one ⟨false,[.val (.int .i64 x0)]⟩,.one ⟨false,[.val (.int .i64 x1)]⟩,.one ⟨false,[.val (.int .i64 x2)]⟩],[]=>some ⟨.one ⟨false,[.val (.bool (tS x0 x1 x2))]⟩,[],[],[]⟩
 |_,_=>none
def VY:PF prog:=PF.ofG prog [] [] aN 158 f158 func158 (fun c _=>LOk.nil c) acY (by
 intro vs es r h;unfold acY at h;split at h
 ·cases h;kernel_rfl
 ·cases h)
def wl(x0:List Int):Bool:=allT [ltN (0:Nat) x0.length,false||leN ((0:Nat) + List.length x0) (9223372036854775807:Nat),false||leN (((0:Nat) + List.length x0) * (8:Nat)) (140737488355328:Nat)]
def Km:List SV→List Entry→Option Out
 | [.one ⟨false,[.ref 0]⟩],[.row false 2 (.int .i64) x0]=>some ⟨.one ⟨false,[.ref 1]⟩,[.row false 2 agR x0],[.row true 2 agR x0],[wl x0]⟩
 |_,_=>none
def Ue:PF prog:=PF.ofG prog [] [] aN 194 f194 func194 (fun c _=>LOk.nil c) Km (by
 intro vs es r h;unfold Km at h;split at h
 ·cases h;kernel_rfl
 ·cases h)
abbrev mP:=Int×List Int×List Int
section
variable (y0:Int)(y1 y2:List Int)
def xS:Bool:=ltI y0 (↑y1.length:Int)
def xT:Bool:=leI (0:Int) y0
def Cv:Bool:=ltN y0.toNat y1.length
def Cw:Bool:=ltI y0 (↑y2.length:Int)
def Cx:Bool:=ltN y0.toNat y2.length
def Cy:Bool:=Option.getD y1[Int.toNat y0]? (0:Int)!=Option.getD y2[Int.toNat y0]? (0:Int)
def Cz:Int:=IntKind.wrap .i64 (y0 + (1:Int))
end
def aca:mP→List (Nat×SV)
 |(y0,_,_)=> [(5,(.one ⟨false,[.val (.int .i64 y0)]⟩)),(0,(.one ⟨false,[.ref 0]⟩)),(1,(.one ⟨false,[.ref 1]⟩))]
def ab0:mP→List (Nat×Entry)
 |(_,y1,y2)=> [(0,(.row false 2 agR y1)),(1,(.row false 2 agR y2))]
def acv:Nat→mP→List (Nat×SV)
 |0,(_,_,_)=> [(4,(.one ⟨false,[.val (.bool false)]⟩))]
 |_,(_,_,_)=> []
def acl:Nat→mP→List (Nat×Entry)
 |0,(_,y1,y2)=> [(0,(.row false 2 agR y1)),(1,(.row false 2 agR y2))]
 |_,(_,y1,y2)=> [(0,(.row false 2 agR y1)),(1,(.row false 2 agR y2))]
def Br:mP→LT mP
 |(y0,y1,y2)=> .ite (xS y0 y1) (.need [xT y0,xS y0 y1,Cv y0 y1,xT y0,Cw y0 y2,Cx y0 y2] (.ite (Cy y0 y1 y2) (.ext 0 [(0,0),(1,1)]) (.nrm ((Cz y0),y1,y2) [(0,0),(1,1)]))) (.ext 1 [(0,0),(1,1)])
def Mx(s:St):Option mP:=
 (match s.look 5 with
 |some ⟨none,.one ⟨false,[.val (.int .i64 y0)]⟩⟩=>
 (match s.look 0 with
 |some ⟨none,.one ⟨false,[.ref 0]⟩⟩=>
 (match s.look 1 with
 |some ⟨none,.one ⟨false,[.ref 1]⟩⟩=>
 (match s.ent 0 with
 |some (.row false 2 (.int .i64) y1)=>
 (match s.ent 1 with
 |some (.row false 2 (.int .i64) y2)=>
 some (y0,y1,y2)
 |_=>none)
 |_=>none)
 |_=>none)
 |_=>none)
 |_=>none)
def fb:Lp mP where
 h:=⟨[11,12,13,14,17,18,19,20,21,22,23,24,25,4,15,16,5],[0,1],[],[]⟩
 JL:=aca
 JE:=ab0
 XL:=acv
 XE:=acl
 q:=fun j=>match j with | 0=> .ret | _=> .exit 0
 tags:= [0,1]
 lt:=Br
 fuel:=fun(y0,y1,y2)=>y0.natAbs + y1.length + y2.length
 fix:=fun(_,y1,y2) (y0,_,_)=>(y0,y1,y2)
 σ:= [(0,0),(1,1)]
 rd:=Mx
theorem ZB:LoopOk prog (fun k=>Nat.blt k Tryz.f31.ntmps) fb.F (aL f31 0):=by
 refine Lp.ok (tbl:= []) (lf:= []) aN fb (by kernel_rfl) (LOk.nil _) (fun _=>rfl) (fun j _=>by unfold fb;match j with | 0=>rfl | _ + 1=>rfl) ?_ ?_ ?_ ?_ (fun _=>rfl) ?_
 ·rintro⟨y0,y1,y2⟩;kernel_rfl
 ·rintro⟨y0,y1,y2⟩;kernel_rfl
 ·intro s x h
  have h:Mx s=some x:=h
  unfold Mx at h
  repeat' split at h
  all_goals cases h
  exact⟨aa (by assumption) rfl (aa (by assumption) rfl (aa (by assumption) rfl (rfl))),ab rfl (by assumption) rfl (ab rfl (by assumption) rfl (rfl))⟩
 ·rintro⟨y0,y1,y2⟩;kernel_rfl
 ·rintro⟨y0,y1,y2⟩ z;exact(And.intro (And.intro trivial rfl) trivial)
section
variable (x0 x1:List Int)
def Lv:Bool:=(↑x0.length:Int)!=(↑x1.length:Int)
def Lw:Int×List Int×List Int:=((0:Int),x0,x1)
def Nd:Bool:=bif Lv x0 x1 then false else bif Nat.beq ((Lp.res fb (Lw x0 x1)).1) (0:Nat)then false else true
def Nf:Bool:=allT [Lv x0 x1||Lp.fin fb (Lw x0 x1)]
end
def Yt:List SV→List Entry→Option Out
 | [.one ⟨false,[.ref 0]⟩,.one ⟨false,[.ref 1]⟩],[.row false 2 (.int .i64) x0,.row false 2 (.int .i64) x1]=>some ⟨.one ⟨false,[.val (.bool (Nd x0 x1))]⟩,[.row false 2 agR x0,.row false 2 agR x1],[],[Nf x0 x1]⟩
 |_,_=>none
def air:PF prog:=PF.ofG prog [] [fb.F] aN 31 f31 func31 (LOk.fnT (l:= [aL f31 0]) (by kernel_rfl) (.cons ZB (.nil _))) Yt (by
 intro vs es r h;unfold Yt at h;split at h
 ·cases h;kernel_rfl
 ·cases h)
abbrev kr:=Int×Int×List Int
section
variable (y0 y1:Int)(y2:List Int)
def va:Bool:=ltI y0 (↑y2.length:Int)
def yO:Bool:=leI (0:Int) y0
def yP:Bool:=ltN y0.toNat y2.length
def yQ:Int:=IntKind.wrap .i64 (y0 + (1:Int))
def yR:Int:=IntKind.wrap .i64 (y1 + (1:Int))
def yS:List Int:=List.set y2 y0.toNat y1
end
def Zk:kr→List (Nat×SV)
 |(y0,y1,_)=> [(5,(.one ⟨false,[.val (.int .i64 y0)]⟩)),(0,(.one ⟨false,[.ref 0]⟩)),(1,(.one ⟨false,[.val (.int .i64 y1)]⟩))]
def Zf:kr→List (Nat×Entry)
 |(_,_,y2)=> [(0,(.row true 2 agR y2))]
def Zu:Nat→kr→List (Nat×SV)
 |_,(_,y1,_)=> [(1,(.one ⟨false,[.val (.int .i64 y1)]⟩))]
def Zp:Nat→kr→List (Nat×Entry)
 |_,(_,_,y2)=> [(0,(.row true 2 agR y2))]
def xy:kr→LT kr
 |(y0,y1,y2)=> .ite (va y0 y2) (.need [yO y0,va y0 y2,yP y0 y2] (.nrm ((yQ y0),yR y1,(yS y0 y1 y2)) [(0,0)])) (.ext 0 [(0,0)])
def Jp(s:St):Option kr:=
 (match s.look 5 with
 |some ⟨none,.one ⟨false,[.val (.int .i64 y0)]⟩⟩=>
 (match s.look 0 with
 |some ⟨none,.one ⟨false,[.ref 0]⟩⟩=>
 (match s.look 1 with
 |some ⟨none,.one ⟨false,[.val (.int .i64 y1)]⟩⟩=>
 (match s.ent 0 with
 |some (.row true 2 (.int .i64) y2)=>
 some (y0,y1,y2)
 |_=>none)
 |_=>none)
 |_=>none)
 |_=>none)
def eE:Lp kr where
 h:=⟨[6,7,8,9,12,13,14,15,16,17,1,10,11,5],[0],[],[]⟩
 JL:=Zk
 JE:=Zf
 XL:=Zu
 XE:=Zp
 q:=fun j=>match j with | _=> .exit 0
 tags:= [0]
 lt:=xy
 fuel:=fun(y0,y1,y2)=>y0.natAbs + y1.natAbs + y2.length
 fix:=fun(_,_,_) (y0,y1,y2)=>(y0,y1,y2)
 σ:= [(0,0)]
 rd:=Jp
theorem WS:LoopOk prog (fun k=>Nat.blt k Tryz.f34.ntmps) eE.F (aL f34 0):=by
 refine Lp.ok (tbl:= []) (lf:= []) aN eE (by kernel_rfl) (LOk.nil _) (fun _=>rfl) (fun _ _=>rfl) ?_ ?_ ?_ ?_ (fun _=>rfl) ?_
 ·rintro⟨y0,y1,y2⟩;kernel_rfl
 ·rintro⟨y0,y1,y2⟩;kernel_rfl
 ·intro s x h
  have h:Jp s=some x:=h
  unfold Jp at h
  repeat' split at h
  all_goals cases h
  exact⟨aa (by assumption) rfl (aa (by assumption) rfl (aa (by assumption) rfl (rfl))),ab rfl (by assumption) rfl (rfl)⟩
 ·rintro⟨y0,y1,y2⟩;kernel_rfl
 ·rintro⟨y0,y1,y2⟩ z;exact(And.intro rfl trivial)
section
variable (x0:Int)(x1:List Int)
def CE:Int×Int×List Int:=((0:Int),x0,x1)
def CF:Int×List Int:=(Lp.res eE (CE x0 x1)).2.2
def EA:Int:=(CF x0 x1).1
def EB:List Int:=(CF x0 x1).2
def EC:Bool:=allT [Lp.fin eE (CE x0 x1)]
end
def UV:List SV→List Entry→Option Out
 | [.one ⟨false,[.ref 0]⟩,.one ⟨false,[.val (.int .i64 x0)]⟩],[.row true 2 (.int .i64) x1]=>some ⟨.one ⟨false,[.val (.int .i64 (EA x0 x1))]⟩,[.row true 2 agR (EB x0 x1)],[],[EC x0 x1]⟩
 |_,_=>none
def af8:PF prog:=PF.ofG prog [] [eE.F] aN 34 f34 func34 (LOk.fnT (l:= [aL f34 0]) (by kernel_rfl) (.cons WS (.nil _))) UV (by
 intro vs es r h;unfold UV at h;split at h
 ·cases h;kernel_rfl
 ·cases h)
abbrev kq:=Int×Int×List Int
section
variable (y0 y1:Int)(y2:List Int)
def uX:Bool:=ltI y0 (↑y2.length:Int)
def yJ:Bool:=leI (0:Int) y0
def yK:Bool:=ltN y0.toNat y2.length
def yL:Bool:=Option.getD y2[Int.toNat y0]? (0:Int)!=y1
end
def uY:Int:=(-1:Int)
def yM(y0:Int):Int:=IntKind.wrap .i64 (y0 + (1:Int))
def yN(y1:Int):Int:=IntKind.wrap .i64 (y1 + (1:Int))
def Zj:kq→List (Nat×SV)
 |(y0,y1,_)=> [(5,(.one ⟨false,[.val (.int .i64 y0)]⟩)),(0,(.one ⟨false,[.ref 0]⟩)),(1,(.one ⟨false,[.val (.int .i64 y1)]⟩))]
def Ze:kq→List (Nat×Entry)
 |(_,_,y2)=> [(0,(.row false 2 agR y2))]
def Zt:Nat→kq→List (Nat×SV)
 |0,(_,_,_)=> [(4,(.one ⟨false,[.val (.int .i64 (uY))]⟩))]
 |_,(_,y1,_)=> [(1,(.one ⟨false,[.val (.int .i64 y1)]⟩))]
def Zo:Nat→kq→List (Nat×Entry)
 |0,(_,_,y2)=> [(0,(.row false 2 agR y2))]
 |_,(_,_,y2)=> [(0,(.row false 2 agR y2))]
def xx:kq→LT kq
 |(y0,y1,y2)=> .ite (uX y0 y2) (.need [yJ y0,uX y0 y2,yK y0 y2] (.ite (yL y0 y1 y2) (.ext 0 [(0,0)]) (.nrm ((yM y0),yN y1,y2) [(0,0)]))) (.ext 1 [(0,0)])
def Jo(s:St):Option kq:=
 (match s.look 5 with
 |some ⟨none,.one ⟨false,[.val (.int .i64 y0)]⟩⟩=>
 (match s.look 0 with
 |some ⟨none,.one ⟨false,[.ref 0]⟩⟩=>
 (match s.look 1 with
 |some ⟨none,.one ⟨false,[.val (.int .i64 y1)]⟩⟩=>
 (match s.ent 0 with
 |some (.row false 2 (.int .i64) y2)=>
 some (y0,y1,y2)
 |_=>none)
 |_=>none)
 |_=>none)
 |_=>none)
def dg:Lp kq where
 h:=⟨[6,7,8,9,12,13,14,15,16,17,4,18,19,1,10,11,5],[0],[],[]⟩
 JL:=Zj
 JE:=Ze
 XL:=Zt
 XE:=Zo
 q:=fun j=>match j with | 0=> .ret | _=> .exit 0
 tags:= [0,1]
 lt:=xx
 fuel:=fun(y0,y1,y2)=>y0.natAbs + y1.natAbs + y2.length
 fix:=fun(_,_,y2) (y0,y1,_)=>(y0,y1,y2)
 σ:= [(0,0)]
 rd:=Jo
theorem WR:LoopOk prog (fun k=>Nat.blt k Tryz.f35.ntmps) dg.F (aL f35 0):=by
 refine Lp.ok (tbl:= []) (lf:= []) aN dg (by kernel_rfl) (LOk.nil _) (fun _=>rfl) (fun j _=>by unfold dg;match j with | 0=>rfl | _ + 1=>rfl) ?_ ?_ ?_ ?_ (fun _=>rfl) ?_
 ·rintro⟨y0,y1,y2⟩;kernel_rfl
 ·rintro⟨y0,y1,y2⟩;kernel_rfl
 ·intro s x h
  have h:Jo s=some x:=h
  unfold Jo at h
  repeat' split at h
  all_goals cases h
  exact⟨aa (by assumption) rfl (aa (by assumption) rfl (aa (by assumption) rfl (rfl))),ab rfl (by assumption) rfl (rfl)⟩
 ·rintro⟨y0,y1,y2⟩;kernel_rfl
 ·rintro⟨y0,y1,y2⟩ z;exact(And.intro (And.intro trivial rfl) trivial)
section
variable (x0:Int)(x1:List Int)
def CA:Int×Int×List Int:=((0:Int),x0,x1)
def Ez:Int:=bif Nat.beq ((Lp.res dg (CA x0 x1)).1) (0:Nat)then uY else ((Lp.res dg (CA x0 x1)).2.2).1
def JJ:Bool:=allT [Lp.fin dg (CA x0 x1)]
end
def UT:List SV→List Entry→Option Out
 | [.one ⟨false,[.ref 0]⟩,.one ⟨false,[.val (.int .i64 x0)]⟩],[.row false 2 (.int .i64) x1]=>some ⟨.one ⟨false,[.val (.int .i64 (Ez x0 x1))]⟩,[.row false 2 agR x1],[],[JJ x0 x1]⟩
 |_,_=>none
def af7:PF prog:=PF.ofG prog [] [dg.F] aN 35 f35 func35 (LOk.fnT (l:= [aL f35 0]) (by kernel_rfl) (.cons WR (.nil _))) UT (by
 intro vs es r h;unfold UT at h;split at h
 ·cases h;kernel_rfl
 ·cases h)
def blk(p:Int):Int:=Int.tdiv p 3
def inR(a lo hi:Int):Bool:=leI lo a&&leI a hi
def eqL(xs ys:List Int):Bool:=decide (xs=ys)
theorem apN(xs:List Int):eqL xs xs=true:=by simp [eqL]
theorem FL{a lo hi:Int}:inR a lo hi=true↔lo≤a∧a≤hi:=by simp [inR]
theorem VP(a lo hi:Int):(bif leI lo a then leI a hi else false)=inR a lo hi:=by
 unfold inR;cases leI lo a <;> rfl
def ug(y1:List Int)(b:Nat):(List Int)→Nat ⊕ (List Int)
 |y2=>(.inr (List.set y2 b (Option.getD y1[b]? (0:Int))))
def qk(y1:List Int)(i:Nat):(List Int)→mQ
 |y2=>((i:Int),y1,y2)
def Mp:mQ→List Int
 |(_,_,y2)=>y2
theorem afk(y1 y2:List Int)(hn:y1.length≤9223372036854775807)(hl:y2.length=y1.length):
  gK.fin ((0:Int),y1,y2)=true∧gK.res ((0:Int),y1,y2)=((af (ug y1) 0 (List.range y1.length) 0 y2).1,(qk y1) (af (ug y1) 0 (List.range y1.length) 0 y2).2.1 (af (ug y1) 0 (List.range y1.length) 0 y2).2.2):=by
 have jb:=gK.along (qk y1) Mp (ug y1) 0 (fun _ a=>a.length=y1.length) (List.range y1.length) y2 hl (by simp only [gK,qk,List.length_range];omega) (fun i b a hb hI=> ?_) (fun a hI=> ?_)
 ·exact jb
 ·obtain y2:=a
  obtain⟨rfl,eB⟩:=np hb
  have hw:IntKind.i64.wrap ((b:Int) + 1)=((b + 1:Nat):Int):=by rw [aR (by omega) (by omega)];omega
  have bM:ltI (b:Int) (y1.length:Int)=true:=dO (by omega)
  have vC:leI (0:Int) (b:Int)=true:=bw (by omega)
  have gI:ltN b y1.length=true:=fQ (by omega)
  refine⟨?_,?_,?_,?_⟩
  ·simp [xX,xY,CH,CI,CJ,CL,CM,Bs,gK,LT.nds,allT,qk,bM,vC,gI,hI]
  ·simp [xX,xY,CH,CI,CJ,CL,CM,Bs,gK,LT.each,qk,Mp,hw,hI]
  ·simp only [xX,xY,CH,CI,CJ,CL,CM,Bs,gK,LT.fn,qk,Mp,ug,Int.toNat_natCast,bM,cond_true]
  ·intro a' hf;simp only [ug,Sum.inr.injEq]at hf;subst hf;simpa using hI
 ·obtain y2:=a
  simp [xX,xY,CH,CI,CJ,CL,CM,Bs,gK,LT.out,qk,List.length_range]
def Cd(y1 y2:List Int)(b:Nat):(Unit)→Nat ⊕ (Unit)
 |_=>(bif(Option.getD y1[b]? (0:Int)!=Option.getD y2[b]? (0:Int))then(.inl 0)else(.inr ()))
def tt(y1 y2:List Int)(i:Nat):(Unit)→mP
 |_=>((i:Int),y1,y2)
def Mo:mP→Unit
 |(_,_,_)=>()
theorem afj(y1 y2:List Int) (hn:y1.length≤9223372036854775807) (he:y2.length=y1.length):
  fb.fin ((0:Int),y1,y2)=true∧fb.res ((0:Int),y1,y2)=((af (Cd y1 y2) 1 (List.range y1.length) 0 ()).1,(tt y1 y2) (af (Cd y1 y2) 1 (List.range y1.length) 0 ()).2.1 (af (Cd y1 y2) 1 (List.range y1.length) 0 ()).2.2):=by
 have jb:=fb.along (tt y1 y2) Mo (Cd y1 y2) 1 (fun _ _=>True) (List.range y1.length) () (by trivial) (by simp only [fb,tt,List.length_range];omega) (fun i b a hb hI=> ?_) (fun a hI=> ?_)
 ·exact jb
 ·obtain⟨⟩:=a
  obtain⟨rfl,eB⟩:=np hb
  have hw:IntKind.i64.wrap ((b:Int) + 1)=((b + 1:Nat):Int):=by rw [aR (by omega) (by omega)];omega
  have bM:ltI (b:Int) (y1.length:Int)=true:=dO (by omega)
  have vC:leI (0:Int) (b:Int)=true:=bw (by omega)
  have gI:ltN b y1.length=true:=fQ (by omega)
  refine⟨?_,?_,?_,?_⟩
  ·simp [xS,xT,Cv,Cw,Cx,Cy,Cz,Br,fb,LT.nds,allT,tt,bM,vC,gI,he]
  ·simp [xS,xT,Cv,Cw,Cx,Cy,Cz,Br,fb,LT.each,tt,Mo,hw,he]
  ·simp only [xS,xT,Cv,Cw,Cx,Cy,Cz,Br,fb,LT.fn,tt,Mo,Cd,Int.toNat_natCast,bM,cond_true]
  ·exact fun _ _=>trivial
 ·obtain⟨⟩:=a
  simp [xS,xT,Cv,Cw,Cx,Cy,Cz,Br,fb,LT.out,tt,List.length_range]
def rh(b:Nat):(Int×List Int)→Nat ⊕ (Int×List Int)
 |(y1,y2)=>(.inr ((IntKind.wrap .i64 (y1 + (1:Int))),(List.set y2 b y1)))
def ly(i:Nat):(Int×List Int)→kr
 |(y1,y2)=>((i:Int),y1,y2)
def Jl:kr→Int×List Int
 |(_,y1,y2)=>(y1,y2)
theorem abH(y1:Int)(y2:List Int)(n:Nat)(hl:y2.length=n)(hn:n≤9223372036854775807):
  eE.fin ((0:Int),y1,y2)=true∧eE.res ((0:Int),y1,y2)=((af (rh) 0 (List.range n) 0 (y1,y2)).1,(ly) (af (rh) 0 (List.range n) 0 (y1,y2)).2.1 (af (rh) 0 (List.range n) 0 (y1,y2)).2.2):=by
 have jb:=eE.along (ly) Jl (rh) 0 (fun _ a=>a.2.length=n) (List.range n) (y1,y2) hl (by simp only [eE,ly,List.length_range];omega) (fun i b a hb hI=> ?_) (fun a hI=> ?_)
 ·exact jb
 ·obtain⟨y1,y2⟩:=a
  obtain⟨rfl,eB⟩:=np hb
  have hI0:y2.length=n:=hI
  have hw:IntKind.i64.wrap ((b:Int) + 1)=((b + 1:Nat):Int):=by rw [aR (by omega) (by omega)];omega
  have bM:ltI (b:Int) (y2.length:Int)=true:=dO (by omega)
  have vC:leI (0:Int) (b:Int)=true:=bw (by omega)
  have gI:ltN b y2.length=true:=fQ (by omega)
  refine⟨?_,?_,?_,?_⟩
  ·simp [va,yO,yP,yQ,yR,yS,xy,eE,LT.nds,allT,ly,bM,vC,gI]
  ·simp [va,yO,yP,yQ,yR,yS,xy,eE,LT.each,ly,Jl,hw]
  ·simp only [va,yO,yP,yQ,yR,yS,xy,eE,LT.fn,ly,Jl,rh,Int.toNat_natCast,bM,vC,gI,cond_true,Bool.cond_self]
  ·intro a' hf;simp only [rh,Sum.inr.injEq]at hf;subst hf;simp [hI0]
 ·obtain⟨y1,y2⟩:=a
  have hI0:y2.length=n:=hI
  simp [va,yO,yP,yQ,yR,yS,xy,eE,LT.out,ly,hI0,List.length_range]
def uJ(b:Int):(Int)→Nat ⊕ (Int)
 |y1=>(bif(b !=y1)then(.inl 0)else(.inr (IntKind.wrap .i64 (y1 + (1:Int)))))
def nV(y2:List Int)(i:Nat):(Int)→kq
 |y1=>((i:Int),y1,y2)
def Jk:kq→Int
 |(_,y1,_)=>y1
theorem RY(y2:List Int)(y1:Int)(hn:y2.length≤9223372036854775807):
  dg.fin ((0:Int),y1,y2)=true∧dg.res ((0:Int),y1,y2)=((af (uJ) 1 y2 0 y1).1,(nV y2) (af (uJ) 1 y2 0 y1).2.1 (af (uJ) 1 y2 0 y1).2.2):=by
 have jb:=dg.along (nV y2) Jk (uJ) 1 (fun _ _=>True) y2 y1 (by trivial) (by simp only [dg,nV];omega) (fun i b a hb hI=> ?_) (fun a hI=> ?_)
 ·exact jb
 ·obtain y1:=a
  have eB:=(List.getElem?_eq_some_iff.1 hb).1
  have il: ∀ d,Option.getD y2[i]? d=b:=fun d=>by rw [hb];rfl
  have hw:=tZ eB hn
  have bM:ltI (i:Int) (y2.length:Int)=true:=dO (by omega)
  have vC:leI (0:Int) (i:Int)=true:=bw (by omega)
  have gI:ltN i y2.length=true:=fQ eB
  refine⟨?_,?_,?_,?_⟩
  ·simp [uX,yJ,yK,yL,uY,yM,yN,xx,dg,LT.nds,allT,nV,bM,vC,gI,il]
  ·simp [uX,yJ,yK,yL,uY,yM,yN,xx,dg,LT.each,nV,Jk,hw]
  ·simp only [uX,yJ,yK,yL,uY,yM,yN,xx,dg,LT.fn,nV,Jk,uJ,Int.toNat_natCast,bM,vC,gI,il,cond_true,Bool.cond_self]
  ·exact fun _ _=>trivial
 ·obtain y1:=a
  simp [uX,yJ,yK,yL,uY,yM,yN,xx,dg,LT.out,nV]
theorem apv(xs:List Int)(hn:leN xs.length 1048576=true):Nn xs=xs∧Np xs=true:=by
 have hn:=fX.1 hn
 have hr:(List.replicate (Int.toNat (xs.length:Int)) (0:Int)).length=xs.length:=by simp
 obtain⟨w1,w2⟩:=afk xs (List.replicate (Int.toNat (xs.length:Int)) (0:Int)) (by omega) hr
 have hc:=Xl (xs:=xs) (d:=(0:Int)) (g:=fun x=>x) (f:=ug xs) (e:=0) (fun b a=>rfl) hr
 rw [hc]at w2
 refine⟨?_,?_⟩
 ·simp only [LD,Nn,Np,w2,qk];simp
 ·simp only [LD,Nn,Np,w1,allT];simp;omega
def YN:List SV→List Entry→Option Out
 | [.one ⟨false,[.ref 0]⟩],[.row false 2 (.int .i64) x0]=>some ⟨.one ⟨false,[.ref 1]⟩,[.row false 2 agR x0],[.row true 2 agR x0],[leN x0.length 1048576]⟩
 |_,_=>none
def DU:PF prog:=PF.alt ait YN (by
 intro args es o h cB;unfold YN at h;split at h
 ·rename_i x0
  cases h
  have cB:=mq cB
  have hh:=apv x0 cB
  obtain⟨e0,en⟩:=hh
  exact rg rfl (lJ en) rfl rfl (by simp only [e0] <;> rfl)
 ·cases h)
theorem ao1(xs ys:List Int)(hn:leN xs.length 9223372036854775807=true):Nd xs ys=eqL xs ys∧Nf xs ys=true:=by
 have hn:=fX.1 hn
 unfold eqL
 by_cases hl:ys.length=xs.length
 ·obtain⟨w1,w2⟩:=afj xs ys hn hl
  have ha:=aiR (d:=(0:Int)) hl (P:=fun b=>Option.getD xs[b]? 0 !=Option.getD ys[b]? 0) (fun b=>by simp [bne,BEq.beq])
  rw [iH (P:=fun b=>Option.getD xs[b]? 0 !=Option.getD ys[b]? 0) (j:=0) (fun b=>rfl),ha]at w2
  simp only [Lv,Lw,Nd,Nf,w1,w2,allT]
  by_cases he:xs=ys
  ·subst he;simp;decide
  ·simp [he,hl]
 ·have QG:xs≠ys:=fun h=>hl (by rw [h])
  simp [Lv,Lw,Nd,Nf,allT,QG]
  omega
def YK:List SV→List Entry→Option Out
 | [.one ⟨false,[.ref 0]⟩,.one ⟨false,[.ref 1]⟩],[.row false 2 (.int .i64) x0,.row false 2 (.int .i64) x1]=>some ⟨.one ⟨false,[.val (.bool (eqL x0 x1))]⟩,[.row false 2 agR x0,.row false 2 agR x1],[],[leN x0.length 9223372036854775807]⟩
 |_,_=>none
def ua:PF prog:=PF.alt air YK (by
 intro args es o h cB;unfold YK at h;split at h
 ·rename_i x0 x1
  cases h
  have cB:=mq cB
  have hh:=ao1 x0 x1 cB
  obtain⟨e0,en⟩:=hh
  exact rg rfl (lJ en) (by simp only [e0] <;> rfl) rfl rfl
 ·cases h)
def ag0(k:Int)(n:Nat):Bool:=leI 0 k&&leI (k + n) 9223372036854775807
theorem WZ{k:Int}{n:Nat}:ag0 k n=true↔0≤k∧k + n≤9223372036854775807:=by simp [ag0]
theorem amF(k:Int)(xs:List Int)(h:ag0 k xs.length=true):EA k xs=k + xs.length∧EB k xs=Aq k xs.length∧EC k xs=true:=by
 obtain⟨h0,h1⟩:=WZ.1 h
 obtain⟨w1,w2⟩:=abH k xs xs.length rfl (by omega)
 rw [apw (f:=rh) (fun b k xs=>rfl) h0 h1]at w2
 refine⟨?_,?_,?_⟩
 ·simp only [CE,CF,EA,EB,EC,w2,ly]
 ·simp only [CE,CF,EA,EB,EC,w2,ly]
 ·simp only [CE,CF,EA,EB,EC,w1,allT,cond_true]
def Va:List SV→List Entry→Option Out
 | [.one ⟨false,[.ref 0]⟩,.one ⟨false,[.val (.int .i64 x0)]⟩],[.row true 2 (.int .i64) x1]=>some ⟨.one ⟨false,[.val (.int .i64 (x0 + (x1.length:Int)))]⟩,[.row true 2 agR (Aq x0 x1.length)],[],[ag0 x0 x1.length]⟩
 |_,_=>none
def qA:PF prog:=PF.alt af8 Va (by
 intro args es o h cB;unfold Va at h;split at h
 ·rename_i x0 x1
  cases h
  have cB:=mq cB
  have hh:=amF x0 x1 cB
  obtain⟨e0,e1,en⟩:=hh
  exact rg rfl (lJ en) (by simp only [e0] <;> rfl) (by simp only [e1] <;> rfl) rfl
 ·cases h)
def ahL(k:Int)(xs:List Int):Int:=Ez k xs
theorem apV(k:Int)(n:Nat)(h:ag0 k n=true):ahL k (Aq k n)=k + n:=by
 obtain⟨h0,h1⟩:=WZ.1 h
 obtain⟨w1,w2⟩:=RY (Aq k n) k (by rw [RH];omega)
 rw [alb (f:=uJ) (fun b k=>rfl) h0 h1]at w2
 simp only [ahL,CA,Ez,JJ,w2,nV]
 rfl
theorem amo(k:Int)(xs:List Int)(h:leN xs.length 9223372036854775807=true):Ez k xs=ahL k xs∧JJ k xs=true:=by
 obtain⟨w1,w2⟩:=RY xs k (fX.1 h)
 exact⟨rfl,by simp only [CA,Ez,JJ,w1,allT,cond_true]⟩
def UZ:List SV→List Entry→Option Out
 | [.one ⟨false,[.ref 0]⟩,.one ⟨false,[.val (.int .i64 x0)]⟩],[.row false 2 (.int .i64) x1]=>some ⟨.one ⟨false,[.val (.int .i64 (ahL x0 x1))]⟩,[.row false 2 agR x1],[],[leN x1.length 9223372036854775807]⟩
 |_,_=>none
def PJ:PF prog:=PF.alt af7 UZ (by
 intro args es o h cB;unfold UZ at h;split at h
 ·rename_i x0 x1
  cases h
  have cB:=mq cB
  have hh:=amo x0 x1 cB
  obtain⟨e0,en⟩:=hh
  exact rg rfl (lJ en) (by simp only [e0] <;> rfl) rfl rfl
 ·cases h)
def szV(k:Int)(xs:List Int):Int:=bif ltI (k - xs.length) 0 then -1 else k - xs.length
theorem apt(k:Int)(xs:List Int)(h:(leN xs.length 9223372036854775807&&(leI (-1) k&&leI k 1048576))=true):Sj k xs=szV k xs:=by
 simp only [Bool.and_eq_true,fX,EV]at h
 simp only [QS,Sj,szV]
 rw [aR (by omega) (by omega)]
def YM:List SV→List Entry→Option Out
 | [.one ⟨false,[.ref 0]⟩,.one ⟨false,[.val (.int .i64 x0)]⟩],[.row false 2 (.int .i64) x1]=>some ⟨.one ⟨false,[.val (.int .i64 (szV x0 x1))]⟩,[.row false 2 agR x1],[],[leN x1.length 9223372036854775807&&(leI (-1) x0&&leI x0 1048576)]⟩
 |_,_=>none
def DT:PF prog:=PF.alt ais YM (by
 intro args es o h cB;unfold YM at h;split at h
 ·rename_i x0 x1
  cases h
  have cB:=mq cB
  have hh:=apt x0 x1 cB
  have e0:=hh
  exact rg rfl (fun _ h=>by cases h) (by simp only [e0] <;> rfl) rfl rfl
 ·cases h)
theorem apG(xs:List Int)(h:(leN 1 xs.length&&leN xs.length 1048576)=true):wl xs=true:=by
 simp only [Bool.and_eq_true,fX]at h
 simp [wl,allT]
 omega
def ahE:List SV→List Entry→Option Out
 | [.one ⟨false,[.val (.slice none 0 0)]⟩],[]=>some ⟨.one ⟨false,[.ref 0]⟩,[],[.row true 2 (.int .i64) []],[true]⟩
 |_,_=>none
def amO:PF prog:=PF.ofG prog [PF.raw prog] [] aN 194 f194 func194 (fun c _=>LOk.nil c) ahE (by
 intro vs es r h;unfold ahE at h;split at h
 ·cases h;kernel_rfl
 ·cases h)
def ahD:List SV→List Entry→Option Out
 | [.one ⟨false,[.val (.slice (some _) 0 _)]⟩],[]=>some ⟨.one ⟨false,[.ref 0]⟩,[],[.row true 2 (.int .i64) []],[true]⟩
 |_,_=>none
def amN:PF prog:=PF.ofG prog [] [] aN 194 f194 func194 (fun c _=>LOk.nil c) ahD (by
 intro vs es r h;unfold ahD at h;split at h
 ·cases h;kernel_rfl
 ·cases h)
def Kx:List SV→List Entry→Option Out
 | [.one ⟨false,[.ref 0]⟩],[.row false 2 (.int .i64) x0]=>some ⟨.one ⟨false,[.ref 1]⟩,[.row false 2 (.int .i64) x0],[.row true 2 (.int .i64) x0],[leN x0.length 1048576]⟩
 |_,_=>none
def CZ:PF prog where
 k:=194
 F:=Kx
 ok:=by
  intro args es o h cB mem ρ w hp
  unfold Kx at h
  split at h
  ·rename_i x0
   cases h
   have hl:=cB _ (List.mem_singleton.2 rfl)
   cases x0 with
   |nil=>
    exact(apF amO amN rfl rfl rfl (fun _ _=>rfl) (by simp) (by simp) hp).mono fun en w' ⟨ρ',h1,h2,h3⟩=>⟨ρ',h1,h2,rfl,(by intro v hv;rw [List.mem_singleton.1 hv];rfl),h3⟩
   |cons x xs=>exact Ue.ok _ _ ⟨_,_,_,[wl (x::xs)]⟩ rfl (fun b hb=>by rw [List.mem_singleton.1 hb];exact apG (x::xs) ((Bool.and_eq_true _ _).mpr ⟨dv (Nat.succ_pos _),hl⟩)) mem ρ w hp
  ·cases h
theorem arw(xs:List Int)(h:leN xs.length 1048576=true):Wa xs=true:=by
 have h:=fX.1 h
 simp [Wa,allT]
 omega
def adc:List SV→List Entry→Option Out
 | [.one ⟨false,[.ref 0]⟩],[.row false 2 (.int .i64) x0]=>some ⟨.one ⟨false,[.ref 1]⟩,[.row false 2 agR x0],[.row true 2 agR x0],[leN x0.length 1048576]⟩
 |_,_=>none
def na:PF prog:=PF.alt akq adc (by
 intro args es o h cB;unfold adc at h;split at h
 ·rename_i x0
  cases h
  have cB:=mq cB
  have hh:=arw x0 cB
  have en:=hh
  exact rg rfl (lJ en) rfl rfl rfl
 ·cases h)
def GO(x0:Int):Bool:=bif leI (97:Int) x0 then leI x0 (122:Int)else false
def Wu:List SV→List Entry→Option Out
 | [.one ⟨false,[.val (.int .u8 x0)]⟩],[]=>some ⟨.one ⟨false,[.val (.bool (GO x0))]⟩,[],[],[]⟩
 |_,_=>none
def Rn:PF prog:=PF.ofG prog [] [] aN 277 f277 func277 (fun c _=>LOk.nil c) Wu (by
 intro vs es r h;unfold Wu at h;split at h
 ·cases h;kernel_rfl
 ·cases h)
def Ss(x0:Int):Bool:=bif leI (48:Int) x0 then leI x0 (57:Int)else false
def Yy:List SV→List Entry→Option Out
 | [.one ⟨false,[.val (.int .u8 x0)]⟩],[]=>some ⟨.one ⟨false,[.val (.bool (Ss x0))]⟩,[],[],[]⟩
 |_,_=>none
def aiu:PF prog:=PF.ofG prog [] [] aN 280 f280 func280 (fun c _=>LOk.nil c) Yy (by
 intro vs es r h;unfold Yy at h;split at h
 ·cases h;kernel_rfl
 ·cases h)
def Nv(x0:Int):Bool:=bif bif GO x0 then true else Ss x0 then true else x0==(95:Int)
def Yz:List SV→List Entry→Option Out
 | [.one ⟨false,[.val (.int .u8 x0)]⟩],[]=>some ⟨.one ⟨false,[.val (.bool (Nv x0))]⟩,[],[],[]⟩
 |_,_=>none
def YV:PF prog:=PF.ofG prog [Rn,aiu] [] aN 276 f276 func276 (fun c _=>LOk.nil c) Yz (by
 intro vs es r h;unfold Yz at h;split at h
 ·cases h;kernel_rfl
 ·cases h)
abbrev tw:=Int×ByteArray
section
variable (y0:Int)(y1:ByteArray)
def Fb:Bool:=ltI y0 (↑(ByteArray.size y1):Int)
def Vp:Bool:=leI (0:Int) y0
def Qb:Bool:= !Nv (↑(UInt8.toNat (Option.getD y1[Int.toNat y0]? (0:UInt8))):Int)
def Vq:Int:=IntKind.wrap .i64 (y0 + (1:Int))
end
def adR:tw→List (Nat×SV)
 |(y0,y1)=> [(3,(.one ⟨false,[.val (.int .i64 y0)]⟩)),(0,(.one ⟨false,[.val (.string y1)]⟩))]
def adH:tw→List (Nat×Entry)
 |(_,_)=> []
def aeb:Nat→tw→List (Nat×SV)
 |0,(_,_)=> [(2,(.one ⟨false,[.val (.bool false)]⟩))]
 |_,(_,_)=> []
def ad1:Nat→tw→List (Nat×Entry)
 |0,(_,_)=> []
 |_,(_,_)=> []
def CV:tw→LT tw
 |(y0,y1)=> .ite (Fb y0 y1) (.need [Vp y0,Fb y0 y1] (.ite (Qb y0 y1) (.ext 0 []) (.nrm ((Vq y0),y1) []))) (.ext 1 [])
def Og(s:St):Option tw:=
 (match s.look 3 with
 |some ⟨none,.one ⟨false,[.val (.int .i64 y0)]⟩⟩=>
 (match s.look 0 with
 |some ⟨none,.one ⟨false,[.val (.string y1)]⟩⟩=>
 some (y0,y1)
 |_=>none)
 |_=>none)
def gB:Lp tw where
 h:=⟨[4,5,6,7,10,11,12,13,14,2,8,9,3],[],[],[]⟩
 JL:=adR
 JE:=adH
 XL:=aeb
 XE:=ad1
 q:=fun j=>match j with | 0=> .ret | _=> .exit 0
 tags:= [0,1]
 lt:=CV
 fuel:=fun(y0,y1)=>y0.natAbs + y1.size
 fix:=fun(_,y1) (y0,_)=>(y0,y1)
 σ:= []
 rd:=Og
theorem abp:LoopOk prog (fun k=>Nat.blt k Tryz.f266.ntmps) gB.F (aL f266 0):=by
 refine Lp.ok (tbl:= [yB,YV,Rn]) (lf:= []) aN gB (by kernel_rfl) (LOk.nil _) (fun _=>rfl) (fun j _=>by unfold gB;match j with | 0=>rfl | _ + 1=>rfl) ?_ ?_ ?_ ?_ (fun _=>rfl) ?_
 ·rintro⟨y0,y1⟩;kernel_rfl
 ·rintro⟨y0,y1⟩;kernel_rfl
 ·intro s x h
  have h:Og s=some x:=h
  unfold Og at h
  repeat' split at h
  all_goals cases h
  exact⟨aa (by assumption) rfl (aa (by assumption) rfl (rfl)),rfl⟩
 ·rintro⟨y0,y1⟩;kernel_rfl
 ·rintro⟨y0,y1⟩ z;exact(And.intro (And.intro trivial rfl) trivial)
section
variable (x0:ByteArray)
def Nw:Bool:=Nat.beq ((Lp.res gB ((0:Int),x0)).1) (0:Nat)
def Nx:Bool:=bx (↑(ByteArray.size x0):Int) (1:Int) (12:Int)
def Un:Bool:=bif Nw x0 then false else bif Nx x0 then GO (↑(UInt8.toNat (Option.getD x0[Int.toNat (0:Int)]? (0:UInt8))):Int)else false
def Uo:Bool:=allT [Lp.fin gB ((0:Int),x0),Nw x0||(!(Nx x0&&true)||leI (0:Int) (0:Int)),Nw x0||(!(Nx x0&&true)||ltI (0:Int) (↑(ByteArray.size x0):Int))]
end
def ZU:List SV→List Entry→Option Out
 | [.one ⟨false,[.val (.string x0)]⟩],[]=>some ⟨.one ⟨false,[.val (.bool (Un x0))]⟩,[],[],[Uo x0]⟩
 |_,_=>none
def ajE:PF prog:=PF.ofG prog [yB,YV,Rn] [gB.F] aN 266 f266 func266 (LOk.fnT (l:= [aL f266 0]) (by kernel_rfl) (.cons abp (.nil _))) ZU (by
 intro vs es r h;unfold ZU at h;split at h
 ·cases h;kernel_rfl
 ·cases h)
def Ol:List ByteArray:=
 [{ data:= #[(112:UInt8),(114:UInt8),(111:UInt8),(103:UInt8),(114:UInt8),(97:UInt8),(109:UInt8)] },
 {data:= #[(105:UInt8),(110:UInt8)] },{ data:= #[(118:UInt8),(97:UInt8),(114:UInt8)] },
 {data:= #[(111:UInt8),(117:UInt8),(116:UInt8)] },{ data:= #[(103:UInt8),(117:UInt8),(97:UInt8),(114:UInt8),(100:UInt8)] },
 {data:= #[(101:UInt8),(110:UInt8),(100:UInt8)] },{ data:= #[(97:UInt8),(110:UInt8),(100:UInt8)] },
 {data:= #[(111:UInt8),(114:UInt8)] },{ data:= #[(110:UInt8),(111:UInt8),(116:UInt8)] },
 {data:= #[(116:UInt8),(114:UInt8),(117:UInt8),(101:UInt8)] },
 {data:= #[(102:UInt8),(97:UInt8),(108:UInt8),(115:UInt8),(101:UInt8)] },{ data:= #[(111:UInt8),(110:UInt8)] },
 {data:= #[(111:UInt8),(102:UInt8),(102:UInt8)] },{ data:= #[(114:UInt8),(105:UInt8),(115:UInt8),(101:UInt8)] },
 {data:= #[(108:UInt8),(97:UInt8),(116:UInt8),(99:UInt8),(104:UInt8)] },
 {data:= #[(99:UInt8),(111:UInt8),(117:UInt8),(110:UInt8),(116:UInt8)] },
 {data:= #[(112:UInt8),(97:UInt8),(105:UInt8),(114:UInt8)] }]
def Tl:List SV→List Entry→Option Out
 | [],[]=>some ⟨.one ⟨false,[.ref 0]⟩,[],[.row true 9 aih (Ol)],[]⟩
 |_,_=>none
def Uf:PF prog:=PF.ofG prog [] [] aN 278 f278 func278 (fun c _=>LOk.nil c) Tl (by
 intro vs es r h;unfold Tl at h;split at h
 ·cases h;kernel_rfl
 ·cases h)
abbrev kt:=Int×ByteArray×List ByteArray
section
variable (y0:Int)(y1:ByteArray)(y2:List ByteArray)
def vm:Bool:=ltI y0 (↑y2.length:Int)
def zq:Bool:=leI (0:Int) y0
def zs:Bool:=ltN y0.toNat y2.length
def zt:Bool:=ByteArray.toList (Option.getD y2[Int.toNat y0]? ByteArray.empty)==ByteArray.toList y1
def zu:Int:=IntKind.wrap .i64 (y0 + (1:Int))
end
def Zl:kt→List (Nat×SV)
 |(y0,y1,_)=> [(4,(.one ⟨false,[.val (.int .i64 y0)]⟩)),(3,(.one ⟨false,[.ref 0]⟩)),(0,(.one ⟨false,[.val (.string y1)]⟩))]
def Zg:kt→List (Nat×Entry)
 |(_,_,y2)=> [(0,(.row true 9 aih y2))]
def Zv:Nat→kt→List (Nat×SV)
 |0,(y0,_,_)=> [(2,(.one ⟨false,[.val (.int .i64 y0)]⟩))]
 |_,(_,_,_)=> []
def Zq:Nat→kt→List (Nat×Entry)
 |0,(_,_,y2)=> [(0,(.row true 9 aih y2))]
 |_,(_,_,y2)=> [(0,(.row true 9 aih y2))]
def xz:kt→LT kt
 |(y0,y1,y2)=> .ite (vm y0 y2) (.need [zq y0,vm y0 y2,zs y0 y2] (.ite (zt y0 y1 y2) (.ext 0 [(0,0)]) (.nrm ((zu y0),y1,y2) [(0,0)]))) (.ext 1 [(0,0)])
def Jq(s:St):Option kt:=
 (match s.look 4 with
 |some ⟨none,.one ⟨false,[.val (.int .i64 y0)]⟩⟩=>
 (match s.look 3 with
 |some ⟨none,.one ⟨false,[.ref 128]⟩⟩=>
 (match s.look 0 with
 |some ⟨none,.one ⟨false,[.val (.string y1)]⟩⟩=>
 (match s.ent 128 with
 |some (.row true 9 (.str) y2)=>
 some (y0,y1,y2)
 |_=>none)
 |_=>none)
 |_=>none)
 |_=>none)
def dh:Lp kt where
 h:=⟨[6,7,8,9,12,13,14,15,16,17,18,2,10,11,4],[0],[],[]⟩
 JL:=Zl
 JE:=Zg
 XL:=Zv
 XE:=Zq
 q:=fun j=>match j with | 0=> .ret | _=> .exit 0
 tags:= [0,1]
 lt:=xz
 fuel:=fun(y0,y1,y2)=>y0.natAbs + y1.size + y2.length
 fix:=fun(_,y1,y2) (y0,_,_)=>(y0,y1,y2)
 σ:= [(0,128)]
 rd:=Jq
theorem WT:LoopOk prog (fun k=>Nat.blt k Tryz.f267.ntmps) dh.F (aL f267 0):=by
 refine Lp.ok (tbl:= [Uf]) (lf:= []) aN dh (by kernel_rfl) (LOk.nil _) (fun _=>rfl) (fun j _=>by unfold dh;match j with | 0=>rfl | _ + 1=>rfl) ?_ ?_ ?_ ?_ (fun _=>rfl) ?_
 ·rintro⟨y0,y1,y2⟩;kernel_rfl
 ·rintro⟨y0,y1,y2⟩;kernel_rfl
 ·intro s x h
  have h:Jq s=some x:=h
  unfold Jq at h
  repeat' split at h
  all_goals cases h
  exact⟨aa (by assumption) rfl (aa (by assumption) rfl (aa (by assumption) rfl (rfl))),ab rfl (by assumption) rfl (rfl)⟩
 ·rintro⟨y0,y1,y2⟩;kernel_rfl
 ·rintro⟨y0,y1,y2⟩ z;exact(And.intro (And.intro trivial rfl) trivial)
section
variable (x0:ByteArray)
def Ig:Int×ByteArray×List ByteArray:=((0:Int),x0,Ol)
def Kf:Int:=bif Nat.beq ((Lp.res dh (Ig x0)).1) (0:Nat)then ((Lp.res dh (Ig x0)).2).1else(-1:Int)
def Kg:Bool:=allT [Lp.fin dh (Ig x0)]
end
def UX:List SV→List Entry→Option Out
 | [.one ⟨false,[.val (.string x0)]⟩],[]=>some ⟨.one ⟨false,[.val (.int .i64 (Kf x0))]⟩,[],[],[Kg x0]⟩
 |_,_=>none
def af9:PF prog:=PF.ofG prog [Uf] [dh.F] aN 267 f267 func267 (LOk.fnT (l:= [aL f267 0]) (by kernel_rfl) (.cons WT (.nil _))) UX (by
 intro vs es r h;unfold UX at h;split at h
 ·cases h;kernel_rfl
 ·cases h)
def vS(x0:ByteArray)(x1:Int):Int:=ibs x0 x1
def DZ:List SV→List Entry→Option Out
 | [.one ⟨false,[.val (.string x0)]⟩,.one ⟨false,[.val (.int .u8 x1)]⟩],[]=>some ⟨.one ⟨false,[.val (.int .i64 (vS x0 x1))]⟩,[],[],[]⟩
 |_,_=>none
def PL:PF prog:=PF.ofG prog [] [] aN 279 f279 func279 (fun c _=>LOk.nil c) DZ (by
 intro vs es r h;unfold DZ at h;split at h
 ·cases h;kernel_rfl
 ·cases h)
def Ge(x0:ByteArray)(x1:Int):Int:=vS x0 x1
def SF:List SV→List Entry→Option Out
 | [.one ⟨false,[.val (.string x0)]⟩,.one ⟨false,[.val (.int .u8 x1)]⟩],[]=>some ⟨.one ⟨false,[.val (.int .i64 (Ge x0 x1))]⟩,[],[],[]⟩
 |_,_=>none
def Ml:PF prog:=PF.ofG prog [PL] [] aN 273 f273 func273 (fun c _=>LOk.nil c) SF (by
 intro vs es r h;unfold SF at h;split at h
 ·cases h;kernel_rfl
 ·cases h)
abbrev BK:=Int×Int×ByteArray×ByteArray
section
variable (y0 y1:Int)(y2 y3:ByteArray)
def yI:Bool:=ltI (IntKind.wrap .i64 (y0 + y1)) (↑(ByteArray.size y2):Int)
def VN:Bool:= !(yI y0 y1 y2&&true)||leI (0:Int) (IntKind.wrap .i64 (y0 + y1))
def VO:Bool:= !(yI y0 y1 y2&&true)||yI y0 y1 y2
def Rz:Bool:=bif yI y0 y1 y2 then leI (0:Int) (Ge y3 (↑(UInt8.toNat (Option.getD y2[Int.toNat (IntKind.wrap .i64 (y0 + y1))]? (0:UInt8))):Int))else false
def adk:Int:=IntKind.wrap .i64 (y1 + (1:Int))
end
def aiL:BK→List (Nat×SV)
 |(y0,y1,y2,y3)=> [(1,(.one ⟨false,[.val (.int .i64 y0)]⟩)),(7,(.one ⟨false,[.val (.int .i64 y1)]⟩)),(0,(.one ⟨false,[.val (.string y2)]⟩)),(2,(.one ⟨false,[.val (.string y3)]⟩))]
def aiK:BK→List (Nat×Entry)
 |(_,_,_,_)=> []
def aiP:Nat→BK→List (Nat×SV)
 |_,(_,y1,_,_)=> [(7,(.one ⟨false,[.val (.int .i64 y1)]⟩))]
def aiO:Nat→BK→List (Nat×Entry)
 |_,(_,_,_,_)=> []
def KN:BK→LT BK
 |(y0,y1,y2,y3)=> .need [VN y0 y1 y2,VO y0 y1 y2] (.ite (Rz y0 y1 y2 y3) (.nrm (y0,adk y1,y2,y3) []) (.ext 0 []))
def Uh(s:St):Option BK:=
 (match s.look 1 with
 |some ⟨none,.one ⟨false,[.val (.int .i64 y0)]⟩⟩=>
 (match s.look 7 with
 |some ⟨none,.one ⟨false,[.val (.int .i64 y1)]⟩⟩=>
 (match s.look 0 with
 |some ⟨none,.one ⟨false,[.val (.string y2)]⟩⟩=>
 (match s.look 2 with
 |some ⟨none,.one ⟨false,[.val (.string y3)]⟩⟩=>
 some (y0,y1,y2,y3)
 |_=>none)
 |_=>none)
 |_=>none)
 |_=>none)
def kh:Lp BK where
 h:=⟨[8,9,10,11,12,13,14,15,16,17,18,19,20,21,22,23,24,25,7],[],[],[]⟩
 JL:=aiL
 JE:=aiK
 XL:=aiP
 XE:=aiO
 q:=fun j=>match j with | _=> .exit 0
 tags:= [0]
 lt:=KN
 fuel:=fun(y0,y1,y2,y3)=>y0.natAbs + y1.natAbs + y2.size + y3.size
 fix:=fun(y0,_,y2,y3) (_,y1,_,_)=>(y0,y1,y2,y3)
 σ:= []
 rd:=Uh
theorem agV:LoopOk prog (fun k=>Nat.blt k Tryz.f274.ntmps) kh.F (aL f274 0):=by
 refine Lp.ok (tbl:= [Ml]) (lf:= []) aN kh (by kernel_rfl) (LOk.nil _) (fun _=>rfl) (fun _ _=>rfl) ?_ ?_ ?_ ?_ (fun _=>rfl) ?_
 ·rintro⟨y0,y1,y2,y3⟩;kernel_rfl
 ·rintro⟨y0,y1,y2,y3⟩;kernel_rfl
 ·intro s x h
  have h:Uh s=some x:=h
  unfold Uh at h
  repeat' split at h
  all_goals cases h
  exact⟨aa (by assumption) rfl (aa (by assumption) rfl (aa (by assumption) rfl (aa (by assumption) rfl (rfl)))),rfl⟩
 ·rintro⟨y0,y1,y2,y3⟩;kernel_rfl
 ·rintro⟨y0,y1,y2,y3⟩ z;exact(And.intro rfl trivial)
section
variable (x0:ByteArray)(x1:Int)(x2:ByteArray)
def ahN:Int×Int×ByteArray×ByteArray:=(x1,(0:Int),x0,x2)
def ajg:Int:=((Lp.res kh (ahN x0 x1 x2)).2.2).1
def ajh:Bool:=allT [Lp.fin kh (ahN x0 x1 x2)]
end
def aiJ:List SV→List Entry→Option Out
 | [.one ⟨false,[.val (.string x0)]⟩,.one ⟨false,[.val (.int .i64 x1)]⟩,.one ⟨false,[.val (.string x2)]⟩],[]=>some ⟨.one ⟨false,[.val (.int .i64 (ajg x0 x1 x2))]⟩,[],[],[ajh x0 x1 x2]⟩
 |_,_=>none
def anY:PF prog:=PF.ofG prog [Ml] [kh.F] aN 274 f274 func274 (LOk.fnT (l:= [aL f274 0]) (by kernel_rfl) (.cons agV (.nil _))) aiJ (by
 intro vs es r h;unfold aiJ at h;split at h
 ·cases h;kernel_rfl
 ·cases h)
def yH(x0:ByteArray):Bool:=tS (↑(ByteArray.size x0):Int) (1:Int) (12:Int)
def GA(x0:ByteArray):Bool:=
 bif yH x0 then
 leI (0:Int)
  (Ge
   {
    data:=
     #[(97:UInt8),(98:UInt8),(99:UInt8),(100:UInt8),(101:UInt8),(102:UInt8),(103:UInt8),(104:UInt8),(105:UInt8),
      (106:UInt8),(107:UInt8),(108:UInt8),(109:UInt8),(110:UInt8),(111:UInt8),(112:UInt8),(113:UInt8),(114:UInt8),
      (115:UInt8),(116:UInt8),(117:UInt8),(118:UInt8),(119:UInt8),(120:UInt8),(121:UInt8),(122:UInt8)] }
   (↑(UInt8.toNat (Option.getD x0[Int.toNat (0:Int)]? (0:UInt8))):Int))
 else false
def VL(x0:ByteArray):Bool:=
 bif GA x0 then
 ajg x0 (0:Int)
   {
    data:=
     #[(97:UInt8),(98:UInt8),(99:UInt8),(100:UInt8),(101:UInt8),(102:UInt8),(103:UInt8),(104:UInt8),(105:UInt8),
      (106:UInt8),(107:UInt8),(108:UInt8),(109:UInt8),(110:UInt8),(111:UInt8),(112:UInt8),(113:UInt8),(114:UInt8),
      (115:UInt8),(116:UInt8),(117:UInt8),(118:UInt8),(119:UInt8),(120:UInt8),(121:UInt8),(122:UInt8),(48:UInt8),
      (49:UInt8),(50:UInt8),(51:UInt8),(52:UInt8),(53:UInt8),(54:UInt8),(55:UInt8),(56:UInt8),(57:UInt8),
      (95:UInt8)] } ==
  (↑(ByteArray.size x0):Int)
 else false
def VM(x0:ByteArray):Bool:=
 allT
 [!(yH x0&&true)||leI (0:Int) (0:Int),!(yH x0&&true)||ltI (0:Int) (↑(ByteArray.size x0):Int),
  !(GA x0&&true)||
   ajh x0 (0:Int)
    {
     data:=
      #[(97:UInt8),(98:UInt8),(99:UInt8),(100:UInt8),(101:UInt8),(102:UInt8),(103:UInt8),(104:UInt8),(105:UInt8),
       (106:UInt8),(107:UInt8),(108:UInt8),(109:UInt8),(110:UInt8),(111:UInt8),(112:UInt8),(113:UInt8),(114:UInt8),
       (115:UInt8),(116:UInt8),(117:UInt8),(118:UInt8),(119:UInt8),(120:UInt8),(121:UInt8),(122:UInt8),(48:UInt8),
       (49:UInt8),(50:UInt8),(51:UInt8),(52:UInt8),(53:UInt8),(54:UInt8),(55:UInt8),(56:UInt8),(57:UInt8),
       (95:UInt8)] }]
def acX:List SV→List Entry→Option Out
 | [.one ⟨false,[.val (.string x0)]⟩],[]=>some ⟨.one ⟨false,[.val (.bool (VL x0))]⟩,[],[],[VM x0]⟩
 |_,_=>none
def akp:PF prog:=PF.ofG prog [VY,Ml,anY] [] aN 257 f257 func257 (fun c _=>LOk.nil c) acX (by
 intro vs es r h;unfold acX at h;split at h
 ·cases h;kernel_rfl
 ·cases h)
abbrev cR:=Int×Int×ByteArray×List ByteArray
section
variable (y0 y1:Int)(y2:ByteArray)(y3:List ByteArray)
def nK:Bool:=ltI y0 y1
def nL:Bool:=leI (0:Int) y0
def nM:Bool:=ltI y0 (↑y3.length:Int)
def nN:Bool:=ltN y0.toNat y3.length
def nO:Bool:=ByteArray.toList y2==ByteArray.toList (Option.getD y3[Int.toNat y0]? ByteArray.empty)
def nP:Int:=IntKind.wrap .i64 (y0 + (1:Int))
end
def Pm:cR→List (Nat×SV)
 |(y0,y1,y2,_)=> [(8,(.one ⟨false,[.val (.int .i64 y0)]⟩)),(7,(.one ⟨false,[.val (.int .i64 y1)]⟩)),(1,(.one ⟨false,[.val (.string y2)]⟩)),(0,(.one ⟨false,[.ref 0]⟩))]
def Pl:cR→List (Nat×Entry)
 |(_,_,_,y3)=> [(0,(.row false 9 aih y3))]
def Pq:Nat→cR→List (Nat×SV)
 |0,(y0,_,_,_)=> [(4,(.one ⟨false,[.val (.int .i64 y0)]⟩))]
 |_,(_,_,_,_)=> []
def Pp:Nat→cR→List (Nat×Entry)
 |0,(_,_,_,y3)=> [(0,(.row false 9 aih y3))]
 |_,(_,_,_,y3)=> [(0,(.row false 9 aih y3))]
def mz:cR→LT cR
 |(y0,y1,y2,y3)=> .ite (nK y0 y1) (.need [nL y0,nM y0 y3,nN y0 y3] (.ite (nO y0 y2 y3) (.ext 0 [(0,0)]) (.nrm ((nP y0),y1,y2,y3) [(0,0)]))) (.ext 1 [(0,0)])
def wk(s:St):Option cR:=
 (match s.look 8 with
 |some ⟨none,.one ⟨false,[.val (.int .i64 y0)]⟩⟩=>
 (match s.look 7 with
 |some ⟨none,.one ⟨false,[.val (.int .i64 y1)]⟩⟩=>
 (match s.look 1 with
 |some ⟨none,.one ⟨false,[.val (.string y2)]⟩⟩=>
 (match s.look 0 with
 |some ⟨none,.one ⟨false,[.ref 0]⟩⟩=>
 (match s.ent 0 with
 |some (.row false 9 (.str) y3)=>
 some (y0,y1,y2,y3)
 |_=>none)
 |_=>none)
 |_=>none)
 |_=>none)
 |_=>none)
def aT:Lp cR where
 h:=⟨[9,10,5,11,12,13,14,15,16,17,4,18,8],[0],[],[]⟩
 JL:=Pm
 JE:=Pl
 XL:=Pq
 XE:=Pp
 q:=fun j=>match j with | 0=> .ret | _=> .exit 0
 tags:= [0,1]
 lt:=mz
 fuel:=fun(y0,y1,y2,y3)=>y0.natAbs + y1.natAbs + y2.size + y3.length
 fix:=fun(_,y1,y2,y3) (y0,_,_,_)=>(y0,y1,y2,y3)
 σ:= [(0,0)]
 rd:=wk
theorem NM:LoopOk prog (fun k=>Nat.blt k Tryz.f120.ntmps) aT.F (aL f120 0):=by
 refine Lp.ok (tbl:= []) (lf:= []) aN aT (by kernel_rfl) (LOk.nil _) (fun _=>rfl) (fun j _=>by unfold aT;match j with | 0=>rfl | _ + 1=>rfl) ?_ ?_ ?_ ?_ (fun _=>rfl) ?_
 ·rintro⟨y0,y1,y2,y3⟩;kernel_rfl
 ·rintro⟨y0,y1,y2,y3⟩;kernel_rfl
 ·intro s x h
  have h:wk s=some x:=h
  unfold wk at h
  repeat' split at h
  all_goals cases h
  exact⟨aa (by assumption) rfl (aa (by assumption) rfl (aa (by assumption) rfl (aa (by assumption) rfl (rfl)))),ab rfl (by assumption) rfl (rfl)⟩
 ·rintro⟨y0,y1,y2,y3⟩;kernel_rfl
 ·rintro⟨y0,y1,y2,y3⟩ z;exact(And.intro (And.intro trivial rfl) trivial)
section
variable (x0:ByteArray)(x1:List ByteArray)
def pf:Int×Int×ByteArray×List ByteArray:=((0:Int),(↑x1.length:Int),x0,x1)
def pS:Int:=bif Nat.beq ((Lp.res aT (pf x0 x1)).1) (0:Nat)then ((Lp.res aT (pf x0 x1)).2).1else(-1:Int)
def pT:Bool:=allT [Lp.fin aT (pf x0 x1)]
end
def Iu:List SV→List Entry→Option Out
 | [.one ⟨false,[.ref 0]⟩,.one ⟨false,[.val (.string x0)]⟩],[.row false 9 (.str) x1]=>some ⟨.one ⟨false,[.val (.int .i64 (pS x0 x1))]⟩,[.row false 9 aih x1],[],[pT x0 x1]⟩
 |_,_=>none
def uc:PF prog:=PF.ofG prog [] [aT.F] aN 120 f120 func120 (LOk.fnT (l:= [aL f120 0]) (by kernel_rfl) (.cons NM (.nil _))) Iu (by
 intro vs es r h;unfold Iu at h;split at h
 ·cases h;kernel_rfl
 ·cases h)
def ij(x0:ByteArray)(x1:List ByteArray):Bool:=leI (0:Int) (pS x0 x1)
def kk(x0:ByteArray)(x1:List ByteArray):Bool:=allT [pT x0 x1]
def Fz:List SV→List Entry→Option Out
 | [.one ⟨false,[.ref 0]⟩,.one ⟨false,[.val (.string x0)]⟩],[.row false 9 (.str) x1]=>some ⟨.one ⟨false,[.val (.bool (ij x0 x1))]⟩,[.row false 9 aih x1],[],[kk x0 x1]⟩
 |_,_=>none
def cS:PF prog:=PF.ofG prog [uc,PF.lend uc,PF.fz uc] [] aN 234 f234 func234 (fun c _=>LOk.nil c) Fz (by
 intro vs es r h;unfold Fz at h;split at h
 ·cases h;kernel_rfl
 ·cases h)
def QH(x0:ByteArray):Bool:=ij x0 (List.drop (Int.toNat (0:Int)) (List.take (Int.toNat (↑(List.length abG):Int)) abG))
def QI(x0:ByteArray):Bool:=allT [kk x0 (List.drop (Int.toNat (0:Int)) (List.take (Int.toNat (↑(List.length abG):Int)) abG))]
def Wd:List SV→List Entry→Option Out
 | [.one ⟨false,[.val (.string x0)]⟩],[]=>some ⟨.one ⟨false,[.val (.bool (QH x0))]⟩,[],[],[QI x0]⟩
 |_,_=>none
def ag9:PF prog:=PF.ofG prog [cS,PF.lend cS,PF.fz cS] [] aN 258 f258 func258 (fun c _=>LOk.nil c) Wd (by
 intro vs es r h;unfold Wd at h;split at h
 ·cases h;kernel_rfl
 ·cases h)
theorem Lp.scan{X:Type}(p:Lp X)(st:Nat→X)(N:Nat)(P:Nat→Bool)(e:Nat)(hN:N≤p.fuel (st 0))
  (hs: ∀ b,b < N→(p.lt (st b)).nds=true∧(p.lt (st b)).each (fun y=>y=st (b + 1))∧(p.lt (st b)).fn (fun _=>())=(bif P b then .inl 0 else .inr ()))
  (he:(p.lt (st N)).out=some (.inl e)):p.fin (st 0)=true∧(p.res (st 0)).1=bif(List.range N).any P then 0 else e:=by
 have jb:=p.along (fun i (_:Unit)=>st i) (fun _=>()) (fun(b:Nat) (_:Unit)=>bif P b then .inl 0 else .inr ()) e (fun _ _=>True) (List.range N) () trivial (by rw [List.length_range];exact hN)
  (fun i b a hb _=>by
   obtain⟨rfl,eB⟩:=np hb
   obtain⟨h1,h2,h3⟩:=hs b eB
   exact⟨h1,h2,h3,fun _ _=>trivial⟩) (fun a _=>by rw [List.length_range];exact he)
 rw [iH (P:=P) (j:=0) (fun b=>rfl)]at jb
 exact⟨jb.1,by rw [jb.2]⟩
def bAt(s:ByteArray)(b:Nat):Int:=((s[b]?.getD 0).toNat:Int)
def amC(c:Int):Bool:=inR c 97 122
def Zy(c:Int):Bool:=amC c||(inR c 48 57||c==95)
def SR(s:ByteArray):Bool:=inR (s.size:Int) 1 12&&(amC (bAt s 0)&&(List.range s.size).all fun b=>Zy (bAt s b))
def anR(s:ByteArray):Bool:=abG.any fun k=>k.toList==s.toList
def mM(s:ByteArray):Bool:=SR s&& !anR s
def arc:ByteArray:=⟨#[97,98,99,100,101,102,103,104,105,106,107,108,109,110,111,112,113,114,115,116,117,118,119,120,121,122]⟩
def wbS:ByteArray:=⟨#[97,98,99,100,101,102,103,104,105,106,107,108,109,110,111,112,113,114,115,116,117,118,119,120,121,122,48,49,50,51,52,53,54,55,56,57,95]⟩
theorem aqr: ∀ n:Nat,n < 256→leI 0 (ibs arc (n:Int))=amC (n:Int):=by decide +kernel
theorem arD: ∀ n:Nat,n < 256→leI 0 (ibs wbS (n:Int))=Zy (n:Int):=by decide +kernel
theorem ard(s:ByteArray)(b:Nat):leI 0 (ibs arc (bAt s b))=amC (bAt s b):=aqr _ (UInt8.toNat_lt _)
theorem arR(s:ByteArray)(b:Nat):leI 0 (ibs wbS (bAt s b))=Zy (bAt s b):=arD _ (UInt8.toNat_lt _)
theorem apq(c:Int):Nv c=Zy c:=by
 simp only [Nv,GO,Ss,VP,Zy,amC]
 cases inR c 97 122 <;> cases inR c 48 57 <;> rfl
theorem aot(s:ByteArray)(hn:s.size≤9223372036854775807):
  gB.fin ((0:Int),s)=true∧(gB.res ((0:Int),s)).1=bif(List.range s.size).any (fun b=> !Zy (bAt s b))then 0 else 1:=by
 refine Lp.scan gB (fun b=>((b:Int),s)) s.size (fun b=> !Zy (bAt s b)) 1 (by simp only [gB];omega) (fun b hb=> ?_) ?_
 ·have bM:ltI (b:Int) (s.size:Int)=true:=dO (by omega)
  have hw:IntKind.i64.wrap ((b:Int) + 1)=((b + 1:Nat):Int):=by rw [aR (by omega) (by omega)];omega
  have vC:leI (0:Int) (b:Int)=true:=bw (by omega)
  have i2:Qb (b:Int) s= !Zy (bAt s b):=by simp only [Qb,apq,Int.toNat_natCast,bAt]
  refine⟨?_,?_,?_⟩
  ·simp [gB,CV,LT.nds,allT,Fb,Vp,bM,vC]
  ·simp [gB,CV,LT.each,Vq,hw]
  ·simp only [gB,CV,LT.fn,Fb,bM,i2,cond_true]
 ·simp [gB,CV,LT.out,Fb]
theorem am6(s:ByteArray)(h:leN s.size 9223372036854775807=true):Un s=SR s∧Uo s=true:=by
 obtain⟨w1,w2⟩:=aot s (fX.1 h)
 have e5:((List.range s.size).any fun b=> !Zy (bAt s b))= !(List.range s.size).all fun b=>Zy (bAt s b):=by simp [List.all_eq_not_any_not]
 rw [e5]at w2
 have eb:((UInt8.toNat (Option.getD s[Int.toNat (0:Int)]? (0:UInt8)):Nat):Int)=bAt s 0:=rfl
 have h0:leI 0 0=true:=rfl
 simp only [Un,Uo,Nw,Nx,w1,w2,eb,h0,GO,bx,VP,SR,amC,allT,Bool.or_true,cond_true]
 cases hr:inR (s.size:Int) 1 12 with
 |false=>cases (List.range s.size).all fun b=>Zy (bAt s b) <;> simp [Nat.beq]
 |true=>
  have:=FL.1 hr
  rw [dO (by omega)]
  cases inR (bAt s 0) 97 122 <;> cases (List.range s.size).all fun b=>Zy (bAt s b) <;> simp [Nat.beq]
theorem arQ(s:ByteArray)(hn:s.size≤9223372036854775806):
  kh.fin ((0:Int),(0:Int),s,wbS)=true∧((kh.res ((0:Int),(0:Int),s,wbS)).2.2.1==(s.size:Int))=(List.range s.size).all fun b=>Zy (bAt s b):=by
 have hz: ∀ i:Nat,i≤s.size→IntKind.i64.wrap ((0:Int) + (i:Int))=(i:Int):=fun i hi=>by rw [aR (by omega) (by omega)];omega
 have jb:=kh.along (fun i (_:Unit)=>((0:Int),(i:Int),s,wbS)) (fun _=>()) (fun(b:Nat) (_:Unit)=>bif !Zy (bAt s b)then .inl 0 else .inr ()) 0 (fun _ _=>True) (List.range s.size) () trivial (by simp only [kh,List.length_range];omega)
  (fun i b a hb _=>by
   obtain⟨rfl,eB⟩:=np hb
   have bM:ltI (b:Int) (s.size:Int)=true:=dO (by omega)
   have vC:leI (0:Int) (b:Int)=true:=bw (by omega)
   have hw:IntKind.i64.wrap ((b:Int) + 1)=((b + 1:Nat):Int):=by rw [aR (by omega) (by omega)];omega
   have ha:yI 0 (b:Int) s=true:=by simp only [yI,hz b (by omega),bM]
   have hb2:Rz 0 (b:Int) s wbS=Zy (bAt s b):=by
    simp only [Rz,ha,cond_true,hz b (by omega),Int.toNat_natCast,Ge,vS]
    exact arR s b
   refine⟨?_,?_,?_,fun _ _=>trivial⟩
   ·have hz2:=hz b (by omega)
    rw [Int.zero_add]at hz2
    simp [kh,KN,LT.nds,allT,VN,VO,ha,hz2]
   ·simp [kh,KN,LT.each,adk,hw]
   ·simp only [kh,KN,LT.fn,hb2]
    cases Zy (bAt s b) <;> rfl)
  (fun a _=>by
   have bM:ltI (s.size:Int) (s.size:Int)=false:=by simp
   have ha:yI 0 (s.size:Int) s=false:=by simp only [yI,hz s.size (by omega),bM]
   rw [List.length_range]
   simp [kh,KN,LT.out,Rz,VN,VO,allT,ha])
 rw [iH (P:=fun b=> !Zy (bAt s b)) (j:=0) (fun b=>rfl)]at jb
 refine⟨jb.1,?_⟩
 have k2:kh.res ((0:Int),(0:Int),s,wbS)=_:=jb.2
 rw [k2]
 simp only [Nat.zero_add]
 rw [Bool.eq_iff_iff,beq_iff_eq,List.all_eq_true]
 have hl: ∀ (l:List Nat) (P:Nat→Bool),(l.takeWhile P).length=l.length↔ ∀ x∈l,P x=true:=by
  intro l P
  induction l with
  |nil=>simp
  |cons a r ih=>
   rw [List.takeWhile_cons]
   cases h:P a with
   |false=>simp [h]
   |true=>simp [h,ih]
 have h2:=hl (List.range s.size) (fun b=> !!Zy (bAt s b))
 rw [List.length_range]at h2
 constructor
 ·intro h x hx;have:=h2.1 (by exact_mod_cast h) x hx;simpa using this
 ·intro h;exact_mod_cast h2.2 (fun x hx=>by simpa using h x hx)
theorem amy(s:ByteArray):VL s=SR s∧VM s=true:=by
 have eb:((UInt8.toNat (Option.getD s[Int.toNat (0:Int)]? (0:UInt8)):Nat):Int)=bAt s 0:=rfl
 have e0:yH s=inR (s.size:Int) 1 12:=by simp only [yH,tS,VP]
 have e1:GA s=(inR (s.size:Int) 1 12&&amC (bAt s 0)):=by
  have:GA s=bif yH s then leI 0 (ibs arc (bAt s 0))else false:=rfl
  rw [this,e0,ard]
  cases inR (s.size:Int) 1 12 <;> rfl
 have e2:VL s=bif GA s then(kh.res ((0:Int),(0:Int),s,wbS)).2.2.1==(s.size:Int)else false:=rfl
 have e3:VM s=allT [!(yH s&&true)||leI (0) (0),!(yH s&&true)||ltI (0) (↑(ByteArray.size s)),!(GA s&&true)||allT [kh.fin ((0:Int),(0:Int),s,wbS)]]:=rfl
 have h0:leI 0 0=true:=rfl
 rw [e2,e3,e1,e0,h0]
 cases hr:inR (s.size:Int) 1 12 with
 |false=>simp [SR,hr,allT]
 |true=>
  have:=FL.1 hr
  obtain⟨w1,w2⟩:=arQ s (by omega)
  rw [w1,w2,dO (by omega)]
  simp only [SR,hr,allT,Bool.true_and,Bool.and_true,Bool.or_true,cond_true]
  cases amC (bAt s 0) <;> simp
def yG(y1 b:ByteArray):(Unit)→Nat ⊕ (Unit)
 |_=>(bif(ByteArray.toList (b)==ByteArray.toList y1)then(.inl 0)else(.inr ()))
def nW(y1:ByteArray)(y2:List ByteArray)(i:Nat):(Unit)→kt
 |_=>((i:Int),y1,y2)
def Jm:kt→Unit
 |(_,_,_)=>()
theorem abI(y1:ByteArray)(y2:List ByteArray) (hn:y2.length≤9223372036854775807):
  dh.fin ((0:Int),y1,y2)=true∧dh.res ((0:Int),y1,y2)=((af (yG y1) 1 y2 0 ()).1,(nW y1 y2) (af (yG y1) 1 y2 0 ()).2.1 (af (yG y1) 1 y2 0 ()).2.2):=by
 have jb:=dh.along (nW y1 y2) Jm (yG y1) 1 (fun _ _=>True) y2 () (by trivial) (by simp only [dh,nW];omega) (fun i b a hb hI=> ?_) (fun a hI=> ?_)
 ·exact jb
 ·obtain⟨⟩:=a
  have eB:=(List.getElem?_eq_some_iff.1 hb).1
  have il: ∀ d,Option.getD y2[i]? d=b:=fun d=>by rw [hb];rfl
  have hw:=tZ eB hn
  have bM:ltI (i:Int) (y2.length:Int)=true:=dO (by omega)
  have vC:leI (0:Int) (i:Int)=true:=bw (by omega)
  have gI:ltN i y2.length=true:=fQ eB
  refine⟨?_,?_,?_,?_⟩
  ·simp [vm,zq,zs,zt,zu,xz,dh,LT.nds,allT,nW,bM,vC,gI,il]
  ·simp [vm,zq,zs,zt,zu,xz,dh,LT.each,nW,Jm,hw]
  ·simp only [vm,zq,zs,zt,zu,xz,dh,LT.fn,nW,Jm,yG,Int.toNat_natCast,bM,vC,gI,il,cond_true,Bool.cond_self]
  ·exact fun _ _=>trivial
 ·obtain⟨⟩:=a
  simp [vm,zq,zs,zt,zu,xz,dh,LT.out,nW]
def nJ(y2 b:ByteArray):(Unit)→Nat ⊕ (Unit)
 |_=>(bif(ByteArray.toList y2==ByteArray.toList b)then(.inl 0)else(.inr ()))
def dr(y2:ByteArray)(y3:List ByteArray)(i:Nat):(Unit)→cR
 |_=>((i:Int),(↑y3.length:Int),y2,y3)
def wj:cR→Unit
 |(_,_,_,_)=>()
theorem FC(y2:ByteArray)(y3:List ByteArray) (hn:y3.length≤9223372036854775807):
  aT.fin ((0:Int),(↑y3.length:Int),y2,y3)=true∧aT.res ((0:Int),(↑y3.length:Int),y2,y3)=((af (nJ y2) 1 y3 0 ()).1,(dr y2 y3) (af (nJ y2) 1 y3 0 ()).2.1 (af (nJ y2) 1 y3 0 ()).2.2):=by
 have jb:=aT.along (dr y2 y3) wj (nJ y2) 1 (fun _ _=>True) y3 () (by trivial) (by simp only [aT,dr];omega) (fun i b a hb hI=> ?_) (fun a hI=> ?_)
 ·exact jb
 ·obtain⟨⟩:=a
  have eB:=(List.getElem?_eq_some_iff.1 hb).1
  have il: ∀ d,Option.getD y3[i]? d=b:=fun d=>by rw [hb];rfl
  have hw:=tZ eB hn
  have bM:ltI (i:Int) (y3.length:Int)=true:=dO (by omega)
  have vC:leI (0:Int) (i:Int)=true:=bw (by omega)
  have gI:ltN i y3.length=true:=fQ eB
  refine⟨?_,?_,?_,?_⟩
  ·simp [nK,nL,nM,nN,nO,nP,mz,aT,LT.nds,allT,dr,bM,vC,gI,il]
  ·simp [nK,nL,nM,nN,nO,nP,mz,aT,LT.each,dr,wj,hw]
  ·simp only [nK,nL,nM,nN,nO,nP,mz,aT,LT.fn,dr,wj,nJ,Int.toNat_natCast,bM,vC,gI,il,cond_true,Bool.cond_self]
  ·exact fun _ _=>trivial
 ·obtain⟨⟩:=a
  simp [nK,nL,nM,nN,nO,nP,mz,aT,LT.out,dr]
theorem aq8:abG.length≤9223372036854775807:=by decide
theorem ajQ(s:ByteArray):ltI (Kf s) 0= !anR s∧Kg s=true:=by
 have e0:Ol=abG:=rfl
 obtain⟨w1,w2⟩:=abI s abG aq8
 rw [iH (P:=fun k=>k.toList==s.toList) (j:=0) (fun k=>rfl)]at w2
 simp only [Kf,Kg,Ig,e0,w1,w2,allT,anR,nW]
 cases abG.any fun k=>k.toList==s.toList with
 |false=>exact⟨rfl,rfl⟩
 |true=>
  simp only [cond_true,Nat.beq]
  refine⟨?_,trivial⟩
  exact vW.2 (by omega)
theorem anO(s:ByteArray):QH s=anR s∧QI s=true:=by
 have e0:List.drop (Int.toNat (0)) (List.take (Int.toNat (↑(List.length abG))) abG)=abG:=rfl
 obtain⟨w1,w2⟩:=FC s abG aq8
 rw [iH (P:=fun k=>s.toList==k.toList) (j:=0) (fun k=>rfl)]at w2
 have e1:(fun k:ByteArray=>s.toList==k.toList)=fun k=>k.toList==s.toList:=funext fun k=>BEq.comm
 rw [e1]at w2
 simp only [QH,QI,e0,ij,kk,pS,pT,pf,w1,w2,allT,anR,dr]
 cases abG.any fun k=>k.toList==s.toList with
 |false=>exact⟨rfl,rfl⟩
 |true=>
  simp only [cond_true,Nat.beq]
  rw [bw (by omega)];simp
def aaD:List SV→List Entry→Option Out
 | [.one ⟨false,[.val (.string x0)]⟩],[]=>some ⟨.one ⟨false,[.val (.bool (SR x0))]⟩,[],[],[leN x0.size 9223372036854775807]⟩
 |_,_=>none
def ajt:PF prog:=PF.alt ajE aaD (by
 intro args es o h cB;unfold aaD at h;split at h
 ·rename_i x0
  cases h
  have cB:=mq cB
  have hh:=am6 x0 cB
  obtain⟨e0,en⟩:=hh
  exact rg rfl (lJ en) (by simp only [e0] <;> rfl) rfl rfl
 ·cases h)
def adb:List SV→List Entry→Option Out
 | [.one ⟨false,[.val (.string x0)]⟩],[]=>some ⟨.one ⟨false,[.val (.bool (SR x0))]⟩,[],[],[]⟩
 |_,_=>none
def akn:PF prog:=PF.alt akp adb (by
 intro args es o h cB;unfold adb at h;split at h
 ·rename_i x0
  cases h
  have hh:=amy x0
  obtain⟨e0,en⟩:=hh
  exact rg rfl (lJ en) (by simp only [e0] <;> rfl) rfl rfl
 ·cases h)
def Wz:List SV→List Entry→Option Out
 | [.one ⟨false,[.val (.string x0)]⟩],[]=>some ⟨.one ⟨false,[.val (.bool (anR x0))]⟩,[],[],[]⟩
 |_,_=>none
def ag1:PF prog:=PF.alt ag9 Wz (by
 intro args es o h cB;unfold Wz at h;split at h
 ·rename_i x0
  cases h
  have hh:=anO x0
  obtain⟨e0,en⟩:=hh
  exact rg rfl (lJ en) (by simp only [e0] <;> rfl) rfl rfl
 ·cases h)
def mH(x0:ByteArray):Bool:=bif SR x0 then ltI (Kf x0) (0:Int)else false
def tY(x0:ByteArray):Bool:=allT [leN (ByteArray.size x0) (9223372036854775807:Nat),!(SR x0&&true)||Kg x0]
def ZW:List SV→List Entry→Option Out
 | [.one ⟨false,[.val (.string x0)]⟩],[]=>some ⟨.one ⟨false,[.val (.bool (mH x0))]⟩,[],[],[tY x0]⟩
 |_,_=>none
def KQ:PF prog:=PF.ofG prog [ajt,af9] [] aN 239 f239 func239 (fun c _=>LOk.nil c) ZW (by
 intro vs es r h;unfold ZW at h;split at h
 ·cases h;kernel_rfl
 ·cases h)
def Rp(x0:Int):Bool:=bif bif bif x0==(7:Int)then true else x0==(8:Int)then true else x0==(11:Int)then true else x0==(12:Int)
def Wv:List SV→List Entry→Option Out
 | [.one ⟨false,[.val (.int .i64 x0)]⟩],[]=>some ⟨.one ⟨false,[.val (.bool (Rp x0))]⟩,[],[],[]⟩
 |_,_=>none
def ahj:PF prog:=PF.ofG prog [] [] aN 251 f251 func251 (fun c _=>LOk.nil c) Wv (by
 intro vs es r h;unfold Wv at h;split at h
 ·cases h;kernel_rfl
 ·cases h)
def Up(x0:Int):Bool:=bx x0 (1:Int) (12:Int)
def ZV:List SV→List Entry→Option Out
 | [.one ⟨false,[.val (.int .i64 x0)]⟩],[]=>some ⟨.one ⟨false,[.val (.bool (Up x0))]⟩,[],[],[]⟩
 |_,_=>none
def ajF:PF prog:=PF.ofG prog [yB] [] aN 252 f252 func252 (fun c _=>LOk.nil c) ZV (by
 intro vs es r h;unfold ZV at h;split at h
 ·cases h;kernel_rfl
 ·cases h)
def Sw(x0 x2:Int):Bool:=bif bif !Up x0 then true else !bx x2 (0:Int) (9999:Int)then true else bif !Rp x0 then x2 !=(0:Int)else false
def Lj(x0:Int)(x1:ByteArray)(x2:Int):Bool:=
 bif Sw x0 x2 then false else bif x0==(1:Int)then mH x1 else ByteArray.toList x1==ByteArray.toList { data:= #[] }
def Lk(x0:Int)(x1:ByteArray)(x2:Int):Bool:=allT [Sw x0 x2||(!x0==(1:Int)||tY x1)]
def ZX:List SV→List Entry→Option Out
 | [.one ⟨true,[.val (.int .i64 x0),.val (.string x1),.val (.int .i64 x2)]⟩],[]=>some ⟨.one ⟨false,[.val (.bool (Lj x0 x1 x2))]⟩,[],[],[Lk x0 x1 x2]⟩
 |_,_=>none
def abz:PF prog:=PF.ofG prog [yB,KQ,ahj,ajF] [] aN 212 f212 func212 (fun c _=>LOk.nil c) ZX (by
 intro vs es r h;unfold ZX at h;split at h
 ·cases h;kernel_rfl
 ·cases h)
def lS(x0:ByteArray):Bool:=bif SR x0 then !anR x0 else false
def acV:List SV→List Entry→Option Out
 | [.one ⟨false,[.val (.string x0)]⟩],[]=>some ⟨.one ⟨false,[.val (.bool (lS x0))]⟩,[],[],[]⟩
 |_,_=>none
def MW:PF prog:=PF.ofG prog [akn,ag1] [] aN 225 f225 func225 (fun c _=>LOk.nil c) acV (by
 intro vs es r h;unfold acV at h;split at h
 ·cases h;kernel_rfl
 ·cases h)
def Pw(x0:Int):Bool:=bif bif bif x0==(7:Int)then true else x0==(8:Int)then true else x0==(11:Int)then true else x0==(12:Int)
def UR:List SV→List Entry→Option Out
 | [.one ⟨false,[.val (.int .i64 x0)]⟩],[]=>some ⟨.one ⟨false,[.val (.bool (Pw x0))]⟩,[],[],[]⟩
 |_,_=>none
def af6:PF prog:=PF.ofG prog [] [] aN 253 f253 func253 (fun c _=>LOk.nil c) UR (by
 intro vs es r h;unfold UR at h;split at h
 ·cases h;kernel_rfl
 ·cases h)
def MO(x0:Int)(x1:ByteArray)(x2:Int):Bool:=
 bif bif !tS x0 (1:Int) (12:Int)then true else !(x0==(1:Int))== !ByteArray.toList x1==ByteArray.toList { data:= #[] } then
 false
 else
 bif Pw x0 then tS x2 (0:Int) (9999:Int)
 else bif x2==(0:Int)then bif x0 !=(1:Int)then true else lS x1 else false
def acW:List SV→List Entry→Option Out
 | [.one ⟨true,[.val (.int .i64 x0),.val (.string x1),.val (.int .i64 x2)]⟩],[]=>some ⟨.one ⟨false,[.val (.bool (MO x0 x1 x2))]⟩,[],[],[]⟩
 |_,_=>none
def adr:PF prog:=PF.ofG prog [VY,MW,af6] [] aN 215 f215 func215 (fun c _=>LOk.nil c) acW (by
 intro vs es r h;unfold acW at h;split at h
 ·cases h;kernel_rfl
 ·cases h)
def zS(x0 x2 x3 x4 x5:Int):Bool:=bif bif x0==(7:Int)then x0==(7:Int)else x0==(8:Int)then bif bif tS x3 (0:Int) x2 then x4==(0:Int)else false then x5==(0:Int)else false else bif x0==(11:Int)then bif bif tS x3 (0:Int) x2 then tS x4 (0:Int) (1:Int)else false then x5==(0:Int)else false else bif x0==(12:Int)then bif x4==(0:Int)then bif bif tS x3 (0:Int) x2 then x5==(0:Int)else false then true else bif x3==IntKind.wrap .i64 (x2 + (1:Int))then x5==(1:Int)else false else false else bif bif tS x3 (0:Int) (1:Int)then x4==(0:Int)else false then x5==(0:Int)else false
def US:List SV→List Entry→Option Out
 | [.one ⟨true,[.val (.int .i64 x0),.val (.string _x1),.val (.int .i64 x2)]⟩,.one ⟨true,[.val (.int .i64 x3),.val (.int .i64 x4),.val (.int .i64 x5)]⟩],[]=>some ⟨.one ⟨false,[.val (.bool (zS x0 x2 x3 x4 x5))]⟩,[],[],[]⟩
 |_,_=>none
def Vk:PF prog:=PF.ofG prog [VY] [] aN 185 f185 func185 (fun c _=>LOk.nil c) US (by
 intro vs es r h;unfold US at h;split at h
 ·cases h;kernel_rfl
 ·cases h)
def dB(x0 x2 x3 x4 x5:Int):Bool:=bif bif x0==(9:Int)then x0==(9:Int)else x0==(10:Int)then bif bif bx x3 (0:Int) (1:Int)then x4==(0:Int)else false then x5==(0:Int)else false else bif x0==(11:Int)then bif bif bx x3 (0:Int) x2 then bx x4 (0:Int) (1:Int)else false then x5==(0:Int)else false else bif x0==(12:Int)then bif x4==(0:Int)then bif bif bx x3 (0:Int) x2 then x5==(0:Int)else false then true else bif x3==IntKind.wrap .i64 (x2 + (1:Int))then x5==(1:Int)else false else false else bif bif bx x3 (0:Int) x2 then x4==(0:Int)else false then x5==(0:Int)else false
def alk(k:Int):Bool:=k==7||(k==8||(k==11||k==12))
def termB(k:Int)(s:ByteArray)(n:Int):Bool:=inR k 1 12&&(inR n 0 9999&&((alk k||n==0)&&(bif k==1 then mM s else s.toList== [])))
def VF(k:Int)(s:ByteArray)(n:Int):Bool:=termB k s n&&leI 7 k
def possB(k n a b c:Int):Bool:=dB k n a b c
theorem OP:ByteArray.toList { data:= #[] } = []:=by rw [Go.Lib.toList_data]
theorem aqI{s:ByteArray}(h:mM s=true):(s.toList== [])=false:=by
 simp only [mM,SR,Bool.and_eq_true,FL]at h
 have h1:s.size=s.toList.length:=by rw [Go.Lib.size_eq,Go.Lib.toList_data]
 cases hs:s.toList with
 |nil=>
  rw [hs]at h1
  have h2:s.size=0:=h1
  omega
 |cons a l=>rfl
theorem aq9{n:Int}(h:(n==0)=true):inR n 0 9999=true:=by
 have:n=0:=by simpa using h
 rw [this];rfl
theorem ah3(k:Int)(s:ByteArray)(n:Int)(h:leN s.size 9223372036854775807=true):Lj k s n=termB k s n∧Lk k s n=true:=by
 obtain⟨e1,e2⟩:=ajQ s
 have e3:mH s=mM s:=by simp only [mH,e1,mM];cases SR s <;> rfl
 have e4:tY s=true:=by simp only [tY,e2,h,allT,Bool.or_true,cond_true]
 simp only [Lj,Lk,Sw,e3,e4,Up,bx,VP,OP,Rp,termB,alk,allT,Bool.or_true,cond_true]
 refine⟨?_,trivial⟩
 simp only [bne]
 generalize (bif k==1 then mM s else s.toList== [])=q
 generalize inR k 1 12=q1
 generalize inR n 0 9999=q2
 generalize (k==7)=q3
 generalize (k==8)=q4
 generalize (k==11)=q5
 generalize (k==12)=q6
 generalize (n==0)=q7
 revert q q1 q2 q3 q4 q5 q6 q7
 decide
theorem amx(k:Int)(s:ByteArray)(n:Int):MO k s n=termB k s n:=by
 have e3:lS s=mM s:=by simp only [lS,mM];cases SR s <;> rfl
 simp only [MO,e3,tS,VP,OP,Pw,termB,alk]
 by_cases h1:k=1
 ·subst h1
  have z7:((1:Int)==7)=false:=rfl
  have z8:((1:Int)==8)=false:=rfl
  have z11:((1:Int)==11)=false:=rfl
  have z12:((1:Int)==12)=false:=rfl
  have z1:((1:Int)==1)=true:=rfl
  have zn:((1:Int)!=1)=false:=rfl
  have zr:inR (1:Int) 1 12=true:=rfl
  rw [z7,z8,z11,z12,z1,zn,zr]
  have hs:mM s=true→(s.toList== [])=false:=aqI
  have h0:(n==0)=true→inR n 0 9999=true:=aq9
  generalize (s.toList== [])=q at hs ⊢
  generalize (n==0)=q2 at h0 ⊢
  generalize inR n 0 9999=q3 at h0 ⊢
  generalize mM s=q4 at hs ⊢
  revert q q2 q3 q4
  decide
 ·have z1:(k==1)=false:=by simpa using h1
  have zn:(k !=1)=true:=by simpa using h1
  rw [z1,zn]
  have h0:(n==0)=true→inR n 0 9999=true:=aq9
  generalize (s.toList== [])=q
  generalize (n==0)=q2 at h0 ⊢
  generalize inR n 0 9999=q3 at h0 ⊢
  generalize inR k 1 12=q1
  generalize (k==7)=p3
  generalize (k==8)=p4
  generalize (k==11)=p5
  generalize (k==12)=p6
  generalize mM s=p7
  revert q q1 q2 q3 p3 p4 p5 p6 p7
  decide
theorem XH{k:Int}{s:ByteArray}{n:Int}(h:VF k s n=true):(7≤k∧k≤12)∧(0≤n∧n≤9999)∧(alk k=true∨n=0):=by
 simp only [VF,termB,Bool.and_eq_true,FL,EV,Bool.or_eq_true,beq_iff_eq]at h
 obtain⟨⟨h1,h2,h3,_⟩,h4⟩:=h
 exact⟨⟨h4,h1.2⟩,h2,h3⟩
theorem kinds{k:Int}(h:7≤k∧k≤12):k=7∨k=8∨k=9∨k=10∨k=11∨k=12:=by omega
theorem aqP{k n a b c:Int}(h:7≤k∧k≤12):zS k n a b c=possB k n a b c:=by
 rcases kinds h with rfl | rfl | rfl | rfl | rfl | rfl <;> rfl
theorem abB{k n a b c:Int}(h:possB k n a b c=true)(hn:0≤n∧n≤9999):(0≤a∧a≤10000)∧(b=0∨b=1)∧(c=0∨c=1):=by
 have hw:IntKind.i64.wrap (n + 1)=n + 1:=aR (by omega) (by omega)
 simp only [possB,dB,bx,VP,hw]at h
 cases h1:(bif k==9 then k==9 else k==10)with
 |true=>
  rw [h1]at h
  cases h2:inR a 0 1 <;> rw [h2]at h <;> simp at h
  have:=FL.1 h2
  omega
 |false=>
  rw [h1]at h
  cases h3:k==11 with
  |true=>
   rw [h3]at h
   cases h2:inR a 0 n <;> cases h4:inR b 0 1 <;> rw [h2]at h <;> simp [h4]at h
   have:=FL.1 h2
   have:=FL.1 h4
   omega
  |false=>
   rw [h3]at h
   cases h5:k==12 with
   |true=>
    rw [h5]at h
    cases h2:inR a 0 n <;> rw [h2]at h <;> simp at h
    ·omega
    ·have:=FL.1 h2
     omega
   |false=>
    rw [h5]at h
    cases h2:inR a 0 n <;> rw [h2]at h <;> simp at h
    have:=FL.1 h2
    omega
def TS(x1:ByteArray)(x3:Int):Int:=IntKind.wrap .i64 (x3 - (↑(ByteArray.size x1):Int))
def tT(x1:ByteArray)(x3:Int):Int:=bif ltI (TS x1 x3) (0:Int)then(-1:Int)else TS x1 x3
def ac2:List SV→List Entry→Option Out
 | [.one ⟨true,[.val (.int .i64 _x0),.val (.string x1),.val (.int .i64 _x2)]⟩,.one ⟨false,[.val (.int .i64 x3)]⟩],[]=>some ⟨.one ⟨false,[.val (.int .i64 (tT x1 x3))]⟩,[],[],[]⟩
 |_,_=>none
def adt:PF prog:=PF.ofG prog [] [] aN 152 f152 func152 (fun c _=>LOk.nil c) ac2 (by
 intro vs es r h;unfold ac2 at h;split at h
 ·cases h;kernel_rfl
 ·cases h)
def mu(x0:Int):Int:=bif bif x0==(1:Int)then x0==(1:Int)else bif x0==(2:Int)then x0==(2:Int)else x0==(3:Int)then(0:Int)else bif bif x0==(4:Int)then x0==(4:Int)else bif x0==(7:Int)then x0==(7:Int)else bif x0==(8:Int)then x0==(8:Int)else x0==(9:Int)then(1:Int)else(2:Int)
def YB:List SV→List Entry→Option Out
 | [.one ⟨false,[.val (.int .i64 x0)]⟩],[]=>some ⟨.one ⟨false,[.val (.int .i64 (mu x0))]⟩,[],[],[]⟩
 |_,_=>none
def DW:PF prog:=PF.ofG prog [] [] aN 224 f224 func224 (fun c _=>LOk.nil c) YB (by
 intro vs es r h;unfold YB at h;split at h
 ·cases h;kernel_rfl
 ·cases h)
abbrev oP:=Int×List Int
section
variable (y0:Int)(y1:List Int)
def Ao:Bool:=ltI y0 (↑y1.length:Int)
def Fk:Bool:=leI (0:Int) y0
def Fl:Bool:=ltN y0.toNat y1.length
def Fm:Bool:= !bx (Option.getD y1[Int.toNat y0]? (0:Int)) (0:Int) (1:Int)
def Fo:Int:=IntKind.wrap .i64 (y0 + (1:Int))
end
def adU:oP→List (Nat×SV)
 |(y0,_)=> [(5,(.one ⟨false,[.val (.int .i64 y0)]⟩)),(0,(.one ⟨false,[.ref 0]⟩))]
def adK:oP→List (Nat×Entry)
 |(_,y1)=> [(0,(.row false 2 agR y1))]
def aee:Nat→oP→List (Nat×SV)
 |0,(_,_)=> [(4,(.one ⟨false,[.val (.bool false)]⟩))]
 |_,(_,_)=> []
def ad4:Nat→oP→List (Nat×Entry)
 |0,(_,y1)=> [(0,(.row false 2 agR y1))]
 |_,(_,y1)=> [(0,(.row false 2 agR y1))]
def CX:oP→LT oP
 |(y0,y1)=> .ite (Ao y0 y1) (.need [Fk y0,Ao y0 y1,Fl y0 y1] (.ite (Fm y0 y1) (.ext 0 [(0,0)]) (.nrm ((Fo y0),y1) [(0,0)]))) (.ext 1 [(0,0)])
def Oj(s:St):Option oP:=
 (match s.look 5 with
 |some ⟨none,.one ⟨false,[.val (.int .i64 y0)]⟩⟩=>
 (match s.look 0 with
 |some ⟨none,.one ⟨false,[.ref 0]⟩⟩=>
 (match s.ent 0 with
 |some (.row false 2 (.int .i64) y1)=>
 some (y0,y1)
 |_=>none)
 |_=>none)
 |_=>none)
def gC:Lp oP where
 h:=⟨[6,7,8,9,12,13,14,15,16,17,4,10,11,5],[0],[],[]⟩
 JL:=adU
 JE:=adK
 XL:=aee
 XE:=ad4
 q:=fun j=>match j with | 0=> .ret | _=> .exit 0
 tags:= [0,1]
 lt:=CX
 fuel:=fun(y0,y1)=>y0.natAbs + y1.length
 fix:=fun(_,y1) (y0,_)=>(y0,y1)
 σ:= [(0,0)]
 rd:=Oj
theorem abs:LoopOk prog (fun k=>Nat.blt k Tryz.f88.ntmps) gC.F (aL f88 0):=by
 refine Lp.ok (tbl:= [yB]) (lf:= []) aN gC (by kernel_rfl) (LOk.nil _) (fun _=>rfl) (fun j _=>by unfold gC;match j with | 0=>rfl | _ + 1=>rfl) ?_ ?_ ?_ ?_ (fun _=>rfl) ?_
 ·rintro⟨y0,y1⟩;kernel_rfl
 ·rintro⟨y0,y1⟩;kernel_rfl
 ·intro s x h
  have h:Oj s=some x:=h
  unfold Oj at h
  repeat' split at h
  all_goals cases h
  exact⟨aa (by assumption) rfl (aa (by assumption) rfl (rfl)),ab rfl (by assumption) rfl (rfl)⟩
 ·rintro⟨y0,y1⟩;kernel_rfl
 ·rintro⟨y0,y1⟩ z;exact(And.intro (And.intro trivial rfl) trivial)
def UE(x0:Int)(x1:List Int):Bool:=bif Nat.beq ((Lp.res gC ((0:Int),x1)).1) (0:Nat)then false else(↑x1.length:Int)==x0
def UF(x1:List Int):Bool:=allT [Lp.fin gC ((0:Int),x1)]
def aac:List SV→List Entry→Option Out
 | [.one ⟨false,[.ref 0]⟩,.one ⟨false,[.val (.int .i64 x0)]⟩],[.row false 2 (.int .i64) x1]=>some ⟨.one ⟨false,[.val (.bool (UE x0 x1))]⟩,[.row false 2 agR x1],[],[UF x1]⟩
 |_,_=>none
def ajI:PF prog:=PF.ofG prog [yB] [gC.F] aN 88 f88 func88 (LOk.fnT (l:= [aL f88 0]) (by kernel_rfl) (.cons abs (.nil _))) aac (by
 intro vs es r h;unfold aac at h;split at h
 ·cases h;kernel_rfl
 ·cases h)
def iS(x0:Bool):Int:=bif x0 then(1:Int)else(0:Int)
def ac7:List SV→List Entry→Option Out
 | [.one ⟨false,[.val (.bool x0)]⟩],[]=>some ⟨.one ⟨false,[.val (.int .i64 (iS x0))]⟩,[],[],[]⟩
 |_,_=>none
def adv:PF prog:=PF.ofG prog [] [] aN 244 f244 func244 (fun c _=>LOk.nil c) ac7 (by
 intro vs es r h;unfold ac7 at h;split at h
 ·cases h;kernel_rfl
 ·cases h)
section
variable (x0 x1 x2 x3 x4 x5:Int)
def ii:Bool:=bif bif x3==(1:Int)then x4==(0:Int)else false then x5==(0:Int)else false
def iO:Bool:=(bif ii x3 x4 x5 then(0:Int)else x3)==(0:Int)
def jV:Bool:=bif iO x3 x4 x5 then x4 !=x5 else false
def la:Int:=IntKind.wrap .i64 ((bif ii x3 x4 x5 then(0:Int)else x1) + (1:Int))
def lb:Int:=bif jV x3 x4 x5 then iS (ltI x0 (la x1 x3 x4 x5))else bif iO x3 x4 x5 then(0:Int)else bif ii x3 x4 x5 then(0:Int)else x3
def mI:Int:=iS (bif bif x4==(1:Int)then x5==(1:Int)else false then lb x0 x1 x3 x4 x5==(0:Int)else false)
def mJ:Int:=bif jV x3 x4 x5 then la x1 x3 x4 x5 else bif iO x3 x4 x5 then(0:Int)else bif ii x3 x4 x5 then(0:Int)else x1
def mK:Int:=bif jV x3 x4 x5 then(0:Int)else bif iO x3 x4 x5 then(0:Int)else bif ii x3 x4 x5 then(0:Int)else x2
def mL:Int:=lb x0 x1 x3 x4 x5
end
def ZY:List SV→List Entry→Option Out
 | [.one ⟨false,[.val (.int .i64 x0)]⟩,.one ⟨true,[.val (.int .i64 x1),.val (.int .i64 x2),.val (.int .i64 x3)]⟩,.one ⟨false,[.val (.int .i64 x4)]⟩,.one ⟨false,[.val (.int .i64 x5)]⟩],[]=>some ⟨.tup [⟨false,[.val (.int .i64 (mI x0 x1 x3 x4 x5))]⟩,⟨true,[.val (.int .i64 (mJ x1 x3 x4 x5)),.val (.int .i64 (mK x2 x3 x4 x5)),.val (.int .i64 (mL x0 x1 x3 x4 x5))]⟩],[],[],[]⟩
 |_,_=>none
def ajG:PF prog:=PF.ofG prog [adv] [] aN 245 f245 func245 (fun c _=>LOk.nil c) ZY (by
 intro vs es r h;unfold ZY at h;split at h
 ·cases h;kernel_rfl
 ·cases h)
section
variable (x0 x2 x3 x4 x5:Int)(x6:List Int)
def ck:Int:=Option.getD x6[Int.toNat (0:Int)]? (0:Int)
def iP:Int:=IntKind.wrap .i64 (x3 + (1:Int))
def lc:Int:=IntKind.wrap .i64 (agS (iP x3) x2 (iP x3) x2 * ck x6)
def fC:Int:=bif ltI (1:Int) (↑x6.length:Int)then Option.getD x6[Int.toNat (1:Int)]? (0:Int)else(0:Int)
def ld:Int:=bif fC x6==(1:Int)then(0:Int)else bif ck x6==(1:Int)then(1:Int)else x3
def le:Int:=bif fC x6==(1:Int)then(0:Int)else bif bif ck x6==(1:Int)then x4==(0:Int)else false then agS (iP x3) x2 (iP x3) x2 else x3
def lg:Int:=IntKind.wrap .i64 (x3 - (1:Int))
def lh:Int:=bif ck x6==(1:Int)then(0:Int)else(0:Int)
def jW:Bool:= !ltI (1:Int) (↑x6.length:Int)
def gG:Int:=bif x0==(7:Int)then iS (bif ck x6==(1:Int)then lc x2 x3 x6==x2 else false)else bif x0==(8:Int)then bif ck x6==(1:Int)then(1:Int)else iS (ltI (0:Int) x3)else bif x0==(9:Int)then iS (bif ck x6==(1:Int)then x3==(0:Int)else false)else bif x0==(10:Int)then ld x3 x6 else bif x0==(11:Int)then iS (le x2 x3 x4 x6==x2)else mI x2 x3 x5 (ck x6) (fC x6)
def iy:Int:=bif x0==(7:Int)then lc x2 x3 x6 else bif x0==(8:Int)then bif ck x6==(1:Int)then x2 else agS (0:Int) (lg x3) (lg x3) (0:Int)else bif x0==(9:Int)then ck x6 else bif x0==(10:Int)then ld x3 x6 else bif x0==(11:Int)then le x2 x3 x4 x6 else mJ x3 x5 (ck x6) (fC x6)
def iz:Int:=bif x0==(7:Int)then(0:Int)else bif x0==(8:Int)then lh x6 else bif x0==(9:Int)then(0:Int)else bif x0==(10:Int)then(0:Int)else bif x0==(11:Int)then ck x6 else mK x4 x5 (ck x6) (fC x6)
def iA:Int:=bif x0==(7:Int)then(0:Int)else bif x0==(8:Int)then lh x6 else bif x0==(9:Int)then(0:Int)else bif x0==(10:Int)then(0:Int)else bif x0==(11:Int)then(0:Int)else mL x2 x3 x5 (ck x6) (fC x6)
def kj:Bool:=allT [ltI (0:Int) (↑x6.length:Int),ltN (Int.toNat (0:Int)) x6.length,jW x6||leI (0:Int) (1:Int),jW x6||ltI (1:Int) (↑x6.length:Int),jW x6||ltN (Int.toNat (1:Int)) x6.length]
end
def ZZ:List SV→List Entry→Option Out
 | [.one ⟨true,[.val (.int .i64 x0),.val (.string _x1),.val (.int .i64 x2)]⟩,.one ⟨true,[.val (.int .i64 x3),.val (.int .i64 x4),.val (.int .i64 x5)]⟩,.one ⟨false,[.ref 0]⟩],[.row false 2 (.int .i64) x6]=>some ⟨.tup [⟨false,[.val (.int .i64 (gG x0 x2 x3 x4 x5 x6))]⟩,⟨true,[.val (.int .i64 (iy x0 x2 x3 x4 x5 x6)),.val (.int .i64 (iz x0 x4 x5 x6)),.val (.int .i64 (iA x0 x2 x3 x5 x6))]⟩],[.row false 2 agR x6],[],[kj x6]⟩
 |_,_=>none
def pN:PF prog:=PF.ofG prog [adv,ajG] [] aN 190 f190 func190 (fun c _=>LOk.nil c) ZZ (by
 intro vs es r h;unfold ZZ at h;split at h
 ·cases h;kernel_rfl
 ·cases h)
def ac4:List SV→List Entry→Option Out
 | [.one ⟨true,[.val (.int .i64 x0),.val (.string x1),.val (.int .i64 x2)]⟩],[]=>some ⟨.one ⟨true,[.val (.int .i64 x0),.val (.string x1),.val (.int .i64 x2)]⟩,[],[],[]⟩
 |_,_=>none
def adu:PF prog:=PF.ofG prog [] [] aN 156 f156 func156 (fun c _=>LOk.nil c) ac4 (by
 intro vs es r h;unfold ac4 at h;split at h
 ·cases h;kernel_rfl
 ·cases h)
def agT(x0:Int):Bool:=bif x0 !=(0:Int)then x0 !=(1:Int)else false
def Wf:List SV→List Entry→Option Out
 | [.one ⟨false,[.val (.int .i64 x0)]⟩],[]=>some ⟨.one ⟨false,[.val (.bool (agT x0))]⟩,[],[],[]⟩
 |_,_=>none
def aha:PF prog:=PF.ofG prog [] [] aN 219 f219 func219 (fun c _=>LOk.nil c) Wf (by
 intro vs es r h;unfold Wf at h;split at h
 ·cases h;kernel_rfl
 ·cases h)
def BH(x0:Int):Bool:=bif x0 !=(0:Int)then x0 !=(1:Int)else false
def Pg:List SV→List Entry→Option Out
 | [.one ⟨false,[.val (.int .i64 x0)]⟩],[]=>some ⟨.one ⟨false,[.val (.bool (BH x0))]⟩,[],[],[]⟩
 |_,_=>none
def PK:PF prog:=PF.ofG prog [] [] aN 219 f219 func219 (fun c _=>LOk.nil c) Pg (by
 intro vs es r h;unfold Pg at h;split at h
 ·cases h;kernel_rfl
 ·cases h)
abbrev bq:=Int×Int×List Int
section
variable (y0 y1:Int)(y2:List Int)
def ip:Bool:=ltI y0 y1
def iq:Bool:=leI (0:Int) y0
def ir:Bool:=ltI y0 (↑y2.length:Int)
def iu:Bool:=ltN y0.toNat y2.length
def iv:Bool:=BH (Option.getD y2[Int.toNat y0]? (0:Int))
def iw:Int:=IntKind.wrap .i64 (y0 + (1:Int))
end
def Iw:bq→List (Nat×SV)
 |(y0,y1,_)=> [(8,(.one ⟨false,[.val (.int .i64 y0)]⟩)),(7,(.one ⟨false,[.val (.int .i64 y1)]⟩)),(1,(.one ⟨false,[.val (.func (.func 219) ⟨[]⟩ ⟨[]⟩)]⟩)),(0,(.one ⟨false,[.ref 0]⟩))]
def Iv:bq→List (Nat×Entry)
 |(_,_,y2)=> [(0,(.row false 2 agR y2))]
def Iz:Nat→bq→List (Nat×SV)
 |0,(y0,_,_)=> [(4,(.one ⟨false,[.val (.int .i64 y0)]⟩))]
 |_,(_,_,_)=> []
def Iy:Nat→bq→List (Nat×Entry)
 |0,(_,_,y2)=> [(0,(.row false 2 agR y2))]
 |_,(_,_,y2)=> [(0,(.row false 2 agR y2))]
def gQ:bq→LT bq
 |(y0,y1,y2)=> .ite (ip y0 y1) (.need [iq y0,ir y0 y2,iu y0 y2] (.ite (iv y0 y2) (.ext 0 [(0,0)]) (.nrm ((iw y0),y1,y2) [(0,0)]))) (.ext 1 [(0,0)])
def pP(s:St):Option bq:=
 (match s.look 8 with
 |some ⟨none,.one ⟨false,[.val (.int .i64 y0)]⟩⟩=>
 (match s.look 7 with
 |some ⟨none,.one ⟨false,[.val (.int .i64 y1)]⟩⟩=>
 (match s.look 1 with
 |some ⟨none,.one ⟨false,[.val (.func (.func 219) ⟨[]⟩ ⟨[]⟩)]⟩⟩=>
 (match s.look 0 with
 |some ⟨none,.one ⟨false,[.ref 0]⟩⟩=>
 (match s.ent 0 with
 |some (.row false 2 (.int .i64) y2)=>
 some (y0,y1,y2)
 |_=>none)
 |_=>none)
 |_=>none)
 |_=>none)
 |_=>none)
def ao:Lp bq where
 h:=⟨[9,10,5,11,12,13,14,15,16,17,4,18,8],[0],[],[]⟩
 JL:=Iw
 JE:=Iv
 XL:=Iz
 XE:=Iy
 q:=fun j=>match j with | 0=> .ret | _=> .exit 0
 tags:= [0,1]
 lt:=gQ
 fuel:=fun(y0,y1,y2)=>y0.natAbs + y1.natAbs + y2.length
 fix:=fun(_,y1,y2) (y0,_,_)=>(y0,y1,y2)
 σ:= [(0,0)]
 rd:=pP
theorem Hs:LoopOk prog (fun k=>Nat.blt k Tryz.f255.ntmps) ao.F (aL f255 0):=by
 refine Lp.ok (tbl:= [PK]) (lf:= []) aN ao (by kernel_rfl) (LOk.nil _) (fun _=>rfl) (fun j _=>by unfold ao;match j with | 0=>rfl | _ + 1=>rfl) ?_ ?_ ?_ ?_ (fun _=>rfl) ?_
 ·rintro⟨y0,y1,y2⟩;kernel_rfl
 ·rintro⟨y0,y1,y2⟩;kernel_rfl
 ·intro s x h
  have h:pP s=some x:=h
  unfold pP at h
  repeat' split at h
  all_goals cases h
  exact⟨aa (by assumption) rfl (aa (by assumption) rfl (aa (by assumption) rfl (aa (by assumption) rfl (rfl)))),ab rfl (by assumption) rfl (rfl)⟩
 ·rintro⟨y0,y1,y2⟩;kernel_rfl
 ·rintro⟨y0,y1,y2⟩ z;exact(And.intro (And.intro trivial rfl) trivial)
section
variable (x0:List Int)
def mF:Int×Int×List Int:=((0:Int),(↑x0.length:Int),x0)
def sB:Int:=bif Nat.beq ((Lp.res ao (mF x0)).1) (0:Nat)then ((Lp.res ao (mF x0)).2).1else(-1:Int)
def sC:Bool:=allT [Lp.fin ao (mF x0)]
end
def zN:List SV→List Entry→Option Out
 | [.one ⟨false,[.ref 0]⟩,.one ⟨false,[.val (.func (.func 219) ⟨[]⟩ ⟨[]⟩)]⟩],[.row false 2 (.int .i64) x0]=>some ⟨.one ⟨false,[.val (.int .i64 (sB x0))]⟩,[.row false 2 agR x0],[],[sC x0]⟩
 |_,_=>none
def sj:PF prog:=PF.ofG prog [PK] [ao.F] aN 255 f255 func255 (LOk.fnT (l:= [aL f255 0]) (by kernel_rfl) (.cons Hs (.nil _))) zN (by
 intro vs es r h;unfold zN at h;split at h
 ·cases h;kernel_rfl
 ·cases h)
def qu(x0:List Int):Bool:=leI (0:Int) (sB x0)
def qv(x0:List Int):Bool:=allT [sC x0]
def xh:List SV→List Entry→Option Out
 | [.one ⟨false,[.ref 0]⟩,.one ⟨false,[.val (.func (.func 219) ⟨[]⟩ ⟨[]⟩)]⟩],[.row false 2 (.int .i64) x0]=>some ⟨.one ⟨false,[.val (.bool (qu x0))]⟩,[.row false 2 agR x0],[],[qv x0]⟩
 |_,_=>none
def qr:PF prog:=PF.ofG prog [sj,PF.lend sj,PF.fz sj] [] aN 218 f218 func218 (fun c _=>LOk.nil c) xh (by
 intro vs es r h;unfold xh at h;split at h
 ·cases h;kernel_rfl
 ·cases h)
def TH(x0:Int)(x1:List Int):Bool:=bif(↑x1.length:Int)==x0 then !qu x1 else false
def TI(x0:Int)(x1:List Int):Bool:=allT [!((↑x1.length:Int)==x0&&true)||qv x1]
def ZM:List SV→List Entry→Option Out
 | [.one ⟨false,[.ref 0]⟩,.one ⟨false,[.val (.int .i64 x0)]⟩],[.row false 2 (.int .i64) x1]=>some ⟨.one ⟨false,[.val (.bool (TH x0 x1))]⟩,[.row false 2 agR x1],[],[TI x0 x1]⟩
 |_,_=>none
def ajz:PF prog:=PF.ofG prog [aha,qr,PF.lend qr,PF.fz qr] [] aN 165 f165 func165 (fun c _=>LOk.nil c) ZM (by
 intro vs es r h;unfold ZM at h;split at h
 ·cases h;kernel_rfl
 ·cases h)
def oa(x0:Bool):Int:=bif x0 then(1:Int)else(0:Int)
def afs:List SV→List Entry→Option Out
 | [.one ⟨false,[.val (.bool x0)]⟩],[]=>some ⟨.one ⟨false,[.val (.int .i64 (oa x0))]⟩,[],[],[]⟩
 |_,_=>none
def Ye:PF prog:=PF.ofG prog [] [] aN 269 f269 func269 (fun c _=>LOk.nil c) afs (by
 intro vs es r h;unfold afs at h;split at h
 ·cases h;kernel_rfl
 ·cases h)
section
variable (x0 x1 x2 x3:Int)(x4 x5:Bool)
def tC:Bool:=bif x4 then x2==(0:Int)else false
def tD:Int:=IntKind.wrap .i64 (x1 + (1:Int))
def tE:Int:=bif x5 then(0:Int)else bif tC x2 x4 then agS x0 (tD x1) x0 (tD x1)else x1
def uL:Int:=oa (tE x0 x1 x2 x4 x5==x0)
def uM:Int:=tE x0 x1 x2 x4 x5
def uN:Int:=oa x4
def uO:Int:=bif x5 then x3 else bif tC x2 x4 then x3 else x3
end
def Wh:List SV→List Entry→Option Out
 | [.one ⟨false,[.val (.int .i64 x0)]⟩,.one ⟨true,[.val (.int .i64 x1),.val (.int .i64 x2),.val (.int .i64 x3)]⟩,.one ⟨false,[.val (.bool x4)]⟩,.one ⟨false,[.val (.bool x5)]⟩],[]=>some ⟨.tup [⟨false,[.val (.int .i64 (uL x0 x1 x2 x4 x5))]⟩,⟨true,[.val (.int .i64 (uM x0 x1 x2 x4 x5)),.val (.int .i64 (uN x4)),.val (.int .i64 (uO x2 x3 x4 x5))]⟩],[],[],[]⟩
 |_,_=>none
def ahb:PF prog:=PF.ofG prog [Ye] [] aN 270 f270 func270 (fun c _=>LOk.nil c) Wh (by
 intro vs es r h;unfold Wh at h;split at h
 ·cases h;kernel_rfl
 ·cases h)
section
variable (x0 x1 x2 x3:Int)(x4 x5:Bool)
def jq:Bool:=bif bif x3==(1:Int)then !x4 else false then !x5 else false
def pY:Bool:=(bif jq x3 x4 x5 then(0:Int)else x3)==(0:Int)
def sb:Bool:=bif pY x3 x4 x5 then !x4==x5 else false
def uP:Int:=IntKind.wrap .i64 ((bif jq x3 x4 x5 then(0:Int)else x1) + (1:Int))
def uQ:Int:=bif sb x3 x4 x5 then oa (ltI x0 (uP x1 x3 x4 x5))else bif pY x3 x4 x5 then bif jq x3 x4 x5 then(0:Int)else x3 else bif jq x3 x4 x5 then(0:Int)else x3
def wU:Int:=oa (bif bif x4 then x5 else false then uQ x0 x1 x3 x4 x5==(0:Int)else false)
def wV:Int:=bif sb x3 x4 x5 then uP x1 x3 x4 x5 else bif pY x3 x4 x5 then(0:Int)else bif jq x3 x4 x5 then(0:Int)else x1
def wW:Int:=bif sb x3 x4 x5 then bif jq x3 x4 x5 then x2 else x2 else bif pY x3 x4 x5 then bif jq x3 x4 x5 then x2 else x2 else bif jq x3 x4 x5 then x2 else x2
def wX:Int:=uQ x0 x1 x3 x4 x5
end
def Ys:List SV→List Entry→Option Out
 | [.one ⟨false,[.val (.int .i64 x0)]⟩,.one ⟨true,[.val (.int .i64 x1),.val (.int .i64 x2),.val (.int .i64 x3)]⟩,.one ⟨false,[.val (.bool x4)]⟩,.one ⟨false,[.val (.bool x5)]⟩],[]=>some ⟨.tup [⟨false,[.val (.int .i64 (wU x0 x1 x3 x4 x5))]⟩,⟨true,[.val (.int .i64 (wV x1 x3 x4 x5)),.val (.int .i64 (wW x2 x3 x4 x5)),.val (.int .i64 (wX x0 x1 x3 x4 x5))]⟩],[],[],[]⟩
 |_,_=>none
def aiq:PF prog:=PF.ofG prog [Ye] [] aN 271 f271 func271 (fun c _=>LOk.nil c) Ys (by
 intro vs es r h;unfold Ys at h;split at h
 ·cases h;kernel_rfl
 ·cases h)
section
variable (x0 x2 x3 x4 x5:Int)(x6:List Int)
def eR:Bool:=Option.getD x6[Int.toNat (0:Int)]? (0:Int)==(1:Int)
def Ei:Int:=IntKind.wrap .i64 (x3 + (1:Int))
def Ej:Int:=IntKind.wrap .i64 (oa (eR x6) * agS x2 (Ei x3) x2 (Ei x3))
def yA:Int:=IntKind.wrap .i64 ((↑x6.length:Int) - (1:Int))
def nZ:Bool:=Option.getD x6[Int.toNat (yA x6)]? (0:Int)==(1:Int)
def Ek:Int:=bif nZ x6 then(0:Int)else bif eR x6 then(1:Int)else x3
def El:Int:=IntKind.wrap .i64 (x3 - (1:Int))
def Eg:Int:=bif x0==(7:Int)then oa (bif eR x6 then Ej x2 x3 x6==x2 else false)else bif x0==(8:Int)then bif eR x6 then(1:Int)else oa (ltI (0:Int) x3)else bif x0==(9:Int)then oa (bif eR x6 then x3==(0:Int)else false)else bif x0==(10:Int)then Ek x3 x6 else bif x0==(11:Int)then uL x2 x3 x4 (eR x6) (nZ x6)else wU x2 x3 x5 (eR x6) (nZ x6)
def BL:Int:=bif x0==(7:Int)then Ej x2 x3 x6 else bif x0==(8:Int)then bif eR x6 then x2 else agS (El x3) (0:Int) (0:Int) (El x3)else bif x0==(9:Int)then oa (eR x6)else bif x0==(10:Int)then Ek x3 x6 else bif x0==(11:Int)then uM x2 x3 x4 (eR x6) (nZ x6)else wV x3 x5 (eR x6) (nZ x6)
def BM:Int:=bif x0==(7:Int)then x4 else bif x0==(8:Int)then bif eR x6 then x4 else x4 else bif x0==(9:Int)then x4 else bif x0==(10:Int)then bif nZ x6 then x4 else bif eR x6 then x4 else x4 else bif x0==(11:Int)then uN (eR x6)else wW x4 x5 (eR x6) (nZ x6)
def BN:Int:=bif x0==(7:Int)then x5 else bif x0==(8:Int)then bif eR x6 then x5 else x5 else bif x0==(9:Int)then x5 else bif x0==(10:Int)then bif nZ x6 then x5 else bif eR x6 then x5 else x5 else bif x0==(11:Int)then uO x4 x5 (eR x6) (nZ x6)else wX x2 x3 x5 (eR x6) (nZ x6)
def Eh:Bool:=allT [ltI (0:Int) (↑x6.length:Int),ltN (Int.toNat (0:Int)) x6.length,leI (0:Int) (yA x6),ltI (yA x6) (↑x6.length:Int),ltN (Int.toNat (yA x6)) x6.length]
end
def ahF:List SV→List Entry→Option Out
 | [.one ⟨true,[.val (.int .i64 x0),.val (.string _x1),.val (.int .i64 x2)]⟩,.one ⟨true,[.val (.int .i64 x3),.val (.int .i64 x4),.val (.int .i64 x5)]⟩,.one ⟨false,[.ref 0]⟩],[.row false 2 (.int .i64) x6]=>some ⟨.tup [⟨false,[.val (.int .i64 (Eg x0 x2 x3 x4 x5 x6))]⟩,⟨true,[.val (.int .i64 (BL x0 x2 x3 x4 x5 x6)),.val (.int .i64 (BM x0 x4 x5 x6)),.val (.int .i64 (BN x0 x2 x3 x4 x5 x6))]⟩],[.row false 2 agR x6],[],[Eh x6]⟩
 |_,_=>none
def amP:PF prog:=PF.ofG prog [Ye,ahb,aiq] [] aN 246 f246 func246 (fun c _=>LOk.nil c) ahF (by
 intro vs es r h;unfold ahF at h;split at h
 ·cases h;kernel_rfl
 ·cases h)
def Aw(x0 x1 x2 x3 x4 x5:Int):Bool:=bif x0 !=x3 then false else bif x1 !=x4 then false else bif x2 !=x5 then false else true
def SD:List SV→List Entry→Option Out
 | [.one ⟨true,[.val (.int .i64 x0),.val (.int .i64 x1),.val (.int .i64 x2)]⟩,.one ⟨true,[.val (.int .i64 x3),.val (.int .i64 x4),.val (.int .i64 x5)]⟩],[]=>some ⟨.one ⟨false,[.val (.bool (Aw x0 x1 x2 x3 x4 x5))]⟩,[],[],[]⟩
 |_,_=>none
def SN:PF prog:=PF.ofG prog [] [] aN 171 f171 func171 (fun c _=>LOk.nil c) SD (by
 intro vs es r h;unfold SD at h;split at h
 ·cases h;kernel_rfl
 ·cases h)
def bitsB(n:Int)(l:List Int):Bool:=l.all (fun v=>inR v 0 1)&&((l.length:Int)==n)
def takesK(k:Int):Int:=mu k
theorem fj{n:Int}{l:List Int}:bitsB n l=true↔(∀ v∈l,v=0∨v=1)∧(l.length:Int)=n:=by
 simp only [bitsB,Bool.and_eq_true,List.all_eq_true,FL,beq_iff_eq]
 constructor
 ·rintro⟨h1,h2⟩;exact⟨fun v hv=>by have:=h1 v hv;omega,h2⟩
 ·rintro⟨h1,h2⟩;exact⟨fun v hv=>by have:=h1 v hv;omega,h2⟩
def zQ(b:Int):(Unit)→Nat ⊕ (Unit)
 |_=>(bif(!bx b (0:Int) (1:Int))then(.inl 0)else(.inr ()))
def uF(y1:List Int)(i:Nat):(Unit)→oP
 |_=>((i:Int),y1)
def NZ:oP→Unit
 |(_,_)=>()
theorem agy(y1:List Int) (hn:y1.length≤9223372036854775807):
  gC.fin ((0:Int),y1)=true∧gC.res ((0:Int),y1)=((af (zQ) 1 y1 0 ()).1,(uF y1) (af (zQ) 1 y1 0 ()).2.1 (af (zQ) 1 y1 0 ()).2.2):=by
 have jb:=gC.along (uF y1) NZ (zQ) 1 (fun _ _=>True) y1 () (by trivial) (by simp only [gC,uF];omega) (fun i b a hb hI=> ?_) (fun a hI=> ?_)
 ·exact jb
 ·obtain⟨⟩:=a
  have eB:=(List.getElem?_eq_some_iff.1 hb).1
  have il: ∀ d,Option.getD y1[i]? d=b:=fun d=>by rw [hb];rfl
  have hw:=tZ eB hn
  have bM:ltI (i:Int) (y1.length:Int)=true:=dO (by omega)
  have vC:leI (0:Int) (i:Int)=true:=bw (by omega)
  have gI:ltN i y1.length=true:=fQ eB
  refine⟨?_,?_,?_,?_⟩
  ·simp [Ao,Fk,Fl,Fm,Fo,CX,gC,LT.nds,allT,uF,bM,vC,gI,il]
  ·simp [Ao,Fk,Fl,Fm,Fo,CX,gC,LT.each,uF,NZ,hw]
  ·simp only [Ao,Fk,Fl,Fm,Fo,CX,gC,LT.fn,uF,NZ,zQ,Int.toNat_natCast,bM,vC,gI,il,cond_true,Bool.cond_self]
  ·exact fun _ _=>trivial
 ·obtain⟨⟩:=a
  simp [Ao,Fk,Fl,Fm,Fo,CX,gC,LT.out,uF]
def eA(b:Int):(Unit)→Nat ⊕ (Unit)
 |_=>(bif(BH b)then(.inl 0)else(.inr ()))
def cm(y2:List Int)(i:Nat):(Unit)→bq
 |_=>((i:Int),(↑y2.length:Int),y2)
def pO:bq→Unit
 |(_,_,_)=>()
theorem JA(y2:List Int) (hn:y2.length≤9223372036854775807):
  ao.fin ((0:Int),(↑y2.length:Int),y2)=true∧ao.res ((0:Int),(↑y2.length:Int),y2)=((af (eA) 1 y2 0 ()).1,(cm y2) (af (eA) 1 y2 0 ()).2.1 (af (eA) 1 y2 0 ()).2.2):=by
 have jb:=ao.along (cm y2) pO (eA) 1 (fun _ _=>True) y2 () (by trivial) (by simp only [ao,cm];omega) (fun i b a hb hI=> ?_) (fun a hI=> ?_)
 ·exact jb
 ·obtain⟨⟩:=a
  have eB:=(List.getElem?_eq_some_iff.1 hb).1
  have il: ∀ d,Option.getD y2[i]? d=b:=fun d=>by rw [hb];rfl
  have hw:=tZ eB hn
  have bM:ltI (i:Int) (y2.length:Int)=true:=dO (by omega)
  have vC:leI (0:Int) (i:Int)=true:=bw (by omega)
  have gI:ltN i y2.length=true:=fQ eB
  refine⟨?_,?_,?_,?_⟩
  ·simp [ip,iq,ir,iu,iv,iw,gQ,ao,LT.nds,allT,cm,bM,vC,gI,il]
  ·simp [ip,iq,ir,iu,iv,iw,gQ,ao,LT.each,cm,pO,hw]
  ·simp only [ip,iq,ir,iu,iv,iw,gQ,ao,LT.fn,cm,pO,eA,Int.toNat_natCast,bM,vC,gI,il,cond_true,Bool.cond_self]
  ·exact fun _ _=>trivial
 ·obtain⟨⟩:=a
  simp [ip,iq,ir,iu,iv,iw,gQ,ao,LT.out,cm]
theorem am2(n:Int)(l:List Int)(h:leN l.length 9223372036854775807=true):UE n l=bitsB n l∧UF l=true:=by
 obtain⟨w1,w2⟩:=agy l (fX.1 h)
 rw [iH (P:=fun v=> !inR v 0 1) (j:=0) (fun v=>by simp only [zQ,bx,VP])]at w2
 have e5:(l.any fun v=> !inR v 0 1)= !l.all fun v=>inR v 0 1:=by simp [List.all_eq_not_any_not]
 rw [e5]at w2
 simp only [UE,UF,w1,w2,allT,bitsB]
 cases (l.all fun v=>inR v 0 1) <;> simp [Nat.beq]
theorem arg(v:Int):(bif v !=0 then v !=1 else false)= !inR v 0 1:=by
 have:inR v 0 1=(v==0||v==1):=by rw [Bool.eq_iff_iff,FL];simp;omega
 rw [this]
 cases h0:v==0 <;> simp [bne,h0]
theorem ams(n:Int)(l:List Int)(h:leN l.length 9223372036854775807=true):TH n l=bitsB n l∧TI n l=true:=by
 obtain⟨w1,w2⟩:=JA l (fX.1 h)
 rw [iH (P:=fun v=> !inR v 0 1) (j:=0) (fun v=>by simp only [eA,BH,arg])]at w2
 have e5:(l.any fun v=> !inR v 0 1)= !l.all fun v=>inR v 0 1:=by simp [List.all_eq_not_any_not]
 rw [e5]at w2
 have q: ∀ m:Nat,leI 0 (m:Int)=true:=fun m=>bw (by omega)
 have q2:leI 0 (-1)=false:=rfl
 simp only [TH,TI,qu,qv,sB,sC,mF,w1,w2,allT,bitsB,cm]
 cases (l.all fun v=>inR v 0 1) <;> cases ((l.length:Int)==n) <;> simp [Nat.beq,q,q2]
theorem abR(p q:Int):agS p q p q=min p q:=by rw [aoG];cases h:ltI p q <;> simp <;> simp at h <;> omega
theorem abQ(p q:Int):agS p q q p=max p q:=by rw [aoG];cases h:ltI p q <;> simp <;> simp at h <;> omega
theorem WL{l:List Int}(h:bitsB 1 l=true): ∃ x,l= [x]∧(x=0∨x=1):=by
 obtain⟨h1,h2⟩:=fj.1 h
 match l,h1,h2 with
 | [x],h1,_=>exact⟨x,rfl,h1 x (by simp)⟩
 | [],_,h2=>simp at h2
 |_::_::_,_,h2=>simp at h2;omega
theorem WM{l:List Int}(h:bitsB 2 l=true): ∃ x y,l= [x,y]∧(x=0∨x=1)∧(y=0∨y=1):=by
 obtain⟨h1,h2⟩:=fj.1 h
 match l,h1,h2 with
 | [x,y],h1,_=>exact⟨x,y,rfl,h1 x (by simp),h1 y (by simp)⟩
 | [],_,h2=>simp at h2
 | [_],_,h2=>simp at h2
 |_::_::_::_,_,h2=>simp at h2;omega
theorem alT{k n a b c:Int}{s:ByteArray}{l:List Int}(hB:VF k s n=true)(hP:possB k n a b c=true)(hA:bitsB (takesK k) l=true):
  Eg k n a b c l=gG k n a b c l∧BL k n a b c l=iy k n a b c l∧
  BM k b c l=iz k b c l∧BN k n a b c l=iA k n a c l∧Eh l=true∧kj l=true∧
  possB k n (iy k n a b c l) (iz k b c l) (iA k n a c l)=true:=by
 obtain⟨hk,hn,_⟩:=XH hB
 have hw:IntKind.i64.wrap (n + 1)=n + 1:=aR (by omega) (by omega)
 have hwa:=(abB hP hn).1
 have hwa1:IntKind.i64.wrap (a + 1)=a + 1:=aR (by omega) (by omega)
 have hwa2:IntKind.i64.wrap (a - 1)=a - 1:=aR (by omega) (by omega)
 have hm:IntKind.i64.wrap (min (a + 1) n)=min (a + 1) n:=aR (by omega) (by omega)
 have hm2:IntKind.i64.wrap (min n (a + 1))=min n (a + 1):=aR (by omega) (by omega)
 have h01:IntKind.i64.wrap (0 + 1)=1:=rfl
 have n0:IntKind.i64.wrap 0=0:=rfl
 have w1:IntKind.i64.wrap 1=1:=rfl
 have l12:ltI 1 2=true:=rfl
 have hb:=(abB hP hn).2.1
 have hc:=(abB hP hn).2.2
 rcases kinds hk with rfl | rfl | rfl | rfl | rfl | rfl
 ·obtain⟨x,rfl,hx⟩:=WL hA
  have hp:=hP
  simp [possB,dB,bx]at hp
  rcases hx with rfl | rfl <;> simp only [eR,Ei,Ej,yA,nZ,Ek,El,Eg,BL,BM,BN,Eh,tC,tD,tE,uL,uM,uN,uO,jq,pY,sb,uP,uQ,wU,wV,wW,wX,oa,ck,iP,lc,fC,ld,le,lg,lh,jW,gG,iy,iz,iA,kj,ii,iO,jV,la,lb,mI,mJ,mK,mL,iS,possB,dB,bx,allT,abR,abQ] <;> simp [hw,hwa1,hwa2,hm,hm2,h01,n0,w1,l12,hp,Bool.cond_eq_ite] <;> (repeat' split) <;> omega
 ·obtain⟨x,rfl,hx⟩:=WL hA
  have hp:=hP
  simp [possB,dB,bx]at hp
  rcases hx with rfl | rfl <;> simp only [eR,Ei,Ej,yA,nZ,Ek,El,Eg,BL,BM,BN,Eh,tC,tD,tE,uL,uM,uN,uO,jq,pY,sb,uP,uQ,wU,wV,wW,wX,oa,ck,iP,lc,fC,ld,le,lg,lh,jW,gG,iy,iz,iA,kj,ii,iO,jV,la,lb,mI,mJ,mK,mL,iS,possB,dB,bx,allT,abR,abQ] <;> simp [hw,hwa1,hwa2,hm,hm2,h01,n0,w1,l12,hp,Bool.cond_eq_ite] <;> (repeat' split) <;> omega
 ·obtain⟨x,rfl,hx⟩:=WL hA
  have hp:=hP
  simp [possB,dB,bx]at hp
  rcases hx with rfl | rfl <;> simp only [eR,Ei,Ej,yA,nZ,Ek,El,Eg,BL,BM,BN,Eh,tC,tD,tE,uL,uM,uN,uO,jq,pY,sb,uP,uQ,wU,wV,wW,wX,oa,ck,iP,lc,fC,ld,le,lg,lh,jW,gG,iy,iz,iA,kj,ii,iO,jV,la,lb,mI,mJ,mK,mL,iS,possB,dB,bx,allT,abR,abQ] <;> simp [hw,hwa1,hwa2,hm,hm2,h01,n0,w1,l12,hp,Bool.cond_eq_ite] <;> (repeat' split) <;> omega
 ·obtain⟨x,y,rfl,hx,hy⟩:=WM hA
  have hp:=hP
  simp [possB,dB,bx]at hp
  rcases hx with rfl | rfl <;> rcases hy with rfl | rfl <;> simp only [eR,Ei,Ej,yA,nZ,Ek,El,Eg,BL,BM,BN,Eh,tC,tD,tE,uL,uM,uN,uO,jq,pY,sb,uP,uQ,wU,wV,wW,wX,oa,ck,iP,lc,fC,ld,le,lg,lh,jW,gG,iy,iz,iA,kj,ii,iO,jV,la,lb,mI,mJ,mK,mL,iS,possB,dB,bx,allT,abR,abQ] <;> simp [hw,hwa1,hwa2,hm,hm2,h01,n0,w1,l12,hp,Bool.cond_eq_ite] <;> (repeat' split) <;> omega
 ·obtain⟨x,y,rfl,hx,hy⟩:=WM hA
  have hp:=hP
  rcases hb with rfl | rfl <;> rcases hc with rfl | rfl <;> rcases hx with rfl | rfl <;> rcases hy with rfl | rfl <;> simp [possB,dB,bx,hw]at hp <;> simp only [eR,Ei,Ej,yA,nZ,Ek,El,Eg,BL,BM,BN,Eh,tC,tD,tE,uL,uM,uN,uO,jq,pY,sb,uP,uQ,wU,wV,wW,wX,oa,ck,iP,lc,fC,ld,le,lg,lh,jW,gG,iy,iz,iA,kj,ii,iO,jV,la,lb,mI,mJ,mK,mL,iS,possB,dB,bx,allT,abR,abQ] <;> simp [hw,hwa1,hwa2,hm,hm2,h01,n0,w1,l12,hp,Bool.cond_eq_ite] <;> (repeat' split) <;> omega
 ·obtain⟨x,y,rfl,hx,hy⟩:=WM hA
  have hp:=hP
  rcases hb with rfl | rfl <;> rcases hc with rfl | rfl <;> rcases hx with rfl | rfl <;> rcases hy with rfl | rfl <;> simp [possB,dB,bx,hw]at hp <;> simp only [eR,Ei,Ej,yA,nZ,Ek,El,Eg,BL,BM,BN,Eh,tC,tD,tE,uL,uM,uN,uO,jq,pY,sb,uP,uQ,wU,wV,wW,wX,oa,ck,iP,lc,fC,ld,le,lg,lh,jW,gG,iy,iz,iA,kj,ii,iO,jV,la,lb,mI,mJ,mK,mL,iS,possB,dB,bx,allT,abR,abQ] <;> simp [hw,hwa1,hwa2,hm,hm2,h01,n0,w1,l12,hp,Bool.cond_eq_ite] <;> (repeat' split) <;> omega
def aaF:List SV→List Entry→Option Out
 | [.one ⟨false,[.ref 0]⟩,.one ⟨false,[.val (.int .i64 x0)]⟩],[.row false 2 (.int .i64) x1]=>some ⟨.one ⟨false,[.val (.bool (bitsB x0 x1))]⟩,[.row false 2 agR x1],[],[leN x1.length 9223372036854775807]⟩
 |_,_=>none
def wh:PF prog:=PF.alt ajI aaF (by
 intro args es o h cB;unfold aaF at h;split at h
 ·rename_i x0 x1
  cases h
  have cB:=mq cB
  have hh:=am2 x0 x1 cB
  obtain⟨e0,en⟩:=hh
  exact rg rfl (lJ en) (by simp only [e0] <;> rfl) rfl rfl
 ·cases h)
def aay:List SV→List Entry→Option Out
 | [.one ⟨false,[.ref 0]⟩,.one ⟨false,[.val (.int .i64 x0)]⟩],[.row false 2 (.int .i64) x1]=>some ⟨.one ⟨false,[.val (.bool (bitsB x0 x1))]⟩,[.row false 2 agR x1],[],[leN x1.length 9223372036854775807]⟩
 |_,_=>none
def wd:PF prog:=PF.alt ajz aay (by
 intro args es o h cB;unfold aay at h;split at h
 ·rename_i x0 x1
  cases h
  have cB:=mq cB
  have hh:=ams x0 x1 cB
  obtain⟨e0,en⟩:=hh
  exact rg rfl (lJ en) (by simp only [e0] <;> rfl) rfl rfl
 ·cases h)
def abF(m:Nat)(rs:List (List Int)):Bool:=leN rs.length m&&rs.all fun x=>leN x.length m
theorem afd{m:Nat}{rs:List (List Int)}:abF m rs=true↔rs.length≤m∧ ∀ x∈rs,x.length≤m:=by
 simp only [abF,Bool.and_eq_true,fX,List.all_eq_true]
abbrev oM:=Int×Int×List (Int×(ByteArray×Int))
section
variable (y0 y1:Int)(y2:List (Int×(ByteArray×Int)))
def xW:Int:=tT (((Option.getD y2[Int.toNat y0]? ((0:Int),ByteArray.empty,(0:Int))).2).1) y1
def Af:Bool:=ltI y0 (↑y2.length:Int)
def EI:Bool:=leI (0:Int) y0
def EJ:Bool:=ltN y0.toNat y2.length
def EK:Bool:=ltI (xW y0 y1 y2) (0:Int)
end
def vV:Int:=(-1:Int)
def EL(y0:Int):Int:=IntKind.wrap .i64 (y0 + (1:Int))
def EM(y0 y1:Int)(y2:List (Int×(ByteArray×Int))):Int:=xW y0 y1 y2
def adO:oM→List (Nat×SV)
 |(y0,y1,_)=> [(5,(.one ⟨false,[.val (.int .i64 y0)]⟩)),(0,(.one ⟨false,[.ref 0]⟩)),(1,(.one ⟨false,[.val (.int .i64 y1)]⟩))]
def adE:oM→List (Nat×Entry)
 |(_,_,y2)=> [(0,(.row false 175 acD y2))]
def ad8:Nat→oM→List (Nat×SV)
 |0,(_,_,_)=> [(4,(.one ⟨false,[.val (.int .i64 (vV))]⟩))]
 |_,(_,y1,_)=> [(1,(.one ⟨false,[.val (.int .i64 y1)]⟩))]
def adY:Nat→oM→List (Nat×Entry)
 |0,(_,_,y2)=> [(0,(.row false 175 acD y2))]
 |_,(_,_,y2)=> [(0,(.row false 175 acD y2))]
def CS:oM→LT oM
 |(y0,y1,y2)=> .ite (Af y0 y2) (.need [EI y0,Af y0 y2,EJ y0 y2] (.ite (EK y0 y1 y2) (.ext 0 [(0,0)]) (.nrm ((EL y0),EM y0 y1 y2,y2) [(0,0)]))) (.ext 1 [(0,0)])
def Od(s:St):Option oM:=
 (match s.look 5 with
 |some ⟨none,.one ⟨false,[.val (.int .i64 y0)]⟩⟩=>
 (match s.look 0 with
 |some ⟨none,.one ⟨false,[.ref 0]⟩⟩=>
 (match s.look 1 with
 |some ⟨none,.one ⟨false,[.val (.int .i64 y1)]⟩⟩=>
 (match s.ent 0 with
 |some (.row false 175 (.pair (.int .i64) (.pair .str (.int .i64))) y2)=>
 some (y0,y1,y2)
 |_=>none)
 |_=>none)
 |_=>none)
 |_=>none)
def eZ:Lp oM where
 h:=⟨[12,13,14,15,18,19,20,21,22,23,1,24,25,4,16,17,5],[0],[],[]⟩
 JL:=adO
 JE:=adE
 XL:=ad8
 XE:=adY
 q:=fun j=>match j with | 0=> .ret | _=> .exit 0
 tags:= [0,1]
 lt:=CS
 fuel:=fun(y0,y1,y2)=>y0.natAbs + y1.natAbs + y2.length
 fix:=fun(_,_,y2) (y0,y1,_)=>(y0,y1,y2)
 σ:= [(0,0)]
 rd:=Od
theorem abm:LoopOk prog (fun k=>Nat.blt k Tryz.f84.ntmps) eZ.F (aL f84 0):=by
 refine Lp.ok (tbl:= [adt]) (lf:= []) aN eZ (by kernel_rfl) (LOk.nil _) (fun _=>rfl) (fun j _=>by unfold eZ;match j with | 0=>rfl | _ + 1=>rfl) ?_ ?_ ?_ ?_ (fun _=>rfl) ?_
 ·rintro⟨y0,y1,y2⟩;kernel_rfl
 ·rintro⟨y0,y1,y2⟩;kernel_rfl
 ·intro s x h
  have h:Od s=some x:=h
  unfold Od at h
  repeat' split at h
  all_goals cases h
  exact⟨aa (by assumption) rfl (aa (by assumption) rfl (aa (by assumption) rfl (rfl))),ab rfl (by assumption) rfl (rfl)⟩
 ·rintro⟨y0,y1,y2⟩;kernel_rfl
 ·rintro⟨y0,y1,y2⟩ z;exact(And.intro (And.intro trivial rfl) trivial)
section
variable (x0:Int)(x1:List (Int×ByteArray×Int))
def Nk:Int:=IntKind.wrap .i64 (x0 - (↑x1.length:Int))
def Nl:Int×Int×List (Int×ByteArray×Int):=((0:Int),Nk x0 x1,x1)
def TQ:Int:=bif ltI (Nk x0 x1) (0:Int)then(-1:Int)else bif Nat.beq ((Lp.res eZ (Nl x0 x1)).1) (0:Nat)then vV else ((Lp.res eZ (Nl x0 x1)).2.2).1
def TR:Bool:=allT [ltI (Nk x0 x1) (0:Int)||Lp.fin eZ (Nl x0 x1)]
end
def ZQ:List SV→List Entry→Option Out
 | [.one ⟨false,[.ref 0]⟩,.one ⟨false,[.val (.int .i64 x0)]⟩],[.row false 175 (.pair (.int .i64) (.pair (.str) (.int .i64))) x1]=>some ⟨.one ⟨false,[.val (.int .i64 (TQ x0 x1))]⟩,[.row false 175 acD x1],[],[TR x0 x1]⟩
 |_,_=>none
def ajB:PF prog:=PF.ofG prog [adt] [eZ.F] aN 84 f84 func84 (LOk.fnT (l:= [aL f84 0]) (by kernel_rfl) (.cons abm (.nil _))) ZQ (by
 intro vs es r h;unfold ZQ at h;split at h
 ·cases h;kernel_rfl
 ·cases h)
section
variable (x0 x1 x2 x3 x4:Int)(x5:List (Int×ByteArray×Int))
def Xh:Bool:=bif x3==(1:Int)then x3==(1:Int)else bif x3==(2:Int)then x3==(2:Int)else x3==(3:Int)
def Xi:Bool:=bif x3==(5:Int)then x3==(5:Int)else x3==(6:Int)
def Xj:Bool:=bif x3==(8:Int)then x3==(8:Int)else x3==(9:Int)
def aiy:Int:=bif Xh x3 then(0:Int)else bif x3==(4:Int)then(1:Int)else bif Xi x3 then(2:Int)else bif x3==(7:Int)then mu ((Option.getD x5[Int.toNat x4]? ((0:Int),ByteArray.empty,(0:Int))).1)else bif Xj x3 then(1:Int)else(0:Int)
def aiz:Int:=bif Xh x3 then(1:Int)else bif x3==(4:Int)then(1:Int)else bif Xi x3 then(1:Int)else bif x3==(7:Int)then(1:Int)else bif Xj x3 then(0:Int)else(0:Int)
def aj1:Bool:=bif x3==(1:Int)then bx x4 (0:Int) (1:Int)else bif bif x3==(2:Int)then x3==(2:Int)else x3==(10:Int)then bx x4 (0:Int) (IntKind.wrap .i64 (x0 - (1:Int)))else bif bif x3==(3:Int)then x3==(3:Int)else bif x3==(8:Int)then x3==(8:Int)else x3==(11:Int)then bx x4 (0:Int) (IntKind.wrap .i64 (x1 - (1:Int)))else bif bif x3==(4:Int)then x3==(4:Int)else bif x3==(5:Int)then x3==(5:Int)else x3==(6:Int)then x4==(0:Int)else bif x3==(7:Int)then bx x4 (0:Int) (IntKind.wrap .i64 ((↑x5.length:Int) - (1:Int)))else bif x3==(9:Int)then bx x4 (0:Int) (IntKind.wrap .i64 (x2 - (1:Int)))else false
end
abbrev oO:=Int×List (Int×(ByteArray×Int))×List (Int×(ByteArray×Int))
section
variable (y0:Int)(y1 y2:List (Int×(ByteArray×Int)))
def um:Int×ByteArray×Int:=Option.getD y1[Int.toNat y0]? ((0:Int),ByteArray.empty,(0:Int))
def Aj:Bool:=ltI y0 (↑y1.length:Int)
def Ak:Bool:=leI (0:Int) y0
def EQ:Bool:=ltN y0.toNat y1.length
def ER:Bool:=ltI y0 (↑y2.length:Int)
def ES:Bool:=ltN y0.toNat y2.length
def ET:Int:=IntKind.wrap .i64 (y0 + (1:Int))
def EU:List (Int×(ByteArray×Int)):=List.set y2 y0.toNat ((um y0 y1).1,((um y0 y1).2).1,(um y0 y1).2.2)
end
def adQ:oO→List (Nat×SV)
 |(y0,_,_)=> [(4,(.one ⟨false,[.val (.int .i64 y0)]⟩)),(0,(.one ⟨false,[.ref 0]⟩)),(3,(.one ⟨false,[.ref 1]⟩))]
def adG:oO→List (Nat×Entry)
 |(_,y1,y2)=> [(0,(.row false 175 acD y1)),(1,(.row true 178 acD y2))]
def aea:Nat→oO→List (Nat×SV)
 |_,(_,_,_)=> []
def ad0:Nat→oO→List (Nat×Entry)
 |_,(_,y1,y2)=> [(0,(.row false 175 acD y1)),(1,(.row true 178 acD y2))]
def CU:oO→LT oO
 |(y0,y1,y2)=> .ite (Aj y0 y1) (.need [Ak y0,Aj y0 y1,EQ y0 y1,Ak y0,ER y0 y2,ES y0 y2] (.nrm ((ET y0),y1,(EU y0 y1 y2)) [(0,0),(1,1)])) (.ext 0 [(0,0),(1,1)])
def Of(s:St):Option oO:=
 (match s.look 4 with
 |some ⟨none,.one ⟨false,[.val (.int .i64 y0)]⟩⟩=>
 (match s.look 0 with
 |some ⟨none,.one ⟨false,[.ref 0]⟩⟩=>
 (match s.look 3 with
 |some ⟨none,.one ⟨false,[.ref 320]⟩⟩=>
 (match s.ent 0 with
 |some (.row false 175 (.pair (.int .i64) (.pair .str (.int .i64))) y1)=>
 (match s.ent 320 with
 |some (.row true 178 (.pair (.int .i64) (.pair .str (.int .i64))) y2)=>
 some (y0,y1,y2)
 |_=>none)
 |_=>none)
 |_=>none)
 |_=>none)
 |_=>none)
def iE:Lp oO where
 h:=⟨[8,9,10,11,14,15,16,17,18,19,20,21,12,13,4],[0,1],[],[]⟩
 JL:=adQ
 JE:=adG
 XL:=aea
 XE:=ad0
 q:=fun j=>match j with | _=> .exit 0
 tags:= [0]
 lt:=CU
 fuel:=fun(y0,y1,y2)=>y0.natAbs + y1.length + y2.length
 fix:=fun(_,y1,_) (y0,_,y2)=>(y0,y1,y2)
 σ:= [(0,0),(1,320)]
 rd:=Of
theorem abo:LoopOk prog (fun k=>Nat.blt k Tryz.f90.ntmps) iE.F (aL f90 0):=by
 refine Lp.ok (tbl:= [adu]) (lf:= []) aN iE (by kernel_rfl) (LOk.nil _) (fun _=>rfl) (fun _ _=>rfl) ?_ ?_ ?_ ?_ (fun _=>rfl) ?_
 ·rintro⟨y0,y1,y2⟩;kernel_rfl
 ·rintro⟨y0,y1,y2⟩;kernel_rfl
 ·intro s x h
  have h:Of s=some x:=h
  unfold Of at h
  repeat' split at h
  all_goals cases h
  exact⟨aa (by assumption) rfl (aa (by assumption) rfl (aa (by assumption) rfl (rfl))),ab rfl (by assumption) rfl (ab rfl (by assumption) rfl (rfl))⟩
 ·rintro⟨y0,y1,y2⟩;kernel_rfl
 ·rintro⟨y0,y1,y2⟩ z;exact(And.intro rfl trivial)
def Nr(x0:List (Int×ByteArray×Int)):Int×List (Int×ByteArray×Int)×List (Int×ByteArray×Int):=
 ((0:Int),x0,List.replicate (Int.toNat (↑x0.length:Int)) ((0:Int),{ data:= #[] },(0:Int)))
def PG(x0:List (Int×ByteArray×Int)):List (Int×(ByteArray×Int)):=(Lp.res iE (Nr x0)).2.2.2
def PH(x0:List (Int×ByteArray×Int)):Bool:=allT [leI (0:Int) (↑x0.length:Int),leI (↑x0.length:Int) (↑x0.length:Int),leI ((↑(32:Nat):Int) * (↑x0.length:Int)) (281474976710656:Int),leI (↑x0.length:Int) (9223372036854775807:Int),Lp.fin iE (Nr x0)]
def ZS:List SV→List Entry→Option Out
 | [.one ⟨false,[.ref 0]⟩],[.row false 175 (.pair (.int .i64) (.pair (.str) (.int .i64))) x0]=>some ⟨.one ⟨false,[.ref 1]⟩,[.row false 175 acD x0],[.row true 178 acD (PG x0)],[PH x0]⟩
 |_,_=>none
def ajC:PF prog:=PF.ofG prog [adu] [iE.F] aN 90 f90 func90 (LOk.fnT (l:= [aL f90 0]) (by kernel_rfl) (.cons abo (.nil _))) ZS (by
 intro vs es r h;unfold ZS at h;split at h
 ·cases h;kernel_rfl
 ·cases h)
def sa(x0:Int):Int:=bif bif x0==(1:Int)then x0==(1:Int)else bif x0==(2:Int)then x0==(2:Int)else x0==(3:Int)then(0:Int)else bif bif x0==(4:Int)then x0==(4:Int)else bif x0==(7:Int)then x0==(7:Int)else bif x0==(8:Int)then x0==(8:Int)else x0==(9:Int)then(1:Int)else(2:Int)
def Wg:List SV→List Entry→Option Out
 | [.one ⟨false,[.val (.int .i64 x0)]⟩],[]=>some ⟨.one ⟨false,[.val (.int .i64 (sa x0))]⟩,[],[],[]⟩
 |_,_=>none
def LH:PF prog:=PF.ofG prog [] [] aN 222 f222 func222 (fun c _=>LOk.nil c) Wg (by
 intro vs es r h;unfold Wg at h;split at h
 ·cases h;kernel_rfl
 ·cases h)
abbrev be:=Int×Int×List (Int×(ByteArray×Int))×List Int×List (Int×(Int×Int))
section
variable (y0 y1:Int)(y2:List (Int×(ByteArray×Int)))(y4:List (Int×(Int×Int)))
def dC:Int×ByteArray×Int:=Option.getD y2[Int.toNat y0]? ((0:Int),ByteArray.empty,(0:Int))
def cH:Int×Int×Int:=Option.getD y4[Int.toNat y0]? ((0:Int),(0:Int),(0:Int))
def ge:Bool:=ltI y0 y1
def dF:Bool:=leI (0:Int) y0
def gf:Bool:=ltI y0 (↑y2.length:Int)
def gg:Bool:=ltN y0.toNat y2.length
def gh:Bool:=ltI y0 (↑y4.length:Int)
def gi:Bool:=ltN y0.toNat y4.length
def gj:Bool:= !zS ((dC y0 y2).1) ((dC y0 y2).2.2) ((cH y0 y4).1) (((cH y0 y4).2).1) ((cH y0 y4).2.2)
def gk:Int:=IntKind.wrap .i64 (y0 + (1:Int))
end
def Hl:be→List (Nat×SV)
 |(y0,y1,_,_,_)=> [(24,(.one ⟨false,[.val (.int .i64 y0)]⟩)),(23,(.one ⟨false,[.val (.int .i64 y1)]⟩)),(22,(.one ⟨false,[.ref 0]⟩)),(3,(.one ⟨false,[.ptr 1 0]⟩))]
def Hj:be→List (Nat×Entry)
 |(_,_,y2,y3,y4)=> [(0,(.row false 178 acD y2)),(1,(.box 48 [.ref 2,.ref 3])),(2,(.row false 2 agR y3)),(3,(.row false 172 abM y4))]
def Hq:Nat→be→List (Nat×SV)
 |0,(_,_,_,_,_)=> [(6,(.one ⟨false,[.val (.bool false)]⟩))]
 |_,(_,_,_,_,_)=> []
def Hn:Nat→be→List (Nat×Entry)
 |0,(_,_,y2,y3,y4)=> [(0,(.row false 178 acD y2)),(1,(.box 48 [.ref 2,.ref 3])),(2,(.row false 2 agR y3)),(3,(.row false 172 abM y4))]
 |_,(_,_,y2,y3,y4)=> [(0,(.row false 178 acD y2)),(1,(.box 48 [.ref 2,.ref 3])),(2,(.row false 2 agR y3)),(3,(.row false 172 abM y4))]
def fR:be→LT be
 |(y0,y1,y2,y3,y4)=> .ite (ge y0 y1) (.need [dF y0,gf y0 y2,gg y0 y2] (.need [dF y0,gh y0 y4,gi y0 y4] (.ite (gj y0 y2 y4) (.ext 0 [(0,0),(1,1),(2,2),(3,3)]) (.nrm ((gk y0),y1,y2,y3,y4) [(0,0),(1,1),(2,2),(3,3)])))) (.ext 1 [(0,0),(1,1),(2,2),(3,3)])
def pa(s:St):Option be:=
 (match s.look 24 with
 |some ⟨none,.one ⟨false,[.val (.int .i64 y0)]⟩⟩=>
 (match s.look 23 with
 |some ⟨none,.one ⟨false,[.val (.int .i64 y1)]⟩⟩=>
 (match s.look 22 with
 |some ⟨none,.one ⟨false,[.ref 2]⟩⟩=>
 (match s.look 3 with
 |some ⟨none,.one ⟨false,[.ptr 256 0]⟩⟩=>
 (match s.ent 2 with
 |some (.row false 178 (.pair (.int .i64) (.pair .str (.int .i64))) y2)=>
 (match s.ent 256 with
 |some (.box 48 [.ref 0,.ref 1])=>
 (match s.ent 0 with
 |some (.row false 2 (.int .i64) y3)=>
 (match s.ent 1 with
 |some (.row false 172 (.pair (.int .i64) (.pair (.int .i64) (.int .i64))) y4)=>
 some (y0,y1,y2,y3,y4)
 |_=>none)
 |_=>none)
 |_=>none)
 |_=>none)
 |_=>none)
 |_=>none)
 |_=>none)
 |_=>none)
def ap:Lp be where
 h:=⟨[25,26,27,28,8,7,29,30,31,32,33,34,35,36,6,37,24],[0,1,2,3],[],[]⟩
 JL:=Hl
 JE:=Hj
 XL:=Hq
 XE:=Hn
 q:=fun j=>match j with | 0=> .ret | _=> .exit 0
 tags:= [0,1]
 lt:=fR
 fuel:=fun(y0,y1,y2,y3,y4)=>y0.natAbs + y1.natAbs + y2.length + y3.length + y4.length
 fix:=fun(_,y1,y2,y3,y4) (y0,_,_,_,_)=>(y0,y1,y2,y3,y4)
 σ:= [(0,2),(1,256),(2,0),(3,1)]
 rd:=pa
theorem FH:LoopOk prog (fun k=>Nat.blt k Tryz.f116.ntmps) ap.F (aL f116 0):=by
 refine Lp.ok (tbl:= [wd,PF.lend wd,PF.fz wd,Vk]) (lf:= []) aN ap (by kernel_rfl) (LOk.nil _) (fun _=>rfl) (fun j _=>by unfold ap;match j with | 0=>rfl | _ + 1=>rfl) ?_ ?_ ?_ ?_ (fun _=>rfl) ?_
 ·rintro⟨y0,y1,y2,y3,y4⟩;kernel_rfl
 ·rintro⟨y0,y1,y2,y3,y4⟩;kernel_rfl
 ·intro s x h
  have h:pa s=some x:=h
  unfold pa at h
  repeat' split at h
  all_goals cases h
  exact⟨aa (by assumption) rfl (aa (by assumption) rfl (aa (by assumption) rfl (aa (by assumption) rfl (rfl)))),ab rfl (by assumption) rfl (ab rfl (by assumption) rfl (ab rfl (by assumption) rfl (ab rfl (by assumption) rfl (rfl))))⟩
 ·rintro⟨y0,y1,y2,y3,y4⟩;kernel_rfl
 ·rintro⟨y0,y1,y2,y3,y4⟩ z;exact(And.intro (And.intro trivial rfl) trivial)
section
variable (x0:Int)(x1:List Int)(x2:List (Int×Int×Int))(x3:List (Int×ByteArray×Int))
def eC:Bool:=bif !bitsB x0 x1 then true else(↑x2.length:Int)!=(↑x3.length:Int)
def qo:Int×Int×List (Int×ByteArray×Int)×List Int×List (Int×Int×Int):=((0:Int),(↑x3.length:Int),x3,x1,x2)
def lX:Bool:=bif eC x0 x1 x2 x3 then false else bif Nat.beq ((Lp.res ap (qo x1 x2 x3)).1) (0:Nat)then false else true
def lY:Bool:=allT [leN x1.length (9223372036854775807:Nat),eC x0 x1 x2 x3||Lp.fin ap (qo x1 x2 x3)]
end
def yq:List SV→List Entry→Option Out
 | [.one ⟨true,[.ref 0,.ref 1]⟩,.one ⟨false,[.val (.int .i64 x0)]⟩,.one ⟨false,[.ref 2]⟩],[.row false 2 (.int .i64) x1,.row false 172 (.pair (.int .i64) (.pair (.int .i64) (.int .i64))) x2,.row false 178 (.pair (.int .i64) (.pair (.str) (.int .i64))) x3]=>some ⟨.one ⟨false,[.val (.bool (lX x0 x1 x2 x3))]⟩,[.row false 2 agR x1,.row false 172 abM x2,.row false 178 acD x3],[],[lY x0 x1 x2 x3]⟩
 |_,_=>none
def Kh:PF prog:=PF.ofG prog [wd,PF.lend wd,PF.fz wd,Vk] [ap.F] aN 116 f116 func116 (LOk.fnT (l:= [aL f116 0]) (by kernel_rfl) (.cons FH (.nil _))) yq (by
 intro vs es r h;unfold yq at h;split at h
 ·cases h;kernel_rfl
 ·cases h)
def sk(x0:List (Int×Int×Int)):Bool:=allT [ltN (0:Nat) x0.length,false||leN ((0:Nat) + List.length x0) (9223372036854775807:Nat),false||leN (((0:Nat) + List.length x0) * (24:Nat)) (140737488355328:Nat)]
def Gf:List SV→List Entry→Option Out
 | [.one ⟨false,[.ref 0]⟩],[.row false 172 (.pair (.int .i64) (.pair (.int .i64) (.int .i64))) x0]=>some ⟨.one ⟨false,[.ref 1]⟩,[.row false 172 abM x0],[.row true 172 abM x0],[sk x0]⟩
 |_,_=>none
def Rl:PF prog:=PF.ofG prog [] [] aN 195 f195 func195 (fun c _=>LOk.nil c) Gf (by
 intro vs es r h;unfold Gf at h;split at h
 ·cases h;kernel_rfl
 ·cases h)
def MQ(x0:Int)(x1:ByteArray)(x2 x3:Int)(x4:ByteArray)(x5:Int):Bool:=bif x0 !=x3 then false else bif !ByteArray.toList x1==ByteArray.toList x4 then false else bif x2 !=x5 then false else true
def ac0:List SV→List Entry→Option Out
 | [.one ⟨true,[.val (.int .i64 x0),.val (.string x1),.val (.int .i64 x2)]⟩,.one ⟨true,[.val (.int .i64 x3),.val (.string x4),.val (.int .i64 x5)]⟩],[]=>some ⟨.one ⟨false,[.val (.bool (MQ x0 x1 x2 x3 x4 x5))]⟩,[],[],[]⟩
 |_,_=>none
def ads:PF prog:=PF.ofG prog [] [] aN 166 f166 func166 (fun c _=>LOk.nil c) ac0 (by
 intro vs es r h;unfold ac0 at h;split at h
 ·cases h;kernel_rfl
 ·cases h)
abbrev oK:=Int×List (Int×(ByteArray×Int))×List (Int×(ByteArray×Int))
section
variable (y0:Int)(y1 y2:List (Int×(ByteArray×Int)))
def ui:Int×ByteArray×Int:=Option.getD y1[Int.toNat y0]? ((0:Int),ByteArray.empty,(0:Int))
def uj:Int×ByteArray×Int:=Option.getD y2[Int.toNat y0]? ((0:Int),ByteArray.empty,(0:Int))
def zX:Bool:=ltI y0 (↑y1.length:Int)
def zY:Bool:=leI (0:Int) y0
def Et:Bool:=ltN y0.toNat y1.length
def Eu:Bool:=ltI y0 (↑y2.length:Int)
def Ev:Bool:=ltN y0.toNat y2.length
def Ew:Bool:= !MQ ((ui y0 y1).1) (((ui y0 y1).2).1) ((ui y0 y1).2.2) ((uj y0 y2).1) (((uj y0 y2).2).1) ((uj y0 y2).2.2)
def Ey:Int:=IntKind.wrap .i64 (y0 + (1:Int))
end
def adM:oK→List (Nat×SV)
 |(y0,_,_)=> [(5,(.one ⟨false,[.val (.int .i64 y0)]⟩)),(0,(.one ⟨false,[.ref 0]⟩)),(1,(.one ⟨false,[.ref 1]⟩))]
def adC:oK→List (Nat×Entry)
 |(_,y1,y2)=> [(0,(.row false 178 acD y1)),(1,(.row false 178 acD y2))]
def ad6:Nat→oK→List (Nat×SV)
 |0,(_,_,_)=> [(4,(.one ⟨false,[.val (.bool false)]⟩))]
 |_,(_,_,_)=> []
def adW:Nat→oK→List (Nat×Entry)
 |0,(_,y1,y2)=> [(0,(.row false 178 acD y1)),(1,(.row false 178 acD y2))]
 |_,(_,y1,y2)=> [(0,(.row false 178 acD y1)),(1,(.row false 178 acD y2))]
def CQ:oK→LT oK
 |(y0,y1,y2)=> .ite (zX y0 y1) (.need [zY y0,zX y0 y1,Et y0 y1,zY y0,Eu y0 y2,Ev y0 y2] (.ite (Ew y0 y1 y2) (.ext 0 [(0,0),(1,1)]) (.nrm ((Ey y0),y1,y2) [(0,0),(1,1)]))) (.ext 1 [(0,0),(1,1)])
def Ob(s:St):Option oK:=
 (match s.look 5 with
 |some ⟨none,.one ⟨false,[.val (.int .i64 y0)]⟩⟩=>
 (match s.look 0 with
 |some ⟨none,.one ⟨false,[.ref 0]⟩⟩=>
 (match s.look 1 with
 |some ⟨none,.one ⟨false,[.ref 1]⟩⟩=>
 (match s.ent 0 with
 |some (.row false 178 (.pair (.int .i64) (.pair .str (.int .i64))) y1)=>
 (match s.ent 1 with
 |some (.row false 178 (.pair (.int .i64) (.pair .str (.int .i64))) y2)=>
 some (y0,y1,y2)
 |_=>none)
 |_=>none)
 |_=>none)
 |_=>none)
 |_=>none)
def gA:Lp oK where
 h:=⟨[11,12,13,14,17,18,19,20,21,22,23,24,25,26,4,15,16,5],[0,1],[],[]⟩
 JL:=adM
 JE:=adC
 XL:=ad6
 XE:=adW
 q:=fun j=>match j with | 0=> .ret | _=> .exit 0
 tags:= [0,1]
 lt:=CQ
 fuel:=fun(y0,y1,y2)=>y0.natAbs + y1.length + y2.length
 fix:=fun(_,y1,y2) (y0,_,_)=>(y0,y1,y2)
 σ:= [(0,0),(1,1)]
 rd:=Ob
theorem abk:LoopOk prog (fun k=>Nat.blt k Tryz.f96.ntmps) gA.F (aL f96 0):=by
 refine Lp.ok (tbl:= [ads]) (lf:= []) aN gA (by kernel_rfl) (LOk.nil _) (fun _=>rfl) (fun j _=>by unfold gA;match j with | 0=>rfl | _ + 1=>rfl) ?_ ?_ ?_ ?_ (fun _=>rfl) ?_
 ·rintro⟨y0,y1,y2⟩;kernel_rfl
 ·rintro⟨y0,y1,y2⟩;kernel_rfl
 ·intro s x h
  have h:Ob s=some x:=h
  unfold Ob at h
  repeat' split at h
  all_goals cases h
  exact⟨aa (by assumption) rfl (aa (by assumption) rfl (aa (by assumption) rfl (rfl))),ab rfl (by assumption) rfl (ab rfl (by assumption) rfl (rfl))⟩
 ·rintro⟨y0,y1,y2⟩;kernel_rfl
 ·rintro⟨y0,y1,y2⟩ z;exact(And.intro (And.intro trivial rfl) trivial)
section
variable (x0 x1:List (Int×ByteArray×Int))
def Nh:Bool:=(↑x0.length:Int)!=(↑x1.length:Int)
def Ni:Int×List (Int×ByteArray×Int)×List (Int×ByteArray×Int):=((0:Int),x0,x1)
def Pz:Bool:=bif Nh x0 x1 then false else bif Nat.beq ((Lp.res gA (Ni x0 x1)).1) (0:Nat)then false else true
def PA:Bool:=allT [Nh x0 x1||Lp.fin gA (Ni x0 x1)]
end
def ZO:List SV→List Entry→Option Out
 | [.one ⟨false,[.ref 0]⟩,.one ⟨false,[.ref 1]⟩],[.row false 178 (.pair (.int .i64) (.pair (.str) (.int .i64))) x0,.row false 178 (.pair (.int .i64) (.pair (.str) (.int .i64))) x1]=>some ⟨.one ⟨false,[.val (.bool (Pz x0 x1))]⟩,[.row false 178 acD x0,.row false 178 acD x1],[],[PA x0 x1]⟩
 |_,_=>none
def ajA:PF prog:=PF.ofG prog [ads] [gA.F] aN 96 f96 func96 (LOk.fnT (l:= [aL f96 0]) (by kernel_rfl) (.cons abk (.nil _))) ZO (by
 intro vs es r h;unfold ZO at h;split at h
 ·cases h;kernel_rfl
 ·cases h)
abbrev re:=Int×ByteArray
def qh(y0:Int):ByteArray:=strOfNums [IntKind.wrap IntKind.u8 (IntKind.wrap .i64 ((48:Int) + Int.tmod y0 (10:Int)))]
def HW(y0:Int):Bool:=ltI (0:Int) y0
def NL:Bool:=neI (10:Int) (0:Int)
section
variable (y0:Int)(y1:ByteArray)
def TN:Bool:=leN (ByteArray.size (qh y0) + ByteArray.size y1) (9223372036854775807:Nat)
def TO:Int:=IntKind.wrap .i64 (Int.tdiv y0 (10:Int))
def TP:ByteArray:=qh y0++y1
end
def acb:re→List (Nat×SV)
 |(y0,y1)=> [(0,(.one ⟨false,[.val (.int .i64 y0)]⟩)),(3,(.one ⟨false,[.val (.string y1)]⟩))]
def ab1:re→List (Nat×Entry)
 |(_,_)=> []
def acw:Nat→re→List (Nat×SV)
 |_,(y0,y1)=> [(3,(.one ⟨false,[.val (.string y1)]⟩)),(0,(.one ⟨false,[.val (.int .i64 y0)]⟩))]
def acm:Nat→re→List (Nat×Entry)
 |_,(_,_)=> []
def FU:re→LT re
 |(y0,y1)=> .ite (HW y0) (.need [NL,TN y0 y1] (.need [NL] (.nrm ((TO y0),(TP y0 y1)) []))) (.ext 0 [])
def My(s:St):Option re:=
 (match s.look 0 with
 |some ⟨none,.one ⟨false,[.val (.int .i64 y0)]⟩⟩=>
 (match s.look 3 with
 |some ⟨none,.one ⟨false,[.val (.string y1)]⟩⟩=>
 some (y0,y1)
 |_=>none)
 |_=>none)
def ki:Lp re where
 h:=⟨[6,7,8,9,10,11,12,13,14,15,3,16,17,0],[],[],[]⟩
 JL:=acb
 JE:=ab1
 XL:=acw
 XE:=acm
 q:=fun j=>match j with | _=> .exit 0
 tags:= [0]
 lt:=FU
 fuel:=fun(y0,y1)=>y0.natAbs + y1.size
 fix:=fun(_,_) (y0,y1)=>(y0,y1)
 σ:= []
 rd:=My
theorem ZC:LoopOk prog (fun k=>Nat.blt k Tryz.f168.ntmps) ki.F (aL f168 0):=by
 refine Lp.ok (tbl:= []) (lf:= []) aN ki (by kernel_rfl) (LOk.nil _) (fun _=>rfl) (fun _ _=>rfl) ?_ ?_ ?_ ?_ (fun _=>rfl) ?_
 ·rintro⟨y0,y1⟩;kernel_rfl
 ·rintro⟨y0,y1⟩;kernel_rfl
 ·intro s x h
  have h:My s=some x:=h
  unfold My at h
  repeat' split at h
  all_goals cases h
  exact⟨aa (by assumption) rfl (aa (by assumption) rfl (rfl)),rfl⟩
 ·rintro⟨y0,y1⟩;kernel_rfl
 ·rintro⟨y0,y1⟩ z;exact(And.intro rfl trivial)
def QP(x0:Int):ByteArray:=
 (Lp.res ki (x0,{ data:= #[] })).2.2
def oc(x0:Int):ByteArray:=
 bif leI x0 (0:Int)then { data:= #[(109:UInt8),(48:UInt8)] } else { data:= #[(109:UInt8)] } ++QP x0
def IC(x0:Int):Bool:=
 allT
 [leI x0 (0:Int)||Lp.fin ki (x0,{ data:= #[] }),
  leI x0 (0:Int)||leN (ByteArray.size { data:= #[(109:UInt8)] } + ByteArray.size (QP x0)) (9223372036854775807:Nat)]
def Yv:List SV→List Entry→Option Out
 | [.one ⟨false,[.val (.int .i64 x0)]⟩],[]=>some ⟨.one ⟨false,[.val (.string (oc x0))]⟩,[],[],[IC x0]⟩
 |_,_=>none
def Sp:PF prog:=PF.ofG prog [] [ki.F] aN 168 f168 func168 (LOk.fnT (l:= [aL f168 0]) (by kernel_rfl) (.cons ZC (.nil _))) Yv (by
 intro vs es r h;unfold Yv at h;split at h
 ·cases h;kernel_rfl
 ·cases h)
abbrev lM:=Int×Int×List (Int×(ByteArray×Int))
section
variable (y0 y1:Int)(y2:List (Int×(ByteArray×Int)))
def rm:Int:=IntKind.wrap .i64 (y1 + (1:Int))
def vb:ByteArray×Int:=(Option.getD y2[Int.toNat y0]? ((0:Int),ByteArray.empty,(0:Int))).2
def pd:List (Int×ByteArray×Int):=List.set y2 y0.toNat (y1,(vb y0 y2).1,(vb y0 y2).2)
def vc:Int×ByteArray×Int:=Option.getD (pd y0 y1 y2)[Int.toNat y0]? ((0:Int),ByteArray.empty,(0:Int))
def pe:List (Int×ByteArray×Int):=List.set (pd y0 y1 y2) y0.toNat ((vc y0 y1 y2).1,oc (rm y1),(vc y0 y1 y2).2.2)
def vd:Int:=IntKind.wrap .i64 (rm y1 + (1:Int))
def ve:Int×ByteArray×Int:=Option.getD (pe y0 y1 y2)[Int.toNat y0]? ((0:Int),ByteArray.empty,(0:Int))
def wG:Bool:=ltI y0 (↑y2.length:Int)
def tg:Bool:=leI (0:Int) y0
def AO:Bool:=ltN y0.toNat y2.length
def AP:Bool:=IC (rm y1)
def AQ:Bool:=ltI y0 (↑(List.length (pd y0 y1 y2)):Int)
def AR:Bool:=ltN y0.toNat (List.length (pd y0 y1 y2))
def AU:Bool:=ltI y0 (↑(List.length (pe y0 y1 y2)):Int)
def AV:Bool:=ltN y0.toNat (List.length (pe y0 y1 y2))
def AW:Int:=IntKind.wrap .i64 (y0 + (1:Int))
def AX:Int:=IntKind.wrap .i64 (vd y1 + (1:Int))
def yU:List (Int×(ByteArray×Int)):=List.set (pe y0 y1 y2) y0.toNat ((ve y0 y1 y2).1,((ve y0 y1 y2).2).1,vd y1)
end
def aaq:lM→List (Nat×SV)
 |(y0,y1,_)=> [(5,(.one ⟨false,[.val (.int .i64 y0)]⟩)),(0,(.one ⟨false,[.ref 0]⟩)),(1,(.one ⟨false,[.val (.int .i64 y1)]⟩))]
def aag:lM→List (Nat×Entry)
 |(_,_,y2)=> [(0,(.row true 178 acD y2))]
def aaT:Nat→lM→List (Nat×SV)
 |_,(_,y1,_)=> [(1,(.one ⟨false,[.val (.int .i64 y1)]⟩))]
def aaJ:Nat→lM→List (Nat×Entry)
 |_,(_,_,y2)=> [(0,(.row true 178 acD y2))]
def yZ:lM→LT lM
 |(y0,y1,y2)=> .ite (wG y0 y2) (.need [tg y0,wG y0 y2,AO y0 y2] (.need [AP y1,tg y0,AQ y0 y1 y2,AR y0 y1 y2] (.need [tg y0,AU y0 y1 y2,AV y0 y1 y2] (.nrm ((AW y0),AX y1,(yU y0 y1 y2)) [(0,0)])))) (.ext 0 [(0,0)])
def Lc(s:St):Option lM:=
 (match s.look 5 with
 |some ⟨none,.one ⟨false,[.val (.int .i64 y0)]⟩⟩=>
 (match s.look 0 with
 |some ⟨none,.one ⟨false,[.ref 0]⟩⟩=>
 (match s.look 1 with
 |some ⟨none,.one ⟨false,[.val (.int .i64 y1)]⟩⟩=>
 (match s.ent 0 with
 |some (.row true 178 (.pair (.int .i64) (.pair .str (.int .i64))) y2)=>
 some (y0,y1,y2)
 |_=>none)
 |_=>none)
 |_=>none)
 |_=>none)
def ft:Lp lM where
 h:=⟨[6,7,8,9,12,13,14,15,16,17,18,1,19,20,21,22,23,24,25,26,27,28,29,30,31,32,33,10,11,5],[0],[],[]⟩
 JL:=aaq
 JE:=aag
 XL:=aaT
 XE:=aaJ
 q:=fun j=>match j with | _=> .exit 0
 tags:= [0]
 lt:=yZ
 fuel:=fun(y0,y1,y2)=>y0.natAbs + y1.natAbs + y2.length
 fix:=fun(_,_,_) (y0,y1,y2)=>(y0,y1,y2)
 σ:= [(0,0)]
 rd:=Lc
theorem XS:LoopOk prog (fun k=>Nat.blt k Tryz.f98.ntmps) ft.F (aL f98 0):=by
 refine Lp.ok (tbl:= [Sp]) (lf:= []) aN ft (by kernel_rfl) (LOk.nil _) (fun _=>rfl) (fun _ _=>rfl) ?_ ?_ ?_ ?_ (fun _=>rfl) ?_
 ·rintro⟨y0,y1,y2⟩;kernel_rfl
 ·rintro⟨y0,y1,y2⟩;kernel_rfl
 ·intro s x h
  have h:Lc s=some x:=h
  unfold Lc at h
  repeat' split at h
  all_goals cases h
  exact⟨aa (by assumption) rfl (aa (by assumption) rfl (aa (by assumption) rfl (rfl))),ab rfl (by assumption) rfl (rfl)⟩
 ·rintro⟨y0,y1,y2⟩;kernel_rfl
 ·rintro⟨y0,y1,y2⟩ z;exact(And.intro rfl trivial)
section
variable (x0:Int)(x1:List (Int×ByteArray×Int))
def JP:Int×Int×List (Int×ByteArray×Int):=((0:Int),x0,x1)
def PC:Int×List (Int×ByteArray×Int):=(Lp.res ft (JP x0 x1)).2.2
def QM:Int:=(PC x0 x1).1
def QN:List (Int×(ByteArray×Int)):=(PC x0 x1).2
def QO:Bool:=allT [Lp.fin ft (JP x0 x1)]
end
def Wm:List SV→List Entry→Option Out
 | [.one ⟨false,[.ref 0]⟩,.one ⟨false,[.val (.int .i64 x0)]⟩],[.row true 178 (.pair (.int .i64) (.pair (.str) (.int .i64))) x1]=>some ⟨.one ⟨false,[.val (.int .i64 (QM x0 x1))]⟩,[.row true 178 acD (QN x0 x1)],[],[QO x0 x1]⟩
 |_,_=>none
def ahe:PF prog:=PF.ofG prog [Sp] [ft.F] aN 98 f98 func98 (LOk.fnT (l:= [aL f98 0]) (by kernel_rfl) (.cons XS (.nil _))) Wm (by
 intro vs es r h;unfold Wm at h;split at h
 ·cases h;kernel_rfl
 ·cases h)
abbrev ik:=Int×List (Int×(Int×Int))×List (Int×(Int×Int))
section
variable (y0:Int)(y1 y2:List (Int×(Int×Int)))
def mX:Int×Int×Int:=Option.getD y1[Int.toNat y0]? ((0:Int),(0:Int),(0:Int))
def mY:Int×Int×Int:=Option.getD y2[Int.toNat y0]? ((0:Int),(0:Int),(0:Int))
def qU:Bool:=ltI y0 (↑y1.length:Int)
def qV:Bool:=leI (0:Int) y0
def uR:Bool:=ltN y0.toNat y1.length
def uS:Bool:=ltI y0 (↑y2.length:Int)
def uT:Bool:=ltN y0.toNat y2.length
def uU:Bool:= !Aw ((mX y0 y1).1) (((mX y0 y1).2).1) ((mX y0 y1).2.2) ((mY y0 y2).1) (((mY y0 y2).2).1) ((mY y0 y2).2.2)
def uV:Int:=IntKind.wrap .i64 (y0 + (1:Int))
end
def Vz:ik→List (Nat×SV)
 |(y0,_,_)=> [(5,(.one ⟨false,[.val (.int .i64 y0)]⟩)),(0,(.one ⟨false,[.ref 0]⟩)),(1,(.one ⟨false,[.ref 1]⟩))]
def Vx:ik→List (Nat×Entry)
 |(_,y1,y2)=> [(0,(.row false 172 abM y1)),(1,(.row false 172 abM y2))]
def VD:Nat→ik→List (Nat×SV)
 |0,(_,_,_)=> [(4,(.one ⟨false,[.val (.bool false)]⟩))]
 |_,(_,_,_)=> []
def VB:Nat→ik→List (Nat×Entry)
 |0,(_,y1,y2)=> [(0,(.row false 172 abM y1)),(1,(.row false 172 abM y2))]
 |_,(_,y1,y2)=> [(0,(.row false 172 abM y1)),(1,(.row false 172 abM y2))]
def tU:ik→LT ik
 |(y0,y1,y2)=> .ite (qU y0 y1) (.need [qV y0,qU y0 y1,uR y0 y1,qV y0,uS y0 y2,uT y0 y2] (.ite (uU y0 y1 y2) (.ext 0 [(0,0),(1,1)]) (.nrm ((uV y0),y1,y2) [(0,0),(1,1)]))) (.ext 1 [(0,0),(1,1)])
def Fx(s:St):Option ik:=
 (match s.look 5 with
 |some ⟨none,.one ⟨false,[.val (.int .i64 y0)]⟩⟩=>
 (match s.look 0 with
 |some ⟨none,.one ⟨false,[.ref 0]⟩⟩=>
 (match s.look 1 with
 |some ⟨none,.one ⟨false,[.ref 1]⟩⟩=>
 (match s.ent 0 with
 |some (.row false 172 (.pair (.int .i64) (.pair (.int .i64) (.int .i64))) y1)=>
 (match s.ent 1 with
 |some (.row false 172 (.pair (.int .i64) (.pair (.int .i64) (.int .i64))) y2)=>
 some (y0,y1,y2)
 |_=>none)
 |_=>none)
 |_=>none)
 |_=>none)
 |_=>none)
def cF:Lp ik where
 h:=⟨[11,12,13,14,17,18,19,20,21,22,23,24,25,26,4,15,16,5],[0,1],[],[]⟩
 JL:=Vz
 JE:=Vx
 XL:=VD
 XE:=VB
 q:=fun j=>match j with | 0=> .ret | _=> .exit 0
 tags:= [0,1]
 lt:=tU
 fuel:=fun(y0,y1,y2)=>y0.natAbs + y1.length + y2.length
 fix:=fun(_,y1,y2) (y0,_,_)=>(y0,y1,y2)
 σ:= [(0,0),(1,1)]
 rd:=Fx
theorem TU:LoopOk prog (fun k=>Nat.blt k Tryz.f103.ntmps) cF.F (aL f103 0):=by
 refine Lp.ok (tbl:= [SN]) (lf:= []) aN cF (by kernel_rfl) (LOk.nil _) (fun _=>rfl) (fun j _=>by unfold cF;match j with | 0=>rfl | _ + 1=>rfl) ?_ ?_ ?_ ?_ (fun _=>rfl) ?_
 ·rintro⟨y0,y1,y2⟩;kernel_rfl
 ·rintro⟨y0,y1,y2⟩;kernel_rfl
 ·intro s x h
  have h:Fx s=some x:=h
  unfold Fx at h
  repeat' split at h
  all_goals cases h
  exact⟨aa (by assumption) rfl (aa (by assumption) rfl (aa (by assumption) rfl (rfl))),ab rfl (by assumption) rfl (ab rfl (by assumption) rfl (rfl))⟩
 ·rintro⟨y0,y1,y2⟩;kernel_rfl
 ·rintro⟨y0,y1,y2⟩ z;exact(And.intro (And.intro trivial rfl) trivial)
section
variable (x0 x1:List (Int×Int×Int))
def DG:Bool:=(↑x0.length:Int)!=(↑x1.length:Int)
def DH:Int×List (Int×Int×Int)×List (Int×Int×Int):=((0:Int),x0,x1)
def Em:Bool:=bif DG x0 x1 then false else bif Nat.beq ((Lp.res cF (DH x0 x1)).1) (0:Nat)then false else true
def En:Bool:=allT [DG x0 x1||Lp.fin cF (DH x0 x1)]
end
def RI:List SV→List Entry→Option Out
 | [.one ⟨false,[.ref 0]⟩,.one ⟨false,[.ref 1]⟩],[.row false 172 (.pair (.int .i64) (.pair (.int .i64) (.int .i64))) x0,.row false 172 (.pair (.int .i64) (.pair (.int .i64) (.int .i64))) x1]=>some ⟨.one ⟨false,[.val (.bool (Em x0 x1))]⟩,[.row false 172 abM x0,.row false 172 abM x1],[],[En x0 x1]⟩
 |_,_=>none
def aby:PF prog:=PF.ofG prog [SN] [cF.F] aN 103 f103 func103 (LOk.fnT (l:= [aL f103 0]) (by kernel_rfl) (.cons TU (.nil _))) RI (by
 intro vs es r h;unfold RI at h;split at h
 ·cases h;kernel_rfl
 ·cases h)
abbrev fg:=Int×Int×List (Int×(Int×Int))
section
variable (y0 y1:Int)(y2:List (Int×(Int×Int)))
def ol:Int×Int:=(Option.getD y2[Int.toNat y0]? ((0:Int),(0:Int),(0:Int))).2
def jg:List (Int×Int×Int):=List.set y2 y0.toNat (y1,(ol y0 y2).1,(ol y0 y2).2)
def om:Int×Int×Int:=Option.getD (jg y0 y1 y2)[Int.toNat y0]? ((0:Int),(0:Int),(0:Int))
def oo:Int:=IntKind.wrap .i64 (y1 + (1:Int))
def jh:List (Int×Int×Int):=List.set (jg y0 y1 y2) y0.toNat ((om y0 y1 y2).1,oo y1,(om y0 y1 y2).2.2)
def oq:Int:=IntKind.wrap .i64 (oo y1 + (1:Int))
def ot:Int×Int×Int:=Option.getD (jh y0 y1 y2)[Int.toNat y0]? ((0:Int),(0:Int),(0:Int))
def pp:Bool:=ltI y0 (↑y2.length:Int)
def ml:Bool:=leI (0:Int) y0
def sQ:Bool:=ltN y0.toNat y2.length
def sR:Bool:=ltI y0 (↑(List.length (jg y0 y1 y2)):Int)
def sS:Bool:=ltN y0.toNat (List.length (jg y0 y1 y2))
def sU:Bool:=ltI y0 (↑(List.length (jh y0 y1 y2)):Int)
def sV:Bool:=ltN y0.toNat (List.length (jh y0 y1 y2))
def sW:Int:=IntKind.wrap .i64 (y0 + (1:Int))
def sX:Int:=IntKind.wrap .i64 (oq y1 + (1:Int))
def sY:List (Int×(Int×Int)):=List.set (jh y0 y1 y2) y0.toNat ((ot y0 y1 y2).1,((ot y0 y1 y2).2).1,oq y1)
end
def Tq:fg→List (Nat×SV)
 |(y0,y1,_)=> [(5,(.one ⟨false,[.val (.int .i64 y0)]⟩)),(0,(.one ⟨false,[.ref 0]⟩)),(1,(.one ⟨false,[.val (.int .i64 y1)]⟩))]
def To:fg→List (Nat×Entry)
 |(_,_,y2)=> [(0,(.row true 172 abM y2))]
def Ty:Nat→fg→List (Nat×SV)
 |_,(_,y1,_)=> [(1,(.one ⟨false,[.val (.int .i64 y1)]⟩))]
def Tw:Nat→fg→List (Nat×Entry)
 |_,(_,_,y2)=> [(0,(.row true 172 abM y2))]
def ro:fg→LT fg
 |(y0,y1,y2)=> .ite (pp y0 y2) (.need [ml y0,pp y0 y2,sQ y0 y2] (.need [ml y0,sR y0 y1 y2,sS y0 y1 y2] (.need [ml y0,sU y0 y1 y2,sV y0 y1 y2] (.nrm ((sW y0),sX y1,(sY y0 y1 y2)) [(0,0)])))) (.ext 0 [(0,0)])
def Dd(s:St):Option fg:=
 (match s.look 5 with
 |some ⟨none,.one ⟨false,[.val (.int .i64 y0)]⟩⟩=>
 (match s.look 0 with
 |some ⟨none,.one ⟨false,[.ref 0]⟩⟩=>
 (match s.look 1 with
 |some ⟨none,.one ⟨false,[.val (.int .i64 y1)]⟩⟩=>
 (match s.ent 0 with
 |some (.row true 172 (.pair (.int .i64) (.pair (.int .i64) (.int .i64))) y2)=>
 some (y0,y1,y2)
 |_=>none)
 |_=>none)
 |_=>none)
 |_=>none)
def cz:Lp fg where
 h:=⟨[6,7,8,9,12,13,14,15,16,17,18,1,19,20,21,22,23,24,25,26,27,28,29,30,31,32,10,11,5],[0],[],[]⟩
 JL:=Tq
 JE:=To
 XL:=Ty
 XE:=Tw
 q:=fun j=>match j with | _=> .exit 0
 tags:= [0]
 lt:=ro
 fuel:=fun(y0,y1,y2)=>y0.natAbs + y1.natAbs + y2.length
 fix:=fun(_,_,_) (y0,y1,y2)=>(y0,y1,y2)
 σ:= [(0,0)]
 rd:=Dd
theorem Sl:LoopOk prog (fun k=>Nat.blt k Tryz.f104.ntmps) cz.F (aL f104 0):=by
 refine Lp.ok (tbl:= []) (lf:= []) aN cz (by kernel_rfl) (LOk.nil _) (fun _=>rfl) (fun _ _=>rfl) ?_ ?_ ?_ ?_ (fun _=>rfl) ?_
 ·rintro⟨y0,y1,y2⟩;kernel_rfl
 ·rintro⟨y0,y1,y2⟩;kernel_rfl
 ·intro s x h
  have h:Dd s=some x:=h
  unfold Dd at h
  repeat' split at h
  all_goals cases h
  exact⟨aa (by assumption) rfl (aa (by assumption) rfl (aa (by assumption) rfl (rfl))),ab rfl (by assumption) rfl (rfl)⟩
 ·rintro⟨y0,y1,y2⟩;kernel_rfl
 ·rintro⟨y0,y1,y2⟩ z;exact(And.intro rfl trivial)
section
variable (x0:Int)(x1:List (Int×Int×Int))
def uZ:Int×Int×List (Int×Int×Int):=((0:Int),x0,x1)
def zZ:Int×List (Int×Int×Int):=(Lp.res cz (uZ x0 x1)).2.2
def HR:Int:=(zZ x0 x1).1
def HS:List (Int×(Int×Int)):=(zZ x0 x1).2
def HT:Bool:=allT [Lp.fin cz (uZ x0 x1)]
end
def Pk:List SV→List Entry→Option Out
 | [.one ⟨false,[.ref 0]⟩,.one ⟨false,[.val (.int .i64 x0)]⟩],[.row true 172 (.pair (.int .i64) (.pair (.int .i64) (.int .i64))) x1]=>some ⟨.one ⟨false,[.val (.int .i64 (HR x0 x1))]⟩,[.row true 172 abM (HS x0 x1)],[],[HT x0 x1]⟩
 |_,_=>none
def Yg:PF prog:=PF.ofG prog [] [cz.F] aN 104 f104 func104 (LOk.fnT (l:= [aL f104 0]) (by kernel_rfl) (.cons Sl (.nil _))) Pk (by
 intro vs es r h;unfold Pk at h;split at h
 ·cases h;kernel_rfl
 ·cases h)
abbrev ff:=Int×Int×List (Int×(Int×Int))
section
variable (y0 y1:Int)(y2:List (Int×(Int×Int)))
def lj:Int×Int×Int:=Option.getD y2[Int.toNat y0]? ((0:Int),(0:Int),(0:Int))
def oi:Int:=IntKind.wrap .i64 (y1 + (1:Int))
def oj:Int:=IntKind.wrap .i64 (oi y1 + (1:Int))
def jY:Bool:=ltI y0 (↑y2.length:Int)
def mi:Bool:=leI (0:Int) y0
def mj:Bool:=ltN y0.toNat y2.length
def sL:Bool:=(lj y0 y2).1!=y1
end
def fh:Int:=(-1:Int)
section
variable (y0 y1:Int)(y2:List (Int×(Int×Int)))
def sM:Bool:=((lj y0 y2).2).1!=oi y1
def sN:Bool:=(lj y0 y2).2.2!=oj y1
def sO:Int:=IntKind.wrap .i64 (y0 + (1:Int))
def sP:Int:=IntKind.wrap .i64 (oj y1 + (1:Int))
end
def Tp:ff→List (Nat×SV)
 |(y0,y1,_)=> [(5,(.one ⟨false,[.val (.int .i64 y0)]⟩)),(0,(.one ⟨false,[.ref 0]⟩)),(1,(.one ⟨false,[.val (.int .i64 y1)]⟩))]
def Tn:ff→List (Nat×Entry)
 |(_,_,y2)=> [(0,(.row false 172 abM y2))]
def Tx:Nat→ff→List (Nat×SV)
 |0,(_,_,_)=> [(4,(.one ⟨false,[.val (.int .i64 (fh))]⟩))]
 |1,(_,_,_)=> [(4,(.one ⟨false,[.val (.int .i64 (fh))]⟩))]
 |2,(_,_,_)=> [(4,(.one ⟨false,[.val (.int .i64 (fh))]⟩))]
 |_,(_,y1,_)=> [(1,(.one ⟨false,[.val (.int .i64 y1)]⟩))]
def Tv:Nat→ff→List (Nat×Entry)
 |0,(_,_,y2)=> [(0,(.row false 172 abM y2))]
 |1,(_,_,y2)=> [(0,(.row false 172 abM y2))]
 |2,(_,_,y2)=> [(0,(.row false 172 abM y2))]
 |_,(_,_,y2)=> [(0,(.row false 172 abM y2))]
def rn:ff→LT ff
 |(y0,y1,y2)=> .ite (jY y0 y2) (.need [mi y0,jY y0 y2,mj y0 y2] (.ite (sL y0 y1 y2) (.ext 0 [(0,0)]) (.need [mi y0,jY y0 y2,mj y0 y2] (.ite (sM y0 y1 y2) (.ext 1 [(0,0)]) (.need [mi y0,jY y0 y2,mj y0 y2] (.ite (sN y0 y1 y2) (.ext 2 [(0,0)]) (.nrm ((sO y0),sP y1,y2) [(0,0)]))))))) (.ext 3 [(0,0)])
def Dc(s:St):Option ff:=
 (match s.look 5 with
 |some ⟨none,.one ⟨false,[.val (.int .i64 y0)]⟩⟩=>
 (match s.look 0 with
 |some ⟨none,.one ⟨false,[.ref 0]⟩⟩=>
 (match s.look 1 with
 |some ⟨none,.one ⟨false,[.val (.int .i64 y1)]⟩⟩=>
 (match s.ent 0 with
 |some (.row false 172 (.pair (.int .i64) (.pair (.int .i64) (.int .i64))) y2)=>
 some (y0,y1,y2)
 |_=>none)
 |_=>none)
 |_=>none)
 |_=>none)
def bk:Lp ff where
 h:=⟨[6,7,8,9,12,13,14,15,16,17,18,4,19,20,1,21,22,23,24,25,26,27,28,29,30,31,32,33,34,35,36,37,38,10,11,5],[0],[],[]⟩
 JL:=Tp
 JE:=Tn
 XL:=Tx
 XE:=Tv
 q:=fun j=>match j with | 0=> .ret | 1=> .ret | 2=> .ret | _=> .exit 0
 tags:= [0,1,2,3]
 lt:=rn
 fuel:=fun(y0,y1,y2)=>y0.natAbs + y1.natAbs + y2.length
 fix:=fun(_,_,y2) (y0,y1,_)=>(y0,y1,y2)
 σ:= [(0,0)]
 rd:=Dc
theorem Sk:LoopOk prog (fun k=>Nat.blt k Tryz.f105.ntmps) bk.F (aL f105 0):=by
 refine Lp.ok (tbl:= []) (lf:= []) aN bk (by kernel_rfl) (LOk.nil _) (fun _=>rfl) (fun j _=>by unfold bk;match j with | 0=>rfl | 1=>rfl | 2=>rfl | _ + 3=>rfl) ?_ ?_ ?_ ?_ (fun _=>rfl) ?_
 ·rintro⟨y0,y1,y2⟩;kernel_rfl
 ·rintro⟨y0,y1,y2⟩;kernel_rfl
 ·intro s x h
  have h:Dc s=some x:=h
  unfold Dc at h
  repeat' split at h
  all_goals cases h
  exact⟨aa (by assumption) rfl (aa (by assumption) rfl (aa (by assumption) rfl (rfl))),ab rfl (by assumption) rfl (rfl)⟩
 ·rintro⟨y0,y1,y2⟩;kernel_rfl
 ·rintro⟨y0,y1,y2⟩ z;exact(And.intro (And.intro trivial (And.intro trivial (And.intro trivial rfl))) trivial)
section
variable (x0:Int)(x1:List (Int×Int×Int))
def oh:Int×Int×List (Int×Int×Int):=((0:Int),x0,x1)
def BI:Int:=bif Nat.beq ((Lp.res bk (oh x0 x1)).1) (0:Nat)then fh else bif Nat.beq ((Lp.res bk (oh x0 x1)).1) (1:Nat)then fh else bif Nat.beq ((Lp.res bk (oh x0 x1)).1) (2:Nat)then fh else ((Lp.res bk (oh x0 x1)).2.2).1
def HQ:Bool:=allT [Lp.fin bk (oh x0 x1)]
end
def Pj:List SV→List Entry→Option Out
 | [.one ⟨false,[.ref 0]⟩,.one ⟨false,[.val (.int .i64 x0)]⟩],[.row false 172 (.pair (.int .i64) (.pair (.int .i64) (.int .i64))) x1]=>some ⟨.one ⟨false,[.val (.int .i64 (BI x0 x1))]⟩,[.row false 172 abM x1],[],[HQ x0 x1]⟩
 |_,_=>none
def Yf:PF prog:=PF.ofG prog [] [bk.F] aN 105 f105 func105 (LOk.fnT (l:= [aL f105 0]) (by kernel_rfl) (.cons Sk (.nil _))) Pj (by
 intro vs es r h;unfold Pj at h;split at h
 ·cases h;kernel_rfl
 ·cases h)
abbrev BS:=Int×Int×Int
def YU(k n:Int)(l:List Int)(s:BS):BS:=(iy k n s.1 s.2.1 s.2.2 l,iz k s.2.1 s.2.2 l,iA k n s.1 s.2.2 l)
def aq5(k n:Int)(l:List Int)(s:BS):Int:=gG k n s.1 s.2.1 s.2.2 l
theorem aqa{k n a b c:Int}{s:ByteArray}{l:List Int}(hB:VF k s n=true)(hP:possB k n a b c=true)(hA:bitsB (takesK k) l=true):
  (BL k n a b c l,BM k b c l,BN k n a b c l)=YU k n l (a,b,c)∧possB k n (YU k n l (a,b,c)).1 (YU k n l (a,b,c)).2.1 (YU k n l (a,b,c)).2.2=true:=by
 obtain⟨_,e1,e2,e3,_,_,e6⟩:=alT hB hP hA
 exact⟨by rw [e1,e2,e3];rfl,e6⟩
theorem Lp.inv{X:Type}(p:Lp X)(I Q:Nat→X→Prop)
  (hs: ∀ k x,I (k + 1) x→(∃ j,(p.lt x).out=some (.inl j)∧Q j x)∨ ∃ y,(p.lt x).out=some (.inr y)∧I k y)
  (he: ∀ x,I 0 x→ ∃ j,(p.lt x).out=some (.inl j)∧Q j x) (N:Nat) (x:X) (hN:N≤999) (h:I N x):
  p.fin x=true∧ ∃ j y,p.res x=(j,y)∧Q j y:=by
 have jb: ∀ (k:Nat) (x:X),I k x→ ∃ j y,Qv p.lt (k + 1) x=some (j,y)∧Q j y:=by
  intro k
  induction k with
  |zero=>
   intro x h
   obtain⟨j,h1,h2⟩:=he x h
   exact⟨j,x,agf _ h1,h2⟩
  |succ k ih=>
   intro x h
   rcases hs k x h with⟨j,h1,h2⟩ | ⟨y,h1,h2⟩
   ·exact⟨j,x,agf _ h1,h2⟩
   ·obtain⟨j,z,h3,h4⟩:=ih y h2
    exact⟨j,z,by rw [ak0 _ h1];exact h3,h4⟩
 obtain⟨j,y,h1,h2⟩:=jb N x h
 obtain⟨r1,r2⟩:=p.run h1 (apY (by omega))
 exact⟨r1,j,y,r2,h2⟩
abbrev TM:=Int×ByteArray×Int
theorem al9{a b:ByteArray}:a.toList=b.toList↔a=b:=by
 constructor
 ·intro h
  rw [Go.Lib.toList_data,Go.Lib.toList_data]at h
  exact ByteArray.ext (Array.toList_inj.1 h)
 ·intro h;rw [h]
theorem anV(N:Nat)(hN:N≤20)(k:Int)(h0:0≤k)(hm:k≤9223372036854775807)(hk:k < 10 ^ N)(s:ByteArray)(hs:s.size=0):
  ki.fin (k,s)=true∧ ∃ j r,ki.res (k,s)=(j,r)∧r.2.size≤20:=by
 refine ki.inv (fun m x=>(0≤x.1∧x.1 < 10 ^ m)∧(m≤N∧x.1≤9223372036854775807)∧x.2.size≤N - m) (fun _ r=>r.2.size≤20) (fun m x hx=> ?_) (fun x hx=> ?_) N _ (by omega) ⟨⟨h0,hk⟩,⟨Nat.le_refl _,hm⟩,by simp only;omega⟩
 ·obtain⟨y0,y1⟩:=x
  obtain⟨⟨h1,h2⟩,⟨hm,hm2⟩,hl⟩:=hx
  simp only at h1 h2 hl hm2
  by_cases hz:0 < y0
  ·refine .inr ⟨(Int.tdiv y0 10,qh y0++y1),?_,⟨?_,?_⟩,⟨by omega,?_⟩,?_⟩
   ·have t1:ltI 0 y0=true:=dO hz
    have Ln:(qh y0).size=1:=by simp [qh,strOfNums_size]
    have t2:leN ((qh y0).size + y1.size) 9223372036854775807=true:=dv (by omega)
    have hw:IntKind.i64.wrap (Int.tdiv y0 10)=Int.tdiv y0 10:=by
     rw [Int.tdiv_eq_ediv_of_nonneg h1];exact aR (by omega) (by omega)
    simp only [ki,FU,LT.out,HW,NL,TN,TO,TP,t1,t2,hw,allT,cond_true]
    rfl
   ·simp only;rw [Int.tdiv_eq_ediv_of_nonneg h1];omega
   ·simp only;rw [Int.tdiv_eq_ediv_of_nonneg h1]
    rw [Int.pow_succ]at h2;omega
   ·simp only;rw [Int.tdiv_eq_ediv_of_nonneg h1];omega
   ·have Ln:(qh y0).size=1:=by simp [qh,strOfNums_size]
    simp only [ByteArray.size_append,Ln];omega
  ·refine .inl ⟨0,?_,by simp only;omega⟩
   simp [ki,FU,LT.out,HW,show ltI 0 y0=false from QB (by omega)]
 ·obtain⟨y0,y1⟩:=x
  obtain⟨⟨h1,h2⟩,⟨hm,hm2⟩,hl⟩:=hx
  simp only at h1 h2 hl hm2
  have:y0=0:=by simp at h2;omega
  subst this
  exact⟨0,by simp [ki,FU,LT.out,HW],by simp only;omega⟩
theorem amG(k:Int)(h:(leI 0 k&&leI k 9223372036854775807)=true):IC k=true:=by
 simp only [Bool.and_eq_true,EV]at h
 obtain⟨w1,j,r,w2,w3⟩:=anV 20 (by omega) k h.1 h.2 (by omega) ⟨#[]⟩ rfl
 simp only [IC,QP,w1,w2,allT,Bool.or_true,cond_true,Bool.or_eq_true]
 have:leN (ByteArray.size ⟨#[109]⟩ + r.2.size) 9223372036854775807=true:=dv (by have:(ByteArray.size ⟨#[109]⟩)=1:=rfl;omega)
 simp [this]
def YL:List SV→List Entry→Option Out
 | [.one ⟨false,[.val (.int .i64 x0)]⟩],[]=>some ⟨.one ⟨false,[.val (.string (oc x0))]⟩,[],[],[leI 0 x0&&leI x0 9223372036854775807]⟩
 |_,_=>none
def Nt:PF prog:=PF.alt Sp YL (by
 intro args es o h cB;unfold YL at h;split at h
 ·rename_i x0
  cases h
  have cB:=mq cB
  have hh:=amG x0 cB
  have en:=hh
  exact rg rfl (lJ en) rfl rfl rfl
 ·cases h)
def akt:List TM→Nat
 | []=>0
 |t::r=>t.2.1.size + akt r
def ao4(xs ys:List (Int×ByteArray×Int)):Bool:=decide (xs=ys)
theorem ao5(xs:List (Int×ByteArray×Int)):ao4 xs xs=true:=by simp [ao4]
def vQ(y1:List (Int×(ByteArray×Int)))(b:Nat):(List (Int×(ByteArray×Int)))→Nat ⊕ (List (Int×(ByteArray×Int)))
 |y2=>(.inr (List.set y2 b ((Option.getD y1[b]? ((0:Int),ByteArray.empty,(0:Int))).1,((Option.getD y1[b]? ((0:Int),ByteArray.empty,(0:Int))).2).1,(Option.getD y1[b]? ((0:Int),ByteArray.empty,(0:Int))).2.2)))
def rS(y1:List (Int×(ByteArray×Int)))(i:Nat):(List (Int×(ByteArray×Int)))→oO
 |y2=>((i:Int),y1,y2)
def NY:oO→List (Int×(ByteArray×Int))
 |(_,_,y2)=>y2
theorem agx(y1 y2:List (Int×(ByteArray×Int)))(hn:y1.length≤9223372036854775807)(hl:y2.length=y1.length):
  iE.fin ((0:Int),y1,y2)=true∧iE.res ((0:Int),y1,y2)=((af (vQ y1) 0 (List.range y1.length) 0 y2).1,(rS y1) (af (vQ y1) 0 (List.range y1.length) 0 y2).2.1 (af (vQ y1) 0 (List.range y1.length) 0 y2).2.2):=by
 have jb:=iE.along (rS y1) NY (vQ y1) 0 (fun _ a=>a.length=y1.length) (List.range y1.length) y2 hl (by simp only [iE,rS,List.length_range];omega) (fun i b a hb hI=> ?_) (fun a hI=> ?_)
 ·exact jb
 ·obtain y2:=a
  obtain⟨rfl,eB⟩:=np hb
  have hw:IntKind.i64.wrap ((b:Int) + 1)=((b + 1:Nat):Int):=by rw [aR (by omega) (by omega)];omega
  have bM:ltI (b:Int) (y1.length:Int)=true:=dO (by omega)
  have vC:leI (0:Int) (b:Int)=true:=bw (by omega)
  have gI:ltN b y1.length=true:=fQ (by omega)
  refine⟨?_,?_,?_,?_⟩
  ·simp [um,Aj,Ak,EQ,ER,ES,ET,EU,CU,iE,LT.nds,allT,rS,bM,vC,gI,hI]
  ·simp [um,Aj,Ak,EQ,ER,ES,ET,EU,CU,iE,LT.each,rS,NY,hw,hI]
  ·simp only [um,Aj,Ak,EQ,ER,ES,ET,EU,CU,iE,LT.fn,rS,NY,vQ,Int.toNat_natCast,bM,cond_true]
  ·intro a' hf;simp only [vQ,Sum.inr.injEq]at hf;subst hf;simpa using hI
 ·obtain y2:=a
  simp [um,Aj,Ak,EQ,ER,ES,ET,EU,CU,iE,LT.out,rS,List.length_range]
def zP(y1 y2:List (Int×(ByteArray×Int)))(b:Nat):(Unit)→Nat ⊕ (Unit)
 |_=>(bif(!MQ ((Option.getD y1[b]? ((0:Int),ByteArray.empty,(0:Int))).1) (((Option.getD y1[b]? ((0:Int),ByteArray.empty,(0:Int))).2).1) ((Option.getD y1[b]? ((0:Int),ByteArray.empty,(0:Int))).2.2) ((Option.getD y2[b]? ((0:Int),ByteArray.empty,(0:Int))).1) (((Option.getD y2[b]? ((0:Int),ByteArray.empty,(0:Int))).2).1) ((Option.getD y2[b]? ((0:Int),ByteArray.empty,(0:Int))).2.2))then(.inl 0)else(.inr ()))
def uE(y1 y2:List (Int×(ByteArray×Int)))(i:Nat):(Unit)→oK
 |_=>((i:Int),y1,y2)
def NU:oK→Unit
 |(_,_,_)=>()
theorem agt(y1 y2:List (Int×(ByteArray×Int))) (hn:y1.length≤9223372036854775807) (he:y2.length=y1.length):
  gA.fin ((0:Int),y1,y2)=true∧gA.res ((0:Int),y1,y2)=((af (zP y1 y2) 1 (List.range y1.length) 0 ()).1,(uE y1 y2) (af (zP y1 y2) 1 (List.range y1.length) 0 ()).2.1 (af (zP y1 y2) 1 (List.range y1.length) 0 ()).2.2):=by
 have jb:=gA.along (uE y1 y2) NU (zP y1 y2) 1 (fun _ _=>True) (List.range y1.length) () (by trivial) (by simp only [gA,uE,List.length_range];omega) (fun i b a hb hI=> ?_) (fun a hI=> ?_)
 ·exact jb
 ·obtain⟨⟩:=a
  obtain⟨rfl,eB⟩:=np hb
  have hw:IntKind.i64.wrap ((b:Int) + 1)=((b + 1:Nat):Int):=by rw [aR (by omega) (by omega)];omega
  have bM:ltI (b:Int) (y1.length:Int)=true:=dO (by omega)
  have vC:leI (0:Int) (b:Int)=true:=bw (by omega)
  have gI:ltN b y1.length=true:=fQ (by omega)
  refine⟨?_,?_,?_,?_⟩
  ·simp [ui,uj,zX,zY,Et,Eu,Ev,Ew,Ey,CQ,gA,LT.nds,allT,uE,bM,vC,gI,he]
  ·simp [ui,uj,zX,zY,Et,Eu,Ev,Ew,Ey,CQ,gA,LT.each,uE,NU,hw,he]
  ·simp only [ui,uj,zX,zY,Et,Eu,Ev,Ew,Ey,CQ,gA,LT.fn,uE,NU,zP,Int.toNat_natCast,bM,cond_true]
  ·exact fun _ _=>trivial
 ·obtain⟨⟩:=a
  simp [ui,uj,zX,zY,Et,Eu,Ev,Ew,Ey,CQ,gA,LT.out,uE,List.length_range]
theorem aoq(xs:List (Int×ByteArray×Int))(hn:leN xs.length 1048576=true):PG xs=xs∧PH xs=true:=by
 have hn:=fX.1 hn
 have hr:(List.replicate (Int.toNat (xs.length:Int)) ((0:Int),(⟨#[]⟩:ByteArray),(0:Int))).length=xs.length:=by simp
 obtain⟨w1,w2⟩:=agx xs (List.replicate (Int.toNat (xs.length:Int)) ((0:Int),(⟨#[]⟩:ByteArray),(0:Int))) (by omega) hr
 have hc:=Xl (xs:=xs) (d:=((0:Int),(⟨#[]⟩:ByteArray),(0:Int))) (g:=fun x=>x) (f:=vQ xs) (e:=0) (fun b a=>rfl) hr
 rw [hc]at w2
 refine⟨?_,?_⟩
 ·simp only [Nr,PG,PH,w2,rS];simp
 ·simp only [Nr,PG,PH,w1,allT];simp;omega
def aaB:List SV→List Entry→Option Out
 | [.one ⟨false,[.ref 0]⟩],[.row false 175 (.pair (.int .i64) (.pair (.str) (.int .i64))) x0]=>some ⟨.one ⟨false,[.ref 1]⟩,[.row false 175 acD x0],[.row true 178 acD x0],[leN x0.length 1048576]⟩
 |_,_=>none
def Ua:PF prog:=PF.alt ajC aaB (by
 intro args es o h cB;unfold aaB at h;split at h
 ·rename_i x0
  cases h
  have cB:=mq cB
  have hh:=aoq x0 cB
  obtain⟨e0,en⟩:=hh
  exact rg rfl (lJ en) rfl rfl (by simp only [e0] <;> rfl)
 ·cases h)
theorem anF(xs ys:List (Int×ByteArray×Int))(hn:leN xs.length 9223372036854775807=true):Pz xs ys=ao4 xs ys∧PA xs ys=true:=by
 have hn:=fX.1 hn
 unfold ao4
 have h3: ∀ a b:Int×ByteArray×Int,(!MQ a.1 a.2.1 a.2.2 b.1 b.2.1 b.2.2)= !decide (a=b):=fun a b=>by
  obtain⟨a1,a2,a3⟩:=a;obtain⟨b1,b2,b3⟩:=b
  simp only [MQ,Prod.mk.injEq]
  by_cases h1:a1=b1 <;> by_cases h2:a2=b2 <;> by_cases h3:a3=b3 <;> simp [h1,h2,h3,al9]
 by_cases hl:ys.length=xs.length
 ·obtain⟨w1,w2⟩:=agt xs ys hn hl
  have ha:=aiR (d:=((0:Int),ByteArray.empty,(0:Int))) hl (P:=fun b=> !decide (Option.getD xs[b]? ((0:Int),ByteArray.empty,(0:Int))=Option.getD ys[b]? ((0:Int),ByteArray.empty,(0:Int)))) (fun b=>rfl)
  rw [iH (P:=fun b=> !decide (Option.getD xs[b]? ((0:Int),ByteArray.empty,(0:Int))=Option.getD ys[b]? ((0:Int),ByteArray.empty,(0:Int)))) (j:=0) (fun b=>by simp only [zP,h3]),ha]at w2
  simp only [Nh,Ni,Pz,PA,w1,w2,allT]
  by_cases he:xs=ys
  ·subst he;simp;decide
  ·simp [he,hl]
 ·have QG:xs≠ys:=fun h=>hl (by rw [h])
  simp [Nh,Ni,Pz,PA,allT,QG]
  omega
def aaz:List SV→List Entry→Option Out
 | [.one ⟨false,[.ref 0]⟩,.one ⟨false,[.ref 1]⟩],[.row false 178 (.pair (.int .i64) (.pair (.str) (.int .i64))) x0,.row false 178 (.pair (.int .i64) (.pair (.str) (.int .i64))) x1]=>some ⟨.one ⟨false,[.val (.bool (ao4 x0 x1))]⟩,[.row false 178 acD x0,.row false 178 acD x1],[],[leN x0.length 9223372036854775807]⟩
 |_,_=>none
def TY:PF prog:=PF.alt ajA aaz (by
 intro args es o h cB;unfold aaz at h;split at h
 ·rename_i x0 x1
  cases h
  have cB:=mq cB
  have hh:=anF x0 x1 cB
  obtain⟨e0,en⟩:=hh
  exact rg rfl (lJ en) (by simp only [e0] <;> rfl) rfl rfl
 ·cases h)
def aoY(xs ys:List (Int×Int×Int)):Bool:=decide (xs=ys)
theorem aoZ(xs:List (Int×Int×Int)):aoY xs xs=true:=by simp [aoY]
def qT(y1 y2:List (Int×(Int×Int)))(b:Nat):(Unit)→Nat ⊕ (Unit)
 |_=>(bif(!Aw ((Option.getD y1[b]? ((0:Int),(0:Int),(0:Int))).1) (((Option.getD y1[b]? ((0:Int),(0:Int),(0:Int))).2).1) ((Option.getD y1[b]? ((0:Int),(0:Int),(0:Int))).2.2) ((Option.getD y2[b]? ((0:Int),(0:Int),(0:Int))).1) (((Option.getD y2[b]? ((0:Int),(0:Int),(0:Int))).2).1) ((Option.getD y2[b]? ((0:Int),(0:Int),(0:Int))).2.2))then(.inl 0)else(.inr ()))
def nc(y1 y2:List (Int×(Int×Int)))(i:Nat):(Unit)→ik
 |_=>((i:Int),y1,y2)
def Fw:ik→Unit
 |(_,_,_)=>()
theorem Xk(y1 y2:List (Int×(Int×Int))) (hn:y1.length≤9223372036854775807) (he:y2.length=y1.length):
  cF.fin ((0:Int),y1,y2)=true∧cF.res ((0:Int),y1,y2)=((af (qT y1 y2) 1 (List.range y1.length) 0 ()).1,(nc y1 y2) (af (qT y1 y2) 1 (List.range y1.length) 0 ()).2.1 (af (qT y1 y2) 1 (List.range y1.length) 0 ()).2.2):=by
 have jb:=cF.along (nc y1 y2) Fw (qT y1 y2) 1 (fun _ _=>True) (List.range y1.length) () (by trivial) (by simp only [cF,nc,List.length_range];omega) (fun i b a hb hI=> ?_) (fun a hI=> ?_)
 ·exact jb
 ·obtain⟨⟩:=a
  obtain⟨rfl,eB⟩:=np hb
  have hw:IntKind.i64.wrap ((b:Int) + 1)=((b + 1:Nat):Int):=by rw [aR (by omega) (by omega)];omega
  have bM:ltI (b:Int) (y1.length:Int)=true:=dO (by omega)
  have vC:leI (0:Int) (b:Int)=true:=bw (by omega)
  have gI:ltN b y1.length=true:=fQ (by omega)
  refine⟨?_,?_,?_,?_⟩
  ·simp [mX,mY,qU,qV,uR,uS,uT,uU,uV,tU,cF,LT.nds,allT,nc,bM,vC,gI,he]
  ·simp [mX,mY,qU,qV,uR,uS,uT,uU,uV,tU,cF,LT.each,nc,Fw,hw,he]
  ·simp only [mX,mY,qU,qV,uR,uS,uT,uU,uV,tU,cF,LT.fn,nc,Fw,qT,Int.toNat_natCast,bM,cond_true]
  ·exact fun _ _=>trivial
 ·obtain⟨⟩:=a
  simp [mX,mY,qU,qV,uR,uS,uT,uU,uV,tU,cF,LT.out,nc,List.length_range]
theorem agM(xs ys:List (Int×Int×Int))(hn:leN xs.length 9223372036854775807=true):Em xs ys=aoY xs ys∧En xs ys=true:=by
 have hn:=fX.1 hn
 unfold aoY
 have h3: ∀ a b:Int×Int×Int,(!Aw a.1 a.2.1 a.2.2 b.1 b.2.1 b.2.2)= !decide (a=b):=fun a b=>by
  obtain⟨a1,a2,a3⟩:=a;obtain⟨b1,b2,b3⟩:=b
  simp only [Aw,Prod.mk.injEq]
  by_cases h1:a1=b1 <;> by_cases h2:a2=b2 <;> by_cases h3:a3=b3 <;> simp [h1,h2,h3]
 by_cases hl:ys.length=xs.length
 ·obtain⟨w1,w2⟩:=Xk xs ys hn hl
  have ha:=aiR (d:=((0:Int),(0:Int),(0:Int))) hl (P:=fun b=> !decide (Option.getD xs[b]? ((0:Int),(0:Int),(0:Int))=Option.getD ys[b]? ((0:Int),(0:Int),(0:Int)))) (fun b=>rfl)
  rw [iH (P:=fun b=> !decide (Option.getD xs[b]? ((0:Int),(0:Int),(0:Int))=Option.getD ys[b]? ((0:Int),(0:Int),(0:Int)))) (j:=0) (fun b=>by simp only [qT,h3]),ha]at w2
  simp only [DG,DH,Em,En,w1,w2,allT]
  by_cases he:xs=ys
  ·subst he;simp;decide
  ·simp [he,hl]
 ·have QG:xs≠ys:=fun h=>hl (by rw [h])
  simp [DG,DH,Em,En,allT,QG]
  omega
def RK:List SV→List Entry→Option Out
 | [.one ⟨false,[.ref 0]⟩,.one ⟨false,[.ref 1]⟩],[.row false 172 (.pair (.int .i64) (.pair (.int .i64) (.int .i64))) x0,.row false 172 (.pair (.int .i64) (.pair (.int .i64) (.int .i64))) x1]=>some ⟨.one ⟨false,[.val (.bool (aoY x0 x1))]⟩,[.row false 172 abM x0,.row false 172 abM x1],[],[leN x0.length 9223372036854775807]⟩
 |_,_=>none
def KP:PF prog:=PF.alt aby RK (by
 intro args es o h cB;unfold RK at h;split at h
 ·rename_i x0 x1
  cases h
  have cB:=mq cB
  have hh:=agM x0 x1 cB
  obtain⟨e0,en⟩:=hh
  exact rg rfl (lJ en) (by simp only [e0] <;> rfl) rfl rfl
 ·cases h)
def upG{α:Type}(d:Nat)(mk:Int→α)(k:Int)(n:Nat):List α:=(List.range n).map fun(i:Nat)=>mk (k + d * (i:Int))
theorem aj7{α:Type}(d:Nat)(mk:Int→α)(k:Int)(n:Nat):(upG d mk k n).length=n:=by simp [upG]
theorem ana{α:Type}(d:Nat)(mk:Int→α)(k:Int)(n:Nat):upG d mk k (n + 1)=mk k::upG d mk (k + d) n:=by
 unfold upG
 rw [List.range_succ_eq_map,List.map_cons,List.map_map]
 congr 1
 ·simp
 ·refine List.map_congr_left fun i _=> ?_
  simp only [Function.comp]
  congr 1
  simp [Int.mul_add];omega
theorem afp{α:Type}{d:Nat}{mk:Int→α}{f:Nat→Int×List α→Nat ⊕ (Int×List α)}{e:Nat}
  (hf: ∀ (b:Nat) (k:Int) (xs:List α),b < xs.length→0≤k→k + d≤9223372036854775807→f b (k,xs)= .inr (k + d,xs.set b (mk k))):
  ∀ (ys pre:List α) (k:Int),0≤k→k + d * (ys.length:Int)≤9223372036854775807→
   af f e (List.range' pre.length ys.length) pre.length (k,pre++ys)=(e,pre.length + ys.length,(k + d * (ys.length:Int),pre++upG d mk k ys.length))
 | [],pre,k,_,_=>by simp [af,upG]
 |y::ys,pre,k,h0,h1=>by
  have hd:(d:Int) * (((y::ys).length:Nat):Int)=d + d * (ys.length:Int):=by simp [Int.mul_add];omega
  rw [hd]at h1
  have hp:0≤(d:Int) * (ys.length:Int):=Int.mul_nonneg (by omega) (by omega)
  have hs:(pre++y::ys).set pre.length (mk k)=(pre++ [mk k])++ys:=by rw [List.set_append_right _ _ (Nat.le_refl _)];simp
  have ih:=afp (e:=e) hf ys (pre++ [mk k]) (k + d) (by omega) (by omega)
  rw [List.length_cons,List.range'_succ]
  simp only [af,hf pre.length k (pre++y::ys) (by simp) h0 (by omega),hs]
  rw [List.length_append,List.length_singleton]at ih
  rw [ih,ana]
  simp [Int.mul_add]
  omega
theorem aj9{α:Type}{d:Nat}{mk:Int→α}{f:α→Int→Nat ⊕ Int}{e:Nat}(hf: ∀ (k:Int),0≤k→k + d≤9223372036854775807→f (mk k) k= .inr (k + d)):
  ∀ (n:Nat) (k:Int) (i:Nat),0≤k→k + d * (n:Int)≤9223372036854775807→af f e (upG d mk k n) i k=(e,i + n,k + d * (n:Int))
 |0,k,i,_,_=>by simp [af,upG]
 |n + 1,k,i,h0,h1=>by
  have hd:(d:Int) * ((n + 1:Nat):Int)=d + d * (n:Int):=by simp [Int.mul_add];omega
  rw [hd]at h1
  have hp:0≤(d:Int) * (n:Int):=Int.mul_nonneg (by omega) (by omega)
  rw [ana]
  simp only [af,hf k h0 (by omega)]
  rw [aj9 hf n (k + d) (i + 1) (by omega) (by omega),hd]
  simp only [Prod.mk.injEq,true_and]
  omega
def adq(d:Nat)(k:Int)(n:Nat):Bool:=leI 0 k&&leI (k + d * (n:Int)) 9223372036854775807
theorem WY{d:Nat}{k:Int}{n:Nat}:adq d k n=true↔0≤k∧k + d * (n:Int)≤9223372036854775807:=by simp [adq]
def jX(b:Nat):(Int×List (Int×(Int×Int)))→Nat ⊕ (Int×List (Int×(Int×Int)))
 |(y1,y2)=>(.inr ((IntKind.wrap .i64 ((IntKind.wrap .i64 ((IntKind.wrap .i64 (y1 + (1:Int))) + (1:Int))) + (1:Int))),(List.set (List.set (List.set y2 b (y1,((Option.getD y2[b]? ((0:Int),(0:Int),(0:Int))).2).1,(Option.getD y2[b]? ((0:Int),(0:Int),(0:Int))).2.2)) b ((Option.getD (List.set y2 b (y1,((Option.getD y2[b]? ((0:Int),(0:Int),(0:Int))).2).1,(Option.getD y2[b]? ((0:Int),(0:Int),(0:Int))).2.2))[b]? ((0:Int),(0:Int),(0:Int))).1,IntKind.wrap .i64 (y1 + (1:Int)),(Option.getD (List.set y2 b (y1,((Option.getD y2[b]? ((0:Int),(0:Int),(0:Int))).2).1,(Option.getD y2[b]? ((0:Int),(0:Int),(0:Int))).2.2))[b]? ((0:Int),(0:Int),(0:Int))).2.2)) b ((Option.getD (List.set (List.set y2 b (y1,((Option.getD y2[b]? ((0:Int),(0:Int),(0:Int))).2).1,(Option.getD y2[b]? ((0:Int),(0:Int),(0:Int))).2.2)) b ((Option.getD (List.set y2 b (y1,((Option.getD y2[b]? ((0:Int),(0:Int),(0:Int))).2).1,(Option.getD y2[b]? ((0:Int),(0:Int),(0:Int))).2.2))[b]? ((0:Int),(0:Int),(0:Int))).1,IntKind.wrap .i64 (y1 + (1:Int)),(Option.getD (List.set y2 b (y1,((Option.getD y2[b]? ((0:Int),(0:Int),(0:Int))).2).1,(Option.getD y2[b]? ((0:Int),(0:Int),(0:Int))).2.2))[b]? ((0:Int),(0:Int),(0:Int))).2.2))[b]? ((0:Int),(0:Int),(0:Int))).1,((Option.getD (List.set (List.set y2 b (y1,((Option.getD y2[b]? ((0:Int),(0:Int),(0:Int))).2).1,(Option.getD y2[b]? ((0:Int),(0:Int),(0:Int))).2.2)) b ((Option.getD (List.set y2 b (y1,((Option.getD y2[b]? ((0:Int),(0:Int),(0:Int))).2).1,(Option.getD y2[b]? ((0:Int),(0:Int),(0:Int))).2.2))[b]? ((0:Int),(0:Int),(0:Int))).1,IntKind.wrap .i64 (y1 + (1:Int)),(Option.getD (List.set y2 b (y1,((Option.getD y2[b]? ((0:Int),(0:Int),(0:Int))).2).1,(Option.getD y2[b]? ((0:Int),(0:Int),(0:Int))).2.2))[b]? ((0:Int),(0:Int),(0:Int))).2.2))[b]? ((0:Int),(0:Int),(0:Int))).2).1,(IntKind.wrap .i64 ((IntKind.wrap .i64 (y1 + (1:Int))) + (1:Int)))))))
def gH(i:Nat):(Int×List (Int×(Int×Int)))→fg
 |(y1,y2)=>((i:Int),y1,y2)
def Db:fg→Int×List (Int×(Int×Int))
 |(_,y1,y2)=>(y1,y2)
theorem UP(y1:Int)(y2:List (Int×(Int×Int)))(n:Nat)(hl:y2.length=n)(hn:n≤9223372036854775807):
  cz.fin ((0:Int),y1,y2)=true∧cz.res ((0:Int),y1,y2)=((af (jX) 0 (List.range n) 0 (y1,y2)).1,(gH) (af (jX) 0 (List.range n) 0 (y1,y2)).2.1 (af (jX) 0 (List.range n) 0 (y1,y2)).2.2):=by
 have jb:=cz.along (gH) Db (jX) 0 (fun _ a=>a.2.length=n) (List.range n) (y1,y2) hl (by simp only [cz,gH,List.length_range];omega) (fun i b a hb hI=> ?_) (fun a hI=> ?_)
 ·exact jb
 ·obtain⟨y1,y2⟩:=a
  obtain⟨rfl,eB⟩:=np hb
  have hI0:y2.length=n:=hI
  have hw:IntKind.i64.wrap ((b:Int) + 1)=((b + 1:Nat):Int):=by rw [aR (by omega) (by omega)];omega
  have bM:ltI (b:Int) (y2.length:Int)=true:=dO (by omega)
  have vC:leI (0:Int) (b:Int)=true:=bw (by omega)
  have gI:ltN b y2.length=true:=fQ (by omega)
  refine⟨?_,?_,?_,?_⟩
  ·simp [ol,jg,om,oo,jh,oq,ot,pp,ml,sQ,sR,sS,sU,sV,sW,sX,sY,ro,cz,LT.nds,allT,gH,bM,vC,gI]
  ·simp [ol,jg,om,oo,jh,oq,ot,pp,ml,sQ,sR,sS,sU,sV,sW,sX,sY,ro,cz,LT.each,gH,Db,hw]
  ·simp only [ol,jg,om,oo,jh,oq,ot,pp,ml,sQ,sR,sS,sU,sV,sW,sX,sY,ro,cz,LT.fn,gH,Db,jX,Int.toNat_natCast,bM,vC,gI,cond_true,Bool.cond_self]
  ·intro a' hf;simp only [jX,Sum.inr.injEq]at hf;subst hf;simp [hI0]
 ·obtain⟨y1,y2⟩:=a
  have hI0:y2.length=n:=hI
  simp [ol,jg,om,oo,jh,oq,ot,pp,ml,sQ,sR,sS,sU,sV,sW,sX,sY,ro,cz,LT.out,gH,hI0,List.length_range]
def mh(b:Int×(Int×Int)):(Int)→Nat ⊕ (Int)
 |y1=>(bif(b.1!=y1)then(.inl 0)else(bif(b.2.1!=(IntKind.wrap .i64 (y1 + (1:Int))))then(.inl 1)else(bif(b.2.2!=(IntKind.wrap .i64 ((IntKind.wrap .i64 (y1 + (1:Int))) + (1:Int))))then(.inl 2)else(.inr (IntKind.wrap .i64 ((IntKind.wrap .i64 ((IntKind.wrap .i64 (y1 + (1:Int))) + (1:Int))) + (1:Int)))))))
def jo(y2:List (Int×(Int×Int)))(i:Nat):(Int)→ff
 |y1=>((i:Int),y1,y2)
def Da:ff→Int
 |(_,y1,_)=>y1
theorem Mg(y2:List (Int×(Int×Int)))(y1:Int)(hn:y2.length≤9223372036854775807):
  bk.fin ((0:Int),y1,y2)=true∧bk.res ((0:Int),y1,y2)=((af (mh) 3 y2 0 y1).1,(jo y2) (af (mh) 3 y2 0 y1).2.1 (af (mh) 3 y2 0 y1).2.2):=by
 have jb:=bk.along (jo y2) Da (mh) 3 (fun _ _=>True) y2 y1 (by trivial) (by simp only [bk,jo];omega) (fun i b a hb hI=> ?_) (fun a hI=> ?_)
 ·exact jb
 ·obtain y1:=a
  have eB:=(List.getElem?_eq_some_iff.1 hb).1
  have il: ∀ d,Option.getD y2[i]? d=b:=fun d=>by rw [hb];rfl
  have hw:=tZ eB hn
  have bM:ltI (i:Int) (y2.length:Int)=true:=dO (by omega)
  have vC:leI (0:Int) (i:Int)=true:=bw (by omega)
  have gI:ltN i y2.length=true:=fQ eB
  refine⟨?_,?_,?_,?_⟩
  ·simp [lj,oi,oj,jY,mi,mj,sL,fh,sM,sN,sO,sP,rn,bk,LT.nds,allT,jo,bM,vC,gI,il]
  ·simp [lj,oi,oj,jY,mi,mj,sL,fh,sM,sN,sO,sP,rn,bk,LT.each,jo,Da,hw]
  ·simp only [lj,oi,oj,jY,mi,mj,sL,fh,sM,sN,sO,sP,rn,bk,LT.fn,jo,Da,mh,Int.toNat_natCast,bM,vC,gI,il,cond_true,Bool.cond_self]
  ·exact fun _ _=>trivial
 ·obtain y1:=a
  simp [lj,oi,oj,jY,mi,mj,sL,fh,sM,sN,sO,sP,rn,bk,LT.out,jo]
def qf(b:Nat):(Int×List (Int×(ByteArray×Int)))→Nat ⊕ (Int×List (Int×(ByteArray×Int)))
 |(y1,y2)=>(.inr ((IntKind.wrap .i64 ((IntKind.wrap .i64 ((IntKind.wrap .i64 (y1 + (1:Int))) + (1:Int))) + (1:Int))),(List.set (List.set (List.set y2 b (y1,((Option.getD y2[b]? ((0:Int),ByteArray.empty,(0:Int))).2).1,(Option.getD y2[b]? ((0:Int),ByteArray.empty,(0:Int))).2.2)) b ((Option.getD (List.set y2 b (y1,((Option.getD y2[b]? ((0:Int),ByteArray.empty,(0:Int))).2).1,(Option.getD y2[b]? ((0:Int),ByteArray.empty,(0:Int))).2.2))[b]? ((0:Int),ByteArray.empty,(0:Int))).1,oc (IntKind.wrap .i64 (y1 + (1:Int))),(Option.getD (List.set y2 b (y1,((Option.getD y2[b]? ((0:Int),ByteArray.empty,(0:Int))).2).1,(Option.getD y2[b]? ((0:Int),ByteArray.empty,(0:Int))).2.2))[b]? ((0:Int),ByteArray.empty,(0:Int))).2.2)) b ((Option.getD (List.set (List.set y2 b (y1,((Option.getD y2[b]? ((0:Int),ByteArray.empty,(0:Int))).2).1,(Option.getD y2[b]? ((0:Int),ByteArray.empty,(0:Int))).2.2)) b ((Option.getD (List.set y2 b (y1,((Option.getD y2[b]? ((0:Int),ByteArray.empty,(0:Int))).2).1,(Option.getD y2[b]? ((0:Int),ByteArray.empty,(0:Int))).2.2))[b]? ((0:Int),ByteArray.empty,(0:Int))).1,oc (IntKind.wrap .i64 (y1 + (1:Int))),(Option.getD (List.set y2 b (y1,((Option.getD y2[b]? ((0:Int),ByteArray.empty,(0:Int))).2).1,(Option.getD y2[b]? ((0:Int),ByteArray.empty,(0:Int))).2.2))[b]? ((0:Int),ByteArray.empty,(0:Int))).2.2))[b]? ((0:Int),ByteArray.empty,(0:Int))).1,((Option.getD (List.set (List.set y2 b (y1,((Option.getD y2[b]? ((0:Int),ByteArray.empty,(0:Int))).2).1,(Option.getD y2[b]? ((0:Int),ByteArray.empty,(0:Int))).2.2)) b ((Option.getD (List.set y2 b (y1,((Option.getD y2[b]? ((0:Int),ByteArray.empty,(0:Int))).2).1,(Option.getD y2[b]? ((0:Int),ByteArray.empty,(0:Int))).2.2))[b]? ((0:Int),ByteArray.empty,(0:Int))).1,oc (IntKind.wrap .i64 (y1 + (1:Int))),(Option.getD (List.set y2 b (y1,((Option.getD y2[b]? ((0:Int),ByteArray.empty,(0:Int))).2).1,(Option.getD y2[b]? ((0:Int),ByteArray.empty,(0:Int))).2.2))[b]? ((0:Int),ByteArray.empty,(0:Int))).2.2))[b]? ((0:Int),ByteArray.empty,(0:Int))).2).1,(IntKind.wrap .i64 ((IntKind.wrap .i64 (y1 + (1:Int))) + (1:Int)))))))
def pg(i:Nat):(Int×List (Int×(ByteArray×Int)))→lM
 |(y1,y2)=>((i:Int),y1,y2)
def KT:lM→Int×List (Int×(ByteArray×Int))
 |(_,y1,y2)=>(y1,y2)
theorem acN(y1:Int)(y2:List (Int×(ByteArray×Int)))(n:Nat)(hl:y2.length=n)(hn:n≤9223372036854775807)(h1:0≤y1)(h2:y1 + 3 * (n:Int)≤9223372036854775807):
  ft.fin ((0:Int),y1,y2)=true∧ft.res ((0:Int),y1,y2)=((af (qf) 0 (List.range n) 0 (y1,y2)).1,(pg) (af (qf) 0 (List.range n) 0 (y1,y2)).2.1 (af (qf) 0 (List.range n) 0 (y1,y2)).2.2):=by
 have jb:=ft.along (pg) KT (qf) 0 (fun i a=>a.2.length=n∧0≤a.1∧a.1 + 3 * ((n - i:Nat):Int)≤9223372036854775807) (List.range n) (y1,y2) ⟨hl,h1,by simpa using h2⟩ (by simp only [ft,pg,List.length_range];omega) (fun i b a hb hI=> ?_) (fun a hI=> ?_)
 ·exact jb
 ·obtain⟨y1,y2⟩:=a
  obtain⟨rfl,eB⟩:=np hb
  have hI0:y2.length=n:=hI.1
  have hw:IntKind.i64.wrap ((b:Int) + 1)=((b + 1:Nat):Int):=by rw [aR (by omega) (by omega)];omega
  have bM:ltI (b:Int) (y2.length:Int)=true:=dO (by omega)
  have vC:leI (0:Int) (b:Int)=true:=bw (by omega)
  have gI:ltN b y2.length=true:=fQ (by omega)
  refine⟨?_,?_,?_,?_⟩
  ·have hk:=hI.2
   simp only at hk
   have hw1:IntKind.i64.wrap (y1 + 1)=y1 + 1:=aR (by omega) (by omega)
   have h6:IC (y1 + 1)=true:=amG (y1 + 1) ((Bool.and_eq_true _ _).mpr ⟨bw (by omega),bw (by omega)⟩)
   simp [rm,vb,pd,vc,pe,vd,ve,wG,tg,AO,AP,AQ,AR,AU,AV,AW,AX,yU,yZ,ft,LT.nds,allT,pg,bM,vC,gI,hw1,h6]
  ·simp [rm,vb,pd,vc,pe,vd,ve,wG,tg,AO,AP,AQ,AR,AU,AV,AW,AX,yU,yZ,ft,LT.each,pg,KT,hw]
  ·simp only [rm,vb,pd,vc,pe,vd,ve,wG,tg,AO,AP,AQ,AR,AU,AV,AW,AX,yU,yZ,ft,LT.fn,pg,KT,qf,Int.toNat_natCast,bM,vC,gI,cond_true,Bool.cond_self]
  ·have hk:=hI.2
   simp only at hk
   intro a' hf;simp only [qf,Sum.inr.injEq]at hf
   subst hf
   refine⟨by simp [hI0],?_⟩
   simp only
   rw [aR (x:=y1 + 1) (by omega) (by omega),aR (x:=y1 + 1 + 1) (by omega) (by omega),aR (x:=y1 + 1 + 1 + 1) (by omega) (by omega)]
   omega
 ·obtain⟨y1,y2⟩:=a
  have hI0:y2.length=n:=hI.1
  simp [rm,vb,pd,vc,pe,vd,ve,wG,tg,AO,AP,AQ,AR,AU,AV,AW,AX,yU,yZ,ft,LT.out,pg,hI0,List.length_range]
def mkB(k:Int):Int×Int×Int:=(k,k + 1,k + 2)
theorem aqx(b:Nat)(k:Int)(xs:List (Int×Int×Int))(hb:b < xs.length)(h0:0≤k)(h1:k + (3:Nat)≤9223372036854775807):jX b (k,xs)= .inr (k + (3:Nat),xs.set b (mkB k)):=by
 have w1:IntKind.i64.wrap (k + 1)=k + 1:=aR (by omega) (by omega)
 have w2:IntKind.i64.wrap (k + 1 + 1)=k + 2:=by rw [aR (by omega) (by omega)];omega
 have w3:IntKind.i64.wrap (k + 2 + 1)=k + 3:=by rw [aR (by omega) (by omega)];omega
 simp [jX,mkB,w1,w2,w3,List.set_set,List.getElem?_set,hb]
def mkT(k:Int):TM:=(k,oc (k + 1),k + 2)
theorem aqy(b:Nat)(k:Int)(xs:List TM)(hb:b < xs.length)(h0:0≤k)(h1:k + (3:Nat)≤9223372036854775807):qf b (k,xs)= .inr (k + (3:Nat),xs.set b (mkT k)):=by
 have w1:IntKind.i64.wrap (k + 1)=k + 1:=aR (by omega) (by omega)
 have w2:IntKind.i64.wrap (k + 1 + 1)=k + 2:=by rw [aR (by omega) (by omega)];omega
 have w3:IntKind.i64.wrap (k + 2 + 1)=k + 3:=by rw [aR (by omega) (by omega)];omega
 simp [qf,mkT,w1,w2,w3,List.set_set,List.getElem?_set,hb]
theorem ap4(k:Int)(xs:List (Int×Int×Int))(h:(adq 3 k xs.length&&leN xs.length 9223372036854775807)=true):HR k xs=k + 3 * (xs.length:Int)∧HS k xs=upG 3 mkB k xs.length∧HT k xs=true:=by
 simp only [Bool.and_eq_true,fX]at h
 obtain⟨h0,h2⟩:=WY.1 h.1
 obtain⟨w1,w2⟩:=UP k xs xs.length rfl h.2
 have hw:=afp (e:=0) aqx xs [] k h0 h2
 rw [List.length_nil,List.nil_append,← List.range_eq_range']at hw
 rw [hw]at w2
 refine⟨?_,?_,?_⟩
 ·simp only [HR,uZ,zZ,w2,gH];rfl
 ·simp only [HS,uZ,zZ,w2,gH];rfl
 ·simp only [HT,uZ,w1,allT,cond_true]
theorem apf(k:Int)(xs:List TM)(h:(adq 3 k xs.length&&leN xs.length 9223372036854775807)=true):QM k xs=k + 3 * (xs.length:Int)∧QO k xs=true:=by
 simp only [Bool.and_eq_true,fX]at h
 obtain⟨h0,h2⟩:=WY.1 h.1
 obtain⟨w1,w2⟩:=acN k xs xs.length rfl h.2 h0 h2
 have hw:=afp (e:=0) aqy xs [] k h0 h2
 rw [List.length_nil,List.nil_append,← List.range_eq_range']at hw
 rw [hw]at w2
 refine⟨?_,?_⟩
 ·simp only [QM,JP,PC,w2,pg];rfl
 ·simp only [QO,JP,w1,allT,cond_true]
def Po:List SV→List Entry→Option Out
 | [.one ⟨false,[.ref 0]⟩,.one ⟨false,[.val (.int .i64 x0)]⟩],[.row true 172 (.pair (.int .i64) (.pair (.int .i64) (.int .i64))) x1]=>some ⟨.one ⟨false,[.val (.int .i64 (x0 + 3 * (x1.length:Int)))]⟩,[.row true 172 abM (upG 3 mkB x0 x1.length)],[],[adq 3 x0 x1.length&&leN x1.length 9223372036854775807]⟩
 |_,_=>none
def HZ:PF prog:=PF.alt Yg Po (by
 intro args es o h cB;unfold Po at h;split at h
 ·rename_i x0 x1
  cases h
  have cB:=mq cB
  have hh:=ap4 x0 x1 cB
  obtain⟨e0,e1,en⟩:=hh
  exact rg rfl (lJ en) (by simp only [e0] <;> rfl) (by simp only [e1] <;> rfl) rfl
 ·cases h)
def WC:List SV→List Entry→Option Out
 | [.one ⟨false,[.ref 0]⟩,.one ⟨false,[.val (.int .i64 x0)]⟩],[.row true 178 (.pair (.int .i64) (.pair (.str) (.int .i64))) x1]=>some ⟨.one ⟨false,[.val (.int .i64 (x0 + 3 * (x1.length:Int)))]⟩,[.row true 178 acD (QN x0 x1)],[],[adq 3 x0 x1.length&&leN x1.length 9223372036854775807]⟩
 |_,_=>none
def BR:PF prog:=PF.alt ahe WC (by
 intro args es o h cB;unfold WC at h;split at h
 ·rename_i x0 x1
  cases h
  have cB:=mq cB
  have hh:=apf x0 x1 cB
  obtain⟨e0,en⟩:=hh
  exact rg rfl (lJ en) (by simp only [e0] <;> rfl) rfl rfl
 ·cases h)
def akK(k:Int)(xs:List (Int×Int×Int)):Int:=BI k xs
theorem aqw(k:Int)(h0:0≤k)(h1:k + (3:Nat)≤9223372036854775807):mh (mkB k) k= .inr (k + (3:Nat)):=by
 have w1:IntKind.i64.wrap (k + 1)=k + 1:=aR (by omega) (by omega)
 have w2:IntKind.i64.wrap (k + 1 + 1)=k + 2:=by rw [aR (by omega) (by omega)];omega
 have w3:IntKind.i64.wrap (k + 2 + 1)=k + 3:=by rw [aR (by omega) (by omega)];omega
 simp [mh,mkB,w1,w2,w3]
theorem apU(k:Int)(n:Nat)(h:(adq 3 k n&&leN n 9223372036854775807)=true):akK k (upG 3 mkB k n)=k + 3 * (n:Int):=by
 simp only [Bool.and_eq_true,fX]at h
 obtain⟨h0,h2⟩:=WY.1 h.1
 obtain⟨w1,w2⟩:=Mg (upG 3 mkB k n) k (by rw [aj7];exact h.2)
 rw [aj9 (e:=3) aqw n k 0 h0 h2]at w2
 simp only [akK,BI,oh,w2,jo]
 rfl
theorem ao9(k:Int)(xs:List (Int×Int×Int))(h:leN xs.length 9223372036854775807=true):BI k xs=akK k xs∧HQ k xs=true:=by
 obtain⟨w1,w2⟩:=Mg xs k (fX.1 h)
 exact⟨rfl,by simp only [HQ,oh,w1,allT,cond_true]⟩
def Pn:List SV→List Entry→Option Out
 | [.one ⟨false,[.ref 0]⟩,.one ⟨false,[.val (.int .i64 x0)]⟩],[.row false 172 (.pair (.int .i64) (.pair (.int .i64) (.int .i64))) x1]=>some ⟨.one ⟨false,[.val (.int .i64 (akK x0 x1))]⟩,[.row false 172 abM x1],[],[leN x1.length 9223372036854775807]⟩
 |_,_=>none
def HY:PF prog:=PF.alt Yf Pn (by
 intro args es o h cB;unfold Pn at h;split at h
 ·rename_i x0 x1
  cases h
  have cB:=mq cB
  have hh:=ao9 x0 x1 cB
  obtain⟨e0,en⟩:=hh
  exact rg rfl (lJ en) (by simp only [e0] <;> rfl) rfl rfl
 ·cases h)
def ah8:Int→List TM→Int
 |k,[]=>k
 |k,t::r=>bif ltI (tT t.2.1 k) 0 then -1 else ah8 (tT t.2.1 k) r
def alX(k:Int)(ts:List TM):Int:=bif ltI (k - ts.length) 0 then -1 else ah8 (k - ts.length) ts
theorem apu{s:ByteArray}{k:Int}(hs:s.size≤9223372036854775807)(hk:0≤k∧k≤1048576):tT s k=bif ltI (k - (s.size:Int)) 0 then -1 else k - (s.size:Int):=by
 have hw:IntKind.i64.wrap (k - (s.size:Int))=k - (s.size:Int):=aR (by omega) (by omega)
 simp only [tT,TS,hw]
def tB(b:Int×(ByteArray×Int)):(Int)→Nat ⊕ (Int)
 |y1=>(bif(ltI (tT (b.2.1) y1) (0:Int))then(.inl 0)else(.inr (tT (b.2.1) y1)))
def rQ(y2:List (Int×(ByteArray×Int)))(i:Nat):(Int)→oM
 |y1=>((i:Int),y1,y2)
def NW:oM→Int
 |(_,y1,_)=>y1
theorem agv(y2:List (Int×(ByteArray×Int)))(y1:Int)(hn:y2.length≤9223372036854775807):
  eZ.fin ((0:Int),y1,y2)=true∧eZ.res ((0:Int),y1,y2)=((af (tB) 1 y2 0 y1).1,(rQ y2) (af (tB) 1 y2 0 y1).2.1 (af (tB) 1 y2 0 y1).2.2):=by
 have jb:=eZ.along (rQ y2) NW (tB) 1 (fun _ _=>True) y2 y1 (by trivial) (by simp only [eZ,rQ];omega) (fun i b a hb hI=> ?_) (fun a hI=> ?_)
 ·exact jb
 ·obtain y1:=a
  have eB:=(List.getElem?_eq_some_iff.1 hb).1
  have il: ∀ d,Option.getD y2[i]? d=b:=fun d=>by rw [hb];rfl
  have hw:=tZ eB hn
  have bM:ltI (i:Int) (y2.length:Int)=true:=dO (by omega)
  have vC:leI (0:Int) (i:Int)=true:=bw (by omega)
  have gI:ltN i y2.length=true:=fQ eB
  refine⟨?_,?_,?_,?_⟩
  ·simp [xW,Af,EI,EJ,EK,vV,EL,EM,CS,eZ,LT.nds,allT,rQ,bM,vC,gI,il]
  ·simp [xW,Af,EI,EJ,EK,vV,EL,EM,CS,eZ,LT.each,rQ,NW,hw]
  ·simp only [xW,Af,EI,EJ,EK,vV,EL,EM,CS,eZ,LT.fn,rQ,NW,tB,Int.toNat_natCast,bM,vC,gI,il,cond_true,Bool.cond_self]
  ·exact fun _ _=>trivial
 ·obtain y1:=a
  simp [xW,Af,EI,EJ,EK,vV,EL,EM,CS,eZ,LT.out,rQ]
theorem ang: ∀ (r:List TM) (i:Nat) (k:Int),(bif Nat.beq (af tB 1 r i k).1 0 then -1 else(af tB 1 r i k).2.2)=ah8 k r
 | [],i,k=>rfl
 |t::r,i,k=>by
  have hf:tB t k=bif ltI (tT t.2.1 k) 0 then .inl 0 else .inr (tT t.2.1 k):=rfl
  simp only [af,hf,ah8]
  cases h:ltI (tT t.2.1 k) 0 with
  |true=>rfl
  |false=>simp only [cond_false];exact ang r (i + 1) _
theorem arC(k:Int)(xs:List TM)(h:(leN xs.length 9223372036854775807&&(leI (-1) k&&leI k 1048576))=true):TQ k xs=alX k xs∧TR k xs=true:=by
 simp only [Bool.and_eq_true,fX,EV]at h
 have hw:IntKind.i64.wrap (k - (xs.length:Int))=k - (xs.length:Int):=aR (by omega) (by omega)
 obtain⟨w1,w2⟩:=agv xs (k - (xs.length:Int)) h.1
 have hs:=ang xs 0 (k - (xs.length:Int))
 have e:vV= -1:=rfl
 simp only [TQ,TR,Nk,Nl,hw,w1,w2,rQ,allT,Bool.or_true,cond_true,alX,e,hs,and_self]
theorem ah9: ∀ (r:List TM) (k:Int),(∀ t∈r,t.2.1.size≤9223372036854775807)→0≤k→k≤1048576→ltI (ah8 k r) 0=false→ah8 k r=k - akt r∧(akt r:Int)≤k
 | [],k,_,h0,h1,_=>by simp [ah8,akt];omega
 |t::r,k,hs,h0,h1,h=>by
  have ht:=apu (k:=k) (hs t (by simp)) ⟨h0,h1⟩
  simp only [ah8]at h ⊢
  cases h2:ltI (k - (t.2.1.size:Int)) 0 with
  |true=>rw [ht,h2]at h;rw [cond_true]at h;exact absurd (show ltI (-1) 0=false from h) (by decide)
  |false=>
   have h3:=vW.1 h2
   rw [h2,cond_false]at ht
   rw [ht,h2,cond_false]at h
   obtain⟨q1,q2⟩:=ah9 r _ (fun t ht=>hs t (by simp [ht])) h3 (by omega) h
   rw [ht,h2,cond_false,q1]
   simp only [akt]
   omega
theorem aoo{k:Int}{xs:List TM}(hs: ∀ t∈xs,t.2.1.size≤9223372036854775807)(hk:k≤1048576)(h:ltI (alX k xs) 0=false):alX k xs=k - xs.length - akt xs∧(xs.length:Int) + akt xs≤k:=by
 simp only [alX]at h ⊢
 cases h2:ltI (k - (xs.length:Int)) 0 with
 |true=>rw [h2]at h;simp at h
 |false=>
  have h3:=vW.1 h2
  rw [h2,cond_false]at h
  obtain⟨q1,q2⟩:=ah9 xs _ hs h3 (by omega) h
  rw [cond_false,q1]
  omega
def aaA:List SV→List Entry→Option Out
 | [.one ⟨false,[.ref 0]⟩,.one ⟨false,[.val (.int .i64 x0)]⟩],[.row false 175 (.pair (.int .i64) (.pair (.str) (.int .i64))) x1]=>some ⟨.one ⟨false,[.val (.int .i64 (alX x0 x1))]⟩,[.row false 175 acD x1],[],[leN x1.length 9223372036854775807&&(leI (-1) x0&&leI x0 1048576)]⟩
 |_,_=>none
def TZ:PF prog:=PF.alt ajB aaA (by
 intro args es o h cB;unfold aaA at h;split at h
 ·rename_i x0 x1
  cases h
  have cB:=mq cB
  have hh:=arC x0 x1 cB
  obtain⟨e0,en⟩:=hh
  exact rg rfl (lJ en) (by simp only [e0] <;> rfl) rfl rfl
 ·cases h)
theorem aoW(xs:List (Int×Int×Int))(h:(leN 1 xs.length&&leN xs.length 1048576)=true):sk xs=true:=by
 simp only [Bool.and_eq_true,fX]at h
 simp [sk,allT]
 omega
def afr:List SV→List Entry→Option Out
 | [.one ⟨false,[.val (.slice none 0 0)]⟩],[]=>some ⟨.one ⟨false,[.ref 0]⟩,[],[.row true 172 (.pair (.int .i64) (.pair (.int .i64) (.int .i64))) []],[true]⟩
 |_,_=>none
def alL:PF prog:=PF.ofG prog [PF.raw prog] [] aN 195 f195 func195 (fun c _=>LOk.nil c) afr (by
 intro vs es r h;unfold afr at h;split at h
 ·cases h;kernel_rfl
 ·cases h)
def afq:List SV→List Entry→Option Out
 | [.one ⟨false,[.val (.slice (some _) 0 _)]⟩],[]=>some ⟨.one ⟨false,[.ref 0]⟩,[],[.row true 172 (.pair (.int .i64) (.pair (.int .i64) (.int .i64))) []],[true]⟩
 |_,_=>none
def alK:PF prog:=PF.ofG prog [] [] aN 195 f195 func195 (fun c _=>LOk.nil c) afq (by
 intro vs es r h;unfold afq at h;split at h
 ·cases h;kernel_rfl
 ·cases h)
def Gi:List SV→List Entry→Option Out
 | [.one ⟨false,[.ref 0]⟩],[.row false 172 (.pair (.int .i64) (.pair (.int .i64) (.int .i64))) x0]=>some ⟨.one ⟨false,[.ref 1]⟩,[.row false 172 (.pair (.int .i64) (.pair (.int .i64) (.int .i64))) x0],[.row true 172 (.pair (.int .i64) (.pair (.int .i64) (.int .i64))) x0],[leN x0.length 1048576]⟩
 |_,_=>none
def xZ:PF prog where
 k:=195
 F:=Gi
 ok:=by
  intro args es o h cB mem ρ w hp
  unfold Gi at h
  split at h
  ·rename_i x0
   cases h
   have hl:=cB _ (List.mem_singleton.2 rfl)
   cases x0 with
   |nil=>
    exact(apF alL alK rfl rfl rfl (fun _ _=>rfl) (by simp) (by simp) hp).mono fun en w' ⟨ρ',h1,h2,h3⟩=>⟨ρ',h1,h2,rfl,(by intro v hv;rw [List.mem_singleton.1 hv];rfl),h3⟩
   |cons x xs=>exact Rl.ok _ _ ⟨_,_,_,[sk (x::xs)]⟩ rfl (fun b hb=>by rw [List.mem_singleton.1 hb];exact aoW (x::xs) ((Bool.and_eq_true _ _).mpr ⟨dv (Nat.succ_pos _),hl⟩)) mem ρ w hp
  ·cases h
abbrev IN:=Int×Int
abbrev BS3:=Int×Int×Int
def tkI(bs:List TM)(x:IN):Int:=aiy x.1 x.2 bs
def gvI(x:IN):Int:=aiz x.1
def ar0(i v o:Int)(bs:List TM)(x:IN):Bool:=aj1 i v o x.1 x.2 bs
def hgt(i v o:Int)(bs:List TM):List IN→Int→List Int→Option (Int×List Int)
 | [],n,acc=>some (n,acc)
 |x::r,n,acc=>bif ar0 i v o bs x&&(leI (tkI bs x) n&&leI (n - tkI bs x + gvI x) 40)then hgt i v o bs r (n - tkI bs x + gvI x) (acc++ [n - tkI bs x + gvI x])else none
def adf(bs:List TM):Bool:=bs.all fun t=>VF t.1 t.2.1 t.2.2
def Qp(bs:List TM)(k:Nat):TM:=Option.getD bs[k]? ((0:Int),ByteArray.empty,(0:Int))
def stAt(ss:List BS3)(k:Nat):BS3:=Option.getD ss[k]? ((0:Int),(0:Int),(0:Int))
def possAt(bs:List TM)(ss:List BS3)(k:Nat):Bool:=possB (Qp bs k).1 (Qp bs k).2.2 (stAt ss k).1 (stAt ss k).2.1 (stAt ss k).2.2
def Hg(v:Int)(bs:List TM)(xs:List Int)(ss:List BS3):Bool:=((ss.length:Int)==(bs.length:Int))&&(bitsB v xs&&(List.range bs.length).all fun k=>possAt bs ss k)
def gc(y2:List (Int×(ByteArray×Int)))(y4:List (Int×(Int×Int)))(b:Nat):(Unit)→Nat ⊕ (Unit)
 |_=>(bif(!zS ((Option.getD y2[b]? ((0:Int),ByteArray.empty,(0:Int))).1) ((Option.getD y2[b]? ((0:Int),ByteArray.empty,(0:Int))).2.2) ((Option.getD y4[b]? ((0:Int),(0:Int),(0:Int))).1) (((Option.getD y4[b]? ((0:Int),(0:Int),(0:Int))).2).1) ((Option.getD y4[b]? ((0:Int),(0:Int),(0:Int))).2.2))then(.inl 0)else(.inr ()))
def cI(y2:List (Int×(ByteArray×Int)))(y3:List Int)(y4:List (Int×(Int×Int)))(i:Nat):(Unit)→be
 |_=>((i:Int),(↑y2.length:Int),y2,y3,y4)
def oZ:be→Unit
 |(_,_,_,_,_)=>()
theorem It(y2:List (Int×(ByteArray×Int)))(y3:List Int)(y4:List (Int×(Int×Int))) (hn:y2.length≤9223372036854775807) (he:y4.length=y2.length):
  ap.fin ((0:Int),(↑y2.length:Int),y2,y3,y4)=true∧ap.res ((0:Int),(↑y2.length:Int),y2,y3,y4)=((af (gc y2 y4) 1 (List.range y2.length) 0 ()).1,(cI y2 y3 y4) (af (gc y2 y4) 1 (List.range y2.length) 0 ()).2.1 (af (gc y2 y4) 1 (List.range y2.length) 0 ()).2.2):=by
 have jb:=ap.along (cI y2 y3 y4) oZ (gc y2 y4) 1 (fun _ _=>True) (List.range y2.length) () (by trivial) (by simp only [ap,cI,List.length_range];omega) (fun i b a hb hI=> ?_) (fun a hI=> ?_)
 ·exact jb
 ·obtain⟨⟩:=a
  obtain⟨rfl,eB⟩:=np hb
  have hw:IntKind.i64.wrap ((b:Int) + 1)=((b + 1:Nat):Int):=by rw [aR (by omega) (by omega)];omega
  have bM:ltI (b:Int) (y2.length:Int)=true:=dO (by omega)
  have vC:leI (0:Int) (b:Int)=true:=bw (by omega)
  have gI:ltN b y2.length=true:=fQ (by omega)
  refine⟨?_,?_,?_,?_⟩
  ·simp [dC,cH,ge,dF,gf,gg,gh,gi,gj,gk,fR,ap,LT.nds,allT,cI,bM,vC,gI,he]
  ·simp [dC,cH,ge,dF,gf,gg,gh,gi,gj,gk,fR,ap,LT.each,cI,oZ,hw,he]
  ·simp only [dC,cH,ge,dF,gf,gg,gh,gi,gj,gk,fR,ap,LT.fn,cI,oZ,gc,Int.toNat_natCast,bM,cond_true]
  ·exact fun _ _=>trivial
 ·obtain⟨⟩:=a
  simp [dC,cH,ge,dF,gf,gg,gh,gi,gj,gk,fR,ap,LT.out,cI,List.length_range]
theorem aou{α:Type}{g h:α→Bool}: ∀ (l:List α),(∀ k∈l,g k=h k)→(l.any fun b=> !g b)= !l.all h
 | [],_=>rfl
 |a::l,hg=>by
  rw [List.any_cons,List.all_cons,hg a (by simp),aou l (fun k hk=>hg k (by simp [hk]))]
  cases h a <;> simp
theorem apb(v:Int)(bs:List TM)(xs:List Int)(ss:List BS3)(h:(leN xs.length 9223372036854775807&&(leN bs.length 9223372036854775807&&adf bs))=true):
  lX v xs ss bs=Hg v bs xs ss∧lY v xs ss bs=true:=by
 simp only [Bool.and_eq_true]at h
 have hn:=fX.1 h.2.1
 have hB: ∀ t∈bs,VF t.1 t.2.1 t.2.2=true:=List.all_eq_true.1 h.2.2
 by_cases hl:ss.length=bs.length
 ·obtain⟨w1,w2⟩:=It bs xs ss hn hl
  rw [iH (P:=fun k=> !zS (Qp bs k).1 (Qp bs k).2.2 (stAt ss k).1 (stAt ss k).2.1 (stAt ss k).2.2) (j:=0) (fun k=>rfl),
   aou (g:=fun k=>zS (Qp bs k).1 (Qp bs k).2.2 (stAt ss k).1 (stAt ss k).2.1 (stAt ss k).2.2) (h:=possAt bs ss) _ (fun k hk=>by
    have hk:k < bs.length:=List.mem_range.1 hk
    have hg:Qp bs k=bs[k]:=by simp only [Qp,List.getElem?_eq_getElem hk];rfl
    have:=hB _ (List.getElem_mem hk)
    rw [← hg]at this
    exact aqP (XH this).1)]at w2
  have a0:eC v xs ss bs= !bitsB v xs:=by simp only [eC,hl];cases bitsB v xs <;> simp
  simp only [lX,lY,qo,a0,w1,w2,h.1,allT,Hg,hl]
  cases bitsB v xs <;> cases (List.range bs.length).all (possAt bs ss) <;> simp [Nat.beq]
 ·have hl2: ¬ ((ss.length:Int)=(bs.length:Int)):=by omega
  have a0:eC v xs ss bs=true:=by simp only [eC];cases bitsB v xs <;> simp [hl2]
  have e:((ss.length:Int)==(bs.length:Int))=false:=by simpa using hl2
  simp [lX,lY,a0,allT,Hg,e,h.1]
def yw:List SV→List Entry→Option Out
 | [.one ⟨true,[.ref 0,.ref 1]⟩,.one ⟨false,[.val (.int .i64 x0)]⟩,.one ⟨false,[.ref 2]⟩],[.row false 2 (.int .i64) x1,.row false 172 (.pair (.int .i64) (.pair (.int .i64) (.int .i64))) x2,.row false 178 (.pair (.int .i64) (.pair (.str) (.int .i64))) x3]=>some ⟨.one ⟨false,[.val (.bool (Hg x0 x3 x1 x2))]⟩,[.row false 2 agR x1,.row false 172 abM x2,.row false 178 acD x3],[],[leN x1.length 9223372036854775807&&(leN x3.length 9223372036854775807&&adf x3)]⟩
 |_,_=>none
def qQ:PF prog:=PF.alt Kh yw (by
 intro args es o h cB;unfold yw at h;split at h
 ·rename_i x0 x1 x2 x3
  cases h
  have cB:=mq cB
  have hh:=apb x0 x3 x1 x2 cB
  obtain⟨e0,en⟩:=hh
  exact rg rfl (lJ en) (by simp only [e0] <;> rfl) rfl rfl
 ·cases h)
end Go.SX
