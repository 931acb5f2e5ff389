/- What functions of the program come to, and what that says in plain words: part 1. -/
import Derived.Test.YtbbfgoobcjlooaaGreatDoorTXh
import Derived.Test.YtbbfgoobcjlooaaGreatDoorProg
set_option linter.unusedSimpArgs false
set_option linter.unusedVariables false
namespace Go.SX
open Go.Proofs
abbrev aaK:CTy:=(CTy.pair (CTy.int IntKind.i64) (CTy.pair (CTy.int IntKind.i64) (CTy.int IntKind.i64)))
abbrev aeH:CTy:=(CTy.pair (CTy.int IntKind.i64) (CTy.pair CTy.str (CTy.int IntKind.i64)))
abbrev afY:CTy:=(CTy.int IntKind.i64)
abbrev agS:CTy:=(CTy.str)
theorem S0z:(∀ (α:Type) (a b:α),(bif true then a else b)=a)∧(∀ (α:Type) (a b:α),(bif false then a else b)=b)∧(∀ (α:Type) (c:Bool) (a:α),(bif c then a else a)=a)∧((!true)=false)∧((!false)=true)∧(∀ b:Bool,(true||b)=true)∧(∀ b:Bool,(b||true)=true)∧(∀ b:Bool,(false||b)=b)∧(∀ b:Bool,(b||false)=b)∧(∀ b:Bool,(b&&b)=b)∧(∀ b:Bool,(b&&true)=b)∧(∀ b:Bool,(true&&b)=b)∧(∀ b:Bool,(false&&b)=false)∧(∀ b:Bool,(b&&false)=false)∧(∀ (α:Type) [BEq α] [LawfulBEq α] (a:α),(a != a)=false)∧(∀ (α:Type) [BEq α] [LawfulBEq α] (a:α),(a==a)=true):=by and_intros <;> intros <;> simp
end Go.SX
namespace Go.SX
open Go.Proofs Go.Proofs.Tryz
set_option maxRecDepth 100000
theorem aQ:Tryz.prog.follows .mixedOrders=true:=by kernel_rfl
def Pa(x0:Int)(x1:List Int):Int:=IntKind.wrap .i64 (x0 - (↑x1.length:Int))
def Qm(x0:Int)(x1:List Int):Int:=bif ltI (Pa x0 x1) (0:Int)then(-1:Int)else Pa x0 x1
def Wn:List SV→List Entry→Option Out
 | [.one ⟨false,[.ref 0]⟩,.one ⟨false,[.val (.int .i64 x0)]⟩],[.row false 2 (.int .i64) x1]=>some ⟨.one ⟨false,[.val (.int .i64 (Qm x0 x1))]⟩,[.row false 2 afY x1],[],[]⟩
 |_,_=>none
def af8:PF prog:=PF.ofG prog [] [] aQ 86 f86 func86 (fun c _=>LOk.nil c) Wn (by
 intro vs es r h;unfold Wn at h;split at h
 ·cases h;kernel_rfl
 ·cases h)
def bA(x0 x1 x2:Int):Bool:=bif leI x1 x0 then leI x0 x2 else false
def adp:List SV→List Entry→Option Out
 | [.one ⟨false,[.val (.int .i64 x0)]⟩,.one ⟨false,[.val (.int .i64 x1)]⟩,.one ⟨false,[.val (.int .i64 x2)]⟩],[]=>some ⟨.one ⟨false,[.val (.bool (bA x0 x1 x2))]⟩,[],[],[]⟩
 |_,_=>none
def vV:PF prog:=PF.ofG prog [] [] aQ 153 f153 func153 (fun c _=>LOk.nil c) adp (by
 intro vs es r h;unfold adp at h;split at h
 ·cases h;kernel_rfl
 ·cases h)
def Uh(x0:List Int):Bool:=allT [leN ((0:Nat) + List.length x0) (9223372036854775807:Nat),leN (((0:Nat) + List.length x0) * (8:Nat)) (140737488355328:Nat)]
def aa7:List SV→List Entry→Option Out
 | [.one ⟨false,[.ref 0]⟩],[.row false 2 (.int .i64) x0]=>some ⟨.one ⟨false,[.ref 1]⟩,[.row false 2 afY x0],[.row true 2 afY x0],[Uh x0]⟩
 |_,_=>none
def ah5:PF prog:=PF.ofG prog [] [] aQ 173 f173 func173 (fun c _=>LOk.nil c) aa7 (by
 intro vs es r h;unfold aa7 at h;split at h
 ·cases h;kernel_rfl
 ·cases h)
abbrev mQ:=Int×List Int×List Int
section
variable (y0:Int)(y1 y2:List Int)
def xF:Bool:=ltI y0 (↑y1.length:Int)
def xG:Bool:=leI (0:Int) y0
def BJ:Bool:=ltN y0.toNat y1.length
def BK:Bool:=ltI y0 (↑y2.length:Int)
def BL:Bool:=ltN y0.toNat y2.length
def BM:Int:=IntKind.wrap .i64 (y0 + (1:Int))
def BN:List Int:=List.set y2 y0.toNat (Option.getD y1[Int.toNat y0]? (0:Int))
end
def aam:mQ→List (Nat×SV)
 |(y0,_,_)=> [(4,(.one ⟨false,[.val (.int .i64 y0)]⟩)),(0,(.one ⟨false,[.ref 0]⟩)),(3,(.one ⟨false,[.ref 1]⟩))]
def aad:mQ→List (Nat×Entry)
 |(_,y1,y2)=> [(0,(.row false 2 afY y1)),(1,(.row true 2 afY y2))]
def aaE:Nat→mQ→List (Nat×SV)
 |_,(_,_,_)=> []
def aav:Nat→mQ→List (Nat×Entry)
 |_,(_,y1,y2)=> [(0,(.row false 2 afY y1)),(1,(.row true 2 afY y2))]
def AB:mQ→LT mQ
 |(y0,y1,y2)=> .ite (xF y0 y1) (.need [xG y0,xF y0 y1,BJ y0 y1,xG y0,BK y0 y2,BL y0 y2] (.nrm ((BM y0),y1,(BN y0 y1 y2)) [(0,0),(1,1)])) (.ext 0 [(0,0),(1,1)])
def KT(s:St):Option mQ:=
 (match s.look 4 with
 |some ⟨none,.one ⟨false,[.val (.int .i64 y0)]⟩⟩=>
 (match s.look 0 with
 |some ⟨none,.one ⟨false,[.ref 0]⟩⟩=>
 (match s.look 3 with
 |some ⟨none,.one ⟨false,[.ref 320]⟩⟩=>
 (match s.ent 0 with
 |some (.row false 2 (.int .i64) y1)=>
 (match s.ent 320 with
 |some (.row true 2 (.int .i64) y2)=>
 some (y0,y1,y2)
 |_=>none)
 |_=>none)
 |_=>none)
 |_=>none)
 |_=>none)
def gB:Lp mQ where
 h:=⟨[8,9,10,11,14,15,16,17,18,19,20,12,13,4],[0,1],[],[]⟩
 JL:=aam
 JE:=aad
 XL:=aaE
 XE:=aav
 q:=fun j=>match j with | _=> .exit 0
 tags:= [0]
 lt:=AB
 fuel:=fun(y0,y1,y2)=>y0.natAbs + y1.length + y2.length
 fix:=fun(_,y1,_) (y0,_,y2)=>(y0,y1,y2)
 σ:= [(0,0),(1,320)]
 rd:=KT
theorem Xt:LoopOk prog (fun k=>Nat.blt k Tryz.f29.ntmps) gB.F (aS f29 0):=by
 refine Lp.ok (tbl:= []) (lf:= []) aQ gB (by kernel_rfl) (LOk.nil _) (fun _=>rfl) (fun _ _=>rfl) ?_ ?_ ?_ ?_ (fun _=>rfl) ?_
 ·rintro⟨y0,y1,y2⟩;kernel_rfl
 ·rintro⟨y0,y1,y2⟩;kernel_rfl
 ·intro s x h
  have h:KT s=some x:=h
  unfold KT at h
  repeat' split at h
  all_goals cases h
  exact⟨aa (by assumption) rfl (aa (by assumption) rfl (aa (by assumption) rfl (rfl))),ab rfl (by assumption) rfl (ab rfl (by assumption) rfl (rfl))⟩
 ·rintro⟨y0,y1,y2⟩;kernel_rfl
 ·rintro⟨y0,y1,y2⟩ z;exact(And.intro rfl trivial)
section
variable (x0:List Int)
def Ke:Int×List Int×List Int:=((0:Int),x0,List.replicate (Int.toNat (↑x0.length:Int)) (0:Int))
def LG:List Int:=(Lp.res gB (Ke x0)).2.2.2
def LH:Bool:=allT [leI (0:Int) (↑x0.length:Int),leI (↑x0.length:Int) (↑x0.length:Int),leI ((↑(8:Nat):Int) * (↑x0.length:Int)) (281474976710656:Int),leI (↑x0.length:Int) (9223372036854775807:Int),Lp.fin gB (Ke x0)]
end
def Wp:List SV→List Entry→Option Out
 | [.one ⟨false,[.ref 0]⟩],[.row false 2 (.int .i64) x0]=>some ⟨.one ⟨false,[.ref 1]⟩,[.row false 2 afY x0],[.row true 2 afY (LG x0)],[LH x0]⟩
 |_,_=>none
def af9:PF prog:=PF.ofG prog [] [gB.F] aQ 29 f29 func29 (LOk.fnT (l:= [aS f29 0]) (by kernel_rfl) (.cons Xt (.nil _))) Wp (by
 intro vs es r h;unfold Wp at h;split at h
 ·cases h;kernel_rfl
 ·cases h)
def tH(x0 x1 x2:Int):Bool:=bif leI x1 x0 then leI x0 x2 else false
def aa0:List SV→List Entry→Option Out
 | [.one ⟨false,[.val (.int .i64 x0)]⟩,.one ⟨false,[.val (.int .i64 x1)]⟩,.one ⟨false,[.val (.int .i64 x2)]⟩],[]=>some ⟨.one ⟨false,[.val (.bool (tH x0 x1 x2))]⟩,[],[],[]⟩
 |_,_=>none
def Ug:PF prog:=PF.ofG prog [] [] aQ 158 f158 func158 (fun c _=>LOk.nil c) aa0 (by
 intro vs es r h;unfold aa0 at h;split at h
 ·cases h;kernel_rfl
 ·cases h)
def vZ(x0:List Int):Bool:=allT [ltN (0:Nat) x0.length,false||leN ((0:Nat) + List.length x0) (9223372036854775807:Nat),false||leN (((0:Nat) + List.length x0) * (8:Nat)) (140737488355328:Nat)]
def IK:List SV→List Entry→Option Out
 | [.one ⟨false,[.ref 0]⟩],[.row false 2 (.int .i64) x0]=>some ⟨.one ⟨false,[.ref 1]⟩,[.row false 2 afY x0],[.row true 2 afY x0],[vZ x0]⟩
 |_,_=>none
def Sl:PF prog:=PF.ofG prog [] [] aQ 194 f194 func194 (fun c _=>LOk.nil c) IK (by
 intro vs es r h;unfold IK at h;split at h
 ·cases h;kernel_rfl
 ·cases h)
abbrev mP:=Int×List Int×List Int
section
variable (y0:Int)(y1 y2:List Int)
def xA:Bool:=ltI y0 (↑y1.length:Int)
def xB:Bool:=leI (0:Int) y0
def BA:Bool:=ltN y0.toNat y1.length
def BB:Bool:=ltI y0 (↑y2.length:Int)
def BC:Bool:=ltN y0.toNat y2.length
def BD:Bool:=Option.getD y1[Int.toNat y0]? (0:Int)!=Option.getD y2[Int.toNat y0]? (0:Int)
def BE:Int:=IntKind.wrap .i64 (y0 + (1:Int))
end
def aak:mP→List (Nat×SV)
 |(y0,_,_)=> [(5,(.one ⟨false,[.val (.int .i64 y0)]⟩)),(0,(.one ⟨false,[.ref 0]⟩)),(1,(.one ⟨false,[.ref 1]⟩))]
def aab:mP→List (Nat×Entry)
 |(_,y1,y2)=> [(0,(.row false 2 afY y1)),(1,(.row false 2 afY y2))]
def aaC:Nat→mP→List (Nat×SV)
 |0,(_,_,_)=> [(4,(.one ⟨false,[.val (.bool false)]⟩))]
 |_,(_,_,_)=> []
def aat:Nat→mP→List (Nat×Entry)
 |0,(_,y1,y2)=> [(0,(.row false 2 afY y1)),(1,(.row false 2 afY y2))]
 |_,(_,y1,y2)=> [(0,(.row false 2 afY y1)),(1,(.row false 2 afY y2))]
def AA:mP→LT mP
 |(y0,y1,y2)=> .ite (xA y0 y1) (.need [xB y0,xA y0 y1,BA y0 y1,xB y0,BB y0 y2,BC y0 y2] (.ite (BD y0 y1 y2) (.ext 0 [(0,0),(1,1)]) (.nrm ((BE y0),y1,y2) [(0,0),(1,1)]))) (.ext 1 [(0,0),(1,1)])
def KR(s:St):Option mP:=
 (match s.look 5 with
 |some ⟨none,.one ⟨false,[.val (.int .i64 y0)]⟩⟩=>
 (match s.look 0 with
 |some ⟨none,.one ⟨false,[.ref 0]⟩⟩=>
 (match s.look 1 with
 |some ⟨none,.one ⟨false,[.ref 1]⟩⟩=>
 (match s.ent 0 with
 |some (.row false 2 (.int .i64) y1)=>
 (match s.ent 1 with
 |some (.row false 2 (.int .i64) y2)=>
 some (y0,y1,y2)
 |_=>none)
 |_=>none)
 |_=>none)
 |_=>none)
 |_=>none)
def eV:Lp mP where
 h:=⟨[11,12,13,14,17,18,19,20,21,22,23,24,25,4,15,16,5],[0,1],[],[]⟩
 JL:=aak
 JE:=aab
 XL:=aaC
 XE:=aat
 q:=fun j=>match j with | 0=> .ret | _=> .exit 0
 tags:= [0,1]
 lt:=AA
 fuel:=fun(y0,y1,y2)=>y0.natAbs + y1.length + y2.length
 fix:=fun(_,y1,y2) (y0,_,_)=>(y0,y1,y2)
 σ:= [(0,0),(1,1)]
 rd:=KR
theorem Xr:LoopOk prog (fun k=>Nat.blt k Tryz.f31.ntmps) eV.F (aS f31 0):=by
 refine Lp.ok (tbl:= []) (lf:= []) aQ eV (by kernel_rfl) (LOk.nil _) (fun _=>rfl) (fun j _=>by unfold eV;match j with | 0=>rfl | _ + 1=>rfl) ?_ ?_ ?_ ?_ (fun _=>rfl) ?_
 ·rintro⟨y0,y1,y2⟩;kernel_rfl
 ·rintro⟨y0,y1,y2⟩;kernel_rfl
 ·intro s x h
  have h:KR s=some x:=h
  unfold KR at h
  repeat' split at h
  all_goals cases h
  exact⟨aa (by assumption) rfl (aa (by assumption) rfl (aa (by assumption) rfl (rfl))),ab rfl (by assumption) rfl (ab rfl (by assumption) rfl (rfl))⟩
 ·rintro⟨y0,y1,y2⟩;kernel_rfl
 ·rintro⟨y0,y1,y2⟩ z;exact(And.intro (And.intro trivial rfl) trivial)
section
variable (x0 x1:List Int)
def JW:Bool:=(↑x0.length:Int)!=(↑x1.length:Int)
def JX:Int×List Int×List Int:=((0:Int),x0,x1)
def Lx:Bool:=bif JW x0 x1 then false else bif Nat.beq ((Lp.res eV (JX x0 x1)).1) (0:Nat)then false else true
def Ly:Bool:=allT [JW x0 x1||Lp.fin eV (JX x0 x1)]
end
def Wk:List SV→List Entry→Option Out
 | [.one ⟨false,[.ref 0]⟩,.one ⟨false,[.ref 1]⟩],[.row false 2 (.int .i64) x0,.row false 2 (.int .i64) x1]=>some ⟨.one ⟨false,[.val (.bool (Lx x0 x1))]⟩,[.row false 2 afY x0,.row false 2 afY x1],[],[Ly x0 x1]⟩
 |_,_=>none
def af7:PF prog:=PF.ofG prog [] [eV.F] aQ 31 f31 func31 (LOk.fnT (l:= [aS f31 0]) (by kernel_rfl) (.cons Xr (.nil _))) Wk (by
 intro vs es r h;unfold Wk at h;split at h
 ·cases h;kernel_rfl
 ·cases h)
abbrev kj:=Int×Int×List Int
section
variable (y0 y1:Int)(y2:List Int)
def uN:Bool:=ltI y0 (↑y2.length:Int)
def yt:Bool:=leI (0:Int) y0
def yu:Bool:=ltN y0.toNat y2.length
def yw:Int:=IntKind.wrap .i64 (y0 + (1:Int))
def yx:Int:=IntKind.wrap .i64 (y1 + (1:Int))
def yy:List Int:=List.set y2 y0.toNat y1
end
def Xb:kj→List (Nat×SV)
 |(y0,y1,_)=> [(5,(.one ⟨false,[.val (.int .i64 y0)]⟩)),(0,(.one ⟨false,[.ref 0]⟩)),(1,(.one ⟨false,[.val (.int .i64 y1)]⟩))]
def WW:kj→List (Nat×Entry)
 |(_,_,y2)=> [(0,(.row true 2 afY y2))]
def Xl:Nat→kj→List (Nat×SV)
 |_,(_,y1,_)=> [(1,(.one ⟨false,[.val (.int .i64 y1)]⟩))]
def Xg:Nat→kj→List (Nat×Entry)
 |_,(_,_,y2)=> [(0,(.row true 2 afY y2))]
def wV:kj→LT kj
 |(y0,y1,y2)=> .ite (uN y0 y2) (.need [yt y0,uN y0 y2,yu y0 y2] (.nrm ((yw y0),yx y1,(yy y0 y1 y2)) [(0,0)])) (.ext 0 [(0,0)])
def HT(s:St):Option kj:=
 (match s.look 5 with
 |some ⟨none,.one ⟨false,[.val (.int .i64 y0)]⟩⟩=>
 (match s.look 0 with
 |some ⟨none,.one ⟨false,[.ref 0]⟩⟩=>
 (match s.look 1 with
 |some ⟨none,.one ⟨false,[.val (.int .i64 y1)]⟩⟩=>
 (match s.ent 0 with
 |some (.row true 2 (.int .i64) y2)=>
 some (y0,y1,y2)
 |_=>none)
 |_=>none)
 |_=>none)
 |_=>none)
def ez:Lp kj where
 h:=⟨[6,7,8,9,12,13,14,15,16,17,1,10,11,5],[0],[],[]⟩
 JL:=Xb
 JE:=WW
 XL:=Xl
 XE:=Xg
 q:=fun j=>match j with | _=> .exit 0
 tags:= [0]
 lt:=wV
 fuel:=fun(y0,y1,y2)=>y0.natAbs + y1.natAbs + y2.length
 fix:=fun(_,_,_) (y0,y1,y2)=>(y0,y1,y2)
 σ:= [(0,0)]
 rd:=HT
theorem US:LoopOk prog (fun k=>Nat.blt k Tryz.f34.ntmps) ez.F (aS f34 0):=by
 refine Lp.ok (tbl:= []) (lf:= []) aQ ez (by kernel_rfl) (LOk.nil _) (fun _=>rfl) (fun _ _=>rfl) ?_ ?_ ?_ ?_ (fun _=>rfl) ?_
 ·rintro⟨y0,y1,y2⟩;kernel_rfl
 ·rintro⟨y0,y1,y2⟩;kernel_rfl
 ·intro s x h
  have h:HT s=some x:=h
  unfold HT at h
  repeat' split at h
  all_goals cases h
  exact⟨aa (by assumption) rfl (aa (by assumption) rfl (aa (by assumption) rfl (rfl))),ab rfl (by assumption) rfl (rfl)⟩
 ·rintro⟨y0,y1,y2⟩;kernel_rfl
 ·rintro⟨y0,y1,y2⟩ z;exact(And.intro rfl trivial)
section
variable (x0:Int)(x1:List Int)
def BG:Int×Int×List Int:=((0:Int),x0,x1)
def BH:Int×List Int:=(Lp.res ez (BG x0 x1)).2.2
def DH:Int:=(BH x0 x1).1
def DI:List Int:=(BH x0 x1).2
def DJ:Bool:=allT [Lp.fin ez (BG x0 x1)]
end
def Td:List SV→List Entry→Option Out
 | [.one ⟨false,[.ref 0]⟩,.one ⟨false,[.val (.int .i64 x0)]⟩],[.row true 2 (.int .i64) x1]=>some ⟨.one ⟨false,[.val (.int .i64 (DH x0 x1))]⟩,[.row true 2 afY (DI x0 x1)],[],[DJ x0 x1]⟩
 |_,_=>none
def adY:PF prog:=PF.ofG prog [] [ez.F] aQ 34 f34 func34 (LOk.fnT (l:= [aS f34 0]) (by kernel_rfl) (.cons US (.nil _))) Td (by
 intro vs es r h;unfold Td at h;split at h
 ·cases h;kernel_rfl
 ·cases h)
abbrev ki:=Int×Int×List Int
section
variable (y0 y1:Int)(y2:List Int)
def uJ:Bool:=ltI y0 (↑y2.length:Int)
def yk:Bool:=leI (0:Int) y0
def ym:Bool:=ltN y0.toNat y2.length
def yo:Bool:=Option.getD y2[Int.toNat y0]? (0:Int)!=y1
end
def uK:Int:=(-1:Int)
def yp(y0:Int):Int:=IntKind.wrap .i64 (y0 + (1:Int))
def yq(y1:Int):Int:=IntKind.wrap .i64 (y1 + (1:Int))
def Xa:ki→List (Nat×SV)
 |(y0,y1,_)=> [(5,(.one ⟨false,[.val (.int .i64 y0)]⟩)),(0,(.one ⟨false,[.ref 0]⟩)),(1,(.one ⟨false,[.val (.int .i64 y1)]⟩))]
def WV:ki→List (Nat×Entry)
 |(_,_,y2)=> [(0,(.row false 2 afY y2))]
def Xk:Nat→ki→List (Nat×SV)
 |0,(_,_,_)=> [(4,(.one ⟨false,[.val (.int .i64 (uK))]⟩))]
 |_,(_,y1,_)=> [(1,(.one ⟨false,[.val (.int .i64 y1)]⟩))]
def Xf:Nat→ki→List (Nat×Entry)
 |0,(_,_,y2)=> [(0,(.row false 2 afY y2))]
 |_,(_,_,y2)=> [(0,(.row false 2 afY y2))]
def wU:ki→LT ki
 |(y0,y1,y2)=> .ite (uJ y0 y2) (.need [yk y0,uJ y0 y2,ym y0 y2] (.ite (yo y0 y1 y2) (.ext 0 [(0,0)]) (.nrm ((yp y0),yq y1,y2) [(0,0)]))) (.ext 1 [(0,0)])
def HS(s:St):Option ki:=
 (match s.look 5 with
 |some ⟨none,.one ⟨false,[.val (.int .i64 y0)]⟩⟩=>
 (match s.look 0 with
 |some ⟨none,.one ⟨false,[.ref 0]⟩⟩=>
 (match s.look 1 with
 |some ⟨none,.one ⟨false,[.val (.int .i64 y1)]⟩⟩=>
 (match s.ent 0 with
 |some (.row false 2 (.int .i64) y2)=>
 some (y0,y1,y2)
 |_=>none)
 |_=>none)
 |_=>none)
 |_=>none)
def dj:Lp ki where
 h:=⟨[6,7,8,9,12,13,14,15,16,17,4,18,19,1,10,11,5],[0],[],[]⟩
 JL:=Xa
 JE:=WV
 XL:=Xk
 XE:=Xf
 q:=fun j=>match j with | 0=> .ret | _=> .exit 0
 tags:= [0,1]
 lt:=wU
 fuel:=fun(y0,y1,y2)=>y0.natAbs + y1.natAbs + y2.length
 fix:=fun(_,_,y2) (y0,y1,_)=>(y0,y1,y2)
 σ:= [(0,0)]
 rd:=HS
theorem UR:LoopOk prog (fun k=>Nat.blt k Tryz.f35.ntmps) dj.F (aS f35 0):=by
 refine Lp.ok (tbl:= []) (lf:= []) aQ dj (by kernel_rfl) (LOk.nil _) (fun _=>rfl) (fun j _=>by unfold dj;match j with | 0=>rfl | _ + 1=>rfl) ?_ ?_ ?_ ?_ (fun _=>rfl) ?_
 ·rintro⟨y0,y1,y2⟩;kernel_rfl
 ·rintro⟨y0,y1,y2⟩;kernel_rfl
 ·intro s x h
  have h:HS s=some x:=h
  unfold HS at h
  repeat' split at h
  all_goals cases h
  exact⟨aa (by assumption) rfl (aa (by assumption) rfl (aa (by assumption) rfl (rfl))),ab rfl (by assumption) rfl (rfl)⟩
 ·rintro⟨y0,y1,y2⟩;kernel_rfl
 ·rintro⟨y0,y1,y2⟩ z;exact(And.intro (And.intro trivial rfl) trivial)
section
variable (x0:Int)(x1:List Int)
def BF:Int×Int×List Int:=((0:Int),x0,x1)
def DG:Int:=bif Nat.beq ((Lp.res dj (BF x0 x1)).1) (0:Nat)then uK else ((Lp.res dj (BF x0 x1)).2.2).1
def Ij:Bool:=allT [Lp.fin dj (BF x0 x1)]
end
def Tb:List SV→List Entry→Option Out
 | [.one ⟨false,[.ref 0]⟩,.one ⟨false,[.val (.int .i64 x0)]⟩],[.row false 2 (.int .i64) x1]=>some ⟨.one ⟨false,[.val (.int .i64 (DG x0 x1))]⟩,[.row false 2 afY x1],[],[Ij x0 x1]⟩
 |_,_=>none
def adX:PF prog:=PF.ofG prog [] [dj.F] aQ 35 f35 func35 (LOk.fnT (l:= [aS f35 0]) (by kernel_rfl) (.cons UR (.nil _))) Tb (by
 intro vs es r h;unfold Tb at h;split at h
 ·cases h;kernel_rfl
 ·cases h)
def blk(p:Int):Int:=Int.tdiv p 3
def inR(a lo hi:Int):Bool:=leI lo a&&leI a hi
def eqL(xs ys:List Int):Bool:=decide (xs=ys)
theorem YX(xs:List Int):eqL xs xs=true:=by simp [eqL]
theorem GA{a lo hi:Int}:inR a lo hi=true↔lo≤a∧a≤hi:=by simp [inR]
theorem VI(a lo hi:Int):(bif leI lo a then leI a hi else false)=inR a lo hi:=by
 unfold inR;cases leI lo a <;> rfl
def tV(y1:List Int)(b:Nat):(List Int)→Nat ⊕ (List Int)
 |y2=>(.inr (List.set y2 b (Option.getD y1[b]? (0:Int))))
def qo(y1:List Int)(i:Nat):(List Int)→mQ
 |y2=>((i:Int),y1,y2)
def KL:mQ→List Int
 |(_,_,y2)=>y2
theorem adg(y1 y2:List Int)(hn:y1.length≤9223372036854775807)(hl:y2.length=y1.length):
  gB.fin ((0:Int),y1,y2)=true∧gB.res ((0:Int),y1,y2)=((aq (tV y1) 0 (List.range y1.length) 0 y2).1,(qo y1) (aq (tV y1) 0 (List.range y1.length) 0 y2).2.1 (aq (tV y1) 0 (List.range y1.length) 0 y2).2.2):=by
 have jT:=gB.along (qo y1) KL (tV y1) 0 (fun _ a=>a.length=y1.length) (List.range y1.length) y2 hl (by simp only [gB,qo,List.length_range];omega) (fun i b a hb hI=> ?_) (fun a hI=> ?_)
 ·exact jT
 ·obtain y2:=a
  obtain⟨rfl,fa⟩:=oJ hb
  have hw:IntKind.i64.wrap ((b:Int) + 1)=((b + 1:Nat):Int):=by rw [aT (by omega) (by omega)];omega
  have cq:ltI (b:Int) (y1.length:Int)=true:=eQ (by omega)
  have xl:leI (0:Int) (b:Int)=true:=cw (by omega)
  have iU:ltN b y1.length=true:=ib (by omega)
  refine⟨?_,?_,?_,?_⟩
  ·simp [xF,xG,BJ,BK,BL,BM,BN,AB,gB,LT.nds,allT,qo,cq,xl,iU,hI]
  ·simp [xF,xG,BJ,BK,BL,BM,BN,AB,gB,LT.each,qo,KL,hw,hI]
  ·simp only [xF,xG,BJ,BK,BL,BM,BN,AB,gB,LT.fn,qo,KL,tV,Int.toNat_natCast,cq,cond_true]
  ·intro a' hf;simp only [tV,Sum.inr.injEq]at hf;subst hf;simpa using hI
 ·obtain y2:=a
  simp [xF,xG,BJ,BK,BL,BM,BN,AB,gB,LT.out,qo,List.length_range]
def Br(y1 y2:List Int)(b:Nat):(Unit)→Nat ⊕ (Unit)
 |_=>(bif(Option.getD y1[b]? (0:Int)!=Option.getD y2[b]? (0:Int))then(.inl 0)else(.inr ()))
def tf(y1 y2:List Int)(i:Nat):(Unit)→mP
 |_=>((i:Int),y1,y2)
def KK:mP→Unit
 |(_,_,_)=>()
theorem adf(y1 y2:List Int) (hn:y1.length≤9223372036854775807) (he:y2.length=y1.length):
  eV.fin ((0:Int),y1,y2)=true∧eV.res ((0:Int),y1,y2)=((aq (Br y1 y2) 1 (List.range y1.length) 0 ()).1,(tf y1 y2) (aq (Br y1 y2) 1 (List.range y1.length) 0 ()).2.1 (aq (Br y1 y2) 1 (List.range y1.length) 0 ()).2.2):=by
 have jT:=eV.along (tf y1 y2) KK (Br y1 y2) 1 (fun _ _=>True) (List.range y1.length) () (by trivial) (by simp only [eV,tf,List.length_range];omega) (fun i b a hb hI=> ?_) (fun a hI=> ?_)
 ·exact jT
 ·obtain⟨⟩:=a
  obtain⟨rfl,fa⟩:=oJ hb
  have hw:IntKind.i64.wrap ((b:Int) + 1)=((b + 1:Nat):Int):=by rw [aT (by omega) (by omega)];omega
  have cq:ltI (b:Int) (y1.length:Int)=true:=eQ (by omega)
  have xl:leI (0:Int) (b:Int)=true:=cw (by omega)
  have iU:ltN b y1.length=true:=ib (by omega)
  refine⟨?_,?_,?_,?_⟩
  ·simp [xA,xB,BA,BB,BC,BD,BE,AA,eV,LT.nds,allT,tf,cq,xl,iU,he]
  ·simp [xA,xB,BA,BB,BC,BD,BE,AA,eV,LT.each,tf,KK,hw,he]
  ·simp only [xA,xB,BA,BB,BC,BD,BE,AA,eV,LT.fn,tf,KK,Br,Int.toNat_natCast,cq,cond_true]
  ·exact fun _ _=>trivial
 ·obtain⟨⟩:=a
  simp [xA,xB,BA,BB,BC,BD,BE,AA,eV,LT.out,tf,List.length_range]
def rg(b:Nat):(Int×List Int)→Nat ⊕ (Int×List Int)
 |(y1,y2)=>(.inr ((IntKind.wrap .i64 (y1 + (1:Int))),(List.set y2 b y1)))
def lp(i:Nat):(Int×List Int)→kj
 |(y1,y2)=>((i:Int),y1,y2)
def HP:kj→Int×List Int
 |(_,y1,y2)=>(y1,y2)
theorem ZH(y1:Int)(y2:List Int)(n:Nat)(hl:y2.length=n)(hn:n≤9223372036854775807):
  ez.fin ((0:Int),y1,y2)=true∧ez.res ((0:Int),y1,y2)=((aq (rg) 0 (List.range n) 0 (y1,y2)).1,(lp) (aq (rg) 0 (List.range n) 0 (y1,y2)).2.1 (aq (rg) 0 (List.range n) 0 (y1,y2)).2.2):=by
 have jT:=ez.along (lp) HP (rg) 0 (fun _ a=>a.2.length=n) (List.range n) (y1,y2) hl (by simp only [ez,lp,List.length_range];omega) (fun i b a hb hI=> ?_) (fun a hI=> ?_)
 ·exact jT
 ·obtain⟨y1,y2⟩:=a
  obtain⟨rfl,fa⟩:=oJ hb
  have hI0:y2.length=n:=hI
  have hw:IntKind.i64.wrap ((b:Int) + 1)=((b + 1:Nat):Int):=by rw [aT (by omega) (by omega)];omega
  have cq:ltI (b:Int) (y2.length:Int)=true:=eQ (by omega)
  have xl:leI (0:Int) (b:Int)=true:=cw (by omega)
  have iU:ltN b y2.length=true:=ib (by omega)
  refine⟨?_,?_,?_,?_⟩
  ·simp [uN,yt,yu,yw,yx,yy,wV,ez,LT.nds,allT,lp,cq,xl,iU]
  ·simp [uN,yt,yu,yw,yx,yy,wV,ez,LT.each,lp,HP,hw]
  ·simp only [uN,yt,yu,yw,yx,yy,wV,ez,LT.fn,lp,HP,rg,Int.toNat_natCast,cq,xl,iU,cond_true,Bool.cond_self]
  ·intro a' hf;simp only [rg,Sum.inr.injEq]at hf;subst hf;simp [hI0]
 ·obtain⟨y1,y2⟩:=a
  have hI0:y2.length=n:=hI
  simp [uN,yt,yu,yw,yx,yy,wV,ez,LT.out,lp,hI0,List.length_range]
def ux(b:Int):(Int)→Nat ⊕ (Int)
 |y1=>(bif(b !=y1)then(.inl 0)else(.inr (IntKind.wrap .i64 (y1 + (1:Int)))))
def nM(y2:List Int)(i:Nat):(Int)→ki
 |y1=>((i:Int),y1,y2)
def HO:ki→Int
 |(_,y1,_)=>y1
theorem Qd(y2:List Int)(y1:Int)(hn:y2.length≤9223372036854775807):
  dj.fin ((0:Int),y1,y2)=true∧dj.res ((0:Int),y1,y2)=((aq (ux) 1 y2 0 y1).1,(nM y2) (aq (ux) 1 y2 0 y1).2.1 (aq (ux) 1 y2 0 y1).2.2):=by
 have jT:=dj.along (nM y2) HO (ux) 1 (fun _ _=>True) y2 y1 (by trivial) (by simp only [dj,nM];omega) (fun i b a hb hI=> ?_) (fun a hI=> ?_)
 ·exact jT
 ·obtain y1:=a
  have fa:=(List.getElem?_eq_some_iff.1 hb).1
  have jS: ∀ d,Option.getD y2[i]? d=b:=fun d=>by rw [hb];rfl
  have hw:=wM fa hn
  have cq:ltI (i:Int) (y2.length:Int)=true:=eQ (by omega)
  have xl:leI (0:Int) (i:Int)=true:=cw (by omega)
  have iU:ltN i y2.length=true:=ib fa
  refine⟨?_,?_,?_,?_⟩
  ·simp [uJ,yk,ym,yo,uK,yp,yq,wU,dj,LT.nds,allT,nM,cq,xl,iU,jS]
  ·simp [uJ,yk,ym,yo,uK,yp,yq,wU,dj,LT.each,nM,HO,hw]
  ·simp only [uJ,yk,ym,yo,uK,yp,yq,wU,dj,LT.fn,nM,HO,ux,Int.toNat_natCast,cq,xl,iU,jS,cond_true,Bool.cond_self]
  ·exact fun _ _=>trivial
 ·obtain y1:=a
  simp [uJ,yk,ym,yo,uK,yp,yq,wU,dj,LT.out,nM]
theorem am7(xs:List Int)(hn:leN xs.length 1048576=true):LG xs=xs∧LH xs=true:=by
 have hn:=fQ.1 hn
 have hr:(List.replicate (Int.toNat (xs.length:Int)) (0:Int)).length=xs.length:=by simp
 obtain⟨w1,w2⟩:=adg xs (List.replicate (Int.toNat (xs.length:Int)) (0:Int)) (by omega) hr
 have hc:=Vk (xs:=xs) (d:=(0:Int)) (g:=fun x=>x) (f:=tV xs) (e:=0) (fun b a=>rfl) hr
 rw [hc]at w2
 refine⟨?_,?_⟩
 ·simp only [Ke,LG,LH,w2,qo];simp
 ·simp only [Ke,LG,LH,w1,allT];simp;omega
def WE:List SV→List Entry→Option Out
 | [.one ⟨false,[.ref 0]⟩],[.row false 2 (.int .i64) x0]=>some ⟨.one ⟨false,[.ref 1]⟩,[.row false 2 afY x0],[.row true 2 afY x0],[leN x0.length 1048576]⟩
 |_,_=>none
def Db:PF prog:=PF.alt af9 WE (by
 intro args es o h da;unfold WE at h;split at h
 ·rename_i x0
  cases h
  have da:=pb da
  have hh:=am7 x0 da
  obtain⟨e0,en⟩:=hh
  exact tU rfl (pc en) rfl rfl (by simp only [e0] <;> rfl)
 ·cases h)
theorem amG(xs ys:List Int)(hn:leN xs.length 9223372036854775807=true):Lx xs ys=eqL xs ys∧Ly xs ys=true:=by
 have hn:=fQ.1 hn
 unfold eqL
 by_cases hl:ys.length=xs.length
 ·obtain⟨w1,w2⟩:=adf xs ys hn hl
  have ha:=aiW (d:=(0:Int)) hl (P:=fun b=>Option.getD xs[b]? 0 !=Option.getD ys[b]? 0) (fun b=>by simp [bne,BEq.beq])
  rw [iS (P:=fun b=>Option.getD xs[b]? 0 !=Option.getD ys[b]? 0) (j:=0) (fun b=>rfl),ha]at w2
  simp only [JW,JX,Lx,Ly,w1,w2,allT]
  by_cases he:xs=ys
  ·subst he;simp;decide
  ·simp [he,hl]
 ·have PT:xs≠ys:=fun h=>hl (by rw [h])
  simp [JW,JX,Lx,Ly,allT,PT]
  omega
def WB:List SV→List Entry→Option Out
 | [.one ⟨false,[.ref 0]⟩,.one ⟨false,[.ref 1]⟩],[.row false 2 (.int .i64) x0,.row false 2 (.int .i64) x1]=>some ⟨.one ⟨false,[.val (.bool (eqL x0 x1))]⟩,[.row false 2 afY x0,.row false 2 afY x1],[],[leN x0.length 9223372036854775807]⟩
 |_,_=>none
def Da:PF prog:=PF.alt af7 WB (by
 intro args es o h da;unfold WB at h;split at h
 ·rename_i x0 x1
  cases h
  have da:=pb da
  have hh:=amG x0 x1 da
  obtain⟨e0,en⟩:=hh
  exact tU rfl (pc en) (by simp only [e0] <;> rfl) rfl rfl
 ·cases h)
def af2(k:Int)(n:Nat):Bool:=leI 0 k&&leI (k + n) 9223372036854775807
theorem UY{k:Int}{n:Nat}:af2 k n=true↔0≤k∧k + n≤9223372036854775807:=by simp [af2]
theorem ako(k:Int)(xs:List Int)(h:af2 k xs.length=true):DH k xs=k + xs.length∧DI k xs=Hb k xs.length∧DJ k xs=true:=by
 obtain⟨h0,h1⟩:=UY.1 h
 obtain⟨w1,w2⟩:=ZH k xs xs.length rfl (by omega)
 rw [am8 (f:=rg) (fun b k xs=>rfl) h0 h1]at w2
 refine⟨?_,?_,?_⟩
 ·simp only [BG,BH,DH,DI,DJ,w2,lp]
 ·simp only [BG,BH,DH,DI,DJ,w2,lp]
 ·simp only [BG,BH,DH,DI,DJ,w1,allT,cond_true]
def Ti:List SV→List Entry→Option Out
 | [.one ⟨false,[.ref 0]⟩,.one ⟨false,[.val (.int .i64 x0)]⟩],[.row true 2 (.int .i64) x1]=>some ⟨.one ⟨false,[.val (.int .i64 (x0 + (x1.length:Int)))]⟩,[.row true 2 afY (Hb x0 x1.length)],[],[af2 x0 x1.length]⟩
 |_,_=>none
def zO:PF prog:=PF.alt adY Ti (by
 intro args es o h da;unfold Ti at h;split at h
 ·rename_i x0 x1
  cases h
  have da:=pb da
  have hh:=ako x0 x1 da
  obtain⟨e0,e1,en⟩:=hh
  exact tU rfl (pc en) (by simp only [e0] <;> rfl) (by simp only [e1] <;> rfl) rfl
 ·cases h)
def adH(k:Int)(xs:List Int):Int:=DG k xs
theorem aj6(k:Int)(n:Nat)(h:af2 k n=true):adH k (Hb k n)=k + n:=by
 obtain⟨h0,h1⟩:=UY.1 h
 obtain⟨w1,w2⟩:=Qd (Hb k n) k (by rw [Lt];omega)
 rw [aiS (f:=ux) (fun b k=>rfl) h0 h1]at w2
 simp only [adH,BF,DG,Ij,w2,nM]
 rfl
theorem aj5(k:Int)(xs:List Int)(h:leN xs.length 9223372036854775807=true):DG k xs=adH k xs∧Ij k xs=true:=by
 obtain⟨w1,w2⟩:=Qd xs k (fQ.1 h)
 exact⟨rfl,by simp only [BF,DG,Ij,w1,allT,cond_true]⟩
def Th:List SV→List Entry→Option Out
 | [.one ⟨false,[.ref 0]⟩,.one ⟨false,[.val (.int .i64 x0)]⟩],[.row false 2 (.int .i64) x1]=>some ⟨.one ⟨false,[.val (.int .i64 (adH x0 x1))]⟩,[.row false 2 afY x1],[],[leN x1.length 9223372036854775807]⟩
 |_,_=>none
def zN:PF prog:=PF.alt adX Th (by
 intro args es o h da;unfold Th at h;split at h
 ·rename_i x0 x1
  cases h
  have da:=pb da
  have hh:=aj5 x0 x1 da
  obtain⟨e0,en⟩:=hh
  exact tU rfl (pc en) (by simp only [e0] <;> rfl) rfl rfl
 ·cases h)
def szV(k:Int)(xs:List Int):Int:=bif ltI (k - xs.length) 0 then -1 else k - xs.length
theorem am5(k:Int)(xs:List Int)(h:(leN xs.length 9223372036854775807&&(leI (-1) k&&leI k 1048576))=true):Qm k xs=szV k xs:=by
 simp only [Bool.and_eq_true,fQ,Ee]at h
 simp only [Pa,Qm,szV]
 rw [aT (by omega) (by omega)]
def WD:List SV→List Entry→Option Out
 | [.one ⟨false,[.ref 0]⟩,.one ⟨false,[.val (.int .i64 x0)]⟩],[.row false 2 (.int .i64) x1]=>some ⟨.one ⟨false,[.val (.int .i64 (szV x0 x1))]⟩,[.row false 2 afY x1],[],[leN x1.length 9223372036854775807&&(leI (-1) x0&&leI x0 1048576)]⟩
 |_,_=>none
def Qq:PF prog:=PF.alt af8 WD (by
 intro args es o h da;unfold WD at h;split at h
 ·rename_i x0 x1
  cases h
  have da:=pb da
  have hh:=am5 x0 x1 da
  have e0:=hh
  exact tU rfl (fun _ h=>by cases h) (by simp only [e0] <;> rfl) rfl rfl
 ·cases h)
theorem anj(xs:List Int)(h:(leN 1 xs.length&&leN xs.length 1048576)=true):vZ xs=true:=by
 simp only [Bool.and_eq_true,fQ]at h
 simp [vZ,allT]
 omega
def afo:List SV→List Entry→Option Out
 | [.one ⟨false,[.val (.slice none 0 0)]⟩],[]=>some ⟨.one ⟨false,[.ref 0]⟩,[],[.row true 2 (.int .i64) []],[true]⟩
 |_,_=>none
def aky:PF prog:=PF.ofG prog [PF.raw prog] [] aQ 194 f194 func194 (fun c _=>LOk.nil c) afo (by
 intro vs es r h;unfold afo at h;split at h
 ·cases h;kernel_rfl
 ·cases h)
def afn:List SV→List Entry→Option Out
 | [.one ⟨false,[.val (.slice (some _) 0 _)]⟩],[]=>some ⟨.one ⟨false,[.ref 0]⟩,[],[.row true 2 (.int .i64) []],[true]⟩
 |_,_=>none
def akx:PF prog:=PF.ofG prog [] [] aQ 194 f194 func194 (fun c _=>LOk.nil c) afn (by
 intro vs es r h;unfold afn at h;split at h
 ·cases h;kernel_rfl
 ·cases h)
def IY:List SV→List Entry→Option Out
 | [.one ⟨false,[.ref 0]⟩],[.row false 2 (.int .i64) x0]=>some ⟨.one ⟨false,[.ref 1]⟩,[.row false 2 (.int .i64) x0],[.row true 2 (.int .i64) x0],[leN x0.length 1048576]⟩
 |_,_=>none
def Cc:PF prog where
 k:=194
 F:=IY
 ok:=by
  intro args es o h da mem ρ w hp
  unfold IY at h
  split at h
  ·rename_i x0
   cases h
   have hl:=da _ (List.mem_singleton.2 rfl)
   cases x0 with
   |nil=>
    exact(ani aky akx rfl rfl rfl (fun _ _=>rfl) (by simp) (by simp) hp).mono fun en w' ⟨ρ',h1,h2,h3⟩=>⟨ρ',h1,h2,rfl,(by intro v hv;rw [List.mem_singleton.1 hv];rfl),h3⟩
   |cons x xs=>exact Sl.ok _ _ ⟨_,_,_,[vZ (x::xs)]⟩ rfl (fun b hb=>by rw [List.mem_singleton.1 hb];exact anj (x::xs) ((Bool.and_eq_true _ _).mpr ⟨dx (Nat.succ_pos _),hl⟩)) mem ρ w hp
  ·cases h
theorem aoW(xs:List Int)(h:leN xs.length 1048576=true):Uh xs=true:=by
 have h:=fQ.1 h
 simp [Uh,allT]
 omega
def abd:List SV→List Entry→Option Out
 | [.one ⟨false,[.ref 0]⟩],[.row false 2 (.int .i64) x0]=>some ⟨.one ⟨false,[.ref 1]⟩,[.row false 2 afY x0],[.row true 2 afY x0],[leN x0.length 1048576]⟩
 |_,_=>none
def nb:PF prog:=PF.alt ah5 abd (by
 intro args es o h da;unfold abd at h;split at h
 ·rename_i x0
  cases h
  have da:=pb da
  have hh:=aoW x0 da
  have en:=hh
  exact tU rfl (pc en) rfl rfl rfl
 ·cases h)
def FP(x0:Int):Bool:=bif leI (97:Int) x0 then leI x0 (122:Int)else false
def Ux:List SV→List Entry→Option Out
 | [.one ⟨false,[.val (.int .u8 x0)]⟩],[]=>some ⟨.one ⟨false,[.val (.bool (FP x0))]⟩,[],[],[]⟩
 |_,_=>none
def Ps:PF prog:=PF.ofG prog [] [] aQ 277 f277 func277 (fun c _=>LOk.nil c) Ux (by
 intro vs es r h;unfold Ux at h;split at h
 ·cases h;kernel_rfl
 ·cases h)
def Qy(x0:Int):Bool:=bif leI (48:Int) x0 then leI x0 (57:Int)else false
def Wr:List SV→List Entry→Option Out
 | [.one ⟨false,[.val (.int .u8 x0)]⟩],[]=>some ⟨.one ⟨false,[.val (.bool (Qy x0))]⟩,[],[],[]⟩
 |_,_=>none
def aga:PF prog:=PF.ofG prog [] [] aQ 280 f280 func280 (fun c _=>LOk.nil c) Wr (by
 intro vs es r h;unfold Wr at h;split at h
 ·cases h;kernel_rfl
 ·cases h)
def LO(x0:Int):Bool:=bif bif FP x0 then true else Qy x0 then true else x0==(95:Int)
def Ws:List SV→List Entry→Option Out
 | [.one ⟨false,[.val (.int .u8 x0)]⟩],[]=>some ⟨.one ⟨false,[.val (.bool (LO x0))]⟩,[],[],[]⟩
 |_,_=>none
def WM:PF prog:=PF.ofG prog [Ps,aga] [] aQ 276 f276 func276 (fun c _=>LOk.nil c) Ws (by
 intro vs es r h;unfold Ws at h;split at h
 ·cases h;kernel_rfl
 ·cases h)
abbrev ti:=Int×ByteArray
section
variable (y0:Int)(y1:ByteArray)
def Ei:Bool:=ltI y0 (↑(ByteArray.size y1):Int)
def Tw:Bool:=leI (0:Int) y0
def Oi:Bool:= !LO (↑(UInt8.toNat (Option.getD y1[Int.toNat y0]? (0:UInt8))):Int)
def Tx:Int:=IntKind.wrap .i64 (y0 + (1:Int))
end
def abP:ti→List (Nat×SV)
 |(y0,y1)=> [(3,(.one ⟨false,[.val (.int .i64 y0)]⟩)),(0,(.one ⟨false,[.val (.string y1)]⟩))]
def abF:ti→List (Nat×Entry)
 |(_,_)=> []
def ab9:Nat→ti→List (Nat×SV)
 |0,(_,_)=> [(2,(.one ⟨false,[.val (.bool false)]⟩))]
 |_,(_,_)=> []
def abZ:Nat→ti→List (Nat×Entry)
 |0,(_,_)=> []
 |_,(_,_)=> []
def BX:ti→LT ti
 |(y0,y1)=> .ite (Ei y0 y1) (.need [Tw y0,Ei y0 y1] (.ite (Oi y0 y1) (.ext 0 []) (.nrm ((Tx y0),y1) []))) (.ext 1 [])
def Mx(s:St):Option ti:=
 (match s.look 3 with
 |some ⟨none,.one ⟨false,[.val (.int .i64 y0)]⟩⟩=>
 (match s.look 0 with
 |some ⟨none,.one ⟨false,[.val (.string y1)]⟩⟩=>
 some (y0,y1)
 |_=>none)
 |_=>none)
def gu:Lp ti where
 h:=⟨[4,5,6,7,10,11,12,13,14,2,8,9,3],[],[],[]⟩
 JL:=abP
 JE:=abF
 XL:=ab9
 XE:=abZ
 q:=fun j=>match j with | 0=> .ret | _=> .exit 0
 tags:= [0,1]
 lt:=BX
 fuel:=fun(y0,y1)=>y0.natAbs + y1.size
 fix:=fun(_,y1) (y0,_)=>(y0,y1)
 σ:= []
 rd:=Mx
theorem Zn:LoopOk prog (fun k=>Nat.blt k Tryz.f266.ntmps) gu.F (aS f266 0):=by
 refine Lp.ok (tbl:= [vV,WM,Ps]) (lf:= []) aQ gu (by kernel_rfl) (LOk.nil _) (fun _=>rfl) (fun j _=>by unfold gu;match j with | 0=>rfl | _ + 1=>rfl) ?_ ?_ ?_ ?_ (fun _=>rfl) ?_
 ·rintro⟨y0,y1⟩;kernel_rfl
 ·rintro⟨y0,y1⟩;kernel_rfl
 ·intro s x h
  have h:Mx s=some x:=h
  unfold Mx at h
  repeat' split at h
  all_goals cases h
  exact⟨aa (by assumption) rfl (aa (by assumption) rfl (rfl)),rfl⟩
 ·rintro⟨y0,y1⟩;kernel_rfl
 ·rintro⟨y0,y1⟩ z;exact(And.intro (And.intro trivial rfl) trivial)
section
variable (x0:ByteArray)
def LP:Bool:=Nat.beq ((Lp.res gu ((0:Int),x0)).1) (0:Nat)
def LQ:Bool:=bA (↑(ByteArray.size x0):Int) (1:Int) (12:Int)
def SB:Bool:=bif LP x0 then false else bif LQ x0 then FP (↑(UInt8.toNat (Option.getD x0[Int.toNat (0:Int)]? (0:UInt8))):Int)else false
def SC:Bool:=allT [Lp.fin gu ((0:Int),x0),LP x0||(!(LQ x0&&true)||leI (0:Int) (0:Int)),LP x0||(!(LQ x0&&true)||ltI (0:Int) (↑(ByteArray.size x0):Int))]
end
def XO:List SV→List Entry→Option Out
 | [.one ⟨false,[.val (.string x0)]⟩],[]=>some ⟨.one ⟨false,[.val (.bool (SB x0))]⟩,[],[],[SC x0]⟩
 |_,_=>none
def ahl:PF prog:=PF.ofG prog [vV,WM,Ps] [gu.F] aQ 266 f266 func266 (LOk.fnT (l:= [aS f266 0]) (by kernel_rfl) (.cons Zn (.nil _))) XO (by
 intro vs es r h;unfold XO at h;split at h
 ·cases h;kernel_rfl
 ·cases h)
def MB:List ByteArray:=
 [{ data:= #[(112:UInt8),(114:UInt8),(111:UInt8),(103:UInt8),(114:UInt8),(97:UInt8),(109:UInt8)] },
 {data:= #[(105:UInt8),(110:UInt8)] },{ data:= #[(118:UInt8),(97:UInt8),(114:UInt8)] },
 {data:= #[(111:UInt8),(117:UInt8),(116:UInt8)] },{ data:= #[(103:UInt8),(117:UInt8),(97:UInt8),(114:UInt8),(100:UInt8)] },
 {data:= #[(101:UInt8),(110:UInt8),(100:UInt8)] },{ data:= #[(97:UInt8),(110:UInt8),(100:UInt8)] },
 {data:= #[(111:UInt8),(114:UInt8)] },{ data:= #[(110:UInt8),(111:UInt8),(116:UInt8)] },
 {data:= #[(116:UInt8),(114:UInt8),(117:UInt8),(101:UInt8)] },
 {data:= #[(102:UInt8),(97:UInt8),(108:UInt8),(115:UInt8),(101:UInt8)] },{ data:= #[(111:UInt8),(110:UInt8)] },
 {data:= #[(111:UInt8),(102:UInt8),(102:UInt8)] },{ data:= #[(114:UInt8),(105:UInt8),(115:UInt8),(101:UInt8)] },
 {data:= #[(108:UInt8),(97:UInt8),(116:UInt8),(99:UInt8),(104:UInt8)] },
 {data:= #[(99:UInt8),(111:UInt8),(117:UInt8),(110:UInt8),(116:UInt8)] },
 {data:= #[(112:UInt8),(97:UInt8),(105:UInt8),(114:UInt8)] }]
def Rm:List SV→List Entry→Option Out
 | [],[]=>some ⟨.one ⟨false,[.ref 0]⟩,[],[.row true 9 agS (MB)],[]⟩
 |_,_=>none
def Sm:PF prog:=PF.ofG prog [] [] aQ 278 f278 func278 (fun c _=>LOk.nil c) Rm (by
 intro vs es r h;unfold Rm at h;split at h
 ·cases h;kernel_rfl
 ·cases h)
abbrev kk:=Int×ByteArray×List ByteArray
section
variable (y0:Int)(y1:ByteArray)(y2:List ByteArray)
def vd:Bool:=ltI y0 (↑y2.length:Int)
def yT:Bool:=leI (0:Int) y0
def yU:Bool:=ltN y0.toNat y2.length
def yV:Bool:=ByteArray.toList (Option.getD y2[Int.toNat y0]? ByteArray.empty)==ByteArray.toList y1
def yW:Int:=IntKind.wrap .i64 (y0 + (1:Int))
end
def Xc:kk→List (Nat×SV)
 |(y0,y1,_)=> [(4,(.one ⟨false,[.val (.int .i64 y0)]⟩)),(3,(.one ⟨false,[.ref 0]⟩)),(0,(.one ⟨false,[.val (.string y1)]⟩))]
def WX:kk→List (Nat×Entry)
 |(_,_,y2)=> [(0,(.row true 9 agS y2))]
def Xm:Nat→kk→List (Nat×SV)
 |0,(y0,_,_)=> [(2,(.one ⟨false,[.val (.int .i64 y0)]⟩))]
 |_,(_,_,_)=> []
def Xh:Nat→kk→List (Nat×Entry)
 |0,(_,_,y2)=> [(0,(.row true 9 agS y2))]
 |_,(_,_,y2)=> [(0,(.row true 9 agS y2))]
def wW:kk→LT kk
 |(y0,y1,y2)=> .ite (vd y0 y2) (.need [yT y0,vd y0 y2,yU y0 y2] (.ite (yV y0 y1 y2) (.ext 0 [(0,0)]) (.nrm ((yW y0),y1,y2) [(0,0)]))) (.ext 1 [(0,0)])
def HU(s:St):Option kk:=
 (match s.look 4 with
 |some ⟨none,.one ⟨false,[.val (.int .i64 y0)]⟩⟩=>
 (match s.look 3 with
 |some ⟨none,.one ⟨false,[.ref 128]⟩⟩=>
 (match s.look 0 with
 |some ⟨none,.one ⟨false,[.val (.string y1)]⟩⟩=>
 (match s.ent 128 with
 |some (.row true 9 (.str) y2)=>
 some (y0,y1,y2)
 |_=>none)
 |_=>none)
 |_=>none)
 |_=>none)
def dk:Lp kk where
 h:=⟨[6,7,8,9,12,13,14,15,16,17,18,2,10,11,4],[0],[],[]⟩
 JL:=Xc
 JE:=WX
 XL:=Xm
 XE:=Xh
 q:=fun j=>match j with | 0=> .ret | _=> .exit 0
 tags:= [0,1]
 lt:=wW
 fuel:=fun(y0,y1,y2)=>y0.natAbs + y1.size + y2.length
 fix:=fun(_,y1,y2) (y0,_,_)=>(y0,y1,y2)
 σ:= [(0,128)]
 rd:=HU
theorem UT:LoopOk prog (fun k=>Nat.blt k Tryz.f267.ntmps) dk.F (aS f267 0):=by
 refine Lp.ok (tbl:= [Sm]) (lf:= []) aQ dk (by kernel_rfl) (LOk.nil _) (fun _=>rfl) (fun j _=>by unfold dk;match j with | 0=>rfl | _ + 1=>rfl) ?_ ?_ ?_ ?_ (fun _=>rfl) ?_
 ·rintro⟨y0,y1,y2⟩;kernel_rfl
 ·rintro⟨y0,y1,y2⟩;kernel_rfl
 ·intro s x h
  have h:HU s=some x:=h
  unfold HU at h
  repeat' split at h
  all_goals cases h
  exact⟨aa (by assumption) rfl (aa (by assumption) rfl (aa (by assumption) rfl (rfl))),ab rfl (by assumption) rfl (rfl)⟩
 ·rintro⟨y0,y1,y2⟩;kernel_rfl
 ·rintro⟨y0,y1,y2⟩ z;exact(And.intro (And.intro trivial rfl) trivial)
section
variable (x0:ByteArray)
def GP:Int×ByteArray×List ByteArray:=((0:Int),x0,MB)
def IB:Int:=bif Nat.beq ((Lp.res dk (GP x0)).1) (0:Nat)then ((Lp.res dk (GP x0)).2).1else(-1:Int)
def IC:Bool:=allT [Lp.fin dk (GP x0)]
end
def Tf:List SV→List Entry→Option Out
 | [.one ⟨false,[.val (.string x0)]⟩],[]=>some ⟨.one ⟨false,[.val (.int .i64 (IB x0))]⟩,[],[],[IC x0]⟩
 |_,_=>none
def adZ:PF prog:=PF.ofG prog [Sm] [dk.F] aQ 267 f267 func267 (LOk.fnT (l:= [aS f267 0]) (by kernel_rfl) (.cons UT (.nil _))) Tf (by
 intro vs es r h;unfold Tf at h;split at h
 ·cases h;kernel_rfl
 ·cases h)
def vJ(x0:ByteArray)(x1:Int):Int:=ibs x0 x1
def Dh:List SV→List Entry→Option Out
 | [.one ⟨false,[.val (.string x0)]⟩,.one ⟨false,[.val (.int .u8 x1)]⟩],[]=>some ⟨.one ⟨false,[.val (.int .i64 (vJ x0 x1))]⟩,[],[],[]⟩
 |_,_=>none
def NW:PF prog:=PF.ofG prog [] [] aQ 279 f279 func279 (fun c _=>LOk.nil c) Dh (by
 intro vs es r h;unfold Dh at h;split at h
 ·cases h;kernel_rfl
 ·cases h)
def Fh(x0:ByteArray)(x1:Int):Int:=vJ x0 x1
def QK:List SV→List Entry→Option Out
 | [.one ⟨false,[.val (.string x0)]⟩,.one ⟨false,[.val (.int .u8 x1)]⟩],[]=>some ⟨.one ⟨false,[.val (.int .i64 (Fh x0 x1))]⟩,[],[],[]⟩
 |_,_=>none
def KI:PF prog:=PF.ofG prog [NW] [] aQ 273 f273 func273 (fun c _=>LOk.nil c) QK (by
 intro vs es r h;unfold QK at h;split at h
 ·cases h;kernel_rfl
 ·cases h)
abbrev Bb:=Int×Int×ByteArray×ByteArray
section
variable (y0 y1:Int)(y2 y3:ByteArray)
def yj:Bool:=ltI (IntKind.wrap .i64 (y0 + y1)) (↑(ByteArray.size y2):Int)
def TX:Bool:= !(yj y0 y1 y2&&true)||leI (0:Int) (IntKind.wrap .i64 (y0 + y1))
def TY:Bool:= !(yj y0 y1 y2&&true)||yj y0 y1 y2
def PE:Bool:=bif yj y0 y1 y2 then leI (0:Int) (Fh y3 (↑(UInt8.toNat (Option.getD y2[Int.toNat (IntKind.wrap .i64 (y0 + y1))]? (0:UInt8))):Int))else false
def abj:Int:=IntKind.wrap .i64 (y1 + (1:Int))
end
def ags:Bb→List (Nat×SV)
 |(y0,y1,y2,y3)=> [(1,(.one ⟨false,[.val (.int .i64 y0)]⟩)),(7,(.one ⟨false,[.val (.int .i64 y1)]⟩)),(0,(.one ⟨false,[.val (.string y2)]⟩)),(2,(.one ⟨false,[.val (.string y3)]⟩))]
def agr:Bb→List (Nat×Entry)
 |(_,_,_,_)=> []
def agw:Nat→Bb→List (Nat×SV)
 |_,(_,y1,_,_)=> [(7,(.one ⟨false,[.val (.int .i64 y1)]⟩))]
def agv:Nat→Bb→List (Nat×Entry)
 |_,(_,_,_,_)=> []
def Jp:Bb→LT Bb
 |(y0,y1,y2,y3)=> .need [TX y0 y1 y2,TY y0 y1 y2] (.ite (PE y0 y1 y2 y3) (.nrm (y0,abj y1,y2,y3) []) (.ext 0 []))
def Ss(s:St):Option Bb:=
 (match s.look 1 with
 |some ⟨none,.one ⟨false,[.val (.int .i64 y0)]⟩⟩=>
 (match s.look 7 with
 |some ⟨none,.one ⟨false,[.val (.int .i64 y1)]⟩⟩=>
 (match s.look 0 with
 |some ⟨none,.one ⟨false,[.val (.string y2)]⟩⟩=>
 (match s.look 2 with
 |some ⟨none,.one ⟨false,[.val (.string y3)]⟩⟩=>
 some (y0,y1,y2,y3)
 |_=>none)
 |_=>none)
 |_=>none)
 |_=>none)
def ka:Lp Bb where
 h:=⟨[8,9,10,11,12,13,14,15,16,17,18,19,20,21,22,23,24,25,7],[],[],[]⟩
 JL:=ags
 JE:=agr
 XL:=agw
 XE:=agv
 q:=fun j=>match j with | _=> .exit 0
 tags:= [0]
 lt:=Jp
 fuel:=fun(y0,y1,y2,y3)=>y0.natAbs + y1.natAbs + y2.size + y3.size
 fix:=fun(y0,_,y2,y3) (_,y1,_,_)=>(y0,y1,y2,y3)
 σ:= []
 rd:=Ss
theorem aeL:LoopOk prog (fun k=>Nat.blt k Tryz.f274.ntmps) ka.F (aS f274 0):=by
 refine Lp.ok (tbl:= [KI]) (lf:= []) aQ ka (by kernel_rfl) (LOk.nil _) (fun _=>rfl) (fun _ _=>rfl) ?_ ?_ ?_ ?_ (fun _=>rfl) ?_
 ·rintro⟨y0,y1,y2,y3⟩;kernel_rfl
 ·rintro⟨y0,y1,y2,y3⟩;kernel_rfl
 ·intro s x h
  have h:Ss s=some x:=h
  unfold Ss at h
  repeat' split at h
  all_goals cases h
  exact⟨aa (by assumption) rfl (aa (by assumption) rfl (aa (by assumption) rfl (aa (by assumption) rfl (rfl)))),rfl⟩
 ·rintro⟨y0,y1,y2,y3⟩;kernel_rfl
 ·rintro⟨y0,y1,y2,y3⟩ z;exact(And.intro rfl trivial)
section
variable (x0:ByteArray)(x1:Int)(x2:ByteArray)
def afw:Int×Int×ByteArray×ByteArray:=(x1,(0:Int),x0,x2)
def agV:Int:=((Lp.res ka (afw x0 x1 x2)).2.2).1
def agW:Bool:=allT [Lp.fin ka (afw x0 x1 x2)]
end
def agq:List SV→List Entry→Option Out
 | [.one ⟨false,[.val (.string x0)]⟩,.one ⟨false,[.val (.int .i64 x1)]⟩,.one ⟨false,[.val (.string x2)]⟩],[]=>some ⟨.one ⟨false,[.val (.int .i64 (agV x0 x1 x2))]⟩,[],[],[agW x0 x1 x2]⟩
 |_,_=>none
def alI:PF prog:=PF.ofG prog [KI] [ka.F] aQ 274 f274 func274 (LOk.fnT (l:= [aS f274 0]) (by kernel_rfl) (.cons aeL (.nil _))) agq (by
 intro vs es r h;unfold agq at h;split at h
 ·cases h;kernel_rfl
 ·cases h)
def yh(x0:ByteArray):Bool:=tH (↑(ByteArray.size x0):Int) (1:Int) (12:Int)
def FC(x0:ByteArray):Bool:=
 bif yh x0 then
 leI (0:Int)
  (Fh
   {
    data:=
     #[(97:UInt8),(98:UInt8),(99:UInt8),(100:UInt8),(101:UInt8),(102:UInt8),(103:UInt8),(104:UInt8),(105:UInt8),
      (106:UInt8),(107:UInt8),(108:UInt8),(109:UInt8),(110:UInt8),(111:UInt8),(112:UInt8),(113:UInt8),(114:UInt8),
      (115:UInt8),(116:UInt8),(117:UInt8),(118:UInt8),(119:UInt8),(120:UInt8),(121:UInt8),(122:UInt8)] }
   (↑(UInt8.toNat (Option.getD x0[Int.toNat (0:Int)]? (0:UInt8))):Int))
 else false
def TV(x0:ByteArray):Bool:=
 bif FC x0 then
 agV x0 (0:Int)
   {
    data:=
     #[(97:UInt8),(98:UInt8),(99:UInt8),(100:UInt8),(101:UInt8),(102:UInt8),(103:UInt8),(104:UInt8),(105:UInt8),
      (106:UInt8),(107:UInt8),(108:UInt8),(109:UInt8),(110:UInt8),(111:UInt8),(112:UInt8),(113:UInt8),(114:UInt8),
      (115:UInt8),(116:UInt8),(117:UInt8),(118:UInt8),(119:UInt8),(120:UInt8),(121:UInt8),(122:UInt8),(48:UInt8),
      (49:UInt8),(50:UInt8),(51:UInt8),(52:UInt8),(53:UInt8),(54:UInt8),(55:UInt8),(56:UInt8),(57:UInt8),
      (95:UInt8)] } ==
  (↑(ByteArray.size x0):Int)
 else false
def TW(x0:ByteArray):Bool:=
 allT
 [!(yh x0&&true)||leI (0:Int) (0:Int),!(yh x0&&true)||ltI (0:Int) (↑(ByteArray.size x0):Int),
  !(FC x0&&true)||
   agW x0 (0:Int)
    {
     data:=
      #[(97:UInt8),(98:UInt8),(99:UInt8),(100:UInt8),(101:UInt8),(102:UInt8),(103:UInt8),(104:UInt8),(105:UInt8),
       (106:UInt8),(107:UInt8),(108:UInt8),(109:UInt8),(110:UInt8),(111:UInt8),(112:UInt8),(113:UInt8),(114:UInt8),
       (115:UInt8),(116:UInt8),(117:UInt8),(118:UInt8),(119:UInt8),(120:UInt8),(121:UInt8),(122:UInt8),(48:UInt8),
       (49:UInt8),(50:UInt8),(51:UInt8),(52:UInt8),(53:UInt8),(54:UInt8),(55:UInt8),(56:UInt8),(57:UInt8),
       (95:UInt8)] }]
def aaZ:List SV→List Entry→Option Out
 | [.one ⟨false,[.val (.string x0)]⟩],[]=>some ⟨.one ⟨false,[.val (.bool (TV x0))]⟩,[],[],[TW x0]⟩
 |_,_=>none
def ah4:PF prog:=PF.ofG prog [Ug,KI,alI] [] aQ 257 f257 func257 (fun c _=>LOk.nil c) aaZ (by
 intro vs es r h;unfold aaZ at h;split at h
 ·cases h;kernel_rfl
 ·cases h)
abbrev cV:=Int×Int×ByteArray×List ByteArray
section
variable (y0 y1:Int)(y2:ByteArray)(y3:List ByteArray)
def nB:Bool:=ltI y0 y1
def nC:Bool:=leI (0:Int) y0
def nD:Bool:=ltI y0 (↑y3.length:Int)
def nE:Bool:=ltN y0.toNat y3.length
def nF:Bool:=ByteArray.toList y2==ByteArray.toList (Option.getD y3[Int.toNat y0]? ByteArray.empty)
def nG:Int:=IntKind.wrap .i64 (y0 + (1:Int))
end
def Nz:cV→List (Nat×SV)
 |(y0,y1,y2,_)=> [(8,(.one ⟨false,[.val (.int .i64 y0)]⟩)),(7,(.one ⟨false,[.val (.int .i64 y1)]⟩)),(1,(.one ⟨false,[.val (.string y2)]⟩)),(0,(.one ⟨false,[.ref 0]⟩))]
def Ny:cV→List (Nat×Entry)
 |(_,_,_,y3)=> [(0,(.row false 9 agS y3))]
def ND:Nat→cV→List (Nat×SV)
 |0,(y0,_,_,_)=> [(4,(.one ⟨false,[.val (.int .i64 y0)]⟩))]
 |_,(_,_,_,_)=> []
def NC:Nat→cV→List (Nat×Entry)
 |0,(_,_,_,y3)=> [(0,(.row false 9 agS y3))]
 |_,(_,_,_,y3)=> [(0,(.row false 9 agS y3))]
def mz:cV→LT cV
 |(y0,y1,y2,y3)=> .ite (nB y0 y1) (.need [nC y0,nD y0 y3,nE y0 y3] (.ite (nF y0 y2 y3) (.ext 0 [(0,0)]) (.nrm ((nG y0),y1,y2,y3) [(0,0)]))) (.ext 1 [(0,0)])
def vY(s:St):Option cV:=
 (match s.look 8 with
 |some ⟨none,.one ⟨false,[.val (.int .i64 y0)]⟩⟩=>
 (match s.look 7 with
 |some ⟨none,.one ⟨false,[.val (.int .i64 y1)]⟩⟩=>
 (match s.look 1 with
 |some ⟨none,.one ⟨false,[.val (.string y2)]⟩⟩=>
 (match s.look 0 with
 |some ⟨none,.one ⟨false,[.ref 0]⟩⟩=>
 (match s.ent 0 with
 |some (.row false 9 (.str) y3)=>
 some (y0,y1,y2,y3)
 |_=>none)
 |_=>none)
 |_=>none)
 |_=>none)
 |_=>none)
def aU:Lp cV where
 h:=⟨[9,10,5,11,12,13,14,15,16,17,4,18,8],[0],[],[]⟩
 JL:=Nz
 JE:=Ny
 XL:=ND
 XE:=NC
 q:=fun j=>match j with | 0=> .ret | _=> .exit 0
 tags:= [0,1]
 lt:=mz
 fuel:=fun(y0,y1,y2,y3)=>y0.natAbs + y1.natAbs + y2.size + y3.length
 fix:=fun(_,y1,y2,y3) (y0,_,_,_)=>(y0,y1,y2,y3)
 σ:= [(0,0)]
 rd:=vY
theorem Mf:LoopOk prog (fun k=>Nat.blt k Tryz.f120.ntmps) aU.F (aS f120 0):=by
 refine Lp.ok (tbl:= []) (lf:= []) aQ aU (by kernel_rfl) (LOk.nil _) (fun _=>rfl) (fun j _=>by unfold aU;match j with | 0=>rfl | _ + 1=>rfl) ?_ ?_ ?_ ?_ (fun _=>rfl) ?_
 ·rintro⟨y0,y1,y2,y3⟩;kernel_rfl
 ·rintro⟨y0,y1,y2,y3⟩;kernel_rfl
 ·intro s x h
  have h:vY s=some x:=h
  unfold vY at h
  repeat' split at h
  all_goals cases h
  exact⟨aa (by assumption) rfl (aa (by assumption) rfl (aa (by assumption) rfl (aa (by assumption) rfl (rfl)))),ab rfl (by assumption) rfl (rfl)⟩
 ·rintro⟨y0,y1,y2,y3⟩;kernel_rfl
 ·rintro⟨y0,y1,y2,y3⟩ z;exact(And.intro (And.intro trivial rfl) trivial)
section
variable (x0:ByteArray)(x1:List ByteArray)
def pk:Int×Int×ByteArray×List ByteArray:=((0:Int),(↑x1.length:Int),x0,x1)
def pZ:Int:=bif Nat.beq ((Lp.res aU (pk x0 x1)).1) (0:Nat)then ((Lp.res aU (pk x0 x1)).2).1else(-1:Int)
def qa:Bool:=allT [Lp.fin aU (pk x0 x1)]
end
def Hd:List SV→List Entry→Option Out
 | [.one ⟨false,[.ref 0]⟩,.one ⟨false,[.val (.string x0)]⟩],[.row false 9 (.str) x1]=>some ⟨.one ⟨false,[.val (.int .i64 (pZ x0 x1))]⟩,[.row false 9 agS x1],[],[qa x0 x1]⟩
 |_,_=>none
def tS:PF prog:=PF.ofG prog [] [aU.F] aQ 120 f120 func120 (LOk.fnT (l:= [aS f120 0]) (by kernel_rfl) (.cons Mf (.nil _))) Hd (by
 intro vs es r h;unfold Hd at h;split at h
 ·cases h;kernel_rfl
 ·cases h)
def gZ(x0:ByteArray)(x1:List ByteArray):Bool:=leI (0:Int) (pZ x0 x1)
def kf(x0:ByteArray)(x1:List ByteArray):Bool:=allT [qa x0 x1]
def EJ:List SV→List Entry→Option Out
 | [.one ⟨false,[.ref 0]⟩,.one ⟨false,[.val (.string x0)]⟩],[.row false 9 (.str) x1]=>some ⟨.one ⟨false,[.val (.bool (gZ x0 x1))]⟩,[.row false 9 agS x1],[],[kf x0 x1]⟩
 |_,_=>none
def cW:PF prog:=PF.ofG prog [tS,PF.lend tS,PF.fz tS] [] aQ 234 f234 func234 (fun c _=>LOk.nil c) EJ (by
 intro vs es r h;unfold EJ at h;split at h
 ·cases h;kernel_rfl
 ·cases h)
def OT(x0:ByteArray):Bool:=gZ x0 (List.drop (Int.toNat (0:Int)) (List.take (Int.toNat (↑(List.length ZG):Int)) ZG))
def OU(x0:ByteArray):Bool:=allT [kf x0 (List.drop (Int.toNat (0:Int)) (List.take (Int.toNat (↑(List.length ZG):Int)) ZG))]
def Uj:List SV→List Entry→Option Out
 | [.one ⟨false,[.val (.string x0)]⟩],[]=>some ⟨.one ⟨false,[.val (.bool (OT x0))]⟩,[],[],[OU x0]⟩
 |_,_=>none
def aeY:PF prog:=PF.ofG prog [cW,PF.lend cW,PF.fz cW] [] aQ 258 f258 func258 (fun c _=>LOk.nil c) Uj (by
 intro vs es r h;unfold Uj at h;split at h
 ·cases h;kernel_rfl
 ·cases h)
theorem Lp.scan{X:Type}(p:Lp X)(st:Nat→X)(N:Nat)(P:Nat→Bool)(e:Nat)(hN:N≤p.fuel (st 0))
  (hs: ∀ b,b < N→(p.lt (st b)).nds=true∧(p.lt (st b)).each (fun y=>y=st (b + 1))∧(p.lt (st b)).fn (fun _=>())=(bif P b then .inl 0 else .inr ()))
  (he:(p.lt (st N)).out=some (.inl e)):p.fin (st 0)=true∧(p.res (st 0)).1=bif(List.range N).any P then 0 else e:=by
 have jT:=p.along (fun i (_:Unit)=>st i) (fun _=>()) (fun(b:Nat) (_:Unit)=>bif P b then .inl 0 else .inr ()) e (fun _ _=>True) (List.range N) () trivial (by rw [List.length_range];exact hN)
  (fun i b a hb _=>by
   obtain⟨rfl,fa⟩:=oJ hb
   obtain⟨h1,h2,h3⟩:=hs b fa
   exact⟨h1,h2,h3,fun _ _=>trivial⟩) (fun a _=>by rw [List.length_range];exact he)
 rw [iS (P:=P) (j:=0) (fun b=>rfl)]at jT
 exact⟨jT.1,by rw [jT.2]⟩
def bAt(s:ByteArray)(b:Nat):Int:=((s[b]?.getD 0).toNat:Int)
def akl(c:Int):Bool:=inR c 97 122
def Xp(c:Int):Bool:=akl c||(inR c 48 57||c==95)
def QX(s:ByteArray):Bool:=inR (s.size:Int) 1 12&&(akl (bAt s 0)&&(List.range s.size).all fun b=>Xp (bAt s b))
def alB(s:ByteArray):Bool:=ZG.any fun k=>k.toList==s.toList
def mM(s:ByteArray):Bool:=QX s&& !alB s
def aoG:ByteArray:=⟨#[97,98,99,100,101,102,103,104,105,106,107,108,109,110,111,112,113,114,115,116,117,118,119,120,121,122]⟩
def wbS:ByteArray:=⟨#[97,98,99,100,101,102,103,104,105,106,107,108,109,110,111,112,113,114,115,116,117,118,119,120,121,122,48,49,50,51,52,53,54,55,56,57,95]⟩
theorem an2: ∀ n:Nat,n < 256→leI 0 (ibs aoG (n:Int))=akl (n:Int):=by decide +kernel
theorem ao4: ∀ n:Nat,n < 256→leI 0 (ibs wbS (n:Int))=Xp (n:Int):=by decide +kernel
theorem aoH(s:ByteArray)(b:Nat):leI 0 (ibs aoG (bAt s b))=akl (bAt s b):=an2 _ (UInt8.toNat_lt _)
theorem api(s:ByteArray)(b:Nat):leI 0 (ibs wbS (bAt s b))=Xp (bAt s b):=ao4 _ (UInt8.toNat_lt _)
theorem am3(c:Int):LO c=Xp c:=by
 simp only [LO,FP,Qy,VI,Xp,akl]
 cases inR c 97 122 <;> cases inR c 48 57 <;> rfl
theorem amb(s:ByteArray)(hn:s.size≤9223372036854775807):
  gu.fin ((0:Int),s)=true∧(gu.res ((0:Int),s)).1=bif(List.range s.size).any (fun b=> !Xp (bAt s b))then 0 else 1:=by
 refine Lp.scan gu (fun b=>((b:Int),s)) s.size (fun b=> !Xp (bAt s b)) 1 (by simp only [gu];omega) (fun b hb=> ?_) ?_
 ·have cq:ltI (b:Int) (s.size:Int)=true:=eQ (by omega)
  have hw:IntKind.i64.wrap ((b:Int) + 1)=((b + 1:Nat):Int):=by rw [aT (by omega) (by omega)];omega
  have xl:leI (0:Int) (b:Int)=true:=cw (by omega)
  have i2:Oi (b:Int) s= !Xp (bAt s b):=by simp only [Oi,am3,Int.toNat_natCast,bAt]
  refine⟨?_,?_,?_⟩
  ·simp [gu,BX,LT.nds,allT,Ei,Tw,cq,xl]
  ·simp [gu,BX,LT.each,Tx,hw]
  ·simp only [gu,BX,LT.fn,Ei,cq,i2,cond_true]
 ·simp [gu,BX,LT.out,Ei]
theorem akQ(s:ByteArray)(h:leN s.size 9223372036854775807=true):SB s=QX s∧SC s=true:=by
 obtain⟨w1,w2⟩:=amb s (fQ.1 h)
 have e5:((List.range s.size).any fun b=> !Xp (bAt s b))= !(List.range s.size).all fun b=>Xp (bAt s b):=by simp [List.all_eq_not_any_not]
 rw [e5]at w2
 have eb:((UInt8.toNat (Option.getD s[Int.toNat (0:Int)]? (0:UInt8)):Nat):Int)=bAt s 0:=rfl
 have h0:leI 0 0=true:=rfl
 simp only [SB,SC,LP,LQ,w1,w2,eb,h0,FP,bA,VI,QX,akl,allT,Bool.or_true,cond_true]
 cases hr:inR (s.size:Int) 1 12 with
 |false=>cases (List.range s.size).all fun b=>Xp (bAt s b) <;> simp [Nat.beq]
 |true=>
  have:=GA.1 hr
  rw [eQ (by omega)]
  cases inR (bAt s 0) 97 122 <;> cases (List.range s.size).all fun b=>Xp (bAt s b) <;> simp [Nat.beq]
theorem aph(s:ByteArray)(hn:s.size≤9223372036854775806):
  ka.fin ((0:Int),(0:Int),s,wbS)=true∧((ka.res ((0:Int),(0:Int),s,wbS)).2.2.1==(s.size:Int))=(List.range s.size).all fun b=>Xp (bAt s b):=by
 have hz: ∀ i:Nat,i≤s.size→IntKind.i64.wrap ((0:Int) + (i:Int))=(i:Int):=fun i hi=>by rw [aT (by omega) (by omega)];omega
 have jT:=ka.along (fun i (_:Unit)=>((0:Int),(i:Int),s,wbS)) (fun _=>()) (fun(b:Nat) (_:Unit)=>bif !Xp (bAt s b)then .inl 0 else .inr ()) 0 (fun _ _=>True) (List.range s.size) () trivial (by simp only [ka,List.length_range];omega)
  (fun i b a hb _=>by
   obtain⟨rfl,fa⟩:=oJ hb
   have cq:ltI (b:Int) (s.size:Int)=true:=eQ (by omega)
   have xl:leI (0:Int) (b:Int)=true:=cw (by omega)
   have hw:IntKind.i64.wrap ((b:Int) + 1)=((b + 1:Nat):Int):=by rw [aT (by omega) (by omega)];omega
   have ha:yj 0 (b:Int) s=true:=by simp only [yj,hz b (by omega),cq]
   have hb2:PE 0 (b:Int) s wbS=Xp (bAt s b):=by
    simp only [PE,ha,cond_true,hz b (by omega),Int.toNat_natCast,Fh,vJ]
    exact api s b
   refine⟨?_,?_,?_,fun _ _=>trivial⟩
   ·have hz2:=hz b (by omega)
    rw [Int.zero_add]at hz2
    simp [ka,Jp,LT.nds,allT,TX,TY,ha,hz2]
   ·simp [ka,Jp,LT.each,abj,hw]
   ·simp only [ka,Jp,LT.fn,hb2]
    cases Xp (bAt s b) <;> rfl)
  (fun a _=>by
   have cq:ltI (s.size:Int) (s.size:Int)=false:=by simp
   have ha:yj 0 (s.size:Int) s=false:=by simp only [yj,hz s.size (by omega),cq]
   rw [List.length_range]
   simp [ka,Jp,LT.out,PE,TX,TY,allT,ha])
 rw [iS (P:=fun b=> !Xp (bAt s b)) (j:=0) (fun b=>rfl)]at jT
 refine⟨jT.1,?_⟩
 have k2:ka.res ((0:Int),(0:Int),s,wbS)=_:=jT.2
 rw [k2]
 simp only [Nat.zero_add]
 rw [Bool.eq_iff_iff,beq_iff_eq,List.all_eq_true]
 have hl: ∀ (l:List Nat) (P:Nat→Bool),(l.takeWhile P).length=l.length↔ ∀ x∈l,P x=true:=by
  intro l P
  induction l with
  |nil=>simp
  |cons a r ih=>
   rw [List.takeWhile_cons]
   cases h:P a with
   |false=>simp [h]
   |true=>simp [h,ih]
 have h2:=hl (List.range s.size) (fun b=> !!Xp (bAt s b))
 rw [List.length_range]at h2
 constructor
 ·intro h x hx;have:=h2.1 (by exact_mod_cast h) x hx;simpa using this
 ·intro h;exact_mod_cast h2.2 (fun x hx=>by simpa using h x hx)
theorem akg(s:ByteArray):TV s=QX s∧TW s=true:=by
 have eb:((UInt8.toNat (Option.getD s[Int.toNat (0:Int)]? (0:UInt8)):Nat):Int)=bAt s 0:=rfl
 have e0:yh s=inR (s.size:Int) 1 12:=by simp only [yh,tH,VI]
 have e1:FC s=(inR (s.size:Int) 1 12&&akl (bAt s 0)):=by
  have:FC s=bif yh s then leI 0 (ibs aoG (bAt s 0))else false:=rfl
  rw [this,e0,aoH]
  cases inR (s.size:Int) 1 12 <;> rfl
 have e2:TV s=bif FC s then(ka.res ((0:Int),(0:Int),s,wbS)).2.2.1==(s.size:Int)else false:=rfl
 have e3:TW s=allT [!(yh s&&true)||leI (0) (0),!(yh s&&true)||ltI (0) (↑(ByteArray.size s)),!(FC s&&true)||allT [ka.fin ((0:Int),(0:Int),s,wbS)]]:=rfl
 have h0:leI 0 0=true:=rfl
 rw [e2,e3,e1,e0,h0]
 cases hr:inR (s.size:Int) 1 12 with
 |false=>simp [QX,hr,allT]
 |true=>
  have:=GA.1 hr
  obtain⟨w1,w2⟩:=aph s (by omega)
  rw [w1,w2,eQ (by omega)]
  simp only [QX,hr,allT,Bool.true_and,Bool.and_true,Bool.or_true,cond_true]
  cases akl (bAt s 0) <;> simp
def yg(y1 b:ByteArray):(Unit)→Nat ⊕ (Unit)
 |_=>(bif(ByteArray.toList (b)==ByteArray.toList y1)then(.inl 0)else(.inr ()))
def nN(y1:ByteArray)(y2:List ByteArray)(i:Nat):(Unit)→kk
 |_=>((i:Int),y1,y2)
def HQ:kk→Unit
 |(_,_,_)=>()
theorem ZI(y1:ByteArray)(y2:List ByteArray) (hn:y2.length≤9223372036854775807):
  dk.fin ((0:Int),y1,y2)=true∧dk.res ((0:Int),y1,y2)=((aq (yg y1) 1 y2 0 ()).1,(nN y1 y2) (aq (yg y1) 1 y2 0 ()).2.1 (aq (yg y1) 1 y2 0 ()).2.2):=by
 have jT:=dk.along (nN y1 y2) HQ (yg y1) 1 (fun _ _=>True) y2 () (by trivial) (by simp only [dk,nN];omega) (fun i b a hb hI=> ?_) (fun a hI=> ?_)
 ·exact jT
 ·obtain⟨⟩:=a
  have fa:=(List.getElem?_eq_some_iff.1 hb).1
  have jS: ∀ d,Option.getD y2[i]? d=b:=fun d=>by rw [hb];rfl
  have hw:=wM fa hn
  have cq:ltI (i:Int) (y2.length:Int)=true:=eQ (by omega)
  have xl:leI (0:Int) (i:Int)=true:=cw (by omega)
  have iU:ltN i y2.length=true:=ib fa
  refine⟨?_,?_,?_,?_⟩
  ·simp [vd,yT,yU,yV,yW,wW,dk,LT.nds,allT,nN,cq,xl,iU,jS]
  ·simp [vd,yT,yU,yV,yW,wW,dk,LT.each,nN,HQ,hw]
  ·simp only [vd,yT,yU,yV,yW,wW,dk,LT.fn,nN,HQ,yg,Int.toNat_natCast,cq,xl,iU,jS,cond_true,Bool.cond_self]
  ·exact fun _ _=>trivial
 ·obtain⟨⟩:=a
  simp [vd,yT,yU,yV,yW,wW,dk,LT.out,nN]
def nA(y2 b:ByteArray):(Unit)→Nat ⊕ (Unit)
 |_=>(bif(ByteArray.toList y2==ByteArray.toList b)then(.inl 0)else(.inr ()))
def du(y2:ByteArray)(y3:List ByteArray)(i:Nat):(Unit)→cV
 |_=>((i:Int),(↑y3.length:Int),y2,y3)
def vX:cV→Unit
 |(_,_,_,_)=>()
theorem EM(y2:ByteArray)(y3:List ByteArray) (hn:y3.length≤9223372036854775807):
  aU.fin ((0:Int),(↑y3.length:Int),y2,y3)=true∧aU.res ((0:Int),(↑y3.length:Int),y2,y3)=((aq (nA y2) 1 y3 0 ()).1,(du y2 y3) (aq (nA y2) 1 y3 0 ()).2.1 (aq (nA y2) 1 y3 0 ()).2.2):=by
 have jT:=aU.along (du y2 y3) vX (nA y2) 1 (fun _ _=>True) y3 () (by trivial) (by simp only [aU,du];omega) (fun i b a hb hI=> ?_) (fun a hI=> ?_)
 ·exact jT
 ·obtain⟨⟩:=a
  have fa:=(List.getElem?_eq_some_iff.1 hb).1
  have jS: ∀ d,Option.getD y3[i]? d=b:=fun d=>by rw [hb];rfl
  have hw:=wM fa hn
  have cq:ltI (i:Int) (y3.length:Int)=true:=eQ (by omega)
  have xl:leI (0:Int) (i:Int)=true:=cw (by omega)
  have iU:ltN i y3.length=true:=ib fa
  refine⟨?_,?_,?_,?_⟩
  ·simp [nB,nC,nD,nE,nF,nG,mz,aU,LT.nds,allT,du,cq,xl,iU,jS]
  ·simp [nB,nC,nD,nE,nF,nG,mz,aU,LT.each,du,vX,hw]
  ·simp only [nB,nC,nD,nE,nF,nG,mz,aU,LT.fn,du,vX,nA,Int.toNat_natCast,cq,xl,iU,jS,cond_true,Bool.cond_self]
  ·exact fun _ _=>trivial
 ·obtain⟨⟩:=a
  simp [nB,nC,nD,nE,nF,nG,mz,aU,LT.out,du]
theorem aoD:ZG.length≤9223372036854775807:=by decide
theorem ahv(s:ByteArray):ltI (IB s) 0= !alB s∧IC s=true:=by
 have e0:MB=ZG:=rfl
 obtain⟨w1,w2⟩:=ZI s ZG aoD
 rw [iS (P:=fun k=>k.toList==s.toList) (j:=0) (fun k=>rfl)]at w2
 simp only [IB,IC,GP,e0,w1,w2,allT,alB,nN]
 cases ZG.any fun k=>k.toList==s.toList with
 |false=>exact⟨rfl,rfl⟩
 |true=>
  simp only [cond_true,Nat.beq]
  refine⟨?_,trivial⟩
  exact zM.2 (by omega)
theorem alx(s:ByteArray):OT s=alB s∧OU s=true:=by
 have e0:List.drop (Int.toNat (0)) (List.take (Int.toNat (↑(List.length ZG))) ZG)=ZG:=rfl
 obtain⟨w1,w2⟩:=EM s ZG aoD
 rw [iS (P:=fun k=>s.toList==k.toList) (j:=0) (fun k=>rfl)]at w2
 have e1:(fun k:ByteArray=>s.toList==k.toList)=fun k=>k.toList==s.toList:=funext fun k=>BEq.comm
 rw [e1]at w2
 simp only [OT,OU,e0,gZ,kf,pZ,qa,pk,w1,w2,allT,alB,du]
 cases ZG.any fun k=>k.toList==s.toList with
 |false=>exact⟨rfl,rfl⟩
 |true=>
  simp only [cond_true,Nat.beq]
  rw [cw (by omega)];simp
def Yw:List SV→List Entry→Option Out
 | [.one ⟨false,[.val (.string x0)]⟩],[]=>some ⟨.one ⟨false,[.val (.bool (QX x0))]⟩,[],[],[leN x0.size 9223372036854775807]⟩
 |_,_=>none
def ag8:PF prog:=PF.alt ahl Yw (by
 intro args es o h da;unfold Yw at h;split at h
 ·rename_i x0
  cases h
  have da:=pb da
  have hh:=akQ x0 da
  obtain⟨e0,en⟩:=hh
  exact tU rfl (pc en) (by simp only [e0] <;> rfl) rfl rfl
 ·cases h)
def abc:List SV→List Entry→Option Out
 | [.one ⟨false,[.val (.string x0)]⟩],[]=>some ⟨.one ⟨false,[.val (.bool (QX x0))]⟩,[],[],[]⟩
 |_,_=>none
def ah2:PF prog:=PF.alt ah4 abc (by
 intro args es o h da;unfold abc at h;split at h
 ·rename_i x0
  cases h
  have hh:=akg x0
  obtain⟨e0,en⟩:=hh
  exact tU rfl (pc en) (by simp only [e0] <;> rfl) rfl rfl
 ·cases h)
def UD:List SV→List Entry→Option Out
 | [.one ⟨false,[.val (.string x0)]⟩],[]=>some ⟨.one ⟨false,[.val (.bool (alB x0))]⟩,[],[],[]⟩
 |_,_=>none
def aeQ:PF prog:=PF.alt aeY UD (by
 intro args es o h da;unfold UD at h;split at h
 ·rename_i x0
  cases h
  have hh:=alx x0
  obtain⟨e0,en⟩:=hh
  exact tU rfl (pc en) (by simp only [e0] <;> rfl) rfl rfl
 ·cases h)
def mH(x0:ByteArray):Bool:=bif QX x0 then ltI (IB x0) (0:Int)else false
def tP(x0:ByteArray):Bool:=allT [leN (ByteArray.size x0) (9223372036854775807:Nat),!(QX x0&&true)||IC x0]
def XQ:List SV→List Entry→Option Out
 | [.one ⟨false,[.val (.string x0)]⟩],[]=>some ⟨.one ⟨false,[.val (.bool (mH x0))]⟩,[],[],[tP x0]⟩
 |_,_=>none
def Ju:PF prog:=PF.ofG prog [ag8,adZ] [] aQ 239 f239 func239 (fun c _=>LOk.nil c) XQ (by
 intro vs es r h;unfold XQ at h;split at h
 ·cases h;kernel_rfl
 ·cases h)
def Pu(x0:Int):Bool:=bif bif bif x0==(7:Int)then true else x0==(8:Int)then true else x0==(11:Int)then true else x0==(12:Int)
def Uy:List SV→List Entry→Option Out
 | [.one ⟨false,[.val (.int .i64 x0)]⟩],[]=>some ⟨.one ⟨false,[.val (.bool (Pu x0))]⟩,[],[],[]⟩
 |_,_=>none
def ae5:PF prog:=PF.ofG prog [] [] aQ 251 f251 func251 (fun c _=>LOk.nil c) Uy (by
 intro vs es r h;unfold Uy at h;split at h
 ·cases h;kernel_rfl
 ·cases h)
def SD(x0:Int):Bool:=bA x0 (1:Int) (12:Int)
def XP:List SV→List Entry→Option Out
 | [.one ⟨false,[.val (.int .i64 x0)]⟩],[]=>some ⟨.one ⟨false,[.val (.bool (SD x0))]⟩,[],[],[]⟩
 |_,_=>none
def ahm:PF prog:=PF.ofG prog [vV] [] aQ 252 f252 func252 (fun c _=>LOk.nil c) XP (by
 intro vs es r h;unfold XP at h;split at h
 ·cases h;kernel_rfl
 ·cases h)
def QB(x0 x2:Int):Bool:=bif bif !SD x0 then true else !bA x2 (0:Int) (9999:Int)then true else bif !Pu x0 then x2 !=(0:Int)else false
def JN(x0:Int)(x1:ByteArray)(x2:Int):Bool:=
 bif QB x0 x2 then false else bif x0==(1:Int)then mH x1 else ByteArray.toList x1==ByteArray.toList { data:= #[] }
def JO(x0:Int)(x1:ByteArray)(x2:Int):Bool:=allT [QB x0 x2||(!x0==(1:Int)||tP x1)]
def XR:List SV→List Entry→Option Out
 | [.one ⟨true,[.val (.int .i64 x0),.val (.string x1),.val (.int .i64 x2)]⟩],[]=>some ⟨.one ⟨false,[.val (.bool (JN x0 x1 x2))]⟩,[],[],[JO x0 x1 x2]⟩
 |_,_=>none
def ZA:PF prog:=PF.ofG prog [vV,Ju,ae5,ahm] [] aQ 212 f212 func212 (fun c _=>LOk.nil c) XR (by
 intro vs es r h;unfold XR at h;split at h
 ·cases h;kernel_rfl
 ·cases h)
def lN(x0:ByteArray):Bool:=bif QX x0 then !alB x0 else false
def aaX:List SV→List Entry→Option Out
 | [.one ⟨false,[.val (.string x0)]⟩],[]=>some ⟨.one ⟨false,[.val (.bool (lN x0))]⟩,[],[],[]⟩
 |_,_=>none
def Lq:PF prog:=PF.ofG prog [ah2,aeQ] [] aQ 225 f225 func225 (fun c _=>LOk.nil c) aaX (by
 intro vs es r h;unfold aaX at h;split at h
 ·cases h;kernel_rfl
 ·cases h)
def NJ(x0:Int):Bool:=bif bif bif x0==(7:Int)then true else x0==(8:Int)then true else x0==(11:Int)then true else x0==(12:Int)
def SZ:List SV→List Entry→Option Out
 | [.one ⟨false,[.val (.int .i64 x0)]⟩],[]=>some ⟨.one ⟨false,[.val (.bool (NJ x0))]⟩,[],[],[]⟩
 |_,_=>none
def adW:PF prog:=PF.ofG prog [] [] aQ 253 f253 func253 (fun c _=>LOk.nil c) SZ (by
 intro vs es r h;unfold SZ at h;split at h
 ·cases h;kernel_rfl
 ·cases h)
def Li(x0:Int)(x1:ByteArray)(x2:Int):Bool:=
 bif bif !tH x0 (1:Int) (12:Int)then true else !(x0==(1:Int))== !ByteArray.toList x1==ByteArray.toList { data:= #[] } then
 false
 else
 bif NJ x0 then tH x2 (0:Int) (9999:Int)
 else bif x2==(0:Int)then bif x0 !=(1:Int)then true else lN x1 else false
def aaY:List SV→List Entry→Option Out
 | [.one ⟨true,[.val (.int .i64 x0),.val (.string x1),.val (.int .i64 x2)]⟩],[]=>some ⟨.one ⟨false,[.val (.bool (Li x0 x1 x2))]⟩,[],[],[]⟩
 |_,_=>none
def abp:PF prog:=PF.ofG prog [Ug,Lq,adW] [] aQ 215 f215 func215 (fun c _=>LOk.nil c) aaY (by
 intro vs es r h;unfold aaY at h;split at h
 ·cases h;kernel_rfl
 ·cases h)
def zs(x0 x2 x3 x4 x5:Int):Bool:=bif bif x0==(7:Int)then x0==(7:Int)else x0==(8:Int)then bif bif tH x3 (0:Int) x2 then x4==(0:Int)else false then x5==(0:Int)else false else bif x0==(11:Int)then bif bif tH x3 (0:Int) x2 then tH x4 (0:Int) (1:Int)else false then x5==(0:Int)else false else bif x0==(12:Int)then bif x4==(0:Int)then bif bif tH x3 (0:Int) x2 then x5==(0:Int)else false then true else bif x3==IntKind.wrap .i64 (x2 + (1:Int))then x5==(1:Int)else false else false else bif bif tH x3 (0:Int) (1:Int)then x4==(0:Int)else false then x5==(0:Int)else false
def Ta:List SV→List Entry→Option Out
 | [.one ⟨true,[.val (.int .i64 x0),.val (.string _x1),.val (.int .i64 x2)]⟩,.one ⟨true,[.val (.int .i64 x3),.val (.int .i64 x4),.val (.int .i64 x5)]⟩],[]=>some ⟨.one ⟨false,[.val (.bool (zs x0 x2 x3 x4 x5))]⟩,[],[],[]⟩
 |_,_=>none
def Ts:PF prog:=PF.ofG prog [Ug] [] aQ 185 f185 func185 (fun c _=>LOk.nil c) Ta (by
 intro vs es r h;unfold Ta at h;split at h
 ·cases h;kernel_rfl
 ·cases h)
def cU(x0 x2 x3 x4 x5:Int):Bool:=bif bif x0==(9:Int)then x0==(9:Int)else x0==(10:Int)then bif bif bA x3 (0:Int) (1:Int)then x4==(0:Int)else false then x5==(0:Int)else false else bif x0==(11:Int)then bif bif bA x3 (0:Int) x2 then bA x4 (0:Int) (1:Int)else false then x5==(0:Int)else false else bif x0==(12:Int)then bif x4==(0:Int)then bif bif bA x3 (0:Int) x2 then x5==(0:Int)else false then true else bif x3==IntKind.wrap .i64 (x2 + (1:Int))then x5==(1:Int)else false else false else bif bif bA x3 (0:Int) x2 then x4==(0:Int)else false then x5==(0:Int)else false
def Rp:List SV→List Entry→Option Out
 | [.one ⟨true,[.val (.int .i64 x0),.val (.string _x1),.val (.int .i64 x2)]⟩,.one ⟨true,[.val (.int .i64 x3),.val (.int .i64 x4),.val (.int .i64 x5)]⟩],[]=>some ⟨.one ⟨false,[.val (.bool (cU x0 x2 x3 x4 x5))]⟩,[],[],[]⟩
 |_,_=>none
def Sn:PF prog:=PF.ofG prog [vV] [] aQ 169 f169 func169 (fun c _=>LOk.nil c) Rp (by
 intro vs es r h;unfold Rp at h;split at h
 ·cases h;kernel_rfl
 ·cases h)
def ai4(k:Int):Bool:=k==7||(k==8||(k==11||k==12))
def termB(k:Int)(s:ByteArray)(n:Int):Bool:=inR k 1 12&&(inR n 0 9999&&((ai4 k||n==0)&&(bif k==1 then mM s else s.toList== [])))
def VB(k:Int)(s:ByteArray)(n:Int):Bool:=termB k s n&&leI 7 k
def possB(k n a b c:Int):Bool:=cU k n a b c
theorem Nd:ByteArray.toList { data:= #[] } = []:=by rw [Go.Lib.toList_data]
theorem aoi{s:ByteArray}(h:mM s=true):(s.toList== [])=false:=by
 simp only [mM,QX,Bool.and_eq_true,GA]at h
 have h1:s.size=s.toList.length:=by rw [Go.Lib.size_eq,Go.Lib.toList_data]
 cases hs:s.toList with
 |nil=>
  rw [hs]at h1
  have h2:s.size=0:=h1
  omega
 |cons a l=>rfl
theorem aoE{n:Int}(h:(n==0)=true):inR n 0 9999=true:=by
 have:n=0:=by simpa using h
 rw [this];rfl
theorem afM(k:Int)(s:ByteArray)(n:Int)(h:leN s.size 9223372036854775807=true):JN k s n=termB k s n∧JO k s n=true:=by
 obtain⟨e1,e2⟩:=ahv s
 have e3:mH s=mM s:=by simp only [mH,e1,mM];cases QX s <;> rfl
 have e4:tP s=true:=by simp only [tP,e2,h,allT,Bool.or_true,cond_true]
 simp only [JN,JO,QB,e3,e4,SD,bA,VI,Nd,Pu,termB,ai4,allT,Bool.or_true,cond_true]
 refine⟨?_,trivial⟩
 simp only [bne]
 generalize (bif k==1 then mM s else s.toList== [])=q
 generalize inR k 1 12=q1
 generalize inR n 0 9999=q2
 generalize (k==7)=q3
 generalize (k==8)=q4
 generalize (k==11)=q5
 generalize (k==12)=q6
 generalize (n==0)=q7
 revert q q1 q2 q3 q4 q5 q6 q7
 decide
theorem akf(k:Int)(s:ByteArray)(n:Int):Li k s n=termB k s n:=by
 have e3:lN s=mM s:=by simp only [lN,mM];cases QX s <;> rfl
 simp only [Li,e3,tH,VI,Nd,NJ,termB,ai4]
 by_cases h1:k=1
 ·subst h1
  have z7:((1:Int)==7)=false:=rfl
  have z8:((1:Int)==8)=false:=rfl
  have z11:((1:Int)==11)=false:=rfl
  have z12:((1:Int)==12)=false:=rfl
  have z1:((1:Int)==1)=true:=rfl
  have zn:((1:Int)!=1)=false:=rfl
  have zr:inR (1:Int) 1 12=true:=rfl
  rw [z7,z8,z11,z12,z1,zn,zr]
  have hs:mM s=true→(s.toList== [])=false:=aoi
  have h0:(n==0)=true→inR n 0 9999=true:=aoE
  generalize (s.toList== [])=q at hs ⊢
  generalize (n==0)=q2 at h0 ⊢
  generalize inR n 0 9999=q3 at h0 ⊢
  generalize mM s=q4 at hs ⊢
  revert q q2 q3 q4
  decide
 ·have z1:(k==1)=false:=by simpa using h1
  have zn:(k !=1)=true:=by simpa using h1
  rw [z1,zn]
  have h0:(n==0)=true→inR n 0 9999=true:=aoE
  generalize (s.toList== [])=q
  generalize (n==0)=q2 at h0 ⊢
  generalize inR n 0 9999=q3 at h0 ⊢
  generalize inR k 1 12=q1
  generalize (k==7)=p3
  generalize (k==8)=p4
  generalize (k==11)=p5
  generalize (k==12)=p6
  generalize mM s=p7
  revert q q1 q2 q3 p3 p4 p5 p6 p7
  decide
theorem ach{k:Int}{s:ByteArray}{n:Int}(h:VB k s n=true):(7≤k∧k≤12)∧(0≤n∧n≤9999)∧(ai4 k=true∨n=0):=by
 simp only [VB,termB,Bool.and_eq_true,GA,Ee,Bool.or_eq_true,beq_iff_eq]at h
 obtain⟨⟨h1,h2,h3,_⟩,h4⟩:=h
 exact⟨⟨h4,h1.2⟩,h2,h3⟩
theorem kinds{k:Int}(h:7≤k∧k≤12):k=7∨k=8∨k=9∨k=10∨k=11∨k=12:=by omega
theorem aop{k n a b c:Int}(h:7≤k∧k≤12):zs k n a b c=possB k n a b c:=by
 rcases kinds h with rfl | rfl | rfl | rfl | rfl | rfl <;> rfl
theorem ZC{k n a b c:Int}(h:possB k n a b c=true)(hn:0≤n∧n≤9999):(0≤a∧a≤10000)∧(b=0∨b=1)∧(c=0∨c=1):=by
 have hw:IntKind.i64.wrap (n + 1)=n + 1:=aT (by omega) (by omega)
 simp only [possB,cU,bA,VI,hw]at h
 cases h1:(bif k==9 then k==9 else k==10)with
 |true=>
  rw [h1]at h
  cases h2:inR a 0 1 <;> rw [h2]at h <;> simp at h
  have:=GA.1 h2
  omega
 |false=>
  rw [h1]at h
  cases h3:k==11 with
  |true=>
   rw [h3]at h
   cases h2:inR a 0 n <;> cases h4:inR b 0 1 <;> rw [h2]at h <;> simp [h4]at h
   have:=GA.1 h2
   have:=GA.1 h4
   omega
  |false=>
   rw [h3]at h
   cases h5:k==12 with
   |true=>
    rw [h5]at h
    cases h2:inR a 0 n <;> rw [h2]at h <;> simp at h
    ·omega
    ·have:=GA.1 h2
     omega
   |false=>
    rw [h5]at h
    cases h2:inR a 0 n <;> rw [h2]at h <;> simp at h
    have:=GA.1 h2
    omega
def RT(x1:ByteArray)(x3:Int):Int:=IntKind.wrap .i64 (x3 - (↑(ByteArray.size x1):Int))
def tI(x1:ByteArray)(x3:Int):Int:=bif ltI (RT x1 x3) (0:Int)then(-1:Int)else RT x1 x3
def aa4:List SV→List Entry→Option Out
 | [.one ⟨true,[.val (.int .i64 _x0),.val (.string x1),.val (.int .i64 _x2)]⟩,.one ⟨false,[.val (.int .i64 x3)]⟩],[]=>some ⟨.one ⟨false,[.val (.int .i64 (tI x1 x3))]⟩,[],[],[]⟩
 |_,_=>none
def abr:PF prog:=PF.ofG prog [] [] aQ 152 f152 func152 (fun c _=>LOk.nil c) aa4 (by
 intro vs es r h;unfold aa4 at h;split at h
 ·cases h;kernel_rfl
 ·cases h)
def mr(x0:Int):Int:=bif bif x0==(1:Int)then x0==(1:Int)else bif x0==(2:Int)then x0==(2:Int)else x0==(3:Int)then(0:Int)else bif bif x0==(4:Int)then x0==(4:Int)else bif x0==(7:Int)then x0==(7:Int)else bif x0==(8:Int)then x0==(8:Int)else x0==(9:Int)then(1:Int)else(2:Int)
def Wu:List SV→List Entry→Option Out
 | [.one ⟨false,[.val (.int .i64 x0)]⟩],[]=>some ⟨.one ⟨false,[.val (.int .i64 (mr x0))]⟩,[],[],[]⟩
 |_,_=>none
def Dd:PF prog:=PF.ofG prog [] [] aQ 224 f224 func224 (fun c _=>LOk.nil c) Wu (by
 intro vs es r h;unfold Wu at h;split at h
 ·cases h;kernel_rfl
 ·cases h)
abbrev oS:=Int×List Int
section
variable (y0:Int)(y1:List Int)
def zT:Bool:=ltI y0 (↑y1.length:Int)
def Es:Bool:=leI (0:Int) y0
def Et:Bool:=ltN y0.toNat y1.length
def Eu:Bool:= !bA (Option.getD y1[Int.toNat y0]? (0:Int)) (0:Int) (1:Int)
def Ev:Int:=IntKind.wrap .i64 (y0 + (1:Int))
end
def abS:oS→List (Nat×SV)
 |(y0,_)=> [(5,(.one ⟨false,[.val (.int .i64 y0)]⟩)),(0,(.one ⟨false,[.ref 0]⟩))]
def abI:oS→List (Nat×Entry)
 |(_,y1)=> [(0,(.row false 2 afY y1))]
def acd:Nat→oS→List (Nat×SV)
 |0,(_,_)=> [(4,(.one ⟨false,[.val (.bool false)]⟩))]
 |_,(_,_)=> []
def ab2:Nat→oS→List (Nat×Entry)
 |0,(_,y1)=> [(0,(.row false 2 afY y1))]
 |_,(_,y1)=> [(0,(.row false 2 afY y1))]
def Ca:oS→LT oS
 |(y0,y1)=> .ite (zT y0 y1) (.need [Es y0,zT y0 y1,Et y0 y1] (.ite (Eu y0 y1) (.ext 0 [(0,0)]) (.nrm ((Ev y0),y1) [(0,0)]))) (.ext 1 [(0,0)])
def MA(s:St):Option oS:=
 (match s.look 5 with
 |some ⟨none,.one ⟨false,[.val (.int .i64 y0)]⟩⟩=>
 (match s.look 0 with
 |some ⟨none,.one ⟨false,[.ref 0]⟩⟩=>
 (match s.ent 0 with
 |some (.row false 2 (.int .i64) y1)=>
 some (y0,y1)
 |_=>none)
 |_=>none)
 |_=>none)
def gv:Lp oS where
 h:=⟨[6,7,8,9,12,13,14,15,16,17,4,10,11,5],[0],[],[]⟩
 JL:=abS
 JE:=abI
 XL:=acd
 XE:=ab2
 q:=fun j=>match j with | 0=> .ret | _=> .exit 0
 tags:= [0,1]
 lt:=Ca
 fuel:=fun(y0,y1)=>y0.natAbs + y1.length
 fix:=fun(_,y1) (y0,_)=>(y0,y1)
 σ:= [(0,0)]
 rd:=MA
theorem Zq:LoopOk prog (fun k=>Nat.blt k Tryz.f88.ntmps) gv.F (aS f88 0):=by
 refine Lp.ok (tbl:= [vV]) (lf:= []) aQ gv (by kernel_rfl) (LOk.nil _) (fun _=>rfl) (fun j _=>by unfold gv;match j with | 0=>rfl | _ + 1=>rfl) ?_ ?_ ?_ ?_ (fun _=>rfl) ?_
 ·rintro⟨y0,y1⟩;kernel_rfl
 ·rintro⟨y0,y1⟩;kernel_rfl
 ·intro s x h
  have h:MA s=some x:=h
  unfold MA at h
  repeat' split at h
  all_goals cases h
  exact⟨aa (by assumption) rfl (aa (by assumption) rfl (rfl)),ab rfl (by assumption) rfl (rfl)⟩
 ·rintro⟨y0,y1⟩;kernel_rfl
 ·rintro⟨y0,y1⟩ z;exact(And.intro (And.intro trivial rfl) trivial)
def SL(x0:Int)(x1:List Int):Bool:=bif Nat.beq ((Lp.res gv ((0:Int),x1)).1) (0:Nat)then false else(↑x1.length:Int)==x0
def SM(x1:List Int):Bool:=allT [Lp.fin gv ((0:Int),x1)]
def XX:List SV→List Entry→Option Out
 | [.one ⟨false,[.ref 0]⟩,.one ⟨false,[.val (.int .i64 x0)]⟩],[.row false 2 (.int .i64) x1]=>some ⟨.one ⟨false,[.val (.bool (SL x0 x1))]⟩,[.row false 2 afY x1],[],[SM x1]⟩
 |_,_=>none
def aho:PF prog:=PF.ofG prog [vV] [gv.F] aQ 88 f88 func88 (LOk.fnT (l:= [aS f88 0]) (by kernel_rfl) (.cons Zq (.nil _))) XX (by
 intro vs es r h;unfold XX at h;split at h
 ·cases h;kernel_rfl
 ·cases h)
def iJ(x0:Bool):Int:=bif x0 then(1:Int)else(0:Int)
def aa9:List SV→List Entry→Option Out
 | [.one ⟨false,[.val (.bool x0)]⟩],[]=>some ⟨.one ⟨false,[.val (.int .i64 (iJ x0))]⟩,[],[],[]⟩
 |_,_=>none
def abt:PF prog:=PF.ofG prog [] [] aQ 244 f244 func244 (fun c _=>LOk.nil c) aa9 (by
 intro vs es r h;unfold aa9 at h;split at h
 ·cases h;kernel_rfl
 ·cases h)
section
variable (x0 x1 x2 x3 x4 x5:Int)
def gY:Bool:=bif bif x3==(1:Int)then x4==(0:Int)else false then x5==(0:Int)else false
def iG:Bool:=(bif gY x3 x4 x5 then(0:Int)else x3)==(0:Int)
def jO:Bool:=bif iG x3 x4 x5 then x4 !=x5 else false
def kU:Int:=IntKind.wrap .i64 ((bif gY x3 x4 x5 then(0:Int)else x1) + (1:Int))
def kV:Int:=bif jO x3 x4 x5 then iJ (ltI x0 (kU x1 x3 x4 x5))else bif iG x3 x4 x5 then(0:Int)else bif gY x3 x4 x5 then(0:Int)else x3
def mI:Int:=iJ (bif bif x4==(1:Int)then x5==(1:Int)else false then kV x0 x1 x3 x4 x5==(0:Int)else false)
def mJ:Int:=bif jO x3 x4 x5 then kU x1 x3 x4 x5 else bif iG x3 x4 x5 then(0:Int)else bif gY x3 x4 x5 then(0:Int)else x1
def mK:Int:=bif jO x3 x4 x5 then(0:Int)else bif iG x3 x4 x5 then(0:Int)else bif gY x3 x4 x5 then(0:Int)else x2
def mL:Int:=kV x0 x1 x3 x4 x5
end
def XS:List SV→List Entry→Option Out
 | [.one ⟨false,[.val (.int .i64 x0)]⟩,.one ⟨true,[.val (.int .i64 x1),.val (.int .i64 x2),.val (.int .i64 x3)]⟩,.one ⟨false,[.val (.int .i64 x4)]⟩,.one ⟨false,[.val (.int .i64 x5)]⟩],[]=>some ⟨.tup [⟨false,[.val (.int .i64 (mI x0 x1 x3 x4 x5))]⟩,⟨true,[.val (.int .i64 (mJ x1 x3 x4 x5)),.val (.int .i64 (mK x2 x3 x4 x5)),.val (.int .i64 (mL x0 x1 x3 x4 x5))]⟩],[],[],[]⟩
 |_,_=>none
def ahn:PF prog:=PF.ofG prog [abt] [] aQ 245 f245 func245 (fun c _=>LOk.nil c) XS (by
 intro vs es r h;unfold XS at h;split at h
 ·cases h;kernel_rfl
 ·cases h)
section
variable (x0 x2 x3 x4 x5:Int)(x6:List Int)
def ck:Int:=Option.getD x6[Int.toNat (0:Int)]? (0:Int)
def iH:Int:=IntKind.wrap .i64 (x3 + (1:Int))
def kW:Int:=IntKind.wrap .i64 (aeI (iH x3) x2 (iH x3) x2 * ck x6)
def fu:Int:=bif ltI (1:Int) (↑x6.length:Int)then Option.getD x6[Int.toNat (1:Int)]? (0:Int)else(0:Int)
def kX:Int:=bif fu x6==(1:Int)then(0:Int)else bif ck x6==(1:Int)then(1:Int)else x3
def kY:Int:=bif fu x6==(1:Int)then(0:Int)else bif bif ck x6==(1:Int)then x4==(0:Int)else false then aeI (iH x3) x2 (iH x3) x2 else x3
def kZ:Int:=IntKind.wrap .i64 (x3 - (1:Int))
def la:Int:=bif ck x6==(1:Int)then(0:Int)else(0:Int)
def jP:Bool:= !ltI (1:Int) (↑x6.length:Int)
def gz:Int:=bif x0==(7:Int)then iJ (bif ck x6==(1:Int)then kW x2 x3 x6==x2 else false)else bif x0==(8:Int)then bif ck x6==(1:Int)then(1:Int)else iJ (ltI (0:Int) x3)else bif x0==(9:Int)then iJ (bif ck x6==(1:Int)then x3==(0:Int)else false)else bif x0==(10:Int)then kX x3 x6 else bif x0==(11:Int)then iJ (kY x2 x3 x4 x6==x2)else mI x2 x3 x5 (ck x6) (fu x6)
def io:Int:=bif x0==(7:Int)then kW x2 x3 x6 else bif x0==(8:Int)then bif ck x6==(1:Int)then x2 else aeI (0:Int) (kZ x3) (kZ x3) (0:Int)else bif x0==(9:Int)then ck x6 else bif x0==(10:Int)then kX x3 x6 else bif x0==(11:Int)then kY x2 x3 x4 x6 else mJ x3 x5 (ck x6) (fu x6)
def ip:Int:=bif x0==(7:Int)then(0:Int)else bif x0==(8:Int)then la x6 else bif x0==(9:Int)then(0:Int)else bif x0==(10:Int)then(0:Int)else bif x0==(11:Int)then ck x6 else mK x4 x5 (ck x6) (fu x6)
def iq:Int:=bif x0==(7:Int)then(0:Int)else bif x0==(8:Int)then la x6 else bif x0==(9:Int)then(0:Int)else bif x0==(10:Int)then(0:Int)else bif x0==(11:Int)then(0:Int)else mL x2 x3 x5 (ck x6) (fu x6)
def ke:Bool:=allT [ltI (0:Int) (↑x6.length:Int),ltN (Int.toNat (0:Int)) x6.length,jP x6||leI (0:Int) (1:Int),jP x6||ltI (1:Int) (↑x6.length:Int),jP x6||ltN (Int.toNat (1:Int)) x6.length]
end
def XT:List SV→List Entry→Option Out
 | [.one ⟨true,[.val (.int .i64 x0),.val (.string _x1),.val (.int .i64 x2)]⟩,.one ⟨true,[.val (.int .i64 x3),.val (.int .i64 x4),.val (.int .i64 x5)]⟩,.one ⟨false,[.ref 0]⟩],[.row false 2 (.int .i64) x6]=>some ⟨.tup [⟨false,[.val (.int .i64 (gz x0 x2 x3 x4 x5 x6))]⟩,⟨true,[.val (.int .i64 (io x0 x2 x3 x4 x5 x6)),.val (.int .i64 (ip x0 x4 x5 x6)),.val (.int .i64 (iq x0 x2 x3 x5 x6))]⟩],[.row false 2 afY x6],[],[ke x6]⟩
 |_,_=>none
def pU:PF prog:=PF.ofG prog [abt,ahn] [] aQ 190 f190 func190 (fun c _=>LOk.nil c) XT (by
 intro vs es r h;unfold XT at h;split at h
 ·cases h;kernel_rfl
 ·cases h)
def aa6:List SV→List Entry→Option Out
 | [.one ⟨true,[.val (.int .i64 x0),.val (.string x1),.val (.int .i64 x2)]⟩],[]=>some ⟨.one ⟨true,[.val (.int .i64 x0),.val (.string x1),.val (.int .i64 x2)]⟩,[],[],[]⟩
 |_,_=>none
def abs:PF prog:=PF.ofG prog [] [] aQ 156 f156 func156 (fun c _=>LOk.nil c) aa6 (by
 intro vs es r h;unfold aa6 at h;split at h
 ·cases h;kernel_rfl
 ·cases h)
def aeJ(x0:Int):Bool:=bif x0 !=(0:Int)then x0 !=(1:Int)else false
def Ul:List SV→List Entry→Option Out
 | [.one ⟨false,[.val (.int .i64 x0)]⟩],[]=>some ⟨.one ⟨false,[.val (.bool (aeJ x0))]⟩,[],[],[]⟩
 |_,_=>none
def aeZ:PF prog:=PF.ofG prog [] [] aQ 219 f219 func219 (fun c _=>LOk.nil c) Ul (by
 intro vs es r h;unfold Ul at h;split at h
 ·cases h;kernel_rfl
 ·cases h)
def AY(x0:Int):Bool:=bif x0 !=(0:Int)then x0 !=(1:Int)else false
def Nv:List SV→List Entry→Option Out
 | [.one ⟨false,[.val (.int .i64 x0)]⟩],[]=>some ⟨.one ⟨false,[.val (.bool (AY x0))]⟩,[],[],[]⟩
 |_,_=>none
def NV:PF prog:=PF.ofG prog [] [] aQ 219 f219 func219 (fun c _=>LOk.nil c) Nv (by
 intro vs es r h;unfold Nv at h;split at h
 ·cases h;kernel_rfl
 ·cases h)
abbrev br:=Int×Int×List Int
section
variable (y0 y1:Int)(y2:List Int)
def ig:Bool:=ltI y0 y1
def ii:Bool:=leI (0:Int) y0
def ij:Bool:=ltI y0 (↑y2.length:Int)
def ik:Bool:=ltN y0.toNat y2.length
def il:Bool:=AY (Option.getD y2[Int.toNat y0]? (0:Int))
def im:Int:=IntKind.wrap .i64 (y0 + (1:Int))
end
def Hf:br→List (Nat×SV)
 |(y0,y1,_)=> [(8,(.one ⟨false,[.val (.int .i64 y0)]⟩)),(7,(.one ⟨false,[.val (.int .i64 y1)]⟩)),(1,(.one ⟨false,[.val (.func (.func 219) ⟨[]⟩ ⟨[]⟩)]⟩)),(0,(.one ⟨false,[.ref 0]⟩))]
def He:br→List (Nat×Entry)
 |(_,_,y2)=> [(0,(.row false 2 afY y2))]
def Hi:Nat→br→List (Nat×SV)
 |0,(y0,_,_)=> [(4,(.one ⟨false,[.val (.int .i64 y0)]⟩))]
 |_,(_,_,_)=> []
def Hh:Nat→br→List (Nat×Entry)
 |0,(_,_,y2)=> [(0,(.row false 2 afY y2))]
 |_,(_,_,y2)=> [(0,(.row false 2 afY y2))]
def gH:br→LT br
 |(y0,y1,y2)=> .ite (ig y0 y1) (.need [ii y0,ij y0 y2,ik y0 y2] (.ite (il y0 y2) (.ext 0 [(0,0)]) (.nrm ((im y0),y1,y2) [(0,0)]))) (.ext 1 [(0,0)])
def pW(s:St):Option br:=
 (match s.look 8 with
 |some ⟨none,.one ⟨false,[.val (.int .i64 y0)]⟩⟩=>
 (match s.look 7 with
 |some ⟨none,.one ⟨false,[.val (.int .i64 y1)]⟩⟩=>
 (match s.look 1 with
 |some ⟨none,.one ⟨false,[.val (.func (.func 219) ⟨[]⟩ ⟨[]⟩)]⟩⟩=>
 (match s.look 0 with
 |some ⟨none,.one ⟨false,[.ref 0]⟩⟩=>
 (match s.ent 0 with
 |some (.row false 2 (.int .i64) y2)=>
 some (y0,y1,y2)
 |_=>none)
 |_=>none)
 |_=>none)
 |_=>none)
 |_=>none)
def ap:Lp br where
 h:=⟨[9,10,5,11,12,13,14,15,16,17,4,18,8],[0],[],[]⟩
 JL:=Hf
 JE:=He
 XL:=Hi
 XE:=Hh
 q:=fun j=>match j with | 0=> .ret | _=> .exit 0
 tags:= [0,1]
 lt:=gH
 fuel:=fun(y0,y1,y2)=>y0.natAbs + y1.natAbs + y2.length
 fix:=fun(_,y1,y2) (y0,_,_)=>(y0,y1,y2)
 σ:= [(0,0)]
 rd:=pW
theorem Gd:LoopOk prog (fun k=>Nat.blt k Tryz.f255.ntmps) ap.F (aS f255 0):=by
 refine Lp.ok (tbl:= [NV]) (lf:= []) aQ ap (by kernel_rfl) (LOk.nil _) (fun _=>rfl) (fun j _=>by unfold ap;match j with | 0=>rfl | _ + 1=>rfl) ?_ ?_ ?_ ?_ (fun _=>rfl) ?_
 ·rintro⟨y0,y1,y2⟩;kernel_rfl
 ·rintro⟨y0,y1,y2⟩;kernel_rfl
 ·intro s x h
  have h:pW s=some x:=h
  unfold pW at h
  repeat' split at h
  all_goals cases h
  exact⟨aa (by assumption) rfl (aa (by assumption) rfl (aa (by assumption) rfl (aa (by assumption) rfl (rfl)))),ab rfl (by assumption) rfl (rfl)⟩
 ·rintro⟨y0,y1,y2⟩;kernel_rfl
 ·rintro⟨y0,y1,y2⟩ z;exact(And.intro (And.intro trivial rfl) trivial)
section
variable (x0:List Int)
def mF:Int×Int×List Int:=((0:Int),(↑x0.length:Int),x0)
def sy:Int:=bif Nat.beq ((Lp.res ap (mF x0)).1) (0:Nat)then ((Lp.res ap (mF x0)).2).1else(-1:Int)
def sz:Bool:=allT [Lp.fin ap (mF x0)]
end
def zl:List SV→List Entry→Option Out
 | [.one ⟨false,[.ref 0]⟩,.one ⟨false,[.val (.func (.func 219) ⟨[]⟩ ⟨[]⟩)]⟩],[.row false 2 (.int .i64) x0]=>some ⟨.one ⟨false,[.val (.int .i64 (sy x0))]⟩,[.row false 2 afY x0],[],[sz x0]⟩
 |_,_=>none
def sf:PF prog:=PF.ofG prog [NV] [ap.F] aQ 255 f255 func255 (LOk.fnT (l:= [aS f255 0]) (by kernel_rfl) (.cons Gd (.nil _))) zl (by
 intro vs es r h;unfold zl at h;split at h
 ·cases h;kernel_rfl
 ·cases h)
def qx(x0:List Int):Bool:=leI (0:Int) (sy x0)
def qy(x0:List Int):Bool:=allT [sz x0]
def wQ:List SV→List Entry→Option Out
 | [.one ⟨false,[.ref 0]⟩,.one ⟨false,[.val (.func (.func 219) ⟨[]⟩ ⟨[]⟩)]⟩],[.row false 2 (.int .i64) x0]=>some ⟨.one ⟨false,[.val (.bool (qx x0))]⟩,[.row false 2 afY x0],[],[qy x0]⟩
 |_,_=>none
def qu:PF prog:=PF.ofG prog [sf,PF.lend sf,PF.fz sf] [] aQ 218 f218 func218 (fun c _=>LOk.nil c) wQ (by
 intro vs es r h;unfold wQ at h;split at h
 ·cases h;kernel_rfl
 ·cases h)
def RJ(x0:Int)(x1:List Int):Bool:=bif(↑x1.length:Int)==x0 then !qx x1 else false
def RK(x0:Int)(x1:List Int):Bool:=allT [!((↑x1.length:Int)==x0&&true)||qy x1]
def XD:List SV→List Entry→Option Out
 | [.one ⟨false,[.ref 0]⟩,.one ⟨false,[.val (.int .i64 x0)]⟩],[.row false 2 (.int .i64) x1]=>some ⟨.one ⟨false,[.val (.bool (RJ x0 x1))]⟩,[.row false 2 afY x1],[],[RK x0 x1]⟩
 |_,_=>none
def ahf:PF prog:=PF.ofG prog [aeZ,qu,PF.lend qu,PF.fz qu] [] aQ 165 f165 func165 (fun c _=>LOk.nil c) XD (by
 intro vs es r h;unfold XD at h;split at h
 ·cases h;kernel_rfl
 ·cases h)
def nR(x0:Bool):Int:=bif x0 then(1:Int)else(0:Int)
def ado:List SV→List Entry→Option Out
 | [.one ⟨false,[.val (.bool x0)]⟩],[]=>some ⟨.one ⟨false,[.val (.int .i64 (nR x0))]⟩,[],[],[]⟩
 |_,_=>none
def VV:PF prog:=PF.ofG prog [] [] aQ 269 f269 func269 (fun c _=>LOk.nil c) ado (by
 intro vs es r h;unfold ado at h;split at h
 ·cases h;kernel_rfl
 ·cases h)
section
variable (x0 x1 x2 x3:Int)(x4 x5:Bool)
def tt:Bool:=bif x4 then x2==(0:Int)else false
def tu:Int:=IntKind.wrap .i64 (x1 + (1:Int))
def tv:Int:=bif x5 then(0:Int)else bif tt x2 x4 then aeI x0 (tu x1) x0 (tu x1)else x1
def uy:Int:=nR (tv x0 x1 x2 x4 x5==x0)
def uz:Int:=tv x0 x1 x2 x4 x5
def uA:Int:=nR x4
def uB:Int:=bif x5 then x3 else bif tt x2 x4 then x3 else x3
end
def Un:List SV→List Entry→Option Out
 | [.one ⟨false,[.val (.int .i64 x0)]⟩,.one ⟨true,[.val (.int .i64 x1),.val (.int .i64 x2),.val (.int .i64 x3)]⟩,.one ⟨false,[.val (.bool x4)]⟩,.one ⟨false,[.val (.bool x5)]⟩],[]=>some ⟨.tup [⟨false,[.val (.int .i64 (uy x0 x1 x2 x4 x5))]⟩,⟨true,[.val (.int .i64 (uz x0 x1 x2 x4 x5)),.val (.int .i64 (uA x4)),.val (.int .i64 (uB x2 x3 x4 x5))]⟩],[],[],[]⟩
 |_,_=>none
def ae0:PF prog:=PF.ofG prog [VV] [] aQ 270 f270 func270 (fun c _=>LOk.nil c) Un (by
 intro vs es r h;unfold Un at h;split at h
 ·cases h;kernel_rfl
 ·cases h)
section
variable (x0 x1 x2 x3:Int)(x4 x5:Bool)
def jh:Bool:=bif bif x3==(1:Int)then !x4 else false then !x5 else false
def qd:Bool:=(bif jh x3 x4 x5 then(0:Int)else x3)==(0:Int)
def rY:Bool:=bif qd x3 x4 x5 then !x4==x5 else false
def uC:Int:=IntKind.wrap .i64 ((bif jh x3 x4 x5 then(0:Int)else x1) + (1:Int))
def uD:Int:=bif rY x3 x4 x5 then nR (ltI x0 (uC x1 x3 x4 x5))else bif qd x3 x4 x5 then bif jh x3 x4 x5 then(0:Int)else x3 else bif jh x3 x4 x5 then(0:Int)else x3
def wE:Int:=nR (bif bif x4 then x5 else false then uD x0 x1 x3 x4 x5==(0:Int)else false)
def wF:Int:=bif rY x3 x4 x5 then uC x1 x3 x4 x5 else bif qd x3 x4 x5 then(0:Int)else bif jh x3 x4 x5 then(0:Int)else x1
def wG:Int:=bif rY x3 x4 x5 then bif jh x3 x4 x5 then x2 else x2 else bif qd x3 x4 x5 then bif jh x3 x4 x5 then x2 else x2 else bif jh x3 x4 x5 then x2 else x2
def wH:Int:=uD x0 x1 x3 x4 x5
end
def Wj:List SV→List Entry→Option Out
 | [.one ⟨false,[.val (.int .i64 x0)]⟩,.one ⟨true,[.val (.int .i64 x1),.val (.int .i64 x2),.val (.int .i64 x3)]⟩,.one ⟨false,[.val (.bool x4)]⟩,.one ⟨false,[.val (.bool x5)]⟩],[]=>some ⟨.tup [⟨false,[.val (.int .i64 (wE x0 x1 x3 x4 x5))]⟩,⟨true,[.val (.int .i64 (wF x1 x3 x4 x5)),.val (.int .i64 (wG x2 x3 x4 x5)),.val (.int .i64 (wH x0 x1 x3 x4 x5))]⟩],[],[],[]⟩
 |_,_=>none
def af6:PF prog:=PF.ofG prog [VV] [] aQ 271 f271 func271 (fun c _=>LOk.nil c) Wj (by
 intro vs es r h;unfold Wj at h;split at h
 ·cases h;kernel_rfl
 ·cases h)
section
variable (x0 x2 x3 x4 x5:Int)(x6:List Int)
def eK:Bool:=Option.getD x6[Int.toNat (0:Int)]? (0:Int)==(1:Int)
def Dr:Int:=IntKind.wrap .i64 (x3 + (1:Int))
def Ds:Int:=IntKind.wrap .i64 (nR (eK x6) * aeI x2 (Dr x3) x2 (Dr x3))
def xY:Int:=IntKind.wrap .i64 ((↑x6.length:Int) - (1:Int))
def nQ:Bool:=Option.getD x6[Int.toNat (xY x6)]? (0:Int)==(1:Int)
def Dt:Int:=bif nQ x6 then(0:Int)else bif eK x6 then(1:Int)else x3
def Du:Int:=IntKind.wrap .i64 (x3 - (1:Int))
def Dp:Int:=bif x0==(7:Int)then nR (bif eK x6 then Ds x2 x3 x6==x2 else false)else bif x0==(8:Int)then bif eK x6 then(1:Int)else nR (ltI (0:Int) x3)else bif x0==(9:Int)then nR (bif eK x6 then x3==(0:Int)else false)else bif x0==(10:Int)then Dt x3 x6 else bif x0==(11:Int)then uy x2 x3 x4 (eK x6) (nQ x6)else wE x2 x3 x5 (eK x6) (nQ x6)
def Bc:Int:=bif x0==(7:Int)then Ds x2 x3 x6 else bif x0==(8:Int)then bif eK x6 then x2 else aeI (Du x3) (0:Int) (0:Int) (Du x3)else bif x0==(9:Int)then nR (eK x6)else bif x0==(10:Int)then Dt x3 x6 else bif x0==(11:Int)then uz x2 x3 x4 (eK x6) (nQ x6)else wF x3 x5 (eK x6) (nQ x6)
def Bd:Int:=bif x0==(7:Int)then x4 else bif x0==(8:Int)then bif eK x6 then x4 else x4 else bif x0==(9:Int)then x4 else bif x0==(10:Int)then bif nQ x6 then x4 else bif eK x6 then x4 else x4 else bif x0==(11:Int)then uA (eK x6)else wG x4 x5 (eK x6) (nQ x6)
def Be:Int:=bif x0==(7:Int)then x5 else bif x0==(8:Int)then bif eK x6 then x5 else x5 else bif x0==(9:Int)then x5 else bif x0==(10:Int)then bif nQ x6 then x5 else bif eK x6 then x5 else x5 else bif x0==(11:Int)then uB x4 x5 (eK x6) (nQ x6)else wH x2 x3 x5 (eK x6) (nQ x6)
def Dq:Bool:=allT [ltI (0:Int) (↑x6.length:Int),ltN (Int.toNat (0:Int)) x6.length,leI (0:Int) (xY x6),ltI (xY x6) (↑x6.length:Int),ltN (Int.toNat (xY x6)) x6.length]
end
def afp:List SV→List Entry→Option Out
 | [.one ⟨true,[.val (.int .i64 x0),.val (.string _x1),.val (.int .i64 x2)]⟩,.one ⟨true,[.val (.int .i64 x3),.val (.int .i64 x4),.val (.int .i64 x5)]⟩,.one ⟨false,[.ref 0]⟩],[.row false 2 (.int .i64) x6]=>some ⟨.tup [⟨false,[.val (.int .i64 (Dp x0 x2 x3 x4 x5 x6))]⟩,⟨true,[.val (.int .i64 (Bc x0 x2 x3 x4 x5 x6)),.val (.int .i64 (Bd x0 x4 x5 x6)),.val (.int .i64 (Be x0 x2 x3 x4 x5 x6))]⟩],[.row false 2 afY x6],[],[Dq x6]⟩
 |_,_=>none
def akz:PF prog:=PF.ofG prog [VV,ae0,af6] [] aQ 246 f246 func246 (fun c _=>LOk.nil c) afp (by
 intro vs es r h;unfold afp at h;split at h
 ·cases h;kernel_rfl
 ·cases h)
def QI:List SV→List Entry→Option Out
 | [.one ⟨true,[.val (.int .i64 x0),.val (.int .i64 x1),.val (.int .i64 x2)]⟩],[]=>some ⟨.one ⟨true,[.val (.int .i64 x0),.val (.int .i64 x1),.val (.int .i64 x2)]⟩,[],[],[]⟩
 |_,_=>none
def QT:PF prog:=PF.ofG prog [] [] aQ 170 f170 func170 (fun c _=>LOk.nil c) QI (by
 intro vs es r h;unfold QI at h;split at h
 ·cases h;kernel_rfl
 ·cases h)
def zZ(x0 x1 x2 x3 x4 x5:Int):Bool:=bif x0 !=x3 then false else bif x1 !=x4 then false else bif x2 !=x5 then false else true
def QH:List SV→List Entry→Option Out
 | [.one ⟨true,[.val (.int .i64 x0),.val (.int .i64 x1),.val (.int .i64 x2)]⟩,.one ⟨true,[.val (.int .i64 x3),.val (.int .i64 x4),.val (.int .i64 x5)]⟩],[]=>some ⟨.one ⟨false,[.val (.bool (zZ x0 x1 x2 x3 x4 x5))]⟩,[],[],[]⟩
 |_,_=>none
def QS:PF prog:=PF.ofG prog [] [] aQ 171 f171 func171 (fun c _=>LOk.nil c) QH (by
 intro vs es r h;unfold QH at h;split at h
 ·cases h;kernel_rfl
 ·cases h)
def bitsB(n:Int)(l:List Int):Bool:=l.all (fun v=>inR v 0 1)&&((l.length:Int)==n)
def takesK(k:Int):Int:=mr k
theorem ir{n:Int}{l:List Int}:bitsB n l=true↔(∀ v∈l,v=0∨v=1)∧(l.length:Int)=n:=by
 simp only [bitsB,Bool.and_eq_true,List.all_eq_true,GA,beq_iff_eq]
 constructor
 ·rintro⟨h1,h2⟩;exact⟨fun v hv=>by have:=h1 v hv;omega,h2⟩
 ·rintro⟨h1,h2⟩;exact⟨fun v hv=>by have:=h1 v hv;omega,h2⟩
def zp(b:Int):(Unit)→Nat ⊕ (Unit)
 |_=>(bif(!bA b (0:Int) (1:Int))then(.inl 0)else(.inr ()))
def ut(y1:List Int)(i:Nat):(Unit)→oS
 |_=>((i:Int),y1)
def Mp:oS→Unit
 |(_,_)=>()
theorem aeo(y1:List Int) (hn:y1.length≤9223372036854775807):
  gv.fin ((0:Int),y1)=true∧gv.res ((0:Int),y1)=((aq (zp) 1 y1 0 ()).1,(ut y1) (aq (zp) 1 y1 0 ()).2.1 (aq (zp) 1 y1 0 ()).2.2):=by
 have jT:=gv.along (ut y1) Mp (zp) 1 (fun _ _=>True) y1 () (by trivial) (by simp only [gv,ut];omega) (fun i b a hb hI=> ?_) (fun a hI=> ?_)
 ·exact jT
 ·obtain⟨⟩:=a
  have fa:=(List.getElem?_eq_some_iff.1 hb).1
  have jS: ∀ d,Option.getD y1[i]? d=b:=fun d=>by rw [hb];rfl
  have hw:=wM fa hn
  have cq:ltI (i:Int) (y1.length:Int)=true:=eQ (by omega)
  have xl:leI (0:Int) (i:Int)=true:=cw (by omega)
  have iU:ltN i y1.length=true:=ib fa
  refine⟨?_,?_,?_,?_⟩
  ·simp [zT,Es,Et,Eu,Ev,Ca,gv,LT.nds,allT,ut,cq,xl,iU,jS]
  ·simp [zT,Es,Et,Eu,Ev,Ca,gv,LT.each,ut,Mp,hw]
  ·simp only [zT,Es,Et,Eu,Ev,Ca,gv,LT.fn,ut,Mp,zp,Int.toNat_natCast,cq,xl,iU,jS,cond_true,Bool.cond_self]
  ·exact fun _ _=>trivial
 ·obtain⟨⟩:=a
  simp [zT,Es,Et,Eu,Ev,Ca,gv,LT.out,ut]
def eu(b:Int):(Unit)→Nat ⊕ (Unit)
 |_=>(bif(AY b)then(.inl 0)else(.inr ()))
def cm(y2:List Int)(i:Nat):(Unit)→br
 |_=>((i:Int),(↑y2.length:Int),y2)
def pV:br→Unit
 |(_,_,_)=>()
theorem Ic(y2:List Int) (hn:y2.length≤9223372036854775807):
  ap.fin ((0:Int),(↑y2.length:Int),y2)=true∧ap.res ((0:Int),(↑y2.length:Int),y2)=((aq (eu) 1 y2 0 ()).1,(cm y2) (aq (eu) 1 y2 0 ()).2.1 (aq (eu) 1 y2 0 ()).2.2):=by
 have jT:=ap.along (cm y2) pV (eu) 1 (fun _ _=>True) y2 () (by trivial) (by simp only [ap,cm];omega) (fun i b a hb hI=> ?_) (fun a hI=> ?_)
 ·exact jT
 ·obtain⟨⟩:=a
  have fa:=(List.getElem?_eq_some_iff.1 hb).1
  have jS: ∀ d,Option.getD y2[i]? d=b:=fun d=>by rw [hb];rfl
  have hw:=wM fa hn
  have cq:ltI (i:Int) (y2.length:Int)=true:=eQ (by omega)
  have xl:leI (0:Int) (i:Int)=true:=cw (by omega)
  have iU:ltN i y2.length=true:=ib fa
  refine⟨?_,?_,?_,?_⟩
  ·simp [ig,ii,ij,ik,il,im,gH,ap,LT.nds,allT,cm,cq,xl,iU,jS]
  ·simp [ig,ii,ij,ik,il,im,gH,ap,LT.each,cm,pV,hw]
  ·simp only [ig,ii,ij,ik,il,im,gH,ap,LT.fn,cm,pV,eu,Int.toNat_natCast,cq,xl,iU,jS,cond_true,Bool.cond_self]
  ·exact fun _ _=>trivial
 ·obtain⟨⟩:=a
  simp [ig,ii,ij,ik,il,im,gH,ap,LT.out,cm]
theorem akL(n:Int)(l:List Int)(h:leN l.length 9223372036854775807=true):SL n l=bitsB n l∧SM l=true:=by
 obtain⟨w1,w2⟩:=aeo l (fQ.1 h)
 rw [iS (P:=fun v=> !inR v 0 1) (j:=0) (fun v=>by simp only [zp,bA,VI])]at w2
 have e5:(l.any fun v=> !inR v 0 1)= !l.all fun v=>inR v 0 1:=by simp [List.all_eq_not_any_not]
 rw [e5]at w2
 simp only [SL,SM,w1,w2,allT,bitsB]
 cases (l.all fun v=>inR v 0 1) <;> simp [Nat.beq]
theorem aoJ(v:Int):(bif v !=0 then v !=1 else false)= !inR v 0 1:=by
 have:inR v 0 1=(v==0||v==1):=by rw [Bool.eq_iff_iff,GA];simp;omega
 rw [this]
 cases h0:v==0 <;> simp [bne,h0]
theorem aka(n:Int)(l:List Int)(h:leN l.length 9223372036854775807=true):RJ n l=bitsB n l∧RK n l=true:=by
 obtain⟨w1,w2⟩:=Ic l (fQ.1 h)
 rw [iS (P:=fun v=> !inR v 0 1) (j:=0) (fun v=>by simp only [eu,AY,aoJ])]at w2
 have e5:(l.any fun v=> !inR v 0 1)= !l.all fun v=>inR v 0 1:=by simp [List.all_eq_not_any_not]
 rw [e5]at w2
 have q: ∀ m:Nat,leI 0 (m:Int)=true:=fun m=>cw (by omega)
 have q2:leI 0 (-1)=false:=rfl
 simp only [RJ,RK,qx,qy,sy,sz,mF,w1,w2,allT,bitsB,cm]
 cases (l.all fun v=>inR v 0 1) <;> cases ((l.length:Int)==n) <;> simp [Nat.beq,q,q2]
theorem ZS(p q:Int):aeI p q p q=min p q:=by rw [amm];cases h:ltI p q <;> simp <;> simp at h <;> omega
theorem ZR(p q:Int):aeI p q q p=max p q:=by rw [amm];cases h:ltI p q <;> simp <;> simp at h <;> omega
theorem UL{l:List Int}(h:bitsB 1 l=true): ∃ x,l= [x]∧(x=0∨x=1):=by
 obtain⟨h1,h2⟩:=ir.1 h
 match l,h1,h2 with
 | [x],h1,_=>exact⟨x,rfl,h1 x (by simp)⟩
 | [],_,h2=>simp at h2
 |_::_::_,_,h2=>simp at h2;omega
theorem UM{l:List Int}(h:bitsB 2 l=true): ∃ x y,l= [x,y]∧(x=0∨x=1)∧(y=0∨y=1):=by
 obtain⟨h1,h2⟩:=ir.1 h
 match l,h1,h2 with
 | [x,y],h1,_=>exact⟨x,y,rfl,h1 x (by simp),h1 y (by simp)⟩
 | [],_,h2=>simp at h2
 | [_],_,h2=>simp at h2
 |_::_::_::_,_,h2=>simp at h2;omega
theorem ajB{k n a b c:Int}{s:ByteArray}{l:List Int}(hB:VB k s n=true)(hP:possB k n a b c=true)(hA:bitsB (takesK k) l=true):
  Dp k n a b c l=gz k n a b c l∧Bc k n a b c l=io k n a b c l∧
  Bd k b c l=ip k b c l∧Be k n a b c l=iq k n a c l∧Dq l=true∧ke l=true∧
  possB k n (io k n a b c l) (ip k b c l) (iq k n a c l)=true:=by
 obtain⟨hk,hn,_⟩:=ach hB
 have hw:IntKind.i64.wrap (n + 1)=n + 1:=aT (by omega) (by omega)
 have hwa:=(ZC hP hn).1
 have hwa1:IntKind.i64.wrap (a + 1)=a + 1:=aT (by omega) (by omega)
 have hwa2:IntKind.i64.wrap (a - 1)=a - 1:=aT (by omega) (by omega)
 have hm:IntKind.i64.wrap (min (a + 1) n)=min (a + 1) n:=aT (by omega) (by omega)
 have hm2:IntKind.i64.wrap (min n (a + 1))=min n (a + 1):=aT (by omega) (by omega)
 have h01:IntKind.i64.wrap (0 + 1)=1:=rfl
 have n0:IntKind.i64.wrap 0=0:=rfl
 have w1:IntKind.i64.wrap 1=1:=rfl
 have l12:ltI 1 2=true:=rfl
 have hb:=(ZC hP hn).2.1
 have hc:=(ZC hP hn).2.2
 rcases kinds hk with rfl | rfl | rfl | rfl | rfl | rfl
 ·obtain⟨x,rfl,hx⟩:=UL hA
  have hp:=hP
  simp [possB,cU,bA]at hp
  rcases hx with rfl | rfl <;> simp only [eK,Dr,Ds,xY,nQ,Dt,Du,Dp,Bc,Bd,Be,Dq,tt,tu,tv,uy,uz,uA,uB,jh,qd,rY,uC,uD,wE,wF,wG,wH,nR,ck,iH,kW,fu,kX,kY,kZ,la,jP,gz,io,ip,iq,ke,gY,iG,jO,kU,kV,mI,mJ,mK,mL,iJ,possB,cU,bA,allT,ZS,ZR] <;> simp [hw,hwa1,hwa2,hm,hm2,h01,n0,w1,l12,hp,Bool.cond_eq_ite] <;> (repeat' split) <;> omega
 ·obtain⟨x,rfl,hx⟩:=UL hA
  have hp:=hP
  simp [possB,cU,bA]at hp
  rcases hx with rfl | rfl <;> simp only [eK,Dr,Ds,xY,nQ,Dt,Du,Dp,Bc,Bd,Be,Dq,tt,tu,tv,uy,uz,uA,uB,jh,qd,rY,uC,uD,wE,wF,wG,wH,nR,ck,iH,kW,fu,kX,kY,kZ,la,jP,gz,io,ip,iq,ke,gY,iG,jO,kU,kV,mI,mJ,mK,mL,iJ,possB,cU,bA,allT,ZS,ZR] <;> simp [hw,hwa1,hwa2,hm,hm2,h01,n0,w1,l12,hp,Bool.cond_eq_ite] <;> (repeat' split) <;> omega
 ·obtain⟨x,rfl,hx⟩:=UL hA
  have hp:=hP
  simp [possB,cU,bA]at hp
  rcases hx with rfl | rfl <;> simp only [eK,Dr,Ds,xY,nQ,Dt,Du,Dp,Bc,Bd,Be,Dq,tt,tu,tv,uy,uz,uA,uB,jh,qd,rY,uC,uD,wE,wF,wG,wH,nR,ck,iH,kW,fu,kX,kY,kZ,la,jP,gz,io,ip,iq,ke,gY,iG,jO,kU,kV,mI,mJ,mK,mL,iJ,possB,cU,bA,allT,ZS,ZR] <;> simp [hw,hwa1,hwa2,hm,hm2,h01,n0,w1,l12,hp,Bool.cond_eq_ite] <;> (repeat' split) <;> omega
 ·obtain⟨x,y,rfl,hx,hy⟩:=UM hA
  have hp:=hP
  simp [possB,cU,bA]at hp
  rcases hx with rfl | rfl <;> rcases hy with rfl | rfl <;> simp only [eK,Dr,Ds,xY,nQ,Dt,Du,Dp,Bc,Bd,Be,Dq,tt,tu,tv,uy,uz,uA,uB,jh,qd,rY,uC,uD,wE,wF,wG,wH,nR,ck,iH,kW,fu,kX,kY,kZ,la,jP,gz,io,ip,iq,ke,gY,iG,jO,kU,kV,mI,mJ,mK,mL,iJ,possB,cU,bA,allT,ZS,ZR] <;> simp [hw,hwa1,hwa2,hm,hm2,h01,n0,w1,l12,hp,Bool.cond_eq_ite] <;> (repeat' split) <;> omega
 ·obtain⟨x,y,rfl,hx,hy⟩:=UM hA
  have hp:=hP
  rcases hb with rfl | rfl <;> rcases hc with rfl | rfl <;> rcases hx with rfl | rfl <;> rcases hy with rfl | rfl <;> simp [possB,cU,bA,hw]at hp <;> simp only [eK,Dr,Ds,xY,nQ,Dt,Du,Dp,Bc,Bd,Be,Dq,tt,tu,tv,uy,uz,uA,uB,jh,qd,rY,uC,uD,wE,wF,wG,wH,nR,ck,iH,kW,fu,kX,kY,kZ,la,jP,gz,io,ip,iq,ke,gY,iG,jO,kU,kV,mI,mJ,mK,mL,iJ,possB,cU,bA,allT,ZS,ZR] <;> simp [hw,hwa1,hwa2,hm,hm2,h01,n0,w1,l12,hp,Bool.cond_eq_ite] <;> (repeat' split) <;> omega
 ·obtain⟨x,y,rfl,hx,hy⟩:=UM hA
  have hp:=hP
  rcases hb with rfl | rfl <;> rcases hc with rfl | rfl <;> rcases hx with rfl | rfl <;> rcases hy with rfl | rfl <;> simp [possB,cU,bA,hw]at hp <;> simp only [eK,Dr,Ds,xY,nQ,Dt,Du,Dp,Bc,Bd,Be,Dq,tt,tu,tv,uy,uz,uA,uB,jh,qd,rY,uC,uD,wE,wF,wG,wH,nR,ck,iH,kW,fu,kX,kY,kZ,la,jP,gz,io,ip,iq,ke,gY,iG,jO,kU,kV,mI,mJ,mK,mL,iJ,possB,cU,bA,allT,ZS,ZR] <;> simp [hw,hwa1,hwa2,hm,hm2,h01,n0,w1,l12,hp,Bool.cond_eq_ite] <;> (repeat' split) <;> omega
def Yx:List SV→List Entry→Option Out
 | [.one ⟨false,[.ref 0]⟩,.one ⟨false,[.val (.int .i64 x0)]⟩],[.row false 2 (.int .i64) x1]=>some ⟨.one ⟨false,[.val (.bool (bitsB x0 x1))]⟩,[.row false 2 afY x1],[],[leN x1.length 9223372036854775807]⟩
 |_,_=>none
def vU:PF prog:=PF.alt aho Yx (by
 intro args es o h da;unfold Yx at h;split at h
 ·rename_i x0 x1
  cases h
  have da:=pb da
  have hh:=akL x0 x1 da
  obtain⟨e0,en⟩:=hh
  exact tU rfl (pc en) (by simp only [e0] <;> rfl) rfl rfl
 ·cases h)
def Yq:List SV→List Entry→Option Out
 | [.one ⟨false,[.ref 0]⟩,.one ⟨false,[.val (.int .i64 x0)]⟩],[.row false 2 (.int .i64) x1]=>some ⟨.one ⟨false,[.val (.bool (bitsB x0 x1))]⟩,[.row false 2 afY x1],[],[leN x1.length 9223372036854775807]⟩
 |_,_=>none
def vT:PF prog:=PF.alt ahf Yq (by
 intro args es o h da;unfold Yq at h;split at h
 ·rename_i x0 x1
  cases h
  have da:=pb da
  have hh:=aka x0 x1 da
  obtain⟨e0,en⟩:=hh
  exact tU rfl (pc en) (by simp only [e0] <;> rfl) rfl rfl
 ·cases h)
abbrev oP:=Int×Int×List (Int×(ByteArray×Int))
section
variable (y0 y1:Int)(y2:List (Int×(ByteArray×Int)))
def xE:Int:=tI (((Option.getD y2[Int.toNat y0]? ((0:Int),ByteArray.empty,(0:Int))).2).1) y1
def zG:Bool:=ltI y0 (↑y2.length:Int)
def DP:Bool:=leI (0:Int) y0
def DQ:Bool:=ltN y0.toNat y2.length
def DR:Bool:=ltI (xE y0 y1 y2) (0:Int)
end
def vN:Int:=(-1:Int)
def DS(y0:Int):Int:=IntKind.wrap .i64 (y0 + (1:Int))
def DT(y0 y1:Int)(y2:List (Int×(ByteArray×Int))):Int:=xE y0 y1 y2
def abM:oP→List (Nat×SV)
 |(y0,y1,_)=> [(5,(.one ⟨false,[.val (.int .i64 y0)]⟩)),(0,(.one ⟨false,[.ref 0]⟩)),(1,(.one ⟨false,[.val (.int .i64 y1)]⟩))]
def abC:oP→List (Nat×Entry)
 |(_,_,y2)=> [(0,(.row false 175 aeH y2))]
def ab6:Nat→oP→List (Nat×SV)
 |0,(_,_,_)=> [(4,(.one ⟨false,[.val (.int .i64 (vN))]⟩))]
 |_,(_,y1,_)=> [(1,(.one ⟨false,[.val (.int .i64 y1)]⟩))]
def abW:Nat→oP→List (Nat×Entry)
 |0,(_,_,y2)=> [(0,(.row false 175 aeH y2))]
 |_,(_,_,y2)=> [(0,(.row false 175 aeH y2))]
def BU:oP→LT oP
 |(y0,y1,y2)=> .ite (zG y0 y2) (.need [DP y0,zG y0 y2,DQ y0 y2] (.ite (DR y0 y1 y2) (.ext 0 [(0,0)]) (.nrm ((DS y0),DT y0 y1 y2,y2) [(0,0)]))) (.ext 1 [(0,0)])
def Mu(s:St):Option oP:=
 (match s.look 5 with
 |some ⟨none,.one ⟨false,[.val (.int .i64 y0)]⟩⟩=>
 (match s.look 0 with
 |some ⟨none,.one ⟨false,[.ref 0]⟩⟩=>
 (match s.look 1 with
 |some ⟨none,.one ⟨false,[.val (.int .i64 y1)]⟩⟩=>
 (match s.ent 0 with
 |some (.row false 175 (.pair (.int .i64) (.pair .str (.int .i64))) y2)=>
 some (y0,y1,y2)
 |_=>none)
 |_=>none)
 |_=>none)
 |_=>none)
def eT:Lp oP where
 h:=⟨[12,13,14,15,18,19,20,21,22,23,1,24,25,4,16,17,5],[0],[],[]⟩
 JL:=abM
 JE:=abC
 XL:=ab6
 XE:=abW
 q:=fun j=>match j with | 0=> .ret | _=> .exit 0
 tags:= [0,1]
 lt:=BU
 fuel:=fun(y0,y1,y2)=>y0.natAbs + y1.natAbs + y2.length
 fix:=fun(_,_,y2) (y0,y1,_)=>(y0,y1,y2)
 σ:= [(0,0)]
 rd:=Mu
theorem Zk:LoopOk prog (fun k=>Nat.blt k Tryz.f84.ntmps) eT.F (aS f84 0):=by
 refine Lp.ok (tbl:= [abr]) (lf:= []) aQ eT (by kernel_rfl) (LOk.nil _) (fun _=>rfl) (fun j _=>by unfold eT;match j with | 0=>rfl | _ + 1=>rfl) ?_ ?_ ?_ ?_ (fun _=>rfl) ?_
 ·rintro⟨y0,y1,y2⟩;kernel_rfl
 ·rintro⟨y0,y1,y2⟩;kernel_rfl
 ·intro s x h
  have h:Mu s=some x:=h
  unfold Mu at h
  repeat' split at h
  all_goals cases h
  exact⟨aa (by assumption) rfl (aa (by assumption) rfl (aa (by assumption) rfl (rfl))),ab rfl (by assumption) rfl (rfl)⟩
 ·rintro⟨y0,y1,y2⟩;kernel_rfl
 ·rintro⟨y0,y1,y2⟩ z;exact(And.intro (And.intro trivial rfl) trivial)
section
variable (x0:Int)(x1:List (Int×ByteArray×Int))
def LE:Int:=IntKind.wrap .i64 (x0 - (↑x1.length:Int))
def LF:Int×Int×List (Int×ByteArray×Int):=((0:Int),LE x0 x1,x1)
def RR:Int:=bif ltI (LE x0 x1) (0:Int)then(-1:Int)else bif Nat.beq ((Lp.res eT (LF x0 x1)).1) (0:Nat)then vN else ((Lp.res eT (LF x0 x1)).2.2).1
def RS:Bool:=allT [ltI (LE x0 x1) (0:Int)||Lp.fin eT (LF x0 x1)]
end
def XI:List SV→List Entry→Option Out
 | [.one ⟨false,[.ref 0]⟩,.one ⟨false,[.val (.int .i64 x0)]⟩],[.row false 175 (.pair (.int .i64) (.pair (.str) (.int .i64))) x1]=>some ⟨.one ⟨false,[.val (.int .i64 (RR x0 x1))]⟩,[.row false 175 aeH x1],[],[RS x0 x1]⟩
 |_,_=>none
def ahh:PF prog:=PF.ofG prog [abr] [eT.F] aQ 84 f84 func84 (LOk.fnT (l:= [aS f84 0]) (by kernel_rfl) (.cons Zk (.nil _))) XI (by
 intro vs es r h;unfold XI at h;split at h
 ·cases h;kernel_rfl
 ·cases h)
section
variable (x0 x1 x2 x3 x4:Int)(x5:List (Int×ByteArray×Int))
def Vf:Bool:=bif x3==(1:Int)then x3==(1:Int)else bif x3==(2:Int)then x3==(2:Int)else x3==(3:Int)
def Vg:Bool:=bif x3==(5:Int)then x3==(5:Int)else x3==(6:Int)
def Vh:Bool:=bif x3==(8:Int)then x3==(8:Int)else x3==(9:Int)
def age:Int:=bif Vf x3 then(0:Int)else bif x3==(4:Int)then(1:Int)else bif Vg x3 then(2:Int)else bif x3==(7:Int)then mr ((Option.getD x5[Int.toNat x4]? ((0:Int),ByteArray.empty,(0:Int))).1)else bif Vh x3 then(1:Int)else(0:Int)
def agf:Int:=bif Vf x3 then(1:Int)else bif x3==(4:Int)then(1:Int)else bif Vg x3 then(1:Int)else bif x3==(7:Int)then(1:Int)else bif Vh x3 then(0:Int)else(0:Int)
def ahG:Bool:=bif x3==(1:Int)then bA x4 (0:Int) (1:Int)else bif bif x3==(2:Int)then x3==(2:Int)else x3==(10:Int)then bA x4 (0:Int) (IntKind.wrap .i64 (x0 - (1:Int)))else bif bif x3==(3:Int)then x3==(3:Int)else bif x3==(8:Int)then x3==(8:Int)else x3==(11:Int)then bA x4 (0:Int) (IntKind.wrap .i64 (x1 - (1:Int)))else bif bif x3==(4:Int)then x3==(4:Int)else bif x3==(5:Int)then x3==(5:Int)else x3==(6:Int)then x4==(0:Int)else bif x3==(7:Int)then bA x4 (0:Int) (IntKind.wrap .i64 ((↑x5.length:Int) - (1:Int)))else bif x3==(9:Int)then bA x4 (0:Int) (IntKind.wrap .i64 (x2 - (1:Int)))else false
end
abbrev oR:=Int×List (Int×(ByteArray×Int))×List (Int×(ByteArray×Int))
section
variable (y0:Int)(y1 y2:List (Int×(ByteArray×Int)))
def ua:Int×ByteArray×Int:=Option.getD y1[Int.toNat y0]? ((0:Int),ByteArray.empty,(0:Int))
def zK:Bool:=ltI y0 (↑y1.length:Int)
def zL:Bool:=leI (0:Int) y0
def DZ:Bool:=ltN y0.toNat y1.length
def Ea:Bool:=ltI y0 (↑y2.length:Int)
def Eb:Bool:=ltN y0.toNat y2.length
def Ec:Int:=IntKind.wrap .i64 (y0 + (1:Int))
def Ed:List (Int×(ByteArray×Int)):=List.set y2 y0.toNat ((ua y0 y1).1,((ua y0 y1).2).1,(ua y0 y1).2.2)
end
def abO:oR→List (Nat×SV)
 |(y0,_,_)=> [(4,(.one ⟨false,[.val (.int .i64 y0)]⟩)),(0,(.one ⟨false,[.ref 0]⟩)),(3,(.one ⟨false,[.ref 1]⟩))]
def abE:oR→List (Nat×Entry)
 |(_,y1,y2)=> [(0,(.row false 175 aeH y1)),(1,(.row true 178 aeH y2))]
def ab8:Nat→oR→List (Nat×SV)
 |_,(_,_,_)=> []
def abY:Nat→oR→List (Nat×Entry)
 |_,(_,y1,y2)=> [(0,(.row false 175 aeH y1)),(1,(.row true 178 aeH y2))]
def BW:oR→LT oR
 |(y0,y1,y2)=> .ite (zK y0 y1) (.need [zL y0,zK y0 y1,DZ y0 y1,zL y0,Ea y0 y2,Eb y0 y2] (.nrm ((Ec y0),y1,(Ed y0 y1 y2)) [(0,0),(1,1)])) (.ext 0 [(0,0),(1,1)])
def Mw(s:St):Option oR:=
 (match s.look 4 with
 |some ⟨none,.one ⟨false,[.val (.int .i64 y0)]⟩⟩=>
 (match s.look 0 with
 |some ⟨none,.one ⟨false,[.ref 0]⟩⟩=>
 (match s.look 3 with
 |some ⟨none,.one ⟨false,[.ref 320]⟩⟩=>
 (match s.ent 0 with
 |some (.row false 175 (.pair (.int .i64) (.pair .str (.int .i64))) y1)=>
 (match s.ent 320 with
 |some (.row true 178 (.pair (.int .i64) (.pair .str (.int .i64))) y2)=>
 some (y0,y1,y2)
 |_=>none)
 |_=>none)
 |_=>none)
 |_=>none)
 |_=>none)
def iw:Lp oR where
 h:=⟨[8,9,10,11,14,15,16,17,18,19,20,21,12,13,4],[0,1],[],[]⟩
 JL:=abO
 JE:=abE
 XL:=ab8
 XE:=abY
 q:=fun j=>match j with | _=> .exit 0
 tags:= [0]
 lt:=BW
 fuel:=fun(y0,y1,y2)=>y0.natAbs + y1.length + y2.length
 fix:=fun(_,y1,_) (y0,_,y2)=>(y0,y1,y2)
 σ:= [(0,0),(1,320)]
 rd:=Mw
theorem Zm:LoopOk prog (fun k=>Nat.blt k Tryz.f90.ntmps) iw.F (aS f90 0):=by
 refine Lp.ok (tbl:= [abs]) (lf:= []) aQ iw (by kernel_rfl) (LOk.nil _) (fun _=>rfl) (fun _ _=>rfl) ?_ ?_ ?_ ?_ (fun _=>rfl) ?_
 ·rintro⟨y0,y1,y2⟩;kernel_rfl
 ·rintro⟨y0,y1,y2⟩;kernel_rfl
 ·intro s x h
  have h:Mw s=some x:=h
  unfold Mw at h
  repeat' split at h
  all_goals cases h
  exact⟨aa (by assumption) rfl (aa (by assumption) rfl (aa (by assumption) rfl (rfl))),ab rfl (by assumption) rfl (ab rfl (by assumption) rfl (rfl))⟩
 ·rintro⟨y0,y1,y2⟩;kernel_rfl
 ·rintro⟨y0,y1,y2⟩ z;exact(And.intro rfl trivial)
def LJ(x0:List (Int×ByteArray×Int)):Int×List (Int×ByteArray×Int)×List (Int×ByteArray×Int):=
 ((0:Int),x0,List.replicate (Int.toNat (↑x0.length:Int)) ((0:Int),{ data:= #[] },(0:Int)))
def NS(x0:List (Int×ByteArray×Int)):List (Int×(ByteArray×Int)):=(Lp.res iw (LJ x0)).2.2.2
def NT(x0:List (Int×ByteArray×Int)):Bool:=allT [leI (0:Int) (↑x0.length:Int),leI (↑x0.length:Int) (↑x0.length:Int),leI ((↑(32:Nat):Int) * (↑x0.length:Int)) (281474976710656:Int),leI (↑x0.length:Int) (9223372036854775807:Int),Lp.fin iw (LJ x0)]
def XK:List SV→List Entry→Option Out
 | [.one ⟨false,[.ref 0]⟩],[.row false 175 (.pair (.int .i64) (.pair (.str) (.int .i64))) x0]=>some ⟨.one ⟨false,[.ref 1]⟩,[.row false 175 aeH x0],[.row true 178 aeH (NS x0)],[NT x0]⟩
 |_,_=>none
def ahi:PF prog:=PF.ofG prog [abs] [iw.F] aQ 90 f90 func90 (LOk.fnT (l:= [aS f90 0]) (by kernel_rfl) (.cons Zm (.nil _))) XK (by
 intro vs es r h;unfold XK at h;split at h
 ·cases h;kernel_rfl
 ·cases h)
def rX(x0:Int):Int:=bif bif x0==(1:Int)then x0==(1:Int)else bif x0==(2:Int)then x0==(2:Int)else x0==(3:Int)then(0:Int)else bif bif x0==(4:Int)then x0==(4:Int)else bif x0==(7:Int)then x0==(7:Int)else bif x0==(8:Int)then x0==(8:Int)else x0==(9:Int)then(1:Int)else(2:Int)
def Um:List SV→List Entry→Option Out
 | [.one ⟨false,[.val (.int .i64 x0)]⟩],[]=>some ⟨.one ⟨false,[.val (.int .i64 (rX x0))]⟩,[],[],[]⟩
 |_,_=>none
def Ki:PF prog:=PF.ofG prog [] [] aQ 222 f222 func222 (fun c _=>LOk.nil c) Um (by
 intro vs es r h;unfold Um at h;split at h
 ·cases h;kernel_rfl
 ·cases h)
abbrev bg:=Int×Int×List (Int×(ByteArray×Int))×List Int×List (Int×(Int×Int))
section
variable (y0 y1:Int)(y2:List (Int×(ByteArray×Int)))(y4:List (Int×(Int×Int)))
def dC:Int×ByteArray×Int:=Option.getD y2[Int.toNat y0]? ((0:Int),ByteArray.empty,(0:Int))
def cK:Int×Int×Int:=Option.getD y4[Int.toNat y0]? ((0:Int),(0:Int),(0:Int))
def fV:Bool:=ltI y0 y1
def dF:Bool:=leI (0:Int) y0
def fW:Bool:=ltI y0 (↑y2.length:Int)
def fX:Bool:=ltN y0.toNat y2.length
def fY:Bool:=ltI y0 (↑y4.length:Int)
def fZ:Bool:=ltN y0.toNat y4.length
def gc:Bool:= !zs ((dC y0 y2).1) ((dC y0 y2).2.2) ((cK y0 y4).1) (((cK y0 y4).2).1) ((cK y0 y4).2.2)
def gd:Int:=IntKind.wrap .i64 (y0 + (1:Int))
end
def FX:bg→List (Nat×SV)
 |(y0,y1,_,_,_)=> [(24,(.one ⟨false,[.val (.int .i64 y0)]⟩)),(23,(.one ⟨false,[.val (.int .i64 y1)]⟩)),(22,(.one ⟨false,[.ref 0]⟩)),(3,(.one ⟨false,[.ptr 1 0]⟩))]
def FV:bg→List (Nat×Entry)
 |(_,_,y2,y3,y4)=> [(0,(.row false 178 aeH y2)),(1,(.box 48 [.ref 2,.ref 3])),(2,(.row false 2 afY y3)),(3,(.row false 172 aaK y4))]
def Gb:Nat→bg→List (Nat×SV)
 |0,(_,_,_,_,_)=> [(6,(.one ⟨false,[.val (.bool false)]⟩))]
 |_,(_,_,_,_,_)=> []
def FZ:Nat→bg→List (Nat×Entry)
 |0,(_,_,y2,y3,y4)=> [(0,(.row false 178 aeH y2)),(1,(.box 48 [.ref 2,.ref 3])),(2,(.row false 2 afY y3)),(3,(.row false 172 aaK y4))]
 |_,(_,_,y2,y3,y4)=> [(0,(.row false 178 aeH y2)),(1,(.box 48 [.ref 2,.ref 3])),(2,(.row false 2 afY y3)),(3,(.row false 172 aaK y4))]
def fK:bg→LT bg
 |(y0,y1,y2,y3,y4)=> .ite (fV y0 y1) (.need [dF y0,fW y0 y2,fX y0 y2] (.need [dF y0,fY y0 y4,fZ y0 y4] (.ite (gc y0 y2 y4) (.ext 0 [(0,0),(1,1),(2,2),(3,3)]) (.nrm ((gd y0),y1,y2,y3,y4) [(0,0),(1,1),(2,2),(3,3)])))) (.ext 1 [(0,0),(1,1),(2,2),(3,3)])
def pe(s:St):Option bg:=
 (match s.look 24 with
 |some ⟨none,.one ⟨false,[.val (.int .i64 y0)]⟩⟩=>
 (match s.look 23 with
 |some ⟨none,.one ⟨false,[.val (.int .i64 y1)]⟩⟩=>
 (match s.look 22 with
 |some ⟨none,.one ⟨false,[.ref 2]⟩⟩=>
 (match s.look 3 with
 |some ⟨none,.one ⟨false,[.ptr 256 0]⟩⟩=>
 (match s.ent 2 with
 |some (.row false 178 (.pair (.int .i64) (.pair .str (.int .i64))) y2)=>
 (match s.ent 256 with
 |some (.box 48 [.ref 0,.ref 1])=>
 (match s.ent 0 with
 |some (.row false 2 (.int .i64) y3)=>
 (match s.ent 1 with
 |some (.row false 172 (.pair (.int .i64) (.pair (.int .i64) (.int .i64))) y4)=>
 some (y0,y1,y2,y3,y4)
 |_=>none)
 |_=>none)
 |_=>none)
 |_=>none)
 |_=>none)
 |_=>none)
 |_=>none)
 |_=>none)
def au:Lp bg where
 h:=⟨[25,26,27,28,8,7,29,30,31,32,33,34,35,36,6,37,24],[0,1,2,3],[],[]⟩
 JL:=FX
 JE:=FV
 XL:=Gb
 XE:=FZ
 q:=fun j=>match j with | 0=> .ret | _=> .exit 0
 tags:= [0,1]
 lt:=fK
 fuel:=fun(y0,y1,y2,y3,y4)=>y0.natAbs + y1.natAbs + y2.length + y3.length + y4.length
 fix:=fun(_,y1,y2,y3,y4) (y0,_,_,_,_)=>(y0,y1,y2,y3,y4)
 σ:= [(0,2),(1,256),(2,0),(3,1)]
 rd:=pe
theorem ER:LoopOk prog (fun k=>Nat.blt k Tryz.f116.ntmps) au.F (aS f116 0):=by
 refine Lp.ok (tbl:= [vT,PF.lend vT,PF.fz vT,Ts]) (lf:= []) aQ au (by kernel_rfl) (LOk.nil _) (fun _=>rfl) (fun j _=>by unfold au;match j with | 0=>rfl | _ + 1=>rfl) ?_ ?_ ?_ ?_ (fun _=>rfl) ?_
 ·rintro⟨y0,y1,y2,y3,y4⟩;kernel_rfl
 ·rintro⟨y0,y1,y2,y3,y4⟩;kernel_rfl
 ·intro s x h
  have h:pe s=some x:=h
  unfold pe at h
  repeat' split at h
  all_goals cases h
  exact⟨aa (by assumption) rfl (aa (by assumption) rfl (aa (by assumption) rfl (aa (by assumption) rfl (rfl)))),ab rfl (by assumption) rfl (ab rfl (by assumption) rfl (ab rfl (by assumption) rfl (ab rfl (by assumption) rfl (rfl))))⟩
 ·rintro⟨y0,y1,y2,y3,y4⟩;kernel_rfl
 ·rintro⟨y0,y1,y2,y3,y4⟩ z;exact(And.intro (And.intro trivial rfl) trivial)
section
variable (x0:Int)(x1:List Int)(x2:List (Int×Int×Int))(x3:List (Int×ByteArray×Int))
def ew:Bool:=bif !bitsB x0 x1 then true else(↑x2.length:Int)!=(↑x3.length:Int)
def qr:Int×Int×List (Int×ByteArray×Int)×List Int×List (Int×Int×Int):=((0:Int),(↑x3.length:Int),x3,x1,x2)
def lS:Bool:=bif ew x0 x1 x2 x3 then false else bif Nat.beq ((Lp.res au (qr x1 x2 x3)).1) (0:Nat)then false else true
def lT:Bool:=allT [leN x1.length (9223372036854775807:Nat),ew x0 x1 x2 x3||Lp.fin au (qr x1 x2 x3)]
end
def xS:List SV→List Entry→Option Out
 | [.one ⟨true,[.ref 0,.ref 1]⟩,.one ⟨false,[.val (.int .i64 x0)]⟩,.one ⟨false,[.ref 2]⟩],[.row false 2 (.int .i64) x1,.row false 172 (.pair (.int .i64) (.pair (.int .i64) (.int .i64))) x2,.row false 178 (.pair (.int .i64) (.pair (.str) (.int .i64))) x3]=>some ⟨.one ⟨false,[.val (.bool (lS x0 x1 x2 x3))]⟩,[.row false 2 afY x1,.row false 172 aaK x2,.row false 178 aeH x3],[],[lT x0 x1 x2 x3]⟩
 |_,_=>none
def IF:PF prog:=PF.ofG prog [vT,PF.lend vT,PF.fz vT,Ts] [au.F] aQ 116 f116 func116 (LOk.fnT (l:= [aS f116 0]) (by kernel_rfl) (.cons ER (.nil _))) xS (by
 intro vs es r h;unfold xS at h;split at h
 ·cases h;kernel_rfl
 ·cases h)
def sg(x0:List (Int×Int×Int)):Bool:=allT [ltN (0:Nat) x0.length,false||leN ((0:Nat) + List.length x0) (9223372036854775807:Nat),false||leN (((0:Nat) + List.length x0) * (24:Nat)) (140737488355328:Nat)]
def Fi:List SV→List Entry→Option Out
 | [.one ⟨false,[.ref 0]⟩],[.row false 172 (.pair (.int .i64) (.pair (.int .i64) (.int .i64))) x0]=>some ⟨.one ⟨false,[.ref 1]⟩,[.row false 172 aaK x0],[.row true 172 aaK x0],[sg x0]⟩
 |_,_=>none
def Pq:PF prog:=PF.ofG prog [] [] aQ 195 f195 func195 (fun c _=>LOk.nil c) Fi (by
 intro vs es r h;unfold Fi at h;split at h
 ·cases h;kernel_rfl
 ·cases h)
def Lk(x0:Int)(x1:ByteArray)(x2 x3:Int)(x4:ByteArray)(x5:Int):Bool:=bif x0 !=x3 then false else bif !ByteArray.toList x1==ByteArray.toList x4 then false else bif x2 !=x5 then false else true
def aa2:List SV→List Entry→Option Out
 | [.one ⟨true,[.val (.int .i64 x0),.val (.string x1),.val (.int .i64 x2)]⟩,.one ⟨true,[.val (.int .i64 x3),.val (.string x4),.val (.int .i64 x5)]⟩],[]=>some ⟨.one ⟨false,[.val (.bool (Lk x0 x1 x2 x3 x4 x5))]⟩,[],[],[]⟩
 |_,_=>none
def abq:PF prog:=PF.ofG prog [] [] aQ 166 f166 func166 (fun c _=>LOk.nil c) aa2 (by
 intro vs es r h;unfold aa2 at h;split at h
 ·cases h;kernel_rfl
 ·cases h)
abbrev oN:=Int×List (Int×(ByteArray×Int))×List (Int×(ByteArray×Int))
section
variable (y0:Int)(y1 y2:List (Int×(ByteArray×Int)))
def tX:Int×ByteArray×Int:=Option.getD y1[Int.toNat y0]? ((0:Int),ByteArray.empty,(0:Int))
def tY:Int×ByteArray×Int:=Option.getD y2[Int.toNat y0]? ((0:Int),ByteArray.empty,(0:Int))
def zy:Bool:=ltI y0 (↑y1.length:Int)
def zA:Bool:=leI (0:Int) y0
def DB:Bool:=ltN y0.toNat y1.length
def DC:Bool:=ltI y0 (↑y2.length:Int)
def DD:Bool:=ltN y0.toNat y2.length
def DE:Bool:= !Lk ((tX y0 y1).1) (((tX y0 y1).2).1) ((tX y0 y1).2.2) ((tY y0 y2).1) (((tY y0 y2).2).1) ((tY y0 y2).2.2)
def DF:Int:=IntKind.wrap .i64 (y0 + (1:Int))
end
def abK:oN→List (Nat×SV)
 |(y0,_,_)=> [(5,(.one ⟨false,[.val (.int .i64 y0)]⟩)),(0,(.one ⟨false,[.ref 0]⟩)),(1,(.one ⟨false,[.ref 1]⟩))]
def abA:oN→List (Nat×Entry)
 |(_,y1,y2)=> [(0,(.row false 178 aeH y1)),(1,(.row false 178 aeH y2))]
def ab4:Nat→oN→List (Nat×SV)
 |0,(_,_,_)=> [(4,(.one ⟨false,[.val (.bool false)]⟩))]
 |_,(_,_,_)=> []
def abU:Nat→oN→List (Nat×Entry)
 |0,(_,y1,y2)=> [(0,(.row false 178 aeH y1)),(1,(.row false 178 aeH y2))]
 |_,(_,y1,y2)=> [(0,(.row false 178 aeH y1)),(1,(.row false 178 aeH y2))]
def BR:oN→LT oN
 |(y0,y1,y2)=> .ite (zy y0 y1) (.need [zA y0,zy y0 y1,DB y0 y1,zA y0,DC y0 y2,DD y0 y2] (.ite (DE y0 y1 y2) (.ext 0 [(0,0),(1,1)]) (.nrm ((DF y0),y1,y2) [(0,0),(1,1)]))) (.ext 1 [(0,0),(1,1)])
def Mr(s:St):Option oN:=
 (match s.look 5 with
 |some ⟨none,.one ⟨false,[.val (.int .i64 y0)]⟩⟩=>
 (match s.look 0 with
 |some ⟨none,.one ⟨false,[.ref 0]⟩⟩=>
 (match s.look 1 with
 |some ⟨none,.one ⟨false,[.ref 1]⟩⟩=>
 (match s.ent 0 with
 |some (.row false 178 (.pair (.int .i64) (.pair .str (.int .i64))) y1)=>
 (match s.ent 1 with
 |some (.row false 178 (.pair (.int .i64) (.pair .str (.int .i64))) y2)=>
 some (y0,y1,y2)
 |_=>none)
 |_=>none)
 |_=>none)
 |_=>none)
 |_=>none)
def gt:Lp oN where
 h:=⟨[11,12,13,14,17,18,19,20,21,22,23,24,25,26,4,15,16,5],[0,1],[],[]⟩
 JL:=abK
 JE:=abA
 XL:=ab4
 XE:=abU
 q:=fun j=>match j with | 0=> .ret | _=> .exit 0
 tags:= [0,1]
 lt:=BR
 fuel:=fun(y0,y1,y2)=>y0.natAbs + y1.length + y2.length
 fix:=fun(_,y1,y2) (y0,_,_)=>(y0,y1,y2)
 σ:= [(0,0),(1,1)]
 rd:=Mr
theorem Zi:LoopOk prog (fun k=>Nat.blt k Tryz.f96.ntmps) gt.F (aS f96 0):=by
 refine Lp.ok (tbl:= [abq]) (lf:= []) aQ gt (by kernel_rfl) (LOk.nil _) (fun _=>rfl) (fun j _=>by unfold gt;match j with | 0=>rfl | _ + 1=>rfl) ?_ ?_ ?_ ?_ (fun _=>rfl) ?_
 ·rintro⟨y0,y1,y2⟩;kernel_rfl
 ·rintro⟨y0,y1,y2⟩;kernel_rfl
 ·intro s x h
  have h:Mr s=some x:=h
  unfold Mr at h
  repeat' split at h
  all_goals cases h
  exact⟨aa (by assumption) rfl (aa (by assumption) rfl (aa (by assumption) rfl (rfl))),ab rfl (by assumption) rfl (ab rfl (by assumption) rfl (rfl))⟩
 ·rintro⟨y0,y1,y2⟩;kernel_rfl
 ·rintro⟨y0,y1,y2⟩ z;exact(And.intro (And.intro trivial rfl) trivial)
section
variable (x0 x1:List (Int×ByteArray×Int))
def LA:Bool:=(↑x0.length:Int)!=(↑x1.length:Int)
def LB:Int×List (Int×ByteArray×Int)×List (Int×ByteArray×Int):=((0:Int),x0,x1)
def NM:Bool:=bif LA x0 x1 then false else bif Nat.beq ((Lp.res gt (LB x0 x1)).1) (0:Nat)then false else true
def NN:Bool:=allT [LA x0 x1||Lp.fin gt (LB x0 x1)]
end
def XG:List SV→List Entry→Option Out
 | [.one ⟨false,[.ref 0]⟩,.one ⟨false,[.ref 1]⟩],[.row false 178 (.pair (.int .i64) (.pair (.str) (.int .i64))) x0,.row false 178 (.pair (.int .i64) (.pair (.str) (.int .i64))) x1]=>some ⟨.one ⟨false,[.val (.bool (NM x0 x1))]⟩,[.row false 178 aeH x0,.row false 178 aeH x1],[],[NN x0 x1]⟩
 |_,_=>none
def ahg:PF prog:=PF.ofG prog [abq] [gt.F] aQ 96 f96 func96 (LOk.fnT (l:= [aS f96 0]) (by kernel_rfl) (.cons Zi (.nil _))) XG (by
 intro vs es r h;unfold XG at h;split at h
 ·cases h;kernel_rfl
 ·cases h)
abbrev re:=Int×ByteArray
def qm(y0:Int):ByteArray:=strOfNums [IntKind.wrap IntKind.u8 (IntKind.wrap .i64 ((48:Int) + Int.tmod y0 (10:Int)))]
def GI(y0:Int):Bool:=ltI (0:Int) y0
def Me:Bool:=neI (10:Int) (0:Int)
section
variable (y0:Int)(y1:ByteArray)
def RO:Bool:=leN (ByteArray.size (qm y0) + ByteArray.size y1) (9223372036854775807:Nat)
def RP:Int:=IntKind.wrap .i64 (Int.tdiv y0 (10:Int))
def RQ:ByteArray:=qm y0++y1
end
def aal:re→List (Nat×SV)
 |(y0,y1)=> [(0,(.one ⟨false,[.val (.int .i64 y0)]⟩)),(3,(.one ⟨false,[.val (.string y1)]⟩))]
def aac:re→List (Nat×Entry)
 |(_,_)=> []
def aaD:Nat→re→List (Nat×SV)
 |_,(y0,y1)=> [(3,(.one ⟨false,[.val (.string y1)]⟩)),(0,(.one ⟨false,[.val (.int .i64 y0)]⟩))]
def aau:Nat→re→List (Nat×Entry)
 |_,(_,_)=> []
def EX:re→LT re
 |(y0,y1)=> .ite (GI y0) (.need [Me,RO y0 y1] (.need [Me] (.nrm ((RP y0),(RQ y0 y1)) []))) (.ext 0 [])
def KS(s:St):Option re:=
 (match s.look 0 with
 |some ⟨none,.one ⟨false,[.val (.int .i64 y0)]⟩⟩=>
 (match s.look 3 with
 |some ⟨none,.one ⟨false,[.val (.string y1)]⟩⟩=>
 some (y0,y1)
 |_=>none)
 |_=>none)
def kb:Lp re where
 h:=⟨[6,7,8,9,10,11,12,13,14,15,3,16,17,0],[],[],[]⟩
 JL:=aal
 JE:=aac
 XL:=aaD
 XE:=aau
 q:=fun j=>match j with | _=> .exit 0
 tags:= [0]
 lt:=EX
 fuel:=fun(y0,y1)=>y0.natAbs + y1.size
 fix:=fun(_,_) (y0,y1)=>(y0,y1)
 σ:= []
 rd:=KS
theorem Xs:LoopOk prog (fun k=>Nat.blt k Tryz.f168.ntmps) kb.F (aS f168 0):=by
 refine Lp.ok (tbl:= []) (lf:= []) aQ kb (by kernel_rfl) (LOk.nil _) (fun _=>rfl) (fun _ _=>rfl) ?_ ?_ ?_ ?_ (fun _=>rfl) ?_
 ·rintro⟨y0,y1⟩;kernel_rfl
 ·rintro⟨y0,y1⟩;kernel_rfl
 ·intro s x h
  have h:KS s=some x:=h
  unfold KS at h
  repeat' split at h
  all_goals cases h
  exact⟨aa (by assumption) rfl (aa (by assumption) rfl (rfl)),rfl⟩
 ·rintro⟨y0,y1⟩;kernel_rfl
 ·rintro⟨y0,y1⟩ z;exact(And.intro rfl trivial)
def OZ(x0:Int):ByteArray:=
 (Lp.res kb (x0,{ data:= #[] })).2.2
def nS(x0:Int):ByteArray:=
 bif leI x0 (0:Int)then { data:= #[(109:UInt8),(48:UInt8)] } else { data:= #[(109:UInt8)] } ++OZ x0
def Hj(x0:Int):Bool:=
 allT
 [leI x0 (0:Int)||Lp.fin kb (x0,{ data:= #[] }),
  leI x0 (0:Int)||leN (ByteArray.size { data:= #[(109:UInt8)] } + ByteArray.size (OZ x0)) (9223372036854775807:Nat)]
def Wm:List SV→List Entry→Option Out
 | [.one ⟨false,[.val (.int .i64 x0)]⟩],[]=>some ⟨.one ⟨false,[.val (.string (nS x0))]⟩,[],[],[Hj x0]⟩
 |_,_=>none
def Qt:PF prog:=PF.ofG prog [] [kb.F] aQ 168 f168 func168 (LOk.fnT (l:= [aS f168 0]) (by kernel_rfl) (.cons Xs (.nil _))) Wm (by
 intro vs es r h;unfold Wm at h;split at h
 ·cases h;kernel_rfl
 ·cases h)
abbrev lI:=Int×Int×List (Int×(ByteArray×Int))
section
variable (y0 y1:Int)(y2:List (Int×(ByteArray×Int)))
def rk:Int:=IntKind.wrap .i64 (y1 + (1:Int))
def uO:ByteArray×Int:=(Option.getD y2[Int.toNat y0]? ((0:Int),ByteArray.empty,(0:Int))).2
def ph:List (Int×ByteArray×Int):=List.set y2 y0.toNat (y1,(uO y0 y2).1,(uO y0 y2).2)
def uP:Int×ByteArray×Int:=Option.getD (ph y0 y1 y2)[Int.toNat y0]? ((0:Int),ByteArray.empty,(0:Int))
def pj:List (Int×ByteArray×Int):=List.set (ph y0 y1 y2) y0.toNat ((uP y0 y1 y2).1,nS (rk y1),(uP y0 y1 y2).2.2)
def uQ:Int:=IntKind.wrap .i64 (rk y1 + (1:Int))
def uR:Int×ByteArray×Int:=Option.getD (pj y0 y1 y2)[Int.toNat y0]? ((0:Int),ByteArray.empty,(0:Int))
def wo:Bool:=ltI y0 (↑y2.length:Int)
def sY:Bool:=leI (0:Int) y0
def Ah:Bool:=ltN y0.toNat y2.length
def Ai:Bool:=Hj (rk y1)
def Aj:Bool:=ltI y0 (↑(List.length (ph y0 y1 y2)):Int)
def Ak:Bool:=ltN y0.toNat (List.length (ph y0 y1 y2))
def Al:Bool:=ltI y0 (↑(List.length (pj y0 y1 y2)):Int)
def Am:Bool:=ltN y0.toNat (List.length (pj y0 y1 y2))
def An:Int:=IntKind.wrap .i64 (y0 + (1:Int))
def Ao:Int:=IntKind.wrap .i64 (uQ y1 + (1:Int))
def yA:List (Int×(ByteArray×Int)):=List.set (pj y0 y1 y2) y0.toNat ((uR y0 y1 y2).1,((uR y0 y1 y2).2).1,uQ y1)
end
def Yi:lI→List (Nat×SV)
 |(y0,y1,_)=> [(5,(.one ⟨false,[.val (.int .i64 y0)]⟩)),(0,(.one ⟨false,[.ref 0]⟩)),(1,(.one ⟨false,[.val (.int .i64 y1)]⟩))]
def Ya:lI→List (Nat×Entry)
 |(_,_,y2)=> [(0,(.row true 178 aeH y2))]
def YI:Nat→lI→List (Nat×SV)
 |_,(_,y1,_)=> [(1,(.one ⟨false,[.val (.int .i64 y1)]⟩))]
def YA:Nat→lI→List (Nat×Entry)
 |_,(_,_,y2)=> [(0,(.row true 178 aeH y2))]
def yE:lI→LT lI
 |(y0,y1,y2)=> .ite (wo y0 y2) (.need [sY y0,wo y0 y2,Ah y0 y2] (.need [Ai y1,sY y0,Aj y0 y1 y2,Ak y0 y1 y2] (.need [sY y0,Al y0 y1 y2,Am y0 y1 y2] (.nrm ((An y0),Ao y1,(yA y0 y1 y2)) [(0,0)])))) (.ext 0 [(0,0)])
def JG(s:St):Option lI:=
 (match s.look 5 with
 |some ⟨none,.one ⟨false,[.val (.int .i64 y0)]⟩⟩=>
 (match s.look 0 with
 |some ⟨none,.one ⟨false,[.ref 0]⟩⟩=>
 (match s.look 1 with
 |some ⟨none,.one ⟨false,[.val (.int .i64 y1)]⟩⟩=>
 (match s.ent 0 with
 |some (.row true 178 (.pair (.int .i64) (.pair .str (.int .i64))) y2)=>
 some (y0,y1,y2)
 |_=>none)
 |_=>none)
 |_=>none)
 |_=>none)
def fk:Lp lI where
 h:=⟨[6,7,8,9,12,13,14,15,16,17,18,1,19,20,21,22,23,24,25,26,27,28,29,30,31,32,33,10,11,5],[0],[],[]⟩
 JL:=Yi
 JE:=Ya
 XL:=YI
 XE:=YA
 q:=fun j=>match j with | _=> .exit 0
 tags:= [0]
 lt:=yE
 fuel:=fun(y0,y1,y2)=>y0.natAbs + y1.natAbs + y2.length
 fix:=fun(_,_,_) (y0,y1,y2)=>(y0,y1,y2)
 σ:= [(0,0)]
 rd:=JG
theorem VL:LoopOk prog (fun k=>Nat.blt k Tryz.f98.ntmps) fk.F (aS f98 0):=by
 refine Lp.ok (tbl:= [Qt]) (lf:= []) aQ fk (by kernel_rfl) (LOk.nil _) (fun _=>rfl) (fun _ _=>rfl) ?_ ?_ ?_ ?_ (fun _=>rfl) ?_
 ·rintro⟨y0,y1,y2⟩;kernel_rfl
 ·rintro⟨y0,y1,y2⟩;kernel_rfl
 ·intro s x h
  have h:JG s=some x:=h
  unfold JG at h
  repeat' split at h
  all_goals cases h
  exact⟨aa (by assumption) rfl (aa (by assumption) rfl (aa (by assumption) rfl (rfl))),ab rfl (by assumption) rfl (rfl)⟩
 ·rintro⟨y0,y1,y2⟩;kernel_rfl
 ·rintro⟨y0,y1,y2⟩ z;exact(And.intro rfl trivial)
section
variable (x0:Int)(x1:List (Int×ByteArray×Int))
def Io:Int×Int×List (Int×ByteArray×Int):=((0:Int),x0,x1)
def NP:Int×List (Int×ByteArray×Int):=(Lp.res fk (Io x0 x1)).2.2
def OW:Int:=(NP x0 x1).1
def OX:List (Int×(ByteArray×Int)):=(NP x0 x1).2
def OY:Bool:=allT [Lp.fin fk (Io x0 x1)]
end
def Ur:List SV→List Entry→Option Out
 | [.one ⟨false,[.ref 0]⟩,.one ⟨false,[.val (.int .i64 x0)]⟩],[.row true 178 (.pair (.int .i64) (.pair (.str) (.int .i64))) x1]=>some ⟨.one ⟨false,[.val (.int .i64 (OW x0 x1))]⟩,[.row true 178 aeH (OX x0 x1)],[],[OY x0 x1]⟩
 |_,_=>none
def ae2:PF prog:=PF.ofG prog [Qt] [fk.F] aQ 98 f98 func98 (LOk.fnT (l:= [aS f98 0]) (by kernel_rfl) (.cons VL (.nil _))) Ur (by
 intro vs es r h;unfold Ur at h;split at h
 ·cases h;kernel_rfl
 ·cases h)
def HI(x0:Int)(x1:List (Int×Int×Int)):Int:=IntKind.wrap .i64 (x0 - (↑x1.length:Int))
def Jm(x0:Int)(x1:List (Int×Int×Int)):Int:=bif ltI (HI x0 x1) (0:Int)then(-1:Int)else HI x0 x1
def PK:List SV→List Entry→Option Out
 | [.one ⟨false,[.ref 0]⟩,.one ⟨false,[.val (.int .i64 x0)]⟩],[.row false 194 (.pair (.int .i64) (.pair (.int .i64) (.int .i64))) x1]=>some ⟨.one ⟨false,[.val (.int .i64 (Jm x0 x1))]⟩,[.row false 194 aaK x1],[],[]⟩
 |_,_=>none
def Zy:PF prog:=PF.ofG prog [] [] aQ 100 f100 func100 (fun c _=>LOk.nil c) PK (by
 intro vs es r h;unfold PK at h;split at h
 ·cases h;kernel_rfl
 ·cases h)
abbrev hZ:=Int×List (Int×(Int×Int))×List (Int×(Int×Int))
section
variable (y0:Int)(y1 y2:List (Int×(Int×Int)))
def na:Int×Int×Int:=Option.getD y1[Int.toNat y0]? ((0:Int),(0:Int),(0:Int))
def qU:Bool:=ltI y0 (↑y1.length:Int)
def qV:Bool:=leI (0:Int) y0
def uT:Bool:=ltN y0.toNat y1.length
def uU:Bool:=ltI y0 (↑y2.length:Int)
def uV:Bool:=ltN y0.toNat y2.length
def uW:Int:=IntKind.wrap .i64 (y0 + (1:Int))
def uX:List (Int×(Int×Int)):=List.set y2 y0.toNat ((na y0 y1).1,((na y0 y1).2).1,(na y0 y1).2.2)
end
def TH:hZ→List (Nat×SV)
 |(y0,_,_)=> [(4,(.one ⟨false,[.val (.int .i64 y0)]⟩)),(0,(.one ⟨false,[.ref 0]⟩)),(3,(.one ⟨false,[.ref 1]⟩))]
def TE:hZ→List (Nat×Entry)
 |(_,y1,y2)=> [(0,(.row false 194 aaK y1)),(1,(.row true 172 aaK y2))]
def TO:Nat→hZ→List (Nat×SV)
 |_,(_,_,_)=> []
def TK:Nat→hZ→List (Nat×Entry)
 |_,(_,y1,y2)=> [(0,(.row false 194 aaK y1)),(1,(.row true 172 aaK y2))]
def tK:hZ→LT hZ
 |(y0,y1,y2)=> .ite (qU y0 y1) (.need [qV y0,qU y0 y1,uT y0 y1,qV y0,uU y0 y2,uV y0 y2] (.nrm ((uW y0),y1,(uX y0 y1 y2)) [(0,0),(1,1)])) (.ext 0 [(0,0),(1,1)])
def EH(s:St):Option hZ:=
 (match s.look 4 with
 |some ⟨none,.one ⟨false,[.val (.int .i64 y0)]⟩⟩=>
 (match s.look 0 with
 |some ⟨none,.one ⟨false,[.ref 0]⟩⟩=>
 (match s.look 3 with
 |some ⟨none,.one ⟨false,[.ref 320]⟩⟩=>
 (match s.ent 0 with
 |some (.row false 194 (.pair (.int .i64) (.pair (.int .i64) (.int .i64))) y1)=>
 (match s.ent 320 with
 |some (.row true 172 (.pair (.int .i64) (.pair (.int .i64) (.int .i64))) y2)=>
 some (y0,y1,y2)
 |_=>none)
 |_=>none)
 |_=>none)
 |_=>none)
 |_=>none)
def df:Lp hZ where
 h:=⟨[8,9,10,11,14,15,16,17,18,19,20,21,12,13,4],[0,1],[],[]⟩
 JL:=TH
 JE:=TE
 XL:=TO
 XE:=TK
 q:=fun j=>match j with | _=> .exit 0
 tags:= [0]
 lt:=tK
 fuel:=fun(y0,y1,y2)=>y0.natAbs + y1.length + y2.length
 fix:=fun(_,y1,_) (y0,_,y2)=>(y0,y1,y2)
 σ:= [(0,0),(1,320)]
 rd:=EH
theorem RX:LoopOk prog (fun k=>Nat.blt k Tryz.f102.ntmps) df.F (aS f102 0):=by
 refine Lp.ok (tbl:= [QT]) (lf:= []) aQ df (by kernel_rfl) (LOk.nil _) (fun _=>rfl) (fun _ _=>rfl) ?_ ?_ ?_ ?_ (fun _=>rfl) ?_
 ·rintro⟨y0,y1,y2⟩;kernel_rfl
 ·rintro⟨y0,y1,y2⟩;kernel_rfl
 ·intro s x h
  have h:EH s=some x:=h
  unfold EH at h
  repeat' split at h
  all_goals cases h
  exact⟨aa (by assumption) rfl (aa (by assumption) rfl (aa (by assumption) rfl (rfl))),ab rfl (by assumption) rfl (ab rfl (by assumption) rfl (rfl))⟩
 ·rintro⟨y0,y1,y2⟩;kernel_rfl
 ·rintro⟨y0,y1,y2⟩ z;exact(And.intro rfl trivial)
section
variable (x0:List (Int×Int×Int))
def CN:Int×List (Int×Int×Int)×List (Int×Int×Int):=((0:Int),x0,List.replicate (Int.toNat (↑x0.length:Int)) ((0:Int),(0:Int),(0:Int)))
def DU:List (Int×(Int×Int)):=(Lp.res df (CN x0)).2.2.2
def DV:Bool:=allT [leI (0:Int) (↑x0.length:Int),leI (↑x0.length:Int) (↑x0.length:Int),leI ((↑(24:Nat):Int) * (↑x0.length:Int)) (281474976710656:Int),leI (↑x0.length:Int) (9223372036854775807:Int),Lp.fin df (CN x0)]
end
def PL:List SV→List Entry→Option Out
 | [.one ⟨false,[.ref 0]⟩],[.row false 194 (.pair (.int .i64) (.pair (.int .i64) (.int .i64))) x0]=>some ⟨.one ⟨false,[.ref 1]⟩,[.row false 194 aaK x0],[.row true 172 aaK (DU x0)],[DV x0]⟩
 |_,_=>none
def Zz:PF prog:=PF.ofG prog [QT] [df.F] aQ 102 f102 func102 (LOk.fnT (l:= [aS f102 0]) (by kernel_rfl) (.cons RX (.nil _))) PL (by
 intro vs es r h;unfold PL at h;split at h
 ·cases h;kernel_rfl
 ·cases h)
abbrev hY:=Int×List (Int×(Int×Int))×List (Int×(Int×Int))
section
variable (y0:Int)(y1 y2:List (Int×(Int×Int)))
def mW:Int×Int×Int:=Option.getD y1[Int.toNat y0]? ((0:Int),(0:Int),(0:Int))
def mX:Int×Int×Int:=Option.getD y2[Int.toNat y0]? ((0:Int),(0:Int),(0:Int))
def qS:Bool:=ltI y0 (↑y1.length:Int)
def qT:Bool:=leI (0:Int) y0
def uE:Bool:=ltN y0.toNat y1.length
def uF:Bool:=ltI y0 (↑y2.length:Int)
def uG:Bool:=ltN y0.toNat y2.length
def uH:Bool:= !zZ ((mW y0 y1).1) (((mW y0 y1).2).1) ((mW y0 y1).2.2) ((mX y0 y2).1) (((mX y0 y2).2).1) ((mX y0 y2).2.2)
def uI:Int:=IntKind.wrap .i64 (y0 + (1:Int))
end
def TG:hY→List (Nat×SV)
 |(y0,_,_)=> [(5,(.one ⟨false,[.val (.int .i64 y0)]⟩)),(0,(.one ⟨false,[.ref 0]⟩)),(1,(.one ⟨false,[.ref 1]⟩))]
def TD:hY→List (Nat×Entry)
 |(_,y1,y2)=> [(0,(.row false 172 aaK y1)),(1,(.row false 172 aaK y2))]
def TN:Nat→hY→List (Nat×SV)
 |0,(_,_,_)=> [(4,(.one ⟨false,[.val (.bool false)]⟩))]
 |_,(_,_,_)=> []
def TJ:Nat→hY→List (Nat×Entry)
 |0,(_,y1,y2)=> [(0,(.row false 172 aaK y1)),(1,(.row false 172 aaK y2))]
 |_,(_,y1,y2)=> [(0,(.row false 172 aaK y1)),(1,(.row false 172 aaK y2))]
def tJ:hY→LT hY
 |(y0,y1,y2)=> .ite (qS y0 y1) (.need [qT y0,qS y0 y1,uE y0 y1,qT y0,uF y0 y2,uG y0 y2] (.ite (uH y0 y1 y2) (.ext 0 [(0,0),(1,1)]) (.nrm ((uI y0),y1,y2) [(0,0),(1,1)]))) (.ext 1 [(0,0),(1,1)])
def EG(s:St):Option hY:=
 (match s.look 5 with
 |some ⟨none,.one ⟨false,[.val (.int .i64 y0)]⟩⟩=>
 (match s.look 0 with
 |some ⟨none,.one ⟨false,[.ref 0]⟩⟩=>
 (match s.look 1 with
 |some ⟨none,.one ⟨false,[.ref 1]⟩⟩=>
 (match s.ent 0 with
 |some (.row false 172 (.pair (.int .i64) (.pair (.int .i64) (.int .i64))) y1)=>
 (match s.ent 1 with
 |some (.row false 172 (.pair (.int .i64) (.pair (.int .i64) (.int .i64))) y2)=>
 some (y0,y1,y2)
 |_=>none)
 |_=>none)
 |_=>none)
 |_=>none)
 |_=>none)
def cI:Lp hY where
 h:=⟨[11,12,13,14,17,18,19,20,21,22,23,24,25,26,4,15,16,5],[0,1],[],[]⟩
 JL:=TG
 JE:=TD
 XL:=TN
 XE:=TJ
 q:=fun j=>match j with | 0=> .ret | _=> .exit 0
 tags:= [0,1]
 lt:=tJ
 fuel:=fun(y0,y1,y2)=>y0.natAbs + y1.length + y2.length
 fix:=fun(_,y1,y2) (y0,_,_)=>(y0,y1,y2)
 σ:= [(0,0),(1,1)]
 rd:=EG
theorem RW:LoopOk prog (fun k=>Nat.blt k Tryz.f103.ntmps) cI.F (aS f103 0):=by
 refine Lp.ok (tbl:= [QS]) (lf:= []) aQ cI (by kernel_rfl) (LOk.nil _) (fun _=>rfl) (fun j _=>by unfold cI;match j with | 0=>rfl | _ + 1=>rfl) ?_ ?_ ?_ ?_ (fun _=>rfl) ?_
 ·rintro⟨y0,y1,y2⟩;kernel_rfl
 ·rintro⟨y0,y1,y2⟩;kernel_rfl
 ·intro s x h
  have h:EG s=some x:=h
  unfold EG at h
  repeat' split at h
  all_goals cases h
  exact⟨aa (by assumption) rfl (aa (by assumption) rfl (aa (by assumption) rfl (rfl))),ab rfl (by assumption) rfl (ab rfl (by assumption) rfl (rfl))⟩
 ·rintro⟨y0,y1,y2⟩;kernel_rfl
 ·rintro⟨y0,y1,y2⟩ z;exact(And.intro (And.intro trivial rfl) trivial)
section
variable (x0 x1:List (Int×Int×Int))
def CJ:Bool:=(↑x0.length:Int)!=(↑x1.length:Int)
def CL:Int×List (Int×Int×Int)×List (Int×Int×Int):=((0:Int),x0,x1)
def Dv:Bool:=bif CJ x0 x1 then false else bif Nat.beq ((Lp.res cI (CL x0 x1)).1) (0:Nat)then false else true
def Dw:Bool:=allT [CJ x0 x1||Lp.fin cI (CL x0 x1)]
end
def PJ:List SV→List Entry→Option Out
 | [.one ⟨false,[.ref 0]⟩,.one ⟨false,[.ref 1]⟩],[.row false 172 (.pair (.int .i64) (.pair (.int .i64) (.int .i64))) x0,.row false 172 (.pair (.int .i64) (.pair (.int .i64) (.int .i64))) x1]=>some ⟨.one ⟨false,[.val (.bool (Dv x0 x1))]⟩,[.row false 172 aaK x0,.row false 172 aaK x1],[],[Dw x0 x1]⟩
 |_,_=>none
def Zx:PF prog:=PF.ofG prog [QS] [cI.F] aQ 103 f103 func103 (LOk.fnT (l:= [aS f103 0]) (by kernel_rfl) (.cons RW (.nil _))) PJ (by
 intro vs es r h;unfold PJ at h;split at h
 ·cases h;kernel_rfl
 ·cases h)
abbrev eZ:=Int×Int×List (Int×(Int×Int))
section
variable (y0 y1:Int)(y2:List (Int×(Int×Int)))
def oo:Int×Int:=(Option.getD y2[Int.toNat y0]? ((0:Int),(0:Int),(0:Int))).2
def iV:List (Int×Int×Int):=List.set y2 y0.toNat (y1,(oo y0 y2).1,(oo y0 y2).2)
def oq:Int×Int×Int:=Option.getD (iV y0 y1 y2)[Int.toNat y0]? ((0:Int),(0:Int),(0:Int))
def ot:Int:=IntKind.wrap .i64 (y1 + (1:Int))
def iW:List (Int×Int×Int):=List.set (iV y0 y1 y2) y0.toNat ((oq y0 y1 y2).1,ot y1,(oq y0 y1 y2).2.2)
def ov:Int:=IntKind.wrap .i64 (ot y1 + (1:Int))
def ow:Int×Int×Int:=Option.getD (iW y0 y1 y2)[Int.toNat y0]? ((0:Int),(0:Int),(0:Int))
def pu:Bool:=ltI y0 (↑y2.length:Int)
def mj:Bool:=leI (0:Int) y0
def sL:Bool:=ltN y0.toNat y2.length
def sM:Bool:=ltI y0 (↑(List.length (iV y0 y1 y2)):Int)
def sN:Bool:=ltN y0.toNat (List.length (iV y0 y1 y2))
def sO:Bool:=ltI y0 (↑(List.length (iW y0 y1 y2)):Int)
def sP:Bool:=ltN y0.toNat (List.length (iW y0 y1 y2))
def sQ:Int:=IntKind.wrap .i64 (y0 + (1:Int))
def sR:Int:=IntKind.wrap .i64 (ov y1 + (1:Int))
def sS:List (Int×(Int×Int)):=List.set (iW y0 y1 y2) y0.toNat ((ow y0 y1 y2).1,((ow y0 y1 y2).2).1,ov y1)
end
def Rt:eZ→List (Nat×SV)
 |(y0,y1,_)=> [(5,(.one ⟨false,[.val (.int .i64 y0)]⟩)),(0,(.one ⟨false,[.ref 0]⟩)),(1,(.one ⟨false,[.val (.int .i64 y1)]⟩))]
def Rr:eZ→List (Nat×Entry)
 |(_,_,y2)=> [(0,(.row true 172 aaK y2))]
def Ry:Nat→eZ→List (Nat×SV)
 |_,(_,y1,_)=> [(1,(.one ⟨false,[.val (.int .i64 y1)]⟩))]
def Rw:Nat→eZ→List (Nat×Entry)
 |_,(_,_,y2)=> [(0,(.row true 172 aaK y2))]
def rm:eZ→LT eZ
 |(y0,y1,y2)=> .ite (pu y0 y2) (.need [mj y0,pu y0 y2,sL y0 y2] (.need [mj y0,sM y0 y1 y2,sN y0 y1 y2] (.need [mj y0,sO y0 y1 y2,sP y0 y1 y2] (.nrm ((sQ y0),sR y1,(sS y0 y1 y2)) [(0,0)])))) (.ext 0 [(0,0)])
def Cg(s:St):Option eZ:=
 (match s.look 5 with
 |some ⟨none,.one ⟨false,[.val (.int .i64 y0)]⟩⟩=>
 (match s.look 0 with
 |some ⟨none,.one ⟨false,[.ref 0]⟩⟩=>
 (match s.look 1 with
 |some ⟨none,.one ⟨false,[.val (.int .i64 y1)]⟩⟩=>
 (match s.ent 0 with
 |some (.row true 172 (.pair (.int .i64) (.pair (.int .i64) (.int .i64))) y2)=>
 some (y0,y1,y2)
 |_=>none)
 |_=>none)
 |_=>none)
 |_=>none)
def cD:Lp eZ where
 h:=⟨[6,7,8,9,12,13,14,15,16,17,18,1,19,20,21,22,23,24,25,26,27,28,29,30,31,32,10,11,5],[0],[],[]⟩
 JL:=Rt
 JE:=Rr
 XL:=Ry
 XE:=Rw
 q:=fun j=>match j with | _=> .exit 0
 tags:= [0]
 lt:=rm
 fuel:=fun(y0,y1,y2)=>y0.natAbs + y1.natAbs + y2.length
 fix:=fun(_,_,_) (y0,y1,y2)=>(y0,y1,y2)
 σ:= [(0,0)]
 rd:=Cg
theorem Qo:LoopOk prog (fun k=>Nat.blt k Tryz.f104.ntmps) cD.F (aS f104 0):=by
 refine Lp.ok (tbl:= []) (lf:= []) aQ cD (by kernel_rfl) (LOk.nil _) (fun _=>rfl) (fun _ _=>rfl) ?_ ?_ ?_ ?_ (fun _=>rfl) ?_
 ·rintro⟨y0,y1,y2⟩;kernel_rfl
 ·rintro⟨y0,y1,y2⟩;kernel_rfl
 ·intro s x h
  have h:Cg s=some x:=h
  unfold Cg at h
  repeat' split at h
  all_goals cases h
  exact⟨aa (by assumption) rfl (aa (by assumption) rfl (aa (by assumption) rfl (rfl))),ab rfl (by assumption) rfl (rfl)⟩
 ·rintro⟨y0,y1,y2⟩;kernel_rfl
 ·rintro⟨y0,y1,y2⟩ z;exact(And.intro rfl trivial)
section
variable (x0:Int)(x1:List (Int×Int×Int))
def uM:Int×Int×List (Int×Int×Int):=((0:Int),x0,x1)
def zB:Int×List (Int×Int×Int):=(Lp.res cD (uM x0 x1)).2.2
def GD:Int:=(zB x0 x1).1
def GE:List (Int×(Int×Int)):=(zB x0 x1).2
def GF:Bool:=allT [Lp.fin cD (uM x0 x1)]
end
def Nx:List SV→List Entry→Option Out
 | [.one ⟨false,[.ref 0]⟩,.one ⟨false,[.val (.int .i64 x0)]⟩],[.row true 172 (.pair (.int .i64) (.pair (.int .i64) (.int .i64))) x1]=>some ⟨.one ⟨false,[.val (.int .i64 (GD x0 x1))]⟩,[.row true 172 aaK (GE x0 x1)],[],[GF x0 x1]⟩
 |_,_=>none
def VX:PF prog:=PF.ofG prog [] [cD.F] aQ 104 f104 func104 (LOk.fnT (l:= [aS f104 0]) (by kernel_rfl) (.cons Qo (.nil _))) Nx (by
 intro vs es r h;unfold Nx at h;split at h
 ·cases h;kernel_rfl
 ·cases h)
abbrev eY:=Int×Int×List (Int×(Int×Int))
section
variable (y0 y1:Int)(y2:List (Int×(Int×Int)))
def lb:Int×Int×Int:=Option.getD y2[Int.toNat y0]? ((0:Int),(0:Int),(0:Int))
def ol:Int:=IntKind.wrap .i64 (y1 + (1:Int))
def om:Int:=IntKind.wrap .i64 (ol y1 + (1:Int))
def jR:Bool:=ltI y0 (↑y2.length:Int)
def mh:Bool:=leI (0:Int) y0
def mi:Bool:=ltN y0.toNat y2.length
def sG:Bool:=(lb y0 y2).1!=y1
end
def fb:Int:=(-1:Int)
section
variable (y0 y1:Int)(y2:List (Int×(Int×Int)))
def sH:Bool:=((lb y0 y2).2).1!=ol y1
def sI:Bool:=(lb y0 y2).2.2!=om y1
def sJ:Int:=IntKind.wrap .i64 (y0 + (1:Int))
def sK:Int:=IntKind.wrap .i64 (om y1 + (1:Int))
end
def Rs:eY→List (Nat×SV)
 |(y0,y1,_)=> [(5,(.one ⟨false,[.val (.int .i64 y0)]⟩)),(0,(.one ⟨false,[.ref 0]⟩)),(1,(.one ⟨false,[.val (.int .i64 y1)]⟩))]
def Rq:eY→List (Nat×Entry)
 |(_,_,y2)=> [(0,(.row false 172 aaK y2))]
def Rx:Nat→eY→List (Nat×SV)
 |0,(_,_,_)=> [(4,(.one ⟨false,[.val (.int .i64 (fb))]⟩))]
 |1,(_,_,_)=> [(4,(.one ⟨false,[.val (.int .i64 (fb))]⟩))]
 |2,(_,_,_)=> [(4,(.one ⟨false,[.val (.int .i64 (fb))]⟩))]
 |_,(_,y1,_)=> [(1,(.one ⟨false,[.val (.int .i64 y1)]⟩))]
def Rv:Nat→eY→List (Nat×Entry)
 |0,(_,_,y2)=> [(0,(.row false 172 aaK y2))]
 |1,(_,_,y2)=> [(0,(.row false 172 aaK y2))]
 |2,(_,_,y2)=> [(0,(.row false 172 aaK y2))]
 |_,(_,_,y2)=> [(0,(.row false 172 aaK y2))]
def rl:eY→LT eY
 |(y0,y1,y2)=> .ite (jR y0 y2) (.need [mh y0,jR y0 y2,mi y0 y2] (.ite (sG y0 y1 y2) (.ext 0 [(0,0)]) (.need [mh y0,jR y0 y2,mi y0 y2] (.ite (sH y0 y1 y2) (.ext 1 [(0,0)]) (.need [mh y0,jR y0 y2,mi y0 y2] (.ite (sI y0 y1 y2) (.ext 2 [(0,0)]) (.nrm ((sJ y0),sK y1,y2) [(0,0)]))))))) (.ext 3 [(0,0)])
def Cf(s:St):Option eY:=
 (match s.look 5 with
 |some ⟨none,.one ⟨false,[.val (.int .i64 y0)]⟩⟩=>
 (match s.look 0 with
 |some ⟨none,.one ⟨false,[.ref 0]⟩⟩=>
 (match s.look 1 with
 |some ⟨none,.one ⟨false,[.val (.int .i64 y1)]⟩⟩=>
 (match s.ent 0 with
 |some (.row false 172 (.pair (.int .i64) (.pair (.int .i64) (.int .i64))) y2)=>
 some (y0,y1,y2)
 |_=>none)
 |_=>none)
 |_=>none)
 |_=>none)
def bm:Lp eY where
 h:=⟨[6,7,8,9,12,13,14,15,16,17,18,4,19,20,1,21,22,23,24,25,26,27,28,29,30,31,32,33,34,35,36,37,38,10,11,5],[0],[],[]⟩
 JL:=Rs
 JE:=Rq
 XL:=Rx
 XE:=Rv
 q:=fun j=>match j with | 0=> .ret | 1=> .ret | 2=> .ret | _=> .exit 0
 tags:= [0,1,2,3]
 lt:=rl
 fuel:=fun(y0,y1,y2)=>y0.natAbs + y1.natAbs + y2.length
 fix:=fun(_,_,y2) (y0,y1,_)=>(y0,y1,y2)
 σ:= [(0,0)]
 rd:=Cf
theorem Qn:LoopOk prog (fun k=>Nat.blt k Tryz.f105.ntmps) bm.F (aS f105 0):=by
 refine Lp.ok (tbl:= []) (lf:= []) aQ bm (by kernel_rfl) (LOk.nil _) (fun _=>rfl) (fun j _=>by unfold bm;match j with | 0=>rfl | 1=>rfl | 2=>rfl | _ + 3=>rfl) ?_ ?_ ?_ ?_ (fun _=>rfl) ?_
 ·rintro⟨y0,y1,y2⟩;kernel_rfl
 ·rintro⟨y0,y1,y2⟩;kernel_rfl
 ·intro s x h
  have h:Cf s=some x:=h
  unfold Cf at h
  repeat' split at h
  all_goals cases h
  exact⟨aa (by assumption) rfl (aa (by assumption) rfl (aa (by assumption) rfl (rfl))),ab rfl (by assumption) rfl (rfl)⟩
 ·rintro⟨y0,y1,y2⟩;kernel_rfl
 ·rintro⟨y0,y1,y2⟩ z;exact(And.intro (And.intro trivial (And.intro trivial (And.intro trivial rfl))) trivial)
section
variable (x0:Int)(x1:List (Int×Int×Int))
def oj:Int×Int×List (Int×Int×Int):=((0:Int),x0,x1)
def AZ:Int:=bif Nat.beq ((Lp.res bm (oj x0 x1)).1) (0:Nat)then fb else bif Nat.beq ((Lp.res bm (oj x0 x1)).1) (1:Nat)then fb else bif Nat.beq ((Lp.res bm (oj x0 x1)).1) (2:Nat)then fb else ((Lp.res bm (oj x0 x1)).2.2).1
def GC:Bool:=allT [Lp.fin bm (oj x0 x1)]
end
def Nw:List SV→List Entry→Option Out
 | [.one ⟨false,[.ref 0]⟩,.one ⟨false,[.val (.int .i64 x0)]⟩],[.row false 172 (.pair (.int .i64) (.pair (.int .i64) (.int .i64))) x1]=>some ⟨.one ⟨false,[.val (.int .i64 (AZ x0 x1))]⟩,[.row false 172 aaK x1],[],[GC x0 x1]⟩
 |_,_=>none
def VW:PF prog:=PF.ofG prog [] [bm.F] aQ 105 f105 func105 (LOk.fnT (l:= [aS f105 0]) (by kernel_rfl) (.cons Qn (.nil _))) Nw (by
 intro vs es r h;unfold Nw at h;split at h
 ·cases h;kernel_rfl
 ·cases h)
abbrev BS:=Int×Int×Int
def WL(k n:Int)(l:List Int)(s:BS):BS:=(io k n s.1 s.2.1 s.2.2 l,ip k s.2.1 s.2.2 l,iq k n s.1 s.2.2 l)
def aoA(k n:Int)(l:List Int)(s:BS):Int:=gz k n s.1 s.2.1 s.2.2 l
theorem anN{k n a b c:Int}{s:ByteArray}{l:List Int}(hB:VB k s n=true)(hP:possB k n a b c=true)(hA:bitsB (takesK k) l=true):
  (Bc k n a b c l,Bd k b c l,Be k n a b c l)=WL k n l (a,b,c)∧possB k n (WL k n l (a,b,c)).1 (WL k n l (a,b,c)).2.1 (WL k n l (a,b,c)).2.2=true:=by
 obtain⟨_,e1,e2,e3,_,_,e6⟩:=ajB hB hP hA
 exact⟨by rw [e1,e2,e3];rfl,e6⟩
theorem Lp.inv{X:Type}(p:Lp X)(I Q:Nat→X→Prop)
  (hs: ∀ k x,I (k + 1) x→(∃ j,(p.lt x).out=some (.inl j)∧Q j x)∨ ∃ y,(p.lt x).out=some (.inr y)∧I k y)
  (he: ∀ x,I 0 x→ ∃ j,(p.lt x).out=some (.inl j)∧Q j x) (N:Nat) (x:X) (hN:N≤999) (h:I N x):
  p.fin x=true∧ ∃ j y,p.res x=(j,y)∧Q j y:=by
 have jT: ∀ (k:Nat) (x:X),I k x→ ∃ j y,OI p.lt (k + 1) x=some (j,y)∧Q j y:=by
  intro k
  induction k with
  |zero=>
   intro x h
   obtain⟨j,h1,h2⟩:=he x h
   exact⟨j,x,ad5 _ h1,h2⟩
  |succ k ih=>
   intro x h
   rcases hs k x h with⟨j,h1,h2⟩ | ⟨y,h1,h2⟩
   ·exact⟨j,x,ad5 _ h1,h2⟩
   ·obtain⟨j,z,h3,h4⟩:=ih y h2
    exact⟨j,z,by rw [aiG _ h1];exact h3,h4⟩
 obtain⟨j,y,h1,h2⟩:=jT N x h
 obtain⟨r1,r2⟩:=p.run h1 (anA (by omega))
 exact⟨r1,j,y,r2,h2⟩
abbrev TM:=Int×ByteArray×Int
theorem ajQ{a b:ByteArray}:a.toList=b.toList↔a=b:=by
 constructor
 ·intro h
  rw [Go.Lib.toList_data,Go.Lib.toList_data]at h
  exact ByteArray.ext (Array.toList_inj.1 h)
 ·intro h;rw [h]
theorem alF(N:Nat)(hN:N≤20)(k:Int)(h0:0≤k)(hm:k≤9223372036854775807)(hk:k < 10 ^ N)(s:ByteArray)(hs:s.size=0):
  kb.fin (k,s)=true∧ ∃ j r,kb.res (k,s)=(j,r)∧r.2.size≤20:=by
 refine kb.inv (fun m x=>(0≤x.1∧x.1 < 10 ^ m)∧(m≤N∧x.1≤9223372036854775807)∧x.2.size≤N - m) (fun _ r=>r.2.size≤20) (fun m x hx=> ?_) (fun x hx=> ?_) N _ (by omega) ⟨⟨h0,hk⟩,⟨Nat.le_refl _,hm⟩,by simp only;omega⟩
 ·obtain⟨y0,y1⟩:=x
  obtain⟨⟨h1,h2⟩,⟨hm,hm2⟩,hl⟩:=hx
  simp only at h1 h2 hl hm2
  by_cases hz:0 < y0
  ·refine .inr ⟨(Int.tdiv y0 10,qm y0++y1),?_,⟨?_,?_⟩,⟨by omega,?_⟩,?_⟩
   ·have t1:ltI 0 y0=true:=eQ hz
    have JT:(qm y0).size=1:=by simp [qm,strOfNums_size]
    have t2:leN ((qm y0).size + y1.size) 9223372036854775807=true:=dx (by omega)
    have hw:IntKind.i64.wrap (Int.tdiv y0 10)=Int.tdiv y0 10:=by
     rw [Int.tdiv_eq_ediv_of_nonneg h1];exact aT (by omega) (by omega)
    simp only [kb,EX,LT.out,GI,Me,RO,RP,RQ,t1,t2,hw,allT,cond_true]
    rfl
   ·simp only;rw [Int.tdiv_eq_ediv_of_nonneg h1];omega
   ·simp only;rw [Int.tdiv_eq_ediv_of_nonneg h1]
    rw [Int.pow_succ]at h2;omega
   ·simp only;rw [Int.tdiv_eq_ediv_of_nonneg h1];omega
   ·have JT:(qm y0).size=1:=by simp [qm,strOfNums_size]
    simp only [ByteArray.size_append,JT];omega
  ·refine .inl ⟨0,?_,by simp only;omega⟩
   simp [kb,EX,LT.out,GI,show ltI 0 y0=false from Na (by omega)]
 ·obtain⟨y0,y1⟩:=x
  obtain⟨⟨h1,h2⟩,⟨hm,hm2⟩,hl⟩:=hx
  simp only at h1 h2 hl hm2
  have:y0=0:=by simp at h2;omega
  subst this
  exact⟨0,by simp [kb,EX,LT.out,GI],by simp only;omega⟩
theorem akp(k:Int)(h:(leI 0 k&&leI k 9223372036854775807)=true):Hj k=true:=by
 simp only [Bool.and_eq_true,Ee]at h
 obtain⟨w1,j,r,w2,w3⟩:=alF 20 (by omega) k h.1 h.2 (by omega) ⟨#[]⟩ rfl
 simp only [Hj,OZ,w1,w2,allT,Bool.or_true,cond_true,Bool.or_eq_true]
 have:leN (ByteArray.size ⟨#[109]⟩ + r.2.size) 9223372036854775807=true:=dx (by have:(ByteArray.size ⟨#[109]⟩)=1:=rfl;omega)
 simp [this]
def WC:List SV→List Entry→Option Out
 | [.one ⟨false,[.val (.int .i64 x0)]⟩],[]=>some ⟨.one ⟨false,[.val (.string (nS x0))]⟩,[],[],[leI 0 x0&&leI x0 9223372036854775807]⟩
 |_,_=>none
def LL:PF prog:=PF.alt Qt WC (by
 intro args es o h da;unfold WC at h;split at h
 ·rename_i x0
  cases h
  have da:=pb da
  have hh:=akp x0 da
  have en:=hh
  exact tU rfl (pc en) rfl rfl rfl
 ·cases h)
def ah8:List TM→Nat
 | []=>0
 |t::r=>t.2.1.size + ah8 r
def amI(xs ys:List (Int×ByteArray×Int)):Bool:=decide (xs=ys)
theorem amJ(xs:List (Int×ByteArray×Int)):amI xs xs=true:=by simp [amI]
def vH(y1:List (Int×(ByteArray×Int)))(b:Nat):(List (Int×(ByteArray×Int)))→Nat ⊕ (List (Int×(ByteArray×Int)))
 |y2=>(.inr (List.set y2 b ((Option.getD y1[b]? ((0:Int),ByteArray.empty,(0:Int))).1,((Option.getD y1[b]? ((0:Int),ByteArray.empty,(0:Int))).2).1,(Option.getD y1[b]? ((0:Int),ByteArray.empty,(0:Int))).2.2)))
def rQ(y1:List (Int×(ByteArray×Int)))(i:Nat):(List (Int×(ByteArray×Int)))→oR
 |y2=>((i:Int),y1,y2)
def Mo:oR→List (Int×(ByteArray×Int))
 |(_,_,y2)=>y2
theorem aen(y1 y2:List (Int×(ByteArray×Int)))(hn:y1.length≤9223372036854775807)(hl:y2.length=y1.length):
  iw.fin ((0:Int),y1,y2)=true∧iw.res ((0:Int),y1,y2)=((aq (vH y1) 0 (List.range y1.length) 0 y2).1,(rQ y1) (aq (vH y1) 0 (List.range y1.length) 0 y2).2.1 (aq (vH y1) 0 (List.range y1.length) 0 y2).2.2):=by
 have jT:=iw.along (rQ y1) Mo (vH y1) 0 (fun _ a=>a.length=y1.length) (List.range y1.length) y2 hl (by simp only [iw,rQ,List.length_range];omega) (fun i b a hb hI=> ?_) (fun a hI=> ?_)
 ·exact jT
 ·obtain y2:=a
  obtain⟨rfl,fa⟩:=oJ hb
  have hw:IntKind.i64.wrap ((b:Int) + 1)=((b + 1:Nat):Int):=by rw [aT (by omega) (by omega)];omega
  have cq:ltI (b:Int) (y1.length:Int)=true:=eQ (by omega)
  have xl:leI (0:Int) (b:Int)=true:=cw (by omega)
  have iU:ltN b y1.length=true:=ib (by omega)
  refine⟨?_,?_,?_,?_⟩
  ·simp [ua,zK,zL,DZ,Ea,Eb,Ec,Ed,BW,iw,LT.nds,allT,rQ,cq,xl,iU,hI]
  ·simp [ua,zK,zL,DZ,Ea,Eb,Ec,Ed,BW,iw,LT.each,rQ,Mo,hw,hI]
  ·simp only [ua,zK,zL,DZ,Ea,Eb,Ec,Ed,BW,iw,LT.fn,rQ,Mo,vH,Int.toNat_natCast,cq,cond_true]
  ·intro a' hf;simp only [vH,Sum.inr.injEq]at hf;subst hf;simpa using hI
 ·obtain y2:=a
  simp [ua,zK,zL,DZ,Ea,Eb,Ec,Ed,BW,iw,LT.out,rQ,List.length_range]
def zo(y1 y2:List (Int×(ByteArray×Int)))(b:Nat):(Unit)→Nat ⊕ (Unit)
 |_=>(bif(!Lk ((Option.getD y1[b]? ((0:Int),ByteArray.empty,(0:Int))).1) (((Option.getD y1[b]? ((0:Int),ByteArray.empty,(0:Int))).2).1) ((Option.getD y1[b]? ((0:Int),ByteArray.empty,(0:Int))).2.2) ((Option.getD y2[b]? ((0:Int),ByteArray.empty,(0:Int))).1) (((Option.getD y2[b]? ((0:Int),ByteArray.empty,(0:Int))).2).1) ((Option.getD y2[b]? ((0:Int),ByteArray.empty,(0:Int))).2.2))then(.inl 0)else(.inr ()))
def ur(y1 y2:List (Int×(ByteArray×Int)))(i:Nat):(Unit)→oN
 |_=>((i:Int),y1,y2)
def Mk:oN→Unit
 |(_,_,_)=>()
theorem aej(y1 y2:List (Int×(ByteArray×Int))) (hn:y1.length≤9223372036854775807) (he:y2.length=y1.length):
  gt.fin ((0:Int),y1,y2)=true∧gt.res ((0:Int),y1,y2)=((aq (zo y1 y2) 1 (List.range y1.length) 0 ()).1,(ur y1 y2) (aq (zo y1 y2) 1 (List.range y1.length) 0 ()).2.1 (aq (zo y1 y2) 1 (List.range y1.length) 0 ()).2.2):=by
 have jT:=gt.along (ur y1 y2) Mk (zo y1 y2) 1 (fun _ _=>True) (List.range y1.length) () (by trivial) (by simp only [gt,ur,List.length_range];omega) (fun i b a hb hI=> ?_) (fun a hI=> ?_)
 ·exact jT
 ·obtain⟨⟩:=a
  obtain⟨rfl,fa⟩:=oJ hb
  have hw:IntKind.i64.wrap ((b:Int) + 1)=((b + 1:Nat):Int):=by rw [aT (by omega) (by omega)];omega
  have cq:ltI (b:Int) (y1.length:Int)=true:=eQ (by omega)
  have xl:leI (0:Int) (b:Int)=true:=cw (by omega)
  have iU:ltN b y1.length=true:=ib (by omega)
  refine⟨?_,?_,?_,?_⟩
  ·simp [tX,tY,zy,zA,DB,DC,DD,DE,DF,BR,gt,LT.nds,allT,ur,cq,xl,iU,he]
  ·simp [tX,tY,zy,zA,DB,DC,DD,DE,DF,BR,gt,LT.each,ur,Mk,hw,he]
  ·simp only [tX,tY,zy,zA,DB,DC,DD,DE,DF,BR,gt,LT.fn,ur,Mk,zo,Int.toNat_natCast,cq,cond_true]
  ·exact fun _ _=>trivial
 ·obtain⟨⟩:=a
  simp [tX,tY,zy,zA,DB,DC,DD,DE,DF,BR,gt,LT.out,ur,List.length_range]
theorem al8(xs:List (Int×ByteArray×Int))(hn:leN xs.length 1048576=true):NS xs=xs∧NT xs=true:=by
 have hn:=fQ.1 hn
 have hr:(List.replicate (Int.toNat (xs.length:Int)) ((0:Int),(⟨#[]⟩:ByteArray),(0:Int))).length=xs.length:=by simp
 obtain⟨w1,w2⟩:=aen xs (List.replicate (Int.toNat (xs.length:Int)) ((0:Int),(⟨#[]⟩:ByteArray),(0:Int))) (by omega) hr
 have hc:=Vk (xs:=xs) (d:=((0:Int),(⟨#[]⟩:ByteArray),(0:Int))) (g:=fun x=>x) (f:=vH xs) (e:=0) (fun b a=>rfl) hr
 rw [hc]at w2
 refine⟨?_,?_⟩
 ·simp only [LJ,NS,NT,w2,rQ];simp
 ·simp only [LJ,NS,NT,w1,allT];simp;omega
def Yt:List SV→List Entry→Option Out
 | [.one ⟨false,[.ref 0]⟩],[.row false 175 (.pair (.int .i64) (.pair (.str) (.int .i64))) x0]=>some ⟨.one ⟨false,[.ref 1]⟩,[.row false 175 aeH x0],[.row true 178 aeH x0],[leN x0.length 1048576]⟩
 |_,_=>none
def Sf:PF prog:=PF.alt ahi Yt (by
 intro args es o h da;unfold Yt at h;split at h
 ·rename_i x0
  cases h
  have da:=pb da
  have hh:=al8 x0 da
  obtain⟨e0,en⟩:=hh
  exact tU rfl (pc en) rfl rfl (by simp only [e0] <;> rfl)
 ·cases h)
theorem aln(xs ys:List (Int×ByteArray×Int))(hn:leN xs.length 9223372036854775807=true):NM xs ys=amI xs ys∧NN xs ys=true:=by
 have hn:=fQ.1 hn
 unfold amI
 have h3: ∀ a b:Int×ByteArray×Int,(!Lk a.1 a.2.1 a.2.2 b.1 b.2.1 b.2.2)= !decide (a=b):=fun a b=>by
  obtain⟨a1,a2,a3⟩:=a;obtain⟨b1,b2,b3⟩:=b
  simp only [Lk,Prod.mk.injEq]
  by_cases h1:a1=b1 <;> by_cases h2:a2=b2 <;> by_cases h3:a3=b3 <;> simp [h1,h2,h3,ajQ]
 by_cases hl:ys.length=xs.length
 ·obtain⟨w1,w2⟩:=aej xs ys hn hl
  have ha:=aiW (d:=((0:Int),ByteArray.empty,(0:Int))) hl (P:=fun b=> !decide (Option.getD xs[b]? ((0:Int),ByteArray.empty,(0:Int))=Option.getD ys[b]? ((0:Int),ByteArray.empty,(0:Int)))) (fun b=>rfl)
  rw [iS (P:=fun b=> !decide (Option.getD xs[b]? ((0:Int),ByteArray.empty,(0:Int))=Option.getD ys[b]? ((0:Int),ByteArray.empty,(0:Int)))) (j:=0) (fun b=>by simp only [zo,h3]),ha]at w2
  simp only [LA,LB,NM,NN,w1,w2,allT]
  by_cases he:xs=ys
  ·subst he;simp;decide
  ·simp [he,hl]
 ·have PT:xs≠ys:=fun h=>hl (by rw [h])
  simp [LA,LB,NM,NN,allT,PT]
  omega
def Yr:List SV→List Entry→Option Out
 | [.one ⟨false,[.ref 0]⟩,.one ⟨false,[.ref 1]⟩],[.row false 178 (.pair (.int .i64) (.pair (.str) (.int .i64))) x0,.row false 178 (.pair (.int .i64) (.pair (.str) (.int .i64))) x1]=>some ⟨.one ⟨false,[.val (.bool (amI x0 x1))]⟩,[.row false 178 aeH x0,.row false 178 aeH x1],[],[leN x0.length 9223372036854775807]⟩
 |_,_=>none
def Sd:PF prog:=PF.alt ahg Yr (by
 intro args es o h da;unfold Yr at h;split at h
 ·rename_i x0 x1
  cases h
  have da:=pb da
  have hh:=aln x0 x1 da
  obtain⟨e0,en⟩:=hh
  exact tU rfl (pc en) (by simp only [e0] <;> rfl) rfl rfl
 ·cases h)
def amE(xs ys:List (Int×Int×Int)):Bool:=decide (xs=ys)
theorem aik(xs:List (Int×Int×Int)):amE xs xs=true:=by simp [amE]
def nU(y1:List (Int×(Int×Int)))(b:Nat):(List (Int×(Int×Int)))→Nat ⊕ (List (Int×(Int×Int)))
 |y2=>(.inr (List.set y2 b ((Option.getD y1[b]? ((0:Int),(0:Int),(0:Int))).1,((Option.getD y1[b]? ((0:Int),(0:Int),(0:Int))).2).1,(Option.getD y1[b]? ((0:Int),(0:Int),(0:Int))).2.2)))
def kJ(y1:List (Int×(Int×Int)))(i:Nat):(List (Int×(Int×Int)))→hZ
 |y2=>((i:Int),y1,y2)
def EF:hZ→List (Int×(Int×Int))
 |(_,_,y2)=>y2
theorem Vj(y1 y2:List (Int×(Int×Int)))(hn:y1.length≤9223372036854775807)(hl:y2.length=y1.length):
  df.fin ((0:Int),y1,y2)=true∧df.res ((0:Int),y1,y2)=((aq (nU y1) 0 (List.range y1.length) 0 y2).1,(kJ y1) (aq (nU y1) 0 (List.range y1.length) 0 y2).2.1 (aq (nU y1) 0 (List.range y1.length) 0 y2).2.2):=by
 have jT:=df.along (kJ y1) EF (nU y1) 0 (fun _ a=>a.length=y1.length) (List.range y1.length) y2 hl (by simp only [df,kJ,List.length_range];omega) (fun i b a hb hI=> ?_) (fun a hI=> ?_)
 ·exact jT
 ·obtain y2:=a
  obtain⟨rfl,fa⟩:=oJ hb
  have hw:IntKind.i64.wrap ((b:Int) + 1)=((b + 1:Nat):Int):=by rw [aT (by omega) (by omega)];omega
  have cq:ltI (b:Int) (y1.length:Int)=true:=eQ (by omega)
  have xl:leI (0:Int) (b:Int)=true:=cw (by omega)
  have iU:ltN b y1.length=true:=ib (by omega)
  refine⟨?_,?_,?_,?_⟩
  ·simp [na,qU,qV,uT,uU,uV,uW,uX,tK,df,LT.nds,allT,kJ,cq,xl,iU,hI]
  ·simp [na,qU,qV,uT,uU,uV,uW,uX,tK,df,LT.each,kJ,EF,hw,hI]
  ·simp only [na,qU,qV,uT,uU,uV,uW,uX,tK,df,LT.fn,kJ,EF,nU,Int.toNat_natCast,cq,cond_true]
  ·intro a' hf;simp only [nU,Sum.inr.injEq]at hf;subst hf;simpa using hI
 ·obtain y2:=a
  simp [na,qU,qV,uT,uU,uV,uW,uX,tK,df,LT.out,kJ,List.length_range]
def qR(y1 y2:List (Int×(Int×Int)))(b:Nat):(Unit)→Nat ⊕ (Unit)
 |_=>(bif(!zZ ((Option.getD y1[b]? ((0:Int),(0:Int),(0:Int))).1) (((Option.getD y1[b]? ((0:Int),(0:Int),(0:Int))).2).1) ((Option.getD y1[b]? ((0:Int),(0:Int),(0:Int))).2.2) ((Option.getD y2[b]? ((0:Int),(0:Int),(0:Int))).1) (((Option.getD y2[b]? ((0:Int),(0:Int),(0:Int))).2).1) ((Option.getD y2[b]? ((0:Int),(0:Int),(0:Int))).2.2))then(.inl 0)else(.inr ()))
def nc(y1 y2:List (Int×(Int×Int)))(i:Nat):(Unit)→hY
 |_=>((i:Int),y1,y2)
def EE:hY→Unit
 |(_,_,_)=>()
theorem Vi(y1 y2:List (Int×(Int×Int))) (hn:y1.length≤9223372036854775807) (he:y2.length=y1.length):
  cI.fin ((0:Int),y1,y2)=true∧cI.res ((0:Int),y1,y2)=((aq (qR y1 y2) 1 (List.range y1.length) 0 ()).1,(nc y1 y2) (aq (qR y1 y2) 1 (List.range y1.length) 0 ()).2.1 (aq (qR y1 y2) 1 (List.range y1.length) 0 ()).2.2):=by
 have jT:=cI.along (nc y1 y2) EE (qR y1 y2) 1 (fun _ _=>True) (List.range y1.length) () (by trivial) (by simp only [cI,nc,List.length_range];omega) (fun i b a hb hI=> ?_) (fun a hI=> ?_)
 ·exact jT
 ·obtain⟨⟩:=a
  obtain⟨rfl,fa⟩:=oJ hb
  have hw:IntKind.i64.wrap ((b:Int) + 1)=((b + 1:Nat):Int):=by rw [aT (by omega) (by omega)];omega
  have cq:ltI (b:Int) (y1.length:Int)=true:=eQ (by omega)
  have xl:leI (0:Int) (b:Int)=true:=cw (by omega)
  have iU:ltN b y1.length=true:=ib (by omega)
  refine⟨?_,?_,?_,?_⟩
  ·simp [mW,mX,qS,qT,uE,uF,uG,uH,uI,tJ,cI,LT.nds,allT,nc,cq,xl,iU,he]
  ·simp [mW,mX,qS,qT,uE,uF,uG,uH,uI,tJ,cI,LT.each,nc,EE,hw,he]
  ·simp only [mW,mX,qS,qT,uE,uF,uG,uH,uI,tJ,cI,LT.fn,nc,EE,qR,Int.toNat_natCast,cq,cond_true]
  ·exact fun _ _=>trivial
 ·obtain⟨⟩:=a
  simp [mW,mX,qS,qT,uE,uF,uG,uH,uI,tJ,cI,LT.out,nc,List.length_range]
theorem afi(xs:List (Int×Int×Int))(hn:leN xs.length 1048576=true):DU xs=xs∧DV xs=true:=by
 have hn:=fQ.1 hn
 have hr:(List.replicate (Int.toNat (xs.length:Int)) ((0:Int),(0:Int),(0:Int))).length=xs.length:=by simp
 obtain⟨w1,w2⟩:=Vj xs (List.replicate (Int.toNat (xs.length:Int)) ((0:Int),(0:Int),(0:Int))) (by omega) hr
 have hc:=Vk (xs:=xs) (d:=((0:Int),(0:Int),(0:Int))) (g:=fun x=>x) (f:=nU xs) (e:=0) (fun b a=>rfl) hr
 rw [hc]at w2
 refine⟨?_,?_⟩
 ·simp only [CN,DU,DV,w2,kJ];simp
 ·simp only [CN,DU,DV,w1,allT];simp;omega
def PP:List SV→List Entry→Option Out
 | [.one ⟨false,[.ref 0]⟩],[.row false 194 (.pair (.int .i64) (.pair (.int .i64) (.int .i64))) x0]=>some ⟨.one ⟨false,[.ref 1]⟩,[.row false 194 aaK x0],[.row true 172 aaK x0],[leN x0.length 1048576]⟩
 |_,_=>none
def Jt:PF prog:=PF.alt Zz PP (by
 intro args es o h da;unfold PP at h;split at h
 ·rename_i x0
  cases h
  have da:=pb da
  have hh:=afi x0 da
  obtain⟨e0,en⟩:=hh
  exact tU rfl (pc en) rfl rfl (by simp only [e0] <;> rfl)
 ·cases h)
theorem aeC(xs ys:List (Int×Int×Int))(hn:leN xs.length 9223372036854775807=true):Dv xs ys=amE xs ys∧Dw xs ys=true:=by
 have hn:=fQ.1 hn
 unfold amE
 have h3: ∀ a b:Int×Int×Int,(!zZ a.1 a.2.1 a.2.2 b.1 b.2.1 b.2.2)= !decide (a=b):=fun a b=>by
  obtain⟨a1,a2,a3⟩:=a;obtain⟨b1,b2,b3⟩:=b
  simp only [zZ,Prod.mk.injEq]
  by_cases h1:a1=b1 <;> by_cases h2:a2=b2 <;> by_cases h3:a3=b3 <;> simp [h1,h2,h3]
 by_cases hl:ys.length=xs.length
 ·obtain⟨w1,w2⟩:=Vi xs ys hn hl
  have ha:=aiW (d:=((0:Int),(0:Int),(0:Int))) hl (P:=fun b=> !decide (Option.getD xs[b]? ((0:Int),(0:Int),(0:Int))=Option.getD ys[b]? ((0:Int),(0:Int),(0:Int)))) (fun b=>rfl)
  rw [iS (P:=fun b=> !decide (Option.getD xs[b]? ((0:Int),(0:Int),(0:Int))=Option.getD ys[b]? ((0:Int),(0:Int),(0:Int)))) (j:=0) (fun b=>by simp only [qR,h3]),ha]at w2
  simp only [CJ,CL,Dv,Dw,w1,w2,allT]
  by_cases he:xs=ys
  ·subst he;simp;decide
  ·simp [he,hl]
 ·have PT:xs≠ys:=fun h=>hl (by rw [h])
  simp [CJ,CL,Dv,Dw,allT,PT]
  omega
def PN:List SV→List Entry→Option Out
 | [.one ⟨false,[.ref 0]⟩,.one ⟨false,[.ref 1]⟩],[.row false 172 (.pair (.int .i64) (.pair (.int .i64) (.int .i64))) x0,.row false 172 (.pair (.int .i64) (.pair (.int .i64) (.int .i64))) x1]=>some ⟨.one ⟨false,[.val (.bool (amE x0 x1))]⟩,[.row false 172 aaK x0,.row false 172 aaK x1],[],[leN x0.length 9223372036854775807]⟩
 |_,_=>none
def Jr:PF prog:=PF.alt Zx PN (by
 intro args es o h da;unfold PN at h;split at h
 ·rename_i x0 x1
  cases h
  have da:=pb da
  have hh:=aeC x0 x1 da
  obtain⟨e0,en⟩:=hh
  exact tU rfl (pc en) (by simp only [e0] <;> rfl) rfl rfl
 ·cases h)
def upG{α:Type}(d:Nat)(mk:Int→α)(k:Int)(n:Nat):List α:=(List.range n).map fun(i:Nat)=>mk (k + d * (i:Int))
theorem ahL{α:Type}(d:Nat)(mk:Int→α)(k:Int)(n:Nat):(upG d mk k n).length=n:=by simp [upG]
theorem akU{α:Type}(d:Nat)(mk:Int→α)(k:Int)(n:Nat):upG d mk k (n + 1)=mk k::upG d mk (k + d) n:=by
 unfold upG
 rw [List.range_succ_eq_map,List.map_cons,List.map_map]
 congr 1
 ·simp
 ·refine List.map_congr_left fun i _=> ?_
  simp only [Function.comp]
  congr 1
  simp [Int.mul_add];omega
theorem adl{α:Type}{d:Nat}{mk:Int→α}{f:Nat→Int×List α→Nat ⊕ (Int×List α)}{e:Nat}
  (hf: ∀ (b:Nat) (k:Int) (xs:List α),b < xs.length→0≤k→k + d≤9223372036854775807→f b (k,xs)= .inr (k + d,xs.set b (mk k))):
  ∀ (ys pre:List α) (k:Int),0≤k→k + d * (ys.length:Int)≤9223372036854775807→
   aq f e (List.range' pre.length ys.length) pre.length (k,pre++ys)=(e,pre.length + ys.length,(k + d * (ys.length:Int),pre++upG d mk k ys.length))
 | [],pre,k,_,_=>by simp [aq,upG]
 |y::ys,pre,k,h0,h1=>by
  have hd:(d:Int) * (((y::ys).length:Nat):Int)=d + d * (ys.length:Int):=by simp [Int.mul_add];omega
  rw [hd]at h1
  have hp:0≤(d:Int) * (ys.length:Int):=Int.mul_nonneg (by omega) (by omega)
  have hs:(pre++y::ys).set pre.length (mk k)=(pre++ [mk k])++ys:=by rw [List.set_append_right _ _ (Nat.le_refl _)];simp
  have ih:=adl (e:=e) hf ys (pre++ [mk k]) (k + d) (by omega) (by omega)
  rw [List.length_cons,List.range'_succ]
  simp only [aq,hf pre.length k (pre++y::ys) (by simp) h0 (by omega),hs]
  rw [List.length_append,List.length_singleton]at ih
  rw [ih,akU]
  simp [Int.mul_add]
  omega
theorem ahN{α:Type}{d:Nat}{mk:Int→α}{f:α→Int→Nat ⊕ Int}{e:Nat}(hf: ∀ (k:Int),0≤k→k + d≤9223372036854775807→f (mk k) k= .inr (k + d)):
  ∀ (n:Nat) (k:Int) (i:Nat),0≤k→k + d * (n:Int)≤9223372036854775807→aq f e (upG d mk k n) i k=(e,i + n,k + d * (n:Int))
 |0,k,i,_,_=>by simp [aq,upG]
 |n + 1,k,i,h0,h1=>by
  have hd:(d:Int) * ((n + 1:Nat):Int)=d + d * (n:Int):=by simp [Int.mul_add];omega
  rw [hd]at h1
  have hp:0≤(d:Int) * (n:Int):=Int.mul_nonneg (by omega) (by omega)
  rw [akU]
  simp only [aq,hf k h0 (by omega)]
  rw [ahN hf n (k + d) (i + 1) (by omega) (by omega),hd]
  simp only [Prod.mk.injEq,true_and]
  omega
def Zs(d:Nat)(k:Int)(n:Nat):Bool:=leI 0 k&&leI (k + d * (n:Int)) 9223372036854775807
theorem Rg{d:Nat}{k:Int}{n:Nat}:Zs d k n=true↔0≤k∧k + d * (n:Int)≤9223372036854775807:=by simp [Zs]
def jQ(b:Nat):(Int×List (Int×(Int×Int)))→Nat ⊕ (Int×List (Int×(Int×Int)))
 |(y1,y2)=>(.inr ((IntKind.wrap .i64 ((IntKind.wrap .i64 ((IntKind.wrap .i64 (y1 + (1:Int))) + (1:Int))) + (1:Int))),(List.set (List.set (List.set y2 b (y1,((Option.getD y2[b]? ((0:Int),(0:Int),(0:Int))).2).1,(Option.getD y2[b]? ((0:Int),(0:Int),(0:Int))).2.2)) b ((Option.getD (List.set y2 b (y1,((Option.getD y2[b]? ((0:Int),(0:Int),(0:Int))).2).1,(Option.getD y2[b]? ((0:Int),(0:Int),(0:Int))).2.2))[b]? ((0:Int),(0:Int),(0:Int))).1,IntKind.wrap .i64 (y1 + (1:Int)),(Option.getD (List.set y2 b (y1,((Option.getD y2[b]? ((0:Int),(0:Int),(0:Int))).2).1,(Option.getD y2[b]? ((0:Int),(0:Int),(0:Int))).2.2))[b]? ((0:Int),(0:Int),(0:Int))).2.2)) b ((Option.getD (List.set (List.set y2 b (y1,((Option.getD y2[b]? ((0:Int),(0:Int),(0:Int))).2).1,(Option.getD y2[b]? ((0:Int),(0:Int),(0:Int))).2.2)) b ((Option.getD (List.set y2 b (y1,((Option.getD y2[b]? ((0:Int),(0:Int),(0:Int))).2).1,(Option.getD y2[b]? ((0:Int),(0:Int),(0:Int))).2.2))[b]? ((0:Int),(0:Int),(0:Int))).1,IntKind.wrap .i64 (y1 + (1:Int)),(Option.getD (List.set y2 b (y1,((Option.getD y2[b]? ((0:Int),(0:Int),(0:Int))).2).1,(Option.getD y2[b]? ((0:Int),(0:Int),(0:Int))).2.2))[b]? ((0:Int),(0:Int),(0:Int))).2.2))[b]? ((0:Int),(0:Int),(0:Int))).1,((Option.getD (List.set (List.set y2 b (y1,((Option.getD y2[b]? ((0:Int),(0:Int),(0:Int))).2).1,(Option.getD y2[b]? ((0:Int),(0:Int),(0:Int))).2.2)) b ((Option.getD (List.set y2 b (y1,((Option.getD y2[b]? ((0:Int),(0:Int),(0:Int))).2).1,(Option.getD y2[b]? ((0:Int),(0:Int),(0:Int))).2.2))[b]? ((0:Int),(0:Int),(0:Int))).1,IntKind.wrap .i64 (y1 + (1:Int)),(Option.getD (List.set y2 b (y1,((Option.getD y2[b]? ((0:Int),(0:Int),(0:Int))).2).1,(Option.getD y2[b]? ((0:Int),(0:Int),(0:Int))).2.2))[b]? ((0:Int),(0:Int),(0:Int))).2.2))[b]? ((0:Int),(0:Int),(0:Int))).2).1,(IntKind.wrap .i64 ((IntKind.wrap .i64 (y1 + (1:Int))) + (1:Int)))))))
def gA(i:Nat):(Int×List (Int×(Int×Int)))→eZ
 |(y1,y2)=>((i:Int),y1,y2)
def Ce:eZ→Int×List (Int×(Int×Int))
 |(_,y1,y2)=>(y1,y2)
theorem SW(y1:Int)(y2:List (Int×(Int×Int)))(n:Nat)(hl:y2.length=n)(hn:n≤9223372036854775807):
  cD.fin ((0:Int),y1,y2)=true∧cD.res ((0:Int),y1,y2)=((aq (jQ) 0 (List.range n) 0 (y1,y2)).1,(gA) (aq (jQ) 0 (List.range n) 0 (y1,y2)).2.1 (aq (jQ) 0 (List.range n) 0 (y1,y2)).2.2):=by
 have jT:=cD.along (gA) Ce (jQ) 0 (fun _ a=>a.2.length=n) (List.range n) (y1,y2) hl (by simp only [cD,gA,List.length_range];omega) (fun i b a hb hI=> ?_) (fun a hI=> ?_)
 ·exact jT
 ·obtain⟨y1,y2⟩:=a
  obtain⟨rfl,fa⟩:=oJ hb
  have hI0:y2.length=n:=hI
  have hw:IntKind.i64.wrap ((b:Int) + 1)=((b + 1:Nat):Int):=by rw [aT (by omega) (by omega)];omega
  have cq:ltI (b:Int) (y2.length:Int)=true:=eQ (by omega)
  have xl:leI (0:Int) (b:Int)=true:=cw (by omega)
  have iU:ltN b y2.length=true:=ib (by omega)
  refine⟨?_,?_,?_,?_⟩
  ·simp [oo,iV,oq,ot,iW,ov,ow,pu,mj,sL,sM,sN,sO,sP,sQ,sR,sS,rm,cD,LT.nds,allT,gA,cq,xl,iU]
  ·simp [oo,iV,oq,ot,iW,ov,ow,pu,mj,sL,sM,sN,sO,sP,sQ,sR,sS,rm,cD,LT.each,gA,Ce,hw]
  ·simp only [oo,iV,oq,ot,iW,ov,ow,pu,mj,sL,sM,sN,sO,sP,sQ,sR,sS,rm,cD,LT.fn,gA,Ce,jQ,Int.toNat_natCast,cq,xl,iU,cond_true,Bool.cond_self]
  ·intro a' hf;simp only [jQ,Sum.inr.injEq]at hf;subst hf;simp [hI0]
 ·obtain⟨y1,y2⟩:=a
  have hI0:y2.length=n:=hI
  simp [oo,iV,oq,ot,iW,ov,ow,pu,mj,sL,sM,sN,sO,sP,sQ,sR,sS,rm,cD,LT.out,gA,hI0,List.length_range]
def mg(b:Int×(Int×Int)):(Int)→Nat ⊕ (Int)
 |y1=>(bif(b.1!=y1)then(.inl 0)else(bif(b.2.1!=(IntKind.wrap .i64 (y1 + (1:Int))))then(.inl 1)else(bif(b.2.2!=(IntKind.wrap .i64 ((IntKind.wrap .i64 (y1 + (1:Int))) + (1:Int))))then(.inl 2)else(.inr (IntKind.wrap .i64 ((IntKind.wrap .i64 ((IntKind.wrap .i64 (y1 + (1:Int))) + (1:Int))) + (1:Int)))))))
def jf(y2:List (Int×(Int×Int)))(i:Nat):(Int)→eY
 |y1=>((i:Int),y1,y2)
def Cd:eY→Int
 |(_,y1,_)=>y1
theorem KD(y2:List (Int×(Int×Int)))(y1:Int)(hn:y2.length≤9223372036854775807):
  bm.fin ((0:Int),y1,y2)=true∧bm.res ((0:Int),y1,y2)=((aq (mg) 3 y2 0 y1).1,(jf y2) (aq (mg) 3 y2 0 y1).2.1 (aq (mg) 3 y2 0 y1).2.2):=by
 have jT:=bm.along (jf y2) Cd (mg) 3 (fun _ _=>True) y2 y1 (by trivial) (by simp only [bm,jf];omega) (fun i b a hb hI=> ?_) (fun a hI=> ?_)
 ·exact jT
 ·obtain y1:=a
  have fa:=(List.getElem?_eq_some_iff.1 hb).1
  have jS: ∀ d,Option.getD y2[i]? d=b:=fun d=>by rw [hb];rfl
  have hw:=wM fa hn
  have cq:ltI (i:Int) (y2.length:Int)=true:=eQ (by omega)
  have xl:leI (0:Int) (i:Int)=true:=cw (by omega)
  have iU:ltN i y2.length=true:=ib fa
  refine⟨?_,?_,?_,?_⟩
  ·simp [lb,ol,om,jR,mh,mi,sG,fb,sH,sI,sJ,sK,rl,bm,LT.nds,allT,jf,cq,xl,iU,jS]
  ·simp [lb,ol,om,jR,mh,mi,sG,fb,sH,sI,sJ,sK,rl,bm,LT.each,jf,Cd,hw]
  ·simp only [lb,ol,om,jR,mh,mi,sG,fb,sH,sI,sJ,sK,rl,bm,LT.fn,jf,Cd,mg,Int.toNat_natCast,cq,xl,iU,jS,cond_true,Bool.cond_self]
  ·exact fun _ _=>trivial
 ·obtain y1:=a
  simp [lb,ol,om,jR,mh,mi,sG,fb,sH,sI,sJ,sK,rl,bm,LT.out,jf]
def qk(b:Nat):(Int×List (Int×(ByteArray×Int)))→Nat ⊕ (Int×List (Int×(ByteArray×Int)))
 |(y1,y2)=>(.inr ((IntKind.wrap .i64 ((IntKind.wrap .i64 ((IntKind.wrap .i64 (y1 + (1:Int))) + (1:Int))) + (1:Int))),(List.set (List.set (List.set y2 b (y1,((Option.getD y2[b]? ((0:Int),ByteArray.empty,(0:Int))).2).1,(Option.getD y2[b]? ((0:Int),ByteArray.empty,(0:Int))).2.2)) b ((Option.getD (List.set y2 b (y1,((Option.getD y2[b]? ((0:Int),ByteArray.empty,(0:Int))).2).1,(Option.getD y2[b]? ((0:Int),ByteArray.empty,(0:Int))).2.2))[b]? ((0:Int),ByteArray.empty,(0:Int))).1,nS (IntKind.wrap .i64 (y1 + (1:Int))),(Option.getD (List.set y2 b (y1,((Option.getD y2[b]? ((0:Int),ByteArray.empty,(0:Int))).2).1,(Option.getD y2[b]? ((0:Int),ByteArray.empty,(0:Int))).2.2))[b]? ((0:Int),ByteArray.empty,(0:Int))).2.2)) b ((Option.getD (List.set (List.set y2 b (y1,((Option.getD y2[b]? ((0:Int),ByteArray.empty,(0:Int))).2).1,(Option.getD y2[b]? ((0:Int),ByteArray.empty,(0:Int))).2.2)) b ((Option.getD (List.set y2 b (y1,((Option.getD y2[b]? ((0:Int),ByteArray.empty,(0:Int))).2).1,(Option.getD y2[b]? ((0:Int),ByteArray.empty,(0:Int))).2.2))[b]? ((0:Int),ByteArray.empty,(0:Int))).1,nS (IntKind.wrap .i64 (y1 + (1:Int))),(Option.getD (List.set y2 b (y1,((Option.getD y2[b]? ((0:Int),ByteArray.empty,(0:Int))).2).1,(Option.getD y2[b]? ((0:Int),ByteArray.empty,(0:Int))).2.2))[b]? ((0:Int),ByteArray.empty,(0:Int))).2.2))[b]? ((0:Int),ByteArray.empty,(0:Int))).1,((Option.getD (List.set (List.set y2 b (y1,((Option.getD y2[b]? ((0:Int),ByteArray.empty,(0:Int))).2).1,(Option.getD y2[b]? ((0:Int),ByteArray.empty,(0:Int))).2.2)) b ((Option.getD (List.set y2 b (y1,((Option.getD y2[b]? ((0:Int),ByteArray.empty,(0:Int))).2).1,(Option.getD y2[b]? ((0:Int),ByteArray.empty,(0:Int))).2.2))[b]? ((0:Int),ByteArray.empty,(0:Int))).1,nS (IntKind.wrap .i64 (y1 + (1:Int))),(Option.getD (List.set y2 b (y1,((Option.getD y2[b]? ((0:Int),ByteArray.empty,(0:Int))).2).1,(Option.getD y2[b]? ((0:Int),ByteArray.empty,(0:Int))).2.2))[b]? ((0:Int),ByteArray.empty,(0:Int))).2.2))[b]? ((0:Int),ByteArray.empty,(0:Int))).2).1,(IntKind.wrap .i64 ((IntKind.wrap .i64 (y1 + (1:Int))) + (1:Int)))))))
def po(i:Nat):(Int×List (Int×(ByteArray×Int)))→lI
 |(y1,y2)=>((i:Int),y1,y2)
def Jw:lI→Int×List (Int×(ByteArray×Int))
 |(_,y1,y2)=>(y1,y2)
theorem aaQ(y1:Int)(y2:List (Int×(ByteArray×Int)))(n:Nat)(hl:y2.length=n)(hn:n≤9223372036854775807)(h1:0≤y1)(h2:y1 + 3 * (n:Int)≤9223372036854775807):
  fk.fin ((0:Int),y1,y2)=true∧fk.res ((0:Int),y1,y2)=((aq (qk) 0 (List.range n) 0 (y1,y2)).1,(po) (aq (qk) 0 (List.range n) 0 (y1,y2)).2.1 (aq (qk) 0 (List.range n) 0 (y1,y2)).2.2):=by
 have jT:=fk.along (po) Jw (qk) 0 (fun i a=>a.2.length=n∧0≤a.1∧a.1 + 3 * ((n - i:Nat):Int)≤9223372036854775807) (List.range n) (y1,y2) ⟨hl,h1,by simpa using h2⟩ (by simp only [fk,po,List.length_range];omega) (fun i b a hb hI=> ?_) (fun a hI=> ?_)
 ·exact jT
 ·obtain⟨y1,y2⟩:=a
  obtain⟨rfl,fa⟩:=oJ hb
  have hI0:y2.length=n:=hI.1
  have hw:IntKind.i64.wrap ((b:Int) + 1)=((b + 1:Nat):Int):=by rw [aT (by omega) (by omega)];omega
  have cq:ltI (b:Int) (y2.length:Int)=true:=eQ (by omega)
  have xl:leI (0:Int) (b:Int)=true:=cw (by omega)
  have iU:ltN b y2.length=true:=ib (by omega)
  refine⟨?_,?_,?_,?_⟩
  ·have hk:=hI.2
   simp only at hk
   have hw1:IntKind.i64.wrap (y1 + 1)=y1 + 1:=aT (by omega) (by omega)
   have h6:Hj (y1 + 1)=true:=akp (y1 + 1) ((Bool.and_eq_true _ _).mpr ⟨cw (by omega),cw (by omega)⟩)
   simp [rk,uO,ph,uP,pj,uQ,uR,wo,sY,Ah,Ai,Aj,Ak,Al,Am,An,Ao,yA,yE,fk,LT.nds,allT,po,cq,xl,iU,hw1,h6]
  ·simp [rk,uO,ph,uP,pj,uQ,uR,wo,sY,Ah,Ai,Aj,Ak,Al,Am,An,Ao,yA,yE,fk,LT.each,po,Jw,hw]
  ·simp only [rk,uO,ph,uP,pj,uQ,uR,wo,sY,Ah,Ai,Aj,Ak,Al,Am,An,Ao,yA,yE,fk,LT.fn,po,Jw,qk,Int.toNat_natCast,cq,xl,iU,cond_true,Bool.cond_self]
  ·have hk:=hI.2
   simp only at hk
   intro a' hf;simp only [qk,Sum.inr.injEq]at hf
   subst hf
   refine⟨by simp [hI0],?_⟩
   simp only
   rw [aT (x:=y1 + 1) (by omega) (by omega),aT (x:=y1 + 1 + 1) (by omega) (by omega),aT (x:=y1 + 1 + 1 + 1) (by omega) (by omega)]
   omega
 ·obtain⟨y1,y2⟩:=a
  have hI0:y2.length=n:=hI.1
  simp [rk,uO,ph,uP,pj,uQ,uR,wo,sY,Ah,Ai,Aj,Ak,Al,Am,An,Ao,yA,yE,fk,LT.out,po,hI0,List.length_range]
def mkB(k:Int):Int×Int×Int:=(k,k + 1,k + 2)
theorem an7(b:Nat)(k:Int)(xs:List (Int×Int×Int))(hb:b < xs.length)(h0:0≤k)(h1:k + (3:Nat)≤9223372036854775807):jQ b (k,xs)= .inr (k + (3:Nat),xs.set b (mkB k)):=by
 have w1:IntKind.i64.wrap (k + 1)=k + 1:=aT (by omega) (by omega)
 have w2:IntKind.i64.wrap (k + 1 + 1)=k + 2:=by rw [aT (by omega) (by omega)];omega
 have w3:IntKind.i64.wrap (k + 2 + 1)=k + 3:=by rw [aT (by omega) (by omega)];omega
 simp [jQ,mkB,w1,w2,w3,List.set_set,List.getElem?_set,hb]
def mkT(k:Int):TM:=(k,nS (k + 1),k + 2)
theorem an8(b:Nat)(k:Int)(xs:List TM)(hb:b < xs.length)(h0:0≤k)(h1:k + (3:Nat)≤9223372036854775807):qk b (k,xs)= .inr (k + (3:Nat),xs.set b (mkT k)):=by
 have w1:IntKind.i64.wrap (k + 1)=k + 1:=aT (by omega) (by omega)
 have w2:IntKind.i64.wrap (k + 1 + 1)=k + 2:=by rw [aT (by omega) (by omega)];omega
 have w3:IntKind.i64.wrap (k + 2 + 1)=k + 3:=by rw [aT (by omega) (by omega)];omega
 simp [qk,mkT,w1,w2,w3,List.set_set,List.getElem?_set,hb]
theorem anH(k:Int)(xs:List (Int×Int×Int))(h:(Zs 3 k xs.length&&leN xs.length 9223372036854775807)=true):GD k xs=k + 3 * (xs.length:Int)∧GE k xs=upG 3 mkB k xs.length∧GF k xs=true:=by
 simp only [Bool.and_eq_true,fQ]at h
 obtain⟨h0,h2⟩:=Rg.1 h.1
 obtain⟨w1,w2⟩:=SW k xs xs.length rfl h.2
 have hw:=adl (e:=0) an7 xs [] k h0 h2
 rw [List.length_nil,List.nil_append,← List.range_eq_range']at hw
 rw [hw]at w2
 refine⟨?_,?_,?_⟩
 ·simp only [GD,uM,zB,w2,gA];rfl
 ·simp only [GE,uM,zB,w2,gA];rfl
 ·simp only [GF,uM,w1,allT,cond_true]
theorem amR(k:Int)(xs:List TM)(h:(Zs 3 k xs.length&&leN xs.length 9223372036854775807)=true):OW k xs=k + 3 * (xs.length:Int)∧OY k xs=true:=by
 simp only [Bool.and_eq_true,fQ]at h
 obtain⟨h0,h2⟩:=Rg.1 h.1
 obtain⟨w1,w2⟩:=aaQ k xs xs.length rfl h.2 h0 h2
 have hw:=adl (e:=0) an8 xs [] k h0 h2
 rw [List.length_nil,List.nil_append,← List.range_eq_range']at hw
 rw [hw]at w2
 refine⟨?_,?_⟩
 ·simp only [OW,Io,NP,w2,po];rfl
 ·simp only [OY,Io,w1,allT,cond_true]
def NB:List SV→List Entry→Option Out
 | [.one ⟨false,[.ref 0]⟩,.one ⟨false,[.val (.int .i64 x0)]⟩],[.row true 172 (.pair (.int .i64) (.pair (.int .i64) (.int .i64))) x1]=>some ⟨.one ⟨false,[.val (.int .i64 (x0 + 3 * (x1.length:Int)))]⟩,[.row true 172 aaK (upG 3 mkB x0 x1.length)],[],[Zs 3 x0 x1.length&&leN x1.length 9223372036854775807]⟩
 |_,_=>none
def GL:PF prog:=PF.alt VX NB (by
 intro args es o h da;unfold NB at h;split at h
 ·rename_i x0 x1
  cases h
  have da:=pb da
  have hh:=anH x0 x1 da
  obtain⟨e0,e1,en⟩:=hh
  exact tU rfl (pc en) (by simp only [e0] <;> rfl) (by simp only [e1] <;> rfl) rfl
 ·cases h)
def UF:List SV→List Entry→Option Out
 | [.one ⟨false,[.ref 0]⟩,.one ⟨false,[.val (.int .i64 x0)]⟩],[.row true 178 (.pair (.int .i64) (.pair (.str) (.int .i64))) x1]=>some ⟨.one ⟨false,[.val (.int .i64 (x0 + 3 * (x1.length:Int)))]⟩,[.row true 178 aeH (OX x0 x1)],[],[Zs 3 x0 x1.length&&leN x1.length 9223372036854775807]⟩
 |_,_=>none
def Bh:PF prog:=PF.alt ae2 UF (by
 intro args es o h da;unfold UF at h;split at h
 ·rename_i x0 x1
  cases h
  have da:=pb da
  have hh:=amR x0 x1 da
  obtain⟨e0,en⟩:=hh
  exact tU rfl (pc en) (by simp only [e0] <;> rfl) rfl rfl
 ·cases h)
def aiq(k:Int)(xs:List (Int×Int×Int)):Int:=AZ k xs
theorem an6(k:Int)(h0:0≤k)(h1:k + (3:Nat)≤9223372036854775807):mg (mkB k) k= .inr (k + (3:Nat)):=by
 have w1:IntKind.i64.wrap (k + 1)=k + 1:=aT (by omega) (by omega)
 have w2:IntKind.i64.wrap (k + 1 + 1)=k + 2:=by rw [aT (by omega) (by omega)];omega
 have w3:IntKind.i64.wrap (k + 2 + 1)=k + 3:=by rw [aT (by omega) (by omega)];omega
 simp [mg,mkB,w1,w2,w3]
theorem anw(k:Int)(n:Nat)(h:(Zs 3 k n&&leN n 9223372036854775807)=true):aiq k (upG 3 mkB k n)=k + 3 * (n:Int):=by
 simp only [Bool.and_eq_true,fQ]at h
 obtain⟨h0,h2⟩:=Rg.1 h.1
 obtain⟨w1,w2⟩:=KD (upG 3 mkB k n) k (by rw [ahL];exact h.2)
 rw [ahN (e:=3) an6 n k 0 h0 h2]at w2
 simp only [aiq,AZ,oj,w2,jf]
 rfl
theorem amN(k:Int)(xs:List (Int×Int×Int))(h:leN xs.length 9223372036854775807=true):AZ k xs=aiq k xs∧GC k xs=true:=by
 obtain⟨w1,w2⟩:=KD xs k (fQ.1 h)
 exact⟨rfl,by simp only [GC,oj,w1,allT,cond_true]⟩
def NA:List SV→List Entry→Option Out
 | [.one ⟨false,[.ref 0]⟩,.one ⟨false,[.val (.int .i64 x0)]⟩],[.row false 172 (.pair (.int .i64) (.pair (.int .i64) (.int .i64))) x1]=>some ⟨.one ⟨false,[.val (.int .i64 (aiq x0 x1))]⟩,[.row false 172 aaK x1],[],[leN x1.length 9223372036854775807]⟩
 |_,_=>none
def GK:PF prog:=PF.alt VW NA (by
 intro args es o h da;unfold NA at h;split at h
 ·rename_i x0 x1
  cases h
  have da:=pb da
  have hh:=amN x0 x1 da
  obtain⟨e0,en⟩:=hh
  exact tU rfl (pc en) (by simp only [e0] <;> rfl) rfl rfl
 ·cases h)
def szL(k:Int)(n:Nat):Int:=bif ltI (k - n) 0 then -1 else k - n
theorem ao1(k:Int)(xs:List (Int×Int×Int))(h:(leN xs.length 9223372036854775807&&(leI (-1) k&&leI k 1048576))=true):Jm k xs=szL k xs.length:=by
 simp only [Bool.and_eq_true,fQ,Ee]at h
 simp only [Jm,HI,szL]
 rw [aT (by omega) (by omega)]
def PO:List SV→List Entry→Option Out
 | [.one ⟨false,[.ref 0]⟩,.one ⟨false,[.val (.int .i64 x0)]⟩],[.row false 194 (.pair (.int .i64) (.pair (.int .i64) (.int .i64))) x1]=>some ⟨.one ⟨false,[.val (.int .i64 (szL x0 x1.length))]⟩,[.row false 194 aaK x1],[],[leN x1.length 9223372036854775807&&(leI (-1) x0&&leI x0 1048576)]⟩
 |_,_=>none
def Js:PF prog:=PF.alt Zy PO (by
 intro args es o h da;unfold PO at h;split at h
 ·rename_i x0 x1
  cases h
  have da:=pb da
  have hh:=ao1 x0 x1 da
  have e0:=hh
  exact tU rfl (fun _ h=>by cases h) (by simp only [e0] <;> rfl) rfl rfl
 ·cases h)
def afR:Int→List TM→Int
 |k,[]=>k
 |k,t::r=>bif ltI (tI t.2.1 k) 0 then -1 else afR (tI t.2.1 k) r
def ajE(k:Int)(ts:List TM):Int:=bif ltI (k - ts.length) 0 then -1 else afR (k - ts.length) ts
theorem am6{s:ByteArray}{k:Int}(hs:s.size≤9223372036854775807)(hk:0≤k∧k≤1048576):tI s k=bif ltI (k - (s.size:Int)) 0 then -1 else k - (s.size:Int):=by
 have hw:IntKind.i64.wrap (k - (s.size:Int))=k - (s.size:Int):=aT (by omega) (by omega)
 simp only [tI,RT,hw]
def tq(b:Int×(ByteArray×Int)):(Int)→Nat ⊕ (Int)
 |y1=>(bif(ltI (tI (b.2.1) y1) (0:Int))then(.inl 0)else(.inr (tI (b.2.1) y1)))
def rO(y2:List (Int×(ByteArray×Int)))(i:Nat):(Int)→oP
 |y1=>((i:Int),y1,y2)
def Mm:oP→Int
 |(_,y1,_)=>y1
theorem ael(y2:List (Int×(ByteArray×Int)))(y1:Int)(hn:y2.length≤9223372036854775807):
  eT.fin ((0:Int),y1,y2)=true∧eT.res ((0:Int),y1,y2)=((aq (tq) 1 y2 0 y1).1,(rO y2) (aq (tq) 1 y2 0 y1).2.1 (aq (tq) 1 y2 0 y1).2.2):=by
 have jT:=eT.along (rO y2) Mm (tq) 1 (fun _ _=>True) y2 y1 (by trivial) (by simp only [eT,rO];omega) (fun i b a hb hI=> ?_) (fun a hI=> ?_)
 ·exact jT
 ·obtain y1:=a
  have fa:=(List.getElem?_eq_some_iff.1 hb).1
  have jS: ∀ d,Option.getD y2[i]? d=b:=fun d=>by rw [hb];rfl
  have hw:=wM fa hn
  have cq:ltI (i:Int) (y2.length:Int)=true:=eQ (by omega)
  have xl:leI (0:Int) (i:Int)=true:=cw (by omega)
  have iU:ltN i y2.length=true:=ib fa
  refine⟨?_,?_,?_,?_⟩
  ·simp [xE,zG,DP,DQ,DR,vN,DS,DT,BU,eT,LT.nds,allT,rO,cq,xl,iU,jS]
  ·simp [xE,zG,DP,DQ,DR,vN,DS,DT,BU,eT,LT.each,rO,Mm,hw]
  ·simp only [xE,zG,DP,DQ,DR,vN,DS,DT,BU,eT,LT.fn,rO,Mm,tq,Int.toNat_natCast,cq,xl,iU,jS,cond_true,Bool.cond_self]
  ·exact fun _ _=>trivial
 ·obtain y1:=a
  simp [xE,zG,DP,DQ,DR,vN,DS,DT,BU,eT,LT.out,rO]
theorem akY: ∀ (r:List TM) (i:Nat) (k:Int),(bif Nat.beq (aq tq 1 r i k).1 0 then -1 else(aq tq 1 r i k).2.2)=afR k r
 | [],i,k=>rfl
 |t::r,i,k=>by
  have hf:tq t k=bif ltI (tI t.2.1 k) 0 then .inl 0 else .inr (tI t.2.1 k):=rfl
  simp only [aq,hf,afR]
  cases h:ltI (tI t.2.1 k) 0 with
  |true=>rfl
  |false=>simp only [cond_false];exact akY r (i + 1) _
theorem ao3(k:Int)(xs:List TM)(h:(leN xs.length 9223372036854775807&&(leI (-1) k&&leI k 1048576))=true):RR k xs=ajE k xs∧RS k xs=true:=by
 simp only [Bool.and_eq_true,fQ,Ee]at h
 have hw:IntKind.i64.wrap (k - (xs.length:Int))=k - (xs.length:Int):=aT (by omega) (by omega)
 obtain⟨w1,w2⟩:=ael xs (k - (xs.length:Int)) h.1
 have hs:=akY xs 0 (k - (xs.length:Int))
 have e:vN= -1:=rfl
 simp only [RR,RS,LE,LF,hw,w1,w2,rO,allT,Bool.or_true,cond_true,ajE,e,hs,and_self]
theorem afS: ∀ (r:List TM) (k:Int),(∀ t∈r,t.2.1.size≤9223372036854775807)→0≤k→k≤1048576→ltI (afR k r) 0=false→afR k r=k - ah8 r∧(ah8 r:Int)≤k
 | [],k,_,h0,h1,_=>by simp [afR,ah8];omega
 |t::r,k,hs,h0,h1,h=>by
  have ht:=am6 (k:=k) (hs t (by simp)) ⟨h0,h1⟩
  simp only [afR]at h ⊢
  cases h2:ltI (k - (t.2.1.size:Int)) 0 with
  |true=>rw [ht,h2]at h;rw [cond_true]at h;exact absurd (show ltI (-1) 0=false from h) (by decide)
  |false=>
   have h3:=zM.1 h2
   rw [h2,cond_false]at ht
   rw [ht,h2,cond_false]at h
   obtain⟨q1,q2⟩:=afS r _ (fun t ht=>hs t (by simp [ht])) h3 (by omega) h
   rw [ht,h2,cond_false,q1]
   simp only [ah8]
   omega
theorem al6{k:Int}{xs:List TM}(hs: ∀ t∈xs,t.2.1.size≤9223372036854775807)(hk:k≤1048576)(h:ltI (ajE k xs) 0=false):ajE k xs=k - xs.length - ah8 xs∧(xs.length:Int) + ah8 xs≤k:=by
 simp only [ajE]at h ⊢
 cases h2:ltI (k - (xs.length:Int)) 0 with
 |true=>rw [h2]at h;simp at h
 |false=>
  have h3:=zM.1 h2
  rw [h2,cond_false]at h
  obtain⟨q1,q2⟩:=afS xs _ hs h3 (by omega) h
  rw [cond_false,q1]
  omega
theorem aiN{k:Int}{n:Nat}(h:ltI (szL k n) 0=false):szL k n=k - n∧(n:Int)≤k:=by
 simp only [szL]at h ⊢
 cases h2:ltI (k - (n:Int)) 0 with
 |true=>rw [h2]at h;simp at h
 |false=>have:=zM.1 h2;rw [cond_false];omega
def Ys:List SV→List Entry→Option Out
 | [.one ⟨false,[.ref 0]⟩,.one ⟨false,[.val (.int .i64 x0)]⟩],[.row false 175 (.pair (.int .i64) (.pair (.str) (.int .i64))) x1]=>some ⟨.one ⟨false,[.val (.int .i64 (ajE x0 x1))]⟩,[.row false 175 aeH x1],[],[leN x1.length 9223372036854775807&&(leI (-1) x0&&leI x0 1048576)]⟩
 |_,_=>none
def Se:PF prog:=PF.alt ahh Ys (by
 intro args es o h da;unfold Ys at h;split at h
 ·rename_i x0 x1
  cases h
  have da:=pb da
  have hh:=ao3 x0 x1 da
  obtain⟨e0,en⟩:=hh
  exact tU rfl (pc en) (by simp only [e0] <;> rfl) rfl rfl
 ·cases h)
theorem amC(xs:List (Int×Int×Int))(h:(leN 1 xs.length&&leN xs.length 1048576)=true):sg xs=true:=by
 simp only [Bool.and_eq_true,fQ]at h
 simp [sg,allT]
 omega
def adn:List SV→List Entry→Option Out
 | [.one ⟨false,[.val (.slice none 0 0)]⟩],[]=>some ⟨.one ⟨false,[.ref 0]⟩,[],[.row true 172 (.pair (.int .i64) (.pair (.int .i64) (.int .i64))) []],[true]⟩
 |_,_=>none
def ajs:PF prog:=PF.ofG prog [PF.raw prog] [] aQ 195 f195 func195 (fun c _=>LOk.nil c) adn (by
 intro vs es r h;unfold adn at h;split at h
 ·cases h;kernel_rfl
 ·cases h)
def adm:List SV→List Entry→Option Out
 | [.one ⟨false,[.val (.slice (some _) 0 _)]⟩],[]=>some ⟨.one ⟨false,[.ref 0]⟩,[],[.row true 172 (.pair (.int .i64) (.pair (.int .i64) (.int .i64))) []],[true]⟩
 |_,_=>none
def ajr:PF prog:=PF.ofG prog [] [] aQ 195 f195 func195 (fun c _=>LOk.nil c) adm (by
 intro vs es r h;unfold adm at h;split at h
 ·cases h;kernel_rfl
 ·cases h)
def Fl:List SV→List Entry→Option Out
 | [.one ⟨false,[.ref 0]⟩],[.row false 172 (.pair (.int .i64) (.pair (.int .i64) (.int .i64))) x0]=>some ⟨.one ⟨false,[.ref 1]⟩,[.row false 172 (.pair (.int .i64) (.pair (.int .i64) (.int .i64))) x0],[.row true 172 (.pair (.int .i64) (.pair (.int .i64) (.int .i64))) x0],[leN x0.length 1048576]⟩
 |_,_=>none
def xH:PF prog where
 k:=195
 F:=Fl
 ok:=by
  intro args es o h da mem ρ w hp
  unfold Fl at h
  split at h
  ·rename_i x0
   cases h
   have hl:=da _ (List.mem_singleton.2 rfl)
   cases x0 with
   |nil=>
    exact(ani ajs ajr rfl rfl rfl (fun _ _=>rfl) (by simp) (by simp) hp).mono fun en w' ⟨ρ',h1,h2,h3⟩=>⟨ρ',h1,h2,rfl,(by intro v hv;rw [List.mem_singleton.1 hv];rfl),h3⟩
   |cons x xs=>exact Pq.ok _ _ ⟨_,_,_,[sg (x::xs)]⟩ rfl (fun b hb=>by rw [List.mem_singleton.1 hb];exact amC (x::xs) ((Bool.and_eq_true _ _).mpr ⟨dx (Nat.succ_pos _),hl⟩)) mem ρ w hp
  ·cases h
abbrev IN:=Int×Int
abbrev BS3:=Int×Int×Int
def tkI(bs:List TM)(x:IN):Int:=age x.1 x.2 bs
def gvI(x:IN):Int:=agf x.1
def apr(i v o:Int)(bs:List TM)(x:IN):Bool:=ahG i v o x.1 x.2 bs
def hgt(i v o:Int)(bs:List TM):List IN→Int→List Int→Option (Int×List Int)
 | [],n,acc=>some (n,acc)
 |x::r,n,acc=>bif apr i v o bs x&&(leI (tkI bs x) n&&leI (n - tkI bs x + gvI x) 40)then hgt i v o bs r (n - tkI bs x + gvI x) (acc++ [n - tkI bs x + gvI x])else none
def adv(bs:List TM):Bool:=bs.all fun t=>VB t.1 t.2.1 t.2.2
def QF(bs:List TM)(k:Nat):TM:=Option.getD bs[k]? ((0:Int),ByteArray.empty,(0:Int))
def stAt(ss:List BS3)(k:Nat):BS3:=Option.getD ss[k]? ((0:Int),(0:Int),(0:Int))
def possAt(bs:List TM)(ss:List BS3)(k:Nat):Bool:=possB (QF bs k).1 (QF bs k).2.2 (stAt ss k).1 (stAt ss k).2.1 (stAt ss k).2.2
def JR(v:Int)(bs:List TM)(xs:List Int)(ss:List BS3):Bool:=((ss.length:Int)==(bs.length:Int))&&(bitsB v xs&&(List.range bs.length).all fun k=>possAt bs ss k)
def fT(y2:List (Int×(ByteArray×Int)))(y4:List (Int×(Int×Int)))(b:Nat):(Unit)→Nat ⊕ (Unit)
 |_=>(bif(!zs ((Option.getD y2[b]? ((0:Int),ByteArray.empty,(0:Int))).1) ((Option.getD y2[b]? ((0:Int),ByteArray.empty,(0:Int))).2.2) ((Option.getD y4[b]? ((0:Int),(0:Int),(0:Int))).1) (((Option.getD y4[b]? ((0:Int),(0:Int),(0:Int))).2).1) ((Option.getD y4[b]? ((0:Int),(0:Int),(0:Int))).2.2))then(.inl 0)else(.inr ()))
def cL(y2:List (Int×(ByteArray×Int)))(y3:List Int)(y4:List (Int×(Int×Int)))(i:Nat):(Unit)→bg
 |_=>((i:Int),(↑y2.length:Int),y2,y3,y4)
def pd:bg→Unit
 |(_,_,_,_,_)=>()
theorem Hc(y2:List (Int×(ByteArray×Int)))(y3:List Int)(y4:List (Int×(Int×Int))) (hn:y2.length≤9223372036854775807) (he:y4.length=y2.length):
  au.fin ((0:Int),(↑y2.length:Int),y2,y3,y4)=true∧au.res ((0:Int),(↑y2.length:Int),y2,y3,y4)=((aq (fT y2 y4) 1 (List.range y2.length) 0 ()).1,(cL y2 y3 y4) (aq (fT y2 y4) 1 (List.range y2.length) 0 ()).2.1 (aq (fT y2 y4) 1 (List.range y2.length) 0 ()).2.2):=by
 have jT:=au.along (cL y2 y3 y4) pd (fT y2 y4) 1 (fun _ _=>True) (List.range y2.length) () (by trivial) (by simp only [au,cL,List.length_range];omega) (fun i b a hb hI=> ?_) (fun a hI=> ?_)
 ·exact jT
 ·obtain⟨⟩:=a
  obtain⟨rfl,fa⟩:=oJ hb
  have hw:IntKind.i64.wrap ((b:Int) + 1)=((b + 1:Nat):Int):=by rw [aT (by omega) (by omega)];omega
  have cq:ltI (b:Int) (y2.length:Int)=true:=eQ (by omega)
  have xl:leI (0:Int) (b:Int)=true:=cw (by omega)
  have iU:ltN b y2.length=true:=ib (by omega)
  refine⟨?_,?_,?_,?_⟩
  ·simp [dC,cK,fV,dF,fW,fX,fY,fZ,gc,gd,fK,au,LT.nds,allT,cL,cq,xl,iU,he]
  ·simp [dC,cK,fV,dF,fW,fX,fY,fZ,gc,gd,fK,au,LT.each,cL,pd,hw,he]
  ·simp only [dC,cK,fV,dF,fW,fX,fY,fZ,gc,gd,fK,au,LT.fn,cL,pd,fT,Int.toNat_natCast,cq,cond_true]
  ·exact fun _ _=>trivial
 ·obtain⟨⟩:=a
  simp [dC,cK,fV,dF,fW,fX,fY,fZ,gc,gd,fK,au,LT.out,cL,List.length_range]
theorem aiV{α:Type}{g h:α→Bool}: ∀ (l:List α),(∀ k∈l,g k=h k)→(l.any fun b=> !g b)= !l.all h
 | [],_=>rfl
 |a::l,hg=>by
  rw [List.any_cons,List.all_cons,hg a (by simp),aiV l (fun k hk=>hg k (by simp [hk]))]
  cases h a <;> simp
theorem amO(v:Int)(bs:List TM)(xs:List Int)(ss:List BS3)(h:(leN xs.length 9223372036854775807&&(leN bs.length 9223372036854775807&&adv bs))=true):
  lS v xs ss bs=JR v bs xs ss∧lT v xs ss bs=true:=by
 simp only [Bool.and_eq_true]at h
 have hn:=fQ.1 h.2.1
 have hB: ∀ t∈bs,VB t.1 t.2.1 t.2.2=true:=List.all_eq_true.1 h.2.2
 by_cases hl:ss.length=bs.length
 ·obtain⟨w1,w2⟩:=Hc bs xs ss hn hl
  rw [iS (P:=fun k=> !zs (QF bs k).1 (QF bs k).2.2 (stAt ss k).1 (stAt ss k).2.1 (stAt ss k).2.2) (j:=0) (fun k=>rfl),
   aiV (g:=fun k=>zs (QF bs k).1 (QF bs k).2.2 (stAt ss k).1 (stAt ss k).2.1 (stAt ss k).2.2) (h:=possAt bs ss) _ (fun k hk=>by
    have hk:k < bs.length:=List.mem_range.1 hk
    have hg:QF bs k=bs[k]:=by simp only [QF,List.getElem?_eq_getElem hk];rfl
    have:=hB _ (List.getElem_mem hk)
    rw [← hg]at this
    exact aop (ach this).1)]at w2
  have a0:ew v xs ss bs= !bitsB v xs:=by simp only [ew,hl];cases bitsB v xs <;> simp
  simp only [lS,lT,qr,a0,w1,w2,h.1,allT,JR,hl]
  cases bitsB v xs <;> cases (List.range bs.length).all (possAt bs ss) <;> simp [Nat.beq]
 ·have hl2: ¬ ((ss.length:Int)=(bs.length:Int)):=by omega
  have a0:ew v xs ss bs=true:=by simp only [ew];cases bitsB v xs <;> simp [hl2]
  have e:((ss.length:Int)==(bs.length:Int))=false:=by simpa using hl2
  simp [lS,lT,a0,allT,JR,e,h.1]
def xV:List SV→List Entry→Option Out
 | [.one ⟨true,[.ref 0,.ref 1]⟩,.one ⟨false,[.val (.int .i64 x0)]⟩,.one ⟨false,[.ref 2]⟩],[.row false 2 (.int .i64) x1,.row false 172 (.pair (.int .i64) (.pair (.int .i64) (.int .i64))) x2,.row false 178 (.pair (.int .i64) (.pair (.str) (.int .i64))) x3]=>some ⟨.one ⟨false,[.val (.bool (JR x0 x3 x1 x2))]⟩,[.row false 2 afY x1,.row false 172 aaK x2,.row false 178 aeH x3],[],[leN x1.length 9223372036854775807&&(leN x3.length 9223372036854775807&&adv x3)]⟩
 |_,_=>none
def qO:PF prog:=PF.alt IF xV (by
 intro args es o h da;unfold xV at h;split at h
 ·rename_i x0 x1 x2 x3
  cases h
  have da:=pb da
  have hh:=amO x0 x3 x1 x2 da
  obtain⟨e0,en⟩:=hh
  exact tU rfl (pc en) (by simp only [e0] <;> rfl) rfl rfl
 ·cases h)
end Go.SX
