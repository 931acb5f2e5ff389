/- What functions of the program come to, and what that says in plain words: part 1. -/
import Derived.Test.YtbbfgoobcjlooaaGreatDoorTXh
import Derived.Test.YtbbfgoobcjlooaaGreatDoorProg
set_option linter.unusedSimpArgs false
set_option linter.unusedVariables false
namespace Go.SX
open Go.Proofs
abbrev aal:CTy:=(CTy.pair (CTy.int IntKind.i64) (CTy.pair (CTy.int IntKind.i64) (CTy.int IntKind.i64)))
abbrev afk:CTy:=(CTy.pair (CTy.int IntKind.i64) (CTy.pair CTy.str (CTy.int IntKind.i64)))
abbrev agJ:CTy:=(CTy.int IntKind.i64)
abbrev ahF:CTy:=(CTy.str)
theorem S0z:(∀ (α:Type) (a b:α),(bif true then a else b)=a)∧(∀ (α:Type) (a b:α),(bif false then a else b)=b)∧(∀ (α:Type) (c:Bool) (a:α),(bif c then a else a)=a)∧((!true)=false)∧((!false)=true)∧(∀ b:Bool,(true||b)=true)∧(∀ b:Bool,(b||true)=true)∧(∀ b:Bool,(false||b)=b)∧(∀ b:Bool,(b||false)=b)∧(∀ b:Bool,(b&&b)=b)∧(∀ b:Bool,(b&&true)=b)∧(∀ b:Bool,(true&&b)=b)∧(∀ b:Bool,(false&&b)=false)∧(∀ b:Bool,(b&&false)=false)∧(∀ (α:Type) [BEq α] [LawfulBEq α] (a:α),(a != a)=false)∧(∀ (α:Type) [BEq α] [LawfulBEq α] (a:α),(a==a)=true):=by and_intros <;> intros <;> simp
end Go.SX
namespace Go.SX
open Go.Proofs Go.Proofs.Tryz
set_option maxRecDepth 100000
theorem aP:Tryz.prog.follows .mixedOrders=true:=by kernel_rfl
def Pt(x0:Int)(x1:List Int):Int:=IntKind.wrap .i64 (x0 - (↑x1.length:Int))
def QJ(x0:Int)(x1:List Int):Int:=bif ltI (Pt x0 x1) (0:Int)then(-1:Int)else Pt x0 x1
def WD:List SV→List Entry→Option Out
 | [.one ⟨false,[.ref 0]⟩,.one ⟨false,[.val (.int .i64 x0)]⟩],[.row false 2 (.int .i64) x1]=>some ⟨.one ⟨false,[.val (.int .i64 (QJ x0 x1))]⟩,[.row false 2 agJ x1],[],[]⟩
 |_,_=>none
def agU:PF prog:=PF.ofG prog [] [] aP 86 f86 func86 (fun c _=>LOk.nil c) WD (by
 intro vs es r h;unfold WD at h;split at h
 ·cases h;kernel_rfl
 ·cases h)
def bt(x0 x1 x2:Int):Bool:=bif leI x1 x0 then leI x0 x2 else false
def adY:List SV→List Entry→Option Out
 | [.one ⟨false,[.val (.int .i64 x0)]⟩,.one ⟨false,[.val (.int .i64 x1)]⟩,.one ⟨false,[.val (.int .i64 x2)]⟩],[]=>some ⟨.one ⟨false,[.val (.bool (bt x0 x1 x2))]⟩,[],[],[]⟩
 |_,_=>none
def xx:PF prog:=PF.ofG prog [] [] aP 153 f153 func153 (fun c _=>LOk.nil c) adY (by
 intro vs es r h;unfold adY at h;split at h
 ·cases h;kernel_rfl
 ·cases h)
def Uf(x0:List Int):Bool:=allT [leN ((0:Nat) + List.length x0) (9223372036854775807:Nat),leN (((0:Nat) + List.length x0) * (8:Nat)) (140737488355328:Nat)]
def abD:List SV→List Entry→Option Out
 | [.one ⟨false,[.ref 0]⟩],[.row false 2 (.int .i64) x0]=>some ⟨.one ⟨false,[.ref 1]⟩,[.row false 2 agJ x0],[.row true 2 agJ x0],[Uf x0]⟩
 |_,_=>none
def aiR:PF prog:=PF.ofG prog [] [] aP 173 f173 func173 (fun c _=>LOk.nil c) abD (by
 intro vs es r h;unfold abD at h;split at h
 ·cases h;kernel_rfl
 ·cases h)
abbrev my:=Int×List Int×List Int
section
variable (y0:Int)(y1 y2:List Int)
def wR:Bool:=ltI y0 (↑y1.length:Int)
def wS:Bool:=leI (0:Int) y0
def BG:Bool:=ltN y0.toNat y1.length
def BH:Bool:=ltI y0 (↑y2.length:Int)
def BI:Bool:=ltN y0.toNat y2.length
def BJ:Int:=IntKind.wrap .i64 (y0 + (1:Int))
def BK:List Int:=List.set y2 y0.toNat (Option.getD y1[Int.toNat y0]? (0:Int))
end
def aaL:my→List (Nat×SV)
 |(y0,_,_)=> [(4,(.one ⟨false,[.val (.int .i64 y0)]⟩)),(0,(.one ⟨false,[.ref 0]⟩)),(3,(.one ⟨false,[.ref 1]⟩))]
def aaB:my→List (Nat×Entry)
 |(_,y1,y2)=> [(0,(.row false 2 agJ y1)),(1,(.row true 2 agJ y2))]
def aa5:Nat→my→List (Nat×SV)
 |_,(_,_,_)=> []
def aaV:Nat→my→List (Nat×Entry)
 |_,(_,y1,y2)=> [(0,(.row false 2 agJ y1)),(1,(.row true 2 agJ y2))]
def Ap:my→LT my
 |(y0,y1,y2)=> .ite (wR y0 y1) (.need [wS y0,wR y0 y1,BG y0 y1,wS y0,BH y0 y2,BI y0 y2] (.nrm ((BJ y0),y1,(BK y0 y1 y2)) [(0,0),(1,1)])) (.ext 0 [(0,0),(1,1)])
def Ld(s:St):Option my:=
 (match s.look 4 with
 |some ⟨none,.one ⟨false,[.val (.int .i64 y0)]⟩⟩=>
 (match s.look 0 with
 |some ⟨none,.one ⟨false,[.ref 0]⟩⟩=>
 (match s.look 3 with
 |some ⟨none,.one ⟨false,[.ref 320]⟩⟩=>
 (match s.ent 0 with
 |some (.row false 2 (.int .i64) y1)=>
 (match s.ent 320 with
 |some (.row true 2 (.int .i64) y2)=>
 some (y0,y1,y2)
 |_=>none)
 |_=>none)
 |_=>none)
 |_=>none)
 |_=>none)
def gA:Lp my where
 h:=⟨[8,9,10,11,14,15,16,17,18,19,20,12,13,4],[0,1],[],[]⟩
 JL:=aaL
 JE:=aaB
 XL:=aa5
 XE:=aaV
 q:=fun j=>match j with | _=> .exit 0
 tags:= [0]
 lt:=Ap
 fuel:=fun(y0,y1,y2)=>y0.natAbs + y1.length + y2.length
 fix:=fun(_,y1,_) (y0,_,y2)=>(y0,y1,y2)
 σ:= [(0,0),(1,320)]
 rd:=Ld
theorem XT:LoopOk prog (fun k=>Nat.blt k Tryz.f29.ntmps) gA.F (aL f29 0):=by
 refine Lp.ok (tbl:= []) (lf:= []) aP gA (by kernel_rfl) (LOk.nil _) (fun _=>rfl) (fun _ _=>rfl) ?_ ?_ ?_ ?_ (fun _=>rfl) ?_
 ·rintro⟨y0,y1,y2⟩;kernel_rfl
 ·rintro⟨y0,y1,y2⟩;kernel_rfl
 ·intro s x h
  have h:Ld s=some x:=h
  unfold Ld at h
  repeat' split at h
  all_goals cases h
  exact⟨aa (by assumption) rfl (aa (by assumption) rfl (aa (by assumption) rfl (rfl))),ab rfl (by assumption) rfl (ab rfl (by assumption) rfl (rfl))⟩
 ·rintro⟨y0,y1,y2⟩;kernel_rfl
 ·rintro⟨y0,y1,y2⟩ z;exact(And.intro rfl trivial)
section
variable (x0:List Int)
def Kn:Int×List Int×List Int:=((0:Int),x0,List.replicate (Int.toNat (↑x0.length:Int)) (0:Int))
def LQ:List Int:=(Lp.res gA (Kn x0)).2.2.2
def LR:Bool:=allT [leI (0:Int) (↑x0.length:Int),leI (↑x0.length:Int) (↑x0.length:Int),leI ((↑(8:Nat):Int) * (↑x0.length:Int)) (281474976710656:Int),leI (↑x0.length:Int) (9223372036854775807:Int),Lp.fin gA (Kn x0)]
end
def WE:List SV→List Entry→Option Out
 | [.one ⟨false,[.ref 0]⟩],[.row false 2 (.int .i64) x0]=>some ⟨.one ⟨false,[.ref 1]⟩,[.row false 2 agJ x0],[.row true 2 agJ (LQ x0)],[LR x0]⟩
 |_,_=>none
def agV:PF prog:=PF.ofG prog [] [gA.F] aP 29 f29 func29 (LOk.fnT (l:= [aL f29 0]) (by kernel_rfl) (.cons XT (.nil _))) WE (by
 intro vs es r h;unfold WE at h;split at h
 ·cases h;kernel_rfl
 ·cases h)
def sQ(x0 x1 x2:Int):Bool:=bif leI x1 x0 then leI x0 x2 else false
def abw:List SV→List Entry→Option Out
 | [.one ⟨false,[.val (.int .i64 x0)]⟩,.one ⟨false,[.val (.int .i64 x1)]⟩,.one ⟨false,[.val (.int .i64 x2)]⟩],[]=>some ⟨.one ⟨false,[.val (.bool (sQ x0 x1 x2))]⟩,[],[],[]⟩
 |_,_=>none
def Ud:PF prog:=PF.ofG prog [] [] aP 158 f158 func158 (fun c _=>LOk.nil c) abw (by
 intro vs es r h;unfold abw at h;split at h
 ·cases h;kernel_rfl
 ·cases h)
def vg(x0:List Int):Bool:=allT [ltN (0:Nat) x0.length,false||leN ((0:Nat) + List.length x0) (9223372036854775807:Nat),false||leN (((0:Nat) + List.length x0) * (8:Nat)) (140737488355328:Nat)]
def IV:List SV→List Entry→Option Out
 | [.one ⟨false,[.ref 0]⟩],[.row false 2 (.int .i64) x0]=>some ⟨.one ⟨false,[.ref 1]⟩,[.row false 2 agJ x0],[.row true 2 agJ x0],[vg x0]⟩
 |_,_=>none
def Sm:PF prog:=PF.ofG prog [] [] aP 194 f194 func194 (fun c _=>LOk.nil c) IV (by
 intro vs es r h;unfold IV at h;split at h
 ·cases h;kernel_rfl
 ·cases h)
abbrev mw:=Int×List Int×List Int
section
variable (y0:Int)(y1 y2:List Int)
def wM:Bool:=ltI y0 (↑y1.length:Int)
def wN:Bool:=leI (0:Int) y0
def Bt:Bool:=ltN y0.toNat y1.length
def Bu:Bool:=ltI y0 (↑y2.length:Int)
def Bv:Bool:=ltN y0.toNat y2.length
def Bw:Bool:=Option.getD y1[Int.toNat y0]? (0:Int)!=Option.getD y2[Int.toNat y0]? (0:Int)
def Bx:Int:=IntKind.wrap .i64 (y0 + (1:Int))
end
def aaJ:mw→List (Nat×SV)
 |(y0,_,_)=> [(5,(.one ⟨false,[.val (.int .i64 y0)]⟩)),(0,(.one ⟨false,[.ref 0]⟩)),(1,(.one ⟨false,[.ref 1]⟩))]
def aaz:mw→List (Nat×Entry)
 |(_,y1,y2)=> [(0,(.row false 2 agJ y1)),(1,(.row false 2 agJ y2))]
def aa3:Nat→mw→List (Nat×SV)
 |0,(_,_,_)=> [(4,(.one ⟨false,[.val (.bool false)]⟩))]
 |_,(_,_,_)=> []
def aaT:Nat→mw→List (Nat×Entry)
 |0,(_,y1,y2)=> [(0,(.row false 2 agJ y1)),(1,(.row false 2 agJ y2))]
 |_,(_,y1,y2)=> [(0,(.row false 2 agJ y1)),(1,(.row false 2 agJ y2))]
def Ao:mw→LT mw
 |(y0,y1,y2)=> .ite (wM y0 y1) (.need [wN y0,wM y0 y1,Bt y0 y1,wN y0,Bu y0 y2,Bv y0 y2] (.ite (Bw y0 y1 y2) (.ext 0 [(0,0),(1,1)]) (.nrm ((Bx y0),y1,y2) [(0,0),(1,1)]))) (.ext 1 [(0,0),(1,1)])
def Lb(s:St):Option mw:=
 (match s.look 5 with
 |some ⟨none,.one ⟨false,[.val (.int .i64 y0)]⟩⟩=>
 (match s.look 0 with
 |some ⟨none,.one ⟨false,[.ref 0]⟩⟩=>
 (match s.look 1 with
 |some ⟨none,.one ⟨false,[.ref 1]⟩⟩=>
 (match s.ent 0 with
 |some (.row false 2 (.int .i64) y1)=>
 (match s.ent 1 with
 |some (.row false 2 (.int .i64) y2)=>
 some (y0,y1,y2)
 |_=>none)
 |_=>none)
 |_=>none)
 |_=>none)
 |_=>none)
def eX:Lp mw where
 h:=⟨[11,12,13,14,17,18,19,20,21,22,23,24,25,4,15,16,5],[0,1],[],[]⟩
 JL:=aaJ
 JE:=aaz
 XL:=aa3
 XE:=aaT
 q:=fun j=>match j with | 0=> .ret | _=> .exit 0
 tags:= [0,1]
 lt:=Ao
 fuel:=fun(y0,y1,y2)=>y0.natAbs + y1.length + y2.length
 fix:=fun(_,y1,y2) (y0,_,_)=>(y0,y1,y2)
 σ:= [(0,0),(1,1)]
 rd:=Lb
theorem XR:LoopOk prog (fun k=>Nat.blt k Tryz.f31.ntmps) eX.F (aL f31 0):=by
 refine Lp.ok (tbl:= []) (lf:= []) aP eX (by kernel_rfl) (LOk.nil _) (fun _=>rfl) (fun j _=>by unfold eX;match j with | 0=>rfl | _ + 1=>rfl) ?_ ?_ ?_ ?_ (fun _=>rfl) ?_
 ·rintro⟨y0,y1,y2⟩;kernel_rfl
 ·rintro⟨y0,y1,y2⟩;kernel_rfl
 ·intro s x h
  have h:Lb s=some x:=h
  unfold Lb at h
  repeat' split at h
  all_goals cases h
  exact⟨aa (by assumption) rfl (aa (by assumption) rfl (aa (by assumption) rfl (rfl))),ab rfl (by assumption) rfl (ab rfl (by assumption) rfl (rfl))⟩
 ·rintro⟨y0,y1,y2⟩;kernel_rfl
 ·rintro⟨y0,y1,y2⟩ z;exact(And.intro (And.intro trivial rfl) trivial)
section
variable (x0 x1:List Int)
def Kf:Bool:=(↑x0.length:Int)!=(↑x1.length:Int)
def Kg:Int×List Int×List Int:=((0:Int),x0,x1)
def LH:Bool:=bif Kf x0 x1 then false else bif Nat.beq ((Lp.res eX (Kg x0 x1)).1) (0:Nat)then false else true
def LI:Bool:=allT [Kf x0 x1||Lp.fin eX (Kg x0 x1)]
end
def WB:List SV→List Entry→Option Out
 | [.one ⟨false,[.ref 0]⟩,.one ⟨false,[.ref 1]⟩],[.row false 2 (.int .i64) x0,.row false 2 (.int .i64) x1]=>some ⟨.one ⟨false,[.val (.bool (LH x0 x1))]⟩,[.row false 2 agJ x0,.row false 2 agJ x1],[],[LI x0 x1]⟩
 |_,_=>none
def agT:PF prog:=PF.ofG prog [] [eX.F] aP 31 f31 func31 (LOk.fnT (l:= [aL f31 0]) (by kernel_rfl) (.cons XR (.nil _))) WB (by
 intro vs es r h;unfold WB at h;split at h
 ·cases h;kernel_rfl
 ·cases h)
abbrev ka:=Int×Int×List Int
section
variable (y0 y1:Int)(y2:List Int)
def tU:Bool:=ltI y0 (↑y2.length:Int)
def xK:Bool:=leI (0:Int) y0
def xL:Bool:=ltN y0.toNat y2.length
def xM:Int:=IntKind.wrap .i64 (y0 + (1:Int))
def xN:Int:=IntKind.wrap .i64 (y1 + (1:Int))
def xO:List Int:=List.set y2 y0.toNat y1
end
def Xy:ka→List (Nat×SV)
 |(y0,y1,_)=> [(5,(.one ⟨false,[.val (.int .i64 y0)]⟩)),(0,(.one ⟨false,[.ref 0]⟩)),(1,(.one ⟨false,[.val (.int .i64 y1)]⟩))]
def Xt:ka→List (Nat×Entry)
 |(_,_,y2)=> [(0,(.row true 2 agJ y2))]
def XJ:Nat→ka→List (Nat×SV)
 |_,(_,y1,_)=> [(1,(.one ⟨false,[.val (.int .i64 y1)]⟩))]
def XD:Nat→ka→List (Nat×Entry)
 |_,(_,_,y2)=> [(0,(.row true 2 agJ y2))]
def wq:ka→LT ka
 |(y0,y1,y2)=> .ite (tU y0 y2) (.need [xK y0,tU y0 y2,xL y0 y2] (.nrm ((xM y0),xN y1,(xO y0 y1 y2)) [(0,0)])) (.ext 0 [(0,0)])
def Ia(s:St):Option ka:=
 (match s.look 5 with
 |some ⟨none,.one ⟨false,[.val (.int .i64 y0)]⟩⟩=>
 (match s.look 0 with
 |some ⟨none,.one ⟨false,[.ref 0]⟩⟩=>
 (match s.look 1 with
 |some ⟨none,.one ⟨false,[.val (.int .i64 y1)]⟩⟩=>
 (match s.ent 0 with
 |some (.row true 2 (.int .i64) y2)=>
 some (y0,y1,y2)
 |_=>none)
 |_=>none)
 |_=>none)
 |_=>none)
def ez:Lp ka where
 h:=⟨[6,7,8,9,12,13,14,15,16,17,1,10,11,5],[0],[],[]⟩
 JL:=Xy
 JE:=Xt
 XL:=XJ
 XE:=XD
 q:=fun j=>match j with | _=> .exit 0
 tags:= [0]
 lt:=wq
 fuel:=fun(y0,y1,y2)=>y0.natAbs + y1.natAbs + y2.length
 fix:=fun(_,_,_) (y0,y1,y2)=>(y0,y1,y2)
 σ:= [(0,0)]
 rd:=Ia
theorem UZ:LoopOk prog (fun k=>Nat.blt k Tryz.f34.ntmps) ez.F (aL f34 0):=by
 refine Lp.ok (tbl:= []) (lf:= []) aP ez (by kernel_rfl) (LOk.nil _) (fun _=>rfl) (fun _ _=>rfl) ?_ ?_ ?_ ?_ (fun _=>rfl) ?_
 ·rintro⟨y0,y1,y2⟩;kernel_rfl
 ·rintro⟨y0,y1,y2⟩;kernel_rfl
 ·intro s x h
  have h:Ia s=some x:=h
  unfold Ia at h
  repeat' split at h
  all_goals cases h
  exact⟨aa (by assumption) rfl (aa (by assumption) rfl (aa (by assumption) rfl (rfl))),ab rfl (by assumption) rfl (rfl)⟩
 ·rintro⟨y0,y1,y2⟩;kernel_rfl
 ·rintro⟨y0,y1,y2⟩ z;exact(And.intro rfl trivial)
section
variable (x0:Int)(x1:List Int)
def BD:Int×Int×List Int:=((0:Int),x0,x1)
def BE:Int×List Int:=(Lp.res ez (BD x0 x1)).2.2
def Dw:Int:=(BE x0 x1).1
def Dx:List Int:=(BE x0 x1).2
def Dy:Bool:=allT [Lp.fin ez (BD x0 x1)]
end
def Tc:List SV→List Entry→Option Out
 | [.one ⟨false,[.ref 0]⟩,.one ⟨false,[.val (.int .i64 x0)]⟩],[.row true 2 (.int .i64) x1]=>some ⟨.one ⟨false,[.val (.int .i64 (Dw x0 x1))]⟩,[.row true 2 agJ (Dx x0 x1)],[],[Dy x0 x1]⟩
 |_,_=>none
def aeD:PF prog:=PF.ofG prog [] [ez.F] aP 34 f34 func34 (LOk.fnT (l:= [aL f34 0]) (by kernel_rfl) (.cons UZ (.nil _))) Tc (by
 intro vs es r h;unfold Tc at h;split at h
 ·cases h;kernel_rfl
 ·cases h)
abbrev jZ:=Int×Int×List Int
section
variable (y0 y1:Int)(y2:List Int)
def tS:Bool:=ltI y0 (↑y2.length:Int)
def xF:Bool:=leI (0:Int) y0
def xG:Bool:=ltN y0.toNat y2.length
def xH:Bool:=Option.getD y2[Int.toNat y0]? (0:Int)!=y1
end
def tT:Int:=(-1:Int)
def xI(y0:Int):Int:=IntKind.wrap .i64 (y0 + (1:Int))
def xJ(y1:Int):Int:=IntKind.wrap .i64 (y1 + (1:Int))
def Xx:jZ→List (Nat×SV)
 |(y0,y1,_)=> [(5,(.one ⟨false,[.val (.int .i64 y0)]⟩)),(0,(.one ⟨false,[.ref 0]⟩)),(1,(.one ⟨false,[.val (.int .i64 y1)]⟩))]
def Xs:jZ→List (Nat×Entry)
 |(_,_,y2)=> [(0,(.row false 2 agJ y2))]
def XI:Nat→jZ→List (Nat×SV)
 |0,(_,_,_)=> [(4,(.one ⟨false,[.val (.int .i64 (tT))]⟩))]
 |_,(_,y1,_)=> [(1,(.one ⟨false,[.val (.int .i64 y1)]⟩))]
def XC:Nat→jZ→List (Nat×Entry)
 |0,(_,_,y2)=> [(0,(.row false 2 agJ y2))]
 |_,(_,_,y2)=> [(0,(.row false 2 agJ y2))]
def wo:jZ→LT jZ
 |(y0,y1,y2)=> .ite (tS y0 y2) (.need [xF y0,tS y0 y2,xG y0 y2] (.ite (xH y0 y1 y2) (.ext 0 [(0,0)]) (.nrm ((xI y0),xJ y1,y2) [(0,0)]))) (.ext 1 [(0,0)])
def HZ(s:St):Option jZ:=
 (match s.look 5 with
 |some ⟨none,.one ⟨false,[.val (.int .i64 y0)]⟩⟩=>
 (match s.look 0 with
 |some ⟨none,.one ⟨false,[.ref 0]⟩⟩=>
 (match s.look 1 with
 |some ⟨none,.one ⟨false,[.val (.int .i64 y1)]⟩⟩=>
 (match s.ent 0 with
 |some (.row false 2 (.int .i64) y2)=>
 some (y0,y1,y2)
 |_=>none)
 |_=>none)
 |_=>none)
 |_=>none)
def dc:Lp jZ where
 h:=⟨[6,7,8,9,12,13,14,15,16,17,4,18,19,1,10,11,5],[0],[],[]⟩
 JL:=Xx
 JE:=Xs
 XL:=XI
 XE:=XC
 q:=fun j=>match j with | 0=> .ret | _=> .exit 0
 tags:= [0,1]
 lt:=wo
 fuel:=fun(y0,y1,y2)=>y0.natAbs + y1.natAbs + y2.length
 fix:=fun(_,_,y2) (y0,y1,_)=>(y0,y1,y2)
 σ:= [(0,0)]
 rd:=HZ
theorem UY:LoopOk prog (fun k=>Nat.blt k Tryz.f35.ntmps) dc.F (aL f35 0):=by
 refine Lp.ok (tbl:= []) (lf:= []) aP dc (by kernel_rfl) (LOk.nil _) (fun _=>rfl) (fun j _=>by unfold dc;match j with | 0=>rfl | _ + 1=>rfl) ?_ ?_ ?_ ?_ (fun _=>rfl) ?_
 ·rintro⟨y0,y1,y2⟩;kernel_rfl
 ·rintro⟨y0,y1,y2⟩;kernel_rfl
 ·intro s x h
  have h:HZ s=some x:=h
  unfold HZ at h
  repeat' split at h
  all_goals cases h
  exact⟨aa (by assumption) rfl (aa (by assumption) rfl (aa (by assumption) rfl (rfl))),ab rfl (by assumption) rfl (rfl)⟩
 ·rintro⟨y0,y1,y2⟩;kernel_rfl
 ·rintro⟨y0,y1,y2⟩ z;exact(And.intro (And.intro trivial rfl) trivial)
section
variable (x0:Int)(x1:List Int)
def Bz:Int×Int×List Int:=((0:Int),x0,x1)
def Dv:Int:=bif Nat.beq ((Lp.res dc (Bz x0 x1)).1) (0:Nat)then tT else ((Lp.res dc (Bz x0 x1)).2.2).1
def It:Bool:=allT [Lp.fin dc (Bz x0 x1)]
end
def Tb:List SV→List Entry→Option Out
 | [.one ⟨false,[.ref 0]⟩,.one ⟨false,[.val (.int .i64 x0)]⟩],[.row false 2 (.int .i64) x1]=>some ⟨.one ⟨false,[.val (.int .i64 (Dv x0 x1))]⟩,[.row false 2 agJ x1],[],[It x0 x1]⟩
 |_,_=>none
def aeC:PF prog:=PF.ofG prog [] [dc.F] aP 35 f35 func35 (LOk.fnT (l:= [aL f35 0]) (by kernel_rfl) (.cons UY (.nil _))) Tb (by
 intro vs es r h;unfold Tb at h;split at h
 ·cases h;kernel_rfl
 ·cases h)
def blk(p:Int):Int:=Int.tdiv p 3
def inR(a lo hi:Int):Bool:=leI lo a&&leI a hi
def eqL(xs ys:List Int):Bool:=decide (xs=ys)
theorem EG{a lo hi:Int}:inR a lo hi=true↔lo≤a∧a≤hi:=by simp [inR]
theorem TT(a lo hi:Int):(bif leI lo a then leI a hi else false)=inR a lo hi:=by
 unfold inR;cases leI lo a <;> rfl
def td(y1:List Int)(b:Nat):(List Int)→Nat ⊕ (List Int)
 |y2=>(.inr (List.set y2 b (Option.getD y1[b]? (0:Int))))
def pH(y1:List Int)(i:Nat):(List Int)→my
 |y2=>((i:Int),y1,y2)
def KU:my→List Int
 |(_,_,y2)=>y2
theorem adQ(y1 y2:List Int)(hn:y1.length≤9223372036854775807)(hl:y2.length=y1.length):
  gA.fin ((0:Int),y1,y2)=true∧gA.res ((0:Int),y1,y2)=((af (td y1) 0 (List.range y1.length) 0 y2).1,(pH y1) (af (td y1) 0 (List.range y1.length) 0 y2).2.1 (af (td y1) 0 (List.range y1.length) 0 y2).2.2):=by
 have iY:=gA.along (pH y1) KU (td y1) 0 (fun _ a=>a.length=y1.length) (List.range y1.length) y2 hl (by simp only [gA,pH,List.length_range];omega) (fun i b a hb hI=> ?_) (fun a hI=> ?_)
 ·exact iY
 ·obtain y2:=a
  obtain⟨rfl,eB⟩:=oC hb
  have hw:IntKind.i64.wrap ((b:Int) + 1)=((b + 1:Nat):Int):=by rw [bc (by omega) (by omega)];omega
  have bW:ltI (b:Int) (y1.length:Int)=true:=et (by omega)
  have vL:leI (0:Int) (b:Int)=true:=bv (by omega)
  have im:ltN b y1.length=true:=gu (by omega)
  refine⟨?_,?_,?_,?_⟩
  ·simp [wR,wS,BG,BH,BI,BJ,BK,Ap,gA,LT.nds,allT,pH,bW,vL,im,hI]
  ·simp [wR,wS,BG,BH,BI,BJ,BK,Ap,gA,LT.each,pH,KU,hw,hI]
  ·simp only [wR,wS,BG,BH,BI,BJ,BK,Ap,gA,LT.fn,pH,KU,td,Int.toNat_natCast,bW,cond_true]
  ·intro a' hf;simp only [td,Sum.inr.injEq]at hf;subst hf;simpa using hI
 ·obtain y2:=a
  simp [wR,wS,BG,BH,BI,BJ,BK,Ap,gA,LT.out,pH,List.length_range]
def Bb(y1 y2:List Int)(b:Nat):(Unit)→Nat ⊕ (Unit)
 |_=>(bif(Option.getD y1[b]? (0:Int)!=Option.getD y2[b]? (0:Int))then(.inl 0)else(.inr ()))
def sm(y1 y2:List Int)(i:Nat):(Unit)→mw
 |_=>((i:Int),y1,y2)
def KT:mw→Unit
 |(_,_,_)=>()
theorem adP(y1 y2:List Int) (hn:y1.length≤9223372036854775807) (he:y2.length=y1.length):
  eX.fin ((0:Int),y1,y2)=true∧eX.res ((0:Int),y1,y2)=((af (Bb y1 y2) 1 (List.range y1.length) 0 ()).1,(sm y1 y2) (af (Bb y1 y2) 1 (List.range y1.length) 0 ()).2.1 (af (Bb y1 y2) 1 (List.range y1.length) 0 ()).2.2):=by
 have iY:=eX.along (sm y1 y2) KT (Bb y1 y2) 1 (fun _ _=>True) (List.range y1.length) () (by trivial) (by simp only [eX,sm,List.length_range];omega) (fun i b a hb hI=> ?_) (fun a hI=> ?_)
 ·exact iY
 ·obtain⟨⟩:=a
  obtain⟨rfl,eB⟩:=oC hb
  have hw:IntKind.i64.wrap ((b:Int) + 1)=((b + 1:Nat):Int):=by rw [bc (by omega) (by omega)];omega
  have bW:ltI (b:Int) (y1.length:Int)=true:=et (by omega)
  have vL:leI (0:Int) (b:Int)=true:=bv (by omega)
  have im:ltN b y1.length=true:=gu (by omega)
  refine⟨?_,?_,?_,?_⟩
  ·simp [wM,wN,Bt,Bu,Bv,Bw,Bx,Ao,eX,LT.nds,allT,sm,bW,vL,im,he]
  ·simp [wM,wN,Bt,Bu,Bv,Bw,Bx,Ao,eX,LT.each,sm,KT,hw,he]
  ·simp only [wM,wN,Bt,Bu,Bv,Bw,Bx,Ao,eX,LT.fn,sm,KT,Bb,Int.toNat_natCast,bW,cond_true]
  ·exact fun _ _=>trivial
 ·obtain⟨⟩:=a
  simp [wM,wN,Bt,Bu,Bv,Bw,Bx,Ao,eX,LT.out,sm,List.length_range]
def qB(b:Nat):(Int×List Int)→Nat ⊕ (Int×List Int)
 |(y1,y2)=>(.inr ((IntKind.wrap .i64 (y1 + (1:Int))),(List.set y2 b y1)))
def le(i:Nat):(Int×List Int)→ka
 |(y1,y2)=>((i:Int),y1,y2)
def HW:ka→Int×List Int
 |(_,y1,y2)=>(y1,y2)
theorem aag(y1:Int)(y2:List Int)(n:Nat)(hl:y2.length=n)(hn:n≤9223372036854775807):
  ez.fin ((0:Int),y1,y2)=true∧ez.res ((0:Int),y1,y2)=((af (qB) 0 (List.range n) 0 (y1,y2)).1,(le) (af (qB) 0 (List.range n) 0 (y1,y2)).2.1 (af (qB) 0 (List.range n) 0 (y1,y2)).2.2):=by
 have iY:=ez.along (le) HW (qB) 0 (fun _ a=>a.2.length=n) (List.range n) (y1,y2) hl (by simp only [ez,le,List.length_range];omega) (fun i b a hb hI=> ?_) (fun a hI=> ?_)
 ·exact iY
 ·obtain⟨y1,y2⟩:=a
  obtain⟨rfl,eB⟩:=oC hb
  have hI0:y2.length=n:=hI
  have hw:IntKind.i64.wrap ((b:Int) + 1)=((b + 1:Nat):Int):=by rw [bc (by omega) (by omega)];omega
  have bW:ltI (b:Int) (y2.length:Int)=true:=et (by omega)
  have vL:leI (0:Int) (b:Int)=true:=bv (by omega)
  have im:ltN b y2.length=true:=gu (by omega)
  refine⟨?_,?_,?_,?_⟩
  ·simp [tU,xK,xL,xM,xN,xO,wq,ez,LT.nds,allT,le,bW,vL,im]
  ·simp [tU,xK,xL,xM,xN,xO,wq,ez,LT.each,le,HW,hw]
  ·simp only [tU,xK,xL,xM,xN,xO,wq,ez,LT.fn,le,HW,qB,Int.toNat_natCast,bW,vL,im,cond_true,Bool.cond_self]
  ·intro a' hf;simp only [qB,Sum.inr.injEq]at hf;subst hf;simp [hI0]
 ·obtain⟨y1,y2⟩:=a
  have hI0:y2.length=n:=hI
  simp [tU,xK,xL,xM,xN,xO,wq,ez,LT.out,le,hI0,List.length_range]
def tJ(b:Int):(Int)→Nat ⊕ (Int)
 |y1=>(bif(b !=y1)then(.inl 0)else(.inr (IntKind.wrap .i64 (y1 + (1:Int)))))
def nr(y2:List Int)(i:Nat):(Int)→jZ
 |y1=>((i:Int),y1,y2)
def HV:jZ→Int
 |(_,y1,_)=>y1
theorem Qw(y2:List Int)(y1:Int)(hn:y2.length≤9223372036854775807):
  dc.fin ((0:Int),y1,y2)=true∧dc.res ((0:Int),y1,y2)=((af (tJ) 1 y2 0 y1).1,(nr y2) (af (tJ) 1 y2 0 y1).2.1 (af (tJ) 1 y2 0 y1).2.2):=by
 have iY:=dc.along (nr y2) HV (tJ) 1 (fun _ _=>True) y2 y1 (by trivial) (by simp only [dc,nr];omega) (fun i b a hb hI=> ?_) (fun a hI=> ?_)
 ·exact iY
 ·obtain y1:=a
  have eB:=(List.getElem?_eq_some_iff.1 hb).1
  have gZ: ∀ d,Option.getD y2[i]? d=b:=fun d=>by rw [hb];rfl
  have hw:=sX eB hn
  have bW:ltI (i:Int) (y2.length:Int)=true:=et (by omega)
  have vL:leI (0:Int) (i:Int)=true:=bv (by omega)
  have im:ltN i y2.length=true:=gu eB
  refine⟨?_,?_,?_,?_⟩
  ·simp [tS,xF,xG,xH,tT,xI,xJ,wo,dc,LT.nds,allT,nr,bW,vL,im,gZ]
  ·simp [tS,xF,xG,xH,tT,xI,xJ,wo,dc,LT.each,nr,HV,hw]
  ·simp only [tS,xF,xG,xH,tT,xI,xJ,wo,dc,LT.fn,nr,HV,tJ,Int.toNat_natCast,bW,vL,im,gZ,cond_true,Bool.cond_self]
  ·exact fun _ _=>trivial
 ·obtain y1:=a
  simp [tS,xF,xG,xH,tT,xI,xJ,wo,dc,LT.out,nr]
theorem anZ(xs:List Int)(hn:leN xs.length 1048576=true):LQ xs=xs∧LR xs=true:=by
 have hn:=io.1 hn
 have hr:(List.replicate (Int.toNat (xs.length:Int)) (0:Int)).length=xs.length:=by simp
 obtain⟨w1,w2⟩:=adQ xs (List.replicate (Int.toNat (xs.length:Int)) (0:Int)) (by omega) hr
 have hc:=Vp (xs:=xs) (d:=(0:Int)) (g:=fun x=>x) (f:=td xs) (e:=0) (fun b a=>rfl) hr
 rw [hc]at w2
 refine⟨?_,?_⟩
 ·simp only [Kn,LQ,LR,w2,pH];simp
 ·simp only [Kn,LQ,LR,w1,allT];simp;omega
def WW:List SV→List Entry→Option Out
 | [.one ⟨false,[.ref 0]⟩],[.row false 2 (.int .i64) x0]=>some ⟨.one ⟨false,[.ref 1]⟩,[.row false 2 agJ x0],[.row true 2 agJ x0],[leN x0.length 1048576]⟩
 |_,_=>none
def CT:PF prog:=PF.alt agV WW (by
 intro args es o h cE;unfold WW at h;split at h
 ·rename_i x0
  cases h
  have cE:=mH cE
  have hh:=anZ x0 cE
  obtain⟨e0,en⟩:=hh
  exact rV rfl (md en) rfl rfl (by simp only [e0] <;> rfl)
 ·cases h)
theorem anu(xs ys:List Int)(hn:leN xs.length 9223372036854775807=true):LH xs ys=eqL xs ys∧LI xs ys=true:=by
 have hn:=io.1 hn
 unfold eqL
 by_cases hl:ys.length=xs.length
 ·obtain⟨w1,w2⟩:=adP xs ys hn hl
  have ha:=ajG (d:=(0:Int)) hl (P:=fun b=>Option.getD xs[b]? 0 !=Option.getD ys[b]? 0) (fun b=>by simp [bne,BEq.beq])
  rw [iQ (P:=fun b=>Option.getD xs[b]? 0 !=Option.getD ys[b]? 0) (j:=0) (fun b=>rfl),ha]at w2
  simp only [Kf,Kg,LH,LI,w1,w2,allT]
  by_cases he:xs=ys
  ·subst he;simp;decide
  ·simp [he,hl]
 ·have Ql:xs≠ys:=fun h=>hl (by rw [h])
  simp [Kf,Kg,LH,LI,allT,Ql]
  omega
def WT:List SV→List Entry→Option Out
 | [.one ⟨false,[.ref 0]⟩,.one ⟨false,[.ref 1]⟩],[.row false 2 (.int .i64) x0,.row false 2 (.int .i64) x1]=>some ⟨.one ⟨false,[.val (.bool (eqL x0 x1))]⟩,[.row false 2 agJ x0,.row false 2 agJ x1],[],[leN x0.length 9223372036854775807]⟩
 |_,_=>none
def CR:PF prog:=PF.alt agT WT (by
 intro args es o h cE;unfold WT at h;split at h
 ·rename_i x0 x1
  cases h
  have cE:=mH cE
  have hh:=anu x0 x1 cE
  obtain⟨e0,en⟩:=hh
  exact rV rfl (md en) (by simp only [e0] <;> rfl) rfl rfl
 ·cases h)
def abg(k:Int)(n:Nat):Bool:=leI 0 k&&leI (k + n) 9223372036854775807
theorem Oh{k:Int}{n:Nat}:abg k n=true↔0≤k∧k + n≤9223372036854775807:=by simp [abg]
theorem ak7(k:Int)(xs:List Int)(h:abg k xs.length=true):Dw k xs=k + xs.length∧Dx k xs=AF k xs.length∧Dy k xs=true:=by
 obtain⟨h0,h1⟩:=Oh.1 h
 obtain⟨w1,w2⟩:=aag k xs xs.length rfl (by omega)
 rw [an0 (f:=qB) (fun b k xs=>rfl) h0 h1]at w2
 refine⟨?_,?_,?_⟩
 ·simp only [BD,BE,Dw,Dx,Dy,w2,le]
 ·simp only [BD,BE,Dw,Dx,Dy,w2,le]
 ·simp only [BD,BE,Dw,Dx,Dy,w1,allT,cond_true]
def Tg:List SV→List Entry→Option Out
 | [.one ⟨false,[.ref 0]⟩,.one ⟨false,[.val (.int .i64 x0)]⟩],[.row true 2 (.int .i64) x1]=>some ⟨.one ⟨false,[.val (.int .i64 (x0 + (x1.length:Int)))]⟩,[.row true 2 agJ (AF x0 x1.length)],[],[abg x0 x1.length]⟩
 |_,_=>none
def zj:PF prog:=PF.alt aeD Tg (by
 intro args es o h cE;unfold Tg at h;split at h
 ·rename_i x0 x1
  cases h
  have cE:=mH cE
  have hh:=ak7 x0 x1 cE
  obtain⟨e0,e1,en⟩:=hh
  exact rV rfl (md en) (by simp only [e0] <;> rfl) (by simp only [e1] <;> rfl) rfl
 ·cases h)
def UV(k:Int)(xs:List Int):Int:=Dv k xs
theorem aon(k:Int)(n:Nat)(h:abg k n=true):UV k (AF k n)=k + n:=by
 obtain⟨h0,h1⟩:=Oh.1 h
 obtain⟨w1,w2⟩:=Qw (AF k n) k (by rw [Qh];omega)
 rw [ajD (f:=tJ) (fun b k=>rfl) h0 h1]at w2
 simp only [UV,Bz,Dv,It,w2,nr]
 rfl
theorem akQ(k:Int)(xs:List Int)(h:leN xs.length 9223372036854775807=true):Dv k xs=UV k xs∧It k xs=true:=by
 obtain⟨w1,w2⟩:=Qw xs k (io.1 h)
 exact⟨rfl,by simp only [Bz,Dv,It,w1,allT,cond_true]⟩
def Tf:List SV→List Entry→Option Out
 | [.one ⟨false,[.ref 0]⟩,.one ⟨false,[.val (.int .i64 x0)]⟩],[.row false 2 (.int .i64) x1]=>some ⟨.one ⟨false,[.val (.int .i64 (UV x0 x1))]⟩,[.row false 2 agJ x1],[],[leN x1.length 9223372036854775807]⟩
 |_,_=>none
def zi:PF prog:=PF.alt aeC Tf (by
 intro args es o h cE;unfold Tf at h;split at h
 ·rename_i x0 x1
  cases h
  have cE:=mH cE
  have hh:=akQ x0 x1 cE
  obtain⟨e0,en⟩:=hh
  exact rV rfl (md en) (by simp only [e0] <;> rfl) rfl rfl
 ·cases h)
def szV(k:Int)(xs:List Int):Int:=bif ltI (k - xs.length) 0 then -1 else k - xs.length
theorem anX(k:Int)(xs:List Int)(h:(leN xs.length 9223372036854775807&&(leI (-1) k&&leI k 1048576))=true):QJ k xs=szV k xs:=by
 simp only [Bool.and_eq_true,io,DR]at h
 simp only [Pt,QJ,szV]
 rw [bc (by omega) (by omega)]
def WV:List SV→List Entry→Option Out
 | [.one ⟨false,[.ref 0]⟩,.one ⟨false,[.val (.int .i64 x0)]⟩],[.row false 2 (.int .i64) x1]=>some ⟨.one ⟨false,[.val (.int .i64 (szV x0 x1))]⟩,[.row false 2 agJ x1],[],[leN x1.length 9223372036854775807&&(leI (-1) x0&&leI x0 1048576)]⟩
 |_,_=>none
def CS:PF prog:=PF.alt agU WV (by
 intro args es o h cE;unfold WV at h;split at h
 ·rename_i x0 x1
  cases h
  have cE:=mH cE
  have hh:=anX x0 x1 cE
  have e0:=hh
  exact rV rfl (fun _ h=>by cases h) (by simp only [e0] <;> rfl) rfl rfl
 ·cases h)
theorem aoa(xs:List Int)(h:(leN 1 xs.length&&leN xs.length 1048576)=true):vg xs=true:=by
 simp only [Bool.and_eq_true,io]at h
 simp [vg,allT]
 omega
def af6:List SV→List Entry→Option Out
 | [.one ⟨false,[.val (.slice none 0 0)]⟩],[]=>some ⟨.one ⟨false,[.ref 0]⟩,[],[.row true 2 (.int .i64) []],[true]⟩
 |_,_=>none
def alh:PF prog:=PF.ofG prog [PF.raw prog] [] aP 194 f194 func194 (fun c _=>LOk.nil c) af6 (by
 intro vs es r h;unfold af6 at h;split at h
 ·cases h;kernel_rfl
 ·cases h)
def af5:List SV→List Entry→Option Out
 | [.one ⟨false,[.val (.slice (some _) 0 _)]⟩],[]=>some ⟨.one ⟨false,[.ref 0]⟩,[],[.row true 2 (.int .i64) []],[true]⟩
 |_,_=>none
def alg:PF prog:=PF.ofG prog [] [] aP 194 f194 func194 (fun c _=>LOk.nil c) af5 (by
 intro vs es r h;unfold af5 at h;split at h
 ·cases h;kernel_rfl
 ·cases h)
def Jg:List SV→List Entry→Option Out
 | [.one ⟨false,[.ref 0]⟩],[.row false 2 (.int .i64) x0]=>some ⟨.one ⟨false,[.ref 1]⟩,[.row false 2 (.int .i64) x0],[.row true 2 (.int .i64) x0],[leN x0.length 1048576]⟩
 |_,_=>none
def BZ:PF prog where
 k:=194
 F:=Jg
 ok:=by
  intro args es o h cE mem ρ w hp
  unfold Jg at h
  split at h
  ·rename_i x0
   cases h
   have hl:=cE _ (List.mem_singleton.2 rfl)
   cases x0 with
   |nil=>
    exact(an9 alh alg rfl rfl rfl (fun _ _=>rfl) (by simp) (by simp) hp).mono fun en w' ⟨ρ',h1,h2,h3⟩=>⟨ρ',h1,h2,rfl,(by intro v hv;rw [List.mem_singleton.1 hv];rfl),h3⟩
   |cons x xs=>exact Sm.ok _ _ ⟨_,_,_,[vg (x::xs)]⟩ rfl (fun b hb=>by rw [List.mem_singleton.1 hb];exact aoa (x::xs) ((Bool.and_eq_true _ _).mpr ⟨dm (Nat.succ_pos _),hl⟩)) mem ρ w hp
  ·cases h
theorem apS(xs:List Int)(h:leN xs.length 1048576=true):Uf xs=true:=by
 have h:=io.1 h
 simp [Uf,allT]
 omega
def abK:List SV→List Entry→Option Out
 | [.one ⟨false,[.ref 0]⟩],[.row false 2 (.int .i64) x0]=>some ⟨.one ⟨false,[.ref 1]⟩,[.row false 2 agJ x0],[.row true 2 agJ x0],[leN x0.length 1048576]⟩
 |_,_=>none
def mG:PF prog:=PF.alt aiR abK (by
 intro args es o h cE;unfold abK at h;split at h
 ·rename_i x0
  cases h
  have cE:=mH cE
  have hh:=apS x0 cE
  have en:=hh
  exact rV rfl (md en) rfl rfl rfl
 ·cases h)
def FJ(x0:Int):Bool:=bif leI (97:Int) x0 then leI x0 (122:Int)else false
def UA:List SV→List Entry→Option Out
 | [.one ⟨false,[.val (.int .u8 x0)]⟩],[]=>some ⟨.one ⟨false,[.val (.bool (FJ x0))]⟩,[],[],[]⟩
 |_,_=>none
def PP:PF prog:=PF.ofG prog [] [] aP 277 f277 func277 (fun c _=>LOk.nil c) UA (by
 intro vs es r h;unfold UA at h;split at h
 ·cases h;kernel_rfl
 ·cases h)
def QS(x0:Int):Bool:=bif leI (48:Int) x0 then leI x0 (57:Int)else false
def WG:List SV→List Entry→Option Out
 | [.one ⟨false,[.val (.int .u8 x0)]⟩],[]=>some ⟨.one ⟨false,[.val (.bool (QS x0))]⟩,[],[],[]⟩
 |_,_=>none
def agX:PF prog:=PF.ofG prog [] [] aP 280 f280 func280 (fun c _=>LOk.nil c) WG (by
 intro vs es r h;unfold WG at h;split at h
 ·cases h;kernel_rfl
 ·cases h)
def LZ(x0:Int):Bool:=bif bif FJ x0 then true else QS x0 then true else x0==(95:Int)
def WH:List SV→List Entry→Option Out
 | [.one ⟨false,[.val (.int .u8 x0)]⟩],[]=>some ⟨.one ⟨false,[.val (.bool (LZ x0))]⟩,[],[],[]⟩
 |_,_=>none
def Xh:PF prog:=PF.ofG prog [PP,agX] [] aP 276 f276 func276 (fun c _=>LOk.nil c) WH (by
 intro vs es r h;unfold WH at h;split at h
 ·cases h;kernel_rfl
 ·cases h)
abbrev sr:=Int×ByteArray
section
variable (y0:Int)(y1:ByteArray)
def DX:Bool:=ltI y0 (↑(ByteArray.size y1):Int)
def Tv:Bool:=leI (0:Int) y0
def Oz:Bool:= !LZ (↑(UInt8.toNat (Option.getD y1[Int.toNat y0]? (0:UInt8))):Int)
def Tw:Int:=IntKind.wrap .i64 (y0 + (1:Int))
end
def aco:sr→List (Nat×SV)
 |(y0,y1)=> [(3,(.one ⟨false,[.val (.int .i64 y0)]⟩)),(0,(.one ⟨false,[.val (.string y1)]⟩))]
def ace:sr→List (Nat×Entry)
 |(_,_)=> []
def acI:Nat→sr→List (Nat×SV)
 |0,(_,_)=> [(2,(.one ⟨false,[.val (.bool false)]⟩))]
 |_,(_,_)=> []
def acy:Nat→sr→List (Nat×Entry)
 |0,(_,_)=> []
 |_,(_,_)=> []
def BU:sr→LT sr
 |(y0,y1)=> .ite (DX y0 y1) (.need [Tv y0,DX y0 y1] (.ite (Oz y0 y1) (.ext 0 []) (.nrm ((Tw y0),y1) []))) (.ext 1 [])
def ML(s:St):Option sr:=
 (match s.look 3 with
 |some ⟨none,.one ⟨false,[.val (.int .i64 y0)]⟩⟩=>
 (match s.look 0 with
 |some ⟨none,.one ⟨false,[.val (.string y1)]⟩⟩=>
 some (y0,y1)
 |_=>none)
 |_=>none)
def gr:Lp sr where
 h:=⟨[4,5,6,7,10,11,12,13,14,2,8,9,3],[],[],[]⟩
 JL:=aco
 JE:=ace
 XL:=acI
 XE:=acy
 q:=fun j=>match j with | 0=> .ret | _=> .exit 0
 tags:= [0,1]
 lt:=BU
 fuel:=fun(y0,y1)=>y0.natAbs + y1.size
 fix:=fun(_,y1) (y0,_)=>(y0,y1)
 σ:= []
 rd:=ML
theorem ZP:LoopOk prog (fun k=>Nat.blt k Tryz.f266.ntmps) gr.F (aL f266 0):=by
 refine Lp.ok (tbl:= [xx,Xh,PP]) (lf:= []) aP gr (by kernel_rfl) (LOk.nil _) (fun _=>rfl) (fun j _=>by unfold gr;match j with | 0=>rfl | _ + 1=>rfl) ?_ ?_ ?_ ?_ (fun _=>rfl) ?_
 ·rintro⟨y0,y1⟩;kernel_rfl
 ·rintro⟨y0,y1⟩;kernel_rfl
 ·intro s x h
  have h:ML s=some x:=h
  unfold ML at h
  repeat' split at h
  all_goals cases h
  exact⟨aa (by assumption) rfl (aa (by assumption) rfl (rfl)),rfl⟩
 ·rintro⟨y0,y1⟩;kernel_rfl
 ·rintro⟨y0,y1⟩ z;exact(And.intro (And.intro trivial rfl) trivial)
section
variable (x0:ByteArray)
def Ma:Bool:=Nat.beq ((Lp.res gr ((0:Int),x0)).1) (0:Nat)
def Mb:Bool:=bt (↑(ByteArray.size x0):Int) (1:Int) (12:Int)
def Ss:Bool:=bif Ma x0 then false else bif Mb x0 then FJ (↑(UInt8.toNat (Option.getD x0[Int.toNat (0:Int)]? (0:UInt8))):Int)else false
def Su:Bool:=allT [Lp.fin gr ((0:Int),x0),Ma x0||(!(Mb x0&&true)||leI (0:Int) (0:Int)),Ma x0||(!(Mb x0&&true)||ltI (0:Int) (↑(ByteArray.size x0):Int))]
end
def Yl:List SV→List Entry→Option Out
 | [.one ⟨false,[.val (.string x0)]⟩],[]=>some ⟨.one ⟨false,[.val (.bool (Ss x0))]⟩,[],[],[Su x0]⟩
 |_,_=>none
def ah6:PF prog:=PF.ofG prog [xx,Xh,PP] [gr.F] aP 266 f266 func266 (LOk.fnT (l:= [aL f266 0]) (by kernel_rfl) (.cons ZP (.nil _))) Yl (by
 intro vs es r h;unfold Yl at h;split at h
 ·cases h;kernel_rfl
 ·cases h)
def MP:List ByteArray:=
 [{ data:= #[(112:UInt8),(114:UInt8),(111:UInt8),(103:UInt8),(114:UInt8),(97:UInt8),(109:UInt8)] },
 {data:= #[(105:UInt8),(110:UInt8)] },{ data:= #[(118:UInt8),(97:UInt8),(114:UInt8)] },
 {data:= #[(111:UInt8),(117:UInt8),(116:UInt8)] },{ data:= #[(103:UInt8),(117:UInt8),(97:UInt8),(114:UInt8),(100:UInt8)] },
 {data:= #[(101:UInt8),(110:UInt8),(100:UInt8)] },{ data:= #[(97:UInt8),(110:UInt8),(100:UInt8)] },
 {data:= #[(111:UInt8),(114:UInt8)] },{ data:= #[(110:UInt8),(111:UInt8),(116:UInt8)] },
 {data:= #[(116:UInt8),(114:UInt8),(117:UInt8),(101:UInt8)] },
 {data:= #[(102:UInt8),(97:UInt8),(108:UInt8),(115:UInt8),(101:UInt8)] },{ data:= #[(111:UInt8),(110:UInt8)] },
 {data:= #[(111:UInt8),(102:UInt8),(102:UInt8)] },{ data:= #[(114:UInt8),(105:UInt8),(115:UInt8),(101:UInt8)] },
 {data:= #[(108:UInt8),(97:UInt8),(116:UInt8),(99:UInt8),(104:UInt8)] },
 {data:= #[(99:UInt8),(111:UInt8),(117:UInt8),(110:UInt8),(116:UInt8)] },
 {data:= #[(112:UInt8),(97:UInt8),(105:UInt8),(114:UInt8)] }]
def RG:List SV→List Entry→Option Out
 | [],[]=>some ⟨.one ⟨false,[.ref 0]⟩,[],[.row true 9 ahF (MP)],[]⟩
 |_,_=>none
def Sn:PF prog:=PF.ofG prog [] [] aP 278 f278 func278 (fun c _=>LOk.nil c) RG (by
 intro vs es r h;unfold RG at h;split at h
 ·cases h;kernel_rfl
 ·cases h)
abbrev kb:=Int×ByteArray×List ByteArray
section
variable (y0:Int)(y1:ByteArray)(y2:List ByteArray)
def ug:Bool:=ltI y0 (↑y2.length:Int)
def yt:Bool:=leI (0:Int) y0
def yu:Bool:=ltN y0.toNat y2.length
def yw:Bool:=ByteArray.toList (Option.getD y2[Int.toNat y0]? ByteArray.empty)==ByteArray.toList y1
def yx:Int:=IntKind.wrap .i64 (y0 + (1:Int))
end
def Xz:kb→List (Nat×SV)
 |(y0,y1,_)=> [(4,(.one ⟨false,[.val (.int .i64 y0)]⟩)),(3,(.one ⟨false,[.ref 0]⟩)),(0,(.one ⟨false,[.val (.string y1)]⟩))]
def Xu:kb→List (Nat×Entry)
 |(_,_,y2)=> [(0,(.row true 9 ahF y2))]
def XK:Nat→kb→List (Nat×SV)
 |0,(y0,_,_)=> [(2,(.one ⟨false,[.val (.int .i64 y0)]⟩))]
 |_,(_,_,_)=> []
def XF:Nat→kb→List (Nat×Entry)
 |0,(_,_,y2)=> [(0,(.row true 9 ahF y2))]
 |_,(_,_,y2)=> [(0,(.row true 9 ahF y2))]
def ws:kb→LT kb
 |(y0,y1,y2)=> .ite (ug y0 y2) (.need [yt y0,ug y0 y2,yu y0 y2] (.ite (yw y0 y1 y2) (.ext 0 [(0,0)]) (.nrm ((yx y0),y1,y2) [(0,0)]))) (.ext 1 [(0,0)])
def Ib(s:St):Option kb:=
 (match s.look 4 with
 |some ⟨none,.one ⟨false,[.val (.int .i64 y0)]⟩⟩=>
 (match s.look 3 with
 |some ⟨none,.one ⟨false,[.ref 128]⟩⟩=>
 (match s.look 0 with
 |some ⟨none,.one ⟨false,[.val (.string y1)]⟩⟩=>
 (match s.ent 128 with
 |some (.row true 9 (.str) y2)=>
 some (y0,y1,y2)
 |_=>none)
 |_=>none)
 |_=>none)
 |_=>none)
def dd:Lp kb where
 h:=⟨[6,7,8,9,12,13,14,15,16,17,18,2,10,11,4],[0],[],[]⟩
 JL:=Xz
 JE:=Xu
 XL:=XK
 XE:=XF
 q:=fun j=>match j with | 0=> .ret | _=> .exit 0
 tags:= [0,1]
 lt:=ws
 fuel:=fun(y0,y1,y2)=>y0.natAbs + y1.size + y2.length
 fix:=fun(_,y1,y2) (y0,_,_)=>(y0,y1,y2)
 σ:= [(0,128)]
 rd:=Ib
theorem Va:LoopOk prog (fun k=>Nat.blt k Tryz.f267.ntmps) dd.F (aL f267 0):=by
 refine Lp.ok (tbl:= [Sn]) (lf:= []) aP dd (by kernel_rfl) (LOk.nil _) (fun _=>rfl) (fun j _=>by unfold dd;match j with | 0=>rfl | _ + 1=>rfl) ?_ ?_ ?_ ?_ (fun _=>rfl) ?_
 ·rintro⟨y0,y1,y2⟩;kernel_rfl
 ·rintro⟨y0,y1,y2⟩;kernel_rfl
 ·intro s x h
  have h:Ib s=some x:=h
  unfold Ib at h
  repeat' split at h
  all_goals cases h
  exact⟨aa (by assumption) rfl (aa (by assumption) rfl (aa (by assumption) rfl (rfl))),ab rfl (by assumption) rfl (rfl)⟩
 ·rintro⟨y0,y1,y2⟩;kernel_rfl
 ·rintro⟨y0,y1,y2⟩ z;exact(And.intro (And.intro trivial rfl) trivial)
section
variable (x0:ByteArray)
def GX:Int×ByteArray×List ByteArray:=((0:Int),x0,MP)
def IL:Int:=bif Nat.beq ((Lp.res dd (GX x0)).1) (0:Nat)then ((Lp.res dd (GX x0)).2).1else(-1:Int)
def IM:Bool:=allT [Lp.fin dd (GX x0)]
end
def Td:List SV→List Entry→Option Out
 | [.one ⟨false,[.val (.string x0)]⟩],[]=>some ⟨.one ⟨false,[.val (.int .i64 (IL x0))]⟩,[],[],[IM x0]⟩
 |_,_=>none
def aeE:PF prog:=PF.ofG prog [Sn] [dd.F] aP 267 f267 func267 (LOk.fnT (l:= [aL f267 0]) (by kernel_rfl) (.cons Va (.nil _))) Td (by
 intro vs es r h;unfold Td at h;split at h
 ·cases h;kernel_rfl
 ·cases h)
def uK(x0:ByteArray)(x1:Int):Int:=ibs x0 x1
def CY:List SV→List Entry→Option Out
 | [.one ⟨false,[.val (.string x0)]⟩,.one ⟨false,[.val (.int .u8 x1)]⟩],[]=>some ⟨.one ⟨false,[.val (.int .i64 (uK x0 x1))]⟩,[],[],[]⟩
 |_,_=>none
def Oj:PF prog:=PF.ofG prog [] [] aP 279 f279 func279 (fun c _=>LOk.nil c) CY (by
 intro vs es r h;unfold CY at h;split at h
 ·cases h;kernel_rfl
 ·cases h)
def Fa(x0:ByteArray)(x1:Int):Int:=uK x0 x1
def Rd:List SV→List Entry→Option Out
 | [.one ⟨false,[.val (.string x0)]⟩,.one ⟨false,[.val (.int .u8 x1)]⟩],[]=>some ⟨.one ⟨false,[.val (.int .i64 (Fa x0 x1))]⟩,[],[],[]⟩
 |_,_=>none
def KQ:PF prog:=PF.ofG prog [Oj] [] aP 273 f273 func273 (fun c _=>LOk.nil c) Rd (by
 intro vs es r h;unfold Rd at h;split at h
 ·cases h;kernel_rfl
 ·cases h)
abbrev AG:=Int×Int×ByteArray×ByteArray
section
variable (y0 y1:Int)(y2 y3:ByteArray)
def xE:Bool:=ltI (IntKind.wrap .i64 (y0 + y1)) (↑(ByteArray.size y2):Int)
def TR:Bool:= !(xE y0 y1 y2&&true)||leI (0:Int) (IntKind.wrap .i64 (y0 + y1))
def TS:Bool:= !(xE y0 y1 y2&&true)||xE y0 y1 y2
def Qa:Bool:=bif xE y0 y1 y2 then leI (0:Int) (Fa y3 (↑(UInt8.toNat (Option.getD y2[Int.toNat (IntKind.wrap .i64 (y0 + y1))]? (0:UInt8))):Int))else false
def abR:Int:=IntKind.wrap .i64 (y1 + (1:Int))
end
def ahe:AG→List (Nat×SV)
 |(y0,y1,y2,y3)=> [(1,(.one ⟨false,[.val (.int .i64 y0)]⟩)),(7,(.one ⟨false,[.val (.int .i64 y1)]⟩)),(0,(.one ⟨false,[.val (.string y2)]⟩)),(2,(.one ⟨false,[.val (.string y3)]⟩))]
def ahd:AG→List (Nat×Entry)
 |(_,_,_,_)=> []
def ahi:Nat→AG→List (Nat×SV)
 |_,(_,y1,_,_)=> [(7,(.one ⟨false,[.val (.int .i64 y1)]⟩))]
def ahh:Nat→AG→List (Nat×Entry)
 |_,(_,_,_,_)=> []
def Jw:AG→LT AG
 |(y0,y1,y2,y3)=> .need [TR y0 y1 y2,TS y0 y1 y2] (.ite (Qa y0 y1 y2 y3) (.nrm (y0,abR y1,y2,y3) []) (.ext 0 []))
def Sp(s:St):Option AG:=
 (match s.look 1 with
 |some ⟨none,.one ⟨false,[.val (.int .i64 y0)]⟩⟩=>
 (match s.look 7 with
 |some ⟨none,.one ⟨false,[.val (.int .i64 y1)]⟩⟩=>
 (match s.look 0 with
 |some ⟨none,.one ⟨false,[.val (.string y2)]⟩⟩=>
 (match s.look 2 with
 |some ⟨none,.one ⟨false,[.val (.string y3)]⟩⟩=>
 some (y0,y1,y2,y3)
 |_=>none)
 |_=>none)
 |_=>none)
 |_=>none)
def jR:Lp AG where
 h:=⟨[8,9,10,11,12,13,14,15,16,17,18,19,20,21,22,23,24,25,7],[],[],[]⟩
 JL:=ahe
 JE:=ahd
 XL:=ahi
 XE:=ahh
 q:=fun j=>match j with | _=> .exit 0
 tags:= [0]
 lt:=Jw
 fuel:=fun(y0,y1,y2,y3)=>y0.natAbs + y1.natAbs + y2.size + y3.size
 fix:=fun(y0,_,y2,y3) (_,y1,_,_)=>(y0,y1,y2,y3)
 σ:= []
 rd:=Sp
theorem afo:LoopOk prog (fun k=>Nat.blt k Tryz.f274.ntmps) jR.F (aL f274 0):=by
 refine Lp.ok (tbl:= [KQ]) (lf:= []) aP jR (by kernel_rfl) (LOk.nil _) (fun _=>rfl) (fun _ _=>rfl) ?_ ?_ ?_ ?_ (fun _=>rfl) ?_
 ·rintro⟨y0,y1,y2,y3⟩;kernel_rfl
 ·rintro⟨y0,y1,y2,y3⟩;kernel_rfl
 ·intro s x h
  have h:Sp s=some x:=h
  unfold Sp at h
  repeat' split at h
  all_goals cases h
  exact⟨aa (by assumption) rfl (aa (by assumption) rfl (aa (by assumption) rfl (aa (by assumption) rfl (rfl)))),rfl⟩
 ·rintro⟨y0,y1,y2,y3⟩;kernel_rfl
 ·rintro⟨y0,y1,y2,y3⟩ z;exact(And.intro rfl trivial)
section
variable (x0:ByteArray)(x1:Int)(x2:ByteArray)
def age:Int×Int×ByteArray×ByteArray:=(x1,(0:Int),x0,x2)
def ahI:Int:=((Lp.res jR (age x0 x1 x2)).2.2).1
def ahJ:Bool:=allT [Lp.fin jR (age x0 x1 x2)]
end
def ahc:List SV→List Entry→Option Out
 | [.one ⟨false,[.val (.string x0)]⟩,.one ⟨false,[.val (.int .i64 x1)]⟩,.one ⟨false,[.val (.string x2)]⟩],[]=>some ⟨.one ⟨false,[.val (.int .i64 (ahI x0 x1 x2))]⟩,[],[],[ahJ x0 x1 x2]⟩
 |_,_=>none
def amq:PF prog:=PF.ofG prog [KQ] [jR.F] aP 274 f274 func274 (LOk.fnT (l:= [aL f274 0]) (by kernel_rfl) (.cons afo (.nil _))) ahc (by
 intro vs es r h;unfold ahc at h;split at h
 ·cases h;kernel_rfl
 ·cases h)
def xD(x0:ByteArray):Bool:=sQ (↑(ByteArray.size x0):Int) (1:Int) (12:Int)
def Fw(x0:ByteArray):Bool:=
 bif xD x0 then
 leI (0:Int)
  (Fa
   {
    data:=
     #[(97:UInt8),(98:UInt8),(99:UInt8),(100:UInt8),(101:UInt8),(102:UInt8),(103:UInt8),(104:UInt8),(105:UInt8),
      (106:UInt8),(107:UInt8),(108:UInt8),(109:UInt8),(110:UInt8),(111:UInt8),(112:UInt8),(113:UInt8),(114:UInt8),
      (115:UInt8),(116:UInt8),(117:UInt8),(118:UInt8),(119:UInt8),(120:UInt8),(121:UInt8),(122:UInt8)] }
   (↑(UInt8.toNat (Option.getD x0[Int.toNat (0:Int)]? (0:UInt8))):Int))
 else false
def TP(x0:ByteArray):Bool:=
 bif Fw x0 then
 ahI x0 (0:Int)
   {
    data:=
     #[(97:UInt8),(98:UInt8),(99:UInt8),(100:UInt8),(101:UInt8),(102:UInt8),(103:UInt8),(104:UInt8),(105:UInt8),
      (106:UInt8),(107:UInt8),(108:UInt8),(109:UInt8),(110:UInt8),(111:UInt8),(112:UInt8),(113:UInt8),(114:UInt8),
      (115:UInt8),(116:UInt8),(117:UInt8),(118:UInt8),(119:UInt8),(120:UInt8),(121:UInt8),(122:UInt8),(48:UInt8),
      (49:UInt8),(50:UInt8),(51:UInt8),(52:UInt8),(53:UInt8),(54:UInt8),(55:UInt8),(56:UInt8),(57:UInt8),
      (95:UInt8)] } ==
  (↑(ByteArray.size x0):Int)
 else false
def TQ(x0:ByteArray):Bool:=
 allT
 [!(xD x0&&true)||leI (0:Int) (0:Int),!(xD x0&&true)||ltI (0:Int) (↑(ByteArray.size x0):Int),
  !(Fw x0&&true)||
   ahJ x0 (0:Int)
    {
     data:=
      #[(97:UInt8),(98:UInt8),(99:UInt8),(100:UInt8),(101:UInt8),(102:UInt8),(103:UInt8),(104:UInt8),(105:UInt8),
       (106:UInt8),(107:UInt8),(108:UInt8),(109:UInt8),(110:UInt8),(111:UInt8),(112:UInt8),(113:UInt8),(114:UInt8),
       (115:UInt8),(116:UInt8),(117:UInt8),(118:UInt8),(119:UInt8),(120:UInt8),(121:UInt8),(122:UInt8),(48:UInt8),
       (49:UInt8),(50:UInt8),(51:UInt8),(52:UInt8),(53:UInt8),(54:UInt8),(55:UInt8),(56:UInt8),(57:UInt8),
       (95:UInt8)] }]
def abv:List SV→List Entry→Option Out
 | [.one ⟨false,[.val (.string x0)]⟩],[]=>some ⟨.one ⟨false,[.val (.bool (TP x0))]⟩,[],[],[TQ x0]⟩
 |_,_=>none
def aiQ:PF prog:=PF.ofG prog [Ud,KQ,amq] [] aP 257 f257 func257 (fun c _=>LOk.nil c) abv (by
 intro vs es r h;unfold abv at h;split at h
 ·cases h;kernel_rfl
 ·cases h)
abbrev cO:=Int×Int×ByteArray×List ByteArray
section
variable (y0 y1:Int)(y2:ByteArray)(y3:List ByteArray)
def nc:Bool:=ltI y0 y1
def ne:Bool:=leI (0:Int) y0
def nf:Bool:=ltI y0 (↑y3.length:Int)
def ng:Bool:=ltN y0.toNat y3.length
def nh:Bool:=ByteArray.toList y2==ByteArray.toList (Option.getD y3[Int.toNat y0]? ByteArray.empty)
def ni:Int:=IntKind.wrap .i64 (y0 + (1:Int))
end
def NN:cO→List (Nat×SV)
 |(y0,y1,y2,_)=> [(8,(.one ⟨false,[.val (.int .i64 y0)]⟩)),(7,(.one ⟨false,[.val (.int .i64 y1)]⟩)),(1,(.one ⟨false,[.val (.string y2)]⟩)),(0,(.one ⟨false,[.ref 0]⟩))]
def NM:cO→List (Nat×Entry)
 |(_,_,_,y3)=> [(0,(.row false 9 ahF y3))]
def NP:Nat→cO→List (Nat×SV)
 |0,(y0,_,_,_)=> [(4,(.one ⟨false,[.val (.int .i64 y0)]⟩))]
 |_,(_,_,_,_)=> []
def NO:Nat→cO→List (Nat×Entry)
 |0,(_,_,_,y3)=> [(0,(.row false 9 ahF y3))]
 |_,(_,_,_,y3)=> [(0,(.row false 9 ahF y3))]
def mc:cO→LT cO
 |(y0,y1,y2,y3)=> .ite (nc y0 y1) (.need [ne y0,nf y0 y3,ng y0 y3] (.ite (nh y0 y2 y3) (.ext 0 [(0,0)]) (.nrm ((ni y0),y1,y2,y3) [(0,0)]))) (.ext 1 [(0,0)])
def vf(s:St):Option cO:=
 (match s.look 8 with
 |some ⟨none,.one ⟨false,[.val (.int .i64 y0)]⟩⟩=>
 (match s.look 7 with
 |some ⟨none,.one ⟨false,[.val (.int .i64 y1)]⟩⟩=>
 (match s.look 1 with
 |some ⟨none,.one ⟨false,[.val (.string y2)]⟩⟩=>
 (match s.look 0 with
 |some ⟨none,.one ⟨false,[.ref 0]⟩⟩=>
 (match s.ent 0 with
 |some (.row false 9 (.str) y3)=>
 some (y0,y1,y2,y3)
 |_=>none)
 |_=>none)
 |_=>none)
 |_=>none)
 |_=>none)
def aR:Lp cO where
 h:=⟨[9,10,5,11,12,13,14,15,16,17,4,18,8],[0],[],[]⟩
 JL:=NN
 JE:=NM
 XL:=NP
 XE:=NO
 q:=fun j=>match j with | 0=> .ret | _=> .exit 0
 tags:= [0,1]
 lt:=mc
 fuel:=fun(y0,y1,y2,y3)=>y0.natAbs + y1.natAbs + y2.size + y3.length
 fix:=fun(_,y1,y2,y3) (y0,_,_,_)=>(y0,y1,y2,y3)
 σ:= [(0,0)]
 rd:=vf
theorem Mr:LoopOk prog (fun k=>Nat.blt k Tryz.f120.ntmps) aR.F (aL f120 0):=by
 refine Lp.ok (tbl:= []) (lf:= []) aP aR (by kernel_rfl) (LOk.nil _) (fun _=>rfl) (fun j _=>by unfold aR;match j with | 0=>rfl | _ + 1=>rfl) ?_ ?_ ?_ ?_ (fun _=>rfl) ?_
 ·rintro⟨y0,y1,y2,y3⟩;kernel_rfl
 ·rintro⟨y0,y1,y2,y3⟩;kernel_rfl
 ·intro s x h
  have h:vf s=some x:=h
  unfold vf at h
  repeat' split at h
  all_goals cases h
  exact⟨aa (by assumption) rfl (aa (by assumption) rfl (aa (by assumption) rfl (aa (by assumption) rfl (rfl)))),ab rfl (by assumption) rfl (rfl)⟩
 ·rintro⟨y0,y1,y2,y3⟩;kernel_rfl
 ·rintro⟨y0,y1,y2,y3⟩ z;exact(And.intro (And.intro trivial rfl) trivial)
section
variable (x0:ByteArray)(x1:List ByteArray)
def ow:Int×Int×ByteArray×List ByteArray:=((0:Int),(↑x1.length:Int),x0,x1)
def pd:Int:=bif Nat.beq ((Lp.res aR (ow x0 x1)).1) (0:Nat)then ((Lp.res aR (ow x0 x1)).2).1else(-1:Int)
def pe:Bool:=allT [Lp.fin aR (ow x0 x1)]
end
def Hj:List SV→List Entry→Option Out
 | [.one ⟨false,[.ref 0]⟩,.one ⟨false,[.val (.string x0)]⟩],[.row false 9 (.str) x1]=>some ⟨.one ⟨false,[.val (.int .i64 (pd x0 x1))]⟩,[.row false 9 ahF x1],[],[pe x0 x1]⟩
 |_,_=>none
def sZ:PF prog:=PF.ofG prog [] [aR.F] aP 120 f120 func120 (LOk.fnT (l:= [aL f120 0]) (by kernel_rfl) (.cons Mr (.nil _))) Hj (by
 intro vs es r h;unfold Hj at h;split at h
 ·cases h;kernel_rfl
 ·cases h)
def gY(x0:ByteArray)(x1:List ByteArray):Bool:=leI (0:Int) (pd x0 x1)
def jU(x0:ByteArray)(x1:List ByteArray):Bool:=allT [pe x0 x1]
def Et:List SV→List Entry→Option Out
 | [.one ⟨false,[.ref 0]⟩,.one ⟨false,[.val (.string x0)]⟩],[.row false 9 (.str) x1]=>some ⟨.one ⟨false,[.val (.bool (gY x0 x1))]⟩,[.row false 9 ahF x1],[],[jU x0 x1]⟩
 |_,_=>none
def cP:PF prog:=PF.ofG prog [sZ,PF.lend sZ,PF.fz sZ] [] aP 234 f234 func234 (fun c _=>LOk.nil c) Et (by
 intro vs es r h;unfold Et at h;split at h
 ·cases h;kernel_rfl
 ·cases h)
def Ph(x0:ByteArray):Bool:=gY x0 (List.drop (Int.toNat (0:Int)) (List.take (Int.toNat (↑(List.length aae):Int)) aae))
def Pj(x0:ByteArray):Bool:=allT [jU x0 (List.drop (Int.toNat (0:Int)) (List.take (Int.toNat (↑(List.length aae):Int)) aae))]
def Uj:List SV→List Entry→Option Out
 | [.one ⟨false,[.val (.string x0)]⟩],[]=>some ⟨.one ⟨false,[.val (.bool (Ph x0))]⟩,[],[],[Pj x0]⟩
 |_,_=>none
def afB:PF prog:=PF.ofG prog [cP,PF.lend cP,PF.fz cP] [] aP 258 f258 func258 (fun c _=>LOk.nil c) Uj (by
 intro vs es r h;unfold Uj at h;split at h
 ·cases h;kernel_rfl
 ·cases h)
theorem Lp.scan{X:Type}(p:Lp X)(st:Nat→X)(N:Nat)(P:Nat→Bool)(e:Nat)(hN:N≤p.fuel (st 0))
  (hs: ∀ b,b < N→(p.lt (st b)).nds=true∧(p.lt (st b)).each (fun y=>y=st (b + 1))∧(p.lt (st b)).fn (fun _=>())=(bif P b then .inl 0 else .inr ()))
  (he:(p.lt (st N)).out=some (.inl e)):p.fin (st 0)=true∧(p.res (st 0)).1=bif(List.range N).any P then 0 else e:=by
 have iY:=p.along (fun i (_:Unit)=>st i) (fun _=>()) (fun(b:Nat) (_:Unit)=>bif P b then .inl 0 else .inr ()) e (fun _ _=>True) (List.range N) () trivial (by rw [List.length_range];exact hN)
  (fun i b a hb _=>by
   obtain⟨rfl,eB⟩:=oC hb
   obtain⟨h1,h2,h3⟩:=hs b eB
   exact⟨h1,h2,h3,fun _ _=>trivial⟩) (fun a _=>by rw [List.length_range];exact he)
 rw [iQ (P:=P) (j:=0) (fun b=>rfl)]at iY
 exact⟨iY.1,by rw [iY.2]⟩
def bAt(s:ByteArray)(b:Nat):Int:=((s[b]?.getD 0).toNat:Int)
def ak4(c:Int):Bool:=inR c 97 122
def XO(c:Int):Bool:=ak4 c||(inR c 48 57||c==95)
def Rp(s:ByteArray):Bool:=inR (s.size:Int) 1 12&&(ak4 (bAt s 0)&&(List.range s.size).all fun b=>XO (bAt s b))
def amj(s:ByteArray):Bool:=aae.any fun k=>k.toList==s.toList
def mt(s:ByteArray):Bool:=Rp s&& !amj s
def apA:ByteArray:=⟨#[97,98,99,100,101,102,103,104,105,106,107,108,109,110,111,112,113,114,115,116,117,118,119,120,121,122]⟩
def wbS:ByteArray:=⟨#[97,98,99,100,101,102,103,104,105,106,107,108,109,110,111,112,113,114,115,116,117,118,119,120,121,122,48,49,50,51,52,53,54,55,56,57,95]⟩
theorem aoS: ∀ n:Nat,n < 256→leI 0 (ibs apA (n:Int))=ak4 (n:Int):=by decide +kernel
theorem apZ: ∀ n:Nat,n < 256→leI 0 (ibs wbS (n:Int))=XO (n:Int):=by decide +kernel
theorem apB(s:ByteArray)(b:Nat):leI 0 (ibs apA (bAt s b))=ak4 (bAt s b):=aoS _ (UInt8.toNat_lt _)
theorem aqd(s:ByteArray)(b:Nat):leI 0 (ibs wbS (bAt s b))=XO (bAt s b):=apZ _ (UInt8.toNat_lt _)
theorem anU(c:Int):LZ c=XO c:=by
 simp only [LZ,FJ,QS,TT,XO,ak4]
 cases inR c 97 122 <;> cases inR c 48 57 <;> rfl
theorem amV(s:ByteArray)(hn:s.size≤9223372036854775807):
  gr.fin ((0:Int),s)=true∧(gr.res ((0:Int),s)).1=bif(List.range s.size).any (fun b=> !XO (bAt s b))then 0 else 1:=by
 refine Lp.scan gr (fun b=>((b:Int),s)) s.size (fun b=> !XO (bAt s b)) 1 (by simp only [gr];omega) (fun b hb=> ?_) ?_
 ·have bW:ltI (b:Int) (s.size:Int)=true:=et (by omega)
  have hw:IntKind.i64.wrap ((b:Int) + 1)=((b + 1:Nat):Int):=by rw [bc (by omega) (by omega)];omega
  have vL:leI (0:Int) (b:Int)=true:=bv (by omega)
  have i2:Oz (b:Int) s= !XO (bAt s b):=by simp only [Oz,anU,Int.toNat_natCast,bAt]
  refine⟨?_,?_,?_⟩
  ·simp [gr,BU,LT.nds,allT,DX,Tv,bW,vL]
  ·simp [gr,BU,LT.each,Tw,hw]
  ·simp only [gr,BU,LT.fn,DX,bW,i2,cond_true]
 ·simp [gr,BU,LT.out,DX]
theorem alB(s:ByteArray)(h:leN s.size 9223372036854775807=true):Ss s=Rp s∧Su s=true:=by
 obtain⟨w1,w2⟩:=amV s (io.1 h)
 have e5:((List.range s.size).any fun b=> !XO (bAt s b))= !(List.range s.size).all fun b=>XO (bAt s b):=by simp [List.all_eq_not_any_not]
 rw [e5]at w2
 have eb:((UInt8.toNat (Option.getD s[Int.toNat (0:Int)]? (0:UInt8)):Nat):Int)=bAt s 0:=rfl
 have h0:leI 0 0=true:=rfl
 simp only [Ss,Su,Ma,Mb,w1,w2,eb,h0,FJ,bt,TT,Rp,ak4,allT,Bool.or_true,cond_true]
 cases hr:inR (s.size:Int) 1 12 with
 |false=>cases (List.range s.size).all fun b=>XO (bAt s b) <;> simp [Nat.beq]
 |true=>
  have:=EG.1 hr
  rw [et (by omega)]
  cases inR (bAt s 0) 97 122 <;> cases (List.range s.size).all fun b=>XO (bAt s b) <;> simp [Nat.beq]
theorem aqc(s:ByteArray)(hn:s.size≤9223372036854775806):
  jR.fin ((0:Int),(0:Int),s,wbS)=true∧((jR.res ((0:Int),(0:Int),s,wbS)).2.2.1==(s.size:Int))=(List.range s.size).all fun b=>XO (bAt s b):=by
 have hz: ∀ i:Nat,i≤s.size→IntKind.i64.wrap ((0:Int) + (i:Int))=(i:Int):=fun i hi=>by rw [bc (by omega) (by omega)];omega
 have iY:=jR.along (fun i (_:Unit)=>((0:Int),(i:Int),s,wbS)) (fun _=>()) (fun(b:Nat) (_:Unit)=>bif !XO (bAt s b)then .inl 0 else .inr ()) 0 (fun _ _=>True) (List.range s.size) () trivial (by simp only [jR,List.length_range];omega)
  (fun i b a hb _=>by
   obtain⟨rfl,eB⟩:=oC hb
   have bW:ltI (b:Int) (s.size:Int)=true:=et (by omega)
   have vL:leI (0:Int) (b:Int)=true:=bv (by omega)
   have hw:IntKind.i64.wrap ((b:Int) + 1)=((b + 1:Nat):Int):=by rw [bc (by omega) (by omega)];omega
   have ha:xE 0 (b:Int) s=true:=by simp only [xE,hz b (by omega),bW]
   have hb2:Qa 0 (b:Int) s wbS=XO (bAt s b):=by
    simp only [Qa,ha,cond_true,hz b (by omega),Int.toNat_natCast,Fa,uK]
    exact aqd s b
   refine⟨?_,?_,?_,fun _ _=>trivial⟩
   ·have hz2:=hz b (by omega)
    rw [Int.zero_add]at hz2
    simp [jR,Jw,LT.nds,allT,TR,TS,ha,hz2]
   ·simp [jR,Jw,LT.each,abR,hw]
   ·simp only [jR,Jw,LT.fn,hb2]
    cases XO (bAt s b) <;> rfl)
  (fun a _=>by
   have bW:ltI (s.size:Int) (s.size:Int)=false:=by simp
   have ha:xE 0 (s.size:Int) s=false:=by simp only [xE,hz s.size (by omega),bW]
   rw [List.length_range]
   simp [jR,Jw,LT.out,Qa,TR,TS,allT,ha])
 rw [iQ (P:=fun b=> !XO (bAt s b)) (j:=0) (fun b=>rfl)]at iY
 refine⟨iY.1,?_⟩
 have k2:jR.res ((0:Int),(0:Int),s,wbS)=_:=iY.2
 rw [k2]
 simp only [Nat.zero_add]
 rw [Bool.eq_iff_iff,beq_iff_eq,List.all_eq_true]
 have hl: ∀ (l:List Nat) (P:Nat→Bool),(l.takeWhile P).length=l.length↔ ∀ x∈l,P x=true:=by
  intro l P
  induction l with
  |nil=>simp
  |cons a r ih=>
   rw [List.takeWhile_cons]
   cases h:P a with
   |false=>simp [h]
   |true=>simp [h,ih]
 have h2:=hl (List.range s.size) (fun b=> !!XO (bAt s b))
 rw [List.length_range]at h2
 constructor
 ·intro h x hx;have:=h2.1 (by exact_mod_cast h) x hx;simpa using this
 ·intro h;exact_mod_cast h2.2 (fun x hx=>by simpa using h x hx)
theorem ak0(s:ByteArray):TP s=Rp s∧TQ s=true:=by
 have eb:((UInt8.toNat (Option.getD s[Int.toNat (0:Int)]? (0:UInt8)):Nat):Int)=bAt s 0:=rfl
 have e0:xD s=inR (s.size:Int) 1 12:=by simp only [xD,sQ,TT]
 have e1:Fw s=(inR (s.size:Int) 1 12&&ak4 (bAt s 0)):=by
  have:Fw s=bif xD s then leI 0 (ibs apA (bAt s 0))else false:=rfl
  rw [this,e0,apB]
  cases inR (s.size:Int) 1 12 <;> rfl
 have e2:TP s=bif Fw s then(jR.res ((0:Int),(0:Int),s,wbS)).2.2.1==(s.size:Int)else false:=rfl
 have e3:TQ s=allT [!(xD s&&true)||leI (0) (0),!(xD s&&true)||ltI (0) (↑(ByteArray.size s)),!(Fw s&&true)||allT [jR.fin ((0:Int),(0:Int),s,wbS)]]:=rfl
 have h0:leI 0 0=true:=rfl
 rw [e2,e3,e1,e0,h0]
 cases hr:inR (s.size:Int) 1 12 with
 |false=>simp [Rp,hr,allT]
 |true=>
  have:=EG.1 hr
  obtain⟨w1,w2⟩:=aqc s (by omega)
  rw [w1,w2,et (by omega)]
  simp only [Rp,hr,allT,Bool.true_and,Bool.and_true,Bool.or_true,cond_true]
  cases ak4 (bAt s 0) <;> simp
def xC(y1 b:ByteArray):(Unit)→Nat ⊕ (Unit)
 |_=>(bif(ByteArray.toList (b)==ByteArray.toList y1)then(.inl 0)else(.inr ()))
def nt(y1:ByteArray)(y2:List ByteArray)(i:Nat):(Unit)→kb
 |_=>((i:Int),y1,y2)
def HX:kb→Unit
 |(_,_,_)=>()
theorem aah(y1:ByteArray)(y2:List ByteArray) (hn:y2.length≤9223372036854775807):
  dd.fin ((0:Int),y1,y2)=true∧dd.res ((0:Int),y1,y2)=((af (xC y1) 1 y2 0 ()).1,(nt y1 y2) (af (xC y1) 1 y2 0 ()).2.1 (af (xC y1) 1 y2 0 ()).2.2):=by
 have iY:=dd.along (nt y1 y2) HX (xC y1) 1 (fun _ _=>True) y2 () (by trivial) (by simp only [dd,nt];omega) (fun i b a hb hI=> ?_) (fun a hI=> ?_)
 ·exact iY
 ·obtain⟨⟩:=a
  have eB:=(List.getElem?_eq_some_iff.1 hb).1
  have gZ: ∀ d,Option.getD y2[i]? d=b:=fun d=>by rw [hb];rfl
  have hw:=sX eB hn
  have bW:ltI (i:Int) (y2.length:Int)=true:=et (by omega)
  have vL:leI (0:Int) (i:Int)=true:=bv (by omega)
  have im:ltN i y2.length=true:=gu eB
  refine⟨?_,?_,?_,?_⟩
  ·simp [ug,yt,yu,yw,yx,ws,dd,LT.nds,allT,nt,bW,vL,im,gZ]
  ·simp [ug,yt,yu,yw,yx,ws,dd,LT.each,nt,HX,hw]
  ·simp only [ug,yt,yu,yw,yx,ws,dd,LT.fn,nt,HX,xC,Int.toNat_natCast,bW,vL,im,gZ,cond_true,Bool.cond_self]
  ·exact fun _ _=>trivial
 ·obtain⟨⟩:=a
  simp [ug,yt,yu,yw,yx,ws,dd,LT.out,nt]
def nb(y2 b:ByteArray):(Unit)→Nat ⊕ (Unit)
 |_=>(bif(ByteArray.toList y2==ByteArray.toList b)then(.inl 0)else(.inr ()))
def di(y2:ByteArray)(y3:List ByteArray)(i:Nat):(Unit)→cO
 |_=>((i:Int),(↑y3.length:Int),y2,y3)
def ve:cO→Unit
 |(_,_,_,_)=>()
theorem Ew(y2:ByteArray)(y3:List ByteArray) (hn:y3.length≤9223372036854775807):
  aR.fin ((0:Int),(↑y3.length:Int),y2,y3)=true∧aR.res ((0:Int),(↑y3.length:Int),y2,y3)=((af (nb y2) 1 y3 0 ()).1,(di y2 y3) (af (nb y2) 1 y3 0 ()).2.1 (af (nb y2) 1 y3 0 ()).2.2):=by
 have iY:=aR.along (di y2 y3) ve (nb y2) 1 (fun _ _=>True) y3 () (by trivial) (by simp only [aR,di];omega) (fun i b a hb hI=> ?_) (fun a hI=> ?_)
 ·exact iY
 ·obtain⟨⟩:=a
  have eB:=(List.getElem?_eq_some_iff.1 hb).1
  have gZ: ∀ d,Option.getD y3[i]? d=b:=fun d=>by rw [hb];rfl
  have hw:=sX eB hn
  have bW:ltI (i:Int) (y3.length:Int)=true:=et (by omega)
  have vL:leI (0:Int) (i:Int)=true:=bv (by omega)
  have im:ltN i y3.length=true:=gu eB
  refine⟨?_,?_,?_,?_⟩
  ·simp [nc,ne,nf,ng,nh,ni,mc,aR,LT.nds,allT,di,bW,vL,im,gZ]
  ·simp [nc,ne,nf,ng,nh,ni,mc,aR,LT.each,di,ve,hw]
  ·simp only [nc,ne,nf,ng,nh,ni,mc,aR,LT.fn,di,ve,nb,Int.toNat_natCast,bW,vL,im,gZ,cond_true,Bool.cond_self]
  ·exact fun _ _=>trivial
 ·obtain⟨⟩:=a
  simp [nc,ne,nf,ng,nh,ni,mc,aR,LT.out,di]
theorem apw:aae.length≤9223372036854775807:=by decide
theorem aii(s:ByteArray):ltI (IL s) 0= !amj s∧IM s=true:=by
 have e0:MP=aae:=rfl
 obtain⟨w1,w2⟩:=aah s aae apw
 rw [iQ (P:=fun k=>k.toList==s.toList) (j:=0) (fun k=>rfl)]at w2
 simp only [IL,IM,GX,e0,w1,w2,allT,amj,nt]
 cases aae.any fun k=>k.toList==s.toList with
 |false=>exact⟨rfl,rfl⟩
 |true=>
  simp only [cond_true,Nat.beq]
  refine⟨?_,trivial⟩
  exact uQ.2 (by omega)
theorem amg(s:ByteArray):Ph s=amj s∧Pj s=true:=by
 have e0:List.drop (Int.toNat (0)) (List.take (Int.toNat (↑(List.length aae))) aae)=aae:=rfl
 obtain⟨w1,w2⟩:=Ew s aae apw
 rw [iQ (P:=fun k=>s.toList==k.toList) (j:=0) (fun k=>rfl)]at w2
 have e1:(fun k:ByteArray=>s.toList==k.toList)=fun k=>k.toList==s.toList:=funext fun k=>BEq.comm
 rw [e1]at w2
 simp only [Ph,Pj,e0,gY,jU,pd,pe,ow,w1,w2,allT,amj,di]
 cases aae.any fun k=>k.toList==s.toList with
 |false=>exact⟨rfl,rfl⟩
 |true=>
  simp only [cond_true,Nat.beq]
  rw [bv (by omega)];simp
def YU:List SV→List Entry→Option Out
 | [.one ⟨false,[.val (.string x0)]⟩],[]=>some ⟨.one ⟨false,[.val (.bool (Rp x0))]⟩,[],[],[leN x0.size 9223372036854775807]⟩
 |_,_=>none
def ahV:PF prog:=PF.alt ah6 YU (by
 intro args es o h cE;unfold YU at h;split at h
 ·rename_i x0
  cases h
  have cE:=mH cE
  have hh:=alB x0 cE
  obtain⟨e0,en⟩:=hh
  exact rV rfl (md en) (by simp only [e0] <;> rfl) rfl rfl
 ·cases h)
def abJ:List SV→List Entry→Option Out
 | [.one ⟨false,[.val (.string x0)]⟩],[]=>some ⟨.one ⟨false,[.val (.bool (Rp x0))]⟩,[],[],[]⟩
 |_,_=>none
def aiO:PF prog:=PF.alt aiQ abJ (by
 intro args es o h cE;unfold abJ at h;split at h
 ·rename_i x0
  cases h
  have hh:=ak0 x0
  obtain⟨e0,en⟩:=hh
  exact rV rfl (md en) (by simp only [e0] <;> rfl) rfl rfl
 ·cases h)
def UF:List SV→List Entry→Option Out
 | [.one ⟨false,[.val (.string x0)]⟩],[]=>some ⟨.one ⟨false,[.val (.bool (amj x0))]⟩,[],[],[]⟩
 |_,_=>none
def aft:PF prog:=PF.alt afB UF (by
 intro args es o h cE;unfold UF at h;split at h
 ·rename_i x0
  cases h
  have hh:=amg x0
  obtain⟨e0,en⟩:=hh
  exact rV rfl (md en) (by simp only [e0] <;> rfl) rfl rfl
 ·cases h)
def mm(x0:ByteArray):Bool:=bif Rp x0 then ltI (IL x0) (0:Int)else false
def sW(x0:ByteArray):Bool:=allT [leN (ByteArray.size x0) (9223372036854775807:Nat),!(Rp x0&&true)||IM x0]
def Yn:List SV→List Entry→Option Out
 | [.one ⟨false,[.val (.string x0)]⟩],[]=>some ⟨.one ⟨false,[.val (.bool (mm x0))]⟩,[],[],[sW x0]⟩
 |_,_=>none
def JA:PF prog:=PF.ofG prog [ahV,aeE] [] aP 239 f239 func239 (fun c _=>LOk.nil c) Yn (by
 intro vs es r h;unfold Yn at h;split at h
 ·cases h;kernel_rfl
 ·cases h)
def PQ(x0:Int):Bool:=bif bif bif x0==(7:Int)then true else x0==(8:Int)then true else x0==(11:Int)then true else x0==(12:Int)
def UB:List SV→List Entry→Option Out
 | [.one ⟨false,[.val (.int .i64 x0)]⟩],[]=>some ⟨.one ⟨false,[.val (.bool (PQ x0))]⟩,[],[],[]⟩
 |_,_=>none
def afL:PF prog:=PF.ofG prog [] [] aP 251 f251 func251 (fun c _=>LOk.nil c) UB (by
 intro vs es r h;unfold UB at h;split at h
 ·cases h;kernel_rfl
 ·cases h)
def Sv(x0:Int):Bool:=bt x0 (1:Int) (12:Int)
def Ym:List SV→List Entry→Option Out
 | [.one ⟨false,[.val (.int .i64 x0)]⟩],[]=>some ⟨.one ⟨false,[.val (.bool (Sv x0))]⟩,[],[],[]⟩
 |_,_=>none
def ah7:PF prog:=PF.ofG prog [xx] [] aP 252 f252 func252 (fun c _=>LOk.nil c) Ym (by
 intro vs es r h;unfold Ym at h;split at h
 ·cases h;kernel_rfl
 ·cases h)
def QV(x0 x2:Int):Bool:=bif bif !Sv x0 then true else !bt x2 (0:Int) (9999:Int)then true else bif !PQ x0 then x2 !=(0:Int)else false
def JV(x0:Int)(x1:ByteArray)(x2:Int):Bool:=
 bif QV x0 x2 then false else bif x0==(1:Int)then mm x1 else ByteArray.toList x1==ByteArray.toList { data:= #[] }
def JW(x0:Int)(x1:ByteArray)(x2:Int):Bool:=allT [QV x0 x2||(!x0==(1:Int)||sW x1)]
def Yo:List SV→List Entry→Option Out
 | [.one ⟨true,[.val (.int .i64 x0),.val (.string x1),.val (.int .i64 x2)]⟩],[]=>some ⟨.one ⟨false,[.val (.bool (JV x0 x1 x2))]⟩,[],[],[JW x0 x1 x2]⟩
 |_,_=>none
def ZY:PF prog:=PF.ofG prog [xx,JA,afL,ah7] [] aP 212 f212 func212 (fun c _=>LOk.nil c) Yo (by
 intro vs es r h;unfold Yo at h;split at h
 ·cases h;kernel_rfl
 ·cases h)
def lC(x0:ByteArray):Bool:=bif Rp x0 then !amj x0 else false
def abt:List SV→List Entry→Option Out
 | [.one ⟨false,[.val (.string x0)]⟩],[]=>some ⟨.one ⟨false,[.val (.bool (lC x0))]⟩,[],[],[]⟩
 |_,_=>none
def LB:PF prog:=PF.ofG prog [aiO,aft] [] aP 225 f225 func225 (fun c _=>LOk.nil c) abt (by
 intro vs es r h;unfold abt at h;split at h
 ·cases h;kernel_rfl
 ·cases h)
def NV(x0:Int):Bool:=bif bif bif x0==(7:Int)then true else x0==(8:Int)then true else x0==(11:Int)then true else x0==(12:Int)
def SZ:List SV→List Entry→Option Out
 | [.one ⟨false,[.val (.int .i64 x0)]⟩],[]=>some ⟨.one ⟨false,[.val (.bool (NV x0))]⟩,[],[],[]⟩
 |_,_=>none
def aeB:PF prog:=PF.ofG prog [] [] aP 253 f253 func253 (fun c _=>LOk.nil c) SZ (by
 intro vs es r h;unfold SZ at h;split at h
 ·cases h;kernel_rfl
 ·cases h)
def Lu(x0:Int)(x1:ByteArray)(x2:Int):Bool:=
 bif bif !sQ x0 (1:Int) (12:Int)then true else !(x0==(1:Int))== !ByteArray.toList x1==ByteArray.toList { data:= #[] } then
 false
 else
 bif NV x0 then sQ x2 (0:Int) (9999:Int)
 else bif x2==(0:Int)then bif x0 !=(1:Int)then true else lC x1 else false
def abu:List SV→List Entry→Option Out
 | [.one ⟨true,[.val (.int .i64 x0),.val (.string x1),.val (.int .i64 x2)]⟩],[]=>some ⟨.one ⟨false,[.val (.bool (Lu x0 x1 x2))]⟩,[],[],[]⟩
 |_,_=>none
def abX:PF prog:=PF.ofG prog [Ud,LB,aeB] [] aP 215 f215 func215 (fun c _=>LOk.nil c) abu (by
 intro vs es r h;unfold abu at h;split at h
 ·cases h;kernel_rfl
 ·cases h)
def yT(x0 x2 x3 x4 x5:Int):Bool:=bif bif x0==(7:Int)then x0==(7:Int)else x0==(8:Int)then bif bif sQ x3 (0:Int) x2 then x4==(0:Int)else false then x5==(0:Int)else false else bif x0==(11:Int)then bif bif sQ x3 (0:Int) x2 then sQ x4 (0:Int) (1:Int)else false then x5==(0:Int)else false else bif x0==(12:Int)then bif x4==(0:Int)then bif bif sQ x3 (0:Int) x2 then x5==(0:Int)else false then true else bif x3==IntKind.wrap .i64 (x2 + (1:Int))then x5==(1:Int)else false else false else bif bif sQ x3 (0:Int) (1:Int)then x4==(0:Int)else false then x5==(0:Int)else false
def Ta:List SV→List Entry→Option Out
 | [.one ⟨true,[.val (.int .i64 x0),.val (.string _x1),.val (.int .i64 x2)]⟩,.one ⟨true,[.val (.int .i64 x3),.val (.int .i64 x4),.val (.int .i64 x5)]⟩],[]=>some ⟨.one ⟨false,[.val (.bool (yT x0 x2 x3 x4 x5))]⟩,[],[],[]⟩
 |_,_=>none
def Tq:PF prog:=PF.ofG prog [Ud] [] aP 185 f185 func185 (fun c _=>LOk.nil c) Ta (by
 intro vs es r h;unfold Ta at h;split at h
 ·cases h;kernel_rfl
 ·cases h)
def dv(x0 x2 x3 x4 x5:Int):Bool:=bif bif x0==(9:Int)then x0==(9:Int)else x0==(10:Int)then bif bif bt x3 (0:Int) (1:Int)then x4==(0:Int)else false then x5==(0:Int)else false else bif x0==(11:Int)then bif bif bt x3 (0:Int) x2 then bt x4 (0:Int) (1:Int)else false then x5==(0:Int)else false else bif x0==(12:Int)then bif x4==(0:Int)then bif bif bt x3 (0:Int) x2 then x5==(0:Int)else false then true else bif x3==IntKind.wrap .i64 (x2 + (1:Int))then x5==(1:Int)else false else false else bif bif bt x3 (0:Int) x2 then x4==(0:Int)else false then x5==(0:Int)else false
def ajN(k:Int):Bool:=k==7||(k==8||(k==11||k==12))
def termB(k:Int)(s:ByteArray)(n:Int):Bool:=inR k 1 12&&(inR n 0 9999&&((ajN k||n==0)&&(bif k==1 then mt s else s.toList== [])))
def TH(k:Int)(s:ByteArray)(n:Int):Bool:=termB k s n&&leI 7 k
def possB(k n a b c:Int):Bool:=dv k n a b c
theorem Nu:ByteArray.toList { data:= #[] } = []:=by rw [Go.Lib.toList_data]
theorem ao7{s:ByteArray}(h:mt s=true):(s.toList== [])=false:=by
 simp only [mt,Rp,Bool.and_eq_true,EG]at h
 have h1:s.size=s.toList.length:=by rw [Go.Lib.size_eq,Go.Lib.toList_data]
 cases hs:s.toList with
 |nil=>
  rw [hs]at h1
  have h2:s.size=0:=h1
  omega
 |cons a l=>rfl
theorem apx{n:Int}(h:(n==0)=true):inR n 0 9999=true:=by
 have:n=0:=by simpa using h
 rw [this];rfl
theorem agv(k:Int)(s:ByteArray)(n:Int)(h:leN s.size 9223372036854775807=true):JV k s n=termB k s n∧JW k s n=true:=by
 obtain⟨e1,e2⟩:=aii s
 have e3:mm s=mt s:=by simp only [mm,e1,mt];cases Rp s <;> rfl
 have e4:sW s=true:=by simp only [sW,e2,h,allT,Bool.or_true,cond_true]
 simp only [JV,JW,QV,e3,e4,Sv,bt,TT,Nu,PQ,termB,ajN,allT,Bool.or_true,cond_true]
 refine⟨?_,trivial⟩
 simp only [bne]
 generalize (bif k==1 then mt s else s.toList== [])=q
 generalize inR k 1 12=q1
 generalize inR n 0 9999=q2
 generalize (k==7)=q3
 generalize (k==8)=q4
 generalize (k==11)=q5
 generalize (k==12)=q6
 generalize (n==0)=q7
 revert q q1 q2 q3 q4 q5 q6 q7
 decide
theorem akZ(k:Int)(s:ByteArray)(n:Int):Lu k s n=termB k s n:=by
 have e3:lC s=mt s:=by simp only [lC,mt];cases Rp s <;> rfl
 simp only [Lu,e3,sQ,TT,Nu,NV,termB,ajN]
 by_cases h1:k=1
 ·subst h1
  have z7:((1:Int)==7)=false:=rfl
  have z8:((1:Int)==8)=false:=rfl
  have z11:((1:Int)==11)=false:=rfl
  have z12:((1:Int)==12)=false:=rfl
  have z1:((1:Int)==1)=true:=rfl
  have zn:((1:Int)!=1)=false:=rfl
  have zr:inR (1:Int) 1 12=true:=rfl
  rw [z7,z8,z11,z12,z1,zn,zr]
  have hs:mt s=true→(s.toList== [])=false:=ao7
  have h0:(n==0)=true→inR n 0 9999=true:=apx
  generalize (s.toList== [])=q at hs ⊢
  generalize (n==0)=q2 at h0 ⊢
  generalize inR n 0 9999=q3 at h0 ⊢
  generalize mt s=q4 at hs ⊢
  revert q q2 q3 q4
  decide
 ·have z1:(k==1)=false:=by simpa using h1
  have zn:(k !=1)=true:=by simpa using h1
  rw [z1,zn]
  have h0:(n==0)=true→inR n 0 9999=true:=apx
  generalize (s.toList== [])=q
  generalize (n==0)=q2 at h0 ⊢
  generalize inR n 0 9999=q3 at h0 ⊢
  generalize inR k 1 12=q1
  generalize (k==7)=p3
  generalize (k==8)=p4
  generalize (k==11)=p5
  generalize (k==12)=p6
  generalize mt s=p7
  revert q q1 q2 q3 p3 p4 p5 p6 p7
  decide
theorem VO{k:Int}{s:ByteArray}{n:Int}(h:TH k s n=true):(7≤k∧k≤12)∧(0≤n∧n≤9999)∧(ajN k=true∨n=0):=by
 simp only [TH,termB,Bool.and_eq_true,EG,DR,Bool.or_eq_true,beq_iff_eq]at h
 obtain⟨⟨h1,h2,h3,_⟩,h4⟩:=h
 exact⟨⟨h4,h1.2⟩,h2,h3⟩
theorem kinds{k:Int}(h:7≤k∧k≤12):k=7∨k=8∨k=9∨k=10∨k=11∨k=12:=by omega
theorem ape{k n a b c:Int}(h:7≤k∧k≤12):yT k n a b c=possB k n a b c:=by
 rcases kinds h with rfl | rfl | rfl | rfl | rfl | rfl <;> rfl
theorem aaa{k n a b c:Int}(h:possB k n a b c=true)(hn:0≤n∧n≤9999):(0≤a∧a≤10000)∧(b=0∨b=1)∧(c=0∨c=1):=by
 have hw:IntKind.i64.wrap (n + 1)=n + 1:=bc (by omega) (by omega)
 simp only [possB,dv,bt,TT,hw]at h
 cases h1:(bif k==9 then k==9 else k==10)with
 |true=>
  rw [h1]at h
  cases h2:inR a 0 1 <;> rw [h2]at h <;> simp at h
  have:=EG.1 h2
  omega
 |false=>
  rw [h1]at h
  cases h3:k==11 with
  |true=>
   rw [h3]at h
   cases h2:inR a 0 n <;> cases h4:inR b 0 1 <;> rw [h2]at h <;> simp [h4]at h
   have:=EG.1 h2
   have:=EG.1 h4
   omega
  |false=>
   rw [h3]at h
   cases h5:k==12 with
   |true=>
    rw [h5]at h
    cases h2:inR a 0 n <;> rw [h2]at h <;> simp at h
    ·omega
    ·have:=EG.1 h2
     omega
   |false=>
    rw [h5]at h
    cases h2:inR a 0 n <;> rw [h2]at h <;> simp at h
    have:=EG.1 h2
    omega
def Sb(x1:ByteArray)(x3:Int):Int:=IntKind.wrap .i64 (x3 - (↑(ByteArray.size x1):Int))
def sR(x1:ByteArray)(x3:Int):Int:=bif ltI (Sb x1 x3) (0:Int)then(-1:Int)else Sb x1 x3
def abA:List SV→List Entry→Option Out
 | [.one ⟨true,[.val (.int .i64 _x0),.val (.string x1),.val (.int .i64 _x2)]⟩,.one ⟨false,[.val (.int .i64 x3)]⟩],[]=>some ⟨.one ⟨false,[.val (.int .i64 (sR x1 x3))]⟩,[],[],[]⟩
 |_,_=>none
def abZ:PF prog:=PF.ofG prog [] [] aP 152 f152 func152 (fun c _=>LOk.nil c) abA (by
 intro vs es r h;unfold abA at h;split at h
 ·cases h;kernel_rfl
 ·cases h)
def lY(x0:Int):Int:=bif bif x0==(1:Int)then x0==(1:Int)else bif x0==(2:Int)then x0==(2:Int)else x0==(3:Int)then(0:Int)else bif bif x0==(4:Int)then x0==(4:Int)else bif x0==(7:Int)then x0==(7:Int)else bif x0==(8:Int)then x0==(8:Int)else x0==(9:Int)then(1:Int)else(2:Int)
def WJ:List SV→List Entry→Option Out
 | [.one ⟨false,[.val (.int .i64 x0)]⟩],[]=>some ⟨.one ⟨false,[.val (.int .i64 (lY x0))]⟩,[],[],[]⟩
 |_,_=>none
def CV:PF prog:=PF.ofG prog [] [] aP 224 f224 func224 (fun c _=>LOk.nil c) WJ (by
 intro vs es r h;unfold WJ at h;split at h
 ·cases h;kernel_rfl
 ·cases h)
abbrev nY:=Int×List Int
section
variable (y0:Int)(y1:List Int)
def zo:Bool:=ltI y0 (↑y1.length:Int)
def Eg:Bool:=leI (0:Int) y0
def Eh:Bool:=ltN y0.toNat y1.length
def Ei:Bool:= !bt (Option.getD y1[Int.toNat y0]? (0:Int)) (0:Int) (1:Int)
def Ej:Int:=IntKind.wrap .i64 (y0 + (1:Int))
end
def acr:nY→List (Nat×SV)
 |(y0,_)=> [(5,(.one ⟨false,[.val (.int .i64 y0)]⟩)),(0,(.one ⟨false,[.ref 0]⟩))]
def ach:nY→List (Nat×Entry)
 |(_,y1)=> [(0,(.row false 2 agJ y1))]
def acL:Nat→nY→List (Nat×SV)
 |0,(_,_)=> [(4,(.one ⟨false,[.val (.bool false)]⟩))]
 |_,(_,_)=> []
def acB:Nat→nY→List (Nat×Entry)
 |0,(_,y1)=> [(0,(.row false 2 agJ y1))]
 |_,(_,y1)=> [(0,(.row false 2 agJ y1))]
def BW:nY→LT nY
 |(y0,y1)=> .ite (zo y0 y1) (.need [Eg y0,zo y0 y1,Eh y0 y1] (.ite (Ei y0 y1) (.ext 0 [(0,0)]) (.nrm ((Ej y0),y1) [(0,0)]))) (.ext 1 [(0,0)])
def MO(s:St):Option nY:=
 (match s.look 5 with
 |some ⟨none,.one ⟨false,[.val (.int .i64 y0)]⟩⟩=>
 (match s.look 0 with
 |some ⟨none,.one ⟨false,[.ref 0]⟩⟩=>
 (match s.ent 0 with
 |some (.row false 2 (.int .i64) y1)=>
 some (y0,y1)
 |_=>none)
 |_=>none)
 |_=>none)
def gt:Lp nY where
 h:=⟨[6,7,8,9,12,13,14,15,16,17,4,10,11,5],[0],[],[]⟩
 JL:=acr
 JE:=ach
 XL:=acL
 XE:=acB
 q:=fun j=>match j with | 0=> .ret | _=> .exit 0
 tags:= [0,1]
 lt:=BW
 fuel:=fun(y0,y1)=>y0.natAbs + y1.length
 fix:=fun(_,y1) (y0,_)=>(y0,y1)
 σ:= [(0,0)]
 rd:=MO
theorem ZS:LoopOk prog (fun k=>Nat.blt k Tryz.f88.ntmps) gt.F (aL f88 0):=by
 refine Lp.ok (tbl:= [xx]) (lf:= []) aP gt (by kernel_rfl) (LOk.nil _) (fun _=>rfl) (fun j _=>by unfold gt;match j with | 0=>rfl | _ + 1=>rfl) ?_ ?_ ?_ ?_ (fun _=>rfl) ?_
 ·rintro⟨y0,y1⟩;kernel_rfl
 ·rintro⟨y0,y1⟩;kernel_rfl
 ·intro s x h
  have h:MO s=some x:=h
  unfold MO at h
  repeat' split at h
  all_goals cases h
  exact⟨aa (by assumption) rfl (aa (by assumption) rfl (rfl)),ab rfl (by assumption) rfl (rfl)⟩
 ·rintro⟨y0,y1⟩;kernel_rfl
 ·rintro⟨y0,y1⟩ z;exact(And.intro (And.intro trivial rfl) trivial)
def SK(x0:Int)(x1:List Int):Bool:=bif Nat.beq ((Lp.res gt ((0:Int),x1)).1) (0:Nat)then false else(↑x1.length:Int)==x0
def SL(x1:List Int):Bool:=allT [Lp.fin gt ((0:Int),x1)]
def Yt:List SV→List Entry→Option Out
 | [.one ⟨false,[.ref 0]⟩,.one ⟨false,[.val (.int .i64 x0)]⟩],[.row false 2 (.int .i64) x1]=>some ⟨.one ⟨false,[.val (.bool (SK x0 x1))]⟩,[.row false 2 agJ x1],[],[SL x1]⟩
 |_,_=>none
def aia:PF prog:=PF.ofG prog [xx] [gt.F] aP 88 f88 func88 (LOk.fnT (l:= [aL f88 0]) (by kernel_rfl) (.cons ZS (.nil _))) Yt (by
 intro vs es r h;unfold Yt at h;split at h
 ·cases h;kernel_rfl
 ·cases h)
def iH(x0:Bool):Int:=bif x0 then(1:Int)else(0:Int)
def abF:List SV→List Entry→Option Out
 | [.one ⟨false,[.val (.bool x0)]⟩],[]=>some ⟨.one ⟨false,[.val (.int .i64 (iH x0))]⟩,[],[],[]⟩
 |_,_=>none
def ab1:PF prog:=PF.ofG prog [] [] aP 244 f244 func244 (fun c _=>LOk.nil c) abF (by
 intro vs es r h;unfold abF at h;split at h
 ·cases h;kernel_rfl
 ·cases h)
section
variable (x0 x1 x2 x3 x4 x5:Int)
def gX:Bool:=bif bif x3==(1:Int)then x4==(0:Int)else false then x5==(0:Int)else false
def iD:Bool:=(bif gX x3 x4 x5 then(0:Int)else x3)==(0:Int)
def jJ:Bool:=bif iD x3 x4 x5 then x4 !=x5 else false
def kM:Int:=IntKind.wrap .i64 ((bif gX x3 x4 x5 then(0:Int)else x1) + (1:Int))
def kN:Int:=bif jJ x3 x4 x5 then iH (ltI x0 (kM x1 x3 x4 x5))else bif iD x3 x4 x5 then(0:Int)else bif gX x3 x4 x5 then(0:Int)else x3
def mn:Int:=iH (bif bif x4==(1:Int)then x5==(1:Int)else false then kN x0 x1 x3 x4 x5==(0:Int)else false)
def mo:Int:=bif jJ x3 x4 x5 then kM x1 x3 x4 x5 else bif iD x3 x4 x5 then(0:Int)else bif gX x3 x4 x5 then(0:Int)else x1
def mp:Int:=bif jJ x3 x4 x5 then(0:Int)else bif iD x3 x4 x5 then(0:Int)else bif gX x3 x4 x5 then(0:Int)else x2
def mq:Int:=kN x0 x1 x3 x4 x5
end
def Yp:List SV→List Entry→Option Out
 | [.one ⟨false,[.val (.int .i64 x0)]⟩,.one ⟨true,[.val (.int .i64 x1),.val (.int .i64 x2),.val (.int .i64 x3)]⟩,.one ⟨false,[.val (.int .i64 x4)]⟩,.one ⟨false,[.val (.int .i64 x5)]⟩],[]=>some ⟨.tup [⟨false,[.val (.int .i64 (mn x0 x1 x3 x4 x5))]⟩,⟨true,[.val (.int .i64 (mo x1 x3 x4 x5)),.val (.int .i64 (mp x2 x3 x4 x5)),.val (.int .i64 (mq x0 x1 x3 x4 x5))]⟩],[],[],[]⟩
 |_,_=>none
def ah8:PF prog:=PF.ofG prog [ab1] [] aP 245 f245 func245 (fun c _=>LOk.nil c) Yp (by
 intro vs es r h;unfold Yp at h;split at h
 ·cases h;kernel_rfl
 ·cases h)
section
variable (x0 x2 x3 x4 x5:Int)(x6:List Int)
def ci:Int:=Option.getD x6[Int.toNat (0:Int)]? (0:Int)
def iE:Int:=IntKind.wrap .i64 (x3 + (1:Int))
def kO:Int:=IntKind.wrap .i64 (afl (iE x3) x2 (iE x3) x2 * ci x6)
def ft:Int:=bif ltI (1:Int) (↑x6.length:Int)then Option.getD x6[Int.toNat (1:Int)]? (0:Int)else(0:Int)
def kP:Int:=bif ft x6==(1:Int)then(0:Int)else bif ci x6==(1:Int)then(1:Int)else x3
def kQ:Int:=bif ft x6==(1:Int)then(0:Int)else bif bif ci x6==(1:Int)then x4==(0:Int)else false then afl (iE x3) x2 (iE x3) x2 else x3
def kR:Int:=IntKind.wrap .i64 (x3 - (1:Int))
def kT:Int:=bif ci x6==(1:Int)then(0:Int)else(0:Int)
def jK:Bool:= !ltI (1:Int) (↑x6.length:Int)
def gy:Int:=bif x0==(7:Int)then iH (bif ci x6==(1:Int)then kO x2 x3 x6==x2 else false)else bif x0==(8:Int)then bif ci x6==(1:Int)then(1:Int)else iH (ltI (0:Int) x3)else bif x0==(9:Int)then iH (bif ci x6==(1:Int)then x3==(0:Int)else false)else bif x0==(10:Int)then kP x3 x6 else bif x0==(11:Int)then iH (kQ x2 x3 x4 x6==x2)else mn x2 x3 x5 (ci x6) (ft x6)
def ij:Int:=bif x0==(7:Int)then kO x2 x3 x6 else bif x0==(8:Int)then bif ci x6==(1:Int)then x2 else afl (0:Int) (kR x3) (kR x3) (0:Int)else bif x0==(9:Int)then ci x6 else bif x0==(10:Int)then kP x3 x6 else bif x0==(11:Int)then kQ x2 x3 x4 x6 else mo x3 x5 (ci x6) (ft x6)
def ik:Int:=bif x0==(7:Int)then(0:Int)else bif x0==(8:Int)then kT x6 else bif x0==(9:Int)then(0:Int)else bif x0==(10:Int)then(0:Int)else bif x0==(11:Int)then ci x6 else mp x4 x5 (ci x6) (ft x6)
def il:Int:=bif x0==(7:Int)then(0:Int)else bif x0==(8:Int)then kT x6 else bif x0==(9:Int)then(0:Int)else bif x0==(10:Int)then(0:Int)else bif x0==(11:Int)then(0:Int)else mq x2 x3 x5 (ci x6) (ft x6)
def jT:Bool:=allT [ltI (0:Int) (↑x6.length:Int),ltN (Int.toNat (0:Int)) x6.length,jK x6||leI (0:Int) (1:Int),jK x6||ltI (1:Int) (↑x6.length:Int),jK x6||ltN (Int.toNat (1:Int)) x6.length]
end
def Yq:List SV→List Entry→Option Out
 | [.one ⟨true,[.val (.int .i64 x0),.val (.string _x1),.val (.int .i64 x2)]⟩,.one ⟨true,[.val (.int .i64 x3),.val (.int .i64 x4),.val (.int .i64 x5)]⟩,.one ⟨false,[.ref 0]⟩],[.row false 2 (.int .i64) x6]=>some ⟨.tup [⟨false,[.val (.int .i64 (gy x0 x2 x3 x4 x5 x6))]⟩,⟨true,[.val (.int .i64 (ij x0 x2 x3 x4 x5 x6)),.val (.int .i64 (ik x0 x4 x5 x6)),.val (.int .i64 (il x0 x2 x3 x5 x6))]⟩],[.row false 2 agJ x6],[],[jT x6]⟩
 |_,_=>none
def oY:PF prog:=PF.ofG prog [ab1,ah8] [] aP 190 f190 func190 (fun c _=>LOk.nil c) Yq (by
 intro vs es r h;unfold Yq at h;split at h
 ·cases h;kernel_rfl
 ·cases h)
def abC:List SV→List Entry→Option Out
 | [.one ⟨true,[.val (.int .i64 x0),.val (.string x1),.val (.int .i64 x2)]⟩],[]=>some ⟨.one ⟨true,[.val (.int .i64 x0),.val (.string x1),.val (.int .i64 x2)]⟩,[],[],[]⟩
 |_,_=>none
def ab0:PF prog:=PF.ofG prog [] [] aP 156 f156 func156 (fun c _=>LOk.nil c) abC (by
 intro vs es r h;unfold abC at h;split at h
 ·cases h;kernel_rfl
 ·cases h)
def afm(x0:Int):Bool:=bif x0 !=(0:Int)then x0 !=(1:Int)else false
def Ul:List SV→List Entry→Option Out
 | [.one ⟨false,[.val (.int .i64 x0)]⟩],[]=>some ⟨.one ⟨false,[.val (.bool (afm x0))]⟩,[],[],[]⟩
 |_,_=>none
def afC:PF prog:=PF.ofG prog [] [] aP 219 f219 func219 (fun c _=>LOk.nil c) Ul (by
 intro vs es r h;unfold Ul at h;split at h
 ·cases h;kernel_rfl
 ·cases h)
def AD(x0:Int):Bool:=bif x0 !=(0:Int)then x0 !=(1:Int)else false
def NJ:List SV→List Entry→Option Out
 | [.one ⟨false,[.val (.int .i64 x0)]⟩],[]=>some ⟨.one ⟨false,[.val (.bool (AD x0))]⟩,[],[],[]⟩
 |_,_=>none
def Oi:PF prog:=PF.ofG prog [] [] aP 219 f219 func219 (fun c _=>LOk.nil c) NJ (by
 intro vs es r h;unfold NJ at h;split at h
 ·cases h;kernel_rfl
 ·cases h)
abbrev bo:=Int×Int×List Int
section
variable (y0 y1:Int)(y2:List Int)
def ia:Bool:=ltI y0 y1
def ib:Bool:=leI (0:Int) y0
def ic:Bool:=ltI y0 (↑y2.length:Int)
def ie:Bool:=ltN y0.toNat y2.length
def ig:Bool:=AD (Option.getD y2[Int.toNat y0]? (0:Int))
def ii:Int:=IntKind.wrap .i64 (y0 + (1:Int))
end
def Hl:bo→List (Nat×SV)
 |(y0,y1,_)=> [(8,(.one ⟨false,[.val (.int .i64 y0)]⟩)),(7,(.one ⟨false,[.val (.int .i64 y1)]⟩)),(1,(.one ⟨false,[.val (.func (.func 219) ⟨[]⟩ ⟨[]⟩)]⟩)),(0,(.one ⟨false,[.ref 0]⟩))]
def Hk:bo→List (Nat×Entry)
 |(_,_,y2)=> [(0,(.row false 2 agJ y2))]
def Ho:Nat→bo→List (Nat×SV)
 |0,(y0,_,_)=> [(4,(.one ⟨false,[.val (.int .i64 y0)]⟩))]
 |_,(_,_,_)=> []
def Hn:Nat→bo→List (Nat×Entry)
 |0,(_,_,y2)=> [(0,(.row false 2 agJ y2))]
 |_,(_,_,y2)=> [(0,(.row false 2 agJ y2))]
def gG:bo→LT bo
 |(y0,y1,y2)=> .ite (ia y0 y1) (.need [ib y0,ic y0 y2,ie y0 y2] (.ite (ig y0 y2) (.ext 0 [(0,0)]) (.nrm ((ii y0),y1,y2) [(0,0)]))) (.ext 1 [(0,0)])
def pa(s:St):Option bo:=
 (match s.look 8 with
 |some ⟨none,.one ⟨false,[.val (.int .i64 y0)]⟩⟩=>
 (match s.look 7 with
 |some ⟨none,.one ⟨false,[.val (.int .i64 y1)]⟩⟩=>
 (match s.look 1 with
 |some ⟨none,.one ⟨false,[.val (.func (.func 219) ⟨[]⟩ ⟨[]⟩)]⟩⟩=>
 (match s.look 0 with
 |some ⟨none,.one ⟨false,[.ref 0]⟩⟩=>
 (match s.ent 0 with
 |some (.row false 2 (.int .i64) y2)=>
 some (y0,y1,y2)
 |_=>none)
 |_=>none)
 |_=>none)
 |_=>none)
 |_=>none)
def ao:Lp bo where
 h:=⟨[9,10,5,11,12,13,14,15,16,17,4,18,8],[0],[],[]⟩
 JL:=Hl
 JE:=Hk
 XL:=Ho
 XE:=Hn
 q:=fun j=>match j with | 0=> .ret | _=> .exit 0
 tags:= [0,1]
 lt:=gG
 fuel:=fun(y0,y1,y2)=>y0.natAbs + y1.natAbs + y2.length
 fix:=fun(_,y1,y2) (y0,_,_)=>(y0,y1,y2)
 σ:= [(0,0)]
 rd:=pa
theorem Gl:LoopOk prog (fun k=>Nat.blt k Tryz.f255.ntmps) ao.F (aL f255 0):=by
 refine Lp.ok (tbl:= [Oi]) (lf:= []) aP ao (by kernel_rfl) (LOk.nil _) (fun _=>rfl) (fun j _=>by unfold ao;match j with | 0=>rfl | _ + 1=>rfl) ?_ ?_ ?_ ?_ (fun _=>rfl) ?_
 ·rintro⟨y0,y1,y2⟩;kernel_rfl
 ·rintro⟨y0,y1,y2⟩;kernel_rfl
 ·intro s x h
  have h:pa s=some x:=h
  unfold pa at h
  repeat' split at h
  all_goals cases h
  exact⟨aa (by assumption) rfl (aa (by assumption) rfl (aa (by assumption) rfl (aa (by assumption) rfl (rfl)))),ab rfl (by assumption) rfl (rfl)⟩
 ·rintro⟨y0,y1,y2⟩;kernel_rfl
 ·rintro⟨y0,y1,y2⟩ z;exact(And.intro (And.intro trivial rfl) trivial)
section
variable (x0:List Int)
def mj:Int×Int×List Int:=((0:Int),(↑x0.length:Int),x0)
def rN:Int:=bif Nat.beq ((Lp.res ao (mj x0)).1) (0:Nat)then ((Lp.res ao (mj x0)).2).1else(-1:Int)
def rO:Bool:=allT [Lp.fin ao (mj x0)]
end
def yO:List SV→List Entry→Option Out
 | [.one ⟨false,[.ref 0]⟩,.one ⟨false,[.val (.func (.func 219) ⟨[]⟩ ⟨[]⟩)]⟩],[.row false 2 (.int .i64) x0]=>some ⟨.one ⟨false,[.val (.int .i64 (rN x0))]⟩,[.row false 2 agJ x0],[],[rO x0]⟩
 |_,_=>none
def rA:PF prog:=PF.ofG prog [Oi] [ao.F] aP 255 f255 func255 (LOk.fnT (l:= [aL f255 0]) (by kernel_rfl) (.cons Gl (.nil _))) yO (by
 intro vs es r h;unfold yO at h;split at h
 ·cases h;kernel_rfl
 ·cases h)
def pR(x0:List Int):Bool:=leI (0:Int) (rN x0)
def pS(x0:List Int):Bool:=allT [rO x0]
def wb:List SV→List Entry→Option Out
 | [.one ⟨false,[.ref 0]⟩,.one ⟨false,[.val (.func (.func 219) ⟨[]⟩ ⟨[]⟩)]⟩],[.row false 2 (.int .i64) x0]=>some ⟨.one ⟨false,[.val (.bool (pR x0))]⟩,[.row false 2 agJ x0],[],[pS x0]⟩
 |_,_=>none
def pO:PF prog:=PF.ofG prog [rA,PF.lend rA,PF.fz rA] [] aP 218 f218 func218 (fun c _=>LOk.nil c) wb (by
 intro vs es r h;unfold wb at h;split at h
 ·cases h;kernel_rfl
 ·cases h)
def RQ(x0:Int)(x1:List Int):Bool:=bif(↑x1.length:Int)==x0 then !pR x1 else false
def RR(x0:Int)(x1:List Int):Bool:=allT [!((↑x1.length:Int)==x0&&true)||pS x1]
def Yd:List SV→List Entry→Option Out
 | [.one ⟨false,[.ref 0]⟩,.one ⟨false,[.val (.int .i64 x0)]⟩],[.row false 2 (.int .i64) x1]=>some ⟨.one ⟨false,[.val (.bool (RQ x0 x1))]⟩,[.row false 2 agJ x1],[],[RR x0 x1]⟩
 |_,_=>none
def ah1:PF prog:=PF.ofG prog [afC,pO,PF.lend pO,PF.fz pO] [] aP 165 f165 func165 (fun c _=>LOk.nil c) Yd (by
 intro vs es r h;unfold Yd at h;split at h
 ·cases h;kernel_rfl
 ·cases h)
def ny(x0:Bool):Int:=bif x0 then(1:Int)else(0:Int)
def adX:List SV→List Entry→Option Out
 | [.one ⟨false,[.val (.bool x0)]⟩],[]=>some ⟨.one ⟨false,[.val (.int .i64 (ny x0))]⟩,[],[],[]⟩
 |_,_=>none
def Wl:PF prog:=PF.ofG prog [] [] aP 269 f269 func269 (fun c _=>LOk.nil c) adX (by
 intro vs es r h;unfold adX at h;split at h
 ·cases h;kernel_rfl
 ·cases h)
section
variable (x0 x1 x2 x3:Int)(x4 x5:Bool)
def sy:Bool:=bif x4 then x2==(0:Int)else false
def sz:Int:=IntKind.wrap .i64 (x1 + (1:Int))
def sA:Int:=bif x5 then(0:Int)else bif sy x2 x4 then afl x0 (sz x1) x0 (sz x1)else x1
def tL:Int:=ny (sA x0 x1 x2 x4 x5==x0)
def tM:Int:=sA x0 x1 x2 x4 x5
def tN:Int:=ny x4
def tO:Int:=bif x5 then x3 else bif sy x2 x4 then x3 else x3
end
def Un:List SV→List Entry→Option Out
 | [.one ⟨false,[.val (.int .i64 x0)]⟩,.one ⟨true,[.val (.int .i64 x1),.val (.int .i64 x2),.val (.int .i64 x3)]⟩,.one ⟨false,[.val (.bool x4)]⟩,.one ⟨false,[.val (.bool x5)]⟩],[]=>some ⟨.tup [⟨false,[.val (.int .i64 (tL x0 x1 x2 x4 x5))]⟩,⟨true,[.val (.int .i64 (tM x0 x1 x2 x4 x5)),.val (.int .i64 (tN x4)),.val (.int .i64 (tO x2 x3 x4 x5))]⟩],[],[],[]⟩
 |_,_=>none
def afD:PF prog:=PF.ofG prog [Wl] [] aP 270 f270 func270 (fun c _=>LOk.nil c) Un (by
 intro vs es r h;unfold Un at h;split at h
 ·cases h;kernel_rfl
 ·cases h)
section
variable (x0 x1 x2 x3:Int)(x4 x5:Bool)
def ja:Bool:=bif bif x3==(1:Int)then !x4 else false then !x5 else false
def pk:Bool:=(bif ja x3 x4 x5 then(0:Int)else x3)==(0:Int)
def rr:Bool:=bif pk x3 x4 x5 then !x4==x5 else false
def tP:Int:=IntKind.wrap .i64 ((bif ja x3 x4 x5 then(0:Int)else x1) + (1:Int))
def tQ:Int:=bif rr x3 x4 x5 then ny (ltI x0 (tP x1 x3 x4 x5))else bif pk x3 x4 x5 then bif ja x3 x4 x5 then(0:Int)else x3 else bif ja x3 x4 x5 then(0:Int)else x3
def vR:Int:=ny (bif bif x4 then x5 else false then tQ x0 x1 x3 x4 x5==(0:Int)else false)
def vS:Int:=bif rr x3 x4 x5 then tP x1 x3 x4 x5 else bif pk x3 x4 x5 then(0:Int)else bif ja x3 x4 x5 then(0:Int)else x1
def vT:Int:=bif rr x3 x4 x5 then bif ja x3 x4 x5 then x2 else x2 else bif pk x3 x4 x5 then bif ja x3 x4 x5 then x2 else x2 else bif ja x3 x4 x5 then x2 else x2
def vU:Int:=tQ x0 x1 x3 x4 x5
end
def WA:List SV→List Entry→Option Out
 | [.one ⟨false,[.val (.int .i64 x0)]⟩,.one ⟨true,[.val (.int .i64 x1),.val (.int .i64 x2),.val (.int .i64 x3)]⟩,.one ⟨false,[.val (.bool x4)]⟩,.one ⟨false,[.val (.bool x5)]⟩],[]=>some ⟨.tup [⟨false,[.val (.int .i64 (vR x0 x1 x3 x4 x5))]⟩,⟨true,[.val (.int .i64 (vS x1 x3 x4 x5)),.val (.int .i64 (vT x2 x3 x4 x5)),.val (.int .i64 (vU x0 x1 x3 x4 x5))]⟩],[],[],[]⟩
 |_,_=>none
def agS:PF prog:=PF.ofG prog [Wl] [] aP 271 f271 func271 (fun c _=>LOk.nil c) WA (by
 intro vs es r h;unfold WA at h;split at h
 ·cases h;kernel_rfl
 ·cases h)
section
variable (x0 x2 x3 x4 x5:Int)(x6:List Int)
def eN:Bool:=Option.getD x6[Int.toNat (0:Int)]? (0:Int)==(1:Int)
def Dh:Int:=IntKind.wrap .i64 (x3 + (1:Int))
def Di:Int:=IntKind.wrap .i64 (ny (eN x6) * afl x2 (Dh x3) x2 (Dh x3))
def xw:Int:=IntKind.wrap .i64 ((↑x6.length:Int) - (1:Int))
def nx:Bool:=Option.getD x6[Int.toNat (xw x6)]? (0:Int)==(1:Int)
def Dj:Int:=bif nx x6 then(0:Int)else bif eN x6 then(1:Int)else x3
def Dk:Int:=IntKind.wrap .i64 (x3 - (1:Int))
def Df:Int:=bif x0==(7:Int)then ny (bif eN x6 then Di x2 x3 x6==x2 else false)else bif x0==(8:Int)then bif eN x6 then(1:Int)else ny (ltI (0:Int) x3)else bif x0==(9:Int)then ny (bif eN x6 then x3==(0:Int)else false)else bif x0==(10:Int)then Dj x3 x6 else bif x0==(11:Int)then tL x2 x3 x4 (eN x6) (nx x6)else vR x2 x3 x5 (eN x6) (nx x6)
def AH:Int:=bif x0==(7:Int)then Di x2 x3 x6 else bif x0==(8:Int)then bif eN x6 then x2 else afl (Dk x3) (0:Int) (0:Int) (Dk x3)else bif x0==(9:Int)then ny (eN x6)else bif x0==(10:Int)then Dj x3 x6 else bif x0==(11:Int)then tM x2 x3 x4 (eN x6) (nx x6)else vS x3 x5 (eN x6) (nx x6)
def AJ:Int:=bif x0==(7:Int)then x4 else bif x0==(8:Int)then bif eN x6 then x4 else x4 else bif x0==(9:Int)then x4 else bif x0==(10:Int)then bif nx x6 then x4 else bif eN x6 then x4 else x4 else bif x0==(11:Int)then tN (eN x6)else vT x4 x5 (eN x6) (nx x6)
def AK:Int:=bif x0==(7:Int)then x5 else bif x0==(8:Int)then bif eN x6 then x5 else x5 else bif x0==(9:Int)then x5 else bif x0==(10:Int)then bif nx x6 then x5 else bif eN x6 then x5 else x5 else bif x0==(11:Int)then tO x4 x5 (eN x6) (nx x6)else vU x2 x3 x5 (eN x6) (nx x6)
def Dg:Bool:=allT [ltI (0:Int) (↑x6.length:Int),ltN (Int.toNat (0:Int)) x6.length,leI (0:Int) (xw x6),ltI (xw x6) (↑x6.length:Int),ltN (Int.toNat (xw x6)) x6.length]
end
def af7:List SV→List Entry→Option Out
 | [.one ⟨true,[.val (.int .i64 x0),.val (.string _x1),.val (.int .i64 x2)]⟩,.one ⟨true,[.val (.int .i64 x3),.val (.int .i64 x4),.val (.int .i64 x5)]⟩,.one ⟨false,[.ref 0]⟩],[.row false 2 (.int .i64) x6]=>some ⟨.tup [⟨false,[.val (.int .i64 (Df x0 x2 x3 x4 x5 x6))]⟩,⟨true,[.val (.int .i64 (AH x0 x2 x3 x4 x5 x6)),.val (.int .i64 (AJ x0 x4 x5 x6)),.val (.int .i64 (AK x0 x2 x3 x4 x5 x6))]⟩],[.row false 2 agJ x6],[],[Dg x6]⟩
 |_,_=>none
def ali:PF prog:=PF.ofG prog [Wl,afD,agS] [] aP 246 f246 func246 (fun c _=>LOk.nil c) af7 (by
 intro vs es r h;unfold af7 at h;split at h
 ·cases h;kernel_rfl
 ·cases h)
def bitsB(n:Int)(l:List Int):Bool:=l.all (fun v=>inR v 0 1)&&((l.length:Int)==n)
def takesK(k:Int):Int:=lY k
theorem fa{n:Int}{l:List Int}:bitsB n l=true↔(∀ v∈l,v=0∨v=1)∧(l.length:Int)=n:=by
 simp only [bitsB,Bool.and_eq_true,List.all_eq_true,EG,beq_iff_eq]
 constructor
 ·rintro⟨h1,h2⟩;exact⟨fun v hv=>by have:=h1 v hv;omega,h2⟩
 ·rintro⟨h1,h2⟩;exact⟨fun v hv=>by have:=h1 v hv;omega,h2⟩
def yR(b:Int):(Unit)→Nat ⊕ (Unit)
 |_=>(bif(!bt b (0:Int) (1:Int))then(.inl 0)else(.inr ()))
def tF(y1:List Int)(i:Nat):(Unit)→nY
 |_=>((i:Int),y1)
def ME:nY→Unit
 |(_,_)=>()
theorem ae2(y1:List Int) (hn:y1.length≤9223372036854775807):
  gt.fin ((0:Int),y1)=true∧gt.res ((0:Int),y1)=((af (yR) 1 y1 0 ()).1,(tF y1) (af (yR) 1 y1 0 ()).2.1 (af (yR) 1 y1 0 ()).2.2):=by
 have iY:=gt.along (tF y1) ME (yR) 1 (fun _ _=>True) y1 () (by trivial) (by simp only [gt,tF];omega) (fun i b a hb hI=> ?_) (fun a hI=> ?_)
 ·exact iY
 ·obtain⟨⟩:=a
  have eB:=(List.getElem?_eq_some_iff.1 hb).1
  have gZ: ∀ d,Option.getD y1[i]? d=b:=fun d=>by rw [hb];rfl
  have hw:=sX eB hn
  have bW:ltI (i:Int) (y1.length:Int)=true:=et (by omega)
  have vL:leI (0:Int) (i:Int)=true:=bv (by omega)
  have im:ltN i y1.length=true:=gu eB
  refine⟨?_,?_,?_,?_⟩
  ·simp [zo,Eg,Eh,Ei,Ej,BW,gt,LT.nds,allT,tF,bW,vL,im,gZ]
  ·simp [zo,Eg,Eh,Ei,Ej,BW,gt,LT.each,tF,ME,hw]
  ·simp only [zo,Eg,Eh,Ei,Ej,BW,gt,LT.fn,tF,ME,yR,Int.toNat_natCast,bW,vL,im,gZ,cond_true,Bool.cond_self]
  ·exact fun _ _=>trivial
 ·obtain⟨⟩:=a
  simp [zo,Eg,Eh,Ei,Ej,BW,gt,LT.out,tF]
def eu(b:Int):(Unit)→Nat ⊕ (Unit)
 |_=>(bif(AD b)then(.inl 0)else(.inr ()))
def cj(y2:List Int)(i:Nat):(Unit)→bo
 |_=>((i:Int),(↑y2.length:Int),y2)
def oZ:bo→Unit
 |(_,_,_)=>()
theorem Ik(y2:List Int) (hn:y2.length≤9223372036854775807):
  ao.fin ((0:Int),(↑y2.length:Int),y2)=true∧ao.res ((0:Int),(↑y2.length:Int),y2)=((af (eu) 1 y2 0 ()).1,(cj y2) (af (eu) 1 y2 0 ()).2.1 (af (eu) 1 y2 0 ()).2.2):=by
 have iY:=ao.along (cj y2) oZ (eu) 1 (fun _ _=>True) y2 () (by trivial) (by simp only [ao,cj];omega) (fun i b a hb hI=> ?_) (fun a hI=> ?_)
 ·exact iY
 ·obtain⟨⟩:=a
  have eB:=(List.getElem?_eq_some_iff.1 hb).1
  have gZ: ∀ d,Option.getD y2[i]? d=b:=fun d=>by rw [hb];rfl
  have hw:=sX eB hn
  have bW:ltI (i:Int) (y2.length:Int)=true:=et (by omega)
  have vL:leI (0:Int) (i:Int)=true:=bv (by omega)
  have im:ltN i y2.length=true:=gu eB
  refine⟨?_,?_,?_,?_⟩
  ·simp [ia,ib,ic,ie,ig,ii,gG,ao,LT.nds,allT,cj,bW,vL,im,gZ]
  ·simp [ia,ib,ic,ie,ig,ii,gG,ao,LT.each,cj,oZ,hw]
  ·simp only [ia,ib,ic,ie,ig,ii,gG,ao,LT.fn,cj,oZ,eu,Int.toNat_natCast,bW,vL,im,gZ,cond_true,Bool.cond_self]
  ·exact fun _ _=>trivial
 ·obtain⟨⟩:=a
  simp [ia,ib,ic,ie,ig,ii,gG,ao,LT.out,cj]
theorem alx(n:Int)(l:List Int)(h:leN l.length 9223372036854775807=true):SK n l=bitsB n l∧SL l=true:=by
 obtain⟨w1,w2⟩:=ae2 l (io.1 h)
 rw [iQ (P:=fun v=> !inR v 0 1) (j:=0) (fun v=>by simp only [yR,bt,TT])]at w2
 have e5:(l.any fun v=> !inR v 0 1)= !l.all fun v=>inR v 0 1:=by simp [List.all_eq_not_any_not]
 rw [e5]at w2
 simp only [SK,SL,w1,w2,allT,bitsB]
 cases (l.all fun v=>inR v 0 1) <;> simp [Nat.beq]
theorem apD(v:Int):(bif v !=0 then v !=1 else false)= !inR v 0 1:=by
 have:inR v 0 1=(v==0||v==1):=by rw [Bool.eq_iff_iff,EG];simp;omega
 rw [this]
 cases h0:v==0 <;> simp [bne,h0]
theorem akU(n:Int)(l:List Int)(h:leN l.length 9223372036854775807=true):RQ n l=bitsB n l∧RR n l=true:=by
 obtain⟨w1,w2⟩:=Ik l (io.1 h)
 rw [iQ (P:=fun v=> !inR v 0 1) (j:=0) (fun v=>by simp only [eu,AD,apD])]at w2
 have e5:(l.any fun v=> !inR v 0 1)= !l.all fun v=>inR v 0 1:=by simp [List.all_eq_not_any_not]
 rw [e5]at w2
 have q: ∀ m:Nat,leI 0 (m:Int)=true:=fun m=>bv (by omega)
 have q2:leI 0 (-1)=false:=rfl
 simp only [RQ,RR,pR,pS,rN,rO,mj,w1,w2,allT,bitsB,cj]
 cases (l.all fun v=>inR v 0 1) <;> cases ((l.length:Int)==n) <;> simp [Nat.beq,q,q2]
theorem aaq(p q:Int):afl p q p q=min p q:=by rw [am8];cases h:ltI p q <;> simp <;> simp at h <;> omega
theorem aap(p q:Int):afl p q q p=max p q:=by rw [am8];cases h:ltI p q <;> simp <;> simp at h <;> omega
theorem UR{l:List Int}(h:bitsB 1 l=true): ∃ x,l= [x]∧(x=0∨x=1):=by
 obtain⟨h1,h2⟩:=fa.1 h
 match l,h1,h2 with
 | [x],h1,_=>exact⟨x,rfl,h1 x (by simp)⟩
 | [],_,h2=>simp at h2
 |_::_::_,_,h2=>simp at h2;omega
theorem US{l:List Int}(h:bitsB 2 l=true): ∃ x y,l= [x,y]∧(x=0∨x=1)∧(y=0∨y=1):=by
 obtain⟨h1,h2⟩:=fa.1 h
 match l,h1,h2 with
 | [x,y],h1,_=>exact⟨x,y,rfl,h1 x (by simp),h1 y (by simp)⟩
 | [],_,h2=>simp at h2
 | [_],_,h2=>simp at h2
 |_::_::_::_,_,h2=>simp at h2;omega
theorem akl{k n a b c:Int}{s:ByteArray}{l:List Int}(hB:TH k s n=true)(hP:possB k n a b c=true)(hA:bitsB (takesK k) l=true):
  Df k n a b c l=gy k n a b c l∧AH k n a b c l=ij k n a b c l∧
  AJ k b c l=ik k b c l∧AK k n a b c l=il k n a c l∧Dg l=true∧jT l=true∧
  possB k n (ij k n a b c l) (ik k b c l) (il k n a c l)=true:=by
 obtain⟨hk,hn,_⟩:=VO hB
 have hw:IntKind.i64.wrap (n + 1)=n + 1:=bc (by omega) (by omega)
 have hwa:=(aaa hP hn).1
 have hwa1:IntKind.i64.wrap (a + 1)=a + 1:=bc (by omega) (by omega)
 have hwa2:IntKind.i64.wrap (a - 1)=a - 1:=bc (by omega) (by omega)
 have hm:IntKind.i64.wrap (min (a + 1) n)=min (a + 1) n:=bc (by omega) (by omega)
 have hm2:IntKind.i64.wrap (min n (a + 1))=min n (a + 1):=bc (by omega) (by omega)
 have h01:IntKind.i64.wrap (0 + 1)=1:=rfl
 have n0:IntKind.i64.wrap 0=0:=rfl
 have w1:IntKind.i64.wrap 1=1:=rfl
 have l12:ltI 1 2=true:=rfl
 have hb:=(aaa hP hn).2.1
 have hc:=(aaa hP hn).2.2
 rcases kinds hk with rfl | rfl | rfl | rfl | rfl | rfl
 ·obtain⟨x,rfl,hx⟩:=UR hA
  have hp:=hP
  simp [possB,dv,bt]at hp
  rcases hx with rfl | rfl <;> simp only [eN,Dh,Di,xw,nx,Dj,Dk,Df,AH,AJ,AK,Dg,sy,sz,sA,tL,tM,tN,tO,ja,pk,rr,tP,tQ,vR,vS,vT,vU,ny,ci,iE,kO,ft,kP,kQ,kR,kT,jK,gy,ij,ik,il,jT,gX,iD,jJ,kM,kN,mn,mo,mp,mq,iH,possB,dv,bt,allT,aaq,aap] <;> simp [hw,hwa1,hwa2,hm,hm2,h01,n0,w1,l12,hp,Bool.cond_eq_ite] <;> (repeat' split) <;> omega
 ·obtain⟨x,rfl,hx⟩:=UR hA
  have hp:=hP
  simp [possB,dv,bt]at hp
  rcases hx with rfl | rfl <;> simp only [eN,Dh,Di,xw,nx,Dj,Dk,Df,AH,AJ,AK,Dg,sy,sz,sA,tL,tM,tN,tO,ja,pk,rr,tP,tQ,vR,vS,vT,vU,ny,ci,iE,kO,ft,kP,kQ,kR,kT,jK,gy,ij,ik,il,jT,gX,iD,jJ,kM,kN,mn,mo,mp,mq,iH,possB,dv,bt,allT,aaq,aap] <;> simp [hw,hwa1,hwa2,hm,hm2,h01,n0,w1,l12,hp,Bool.cond_eq_ite] <;> (repeat' split) <;> omega
 ·obtain⟨x,rfl,hx⟩:=UR hA
  have hp:=hP
  simp [possB,dv,bt]at hp
  rcases hx with rfl | rfl <;> simp only [eN,Dh,Di,xw,nx,Dj,Dk,Df,AH,AJ,AK,Dg,sy,sz,sA,tL,tM,tN,tO,ja,pk,rr,tP,tQ,vR,vS,vT,vU,ny,ci,iE,kO,ft,kP,kQ,kR,kT,jK,gy,ij,ik,il,jT,gX,iD,jJ,kM,kN,mn,mo,mp,mq,iH,possB,dv,bt,allT,aaq,aap] <;> simp [hw,hwa1,hwa2,hm,hm2,h01,n0,w1,l12,hp,Bool.cond_eq_ite] <;> (repeat' split) <;> omega
 ·obtain⟨x,y,rfl,hx,hy⟩:=US hA
  have hp:=hP
  simp [possB,dv,bt]at hp
  rcases hx with rfl | rfl <;> rcases hy with rfl | rfl <;> simp only [eN,Dh,Di,xw,nx,Dj,Dk,Df,AH,AJ,AK,Dg,sy,sz,sA,tL,tM,tN,tO,ja,pk,rr,tP,tQ,vR,vS,vT,vU,ny,ci,iE,kO,ft,kP,kQ,kR,kT,jK,gy,ij,ik,il,jT,gX,iD,jJ,kM,kN,mn,mo,mp,mq,iH,possB,dv,bt,allT,aaq,aap] <;> simp [hw,hwa1,hwa2,hm,hm2,h01,n0,w1,l12,hp,Bool.cond_eq_ite] <;> (repeat' split) <;> omega
 ·obtain⟨x,y,rfl,hx,hy⟩:=US hA
  have hp:=hP
  rcases hb with rfl | rfl <;> rcases hc with rfl | rfl <;> rcases hx with rfl | rfl <;> rcases hy with rfl | rfl <;> simp [possB,dv,bt,hw]at hp <;> simp only [eN,Dh,Di,xw,nx,Dj,Dk,Df,AH,AJ,AK,Dg,sy,sz,sA,tL,tM,tN,tO,ja,pk,rr,tP,tQ,vR,vS,vT,vU,ny,ci,iE,kO,ft,kP,kQ,kR,kT,jK,gy,ij,ik,il,jT,gX,iD,jJ,kM,kN,mn,mo,mp,mq,iH,possB,dv,bt,allT,aaq,aap] <;> simp [hw,hwa1,hwa2,hm,hm2,h01,n0,w1,l12,hp,Bool.cond_eq_ite] <;> (repeat' split) <;> omega
 ·obtain⟨x,y,rfl,hx,hy⟩:=US hA
  have hp:=hP
  rcases hb with rfl | rfl <;> rcases hc with rfl | rfl <;> rcases hx with rfl | rfl <;> rcases hy with rfl | rfl <;> simp [possB,dv,bt,hw]at hp <;> simp only [eN,Dh,Di,xw,nx,Dj,Dk,Df,AH,AJ,AK,Dg,sy,sz,sA,tL,tM,tN,tO,ja,pk,rr,tP,tQ,vR,vS,vT,vU,ny,ci,iE,kO,ft,kP,kQ,kR,kT,jK,gy,ij,ik,il,jT,gX,iD,jJ,kM,kN,mn,mo,mp,mq,iH,possB,dv,bt,allT,aaq,aap] <;> simp [hw,hwa1,hwa2,hm,hm2,h01,n0,w1,l12,hp,Bool.cond_eq_ite] <;> (repeat' split) <;> omega
def YW:List SV→List Entry→Option Out
 | [.one ⟨false,[.ref 0]⟩,.one ⟨false,[.val (.int .i64 x0)]⟩],[.row false 2 (.int .i64) x1]=>some ⟨.one ⟨false,[.val (.bool (bitsB x0 x1))]⟩,[.row false 2 agJ x1],[],[leN x1.length 9223372036854775807]⟩
 |_,_=>none
def vc:PF prog:=PF.alt aia YW (by
 intro args es o h cE;unfold YW at h;split at h
 ·rename_i x0 x1
  cases h
  have cE:=mH cE
  have hh:=alx x0 x1 cE
  obtain⟨e0,en⟩:=hh
  exact rV rfl (md en) (by simp only [e0] <;> rfl) rfl rfl
 ·cases h)
def YP:List SV→List Entry→Option Out
 | [.one ⟨false,[.ref 0]⟩,.one ⟨false,[.val (.int .i64 x0)]⟩],[.row false 2 (.int .i64) x1]=>some ⟨.one ⟨false,[.val (.bool (bitsB x0 x1))]⟩,[.row false 2 agJ x1],[],[leN x1.length 9223372036854775807]⟩
 |_,_=>none
def uZ:PF prog:=PF.alt ah1 YP (by
 intro args es o h cE;unfold YP at h;split at h
 ·rename_i x0 x1
  cases h
  have cE:=mH cE
  have hh:=akU x0 x1 cE
  obtain⟨e0,en⟩:=hh
  exact rV rfl (md en) (by simp only [e0] <;> rfl) rfl rfl
 ·cases h)
def SM(m:Nat)(rs:List (List Int)):Bool:=leN rs.length m&&rs.all fun x=>leN x.length m
theorem Wq{m:Nat}{rs:List (List Int)}:SM m rs=true↔rs.length≤m∧ ∀ x∈rs,x.length≤m:=by
 simp only [SM,Bool.and_eq_true,io,List.all_eq_true]
abbrev nV:=Int×Int×List (Int×(ByteArray×Int))
section
variable (y0 y1:Int)(y2:List (Int×(ByteArray×Int)))
def wQ:Int:=sR (((Option.getD y2[Int.toNat y0]? ((0:Int),ByteArray.empty,(0:Int))).2).1) y1
def zc:Bool:=ltI y0 (↑y2.length:Int)
def DE:Bool:=leI (0:Int) y0
def DF:Bool:=ltN y0.toNat y2.length
def DG:Bool:=ltI (wQ y0 y1 y2) (0:Int)
end
def uP:Int:=(-1:Int)
def DH(y0:Int):Int:=IntKind.wrap .i64 (y0 + (1:Int))
def DI(y0 y1:Int)(y2:List (Int×(ByteArray×Int))):Int:=wQ y0 y1 y2
def acl:nV→List (Nat×SV)
 |(y0,y1,_)=> [(5,(.one ⟨false,[.val (.int .i64 y0)]⟩)),(0,(.one ⟨false,[.ref 0]⟩)),(1,(.one ⟨false,[.val (.int .i64 y1)]⟩))]
def aca:nV→List (Nat×Entry)
 |(_,_,y2)=> [(0,(.row false 175 afk y2))]
def acF:Nat→nV→List (Nat×SV)
 |0,(_,_,_)=> [(4,(.one ⟨false,[.val (.int .i64 (uP))]⟩))]
 |_,(_,y1,_)=> [(1,(.one ⟨false,[.val (.int .i64 y1)]⟩))]
def acv:Nat→nV→List (Nat×Entry)
 |0,(_,_,y2)=> [(0,(.row false 175 afk y2))]
 |_,(_,_,y2)=> [(0,(.row false 175 afk y2))]
def BQ:nV→LT nV
 |(y0,y1,y2)=> .ite (zc y0 y2) (.need [DE y0,zc y0 y2,DF y0 y2] (.ite (DG y0 y1 y2) (.ext 0 [(0,0)]) (.nrm ((DH y0),DI y0 y1 y2,y2) [(0,0)]))) (.ext 1 [(0,0)])
def MI(s:St):Option nV:=
 (match s.look 5 with
 |some ⟨none,.one ⟨false,[.val (.int .i64 y0)]⟩⟩=>
 (match s.look 0 with
 |some ⟨none,.one ⟨false,[.ref 0]⟩⟩=>
 (match s.look 1 with
 |some ⟨none,.one ⟨false,[.val (.int .i64 y1)]⟩⟩=>
 (match s.ent 0 with
 |some (.row false 175 (.pair (.int .i64) (.pair .str (.int .i64))) y2)=>
 some (y0,y1,y2)
 |_=>none)
 |_=>none)
 |_=>none)
 |_=>none)
def eV:Lp nV where
 h:=⟨[12,13,14,15,18,19,20,21,22,23,1,24,25,4,16,17,5],[0],[],[]⟩
 JL:=acl
 JE:=aca
 XL:=acF
 XE:=acv
 q:=fun j=>match j with | 0=> .ret | _=> .exit 0
 tags:= [0,1]
 lt:=BQ
 fuel:=fun(y0,y1,y2)=>y0.natAbs + y1.natAbs + y2.length
 fix:=fun(_,_,y2) (y0,y1,_)=>(y0,y1,y2)
 σ:= [(0,0)]
 rd:=MI
theorem ZM:LoopOk prog (fun k=>Nat.blt k Tryz.f84.ntmps) eV.F (aL f84 0):=by
 refine Lp.ok (tbl:= [abZ]) (lf:= []) aP eV (by kernel_rfl) (LOk.nil _) (fun _=>rfl) (fun j _=>by unfold eV;match j with | 0=>rfl | _ + 1=>rfl) ?_ ?_ ?_ ?_ (fun _=>rfl) ?_
 ·rintro⟨y0,y1,y2⟩;kernel_rfl
 ·rintro⟨y0,y1,y2⟩;kernel_rfl
 ·intro s x h
  have h:MI s=some x:=h
  unfold MI at h
  repeat' split at h
  all_goals cases h
  exact⟨aa (by assumption) rfl (aa (by assumption) rfl (aa (by assumption) rfl (rfl))),ab rfl (by assumption) rfl (rfl)⟩
 ·rintro⟨y0,y1,y2⟩;kernel_rfl
 ·rintro⟨y0,y1,y2⟩ z;exact(And.intro (And.intro trivial rfl) trivial)
section
variable (x0:Int)(x1:List (Int×ByteArray×Int))
def LO:Int:=IntKind.wrap .i64 (x0 - (↑x1.length:Int))
def LP:Int×Int×List (Int×ByteArray×Int):=((0:Int),LO x0 x1,x1)
def RZ:Int:=bif ltI (LO x0 x1) (0:Int)then(-1:Int)else bif Nat.beq ((Lp.res eV (LP x0 x1)).1) (0:Nat)then uP else ((Lp.res eV (LP x0 x1)).2.2).1
def Sa:Bool:=allT [ltI (LO x0 x1) (0:Int)||Lp.fin eV (LP x0 x1)]
end
def Yh:List SV→List Entry→Option Out
 | [.one ⟨false,[.ref 0]⟩,.one ⟨false,[.val (.int .i64 x0)]⟩],[.row false 175 (.pair (.int .i64) (.pair (.str) (.int .i64))) x1]=>some ⟨.one ⟨false,[.val (.int .i64 (RZ x0 x1))]⟩,[.row false 175 afk x1],[],[Sa x0 x1]⟩
 |_,_=>none
def ah3:PF prog:=PF.ofG prog [abZ] [eV.F] aP 84 f84 func84 (LOk.fnT (l:= [aL f84 0]) (by kernel_rfl) (.cons ZM (.nil _))) Yh (by
 intro vs es r h;unfold Yh at h;split at h
 ·cases h;kernel_rfl
 ·cases h)
section
variable (x0 x1 x2 x3 x4:Int)(x5:List (Int×ByteArray×Int))
def Vm:Bool:=bif x3==(1:Int)then x3==(1:Int)else bif x3==(2:Int)then x3==(2:Int)else x3==(3:Int)
def Vn:Bool:=bif x3==(5:Int)then x3==(5:Int)else x3==(6:Int)
def Vo:Bool:=bif x3==(8:Int)then x3==(8:Int)else x3==(9:Int)
def ag1:Int:=bif Vm x3 then(0:Int)else bif x3==(4:Int)then(1:Int)else bif Vn x3 then(2:Int)else bif x3==(7:Int)then lY ((Option.getD x5[Int.toNat x4]? ((0:Int),ByteArray.empty,(0:Int))).1)else bif Vo x3 then(1:Int)else(0:Int)
def ag2:Int:=bif Vm x3 then(1:Int)else bif x3==(4:Int)then(1:Int)else bif Vn x3 then(1:Int)else bif x3==(7:Int)then(1:Int)else bif Vo x3 then(0:Int)else(0:Int)
def ait:Bool:=bif x3==(1:Int)then bt x4 (0:Int) (1:Int)else bif bif x3==(2:Int)then x3==(2:Int)else x3==(10:Int)then bt x4 (0:Int) (IntKind.wrap .i64 (x0 - (1:Int)))else bif bif x3==(3:Int)then x3==(3:Int)else bif x3==(8:Int)then x3==(8:Int)else x3==(11:Int)then bt x4 (0:Int) (IntKind.wrap .i64 (x1 - (1:Int)))else bif bif x3==(4:Int)then x3==(4:Int)else bif x3==(5:Int)then x3==(5:Int)else x3==(6:Int)then x4==(0:Int)else bif x3==(7:Int)then bt x4 (0:Int) (IntKind.wrap .i64 ((↑x5.length:Int) - (1:Int)))else bif x3==(9:Int)then bt x4 (0:Int) (IntKind.wrap .i64 (x2 - (1:Int)))else false
end
abbrev nX:=Int×List (Int×(ByteArray×Int))×List (Int×(ByteArray×Int))
section
variable (y0:Int)(y1 y2:List (Int×(ByteArray×Int)))
def ti:Int×ByteArray×Int:=Option.getD y1[Int.toNat y0]? ((0:Int),ByteArray.empty,(0:Int))
def zg:Bool:=ltI y0 (↑y1.length:Int)
def zh:Bool:=leI (0:Int) y0
def DM:Bool:=ltN y0.toNat y1.length
def DN:Bool:=ltI y0 (↑y2.length:Int)
def DO:Bool:=ltN y0.toNat y2.length
def DP:Int:=IntKind.wrap .i64 (y0 + (1:Int))
def DQ:List (Int×(ByteArray×Int)):=List.set y2 y0.toNat ((ti y0 y1).1,((ti y0 y1).2).1,(ti y0 y1).2.2)
end
def acn:nX→List (Nat×SV)
 |(y0,_,_)=> [(4,(.one ⟨false,[.val (.int .i64 y0)]⟩)),(0,(.one ⟨false,[.ref 0]⟩)),(3,(.one ⟨false,[.ref 1]⟩))]
def acd:nX→List (Nat×Entry)
 |(_,y1,y2)=> [(0,(.row false 175 afk y1)),(1,(.row true 178 afk y2))]
def acH:Nat→nX→List (Nat×SV)
 |_,(_,_,_)=> []
def acx:Nat→nX→List (Nat×Entry)
 |_,(_,y1,y2)=> [(0,(.row false 175 afk y1)),(1,(.row true 178 afk y2))]
def BT:nX→LT nX
 |(y0,y1,y2)=> .ite (zg y0 y1) (.need [zh y0,zg y0 y1,DM y0 y1,zh y0,DN y0 y2,DO y0 y2] (.nrm ((DP y0),y1,(DQ y0 y1 y2)) [(0,0),(1,1)])) (.ext 0 [(0,0),(1,1)])
def MK(s:St):Option nX:=
 (match s.look 4 with
 |some ⟨none,.one ⟨false,[.val (.int .i64 y0)]⟩⟩=>
 (match s.look 0 with
 |some ⟨none,.one ⟨false,[.ref 0]⟩⟩=>
 (match s.look 3 with
 |some ⟨none,.one ⟨false,[.ref 320]⟩⟩=>
 (match s.ent 0 with
 |some (.row false 175 (.pair (.int .i64) (.pair .str (.int .i64))) y1)=>
 (match s.ent 320 with
 |some (.row true 178 (.pair (.int .i64) (.pair .str (.int .i64))) y2)=>
 some (y0,y1,y2)
 |_=>none)
 |_=>none)
 |_=>none)
 |_=>none)
 |_=>none)
def ir:Lp nX where
 h:=⟨[8,9,10,11,14,15,16,17,18,19,20,21,12,13,4],[0,1],[],[]⟩
 JL:=acn
 JE:=acd
 XL:=acH
 XE:=acx
 q:=fun j=>match j with | _=> .exit 0
 tags:= [0]
 lt:=BT
 fuel:=fun(y0,y1,y2)=>y0.natAbs + y1.length + y2.length
 fix:=fun(_,y1,_) (y0,_,y2)=>(y0,y1,y2)
 σ:= [(0,0),(1,320)]
 rd:=MK
theorem ZO:LoopOk prog (fun k=>Nat.blt k Tryz.f90.ntmps) ir.F (aL f90 0):=by
 refine Lp.ok (tbl:= [ab0]) (lf:= []) aP ir (by kernel_rfl) (LOk.nil _) (fun _=>rfl) (fun _ _=>rfl) ?_ ?_ ?_ ?_ (fun _=>rfl) ?_
 ·rintro⟨y0,y1,y2⟩;kernel_rfl
 ·rintro⟨y0,y1,y2⟩;kernel_rfl
 ·intro s x h
  have h:MK s=some x:=h
  unfold MK at h
  repeat' split at h
  all_goals cases h
  exact⟨aa (by assumption) rfl (aa (by assumption) rfl (aa (by assumption) rfl (rfl))),ab rfl (by assumption) rfl (ab rfl (by assumption) rfl (rfl))⟩
 ·rintro⟨y0,y1,y2⟩;kernel_rfl
 ·rintro⟨y0,y1,y2⟩ z;exact(And.intro rfl trivial)
def LV(x0:List (Int×ByteArray×Int)):Int×List (Int×ByteArray×Int)×List (Int×ByteArray×Int):=
 ((0:Int),x0,List.replicate (Int.toNat (↑x0.length:Int)) ((0:Int),{ data:= #[] },(0:Int)))
def Oe(x0:List (Int×ByteArray×Int)):List (Int×(ByteArray×Int)):=(Lp.res ir (LV x0)).2.2.2
def Of(x0:List (Int×ByteArray×Int)):Bool:=allT [leI (0:Int) (↑x0.length:Int),leI (↑x0.length:Int) (↑x0.length:Int),leI ((↑(32:Nat):Int) * (↑x0.length:Int)) (281474976710656:Int),leI (↑x0.length:Int) (9223372036854775807:Int),Lp.fin ir (LV x0)]
def Yj:List SV→List Entry→Option Out
 | [.one ⟨false,[.ref 0]⟩],[.row false 175 (.pair (.int .i64) (.pair (.str) (.int .i64))) x0]=>some ⟨.one ⟨false,[.ref 1]⟩,[.row false 175 afk x0],[.row true 178 afk (Oe x0)],[Of x0]⟩
 |_,_=>none
def ah4:PF prog:=PF.ofG prog [ab0] [ir.F] aP 90 f90 func90 (LOk.fnT (l:= [aL f90 0]) (by kernel_rfl) (.cons ZO (.nil _))) Yj (by
 intro vs es r h;unfold Yj at h;split at h
 ·cases h;kernel_rfl
 ·cases h)
def rq(x0:Int):Int:=bif bif x0==(1:Int)then x0==(1:Int)else bif x0==(2:Int)then x0==(2:Int)else x0==(3:Int)then(0:Int)else bif bif x0==(4:Int)then x0==(4:Int)else bif x0==(7:Int)then x0==(7:Int)else bif x0==(8:Int)then x0==(8:Int)else x0==(9:Int)then(1:Int)else(2:Int)
def Um:List SV→List Entry→Option Out
 | [.one ⟨false,[.val (.int .i64 x0)]⟩],[]=>some ⟨.one ⟨false,[.val (.int .i64 (rq x0))]⟩,[],[],[]⟩
 |_,_=>none
def Kr:PF prog:=PF.ofG prog [] [] aP 222 f222 func222 (fun c _=>LOk.nil c) Um (by
 intro vs es r h;unfold Um at h;split at h
 ·cases h;kernel_rfl
 ·cases h)
abbrev bd:=Int×Int×List (Int×(ByteArray×Int))×List Int×List (Int×(Int×Int))
section
variable (y0 y1:Int)(y2:List (Int×(ByteArray×Int)))(y4:List (Int×(Int×Int)))
def dw:Int×ByteArray×Int:=Option.getD y2[Int.toNat y0]? ((0:Int),ByteArray.empty,(0:Int))
def cC:Int×Int×Int:=Option.getD y4[Int.toNat y0]? ((0:Int),(0:Int),(0:Int))
def fT:Bool:=ltI y0 y1
def dA:Bool:=leI (0:Int) y0
def fU:Bool:=ltI y0 (↑y2.length:Int)
def fV:Bool:=ltN y0.toNat y2.length
def fW:Bool:=ltI y0 (↑y4.length:Int)
def fX:Bool:=ltN y0.toNat y4.length
def fY:Bool:= !yT ((dw y0 y2).1) ((dw y0 y2).2.2) ((cC y0 y4).1) (((cC y0 y4).2).1) ((cC y0 y4).2.2)
def fZ:Int:=IntKind.wrap .i64 (y0 + (1:Int))
end
def Gf:bd→List (Nat×SV)
 |(y0,y1,_,_,_)=> [(24,(.one ⟨false,[.val (.int .i64 y0)]⟩)),(23,(.one ⟨false,[.val (.int .i64 y1)]⟩)),(22,(.one ⟨false,[.ref 0]⟩)),(3,(.one ⟨false,[.ptr 1 0]⟩))]
def Gd:bd→List (Nat×Entry)
 |(_,_,y2,y3,y4)=> [(0,(.row false 178 afk y2)),(1,(.box 48 [.ref 2,.ref 3])),(2,(.row false 2 agJ y3)),(3,(.row false 172 aal y4))]
def Gj:Nat→bd→List (Nat×SV)
 |0,(_,_,_,_,_)=> [(6,(.one ⟨false,[.val (.bool false)]⟩))]
 |_,(_,_,_,_,_)=> []
def Gh:Nat→bd→List (Nat×Entry)
 |0,(_,_,y2,y3,y4)=> [(0,(.row false 178 afk y2)),(1,(.box 48 [.ref 2,.ref 3])),(2,(.row false 2 agJ y3)),(3,(.row false 172 aal y4))]
 |_,(_,_,y2,y3,y4)=> [(0,(.row false 178 afk y2)),(1,(.box 48 [.ref 2,.ref 3])),(2,(.row false 2 agJ y3)),(3,(.row false 172 aal y4))]
def fJ:bd→LT bd
 |(y0,y1,y2,y3,y4)=> .ite (fT y0 y1) (.need [dA y0,fU y0 y2,fV y0 y2] (.need [dA y0,fW y0 y4,fX y0 y4] (.ite (fY y0 y2 y4) (.ext 0 [(0,0),(1,1),(2,2),(3,3)]) (.nrm ((fZ y0),y1,y2,y3,y4) [(0,0),(1,1),(2,2),(3,3)])))) (.ext 1 [(0,0),(1,1),(2,2),(3,3)])
def om(s:St):Option bd:=
 (match s.look 24 with
 |some ⟨none,.one ⟨false,[.val (.int .i64 y0)]⟩⟩=>
 (match s.look 23 with
 |some ⟨none,.one ⟨false,[.val (.int .i64 y1)]⟩⟩=>
 (match s.look 22 with
 |some ⟨none,.one ⟨false,[.ref 2]⟩⟩=>
 (match s.look 3 with
 |some ⟨none,.one ⟨false,[.ptr 256 0]⟩⟩=>
 (match s.ent 2 with
 |some (.row false 178 (.pair (.int .i64) (.pair .str (.int .i64))) y2)=>
 (match s.ent 256 with
 |some (.box 48 [.ref 0,.ref 1])=>
 (match s.ent 0 with
 |some (.row false 2 (.int .i64) y3)=>
 (match s.ent 1 with
 |some (.row false 172 (.pair (.int .i64) (.pair (.int .i64) (.int .i64))) y4)=>
 some (y0,y1,y2,y3,y4)
 |_=>none)
 |_=>none)
 |_=>none)
 |_=>none)
 |_=>none)
 |_=>none)
 |_=>none)
 |_=>none)
def ap:Lp bd where
 h:=⟨[25,26,27,28,8,7,29,30,31,32,33,34,35,36,6,37,24],[0,1,2,3],[],[]⟩
 JL:=Gf
 JE:=Gd
 XL:=Gj
 XE:=Gh
 q:=fun j=>match j with | 0=> .ret | _=> .exit 0
 tags:= [0,1]
 lt:=fJ
 fuel:=fun(y0,y1,y2,y3,y4)=>y0.natAbs + y1.natAbs + y2.length + y3.length + y4.length
 fix:=fun(_,y1,y2,y3,y4) (y0,_,_,_,_)=>(y0,y1,y2,y3,y4)
 σ:= [(0,2),(1,256),(2,0),(3,1)]
 rd:=om
theorem EC:LoopOk prog (fun k=>Nat.blt k Tryz.f116.ntmps) ap.F (aL f116 0):=by
 refine Lp.ok (tbl:= [uZ,PF.lend uZ,PF.fz uZ,Tq]) (lf:= []) aP ap (by kernel_rfl) (LOk.nil _) (fun _=>rfl) (fun j _=>by unfold ap;match j with | 0=>rfl | _ + 1=>rfl) ?_ ?_ ?_ ?_ (fun _=>rfl) ?_
 ·rintro⟨y0,y1,y2,y3,y4⟩;kernel_rfl
 ·rintro⟨y0,y1,y2,y3,y4⟩;kernel_rfl
 ·intro s x h
  have h:om s=some x:=h
  unfold om at h
  repeat' split at h
  all_goals cases h
  exact⟨aa (by assumption) rfl (aa (by assumption) rfl (aa (by assumption) rfl (aa (by assumption) rfl (rfl)))),ab rfl (by assumption) rfl (ab rfl (by assumption) rfl (ab rfl (by assumption) rfl (ab rfl (by assumption) rfl (rfl))))⟩
 ·rintro⟨y0,y1,y2,y3,y4⟩;kernel_rfl
 ·rintro⟨y0,y1,y2,y3,y4⟩ z;exact(And.intro (And.intro trivial rfl) trivial)
section
variable (x0:Int)(x1:List Int)(x2:List (Int×Int×Int))(x3:List (Int×ByteArray×Int))
def ew:Bool:=bif !bitsB x0 x1 then true else(↑x2.length:Int)!=(↑x3.length:Int)
def pL:Int×Int×List (Int×ByteArray×Int)×List Int×List (Int×Int×Int):=((0:Int),(↑x3.length:Int),x3,x1,x2)
def lH:Bool:=bif ew x0 x1 x2 x3 then false else bif Nat.beq ((Lp.res ap (pL x1 x2 x3)).1) (0:Nat)then false else true
def lI:Bool:=allT [leN x1.length (9223372036854775807:Nat),ew x0 x1 x2 x3||Lp.fin ap (pL x1 x2 x3)]
end
def xj:List SV→List Entry→Option Out
 | [.one ⟨true,[.ref 0,.ref 1]⟩,.one ⟨false,[.val (.int .i64 x0)]⟩,.one ⟨false,[.ref 2]⟩],[.row false 2 (.int .i64) x1,.row false 172 (.pair (.int .i64) (.pair (.int .i64) (.int .i64))) x2,.row false 178 (.pair (.int .i64) (.pair (.str) (.int .i64))) x3]=>some ⟨.one ⟨false,[.val (.bool (lH x0 x1 x2 x3))]⟩,[.row false 2 agJ x1,.row false 172 aal x2,.row false 178 afk x3],[],[lI x0 x1 x2 x3]⟩
 |_,_=>none
def IO:PF prog:=PF.ofG prog [uZ,PF.lend uZ,PF.fz uZ,Tq] [ap.F] aP 116 f116 func116 (LOk.fnT (l:= [aL f116 0]) (by kernel_rfl) (.cons EC (.nil _))) xj (by
 intro vs es r h;unfold xj at h;split at h
 ·cases h;kernel_rfl
 ·cases h)
def rB(x0:List (Int×Int×Int)):Bool:=allT [ltN (0:Nat) x0.length,false||leN ((0:Nat) + List.length x0) (9223372036854775807:Nat),false||leN (((0:Nat) + List.length x0) * (24:Nat)) (140737488355328:Nat)]
def Fb:List SV→List Entry→Option Out
 | [.one ⟨false,[.ref 0]⟩],[.row false 172 (.pair (.int .i64) (.pair (.int .i64) (.int .i64))) x0]=>some ⟨.one ⟨false,[.ref 1]⟩,[.row false 172 aal x0],[.row true 172 aal x0],[rB x0]⟩
 |_,_=>none
def PN:PF prog:=PF.ofG prog [] [] aP 195 f195 func195 (fun c _=>LOk.nil c) Fb (by
 intro vs es r h;unfold Fb at h;split at h
 ·cases h;kernel_rfl
 ·cases h)
def Lw(x0:Int)(x1:ByteArray)(x2 x3:Int)(x4:ByteArray)(x5:Int):Bool:=bif x0 !=x3 then false else bif !ByteArray.toList x1==ByteArray.toList x4 then false else bif x2 !=x5 then false else true
def aby:List SV→List Entry→Option Out
 | [.one ⟨true,[.val (.int .i64 x0),.val (.string x1),.val (.int .i64 x2)]⟩,.one ⟨true,[.val (.int .i64 x3),.val (.string x4),.val (.int .i64 x5)]⟩],[]=>some ⟨.one ⟨false,[.val (.bool (Lw x0 x1 x2 x3 x4 x5))]⟩,[],[],[]⟩
 |_,_=>none
def abY:PF prog:=PF.ofG prog [] [] aP 166 f166 func166 (fun c _=>LOk.nil c) aby (by
 intro vs es r h;unfold aby at h;split at h
 ·cases h;kernel_rfl
 ·cases h)
abbrev nT:=Int×List (Int×(ByteArray×Int))×List (Int×(ByteArray×Int))
section
variable (y0:Int)(y1 y2:List (Int×(ByteArray×Int)))
def tf:Int×ByteArray×Int:=Option.getD y1[Int.toNat y0]? ((0:Int),ByteArray.empty,(0:Int))
def tg:Int×ByteArray×Int:=Option.getD y2[Int.toNat y0]? ((0:Int),ByteArray.empty,(0:Int))
def yY:Bool:=ltI y0 (↑y1.length:Int)
def yZ:Bool:=leI (0:Int) y0
def Dq:Bool:=ltN y0.toNat y1.length
def Dr:Bool:=ltI y0 (↑y2.length:Int)
def Ds:Bool:=ltN y0.toNat y2.length
def Dt:Bool:= !Lw ((tf y0 y1).1) (((tf y0 y1).2).1) ((tf y0 y1).2.2) ((tg y0 y2).1) (((tg y0 y2).2).1) ((tg y0 y2).2.2)
def Du:Int:=IntKind.wrap .i64 (y0 + (1:Int))
end
def acj:nT→List (Nat×SV)
 |(y0,_,_)=> [(5,(.one ⟨false,[.val (.int .i64 y0)]⟩)),(0,(.one ⟨false,[.ref 0]⟩)),(1,(.one ⟨false,[.ref 1]⟩))]
def ab8:nT→List (Nat×Entry)
 |(_,y1,y2)=> [(0,(.row false 178 afk y1)),(1,(.row false 178 afk y2))]
def acD:Nat→nT→List (Nat×SV)
 |0,(_,_,_)=> [(4,(.one ⟨false,[.val (.bool false)]⟩))]
 |_,(_,_,_)=> []
def act:Nat→nT→List (Nat×Entry)
 |0,(_,y1,y2)=> [(0,(.row false 178 afk y1)),(1,(.row false 178 afk y2))]
 |_,(_,y1,y2)=> [(0,(.row false 178 afk y1)),(1,(.row false 178 afk y2))]
def BO:nT→LT nT
 |(y0,y1,y2)=> .ite (yY y0 y1) (.need [yZ y0,yY y0 y1,Dq y0 y1,yZ y0,Dr y0 y2,Ds y0 y2] (.ite (Dt y0 y1 y2) (.ext 0 [(0,0),(1,1)]) (.nrm ((Du y0),y1,y2) [(0,0),(1,1)]))) (.ext 1 [(0,0),(1,1)])
def MG(s:St):Option nT:=
 (match s.look 5 with
 |some ⟨none,.one ⟨false,[.val (.int .i64 y0)]⟩⟩=>
 (match s.look 0 with
 |some ⟨none,.one ⟨false,[.ref 0]⟩⟩=>
 (match s.look 1 with
 |some ⟨none,.one ⟨false,[.ref 1]⟩⟩=>
 (match s.ent 0 with
 |some (.row false 178 (.pair (.int .i64) (.pair .str (.int .i64))) y1)=>
 (match s.ent 1 with
 |some (.row false 178 (.pair (.int .i64) (.pair .str (.int .i64))) y2)=>
 some (y0,y1,y2)
 |_=>none)
 |_=>none)
 |_=>none)
 |_=>none)
 |_=>none)
def gq:Lp nT where
 h:=⟨[11,12,13,14,17,18,19,20,21,22,23,24,25,26,4,15,16,5],[0,1],[],[]⟩
 JL:=acj
 JE:=ab8
 XL:=acD
 XE:=act
 q:=fun j=>match j with | 0=> .ret | _=> .exit 0
 tags:= [0,1]
 lt:=BO
 fuel:=fun(y0,y1,y2)=>y0.natAbs + y1.length + y2.length
 fix:=fun(_,y1,y2) (y0,_,_)=>(y0,y1,y2)
 σ:= [(0,0),(1,1)]
 rd:=MG
theorem ZK:LoopOk prog (fun k=>Nat.blt k Tryz.f96.ntmps) gq.F (aL f96 0):=by
 refine Lp.ok (tbl:= [abY]) (lf:= []) aP gq (by kernel_rfl) (LOk.nil _) (fun _=>rfl) (fun j _=>by unfold gq;match j with | 0=>rfl | _ + 1=>rfl) ?_ ?_ ?_ ?_ (fun _=>rfl) ?_
 ·rintro⟨y0,y1,y2⟩;kernel_rfl
 ·rintro⟨y0,y1,y2⟩;kernel_rfl
 ·intro s x h
  have h:MG s=some x:=h
  unfold MG at h
  repeat' split at h
  all_goals cases h
  exact⟨aa (by assumption) rfl (aa (by assumption) rfl (aa (by assumption) rfl (rfl))),ab rfl (by assumption) rfl (ab rfl (by assumption) rfl (rfl))⟩
 ·rintro⟨y0,y1,y2⟩;kernel_rfl
 ·rintro⟨y0,y1,y2⟩ z;exact(And.intro (And.intro trivial rfl) trivial)
section
variable (x0 x1:List (Int×ByteArray×Int))
def LK:Bool:=(↑x0.length:Int)!=(↑x1.length:Int)
def LL:Int×List (Int×ByteArray×Int)×List (Int×ByteArray×Int):=((0:Int),x0,x1)
def NY:Bool:=bif LK x0 x1 then false else bif Nat.beq ((Lp.res gq (LL x0 x1)).1) (0:Nat)then false else true
def NZ:Bool:=allT [LK x0 x1||Lp.fin gq (LL x0 x1)]
end
def Yf:List SV→List Entry→Option Out
 | [.one ⟨false,[.ref 0]⟩,.one ⟨false,[.ref 1]⟩],[.row false 178 (.pair (.int .i64) (.pair (.str) (.int .i64))) x0,.row false 178 (.pair (.int .i64) (.pair (.str) (.int .i64))) x1]=>some ⟨.one ⟨false,[.val (.bool (NY x0 x1))]⟩,[.row false 178 afk x0,.row false 178 afk x1],[],[NZ x0 x1]⟩
 |_,_=>none
def ah2:PF prog:=PF.ofG prog [abY] [gq.F] aP 96 f96 func96 (LOk.fnT (l:= [aL f96 0]) (by kernel_rfl) (.cons ZK (.nil _))) Yf (by
 intro vs es r h;unfold Yf at h;split at h
 ·cases h;kernel_rfl
 ·cases h)
abbrev qy:=Int×ByteArray
def pE(y0:Int):ByteArray:=strOfNums [IntKind.wrap IntKind.u8 (IntKind.wrap .i64 ((48:Int) + Int.tmod y0 (10:Int)))]
def GN(y0:Int):Bool:=ltI (0:Int) y0
def Mq:Bool:=neI (10:Int) (0:Int)
section
variable (y0:Int)(y1:ByteArray)
def RW:Bool:=leN (ByteArray.size (pE y0) + ByteArray.size y1) (9223372036854775807:Nat)
def RX:Int:=IntKind.wrap .i64 (Int.tdiv y0 (10:Int))
def RY:ByteArray:=pE y0++y1
end
def aaK:qy→List (Nat×SV)
 |(y0,y1)=> [(0,(.one ⟨false,[.val (.int .i64 y0)]⟩)),(3,(.one ⟨false,[.val (.string y1)]⟩))]
def aaA:qy→List (Nat×Entry)
 |(_,_)=> []
def aa4:Nat→qy→List (Nat×SV)
 |_,(y0,y1)=> [(3,(.one ⟨false,[.val (.string y1)]⟩)),(0,(.one ⟨false,[.val (.int .i64 y0)]⟩))]
def aaU:Nat→qy→List (Nat×Entry)
 |_,(_,_)=> []
def EQ:qy→LT qy
 |(y0,y1)=> .ite (GN y0) (.need [Mq,RW y0 y1] (.need [Mq] (.nrm ((RX y0),(RY y0 y1)) []))) (.ext 0 [])
def Lc(s:St):Option qy:=
 (match s.look 0 with
 |some ⟨none,.one ⟨false,[.val (.int .i64 y0)]⟩⟩=>
 (match s.look 3 with
 |some ⟨none,.one ⟨false,[.val (.string y1)]⟩⟩=>
 some (y0,y1)
 |_=>none)
 |_=>none)
def jS:Lp qy where
 h:=⟨[6,7,8,9,10,11,12,13,14,15,3,16,17,0],[],[],[]⟩
 JL:=aaK
 JE:=aaA
 XL:=aa4
 XE:=aaU
 q:=fun j=>match j with | _=> .exit 0
 tags:= [0]
 lt:=EQ
 fuel:=fun(y0,y1)=>y0.natAbs + y1.size
 fix:=fun(_,_) (y0,y1)=>(y0,y1)
 σ:= []
 rd:=Lc
theorem XS:LoopOk prog (fun k=>Nat.blt k Tryz.f168.ntmps) jS.F (aL f168 0):=by
 refine Lp.ok (tbl:= []) (lf:= []) aP jS (by kernel_rfl) (LOk.nil _) (fun _=>rfl) (fun _ _=>rfl) ?_ ?_ ?_ ?_ (fun _=>rfl) ?_
 ·rintro⟨y0,y1⟩;kernel_rfl
 ·rintro⟨y0,y1⟩;kernel_rfl
 ·intro s x h
  have h:Lc s=some x:=h
  unfold Lc at h
  repeat' split at h
  all_goals cases h
  exact⟨aa (by assumption) rfl (aa (by assumption) rfl (rfl)),rfl⟩
 ·rintro⟨y0,y1⟩;kernel_rfl
 ·rintro⟨y0,y1⟩ z;exact(And.intro rfl trivial)
def Pq(x0:Int):ByteArray:=
 (Lp.res jS (x0,{ data:= #[] })).2.2
def nz(x0:Int):ByteArray:=
 bif leI x0 (0:Int)then { data:= #[(109:UInt8),(48:UInt8)] } else { data:= #[(109:UInt8)] } ++Pq x0
def Hq(x0:Int):Bool:=
 allT
 [leI x0 (0:Int)||Lp.fin jS (x0,{ data:= #[] }),
  leI x0 (0:Int)||leN (ByteArray.size { data:= #[(109:UInt8)] } + ByteArray.size (Pq x0)) (9223372036854775807:Nat)]
def WC:List SV→List Entry→Option Out
 | [.one ⟨false,[.val (.int .i64 x0)]⟩],[]=>some ⟨.one ⟨false,[.val (.string (nz x0))]⟩,[],[],[Hq x0]⟩
 |_,_=>none
def QO:PF prog:=PF.ofG prog [] [jS.F] aP 168 f168 func168 (LOk.fnT (l:= [aL f168 0]) (by kernel_rfl) (.cons XS (.nil _))) WC (by
 intro vs es r h;unfold WC at h;split at h
 ·cases h;kernel_rfl
 ·cases h)
abbrev lw:=Int×Int×List (Int×(ByteArray×Int))
section
variable (y0 y1:Int)(y2:List (Int×(ByteArray×Int)))
def qG:Int:=IntKind.wrap .i64 (y1 + (1:Int))
def tV:ByteArray×Int:=(Option.getD y2[Int.toNat y0]? ((0:Int),ByteArray.empty,(0:Int))).2
def ot:List (Int×ByteArray×Int):=List.set y2 y0.toNat (y1,(tV y0 y2).1,(tV y0 y2).2)
def tW:Int×ByteArray×Int:=Option.getD (ot y0 y1 y2)[Int.toNat y0]? ((0:Int),ByteArray.empty,(0:Int))
def ov:List (Int×ByteArray×Int):=List.set (ot y0 y1 y2) y0.toNat ((tW y0 y1 y2).1,nz (qG y1),(tW y0 y1 y2).2.2)
def tX:Int:=IntKind.wrap .i64 (qG y1 + (1:Int))
def tY:Int×ByteArray×Int:=Option.getD (ov y0 y1 y2)[Int.toNat y0]? ((0:Int),ByteArray.empty,(0:Int))
def vC:Bool:=ltI y0 (↑y2.length:Int)
def sd:Bool:=leI (0:Int) y0
def zN:Bool:=ltN y0.toNat y2.length
def zO:Bool:=Hq (qG y1)
def zP:Bool:=ltI y0 (↑(List.length (ot y0 y1 y2)):Int)
def zQ:Bool:=ltN y0.toNat (List.length (ot y0 y1 y2))
def zR:Bool:=ltI y0 (↑(List.length (ov y0 y1 y2)):Int)
def zS:Bool:=ltN y0.toNat (List.length (ov y0 y1 y2))
def zT:Int:=IntKind.wrap .i64 (y0 + (1:Int))
def zU:Int:=IntKind.wrap .i64 (tX y1 + (1:Int))
def xQ:List (Int×(ByteArray×Int)):=List.set (ov y0 y1 y2) y0.toNat ((tY y0 y1 y2).1,((tY y0 y1 y2).2).1,tX y1)
end
def YH:lw→List (Nat×SV)
 |(y0,y1,_)=> [(5,(.one ⟨false,[.val (.int .i64 y0)]⟩)),(0,(.one ⟨false,[.ref 0]⟩)),(1,(.one ⟨false,[.val (.int .i64 y1)]⟩))]
def Yx:lw→List (Nat×Entry)
 |(_,_,y2)=> [(0,(.row true 178 afk y2))]
def Zk:Nat→lw→List (Nat×SV)
 |_,(_,y1,_)=> [(1,(.one ⟨false,[.val (.int .i64 y1)]⟩))]
def Za:Nat→lw→List (Nat×Entry)
 |_,(_,_,y2)=> [(0,(.row true 178 afk y2))]
def xV:lw→LT lw
 |(y0,y1,y2)=> .ite (vC y0 y2) (.need [sd y0,vC y0 y2,zN y0 y2] (.need [zO y1,sd y0,zP y0 y1 y2,zQ y0 y1 y2] (.need [sd y0,zR y0 y1 y2,zS y0 y1 y2] (.nrm ((zT y0),zU y1,(xQ y0 y1 y2)) [(0,0)])))) (.ext 0 [(0,0)])
def JO(s:St):Option lw:=
 (match s.look 5 with
 |some ⟨none,.one ⟨false,[.val (.int .i64 y0)]⟩⟩=>
 (match s.look 0 with
 |some ⟨none,.one ⟨false,[.ref 0]⟩⟩=>
 (match s.look 1 with
 |some ⟨none,.one ⟨false,[.val (.int .i64 y1)]⟩⟩=>
 (match s.ent 0 with
 |some (.row true 178 (.pair (.int .i64) (.pair .str (.int .i64))) y2)=>
 some (y0,y1,y2)
 |_=>none)
 |_=>none)
 |_=>none)
 |_=>none)
def fh:Lp lw where
 h:=⟨[6,7,8,9,12,13,14,15,16,17,18,1,19,20,21,22,23,24,25,26,27,28,29,30,31,32,33,10,11,5],[0],[],[]⟩
 JL:=YH
 JE:=Yx
 XL:=Zk
 XE:=Za
 q:=fun j=>match j with | _=> .exit 0
 tags:= [0]
 lt:=xV
 fuel:=fun(y0,y1,y2)=>y0.natAbs + y1.natAbs + y2.length
 fix:=fun(_,_,_) (y0,y1,y2)=>(y0,y1,y2)
 σ:= [(0,0)]
 rd:=JO
theorem VZ:LoopOk prog (fun k=>Nat.blt k Tryz.f98.ntmps) fh.F (aL f98 0):=by
 refine Lp.ok (tbl:= [QO]) (lf:= []) aP fh (by kernel_rfl) (LOk.nil _) (fun _=>rfl) (fun _ _=>rfl) ?_ ?_ ?_ ?_ (fun _=>rfl) ?_
 ·rintro⟨y0,y1,y2⟩;kernel_rfl
 ·rintro⟨y0,y1,y2⟩;kernel_rfl
 ·intro s x h
  have h:JO s=some x:=h
  unfold JO at h
  repeat' split at h
  all_goals cases h
  exact⟨aa (by assumption) rfl (aa (by assumption) rfl (aa (by assumption) rfl (rfl))),ab rfl (by assumption) rfl (rfl)⟩
 ·rintro⟨y0,y1,y2⟩;kernel_rfl
 ·rintro⟨y0,y1,y2⟩ z;exact(And.intro rfl trivial)
section
variable (x0:Int)(x1:List (Int×ByteArray×Int))
def Iv:Int×Int×List (Int×ByteArray×Int):=((0:Int),x0,x1)
def Ob:Int×List (Int×ByteArray×Int):=(Lp.res fh (Iv x0 x1)).2.2
def Pn:Int:=(Ob x0 x1).1
def Po:List (Int×(ByteArray×Int)):=(Ob x0 x1).2
def Pp:Bool:=allT [Lp.fin fh (Iv x0 x1)]
end
def Us:List SV→List Entry→Option Out
 | [.one ⟨false,[.ref 0]⟩,.one ⟨false,[.val (.int .i64 x0)]⟩],[.row true 178 (.pair (.int .i64) (.pair (.str) (.int .i64))) x1]=>some ⟨.one ⟨false,[.val (.int .i64 (Pn x0 x1))]⟩,[.row true 178 afk (Po x0 x1)],[],[Pp x0 x1]⟩
 |_,_=>none
def afG:PF prog:=PF.ofG prog [QO] [fh.F] aP 98 f98 func98 (LOk.fnT (l:= [aL f98 0]) (by kernel_rfl) (.cons VZ (.nil _))) Us (by
 intro vs es r h;unfold Us at h;split at h
 ·cases h;kernel_rfl
 ·cases h)
abbrev BS:=Int×Int×Int
def Xg(k n:Int)(l:List Int)(s:BS):BS:=(ij k n s.1 s.2.1 s.2.2 l,ik k s.2.1 s.2.2 l,il k n s.1 s.2.2 l)
def apt(k n:Int)(l:List Int)(s:BS):Int:=gy k n s.1 s.2.1 s.2.2 l
theorem aoA{k n a b c:Int}{s:ByteArray}{l:List Int}(hB:TH k s n=true)(hP:possB k n a b c=true)(hA:bitsB (takesK k) l=true):
  (AH k n a b c l,AJ k b c l,AK k n a b c l)=Xg k n l (a,b,c)∧possB k n (Xg k n l (a,b,c)).1 (Xg k n l (a,b,c)).2.1 (Xg k n l (a,b,c)).2.2=true:=by
 obtain⟨_,e1,e2,e3,_,_,e6⟩:=akl hB hP hA
 exact⟨by rw [e1,e2,e3];rfl,e6⟩
theorem Lp.inv{X:Type}(p:Lp X)(I Q:Nat→X→Prop)
  (hs: ∀ k x,I (k + 1) x→(∃ j,(p.lt x).out=some (.inl j)∧Q j x)∨ ∃ y,(p.lt x).out=some (.inr y)∧I k y)
  (he: ∀ x,I 0 x→ ∃ j,(p.lt x).out=some (.inl j)∧Q j x) (N:Nat) (x:X) (hN:N≤999) (h:I N x):
  p.fin x=true∧ ∃ j y,p.res x=(j,y)∧Q j y:=by
 have iY: ∀ (k:Nat) (x:X),I k x→ ∃ j y,OU p.lt (k + 1) x=some (j,y)∧Q j y:=by
  intro k
  induction k with
  |zero=>
   intro x h
   obtain⟨j,h1,h2⟩:=he x h
   exact⟨j,x,aeK _ h1,h2⟩
  |succ k ih=>
   intro x h
   rcases hs k x h with⟨j,h1,h2⟩ | ⟨y,h1,h2⟩
   ·exact⟨j,x,aeK _ h1,h2⟩
   ·obtain⟨j,z,h3,h4⟩:=ih y h2
    exact⟨j,z,by rw [ajs _ h1];exact h3,h4⟩
 obtain⟨j,y,h1,h2⟩:=iY N x h
 obtain⟨r1,r2⟩:=p.run h1 (aoq (by omega))
 exact⟨r1,j,y,r2,h2⟩
abbrev TM:=Int×ByteArray×Int
theorem akB{a b:ByteArray}:a.toList=b.toList↔a=b:=by
 constructor
 ·intro h
  rw [Go.Lib.toList_data,Go.Lib.toList_data]at h
  exact ByteArray.ext (Array.toList_inj.1 h)
 ·intro h;rw [h]
theorem amn(N:Nat)(hN:N≤20)(k:Int)(h0:0≤k)(hm:k≤9223372036854775807)(hk:k < 10 ^ N)(s:ByteArray)(hs:s.size=0):
  jS.fin (k,s)=true∧ ∃ j r,jS.res (k,s)=(j,r)∧r.2.size≤20:=by
 refine jS.inv (fun m x=>(0≤x.1∧x.1 < 10 ^ m)∧(m≤N∧x.1≤9223372036854775807)∧x.2.size≤N - m) (fun _ r=>r.2.size≤20) (fun m x hx=> ?_) (fun x hx=> ?_) N _ (by omega) ⟨⟨h0,hk⟩,⟨Nat.le_refl _,hm⟩,by simp only;omega⟩
 ·obtain⟨y0,y1⟩:=x
  obtain⟨⟨h1,h2⟩,⟨hm,hm2⟩,hl⟩:=hx
  simp only at h1 h2 hl hm2
  by_cases hz:0 < y0
  ·refine .inr ⟨(Int.tdiv y0 10,pE y0++y1),?_,⟨?_,?_⟩,⟨by omega,?_⟩,?_⟩
   ·have t1:ltI 0 y0=true:=et hz
    have JZ:(pE y0).size=1:=by simp [pE,strOfNums_size]
    have t2:leN ((pE y0).size + y1.size) 9223372036854775807=true:=dm (by omega)
    have hw:IntKind.i64.wrap (Int.tdiv y0 10)=Int.tdiv y0 10:=by
     rw [Int.tdiv_eq_ediv_of_nonneg h1];exact bc (by omega) (by omega)
    simp only [jS,EQ,LT.out,GN,Mq,RW,RX,RY,t1,t2,hw,allT,cond_true]
    rfl
   ·simp only;rw [Int.tdiv_eq_ediv_of_nonneg h1];omega
   ·simp only;rw [Int.tdiv_eq_ediv_of_nonneg h1]
    rw [Int.pow_succ]at h2;omega
   ·simp only;rw [Int.tdiv_eq_ediv_of_nonneg h1];omega
   ·have JZ:(pE y0).size=1:=by simp [pE,strOfNums_size]
    simp only [ByteArray.size_append,JZ];omega
  ·refine .inl ⟨0,?_,by simp only;omega⟩
   simp [jS,EQ,LT.out,GN,show ltI 0 y0=false from Pa (by omega)]
 ·obtain⟨y0,y1⟩:=x
  obtain⟨⟨h1,h2⟩,⟨hm,hm2⟩,hl⟩:=hx
  simp only at h1 h2 hl hm2
  have:y0=0:=by simp at h2;omega
  subst this
  exact⟨0,by simp [jS,EQ,LT.out,GN],by simp only;omega⟩
theorem ak8(k:Int)(h:(leI 0 k&&leI k 9223372036854775807)=true):Hq k=true:=by
 simp only [Bool.and_eq_true,DR]at h
 obtain⟨w1,j,r,w2,w3⟩:=amn 20 (by omega) k h.1 h.2 (by omega) ⟨#[]⟩ rfl
 simp only [Hq,Pq,w1,w2,allT,Bool.or_true,cond_true,Bool.or_eq_true]
 have:leN (ByteArray.size ⟨#[109]⟩ + r.2.size) 9223372036854775807=true:=dm (by have:(ByteArray.size ⟨#[109]⟩)=1:=rfl;omega)
 simp [this]
def WU:List SV→List Entry→Option Out
 | [.one ⟨false,[.val (.int .i64 x0)]⟩],[]=>some ⟨.one ⟨false,[.val (.string (nz x0))]⟩,[],[],[leI 0 x0&&leI x0 9223372036854775807]⟩
 |_,_=>none
def LX:PF prog:=PF.alt QO WU (by
 intro args es o h cE;unfold WU at h;split at h
 ·rename_i x0
  cases h
  have cE:=mH cE
  have hh:=ak8 x0 cE
  have en:=hh
  exact rV rfl (md en) rfl rfl rfl
 ·cases h)
def aiU:List TM→Nat
 | []=>0
 |t::r=>t.2.1.size + aiU r
def anx(xs ys:List (Int×ByteArray×Int)):Bool:=decide (xs=ys)
theorem anz(xs:List (Int×ByteArray×Int)):anx xs xs=true:=by simp [anx]
def uI(y1:List (Int×(ByteArray×Int)))(b:Nat):(List (Int×(ByteArray×Int)))→Nat ⊕ (List (Int×(ByteArray×Int)))
 |y2=>(.inr (List.set y2 b ((Option.getD y1[b]? ((0:Int),ByteArray.empty,(0:Int))).1,((Option.getD y1[b]? ((0:Int),ByteArray.empty,(0:Int))).2).1,(Option.getD y1[b]? ((0:Int),ByteArray.empty,(0:Int))).2.2)))
def rj(y1:List (Int×(ByteArray×Int)))(i:Nat):(List (Int×(ByteArray×Int)))→nX
 |y2=>((i:Int),y1,y2)
def MD:nX→List (Int×(ByteArray×Int))
 |(_,_,y2)=>y2
theorem ae1(y1 y2:List (Int×(ByteArray×Int)))(hn:y1.length≤9223372036854775807)(hl:y2.length=y1.length):
  ir.fin ((0:Int),y1,y2)=true∧ir.res ((0:Int),y1,y2)=((af (uI y1) 0 (List.range y1.length) 0 y2).1,(rj y1) (af (uI y1) 0 (List.range y1.length) 0 y2).2.1 (af (uI y1) 0 (List.range y1.length) 0 y2).2.2):=by
 have iY:=ir.along (rj y1) MD (uI y1) 0 (fun _ a=>a.length=y1.length) (List.range y1.length) y2 hl (by simp only [ir,rj,List.length_range];omega) (fun i b a hb hI=> ?_) (fun a hI=> ?_)
 ·exact iY
 ·obtain y2:=a
  obtain⟨rfl,eB⟩:=oC hb
  have hw:IntKind.i64.wrap ((b:Int) + 1)=((b + 1:Nat):Int):=by rw [bc (by omega) (by omega)];omega
  have bW:ltI (b:Int) (y1.length:Int)=true:=et (by omega)
  have vL:leI (0:Int) (b:Int)=true:=bv (by omega)
  have im:ltN b y1.length=true:=gu (by omega)
  refine⟨?_,?_,?_,?_⟩
  ·simp [ti,zg,zh,DM,DN,DO,DP,DQ,BT,ir,LT.nds,allT,rj,bW,vL,im,hI]
  ·simp [ti,zg,zh,DM,DN,DO,DP,DQ,BT,ir,LT.each,rj,MD,hw,hI]
  ·simp only [ti,zg,zh,DM,DN,DO,DP,DQ,BT,ir,LT.fn,rj,MD,uI,Int.toNat_natCast,bW,cond_true]
  ·intro a' hf;simp only [uI,Sum.inr.injEq]at hf;subst hf;simpa using hI
 ·obtain y2:=a
  simp [ti,zg,zh,DM,DN,DO,DP,DQ,BT,ir,LT.out,rj,List.length_range]
def yQ(y1 y2:List (Int×(ByteArray×Int)))(b:Nat):(Unit)→Nat ⊕ (Unit)
 |_=>(bif(!Lw ((Option.getD y1[b]? ((0:Int),ByteArray.empty,(0:Int))).1) (((Option.getD y1[b]? ((0:Int),ByteArray.empty,(0:Int))).2).1) ((Option.getD y1[b]? ((0:Int),ByteArray.empty,(0:Int))).2.2) ((Option.getD y2[b]? ((0:Int),ByteArray.empty,(0:Int))).1) (((Option.getD y2[b]? ((0:Int),ByteArray.empty,(0:Int))).2).1) ((Option.getD y2[b]? ((0:Int),ByteArray.empty,(0:Int))).2.2))then(.inl 0)else(.inr ()))
def tE(y1 y2:List (Int×(ByteArray×Int)))(i:Nat):(Unit)→nT
 |_=>((i:Int),y1,y2)
def Mz:nT→Unit
 |(_,_,_)=>()
theorem aeX(y1 y2:List (Int×(ByteArray×Int))) (hn:y1.length≤9223372036854775807) (he:y2.length=y1.length):
  gq.fin ((0:Int),y1,y2)=true∧gq.res ((0:Int),y1,y2)=((af (yQ y1 y2) 1 (List.range y1.length) 0 ()).1,(tE y1 y2) (af (yQ y1 y2) 1 (List.range y1.length) 0 ()).2.1 (af (yQ y1 y2) 1 (List.range y1.length) 0 ()).2.2):=by
 have iY:=gq.along (tE y1 y2) Mz (yQ y1 y2) 1 (fun _ _=>True) (List.range y1.length) () (by trivial) (by simp only [gq,tE,List.length_range];omega) (fun i b a hb hI=> ?_) (fun a hI=> ?_)
 ·exact iY
 ·obtain⟨⟩:=a
  obtain⟨rfl,eB⟩:=oC hb
  have hw:IntKind.i64.wrap ((b:Int) + 1)=((b + 1:Nat):Int):=by rw [bc (by omega) (by omega)];omega
  have bW:ltI (b:Int) (y1.length:Int)=true:=et (by omega)
  have vL:leI (0:Int) (b:Int)=true:=bv (by omega)
  have im:ltN b y1.length=true:=gu (by omega)
  refine⟨?_,?_,?_,?_⟩
  ·simp [tf,tg,yY,yZ,Dq,Dr,Ds,Dt,Du,BO,gq,LT.nds,allT,tE,bW,vL,im,he]
  ·simp [tf,tg,yY,yZ,Dq,Dr,Ds,Dt,Du,BO,gq,LT.each,tE,Mz,hw,he]
  ·simp only [tf,tg,yY,yZ,Dq,Dr,Ds,Dt,Du,BO,gq,LT.fn,tE,Mz,yQ,Int.toNat_natCast,bW,cond_true]
  ·exact fun _ _=>trivial
 ·obtain⟨⟩:=a
  simp [tf,tg,yY,yZ,Dq,Dr,Ds,Dt,Du,BO,gq,LT.out,tE,List.length_range]
theorem amS(xs:List (Int×ByteArray×Int))(hn:leN xs.length 1048576=true):Oe xs=xs∧Of xs=true:=by
 have hn:=io.1 hn
 have hr:(List.replicate (Int.toNat (xs.length:Int)) ((0:Int),(⟨#[]⟩:ByteArray),(0:Int))).length=xs.length:=by simp
 obtain⟨w1,w2⟩:=ae1 xs (List.replicate (Int.toNat (xs.length:Int)) ((0:Int),(⟨#[]⟩:ByteArray),(0:Int))) (by omega) hr
 have hc:=Vp (xs:=xs) (d:=((0:Int),(⟨#[]⟩:ByteArray),(0:Int))) (g:=fun x=>x) (f:=uI xs) (e:=0) (fun b a=>rfl) hr
 rw [hc]at w2
 refine⟨?_,?_⟩
 ·simp only [LV,Oe,Of,w2,rj];simp
 ·simp only [LV,Oe,Of,w1,allT];simp;omega
def YS:List SV→List Entry→Option Out
 | [.one ⟨false,[.ref 0]⟩],[.row false 175 (.pair (.int .i64) (.pair (.str) (.int .i64))) x0]=>some ⟨.one ⟨false,[.ref 1]⟩,[.row false 175 afk x0],[.row true 178 afk x0],[leN x0.length 1048576]⟩
 |_,_=>none
def Si:PF prog:=PF.alt ah4 YS (by
 intro args es o h cE;unfold YS at h;split at h
 ·rename_i x0
  cases h
  have cE:=mH cE
  have hh:=amS x0 cE
  obtain⟨e0,en⟩:=hh
  exact rV rfl (md en) rfl rfl (by simp only [e0] <;> rfl)
 ·cases h)
theorem al7(xs ys:List (Int×ByteArray×Int))(hn:leN xs.length 9223372036854775807=true):NY xs ys=anx xs ys∧NZ xs ys=true:=by
 have hn:=io.1 hn
 unfold anx
 have h3: ∀ a b:Int×ByteArray×Int,(!Lw a.1 a.2.1 a.2.2 b.1 b.2.1 b.2.2)= !decide (a=b):=fun a b=>by
  obtain⟨a1,a2,a3⟩:=a;obtain⟨b1,b2,b3⟩:=b
  simp only [Lw,Prod.mk.injEq]
  by_cases h1:a1=b1 <;> by_cases h2:a2=b2 <;> by_cases h3:a3=b3 <;> simp [h1,h2,h3,akB]
 by_cases hl:ys.length=xs.length
 ·obtain⟨w1,w2⟩:=aeX xs ys hn hl
  have ha:=ajG (d:=((0:Int),ByteArray.empty,(0:Int))) hl (P:=fun b=> !decide (Option.getD xs[b]? ((0:Int),ByteArray.empty,(0:Int))=Option.getD ys[b]? ((0:Int),ByteArray.empty,(0:Int)))) (fun b=>rfl)
  rw [iQ (P:=fun b=> !decide (Option.getD xs[b]? ((0:Int),ByteArray.empty,(0:Int))=Option.getD ys[b]? ((0:Int),ByteArray.empty,(0:Int)))) (j:=0) (fun b=>by simp only [yQ,h3]),ha]at w2
  simp only [LK,LL,NY,NZ,w1,w2,allT]
  by_cases he:xs=ys
  ·subst he;simp;decide
  ·simp [he,hl]
 ·have Ql:xs≠ys:=fun h=>hl (by rw [h])
  simp [LK,LL,NY,NZ,allT,Ql]
  omega
def YQ:List SV→List Entry→Option Out
 | [.one ⟨false,[.ref 0]⟩,.one ⟨false,[.ref 1]⟩],[.row false 178 (.pair (.int .i64) (.pair (.str) (.int .i64))) x0,.row false 178 (.pair (.int .i64) (.pair (.str) (.int .i64))) x1]=>some ⟨.one ⟨false,[.val (.bool (anx x0 x1))]⟩,[.row false 178 afk x0,.row false 178 afk x1],[],[leN x0.length 9223372036854775807]⟩
 |_,_=>none
def Sg:PF prog:=PF.alt ah2 YQ (by
 intro args es o h cE;unfold YQ at h;split at h
 ·rename_i x0 x1
  cases h
  have cE:=mH cE
  have hh:=al7 x0 x1 cE
  obtain⟨e0,en⟩:=hh
  exact rV rfl (md en) (by simp only [e0] <;> rfl) rfl rfl
 ·cases h)
def upG{α:Type}(d:Nat)(mk:Int→α)(k:Int)(n:Nat):List α:=(List.range n).map fun(i:Nat)=>mk (k + d * (i:Int))
theorem aoP{α:Type}(d:Nat)(mk:Int→α)(k:Int)(n:Nat):upG d mk k (n + 1)=mk k::upG d mk (k + d) n:=by
 unfold upG
 rw [List.range_succ_eq_map,List.map_cons,List.map_map]
 congr 1
 ·simp
 ·refine List.map_congr_left fun i _=> ?_
  simp only [Function.comp]
  congr 1
  simp [Int.mul_add];omega
theorem aiA{α:Type}{d:Nat}{mk:Int→α}{f:Nat→Int×List α→Nat ⊕ (Int×List α)}{e:Nat}
  (hf: ∀ (b:Nat) (k:Int) (xs:List α),b < xs.length→0≤k→k + d≤9223372036854775807→f b (k,xs)= .inr (k + d,xs.set b (mk k))):
  ∀ (ys pre:List α) (k:Int),0≤k→k + d * (ys.length:Int)≤9223372036854775807→
   af f e (List.range' pre.length ys.length) pre.length (k,pre++ys)=(e,pre.length + ys.length,(k + d * (ys.length:Int),pre++upG d mk k ys.length))
 | [],pre,k,_,_=>by simp [af,upG]
 |y::ys,pre,k,h0,h1=>by
  have hd:(d:Int) * (((y::ys).length:Nat):Int)=d + d * (ys.length:Int):=by simp [Int.mul_add];omega
  rw [hd]at h1
  have hp:0≤(d:Int) * (ys.length:Int):=Int.mul_nonneg (by omega) (by omega)
  have hs:(pre++y::ys).set pre.length (mk k)=(pre++ [mk k])++ys:=by rw [List.set_append_right _ _ (Nat.le_refl _)];simp
  have ih:=aiA (e:=e) hf ys (pre++ [mk k]) (k + d) (by omega) (by omega)
  rw [List.length_cons,List.range'_succ]
  simp only [af,hf pre.length k (pre++y::ys) (by simp) h0 (by omega),hs]
  rw [List.length_append,List.length_singleton]at ih
  rw [ih,aoP]
  simp [Int.mul_add]
  omega
def ala(d:Nat)(k:Int)(n:Nat):Bool:=leI 0 k&&leI (k + d * (n:Int)) 9223372036854775807
theorem ajk{d:Nat}{k:Int}{n:Nat}:ala d k n=true↔0≤k∧k + d * (n:Int)≤9223372036854775807:=by simp [ala]
def pC(b:Nat):(Int×List (Int×(ByteArray×Int)))→Nat ⊕ (Int×List (Int×(ByteArray×Int)))
 |(y1,y2)=>(.inr ((IntKind.wrap .i64 ((IntKind.wrap .i64 ((IntKind.wrap .i64 (y1 + (1:Int))) + (1:Int))) + (1:Int))),(List.set (List.set (List.set y2 b (y1,((Option.getD y2[b]? ((0:Int),ByteArray.empty,(0:Int))).2).1,(Option.getD y2[b]? ((0:Int),ByteArray.empty,(0:Int))).2.2)) b ((Option.getD (List.set y2 b (y1,((Option.getD y2[b]? ((0:Int),ByteArray.empty,(0:Int))).2).1,(Option.getD y2[b]? ((0:Int),ByteArray.empty,(0:Int))).2.2))[b]? ((0:Int),ByteArray.empty,(0:Int))).1,nz (IntKind.wrap .i64 (y1 + (1:Int))),(Option.getD (List.set y2 b (y1,((Option.getD y2[b]? ((0:Int),ByteArray.empty,(0:Int))).2).1,(Option.getD y2[b]? ((0:Int),ByteArray.empty,(0:Int))).2.2))[b]? ((0:Int),ByteArray.empty,(0:Int))).2.2)) b ((Option.getD (List.set (List.set y2 b (y1,((Option.getD y2[b]? ((0:Int),ByteArray.empty,(0:Int))).2).1,(Option.getD y2[b]? ((0:Int),ByteArray.empty,(0:Int))).2.2)) b ((Option.getD (List.set y2 b (y1,((Option.getD y2[b]? ((0:Int),ByteArray.empty,(0:Int))).2).1,(Option.getD y2[b]? ((0:Int),ByteArray.empty,(0:Int))).2.2))[b]? ((0:Int),ByteArray.empty,(0:Int))).1,nz (IntKind.wrap .i64 (y1 + (1:Int))),(Option.getD (List.set y2 b (y1,((Option.getD y2[b]? ((0:Int),ByteArray.empty,(0:Int))).2).1,(Option.getD y2[b]? ((0:Int),ByteArray.empty,(0:Int))).2.2))[b]? ((0:Int),ByteArray.empty,(0:Int))).2.2))[b]? ((0:Int),ByteArray.empty,(0:Int))).1,((Option.getD (List.set (List.set y2 b (y1,((Option.getD y2[b]? ((0:Int),ByteArray.empty,(0:Int))).2).1,(Option.getD y2[b]? ((0:Int),ByteArray.empty,(0:Int))).2.2)) b ((Option.getD (List.set y2 b (y1,((Option.getD y2[b]? ((0:Int),ByteArray.empty,(0:Int))).2).1,(Option.getD y2[b]? ((0:Int),ByteArray.empty,(0:Int))).2.2))[b]? ((0:Int),ByteArray.empty,(0:Int))).1,nz (IntKind.wrap .i64 (y1 + (1:Int))),(Option.getD (List.set y2 b (y1,((Option.getD y2[b]? ((0:Int),ByteArray.empty,(0:Int))).2).1,(Option.getD y2[b]? ((0:Int),ByteArray.empty,(0:Int))).2.2))[b]? ((0:Int),ByteArray.empty,(0:Int))).2.2))[b]? ((0:Int),ByteArray.empty,(0:Int))).2).1,(IntKind.wrap .i64 ((IntKind.wrap .i64 (y1 + (1:Int))) + (1:Int)))))))
def ox(i:Nat):(Int×List (Int×(ByteArray×Int)))→lw
 |(y1,y2)=>((i:Int),y1,y2)
def JD:lw→Int×List (Int×(ByteArray×Int))
 |(_,y1,y2)=>(y1,y2)
theorem abl(y1:Int)(y2:List (Int×(ByteArray×Int)))(n:Nat)(hl:y2.length=n)(hn:n≤9223372036854775807)(h1:0≤y1)(h2:y1 + 3 * (n:Int)≤9223372036854775807):
  fh.fin ((0:Int),y1,y2)=true∧fh.res ((0:Int),y1,y2)=((af (pC) 0 (List.range n) 0 (y1,y2)).1,(ox) (af (pC) 0 (List.range n) 0 (y1,y2)).2.1 (af (pC) 0 (List.range n) 0 (y1,y2)).2.2):=by
 have iY:=fh.along (ox) JD (pC) 0 (fun i a=>a.2.length=n∧0≤a.1∧a.1 + 3 * ((n - i:Nat):Int)≤9223372036854775807) (List.range n) (y1,y2) ⟨hl,h1,by simpa using h2⟩ (by simp only [fh,ox,List.length_range];omega) (fun i b a hb hI=> ?_) (fun a hI=> ?_)
 ·exact iY
 ·obtain⟨y1,y2⟩:=a
  obtain⟨rfl,eB⟩:=oC hb
  have hI0:y2.length=n:=hI.1
  have hw:IntKind.i64.wrap ((b:Int) + 1)=((b + 1:Nat):Int):=by rw [bc (by omega) (by omega)];omega
  have bW:ltI (b:Int) (y2.length:Int)=true:=et (by omega)
  have vL:leI (0:Int) (b:Int)=true:=bv (by omega)
  have im:ltN b y2.length=true:=gu (by omega)
  refine⟨?_,?_,?_,?_⟩
  ·have hk:=hI.2
   simp only at hk
   have hw1:IntKind.i64.wrap (y1 + 1)=y1 + 1:=bc (by omega) (by omega)
   have h6:Hq (y1 + 1)=true:=ak8 (y1 + 1) ((Bool.and_eq_true _ _).mpr ⟨bv (by omega),bv (by omega)⟩)
   simp [qG,tV,ot,tW,ov,tX,tY,vC,sd,zN,zO,zP,zQ,zR,zS,zT,zU,xQ,xV,fh,LT.nds,allT,ox,bW,vL,im,hw1,h6]
  ·simp [qG,tV,ot,tW,ov,tX,tY,vC,sd,zN,zO,zP,zQ,zR,zS,zT,zU,xQ,xV,fh,LT.each,ox,JD,hw]
  ·simp only [qG,tV,ot,tW,ov,tX,tY,vC,sd,zN,zO,zP,zQ,zR,zS,zT,zU,xQ,xV,fh,LT.fn,ox,JD,pC,Int.toNat_natCast,bW,vL,im,cond_true,Bool.cond_self]
  ·have hk:=hI.2
   simp only at hk
   intro a' hf;simp only [pC,Sum.inr.injEq]at hf
   subst hf
   refine⟨by simp [hI0],?_⟩
   simp only
   rw [bc (x:=y1 + 1) (by omega) (by omega),bc (x:=y1 + 1 + 1) (by omega) (by omega),bc (x:=y1 + 1 + 1 + 1) (by omega) (by omega)]
   omega
 ·obtain⟨y1,y2⟩:=a
  have hI0:y2.length=n:=hI.1
  simp [qG,tV,ot,tW,ov,tX,tY,vC,sd,zN,zO,zP,zQ,zR,zS,zT,zU,xQ,xV,fh,LT.out,ox,hI0,List.length_range]
def mkT(k:Int):TM:=(k,nz (k + 1),k + 2)
theorem aoX(b:Nat)(k:Int)(xs:List TM)(hb:b < xs.length)(h0:0≤k)(h1:k + (3:Nat)≤9223372036854775807):pC b (k,xs)= .inr (k + (3:Nat),xs.set b (mkT k)):=by
 have w1:IntKind.i64.wrap (k + 1)=k + 1:=bc (by omega) (by omega)
 have w2:IntKind.i64.wrap (k + 1 + 1)=k + 2:=by rw [bc (by omega) (by omega)];omega
 have w3:IntKind.i64.wrap (k + 2 + 1)=k + 3:=by rw [bc (by omega) (by omega)];omega
 simp [pC,mkT,w1,w2,w3,List.set_set,List.getElem?_set,hb]
theorem anJ(k:Int)(xs:List TM)(h:(ala 3 k xs.length&&leN xs.length 9223372036854775807)=true):Pn k xs=k + 3 * (xs.length:Int)∧Pp k xs=true:=by
 simp only [Bool.and_eq_true,io]at h
 obtain⟨h0,h2⟩:=ajk.1 h.1
 obtain⟨w1,w2⟩:=abl k xs xs.length rfl h.2 h0 h2
 have hw:=aiA (e:=0) aoX xs [] k h0 h2
 rw [List.length_nil,List.nil_append,← List.range_eq_range']at hw
 rw [hw]at w2
 refine⟨?_,?_⟩
 ·simp only [Pn,Iv,Ob,w2,ox];rfl
 ·simp only [Pp,Iv,w1,allT,cond_true]
def UI:List SV→List Entry→Option Out
 | [.one ⟨false,[.ref 0]⟩,.one ⟨false,[.val (.int .i64 x0)]⟩],[.row true 178 (.pair (.int .i64) (.pair (.str) (.int .i64))) x1]=>some ⟨.one ⟨false,[.val (.int .i64 (x0 + 3 * (x1.length:Int)))]⟩,[.row true 178 afk (Po x0 x1)],[],[ala 3 x0 x1.length&&leN x1.length 9223372036854775807]⟩
 |_,_=>none
def AP:PF prog:=PF.alt afG UI (by
 intro args es o h cE;unfold UI at h;split at h
 ·rename_i x0 x1
  cases h
  have cE:=mH cE
  have hh:=anJ x0 x1 cE
  obtain⟨e0,en⟩:=hh
  exact rV rfl (md en) (by simp only [e0] <;> rfl) rfl rfl
 ·cases h)
def agA:Int→List TM→Int
 |k,[]=>k
 |k,t::r=>bif ltI (sR t.2.1 k) 0 then -1 else agA (sR t.2.1 k) r
def akp(k:Int)(ts:List TM):Int:=bif ltI (k - ts.length) 0 then -1 else agA (k - ts.length) ts
theorem anY{s:ByteArray}{k:Int}(hs:s.size≤9223372036854775807)(hk:0≤k∧k≤1048576):sR s k=bif ltI (k - (s.size:Int)) 0 then -1 else k - (s.size:Int):=by
 have hw:IntKind.i64.wrap (k - (s.size:Int))=k - (s.size:Int):=bc (by omega) (by omega)
 simp only [sR,Sb,hw]
def sx(b:Int×(ByteArray×Int)):(Int)→Nat ⊕ (Int)
 |y1=>(bif(ltI (sR (b.2.1) y1) (0:Int))then(.inl 0)else(.inr (sR (b.2.1) y1)))
def rh(y2:List (Int×(ByteArray×Int)))(i:Nat):(Int)→nV
 |y1=>((i:Int),y1,y2)
def MB:nV→Int
 |(_,y1,_)=>y1
theorem aeZ(y2:List (Int×(ByteArray×Int)))(y1:Int)(hn:y2.length≤9223372036854775807):
  eV.fin ((0:Int),y1,y2)=true∧eV.res ((0:Int),y1,y2)=((af (sx) 1 y2 0 y1).1,(rh y2) (af (sx) 1 y2 0 y1).2.1 (af (sx) 1 y2 0 y1).2.2):=by
 have iY:=eV.along (rh y2) MB (sx) 1 (fun _ _=>True) y2 y1 (by trivial) (by simp only [eV,rh];omega) (fun i b a hb hI=> ?_) (fun a hI=> ?_)
 ·exact iY
 ·obtain y1:=a
  have eB:=(List.getElem?_eq_some_iff.1 hb).1
  have gZ: ∀ d,Option.getD y2[i]? d=b:=fun d=>by rw [hb];rfl
  have hw:=sX eB hn
  have bW:ltI (i:Int) (y2.length:Int)=true:=et (by omega)
  have vL:leI (0:Int) (i:Int)=true:=bv (by omega)
  have im:ltN i y2.length=true:=gu eB
  refine⟨?_,?_,?_,?_⟩
  ·simp [wQ,zc,DE,DF,DG,uP,DH,DI,BQ,eV,LT.nds,allT,rh,bW,vL,im,gZ]
  ·simp [wQ,zc,DE,DF,DG,uP,DH,DI,BQ,eV,LT.each,rh,MB,hw]
  ·simp only [wQ,zc,DE,DF,DG,uP,DH,DI,BQ,eV,LT.fn,rh,MB,sx,Int.toNat_natCast,bW,vL,im,gZ,cond_true,Bool.cond_self]
  ·exact fun _ _=>trivial
 ·obtain y1:=a
  simp [wQ,zc,DE,DF,DG,uP,DH,DI,BQ,eV,LT.out,rh]
theorem alJ: ∀ (r:List TM) (i:Nat) (k:Int),(bif Nat.beq (af sx 1 r i k).1 0 then -1 else(af sx 1 r i k).2.2)=agA k r
 | [],i,k=>rfl
 |t::r,i,k=>by
  have hf:sx t k=bif ltI (sR t.2.1 k) 0 then .inl 0 else .inr (sR t.2.1 k):=rfl
  simp only [af,hf,agA]
  cases h:ltI (sR t.2.1 k) 0 with
  |true=>rfl
  |false=>simp only [cond_false];exact alJ r (i + 1) _
theorem apY(k:Int)(xs:List TM)(h:(leN xs.length 9223372036854775807&&(leI (-1) k&&leI k 1048576))=true):RZ k xs=akp k xs∧Sa k xs=true:=by
 simp only [Bool.and_eq_true,io,DR]at h
 have hw:IntKind.i64.wrap (k - (xs.length:Int))=k - (xs.length:Int):=bc (by omega) (by omega)
 obtain⟨w1,w2⟩:=aeZ xs (k - (xs.length:Int)) h.1
 have hs:=alJ xs 0 (k - (xs.length:Int))
 have e:uP= -1:=rfl
 simp only [RZ,Sa,LO,LP,hw,w1,w2,rh,allT,Bool.or_true,cond_true,akp,e,hs,and_self]
theorem agB: ∀ (r:List TM) (k:Int),(∀ t∈r,t.2.1.size≤9223372036854775807)→0≤k→k≤1048576→ltI (agA k r) 0=false→agA k r=k - aiU r∧(aiU r:Int)≤k
 | [],k,_,h0,h1,_=>by simp [agA,aiU];omega
 |t::r,k,hs,h0,h1,h=>by
  have ht:=anY (k:=k) (hs t (by simp)) ⟨h0,h1⟩
  simp only [agA]at h ⊢
  cases h2:ltI (k - (t.2.1.size:Int)) 0 with
  |true=>rw [ht,h2]at h;rw [cond_true]at h;exact absurd (show ltI (-1) 0=false from h) (by decide)
  |false=>
   have h3:=uQ.1 h2
   rw [h2,cond_false]at ht
   rw [ht,h2,cond_false]at h
   obtain⟨q1,q2⟩:=agB r _ (fun t ht=>hs t (by simp [ht])) h3 (by omega) h
   rw [ht,h2,cond_false,q1]
   simp only [aiU]
   omega
theorem amQ{k:Int}{xs:List TM}(hs: ∀ t∈xs,t.2.1.size≤9223372036854775807)(hk:k≤1048576)(h:ltI (akp k xs) 0=false):akp k xs=k - xs.length - aiU xs∧(xs.length:Int) + aiU xs≤k:=by
 simp only [akp]at h ⊢
 cases h2:ltI (k - (xs.length:Int)) 0 with
 |true=>rw [h2]at h;simp at h
 |false=>
  have h3:=uQ.1 h2
  rw [h2,cond_false]at h
  obtain⟨q1,q2⟩:=agB xs _ hs h3 (by omega) h
  rw [cond_false,q1]
  omega
def YR:List SV→List Entry→Option Out
 | [.one ⟨false,[.ref 0]⟩,.one ⟨false,[.val (.int .i64 x0)]⟩],[.row false 175 (.pair (.int .i64) (.pair (.str) (.int .i64))) x1]=>some ⟨.one ⟨false,[.val (.int .i64 (akp x0 x1))]⟩,[.row false 175 afk x1],[],[leN x1.length 9223372036854775807&&(leI (-1) x0&&leI x0 1048576)]⟩
 |_,_=>none
def Sh:PF prog:=PF.alt ah3 YR (by
 intro args es o h cE;unfold YR at h;split at h
 ·rename_i x0 x1
  cases h
  have cE:=mH cE
  have hh:=apY x0 x1 cE
  obtain⟨e0,en⟩:=hh
  exact rV rfl (md en) (by simp only [e0] <;> rfl) rfl rfl
 ·cases h)
theorem anr(xs:List (Int×Int×Int))(h:(leN 1 xs.length&&leN xs.length 1048576)=true):rB xs=true:=by
 simp only [Bool.and_eq_true,io]at h
 simp [rB,allT]
 omega
def adW:List SV→List Entry→Option Out
 | [.one ⟨false,[.val (.slice none 0 0)]⟩],[]=>some ⟨.one ⟨false,[.ref 0]⟩,[],[.row true 172 (.pair (.int .i64) (.pair (.int .i64) (.int .i64))) []],[true]⟩
 |_,_=>none
def akd:PF prog:=PF.ofG prog [PF.raw prog] [] aP 195 f195 func195 (fun c _=>LOk.nil c) adW (by
 intro vs es r h;unfold adW at h;split at h
 ·cases h;kernel_rfl
 ·cases h)
def adV:List SV→List Entry→Option Out
 | [.one ⟨false,[.val (.slice (some _) 0 _)]⟩],[]=>some ⟨.one ⟨false,[.ref 0]⟩,[],[.row true 172 (.pair (.int .i64) (.pair (.int .i64) (.int .i64))) []],[true]⟩
 |_,_=>none
def akc:PF prog:=PF.ofG prog [] [] aP 195 f195 func195 (fun c _=>LOk.nil c) adV (by
 intro vs es r h;unfold adV at h;split at h
 ·cases h;kernel_rfl
 ·cases h)
def Fe:List SV→List Entry→Option Out
 | [.one ⟨false,[.ref 0]⟩],[.row false 172 (.pair (.int .i64) (.pair (.int .i64) (.int .i64))) x0]=>some ⟨.one ⟨false,[.ref 1]⟩,[.row false 172 (.pair (.int .i64) (.pair (.int .i64) (.int .i64))) x0],[.row true 172 (.pair (.int .i64) (.pair (.int .i64) (.int .i64))) x0],[leN x0.length 1048576]⟩
 |_,_=>none
def wT:PF prog where
 k:=195
 F:=Fe
 ok:=by
  intro args es o h cE mem ρ w hp
  unfold Fe at h
  split at h
  ·rename_i x0
   cases h
   have hl:=cE _ (List.mem_singleton.2 rfl)
   cases x0 with
   |nil=>
    exact(an9 akd akc rfl rfl rfl (fun _ _=>rfl) (by simp) (by simp) hp).mono fun en w' ⟨ρ',h1,h2,h3⟩=>⟨ρ',h1,h2,rfl,(by intro v hv;rw [List.mem_singleton.1 hv];rfl),h3⟩
   |cons x xs=>exact PN.ok _ _ ⟨_,_,_,[rB (x::xs)]⟩ rfl (fun b hb=>by rw [List.mem_singleton.1 hb];exact anr (x::xs) ((Bool.and_eq_true _ _).mpr ⟨dm (Nat.succ_pos _),hl⟩)) mem ρ w hp
  ·cases h
abbrev IN:=Int×Int
abbrev BS3:=Int×Int×Int
def tkI(bs:List TM)(x:IN):Int:=ag1 x.1 x.2 bs
def gvI(x:IN):Int:=ag2 x.1
def aqm(i v o:Int)(bs:List TM)(x:IN):Bool:=ait i v o x.1 x.2 bs
def hgt(i v o:Int)(bs:List TM):List IN→Int→List Int→Option (Int×List Int)
 | [],n,acc=>some (n,acc)
 |x::r,n,acc=>bif aqm i v o bs x&&(leI (tkI bs x) n&&leI (n - tkI bs x + gvI x) 40)then hgt i v o bs r (n - tkI bs x + gvI x) (acc++ [n - tkI bs x + gvI x])else none
def abM(bs:List TM):Bool:=bs.all fun t=>TH t.1 t.2.1 t.2.2
def OO(bs:List TM)(k:Nat):TM:=Option.getD bs[k]? ((0:Int),ByteArray.empty,(0:Int))
def stAt(ss:List BS3)(k:Nat):BS3:=Option.getD ss[k]? ((0:Int),(0:Int),(0:Int))
def possAt(bs:List TM)(ss:List BS3)(k:Nat):Bool:=possB (OO bs k).1 (OO bs k).2.2 (stAt ss k).1 (stAt ss k).2.1 (stAt ss k).2.2
def Ga(v:Int)(bs:List TM)(xs:List Int)(ss:List BS3):Bool:=((ss.length:Int)==(bs.length:Int))&&(bitsB v xs&&(List.range bs.length).all fun k=>possAt bs ss k)
def fR(y2:List (Int×(ByteArray×Int)))(y4:List (Int×(Int×Int)))(b:Nat):(Unit)→Nat ⊕ (Unit)
 |_=>(bif(!yT ((Option.getD y2[b]? ((0:Int),ByteArray.empty,(0:Int))).1) ((Option.getD y2[b]? ((0:Int),ByteArray.empty,(0:Int))).2.2) ((Option.getD y4[b]? ((0:Int),(0:Int),(0:Int))).1) (((Option.getD y4[b]? ((0:Int),(0:Int),(0:Int))).2).1) ((Option.getD y4[b]? ((0:Int),(0:Int),(0:Int))).2.2))then(.inl 0)else(.inr ()))
def cD(y2:List (Int×(ByteArray×Int)))(y3:List Int)(y4:List (Int×(Int×Int)))(i:Nat):(Unit)→bd
 |_=>((i:Int),(↑y2.length:Int),y2,y3,y4)
def ol:bd→Unit
 |(_,_,_,_,_)=>()
theorem Hi(y2:List (Int×(ByteArray×Int)))(y3:List Int)(y4:List (Int×(Int×Int))) (hn:y2.length≤9223372036854775807) (he:y4.length=y2.length):
  ap.fin ((0:Int),(↑y2.length:Int),y2,y3,y4)=true∧ap.res ((0:Int),(↑y2.length:Int),y2,y3,y4)=((af (fR y2 y4) 1 (List.range y2.length) 0 ()).1,(cD y2 y3 y4) (af (fR y2 y4) 1 (List.range y2.length) 0 ()).2.1 (af (fR y2 y4) 1 (List.range y2.length) 0 ()).2.2):=by
 have iY:=ap.along (cD y2 y3 y4) ol (fR y2 y4) 1 (fun _ _=>True) (List.range y2.length) () (by trivial) (by simp only [ap,cD,List.length_range];omega) (fun i b a hb hI=> ?_) (fun a hI=> ?_)
 ·exact iY
 ·obtain⟨⟩:=a
  obtain⟨rfl,eB⟩:=oC hb
  have hw:IntKind.i64.wrap ((b:Int) + 1)=((b + 1:Nat):Int):=by rw [bc (by omega) (by omega)];omega
  have bW:ltI (b:Int) (y2.length:Int)=true:=et (by omega)
  have vL:leI (0:Int) (b:Int)=true:=bv (by omega)
  have im:ltN b y2.length=true:=gu (by omega)
  refine⟨?_,?_,?_,?_⟩
  ·simp [dw,cC,fT,dA,fU,fV,fW,fX,fY,fZ,fJ,ap,LT.nds,allT,cD,bW,vL,im,he]
  ·simp [dw,cC,fT,dA,fU,fV,fW,fX,fY,fZ,fJ,ap,LT.each,cD,ol,hw,he]
  ·simp only [dw,cC,fT,dA,fU,fV,fW,fX,fY,fZ,fJ,ap,LT.fn,cD,ol,fR,Int.toNat_natCast,bW,cond_true]
  ·exact fun _ _=>trivial
 ·obtain⟨⟩:=a
  simp [dw,cC,fT,dA,fU,fV,fW,fX,fY,fZ,fJ,ap,LT.out,cD,List.length_range]
theorem amW{α:Type}{g h:α→Bool}: ∀ (l:List α),(∀ k∈l,g k=h k)→(l.any fun b=> !g b)= !l.all h
 | [],_=>rfl
 |a::l,hg=>by
  rw [List.any_cons,List.all_cons,hg a (by simp),amW l (fun k hk=>hg k (by simp [hk]))]
  cases h a <;> simp
theorem anF(v:Int)(bs:List TM)(xs:List Int)(ss:List BS3)(h:(leN xs.length 9223372036854775807&&(leN bs.length 9223372036854775807&&abM bs))=true):
  lH v xs ss bs=Ga v bs xs ss∧lI v xs ss bs=true:=by
 simp only [Bool.and_eq_true]at h
 have hn:=io.1 h.2.1
 have hB: ∀ t∈bs,TH t.1 t.2.1 t.2.2=true:=List.all_eq_true.1 h.2.2
 by_cases hl:ss.length=bs.length
 ·obtain⟨w1,w2⟩:=Hi bs xs ss hn hl
  rw [iQ (P:=fun k=> !yT (OO bs k).1 (OO bs k).2.2 (stAt ss k).1 (stAt ss k).2.1 (stAt ss k).2.2) (j:=0) (fun k=>rfl),
   amW (g:=fun k=>yT (OO bs k).1 (OO bs k).2.2 (stAt ss k).1 (stAt ss k).2.1 (stAt ss k).2.2) (h:=possAt bs ss) _ (fun k hk=>by
    have hk:k < bs.length:=List.mem_range.1 hk
    have hg:OO bs k=bs[k]:=by simp only [OO,List.getElem?_eq_getElem hk];rfl
    have:=hB _ (List.getElem_mem hk)
    rw [← hg]at this
    exact ape (VO this).1)]at w2
  have a0:ew v xs ss bs= !bitsB v xs:=by simp only [ew,hl];cases bitsB v xs <;> simp
  simp only [lH,lI,pL,a0,w1,w2,h.1,allT,Ga,hl]
  cases bitsB v xs <;> cases (List.range bs.length).all (possAt bs ss) <;> simp [Nat.beq]
 ·have hl2: ¬ ((ss.length:Int)=(bs.length:Int)):=by omega
  have a0:ew v xs ss bs=true:=by simp only [ew];cases bitsB v xs <;> simp [hl2]
  have e:((ss.length:Int)==(bs.length:Int))=false:=by simpa using hl2
  simp [lH,lI,a0,allT,Ga,e,h.1]
def xm:List SV→List Entry→Option Out
 | [.one ⟨true,[.ref 0,.ref 1]⟩,.one ⟨false,[.val (.int .i64 x0)]⟩,.one ⟨false,[.ref 2]⟩],[.row false 2 (.int .i64) x1,.row false 172 (.pair (.int .i64) (.pair (.int .i64) (.int .i64))) x2,.row false 178 (.pair (.int .i64) (.pair (.str) (.int .i64))) x3]=>some ⟨.one ⟨false,[.val (.bool (Ga x0 x3 x1 x2))]⟩,[.row false 2 agJ x1,.row false 172 aal x2,.row false 178 afk x3],[],[leN x1.length 9223372036854775807&&(leN x3.length 9223372036854775807&&abM x3)]⟩
 |_,_=>none
def qm:PF prog:=PF.alt IO xm (by
 intro args es o h cE;unfold xm at h;split at h
 ·rename_i x0 x1 x2 x3
  cases h
  have cE:=mH cE
  have hh:=anF x0 x3 x1 x2 cE
  obtain⟨e0,en⟩:=hh
  exact rV rfl (md en) (by simp only [e0] <;> rfl) rfl rfl
 ·cases h)
abbrev mB:=Int×ByteArray×List ByteArray
section
variable (y0:Int)(y1:ByteArray)(y2:List ByteArray)
def wY:Bool:=ltI y0 (↑y2.length:Int)
def Cs:Bool:=leI (0:Int) y0
def Ct:Bool:=ltN y0.toNat y2.length
def Cu:Bool:=ByteArray.toList (Option.getD y2[Int.toNat y0]? ByteArray.empty)==ByteArray.toList y1
def Cv:Int:=IntKind.wrap .i64 (y0 + (1:Int))
end
def aaP:mB→List (Nat×SV)
 |(y0,y1,_)=> [(5,(.one ⟨false,[.val (.int .i64 y0)]⟩)),(0,(.one ⟨false,[.ref 0]⟩)),(1,(.one ⟨false,[.val (.string y1)]⟩))]
def aaF:mB→List (Nat×Entry)
 |(_,_,y2)=> [(0,(.row false 9 ahF y2))]
def aa9:Nat→mB→List (Nat×SV)
 |0,(y0,_,_)=> [(4,(.one ⟨false,[.val (.int .i64 y0)]⟩))]
 |_,(_,_,_)=> []
def aaZ:Nat→mB→List (Nat×Entry)
 |0,(_,_,y2)=> [(0,(.row false 9 ahF y2))]
 |_,(_,_,y2)=> [(0,(.row false 9 ahF y2))]
def At:mB→LT mB
 |(y0,y1,y2)=> .ite (wY y0 y2) (.need [Cs y0,wY y0 y2,Ct y0 y2] (.ite (Cu y0 y1 y2) (.ext 0 [(0,0)]) (.nrm ((Cv y0),y1,y2) [(0,0)]))) (.ext 1 [(0,0)])
def Lh(s:St):Option mB:=
 (match s.look 5 with
 |some ⟨none,.one ⟨false,[.val (.int .i64 y0)]⟩⟩=>
 (match s.look 0 with
 |some ⟨none,.one ⟨false,[.ref 0]⟩⟩=>
 (match s.look 1 with
 |some ⟨none,.one ⟨false,[.val (.string y1)]⟩⟩=>
 (match s.ent 0 with
 |some (.row false 9 (.str) y2)=>
 some (y0,y1,y2)
 |_=>none)
 |_=>none)
 |_=>none)
 |_=>none)
def dS:Lp mB where
 h:=⟨[6,7,8,9,12,13,14,15,16,17,18,4,10,11,5],[0],[],[]⟩
 JL:=aaP
 JE:=aaF
 XL:=aa9
 XE:=aaZ
 q:=fun j=>match j with | 0=> .ret | _=> .exit 0
 tags:= [0,1]
 lt:=At
 fuel:=fun(y0,y1,y2)=>y0.natAbs + y1.size + y2.length
 fix:=fun(_,y1,y2) (y0,_,_)=>(y0,y1,y2)
 σ:= [(0,0)]
 rd:=Lh
theorem XX:LoopOk prog (fun k=>Nat.blt k Tryz.f143.ntmps) dS.F (aL f143 0):=by
 refine Lp.ok (tbl:= []) (lf:= []) aP dS (by kernel_rfl) (LOk.nil _) (fun _=>rfl) (fun j _=>by unfold dS;match j with | 0=>rfl | _ + 1=>rfl) ?_ ?_ ?_ ?_ (fun _=>rfl) ?_
 ·rintro⟨y0,y1,y2⟩;kernel_rfl
 ·rintro⟨y0,y1,y2⟩;kernel_rfl
 ·intro s x h
  have h:Lh s=some x:=h
  unfold Lh at h
  repeat' split at h
  all_goals cases h
  exact⟨aa (by assumption) rfl (aa (by assumption) rfl (aa (by assumption) rfl (rfl))),ab rfl (by assumption) rfl (rfl)⟩
 ·rintro⟨y0,y1,y2⟩;kernel_rfl
 ·rintro⟨y0,y1,y2⟩ z;exact(And.intro (And.intro trivial rfl) trivial)
section
variable (x0:ByteArray)(x1:List ByteArray)
def KH:Int×ByteArray×List ByteArray:=((0:Int),x0,x1)
def Hv:Int:=bif Nat.beq ((Lp.res dS (KH x0 x1)).1) (0:Nat)then ((Lp.res dS (KH x0 x1)).2).1else(-1:Int)
def Me:Bool:=allT [Lp.fin dS (KH x0 x1)]
end
def WL:List SV→List Entry→Option Out
 | [.one ⟨false,[.ref 0]⟩,.one ⟨false,[.val (.string x0)]⟩],[.row false 9 (.str) x1]=>some ⟨.one ⟨false,[.val (.int .i64 (Hv x0 x1))]⟩,[.row false 9 ahF x1],[],[Me x0 x1]⟩
 |_,_=>none
def zp:PF prog:=PF.ofG prog [] [dS.F] aP 143 f143 func143 (LOk.fnT (l:= [aL f143 0]) (by kernel_rfl) (.cons XX (.nil _))) WL (by
 intro vs es r h;unfold WL at h;split at h
 ·cases h;kernel_rfl
 ·cases h)
abbrev mz:=Int×List ByteArray
section
variable (y0:Int)(y1:List ByteArray)
def pF:ByteArray:=Option.getD y1[Int.toNat y0]? ByteArray.empty
def wV:Bool:=ltI y0 (↑y1.length:Int)
def GZ:Bool:=leI (0:Int) y0
def Ha:Bool:=ltN y0.toNat y1.length
def Hb:Bool:=sW (pF y0 y1)
def Ci:Bool:= !mm (pF y0 y1)
def Hc:Int:=IntKind.wrap .i64 (y0 + (1:Int))
end
def aaM:mz→List (Nat×SV)
 |(y0,_)=> [(5,(.one ⟨false,[.val (.int .i64 y0)]⟩)),(0,(.one ⟨false,[.ref 0]⟩))]
def aaC:mz→List (Nat×Entry)
 |(_,y1)=> [(0,(.row false 9 ahF y1))]
def aa6:Nat→mz→List (Nat×SV)
 |0,(_,_)=> [(4,(.one ⟨false,[.val (.bool false)]⟩))]
 |_,(_,_)=> []
def aaW:Nat→mz→List (Nat×Entry)
 |0,(_,y1)=> [(0,(.row false 9 ahF y1))]
 |_,(_,y1)=> [(0,(.row false 9 ahF y1))]
def Aq:mz→LT mz
 |(y0,y1)=> .ite (wV y0 y1) (.need [GZ y0,wV y0 y1,Ha y0 y1,Hb y0 y1] (.ite (Ci y0 y1) (.ext 0 [(0,0)]) (.nrm ((Hc y0),y1) [(0,0)]))) (.ext 1 [(0,0)])
def Le(s:St):Option mz:=
 (match s.look 5 with
 |some ⟨none,.one ⟨false,[.val (.int .i64 y0)]⟩⟩=>
 (match s.look 0 with
 |some ⟨none,.one ⟨false,[.ref 0]⟩⟩=>
 (match s.ent 0 with
 |some (.row false 9 (.str) y1)=>
 some (y0,y1)
 |_=>none)
 |_=>none)
 |_=>none)
def eY:Lp mz where
 h:=⟨[6,7,8,9,12,13,14,15,16,17,4,10,11,5],[0],[],[]⟩
 JL:=aaM
 JE:=aaC
 XL:=aa6
 XE:=aaW
 q:=fun j=>match j with | 0=> .ret | _=> .exit 0
 tags:= [0,1]
 lt:=Aq
 fuel:=fun(y0,y1)=>y0.natAbs + y1.length
 fix:=fun(_,y1) (y0,_)=>(y0,y1)
 σ:= [(0,0)]
 rd:=Le
theorem XU:LoopOk prog (fun k=>Nat.blt k Tryz.f240.ntmps) eY.F (aL f240 0):=by
 refine Lp.ok (tbl:= [xx,JA]) (lf:= []) aP eY (by kernel_rfl) (LOk.nil _) (fun _=>rfl) (fun j _=>by unfold eY;match j with | 0=>rfl | _ + 1=>rfl) ?_ ?_ ?_ ?_ (fun _=>rfl) ?_
 ·rintro⟨y0,y1⟩;kernel_rfl
 ·rintro⟨y0,y1⟩;kernel_rfl
 ·intro s x h
  have h:Le s=some x:=h
  unfold Le at h
  repeat' split at h
  all_goals cases h
  exact⟨aa (by assumption) rfl (aa (by assumption) rfl (rfl)),ab rfl (by assumption) rfl (rfl)⟩
 ·rintro⟨y0,y1⟩;kernel_rfl
 ·rintro⟨y0,y1⟩ z;exact(And.intro (And.intro trivial rfl) trivial)
def QT(x0:Int)(x1:List ByteArray):Bool:=bif Nat.beq ((Lp.res eY ((0:Int),x1)).1) (0:Nat)then false else bt (↑x1.length:Int) x0 (20:Int)
def QU(x1:List ByteArray):Bool:=allT [Lp.fin eY ((0:Int),x1)]
def WI:List SV→List Entry→Option Out
 | [.one ⟨false,[.ref 0]⟩,.one ⟨false,[.val (.int .i64 x0)]⟩],[.row false 9 (.str) x1]=>some ⟨.one ⟨false,[.val (.bool (QT x0 x1))]⟩,[.row false 9 ahF x1],[],[QU x1]⟩
 |_,_=>none
def agY:PF prog:=PF.ofG prog [xx,JA] [eY.F] aP 240 f240 func240 (LOk.fnT (l:= [aL f240 0]) (by kernel_rfl) (.cons XU (.nil _))) WI (by
 intro vs es r h;unfold WI at h;split at h
 ·cases h;kernel_rfl
 ·cases h)
abbrev ke:=Int×Int×List (Int×(ByteArray×Int))×List Int
section
variable (y0 y1:Int)(y2:List (Int×(ByteArray×Int)))(y3:List Int)
def dy:Int×ByteArray×Int:=Option.getD y2[Int.toNat y0]? ((0:Int),ByteArray.empty,(0:Int))
def pT:Bool:= !JV ((dy y0 y2).1) (((dy y0 y2).2).1) ((dy y0 y2).2.2)
def pU:Int:=IntKind.wrap .i64 (IntKind.wrap .i64 (y1 - lY ((dy y0 y2).1)) + (1:Int))
def ra:Bool:=ltI y0 (↑y2.length:Int)
def uh:Bool:=leI (0:Int) y0
def ui:Bool:=ltN y0.toNat y2.length
def yy:Bool:=JW ((dy y0 y2).1) (((dy y0 y2).2).1) ((dy y0 y2).2.2)
def yz:Bool:= !(!pT y0 y2&&true)||leI (0:Int) y0
def yA:Bool:= !(!pT y0 y2&&true)||ltI y0 (↑y2.length:Int)
def yB:Bool:= !(!pT y0 y2&&true)||ltN y0.toNat y2.length
def yC:Bool:=bif pT y0 y2 then true else ltI y1 (lY ((dy y0 y2).1))
def yD:Bool:=leN (List.length y3 + List.length [pU y0 y1 y2]) (9223372036854775807:Nat)
def yE:Bool:=leN ((List.length y3 + List.length [pU y0 y1 y2]) * (8:Nat)) (140737488355328:Nat)
def wy:Int:=IntKind.wrap .i64 (y0 + (1:Int))
def wz:Int:=pU y0 y1 y2
def wA:List Int:=y3++ [pU y0 y1 y2]
end
def XA:ke→List (Nat×SV)
 |(y0,y1,_,_)=> [(6,(.one ⟨false,[.val (.int .i64 y0)]⟩)),(0,(.one ⟨false,[.ref 0]⟩)),(5,(.one ⟨false,[.val (.int .i64 y1)]⟩)),(4,(.one ⟨false,[.ref 1]⟩))]
def Xv:ke→List (Nat×Entry)
 |(_,_,y2,y3)=> [(0,(.row false 178 afk y2)),(1,(.row true 2 agJ y3))]
def XM:Nat→ke→List (Nat×SV)
 |0,(_,_,_,_)=> [(2,(.one ⟨false,[.ref 2]⟩)),(3,(.one ⟨false,[.val (.bool false)]⟩))]
 |_,(_,y1,_,_)=> [(5,(.one ⟨false,[.val (.int .i64 y1)]⟩)),(4,(.one ⟨false,[.ref 1]⟩))]
def XG:Nat→ke→List (Nat×Entry)
 |0,(_,_,y2,y3)=> [(0,(.row false 178 afk y2)),(1,(.row true 2 agJ y3)),(2,(.row true 2 agJ []))]
 |_,(_,_,y2,y3)=> [(0,(.row false 178 afk y2)),(1,(.row true 2 agJ y3))]
def wu:ke→LT ke
 |(y0,y1,y2,y3)=> .ite (ra y0 y2) (.need [uh y0,ra y0 y2,ui y0 y2,yy y0 y2,yz y0 y2,yA y0 y2,yB y0 y2] (.ite (yC y0 y1 y2) (.ext 0 [(0,0),(1,1),(2,1344)]) (.need [uh y0,ra y0 y2,ui y0 y2] (.need [yD y0 y1 y2 y3,yE y0 y1 y2 y3] (.nrm ((wy y0),wz y0 y1 y2,y2,(wA y0 y1 y2 y3)) [(0,0),(1,2176)]))))) (.ext 1 [(0,0),(1,1)])
def Ic(s:St):Option ke:=
 (match s.look 6 with
 |some ⟨none,.one ⟨false,[.val (.int .i64 y0)]⟩⟩=>
 (match s.look 0 with
 |some ⟨none,.one ⟨false,[.ref 0]⟩⟩=>
 (match s.look 5 with
 |some ⟨none,.one ⟨false,[.val (.int .i64 y1)]⟩⟩=>
 (match s.look 4 with
 |some ⟨none,.one ⟨false,[.ref 256]⟩⟩=>
 (match s.ent 0 with
 |some (.row false 178 (.pair (.int .i64) (.pair .str (.int .i64))) y2)=>
 (match s.ent 256 with
 |some (.row true 2 (.int .i64) y3)=>
 some (y0,y1,y2,y3)
 |_=>none)
 |_=>none)
 |_=>none)
 |_=>none)
 |_=>none)
 |_=>none)
def de:Lp ke where
 h:=⟨[8,9,10,11,14,15,16,17,18,19,20,21,22,23,24,25,26,27,28,29,2,3,30,31,32,33,34,35,36,37,38,5,39,40,41,42,4,12,13,6],[0],[1],[2]⟩
 JL:=XA
 JE:=Xv
 XL:=XM
 XE:=XG
 q:=fun j=>match j with | 0=> .ret | _=> .exit 0
 tags:= [0,1]
 lt:=wu
 fuel:=fun(y0,y1,y2,y3)=>y0.natAbs + y1.natAbs + y2.length + y3.length
 fix:=fun(_,_,y2,_) (y0,y1,_,y3)=>(y0,y1,y2,y3)
 σ:= [(0,0),(1,256)]
 rd:=Ic
theorem Vb:LoopOk prog (fun k=>Nat.blt k Tryz.f268.ntmps) de.F (aL f268 0):=by
 refine Lp.ok (tbl:= [ZY,CV]) (lf:= []) aP de (by kernel_rfl) (LOk.nil _) (fun _=>rfl) (fun j _=>by unfold de;match j with | 0=>rfl | _ + 1=>rfl) ?_ ?_ ?_ ?_ (fun _=>rfl) ?_
 ·rintro⟨y0,y1,y2,y3⟩;kernel_rfl
 ·rintro⟨y0,y1,y2,y3⟩;kernel_rfl
 ·intro s x h
  have h:Ic s=some x:=h
  unfold Ic at h
  repeat' split at h
  all_goals cases h
  exact⟨aa (by assumption) rfl (aa (by assumption) rfl (aa (by assumption) rfl (aa (by assumption) rfl (rfl)))),ab rfl (by assumption) rfl (ab rfl (by assumption) rfl (rfl))⟩
 ·rintro⟨y0,y1,y2,y3⟩;kernel_rfl
 ·rintro⟨y0,y1,y2,y3⟩ z;exact(And.intro (And.intro trivial rfl) trivial)
section
variable (x0:List (Int×ByteArray×Int))
def GY:Int×Int×List (Int×ByteArray×Int)×List Int:=((0:Int),(0:Int),x0,[])
def MQ:Bool:=Nat.beq ((Lp.res de (GY x0)).1) (0:Nat)
def MR:Int×List (Int×ByteArray×Int)×List Int:=(Lp.res de (GY x0)).2.2
def OA:Bool:=bif MQ x0 then false else bif (MR x0).1==(1:Int)then leI (↑x0.length:Int) (40:Int)else false
def aeM:List Int:=bif MQ x0 then []else (MR x0).2.2
def OB:Bool:=allT [Lp.fin de (GY x0)]
end
def Te:List SV→List Entry→Option Out
 | [.one ⟨false,[.ref 0]⟩],[.row false 178 (.pair (.int .i64) (.pair (.str) (.int .i64))) x0]=>some ⟨.tup [⟨false,[.ref 1]⟩,⟨false,[.val (.bool (OA x0))]⟩],[.row false 178 afk x0],[.row true 2 agJ (aeM x0)],[OB x0]⟩
 |_,_=>none
def Ok:PF prog:=PF.ofG prog [ZY,CV] [de.F] aP 268 f268 func268 (LOk.fnT (l:= [aL f268 0]) (by kernel_rfl) (.cons Vb (.nil _))) Te (by
 intro vs es r h;unfold Te at h;split at h
 ·cases h;kernel_rfl
 ·cases h)
def Lj(x0:List (Int×ByteArray×Int)):Bool:=OA x0
def Lk(x0:List (Int×ByteArray×Int)):Bool:=allT [OB x0]
def Rc:List SV→List Entry→Option Out
 | [.one ⟨false,[.ref 0]⟩],[.row false 178 (.pair (.int .i64) (.pair (.str) (.int .i64))) x0]=>some ⟨.one ⟨false,[.val (.bool (Lj x0))]⟩,[.row false 178 afk x0],[],[Lk x0]⟩
 |_,_=>none
def abi:PF prog:=PF.ofG prog [Ok,PF.lend Ok,PF.fz Ok] [] aP 241 f241 func241 (fun c _=>LOk.nil c) Rc (by
 intro vs es r h;unfold Rc at h;split at h
 ·cases h;kernel_rfl
 ·cases h)
section
variable (x2 x3 x4:List ByteArray)
def OC:List ByteArray:=x2++x3
def ab4:List ByteArray:=OC x2 x3++x4
def Ug:Bool:=allT [leN ((0:Nat) + List.length x2) (9223372036854775807:Nat),leN (((0:Nat) + List.length x2) * (16:Nat)) (140737488355328:Nat),leN (List.length x2 + List.length x3) (9223372036854775807:Nat),leN ((List.length x2 + List.length x3) * (16:Nat)) (140737488355328:Nat),leN (List.length (OC x2 x3) + List.length x4) (9223372036854775807:Nat),leN ((List.length (OC x2 x3) + List.length x4) * (16:Nat)) (140737488355328:Nat)]
end
def abE:List SV→List Entry→Option Out
 | [.one ⟨true,[.val (.string _x0),.ref 0,.ref 1,.ref 2,.val (.string _x1),.ref 3]⟩],[.row false 9 (.str) x2,.row false 9 (.str) x3,.row false 9 (.str) x4,.row false 204 (.pair (.str) (.sl 178 (.pair (.int .i64) (.pair (.str) (.int .i64))))) x5]=>some ⟨.one ⟨false,[.ref 4]⟩,[.row false 9 ahF x2,.row false 9 ahF x3,.row false 9 ahF x4,.row false 204 (CTy.pair CTy.str (CTy.sl (178:TypeId) afk)) x5],[.row true 9 ahF (ab4 x2 x3 x4)],[Ug x2 x3 x4]⟩
 |_,_=>none
def aiS:PF prog:=PF.ofG prog [] [] aP 205 f205 func205 (fun c _=>LOk.nil c) abE (by
 intro vs es r h;unfold abE at h;split at h
 ·cases h;kernel_rfl
 ·cases h)
abbrev mC:=Int×List ByteArray
section
variable (y0:Int)(y1:List ByteArray)
def AC:ByteArray:=Option.getD y1[Int.toNat y0]? ByteArray.empty
def sj:List ByteArray:=List.drop (Int.toNat (0:Int)) (List.take y0.toNat y1)
def wZ:Bool:=ltI y0 (↑y1.length:Int)
end
def Cx:Bool:=leI (0:Int) (0:Int)
section
variable (y0:Int)(y1:List ByteArray)
def xa:Bool:=leI (0:Int) y0
def Cy:Bool:=leI y0 (↑y1.length:Int)
def Cz:Bool:=ltN y0.toNat y1.length
def xc:Bool:=Me (AC y0 y1) (sj y0 y1)
def CA:Bool:=leI (0:Int) (Hv (AC y0 y1) (sj y0 y1))
def He:Int:=IntKind.wrap .i64 (y0 + (1:Int))
end
def aaQ:mC→List (Nat×SV)
 |(y0,_)=> [(3,(.one ⟨false,[.val (.int .i64 y0)]⟩)),(0,(.one ⟨false,[.ref 0]⟩))]
def aaG:mC→List (Nat×Entry)
 |(_,y1)=> [(0,(.row false 9 ahF y1))]
def aba:Nat→mC→List (Nat×SV)
 |0,(_,_)=> [(2,(.one ⟨false,[.val (.bool true)]⟩))]
 |_,(_,_)=> []
def aa0:Nat→mC→List (Nat×Entry)
 |0,(_,y1)=> [(0,(.row false 9 ahF y1))]
 |_,(_,y1)=> [(0,(.row false 9 ahF y1))]
def Au:mC→LT mC
 |(y0,y1)=> .ite (wZ y0 y1) (.need [Cx,xa y0,Cy y0 y1,xa y0,wZ y0 y1,Cz y0 y1,xc y0 y1] (.ite (CA y0 y1) (.ext 0 [(0,0)]) (.nrm ((He y0),y1) [(0,0)]))) (.ext 1 [(0,0)])
def Li(s:St):Option mC:=
 (match s.look 3 with
 |some ⟨none,.one ⟨false,[.val (.int .i64 y0)]⟩⟩=>
 (match s.look 0 with
 |some ⟨none,.one ⟨false,[.ref 0]⟩⟩=>
 (match s.ent 0 with
 |some (.row false 9 (.str) y1)=>
 some (y0,y1)
 |_=>none)
 |_=>none)
 |_=>none)
def eZ:Lp mC where
 h:=⟨[4,5,6,7,10,11,12,13,14,15,16,17,18,2,8,9,3],[0],[],[]⟩
 JL:=aaQ
 JE:=aaG
 XL:=aba
 XE:=aa0
 q:=fun j=>match j with | 0=> .ret | _=> .exit 0
 tags:= [0,1]
 lt:=Au
 fuel:=fun(y0,y1)=>y0.natAbs + y1.length
 fix:=fun(_,y1) (y0,_)=>(y0,y1)
 σ:= [(0,0)]
 rd:=Li
theorem XY:LoopOk prog (fun k=>Nat.blt k Tryz.f242.ntmps) eZ.F (aL f242 0):=by
 refine Lp.ok (tbl:= [zp,PF.lend zp,PF.fz zp]) (lf:= []) aP eZ (by kernel_rfl) (LOk.nil _) (fun _=>rfl) (fun j _=>by unfold eZ;match j with | 0=>rfl | _ + 1=>rfl) ?_ ?_ ?_ ?_ (fun _=>rfl) ?_
 ·rintro⟨y0,y1⟩;kernel_rfl
 ·rintro⟨y0,y1⟩;kernel_rfl
 ·intro s x h
  have h:Li s=some x:=h
  unfold Li at h
  repeat' split at h
  all_goals cases h
  exact⟨aa (by assumption) rfl (aa (by assumption) rfl (rfl)),ab rfl (by assumption) rfl (rfl)⟩
 ·rintro⟨y0,y1⟩;kernel_rfl
 ·rintro⟨y0,y1⟩ z;exact(And.intro (And.intro trivial rfl) trivial)
def QW(x0:List ByteArray):Bool:=bif Nat.beq ((Lp.res eZ ((0:Int),x0)).1) (0:Nat)then true else false
def QX(x0:List ByteArray):Bool:=allT [Lp.fin eZ ((0:Int),x0)]
def WM:List SV→List Entry→Option Out
 | [.one ⟨false,[.ref 0]⟩],[.row false 9 (.str) x0]=>some ⟨.one ⟨false,[.val (.bool (QW x0))]⟩,[.row false 9 ahF x0],[],[QX x0]⟩
 |_,_=>none
def agZ:PF prog:=PF.ofG prog [zp,PF.lend zp,PF.fz zp] [eZ.F] aP 242 f242 func242 (LOk.fnT (l:= [aL f242 0]) (by kernel_rfl) (.cons XY (.nil _))) WM (by
 intro vs es r h;unfold WM at h;split at h
 ·cases h;kernel_rfl
 ·cases h)
abbrev lZ:=Int×Int×ByteArray×ByteArray×List (Int×(ByteArray×Int))×List ByteArray×List ByteArray×List ByteArray×List (ByteArray×(List (Int×(ByteArray×Int))))
def FK(y1:Int)(y8:List (ByteArray×(List (Int×(ByteArray×Int))))):Bool:=ltI y1 (↑y8.length:Int)
def zm(y1:Int)(y8:List (ByteArray×(List (Int×(ByteArray×Int))))):Bool:=ltN y1.toNat y8.length
def qt(y1:Int)(y8:List (ByteArray×(List (Int×(ByteArray×Int))))):List (Int×ByteArray×Int):=(Option.getD y8[Int.toNat y1]? (qA (CTy.pair CTy.str (CTy.sl (178:Nat) afk)))).2
def qu(y0 y1:Int)(y8:List (ByteArray×(List (Int×(ByteArray×Int))))):Bool:=ltI y0 (↑(List.length (qt y1 y8)):Int)
def qv(y0 y1:Int)(y8:List (ByteArray×(List (Int×(ByteArray×Int))))):Int×ByteArray×Int:=Option.getD (qt y1 y8)[Int.toNat y0]? ((0:Int),ByteArray.empty,(0:Int))
def dP(y0 y1:Int)(y8:List (ByteArray×(List (Int×(ByteArray×Int))))):Bool:=leI (7:Int) ((qv y0 y1 y8).1)
def qw(y0 y1:Int)(y8:List (ByteArray×(List (Int×(ByteArray×Int))))):List (Int×ByteArray×Int):= [((qv y0 y1 y8).1,((qv y0 y1 y8).2).1,(qv y0 y1 y8).2.2)]
def rP(y1:Int):Bool:=leI (0:Int) y1
def rQ(y1:Int)(y8:List (ByteArray×(List (Int×(ByteArray×Int))))):Bool:=FK y1 y8
def rR(y1:Int)(y8:List (ByteArray×(List (Int×(ByteArray×Int))))):Bool:=zm y1 y8
def rS(y0 y1:Int)(y8:List (ByteArray×(List (Int×(ByteArray×Int))))):Bool:=qu y0 y1 y8
def vj(y0:Int):Bool:=leI (0:Int) y0
def vk(y0 y1:Int)(y8:List (ByteArray×(List (Int×(ByteArray×Int))))):Bool:=ltN y0.toNat (List.length (qt y1 y8))
def vl(y0 y1:Int)(y8:List (ByteArray×(List (Int×(ByteArray×Int))))):Bool:= !dP y0 y1 y8||leI (0:Int) y1
def vm(y0 y1:Int)(y8:List (ByteArray×(List (Int×(ByteArray×Int))))):Bool:= !dP y0 y1 y8||FK y1 y8
def vn(y0 y1:Int)(y8:List (ByteArray×(List (Int×(ByteArray×Int))))):Bool:= !dP y0 y1 y8||zm y1 y8
def vo(y0 y1:Int)(y8:List (ByteArray×(List (Int×(ByteArray×Int))))):Bool:= !dP y0 y1 y8||leI (0:Int) y0
def uj(y0 y1:Int)(y8:List (ByteArray×(List (Int×(ByteArray×Int))))):Bool:= !dP y0 y1 y8||qu y0 y1 y8
def uk(y0 y1:Int)(y8:List (ByteArray×(List (Int×(ByteArray×Int))))):Bool:= !dP y0 y1 y8||ltN y0.toNat (List.length (qt y1 y8))
def ul(y0 y1:Int)(y4:List (Int×(ByteArray×Int)))(y8:List (ByteArray×(List (Int×(ByteArray×Int))))):Bool:= !dP y0 y1 y8||leN (List.length y4 + List.length (qw y0 y1 y8)) (9223372036854775807:Nat)
def um(y0 y1:Int)(y4:List (Int×(ByteArray×Int)))(y8:List (ByteArray×(List (Int×(ByteArray×Int))))):Bool:= !dP y0 y1 y8||leN ((List.length y4 + List.length (qw y0 y1 y8)) * (32:Nat)) (140737488355328:Nat)
def uo(y0 y1:Int)(y8:List (ByteArray×(List (Int×(ByteArray×Int))))):Bool:=dP y0 y1 y8
def qs(y0:Int):Int:=IntKind.wrap .i64 (y0 + (1:Int))
def uq(y0 y1:Int)(y4:List (Int×(ByteArray×Int)))(y8:List (ByteArray×(List (Int×(ByteArray×Int))))):List (Int×(ByteArray×Int)):=y4++qw y0 y1 y8
def UE:lZ→List (Nat×SV)
 |(y0,y1,_,_,_,_,_,_,_)=> [(5,(.one ⟨false,[.val (.int .i64 y0)]⟩)),(1,(.one ⟨false,[.ptr 0 0]⟩)),(4,(.one ⟨false,[.val (.int .i64 y1)]⟩)),(3,(.one ⟨false,[.ref 1]⟩))]
def UD:lZ→List (Nat×Entry)
 |(_,_,y2,y3,y4,y5,y6,y7,y8)=> [(0,(.box 63 [.val (.string y2),.ref 2,.ref 3,.ref 4,.val (.string y3),.ref 5])),(2,(.row false 9 ahF y5)),(3,(.row false 9 ahF y6)),(4,(.row false 9 ahF y7)),(5,(.row false 204 (CTy.pair CTy.str (CTy.sl (178:Nat) afk)) y8)),(1,(.row true 178 afk y4))]
def UP:Nat→lZ→List (Nat×SV)
 |_,(_,_,_,_,_,_,_,_,_)=> [(3,(.one ⟨false,[.ref 1]⟩))]
def UO:Nat→lZ→List (Nat×Entry)
 |_,(_,_,y2,y3,y4,y5,y6,y7,y8)=> [(0,(.box 63 [.val (.string y2),.ref 2,.ref 3,.ref 4,.val (.string y3),.ref 5])),(1,(.row true 178 afk y4)),(2,(.row false 9 ahF y5)),(3,(.row false 9 ahF y6)),(4,(.row false 9 ahF y7)),(5,(.row false 204 (CTy.pair CTy.str (CTy.sl (178:Nat) afk)) y8))]
def ub:lZ→LT lZ
 |(y0,y1,y2,y3,y4,y5,y6,y7,y8)=> .need [rP y1,rQ y1 y8,rR y1 y8] (.ite (rS y0 y1 y8) (.need [rP y1,rQ y1 y8,rR y1 y8,vj y0,rS y0 y1 y8,vk y0 y1 y8] (.need [vl y0 y1 y8,vm y0 y1 y8,vn y0 y1 y8,vo y0 y1 y8,uj y0 y1 y8,uk y0 y1 y8,ul y0 y1 y4 y8,um y0 y1 y4 y8] (.ite (uo y0 y1 y8) (.nrm ((qs y0),y1,y2,y3,uq y0 y1 y4 y8,y5,y6,y7,y8) [(0,0),(1,2048),(2,2),(3,3),(4,4),(5,5)]) (.nrm ((qs y0),y1,y2,y3,y4,y5,y6,y7,y8) [(0,0),(1,1),(2,2),(3,3),(4,4),(5,5)])))) (.ext 0 [(0,0),(1,1),(2,2),(3,3),(4,4),(5,5)]))
def FH(s:St):Option lZ:=
 (match s.look 5 with
 |some ⟨none,.one ⟨false,[.val (.int .i64 y0)]⟩⟩=>
 (match s.look 1 with
 |some ⟨none,.one ⟨false,[.ptr 0 0]⟩⟩=>
 (match s.look 4 with
 |some ⟨none,.one ⟨false,[.val (.int .i64 y1)]⟩⟩=>
 (match s.look 3 with
 |some ⟨none,.one ⟨false,[.ref 1]⟩⟩=>
 (match s.ent 0 with
 |some (.box 63 [.val (.string y2),.ref 2,.ref 3,.ref 4,.val (.string y3),.ref 5])=>
 (match s.ent 2 with
 |some (.row false 9 (.str) y5)=>
 (match s.ent 3 with
 |some (.row false 9 (.str) y6)=>
 (match s.ent 4 with
 |some (.row false 9 (.str) y7)=>
 (match s.ent 5 with
 |some (.row false 204 (.pair .str (.sl (178:Nat) (.pair (.int .i64) (.pair .str (.int .i64))))) y8)=>
 (match s.ent 1 with
 |some (.row true 178 (.pair (.int .i64) (.pair .str (.int .i64))) y4)=>
 some (y0,y1,y2,y3,y4,y5,y6,y7,y8)
 |_=>none)
 |_=>none)
 |_=>none)
 |_=>none)
 |_=>none)
 |_=>none)
 |_=>none)
 |_=>none)
 |_=>none)
 |_=>none)
def dJ:Lp lZ where
 h:=⟨[14,15,16,17,18,19,20,21,22,25,26,27,28,29,30,31,32,33,34,35,36,37,38,39,40,41,42,43,44,45,46,47,3,23,24,5],[0,2,3,4,5],[1],[]⟩
 JL:=UE
 JE:=UD
 XL:=UP
 XE:=UO
 q:=fun j=>match j with | _=> .exit 2
 tags:= [0]
 lt:=ub
 fuel:=fun(y0,y1,y2,y3,y4,y5,y6,y7,y8)=>y0.natAbs + y1.natAbs + y2.size + y3.size + y4.length + y5.length + y6.length + y7.length + y8.length
 fix:=fun(_,y1,y2,y3,_,y5,y6,y7,y8) (y0,_,_,_,y4,_,_,_,_)=>(y0,y1,y2,y3,y4,y5,y6,y7,y8)
 σ:= [(0,0),(2,2),(3,3),(4,4),(5,5),(1,1)]
 rd:=FH
theorem SW:LoopOk prog (memN [7,8,9,10,11,5,14,15,16,17,18,19,20,21,22,25,26,27,28,29,30,31,32,33,34,35,36,37,38,39,40,41,42,43,44,45,46,47,3,23,24,12,13,4]) dJ.F (ZI (aL f188 0) 0):=by
 refine Lp.ok (tbl:= []) (lf:= []) aP dJ (by kernel_rfl) (LOk.nil _) (fun _=>rfl) (fun _ _=>rfl) ?_ ?_ ?_ ?_ (fun _=>rfl) ?_
 ·rintro⟨y0,y1,y2,y3,y4,y5,y6,y7,y8⟩;kernel_rfl
 ·rintro⟨y0,y1,y2,y3,y4,y5,y6,y7,y8⟩;kernel_rfl
 ·intro s x h
  have h:FH s=some x:=h
  unfold FH at h
  repeat' split at h
  all_goals cases h
  exact⟨aa (by assumption) rfl (aa (by assumption) rfl (aa (by assumption) rfl (aa (by assumption) rfl (rfl)))),ab rfl (by assumption) rfl (ab rfl (by assumption) rfl (ab rfl (by assumption) rfl (ab rfl (by assumption) rfl (ab rfl (by assumption) rfl (ab rfl (by assumption) rfl (rfl))))))⟩
 ·rintro⟨y0,y1,y2,y3,y4,y5,y6,y7,y8⟩;kernel_rfl
 ·rintro⟨y0,y1,y2,y3,y4,y5,y6,y7,y8⟩ z;exact(And.intro (And.intro rfl rfl) trivial)
abbrev pB:=Int×ByteArray×ByteArray×List (Int×(ByteArray×Int))×List ByteArray×List ByteArray×List ByteArray×List (ByteArray×(List (Int×(ByteArray×Int))))
def yF(y0:Int)(y1 y2:ByteArray)(y3:List (Int×(ByteArray×Int)))(y4 y5 y6:List ByteArray)(y7:List (ByteArray×(List (Int×(ByteArray×Int))))):Int×Int×ByteArray×ByteArray×List (Int×ByteArray×Int)×List ByteArray×List ByteArray×List ByteArray×List (ByteArray×List (Int×ByteArray×Int)):=((0:Int),y0,y1,y2,y3,y4,y5,y6,y7)
def Ay(y0:Int)(y7:List (ByteArray×(List (Int×(ByteArray×Int))))):Bool:=ltI y0 (↑y7.length:Int)
def Az(y0:Int)(y1 y2:ByteArray)(y3:List (Int×(ByteArray×Int)))(y4 y5 y6:List ByteArray)(y7:List (ByteArray×(List (Int×(ByteArray×Int))))):Bool:=Lp.fin dJ (yF y0 y1 y2 y3 y4 y5 y6 y7)
def AA(y0:Int):Int:=IntKind.wrap .i64 (y0 + (1:Int))
def AB(y0:Int)(y1 y2:ByteArray)(y3:List (Int×(ByteArray×Int)))(y4 y5 y6:List ByteArray)(y7:List (ByteArray×(List (Int×(ByteArray×Int))))):List (Int×(ByteArray×Int)):=((Lp.res dJ (yF y0 y1 y2 y3 y4 y5 y6 y7)).2.2.2.2.2).1
def YN:pB→List (Nat×SV)
 |(y0,_,_,_,_,_,_,_)=> [(4,(.one ⟨false,[.val (.int .i64 y0)]⟩)),(1,(.one ⟨false,[.ptr 0 0]⟩)),(3,(.one ⟨false,[.ref 1]⟩))]
def YD:pB→List (Nat×Entry)
 |(_,y1,y2,y3,y4,y5,y6,y7)=> [(0,(.box 63 [.val (.string y1),.ref 2,.ref 3,.ref 4,.val (.string y2),.ref 5])),(2,(.row false 9 ahF y4)),(3,(.row false 9 ahF y5)),(4,(.row false 9 ahF y6)),(5,(.row false 204 (CTy.pair CTy.str (CTy.sl (178:Nat) afk)) y7)),(1,(.row true 178 afk y3))]
def Zq:Nat→pB→List (Nat×SV)
 |_,(_,_,_,_,_,_,_,_)=> [(3,(.one ⟨false,[.ref 1]⟩))]
def Zg:Nat→pB→List (Nat×Entry)
 |_,(_,y1,y2,y3,y4,y5,y6,y7)=> [(0,(.box 63 [.val (.string y1),.ref 2,.ref 3,.ref 4,.val (.string y2),.ref 5])),(1,(.row true 178 afk y3)),(2,(.row false 9 ahF y4)),(3,(.row false 9 ahF y5)),(4,(.row false 9 ahF y6)),(5,(.row false 204 (CTy.pair CTy.str (CTy.sl (178:Nat) afk)) y7))]
def yc:pB→LT pB
 |(y0,y1,y2,y3,y4,y5,y6,y7)=> .ite (Ay y0 y7) (.need [Az y0 y1 y2 y3 y4 y5 y6 y7] (.nrm ((AA y0),y1,y2,AB y0 y1 y2 y3 y4 y5 y6 y7,y4,y5,y6,y7) [(0,0),(1,448),(2,2),(3,3),(4,4),(5,5)])) (.ext 0 [(0,0),(1,1),(2,2),(3,3),(4,4),(5,5)])
def JU(s:St):Option pB:=
 (match s.look 4 with
 |some ⟨none,.one ⟨false,[.val (.int .i64 y0)]⟩⟩=>
 (match s.look 1 with
 |some ⟨none,.one ⟨false,[.ptr 320 0]⟩⟩=>
 (match s.look 3 with
 |some ⟨none,.one ⟨false,[.ref 448]⟩⟩=>
 (match s.ent 320 with
 |some (.box 63 [.val (.string y1),.ref 0,.ref 1,.ref 2,.val (.string y2),.ref 3])=>
 (match s.ent 0 with
 |some (.row false 9 (.str) y4)=>
 (match s.ent 1 with
 |some (.row false 9 (.str) y5)=>
 (match s.ent 2 with
 |some (.row false 9 (.str) y6)=>
 (match s.ent 3 with
 |some (.row false 204 (.pair .str (.sl (178:Nat) (.pair (.int .i64) (.pair .str (.int .i64))))) y7)=>
 (match s.ent 448 with
 |some (.row true 178 (.pair (.int .i64) (.pair .str (.int .i64))) y3)=>
 some (y0,y1,y2,y3,y4,y5,y6,y7)
 |_=>none)
 |_=>none)
 |_=>none)
 |_=>none)
 |_=>none)
 |_=>none)
 |_=>none)
 |_=>none)
 |_=>none)
def iS:Lp pB where
 h:=⟨[7,8,9,10,11,5,14,15,16,17,18,19,20,21,22,25,26,27,28,29,30,31,32,33,34,35,36,37,38,39,40,41,42,43,44,45,46,47,3,23,24,12,13,4],[0,2,3,4,5],[1],[]⟩
 JL:=YN
 JE:=YD
 XL:=Zq
 XE:=Zg
 q:=fun j=>match j with | _=> .exit 0
 tags:= [0]
 lt:=yc
 fuel:=fun(y0,y1,y2,y3,y4,y5,y6,y7)=>y0.natAbs + y1.size + y2.size + y3.length + y4.length + y5.length + y6.length + y7.length
 fix:=fun(_,y1,y2,_,y4,y5,y6,y7) (y0,_,_,y3,_,_,_,_)=>(y0,y1,y2,y3,y4,y5,y6,y7)
 σ:= [(0,320),(2,0),(3,1),(4,2),(5,3),(1,448)]
 rd:=JU
theorem Wf:LoopOk prog (fun k=>Nat.blt k Tryz.f188.ntmps) iS.F (aL f188 0):=by
 refine Lp.ok (tbl:= []) (lf:= [dJ.F]) aP iS (by kernel_rfl) (LOk.allT (l:= [ZI (aL f188 0) 0]) (by kernel_rfl) (.cons SW (.nil _))) (fun _=>rfl) (fun _ _=>rfl) ?_ ?_ ?_ ?_ (fun _=>rfl) ?_
 ·rintro⟨y0,y1,y2,y3,y4,y5,y6,y7⟩;kernel_rfl
 ·rintro⟨y0,y1,y2,y3,y4,y5,y6,y7⟩;kernel_rfl
 ·intro s x h
  have h:JU s=some x:=h
  unfold JU at h
  repeat' split at h
  all_goals cases h
  exact⟨aa (by assumption) rfl (aa (by assumption) rfl (aa (by assumption) rfl (rfl))),ab rfl (by assumption) rfl (ab rfl (by assumption) rfl (ab rfl (by assumption) rfl (ab rfl (by assumption) rfl (ab rfl (by assumption) rfl (ab rfl (by assumption) rfl (rfl))))))⟩
 ·rintro⟨y0,y1,y2,y3,y4,y5,y6,y7⟩;kernel_rfl
 ·rintro⟨y0,y1,y2,y3,y4,y5,y6,y7⟩ z;exact(And.intro rfl trivial)
section
variable (x0 x1:ByteArray)(x2 x3 x4:List ByteArray)(x5:List (ByteArray×List (Int×ByteArray×Int)))
def OD:Int×ByteArray×ByteArray×List (Int×ByteArray×Int)×List ByteArray×List ByteArray×List ByteArray×List (ByteArray×List (Int×ByteArray×Int)):=((0:Int),x0,x1,[],x2,x3,x4,x5)
def PR:List (Int×(ByteArray×Int)):=((Lp.res iS (OD x0 x1 x2 x3 x4 x5)).2.2.2.2).1
def PS:Bool:=allT [Lp.fin iS (OD x0 x1 x2 x3 x4 x5)]
end
def UC:List SV→List Entry→Option Out
 | [.one ⟨true,[.val (.string x0),.ref 0,.ref 1,.ref 2,.val (.string x1),.ref 3]⟩],[.row false 9 (.str) x2,.row false 9 (.str) x3,.row false 9 (.str) x4,.row false 204 (.pair (.str) (.sl 178 (.pair (.int .i64) (.pair (.str) (.int .i64))))) x5]=>some ⟨.one ⟨false,[.ref 4]⟩,[.row false 9 ahF x2,.row false 9 ahF x3,.row false 9 ahF x4,.row false 204 (CTy.pair CTy.str (CTy.sl (178:TypeId) afk)) x5],[.row true 178 afk (PR x0 x1 x2 x3 x4 x5)],[PS x0 x1 x2 x3 x4 x5]⟩
 |_,_=>none
def afM:PF prog:=PF.ofG prog [] [iS.F] aP 188 f188 func188 (LOk.fnT (l:= [aL f188 0]) (by kernel_rfl) (.cons Wf (.nil _))) UC (by
 intro vs es r h;unfold UC at h;split at h
 ·cases h;kernel_rfl
 ·cases h)
def aen(x0:ByteArray):Bool:= !lC x0
def SY:List SV→List Entry→Option Out
 | [.one ⟨false,[.val (.string x0)]⟩],[]=>some ⟨.one ⟨false,[.val (.bool (aen x0))]⟩,[],[],[]⟩
 |_,_=>none
def aeA:PF prog:=PF.ofG prog [LB] [] aP 259 f259 func259 (fun c _=>LOk.nil c) SY (by
 intro vs es r h;unfold SY at h;split at h
 ·cases h;kernel_rfl
 ·cases h)
def yS(x0:ByteArray):Bool:= !lC x0
def Nk:List SV→List Entry→Option Out
 | [.one ⟨false,[.val (.string x0)]⟩],[]=>some ⟨.one ⟨false,[.val (.bool (yS x0))]⟩,[],[],[]⟩
 |_,_=>none
def Nv:PF prog:=PF.ofG prog [LB] [] aP 259 f259 func259 (fun c _=>LOk.nil c) Nk (by
 intro vs es r h;unfold Nk at h;split at h
 ·cases h;kernel_rfl
 ·cases h)
abbrev bi:=Int×Int×List ByteArray
section
variable (y0 y1:Int)(y2:List ByteArray)
def gH:Bool:=ltI y0 y1
def gI:Bool:=leI (0:Int) y0
def gJ:Bool:=ltI y0 (↑y2.length:Int)
def gK:Bool:=ltN y0.toNat y2.length
def gL:Bool:=yS (Option.getD y2[Int.toNat y0]? ByteArray.empty)
def gM:Int:=IntKind.wrap .i64 (y0 + (1:Int))
end
def Gw:bi→List (Nat×SV)
 |(y0,y1,_)=> [(8,(.one ⟨false,[.val (.int .i64 y0)]⟩)),(7,(.one ⟨false,[.val (.int .i64 y1)]⟩)),(1,(.one ⟨false,[.val (.func (.func 259) ⟨[]⟩ ⟨[]⟩)]⟩)),(0,(.one ⟨false,[.ref 0]⟩))]
def Gt:bi→List (Nat×Entry)
 |(_,_,y2)=> [(0,(.row false 9 ahF y2))]
def GD:Nat→bi→List (Nat×SV)
 |0,(y0,_,_)=> [(4,(.one ⟨false,[.val (.int .i64 y0)]⟩))]
 |_,(_,_,_)=> []
def Gz:Nat→bi→List (Nat×Entry)
 |0,(_,_,y2)=> [(0,(.row false 9 ahF y2))]
 |_,(_,_,y2)=> [(0,(.row false 9 ahF y2))]
def gv:bi→LT bi
 |(y0,y1,y2)=> .ite (gH y0 y1) (.need [gI y0,gJ y0 y2,gK y0 y2] (.ite (gL y0 y2) (.ext 0 [(0,0)]) (.nrm ((gM y0),y1,y2) [(0,0)]))) (.ext 1 [(0,0)])
def oN(s:St):Option bi:=
 (match s.look 8 with
 |some ⟨none,.one ⟨false,[.val (.int .i64 y0)]⟩⟩=>
 (match s.look 7 with
 |some ⟨none,.one ⟨false,[.val (.int .i64 y1)]⟩⟩=>
 (match s.look 1 with
 |some ⟨none,.one ⟨false,[.val (.func (.func 259) ⟨[]⟩ ⟨[]⟩)]⟩⟩=>
 (match s.look 0 with
 |some ⟨none,.one ⟨false,[.ref 0]⟩⟩=>
 (match s.ent 0 with
 |some (.row false 9 (.str) y2)=>
 some (y0,y1,y2)
 |_=>none)
 |_=>none)
 |_=>none)
 |_=>none)
 |_=>none)
def ag:Lp bi where
 h:=⟨[9,10,5,11,12,13,14,15,16,17,4,18,8],[0],[],[]⟩
 JL:=Gw
 JE:=Gt
 XL:=GD
 XE:=Gz
 q:=fun j=>match j with | 0=> .ret | _=> .exit 0
 tags:= [0,1]
 lt:=gv
 fuel:=fun(y0,y1,y2)=>y0.natAbs + y1.natAbs + y2.length
 fix:=fun(_,y1,y2) (y0,_,_)=>(y0,y1,y2)
 σ:= [(0,0)]
 rd:=oN
theorem FD:LoopOk prog (fun k=>Nat.blt k Tryz.f264.ntmps) ag.F (aL f264 0):=by
 refine Lp.ok (tbl:= [Nv]) (lf:= []) aP ag (by kernel_rfl) (LOk.nil _) (fun _=>rfl) (fun j _=>by unfold ag;match j with | 0=>rfl | _ + 1=>rfl) ?_ ?_ ?_ ?_ (fun _=>rfl) ?_
 ·rintro⟨y0,y1,y2⟩;kernel_rfl
 ·rintro⟨y0,y1,y2⟩;kernel_rfl
 ·intro s x h
  have h:oN s=some x:=h
  unfold oN at h
  repeat' split at h
  all_goals cases h
  exact⟨aa (by assumption) rfl (aa (by assumption) rfl (aa (by assumption) rfl (aa (by assumption) rfl (rfl)))),ab rfl (by assumption) rfl (rfl)⟩
 ·rintro⟨y0,y1,y2⟩;kernel_rfl
 ·rintro⟨y0,y1,y2⟩ z;exact(And.intro (And.intro trivial rfl) trivial)
section
variable (x0:List ByteArray)
def lO:Int×Int×List ByteArray:=((0:Int),(↑x0.length:Int),x0)
def qT:Int:=bif Nat.beq ((Lp.res ag (lO x0)).1) (0:Nat)then ((Lp.res ag (lO x0)).2).1else(-1:Int)
def qU:Bool:=allT [Lp.fin ag (lO x0)]
end
def xz:List SV→List Entry→Option Out
 | [.one ⟨false,[.ref 0]⟩,.one ⟨false,[.val (.func (.func 259) ⟨[]⟩ ⟨[]⟩)]⟩],[.row false 9 (.str) x0]=>some ⟨.one ⟨false,[.val (.int .i64 (qT x0))]⟩,[.row false 9 ahF x0],[],[qU x0]⟩
 |_,_=>none
def qH:PF prog:=PF.ofG prog [Nv] [ag.F] aP 264 f264 func264 (LOk.fnT (l:= [aL f264 0]) (by kernel_rfl) (.cons FD (.nil _))) xz (by
 intro vs es r h;unfold xz at h;split at h
 ·cases h;kernel_rfl
 ·cases h)
def pb(x0:List ByteArray):Bool:=leI (0:Int) (qT x0)
def pc(x0:List ByteArray):Bool:=allT [qU x0]
def vN:List SV→List Entry→Option Out
 | [.one ⟨false,[.ref 0]⟩,.one ⟨false,[.val (.func (.func 259) ⟨[]⟩ ⟨[]⟩)]⟩],[.row false 9 (.str) x0]=>some ⟨.one ⟨false,[.val (.bool (pb x0))]⟩,[.row false 9 ahF x0],[],[pc x0]⟩
 |_,_=>none
def oX:PF prog:=PF.ofG prog [qH,PF.lend qH,PF.fz qH] [] aP 235 f235 func235 (fun c _=>LOk.nil c) vN (by
 intro vs es r h;unfold vN at h;split at h
 ·cases h;kernel_rfl
 ·cases h)
def QA(x0:List ByteArray):Bool:= !pb x0
def QB(x0:List ByteArray):Bool:=allT [pc x0]
def Ww:List SV→List Entry→Option Out
 | [.one ⟨false,[.ref 0]⟩],[.row false 9 (.str) x0]=>some ⟨.one ⟨false,[.val (.bool (QA x0))]⟩,[.row false 9 ahF x0],[],[QB x0]⟩
 |_,_=>none
def agP:PF prog:=PF.ofG prog [aeA,oX,PF.lend oX,PF.fz oX] [] aP 226 f226 func226 (fun c _=>LOk.nil c) Ww (by
 intro vs es r h;unfold Ww at h;split at h
 ·cases h;kernel_rfl
 ·cases h)
abbrev pf:=Int×Int×Int×Int×List (Int×(ByteArray×Int))
section
variable (y0 y1 y2 y3:Int)(y4:List (Int×(ByteArray×Int)))
def pW:Int×ByteArray×Int:=Option.getD y4[Int.toNat y0]? ((0:Int),ByteArray.empty,(0:Int))
def uJ:Int:=IntKind.wrap .i64 (y2 + IntKind.wrap .i64 ((1:Int) - rq ((pW y0 y4).1)))
def Fo:Bool:=ltI y0 y1
def Fp:Bool:=leI (0:Int) y0
def Fq:Bool:=ltI y0 (↑y4.length:Int)
def Fr:Bool:=ltN y0.toNat y4.length
def Fs:Bool:=bif !Lu ((pW y0 y4).1) (((pW y0 y4).2).1) ((pW y0 y4).2.2)then true else ltI y2 (rq ((pW y0 y4).1))
def Ft:Int:=IntKind.wrap .i64 (y0 + (1:Int))
def Fu:Int:=uJ y0 y2 y4
def Fv:Int:=afl y3 (uJ y0 y2 y4) (uJ y0 y2 y4) y3
end
def ad2:pf→List (Nat×SV)
 |(y0,y1,y2,y3,_)=> [(10,(.one ⟨false,[.val (.int .i64 y0)]⟩)),(9,(.one ⟨false,[.val (.int .i64 y1)]⟩)),(8,(.one ⟨false,[.ref 0]⟩)),(4,(.one ⟨false,[.val (.int .i64 y2)]⟩)),(5,(.one ⟨false,[.val (.int .i64 y3)]⟩))]
def adZ:pf→List (Nat×Entry)
 |(_,_,_,_,y4)=> [(0,(.row false 178 afk y4))]
def ad8:Nat→pf→List (Nat×SV)
 |0,(_,_,_,_,_)=> [(2,(.one ⟨false,[.val (.int .i64 (0:Int))]⟩)),(3,(.one ⟨false,[.val (.bool false)]⟩))]
 |_,(_,_,y2,y3,_)=> [(4,(.one ⟨false,[.val (.int .i64 y2)]⟩)),(5,(.one ⟨false,[.val (.int .i64 y3)]⟩))]
def ad5:Nat→pf→List (Nat×Entry)
 |0,(_,_,_,_,y4)=> [(0,(.row false 178 afk y4))]
 |_,(_,_,_,_,y4)=> [(0,(.row false 178 afk y4))]
def DT:pf→LT pf
 |(y0,y1,y2,y3,y4)=> .ite (Fo y0 y1) (.need [Fp y0,Fq y0 y4,Fr y0 y4] (.ite (Fs y0 y2 y4) (.ext 0 [(0,0)]) (.nrm ((Ft y0),y1,Fu y0 y2 y4,Fv y0 y2 y3 y4,y4) [(0,0)]))) (.ext 1 [(0,0)])
def Oo(s:St):Option pf:=
 (match s.look 10 with
 |some ⟨none,.one ⟨false,[.val (.int .i64 y0)]⟩⟩=>
 (match s.look 9 with
 |some ⟨none,.one ⟨false,[.val (.int .i64 y1)]⟩⟩=>
 (match s.look 8 with
 |some ⟨none,.one ⟨false,[.ref 0]⟩⟩=>
 (match s.look 4 with
 |some ⟨none,.one ⟨false,[.val (.int .i64 y2)]⟩⟩=>
 (match s.look 5 with
 |some ⟨none,.one ⟨false,[.val (.int .i64 y3)]⟩⟩=>
 (match s.ent 0 with
 |some (.row false 178 (.pair (.int .i64) (.pair .str (.int .i64))) y4)=>
 some (y0,y1,y2,y3,y4)
 |_=>none)
 |_=>none)
 |_=>none)
 |_=>none)
 |_=>none)
 |_=>none)
def gn:Lp pf where
 h:=⟨[11,12,13,7,14,15,16,17,18,19,20,21,22,23,2,3,24,25,26,27,28,29,4,30,31,32,5,33,10],[0],[],[]⟩
 JL:=ad2
 JE:=adZ
 XL:=ad8
 XE:=ad5
 q:=fun j=>match j with | 0=> .ret | _=> .exit 0
 tags:= [0,1]
 lt:=DT
 fuel:=fun(y0,y1,y2,y3,y4)=>y0.natAbs + y1.natAbs + y2.natAbs + y3.natAbs + y4.length
 fix:=fun(_,y1,_,_,y4) (y0,_,y2,y3,_)=>(y0,y1,y2,y3,y4)
 σ:= [(0,0)]
 rd:=Oo
theorem abd:LoopOk prog (fun k=>Nat.blt k Tryz.f275.ntmps) gn.F (aL f275 0):=by
 refine Lp.ok (tbl:= [abX,Kr]) (lf:= []) aP gn (by kernel_rfl) (LOk.nil _) (fun _=>rfl) (fun j _=>by unfold gn;match j with | 0=>rfl | _ + 1=>rfl) ?_ ?_ ?_ ?_ (fun _=>rfl) ?_
 ·rintro⟨y0,y1,y2,y3,y4⟩;kernel_rfl
 ·rintro⟨y0,y1,y2,y3,y4⟩;kernel_rfl
 ·intro s x h
  have h:Oo s=some x:=h
  unfold Oo at h
  repeat' split at h
  all_goals cases h
  exact⟨aa (by assumption) rfl (aa (by assumption) rfl (aa (by assumption) rfl (aa (by assumption) rfl (aa (by assumption) rfl (rfl))))),ab rfl (by assumption) rfl (rfl)⟩
 ·rintro⟨y0,y1,y2,y3,y4⟩;kernel_rfl
 ·rintro⟨y0,y1,y2,y3,y4⟩ z;exact(And.intro (And.intro trivial rfl) trivial)
section
variable (x0:List (Int×ByteArray×Int))
def NU:Int×Int×Int×Int×List (Int×ByteArray×Int):=((0:Int),(↑x0.length:Int),(0:Int),(0:Int),x0)
def RS:Bool:=Nat.beq ((Lp.res gn (NU x0)).1) (0:Nat)
def RT:Int×Int×List (Int×ByteArray×Int):=(Lp.res gn (NU x0)).2.2.2
def aiJ:Int:=bif RS x0 then(0:Int)else ((RT x0).2).1
def TK:Bool:=bif RS x0 then false else (RT x0).1==(1:Int)
def TL:Bool:=allT [Lp.fin gn (NU x0)]
end
def abr:List SV→List Entry→Option Out
 | [.one ⟨false,[.ref 0]⟩],[.row false 178 (.pair (.int .i64) (.pair (.str) (.int .i64))) x0]=>some ⟨.tup [⟨false,[.val (.int .i64 (aiJ x0))]⟩,⟨false,[.val (.bool (TK x0))]⟩],[.row false 178 afk x0],[],[TL x0]⟩
 |_,_=>none
def Uc:PF prog:=PF.ofG prog [abX,Kr] [gn.F] aP 275 f275 func275 (LOk.fnT (l:= [aL f275 0]) (by kernel_rfl) (.cons abd (.nil _))) abr (by
 intro vs es r h;unfold abr at h;split at h
 ·cases h;kernel_rfl
 ·cases h)
def EE(x0:List (Int×ByteArray×Int)):Bool:=bif TK x0 then leI (↑x0.length:Int) (40:Int)else false
def EF(x0:List (Int×ByteArray×Int)):Bool:=allT [TL x0]
def Rb:List SV→List Entry→Option Out
 | [.one ⟨false,[.ref 0]⟩],[.row false 178 (.pair (.int .i64) (.pair (.str) (.int .i64))) x0]=>some ⟨.one ⟨false,[.val (.bool (EE x0))]⟩,[.row false 178 afk x0],[],[EF x0]⟩
 |_,_=>none
def KP:PF prog:=PF.ofG prog [Uc,PF.lend Uc,PF.fz Uc] [] aP 263 f263 func263 (fun c _=>LOk.nil c) Rb (by
 intro vs es r h;unfold Rb at h;split at h
 ·cases h;kernel_rfl
 ·cases h)
def TN(x0:ByteArray)(x1:List (Int×ByteArray×Int)):Bool:=bif lC x0 then EE x1 else false
def TO(x0:ByteArray)(x1:List (Int×ByteArray×Int)):Bool:=allT [!(lC x0&&true)||EF x1]
def abs:List SV→List Entry→Option Out
 | [.one ⟨true,[.val (.string x0),.ref 0]⟩],[.row false 178 (.pair (.int .i64) (.pair (.str) (.int .i64))) x1]=>some ⟨.one ⟨false,[.val (.bool (TN x0 x1))]⟩,[.row false 178 afk x1],[],[TO x0 x1]⟩
 |_,_=>none
def aiP:PF prog:=PF.ofG prog [LB,KP,PF.lend KP,PF.fz KP] [] aP 231 f231 func231 (fun c _=>LOk.nil c) abs (by
 intro vs es r h;unfold abs at h;split at h
 ·cases h;kernel_rfl
 ·cases h)
abbrev mu:=Int×Int×List ByteArray
section
variable (y0 y1:Int)(y2:List ByteArray)
def zu:ByteArray:=Option.getD y2[Int.toNat y0]? ByteArray.empty
def sb:List ByteArray:=List.drop (Int.toNat (0:Int)) (List.take y0.toNat y2)
def Bd:Bool:=ltI y0 y1
def wK:Bool:=leI (0:Int) y0
def Be:Bool:=ltI y0 (↑y2.length:Int)
def Bf:Bool:=ltN y0.toNat y2.length
end
def Bg:Bool:=leI (0:Int) (0:Int)
section
variable (y0:Int)(y2:List ByteArray)
def Bh:Bool:=leI y0 (↑y2.length:Int)
def wL:Bool:=jU (zu y0 y2) (sb y0 y2)
def Bi:Bool:=gY (zu y0 y2) (sb y0 y2)
def GH:Int:=IntKind.wrap .i64 (y0 + (1:Int))
end
def aaH:mu→List (Nat×SV)
 |(y0,y1,_)=> [(7,(.one ⟨false,[.val (.int .i64 y0)]⟩)),(6,(.one ⟨false,[.val (.int .i64 y1)]⟩)),(5,(.one ⟨false,[.ref 0]⟩)),(0,(.one ⟨false,[.ref 0]⟩))]
def aax:mu→List (Nat×Entry)
 |(_,_,y2)=> [(0,(.row false 9 ahF y2))]
def aa1:Nat→mu→List (Nat×SV)
 |0,(_,_,_)=> [(2,(.one ⟨false,[.val (.bool true)]⟩))]
 |_,(_,_,_)=> []
def aaR:Nat→mu→List (Nat×Entry)
 |0,(_,_,y2)=> [(0,(.row false 9 ahF y2))]
 |_,(_,_,y2)=> [(0,(.row false 9 ahF y2))]
def Am:mu→LT mu
 |(y0,y1,y2)=> .ite (Bd y0 y1) (.need [wK y0,Be y0 y2,Bf y0 y2] (.need [Bg,wK y0,Bh y0 y2,wL y0 y2] (.ite (Bi y0 y2) (.ext 0 [(0,0)]) (.nrm ((GH y0),y1,y2) [(0,0)])))) (.ext 1 [(0,0)])
def KZ(s:St):Option mu:=
 (match s.look 7 with
 |some ⟨none,.one ⟨false,[.val (.int .i64 y0)]⟩⟩=>
 (match s.look 6 with
 |some ⟨none,.one ⟨false,[.val (.int .i64 y1)]⟩⟩=>
 (match s.look 5 with
 |some ⟨none,.one ⟨false,[.ref 0]⟩⟩=>
 (match s.look 0 with
 |some ⟨none,.one ⟨false,[.ref 0]⟩⟩=>
 (match s.ent 0 with
 |some (.row false 9 (.str) y2)=>
 some (y0,y1,y2)
 |_=>none)
 |_=>none)
 |_=>none)
 |_=>none)
 |_=>none)
def eW:Lp mu where
 h:=⟨[8,9,10,11,3,4,12,13,14,15,16,2,17,7],[0],[],[]⟩
 JL:=aaH
 JE:=aax
 XL:=aa1
 XE:=aaR
 q:=fun j=>match j with | 0=> .ret | _=> .exit 0
 tags:= [0,1]
 lt:=Am
 fuel:=fun(y0,y1,y2)=>y0.natAbs + y1.natAbs + y2.length
 fix:=fun(_,y1,y2) (y0,_,_)=>(y0,y1,y2)
 σ:= [(0,0)]
 rd:=KZ
theorem XP:LoopOk prog (fun k=>Nat.blt k Tryz.f232.ntmps) eW.F (aL f232 0):=by
 refine Lp.ok (tbl:= [cP,PF.lend cP,PF.fz cP]) (lf:= []) aP eW (by kernel_rfl) (LOk.nil _) (fun _=>rfl) (fun j _=>by unfold eW;match j with | 0=>rfl | _ + 1=>rfl) ?_ ?_ ?_ ?_ (fun _=>rfl) ?_
 ·rintro⟨y0,y1,y2⟩;kernel_rfl
 ·rintro⟨y0,y1,y2⟩;kernel_rfl
 ·intro s x h
  have h:KZ s=some x:=h
  unfold KZ at h
  repeat' split at h
  all_goals cases h
  exact⟨aa (by assumption) rfl (aa (by assumption) rfl (aa (by assumption) rfl (aa (by assumption) rfl (rfl)))),ab rfl (by assumption) rfl (rfl)⟩
 ·rintro⟨y0,y1,y2⟩;kernel_rfl
 ·rintro⟨y0,y1,y2⟩ z;exact(And.intro (And.intro trivial rfl) trivial)
section
variable (x0:List ByteArray)
def Pk:Int×Int×List ByteArray:=((0:Int),(↑x0.length:Int),x0)
def QC:Bool:=bif Nat.beq ((Lp.res eW (Pk x0)).1) (0:Nat)then true else false
def QD:Bool:=allT [Lp.fin eW (Pk x0)]
end
def Wx:List SV→List Entry→Option Out
 | [.one ⟨false,[.ref 0]⟩],[.row false 9 (.str) x0]=>some ⟨.one ⟨false,[.val (.bool (QC x0))]⟩,[.row false 9 ahF x0],[],[QD x0]⟩
 |_,_=>none
def agQ:PF prog:=PF.ofG prog [cP,PF.lend cP,PF.fz cP] [eW.F] aP 232 f232 func232 (LOk.fnT (l:= [aL f232 0]) (by kernel_rfl) (.cons XP (.nil _))) Wx (by
 intro vs es r h;unfold Wx at h;split at h
 ·cases h;kernel_rfl
 ·cases h)
abbrev aQ:=Int×Int×List (Int×(ByteArray×Int))×List (Int×(ByteArray×Int))
section
variable (y0 y1:Int)(y2 y3:List (Int×(ByteArray×Int)))
def aM:Int×ByteArray×Int:=Option.getD y2[Int.toNat y0]? ((0:Int),ByteArray.empty,(0:Int))
def bL:Bool:=leI (7:Int) ((aM y0 y2).1)
def bM:List (Int×ByteArray×Int):= [((aM y0 y2).1,((aM y0 y2).2).1,(aM y0 y2).2.2)]
def dV:Bool:=ltI y0 y1
def dW:Bool:=leI (0:Int) y0
def dX:Bool:=ltI y0 (↑y2.length:Int)
def dY:Bool:=ltN y0.toNat y2.length
def dZ:Bool:= !bL y0 y2||leN (List.length y3 + List.length (bM y0 y2)) (9223372036854775807:Nat)
def ea:Bool:= !bL y0 y2||leN ((List.length y3 + List.length (bM y0 y2)) * (32:Nat)) (140737488355328:Nat)
def ec:Bool:=bL y0 y2
def cS:Int:=IntKind.wrap .i64 (y0 + (1:Int))
def ed:List (Int×(ByteArray×Int)):=y3++bM y0 y2
end
def CL:aQ→List (Nat×SV)
 |(y0,y1,_,_)=> [(18,(.one ⟨false,[.val (.int .i64 y0)]⟩)),(17,(.one ⟨false,[.val (.int .i64 y1)]⟩)),(16,(.one ⟨false,[.ref 0]⟩)),(3,(.one ⟨false,[.ref 1]⟩))]
def CJ:aQ→List (Nat×Entry)
 |(_,_,y2,y3)=> [(0,(.row false 178 afk y2)),(1,(.row true 178 afk y3))]
def CN:Nat→aQ→List (Nat×SV)
 |_,(_,_,_,_)=> [(3,(.one ⟨false,[.ref 1]⟩))]
def CM:Nat→aQ→List (Nat×Entry)
 |_,(_,_,y2,y3)=> [(0,(.row false 178 afk y2)),(1,(.row true 178 afk y3))]
def dF:aQ→LT aQ
 |(y0,y1,y2,y3)=> .ite (dV y0 y1) (.need [dW y0,dX y0 y2,dY y0 y2] (.need [dZ y0 y2 y3,ea y0 y2 y3] (.ite (ec y0 y2) (.nrm ((cS y0),y1,y2,(ed y0 y2 y3)) [(0,0),(1,768)]) (.nrm ((cS y0),y1,y2,y3) [(0,0),(1,1)])))) (.ext 0 [(0,0),(1,1)])
def lX(s:St):Option aQ:=
 (match s.look 18 with
 |some ⟨none,.one ⟨false,[.val (.int .i64 y0)]⟩⟩=>
 (match s.look 17 with
 |some ⟨none,.one ⟨false,[.val (.int .i64 y1)]⟩⟩=>
 (match s.look 16 with
 |some ⟨none,.one ⟨false,[.ref 192]⟩⟩=>
 (match s.look 3 with
 |some ⟨none,.one ⟨false,[.ref 1]⟩⟩=>
 (match s.ent 192 with
 |some (.row false 178 (.pair (.int .i64) (.pair .str (.int .i64))) y2)=>
 (match s.ent 1 with
 |some (.row true 178 (.pair (.int .i64) (.pair .str (.int .i64))) y3)=>
 some (y0,y1,y2,y3)
 |_=>none)
 |_=>none)
 |_=>none)
 |_=>none)
 |_=>none)
 |_=>none)
def ae:Lp aQ where
 h:=⟨[19,20,21,7,22,23,24,25,26,27,28,3,29,18],[0],[1],[]⟩
 JL:=CL
 JE:=CJ
 XL:=CN
 XE:=CM
 q:=fun j=>match j with | _=> .exit 2
 tags:= [0]
 lt:=dF
 fuel:=fun(y0,y1,y2,y3)=>y0.natAbs + y1.natAbs + y2.length + y3.length
 fix:=fun(_,y1,y2,_) (y0,_,_,y3)=>(y0,y1,y2,y3)
 σ:= [(0,192),(1,1)]
 rd:=lX
theorem BM:LoopOk prog (memN [12,13,14,5,15,16,17,18,19,20,21,7,22,23,24,25,26,27,28,3,29,30,11]) ae.F (ZI (aL f117 0) 0):=by
 refine Lp.ok (tbl:= []) (lf:= []) aP ae (by kernel_rfl) (LOk.nil _) (fun _=>rfl) (fun _ _=>rfl) ?_ ?_ ?_ ?_ (fun _=>rfl) ?_
 ·rintro⟨y0,y1,y2,y3⟩;kernel_rfl
 ·rintro⟨y0,y1,y2,y3⟩;kernel_rfl
 ·intro s x h
  have h:lX s=some x:=h
  unfold lX at h
  repeat' split at h
  all_goals cases h
  exact⟨aa (by assumption) rfl (aa (by assumption) rfl (aa (by assumption) rfl (aa (by assumption) rfl (rfl)))),ab rfl (by assumption) rfl (ab rfl (by assumption) rfl (rfl))⟩
 ·rintro⟨y0,y1,y2,y3⟩;kernel_rfl
 ·rintro⟨y0,y1,y2,y3⟩ z;exact(And.intro (And.intro rfl rfl) trivial)
abbrev aT:=Int×Int×List (ByteArray×(List (Int×(ByteArray×Int))))×List (Int×(ByteArray×Int))
def bx(y0:Int)(y2:List (ByteArray×(List (Int×(ByteArray×Int))))):List (Int×ByteArray×Int):=(Option.getD y2[Int.toNat y0]? (qA (CTy.pair CTy.str (CTy.sl (178:Nat) afk)))).2
def dg(y0:Int)(y2:List (ByteArray×(List (Int×(ByteArray×Int)))))(y3:List (Int×(ByteArray×Int))):Int×Int×List (Int×ByteArray×Int)×List (Int×ByteArray×Int):=((0:Int),(↑(List.length (bx y0 y2)):Int),bx y0 y2,y3)
def fc(y0 y1:Int):Bool:=ltI y0 y1
def je(y0:Int):Bool:=leI (0:Int) y0
def jf(y0:Int)(y2:List (ByteArray×(List (Int×(ByteArray×Int))))):Bool:=ltI y0 (↑y2.length:Int)
def jg(y0:Int)(y2:List (ByteArray×(List (Int×(ByteArray×Int))))):Bool:=ltN y0.toNat y2.length
def fe(y0:Int)(y2:List (ByteArray×(List (Int×(ByteArray×Int)))))(y3:List (Int×(ByteArray×Int))):Bool:=Lp.fin ae (dg y0 y2 y3)
def nD(y0:Int):Int:=IntKind.wrap .i64 (y0 + (1:Int))
def jh(y0:Int)(y2:List (ByteArray×(List (Int×(ByteArray×Int)))))(y3:List (Int×(ByteArray×Int))):List (Int×(ByteArray×Int)):=(Lp.res ae (dg y0 y2 y3)).2.2.2.2
def Ez:aT→List (Nat×SV)
 |(y0,y1,_,_)=> [(11,(.one ⟨false,[.val (.int .i64 y0)]⟩)),(10,(.one ⟨false,[.val (.int .i64 y1)]⟩)),(9,(.one ⟨false,[.ref 0]⟩)),(3,(.one ⟨false,[.ref 1]⟩))]
def Ey:aT→List (Nat×Entry)
 |(_,_,y2,y3)=> [(0,(.row false 204 (CTy.pair CTy.str (CTy.sl (178:Nat) afk)) y2)),(1,(.row true 178 afk y3))]
def EB:Nat→aT→List (Nat×SV)
 |_,(_,_,_,_)=> [(3,(.one ⟨false,[.ref 1]⟩))]
def EA:Nat→aT→List (Nat×Entry)
 |_,(_,_,y2,y3)=> [(0,(.row false 204 (CTy.pair CTy.str (CTy.sl (178:Nat) afk)) y2)),(1,(.row true 178 afk y3))]
def eT:aT→LT aT
 |(y0,y1,y2,y3)=> .ite (fc y0 y1) (.need [je y0,jf y0 y2,jg y0 y2] (.need [fe y0 y2 y3] (.nrm ((nD y0),y1,y2,(jh y0 y2 y3)) [(0,0),(1,640)]))) (.ext 0 [(0,0),(1,1)])
def nn(s:St):Option aT:=
 (match s.look 11 with
 |some ⟨none,.one ⟨false,[.val (.int .i64 y0)]⟩⟩=>
 (match s.look 10 with
 |some ⟨none,.one ⟨false,[.val (.int .i64 y1)]⟩⟩=>
 (match s.look 9 with
 |some ⟨none,.one ⟨false,[.ref 3]⟩⟩=>
 (match s.look 3 with
 |some ⟨none,.one ⟨false,[.ref 448]⟩⟩=>
 (match s.ent 3 with
 |some (.row false 204 (.pair .str (.sl (178:Nat) (.pair (.int .i64) (.pair .str (.int .i64))))) y2)=>
 (match s.ent 448 with
 |some (.row true 178 (.pair (.int .i64) (.pair .str (.int .i64))) y3)=>
 some (y0,y1,y2,y3)
 |_=>none)
 |_=>none)
 |_=>none)
 |_=>none)
 |_=>none)
 |_=>none)
def au:Lp aT where
 h:=⟨[12,13,14,5,15,16,17,18,19,20,21,7,22,23,24,25,26,27,28,3,29,30,11],[0],[1],[]⟩
 JL:=Ez
 JE:=Ey
 XL:=EB
 XE:=EA
 q:=fun j=>match j with | _=> .exit 0
 tags:= [0]
 lt:=eT
 fuel:=fun(y0,y1,y2,y3)=>y0.natAbs + y1.natAbs + y2.length + y3.length
 fix:=fun(_,y1,y2,_) (y0,_,_,y3)=>(y0,y1,y2,y3)
 σ:= [(0,3),(1,448)]
 rd:=nn
theorem DS:LoopOk prog (fun k=>Nat.blt k Tryz.f117.ntmps) au.F (aL f117 0):=by
 refine Lp.ok (tbl:= []) (lf:= [ae.F]) aP au (by kernel_rfl) (LOk.allT (l:= [ZI (aL f117 0) 0]) (by kernel_rfl) (.cons BM (.nil _))) (fun _=>rfl) (fun _ _=>rfl) ?_ ?_ ?_ ?_ (fun _=>rfl) ?_
 ·rintro⟨y0,y1,y2,y3⟩;kernel_rfl
 ·rintro⟨y0,y1,y2,y3⟩;kernel_rfl
 ·intro s x h
  have h:nn s=some x:=h
  unfold nn at h
  repeat' split at h
  all_goals cases h
  exact⟨aa (by assumption) rfl (aa (by assumption) rfl (aa (by assumption) rfl (aa (by assumption) rfl (rfl)))),ab rfl (by assumption) rfl (ab rfl (by assumption) rfl (rfl))⟩
 ·rintro⟨y0,y1,y2,y3⟩;kernel_rfl
 ·rintro⟨y0,y1,y2,y3⟩ z;exact(And.intro rfl trivial)
section
variable (x5:List (ByteArray×List (Int×ByteArray×Int)))
def oI:Int×Int×List (ByteArray×List (Int×ByteArray×Int))×List (Int×ByteArray×Int):=((0:Int),(↑x5.length:Int),x5,[])
def oT:List (Int×(ByteArray×Int)):=(Lp.res au (oI x5)).2.2.2.2
def oU:Bool:=allT [Lp.fin au (oI x5)]
end
def vM:List SV→List Entry→Option Out
 | [.one ⟨true,[.val (.string _x0),.ref 0,.ref 1,.ref 2,.val (.string _x1),.ref 3]⟩],[.row false 9 (.str) x2,.row false 9 (.str) x3,.row false 9 (.str) x4,.row false 204 (.pair (.str) (.sl 178 (.pair (.int .i64) (.pair (.str) (.int .i64))))) x5]=>some ⟨.one ⟨false,[.ref 4]⟩,[.row false 9 ahF x2,.row false 9 ahF x3,.row false 9 ahF x4,.row false 204 (CTy.pair CTy.str (CTy.sl (178:TypeId) afk)) x5],[.row true 178 afk (oT x5)],[oU x5]⟩
 |_,_=>none
def Hu:PF prog:=PF.ofG prog [] [au.F] aP 117 f117 func117 (LOk.fnT (l:= [aL f117 0]) (by kernel_rfl) (.cons DS (.nil _))) vM (by
 intro vs es r h;unfold vM at h;split at h
 ·cases h;kernel_rfl
 ·cases h)
abbrev ly:=Int×Int×List ByteArray
section
variable (y0 y1:Int)(y2:List ByteArray)
def tZ:Int:=IntKind.wrap .i64 (y1 - (↑(ByteArray.size (Option.getD y2[Int.toNat y0]? ByteArray.empty)):Int))
def vE:Bool:=ltI y0 (↑y2.length:Int)
def zY:Bool:=leI (0:Int) y0
def zZ:Bool:=ltN y0.toNat y2.length
def Aa:Bool:=ltI (tZ y0 y1 y2) (0:Int)
end
def se:Int:=(-1:Int)
def Ab(y0:Int):Int:=IntKind.wrap .i64 (y0 + (1:Int))
def Ac(y0 y1:Int)(y2:List ByteArray):Int:=tZ y0 y1 y2
def YJ:ly→List (Nat×SV)
 |(y0,y1,_)=> [(5,(.one ⟨false,[.val (.int .i64 y0)]⟩)),(0,(.one ⟨false,[.ref 0]⟩)),(1,(.one ⟨false,[.val (.int .i64 y1)]⟩))]
def Yz:ly→List (Nat×Entry)
 |(_,_,y2)=> [(0,(.row false 9 ahF y2))]
def Zm:Nat→ly→List (Nat×SV)
 |0,(_,_,_)=> [(4,(.one ⟨false,[.val (.int .i64 (se))]⟩))]
 |_,(_,y1,_)=> [(1,(.one ⟨false,[.val (.int .i64 y1)]⟩))]
def Zc:Nat→ly→List (Nat×Entry)
 |0,(_,_,y2)=> [(0,(.row false 9 ahF y2))]
 |_,(_,_,y2)=> [(0,(.row false 9 ahF y2))]
def xX:ly→LT ly
 |(y0,y1,y2)=> .ite (vE y0 y2) (.need [zY y0,vE y0 y2,zZ y0 y2] (.ite (Aa y0 y1 y2) (.ext 0 [(0,0)]) (.nrm ((Ab y0),Ac y0 y1 y2,y2) [(0,0)]))) (.ext 1 [(0,0)])
def JQ(s:St):Option ly:=
 (match s.look 5 with
 |some ⟨none,.one ⟨false,[.val (.int .i64 y0)]⟩⟩=>
 (match s.look 0 with
 |some ⟨none,.one ⟨false,[.ref 0]⟩⟩=>
 (match s.look 1 with
 |some ⟨none,.one ⟨false,[.val (.int .i64 y1)]⟩⟩=>
 (match s.ent 0 with
 |some (.row false 9 (.str) y2)=>
 some (y0,y1,y2)
 |_=>none)
 |_=>none)
 |_=>none)
 |_=>none)
def dr:Lp ly where
 h:=⟨[12,13,14,15,18,19,20,21,22,23,24,1,25,26,4,16,17,5],[0],[],[]⟩
 JL:=YJ
 JE:=Yz
 XL:=Zm
 XE:=Zc
 q:=fun j=>match j with | 0=> .ret | _=> .exit 0
 tags:= [0,1]
 lt:=xX
 fuel:=fun(y0,y1,y2)=>y0.natAbs + y1.natAbs + y2.length
 fix:=fun(_,_,y2) (y0,y1,_)=>(y0,y1,y2)
 σ:= [(0,0)]
 rd:=JQ
theorem Wb:LoopOk prog (fun k=>Nat.blt k Tryz.f129.ntmps) dr.F (aL f129 0):=by
 refine Lp.ok (tbl:= []) (lf:= []) aP dr (by kernel_rfl) (LOk.nil _) (fun _=>rfl) (fun j _=>by unfold dr;match j with | 0=>rfl | _ + 1=>rfl) ?_ ?_ ?_ ?_ (fun _=>rfl) ?_
 ·rintro⟨y0,y1,y2⟩;kernel_rfl
 ·rintro⟨y0,y1,y2⟩;kernel_rfl
 ·intro s x h
  have h:JQ s=some x:=h
  unfold JQ at h
  repeat' split at h
  all_goals cases h
  exact⟨aa (by assumption) rfl (aa (by assumption) rfl (aa (by assumption) rfl (rfl))),ab rfl (by assumption) rfl (rfl)⟩
 ·rintro⟨y0,y1,y2⟩;kernel_rfl
 ·rintro⟨y0,y1,y2⟩ z;exact(And.intro (And.intro trivial rfl) trivial)
section
variable (x0:Int)(x1:List ByteArray)
def IC:Int:=IntKind.wrap .i64 (x0 - (↑x1.length:Int))
def ID:Int×Int×List ByteArray:=((0:Int),IC x0 x1,x1)
def Pu:Int:=bif ltI (IC x0 x1) (0:Int)then(-1:Int)else bif Nat.beq ((Lp.res dr (ID x0 x1)).1) (0:Nat)then se else ((Lp.res dr (ID x0 x1)).2.2).1
def Pv:Bool:=allT [ltI (IC x0 x1) (0:Int)||Lp.fin dr (ID x0 x1)]
end
def Uv:List SV→List Entry→Option Out
 | [.one ⟨false,[.ref 0]⟩,.one ⟨false,[.val (.int .i64 x0)]⟩],[.row false 9 (.str) x1]=>some ⟨.one ⟨false,[.val (.int .i64 (Pu x0 x1))]⟩,[.row false 9 ahF x1],[],[Pv x0 x1]⟩
 |_,_=>none
def afI:PF prog:=PF.ofG prog [] [dr.F] aP 129 f129 func129 (LOk.fnT (l:= [aL f129 0]) (by kernel_rfl) (.cons Wb (.nil _))) Uv (by
 intro vs es r h;unfold Uv at h;split at h
 ·cases h;kernel_rfl
 ·cases h)
abbrev lA:=Int×List ByteArray×List ByteArray
section
variable (y0:Int)(y1 y2:List ByteArray)
def vH:Bool:=ltI y0 (↑y1.length:Int)
def vI:Bool:=leI (0:Int) y0
def Ah:Bool:=ltN y0.toNat y1.length
def Ai:Bool:=ltI y0 (↑y2.length:Int)
def Aj:Bool:=ltN y0.toNat y2.length
def Ak:Int:=IntKind.wrap .i64 (y0 + (1:Int))
def Al:List ByteArray:=List.set y2 y0.toNat (Option.getD y1[Int.toNat y0]? ByteArray.empty)
end
def YL:lA→List (Nat×SV)
 |(y0,_,_)=> [(4,(.one ⟨false,[.val (.int .i64 y0)]⟩)),(0,(.one ⟨false,[.ref 0]⟩)),(3,(.one ⟨false,[.ref 1]⟩))]
def YB:lA→List (Nat×Entry)
 |(_,y1,y2)=> [(0,(.row false 9 ahF y1)),(1,(.row true 9 ahF y2))]
def Zo:Nat→lA→List (Nat×SV)
 |_,(_,_,_)=> []
def Ze:Nat→lA→List (Nat×Entry)
 |_,(_,y1,y2)=> [(0,(.row false 9 ahF y1)),(1,(.row true 9 ahF y2))]
def xZ:lA→LT lA
 |(y0,y1,y2)=> .ite (vH y0 y1) (.need [vI y0,vH y0 y1,Ah y0 y1,vI y0,Ai y0 y2,Aj y0 y2] (.nrm ((Ak y0),y1,(Al y0 y1 y2)) [(0,0),(1,1)])) (.ext 0 [(0,0),(1,1)])
def JS(s:St):Option lA:=
 (match s.look 4 with
 |some ⟨none,.one ⟨false,[.val (.int .i64 y0)]⟩⟩=>
 (match s.look 0 with
 |some ⟨none,.one ⟨false,[.ref 0]⟩⟩=>
 (match s.look 3 with
 |some ⟨none,.one ⟨false,[.ref 320]⟩⟩=>
 (match s.ent 0 with
 |some (.row false 9 (.str) y1)=>
 (match s.ent 320 with
 |some (.row true 9 (.str) y2)=>
 some (y0,y1,y2)
 |_=>none)
 |_=>none)
 |_=>none)
 |_=>none)
 |_=>none)
def fk:Lp lA where
 h:=⟨[8,9,10,11,14,15,16,17,18,19,20,12,13,4],[0,1],[],[]⟩
 JL:=YL
 JE:=YB
 XL:=Zo
 XE:=Ze
 q:=fun j=>match j with | _=> .exit 0
 tags:= [0]
 lt:=xZ
 fuel:=fun(y0,y1,y2)=>y0.natAbs + y1.length + y2.length
 fix:=fun(_,y1,_) (y0,_,y2)=>(y0,y1,y2)
 σ:= [(0,0),(1,320)]
 rd:=JS
theorem Wd:LoopOk prog (fun k=>Nat.blt k Tryz.f131.ntmps) fk.F (aL f131 0):=by
 refine Lp.ok (tbl:= []) (lf:= []) aP fk (by kernel_rfl) (LOk.nil _) (fun _=>rfl) (fun _ _=>rfl) ?_ ?_ ?_ ?_ (fun _=>rfl) ?_
 ·rintro⟨y0,y1,y2⟩;kernel_rfl
 ·rintro⟨y0,y1,y2⟩;kernel_rfl
 ·intro s x h
  have h:JS s=some x:=h
  unfold JS at h
  repeat' split at h
  all_goals cases h
  exact⟨aa (by assumption) rfl (aa (by assumption) rfl (aa (by assumption) rfl (rfl))),ab rfl (by assumption) rfl (ab rfl (by assumption) rfl (rfl))⟩
 ·rintro⟨y0,y1,y2⟩;kernel_rfl
 ·rintro⟨y0,y1,y2⟩ z;exact(And.intro rfl trivial)
def IH(x0:List ByteArray):Int×List ByteArray×List ByteArray:=
 ((0:Int),x0,List.replicate (Int.toNat (↑x0.length:Int)) { data:= #[] })
def Ko(x0:List ByteArray):List ByteArray:=(Lp.res fk (IH x0)).2.2.2
def Kp(x0:List ByteArray):Bool:=allT [leI (0:Int) (↑x0.length:Int),leI (↑x0.length:Int) (↑x0.length:Int),leI ((↑(16:Nat):Int) * (↑x0.length:Int)) (281474976710656:Int),leI (↑x0.length:Int) (9223372036854775807:Int),Lp.fin fk (IH x0)]
def Uy:List SV→List Entry→Option Out
 | [.one ⟨false,[.ref 0]⟩],[.row false 9 (.str) x0]=>some ⟨.one ⟨false,[.ref 1]⟩,[.row false 9 ahF x0],[.row true 9 ahF (Ko x0)],[Kp x0]⟩
 |_,_=>none
def afK:PF prog:=PF.ofG prog [] [fk.F] aP 131 f131 func131 (LOk.fnT (l:= [aL f131 0]) (by kernel_rfl) (.cons Wd (.nil _))) Uy (by
 intro vs es r h;unfold Uy at h;split at h
 ·cases h;kernel_rfl
 ·cases h)
abbrev lv:=Int×List ByteArray×List ByteArray
section
variable (y0:Int)(y1 y2:List ByteArray)
def vA:Bool:=ltI y0 (↑y1.length:Int)
def vB:Bool:=leI (0:Int) y0
def zE:Bool:=ltN y0.toNat y1.length
def zF:Bool:=ltI y0 (↑y2.length:Int)
def zG:Bool:=ltN y0.toNat y2.length
def zH:Bool:= !ByteArray.toList (Option.getD y1[Int.toNat y0]? ByteArray.empty)==ByteArray.toList (Option.getD y2[Int.toNat y0]? ByteArray.empty)
def zI:Int:=IntKind.wrap .i64 (y0 + (1:Int))
end
def YF:lv→List (Nat×SV)
 |(y0,_,_)=> [(5,(.one ⟨false,[.val (.int .i64 y0)]⟩)),(0,(.one ⟨false,[.ref 0]⟩)),(1,(.one ⟨false,[.ref 1]⟩))]
def Yv:lv→List (Nat×Entry)
 |(_,y1,y2)=> [(0,(.row false 9 ahF y1)),(1,(.row false 9 ahF y2))]
def Zi:Nat→lv→List (Nat×SV)
 |0,(_,_,_)=> [(4,(.one ⟨false,[.val (.bool false)]⟩))]
 |_,(_,_,_)=> []
def YY:Nat→lv→List (Nat×Entry)
 |0,(_,y1,y2)=> [(0,(.row false 9 ahF y1)),(1,(.row false 9 ahF y2))]
 |_,(_,y1,y2)=> [(0,(.row false 9 ahF y1)),(1,(.row false 9 ahF y2))]
def xT:lv→LT lv
 |(y0,y1,y2)=> .ite (vA y0 y1) (.need [vB y0,vA y0 y1,zE y0 y1,vB y0,zF y0 y2,zG y0 y2] (.ite (zH y0 y1 y2) (.ext 0 [(0,0),(1,1)]) (.nrm ((zI y0),y1,y2) [(0,0),(1,1)]))) (.ext 1 [(0,0),(1,1)])
def JM(s:St):Option lv:=
 (match s.look 5 with
 |some ⟨none,.one ⟨false,[.val (.int .i64 y0)]⟩⟩=>
 (match s.look 0 with
 |some ⟨none,.one ⟨false,[.ref 0]⟩⟩=>
 (match s.look 1 with
 |some ⟨none,.one ⟨false,[.ref 1]⟩⟩=>
 (match s.ent 0 with
 |some (.row false 9 (.str) y1)=>
 (match s.ent 1 with
 |some (.row false 9 (.str) y2)=>
 some (y0,y1,y2)
 |_=>none)
 |_=>none)
 |_=>none)
 |_=>none)
 |_=>none)
def ep:Lp lv where
 h:=⟨[11,12,13,14,17,18,19,20,21,22,23,24,25,4,15,16,5],[0,1],[],[]⟩
 JL:=YF
 JE:=Yv
 XL:=Zi
 XE:=YY
 q:=fun j=>match j with | 0=> .ret | _=> .exit 0
 tags:= [0,1]
 lt:=xT
 fuel:=fun(y0,y1,y2)=>y0.natAbs + y1.length + y2.length
 fix:=fun(_,y1,y2) (y0,_,_)=>(y0,y1,y2)
 σ:= [(0,0),(1,1)]
 rd:=JM
theorem VX:LoopOk prog (fun k=>Nat.blt k Tryz.f133.ntmps) ep.F (aL f133 0):=by
 refine Lp.ok (tbl:= []) (lf:= []) aP ep (by kernel_rfl) (LOk.nil _) (fun _=>rfl) (fun j _=>by unfold ep;match j with | 0=>rfl | _ + 1=>rfl) ?_ ?_ ?_ ?_ (fun _=>rfl) ?_
 ·rintro⟨y0,y1,y2⟩;kernel_rfl
 ·rintro⟨y0,y1,y2⟩;kernel_rfl
 ·intro s x h
  have h:JM s=some x:=h
  unfold JM at h
  repeat' split at h
  all_goals cases h
  exact⟨aa (by assumption) rfl (aa (by assumption) rfl (aa (by assumption) rfl (rfl))),ab rfl (by assumption) rfl (ab rfl (by assumption) rfl (rfl))⟩
 ·rintro⟨y0,y1,y2⟩;kernel_rfl
 ·rintro⟨y0,y1,y2⟩ z;exact(And.intro (And.intro trivial rfl) trivial)
section
variable (x0 x1:List ByteArray)
def Ir:Bool:=(↑x0.length:Int)!=(↑x1.length:Int)
def Is:Int×List ByteArray×List ByteArray:=((0:Int),x0,x1)
def Kj:Bool:=bif Ir x0 x1 then false else bif Nat.beq ((Lp.res ep (Is x0 x1)).1) (0:Nat)then false else true
def Kk:Bool:=allT [Ir x0 x1||Lp.fin ep (Is x0 x1)]
end
def Uq:List SV→List Entry→Option Out
 | [.one ⟨false,[.ref 0]⟩,.one ⟨false,[.ref 1]⟩],[.row false 9 (.str) x0,.row false 9 (.str) x1]=>some ⟨.one ⟨false,[.val (.bool (Kj x0 x1))]⟩,[.row false 9 ahF x0,.row false 9 ahF x1],[],[Kk x0 x1]⟩
 |_,_=>none
def afF:PF prog:=PF.ofG prog [] [ep.F] aP 133 f133 func133 (LOk.fnT (l:= [aL f133 0]) (by kernel_rfl) (.cons VX (.nil _))) Uq (by
 intro vs es r h;unfold Uq at h;split at h
 ·cases h;kernel_rfl
 ·cases h)
abbrev np:=Int×Int×List ByteArray
section
variable (y0 y1:Int)(y2:List ByteArray)
def CF:Bool:=ltI y0 (↑y2.length:Int)
def OW:Bool:=leI (0:Int) y1&&leI y1 (9223372036854775807:Int)
def OX:Bool:=leI (0:Int) y0
def OY:Bool:=ltN y0.toNat y2.length
def OZ:Int:=IntKind.wrap .i64 (y0 + (1:Int))
def wm:Int:=IntKind.wrap .i64 (y1 + (1:Int))
def wn:List ByteArray:=List.set y2 y0.toNat (nz y1)
end
def Vz:np→List (Nat×SV)
 |(y0,y1,_)=> [(5,(.one ⟨false,[.val (.int .i64 y0)]⟩)),(0,(.one ⟨false,[.ref 0]⟩)),(1,(.one ⟨false,[.val (.int .i64 y1)]⟩))]
def Vv:np→List (Nat×Entry)
 |(_,_,y2)=> [(0,(.row true 9 ahF y2))]
def VH:Nat→np→List (Nat×SV)
 |_,(_,y1,_)=> [(1,(.one ⟨false,[.val (.int .i64 y1)]⟩))]
def VD:Nat→np→List (Nat×Entry)
 |_,(_,_,y2)=> [(0,(.row true 9 ahF y2))]
def uU:np→LT np
 |(y0,y1,y2)=> .ite (CF y0 y2) (.need [OW y1,OX y0,CF y0 y2,OY y0 y2] (.nrm ((OZ y0),wm y1,(wn y0 y1 y2)) [(0,0)])) (.ext 0 [(0,0)])
def GU(s:St):Option np:=
 (match s.look 5 with
 |some ⟨none,.one ⟨false,[.val (.int .i64 y0)]⟩⟩=>
 (match s.look 0 with
 |some ⟨none,.one ⟨false,[.ref 0]⟩⟩=>
 (match s.look 1 with
 |some ⟨none,.one ⟨false,[.val (.int .i64 y1)]⟩⟩=>
 (match s.ent 0 with
 |some (.row true 9 (.str) y2)=>
 some (y0,y1,y2)
 |_=>none)
 |_=>none)
 |_=>none)
 |_=>none)
def eP:Lp np where
 h:=⟨[6,7,8,9,12,13,14,15,16,17,18,1,10,11,5],[0],[],[]⟩
 JL:=Vz
 JE:=Vv
 XL:=VH
 XE:=VD
 q:=fun j=>match j with | _=> .exit 0
 tags:= [0]
 lt:=uU
 fuel:=fun(y0,y1,y2)=>y0.natAbs + y1.natAbs + y2.length
 fix:=fun(_,_,_) (y0,y1,y2)=>(y0,y1,y2)
 σ:= [(0,0)]
 rd:=GU
theorem TZ:LoopOk prog (fun k=>Nat.blt k Tryz.f137.ntmps) eP.F (aL f137 0):=by
 refine Lp.ok (tbl:= [LX]) (lf:= []) aP eP (by kernel_rfl) (LOk.nil _) (fun _=>rfl) (fun _ _=>rfl) ?_ ?_ ?_ ?_ (fun _=>rfl) ?_
 ·rintro⟨y0,y1,y2⟩;kernel_rfl
 ·rintro⟨y0,y1,y2⟩;kernel_rfl
 ·intro s x h
  have h:GU s=some x:=h
  unfold GU at h
  repeat' split at h
  all_goals cases h
  exact⟨aa (by assumption) rfl (aa (by assumption) rfl (aa (by assumption) rfl (rfl))),ab rfl (by assumption) rfl (rfl)⟩
 ·rintro⟨y0,y1,y2⟩;kernel_rfl
 ·rintro⟨y0,y1,y2⟩ z;exact(And.intro rfl trivial)
section
variable (x0:Int)(x1:List ByteArray)
def EJ:Int×Int×List ByteArray:=((0:Int),x0,x1)
def KO:Int×List ByteArray:=(Lp.res eP (EJ x0 x1)).2.2
def da:Int:=(KO x0 x1).1
def GM:List ByteArray:=(KO x0 x1).2
def wP:Bool:=allT [Lp.fin eP (EJ x0 x1)]
end
def RF:List SV→List Entry→Option Out
 | [.one ⟨false,[.ref 0]⟩,.one ⟨false,[.val (.int .i64 x0)]⟩],[.row true 9 (.str) x1]=>some ⟨.one ⟨false,[.val (.int .i64 (da x0 x1))]⟩,[.row true 9 ahF (GM x0 x1)],[],[wP x0 x1]⟩
 |_,_=>none
def Mx:PF prog:=PF.ofG prog [LX] [eP.F] aP 137 f137 func137 (LOk.fnT (l:= [aL f137 0]) (by kernel_rfl) (.cons TZ (.nil _))) RF (by
 intro vs es r h;unfold RF at h;split at h
 ·cases h;kernel_rfl
 ·cases h)
section
variable (x0:Int)
def ba:Int:=IntKind.wrap .i64 (x0 - IntKind.wrap .i64 ((↑(0:Nat):Int) - (↑(0:Nat):Int)))
def wU:Bool:= !ltI (0:Int) (ba x0)||leI (0:Int) (↑(0:Nat):Int)
def sB:List ByteArray:=bif ltI (0:Int) (ba x0)then List.take (Int.toNat (↑(0:Nat):Int)) (List.replicate (Int.toNat (ba x0)) (ByteArray.mk #[]))else []
def sC:Bool:=allT [!ltI x0 (0:Int),!ltI (0:Int) (ba x0)||leI (0:Int) (0:Int),wU x0,!ltI (0:Int) (ba x0)||leI (↑(0:Nat):Int) (0:Int),!ltI (0:Int) (ba x0)||leI (1:Int) (ba x0),!ltI (0:Int) (ba x0)||leI (ba x0) (9223372036854775807:Int),!ltI (0:Int) (ba x0)||leI (ba x0 * (↑(16:Nat):Int)) (281474976710656:Int),wU x0,!ltI (0:Int) (ba x0)||leI (↑(0:Nat):Int) (↑(List.length (List.replicate (Int.toNat (ba x0)) (ByteArray.mk #[]))):Int)]
end
def Gq:List SV→List Entry→Option Out
 | [.one ⟨false,[.val (.slice none 0 0)]⟩,.one ⟨false,[.val (.int .i64 x0)]⟩],[]=>some ⟨.one ⟨false,[.ref 0]⟩,[],[.row true 9 ahF (sB x0)],[sC x0]⟩
 |_,_=>none
def yg:PF prog:=PF.ofG prog [PF.raw prog] [] aP 260 f260 func260 (fun c _=>LOk.nil c) Gq (by
 intro vs es r h;unfold Gq at h;split at h
 ·cases h;kernel_rfl
 ·cases h)
abbrev cw:=Int×Int×Int×List (List ByteArray)
section
variable (y0 y1 y2:Int)(y3:List (List ByteArray))
def fo:Int:=IntKind.wrap .i64 (y2 + (↑(List.length (Option.getD y3[Int.toNat y0]? (qA (CTy.sl (9:Nat) CTy.str)))):Int))
def mg:Bool:=ltI y0 y1
def pX:Bool:=leI (0:Int) y0
def pY:Bool:=ltI y0 (↑y3.length:Int)
def pZ:Bool:=ltN y0.toNat y3.length
def qa:Bool:= !ltI (fo y0 y2 y3) (0:Int)
def vh:Int:=IntKind.wrap .i64 (y0 + (1:Int))
def qb:Int:=fo y0 y2 y3
end
def NA:cw→List (Nat×SV)
 |(y0,y1,y2,_)=> [(11,(.one ⟨false,[.val (.int .i64 y0)]⟩)),(10,(.one ⟨false,[.val (.int .i64 y1)]⟩)),(9,(.one ⟨false,[.ref 0]⟩)),(3,(.one ⟨false,[.val (.int .i64 y2)]⟩))]
def Ny:cw→List (Nat×Entry)
 |(_,_,_,y3)=> [(0,(.row false 60 (CTy.sl (9:Nat) CTy.str) y3))]
def NE:Nat→cw→List (Nat×SV)
 |_,(_,_,y2,_)=> [(3,(.one ⟨false,[.val (.int .i64 y2)]⟩))]
def NC:Nat→cw→List (Nat×Entry)
 |_,(_,_,_,y3)=> [(0,(.row false 60 (CTy.sl (9:Nat) CTy.str) y3))]
def lF:cw→LT cw
 |(y0,y1,y2,y3)=> .ite (mg y0 y1) (.need [pX y0,pY y0 y3,pZ y0 y3] (.need [qa y0 y2 y3] (.nrm ((vh y0),y1,qb y0 y2 y3,y3) [(0,0)]))) (.ext 0 [(0,0)])
def ux(s:St):Option cw:=
 (match s.look 11 with
 |some ⟨none,.one ⟨false,[.val (.int .i64 y0)]⟩⟩=>
 (match s.look 10 with
 |some ⟨none,.one ⟨false,[.val (.int .i64 y1)]⟩⟩=>
 (match s.look 9 with
 |some ⟨none,.one ⟨false,[.ref 0]⟩⟩=>
 (match s.look 3 with
 |some ⟨none,.one ⟨false,[.val (.int .i64 y2)]⟩⟩=>
 (match s.ent 0 with
 |some (.row false 60 (.sl (9:Nat) .str) y3)=>
 some (y0,y1,y2,y3)
 |_=>none)
 |_=>none)
 |_=>none)
 |_=>none)
 |_=>none)
def bg:Lp cw where
 h:=⟨[12,13,14,5,15,16,17,18,3,19,20,21,22,11],[0],[],[]⟩
 JL:=NA
 JE:=Ny
 XL:=NE
 XE:=NC
 q:=fun j=>match j with | _=> .exit 0
 tags:= [0]
 lt:=lF
 fuel:=fun(y0,y1,y2,y3)=>y0.natAbs + y1.natAbs + y2.natAbs + y3.length
 fix:=fun(_,y1,_,y3) (y0,_,y2,_)=>(y0,y1,y2,y3)
 σ:= [(0,0)]
 rd:=ux
theorem Lx:LoopOk prog (fun k=>Nat.blt k Tryz.f227.ntmps) bg.F (aL f227 0):=by
 refine Lp.ok (tbl:= [yg]) (lf:= []) aP bg (by kernel_rfl) (LOk.nil _) (fun _=>rfl) (fun _ _=>rfl) ?_ ?_ ?_ ?_ (fun _=>rfl) ?_
 ·rintro⟨y0,y1,y2,y3⟩;kernel_rfl
 ·rintro⟨y0,y1,y2,y3⟩;kernel_rfl
 ·intro s x h
  have h:ux s=some x:=h
  unfold ux at h
  repeat' split at h
  all_goals cases h
  exact⟨aa (by assumption) rfl (aa (by assumption) rfl (aa (by assumption) rfl (aa (by assumption) rfl (rfl)))),ab rfl (by assumption) rfl (rfl)⟩
 ·rintro⟨y0,y1,y2,y3⟩;kernel_rfl
 ·rintro⟨y0,y1,y2,y3⟩ z;exact(And.intro rfl trivial)
abbrev cz:=Int×Int×List (List ByteArray)×List ByteArray
section
variable (y0 y1:Int)(y2:List (List ByteArray))(y3:List ByteArray)
def cU:List ByteArray:=Option.getD y2[Int.toNat y0]? (qA (CTy.sl (9:Nat) CTy.str))
def mh:Bool:=ltI y0 y1
def qc:Bool:=leI (0:Int) y0
def qd:Bool:=ltI y0 (↑y2.length:Int)
def qe:Bool:=ltN y0.toNat y2.length
def qf:Bool:=leN (List.length y3 + List.length (cU y0 y2)) (9223372036854775807:Nat)
def qg:Bool:=leN ((List.length y3 + List.length (cU y0 y2)) * (16:Nat)) (140737488355328:Nat)
def vi:Int:=IntKind.wrap .i64 (y0 + (1:Int))
def qh:List ByteArray:=y3++cU y0 y2
end
def NB:cz→List (Nat×SV)
 |(y0,y1,_,_)=> [(27,(.one ⟨false,[.val (.int .i64 y0)]⟩)),(26,(.one ⟨false,[.val (.int .i64 y1)]⟩)),(25,(.one ⟨false,[.ref 0]⟩)),(6,(.one ⟨false,[.ref 1]⟩))]
def Nz:cz→List (Nat×Entry)
 |(_,_,y2,y3)=> [(0,(.row false 60 (CTy.sl (9:Nat) CTy.str) y2)),(1,(.row true 9 ahF y3))]
def NF:Nat→cz→List (Nat×SV)
 |_,(_,_,_,_)=> [(6,(.one ⟨false,[.ref 1]⟩))]
def ND:Nat→cz→List (Nat×Entry)
 |_,(_,_,y2,y3)=> [(0,(.row false 60 (CTy.sl (9:Nat) CTy.str) y2)),(1,(.row true 9 ahF y3))]
def lG:cz→LT cz
 |(y0,y1,y2,y3)=> .ite (mh y0 y1) (.need [qc y0,qd y0 y2,qe y0 y2] (.need [qf y0 y2 y3,qg y0 y2 y3] (.nrm ((vi y0),y1,y2,(qh y0 y2 y3)) [(0,0),(1,448)]))) (.ext 0 [(0,0),(1,1)])
def uy(s:St):Option cz:=
 (match s.look 27 with
 |some ⟨none,.one ⟨false,[.val (.int .i64 y0)]⟩⟩=>
 (match s.look 26 with
 |some ⟨none,.one ⟨false,[.val (.int .i64 y1)]⟩⟩=>
 (match s.look 25 with
 |some ⟨none,.one ⟨false,[.ref 0]⟩⟩=>
 (match s.look 6 with
 |some ⟨none,.one ⟨false,[.ref 576]⟩⟩=>
 (match s.ent 0 with
 |some (.row false 60 (.sl (9:Nat) .str) y2)=>
 (match s.ent 576 with
 |some (.row true 9 (.str) y3)=>
 some (y0,y1,y2,y3)
 |_=>none)
 |_=>none)
 |_=>none)
 |_=>none)
 |_=>none)
 |_=>none)
def bh:Lp cz where
 h:=⟨[28,29,30,8,31,32,33,6,34,27],[0],[1],[]⟩
 JL:=NB
 JE:=Nz
 XL:=NF
 XE:=ND
 q:=fun j=>match j with | _=> .exit 2
 tags:= [0]
 lt:=lG
 fuel:=fun(y0,y1,y2,y3)=>y0.natAbs + y1.natAbs + y2.length + y3.length
 fix:=fun(_,y1,y2,_) (y0,_,_,y3)=>(y0,y1,y2,y3)
 σ:= [(0,0),(1,576)]
 rd:=uy
theorem Ly:LoopOk prog (fun k=>Nat.blt k Tryz.f227.ntmps) bh.F (aL f227 1):=by
 refine Lp.ok (tbl:= [yg]) (lf:= []) aP bh (by kernel_rfl) (LOk.nil _) (fun _=>rfl) (fun _ _=>rfl) ?_ ?_ ?_ ?_ (fun _=>rfl) ?_
 ·rintro⟨y0,y1,y2,y3⟩;kernel_rfl
 ·rintro⟨y0,y1,y2,y3⟩;kernel_rfl
 ·intro s x h
  have h:uy s=some x:=h
  unfold uy at h
  repeat' split at h
  all_goals cases h
  exact⟨aa (by assumption) rfl (aa (by assumption) rfl (aa (by assumption) rfl (aa (by assumption) rfl (rfl)))),ab rfl (by assumption) rfl (ab rfl (by assumption) rfl (rfl))⟩
 ·rintro⟨y0,y1,y2,y3⟩;kernel_rfl
 ·rintro⟨y0,y1,y2,y3⟩ z;exact(And.intro rfl trivial)
section
variable (x0:List (List ByteArray))
def rC:Int×Int×Int×List (List ByteArray):=((0:Int),(↑x0.length:Int),(0:Int),x0)
def rD:Int:=((Lp.res bg (rC x0)).2.2.2).1
def rE:Int×Int×List (List ByteArray)×List ByteArray:=((0:Int),(↑x0.length:Int),x0,sB (rD x0))
def yj:List ByteArray:=(Lp.res bh (rE x0)).2.2.2.2
def yk:Bool:=allT [Lp.fin bg (rC x0),sC (rD x0),Lp.fin bh (rE x0)]
end
def Gp:List SV→List Entry→Option Out
 | [.one ⟨false,[.ref 0]⟩],[.row false 60 (.sl 9 (.str)) x0]=>some ⟨.one ⟨false,[.ref 1]⟩,[.row false 60 (CTy.sl (9:TypeId) CTy.str) x0],[.row true 9 ahF (yj x0)],[yk x0]⟩
 |_,_=>none
def Qo:PF prog:=PF.ofG prog [yg] [bg.F,bh.F] aP 227 f227 func227 (LOk.fnT (l:= [aL f227 0,aL f227 1]) (by kernel_rfl) (.cons Lx (.cons Ly (.nil _)))) Gp (by
 intro vs es r h;unfold Gp at h;split at h
 ·cases h;kernel_rfl
 ·cases h)
def atZ(l:List Int)(k:Int):Int:=Option.getD l[Int.toNat k]? (0:Int)
def an3(a b:Int):Int:=bif a==1 then b else 0
def orI(a b:Int):Int:=bif a==1 then 1 else b
theorem Rs{l:List Int}(h: ∀ z∈l,z=0∨z=1)(k:Int):atZ l k=0∨atZ l k=1:=by
 unfold atZ
 cases hk:l[k.toNat]? with
 |none=>exact .inl rfl
 |some z=>exact h z (List.mem_of_getElem? hk)
theorem akz{n:Int}{l:List Int}(h:bitsB n l=true)(k:Nat){z:Int}(hz:z=0∨z=1):bitsB n (l.set k z)=true:=by
 obtain⟨h1,h2⟩:=fa.1 h
 refine fa.2 ⟨fun y hy=> ?_,by rw [List.length_set];exact h2⟩
 rcases List.mem_or_eq_of_mem_set hy with hy | rfl
 ·exact h1 y hy
 ·exact hz
theorem apu{k n a b c:Int}{s:ByteArray}{l:List Int}(hB:TH k s n=true)(hP:possB k n a b c=true)(hA:bitsB (takesK k) l=true):gy k n a b c l=0∨gy k n a b c l=1:=by
 obtain⟨hk,hn,_⟩:=VO hB
 have hb:=(aaa hP hn).2.1
 have hc:=(aaa hP hn).2.2
 have hp:=hP
 rcases kinds hk with rfl | rfl | rfl | rfl | rfl | rfl
 ·obtain⟨x,rfl,hx⟩:=UR hA
  rcases hx with rfl | rfl <;> simp only [ci,iE,kO,ft,kP,kQ,kR,kT,jK,gy,ij,ik,il,jT,gX,iD,jJ,kM,kN,mn,mo,mp,mq,iH] <;> simp [Bool.cond_eq_ite] <;> (repeat' split) <;> omega
 ·obtain⟨x,rfl,hx⟩:=UR hA
  rcases hx with rfl | rfl <;> simp only [ci,iE,kO,ft,kP,kQ,kR,kT,jK,gy,ij,ik,il,jT,gX,iD,jJ,kM,kN,mn,mo,mp,mq,iH] <;> simp [Bool.cond_eq_ite] <;> (repeat' split) <;> omega
 ·obtain⟨x,rfl,hx⟩:=UR hA
  simp [possB,dv,bt]at hp
  rcases hx with rfl | rfl <;> simp only [ci,iE,kO,ft,kP,kQ,kR,kT,jK,gy,ij,ik,il,jT,gX,iD,jJ,kM,kN,mn,mo,mp,mq,iH] <;> simp [Bool.cond_eq_ite] <;> (repeat' split) <;> omega
 ·obtain⟨x,y,rfl,hx,hy⟩:=US hA
  simp [possB,dv,bt]at hp
  rcases hx with rfl | rfl <;> rcases hy with rfl | rfl <;> simp only [ci,iE,kO,ft,kP,kQ,kR,kT,jK,gy,ij,ik,il,jT,gX,iD,jJ,kM,kN,mn,mo,mp,mq,iH] <;> simp [Bool.cond_eq_ite] <;> (repeat' split) <;> omega
 ·obtain⟨x,y,rfl,hx,hy⟩:=US hA
  rcases hb with rfl | rfl <;> rcases hc with rfl | rfl <;> rcases hx with rfl | rfl <;> rcases hy with rfl | rfl <;> simp only [ci,iE,kO,ft,kP,kQ,kR,kT,jK,gy,ij,ik,il,jT,gX,iD,jJ,kM,kN,mn,mo,mp,mq,iH] <;> simp [Bool.cond_eq_ite] <;> (repeat' split) <;> omega
 ·obtain⟨x,y,rfl,hx,hy⟩:=US hA
  rcases hb with rfl | rfl <;> rcases hc with rfl | rfl <;> rcases hx with rfl | rfl <;> rcases hy with rfl | rfl <;> simp only [ci,iE,kO,ft,kP,kQ,kR,kT,jK,gy,ij,ik,il,jT,gX,iD,jJ,kM,kN,mn,mo,mp,mq,iH] <;> simp [Bool.cond_eq_ite] <;> (repeat' split) <;> omega
abbrev LN:=ByteArray×List TM
def ma(l:List ByteArray)(s:ByteArray):Bool:=l.any fun k=>k.toList==s.toList
def QQ(l:List ByteArray)(s:ByteArray):Nat:=(l.takeWhile fun k=> !(k.toList==s.toList)).length
def iF(l:List ByteArray)(s:ByteArray):Int:=bif ma l s then(QQ l s:Int)else -1
theorem Wn{s:ByteArray}: ∀ {l:List ByteArray},ma l s=true→QQ l s < l.length
 | [],h=>by cases h
 |a::r,h=>by
  simp only [ma,List.any_cons]at h
  simp only [QQ,List.takeWhile_cons]
  cases ha:a.toList==s.toList with
  |true=>simp
  |false=>
   rw [ha,Bool.false_or]at h
   have:=Wn (l:=r) h
   simp only [QQ]at this
   simp only [Bool.not_false,if_true,List.length_cons]
   omega
theorem agc(a b:List ByteArray)(s:ByteArray):ma (a++b) s=(ma a s||ma b s):=List.any_append
theorem ZD{l:List ByteArray}{s:ByteArray}:ma l s=true↔s.toList∈l.map ByteArray.toList:=by
 simp only [ma,List.any_eq_true,beq_iff_eq,List.mem_map]
def htT:List TM→Int→Option Int
 | [],n=>some n
 |t::r,n=>bif termB t.1 t.2.1 t.2.2&&leI (takesK t.1) n then htT r (n - takesK t.1 + 1)else none
def aej(ts:List TM):Bool:=leN ts.length 40&&(match htT ts 0 with | some n=>n==1 | none=>false)
def lineB(x:LN):Bool:=mt x.1&&aej x.2
def afu(l:List ByteArray)(lo:Nat):Bool:=l.all mt&&inR (l.length:Int) lo 20
def agG(nm:ByteArray)(ins vs os:List ByteArray)(g:ByteArray)(ls:List LN):Bool:=mt nm&&(afu ins 1&&(afu vs 0&&(afu os 1&&((g.toList== []||mt g)&&(ls.all lineB&&inR (ls.length:Int) 1 40)))))
def rl(l:List ByteArray):Bool:=(List.range l.length).any fun i=>ma (l.take i) (Option.getD l[i]? ⟨#[]⟩)
def Vh(ins vs:List ByteArray)(s:ByteArray):Bool:=ma ins s||ma vs s
def usedB(ins vs:List ByteArray)(t:TM):Bool:= !(t.1==1)||Vh ins vs t.2.1
def anT(ins vs os:List ByteArray)(g:ByteArray)(ls:List LN):Bool:= !rl (ins++vs++os)&&((g.toList== []||Vh ins vs g)&&(ls.all (fun l=>ma vs l.1||ma os l.1)&&(!rl (ls.map Prod.fst)&&(leN (vs.length + os.length) ls.length&&ls.all fun l=>l.2.all (usedB ins vs)))))
theorem ajA{l:List ByteArray}:rl l=false↔(l.map ByteArray.toList).Nodup:=by
 rw [List.nodup_iff_pairwise_ne,List.pairwise_iff_getElem]
 simp only [rl,List.any_eq_false,List.mem_range,Bool.not_eq_true,List.length_map,List.getElem_map]
 constructor
 ·intro h i j hi hj Vs he
  have h1:=h j hj
  rw [← Bool.not_eq_true,ZD]at h1
  apply h1
  rw [List.getElem?_eq_getElem hj,Option.getD_some,← he]
  refine List.mem_map.2 ⟨l[i],?_,rfl⟩
  rw [List.mem_take_iff_getElem]
  exact⟨i,by omega,rfl⟩
 ·intro h j hj
  rw [← Bool.not_eq_true,ZD,List.mem_map]
  rintro⟨x,hx,he⟩
  rw [List.mem_take_iff_getElem]at hx
  obtain⟨i,hi,rfl⟩:=hx
  rw [List.getElem?_eq_getElem hj,Option.getD_some]at he
  exact h i j (by omega) hj (by omega) he
theorem amp{α:Type}[DecidableEq α]: ∀ (a b:List α),a.Nodup→(∀ x∈a,x∈b)→a.length≤b.length
 | [],b,_,_=>Nat.zero_le _
 |x::r,b,hn,hs=>by
  obtain⟨h1,h2⟩:=List.nodup_cons.1 hn
  have hx:=hs x (by simp)
  have:=amp r (b.erase x) h2 (fun y hy=>(List.mem_erase_of_ne (fun h:y=x=>h1 (by rw [← h];exact hy))).2 (hs y (by simp [hy])))
  rw [List.length_erase_of_mem hx]at this
  have h0:=List.length_pos_of_mem hx
  simp only [List.length_cons]
  omega
theorem apR{α:Type}[DecidableEq α]{a b:List α}(ha:a.Nodup)(hb:b.Nodup)(hs: ∀ x∈a,x∈b):(∀ y∈b,y∈a)↔b.length≤a.length:=by
 constructor
 ·intro h;exact amp b a hb h
 ·intro h y hy
  refine Decidable.byContradiction fun hn=> ?_
  have:=amp (y::a) b (List.nodup_cons.2 ⟨hn,ha⟩) (fun z hz=>(List.mem_cons.1 hz).elim (fun h=>h ▸ hy) (fun h=>hs z h))
  rw [List.length_cons]at this
  omega
theorem aov{ins vs os:List ByteArray}{ls:List LN}(h1:rl (ins++vs++os)=false)(h3:ls.all (fun l=>ma vs l.1||ma os l.1)=true)(h4:rl (ls.map Prod.fst)=false):
  ((vs++os).any fun s=> !ma (ls.map Prod.fst) s)= !leN (vs.length + os.length) ls.length:=by
 have n1:((vs++os).map ByteArray.toList).Nodup:=by
  have:=ajA.1 h1
  rw [List.append_assoc,List.map_append]at this
  exact(List.nodup_append.1 this).2.1
 have n4:=ajA.1 h4
 have hs: ∀ x∈(ls.map Prod.fst).map ByteArray.toList,x∈(vs++os).map ByteArray.toList:=by
  intro x hx
  simp only [List.mem_map]at hx
  obtain⟨y,⟨l,hl,rfl⟩,rfl⟩:=hx
  have:=List.all_eq_true.1 h3 l hl
  rw [← agc]at this
  exact ZD.1 this
 have iY:=apR n4 n1 hs
 rw [Bool.eq_iff_iff,Bool.not_eq_true',← Bool.not_eq_true,io]
 simp only [List.length_map,List.length_append]at iY
 rw [← iY]
 simp only [List.any_eq_true,Bool.not_eq_true']
 constructor
 ·rintro⟨s,hs1,hs2⟩ h
  have:=h _ (List.mem_map.2 ⟨s,hs1,rfl⟩)
  have h2:ma (ls.map Prod.fst) s=true:=ZD.2 this
  rw [h2]at hs2;cases hs2
 ·intro h
  refine Classical.byContradiction fun hn=>h fun y hy=> ?_
  obtain⟨s,hs1,rfl⟩:=List.mem_map.1 hy
  refine Classical.byContradiction fun hn2=>hn ⟨s,hs1,?_⟩
  cases hh:ma (ls.map Prod.fst) s with
  |false=>rfl
  |true=>exact absurd (ZD.1 hh) hn2
end Go.SX
