/- What functions of the program come to, and what that says in plain words: part 2. -/
import Derived.Test.YtbajbgcdcaknpaaGreatDoorMa
import Derived.Test.YtbajbgcdcaknpaaGreatDoorTXh
import Derived.Test.YtbajbgcdcaknpaaGreatDoorProg
import Derived.Test.YtbajbgcdcaknpaaGreatDoorTXk
set_option linter.unusedSimpArgs false
set_option linter.unusedVariables false
namespace Go.SX
open Go.Proofs Go.Proofs.Tryz
set_option maxRecDepth 100000
def ag(x0 x3:Int)(x4:List Int):Bool:=Option.getD x4[Int.toNat x3]? 0==IntKind.wrap .i64 (IntKind.wrap .i64 ((3:Int) * IntKind.wrap .i64 (x0 - (1:Int))) + (1:Int))
def bm(x3:Int)(x4:List Int):Bool:=allT [leI 0 x3,ltI x3 (↑x4.length:Int),ltN x3.toNat x4.length]
def wD:List SV→List Entry→Option Out
 | [.one ⟨true,[.val (.int .i64 x0),.ref 0,.ref 1,.ref 2,.ref 3,.val (.int .i64 _x1),.ref 4,.ref 5,.val (.int .i64 _x2)]⟩,.one ⟨false,[.val (.int .i64 x3)]⟩],[.row false 2 (.int .i64) x4,.row false 169 (.pair (.int .i64) (.pair (.int .i64) (.int .i64))) x5,.row false 24 (.sl 2 (.int .i64)) x6,.row false 100 (.pair (.int .i64) (.pair (.int .i64) (.int .i64))) x7,.row false 173 (.pair (.int .i64) (.int .i64)) x8,.row false 176 (.pair (.int .i64) (.int .i64)) x9]=>some ⟨.one ⟨false,[.val (.bool (ag x0 x3 x4))]⟩,[.row false 2 aj1 x4,.row false 169 adH x5,.row false 24 (CTy.sl (2:TypeId) aj1) x6,.row false 100 adH x7,.row false 173 aej x8,.row false 176 aej x9],[],[bm x3 x4]⟩
 |_,_=>none
def aI:PF prog:=PF.ofG prog [] [] aO 63 f63 func63 (fun c _=>LOk.nil c) wD (by
 intro vs es r h;unfold wD at h;split at h
 ·cases h;kernel_rfl
 ·cases h)
abbrev rh:=Int×Int×List (List Int)×Int×Int×Int×List Int×List (Int×(Int×Int))×List (Int×(Int×Int))×List (Int×Int)×List (Int×Int)
section
variable (y0 y1:Int)(y2:List (List Int))(y3:Int)(y6:List Int)
def CF:List Int:=Option.getD y2[Int.toNat y0]? (vf (CTy.sl (2:TypeId) aj1))
def Kl:Bool:=ltI y0 y1
def XM:Bool:=leI 0 y0
def XN:Bool:=ltI y0 (↑y2.length:Int)
def XO:Bool:=ltN y0.toNat y2.length
def XP:Bool:=bm y0 y6
def XQ:Bool:= !(!ag y3 y0 y6&&true)||leN (List.length (CF y0 y2)) 9223372036854775807
def QD:Bool:=bif !ag y3 y0 y6 then !FU (CF y0 y2)else false
def XR:Int:=IntKind.wrap .i64 (y0 + (1:Int))
end
def agt:rh→List (Nat×SV)
 |(y0,y1,_,_,_,_,_,_,_,_,_)=> [(17,(.one ⟨false,[.val (.int .i64 y0)]⟩)),(16,(.one ⟨false,[.val (.int .i64 y1)]⟩)),(15,(.one ⟨false,[.ref 0]⟩)),(1,(.one ⟨false,[.ptr 1 0]⟩))]
def agj:rh→List (Nat×Entry)
 |(_,_,y2,y3,y4,y5,y6,y7,y8,y9,y10)=> [(0,(.row false 24 (CTy.sl (2:TypeId) aj1) y2)),(1,(.box 33 [.val (.int .i64 y3),.ref 2,.ref 3,.ref 0,.ref 4,.val (.int .i64 y4),.ref 5,.ref 6,.val (.int .i64 y5)])),(2,(.row false 2 aj1 y6)),(3,(.row false 169 adH y7)),(4,(.row false 100 adH y8)),(5,(.row false 173 aej y9)),(6,(.row false 176 aej y10))]
def agN:Nat→rh→List (Nat×SV)
 |0,(_,_,_,_,_,_,_,_,_,_,_)=> [(2,(.one ⟨false,[.val (.bool false)]⟩))]
 |_,(_,_,_,_,_,_,_,_,_,_,_)=> []
def agD:Nat→rh→List (Nat×Entry)
 |0,(_,_,y2,y3,y4,y5,y6,y7,y8,y9,y10)=> [(0,(.row false 24 (CTy.sl (2:TypeId) aj1) y2)),(1,(.box 33 [.val (.int .i64 y3),.ref 2,.ref 3,.ref 0,.ref 4,.val (.int .i64 y4),.ref 5,.ref 6,.val (.int .i64 y5)])),(2,(.row false 2 aj1 y6)),(3,(.row false 169 adH y7)),(4,(.row false 100 adH y8)),(5,(.row false 173 aej y9)),(6,(.row false 176 aej y10))]
 |_,(_,_,y2,y3,y4,y5,y6,y7,y8,y9,y10)=> [(0,(.row false 24 (CTy.sl (2:TypeId) aj1) y2)),(1,(.box 33 [.val (.int .i64 y3),.ref 2,.ref 3,.ref 0,.ref 4,.val (.int .i64 y4),.ref 5,.ref 6,.val (.int .i64 y5)])),(2,(.row false 2 aj1 y6)),(3,(.row false 169 adH y7)),(4,(.row false 100 adH y8)),(5,(.row false 173 aej y9)),(6,(.row false 176 aej y10))]
def CN:rh→LT rh
 |(y0,y1,y2,y3,y4,y5,y6,y7,y8,y9,y10)=> .ite (Kl y0 y1) (.need [XM y0,XN y0 y2,XO y0 y2] (.need [XP y0 y6,XQ y0 y2 y3 y6] (.ite (QD y0 y2 y3 y6) (.ext 0 [(0,0),(1,1),(2,2),(3,3),(4,4),(5,5),(6,6)]) (.nrm ((XR y0),y1,y2,y3,y4,y5,y6,y7,y8,y9,y10) [(0,0),(1,1),(2,2),(3,3),(4,4),(5,5),(6,6)])))) (.ext 1 [(0,0),(1,1),(2,2),(3,3),(4,4),(5,5),(6,6)])
def Pc(s:St):Option rh:=
 (match s.look 17 with
 |some ⟨none,.one ⟨false,[.val (.int .i64 y0)]⟩⟩=>
 (match s.look 16 with
 |some ⟨none,.one ⟨false,[.val (.int .i64 y1)]⟩⟩=>
 (match s.look 15 with
 |some ⟨none,.one ⟨false,[.ref 2]⟩⟩=>
 (match s.look 1 with
 |some ⟨none,.one ⟨false,[.ptr 448 0]⟩⟩=>
 (match s.ent 2 with
 |some (.row false 24 (.sl 2 (.int .i64)) y2)=>
 (match s.ent 448 with
 |some (.box 33 [.val (.int .i64 y3),.ref 0,.ref 1,.ref 2,.ref 3,.val (.int .i64 y4),.ref 4,.ref 5,.val (.int .i64 y5)])=>
 (match s.ent 0 with
 |some (.row false 2 (.int .i64) y6)=>
 (match s.ent 1 with
 |some (.row false 169 (.pair (.int .i64) (.pair (.int .i64) (.int .i64))) y7)=>
 (match s.ent 3 with
 |some (.row false 100 (.pair (.int .i64) (.pair (.int .i64) (.int .i64))) y8)=>
 (match s.ent 4 with
 |some (.row false 173 (.pair (.int .i64) (.int .i64)) y9)=>
 (match s.ent 5 with
 |some (.row false 176 (.pair (.int .i64) (.int .i64)) y10)=>
 some (y0,y1,y2,y3,y4,y5,y6,y7,y8,y9,y10)
 |_=>none)
 |_=>none)
 |_=>none)
 |_=>none)
 |_=>none)
 |_=>none)
 |_=>none)
 |_=>none)
 |_=>none)
 |_=>none)
 |_=>none)
def eG:Lp rh where
 h:=⟨[18,19,20,21,3,4,22,23,24,25,26,27,28,29,30,2,31,17],[0,1,2,3,4,5,6],[],[]⟩
 JL:=agt
 JE:=agj
 XL:=agN
 XE:=agD
 q:=fun j=>match j with | 0=> .ret | _=> .exit 0
 tags:= [0,1]
 lt:=CN
 fuel:=fun(y0,y1,y2,y3,y4,y5,y6,y7,y8,y9,y10)=>y0.natAbs + y1.natAbs + y2.length + y3.natAbs + y4.natAbs + y5.natAbs + y6.length + y7.length + y8.length + y9.length + y10.length
 fix:=fun(_,y1,y2,y3,y4,y5,y6,y7,y8,y9,y10) (y0,_,_,_,_,_,_,_,_,_,_)=>(y0,y1,y2,y3,y4,y5,y6,y7,y8,y9,y10)
 σ:= [(0,2),(1,448),(2,0),(3,1),(4,3),(5,4),(6,5)]
 rd:=Pc
theorem aem:LoopOk prog (fun k=>Nat.blt k Tryz.f16.ntmps) eG.F (aH f16 0):=by
 refine Lp.ok (tbl:= (T3z [lO,dI,aI,kU])) (lf:= []) aO eG (by kernel_rfl) (LOk.nil _) (fun _=>rfl) (fun j _=>by unfold eG;match j with | 0=>rfl | _ + 1=>rfl) ?_ ?_ ?_ ?_ (fun _=>rfl) ?_
 ·rintro⟨y0,y1,y2,y3,y4,y5,y6,y7,y8,y9,y10⟩;kernel_rfl
 ·rintro⟨y0,y1,y2,y3,y4,y5,y6,y7,y8,y9,y10⟩;kernel_rfl
 ·intro s x h
  have h:Pc s=some x:=h
  unfold Pc at h
  repeat' split at h
  all_goals cases h
  constructor<;>repeat(first|refine ae (by assumption) rfl ?_|refine af rfl (by assumption) rfl ?_|exact rfl)
 ·rintro⟨y0,y1,y2,y3,y4,y5,y6,y7,y8,y9,y10⟩;kernel_rfl
 ·rintro⟨y0,y1,y2,y3,y4,y5,y6,y7,y8,y9,y10⟩ z;exact(And.intro (And.intro trivial rfl) trivial)
section
variable (x0 x1 x2:Int)(x3:List Int)(x4:List (Int×Int×Int))(x5:List (List Int))(x6:List (Int×Int×Int))(x7 x8:List (Int×Int))
def Ul:Bool:=bif !uL x0 x3 x4 x5 x6 x1 x7 x8 x2 then true else !aci x0 x3
def Um:Int×Int×List (List Int)×Int×Int×Int×List Int×List (Int×Int×Int)×List (Int×Int×Int)×List (Int×Int)×List (Int×Int):=((0:Int),(↑x5.length:Int),x5,x0,x1,x2,x3,x4,x6,x7,x8)
def VN:Bool:=bif Ul x0 x1 x2 x3 x4 x5 x6 x7 x8 then false else bif Nat.beq ((Lp.res eG (Um x0 x1 x2 x3 x4 x5 x6 x7 x8)).1) 0 then false else true
def VO:Bool:=allT [uD 9223372036854775807 x3 x4 x5 x6 x7 x8,!(!!uL x0 x3 x4 x5 x6 x1 x7 x8 x2&&true)||isT x0 x3,Ul x0 x1 x2 x3 x4 x5 x6 x7 x8||Lp.fin eG (Um x0 x1 x2 x3 x4 x5 x6 x7 x8)]
end
def adp:List SV→List Entry→Option Out
 | [.one ⟨true,[.val (.int .i64 x0),.ref 0,.ref 1,.ref 2,.ref 3,.val (.int .i64 x1),.ref 4,.ref 5,.val (.int .i64 x2)]⟩],[.row false 2 (.int .i64) x3,.row false 169 (.pair (.int .i64) (.pair (.int .i64) (.int .i64))) x4,.row false 24 (.sl 2 (.int .i64)) x5,.row false 100 (.pair (.int .i64) (.pair (.int .i64) (.int .i64))) x6,.row false 173 (.pair (.int .i64) (.int .i64)) x7,.row false 176 (.pair (.int .i64) (.int .i64)) x8]=>some ⟨.one ⟨false,[.val (.bool (VN x0 x1 x2 x3 x4 x5 x6 x7 x8))]⟩,[.row false 2 aj1 x3,.row false 169 adH x4,.row false 24 (CTy.sl (2:TypeId) aj1) x5,.row false 100 adH x6,.row false 173 aej x7,.row false 176 aej x8],[],[VO x0 x1 x2 x3 x4 x5 x6 x7 x8]⟩
 |_,_=>none
def alm:PF prog:=PF.ofG prog (T3z [lO,dI,aI,kU]) [eG.F] aO 16 f16 func16 (LOk.fnT (l:= [aH f16 0]) (by kernel_rfl) (.cons aem (.nil _))) adp (by
 intro vs es r h;unfold adp at h;split at h
 ·cases h;kernel_rfl
 ·cases h)
abbrev rj:=Int×Int×Int×Int×List Int×List (Int×(Int×Int))×List (List Int)×List (Int×(Int×Int))×List (Int×Int)×List (Int×Int)
section
variable (y0 y1:Int)(y4:List Int)(y6:List (List Int))
def yt:List Int:=bif !nv y1 y0 y4&&true then Option.getD y6[Int.toNat y0]? (vf (CTy.sl (2:TypeId) aj1))else []
def KG:Bool:=ltI y0 (↑y6.length:Int)
def YF:Bool:=UK y0 y4
def YG:Bool:= !(!nv y1 y0 y4&&true)||leI 0 y0
def YH:Bool:= !(!nv y1 y0 y4&&true)||ltI y0 (↑y6.length:Int)
def YI:Bool:= !(!nv y1 y0 y4&&true)||ltN y0.toNat y6.length
def YJ:Bool:= !(!nv y1 y0 y4&&true)||leN (List.length (yt y0 y1 y4 y6)) 9223372036854775807
def Rg:Bool:=bif !nv y1 y0 y4 then !(areR (yt y0 y1 y4 y6)&&FU (yt y0 y1 y4 y6))else false
def YK:Int:=IntKind.wrap .i64 (y0 + (1:Int))
end
def agz:rj→List (Nat×SV)
 |(y0,_,_,_,_,_,_,_,_,_)=> [(3,(.one ⟨false,[.val (.int .i64 y0)]⟩)),(1,(.one ⟨false,[.ptr 0 0]⟩))]
def agp:rj→List (Nat×Entry)
 |(_,y1,y2,y3,y4,y5,y6,y7,y8,y9)=> [(0,(.box 33 [.val (.int .i64 y1),.ref 1,.ref 2,.ref 3,.ref 4,.val (.int .i64 y2),.ref 5,.ref 6,.val (.int .i64 y3)])),(1,(.row false 2 aj1 y4)),(2,(.row false 169 adH y5)),(3,(.row false 24 (CTy.sl (2:TypeId) aj1) y6)),(4,(.row false 100 adH y7)),(5,(.row false 173 aej y8)),(6,(.row false 176 aej y9))]
def agT:Nat→rj→List (Nat×SV)
 |0,(_,_,_,_,_,_,_,_,_,_)=> [(2,(.one ⟨false,[.val (.bool false)]⟩))]
 |_,(_,_,_,_,_,_,_,_,_,_)=> []
def agJ:Nat→rj→List (Nat×Entry)
 |0,(_,y1,y2,y3,y4,y5,y6,y7,y8,y9)=> [(0,(.box 33 [.val (.int .i64 y1),.ref 1,.ref 2,.ref 3,.ref 4,.val (.int .i64 y2),.ref 5,.ref 6,.val (.int .i64 y3)])),(1,(.row false 2 aj1 y4)),(2,(.row false 169 adH y5)),(3,(.row false 24 (CTy.sl (2:TypeId) aj1) y6)),(4,(.row false 100 adH y7)),(5,(.row false 173 aej y8)),(6,(.row false 176 aej y9))]
 |_,(_,y1,y2,y3,y4,y5,y6,y7,y8,y9)=> [(0,(.box 33 [.val (.int .i64 y1),.ref 1,.ref 2,.ref 3,.ref 4,.val (.int .i64 y2),.ref 5,.ref 6,.val (.int .i64 y3)])),(1,(.row false 2 aj1 y4)),(2,(.row false 169 adH y5)),(3,(.row false 24 (CTy.sl (2:TypeId) aj1) y6)),(4,(.row false 100 adH y7)),(5,(.row false 173 aej y8)),(6,(.row false 176 aej y9))]
def CT:rj→LT rj
 |(y0,y1,y2,y3,y4,y5,y6,y7,y8,y9)=> .ite (KG y0 y6) (.need [YF y0 y4,YG y0 y1 y4,YH y0 y1 y4 y6,YI y0 y1 y4 y6,YJ y0 y1 y4 y6] (.ite (Rg y0 y1 y4 y6) (.ext 0 [(0,0),(1,1),(2,2),(3,3),(4,4),(5,5),(6,6)]) (.nrm ((YK y0),y1,y2,y3,y4,y5,y6,y7,y8,y9) [(0,0),(1,1),(2,2),(3,3),(4,4),(5,5),(6,6)]))) (.ext 1 [(0,0),(1,1),(2,2),(3,3),(4,4),(5,5),(6,6)])
def Pl(s:St):Option rj:=
 (match s.look 3 with
 |some ⟨none,.one ⟨false,[.val (.int .i64 y0)]⟩⟩=>
 (match s.look 1 with
 |some ⟨none,.one ⟨false,[.ptr 448 0]⟩⟩=>
 (match s.ent 448 with
 |some (.box 33 [.val (.int .i64 y1),.ref 0,.ref 1,.ref 2,.ref 3,.val (.int .i64 y2),.ref 4,.ref 5,.val (.int .i64 y3)])=>
 (match s.ent 0 with
 |some (.row false 2 (.int .i64) y4)=>
 (match s.ent 1 with
 |some (.row false 169 (.pair (.int .i64) (.pair (.int .i64) (.int .i64))) y5)=>
 (match s.ent 2 with
 |some (.row false 24 (.sl 2 (.int .i64)) y6)=>
 (match s.ent 3 with
 |some (.row false 100 (.pair (.int .i64) (.pair (.int .i64) (.int .i64))) y7)=>
 (match s.ent 4 with
 |some (.row false 173 (.pair (.int .i64) (.int .i64)) y8)=>
 (match s.ent 5 with
 |some (.row false 176 (.pair (.int .i64) (.int .i64)) y9)=>
 some (y0,y1,y2,y3,y4,y5,y6,y7,y8,y9)
 |_=>none)
 |_=>none)
 |_=>none)
 |_=>none)
 |_=>none)
 |_=>none)
 |_=>none)
 |_=>none)
 |_=>none)
def eL:Lp rj where
 h:=⟨[13,14,15,16,17,20,21,22,23,24,25,26,27,28,29,30,31,32,2,18,19,3],[0,1,2,3,4,5,6],[],[]⟩
 JL:=agz
 JE:=agp
 XL:=agT
 XE:=agJ
 q:=fun j=>match j with | 0=> .ret | _=> .exit 0
 tags:= [0,1]
 lt:=CT
 fuel:=fun(y0,y1,y2,y3,y4,y5,y6,y7,y8,y9)=>y0.natAbs + y1.natAbs + y2.natAbs + y3.natAbs + y4.length + y5.length + y6.length + y7.length + y8.length + y9.length
 fix:=fun(_,y1,y2,y3,y4,y5,y6,y7,y8,y9) (y0,_,_,_,_,_,_,_,_,_)=>(y0,y1,y2,y3,y4,y5,y6,y7,y8,y9)
 σ:= [(0,448),(1,0),(2,1),(3,2),(4,3),(5,4),(6,5)]
 rd:=Pl
theorem aes:LoopOk prog (fun k=>Nat.blt k Tryz.f25.ntmps) eL.F (aH f25 0):=by
 refine Lp.ok (tbl:= (T3z [se,vN,Em,Ek])) (lf:= []) aO eL (by kernel_rfl) (LOk.nil _) (fun _=>rfl) (fun j _=>by unfold eL;match j with | 0=>rfl | _ + 1=>rfl) ?_ ?_ ?_ ?_ (fun _=>rfl) ?_
 ·rintro⟨y0,y1,y2,y3,y4,y5,y6,y7,y8,y9⟩;kernel_rfl
 ·rintro⟨y0,y1,y2,y3,y4,y5,y6,y7,y8,y9⟩;kernel_rfl
 ·intro s x h
  have h:Pl s=some x:=h
  unfold Pl at h
  repeat' split at h
  all_goals cases h
  constructor<;>repeat(first|refine ae (by assumption) rfl ?_|refine af rfl (by assumption) rfl ?_|exact rfl)
 ·rintro⟨y0,y1,y2,y3,y4,y5,y6,y7,y8,y9⟩;kernel_rfl
 ·rintro⟨y0,y1,y2,y3,y4,y5,y6,y7,y8,y9⟩ z;exact(And.intro (And.intro trivial rfl) trivial)
section
variable (x0 x1 x2:Int)(x3:List Int)(x4:List (Int×Int×Int))(x5:List (List Int))(x6:List (Int×Int×Int))(x7 x8:List (Int×Int))
def UG:Bool:=bif !uL x0 x3 x4 x5 x6 x1 x7 x8 x2 then true else !arN x0 x3
def UH:Int×Int×Int×Int×List Int×List (Int×Int×Int)×List (List Int)×List (Int×Int×Int)×List (Int×Int)×List (Int×Int):=((0:Int),x0,x1,x2,x3,x4,x5,x6,x7,x8)
def Wo:Bool:=bif UG x0 x1 x2 x3 x4 x5 x6 x7 x8 then false else bif Nat.beq ((Lp.res eL (UH x0 x1 x2 x3 x4 x5 x6 x7 x8)).1) 0 then false else true
def Wp:Bool:=allT [uD 9223372036854775807 x3 x4 x5 x6 x7 x8,UG x0 x1 x2 x3 x4 x5 x6 x7 x8||Lp.fin eL (UH x0 x1 x2 x3 x4 x5 x6 x7 x8)]
end
def adw:List SV→List Entry→Option Out
 | [.one ⟨true,[.val (.int .i64 x0),.ref 0,.ref 1,.ref 2,.ref 3,.val (.int .i64 x1),.ref 4,.ref 5,.val (.int .i64 x2)]⟩],[.row false 2 (.int .i64) x3,.row false 169 (.pair (.int .i64) (.pair (.int .i64) (.int .i64))) x4,.row false 24 (.sl 2 (.int .i64)) x5,.row false 100 (.pair (.int .i64) (.pair (.int .i64) (.int .i64))) x6,.row false 173 (.pair (.int .i64) (.int .i64)) x7,.row false 176 (.pair (.int .i64) (.int .i64)) x8]=>some ⟨.one ⟨false,[.val (.bool (Wo x0 x1 x2 x3 x4 x5 x6 x7 x8))]⟩,[.row false 2 aj1 x3,.row false 169 adH x4,.row false 24 (CTy.sl (2:TypeId) aj1) x5,.row false 100 adH x6,.row false 173 aej x7,.row false 176 aej x8],[],[Wp x0 x1 x2 x3 x4 x5 x6 x7 x8]⟩
 |_,_=>none
def alr:PF prog:=PF.ofG prog (T3z [se,vN,Em,Ek]) [eL.F] aO 25 f25 func25 (LOk.fnT (l:= [aH f25 0]) (by kernel_rfl) (.cons aes (.nil _))) adw (by
 intro vs es r h;unfold adw at h;split at h
 ·cases h;kernel_rfl
 ·cases h)
def Yv(n:Int)(ps:List Int)(rs:List (List Int))(b:Nat):Bool:=bif !ag n (b:Int) ps then !FU (rs[b]?.getD [])else false
def SP(n:Int)(ps:List Int)(fs:List (Int×Int×Int))(rs:List (List Int))(lf:List (Int×Int×Int))(mode:Int)(pl ls:List (Int×Int))(day:Int):Bool:=uL n ps fs rs lf mode pl ls day&&(aci n ps&& !(List.range rs.length).any (Yv n ps rs))
theorem Qd(x:Option (List Int)):Option.getD x (vf (CTy.sl (2:TypeId) aj1))=x.getD []:=rfl
theorem ar3(n mode day:Int)(ps:List Int)(fs:List (Int×Int×Int))(rs:List (List Int))(lf:List (Int×Int×Int))(pl ls:List (Int×Int))(hl:rs.length=ps.length)(hn:rs.length≤9223372036854775807)(hA: ∀ x∈rs,x.length≤9223372036854775807)(hR: ∀ x∈rs,areR x=true):
  eL.fin ((0:Int),n,mode,day,ps,fs,rs,lf,pl,ls)=true∧(eL.res ((0:Int),n,mode,day,ps,fs,rs,lf,pl,ls)).1=bif(List.range rs.length).any (Yv n ps rs)then 0 else 1:=by
 refine Lp.scan eL (fun b=>((b:Int),n,mode,day,ps,fs,rs,lf,pl,ls)) rs.length (Yv n ps rs) 1 (by simp only [eL];omega) (fun b hb=> ?_) ?_
 ·have cm:ltI (b:Int) (rs.length:Int)=true:=eg (by omega)
  have hdec2:ltI (b:Int) (ps.length:Int)=true:=eg (by omega)
  have hw:IntKind.i64.wrap ((b:Int) + 1)=((b + 1:Nat):Int):=by rw [ar (by omega) (by omega)];omega
  have tS:leI (0:Int) (b:Int)=true:=cR (by omega)
  have io:ltN b rs.length=true:=gC (by omega)
  have hltd2:ltN b ps.length=true:=gC (by omega)
  have hx:rs[b]? =some rs[b]:=List.getElem?_eq_getElem hb
  have hm:rs[b]∈rs:=List.getElem_mem hb
  have h6:leN (yt (b:Int) n ps rs).length 9223372036854775807=true:=dj (by
   simp only [yt,Int.toNat_natCast,Qd,hx,Option.getD_some]
   cases nv n (b:Int) ps with
   |true=>exact Nat.zero_le _
   |false=>exact hA _ hm)
  have i2:Rg (b:Int) n ps rs=Yv n ps rs b:=by
   simp only [Rg,yt,Int.toNat_natCast,Qd,hx,Option.getD_some,Yv]
   have e:ag n (b:Int) ps=nv n (b:Int) ps:=rfl
   rw [e]
   cases nv n (b:Int) ps with
   |true=>rfl
   |false=>
    show (!(areR rs[b]&&FU rs[b]))= !FU rs[b]
    rw [hR _ hm,Bool.true_and]
  refine⟨?_,?_,?_⟩
  ·simp [eL,CT,LT.nds,allT,KG,YF,YG,YH,YI,YJ,UK,cm,hdec2,tS,io,hltd2,h6]
  ·simp [eL,CT,LT.each,YK,hw]
  ·simp only [eL,CT,LT.fn,KG,cm,i2,cond_true]
 ·simp [eL,CT,LT.out,KG]
theorem ar2(n mode day:Int)(ps:List Int)(fs:List (Int×Int×Int))(rs:List (List Int))(lf:List (Int×Int×Int))(pl ls:List (Int×Int))(hl:rs.length=ps.length)(hn:rs.length≤9223372036854775807)(hA: ∀ x∈rs,x.length≤9223372036854775807):
  eG.fin ((0:Int),(rs.length:Int),rs,n,mode,day,ps,fs,lf,pl,ls)=true∧(eG.res ((0:Int),(rs.length:Int),rs,n,mode,day,ps,fs,lf,pl,ls)).1=bif(List.range rs.length).any (Yv n ps rs)then 0 else 1:=by
 refine Lp.scan eG (fun b=>((b:Int),(rs.length:Int),rs,n,mode,day,ps,fs,lf,pl,ls)) rs.length (Yv n ps rs) 1 (by simp only [eG];omega) (fun b hb=> ?_) ?_
 ·have cm:ltI (b:Int) (rs.length:Int)=true:=eg (by omega)
  have hdec2:ltI (b:Int) (ps.length:Int)=true:=eg (by omega)
  have hw:IntKind.i64.wrap ((b:Int) + 1)=((b + 1:Nat):Int):=by rw [ar (by omega) (by omega)];omega
  have tS:leI (0:Int) (b:Int)=true:=cR (by omega)
  have io:ltN b rs.length=true:=gC (by omega)
  have hltd2:ltN b ps.length=true:=gC (by omega)
  have hx:rs[b]? =some rs[b]:=List.getElem?_eq_getElem hb
  have hm:rs[b]∈rs:=List.getElem_mem hb
  have h6:leN (CF (b:Int) rs).length 9223372036854775807=true:=dj (by
   simp only [CF,Int.toNat_natCast,Qd,hx,Option.getD_some]
   exact hA _ hm)
  have i2:QD (b:Int) rs n ps=Yv n ps rs b:=by
   simp only [QD,CF,Int.toNat_natCast,Qd,Yv]
  refine⟨?_,?_,?_⟩
  ·simp [eG,CN,LT.nds,allT,Kl,XM,XN,XO,XP,XQ,bm,cm,hdec2,tS,io,hltd2,h6]
  ·simp [eG,CN,LT.each,XR,hw]
  ·simp only [eG,CN,LT.fn,Kl,cm,i2,cond_true]
 ·simp [eG,CN,LT.out,Kl]
theorem arZ{rs:List (List Int)}(h:rsOk rs=true): ∀ x∈rs,areR x=true:=by
 intro x hx
 simp only [rsOk,List.all_eq_true,Bool.and_eq_true]at h
 exact(h x hx).1
theorem amO(n mode day:Int)(ps:List Int)(fs:List (Int×Int×Int))(rs:List (List Int))(lf:List (Int×Int×Int))(pl ls:List (Int×Int))(h:uD 9223372036854775807 ps fs rs lf pl ls=true):
  Wo n mode day ps fs rs lf pl ls=SP n ps fs rs lf mode pl ls day∧Wp n mode day ps fs rs lf pl ls=true:=by
 obtain⟨h1,h2,⟨h3,h4⟩,h5,h6,h7⟩:=OA.1 h
 simp only [Wo,Wp,UG,UH,SP,h,allT]
 cases ho:uL n ps fs rs lf mode pl ls day with
 |false=>simp
 |true=>
  obtain⟨o1,o2,o3,o4,o5,o6,o7,o8,o9⟩:=ac9.1 ho
  obtain⟨w1,w2⟩:=ar3 n mode day ps fs rs lf pl ls o3 h3 h4 (arZ o4)
  have e:arN n ps=aci n ps:=by simp [arN,o1]
  rw [w1,w2,e]
  cases aci n ps <;> cases (List.range rs.length).any (Yv n ps rs) <;> simp [Nat.beq]
theorem ama(n mode day:Int)(ps:List Int)(fs:List (Int×Int×Int))(rs:List (List Int))(lf:List (Int×Int×Int))(pl ls:List (Int×Int))(h:uD 9223372036854775807 ps fs rs lf pl ls=true):
  VN n mode day ps fs rs lf pl ls=SP n ps fs rs lf mode pl ls day∧VO n mode day ps fs rs lf pl ls=true:=by
 obtain⟨h1,h2,⟨h3,h4⟩,h5,h6,h7⟩:=OA.1 h
 simp only [VN,VO,Ul,Um,SP,h,allT]
 cases ho:uL n ps fs rs lf mode pl ls day with
 |false=>simp
 |true=>
  obtain⟨o1,o2,o3,o4,o5,o6,o7,o8,o9⟩:=ac9.1 ho
  obtain⟨w1,w2⟩:=ar2 n mode day ps fs rs lf pl ls o3 h3 h4
  rw [w1,w2,o1]
  cases aci n ps <;> cases (List.range rs.length).any (Yv n ps rs) <;> simp [Nat.beq]
def adF:List SV→List Entry→Option Out
 | [.one ⟨true,[.val (.int .i64 x0),.ref 0,.ref 1,.ref 2,.ref 3,.val (.int .i64 x1),.ref 4,.ref 5,.val (.int .i64 x2)]⟩],[.row false 2 (.int .i64) x3,.row false 169 (.pair (.int .i64) (.pair (.int .i64) (.int .i64))) x4,.row false 24 (.sl 2 (.int .i64)) x5,.row false 100 (.pair (.int .i64) (.pair (.int .i64) (.int .i64))) x6,.row false 173 (.pair (.int .i64) (.int .i64)) x7,.row false 176 (.pair (.int .i64) (.int .i64)) x8]=>some ⟨.one ⟨false,[.val (.bool (SP x0 x3 x4 x5 x6 x1 x7 x8 x2))]⟩,[.row false 2 aj1 x3,.row false 169 adH x4,.row false 24 (CTy.sl (2:TypeId) aj1) x5,.row false 100 adH x6,.row false 173 aej x7,.row false 176 aej x8],[],[uD 9223372036854775807 x3 x4 x5 x6 x7 x8]⟩
 |_,_=>none
def Wi:PF prog:=PF.alt alr adF (by
 intro args es o h bE;unfold adF at h;split at h
 ·rename_i x0 x1 x2 x3 x4 x5 x6 x7 x8
  cases h
  have bE:=jW bE
  have hh:=amO x0 x1 x2 x3 x4 x5 x6 x7 x8 bE
  obtain⟨e0,en⟩:=hh
  exact nO rfl (iY en) (by simp only [e0] <;> rfl) rfl rfl
 ·cases h)
def adA:List SV→List Entry→Option Out
 | [.one ⟨true,[.val (.int .i64 x0),.ref 0,.ref 1,.ref 2,.ref 3,.val (.int .i64 x1),.ref 4,.ref 5,.val (.int .i64 x2)]⟩],[.row false 2 (.int .i64) x3,.row false 169 (.pair (.int .i64) (.pair (.int .i64) (.int .i64))) x4,.row false 24 (.sl 2 (.int .i64)) x5,.row false 100 (.pair (.int .i64) (.pair (.int .i64) (.int .i64))) x6,.row false 173 (.pair (.int .i64) (.int .i64)) x7,.row false 176 (.pair (.int .i64) (.int .i64)) x8]=>some ⟨.one ⟨false,[.val (.bool (SP x0 x3 x4 x5 x6 x1 x7 x8 x2))]⟩,[.row false 2 aj1 x3,.row false 169 adH x4,.row false 24 (CTy.sl (2:TypeId) aj1) x5,.row false 100 adH x6,.row false 173 aej x7,.row false 176 aej x8],[],[uD 9223372036854775807 x3 x4 x5 x6 x7 x8]⟩
 |_,_=>none
def Wf:PF prog:=PF.alt alm adA (by
 intro args es o h bE;unfold adA at h;split at h
 ·rename_i x0 x1 x2 x3 x4 x5 x6 x7 x8
  cases h
  have bE:=jW bE
  have hh:=ama x0 x1 x2 x3 x4 x5 x6 x7 x8 bE
  obtain⟨e0,en⟩:=hh
  exact nO rfl (iY en) (by simp only [e0] <;> rfl) rfl rfl
 ·cases h)
abbrev lE:=Int×Int×List Int×List Int
section
variable (y0 y1:Int)(y2 y3:List Int)
def yf:Int:=Option.getD y2[Int.toNat y0]? 0
def EM:Bool:=ltI y0 y1
def zw:Bool:=leI 0 y0
def EN:Bool:=ltI y0 (↑y2.length:Int)
def EO:Bool:=ltN y0.toNat y2.length
def EP:Bool:=ltI y0 (↑y3.length:Int)
def EQ:Bool:=ltN y0.toNat y3.length
def ER:Int:=IntKind.wrap .i64 (y0 + (1:Int))
def ES:List Int:=List.set y3 y0.toNat (afi 1 (yf y0 y2) 1 (yf y0 y2))
end
def agv:lE→List (Nat×SV)
 |(y0,y1,_,_)=> [(17,(.one ⟨false,[.val (.int .i64 y0)]⟩)),(16,(.one ⟨false,[.val (.int .i64 y1)]⟩)),(15,(.one ⟨false,[.ref 0]⟩)),(5,(.one ⟨false,[.ref 1]⟩))]
def agl:lE→List (Nat×Entry)
 |(_,_,y2,y3)=> [(0,(.row true 2 aj1 y2)),(1,(.row true 2 aj1 y3))]
def agP:Nat→lE→List (Nat×SV)
 |_,(_,_,_,_)=> []
def agF:Nat→lE→List (Nat×Entry)
 |_,(_,_,y2,y3)=> [(0,(.row true 2 aj1 y2)),(1,(.row true 2 aj1 y3))]
def CP:lE→LT lE
 |(y0,y1,y2,y3)=> .ite (EM y0 y1) (.need [zw y0,EN y0 y2,EO y0 y2] (.need [zw y0,EP y0 y3,EQ y0 y3] (.nrm ((ER y0),y1,y2,(ES y0 y2 y3)) [(0,0),(1,1)]))) (.ext 0 [(0,0),(1,1)])
def Pg(s:St):Option lE:=
 (match s.look 17 with
 |some ⟨none,.one ⟨false,[.val (.int .i64 y0)]⟩⟩=>
 (match s.look 16 with
 |some ⟨none,.one ⟨false,[.val (.int .i64 y1)]⟩⟩=>
 (match s.look 15 with
 |some ⟨none,.one ⟨false,[.ref 640]⟩⟩=>
 (match s.look 5 with
 |some ⟨none,.one ⟨false,[.ref 448]⟩⟩=>
 (match s.ent 640 with
 |some (.row true 2 (.int .i64) y2)=>
 (match s.ent 448 with
 |some (.row true 2 (.int .i64) y3)=>
 some (y0,y1,y2,y3)
 |_=>none)
 |_=>none)
 |_=>none)
 |_=>none)
 |_=>none)
 |_=>none)
def eH:Lp lE where
 h:=⟨[18,19,20,21,6,7,22,23,24,25,26,27,17],[0,1],[],[]⟩
 JL:=agv
 JE:=agl
 XL:=agP
 XE:=agF
 q:=fun j=>match j with | _=> .exit 0
 tags:= [0]
 lt:=CP
 fuel:=fun(y0,y1,y2,y3)=>y0.natAbs + y1.natAbs + y2.length + y3.length
 fix:=fun(_,y1,y2,_) (y0,_,_,y3)=>(y0,y1,y2,y3)
 σ:= [(0,640),(1,448)]
 rd:=Pg
theorem aeo:LoopOk prog (fun k=>Nat.blt k Tryz.f202.ntmps) eH.F (aH f202 0):=by
 refine Lp.ok (tbl:= (T3z [al,aQ])) (lf:= []) aO eH (by kernel_rfl) (LOk.nil _) (fun _=>rfl) (fun _ _=>rfl) ?_ ?_ ?_ ?_ (fun _=>rfl) ?_
 ·rintro⟨y0,y1,y2,y3⟩;kernel_rfl
 ·rintro⟨y0,y1,y2,y3⟩;kernel_rfl
 ·intro s x h
  have h:Pg s=some x:=h
  unfold Pg at h
  repeat' split at h
  all_goals cases h
  constructor<;>repeat(first|refine ae (by assumption) rfl ?_|refine af rfl (by assumption) rfl ?_|exact rfl)
 ·rintro⟨y0,y1,y2,y3⟩;kernel_rfl
 ·rintro⟨y0,y1,y2,y3⟩ z;exact(And.intro rfl trivial)
abbrev lF:=Int×Int×List (Int×(Int×Int))×List Int×List Int
section
variable (y0 y1:Int)(y2:List (Int×(Int×Int)))(y3 y4:List Int)
def eE:Int×Int×Int:=Option.getD y2[Int.toNat y0]? ((0:Int),(0:Int),(0:Int))
def ib:Bool:=((eE y0 y2).2).1==0
def yg:Bool:=leI 0 ((eE y0 y2).1)
def ET:Bool:=ltI y0 y1
def EU:Bool:=leI 0 y0
def EV:Bool:=ltI y0 (↑y2.length:Int)
def EW:Bool:=ltN y0.toNat y2.length
def EX:Bool:= !ib y0 y2||yg y0 y2
def EY:Bool:= !ib y0 y2||ltI ((eE y0 y2).1) (↑y3.length:Int)
def EZ:Bool:= !ib y0 y2||ltN (Int.toNat ((eE y0 y2).1)) y3.length
def Fa:Bool:=ib y0 y2||yg y0 y2
def Fb:Bool:=ib y0 y2||ltI ((eE y0 y2).1) (↑y4.length:Int)
def Fc:Bool:=ib y0 y2||ltN (Int.toNat ((eE y0 y2).1)) y4.length
def CG:Int:=IntKind.wrap .i64 (y0 + (1:Int))
def CH:List Int:=bif ib y0 y2 then List.set y3 (Int.toNat ((eE y0 y2).1)) ((eE y0 y2).2.2)else y3
def CI:List Int:=bif ib y0 y2 then y4 else List.set y4 (Int.toNat ((eE y0 y2).1)) ((eE y0 y2).2.2)
end
def agw:lF→List (Nat×SV)
 |(y0,y1,_,_,_)=> [(34,(.one ⟨false,[.val (.int .i64 y0)]⟩)),(33,(.one ⟨false,[.val (.int .i64 y1)]⟩)),(32,(.one ⟨false,[.ref 0]⟩)),(8,(.one ⟨false,[.ptr 1 0]⟩))]
def agm:lF→List (Nat×Entry)
 |(_,_,y2,y3,y4)=> [(0,(.row false 169 adH y2)),(1,(.box 130 [.ref 2,.ref 3])),(2,(.row true 2 aj1 y3)),(3,(.row true 2 aj1 y4))]
def agQ:Nat→lF→List (Nat×SV)
 |_,(_,_,_,_,_)=> []
def agG:Nat→lF→List (Nat×Entry)
 |_,(_,_,y2,y3,y4)=> [(0,(.row false 169 adH y2)),(1,(.box 130 [.ref 2,.ref 3])),(2,(.row true 2 aj1 y3)),(3,(.row true 2 aj1 y4))]
def CQ:lF→LT lF
 |(y0,y1,y2,y3,y4)=> .ite (ET y0 y1) (.need [EU y0,EV y0 y2,EW y0 y2] (.need [EX y0 y2,EY y0 y2 y3,EZ y0 y2 y3,Fa y0 y2,Fb y0 y2 y4,Fc y0 y2 y4] (.nrm ((CG y0),y1,y2,CH y0 y2 y3,(CI y0 y2 y4)) [(0,0),(1,1),(2,2),(3,3)]))) (.ext 0 [(0,0),(1,1),(2,2),(3,3)])
def Ph(s:St):Option lF:=
 (match s.look 34 with
 |some ⟨none,.one ⟨false,[.val (.int .i64 y0)]⟩⟩=>
 (match s.look 33 with
 |some ⟨none,.one ⟨false,[.val (.int .i64 y1)]⟩⟩=>
 (match s.look 32 with
 |some ⟨none,.one ⟨false,[.ref 1]⟩⟩=>
 (match s.look 8 with
 |some ⟨none,.one ⟨false,[.ptr 1152 0]⟩⟩=>
 (match s.ent 1 with
 |some (.row false 169 (.pair (.int .i64) (.pair (.int .i64) (.int .i64))) y2)=>
 (match s.ent 1152 with
 |some (.box 130 [.ref 448,.ref 1024])=>
 (match s.ent 448 with
 |some (.row true 2 (.int .i64) y3)=>
 (match s.ent 1024 with
 |some (.row true 2 (.int .i64) y4)=>
 some (y0,y1,y2,y3,y4)
 |_=>none)
 |_=>none)
 |_=>none)
 |_=>none)
 |_=>none)
 |_=>none)
 |_=>none)
 |_=>none)
def eI:Lp lF where
 h:=⟨[35,36,37,10,38,39,40,41,42,43,44,45,46,47,48,49,50,51,52,53,54,55,34],[0,1,2,3],[],[]⟩
 JL:=agw
 JE:=agm
 XL:=agQ
 XE:=agG
 q:=fun j=>match j with | _=> .exit 2
 tags:= [0]
 lt:=CQ
 fuel:=fun(y0,y1,y2,y3,y4)=>y0.natAbs + y1.natAbs + y2.length + y3.length + y4.length
 fix:=fun(_,y1,y2,_,_) (y0,_,_,y3,y4)=>(y0,y1,y2,y3,y4)
 σ:= [(0,1),(1,1152),(2,448),(3,1024)]
 rd:=Ph
theorem aep:LoopOk prog (fun k=>Nat.blt k Tryz.f202.ntmps) eI.F (aH f202 1):=by
 refine Lp.ok (tbl:= (T3z [al,aQ])) (lf:= []) aO eI (by kernel_rfl) (LOk.nil _) (fun _=>rfl) (fun _ _=>rfl) ?_ ?_ ?_ ?_ (fun _=>rfl) ?_
 ·rintro⟨y0,y1,y2,y3,y4⟩;kernel_rfl
 ·rintro⟨y0,y1,y2,y3,y4⟩;kernel_rfl
 ·intro s x h
  have h:Ph s=some x:=h
  unfold Ph at h
  repeat' split at h
  all_goals cases h
  constructor<;>repeat(first|refine ae (by assumption) rfl ?_|refine af rfl (by assumption) rfl ?_|exact rfl)
 ·rintro⟨y0,y1,y2,y3,y4⟩;kernel_rfl
 ·rintro⟨y0,y1,y2,y3,y4⟩ z;exact(And.intro rfl trivial)
section
variable (x0:Int)(x1:List Int)(x2:List (Int×Int×Int))
def Of:Int×Int×List Int×List Int:=((0:Int),(↑(List.length (pZ x0 x1)):Int),pZ x0 x1,List.replicate x0.toNat (0:Int))
def DN:List Int:=(Lp.res eH (Of x0 x1)).2.2.2.2
def Jg:Int×Int×List (Int×Int×Int)×List Int×List Int:=((0:Int),(↑x2.length:Int),x2,DN x0 x1,DN x0 x1)
def Og:List Int×List Int:=(Lp.res eI (Jg x0 x1 x2)).2.2.2.2
def VX:List Int:=(Og x0 x1 x2).1
def VY:List Int:=(Og x0 x1 x2).2
def VZ:Bool:=allT [leI 0 x0,leI x0 x0,leI ((↑(8:Nat):Int) * x0) 281474976710656,leI x0 9223372036854775807,isT x0 x1,Lp.fin eH (Of x0 x1),leN 1 (List.length (DN x0 x1))&&leN (List.length (DN x0 x1)) 1048576,Lp.fin eI (Jg x0 x1 x2)]
end
def ads:List SV→List Entry→Option Out
 | [.one ⟨true,[.val (.int .i64 x0),.ref 0]⟩,.one ⟨false,[.ref 1]⟩],[.row false 2 (.int .i64) x1,.row false 169 (.pair (.int .i64) (.pair (.int .i64) (.int .i64))) x2]=>some ⟨.one ⟨true,[.ref 2,.ref 3]⟩,[.row false 2 aj1 x1,.row false 169 adH x2],[.row true 2 aj1 (VX x0 x1 x2),.row true 2 aj1 (VY x0 x1 x2)],[VZ x0 x1 x2]⟩
 |_,_=>none
def alo:PF prog:=PF.ofG prog (T3z [al,aQ]) [eH.F,eI.F] aO 202 f202 func202 (LOk.fnT (l:= [aH f202 0,aH f202 1]) (by kernel_rfl) (.cons aeo (.cons aep (.nil _)))) ads (by
 intro vs es r h;unfold ads at h;split at h
 ·cases h;kernel_rfl
 ·cases h)
section
variable (x0:Int)(x1 x2:List Int)
def fm:Bool:=Option.getD x1[Int.toNat x0]? 0==0
def oE:Bool:=bif fm x0 x1 then Option.getD x2[Int.toNat x0]? 0==0 else false
def oF:Bool:=allT [leI 0 x0,ltI x0 (↑x1.length:Int),ltN x0.toNat x1.length,!(fm x0 x1&&true)||leI 0 x0,!(fm x0 x1&&true)||ltI x0 (↑x2.length:Int),!(fm x0 x1&&true)||ltN x0.toNat x2.length]
end
def yB:List SV→List Entry→Option Out
 | [.one ⟨true,[.ref 0,.ref 1]⟩,.one ⟨false,[.val (.int .i64 x0)]⟩],[.row false 2 (.int .i64) x1,.row false 2 (.int .i64) x2]=>some ⟨.one ⟨false,[.val (.bool (oE x0 x1 x2))]⟩,[.row false 2 aj1 x1,.row false 2 aj1 x2],[],[oF x0 x1 x2]⟩
 |_,_=>none
def oN:PF prog:=PF.ofG prog [] [] aO 233 f233 func233 (fun c _=>LOk.nil c) yB (by
 intro vs es r h;unfold yB at h;split at h
 ·cases h;kernel_rfl
 ·cases h)
section
variable (x0 x1:Int)(x2 x3 x4:List Int)
def ju:Int:=Option.getD x4[Int.toNat x1]? 0
def fo:Bool:=Int.tmod (ju x1 x4) 3!=1
def jv:Int:=Int.tmod (IntKind.wrap .i64 (IntKind.wrap .i64 (Int.tdiv (ju x1 x4) 3) + (1:Int))) x0
def oG:Bool:=bif fo x1 x4 then true else oE (jv x0 x1 x4) x2 x3
def oH:Bool:=allT [leI 0 x1,ltI x1 (↑x4.length:Int),ltN x1.toNat x4.length,!(!fo x1 x4&&true)||neI 3 0,!(!fo x1 x4&&true)||neI x0 0,!(!fo x1 x4&&true)||oF (jv x0 x1 x4) x2 x3]
end
def yC:List SV→List Entry→Option Out
 | [.one ⟨true,[.ref 0,.ref 1]⟩,.one ⟨true,[.val (.int .i64 x0),.ref 2]⟩,.one ⟨false,[.val (.int .i64 x1)]⟩],[.row false 2 (.int .i64) x2,.row false 2 (.int .i64) x3,.row false 2 (.int .i64) x4]=>some ⟨.one ⟨false,[.val (.bool (oG x0 x1 x2 x3 x4))]⟩,[.row false 2 aj1 x2,.row false 2 aj1 x3,.row false 2 aj1 x4],[],[oH x0 x1 x2 x3 x4]⟩
 |_,_=>none
def Lc:PF prog:=PF.ofG prog (T3z [oN]) [] aO 203 f203 func203 (fun c _=>LOk.nil c) yC (by
 intro vs es r h;unfold yC at h;split at h
 ·cases h;kernel_rfl
 ·cases h)
def occ(c:Int):Int:=bif ltI c 1 then c else 1
def ani(ch:Int)(l:List Int)(f:Int×Int×Int):List Int:=bif f.2.1==ch then l.set f.1.toNat f.2.2 else l
def akF(n:Int)(ps:List Int):List Int:=(List.range n.toNat).map fun(b:Nat)=>occ (acP n ps (b:Int):Int)
def Sl(n:Int)(ps:List Int)(fs:List (Int×Int×Int))(ch:Int):List Int:=fs.foldl (ani ch) (akF n ps)
def apG(n:Int)(a:List Int):Bool:=eqI (a.length:Int) n&&a.all fun v=>inR v 0 1
theorem apP(ch:Int)(l:List Int)(f:Int×Int×Int):(ani ch l f).length=l.length:=by
 unfold ani;cases f.2.1==ch <;> simp
theorem WQ(n:Int)(ps:List Int):(akF n ps).length=n.toNat:=by simp [akF]
theorem Uh(ch:Int): ∀ (fs:List (Int×Int×Int)) (l:List Int),(fs.foldl (ani ch) l).length=l.length
 | [],l=>rfl
 |f::fs,l=>by rw [List.foldl_cons,Uh ch fs,apP]
theorem an6(n:Int)(ps:List Int)(fs:List (Int×Int×Int))(ch:Int):(Sl n ps fs ch).length=n.toNat:=by
 rw [Sl,Uh,WQ]
theorem atv{n:Int}{fs:List (Int×Int×Int)}(h2:2≤n∧n≤8)(h:okFs n fs=true):fs.length≤8∧ ∀ f∈fs,(0≤f.1∧f.1 < n)∧(f.2.1=0∨f.2.1=1)∧(0≤f.2.2∧f.2.2≤1):=by
 simp only [okFs,Bool.and_eq_true,dD,List.all_eq_true,List.mem_range]at h
 refine⟨h.1,fun f hf=> ?_⟩
 obtain⟨b,hb,rfl⟩:=List.getElem_of_mem hf
 have h3:=h.2 b hb
 simp only [Bool.not_eq_true',Bool.or_eq_false_iff,aie,fAt,List.getElem?_eq_getElem hb,Option.getD_some,Bool.not_eq_false']at h3
 have h4:=h3.1
 simp only [fIn,Bool.and_eq_true,oU]at h4
 rw [ar (by omega) (by omega)]at h4
 omega
def fV(n:Int)(f:Int×Int×Int):Bool:=(leI 0 f.1&&ltI f.1 n)&&((f.2.1==0||f.2.1==1)&&inR f.2.2 0 1)
def aop(n:Int)(fs:List (Int×Int×Int)):Bool:=leN fs.length 1000&&fs.all (fV n)
theorem arh{n:Int}{fs:List (Int×Int×Int)}(h:aop n fs=true):fs.length≤1000∧ ∀ f∈fs,(0≤f.1∧f.1 < n)∧(f.2.1=0∨f.2.1=1)∧(0≤f.2.2∧f.2.2≤1):=by
 simp only [aop,Bool.and_eq_true,dD,List.all_eq_true]at h
 refine⟨h.1,fun f hf=> ?_⟩
 have h3:=h.2 f hf
 simp only [fV,Bool.and_eq_true,Bool.or_eq_true,beq_iff_eq,oU,Qt,UQ]at h3
 exact h3
theorem atk{n:Int}{fs:List (Int×Int×Int)}(h2:2≤n∧n≤8)(h:okFs n fs=true):aop n fs=true:=by
 obtain⟨hl,hf⟩:=atv h2 h
 simp only [aop,Bool.and_eq_true,dD,List.all_eq_true]
 refine⟨by omega,fun f hm=> ?_⟩
 simp only [fV,Bool.and_eq_true,Bool.or_eq_true,beq_iff_eq,oU,Qt,UQ]
 exact hf f hm
theorem aj0{B C:Type}(g:B→C): ∀ (r:List B) (a:List C),r.foldl (fun a b=>a++ [g b]) a=a++r.map g
 | [],a=>by simp
 |b::r,a=>by rw [List.foldl_cons,aj0 g r];simp
theorem auI(c:Int):afi 1 c 1 c=occ c:=by
 simp only [af7,occ]
 cases h:ltI 1 c <;> cases h':ltI c 1 <;> simp at h h' ⊢ <;> omega
def ro(y2:List Int)(b:Nat):(List Int)→Nat ⊕ (List Int)
 |y3=>(.inr (List.set y3 b (afi 1 (Option.getD y2[b]? 0) 1 (Option.getD y2[b]? 0))))
def po(y2:List Int)(i:Nat):(List Int)→lE
 |y3=>((i:Int),(↑y2.length:Int),y2,y3)
def OW:lE→List Int
 |(_,_,_,y3)=>y3
theorem aiy(y2 y3:List Int)(hn:y2.length≤9223372036854775807)(hl:y3.length=y2.length):
  eH.fin ((0:Int),(↑y2.length:Int),y2,y3)=true∧eH.res ((0:Int),(↑y2.length:Int),y2,y3)=((aL (ro y2) 0 (List.range y2.length) 0 y3).1,(po y2) (aL (ro y2) 0 (List.range y2.length) 0 y3).2.1 (aL (ro y2) 0 (List.range y2.length) 0 y3).2.2):=by
 have dC:=eH.along (po y2) OW (ro y2) 0 (fun _ a=>a.length=y2.length) (List.range y2.length) y3 hl (by simp only [eH,po,List.length_range];omega) (fun i b a hb hI=> ?_) (fun a hI=> ?_)
 ·exact dC
 ·obtain y3:=a
  obtain⟨rfl,eO⟩:=od hb
  have hw:IntKind.i64.wrap ((b:Int) + 1)=((b + 1:Nat):Int):=by rw [ar (by omega) (by omega)];omega
  have cm:ltI (b:Int) (y2.length:Int)=true:=eg (by omega)
  have tS:leI (0:Int) (b:Int)=true:=cR (by omega)
  have io:ltN b y2.length=true:=gC (by omega)
  refine⟨?_,?_,?_,?_⟩
  ·simp [yf,EM,zw,EN,EO,EP,EQ,ER,ES,CP,eH,LT.nds,allT,po,cm,tS,io,hI]
  ·simp [yf,EM,zw,EN,EO,EP,EQ,ER,ES,CP,eH,LT.each,po,OW,hw,hI]
  ·simp only [yf,EM,zw,EN,EO,EP,EQ,ER,ES,CP,eH,LT.fn,po,OW,ro,Int.toNat_natCast,cm,cond_true]
  ·intro a' hf;simp only [ro,Sum.inr.injEq]at hf;subst hf;simpa using hI
 ·obtain y3:=a
  simp [yf,EM,zw,EN,EO,EP,EQ,ER,ES,CP,eH,LT.out,po,List.length_range]
def uE(b:Int×(Int×Int)):(List Int×List Int)→Nat ⊕ (List Int×List Int)
 |(y3,y4)=>(.inr ((bif(b.2.1==0)then List.set y3 (Int.toNat b.1) b.2.2else y3),(bif(b.2.1==0)then y4 else List.set y4 (Int.toNat b.1) b.2.2)))
def pp(y2:List (Int×(Int×Int)))(i:Nat):(List Int×List Int)→lF
 |(y3,y4)=>((i:Int),(↑y2.length:Int),y2,y3,y4)
def OX:lF→List Int×List Int
 |(_,_,_,y3,y4)=>(y3,y4)
theorem aiz(y2:List (Int×(Int×Int)))(y3 y4:List Int)(hn:y2.length≤9223372036854775807)(n:Nat)(h3:y3.length=n)(h4:y4.length=n)(hf: ∀ f∈y2,0≤f.1∧f.1 < (n:Int)):
  eI.fin ((0:Int),(↑y2.length:Int),y2,y3,y4)=true∧eI.res ((0:Int),(↑y2.length:Int),y2,y3,y4)=((aL (uE) 0 y2 0 (y3,y4)).1,(pp y2) (aL (uE) 0 y2 0 (y3,y4)).2.1 (aL (uE) 0 y2 0 (y3,y4)).2.2):=by
 have dC:=eI.along (pp y2) OX (uE) 0 (fun _ a=>a.1.length=n∧a.2.length=n) y2 (y3,y4) ⟨h3,h4⟩ (by simp only [eI,pp];omega) (fun i b a hb hI=> ?_) (fun a hI=> ?_)
 ·exact dC
 ·obtain⟨y3,y4⟩:=a
  have eO:=(List.getElem?_eq_some_iff.1 hb).1
  have lh: ∀ d,Option.getD y2[i]? d=b:=fun d=>by rw [hb];rfl
  have hw:=DJ eO hn
  have cm:ltI (i:Int) (y2.length:Int)=true:=eg (by omega)
  have tS:leI (0:Int) (i:Int)=true:=cR (by omega)
  have io:ltN i y2.length=true:=gC eO
  refine⟨?_,?_,?_,?_⟩
  ·have h5:=hf b (List.mem_of_getElem? hb)
   have hI1:=hI.1
   have hI2:=hI.2
   have h6:leI 0 b.1=true:=cR h5.1
   have h7:ltI b.1 (n:Int)=true:=eg (by omega)
   have h8:ltN b.1.toNat n=true:=gC (by omega)
   simp only at hI1 hI2
   simp [eE,ib,yg,ET,EU,EV,EW,EX,EY,EZ,Fa,Fb,Fc,CG,CH,CI,CQ,eI,LT.nds,allT,pp,cm,tS,io,lh,h6,h7,h8,hI1,hI2]
  ·simp [eE,ib,yg,ET,EU,EV,EW,EX,EY,EZ,Fa,Fb,Fc,CG,CH,CI,CQ,eI,LT.each,pp,OX,hw]
  ·simp only [eE,ib,yg,ET,EU,EV,EW,EX,EY,EZ,Fa,Fb,Fc,CG,CH,CI,CQ,eI,LT.fn,pp,OX,uE,Int.toNat_natCast,cm,tS,io,lh,cond_true,Bool.cond_self]
  ·intro a' hf;simp only [uE,Sum.inr.injEq]at hf;subst hf;have hI1:=hI.1;have hI2:=hI.2;cases b.2.1==0 <;> simpa using ⟨hI1,hI2⟩
 ·obtain⟨y3,y4⟩:=a
  simp [eE,ib,yg,ET,EU,EV,EW,EX,EY,EZ,Fa,Fb,Fc,CG,CH,CI,CQ,eI,LT.out,pp]
theorem ajZ: ∀ (fs:List (Int×Int×Int)) (a:List Int×List Int),(∀ f∈fs,f.2.1=0∨f.2.1=1)→
  fs.foldl (fun a f=>(bif f.2.1==0 then a.1.set f.1.toNat f.2.2 else a.1,bif f.2.1==0 then a.2 else a.2.set f.1.toNat f.2.2)) a=(fs.foldl (ani 0) a.1,fs.foldl (ani 1) a.2)
 | [],a,_=>rfl
 |f::fs,a,h=>by
  simp only [List.foldl_cons]
  rw [ajZ fs _ (fun g hg=>h g (by simp [hg]))]
  rcases h f (by simp)with e | e <;> simp [ani,e]
theorem am3(n:Int)(ps:List Int)(fs:List (Int×Int×Int))(h:(isT n ps&&aop n fs)=true):
  VX n ps fs=Sl n ps fs 0∧VY n ps fs=Sl n ps fs 1∧VZ n ps fs=true:=by
 simp only [Bool.and_eq_true]at h
 have h2:=(BX.1 h.1).1
 obtain⟨hl,hf⟩:=arh h.2
 have hr:(List.replicate n.toNat (0:Int)).length=(pZ n ps).length:=by rw [Lt];simp
 obtain⟨w1,w2⟩:=aiy (pZ n ps) (List.replicate n.toNat (0:Int)) (by rw [Lt];omega) hr
 rw [an1 (xs:=pZ n ps) (d:=(0:Int)) (g:=occ) (f:=ro (pZ n ps)) (e:=0) (fun b a=>by simp only [ro,auI]) hr]at w2
 have e1:DN n ps=akF n ps:=by
  rw [DN,Of,w2]
  simp only [po,pZ,akF,List.map_map];rfl
 obtain⟨v1,v2⟩:=aiz fs (akF n ps) (akF n ps) (by omega) n.toNat (WQ n ps) (WQ n ps) (fun f hm=>by have:=(hf f hm).1;omega)
 rw [BN (f:=uE) (g:=fun a f=>(bif f.2.1==0 then a.1.set f.1.toNat f.2.2 else a.1,bif f.2.1==0 then a.2 else a.2.set f.1.toNat f.2.2)) (fun b a=>rfl),ajZ _ _ (fun f hm=>(hf f hm).2.1)]at v2
 have e3:Og n ps fs=(Sl n ps fs 0,Sl n ps fs 1):=by
  simp only [Og,Jg,e1,v2,pp];rfl
 refine⟨by rw [VX,e3],by rw [VY,e3],?_⟩
 have e4:Lp.fin eI (Jg n ps fs)=true:=by simp only [Jg,e1];exact v1
 have e5:Lp.fin eH (Of n ps)=true:=w1
 simp only [VZ,e4,e5,e1,h.1,WQ,allT]
 simp;omega
def adC:List SV→List Entry→Option Out
 | [.one ⟨true,[.val (.int .i64 x0),.ref 0]⟩,.one ⟨false,[.ref 1]⟩],[.row false 2 (.int .i64) x1,.row false 169 (.pair (.int .i64) (.pair (.int .i64) (.int .i64))) x2]=>some ⟨.one ⟨true,[.ref 2,.ref 3]⟩,[.row false 2 aj1 x1,.row false 169 adH x2],[.row true 2 aj1 (Sl x0 x1 x2 0),.row true 2 aj1 (Sl x0 x1 x2 1)],[isT x0 x1&&aop x0 x2]⟩
 |_,_=>none
def Wh:PF prog:=PF.alt alo adC (by
 intro args es o h bE;unfold adC at h;split at h
 ·rename_i x0 x1 x2
  cases h
  have bE:=jW bE
  have hh:=am3 x0 x1 x2 bE
  obtain⟨e0,e1,en⟩:=hh
  exact nO rfl (iY en) rfl rfl (by simp only [e0,e1] <;> rfl)
 ·cases h)
def WF(n:Int)(ps:List Int)(t:Int):Int:=Int.tmod (blk (ps[t.toNat]?.getD 0) + 1) n
def anM(n:Int)(ps a b:List Int)(t:Int):Bool:=phs (ps[t.toNat]?.getD 0)!=1||(a[(WF n ps t).toNat]?.getD 0==0&&b[(WF n ps t).toNat]?.getD 0==0)
def air(n:Int)(ps a b:List Int)(t:Int):Bool:=aim n ps t&&(apG n a&&apG n b)
theorem aqJ{n t:Int}{ps a b:List Int}(h:air n ps a b t=true):
  (0≤t∧t < ps.length)∧(2≤n∧n≤8)∧(0≤WF n ps t∧WF n ps t < n)∧((a.length:Int)=n∧(b.length:Int)=n)∧
   IntKind.i64.wrap (IntKind.i64.wrap (Int.tdiv (ps[t.toNat]?.getD 0) 3) + 1)=blk (ps[t.toNat]?.getD 0) + 1∧
   (0≤a[(WF n ps t).toNat]?.getD 0∧a[(WF n ps t).toNat]?.getD 0≤1)∧(0≤b[(WF n ps t).toNat]?.getD 0∧b[(WF n ps t).toNat]?.getD 0≤1):=by
 simp only [air,Bool.and_eq_true,ajf,apG,ard,List.all_eq_true,oU,abS]at h
 obtain⟨⟨hT,ht⟩,⟨ha,ha2⟩,hb,hb2⟩:=h
 have h1:=BX.1 hT
 have eO:t.toNat < ps.length:=by omega
 have hp:=h1.2.2 (ps[t.toNat]) (List.getElem_mem eO)
 have e0:ps[t.toNat]?.getD 0=ps[t.toNat]:=by rw [List.getElem?_eq_getElem eO];rfl
 rw [WF,e0]
 have hb3:blk ps[t.toNat]=ps[t.toNat] / 3:=ajL hp.1
 have hb4:Int.tdiv ps[t.toNat] 3=ps[t.toNat] / 3:=Int.tdiv_eq_ediv_of_nonneg hp.1
 have hq:Int.tmod (blk ps[t.toNat] + 1) n=(ps[t.toNat] / 3 + 1) % n:=by rw [hb3,Int.tmod_eq_emod_of_nonneg (by omega)]
 have hm0:0≤(ps[t.toNat] / 3 + 1) % n:=Int.emod_nonneg _ (by omega)
 have hm1:(ps[t.toNat] / 3 + 1) % n < n:=Int.emod_lt_of_pos _ (by omega)
 rw [hq]
 have la:((ps[t.toNat] / 3 + 1) % n).toNat < a.length:=by omega
 have lb:((ps[t.toNat] / 3 + 1) % n).toNat < b.length:=by omega
 rw [List.getElem?_eq_getElem la,List.getElem?_eq_getElem lb]
 refine⟨ht,h1.1,⟨hm0,hm1⟩,⟨ha,hb⟩,?_,ha2 _ (List.getElem_mem la),hb2 _ (List.getElem_mem lb)⟩
 rw [hb4,ar (x:=ps[t.toNat] / 3) (by omega) (by omega),ar (by omega) (by omega),hb3]
theorem apj(n t:Int)(a b ps:List Int)(h:air n ps a b t=true):oG n t a b ps=anM n ps a b t∧oH n t a b ps=true:=by
 obtain⟨ht,hn,hx,hl,hw,ha,hb⟩:=aqJ h
 have e2:jv n t ps=WF n ps t:=by
  simp only [jv,ju,hw];rfl
 refine⟨?_,?_⟩
 ·simp only [oG,e2,fo,ju,oE,fm,anM,phs]
  cases Int.tmod (ps[t.toNat]?.getD 0) 3 !=1 with
  |true=>rfl
  |false=>
   rw [cond_false,Bool.false_or]
   cases a[(WF n ps t).toNat]?.getD 0==0 <;> rfl
 ·have t1:leI 0 t=true:=cR ht.1
  have t2:ltI t (ps.length:Int)=true:=eg ht.2
  have t3:ltN t.toNat ps.length=true:=gC (by omega)
  have t4:neI n 0=true:=akW (by omega)
  have t4':neI (3:Int) 0=true:=akW (by omega)
  have t5:leI 0 (WF n ps t)=true:=cR hx.1
  have t6:ltI (WF n ps t) (a.length:Int)=true:=eg (by omega)
  have t7:ltN (WF n ps t).toNat a.length=true:=gC (by omega)
  have t8:ltI (WF n ps t) (b.length:Int)=true:=eg (by omega)
  have t9:ltN (WF n ps t).toNat b.length=true:=gC (by omega)
  simp only [oH,oF,e2,t1,t2,t3,t4,t4',t5,t6,t7,t8,t9,allT,cond_true,Bool.or_true]
def yG:List SV→List Entry→Option Out
 | [.one ⟨true,[.ref 0,.ref 1]⟩,.one ⟨true,[.val (.int .i64 x0),.ref 2]⟩,.one ⟨false,[.val (.int .i64 x1)]⟩],[.row false 2 (.int .i64) x2,.row false 2 (.int .i64) x3,.row false 2 (.int .i64) x4]=>some ⟨.one ⟨false,[.val (.bool (anM x0 x4 x2 x3 x1))]⟩,[.row false 2 aj1 x2,.row false 2 aj1 x3,.row false 2 aj1 x4],[],[air x0 x4 x2 x3 x1]⟩
 |_,_=>none
def oM:PF prog:=PF.alt Lc yG (by
 intro args es o h bE;unfold yG at h;split at h
 ·rename_i x0 x1 x2 x3 x4
  cases h
  have bE:=jW bE
  have hh:=apj x0 x1 x2 x3 x4 bE
  obtain⟨e0,en⟩:=hh
  exact nO rfl (iY en) (by simp only [e0] <;> rfl) rfl rfl
 ·cases h)
theorem atb(n:Int)(ps:List Int)(b:Int):inR (occ (acP n ps b:Int)) 0 1=true:=by
 rw [oU,occ];cases h:ltI (acP n ps b:Int) 1 <;> simp at h ⊢;omega
theorem ao2(n:Int)(ps:List Int)(fs:List (Int×Int×Int))(ch:Int)(hT:isT n ps=true)(hF:aop n fs=true):apG n (Sl n ps fs ch)=true:=by
 have h2:=(BX.1 hT).1
 obtain⟨hl,hf⟩:=arh hF
 simp only [apG,Bool.and_eq_true,ard,an6]
 refine⟨by omega,?_⟩
 have dC: ∀ (fs:List (Int×Int×Int)) (l:List Int),(∀ f∈fs,0≤f.2.2∧f.2.2≤1)→(l.all fun v=>inR v 0 1)=true→((fs.foldl (ani ch) l).all fun v=>inR v 0 1)=true:=by
  intro fs
  induction fs with
  |nil=>intro l _ h;exact h
  |cons f fs ih=>
   intro l hv h
   rw [List.foldl_cons]
   refine ih _ (fun g hg=>hv g (by simp [hg])) ?_
   unfold ani
   cases f.2.1==ch with
   |false=>exact h
   |true=>
    simp only [cond_true,List.all_eq_true]at h ⊢
    intro v hm
    rcases List.mem_or_eq_of_mem_set hm with h3 | rfl
    ·exact h v h3
    ·exact oU.2 (hv f (by simp))
 refine dC fs _ (fun f hm=>(hf f hm).2.2) ?_
 simp only [akF,List.all_map,List.all_eq_true,Function.comp]
 intro b _;exact atb n ps b
abbrev cN:=Int×Int×Int×List Int
section
variable (y0 y1 y2:Int)(y3:List Int)
def nQ:Bool:=ltI y0 y1
def nR:Bool:=leI 0 y0
def nS:Bool:=ltI y0 (↑y3.length:Int)
def nT:Bool:=ltN y0.toNat y3.length
def nU:Bool:=y2==Option.getD y3[Int.toNat y0]? 0
def nV:Int:=IntKind.wrap .i64 (y0 + (1:Int))
end
def Ud:cN→List (Nat×SV)
 |(y0,y1,y2,_)=> [(8,(.one ⟨false,[.val (.int .i64 y0)]⟩)),(7,(.one ⟨false,[.val (.int .i64 y1)]⟩)),(1,(.one ⟨false,[.val (.int .i64 y2)]⟩)),(0,(.one ⟨false,[.ref 0]⟩))]
def Uc:cN→List (Nat×Entry)
 |(_,_,_,y3)=> [(0,(.row false 2 aj1 y3))]
def Uf:Nat→cN→List (Nat×SV)
 |0,(y0,_,_,_)=> [(4,(.one ⟨false,[.val (.int .i64 y0)]⟩))]
 |_,(_,_,_,_)=> []
def Ue:Nat→cN→List (Nat×Entry)
 |0,(_,_,_,y3)=> [(0,(.row false 2 aj1 y3))]
 |_,(_,_,_,y3)=> [(0,(.row false 2 aj1 y3))]
def nc:cN→LT cN
 |(y0,y1,y2,y3)=> .ite (nQ y0 y1) (.need [nR y0,nS y0 y3,nT y0 y3] (.ite (nU y0 y2 y3) (.ext 0 [(0,0)]) (.nrm ((nV y0),y1,y2,y3) [(0,0)]))) (.ext 1 [(0,0)])
def zC(s:St):Option cN:=
 (match s.look 8 with
 |some ⟨none,.one ⟨false,[.val (.int .i64 y0)]⟩⟩=>
 (match s.look 7 with
 |some ⟨none,.one ⟨false,[.val (.int .i64 y1)]⟩⟩=>
 (match s.look 1 with
 |some ⟨none,.one ⟨false,[.val (.int .i64 y2)]⟩⟩=>
 (match s.look 0 with
 |some ⟨none,.one ⟨false,[.ref 0]⟩⟩=>
 (match s.ent 0 with
 |some (.row false 2 (.int .i64) y3)=>
 some (y0,y1,y2,y3)
 |_=>none)
 |_=>none)
 |_=>none)
 |_=>none)
 |_=>none)
def aY:Lp cN where
 h:=⟨[9,10,5,11,12,13,14,15,16,17,4,18,8],[0],[],[]⟩
 JL:=Ud
 JE:=Uc
 XL:=Uf
 XE:=Ue
 q:=fun j=>match j with | 0=> .ret | _=> .exit 0
 tags:= [0,1]
 lt:=nc
 fuel:=fun(y0,y1,y2,y3)=>y0.natAbs + y1.natAbs + y2.natAbs + y3.length
 fix:=fun(_,y1,y2,y3) (y0,_,_,_)=>(y0,y1,y2,y3)
 σ:= [(0,0)]
 rd:=zC
theorem Sy:LoopOk prog (fun k=>Nat.blt k Tryz.f212.ntmps) aY.F (aH f212 0):=by
 refine Lp.ok (tbl:= []) (lf:= []) aO aY (by kernel_rfl) (LOk.nil _) (fun _=>rfl) (fun j _=>by unfold aY;match j with | 0=>rfl | _ + 1=>rfl) ?_ ?_ ?_ ?_ (fun _=>rfl) ?_
 ·rintro⟨y0,y1,y2,y3⟩;kernel_rfl
 ·rintro⟨y0,y1,y2,y3⟩;kernel_rfl
 ·intro s x h
  have h:zC s=some x:=h
  unfold zC at h
  repeat' split at h
  all_goals cases h
  constructor<;>repeat(first|refine ae (by assumption) rfl ?_|refine af rfl (by assumption) rfl ?_|exact rfl)
 ·rintro⟨y0,y1,y2,y3⟩;kernel_rfl
 ·rintro⟨y0,y1,y2,y3⟩ z;exact(And.intro (And.intro trivial rfl) trivial)
section
variable (x0:Int)(x1:List Int)
def ww:Int×Int×Int×List Int:=((0:Int),(↑x1.length:Int),x0,x1)
def Fw:Int:=bif Nat.beq ((Lp.res aY (ww x0 x1)).1) 0 then ((Lp.res aY (ww x0 x1)).2).1else(-1:Int)
def Fx:Bool:=allT [Lp.fin aY (ww x0 x1)]
end
def MP:List SV→List Entry→Option Out
 | [.one ⟨false,[.ref 0]⟩,.one ⟨false,[.val (.int .i64 x0)]⟩],[.row false 2 (.int .i64) x1]=>some ⟨.one ⟨false,[.val (.int .i64 (Fw x0 x1))]⟩,[.row false 2 aj1 x1],[],[Fx x0 x1]⟩
 |_,_=>none
def Fs:PF prog:=PF.ofG prog [] [aY.F] aO 212 f212 func212 (LOk.fnT (l:= [aH f212 0]) (by kernel_rfl) (.cons Sy (.nil _))) MP (by
 intro vs es r h;unfold MP at h;split at h
 ·cases h;kernel_rfl
 ·cases h)
def aW(x0:Int)(x1:List Int):Bool:=leI 0 (Fw x0 x1)
def dY(x0:Int)(x1:List Int):Bool:=allT [Fx x0 x1]
def Kd:List SV→List Entry→Option Out
 | [.one ⟨false,[.ref 0]⟩,.one ⟨false,[.val (.int .i64 x0)]⟩],[.row false 2 (.int .i64) x1]=>some ⟨.one ⟨false,[.val (.bool (aW x0 x1))]⟩,[.row false 2 aj1 x1],[],[dY x0 x1]⟩
 |_,_=>none
def az:PF prog:=PF.ofG prog (T3z [Fs]) [] aO 160 f160 func160 (fun c _=>LOk.nil c) Kd (by
 intro vs es r h;unfold Kd at h;split at h
 ·cases h;kernel_rfl
 ·cases h)
def acY(x0:Bool):Int:=bif x0 then(1:Int)else(0:Int)
def aiF:List SV→List Entry→Option Out
 | [.one ⟨false,[.val (.bool x0)]⟩],[]=>some ⟨.one ⟨false,[.val (.int .i64 (acY x0))]⟩,[],[],[]⟩
 |_,_=>none
def adg:PF prog:=PF.ofG prog [] [] aO 232 f232 func232 (fun c _=>LOk.nil c) aiF (by
 intro vs es r h;unfold aiF at h;split at h
 ·cases h;kernel_rfl
 ·cases h)
abbrev jB:=Int×Int×List Int×List Int
section
variable (y0 y1:Int)(y2 y3:List Int)
def pu:List Int:= [acY (Option.getD y2[Int.toNat y0]? 0==2)]
def AC:Bool:=ltI y0 y1
def AD:Bool:=leI 0 y0
def AE:Bool:=ltI y0 (↑y2.length:Int)
def AF:Bool:=ltN y0.toNat y2.length
def AG:Bool:=leN (List.length y3 + List.length (pu y0 y2)) 9223372036854775807
def AH:Bool:=leN ((List.length y3 + List.length (pu y0 y2)) * 8) 140737488355328
def AJ:Int:=IntKind.wrap .i64 (y0 + (1:Int))
def AK:List Int:=y3++pu y0 y2
end
def ad1:jB→List (Nat×SV)
 |(y0,y1,_,_)=> [(13,(.one ⟨false,[.val (.int .i64 y0)]⟩)),(12,(.one ⟨false,[.val (.int .i64 y1)]⟩)),(11,(.one ⟨false,[.ref 0]⟩)),(5,(.one ⟨false,[.ref 1]⟩))]
def adV:jB→List (Nat×Entry)
 |(_,_,y2,y3)=> [(0,(.row false 2 aj1 y2)),(1,(.row true 2 aj1 y3))]
def aed:Nat→jB→List (Nat×SV)
 |_,(_,_,_,_)=> [(5,(.one ⟨false,[.ref 1]⟩))]
def ad7:Nat→jB→List (Nat×Entry)
 |_,(_,_,y2,y3)=> [(0,(.row false 2 aj1 y2)),(1,(.row true 2 aj1 y3))]
def zg:jB→LT jB
 |(y0,y1,y2,y3)=> .ite (AC y0 y1) (.need [AD y0,AE y0 y2,AF y0 y2] (.need [AG y0 y2 y3,AH y0 y2 y3] (.nrm ((AJ y0),y1,y2,(AK y0 y2 y3)) [(0,0),(1,640)]))) (.ext 0 [(0,0),(1,1)])
def LQ(s:St):Option jB:=
 (match s.look 13 with
 |some ⟨none,.one ⟨false,[.val (.int .i64 y0)]⟩⟩=>
 (match s.look 12 with
 |some ⟨none,.one ⟨false,[.val (.int .i64 y1)]⟩⟩=>
 (match s.look 11 with
 |some ⟨none,.one ⟨false,[.ref 0]⟩⟩=>
 (match s.look 5 with
 |some ⟨none,.one ⟨false,[.ref 256]⟩⟩=>
 (match s.ent 0 with
 |some (.row false 2 (.int .i64) y2)=>
 (match s.ent 256 with
 |some (.row true 2 (.int .i64) y3)=>
 some (y0,y1,y2,y3)
 |_=>none)
 |_=>none)
 |_=>none)
 |_=>none)
 |_=>none)
 |_=>none)
def db:Lp jB where
 h:=⟨[14,15,16,7,17,18,19,20,21,22,5,23,13],[0],[1],[]⟩
 JL:=ad1
 JE:=adV
 XL:=aed
 XE:=ad7
 q:=fun j=>match j with | _=> .exit 0
 tags:= [0]
 lt:=zg
 fuel:=fun(y0,y1,y2,y3)=>y0.natAbs + y1.natAbs + y2.length + y3.length
 fix:=fun(_,y1,y2,_) (y0,_,_,y3)=>(y0,y1,y2,y3)
 σ:= [(0,0),(1,256)]
 rd:=LQ
theorem ab5:LoopOk prog (fun k=>Nat.blt k Tryz.f187.ntmps) db.F (aH f187 0):=by
 refine Lp.ok (tbl:= (T3z [al,adg])) (lf:= []) aO db (by kernel_rfl) (LOk.nil _) (fun _=>rfl) (fun _ _=>rfl) ?_ ?_ ?_ ?_ (fun _=>rfl) ?_
 ·rintro⟨y0,y1,y2,y3⟩;kernel_rfl
 ·rintro⟨y0,y1,y2,y3⟩;kernel_rfl
 ·intro s x h
  have h:LQ s=some x:=h
  unfold LQ at h
  repeat' split at h
  all_goals cases h
  constructor<;>repeat(first|refine ae (by assumption) rfl ?_|refine af rfl (by assumption) rfl ?_|exact rfl)
 ·rintro⟨y0,y1,y2,y3⟩;kernel_rfl
 ·rintro⟨y0,y1,y2,y3⟩ z;exact(And.intro rfl trivial)
abbrev jC:=Int×Int×List (Int×(Int×Int))×List Int×List Int
section
variable (y0 y1:Int)(y2:List (Int×(Int×Int)))(y3 y4:List Int)
def da:Int×Int×Int:=Option.getD y2[Int.toNat y0]? ((0:Int),(0:Int),(0:Int))
def eZ:Bool:=((da y0 y2).2).1==0
def tI:Bool:=leI 0 ((da y0 y2).1)
def AL:Bool:=ltI y0 y1
def AM:Bool:=leI 0 y0
def AO:Bool:=ltI y0 (↑y2.length:Int)
def AP:Bool:=ltN y0.toNat y2.length
def AQ:Bool:= !eZ y0 y2||tI y0 y2
def AR:Bool:= !eZ y0 y2||ltI ((da y0 y2).1) (↑y3.length:Int)
def AU:Bool:= !eZ y0 y2||ltN (Int.toNat ((da y0 y2).1)) y3.length
def AV:Bool:=eZ y0 y2||tI y0 y2
def AW:Bool:=eZ y0 y2||ltI ((da y0 y2).1) (↑y4.length:Int)
def AX:Bool:=eZ y0 y2||ltN (Int.toNat ((da y0 y2).1)) y4.length
def yV:Int:=IntKind.wrap .i64 (y0 + (1:Int))
def yW:List Int:=bif eZ y0 y2 then List.set y3 (Int.toNat ((da y0 y2).1)) ((da y0 y2).2.2)else y3
def yX:List Int:=bif eZ y0 y2 then y4 else List.set y4 (Int.toNat ((da y0 y2).1)) ((da y0 y2).2.2)
end
def ad2:jC→List (Nat×SV)
 |(y0,y1,_,_,_)=> [(30,(.one ⟨false,[.val (.int .i64 y0)]⟩)),(29,(.one ⟨false,[.val (.int .i64 y1)]⟩)),(28,(.one ⟨false,[.ref 0]⟩)),(8,(.one ⟨false,[.ptr 1 0]⟩))]
def adW:jC→List (Nat×Entry)
 |(_,_,y2,y3,y4)=> [(0,(.row false 100 adH y2)),(1,(.box 130 [.ref 2,.ref 3])),(2,(.row true 2 aj1 y3)),(3,(.row true 2 aj1 y4))]
def aee:Nat→jC→List (Nat×SV)
 |_,(_,_,_,_,_)=> []
def ad8:Nat→jC→List (Nat×Entry)
 |_,(_,_,y2,y3,y4)=> [(0,(.row false 100 adH y2)),(1,(.box 130 [.ref 2,.ref 3])),(2,(.row true 2 aj1 y3)),(3,(.row true 2 aj1 y4))]
def zh:jC→LT jC
 |(y0,y1,y2,y3,y4)=> .ite (AL y0 y1) (.need [AM y0,AO y0 y2,AP y0 y2] (.need [AQ y0 y2,AR y0 y2 y3,AU y0 y2 y3,AV y0 y2,AW y0 y2 y4,AX y0 y2 y4] (.nrm ((yV y0),y1,y2,yW y0 y2 y3,(yX y0 y2 y4)) [(0,0),(1,1),(2,2),(3,3)]))) (.ext 0 [(0,0),(1,1),(2,2),(3,3)])
def LR(s:St):Option jC:=
 (match s.look 30 with
 |some ⟨none,.one ⟨false,[.val (.int .i64 y0)]⟩⟩=>
 (match s.look 29 with
 |some ⟨none,.one ⟨false,[.val (.int .i64 y1)]⟩⟩=>
 (match s.look 28 with
 |some ⟨none,.one ⟨false,[.ref 1]⟩⟩=>
 (match s.look 8 with
 |some ⟨none,.one ⟨false,[.ptr 832 0]⟩⟩=>
 (match s.ent 1 with
 |some (.row false 100 (.pair (.int .i64) (.pair (.int .i64) (.int .i64))) y2)=>
 (match s.ent 832 with
 |some (.box 130 [.ref 512,.ref 704])=>
 (match s.ent 512 with
 |some (.row true 2 (.int .i64) y3)=>
 (match s.ent 704 with
 |some (.row true 2 (.int .i64) y4)=>
 some (y0,y1,y2,y3,y4)
 |_=>none)
 |_=>none)
 |_=>none)
 |_=>none)
 |_=>none)
 |_=>none)
 |_=>none)
 |_=>none)
def dc:Lp jC where
 h:=⟨[31,32,33,10,34,35,36,37,38,39,40,41,42,43,44,45,46,47,48,49,50,51,30],[0,1,2,3],[],[]⟩
 JL:=ad2
 JE:=adW
 XL:=aee
 XE:=ad8
 q:=fun j=>match j with | _=> .exit 2
 tags:= [0]
 lt:=zh
 fuel:=fun(y0,y1,y2,y3,y4)=>y0.natAbs + y1.natAbs + y2.length + y3.length + y4.length
 fix:=fun(_,y1,y2,_,_) (y0,_,_,y3,y4)=>(y0,y1,y2,y3,y4)
 σ:= [(0,1),(1,832),(2,512),(3,704)]
 rd:=LR
theorem ab6:LoopOk prog (fun k=>Nat.blt k Tryz.f187.ntmps) dc.F (aH f187 1):=by
 refine Lp.ok (tbl:= (T3z [al,adg])) (lf:= []) aO dc (by kernel_rfl) (LOk.nil _) (fun _=>rfl) (fun _ _=>rfl) ?_ ?_ ?_ ?_ (fun _=>rfl) ?_
 ·rintro⟨y0,y1,y2,y3,y4⟩;kernel_rfl
 ·rintro⟨y0,y1,y2,y3,y4⟩;kernel_rfl
 ·intro s x h
  have h:LR s=some x:=h
  unfold LR at h
  repeat' split at h
  all_goals cases h
  constructor<;>repeat(first|refine ae (by assumption) rfl ?_|refine af rfl (by assumption) rfl ?_|exact rfl)
 ·rintro⟨y0,y1,y2,y3,y4⟩;kernel_rfl
 ·rintro⟨y0,y1,y2,y3,y4⟩ z;exact(And.intro rfl trivial)
section
variable (x0:List Int)(x1:List (Int×Int×Int))
def Ko:Int×Int×List Int×List Int:=((0:Int),(↑x0.length:Int),x0,[])
def zu:List Int:=(Lp.res db (Ko x0)).2.2.2.2
def EL:Int×Int×List (Int×Int×Int)×List Int×List Int:=((0:Int),(↑x1.length:Int),x1,zu x0,zu x0)
def Kp:List Int×List Int:=(Lp.res dc (EL x0 x1)).2.2.2.2
def BW:List Int:=(Kp x0 x1).1
def GQ:List Int:=(Kp x0 x1).2
def Mg:Bool:=allT [Lp.fin db (Ko x0),leN 1 (List.length (zu x0))&&leN (List.length (zu x0)) 1048576,Lp.fin dc (EL x0 x1)]
end
def Zx:List SV→List Entry→Option Out
 | [.one ⟨false,[.ref 0]⟩,.one ⟨false,[.ref 1]⟩],[.row false 2 (.int .i64) x0,.row false 100 (.pair (.int .i64) (.pair (.int .i64) (.int .i64))) x1]=>some ⟨.one ⟨true,[.ref 2,.ref 3]⟩,[.row false 2 aj1 x0,.row false 100 adH x1],[.row true 2 aj1 (BW x0 x1),.row true 2 aj1 (GQ x0 x1)],[Mg x0 x1]⟩
 |_,_=>none
def SJ:PF prog:=PF.ofG prog (T3z [al,adg]) [db.F,dc.F] aO 187 f187 func187 (LOk.fnT (l:= [aH f187 0,aH f187 1]) (by kernel_rfl) (.cons ab5 (.cons ab6 (.nil _)))) Zx (by
 intro vs es r h;unfold Zx at h;split at h
 ·cases h;kernel_rfl
 ·cases h)
def XS(x0:List Int)(x1:List (Int×Int×Int)):Bool:=bif !aW 0 (BW x0 x1)then !aW 0 (GQ x0 x1)else false
def XT(x0:List Int)(x1:List (Int×Int×Int)):Bool:=allT [Mg x0 x1,dY 0 (BW x0 x1),!(!aW 0 (BW x0 x1)&&true)||dY 0 (GQ x0 x1)]
def aey:List SV→List Entry→Option Out
 | [.one ⟨false,[.ref 0]⟩,.one ⟨false,[.ref 1]⟩],[.row false 2 (.int .i64) x0,.row false 100 (.pair (.int .i64) (.pair (.int .i64) (.int .i64))) x1]=>some ⟨.one ⟨false,[.val (.bool (XS x0 x1))]⟩,[.row false 2 aj1 x0,.row false 100 adH x1],[],[XT x0 x1]⟩
 |_,_=>none
def amy:PF prog:=PF.ofG prog (T3z [az,SJ]) [] aO 103 f103 func103 (fun c _=>LOk.nil c) aey (by
 intro vs es r h;unfold aey at h;split at h
 ·cases h;kernel_rfl
 ·cases h)
abbrev fg:=Int×Int×Int×List Int
section
variable (y0 y1 y2:Int)(y3:List Int)
def tW:Bool:=ltI y0 y1
def tX:Bool:=leI 0 y0
def tY:Bool:=ltI y0 (↑y3.length:Int)
def tZ:Bool:=ltN y0.toNat y3.length
def ua:Int:=IntKind.wrap .i64 (y0 + (1:Int))
def ub:List Int:=List.set y3 y0.toNat y2
end
def Zf:fg→List (Nat×SV)
 |(y0,y1,y2,_)=> [(41,(.one ⟨false,[.val (.int .i64 y0)]⟩)),(40,(.one ⟨false,[.val (.int .i64 y1)]⟩)),(0,(.one ⟨false,[.ref 0]⟩)),(5,(.one ⟨false,[.val (.int .i64 y2)]⟩))]
def Zd:fg→List (Nat×Entry)
 |(_,_,_,y3)=> [(0,(.row true 2 aj1 y3))]
def Zj:Nat→fg→List (Nat×SV)
 |_,(_,_,_,_)=> []
def Zh:Nat→fg→List (Nat×Entry)
 |_,(_,_,_,y3)=> [(0,(.row true 2 aj1 y3))]
def sJ:fg→LT fg
 |(y0,y1,y2,y3)=> .ite (tW y0 y1) (.need [tX y0,tY y0 y3,tZ y0 y3] (.nrm ((ua y0),y1,y2,(ub y0 y2 y3)) [(0,0)])) (.ext 0 [(0,0)])
def Gg(s:St):Option fg:=
 (match s.look 41 with
 |some ⟨none,.one ⟨false,[.val (.int .i64 y0)]⟩⟩=>
 (match s.look 40 with
 |some ⟨none,.one ⟨false,[.val (.int .i64 y1)]⟩⟩=>
 (match s.look 0 with
 |some ⟨none,.one ⟨false,[.ref 0]⟩⟩=>
 (match s.look 5 with
 |some ⟨none,.one ⟨false,[.val (.int .i64 y2)]⟩⟩=>
 (match s.ent 0 with
 |some (.row true 2 (.int .i64) y3)=>
 some (y0,y1,y2,y3)
 |_=>none)
 |_=>none)
 |_=>none)
 |_=>none)
 |_=>none)
def bj:Lp fg where
 h:=⟨[42,43,6,44,45,46,47,48,41],[0],[],[]⟩
 JL:=Zf
 JE:=Zd
 XL:=Zj
 XE:=Zh
 q:=fun j=>match j with | _=> .exit 1
 tags:= [0]
 lt:=sJ
 fuel:=fun(y0,y1,y2,y3)=>y0.natAbs + y1.natAbs + y2.natAbs + y3.length
 fix:=fun(_,y1,y2,_) (y0,_,_,y3)=>(y0,y1,y2,y3)
 σ:= [(0,0)]
 rd:=Gg
theorem WX:LoopOk prog (fun k=>Nat.blt k Tryz.f205.ntmps) bj.F (aH f205 0):=by
 refine Lp.ok (tbl:= (T3z [az,kU])) (lf:= []) aO bj (by kernel_rfl) (LOk.nil _) (fun _=>rfl) (fun _ _=>rfl) ?_ ?_ ?_ ?_ (fun _=>rfl) ?_
 ·rintro⟨y0,y1,y2,y3⟩;kernel_rfl
 ·rintro⟨y0,y1,y2,y3⟩;kernel_rfl
 ·intro s x h
  have h:Gg s=some x:=h
  unfold Gg at h
  repeat' split at h
  all_goals cases h
  constructor<;>repeat(first|refine ae (by assumption) rfl ?_|refine af rfl (by assumption) rfl ?_|exact rfl)
 ·rintro⟨y0,y1,y2,y3⟩;kernel_rfl
 ·rintro⟨y0,y1,y2,y3⟩ z;exact(And.intro rfl trivial)
section
variable (x0 x1:Int)(x2:List Int)
def ci:Bool:=bif x0==0 then x0==0 else x0==1
def Kq:Int:=Option.getD x2[Int.toNat x1]? 0
def oe:Bool:=Kq x1 x2 !=IntKind.wrap .i64 (IntKind.wrap .i64 (x0 - (0:Int)) + (0:Int))
def Kr:Int×Int×Int×List Int:=((0:Int),(↑x2.length:Int),(2:Int),x2)
def Ks:Int×Int×Int×List Int:=((0:Int),(↑x2.length:Int),(1:Int),x2)
def wY:Bool:= !ci x0||(oe x0 x1 x2||leI 0 x1)
def wZ:Bool:= !ci x0||(oe x0 x1 x2||ltI x1 (↑x2.length:Int))
def xa:Bool:= !ci x0||(oe x0 x1 x2||ltN x1.toNat x2.length)
def yY:Bool:=bif ci x0 then bif oe x0 x1 x2 then false else true else bif x0==2 then bif aW 0 x2 then false else true else bif !FU x2 then false else true
def yZ:List Int:=bif ci x0 then bif oe x0 x1 x2 then x2 else List.set x2 x1.toNat (IntKind.wrap .i64 ((1:Int) - Kq x1 x2))else bif x0==2 then bif aW 0 x2 then x2 else (Lp.res bj (Kr x2)).2.2.2.2else bif !FU x2 then x2 else (Lp.res bj (Ks x2)).2.2.2.2
def za:Bool:=allT [!ci x0||leI 0 x1,!ci x0||ltI x1 (↑x2.length:Int),!ci x0||ltN x1.toNat x2.length,ci x0||(!x0==2||dY 0 x2),ci x0||(x0==2||leN x2.length (9223372036854775807:Nat)),wY x0 x1 x2,wZ x0 x1 x2,xa x0 x1 x2,wY x0 x1 x2,wZ x0 x1 x2,xa x0 x1 x2,ci x0||(!x0==2||(aW 0 x2||Lp.fin bj (Kr x2))),ci x0||(x0==2||(!FU x2||Lp.fin bj (Ks x2)))]
end
def TM:List SV→List Entry→Option Out
 | [.one ⟨false,[.ref 0]⟩,.one ⟨true,[.val (.int .i64 x0),.val (.int .i64 x1)]⟩],[.row true 2 (.int .i64) x2]=>some ⟨.one ⟨false,[.val (.bool (yY x0 x1 x2))]⟩,[.row true 2 aj1 (yZ x0 x1 x2)],[],[za x0 x1 x2]⟩
 |_,_=>none
def aev:PF prog:=PF.ofG prog (T3z [az,kU]) [bj.F] aO 205 f205 func205 (LOk.fnT (l:= [aH f205 0]) (by kernel_rfl) (.cons WX (.nil _))) TM (by
 intro vs es r h;unfold TM at h;split at h
 ·cases h;kernel_rfl
 ·cases h)
section
variable (x0 x1:Int)(x2:Bool)(x3:Int)
def nG:Int×Int×Int×Bool:=Option.getD akw[Int.toNat x0]? ((0:Int),(0:Int),(0:Int),false)
def nH:Int×Bool:=(nG x0).2.2
def jr:Int:=bif IntKind.wrap .i64 (↑(BitVec.toNat (BitVec.ofInt (IntKind.bits IntKind.i64) (Int.fdiv ((nG x0).1) ((2:Int) ^ min x3.toNat (IntKind.bits IntKind.i64)))&&& BitVec.ofInt (IntKind.bits IntKind.i64) 1)):Int)==0 then(1:Int)else bif ltI x1 ((nH x0).1)then(2:Int)else bif bif (nH x0).2then !x2 else false then(3:Int)else(0:Int)
def jt:Bool:=allT [leI 0 x0,ltI x0 (↑(List.length akw):Int),ltN x0.toNat (List.length akw),leI 0 x3]
end
def wI:List SV→List Entry→Option Out
 | [.one ⟨true,[.val (.int .i64 x0),.val (.int .i64 x1),.val (.bool x2)]⟩,.one ⟨false,[.val (.int .i64 x3)]⟩],[]=>some ⟨.one ⟨false,[.val (.int .i64 (jr x0 x1 x2 x3))]⟩,[],[],[jt x0 x3]⟩
 |_,_=>none
def xo:PF prog:=PF.ofG prog [] [] aO 206 f206 func206 (fun c _=>LOk.nil c) wI (by
 intro vs es r h;unfold wI at h;split at h
 ·cases h;kernel_rfl
 ·cases h)
def jH(x0 x1:Int):Int:=IntKind.wrap .i64 (x1 + x0)
def DK:List SV→List Entry→Option Out
 | [.one ⟨true,[.val (.int .i64 x0),.val (.int .i64 x1)]⟩],[]=>some ⟨.one ⟨false,[.val (.int .i64 (jH x0 x1))]⟩,[],[],[]⟩
 |_,_=>none
def DL:PF prog:=PF.ofG prog [] [] aO 239 f239 func239 (fun c _=>LOk.nil c) DK (by
 intro vs es r h;unfold DK at h;split at h
 ·cases h;kernel_rfl
 ·cases h)
abbrev lD:=Int×Int×Int×List (Int×Int)×List Int
section
variable (y0 y1 y2:Int)(y3:List (Int×Int))(y4:List Int)
def yc:Int×Int:=Option.getD y3[Int.toNat y0]? ((0:Int),(0:Int))
def sW:Bool:=leI (jH ((yc y0 y3).1) ((yc y0 y3).2)) y2
def ED:Bool:=ltI y0 y1
def EE:Bool:=leI 0 y0
def EF:Bool:=ltI y0 (↑y3.length:Int)
def EG:Bool:=ltN y0.toNat y3.length
def EH:Bool:= !sW y0 y2 y3||leN (List.length y4 + List.length [y0]) (9223372036854775807:Nat)
def EI:Bool:= !sW y0 y2 y3||leN ((List.length y4 + List.length [y0]) * (8:Nat)) (140737488355328:Nat)
def EJ:Bool:=sW y0 y2 y3
def zt:Int:=IntKind.wrap .i64 (y0 + (1:Int))
def EK:List Int:=y4++ [y0]
end
def agu:lD→List (Nat×SV)
 |(y0,y1,y2,_,_)=> [(10,(.one ⟨false,[.val (.int .i64 y0)]⟩)),(9,(.one ⟨false,[.val (.int .i64 y1)]⟩)),(8,(.one ⟨false,[.ref 0]⟩)),(1,(.one ⟨false,[.val (.int .i64 y2)]⟩)),(5,(.one ⟨false,[.ref 1]⟩))]
def agk:lD→List (Nat×Entry)
 |(_,_,_,y3,y4)=> [(0,(.row false 173 aej y3)),(1,(.row true 2 aj1 y4))]
def agO:Nat→lD→List (Nat×SV)
 |_,(_,_,_,_,_)=> [(5,(.one ⟨false,[.ref 1]⟩))]
def agE:Nat→lD→List (Nat×Entry)
 |_,(_,_,_,y3,y4)=> [(0,(.row false 173 aej y3)),(1,(.row true 2 aj1 y4))]
def CO:lD→LT lD
 |(y0,y1,y2,y3,y4)=> .ite (ED y0 y1) (.need [EE y0,EF y0 y3,EG y0 y3] (.need [EH y0 y2 y3 y4,EI y0 y2 y3 y4] (.ite (EJ y0 y2 y3) (.nrm ((zt y0),y1,y2,y3,(EK y0 y4)) [(0,0),(1,960)]) (.nrm ((zt y0),y1,y2,y3,y4) [(0,0),(1,1)])))) (.ext 0 [(0,0),(1,1)])
def Pf(s:St):Option lD:=
 (match s.look 10 with
 |some ⟨none,.one ⟨false,[.val (.int .i64 y0)]⟩⟩=>
 (match s.look 9 with
 |some ⟨none,.one ⟨false,[.val (.int .i64 y1)]⟩⟩=>
 (match s.look 8 with
 |some ⟨none,.one ⟨false,[.ref 0]⟩⟩=>
 (match s.look 1 with
 |some ⟨none,.one ⟨false,[.val (.int .i64 y2)]⟩⟩=>
 (match s.look 5 with
 |some ⟨none,.one ⟨false,[.ref 192]⟩⟩=>
 (match s.ent 0 with
 |some (.row false 173 (.pair (.int .i64) (.int .i64)) y3)=>
 (match s.ent 192 with
 |some (.row true 2 (.int .i64) y4)=>
 some (y0,y1,y2,y3,y4)
 |_=>none)
 |_=>none)
 |_=>none)
 |_=>none)
 |_=>none)
 |_=>none)
 |_=>none)
def fN:Lp lD where
 h:=⟨[11,12,13,14,7,6,15,16,17,18,19,20,21,22,5,23,10],[0],[1],[]⟩
 JL:=agu
 JE:=agk
 XL:=agO
 XE:=agE
 q:=fun j=>match j with | _=> .exit 0
 tags:= [0]
 lt:=CO
 fuel:=fun(y0,y1,y2,y3,y4)=>y0.natAbs + y1.natAbs + y2.natAbs + y3.length + y4.length
 fix:=fun(_,y1,y2,y3,_) (y0,_,_,_,y4)=>(y0,y1,y2,y3,y4)
 σ:= [(0,0),(1,192)]
 rd:=Pf
theorem aen:LoopOk prog (fun k=>Nat.blt k Tryz.f234.ntmps) fN.F (aH f234 0):=by
 refine Lp.ok (tbl:= [DL]) (lf:= []) aO fN (by kernel_rfl) (LOk.nil _) (fun _=>rfl) (fun _ _=>rfl) ?_ ?_ ?_ ?_ (fun _=>rfl) ?_
 ·rintro⟨y0,y1,y2,y3,y4⟩;kernel_rfl
 ·rintro⟨y0,y1,y2,y3,y4⟩;kernel_rfl
 ·intro s x h
  have h:Pf s=some x:=h
  unfold Pf at h
  repeat' split at h
  all_goals cases h
  constructor<;>repeat(first|refine ae (by assumption) rfl ?_|refine af rfl (by assumption) rfl ?_|exact rfl)
 ·rintro⟨y0,y1,y2,y3,y4⟩;kernel_rfl
 ·rintro⟨y0,y1,y2,y3,y4⟩ z;exact(And.intro (And.intro rfl rfl) trivial)
section
variable (x0:Int)(x1:List (Int×Int))
def Oe:Int×Int×Int×List (Int×Int)×List Int:=((0:Int),(↑x1.length:Int),x0,x1,[])
def Qp:List Int:=(Lp.res fN (Oe x0 x1)).2.2.2.2.2
def Qq:Bool:=allT [Lp.fin fN (Oe x0 x1)]
end
def adr:List SV→List Entry→Option Out
 | [.one ⟨false,[.ref 0]⟩,.one ⟨false,[.val (.int .i64 x0)]⟩],[.row false 173 (.pair (.int .i64) (.int .i64)) x1]=>some ⟨.one ⟨false,[.ref 1]⟩,[.row false 173 aej x1],[.row true 2 aj1 (Qp x0 x1)],[Qq x0 x1]⟩
 |_,_=>none
def Wj:PF prog:=PF.ofG prog [DL] [fN.F] aO 234 f234 func234 (LOk.fnT (l:= [aH f234 0]) (by kernel_rfl) (.cons aen (.nil _))) adr (by
 intro vs es r h;unfold adr at h;split at h
 ·cases h;kernel_rfl
 ·cases h)
section
variable (x0:Int)(x1 x2:List (Int×Int))
def QE:Bool:=(bif bif okPl x1 then okLk x2 else false then Ag x0 else false)&&true
def Ss:Bool:=bif bif bif bif okPl x1 then okLk x2 else false then Ag x0 else false then(↑(List.length (bif QE x0 x1 x2 then Qp x0 x1 else [])):Int)==0 else false then(↑x2.length:Int)==0 else false
def Su:Bool:=allT [leN x1.length (9223372036854775807:Nat),!(okPl x1&&true)||leN x2.length (9223372036854775807:Nat),!QE x0 x1 x2||Qq x0 x1]
end
def Zv:List SV→List Entry→Option Out
 | [.one ⟨false,[.ref 0]⟩,.one ⟨false,[.ref 1]⟩,.one ⟨false,[.val (.int .i64 x0)]⟩],[.row false 173 (.pair (.int .i64) (.int .i64)) x1,.row false 176 (.pair (.int .i64) (.int .i64)) x2]=>some ⟨.one ⟨false,[.val (.bool (Ss x0 x1 x2))]⟩,[.row false 173 aej x1,.row false 176 aej x2],[],[Su x0 x1 x2]⟩
 |_,_=>none
def ajl:PF prog:=PF.ofG prog (T3z [Wj,Ak,uv,SI]) [] aO 207 f207 func207 (fun c _=>LOk.nil c) Zv (by
 intro vs es r h;unfold Zv at h;split at h
 ·cases h;kernel_rfl
 ·cases h)
section
variable (x0 x1:Int)(x2:Bool)(x3:Int)
def gp:Bool:=jr x0 x1 x2 x3==0
def qw:Int:=bif gp x0 x1 x2 x3 then ((Option.getD akw[Int.toNat x0]? ((0:Int),(0:Int),(0:Int),false)).2).1else x3
def qx:Bool:=allT [jt x0 x3,!gp x0 x1 x2 x3||leI 0 x0,!gp x0 x1 x2 x3||ltI x0 (↑(List.length akw):Int),!gp x0 x1 x2 x3||ltN x0.toNat (List.length akw)]
end
def zR:List SV→List Entry→Option Out
 | [.one ⟨true,[.val (.int .i64 x0),.val (.int .i64 x1),.val (.bool x2)]⟩,.one ⟨false,[.val (.int .i64 x3)]⟩],[]=>some ⟨.one ⟨false,[.val (.int .i64 (qw x0 x1 x2 x3))]⟩,[],[],[qx x0 x1 x2 x3]⟩
 |_,_=>none
def ME:PF prog:=PF.ofG prog [xo] [] aO 208 f208 func208 (fun c _=>LOk.nil c) zR (by
 intro vs es r h;unfold zR at h;split at h
 ·cases h;kernel_rfl
 ·cases h)
section
variable (x0 x1 x2:Int)
def amQ:List Int:=bif x0==0 then [(0:Int)]else bif x0==2 then [(3:Int)]else bif x0==3 then [(1:Int),(2:Int),(3:Int),(4:Int),(5:Int)]else bif bif x0==4 then x0==4 else x0==5 then [(4:Int)]else bif x0==6 then [(5:Int)]else bif x0==7 then [(0:Int),(2:Int)]else bif x0==8 then [(1:Int)]else [(2:Int)]
def adT:Int:=bif x0==3 then(0:Int)else bif bif x0==4 then x0==4 else bif x0==7 then x0==7 else x0==8 then(2:Int)else bif bif x0==5 then x0==5 else x0==6 then(3:Int)else(1:Int)
def ahs:Bool:=bif bif bif x0==0 then true else x0==4 then true else x0==7 then true else x0==8
def aoJ:Int:=Option.getD [(2:Int),(3:Int),(2:Int),(4:Int),(2:Int),(5:Int),(4:Int),(1:Int),(2:Int),(0:Int)][Int.toNat x0]? 0
def aoK:Bool:=allT [leI 0 x0,ltI x0 (↑(List.length [(2:Int),(3:Int),(2:Int),(4:Int),(2:Int),(5:Int),(4:Int),(1:Int),(2:Int),(0:Int)]):Int),ltN x0.toNat (List.length [(2:Int),(3:Int),(2:Int),(4:Int),(2:Int),(5:Int),(4:Int),(1:Int),(2:Int),(0:Int)])]
def Kn:Bool:=bif bif x1==0 then x1==0 else x1==1 then bp x2 0 (IntKind.wrap .i64 (x0 - (1:Int)))else bif bif x1==2 then x1==2 else x1==3 then x2==0 else false
end
def Sj:List SV→List Entry→Option Out
 | [.one ⟨false,[.val (.int .i64 x0)]⟩,.one ⟨true,[.val (.int .i64 x1),.val (.int .i64 x2)]⟩],[]=>some ⟨.one ⟨false,[.val (.bool (Kn x0 x1 x2))]⟩,[],[],[]⟩
 |_,_=>none
def adf:PF prog:=PF.ofG prog [fl] [] aO 184 f184 func184 (fun c _=>LOk.nil c) Sj (by
 intro vs es r h;unfold Sj at h;split at h
 ·cases h;kernel_rfl
 ·cases h)
def aaZ(x0:Int):Bool:=bp x0 0 3
def ag7:List SV→List Entry→Option Out
 | [.one ⟨false,[.val (.int .i64 x0)]⟩],[]=>some ⟨.one ⟨false,[.val (.bool (aaZ x0))]⟩,[],[],[]⟩
 |_,_=>none
def anb:PF prog:=PF.ofG prog [fl] [] aO 231 f231 func231 (fun c _=>LOk.nil c) ag7 (by
 intro vs es r h;unfold ag7 at h;split at h
 ·cases h;kernel_rfl
 ·cases h)
def Uk(x0 x1:Int):Bool:=bif bp x0 0 9 then aaZ x1 else false
def abf:List SV→List Entry→Option Out
 | [.one ⟨true,[.val (.int .i64 x0),.val (.int .i64 x1),.val (.bool _x2)]⟩],[]=>some ⟨.one ⟨false,[.val (.bool (Uk x0 x1))]⟩,[],[],[]⟩
 |_,_=>none
def ake:PF prog:=PF.ofG prog [anb,fl] [] aO 185 f185 func185 (fun c _=>LOk.nil c) abf (by
 intro vs es r h;unfold abf at h;split at h
 ·cases h;kernel_rfl
 ·cases h)
def aoa(k r:Int):Bool:=inR k 0 9&&inR r 0 3
def atQ(k:Int):List Int:=amQ k
def vdC(m k r:Int)(dC:Bool):Int:=bif !(atQ k).any (· ==m)then 1 else bif ltI r (adT k)then 2 else bif bif ahs k then !dC else false then 3 else 0
def toC(k:Int):Int:=aoJ k
def nxC(m k r:Int)(dC:Bool):Int:=bif vdC m k r dC==0 then toC k else m
def ano(m k:Int):Bool:=inR k 0 9&&inR m 0 5
theorem aqs(k r:Int):Uk k r=aoa k r:=by
 simp only [Uk,aaZ,bp,AY,aoa]
 cases inR k 0 9 <;> rfl
theorem asZ{m k:Int}(h:ano m k=true): ∃ (a:Fin 10) (b:Fin 6),k=(a.val:Int)∧m=(b.val:Int):=by
 simp only [ano,Bool.and_eq_true,oU]at h
 exact⟨⟨k.toNat,by omega⟩,⟨m.toNat,by omega⟩,by simp;omega,by simp;omega⟩
theorem asV: ∀ (a:Fin 10) (b:Fin 6),(IntKind.i64.wrap (↑(BitVec.toNat (BitVec.ofInt (IntKind.bits IntKind.i64) (Int.fdiv ((Option.getD akw[Int.toNat (a.val:Int)]? ((0:Int),(0:Int),(0:Int),false)).1) ((2:Int) ^ min (Int.toNat (b.val:Int)) (IntKind.bits IntKind.i64)))&&& BitVec.ofInt (IntKind.bits IntKind.i64) (1:Int))):Int)==(0:Int))= !(atQ (a.val:Int)).any (· ==(b.val:Int)):=by decide
theorem apW: ∀ a:Fin 10,(Option.getD akw[Int.toNat (a.val:Int)]? ((0:Int),(0:Int),(0:Int),false)).2=(toC (a.val:Int),adT (a.val:Int),ahs (a.val:Int)):=by decide
theorem asW: ∀ a:Fin 10,ltI (a.val:Int) (akw.length:Int)=true∧ltN (Int.toNat (a.val:Int)) akw.length=true∧aoK (a.val:Int)=true:=by decide
theorem anD(m k r:Int)(dC:Bool)(h:ano m k=true):jr k r dC m=vdC m k r dC∧jt k m=true:=by
 obtain⟨a,b,rfl,rfl⟩:=asZ h
 obtain⟨n1,n2,_⟩:=asW a
 have n0:leI 0 (a.val:Int)=true:=cR (by omega)
 have n3:leI 0 (b.val:Int)=true:=cR (by omega)
 simp only [jr,jt,nG,nH,asV,apW,n0,n1,n2,n3,vdC,allT,cond_true,and_self]
theorem arG(m k r:Int)(dC:Bool)(h:ano m k=true):qw k r dC m=nxC m k r dC∧qx k r dC m=true:=by
 obtain⟨h1,h2⟩:=anD m k r dC h
 obtain⟨a,b,rfl,rfl⟩:=asZ h
 obtain⟨n1,n2,_⟩:=asW a
 have n0:leI 0 (a.val:Int)=true:=cR (by omega)
 simp only [qw,qx,gp,h1,h2,n0,n1,n2,apW,nxC,allT,Bool.or_true,cond_true,and_self]
def abz:List SV→List Entry→Option Out
 | [.one ⟨true,[.val (.int .i64 x0),.val (.int .i64 x1),.val (.bool _x2)]⟩],[]=>some ⟨.one ⟨false,[.val (.bool (aoa x0 x1))]⟩,[],[],[]⟩
 |_,_=>none
def aj8:PF prog:=PF.alt ake abz (by
 intro args es o h bE;unfold abz at h;split at h
 ·rename_i x0 x1 _x2
  cases h
  have hh:=aqs x0 x1
  have e0:=hh
  exact nO rfl (fun _ h=>by cases h) (by simp only [e0] <;> rfl) rfl rfl
 ·cases h)
def wK:List SV→List Entry→Option Out
 | [.one ⟨true,[.val (.int .i64 x0),.val (.int .i64 x1),.val (.bool x2)]⟩,.one ⟨false,[.val (.int .i64 x3)]⟩],[]=>some ⟨.one ⟨false,[.val (.int .i64 (vdC x3 x0 x1 x2))]⟩,[],[],[ano x3 x0]⟩
 |_,_=>none
def Kz:PF prog:=PF.alt xo wK (by
 intro args es o h bE;unfold wK at h;split at h
 ·rename_i x0 x1 x2 x3
  cases h
  have bE:=jW bE
  have hh:=anD x3 x0 x1 x2 bE
  obtain⟨e0,en⟩:=hh
  exact nO rfl (iY en) (by simp only [e0] <;> rfl) rfl rfl
 ·cases h)
def zZ:List SV→List Entry→Option Out
 | [.one ⟨true,[.val (.int .i64 x0),.val (.int .i64 x1),.val (.bool x2)]⟩,.one ⟨false,[.val (.int .i64 x3)]⟩],[]=>some ⟨.one ⟨false,[.val (.int .i64 (nxC x3 x0 x1 x2))]⟩,[],[],[ano x3 x0]⟩
 |_,_=>none
def MD:PF prog:=PF.alt ME zZ (by
 intro args es o h bE;unfold zZ at h;split at h
 ·rename_i x0 x1 x2 x3
  cases h
  have bE:=jW bE
  have hh:=arG x3 x0 x1 x2 bE
  obtain⟨e0,en⟩:=hh
  exact nO rfl (iY en) (by simp only [e0] <;> rfl) rfl rfl
 ·cases h)
def at2(pl:List (Int×Int))(day:Int)(b:Nat):Bool:=leI (IntKind.i64.wrap ((pl[b]?.getD ((0:Int),(0:Int))).2 + (pl[b]?.getD ((0:Int),(0:Int))).1)) day
def at3(pl:List (Int×Int))(day:Int):List Int:=((List.range pl.length).filter (at2 pl day)).map fun b:Nat=>(b:Int)
def aow(pl ls:List (Int×Int))(day:Int):Bool:=okPl pl&&(okLk ls&&(inR day 0 100000&&((at3 pl day).length==0&&ls.length==0)))
theorem akG(P:Nat→Bool): ∀ (r:List Nat) (a:List Int),r.foldl (fun a b=>bif P b then a++ [(b:Int)]else a) a=a++(r.filter P).map fun b:Nat=>(b:Int)
 | [],a=>by simp
 |b::r,a=>by
  rw [List.foldl_cons,akG P r]
  cases h:P b <;> simp [List.filter_cons,h]
theorem apx{pl:List (Int×Int)}(h:okPl pl=true):pl.length≤12:=by
 simp only [okPl,Bool.and_eq_true,dD]at h;exact h.1
def rl(y2:Int)(y3:List (Int×Int))(b:Nat):(List Int)→Nat ⊕ (List Int)
 |y4=>(bif(leI (jH ((Option.getD y3[b]? ((0:Int),(0:Int))).1) ((Option.getD y3[b]? ((0:Int),(0:Int))).2)) y2)then(.inr (y4++ [(↑b:Int)]))else(.inr y4))
def pn(y2:Int)(y3:List (Int×Int))(i:Nat):(List Int)→lD
 |y4=>((i:Int),(↑y3.length:Int),y2,y3,y4)
def OV:lD→List Int
 |(_,_,_,_,y4)=>y4
theorem aix(y2:Int)(y3:List (Int×Int))(y4:List Int)(hn:y3.length≤9223372036854775807)(h12:y3.length≤12)(h3:y4= []):
  fN.fin ((0:Int),(↑y3.length:Int),y2,y3,y4)=true∧fN.res ((0:Int),(↑y3.length:Int),y2,y3,y4)=((aL (rl y2 y3) 0 (List.range y3.length) 0 y4).1,(pn y2 y3) (aL (rl y2 y3) 0 (List.range y3.length) 0 y4).2.1 (aL (rl y2 y3) 0 (List.range y3.length) 0 y4).2.2):=by
 have dC:=fN.along (pn y2 y3) OV (rl y2 y3) 0 (fun i a=>a.length≤i) (List.range y3.length) y4 (by subst h3;simp) (by simp only [fN,pn,List.length_range];omega) (fun i b a hb hI=> ?_) (fun a hI=> ?_)
 ·exact dC
 ·obtain y4:=a
  obtain⟨rfl,eO⟩:=od hb
  have hw:IntKind.i64.wrap ((b:Int) + 1)=((b + 1:Nat):Int):=by rw [ar (by omega) (by omega)];omega
  have cm:ltI (b:Int) (y3.length:Int)=true:=eg (by omega)
  have tS:leI (0:Int) (b:Int)=true:=cR (by omega)
  have io:ltN b y3.length=true:=gC (by omega)
  refine⟨?_,?_,?_,?_⟩
  ·have h6:leN (a.length + 1) 9223372036854775807=true:=dj (by omega)
   have h7:leN ((a.length + 1) * 8) 140737488355328=true:=dj (by omega)
   simp [yc,sW,ED,EE,EF,EG,EH,EI,EJ,zt,EK,CO,fN,LT.nds,allT,pn,cm,tS,io,h6,h7]
  ·simp [yc,sW,ED,EE,EF,EG,EH,EI,EJ,zt,EK,CO,fN,LT.each,pn,OV,hw]
  ·simp only [yc,sW,ED,EE,EF,EG,EH,EI,EJ,zt,EK,CO,fN,LT.fn,pn,OV,rl,Int.toNat_natCast,cm,tS,io,cond_true,Bool.cond_self]
  ·intro a' hf
   simp only [rl,jH]at hf
   revert hf
   cases leI (IntKind.wrap .i64 ((Option.getD y3[b]? ((0:Int),(0:Int))).2 + (Option.getD y3[b]? ((0:Int),(0:Int))).1)) y2 <;> intro hf <;> (simp only [cond_true,cond_false,Sum.inr.injEq]at hf;subst hf;(try simp only [List.length_append,List.length_singleton]);omega)
 ·obtain y4:=a
  simp [yc,sW,ED,EE,EF,EG,EH,EI,EJ,zt,EK,CO,fN,LT.out,pn,List.length_range]
theorem aqt(day:Int)(pl:List (Int×Int))(h:pl.length≤12):Qp day pl=at3 pl day∧Qq day pl=true:=by
 obtain⟨w1,w2⟩:=aix day pl [] (by omega) h rfl
 rw [BN (f:=rl day pl) (g:=fun a b=>bif at2 pl day b then a++ [(b:Int)]else a) (fun b a=>by simp only [rl,jH,at2];cases leI _ day <;> rfl),akG]at w2
 exact⟨by simp only [Qp,Oe,w2,pn,List.nil_append,at3],by simp only [Qq,Oe,w1,allT,cond_true]⟩
theorem auH(n:Nat):((n:Int)==0)=(n==0):=by cases n <;> rfl
theorem aqw(day:Int)(pl ls:List (Int×Int))(h:(leN pl.length 9223372036854775807&&leN ls.length 9223372036854775807)=true):Ss day pl ls=aow pl ls day∧Su day pl ls=true:=by
 simp only [Bool.and_eq_true]at h
 have e:Ag day=inR day 0 100000:=by simp only [Ag,bp,AY]
 simp only [Ss,Su,QE,e,h.1,h.2,auH,aow,allT]
 cases hp:okPl pl with
 |false=>simp
 |true=>
  obtain⟨e1,e2⟩:=aqt day pl (apx hp)
  rw [e1,e2]
  cases hi:inR day 0 100000 <;> cases okLk ls <;> cases ls.length==0 <;> simp
def ZE:List SV→List Entry→Option Out
 | [.one ⟨false,[.ref 0]⟩,.one ⟨false,[.ref 1]⟩,.one ⟨false,[.val (.int .i64 x0)]⟩],[.row false 173 (.pair (.int .i64) (.int .i64)) x1,.row false 176 (.pair (.int .i64) (.int .i64)) x2]=>some ⟨.one ⟨false,[.val (.bool (aow x1 x2 x0))]⟩,[.row false 173 aej x1,.row false 176 aej x2],[],[leN x1.length 9223372036854775807&&leN x2.length 9223372036854775807]⟩
 |_,_=>none
def SC:PF prog:=PF.alt ajl ZE (by
 intro args es o h bE;unfold ZE at h;split at h
 ·rename_i x0 x1 x2
  cases h
  have bE:=jW bE
  have hh:=aqw x0 x1 x2 bE
  obtain⟨e0,en⟩:=hh
  exact nO rfl (iY en) (by simp only [e0] <;> rfl) rfl rfl
 ·cases h)
theorem auw{n:Int}{fs:List (Int×Int×Int)}(h:lfOk n fs=true):fs.length≤8∧ ∀ f∈fs,(0≤f.1∧f.1 < n)∧(f.2.1=0∨f.2.1=1)∧(f.2.2=0∨f.2.2=1):=by
 simp only [lfOk,okFs,Bool.and_eq_true,dD,List.all_eq_true,List.mem_range,oU]at h
 refine⟨h.2.1,fun f hf=> ?_⟩
 obtain⟨b,hb,rfl⟩:=List.getElem_of_mem hf
 have h3:=h.2.2 b hb
 simp only [Bool.not_eq_true',Bool.or_eq_false_iff,aie,fAt,List.getElem?_eq_getElem hb,Option.getD_some,Bool.not_eq_false']at h3
 have h4:=h3.1
 simp only [fIn,Bool.and_eq_true,oU]at h4
 rw [ar (by omega) (by omega)]at h4
 omega
def lkB(st:List Int):List Int:=st.map fun v=>bif v==2 then 1 else 0
def lkC(st:List Int)(lf:List (Int×Int×Int))(ch:Int):List Int:=lf.foldl (ani ch) (lkB st)
def akm(st:List Int)(lf:List (Int×Int×Int)):Bool:= !(lkC st lf 0).any (· ==0)&& !(lkC st lf 1).any (· ==0)
def arW(st:List Int)(lf:List (Int×Int×Int)):Bool:=areR st&&lfOk (st.length:Int) lf
theorem ac1(st:List Int):(lkB st).length=st.length:=by simp [lkB]
theorem amk(st:List Int)(lf:List (Int×Int×Int))(ch:Int):(lkC st lf ch).length=st.length:=by rw [lkC,Uh,ac1]
def kE(y2 b:Int):(Unit)→Nat ⊕ (Unit)
 |_=>(bif(y2==b)then(.inl 0)else(.inr ()))
def eY(y2:Int)(y3:List Int)(i:Nat):(Unit)→cN
 |_=>((i:Int),(↑y3.length:Int),y2,y3)
def zB:cN→Unit
 |(_,_,_,_)=>()
theorem VA(y2:Int)(y3:List Int) (hn:y3.length≤9223372036854775807):
  aY.fin ((0:Int),(↑y3.length:Int),y2,y3)=true∧aY.res ((0:Int),(↑y3.length:Int),y2,y3)=((aL (kE y2) 1 y3 0 ()).1,(eY y2 y3) (aL (kE y2) 1 y3 0 ()).2.1 (aL (kE y2) 1 y3 0 ()).2.2):=by
 have dC:=aY.along (eY y2 y3) zB (kE y2) 1 (fun _ _=>True) y3 () (by trivial) (by simp only [aY,eY];omega) (fun i b a hb hI=> ?_) (fun a hI=> ?_)
 ·exact dC
 ·obtain⟨⟩:=a
  have eO:=(List.getElem?_eq_some_iff.1 hb).1
  have lh: ∀ d,Option.getD y3[i]? d=b:=fun d=>by rw [hb];rfl
  have hw:=DJ eO hn
  have cm:ltI (i:Int) (y3.length:Int)=true:=eg (by omega)
  have tS:leI (0:Int) (i:Int)=true:=cR (by omega)
  have io:ltN i y3.length=true:=gC eO
  refine⟨?_,?_,?_,?_⟩
  ·simp [nQ,nR,nS,nT,nU,nV,nc,aY,LT.nds,allT,eY,cm,tS,io,lh]
  ·simp [nQ,nR,nS,nT,nU,nV,nc,aY,LT.each,eY,zB,hw]
  ·simp only [nQ,nR,nS,nT,nU,nV,nc,aY,LT.fn,eY,zB,kE,Int.toNat_natCast,cm,tS,io,lh,cond_true,Bool.cond_self]
  ·exact fun _ _=>trivial
 ·obtain⟨⟩:=a
  simp [nQ,nR,nS,nT,nU,nV,nc,aY,LT.out,eY]
def rm(b:Int):(List Int)→Nat ⊕ (List Int)
 |y3=>(.inr (y3++([acY (b==2)])))
def mv(y2:List Int)(i:Nat):(List Int)→jB
 |y3=>((i:Int),(↑y2.length:Int),y2,y3)
def LK:jB→List Int
 |(_,_,_,y3)=>y3
theorem af1(y2 y3:List Int)(hn:y2.length≤9223372036854775807)(hR:areR y2=true)(h0:y3= []):
  db.fin ((0:Int),(↑y2.length:Int),y2,y3)=true∧db.res ((0:Int),(↑y2.length:Int),y2,y3)=((aL (rm) 0 y2 0 y3).1,(mv y2) (aL (rm) 0 y2 0 y3).2.1 (aL (rm) 0 y2 0 y3).2.2):=by
 have dC:=db.along (mv y2) LK (rm) 0 (fun i a=>a.length≤i) y2 y3 (by subst h0;simp) (by simp only [db,mv];omega) (fun i b a hb hI=> ?_) (fun a hI=> ?_)
 ·exact dC
 ·obtain y3:=a
  have eO:=(List.getElem?_eq_some_iff.1 hb).1
  have lh: ∀ d,Option.getD y2[i]? d=b:=fun d=>by rw [hb];rfl
  have hw:=DJ eO hn
  have cm:ltI (i:Int) (y2.length:Int)=true:=eg (by omega)
  have tS:leI (0:Int) (i:Int)=true:=cR (by omega)
  have io:ltN i y2.length=true:=gC eO
  refine⟨?_,?_,?_,?_⟩
  ·have h12:=(Xt.1 hR).1
   have h6:leN (a.length + 1) 9223372036854775807=true:=dj (by omega)
   have h7:leN ((a.length + 1) * 8) 140737488355328=true:=dj (by omega)
   simp [pu,AC,AD,AE,AF,AG,AH,AJ,AK,zg,db,LT.nds,allT,mv,cm,tS,io,h6,h7]
  ·simp [pu,AC,AD,AE,AF,AG,AH,AJ,AK,zg,db,LT.each,mv,LK,hw]
  ·simp only [pu,AC,AD,AE,AF,AG,AH,AJ,AK,zg,db,LT.fn,mv,LK,rm,Int.toNat_natCast,cm,tS,io,lh,cond_true,Bool.cond_self]
  ·intro a' hf;simp only [rm,Sum.inr.injEq]at hf;subst hf;simp;omega
 ·obtain y3:=a
  simp [pu,AC,AD,AE,AF,AG,AH,AJ,AK,zg,db,LT.out,mv]
def rn(b:Int×(Int×Int)):(List Int×List Int)→Nat ⊕ (List Int×List Int)
 |(y3,y4)=>(.inr ((bif(b.2.1==0)then List.set y3 (Int.toNat b.1) b.2.2else y3),(bif(b.2.1==0)then y4 else List.set y4 (Int.toNat b.1) b.2.2)))
def mw(y2:List (Int×(Int×Int)))(i:Nat):(List Int×List Int)→jC
 |(y3,y4)=>((i:Int),(↑y2.length:Int),y2,y3,y4)
def LL:jC→List Int×List Int
 |(_,_,_,y3,y4)=>(y3,y4)
theorem af2(y2:List (Int×(Int×Int)))(y3 y4:List Int)(hn:y2.length≤9223372036854775807)(n:Nat)(h3:y3.length=n)(h4:y4.length=n)(hf: ∀ f∈y2,0≤f.1∧f.1 < (n:Int)):
  dc.fin ((0:Int),(↑y2.length:Int),y2,y3,y4)=true∧dc.res ((0:Int),(↑y2.length:Int),y2,y3,y4)=((aL (rn) 0 y2 0 (y3,y4)).1,(mw y2) (aL (rn) 0 y2 0 (y3,y4)).2.1 (aL (rn) 0 y2 0 (y3,y4)).2.2):=by
 have dC:=dc.along (mw y2) LL (rn) 0 (fun _ a=>a.1.length=n∧a.2.length=n) y2 (y3,y4) ⟨h3,h4⟩ (by simp only [dc,mw];omega) (fun i b a hb hI=> ?_) (fun a hI=> ?_)
 ·exact dC
 ·obtain⟨y3,y4⟩:=a
  have eO:=(List.getElem?_eq_some_iff.1 hb).1
  have lh: ∀ d,Option.getD y2[i]? d=b:=fun d=>by rw [hb];rfl
  have hw:=DJ eO hn
  have cm:ltI (i:Int) (y2.length:Int)=true:=eg (by omega)
  have tS:leI (0:Int) (i:Int)=true:=cR (by omega)
  have io:ltN i y2.length=true:=gC eO
  refine⟨?_,?_,?_,?_⟩
  ·have h5:=hf b (List.mem_of_getElem? hb)
   have hI1:=hI.1
   have hI2:=hI.2
   have h6:leI 0 b.1=true:=cR h5.1
   have h7:ltI b.1 (n:Int)=true:=eg (by omega)
   have h8:ltN b.1.toNat n=true:=gC (by omega)
   simp only at hI1 hI2
   simp [da,eZ,tI,AL,AM,AO,AP,AQ,AR,AU,AV,AW,AX,yV,yW,yX,zh,dc,LT.nds,allT,mw,cm,tS,io,lh,h6,h7,h8,hI1,hI2]
  ·simp [da,eZ,tI,AL,AM,AO,AP,AQ,AR,AU,AV,AW,AX,yV,yW,yX,zh,dc,LT.each,mw,LL,hw]
  ·simp only [da,eZ,tI,AL,AM,AO,AP,AQ,AR,AU,AV,AW,AX,yV,yW,yX,zh,dc,LT.fn,mw,LL,rn,Int.toNat_natCast,cm,tS,io,lh,cond_true,Bool.cond_self]
  ·intro a' hf;simp only [rn,Sum.inr.injEq]at hf;subst hf;have hI1:=hI.1;have hI2:=hI.2;cases b.2.1==0 <;> simpa using ⟨hI1,hI2⟩
 ·obtain⟨y3,y4⟩:=a
  simp [da,eZ,tI,AL,AM,AO,AP,AQ,AR,AU,AV,AW,AX,yV,yW,yX,zh,dc,LT.out,mw]
theorem atd(x v:Int):(x==v)=(v==x):=by rw [Bool.eq_iff_iff,beq_iff_eq,beq_iff_eq];exact eq_comm
theorem WS(x:Int)(l:List Int)(h:l.length≤9223372036854775807):aW x l=l.any (· ==x)∧dY x l=true:=by
 obtain⟨w1,w2⟩:=VA x l h
 rw [kH (P:=fun v=>v==x) (j:=0) (fun v=>by simp only [kE];rw [atd x v])]at w2
 simp only [aW,dY,Fw,Fx,ww,w1,w2,allT,eY]
 cases l.any (· ==x)with
 |false=>exact⟨rfl,rfl⟩
 |true=>
  simp only [cond_true,Nat.beq]
  exact⟨cR (by omega),trivial⟩
theorem aoo(st:List Int)(lf:List (Int×Int×Int))(h:arW st lf=true):XS st lf=akm st lf∧XT st lf=true:=by
 have h':=h
 simp only [arW,Bool.and_eq_true]at h'
 have h12:=(Xt.1 h'.1).1
 obtain⟨hl,hf⟩:=auw h'.2
 obtain⟨w1,w2⟩:=af1 st [] (by omega) h'.1 rfl
 rw [BN (f:=rm) (g:=fun a b=>a++ [bif b==2 then 1 else 0]) (fun b a=>rfl),aj0]at w2
 have e1:zu st=lkB st:=by
  simp only [zu,Ko,w2,mv,List.nil_append];rfl
 obtain⟨v1,v2⟩:=af2 lf (lkB st) (lkB st) (by omega) st.length (ac1 st) (ac1 st) (fun f hm=>(hf f hm).1)
 rw [BN (f:=rn) (g:=fun a f=>(bif f.2.1==0 then a.1.set f.1.toNat f.2.2 else a.1,bif f.2.1==0 then a.2 else a.2.set f.1.toNat f.2.2)) (fun b a=>rfl),ajZ _ _ (fun f hm=>(hf f hm).2.1)]at v2
 have e3:Kp st lf=(lkC st lf 0,lkC st lf 1):=by
  simp only [Kp,EL,e1,v2,mw];rfl
 have e4:Lp.fin dc (EL st lf)=true:=by simp only [EL,e1];exact v1
 have e5:Lp.fin db (Ko st)=true:=w1
 have q0:BW st lf=lkC st lf 0:=by rw [BW,e3]
 have q1:GQ st lf=lkC st lf 1:=by rw [GQ,e3]
 have n1:leN 1 st.length=true:=dj (by omega)
 have n2:leN st.length 1048576=true:=dj (by omega)
 have q2:Mg st lf=true:=by simp only [Mg,e4,e5,e1,ac1,n1,n2,allT,Bool.and_self,cond_true]
 obtain⟨s1,s2⟩:=WS 0 (lkC st lf 0) (by rw [amk];omega)
 obtain⟨t1,t2⟩:=WS 0 (lkC st lf 1) (by rw [amk];omega)
 refine⟨?_,?_⟩
 ·simp only [XS,q0,q1,s1,t1,akm]
  cases (lkC st lf 0).any (· ==0) <;> rfl
 ·simp only [XT,q0,q1,q2,s2,t2,allT,Bool.or_true,cond_true]
def aeS:List SV→List Entry→Option Out
 | [.one ⟨false,[.ref 0]⟩,.one ⟨false,[.ref 1]⟩],[.row false 2 (.int .i64) x0,.row false 100 (.pair (.int .i64) (.pair (.int .i64) (.int .i64))) x1]=>some ⟨.one ⟨false,[.val (.bool (akm x0 x1))]⟩,[.row false 2 aj1 x0,.row false 100 adH x1],[],[arW x0 x1]⟩
 |_,_=>none
def Ym:PF prog:=PF.alt amy aeS (by
 intro args es o h bE;unfold aeS at h;split at h
 ·rename_i x0 x1
  cases h
  have bE:=jW bE
  have hh:=aoo x0 x1 bE
  obtain⟨e0,en⟩:=hh
  exact nO rfl (iY en) (by simp only [e0] <;> rfl) rfl rfl
 ·cases h)
def rsB(n k row:Int):Bool:=bif k==0||k==1 then inR row 0 (IntKind.i64.wrap (n - 1))else bif k==2||k==3 then row==0 else false
def FQ(st:List Int)(k row:Int):Bool:=bif k==0||k==1 then(st[row.toNat]?.getD 0)==k else bif k==2 then !st.any (· ==0)else FU st
def adU(st:List Int)(k row:Int):List Int:=bif k==0||k==1 then st.set row.toNat (1 - k)else st.map fun _=>bif k==2 then 2 else 1
def aoG(st:List Int)(k row:Int):Bool:=areR st&&rsB (st.length:Int) k row
theorem aty(a b:Bool):(bif a then a else b)=(a||b):=by cases a <;> rfl
theorem arH(n k row:Int):Kn n k row=rsB n k row:=by
 simp only [Kn,bp,AY,rsB,aty]
theorem apK{st:List Int}{k row:Int}(h:aoG st k row=true):areR st=true∧(1≤st.length∧st.length≤12)∧(((k=0∨k=1)∧0≤row∧row < st.length)∨((k=2∨k=3)∧row=0)):=by
 simp only [aoG,Bool.and_eq_true]at h
 have h12:=(Xt.1 h.1).1
 refine⟨h.1,h12,?_⟩
 have h2:=h.2
 rw [rsB,ar (by omega) (by omega)]at h2
 cases h3:(k==0||k==1)with
 |true=>
  rw [h3,cond_true,oU]at h2
  simp only [Bool.or_eq_true,beq_iff_eq]at h3
  exact .inl ⟨h3,by omega⟩
 |false=>
  rw [h3,cond_false]at h2
  cases h4:(k==2||k==3)with
  |true=>
   rw [h4,cond_true,beq_iff_eq]at h2
   simp only [Bool.or_eq_true,beq_iff_eq]at h4
   exact .inr ⟨h4,h2⟩
  |false=>rw [h4]at h2;cases h2
theorem arY{st:List Int}{row:Int}(h:0≤row∧row < st.length):leI 0 row=true∧ltI row (st.length:Int)=true∧ltN row.toNat st.length=true:=
 ⟨cR h.1,eg h.2,gC (by omega)⟩
def lJ(y2:Int)(b:Nat):(List Int)→Nat ⊕ (List Int)
 |y3=>(.inr (List.set y3 b y2))
def iW(y1 y2:Int)(i:Nat):(List Int)→fg
 |y3=>((i:Int),y1,y2,y3)
def Gf:fg→List Int
 |(_,_,_,y3)=>y3
theorem abe(y1 y2:Int)(y3:List Int)(hn:y1≤9223372036854775807)(h3:y1=(y3.length:Int)):
  bj.fin ((0:Int),y1,y2,y3)=true∧bj.res ((0:Int),y1,y2,y3)=((aL (lJ y2) 0 (List.range y1.toNat) 0 y3).1,(iW y1 y2) (aL (lJ y2) 0 (List.range y1.toNat) 0 y3).2.1 (aL (lJ y2) 0 (List.range y1.toNat) 0 y3).2.2):=by
 have dC:=bj.along (iW y1 y2) Gf (lJ y2) 0 (fun _ a=>y1=(a.length:Int)) (List.range y1.toNat) y3 h3 (by simp only [bj,iW,List.length_range];omega) (fun i b a hb hI=> ?_) (fun a hI=> ?_)
 ·exact dC
 ·obtain y3:=a
  obtain⟨rfl,eO⟩:=od hb
  have hw:IntKind.i64.wrap ((b:Int) + 1)=((b + 1:Nat):Int):=by rw [ar (by omega) (by omega)];omega
  have cm:ltI (b:Int) y1=true:=eg (by omega)
  have tS:leI (0:Int) (b:Int)=true:=cR (by omega)
  refine⟨?_,?_,?_,?_⟩
  ·have h6:ltI (b:Int) (a.length:Int)=true:=eg (by omega)
   have h7:ltN b a.length=true:=gC (by omega)
   simp [tW,tX,tY,tZ,ua,ub,sJ,bj,LT.nds,allT,iW,cm,tS,h6,h7]
  ·simp [tW,tX,tY,tZ,ua,ub,sJ,bj,LT.each,iW,Gf,hw]
  ·simp only [tW,tX,tY,tZ,ua,ub,sJ,bj,LT.fn,iW,Gf,lJ,Int.toNat_natCast,cm,tS,cond_true,Bool.cond_self]
  ·intro a' hf;simp only [lJ,Sum.inr.injEq]at hf;subst hf;simpa using hI
 ·obtain y3:=a
  simp only [tW,tX,tY,tZ,ua,ub,sJ,bj,LT.out,iW,List.length_range,Oy,Sz,cond_false]
theorem akL(x:Int)(st:List Int)(h:st.length≤12):(Lp.res bj ((0:Int),(↑(List.length st):Int),x,st)).2.2.2.2=st.map (fun _=>x)∧Lp.fin bj ((0:Int),(↑(List.length st):Int),x,st)=true:=by
 obtain⟨w1,w2⟩:=abe (st.length:Int) x st (by omega) rfl
 rw [Int.toNat_natCast,an1 (xs:=st) (d:=0) (f:=lJ x) (g:=fun _=>x) (fun b a=>rfl) rfl]at w2
 exact⟨by simp only [w2,iW],w1⟩
theorem auk{k:Int}(h:0≤k∧k≤2):IntKind.i64.wrap (IntKind.i64.wrap (k - 0) + 0)=k∧IntKind.i64.wrap (1 - k)=1 - k:=
 ⟨by rw [show IntKind.i64.wrap (k - 0)=k from by rw [ar (by omega) (by omega)];omega,ar (by omega) (by omega)];omega,ar (by omega) (by omega)⟩
theorem apn(k row:Int)(st:List Int)(h:aoG st k row=true):yY k row st=FQ st k row∧yZ k row st=(bif FQ st k row then adU st k row else st)∧za k row st=true:=by
 obtain⟨hA,h12,hk⟩:=apK h
 obtain⟨c1,c2⟩:=WS 0 st (by omega)
 obtain⟨f1,f2⟩:=akL 2 st h12.2
 obtain⟨g1,g2⟩:=akL 1 st h12.2
 have n1:leN st.length 9223372036854775807=true:=dj (by omega)
 rcases hk with⟨hk,hr⟩ | ⟨rfl | rfl,rfl⟩
 ·obtain⟨r1,r2,r3⟩:=arY hr
  obtain⟨q1,q2⟩:=auk (k:=k) (by omega)
  have ha0:ci k=true:=by rcases hk with rfl | rfl <;> rfl
  have ha1:(k==0||k==1)=true:=by rcases hk with rfl | rfl <;> rfl
  have ha2:oe k row st= !((st[row.toNat]?.getD 0)==k):=by
   rw [oe,q1];rfl
  simp only [yY,yZ,za,ha0,ha2,wY,wZ,xa,FQ,adU,ha1,cond_true,r1,r2,r3,Bool.or_true,Bool.true_or,allT]
  cases hc:(st[row.toNat]?.getD 0)==k with
  |false=>simp
  |true=>
   have hv:Kq row st=k:=by rw [beq_iff_eq]at hc;exact hc
   rw [hv,q2]
   simp
 ·simp only [yY,yZ,za,show ci 2=false from rfl,Kr,wY,wZ,xa,FQ,adU,c1,c2,f1,f2,n1,allT]
  cases st.any (· ==0) <;> simp
 ·simp only [yY,yZ,za,show ci 3=false from rfl,Ks,wY,wZ,xa,FQ,adU,c1,c2,g1,g2,n1,allT]
  cases FU st <;> simp
def Sk:List SV→List Entry→Option Out
 | [.one ⟨false,[.val (.int .i64 x0)]⟩,.one ⟨true,[.val (.int .i64 x1),.val (.int .i64 x2)]⟩],[]=>some ⟨.one ⟨false,[.val (.bool (rsB x0 x1 x2))]⟩,[],[],[]⟩
 |_,_=>none
def ac6:PF prog:=PF.alt adf Sk (by
 intro args es o h bE;unfold Sk at h;split at h
 ·rename_i x0 x1 x2
  cases h
  have hh:=arH x0 x1 x2
  have e0:=hh
  exact nO rfl (fun _ h=>by cases h) (by simp only [e0] <;> rfl) rfl rfl
 ·cases h)
def TN:List SV→List Entry→Option Out
 | [.one ⟨false,[.ref 0]⟩,.one ⟨true,[.val (.int .i64 x0),.val (.int .i64 x1)]⟩],[.row true 2 (.int .i64) x2]=>some ⟨.one ⟨false,[.val (.bool (FQ x2 x0 x1))]⟩,[.row true 2 aj1 (bif FQ x2 x0 x1 then adU x2 x0 x1 else x2)],[],[aoG x2 x0 x1]⟩
 |_,_=>none
def LH:PF prog:=PF.alt aev TN (by
 intro args es o h bE;unfold TN at h;split at h
 ·rename_i x0 x1 x2
  cases h
  have bE:=jW bE
  have hh:=apn x0 x1 x2 bE
  obtain⟨e0,e1,en⟩:=hh
  exact nO rfl (iY en) (by simp only [e0] <;> rfl) (by simp only [e1] <;> rfl) rfl
 ·cases h)
def TJ(x0:List (Int×Int×Int)):Bool:=allT [ltN 0 x0.length,false||leN (0 + List.length x0) 9223372036854775807,false||leN ((0 + List.length x0) * 24) 140737488355328]
def Iq:List SV→List Entry→Option Out
 | [.one ⟨false,[.ref 0]⟩],[.row false 169 (.pair (.int .i64) (.pair (.int .i64) (.int .i64))) x0]=>some ⟨.one ⟨false,[.ref 1]⟩,[.row false 169 adH x0],[.row true 169 adH x0],[TJ x0]⟩
 |_,_=>none
def TG:PF prog:=PF.ofG prog [] [] aO 147 f147 func147 (fun c _=>LOk.nil c) Iq (by
 intro vs es r h;unfold Iq at h;split at h
 ·cases h;kernel_rfl
 ·cases h)
def Sf:List (Int×(Int×Int)):= []
def FZ:List SV→List Entry→Option Out
 | [.one ⟨false,[.val (.slice none 0 0)]⟩],[]=>some ⟨.one ⟨false,[.ref 0]⟩,[],[.row true 169 adH (Sf)],[true]⟩
 |_,_=>none
def Sd:PF prog:=PF.ofG prog [PF.raw prog] [] aO 147 f147 func147 (fun c _=>LOk.nil c) FZ (by
 intro vs es r h;unfold FZ at h;split at h
 ·cases h;kernel_rfl
 ·cases h)
def Sg:List (Int×(Int×Int)):= []
def Ga:List SV→List Entry→Option Out
 | [.one ⟨false,[.val (.slice (some b) 0 c)]⟩],[]=>some ⟨.one ⟨false,[.ref 0]⟩,[],[.row true 169 adH (Sg)],[true]⟩
 |_,_=>none
def Se:PF prog:=PF.ofG prog [] [] aO 147 f147 func147 (fun c _=>LOk.nil c) Ga (by
 intro vs es r h;unfold Ga at h;split at h
 ·cases h;kernel_rfl
 ·cases h)
def Vt(x0:List (Int×Int×Int)):Bool:=allT [ltN 0 x0.length,false||leN (0 + List.length x0) 9223372036854775807,false||leN ((0 + List.length x0) * 24) 140737488355328]
def Kc:List SV→List Entry→Option Out
 | [.one ⟨false,[.ref 0]⟩],[.row false 100 (.pair (.int .i64) (.pair (.int .i64) (.int .i64))) x0]=>some ⟨.one ⟨false,[.ref 1]⟩,[.row false 100 adH x0],[.row true 100 adH x0],[Vt x0]⟩
 |_,_=>none
def Vp:PF prog:=PF.ofG prog [] [] aO 148 f148 func148 (fun c _=>LOk.nil c) Kc (by
 intro vs es r h;unfold Kc at h;split at h
 ·cases h;kernel_rfl
 ·cases h)
def TH:List (Int×(Int×Int)):= []
def Io:List SV→List Entry→Option Out
 | [.one ⟨false,[.val (.slice none 0 0)]⟩],[]=>some ⟨.one ⟨false,[.ref 0]⟩,[],[.row true 100 adH (TH)],[true]⟩
 |_,_=>none
def TE:PF prog:=PF.ofG prog [PF.raw prog] [] aO 148 f148 func148 (fun c _=>LOk.nil c) Io (by
 intro vs es r h;unfold Io at h;split at h
 ·cases h;kernel_rfl
 ·cases h)
def TI:List (Int×(Int×Int)):= []
def Ip:List SV→List Entry→Option Out
 | [.one ⟨false,[.val (.slice (some b) 0 c)]⟩],[]=>some ⟨.one ⟨false,[.ref 0]⟩,[],[.row true 100 adH (TI)],[true]⟩
 |_,_=>none
def TF:PF prog:=PF.ofG prog [] [] aO 148 f148 func148 (fun c _=>LOk.nil c) Ip (by
 intro vs es r h;unfold Ip at h;split at h
 ·cases h;kernel_rfl
 ·cases h)
def aa8(x0:List (Int×Int)):Bool:=allT [ltN 0 x0.length,false||leN (0 + List.length x0) 9223372036854775807,false||leN ((0 + List.length x0) * 16) 140737488355328]
def Pz:List SV→List Entry→Option Out
 | [.one ⟨false,[.ref 0]⟩],[.row false 173 (.pair (.int .i64) (.int .i64)) x0]=>some ⟨.one ⟨false,[.ref 1]⟩,[.row false 173 aej x0],[.row true 173 aej x0],[aa8 x0]⟩
 |_,_=>none
def aa5:PF prog:=PF.ofG prog [] [] aO 149 f149 func149 (fun c _=>LOk.nil c) Pz (by
 intro vs es r h;unfold Pz at h;split at h
 ·cases h;kernel_rfl
 ·cases h)
def Yy:List (Int×Int):= []
def MM:List SV→List Entry→Option Out
 | [.one ⟨false,[.val (.slice none 0 0)]⟩],[]=>some ⟨.one ⟨false,[.ref 0]⟩,[],[.row true 173 aej (Yy)],[true]⟩
 |_,_=>none
def Yq:PF prog:=PF.ofG prog [PF.raw prog] [] aO 149 f149 func149 (fun c _=>LOk.nil c) MM (by
 intro vs es r h;unfold MM at h;split at h
 ·cases h;kernel_rfl
 ·cases h)
def Yz:List (Int×Int):= []
def MN:List SV→List Entry→Option Out
 | [.one ⟨false,[.val (.slice (some b) 0 c)]⟩],[]=>some ⟨.one ⟨false,[.ref 0]⟩,[],[.row true 173 aej (Yz)],[true]⟩
 |_,_=>none
def Yr:PF prog:=PF.ofG prog [] [] aO 149 f149 func149 (fun c _=>LOk.nil c) MN (by
 intro vs es r h;unfold MN at h;split at h
 ·cases h;kernel_rfl
 ·cases h)
def aa7(x0:List (Int×Int)):Bool:=allT [ltN 0 x0.length,false||leN (0 + List.length x0) 9223372036854775807,false||leN ((0 + List.length x0) * 16) 140737488355328]
def Py:List SV→List Entry→Option Out
 | [.one ⟨false,[.ref 0]⟩],[.row false 176 (.pair (.int .i64) (.int .i64)) x0]=>some ⟨.one ⟨false,[.ref 1]⟩,[.row false 176 aej x0],[.row true 176 aej x0],[aa7 x0]⟩
 |_,_=>none
def aa4:PF prog:=PF.ofG prog [] [] aO 150 f150 func150 (fun c _=>LOk.nil c) Py (by
 intro vs es r h;unfold Py at h;split at h
 ·cases h;kernel_rfl
 ·cases h)
def Yw:List (Int×Int):= []
def MK:List SV→List Entry→Option Out
 | [.one ⟨false,[.val (.slice none 0 0)]⟩],[]=>some ⟨.one ⟨false,[.ref 0]⟩,[],[.row true 176 aej (Yw)],[true]⟩
 |_,_=>none
def Yo:PF prog:=PF.ofG prog [PF.raw prog] [] aO 150 f150 func150 (fun c _=>LOk.nil c) MK (by
 intro vs es r h;unfold MK at h;split at h
 ·cases h;kernel_rfl
 ·cases h)
def Yx:List (Int×Int):= []
def ML:List SV→List Entry→Option Out
 | [.one ⟨false,[.val (.slice (some b) 0 c)]⟩],[]=>some ⟨.one ⟨false,[.ref 0]⟩,[],[.row true 176 aej (Yx)],[true]⟩
 |_,_=>none
def Yp:PF prog:=PF.ofG prog [] [] aO 150 f150 func150 (fun c _=>LOk.nil c) ML (by
 intro vs es r h;unfold ML at h;split at h
 ·cases h;kernel_rfl
 ·cases h)
end Go.SX
namespace Go.SX
open Go.RowKit Go.Proofs
set_option maxRecDepth 100000
theorem arb{n:Nat}(h2:0 < n)(h1:n≤1048576):allT [ltN 0 n,false||leN (0 + n) 9223372036854775807,false||leN ((0 + n) * 24) 140737488355328]=true:=by
 rw [gC h2,dj (by omega),dj (by omega)];rfl
theorem ara{n:Nat}(h2:0 < n)(h1:n≤1048576):allT [ltN 0 n,false||leN (0 + n) 9223372036854775807,false||leN ((0 + n) * 16) 140737488355328]=true:=by
 rw [gC h2,dj (by omega),dj (by omega)];rfl
theorem alU(x0:List (Int×(Int×Int)))(h:leN x0.length 1048576=true)(mem:Nat→Option Obj)(ρ:Nm)(w:World)(hp:HpL w mem [.row false 169 (.pair (.int .i64) (.pair (.int .i64) (.int .i64))) x0] ρ w):
  Calls Tryz.prog 147 ([SV.one ⟨false,[.ref 0]⟩].map (SV.conc ρ)).toArray w fun en w'=> ∃ ρ':Nm,Ext (memB w mem) (fun i=>Nat.blt i 1) ρ ρ'∧en= .returned ((SV.one ⟨false,[.ref 1]⟩).conc ρ')∧
   HpL w mem [.row false 169 (.pair (.int .i64) (.pair (.int .i64) (.int .i64))) x0,.row true 169 (.pair (.int .i64) (.pair (.int .i64) (.int .i64))) x0] ρ' w':=
 acN (t:=(.pair (.int .i64) (.pair (.int .i64) (.int .i64)))) TG Sd Se rfl rfl rfl ⟨_,rfl,fun b hb=>(by simp at hb;exact hb)⟩ (fun _ _=>⟨_,rfl,fun b hb=>(by simp at hb;exact hb)⟩) x0
  (fun Sp=>⟨_,rfl,fun b hb=>(by
   have h1:=dD.1 h
   have h2:0 < x0.length:=by cases x0 with
    |nil=>exact(Sp rfl).elim
    |cons y r=>exact Nat.succ_pos _
   rw [List.mem_singleton]at hb;subst hb
   exact arb h2 h1)⟩) mem ρ w hp
def Ir:List SV→List Entry→Option Out
 | [.one ⟨false,[.ref 0]⟩],[.row false 169 (.pair (.int .i64) (.pair (.int .i64) (.int .i64))) x0]=>some ⟨.one ⟨false,[.ref 1]⟩,[.row false 169 (.pair (.int .i64) (.pair (.int .i64) (.int .i64))) x0],[.row true 169 (.pair (.int .i64) (.pair (.int .i64) (.int .i64))) x0],[leN x0.length 1048576]⟩
 |_,_=>none
def jn:PF Tryz.prog where
 k:=147
 F:=Ir
 ok:=by
  intro args es o h bE mem ρ w hp
  unfold Ir at h;split at h
  ·rename_i x0
   cases h
   refine(alU x0 (bE _ (List.mem_singleton.2 rfl)) mem ρ w hp).mono fun en w' ⟨ρ1,hx,he,hh⟩=>⟨ρ1,hx,he,rfl,?_,hh⟩
   intro c hc
   simp at hc;subst hc;rfl
  ·cases h
theorem an7(x0:List (Int×(Int×Int)))(h:leN x0.length 1048576=true)(mem:Nat→Option Obj)(ρ:Nm)(w:World)(hp:HpL w mem [.row false 100 (.pair (.int .i64) (.pair (.int .i64) (.int .i64))) x0] ρ w):
  Calls Tryz.prog 148 ([SV.one ⟨false,[.ref 0]⟩].map (SV.conc ρ)).toArray w fun en w'=> ∃ ρ':Nm,Ext (memB w mem) (fun i=>Nat.blt i 1) ρ ρ'∧en= .returned ((SV.one ⟨false,[.ref 1]⟩).conc ρ')∧
   HpL w mem [.row false 100 (.pair (.int .i64) (.pair (.int .i64) (.int .i64))) x0,.row true 100 (.pair (.int .i64) (.pair (.int .i64) (.int .i64))) x0] ρ' w':=
 acN (t:=(.pair (.int .i64) (.pair (.int .i64) (.int .i64)))) Vp TE TF rfl rfl rfl ⟨_,rfl,fun b hb=>(by simp at hb;exact hb)⟩ (fun _ _=>⟨_,rfl,fun b hb=>(by simp at hb;exact hb)⟩) x0
  (fun Sp=>⟨_,rfl,fun b hb=>(by
   have h1:=dD.1 h
   have h2:0 < x0.length:=by cases x0 with
    |nil=>exact(Sp rfl).elim
    |cons y r=>exact Nat.succ_pos _
   rw [List.mem_singleton]at hb;subst hb
   exact arb h2 h1)⟩) mem ρ w hp
def Kf:List SV→List Entry→Option Out
 | [.one ⟨false,[.ref 0]⟩],[.row false 100 (.pair (.int .i64) (.pair (.int .i64) (.int .i64))) x0]=>some ⟨.one ⟨false,[.ref 1]⟩,[.row false 100 (.pair (.int .i64) (.pair (.int .i64) (.int .i64))) x0],[.row true 100 (.pair (.int .i64) (.pair (.int .i64) (.int .i64))) x0],[leN x0.length 1048576]⟩
 |_,_=>none
def kF:PF Tryz.prog where
 k:=148
 F:=Kf
 ok:=by
  intro args es o h bE mem ρ w hp
  unfold Kf at h;split at h
  ·rename_i x0
   cases h
   refine(an7 x0 (bE _ (List.mem_singleton.2 rfl)) mem ρ w hp).mono fun en w' ⟨ρ1,hx,he,hh⟩=>⟨ρ1,hx,he,rfl,?_,hh⟩
   intro c hc
   simp at hc;subst hc;rfl
  ·cases h
theorem ata(x0:List (Int×Int))(h:leN x0.length 1048576=true)(mem:Nat→Option Obj)(ρ:Nm)(w:World)(hp:HpL w mem [.row false 173 (.pair (.int .i64) (.int .i64)) x0] ρ w):
  Calls Tryz.prog 149 ([SV.one ⟨false,[.ref 0]⟩].map (SV.conc ρ)).toArray w fun en w'=> ∃ ρ':Nm,Ext (memB w mem) (fun i=>Nat.blt i 1) ρ ρ'∧en= .returned ((SV.one ⟨false,[.ref 1]⟩).conc ρ')∧
   HpL w mem [.row false 173 (.pair (.int .i64) (.int .i64)) x0,.row true 173 (.pair (.int .i64) (.int .i64)) x0] ρ' w':=
 acN (t:=(.pair (.int .i64) (.int .i64))) aa5 Yq Yr rfl rfl rfl ⟨_,rfl,fun b hb=>(by simp at hb;exact hb)⟩ (fun _ _=>⟨_,rfl,fun b hb=>(by simp at hb;exact hb)⟩) x0
  (fun Sp=>⟨_,rfl,fun b hb=>(by
   have h1:=dD.1 h
   have h2:0 < x0.length:=by cases x0 with
    |nil=>exact(Sp rfl).elim
    |cons y r=>exact Nat.succ_pos _
   rw [List.mem_singleton]at hb;subst hb
   exact ara h2 h1)⟩) mem ρ w hp
def PD:List SV→List Entry→Option Out
 | [.one ⟨false,[.ref 0]⟩],[.row false 173 (.pair (.int .i64) (.int .i64)) x0]=>some ⟨.one ⟨false,[.ref 1]⟩,[.row false 173 (.pair (.int .i64) (.int .i64)) x0],[.row true 173 (.pair (.int .i64) (.int .i64)) x0],[leN x0.length 1048576]⟩
 |_,_=>none
def oZ:PF Tryz.prog where
 k:=149
 F:=PD
 ok:=by
  intro args es o h bE mem ρ w hp
  unfold PD at h;split at h
  ·rename_i x0
   cases h
   refine(ata x0 (bE _ (List.mem_singleton.2 rfl)) mem ρ w hp).mono fun en w' ⟨ρ1,hx,he,hh⟩=>⟨ρ1,hx,he,rfl,?_,hh⟩
   intro c hc
   simp at hc;subst hc;rfl
  ·cases h
theorem as9(x0:List (Int×Int))(h:leN x0.length 1048576=true)(mem:Nat→Option Obj)(ρ:Nm)(w:World)(hp:HpL w mem [.row false 176 (.pair (.int .i64) (.int .i64)) x0] ρ w):
  Calls Tryz.prog 150 ([SV.one ⟨false,[.ref 0]⟩].map (SV.conc ρ)).toArray w fun en w'=> ∃ ρ':Nm,Ext (memB w mem) (fun i=>Nat.blt i 1) ρ ρ'∧en= .returned ((SV.one ⟨false,[.ref 1]⟩).conc ρ')∧
   HpL w mem [.row false 176 (.pair (.int .i64) (.int .i64)) x0,.row true 176 (.pair (.int .i64) (.int .i64)) x0] ρ' w':=
 acN (t:=(.pair (.int .i64) (.int .i64))) aa4 Yo Yp rfl rfl rfl ⟨_,rfl,fun b hb=>(by simp at hb;exact hb)⟩ (fun _ _=>⟨_,rfl,fun b hb=>(by simp at hb;exact hb)⟩) x0
  (fun Sp=>⟨_,rfl,fun b hb=>(by
   have h1:=dD.1 h
   have h2:0 < x0.length:=by cases x0 with
    |nil=>exact(Sp rfl).elim
    |cons y r=>exact Nat.succ_pos _
   rw [List.mem_singleton]at hb;subst hb
   exact ara h2 h1)⟩) mem ρ w hp
def PC:List SV→List Entry→Option Out
 | [.one ⟨false,[.ref 0]⟩],[.row false 176 (.pair (.int .i64) (.int .i64)) x0]=>some ⟨.one ⟨false,[.ref 1]⟩,[.row false 176 (.pair (.int .i64) (.int .i64)) x0],[.row true 176 (.pair (.int .i64) (.int .i64)) x0],[leN x0.length 1048576]⟩
 |_,_=>none
def oY:PF Tryz.prog where
 k:=150
 F:=PC
 ok:=by
  intro args es o h bE mem ρ w hp
  unfold PC at h;split at h
  ·rename_i x0
   cases h
   refine(as9 x0 (bE _ (List.mem_singleton.2 rfl)) mem ρ w hp).mono fun en w' ⟨ρ1,hx,he,hh⟩=>⟨ρ1,hx,he,rfl,?_,hh⟩
   intro c hc
   simp at hc;subst hc;rfl
  ·cases h
end Go.SX
namespace Go.SX
open Go.Proofs Go.Proofs.Tryz
set_option maxRecDepth 100000
section
variable (x3 x4 x5 x6 x7 x8:Int)(x9:Bool)(x10:List Int)(x12:List (List Int))
def uB:Bool:=bif x5==0 then bif x6==0 then true else false else false
def uC:Bool:=bif x7==0 then bif x8==0 then bif x9==false then true else false else false else false
def na:Bool:=bif x3==0 then bif bif So x10 x4 then uB x5 x6 else false then uC x7 x8 x9 else false else bif x3==1 then bif bif So x10 x4 then rsB (dJ (bif So x10 x4&&true then Option.getD x12[Int.toNat 0]? (vf ajI)else [])) x5 x6 else false then uC x7 x8 x9 else false else bif x3==2 then bif bif x4==0 then uB x5 x6 else false then aoa x7 x8 else false else false
def nb:Bool:=allT [!x3==0||leN x10.length (9223372036854775807:Nat),x3==0||(!x3==1||leN x10.length (9223372036854775807:Nat)),x3==0||(!x3==1||(!(So x10 x4&&true)||leI 0 0)),x3==0||(!x3==1||(!(So x10 x4&&true)||ltI 0 (↑x12.length:Int))),x3==0||(!x3==1||(!(So x10 x4&&true)||ltN (Int.toNat 0) x12.length))]
end
def va:List SV→List Entry→Option Out
 | [.one ⟨true,[.val (.int .i64 _x0),.ref 0,.ref 1,.ref 2,.ref 3,.val (.int .i64 _x1),.ref 4,.ref 5,.val (.int .i64 _x2)]⟩,.one ⟨true,[.val (.int .i64 x3),.val (.int .i64 x4),.val (.int .i64 x5),.val (.int .i64 x6),.val (.int .i64 x7),.val (.int .i64 x8),.val (.bool x9)]⟩],[.row false 2 (.int .i64) x10,.row false 169 (.pair (.int .i64) (.pair (.int .i64) (.int .i64))) x11,.row false 24 (.sl 2 (.int .i64)) x12,.row false 100 (.pair (.int .i64) (.pair (.int .i64) (.int .i64))) x13,.row false 173 (.pair (.int .i64) (.int .i64)) x14,.row false 176 (.pair (.int .i64) (.int .i64)) x15]=>some ⟨.one ⟨false,[.val (.bool (na x3 x4 x5 x6 x7 x8 x9 x10 x12))]⟩,[.row false 2 aj1 x10,.row false 169 adH x11,.row false 24 ajI x12,.row false 100 adH x13,.row false 173 aej x14,.row false 176 aej x15],[],[nb x3 x4 x10 x12]⟩
 |_,_=>none
def ne:PF prog:=PF.ofG prog (T3z [nJ,ac6,aj8,aR]) [] aO 99 f99 func99 (fun c _=>LOk.nil c) va (by
 intro vs es r h;unfold va at h;split at h
 ·cases h;kernel_rfl
 ·cases h)
def Ah(x0 x1 x2 x3 x4 x5:Int)(x6:Bool)(x10:List Int)(x12:List (List Int)):Bool:= !na x0 x1 x2 x3 x4 x5 x6 x10 x12
def HG(x0 x1:Int)(x10:List Int)(x12:List (List Int)):Bool:=allT [nb x0 x1 x10 x12]
def Px:List SV→List Entry→Option Out
 | [.one ⟨true,[.val (.int .i64 x0),.val (.int .i64 x1),.val (.int .i64 x2),.val (.int .i64 x3),.val (.int .i64 x4),.val (.int .i64 x5),.val (.bool x6)]⟩,.one ⟨false,[.ptr 0 0]⟩],[.box 33 [.val (.int .i64 x7),.ref 1,.ref 2,.ref 3,.ref 4,.val (.int .i64 x8),.ref 5,.ref 6,.val (.int .i64 x9)],.row false 2 (.int .i64) x10,.row false 169 (.pair (.int .i64) (.pair (.int .i64) (.int .i64))) x11,.row false 24 (.sl 2 (.int .i64)) x12,.row false 100 (.pair (.int .i64) (.pair (.int .i64) (.int .i64))) x13,.row false 173 (.pair (.int .i64) (.int .i64)) x14,.row false 176 (.pair (.int .i64) (.int .i64)) x15]=>some ⟨.one ⟨false,[.val (.bool (Ah x0 x1 x2 x3 x4 x5 x6 x10 x12))]⟩,[.box 33 [.val (.int .i64 x7),.ref 1,.ref 2,.ref 3,.ref 4,.val (.int .i64 x8),.ref 5,.ref 6,.val (.int .i64 x9)],.row false 2 aj1 x10,.row false 169 adH x11,.row false 24 ajI x12,.row false 100 adH x13,.row false 173 aej x14,.row false 176 aej x15],[],[HG x0 x1 x10 x12]⟩
 |_,_=>none
def pa:PF prog:=PF.ofG prog (T3z [ne]) [] aO 145 f145 func145 (fun c _=>LOk.nil c) Px (by
 intro vs es r h;unfold Px at h;split at h
 ·cases h;kernel_rfl
 ·cases h)
abbrev be:=Int×Int×Int×Int×Int×List (Int×(Int×((Int×Int)×(Int×(Int×Bool)))))×List Int×List (Int×(Int×Int))×List (List Int)×List (Int×(Int×Int))×List (Int×Int)×List (Int×Int)
def dr(y0:Int)(y5:List (Int×(Int×((Int×Int)×(Int×(Int×Bool)))))):Int×Int×(Int×Int)×Int×Int×Bool:=Option.getD y5[Int.toNat y0]? ((0:Int),(0:Int),((0:Int),(0:Int)),(0:Int),(0:Int),false)
def du(y0:Int)(y5:List (Int×(Int×((Int×Int)×(Int×(Int×Bool)))))):Int:=(dr y0 y5).1
def dv(y0:Int)(y5:List (Int×(Int×((Int×Int)×(Int×(Int×Bool)))))):Int×(Int×Int)×Int×Int×Bool:=(dr y0 y5).2
def dw(y0:Int)(y5:List (Int×(Int×((Int×Int)×(Int×(Int×Bool)))))):Int:=(dv y0 y5).1
def bO(y0:Int)(y5:List (Int×(Int×((Int×Int)×(Int×(Int×Bool)))))):(Int×Int)×Int×Int×Bool:=(dv y0 y5).2
def dx(y0:Int)(y5:List (Int×(Int×((Int×Int)×(Int×(Int×Bool)))))):Int×Bool:=(bO y0 y5).2.2
def fU(y0 y1:Int):Bool:=ltI y0 y1
def fW(y0:Int):Bool:=leI 0 y0
def fX(y0:Int)(y5:List (Int×(Int×((Int×Int)×(Int×(Int×Bool)))))):Bool:=ltI y0 (↑y5.length:Int)
def fY(y0:Int)(y5:List (Int×(Int×((Int×Int)×(Int×(Int×Bool)))))):Bool:=ltN y0.toNat y5.length
def fZ(y0:Int)(y5:List (Int×(Int×((Int×Int)×(Int×(Int×Bool))))))(y6:List Int)(y8:List (List Int)):Bool:=HG (du y0 y5) (dw y0 y5) y6 y8
def gc(y0:Int)(y5:List (Int×(Int×((Int×Int)×(Int×(Int×Bool))))))(y6:List Int)(y8:List (List Int)):Bool:=Ah (du y0 y5) (dw y0 y5) ((bO y0 y5).1.1) ((bO y0 y5).1.2) (((bO y0 y5).2).1) ((dx y0 y5).1) ((dx y0 y5).2) y6 y8
def gd(y0:Int):Int:=IntKind.wrap .i64 (y0 + (1:Int))
def Kh:be→List (Nat×SV)
 |(y0,y1,_,_,_,_,_,_,_,_,_,_)=> [(8,(.one ⟨false,[.val (.int .i64 y0)]⟩)),(7,(.one ⟨false,[.val (.int .i64 y1)]⟩)),(1,(.one ⟨false,[.clo 145 [0]]⟩)),(0,(.one ⟨false,[.ref 1]⟩))]
def Kg:be→List (Nat×Entry)
 |(_,_,y2,y3,y4,y5,y6,y7,y8,y9,y10,y11)=> [(0,(.box 33 [.val (.int .i64 y2),.ref 2,.ref 3,.ref 4,.ref 5,.val (.int .i64 y3),.ref 6,.ref 7,.val (.int .i64 y4)])),(1,(.row false 49 acz y5)),(2,(.row false 2 aj1 y6)),(3,(.row false 169 adH y7)),(4,(.row false 24 ajI y8)),(5,(.row false 100 adH y9)),(6,(.row false 173 aej y10)),(7,(.row false 176 aej y11))]
def Kj:Nat→be→List (Nat×SV)
 |0,(y0,_,_,_,_,_,_,_,_,_,_,_)=> [(4,(.one ⟨false,[.val (.int .i64 y0)]⟩))]
 |_,(_,_,_,_,_,_,_,_,_,_,_,_)=> []
def Ki:Nat→be→List (Nat×Entry)
 |0,(_,_,y2,y3,y4,y5,y6,y7,y8,y9,y10,y11)=> [(0,(.box 33 [.val (.int .i64 y2),.ref 2,.ref 3,.ref 4,.ref 5,.val (.int .i64 y3),.ref 6,.ref 7,.val (.int .i64 y4)])),(1,(.row false 49 acz y5)),(2,(.row false 2 aj1 y6)),(3,(.row false 169 adH y7)),(4,(.row false 24 ajI y8)),(5,(.row false 100 adH y9)),(6,(.row false 173 aej y10)),(7,(.row false 176 aej y11))]
 |_,(_,_,y2,y3,y4,y5,y6,y7,y8,y9,y10,y11)=> [(0,(.box 33 [.val (.int .i64 y2),.ref 2,.ref 3,.ref 4,.ref 5,.val (.int .i64 y3),.ref 6,.ref 7,.val (.int .i64 y4)])),(1,(.row false 49 acz y5)),(2,(.row false 2 aj1 y6)),(3,(.row false 169 adH y7)),(4,(.row false 24 ajI y8)),(5,(.row false 100 adH y9)),(6,(.row false 173 aej y10)),(7,(.row false 176 aej y11))]
def fy:be→LT be
 |(y0,y1,y2,y3,y4,y5,y6,y7,y8,y9,y10,y11)=> .ite (fU y0 y1) (.need [fW y0,fX y0 y5,fY y0 y5,fZ y0 y5 y6 y8] (.ite (gc y0 y5 y6 y8) (.ext 0 [(0,0),(1,1),(2,2),(3,3),(4,4),(5,5),(6,6),(7,7)]) (.nrm ((gd y0),y1,y2,y3,y4,y5,y6,y7,y8,y9,y10,y11) [(0,0),(1,1),(2,2),(3,3),(4,4),(5,5),(6,6),(7,7)]))) (.ext 1 [(0,0),(1,1),(2,2),(3,3),(4,4),(5,5),(6,6),(7,7)])
def om(s:St):Option be:=
 (match s.look 8 with
 |some ⟨none,.one ⟨false,[.val (.int .i64 y0)]⟩⟩=>
 (match s.look 7 with
 |some ⟨none,.one ⟨false,[.val (.int .i64 y1)]⟩⟩=>
 (match s.look 1 with
 |some ⟨none,.one ⟨false,[.clo 145 [1]]⟩⟩=>
 (match s.look 0 with
 |some ⟨none,.one ⟨false,[.ref 0]⟩⟩=>
 (match s.ent 1 with
 |some (.box 33 [.val (.int .i64 y2),.ref 2,.ref 3,.ref 4,.ref 5,.val (.int .i64 y3),.ref 6,.ref 7,.val (.int .i64 y4)])=>
 (match s.ent 0 with
 |some (.row false 49 (.pair (.int .i64) (.pair (.int .i64) (.pair (.pair (.int .i64) (.int .i64)) (.pair (.int .i64) (.pair (.int .i64) .bool))))) y5)=>
 (match s.ent 2 with
 |some (.row false 2 (.int .i64) y6)=>
 (match s.ent 3 with
 |some (.row false 169 (.pair (.int .i64) (.pair (.int .i64) (.int .i64))) y7)=>
 (match s.ent 4 with
 |some (.row false 24 (.sl 2 (.int .i64)) y8)=>
 (match s.ent 5 with
 |some (.row false 100 (.pair (.int .i64) (.pair (.int .i64) (.int .i64))) y9)=>
 (match s.ent 6 with
 |some (.row false 173 (.pair (.int .i64) (.int .i64)) y10)=>
 (match s.ent 7 with
 |some (.row false 176 (.pair (.int .i64) (.int .i64)) y11)=>
 some (y0,y1,y2,y3,y4,y5,y6,y7,y8,y9,y10,y11)
 |_=>none)
 |_=>none)
 |_=>none)
 |_=>none)
 |_=>none)
 |_=>none)
 |_=>none)
 |_=>none)
 |_=>none)
 |_=>none)
 |_=>none)
 |_=>none)
def ak:Lp be where
 h:=⟨[9,10,5,11,12,13,14,15,16,17,4,18,8],[0,1,2,3,4,5,6,7],[],[]⟩
 JL:=Kh
 JE:=Kg
 XL:=Kj
 XE:=Ki
 q:=fun j=>match j with | 0=> .ret | _=> .exit 0
 tags:= [0,1]
 lt:=fy
 fuel:=fun(y0,y1,y2,y3,y4,y5,y6,y7,y8,y9,y10,y11)=>y0.natAbs + y1.natAbs + y2.natAbs + y3.natAbs + y4.natAbs + y5.length + y6.length + y7.length + y8.length + y9.length + y10.length + y11.length
 fix:=fun(_,y1,y2,y3,y4,y5,y6,y7,y8,y9,y10,y11) (y0,_,_,_,_,_,_,_,_,_,_,_)=>(y0,y1,y2,y3,y4,y5,y6,y7,y8,y9,y10,y11)
 σ:= [(0,1),(1,0),(2,2),(3,3),(4,4),(5,5),(6,6),(7,7)]
 rd:=om
theorem Jh:LoopOk prog (fun k=>Nat.blt k Tryz.f200.ntmps) ak.F (aH f200 0):=by
 refine Lp.ok (tbl:= (T3z [pa])) (lf:= []) aO ak (by kernel_rfl) (LOk.nil _) (fun _=>rfl) (fun j _=>by unfold ak;match j with | 0=>rfl | _ + 1=>rfl) ?_ ?_ ?_ ?_ (fun _=>rfl) ?_
 ·rintro⟨y0,y1,y2,y3,y4,y5,y6,y7,y8,y9,y10,y11⟩;kernel_rfl
 ·rintro⟨y0,y1,y2,y3,y4,y5,y6,y7,y8,y9,y10,y11⟩;kernel_rfl
 ·intro s x h
  have h:om s=some x:=h
  unfold om at h
  repeat' split at h
  all_goals cases h
  constructor<;>repeat(first|refine ae (by assumption) rfl ?_|refine af rfl (by assumption) rfl ?_|exact rfl)
 ·rintro⟨y0,y1,y2,y3,y4,y5,y6,y7,y8,y9,y10,y11⟩;kernel_rfl
 ·rintro⟨y0,y1,y2,y3,y4,y5,y6,y7,y8,y9,y10,y11⟩ z;exact(And.intro (And.intro trivial rfl) trivial)
section
variable (x0:List (Int×Int×(Int×Int)×Int×Int×Bool))(x1 x2 x3:Int)(x4:List Int)(x5:List (Int×Int×Int))(x6:List (List Int))(x7:List (Int×Int×Int))(x8 x9:List (Int×Int))
def gP:Int×Int×Int×Int×Int×List (Int×Int×(Int×Int)×Int×Int×Bool)×List Int×List (Int×Int×Int)×List (List Int)×List (Int×Int×Int)×List (Int×Int)×List (Int×Int):=((0:Int),(↑x0.length:Int),x1,x2,x3,x0,x4,x5,x6,x7,x8,x9)
def gQ:Bool:=Nat.beq ((Lp.res ak (gP x0 x1 x2 x3 x4 x5 x6 x7 x8 x9)).1) 0
def rB:Int:=bif gQ x0 x1 x2 x3 x4 x5 x6 x7 x8 x9 then ((Lp.res ak (gP x0 x1 x2 x3 x4 x5 x6 x7 x8 x9)).2).1else(-1:Int)
def BB:Int:=bif gQ x0 x1 x2 x3 x4 x5 x6 x7 x8 x9 then x1 else x1
def BC:Int:=bif gQ x0 x1 x2 x3 x4 x5 x6 x7 x8 x9 then x2 else x2
def BD:Int:=bif gQ x0 x1 x2 x3 x4 x5 x6 x7 x8 x9 then x3 else x3
def rC:Bool:=allT [Lp.fin ak (gP x0 x1 x2 x3 x4 x5 x6 x7 x8 x9)]
end
def Az:List SV→List Entry→Option Out
 | [.one ⟨false,[.ref 0]⟩,.one ⟨false,[.clo 145 [1]]⟩],[.row false 49 (.pair (.int .i64) (.pair (.int .i64) (.pair (.pair (.int .i64) (.int .i64)) (.pair (.int .i64) (.pair (.int .i64) .bool))))) x0,.box 33 [.val (.int .i64 x1),.ref 2,.ref 3,.ref 4,.ref 5,.val (.int .i64 x2),.ref 6,.ref 7,.val (.int .i64 x3)],.row false 2 (.int .i64) x4,.row false 169 (.pair (.int .i64) (.pair (.int .i64) (.int .i64))) x5,.row false 24 (.sl 2 (.int .i64)) x6,.row false 100 (.pair (.int .i64) (.pair (.int .i64) (.int .i64))) x7,.row false 173 (.pair (.int .i64) (.int .i64)) x8,.row false 176 (.pair (.int .i64) (.int .i64)) x9]=>some ⟨.one ⟨false,[.val (.int .i64 (rB x0 x1 x2 x3 x4 x5 x6 x7 x8 x9))]⟩,[.row false 49 acz x0,.box 33 [.val (.int .i64 (BB x0 x1 x2 x3 x4 x5 x6 x7 x8 x9)),.ref 2,.ref 3,.ref 4,.ref 5,.val (.int .i64 (BC x0 x1 x2 x3 x4 x5 x6 x7 x8 x9)),.ref 6,.ref 7,.val (.int .i64 (BD x0 x1 x2 x3 x4 x5 x6 x7 x8 x9))],.row false 2 aj1 x4,.row false 169 adH x5,.row false 24 ajI x6,.row false 100 adH x7,.row false 173 aej x8,.row false 176 aej x9],[],[rC x0 x1 x2 x3 x4 x5 x6 x7 x8 x9]⟩
 |_,_=>none
def ry:PF prog:=PF.ofG prog (T3z [pa]) [ak.F] aO 200 f200 func200 (LOk.fnT (l:= [aH f200 0]) (by kernel_rfl) (.cons Jh (.nil _))) Az (by
 intro vs es r h;unfold Az at h;split at h
 ·cases h;kernel_rfl
 ·cases h)
section
variable (x0:List (Int×Int×(Int×Int)×Int×Int×Bool))(x1 x2 x3:Int)(x4:List Int)(x5:List (Int×Int×Int))(x6:List (List Int))(x7:List (Int×Int×Int))(x8 x9:List (Int×Int))
def kb:Bool:=leI 0 (rB x0 x1 x2 x3 x4 x5 x6 x7 x8 x9)
def Lf:Int:=BB x0 x1 x2 x3 x4 x5 x6 x7 x8 x9
def Lg:Int:=BC x0 x1 x2 x3 x4 x5 x6 x7 x8 x9
def Lh:Int:=BD x0 x1 x2 x3 x4 x5 x6 x7 x8 x9
def oS:Bool:=allT [rC x0 x1 x2 x3 x4 x5 x6 x7 x8 x9]
end
def yE:List SV→List Entry→Option Out
 | [.one ⟨false,[.ref 0]⟩,.one ⟨false,[.clo 145 [1]]⟩],[.row false 49 (.pair (.int .i64) (.pair (.int .i64) (.pair (.pair (.int .i64) (.int .i64)) (.pair (.int .i64) (.pair (.int .i64) .bool))))) x0,.box 33 [.val (.int .i64 x1),.ref 2,.ref 3,.ref 4,.ref 5,.val (.int .i64 x2),.ref 6,.ref 7,.val (.int .i64 x3)],.row false 2 (.int .i64) x4,.row false 169 (.pair (.int .i64) (.pair (.int .i64) (.int .i64))) x5,.row false 24 (.sl 2 (.int .i64)) x6,.row false 100 (.pair (.int .i64) (.pair (.int .i64) (.int .i64))) x7,.row false 173 (.pair (.int .i64) (.int .i64)) x8,.row false 176 (.pair (.int .i64) (.int .i64)) x9]=>some ⟨.one ⟨false,[.val (.bool (kb x0 x1 x2 x3 x4 x5 x6 x7 x8 x9))]⟩,[.row false 49 acz x0,.box 33 [.val (.int .i64 (Lf x0 x1 x2 x3 x4 x5 x6 x7 x8 x9)),.ref 2,.ref 3,.ref 4,.ref 5,.val (.int .i64 (Lg x0 x1 x2 x3 x4 x5 x6 x7 x8 x9)),.ref 6,.ref 7,.val (.int .i64 (Lh x0 x1 x2 x3 x4 x5 x6 x7 x8 x9))],.row false 2 aj1 x4,.row false 169 adH x5,.row false 24 ajI x6,.row false 100 adH x7,.row false 173 aej x8,.row false 176 aej x9],[],[oS x0 x1 x2 x3 x4 x5 x6 x7 x8 x9]⟩
 |_,_=>none
def oO:PF prog:=PF.ofG prog (T3z [ry]) [] aO 144 f144 func144 (fun c _=>LOk.nil c) yE (by
 intro vs es r h;unfold yE at h;split at h
 ·cases h;kernel_rfl
 ·cases h)
section
variable (x0 x1 x2:Int)(x3:List Int)(x4:List (Int×Int×Int))(x5:List (List Int))(x6:List (Int×Int×Int))(x7 x8:List (Int×Int))(x9:List (Int×Int×(Int×Int)×Int×Int×Bool))
def Sw:Bool:=ltI 200 (↑x9.length:Int)
def zx:Int:=bif !uL x0 x3 x4 x5 x6 x1 x7 x8 x2 then(1:Int)else bif Sw x9 then(3:Int)else bif kb x9 x0 x1 x2 x3 x4 x5 x6 x7 x8 then(2:Int)else(0:Int)
def DO:Bool:=allT [uD 9223372036854775807 x3 x4 x5 x6 x7 x8,!uL x0 x3 x4 x5 x6 x1 x7 x8 x2||(Sw x9||oS x9 x0 x1 x2 x3 x4 x5 x6 x7 x8)]
end
def abj:List SV→List Entry→Option Out
 | [.one ⟨true,[.val (.int .i64 x0),.ref 0,.ref 1,.ref 2,.ref 3,.val (.int .i64 x1),.ref 4,.ref 5,.val (.int .i64 x2)]⟩,.one ⟨false,[.ref 6]⟩],[.row false 2 (.int .i64) x3,.row false 169 (.pair (.int .i64) (.pair (.int .i64) (.int .i64))) x4,.row false 24 (.sl 2 (.int .i64)) x5,.row false 100 (.pair (.int .i64) (.pair (.int .i64) (.int .i64))) x6,.row false 173 (.pair (.int .i64) (.int .i64)) x7,.row false 176 (.pair (.int .i64) (.int .i64)) x8,.row false 49 (.pair (.int .i64) (.pair (.int .i64) (.pair (.pair (.int .i64) (.int .i64)) (.pair (.int .i64) (.pair (.int .i64) (.bool)))))) x9]=>some ⟨.one ⟨false,[.val (.int .i64 (zx x0 x1 x2 x3 x4 x5 x6 x7 x8 x9))]⟩,[.row false 2 aj1 x3,.row false 169 adH x4,.row false 24 (CTy.sl (2:TypeId) aj1) x5,.row false 100 adH x6,.row false 173 aej x7,.row false 176 aej x8,.row false 49 acz x9],[],[DO x0 x1 x2 x3 x4 x5 x6 x7 x8 x9]⟩
 |_,_=>none
def El:PF prog:=PF.ofG prog (T3z [lO,oO]) [] aO 54 f54 func54 (fun c _=>LOk.nil c) abj (by
 intro vs es r h;unfold abj at h;split at h
 ·cases h;kernel_rfl
 ·cases h)
abbrev bh:=Int×Int×List (List Int)×Int×Int×Int×List Int×List (Int×(Int×Int))×List (List Int)×List (Int×(Int×Int))×List (Int×Int)×List (Int×Int)
section
variable (y0 y1:Int)(y2 y8:List (List Int))
def bw:List Int:=Option.getD y2[Int.toNat y0]? (vf ajI)
def gq:Bool:=ltI y0 y1
def gr:Bool:=leI 0 y0
def gt:Bool:=ltI y0 (↑y2.length:Int)
def gu:Bool:=ltN y0.toNat y2.length
def gv:Bool:=leN 1 (List.length (bw y0 y2))&&leN (List.length (bw y0 y2)) 1048576
def gw:Bool:=leN (List.length y8 + List.length [bw y0 y2]) (9223372036854775807:Nat)
def gx:Bool:=leN ((List.length y8 + List.length [bw y0 y2]) * (24:Nat)) 140737488355328
def gy:Int:=IntKind.wrap .i64 (y0 + (1:Int))
def gz:List (List Int):=y8++ [bw y0 y2]
end
def KR:bh→List (Nat×SV)
 |(y0,y1,_,_,_,_,_,_,_,_,_,_)=> [(31,(.one ⟨false,[.val (.int .i64 y0)]⟩)),(30,(.one ⟨false,[.val (.int .i64 y1)]⟩)),(29,(.one ⟨false,[.ref 0]⟩)),(3,(.one ⟨false,[.ptr 1 0]⟩))]
def KQ:bh→List (Nat×Entry)
 |(_,_,y2,y3,y4,y5,y6,y7,y8,y9,y10,y11)=> [(0,(.row false 24 ajI y2)),(1,(.box 33 [.val (.int .i64 y3),.ref 2,.ref 3,.ref 4,.ref 5,.val (.int .i64 y4),.ref 6,.ref 7,.val (.int .i64 y5)])),(2,(.row true 2 aj1 y6)),(3,(.row true 169 adH y7)),(5,(.row true 100 adH y9)),(6,(.row true 173 aej y10)),(7,(.row true 176 aej y11)),(4,(.tree 24 ajI y8 none))]
def KT:Nat→bh→List (Nat×SV)
 |_,(_,_,_,_,_,_,_,_,_,_,_,_)=> []
def KS:Nat→bh→List (Nat×Entry)
 |_,(_,_,y2,y3,y4,y5,y6,y7,y8,y9,y10,y11)=> [(0,(.row false 24 ajI y2)),(1,(.box 33 [.val (.int .i64 y3),.ref 2,.ref 3,.ref 4,.ref 5,.val (.int .i64 y4),.ref 6,.ref 7,.val (.int .i64 y5)])),(2,(.row true 2 aj1 y6)),(3,(.row true 169 adH y7)),(4,(.tree 24 ajI y8 none)),(5,(.row true 100 adH y9)),(6,(.row true 173 aej y10)),(7,(.row true 176 aej y11))]
def fT:bh→LT bh
 |(y0,y1,y2,y3,y4,y5,y6,y7,y8,y9,y10,y11)=> .ite (gq y0 y1) (.need [gr y0,gt y0 y2,gu y0 y2] (.need [gv y0 y2,gw y0 y2 y8,gx y0 y2 y8] (.nrm ((gy y0),y1,y2,y3,y4,y5,y6,y7,gz y0 y2 y8,y9,y10,y11) [(0,0),(1,1),(2,2),(3,3),(4,640),(5,5),(6,6),(7,7)]))) (.ext 0 [(0,0),(1,1),(2,2),(3,3),(4,4),(5,5),(6,6),(7,7)])
def oR(s:St):Option bh:=
 (match s.look 31 with
 |some ⟨none,.one ⟨false,[.val (.int .i64 y0)]⟩⟩=>
 (match s.look 30 with
 |some ⟨none,.one ⟨false,[.val (.int .i64 y1)]⟩⟩=>
 (match s.look 29 with
 |some ⟨none,.one ⟨false,[.ref 2]⟩⟩=>
 (match s.look 3 with
 |some ⟨none,.one ⟨false,[.ptr 640 0]⟩⟩=>
 (match s.ent 2 with
 |some (.row false 24 (.sl 2 (.int .i64)) y2)=>
 (match s.ent 640 with
 |some (.box 33 [.val (.int .i64 y3),.ref 896,.ref 1216,.ref 2432,.ref 1408,.val (.int .i64 y4),.ref 1856,.ref 2048,.val (.int .i64 y5)])=>
 (match s.ent 896 with
 |some (.row true 2 (.int .i64) y6)=>
 (match s.ent 1216 with
 |some (.row true 169 (.pair (.int .i64) (.pair (.int .i64) (.int .i64))) y7)=>
 (match s.ent 1408 with
 |some (.row true 100 (.pair (.int .i64) (.pair (.int .i64) (.int .i64))) y9)=>
 (match s.ent 1856 with
 |some (.row true 173 (.pair (.int .i64) (.int .i64)) y10)=>
 (match s.ent 2048 with
 |some (.row true 176 (.pair (.int .i64) (.int .i64)) y11)=>
 (match s.ent 2432 with
 |some (.tree 24 (.sl 2 (.int .i64)) y8 none)=>
 some (y0,y1,y2,y3,y4,y5,y6,y7,y8,y9,y10,y11)
 |_=>none)
 |_=>none)
 |_=>none)
 |_=>none)
 |_=>none)
 |_=>none)
 |_=>none)
 |_=>none)
 |_=>none)
 |_=>none)
 |_=>none)
 |_=>none)
def aA:Lp bh where
 h:=⟨[32,33,34,5,35,36,37,38,39,40,41,42,31],[0,1,2,3,5,6,7],[4],[]⟩
 JL:=KR
 JE:=KQ
 XL:=KT
 XE:=KS
 q:=fun j=>match j with | _=> .exit 0
 tags:= [0]
 lt:=fT
 fuel:=fun(y0,y1,y2,y3,y4,y5,y6,y7,y8,y9,y10,y11)=>y0.natAbs + y1.natAbs + y2.length + y3.natAbs + y4.natAbs + y5.natAbs + y6.length + y7.length + y8.length + y9.length + y10.length + y11.length
 fix:=fun(_,y1,y2,y3,y4,y5,y6,y7,_,y9,y10,y11) (y0,_,_,_,_,_,_,_,y8,_,_,_)=>(y0,y1,y2,y3,y4,y5,y6,y7,y8,y9,y10,y11)
 σ:= [(0,2),(1,640),(2,896),(3,1216),(5,1408),(6,1856),(7,2048),(4,2432)]
 rd:=oR
theorem Ka:LoopOk prog (fun k=>Nat.blt k Tryz.f55.ntmps) aA.F (aH f55 0):=by
 refine Lp.ok (tbl:= (PF.trees prog::T3z [bC,jn,kF,oZ,oY,al])) (lf:= []) aO aA (by kernel_rfl) (LOk.nil _) (fun _=>rfl) (fun _ _=>rfl) ?_ ?_ ?_ ?_ (fun _=>rfl) ?_
 ·rintro⟨y0,y1,y2,y3,y4,y5,y6,y7,y8,y9,y10,y11⟩;kernel_rfl
 ·rintro⟨y0,y1,y2,y3,y4,y5,y6,y7,y8,y9,y10,y11⟩;kernel_rfl
 ·intro s x h
  have h:oR s=some x:=h
  unfold oR at h
  repeat' split at h
  all_goals cases h
  constructor<;>repeat(first|refine ae (by assumption) rfl ?_|refine af rfl (by assumption) rfl ?_|exact rfl)
 ·rintro⟨y0,y1,y2,y3,y4,y5,y6,y7,y8,y9,y10,y11⟩;kernel_rfl
 ·rintro⟨y0,y1,y2,y3,y4,y5,y6,y7,y8,y9,y10,y11⟩ z;exact(And.intro rfl trivial)
section
variable (x0 x1 x2:Int)(x3:List Int)(x4:List (Int×Int×Int))(x5:List (List Int))(x6:List (Int×Int×Int))(x7 x8:List (Int×Int))
def li:Int×Int×List (List Int)×Int×Int×Int×List Int×List (Int×Int×Int)×List (List Int)×List (Int×Int×Int)×List (Int×Int)×List (Int×Int):=((0:Int),(↑x5.length:Int),x5,x0,x1,x2,x3,x4,[],x6,x7,x8)
def mc:List (List Int):=((Lp.res aA (li x0 x1 x2 x3 x4 x5 x6 x7 x8)).2.2.2.2.2.2.2.2.2).1
def md:Bool:=allT [gA x3,leN x4.length (1048576:Nat),leN x6.length (1048576:Nat),leN x7.length (1048576:Nat),leN x8.length (1048576:Nat),Lp.fin aA (li x0 x1 x2 x3 x4 x5 x6 x7 x8)]
end
def BO:List SV→List Entry→Option Out
 | [.one ⟨true,[.val (.int .i64 x0),.ref 0,.ref 1,.ref 2,.ref 3,.val (.int .i64 x1),.ref 4,.ref 5,.val (.int .i64 x2)]⟩],[.row false 2 (.int .i64) x3,.row false 169 (.pair (.int .i64) (.pair (.int .i64) (.int .i64))) x4,.row false 24 (.sl 2 (.int .i64)) x5,.row false 100 (.pair (.int .i64) (.pair (.int .i64) (.int .i64))) x6,.row false 173 (.pair (.int .i64) (.int .i64)) x7,.row false 176 (.pair (.int .i64) (.int .i64)) x8]=>some ⟨.one ⟨true,[.val (.int .i64 x0),.ref 6,.ref 7,.ref 8,.ref 9,.val (.int .i64 x1),.ref 10,.ref 11,.val (.int .i64 x2)]⟩,[.row false 2 aj1 x3,.row false 169 adH x4,.row false 24 (CTy.sl (2:TypeId) aj1) x5,.row false 100 adH x6,.row false 173 aej x7,.row false 176 aej x8],[.row true 2 aj1 x3,.row true 169 adH x4,.tree 24 ajI (mc x0 x1 x2 x3 x4 x5 x6 x7 x8) none,.row true 100 adH x6,.row true 173 aej x7,.row true 176 aej x8],[md x0 x1 x2 x3 x4 x5 x6 x7 x8]⟩
 |_,_=>none
def ff:PF prog:=PF.ofG prog (PF.trees prog::T3z [bC,jn,kF,oZ,oY,al]) [aA.F] aO 55 f55 func55 (LOk.fnT (l:= [aH f55 0]) (by kernel_rfl) (.cons Ka (.nil _))) BO (by
 intro vs es r h;unfold BO at h;split at h
 ·cases h;kernel_rfl
 ·cases h)
def ah(x3:Int)(x4:List Int):Bool:=Int.tmod (Option.getD x4[Int.toNat x3]? 0) 3==1
def qI(x3:Int)(x4:List Int):Bool:=allT [leI 0 x3,ltI x3 (↑x4.length:Int),ltN x3.toNat x4.length]
def zT:List SV→List Entry→Option Out
 | [.one ⟨true,[.val (.int .i64 _x0),.ref 0,.ref 1,.ref 2,.ref 3,.val (.int .i64 _x1),.ref 4,.ref 5,.val (.int .i64 _x2)]⟩,.one ⟨false,[.val (.int .i64 x3)]⟩],[.row false 2 (.int .i64) x4,.row false 169 (.pair (.int .i64) (.pair (.int .i64) (.int .i64))) x5,.row false 24 (.sl 2 (.int .i64)) x6,.row false 100 (.pair (.int .i64) (.pair (.int .i64) (.int .i64))) x7,.row false 173 (.pair (.int .i64) (.int .i64)) x8,.row false 176 (.pair (.int .i64) (.int .i64)) x9]=>some ⟨.one ⟨false,[.val (.bool (ah x3 x4))]⟩,[.row false 2 aj1 x4,.row false 169 adH x5,.row false 24 (CTy.sl (2:TypeId) aj1) x6,.row false 100 adH x7,.row false 173 aej x8,.row false 176 aej x9],[],[qI x3 x4]⟩
 |_,_=>none
def qO:PF prog:=PF.ofG prog [] [] aO 201 f201 func201 (fun c _=>LOk.nil c) zT (by
 intro vs es r h;unfold zT at h;split at h
 ·cases h;kernel_rfl
 ·cases h)
section
variable (x0 x1 x2 x3:Int)(x4:List Int)(x5:List (Int×Int×Int))(x6:List (List Int))(x7:List (Int×Int×Int))(x8 x9:List (Int×Int))
def au:Bool:= !anM x1 x4 (Sl x1 x4 x5 0) (Sl x1 x4 x5 1) x0
def iH:List Int:=bif ag x1 x0 x4&&true then Option.getD x6[Int.toNat x0]? (vf (CTy.sl (2:TypeId) aj1))else []
def aP:Bool:=bif ag x1 x0 x4 then !akm (iH x0 x1 x4 x6) x7 else false
def sq:List (Int×Int×Int):=bif ag x1 x0 x4&&true then x7 else x7
def my:Int:=bif !ah x0 x4 then(0:Int)else bif x2 !=3 then(1:Int)else bif au x0 x1 x4 x5 then(2:Int)else bif aP x0 x1 x4 x6 x7 then(3:Int)else(0:Int)
def sX:Int:=bif !ah x0 x4 then x1 else bif x2 !=3 then x1 else bif au x0 x1 x4 x5 then x1 else bif aP x0 x1 x4 x6 x7 then x1 else x1
def sY:Int:=bif !ah x0 x4 then x2 else bif x2 !=3 then x2 else bif au x0 x1 x4 x5 then x2 else bif aP x0 x1 x4 x6 x7 then x2 else x2
def sZ:Int:=bif !ah x0 x4 then x3 else bif x2 !=3 then x3 else bif au x0 x1 x4 x5 then x3 else bif aP x0 x1 x4 x6 x7 then x3 else x3
def ta:List Int:=bif !ah x0 x4 then aoB x1 x4 x0 else bif x2 !=3 then x4 else bif au x0 x1 x4 x5 then x4 else bif aP x0 x1 x4 x6 x7 then x4 else aoB x1 x4 x0
def tb:List (Int×(Int×Int)):=bif !ah x0 x4 then x5 else bif x2 !=3 then x5 else bif au x0 x1 x4 x5 then x5 else bif aP x0 x1 x4 x6 x7 then x5 else x5
def tc:List (Int×(Int×Int)):=bif !ah x0 x4 then x7 else bif x2 !=3 then x7 else bif au x0 x1 x4 x5 then x7 else bif aP x0 x1 x4 x6 x7 then sq x0 x1 x4 x7 else sq x0 x1 x4 x7
def td:List (Int×Int):=bif !ah x0 x4 then x8 else bif x2 !=3 then x8 else bif au x0 x1 x4 x5 then x8 else bif aP x0 x1 x4 x6 x7 then x8 else x8
def te:List (Int×Int):=bif !ah x0 x4 then x9 else bif x2 !=3 then x9 else bif au x0 x1 x4 x5 then x9 else bif aP x0 x1 x4 x6 x7 then x9 else x9
def mz:Bool:=allT [qI x0 x4,!ah x0 x4||(x2 !=3||isT x1 x4&&aop x1 x5),!ah x0 x4||(x2 !=3||air x1 x4 (Sl x1 x4 x5 0) (Sl x1 x4 x5 1) x0),!ah x0 x4||(x2 !=3||(au x0 x1 x4 x5||bm x0 x4)),!ah x0 x4||(x2 !=3||(au x0 x1 x4 x5||(!(ag x1 x0 x4&&true)||leI 0 x0))),!ah x0 x4||(x2 !=3||(au x0 x1 x4 x5||(!(ag x1 x0 x4&&true)||ltI x0 (↑x6.length:Int)))),!ah x0 x4||(x2 !=3||(au x0 x1 x4 x5||(!(ag x1 x0 x4&&true)||ltN x0.toNat x6.length))),!ah x0 x4||(x2 !=3||(au x0 x1 x4 x5||(!(ag x1 x0 x4&&true)||arW (iH x0 x1 x4 x6) x7))),!!ah x0 x4||aim x1 x4 x0,!ah x0 x4||(x2 !=3||(au x0 x1 x4 x5||(aP x0 x1 x4 x6 x7||aim x1 x4 x0)))]
end
def Cz:List SV→List Entry→Option Out
 | [.one ⟨false,[.ptr 0 0]⟩,.one ⟨false,[.val (.int .i64 x0)]⟩],[.box 33 [.val (.int .i64 x1),.ref 1,.ref 2,.ref 3,.ref 4,.val (.int .i64 x2),.ref 5,.ref 6,.val (.int .i64 x3)],.row true 2 (.int .i64) x4,.row true 169 (.pair (.int .i64) (.pair (.int .i64) (.int .i64))) x5,.row false 24 (.sl 2 (.int .i64)) x6,.row true 100 (.pair (.int .i64) (.pair (.int .i64) (.int .i64))) x7,.row true 173 (.pair (.int .i64) (.int .i64)) x8,.row true 176 (.pair (.int .i64) (.int .i64)) x9]=>some ⟨.one ⟨false,[.val (.int .i64 (my x0 x1 x2 x4 x5 x6 x7))]⟩,[.box 33 [.val (.int .i64 (sX x0 x1 x2 x4 x5 x6 x7)),.ref 7,.ref 8,.ref 3,.ref 9,.val (.int .i64 (sY x0 x1 x2 x4 x5 x6 x7)),.ref 10,.ref 11,.val (.int .i64 (sZ x0 x1 x2 x3 x4 x5 x6 x7))],.gone,.gone,.row false 24 (CTy.sl (2:TypeId) aj1) x6,.gone,.gone,.gone],[.row true 2 aj1 (ta x0 x1 x2 x4 x5 x6 x7),.row true 169 adH (tb x0 x1 x2 x4 x5 x6 x7),.row true 100 adH (tc x0 x1 x2 x4 x5 x6 x7),.row true 173 aej (td x0 x1 x2 x4 x5 x6 x7 x8),.row true 176 aej (te x0 x1 x2 x4 x5 x6 x7 x9)],[mz x0 x1 x2 x4 x5 x6 x7]⟩
 |_,_=>none
def CW:PF prog:=PF.ofGK prog (T3z [Ym,qO,Wh,oM,pI,aI]) [] aO 152 f152 func152 (fun c _=>LOk.nil c) Cz (by
 intro vs es r h;unfold Cz at h;split at h
 ·cases h;kernel_rfl
 ·cases h)
section
variable (x0 x1 x2 x3 x4 x5:Int)(x6:List Int)(x7:List (Int×Int×Int))(x8:List (List Int))(x9:List (Int×Int×Int))(x10 x11:List (Int×Int))
def aw:List Int:=Option.getD x8[Int.toNat x0]? (vf (CTy.sl (2:TypeId) aj1))
def oJ:List (List Int):=List.set x8 x0.toNat (bif FQ (aw x0 x8) x1 x2 then adU (aw x0 x8) x1 x2 else aw x0 x8)
def py:Int:=bif !ag x3 x0 x6 then(4:Int)else bif !FQ (aw x0 x8) x1 x2 then(5:Int)else(0:Int)
def pz:Int:=bif !ag x3 x0 x6 then x3 else bif !FQ (aw x0 x8) x1 x2 then x3 else x3
def pA:Int:=bif !ag x3 x0 x6 then x4 else bif !FQ (aw x0 x8) x1 x2 then x4 else x4
def pB:Int:=bif !ag x3 x0 x6 then x5 else bif !FQ (aw x0 x8) x1 x2 then x5 else x5
def pC:List Int:=bif !ag x3 x0 x6 then x6 else bif !FQ (aw x0 x8) x1 x2 then x6 else x6
def pD:List (Int×(Int×Int)):=bif !ag x3 x0 x6 then x7 else bif !FQ (aw x0 x8) x1 x2 then x7 else x7
def pE:List (List Int):=bif !ag x3 x0 x6 then x8 else bif !FQ (aw x0 x8) x1 x2 then oJ x0 x1 x2 x8 else oJ x0 x1 x2 x8
def pF:List (Int×(Int×Int)):=bif !ag x3 x0 x6 then x9 else bif !FQ (aw x0 x8) x1 x2 then x9 else x9
def pG:List (Int×Int):=bif !ag x3 x0 x6 then x10 else bif !FQ (aw x0 x8) x1 x2 then x10 else x10
def pH:List (Int×Int):=bif !ag x3 x0 x6 then x11 else bif !FQ (aw x0 x8) x1 x2 then x11 else x11
def oI:Bool:=allT [bm x0 x6,!ag x3 x0 x6||leI 0 x0,!ag x3 x0 x6||ltI x0 (↑x8.length:Int),!ag x3 x0 x6||ltN x0.toNat x8.length,!ag x3 x0 x6||aoG (aw x0 x8) x1 x2]
end
def yQ:List SV→List Entry→Option Out
 | [.one ⟨false,[.ptr 0 0]⟩,.one ⟨false,[.val (.int .i64 x0)]⟩,.one ⟨true,[.val (.int .i64 x1),.val (.int .i64 x2)]⟩],[.box 33 [.val (.int .i64 x3),.ref 1,.ref 2,.ref 3,.ref 4,.val (.int .i64 x4),.ref 5,.ref 6,.val (.int .i64 x5)],.row true 2 (.int .i64) x6,.row true 169 (.pair (.int .i64) (.pair (.int .i64) (.int .i64))) x7,.tree 24 (.sl 2 (.int .i64)) x8 none,.row true 100 (.pair (.int .i64) (.pair (.int .i64) (.int .i64))) x9,.row true 173 (.pair (.int .i64) (.int .i64)) x10,.row true 176 (.pair (.int .i64) (.int .i64)) x11]=>some ⟨.one ⟨false,[.val (.int .i64 (py x0 x1 x2 x3 x6 x8))]⟩,[.box 33 [.val (.int .i64 (pz x0 x1 x2 x3 x6 x8)),.ref 1,.ref 2,.ref 3,.ref 4,.val (.int .i64 (pA x0 x1 x2 x3 x4 x6 x8)),.ref 5,.ref 6,.val (.int .i64 (pB x0 x1 x2 x3 x5 x6 x8))],.row true 2 aj1 (pC x0 x1 x2 x3 x6 x8),.row true 169 adH (pD x0 x1 x2 x3 x6 x7 x8),.tree 24 (CTy.sl (2:TypeId) aj1) (pE x0 x1 x2 x3 x6 x8) none,.row true 100 adH (pF x0 x1 x2 x3 x6 x8 x9),.row true 173 aej (pG x0 x1 x2 x3 x6 x8 x10),.row true 176 aej (pH x0 x1 x2 x3 x6 x8 x11)],[],[oI x0 x1 x2 x3 x6 x8]⟩
 |_,_=>none
def pJ:PF prog:=PF.ofG prog (PF.trees prog::T3z [LH,aI]) [] aO 153 f153 func153 (fun c _=>LOk.nil c) yQ (by
 intro vs es r h;unfold yQ at h;split at h
 ·cases h;kernel_rfl
 ·cases h)
section
variable (x0 x1:Int)(x2:Bool)(x3 x4 x5:Int)(x6:List Int)(x7:List (Int×Int×Int))(x8:List (List Int))(x9:List (Int×Int×Int))(x10 x11:List (Int×Int))
def aJ:Bool:=vdC x4 x0 x1 x2 !=0
def aN:Bool:=bif x0==1 then !aow x10 x11 x5 else false
def dZ:Bool:=x0==1&&true
def qy:Int:=bif aJ x0 x1 x2 x4 then(6:Int)else bif aN x0 x5 x10 x11 then(7:Int)else(0:Int)
def qz:Int:=bif aJ x0 x1 x2 x4 then x3 else bif aN x0 x5 x10 x11 then x3 else x3
def qA:Int:=bif aJ x0 x1 x2 x4 then x4 else bif aN x0 x5 x10 x11 then x4 else nxC x4 x0 x1 x2
def qB:Int:=bif aJ x0 x1 x2 x4 then x5 else bif aN x0 x5 x10 x11 then x5 else x5
def qC:List Int:=bif aJ x0 x1 x2 x4 then x6 else bif aN x0 x5 x10 x11 then x6 else x6
def qD:List (Int×(Int×Int)):=bif aJ x0 x1 x2 x4 then x7 else bif aN x0 x5 x10 x11 then x7 else x7
def qE:List (List Int):=bif aJ x0 x1 x2 x4 then x8 else bif aN x0 x5 x10 x11 then x8 else x8
def qF:List (Int×(Int×Int)):=bif aJ x0 x1 x2 x4 then x9 else bif aN x0 x5 x10 x11 then x9 else x9
def qG:List (Int×Int):=bif aJ x0 x1 x2 x4 then x10 else bif aN x0 x5 x10 x11 then bif dZ x0 then x10 else x10 else bif dZ x0 then x10 else x10
def qH:List (Int×Int):=bif aJ x0 x1 x2 x4 then x11 else bif aN x0 x5 x10 x11 then bif dZ x0 then x11 else x11 else bif dZ x0 then x11 else x11
def px:Bool:=allT [ano x4 x0,aJ x0 x1 x2 x4||(!dZ x0||leN x10.length (9223372036854775807:Nat)&&leN x11.length (9223372036854775807:Nat)),aJ x0 x1 x2 x4||(aN x0 x5 x10 x11||ano x4 x0)]
end
def zS:List SV→List Entry→Option Out
 | [.one ⟨false,[.ptr 0 0]⟩,.one ⟨true,[.val (.int .i64 x0),.val (.int .i64 x1),.val (.bool x2)]⟩],[.box 33 [.val (.int .i64 x3),.ref 1,.ref 2,.ref 3,.ref 4,.val (.int .i64 x4),.ref 5,.ref 6,.val (.int .i64 x5)],.row true 2 (.int .i64) x6,.row true 169 (.pair (.int .i64) (.pair (.int .i64) (.int .i64))) x7,.tree 24 (.sl 2 (.int .i64)) x8 none,.row true 100 (.pair (.int .i64) (.pair (.int .i64) (.int .i64))) x9,.row true 173 (.pair (.int .i64) (.int .i64)) x10,.row true 176 (.pair (.int .i64) (.int .i64)) x11]=>some ⟨.one ⟨false,[.val (.int .i64 (qy x0 x1 x2 x4 x5 x10 x11))]⟩,[.box 33 [.val (.int .i64 (qz x0 x1 x2 x3 x4 x5 x10 x11)),.ref 1,.ref 2,.ref 3,.ref 4,.val (.int .i64 (qA x0 x1 x2 x4 x5 x10 x11)),.ref 5,.ref 6,.val (.int .i64 (qB x0 x1 x2 x4 x5 x10 x11))],.row true 2 aj1 (qC x0 x1 x2 x4 x5 x6 x10 x11),.row true 169 adH (qD x0 x1 x2 x4 x5 x7 x10 x11),.tree 24 (CTy.sl (2:TypeId) aj1) (qE x0 x1 x2 x4 x5 x8 x10 x11) none,.row true 100 adH (qF x0 x1 x2 x4 x5 x9 x10 x11),.row true 173 aej (qG x0 x1 x2 x4 x5 x10 x11),.row true 176 aej (qH x0 x1 x2 x4 x5 x10 x11)],[],[px x0 x1 x2 x4 x5 x10 x11]⟩
 |_,_=>none
def qN:PF prog:=PF.ofG prog (PF.trees prog::T3z [Kz,SC,MD]) [] aO 154 f154 func154 (fun c _=>LOk.nil c) zS (by
 intro vs es r h;unfold zS at h;split at h
 ·cases h;kernel_rfl
 ·cases h)
section
variable (x0 x1 x2 x3 x4 x5:Int)(x6:Bool)(x7 x8 x9:Int)(x10:List Int)(x11:List (Int×Int×Int))(x12:List (List Int))(x13:List (Int×Int×Int))(x14 x15:List (Int×Int))
def dK:Int:=bif x0==0 then my x1 x7 x8 x10 x11 x12 x13 else bif x0==1 then py x1 x2 x3 x7 x10 x12 else qy x4 x5 x6 x8 x9 x14 x15
def dL:Int:=bif x0==0 then sX x1 x7 x8 x10 x11 x12 x13 else bif x0==1 then pz x1 x2 x3 x7 x10 x12 else qz x4 x5 x6 x7 x8 x9 x14 x15
def dM:Int:=bif x0==0 then sY x1 x7 x8 x10 x11 x12 x13 else bif x0==1 then pA x1 x2 x3 x7 x8 x10 x12 else qA x4 x5 x6 x8 x9 x14 x15
def dN:Int:=bif x0==0 then sZ x1 x7 x8 x9 x10 x11 x12 x13 else bif x0==1 then pB x1 x2 x3 x7 x9 x10 x12 else qB x4 x5 x6 x8 x9 x14 x15
def dO:List Int:=bif x0==0 then ta x1 x7 x8 x10 x11 x12 x13 else bif x0==1 then pC x1 x2 x3 x7 x10 x12 else qC x4 x5 x6 x8 x9 x10 x14 x15
def dP:List (Int×(Int×Int)):=bif x0==0 then tb x1 x7 x8 x10 x11 x12 x13 else bif x0==1 then pD x1 x2 x3 x7 x10 x11 x12 else qD x4 x5 x6 x8 x9 x11 x14 x15
def dQ:List (List Int):=bif x0==0 then x12 else bif x0==1 then pE x1 x2 x3 x7 x10 x12 else qE x4 x5 x6 x8 x9 x12 x14 x15
def dR:List (Int×(Int×Int)):=bif x0==0 then tc x1 x7 x8 x10 x11 x12 x13 else bif x0==1 then pF x1 x2 x3 x7 x10 x12 x13 else qF x4 x5 x6 x8 x9 x13 x14 x15
def dS:List (Int×Int):=bif x0==0 then td x1 x7 x8 x10 x11 x12 x13 x14 else bif x0==1 then pG x1 x2 x3 x7 x10 x12 x14 else qG x4 x5 x6 x8 x9 x14 x15
def dU:List (Int×Int):=bif x0==0 then te x1 x7 x8 x10 x11 x12 x13 x15 else bif x0==1 then pH x1 x2 x3 x7 x10 x12 x15 else qH x4 x5 x6 x8 x9 x14 x15
def fe:Bool:=allT [!x0==0||mz x1 x7 x8 x10 x11 x12 x13,x0==0||(!x0==1||oI x1 x2 x3 x7 x10 x12),x0==0||(x0==1||px x4 x5 x6 x8 x9 x14 x15)]
end
def CA:List SV→List Entry→Option Out
 | [.one ⟨false,[.ptr 0 0]⟩,.one ⟨true,[.val (.int .i64 x0),.val (.int .i64 x1),.val (.int .i64 x2),.val (.int .i64 x3),.val (.int .i64 x4),.val (.int .i64 x5),.val (.bool x6)]⟩],[.box 33 [.val (.int .i64 x7),.ref 1,.ref 2,.ref 3,.ref 4,.val (.int .i64 x8),.ref 5,.ref 6,.val (.int .i64 x9)],.row true 2 (.int .i64) x10,.row true 169 (.pair (.int .i64) (.pair (.int .i64) (.int .i64))) x11,.tree 24 (.sl 2 (.int .i64)) x12 none,.row true 100 (.pair (.int .i64) (.pair (.int .i64) (.int .i64))) x13,.row true 173 (.pair (.int .i64) (.int .i64)) x14,.row true 176 (.pair (.int .i64) (.int .i64)) x15]=>some ⟨.one ⟨false,[.val (.int .i64 (dK x0 x1 x2 x3 x4 x5 x6 x7 x8 x9 x10 x11 x12 x13 x14 x15))]⟩,[.box 33 [.val (.int .i64 (dL x0 x1 x2 x3 x4 x5 x6 x7 x8 x9 x10 x11 x12 x13 x14 x15)),.ref 7,.ref 8,.ref 9,.ref 10,.val (.int .i64 (dM x0 x1 x2 x3 x4 x5 x6 x7 x8 x9 x10 x11 x12 x13 x14 x15)),.ref 11,.ref 12,.val (.int .i64 (dN x0 x1 x2 x3 x4 x5 x6 x7 x8 x9 x10 x11 x12 x13 x14 x15))],.gone,.gone,.gone,.gone,.gone,.gone],[.row true 2 aj1 (dO x0 x1 x2 x3 x4 x5 x6 x7 x8 x9 x10 x11 x12 x13 x14 x15),.row true 169 adH (dP x0 x1 x2 x3 x4 x5 x6 x7 x8 x9 x10 x11 x12 x13 x14 x15),.tree 24 (CTy.sl (2:TypeId) aj1) (dQ x0 x1 x2 x3 x4 x5 x6 x7 x8 x9 x10 x12 x14 x15) none,.row true 100 adH (dR x0 x1 x2 x3 x4 x5 x6 x7 x8 x9 x10 x11 x12 x13 x14 x15),.row true 173 aej (dS x0 x1 x2 x3 x4 x5 x6 x7 x8 x9 x10 x11 x12 x13 x14 x15),.row true 176 aej (dU x0 x1 x2 x3 x4 x5 x6 x7 x8 x9 x10 x11 x12 x13 x14 x15)],[fe x0 x1 x2 x3 x4 x5 x6 x7 x8 x9 x10 x11 x12 x13 x14 x15]⟩
 |_,_=>none
def fQ:PF prog:=PF.ofG prog [PF.trees prog,CW,PF.lendT CW,pJ,PF.lend pJ,PF.fz pJ,qN,PF.lend qN,PF.fz qN] [] aO 56 f56 func56 (fun c _=>LOk.nil c) CA (by
 intro vs es r h;unfold CA at h;split at h
 ·cases h;kernel_rfl
 ·cases h)
abbrev nA:=Int×Int×List (Int×(Int×((Int×Int)×(Int×(Int×Bool)))))×List Int×Int×Int×Int×List Int×List (Int×(Int×Int))×List (List Int)×List (Int×(Int×Int))×List (Int×Int)×List (Int×Int)
def zq(y0:Int)(y2:List (Int×(Int×((Int×Int)×(Int×(Int×Bool)))))):Int×Int×(Int×Int)×Int×Int×Bool:=Option.getD y2[Int.toNat y0]? ((0:Int),(0:Int),((0:Int),(0:Int)),(0:Int),(0:Int),false)
def ew(y0:Int)(y2:List (Int×(Int×((Int×Int)×(Int×(Int×Bool)))))):Int:=(zq y0 y2).1
def zr(y0:Int)(y2:List (Int×(Int×((Int×Int)×(Int×(Int×Bool)))))):Int×(Int×Int)×Int×Int×Bool:=(zq y0 y2).2
def ex(y0:Int)(y2:List (Int×(Int×((Int×Int)×(Int×(Int×Bool)))))):Int:=(zr y0 y2).1
def rr(y0:Int)(y2:List (Int×(Int×((Int×Int)×(Int×(Int×Bool)))))):(Int×Int)×Int×Int×Bool:=(zr y0 y2).2
def ey(y0:Int)(y2:List (Int×(Int×((Int×Int)×(Int×(Int×Bool)))))):Int:=(rr y0 y2).1.1
def ez(y0:Int)(y2:List (Int×(Int×((Int×Int)×(Int×(Int×Bool)))))):Int:=(rr y0 y2).1.2
def eA(y0:Int)(y2:List (Int×(Int×((Int×Int)×(Int×(Int×Bool)))))):Int:=((rr y0 y2).2).1
def bd(y0:Int)(y2:List (Int×(Int×((Int×Int)×(Int×(Int×Bool)))))):Int×Bool:=(rr y0 y2).2.2
def uI(y0:Int)(y2:List (Int×(Int×((Int×Int)×(Int×(Int×Bool))))))(y4 y5 y6:Int)(y7:List Int)(y8:List (Int×(Int×Int)))(y9:List (List Int))(y10:List (Int×(Int×Int)))(y11 y12:List (Int×Int)):List Int:= [dK (ew y0 y2) (ex y0 y2) (ey y0 y2) (ez y0 y2) (eA y0 y2) ((bd y0 y2).1) ((bd y0 y2).2) y4 y5 y6 y7 y8 y9 y10 y11 y12]
def GE(y0 y1:Int):Bool:=ltI y0 y1
def GF(y0:Int):Bool:=leI 0 y0
def GG(y0:Int)(y2:List (Int×(Int×((Int×Int)×(Int×(Int×Bool)))))):Bool:=ltI y0 (↑y2.length:Int)
def GH(y0:Int)(y2:List (Int×(Int×((Int×Int)×(Int×(Int×Bool)))))):Bool:=ltN y0.toNat y2.length
def GI(y0:Int)(y2:List (Int×(Int×((Int×Int)×(Int×(Int×Bool))))))(y4 y5 y6:Int)(y7:List Int)(y8:List (Int×(Int×Int)))(y9:List (List Int))(y10:List (Int×(Int×Int)))(y11 y12:List (Int×Int)):Bool:=fe (ew y0 y2) (ex y0 y2) (ey y0 y2) (ez y0 y2) (eA y0 y2) ((bd y0 y2).1) ((bd y0 y2).2) y4 y5 y6 y7 y8 y9 y10 y11 y12
def GJ(y0:Int)(y2:List (Int×(Int×((Int×Int)×(Int×(Int×Bool))))))(y3:List Int)(y4 y5 y6:Int)(y7:List Int)(y8:List (Int×(Int×Int)))(y9:List (List Int))(y10:List (Int×(Int×Int)))(y11 y12:List (Int×Int)):Bool:=leN (List.length y3 + List.length (uI y0 y2 y4 y5 y6 y7 y8 y9 y10 y11 y12)) 9223372036854775807
def GK(y0:Int)(y2:List (Int×(Int×((Int×Int)×(Int×(Int×Bool))))))(y3:List Int)(y4 y5 y6:Int)(y7:List Int)(y8:List (Int×(Int×Int)))(y9:List (List Int))(y10:List (Int×(Int×Int)))(y11 y12:List (Int×Int)):Bool:=leN ((List.length y3 + List.length (uI y0 y2 y4 y5 y6 y7 y8 y9 y10 y11 y12)) * 8) 140737488355328
def GL(y0:Int):Int:=IntKind.wrap .i64 (y0 + (1:Int))
def GM(y0:Int)(y2:List (Int×(Int×((Int×Int)×(Int×(Int×Bool))))))(y3:List Int)(y4 y5 y6:Int)(y7:List Int)(y8:List (Int×(Int×Int)))(y9:List (List Int))(y10:List (Int×(Int×Int)))(y11 y12:List (Int×Int)):List Int:=y3++uI y0 y2 y4 y5 y6 y7 y8 y9 y10 y11 y12
def GN(y0:Int)(y2:List (Int×(Int×((Int×Int)×(Int×(Int×Bool))))))(y4 y5 y6:Int)(y7:List Int)(y8:List (Int×(Int×Int)))(y9:List (List Int))(y10:List (Int×(Int×Int)))(y11 y12:List (Int×Int)):Int:=dL (ew y0 y2) (ex y0 y2) (ey y0 y2) (ez y0 y2) (eA y0 y2) ((bd y0 y2).1) ((bd y0 y2).2) y4 y5 y6 y7 y8 y9 y10 y11 y12
def Eu(y0:Int)(y2:List (Int×(Int×((Int×Int)×(Int×(Int×Bool))))))(y4 y5 y6:Int)(y7:List Int)(y8:List (Int×(Int×Int)))(y9:List (List Int))(y10:List (Int×(Int×Int)))(y11 y12:List (Int×Int)):Int:=dM (ew y0 y2) (ex y0 y2) (ey y0 y2) (ez y0 y2) (eA y0 y2) ((bd y0 y2).1) ((bd y0 y2).2) y4 y5 y6 y7 y8 y9 y10 y11 y12
def Ev(y0:Int)(y2:List (Int×(Int×((Int×Int)×(Int×(Int×Bool))))))(y4 y5 y6:Int)(y7:List Int)(y8:List (Int×(Int×Int)))(y9:List (List Int))(y10:List (Int×(Int×Int)))(y11 y12:List (Int×Int)):Int:=dN (ew y0 y2) (ex y0 y2) (ey y0 y2) (ez y0 y2) (eA y0 y2) ((bd y0 y2).1) ((bd y0 y2).2) y4 y5 y6 y7 y8 y9 y10 y11 y12
def Ew(y0:Int)(y2:List (Int×(Int×((Int×Int)×(Int×(Int×Bool))))))(y4 y5 y6:Int)(y7:List Int)(y8:List (Int×(Int×Int)))(y9:List (List Int))(y10:List (Int×(Int×Int)))(y11 y12:List (Int×Int)):List Int:=dO (ew y0 y2) (ex y0 y2) (ey y0 y2) (ez y0 y2) (eA y0 y2) ((bd y0 y2).1) ((bd y0 y2).2) y4 y5 y6 y7 y8 y9 y10 y11 y12
def Ey(y0:Int)(y2:List (Int×(Int×((Int×Int)×(Int×(Int×Bool))))))(y4 y5 y6:Int)(y7:List Int)(y8:List (Int×(Int×Int)))(y9:List (List Int))(y10:List (Int×(Int×Int)))(y11 y12:List (Int×Int)):List (Int×(Int×Int)):=dP (ew y0 y2) (ex y0 y2) (ey y0 y2) (ez y0 y2) (eA y0 y2) ((bd y0 y2).1) ((bd y0 y2).2) y4 y5 y6 y7 y8 y9 y10 y11 y12
def Ez(y0:Int)(y2:List (Int×(Int×((Int×Int)×(Int×(Int×Bool))))))(y4 y5 y6:Int)(y7:List Int)(y9:List (List Int))(y11 y12:List (Int×Int)):List (List Int):=dQ (ew y0 y2) (ex y0 y2) (ey y0 y2) (ez y0 y2) (eA y0 y2) ((bd y0 y2).1) ((bd y0 y2).2) y4 y5 y6 y7 y9 y11 y12
def EA(y0:Int)(y2:List (Int×(Int×((Int×Int)×(Int×(Int×Bool))))))(y4 y5 y6:Int)(y7:List Int)(y8:List (Int×(Int×Int)))(y9:List (List Int))(y10:List (Int×(Int×Int)))(y11 y12:List (Int×Int)):List (Int×(Int×Int)):=dR (ew y0 y2) (ex y0 y2) (ey y0 y2) (ez y0 y2) (eA y0 y2) ((bd y0 y2).1) ((bd y0 y2).2) y4 y5 y6 y7 y8 y9 y10 y11 y12
def EB(y0:Int)(y2:List (Int×(Int×((Int×Int)×(Int×(Int×Bool))))))(y4 y5 y6:Int)(y7:List Int)(y8:List (Int×(Int×Int)))(y9:List (List Int))(y10:List (Int×(Int×Int)))(y11 y12:List (Int×Int)):List (Int×Int):=dS (ew y0 y2) (ex y0 y2) (ey y0 y2) (ez y0 y2) (eA y0 y2) ((bd y0 y2).1) ((bd y0 y2).2) y4 y5 y6 y7 y8 y9 y10 y11 y12
def EC(y0:Int)(y2:List (Int×(Int×((Int×Int)×(Int×(Int×Bool))))))(y4 y5 y6:Int)(y7:List Int)(y8:List (Int×(Int×Int)))(y9:List (List Int))(y10:List (Int×(Int×Int)))(y11 y12:List (Int×Int)):List (Int×Int):=dU (ew y0 y2) (ex y0 y2) (ey y0 y2) (ez y0 y2) (eA y0 y2) ((bd y0 y2).1) ((bd y0 y2).2) y4 y5 y6 y7 y8 y9 y10 y11 y12
def ahF:nA→List (Nat×SV)
 |(y0,y1,_,_,_,_,_,_,_,_,_,_,_)=> [(23,(.one ⟨false,[.val (.int .i64 y0)]⟩)),(22,(.one ⟨false,[.val (.int .i64 y1)]⟩)),(21,(.one ⟨false,[.ref 0]⟩)),(9,(.one ⟨false,[.ref 1]⟩)),(8,(.one ⟨false,[.ptr 2 0]⟩))]
def ahw:nA→List (Nat×Entry)
 |(_,_,y2,y3,y4,y5,y6,y7,y8,y9,y10,y11,y12)=> [(0,(.row false 49 acz y2)),(2,(.box 33 [.val (.int .i64 y4),.ref 3,.ref 4,.ref 5,.ref 6,.val (.int .i64 y5),.ref 7,.ref 8,.val (.int .i64 y6)])),(1,(.row true 2 aj1 y3)),(3,(.row true 2 aj1 y7)),(4,(.row true 169 adH y8)),(5,(.tree 24 ajI y9 none)),(6,(.row true 100 adH y10)),(7,(.row true 173 aej y11)),(8,(.row true 176 aej y12))]
def ahY:Nat→nA→List (Nat×SV)
 |_,(_,_,_,_,_,_,_,_,_,_,_,_,_)=> [(9,(.one ⟨false,[.ref 1]⟩))]
def ahP:Nat→nA→List (Nat×Entry)
 |_,(_,_,y2,y3,y4,y5,y6,y7,y8,y9,y10,y11,y12)=> [(0,(.row false 49 acz y2)),(1,(.row true 2 aj1 y3)),(2,(.box 33 [.val (.int .i64 y4),.ref 3,.ref 4,.ref 5,.ref 6,.val (.int .i64 y5),.ref 7,.ref 8,.val (.int .i64 y6)])),(3,(.row true 2 aj1 y7)),(4,(.row true 169 adH y8)),(5,(.tree 24 ajI y9 none)),(6,(.row true 100 adH y10)),(7,(.row true 173 aej y11)),(8,(.row true 176 aej y12))]
def Fm:nA→LT nA
 |(y0,y1,y2,y3,y4,y5,y6,y7,y8,y9,y10,y11,y12)=> .ite (GE y0 y1) (.need [GF y0,GG y0 y2,GH y0 y2] (.need [GI y0 y2 y4 y5 y6 y7 y8 y9 y10 y11 y12,GJ y0 y2 y3 y4 y5 y6 y7 y8 y9 y10 y11 y12,GK y0 y2 y3 y4 y5 y6 y7 y8 y9 y10 y11 y12] (.nrm ((GL y0),y1,y2,GM y0 y2 y3 y4 y5 y6 y7 y8 y9 y10 y11 y12,GN y0 y2 y4 y5 y6 y7 y8 y9 y10 y11 y12,Eu y0 y2 y4 y5 y6 y7 y8 y9 y10 y11 y12,Ev y0 y2 y4 y5 y6 y7 y8 y9 y10 y11 y12,Ew y0 y2 y4 y5 y6 y7 y8 y9 y10 y11 y12,Ey y0 y2 y4 y5 y6 y7 y8 y9 y10 y11 y12,Ez y0 y2 y4 y5 y6 y7 y9 y11 y12,EA y0 y2 y4 y5 y6 y7 y8 y9 y10 y11 y12,EB y0 y2 y4 y5 y6 y7 y8 y9 y10 y11 y12,(EC y0 y2 y4 y5 y6 y7 y8 y9 y10 y11 y12)) [(0,0),(1,640),(2,2),(3,512),(4,513),(5,514),(6,515),(7,516),(8,517)]))) (.ext 0 [(0,0),(1,1),(2,2),(3,3),(4,4),(5,5),(6,6),(7,7),(8,8)])
def QS(s:St):Option nA:=
 (match s.look 23 with
 |some ⟨none,.one ⟨false,[.val (.int .i64 y0)]⟩⟩=>
 (match s.look 22 with
 |some ⟨none,.one ⟨false,[.val (.int .i64 y1)]⟩⟩=>
 (match s.look 21 with
 |some ⟨none,.one ⟨false,[.ref 6]⟩⟩=>
 (match s.look 9 with
 |some ⟨none,.one ⟨false,[.ref 1408]⟩⟩=>
 (match s.look 8 with
 |some ⟨none,.one ⟨false,[.ptr 1280 0]⟩⟩=>
 (match s.ent 6 with
 |some (.row false 49 (.pair (.int .i64) (.pair (.int .i64) (.pair (.pair (.int .i64) (.int .i64)) (.pair (.int .i64) (.pair (.int .i64) .bool))))) y2)=>
 (match s.ent 1280 with
 |some (.box 33 [.val (.int .i64 y4),.ref 1216,.ref 1217,.ref 1218,.ref 1219,.val (.int .i64 y5),.ref 1220,.ref 1221,.val (.int .i64 y6)])=>
 (match s.ent 1408 with
 |some (.row true 2 (.int .i64) y3)=>
 (match s.ent 1216 with
 |some (.row true 2 (.int .i64) y7)=>
 (match s.ent 1217 with
 |some (.row true 169 (.pair (.int .i64) (.pair (.int .i64) (.int .i64))) y8)=>
 (match s.ent 1218 with
 |some (.tree 24 (.sl 2 (.int .i64)) y9 none)=>
 (match s.ent 1219 with
 |some (.row true 100 (.pair (.int .i64) (.pair (.int .i64) (.int .i64))) y10)=>
 (match s.ent 1220 with
 |some (.row true 173 (.pair (.int .i64) (.int .i64)) y11)=>
 (match s.ent 1221 with
 |some (.row true 176 (.pair (.int .i64) (.int .i64)) y12)=>
 some (y0,y1,y2,y3,y4,y5,y6,y7,y8,y9,y10,y11,y12)
 |_=>none)
 |_=>none)
 |_=>none)
 |_=>none)
 |_=>none)
 |_=>none)
 |_=>none)
 |_=>none)
 |_=>none)
 |_=>none)
 |_=>none)
 |_=>none)
 |_=>none)
 |_=>none)
def eB:Lp nA where
 h:=⟨[24,25,26,11,27,28,29,30,31,9,32,23],[0,2],[1,3,4,5,6,7,8],[]⟩
 JL:=ahF
 JE:=ahw
 XL:=ahY
 XE:=ahP
 q:=fun j=>match j with | _=> .exit 0
 tags:= [0]
 lt:=Fm
 fuel:=fun(y0,y1,y2,y3,y4,y5,y6,y7,y8,y9,y10,y11,y12)=>y0.natAbs + y1.natAbs + y2.length + y3.length + y4.natAbs + y5.natAbs + y6.natAbs + y7.length + y8.length + y9.length + y10.length + y11.length + y12.length
 fix:=fun(_,y1,y2,_,_,_,_,_,_,_,_,_,_) (y0,_,_,y3,y4,y5,y6,y7,y8,y9,y10,y11,y12)=>(y0,y1,y2,y3,y4,y5,y6,y7,y8,y9,y10,y11,y12)
 σ:= [(0,6),(2,1280),(1,1408),(3,1216),(4,1217),(5,1218),(6,1219),(7,1220),(8,1221)]
 rd:=QS
theorem afv:LoopOk prog (fun k=>Nat.blt k Tryz.f12.ntmps) eB.F (aH f12 0):=by
 refine Lp.ok (tbl:= (PF.trees prog::T3z [El,ff,fQ])) (lf:= []) aO eB (by kernel_rfl) (LOk.nil _) (fun _=>rfl) (fun _ _=>rfl) ?_ ?_ ?_ ?_ (fun _=>rfl) ?_
 ·rintro⟨y0,y1,y2,y3,y4,y5,y6,y7,y8,y9,y10,y11,y12⟩;kernel_rfl
 ·rintro⟨y0,y1,y2,y3,y4,y5,y6,y7,y8,y9,y10,y11,y12⟩;kernel_rfl
 ·intro s x h
  have h:QS s=some x:=h
  unfold QS at h
  repeat' split at h
  all_goals cases h
  constructor<;>repeat(first|refine ae (by assumption) rfl ?_|refine af rfl (by assumption) rfl ?_|exact rfl)
 ·rintro⟨y0,y1,y2,y3,y4,y5,y6,y7,y8,y9,y10,y11,y12⟩;kernel_rfl
 ·rintro⟨y0,y1,y2,y3,y4,y5,y6,y7,y8,y9,y10,y11,y12⟩ z;exact(And.intro rfl trivial)
section
variable (x0 x1 x2:Int)(x3:List Int)(x4:List (Int×Int×Int))(x5:List (List Int))(x6:List (Int×Int×Int))(x7 x8:List (Int×Int))(x9:List (Int×Int×(Int×Int)×Int×Int×Bool))
def iS:Bool:=zx x0 x1 x2 x3 x4 x5 x6 x7 x8 x9 !=0
def Gj:Int×Int×List (Int×Int×(Int×Int)×Int×Int×Bool)×List Int×Int×Int×Int×List Int×List (Int×Int×Int)×List (List Int)×List (Int×Int×Int)×List (Int×Int)×List (Int×Int):=((0:Int),(↑x9.length:Int),x9,[],x0,x1,x2,x3,x4,mc x0 x1 x2 x3 x4 x5 x6 x7 x8,x6,x7,x8)
def VP:List Int×Int×Int×Int×List Int×List (Int×Int×Int)×List (List Int)×List (Int×Int×Int)×List (Int×Int)×List (Int×Int):=(Lp.res eB (Gj x0 x1 x2 x3 x4 x5 x6 x7 x8 x9)).2.2.2.2
def VQ:Int×Int×Int×List Int×List (Int×Int×Int)×List (List Int)×List (Int×Int×Int)×List (Int×Int)×List (Int×Int):=(VP x0 x1 x2 x3 x4 x5 x6 x7 x8 x9).2
def VR:Int×Int×List Int×List (Int×Int×Int)×List (List Int)×List (Int×Int×Int)×List (Int×Int)×List (Int×Int):=(VQ x0 x1 x2 x3 x4 x5 x6 x7 x8 x9).2
def VS:Int×List Int×List (Int×Int×Int)×List (List Int)×List (Int×Int×Int)×List (Int×Int)×List (Int×Int):=(VR x0 x1 x2 x3 x4 x5 x6 x7 x8 x9).2
def VT:List Int×List (Int×Int×Int)×List (List Int)×List (Int×Int×Int)×List (Int×Int)×List (Int×Int):=(VS x0 x1 x2 x3 x4 x5 x6 x7 x8 x9).2
def VU:List (Int×Int×Int)×List (List Int)×List (Int×Int×Int)×List (Int×Int)×List (Int×Int):=(VT x0 x1 x2 x3 x4 x5 x6 x7 x8 x9).2
def VV:List (List Int)×List (Int×Int×Int)×List (Int×Int)×List (Int×Int):=(VU x0 x1 x2 x3 x4 x5 x6 x7 x8 x9).2
def VW:List (Int×Int×Int)×List (Int×Int)×List (Int×Int):=(VV x0 x1 x2 x3 x4 x5 x6 x7 x8 x9).2
def Up:List (Int×Int)×List (Int×Int):=(VW x0 x1 x2 x3 x4 x5 x6 x7 x8 x9).2
def Nc:Int:=bif iS x0 x1 x2 x3 x4 x5 x6 x7 x8 x9 then(0:Int)else (VQ x0 x1 x2 x3 x4 x5 x6 x7 x8 x9).1
def Nd:Int:=bif iS x0 x1 x2 x3 x4 x5 x6 x7 x8 x9 then(0:Int)else (VR x0 x1 x2 x3 x4 x5 x6 x7 x8 x9).1
def Nf:Int:=bif iS x0 x1 x2 x3 x4 x5 x6 x7 x8 x9 then(0:Int)else (VS x0 x1 x2 x3 x4 x5 x6 x7 x8 x9).1
def Ng:Int:=bif iS x0 x1 x2 x3 x4 x5 x6 x7 x8 x9 then zx x0 x1 x2 x3 x4 x5 x6 x7 x8 x9 else(0:Int)
def Nh:List Int:=bif iS x0 x1 x2 x3 x4 x5 x6 x7 x8 x9 then []else (VT x0 x1 x2 x3 x4 x5 x6 x7 x8 x9).1
def Ni:List (Int×(Int×Int)):=bif iS x0 x1 x2 x3 x4 x5 x6 x7 x8 x9 then []else (VU x0 x1 x2 x3 x4 x5 x6 x7 x8 x9).1
def Nj:List (List Int):=bif iS x0 x1 x2 x3 x4 x5 x6 x7 x8 x9 then []else (VV x0 x1 x2 x3 x4 x5 x6 x7 x8 x9).1
def Nk:List (Int×(Int×Int)):=bif iS x0 x1 x2 x3 x4 x5 x6 x7 x8 x9 then []else (VW x0 x1 x2 x3 x4 x5 x6 x7 x8 x9).1
def Nl:List (Int×Int):=bif iS x0 x1 x2 x3 x4 x5 x6 x7 x8 x9 then []else (Up x0 x1 x2 x3 x4 x5 x6 x7 x8 x9).1
def Nn:List (Int×Int):=bif iS x0 x1 x2 x3 x4 x5 x6 x7 x8 x9 then []else (Up x0 x1 x2 x3 x4 x5 x6 x7 x8 x9).2
def KW:List Int:=bif iS x0 x1 x2 x3 x4 x5 x6 x7 x8 x9 then []else (VP x0 x1 x2 x3 x4 x5 x6 x7 x8 x9).1
def KX:Bool:=allT [DO x0 x1 x2 x3 x4 x5 x6 x7 x8 x9,iS x0 x1 x2 x3 x4 x5 x6 x7 x8 x9||md x0 x1 x2 x3 x4 x5 x6 x7 x8,iS x0 x1 x2 x3 x4 x5 x6 x7 x8 x9||Lp.fin eB (Gj x0 x1 x2 x3 x4 x5 x6 x7 x8 x9)]
end
def aex:List SV→List Entry→Option Out
 | [.one ⟨true,[.val (.int .i64 x0),.ref 0,.ref 1,.ref 2,.ref 3,.val (.int .i64 x1),.ref 4,.ref 5,.val (.int .i64 x2)]⟩,.one ⟨false,[.ref 6]⟩],[.row false 2 (.int .i64) x3,.row false 169 (.pair (.int .i64) (.pair (.int .i64) (.int .i64))) x4,.row false 24 (.sl 2 (.int .i64)) x5,.row false 100 (.pair (.int .i64) (.pair (.int .i64) (.int .i64))) x6,.row false 173 (.pair (.int .i64) (.int .i64)) x7,.row false 176 (.pair (.int .i64) (.int .i64)) x8,.row false 49 (.pair (.int .i64) (.pair (.int .i64) (.pair (.pair (.int .i64) (.int .i64)) (.pair (.int .i64) (.pair (.int .i64) (.bool)))))) x9]=>some ⟨.tup [⟨true,[.val (.int .i64 (Nc x0 x1 x2 x3 x4 x5 x6 x7 x8 x9)),.ref 7,.ref 8,.ref 9,.ref 10,.val (.int .i64 (Nd x0 x1 x2 x3 x4 x5 x6 x7 x8 x9)),.ref 11,.ref 12,.val (.int .i64 (Nf x0 x1 x2 x3 x4 x5 x6 x7 x8 x9))]⟩,⟨false,[.ref 13]⟩,⟨false,[.val (.int .i64 (Ng x0 x1 x2 x3 x4 x5 x6 x7 x8 x9))]⟩],[.row false 2 aj1 x3,.row false 169 adH x4,.row false 24 (CTy.sl (2:TypeId) aj1) x5,.row false 100 adH x6,.row false 173 aej x7,.row false 176 aej x8,.row false 49 acz x9],[.row true 2 aj1 (Nh x0 x1 x2 x3 x4 x5 x6 x7 x8 x9),.row true 169 adH (Ni x0 x1 x2 x3 x4 x5 x6 x7 x8 x9),.tree 24 ajI (Nj x0 x1 x2 x3 x4 x5 x6 x7 x8 x9) none,.row true 100 adH (Nk x0 x1 x2 x3 x4 x5 x6 x7 x8 x9),.row true 173 aej (Nl x0 x1 x2 x3 x4 x5 x6 x7 x8 x9),.row true 176 aej (Nn x0 x1 x2 x3 x4 x5 x6 x7 x8 x9),.row true 2 aj1 (KW x0 x1 x2 x3 x4 x5 x6 x7 x8 x9)],[KX x0 x1 x2 x3 x4 x5 x6 x7 x8 x9]⟩
 |_,_=>none
def Yn:PF prog:=PF.ofG prog (PF.trees prog::T3z [El,ff,fQ]) [eB.F] aO 12 f12 func12 (LOk.fnT (l:= [aH f12 0]) (by kernel_rfl) (.cons afv (.nil _))) aex (by
 intro vs es r h;unfold aex at h;split at h
 ·cases h;kernel_rfl
 ·cases h)
section
variable (x0 x1 x2 x3 x4 x5 x6 x7 x8:Int)(x9:Bool)(x10:List Int)(x11:List (Int×Int×Int))(x12:List (List Int))(x13:List (Int×Int×Int))(x14 x15:List (Int×Int))
def iG:List (Int×Int×(Int×Int)×Int×Int×Bool):= [(x3,x4,(x5,x6),x7,x8,x9)]
def Od:Int:=Ng x0 x1 x2 x10 x11 x12 x13 x14 x15 (iG x3 x4 x5 x6 x7 x8 x9)
def fL:Bool:=Od x0 x1 x2 x3 x4 x5 x6 x7 x8 x9 x10 x11 x12 x13 x14 x15 !=0
def Jf:List Int:=KW x0 x1 x2 x10 x11 x12 x13 x14 x15 (iG x3 x4 x5 x6 x7 x8 x9)
def Qf:Int:=bif fL x0 x1 x2 x3 x4 x5 x6 x7 x8 x9 x10 x11 x12 x13 x14 x15 then(0:Int)else Nc x0 x1 x2 x10 x11 x12 x13 x14 x15 (iG x3 x4 x5 x6 x7 x8 x9)
def Qg:Int:=bif fL x0 x1 x2 x3 x4 x5 x6 x7 x8 x9 x10 x11 x12 x13 x14 x15 then(0:Int)else Nd x0 x1 x2 x10 x11 x12 x13 x14 x15 (iG x3 x4 x5 x6 x7 x8 x9)
def Qh:Int:=bif fL x0 x1 x2 x3 x4 x5 x6 x7 x8 x9 x10 x11 x12 x13 x14 x15 then(0:Int)else Nf x0 x1 x2 x10 x11 x12 x13 x14 x15 (iG x3 x4 x5 x6 x7 x8 x9)
def Qi:Int:=bif fL x0 x1 x2 x3 x4 x5 x6 x7 x8 x9 x10 x11 x12 x13 x14 x15 then(0:Int)else Option.getD (Jf x0 x1 x2 x3 x4 x5 x6 x7 x8 x9 x10 x11 x12 x13 x14 x15)[Int.toNat 0]? 0
def Qj:Int:=bif fL x0 x1 x2 x3 x4 x5 x6 x7 x8 x9 x10 x11 x12 x13 x14 x15 then Od x0 x1 x2 x3 x4 x5 x6 x7 x8 x9 x10 x11 x12 x13 x14 x15 else(0:Int)
def Qk:List Int:=bif fL x0 x1 x2 x3 x4 x5 x6 x7 x8 x9 x10 x11 x12 x13 x14 x15 then []else Nh x0 x1 x2 x10 x11 x12 x13 x14 x15 (iG x3 x4 x5 x6 x7 x8 x9)
def Ql:List (Int×(Int×Int)):=bif fL x0 x1 x2 x3 x4 x5 x6 x7 x8 x9 x10 x11 x12 x13 x14 x15 then []else Ni x0 x1 x2 x10 x11 x12 x13 x14 x15 (iG x3 x4 x5 x6 x7 x8 x9)
def Qm:List (List Int):=bif fL x0 x1 x2 x3 x4 x5 x6 x7 x8 x9 x10 x11 x12 x13 x14 x15 then []else Nj x0 x1 x2 x10 x11 x12 x13 x14 x15 (iG x3 x4 x5 x6 x7 x8 x9)
def Qn:List (Int×(Int×Int)):=bif fL x0 x1 x2 x3 x4 x5 x6 x7 x8 x9 x10 x11 x12 x13 x14 x15 then []else Nk x0 x1 x2 x10 x11 x12 x13 x14 x15 (iG x3 x4 x5 x6 x7 x8 x9)
def Qo:List (Int×Int):=bif fL x0 x1 x2 x3 x4 x5 x6 x7 x8 x9 x10 x11 x12 x13 x14 x15 then []else Nl x0 x1 x2 x10 x11 x12 x13 x14 x15 (iG x3 x4 x5 x6 x7 x8 x9)
def Ob:List (Int×Int):=bif fL x0 x1 x2 x3 x4 x5 x6 x7 x8 x9 x10 x11 x12 x13 x14 x15 then []else Nn x0 x1 x2 x10 x11 x12 x13 x14 x15 (iG x3 x4 x5 x6 x7 x8 x9)
def Oc:Bool:=allT [KX x0 x1 x2 x10 x11 x12 x13 x14 x15 (iG x3 x4 x5 x6 x7 x8 x9),fL x0 x1 x2 x3 x4 x5 x6 x7 x8 x9 x10 x11 x12 x13 x14 x15||leI 0 0,fL x0 x1 x2 x3 x4 x5 x6 x7 x8 x9 x10 x11 x12 x13 x14 x15||ltI 0 (↑(List.length (Jf x0 x1 x2 x3 x4 x5 x6 x7 x8 x9 x10 x11 x12 x13 x14 x15)):Int),fL x0 x1 x2 x3 x4 x5 x6 x7 x8 x9 x10 x11 x12 x13 x14 x15||ltN (Int.toNat 0) (List.length (Jf x0 x1 x2 x3 x4 x5 x6 x7 x8 x9 x10 x11 x12 x13 x14 x15))]
end
def adq:List SV→List Entry→Option Out
 | [.one ⟨true,[.val (.int .i64 x0),.ref 0,.ref 1,.ref 2,.ref 3,.val (.int .i64 x1),.ref 4,.ref 5,.val (.int .i64 x2)]⟩,.one ⟨true,[.val (.int .i64 x3),.val (.int .i64 x4),.val (.int .i64 x5),.val (.int .i64 x6),.val (.int .i64 x7),.val (.int .i64 x8),.val (.bool x9)]⟩],[.row false 2 (.int .i64) x10,.row false 169 (.pair (.int .i64) (.pair (.int .i64) (.int .i64))) x11,.row false 24 (.sl 2 (.int .i64)) x12,.row false 100 (.pair (.int .i64) (.pair (.int .i64) (.int .i64))) x13,.row false 173 (.pair (.int .i64) (.int .i64)) x14,.row false 176 (.pair (.int .i64) (.int .i64)) x15]=>some ⟨.tup [⟨true,[.val (.int .i64 (Qf x0 x1 x2 x3 x4 x5 x6 x7 x8 x9 x10 x11 x12 x13 x14 x15)),.ref 6,.ref 7,.ref 8,.ref 9,.val (.int .i64 (Qg x0 x1 x2 x3 x4 x5 x6 x7 x8 x9 x10 x11 x12 x13 x14 x15)),.ref 10,.ref 11,.val (.int .i64 (Qh x0 x1 x2 x3 x4 x5 x6 x7 x8 x9 x10 x11 x12 x13 x14 x15))]⟩,⟨false,[.val (.int .i64 (Qi x0 x1 x2 x3 x4 x5 x6 x7 x8 x9 x10 x11 x12 x13 x14 x15))]⟩,⟨false,[.val (.int .i64 (Qj x0 x1 x2 x3 x4 x5 x6 x7 x8 x9 x10 x11 x12 x13 x14 x15))]⟩],[.row false 2 aj1 x10,.row false 169 adH x11,.row false 24 (CTy.sl (2:TypeId) aj1) x12,.row false 100 adH x13,.row false 173 aej x14,.row false 176 aej x15],[.row true 2 aj1 (Qk x0 x1 x2 x3 x4 x5 x6 x7 x8 x9 x10 x11 x12 x13 x14 x15),.row true 169 adH (Ql x0 x1 x2 x3 x4 x5 x6 x7 x8 x9 x10 x11 x12 x13 x14 x15),.tree 24 ajI (Qm x0 x1 x2 x3 x4 x5 x6 x7 x8 x9 x10 x11 x12 x13 x14 x15) none,.row true 100 adH (Qn x0 x1 x2 x3 x4 x5 x6 x7 x8 x9 x10 x11 x12 x13 x14 x15),.row true 173 aej (Qo x0 x1 x2 x3 x4 x5 x6 x7 x8 x9 x10 x11 x12 x13 x14 x15),.row true 176 aej (Ob x0 x1 x2 x3 x4 x5 x6 x7 x8 x9 x10 x11 x12 x13 x14 x15)],[Oc x0 x1 x2 x3 x4 x5 x6 x7 x8 x9 x10 x11 x12 x13 x14 x15]⟩
 |_,_=>none
def aln:PF prog:=PF.ofG prog (PF.trees prog::T3z [Yn]) [] aO 18 f18 func18 (fun c _=>LOk.nil c) adq (by
 intro vs es r h;unfold adq at h;split at h
 ·cases h;kernel_rfl
 ·cases h)
section
variable (x3 x4 x5 x6 x7 x8:Int)(x9:Bool)(x10:List Int)(x12:List (List Int))
def qJ:Bool:=bif x5==0 then bif x6==0 then true else false else false
def qK:Bool:=bif x7==0 then bif x8==0 then bif x9==false then true else false else false else false
def Bu:Bool:=bif x3==0 then bif bif So x10 x4 then qJ x5 x6 else false then qK x7 x8 x9 else false else bif x3==1 then bif bif So x10 x4 then rsB (dJ (bif So x10 x4&&true then Option.getD x12[Int.toNat 0]? (vf (CTy.sl (2:TypeId) aj1))else [])) x5 x6 else false then qK x7 x8 x9 else false else bif x3==2 then bif bif x4==0 then qJ x5 x6 else false then aoa x7 x8 else false else false
def Bv:Bool:=allT [!x3==0||leN x10.length (9223372036854775807:Nat),x3==0||(!x3==1||leN x10.length (9223372036854775807:Nat)),x3==0||(!x3==1||(!(So x10 x4&&true)||leI 0 0)),x3==0||(!x3==1||(!(So x10 x4&&true)||ltI 0 (↑x12.length:Int))),x3==0||(!x3==1||(!(So x10 x4&&true)||ltN (Int.toNat 0) x12.length))]
end
abbrev LI:=List Int
abbrev L3:=List (Int×Int×Int)
abbrev L2:=List (Int×Int)
def auo(ps:LI)(fs:L3)(rs:List LI)(lf:L3)(pl ls:L2):Prop:=ps.length≤4∧1≤ps.length∧fs.length≤100∧rs.length≤4∧(∀ x∈rs,1≤x.length∧x.length≤12)∧lf.length≤100∧pl.length≤10000∧ls.length≤10000
def cD(b:List Int):(List (List Int))→Nat ⊕ (List (List Int))
 |y8=>(.inr (y8++ [b]))
def bS(y2:List (List Int))(y3 y4 y5:Int)(y6:List Int)(y7 y9:List (Int×(Int×Int)))(y10 y11:List (Int×Int))(i:Nat):(List (List Int))→bh
 |y8=>((i:Int),(↑y2.length:Int),y2,y3,y4,y5,y6,y7,y8,y9,y10,y11)
def oQ:bh→List (List Int)
 |(_,_,_,_,_,_,_,_,y8,_,_,_)=>y8
theorem LZ(y2:List (List Int))(y3 y4 y5:Int)(y6:List Int)(y7 y9:List (Int×(Int×Int)))(y10 y11:List (Int×Int))(y8:List (List Int))(hn:y2.length≤9223372036854775807)(hl:y2.length≤4)(hA: ∀ x∈y2,1≤x.length∧x.length≤12)(h0:y8= []):
  aA.fin ((0:Int),(↑y2.length:Int),y2,y3,y4,y5,y6,y7,y8,y9,y10,y11)=true∧aA.res ((0:Int),(↑y2.length:Int),y2,y3,y4,y5,y6,y7,y8,y9,y10,y11)=((aL (cD) 0 y2 0 y8).1,(bS y2 y3 y4 y5 y6 y7 y9 y10 y11) (aL (cD) 0 y2 0 y8).2.1 (aL (cD) 0 y2 0 y8).2.2):=by
 have dC:=aA.along (bS y2 y3 y4 y5 y6 y7 y9 y10 y11) oQ (cD) 0 (fun i a=>a.length≤i) y2 y8 (by subst h0;simp) (by simp only [aA,bS];omega) (fun i b a hb hI=> ?_) (fun a hI=> ?_)
 ·exact dC
 ·obtain y8:=a
  have eO:=(List.getElem?_eq_some_iff.1 hb).1
  have lh: ∀ d,Option.getD y2[i]? d=b:=fun d=>by rw [hb];rfl
  have hw:=DJ eO hn
  have cm:ltI (i:Int) (y2.length:Int)=true:=eg (by omega)
  have tS:leI (0:Int) (i:Int)=true:=cR (by omega)
  have io:ltN i y2.length=true:=gC eO
  refine⟨?_,?_,?_,?_⟩
  ·have hb2:=hA b (List.mem_of_getElem? hb)
   have h5:leN b.length 1048576=true:=dj (by omega)
   have h4:leN 1 b.length=true:=dj (by omega)
   have h6:leN (a.length + 1) 9223372036854775807=true:=dj (by omega)
   have h7:leN ((a.length + 1) * 24) 140737488355328=true:=dj (by omega)
   simp [bw,gq,gr,gt,gu,gv,gw,gx,gy,gz,fT,aA,LT.nds,allT,bS,cm,tS,io,Qd,lh,h4,h5,h6,h7]
  ·simp [bw,gq,gr,gt,gu,gv,gw,gx,gy,gz,fT,aA,LT.each,bS,oQ,hw,Qd,lh]
  ·simp only [bw,gq,gr,gt,gu,gv,gw,gx,gy,gz,fT,aA,LT.fn,bS,oQ,cD,Int.toNat_natCast,cm,tS,io,lh,cond_true,Bool.cond_self,Qd,lh]
  ·intro a' hf;simp only [cD,Sum.inr.injEq]at hf;subst hf;simp;omega
 ·obtain y8:=a
  simp [bw,gq,gr,gt,gu,gv,gw,gx,gy,gz,fT,aA,LT.out,bS]
theorem aom(n mode day:Int){ps:LI}{fs:L3}{rs:List LI}{lf:L3}{pl ls:L2}(h:auo ps fs rs lf pl ls):
  mc n mode day ps fs rs lf pl ls=rs∧md n mode day ps fs rs lf pl ls=true:=by
 obtain⟨h1,h1',h2,h3,h4,h5,h6,h7⟩:=h
 obtain⟨w1,w2⟩:=LZ rs n mode day ps fs lf pl ls [] (by omega) h3 h4 rfl
 rw [BN (f:=cD) (g:=fun a b=>a++ [b]) (fun b a=>rfl),aj0 (fun x=>x)]at w2
 refine⟨by simp only [mc,li,w2,bS,List.nil_append,List.map_id'],?_⟩
 have w3:Lp.fin aA (li n mode day ps fs rs lf pl ls)=true:=w1
 have e0:leN 1 ps.length=true:=dj (by omega)
 have e1:leN ps.length 1048576=true:=dj (by omega)
 have e2:leN fs.length 1048576=true:=dj (by omega)
 have e3:leN lf.length 1048576=true:=dj (by omega)
 have e4:leN pl.length 1048576=true:=dj (by omega)
 have e5:leN ls.length 1048576=true:=dj (by omega)
 simp [md,w3,gA,e0,e1,e2,e3,e4,e5,allT]
abbrev RX:=Int×Int×(Int×Int)×Int×Int×Bool
def afl(ps:LI)(rs:List LI)(k t rk row ck role:Int)(dC:Bool):Bool:=bif k==0 then So ps t&&((rk==0&&row==0)&&(ck==0&&(role==0&&dC==false)))else bif k==1 then(So ps t&&rsB (rowsR rs) rk row)&&(ck==0&&(role==0&&dC==false))else bif k==2 then(t==0&&(rk==0&&row==0))&&aoa ck role else false
theorem asJ{ls:L2}(h:okLk ls=true):ls.length≤8:=by
 simp only [okLk,Bool.and_eq_true,dD]at h;exact h.1
structure RideF (n mode day:Int) (ps:LI) (fs:L3) (rs:List LI) (lf:L3) (pl ls:L2):Prop where
 hT:isT n ps=true
 hF:okFs n fs=true
 hl:rs.length=ps.length
 hR:rsOk rs=true
 hL:lfOk (rowsR rs) lf=true
 hM:0≤mode∧mode≤5
 hP:okPl pl=true
 hK:okLk ls=true
 hD:inR day 0 100000=true
 n1:2≤n∧n≤8
 lp:1≤ps.length∧ps.length≤4
 lfs:fs.length≤8
 llf:lf.length≤8
 lpl:pl.length≤12
 lls:ls.length≤8
 hA: ∀ x∈rs,areR x=true∧(x.length:Int)=rowsR rs
theorem aqS{n mode day:Int}{ps:LI}{fs:L3}{rs:List LI}{lf:L3}{pl ls:L2}(h:uL n ps fs rs lf mode pl ls day=true):RideF n mode day ps fs rs lf pl ls:=by
 obtain⟨h1,h2,h3,h4,h5,h6,h7,h8,h9⟩:=ac9.1 h
 have h1':=h1
 simp only [isT,Bool.and_eq_true,oU]at h1'
 refine⟨h1,h2,h3,h4,h5,oU.1 h6,h7,h8,h9,h1'.1.1,by omega,apw h2,asB h5,apx h7,asJ h8,fun x hx=> ?_⟩
 simp only [rsOk,List.all_eq_true,Bool.and_eq_true,beq_iff_eq]at h4
 exact h4 x hx
theorem RideF.cp{n mode day:Int}{ps:LI}{fs:L3}{rs:List LI}{lf:L3}{pl ls:L2}(h:RideF n mode day ps fs rs lf pl ls):auo ps fs rs lf pl ls:=by
 have:=h.lp;have:=h.lfs;have:=h.llf;have:=h.lpl;have:=h.lls;have:=h.hl
 refine⟨by omega,by omega,by omega,by omega,fun x hx=> ?_,by omega,by omega,by omega⟩
 have:=(Xt.1 (h.hA x hx).1).1
 omega
theorem arJ{n mode day:Int}(k t rk row ck role:Int)(dC:Bool){ps:LI}{fs:L3}{rs:List LI}{lf:L3}{pl ls:L2}(f:RideF n mode day ps fs rs lf pl ls):
  Bu k t rk row ck role dC ps rs=afl ps rs k t rk row ck role dC∧Bv k t ps rs=true:=by
 have n1:ltI 0 (rs.length:Int)=true:=eg (by have:=f.hl;have:=f.lp;omega)
 have n2:ltN 0 rs.length=true:=gC (by have:=f.hl;have:=f.lp;omega)
 have n3:leN ps.length 9223372036854775807=true:=dj (by have:=f.lp;omega)
 refine⟨?_,?_⟩
 ·simp only [Bu,qJ,qK,afl,dJ,Qd,Bool.and_true]
  cases hh:So ps t with
  |false=>cases k==0 <;> cases k==1 <;> cases k==2 <;> cases rk==0 <;> cases row==0 <;> cases ck==0 <;> cases role==0 <;> cases dC <;> cases t==0 <;> simp
  |true=>
   simp only [cond_true,Int.toNat_zero,show ((rs[0]?.getD []).length:Int)=rowsR rs from rfl]
   cases k==0 <;> cases k==1 <;> cases k==2 <;> cases rk==0 <;> cases row==0 <;> cases ck==0 <;> cases role==0 <;> cases dC <;> cases t==0 <;> simp
 ·simp [Bv,allT,n1,n2,n3]
theorem amb{n mode day:Int}(k t rk row ck role:Int)(dC:Bool){ps:LI}{fs:L3}{rs:List LI}{lf:L3}{pl ls:L2}(f:RideF n mode day ps fs rs lf pl ls):
  na k t rk row ck role dC ps rs=afl ps rs k t rk row ck role dC∧nb k t ps rs=true:=
 arJ k t rk row ck role dC f
def YY(n t:Int)(ps:LI):Bool:=nv n t ps
theorem alA(n t:Int)(ps:LI):ag n t ps=YY n t ps:=rfl
def ak1(n mode:Int)(ps:LI)(fs:L3)(rs:List LI)(lf:L3)(t:Int):Int:=bif !(Int.tmod (ps[t.toNat]?.getD 0) 3==1)then 0 else bif mode !=3 then 1 else bif !anM n ps (Sl n ps fs 0) (Sl n ps fs 1) t then 2 else bif YY n t ps&& !akm (rs[t.toNat]?.getD []) lf then 3 else 0
theorem RideF.rd{n mode day:Int}{ps:LI}{fs:L3}{rs:List LI}{lf:L3}{pl ls:L2}(f:RideF n mode day ps fs rs lf pl ls){t:Int}(ht:So ps t=true):
  arW (rs[t.toNat]?.getD []) lf=true∧areR (rs[t.toNat]?.getD [])=true∧((rs[t.toNat]?.getD []).length:Int)=rowsR rs:=by
 have h:=abS.1 ht
 have eO:t.toNat < rs.length:=by have:=f.hl;omega
 rw [List.getElem?_eq_getElem eO,Option.getD_some]
 obtain⟨h1,h2⟩:=f.hA _ (List.getElem_mem eO)
 refine⟨?_,h1,h2⟩
 rw [arW,h1,h2,f.hL];rfl
theorem RideF.tn{n mode day:Int}{ps:LI}{fs:L3}{rs:List LI}{lf:L3}{pl ls:L2}(f:RideF n mode day ps fs rs lf pl ls){t:Int}(ht:So ps t=true):
  leI 0 t=true∧ltI t (ps.length:Int)=true∧ltN t.toNat ps.length=true∧ltI t (rs.length:Int)=true∧ltN t.toNat rs.length=true:=by
 have h:=abS.1 ht
 have:=f.hl
 exact⟨cR h.1,eg (by omega),gC (by omega),eg (by omega),gC (by omega)⟩
theorem RideF.perm{n mode day:Int}{ps:LI}{fs:L3}{rs:List LI}{lf:L3}{pl ls:L2}(f:RideF n mode day ps fs rs lf pl ls){t:Int}(ht:So ps t=true):
  aop n fs=true∧air n ps (Sl n ps fs 0) (Sl n ps fs 1) t=true:=by
 have hF:=atk f.n1 f.hF
 exact⟨hF,by rw [air,aim,f.hT,ht,ao2 n ps fs 0 f.hT hF,ao2 n ps fs 1 f.hT hF];rfl⟩
theorem aqx{n mode day:Int}{ps:LI}{fs:L3}{rs:List LI}{lf:L3}{pl ls:L2}(f:RideF n mode day ps fs rs lf pl ls){t:Int}(ht:So ps t=true):
  my t n mode ps fs rs lf=ak1 n mode ps fs rs lf t∧mz t n mode ps fs rs lf=true:=by
 obtain⟨t1,t2,t3,t4,t5⟩:=f.tn ht
 obtain⟨p1,p2⟩:=f.perm ht
 have hrd:=(f.rd ht).1
 have e1:bm t ps=true:=by simp only [bm,t1,t2,t3,allT,cond_true]
 refine⟨?_,?_⟩
 ·simp only [my,ah,au,iH,aP,Qd,ak1,alA]
  cases YY n t ps <;> rfl
 ·have hm:aim n ps t=true:=by rw [aim,f.hT,ht];rfl
  cases hs:YY n t ps <;>
  simp only [mz,qI,iH,aP,alA,hs,Qd,e1,t1,t2,t3,t4,t5,p1,p2,hrd,hm,f.hT,allT,Bool.or_true,Bool.and_self,cond_true,cond_false,Bool.not_false,Bool.not_true,Bool.false_and,Bool.true_and,Bool.true_or,Bool.false_or]
def stV(n mode day:Int)(ps:LI)(fs:L3)(rs:List LI)(lf:L3)(pl ls:L2)(k t rk row ck role:Int)(dC:Bool):Int:=bif k==0 then ak1 n mode ps fs rs lf t else bif k==1 then(bif !YY n t ps then 4 else bif !FQ (rs[t.toNat]?.getD []) rk row then 5 else 0)else bif vdC mode ck role dC !=0 then 6 else bif ck==1&& !aow pl ls day then 7 else 0
def stP(n mode:Int)(ps:LI)(fs:L3)(rs:List LI)(lf:L3)(k t:Int):LI:=bif k==0&&ak1 n mode ps fs rs lf t==0 then aoB n ps t else ps
def stR(n:Int)(ps:LI)(rs:List LI)(k t rk row:Int):List LI:=bif !(k==0)&&(k==1&&(YY n t ps&&FQ (rs[t.toNat]?.getD []) rk row))then rs.set t.toNat (adU (rs[t.toNat]?.getD []) rk row)else rs
def stM(mode day:Int)(pl ls:L2)(k ck role:Int)(dC:Bool):Int:=bif k==0||(k==1||(vdC mode ck role dC !=0||(ck==1&& !aow pl ls day)))then mode else nxC mode ck role dC
theorem acZ{ps:LI}{rs:List LI}{k t rk row ck role:Int}{dC:Bool}(h:afl ps rs k t rk row ck role dC=true):
  (k=0∧So ps t=true)∨(k=1∧So ps t=true∧rsB (rowsR rs) rk row=true)∨(k=2∧aoa ck role=true):=by
 simp only [afl]at h
 cases h0:k==0 with
 |true=>rw [h0]at h;simp at h;exact .inl ⟨beq_iff_eq.1 h0,h.1⟩
 |false=>
  cases h1:k==1 with
  |true=>rw [h0,h1]at h;simp at h;exact .inr (.inl ⟨beq_iff_eq.1 h1,h.1.1,h.1.2⟩)
  |false=>
   cases h2:k==2 with
   |true=>rw [h0,h1,h2]at h;simp at h;exact .inr (.inr ⟨beq_iff_eq.1 h2,h.2⟩)
   |false=>rw [h0,h1,h2]at h;cases h
theorem amM{α:Type}(b:Bool)(x:α):(bif b then x else x)=x:=by cases b <;> rfl
theorem asR(rs:List LI)(i:Nat)(h:i < rs.length):rs.set i (rs[i]?.getD [])=rs:=by
 rw [List.getElem?_eq_getElem h,Option.getD_some];exact List.set_getElem_self h
theorem acW{n mode day:Int}{ps:LI}{fs:L3}{rs:List LI}{lf:L3}{pl ls:L2}(f:RideF n mode day ps fs rs lf pl ls){k t rk row ck role:Int}{dC:Bool}(h:afl ps rs k t rk row ck role dC=true):
  dK k t rk row ck role dC n mode day ps fs rs lf pl ls=stV n mode day ps fs rs lf pl ls k t rk row ck role dC∧
  dL k t rk row ck role dC n mode day ps fs rs lf pl ls=n∧dM k t rk row ck role dC n mode day ps fs rs lf pl ls=stM mode day pl ls k ck role dC∧
  dN k t rk row ck role dC n mode day ps fs rs lf pl ls=day∧dO k t rk row ck role dC n mode day ps fs rs lf pl ls=stP n mode ps fs rs lf k t∧
  dP k t rk row ck role dC n mode day ps fs rs lf pl ls=fs∧dQ k t rk row ck role dC n mode day ps rs pl ls=stR n ps rs k t rk row∧
  dR k t rk row ck role dC n mode day ps fs rs lf pl ls=lf∧dS k t rk row ck role dC n mode day ps fs rs lf pl ls=pl∧
  dU k t rk row ck role dC n mode day ps fs rs lf pl ls=ls∧fe k t rk row ck role dC n mode day ps fs rs lf pl ls=true:=by
 rcases acZ h with⟨rfl,ht⟩ | ⟨rfl,ht,hr⟩ | ⟨rfl,hc⟩
 ·obtain⟨m1,m2⟩:=aqx f ht
  refine⟨?_,?_,?_,?_,?_,?_,?_,?_,?_,?_,?_⟩
  ·simp [dK,m1,stV]
  ·simp [dL,sX,amM]
  ·simp [dM,sY,amM,stM]
  ·simp [dN,sZ,amM]
  ·simp only [dO,ta,au,iH,aP,ah,Qd,alA,stP,ak1]
   cases hs:YY n t ps <;> cases Int.tmod (ps[t.toNat]?.getD 0) 3==1 <;> cases mode !=3 <;> cases anM n ps (Sl n ps fs 0) (Sl n ps fs 1) t <;> cases hb:akm (rs[t.toNat]?.getD []) lf <;> simp [hb]
  ·simp [dP,tb,amM]
  ·simp [dQ,stR]
  ·simp [dR,tc,sq,amM]
  ·simp [dS,td,amM]
  ·simp [dU,te,amM]
  ·simp [fe,m2,allT]
 ·obtain⟨t1,t2,t3,t4,t5⟩:=f.tn ht
  obtain⟨_,r1,r2⟩:=f.rd ht
  have hrn:aoG (rs[t.toNat]?.getD []) rk row=true:=by rw [aoG,r1,r2,hr];rfl
  have e1:bm t ps=true:=by simp only [bm,t1,t2,t3,allT,cond_true]
  have hset:=asR rs t.toNat (by have:=WZ.1 t5;omega)
  simp only [dK,dL,dM,dN,dO,dP,dQ,dR,dS,dU,fe,aw,oJ,py,pz,pA,pB,pC,pD,pE,pF,pG,pH,oI,Qd,alA,stM,stV,stP,stR]
  cases YY n t ps <;> cases FQ (rs[t.toNat]?.getD []) rk row <;> simp [t1,t2,t3,t4,t5,hrn,e1,hset,allT]
 ·have hv:ano mode ck=true:=by
   have:=f.hM
   simp only [aoa,Bool.and_eq_true]at hc
   rw [ano,hc.1,oU.2 (by omega)];rfl
  have l1:pl.length≤9223372036854775807:=by have:=f.lpl;omega
  have l2:ls.length≤9223372036854775807:=by have:=f.lls;omega
  simp only [dK,dL,dM,dN,dO,dP,dQ,dR,dS,dU,fe,aJ,aN,dZ,qy,qz,qA,qB,qC,qD,qE,qF,qG,qH,px,stM,stV,stP,stR]
  cases vdC mode ck role dC !=0 <;> cases ck==1 <;> cases aow pl ls day <;> simp [hv,l1,l2,allT]
theorem ajA(st:LI)(k row:Int):(adU st k row).length=st.length:=by
 unfold adU;cases k==0||k==1 <;> simp
theorem aqZ{st:LI}{k row:Int}(h:areR st=true)(hk:(k=0∨k=1)∨k=2∨k=3):areR (adU st k row)=true:=by
 obtain⟨h1,h2⟩:=Xt.1 h
 refine Xt.2 ⟨by rw [ajA];exact h1,fun v hv=> ?_⟩
 unfold adU at hv
 rcases hk with hk | rfl | rfl
 ·rw [show (k==0||k==1)=true from by rcases hk with rfl | rfl <;> rfl,cond_true]at hv
  rcases List.mem_or_eq_of_mem_set hv with hv | rfl
  ·exact h2 v hv
  ·omega
 ·simp at hv;omega
 ·simp at hv;omega
theorem aue{rs:List LI}{i:Nat}{v:LI}(h:rsOk rs=true)(hv:areR v=true)(hl:(v.length:Int)=rowsR rs)(hi:i < rs.length):rowsR (rs.set i v)=rowsR rs∧rsOk (rs.set i v)=true:=by
 have h1:rowsR (rs.set i v)=rowsR rs:=by
  unfold rowsR
  rw [List.getElem?_set]
  cases i with
  |zero=>rw [if_pos rfl,if_pos hi,Option.getD_some];exact hl
  |succ i=>simp
 refine⟨h1,?_⟩
 simp only [rsOk,List.all_eq_true,Bool.and_eq_true,beq_iff_eq]at h ⊢
 intro x hx
 rw [h1]
 rcases List.mem_or_eq_of_mem_set hx with hx | rfl
 ·exact h x hx
 ·exact⟨hv,hl⟩
theorem atK: ∀ a:Fin 10,0≤toC (a.val:Int)∧toC (a.val:Int)≤5:=by decide
theorem aq0{n mode day:Int}{ps:LI}{fs:L3}{rs:List LI}{lf:L3}{pl ls:L2}(f:RideF n mode day ps fs rs lf pl ls){k t rk row ck role:Int}{dC:Bool}(h:afl ps rs k t rk row ck role dC=true):
  RideF n (stM mode day pl ls k ck role dC) day (stP n mode ps fs rs lf k t) fs (stR n ps rs k t rk row) lf pl ls∧rowsR (stR n ps rs k t rk row)=rowsR rs∧(stP n mode ps fs rs lf k t).length=ps.length:=by
 have hp:isT n (stP n mode ps fs rs lf k t)=true∧(stP n mode ps fs rs lf k t).length=ps.length:=by
  unfold stP
  cases k==0&&ak1 n mode ps fs rs lf t==0 with
  |true=>exact⟨atn f.hT t,akU n ps t⟩
  |false=>exact⟨f.hT,rfl⟩
 have hr:rsOk (stR n ps rs k t rk row)=true∧rowsR (stR n ps rs k t rk row)=rowsR rs∧(stR n ps rs k t rk row).length=rs.length:=by
  unfold stR
  cases hc: !(k==0)&&(k==1&&(YY n t ps&&FQ (rs[t.toNat]?.getD []) rk row))with
  |false=>exact⟨f.hR,rfl,rfl⟩
  |true=>
   simp only [Bool.and_eq_true,beq_iff_eq]at hc
   rcases acZ h with⟨rfl,_⟩ | ⟨rfl,ht,hb⟩ | ⟨rfl,_⟩
   ·simp at hc
   ·obtain⟨_,r1,r2⟩:=f.rd ht
    have hrn:aoG (rs[t.toNat]?.getD []) rk row=true:=by rw [aoG,r1,r2,hb];rfl
    have hk:=(apK hrn).2.2
    have hi:t.toNat < rs.length:=WZ.1 (f.tn ht).2.2.2.2
    obtain⟨q1,q2⟩:=aue (v:=adU (rs[t.toNat]?.getD []) rk row) f.hR (aqZ r1 (by rcases hk with hk | hk;exact .inl hk.1;exact .inr hk.1)) (by rw [ajA];exact r2) hi
    exact⟨q2,q1,by simp⟩
   ·have:=hc.2.1;cases this
 have hm:0≤stM mode day pl ls k ck role dC∧stM mode day pl ls k ck role dC≤5:=by
  unfold stM
  cases hc:k==0||(k==1||(vdC mode ck role dC !=0||(ck==1&& !aow pl ls day)))with
  |true=>exact f.hM
  |false=>
   rcases acZ h with⟨rfl,_⟩ | ⟨rfl,_,_⟩ | ⟨rfl,hcm⟩
   ·simp at hc
   ·simp at hc
   ·rw [cond_false,nxC]
    cases vdC mode ck role dC==0 with
    |false=>exact f.hM
    |true=>
     simp only [aoa,Bool.and_eq_true,oU]at hcm
     have:=atK ⟨ck.toNat,by omega⟩
     simp only [Int.toNat_of_nonneg hcm.1.1]at this
     exact this
 refine⟨⟨hp.1,f.hF,by rw [hr.2.2,hp.2];exact f.hl,hr.1,by rw [hr.2.1];exact f.hL,hm,f.hP,f.hK,f.hD,f.n1,by rw [hp.2];exact f.lp,f.lfs,f.llf,f.lpl,f.lls,fun x hx=> ?_⟩,hr.2.1,hp.2⟩
 have h4:=hr.1
 simp only [rsOk,List.all_eq_true,Bool.and_eq_true,beq_iff_eq]at h4
 exact h4 x hx
theorem ap1{A B S:Type}{f:B→A→Nat ⊕ A}{g:S→B→S}{emb:S→A}{Inv:S→Prop}{e:Nat}: ∀ {r:List B} {i:Nat} {s:S},(∀ b∈r,∀ s,Inv s→f b (emb s)= .inr (emb (g s b))∧Inv (g s b))→Inv s→
  aL f e r i (emb s)=(e,i + r.length,emb (r.foldl g s))∧Inv (r.foldl g s)
 | [],i,s,_,h=>⟨rfl,h⟩
 |b::r,i,s,hf,h=>by
  obtain⟨h1,h2⟩:=hf b (by simp) s h
  obtain⟨g1,g2⟩:=ap1 (r:=r) (i:=i + 1) (s:=g s b) (e:=e) (fun c hc=>hf c (by simp [hc])) h2
  refine⟨?_,g2⟩
  simp only [aL,h1,g1,List.foldl_cons,List.length_cons]
  rw [Nat.add_right_comm,Nat.add_assoc]
abbrev RS:=Int×LI×List LI×LI×Int
def isX(ps:LI)(rs:List LI)(x:RX):Bool:=afl ps rs x.1 x.2.1 x.2.2.1.1 x.2.2.1.2 x.2.2.2.1 x.2.2.2.2.1 x.2.2.2.2.2
def vX(n day:Int)(fs lf:L3)(pl ls:L2)(s:RS)(x:RX):Int:=stV n s.1 day s.2.1 fs s.2.2.1 lf pl ls x.1 x.2.1 x.2.2.1.1 x.2.2.1.2 x.2.2.2.1 x.2.2.2.2.1 x.2.2.2.2.2
def stX(n day:Int)(fs lf:L3)(pl ls:L2)(s:RS)(x:RX):RS:=(stM s.1 day pl ls x.1 x.2.2.2.1 x.2.2.2.2.1 x.2.2.2.2.2,stP n s.1 s.2.1 fs s.2.2.1 lf x.1 x.2.1,stR n s.2.1 s.2.2.1 x.1 x.2.1 x.2.2.1.1 x.2.2.1.2,s.2.2.2.1++ [vX n day fs lf pl ls s x],bif x.1==0&&(vX n day fs lf pl ls s x==0&&YY n x.2.1 s.2.1)then IntKind.i64.wrap (s.2.2.2.2 + 1)else s.2.2.2.2)
theorem asw{ps ps':LI}{rs rs':List LI}(h1:ps'.length=ps.length)(h2:rowsR rs'=rowsR rs)(x:RX):isX ps' rs' x=isX ps rs x:=by
 simp only [isX,afl,So,h1,h2]
def ap5(n day:Int)(fs lf:L3)(pl ls:L2)(ps0:LI)(rs0:List LI)(i:Nat)(s:RS):Prop:=RideF n s.1 day s.2.1 fs s.2.2.1 lf pl ls∧s.2.1.length=ps0.length∧rowsR s.2.2.1=rowsR rs0∧s.2.2.2.1.length≤i
theorem agb{n day:Int}{fs lf:L3}{pl ls:L2}{ps0:LI}{rs0:List LI}{i:Nat}{s:RS}(hI:ap5 n day fs lf pl ls ps0 rs0 i s){x:RX}(hx:isX ps0 rs0 x=true):
  isX s.2.1 s.2.2.1 x=true∧ap5 n day fs lf pl ls ps0 rs0 (i + 1) (stX n day fs lf pl ls s x):=by
 obtain⟨f,h1,h2,h3⟩:=hI
 have hx':isX s.2.1 s.2.2.1 x=true:=by rw [asw h1 h2];exact hx
 obtain⟨k1,k2,k3⟩:=aq0 f hx'
 refine⟨hx',k1,by rw [← h1];exact k3,by rw [← h2];exact k2,?_⟩
 simp only [stX,List.length_append,List.length_cons,List.length_nil];omega
abbrev tz:=Int×List Int×Int×Int
section
variable (y0:Int)(y1:List Int)
def Mp:Bool:=bif ltI y0 (↑y1.length:Int)then ltI y0 64 else false
def ZS:Bool:=leI 0 y0
def ZT:Bool:=ltI y0 (↑y1.length:Int)
def ZU:Bool:=ltN y0.toNat y1.length
end
def ZV:Bool:=neI 2147483647 0
def ZW(y0:Int):Int:=IntKind.wrap .i64 (y0 + (1:Int))
def ZX(y0:Int)(y1:List Int)(y3:Int):Int:=Int.tmod (IntKind.wrap .i64 (IntKind.wrap .i64 (y3 * (59:Int)) + IntKind.wrap .i64 (Option.getD y1[Int.toNat y0]? 0))) 2147483647
def ahH:tz→List (Nat×SV)
 |(y0,_,_,_)=> [(4,(.one ⟨false,[.val (.int .i64 y0)]⟩)),(0,(.one ⟨false,[.ref 0]⟩)),(3,(.one ⟨false,[.ptr 1 0]⟩))]
def ahy:tz→List (Nat×Entry)
 |(_,y1,y2,y3)=> [(0,(.row false 5 ak9 y1)),(1,(.box 157 [.ref 0,.val (.int .i64 y2),.val (.int .i64 y3)]))]
def ah0:Nat→tz→List (Nat×SV)
 |_,(_,_,_,_)=> []
def ahR:Nat→tz→List (Nat×Entry)
 |_,(_,y1,y2,y3)=> [(0,(.row false 5 ak9 y1)),(1,(.box 157 [.ref 0,.val (.int .i64 y2),.val (.int .i64 y3)]))]
def Fp:tz→LT tz
 |(y0,y1,y2,y3)=> .ite (Mp y0 y1) (.need [ZS y0,ZT y0 y1,ZU y0 y1,ZV] (.nrm ((ZW y0),y1,y2,(ZX y0 y1 y3)) [(0,0),(1,1)])) (.ext 0 [(0,0),(1,1)])
def QU(s:St):Option tz:=
 (match s.look 4 with
 |some ⟨none,.one ⟨false,[.val (.int .i64 y0)]⟩⟩=>
 (match s.look 0 with
 |some ⟨none,.one ⟨false,[.ref 0]⟩⟩=>
 (match s.look 3 with
 |some ⟨none,.one ⟨false,[.ptr 320 0]⟩⟩=>
 (match s.ent 0 with
 |some (.row false 5 (.int IntKind.u8) y1)=>
 (match s.ent 320 with
 |some (.box 157 [.ref 0,.val (.int .i64 y2),.val (.int .i64 y3)])=>
 some (y0,y1,y2,y3)
 |_=>none)
 |_=>none)
 |_=>none)
 |_=>none)
 |_=>none)
def oi:Lp tz where
 h:=⟨[8,9,10,11,12,13,14,15,18,19,20,21,22,23,24,25,26,27,28,29,30,31,32,16,17,4],[0,1],[],[]⟩
 JL:=ahH
 JE:=ahy
 XL:=ah0
 XE:=ahR
 q:=fun j=>match j with | _=> .exit 0
 tags:= [0]
 lt:=Fp
 fuel:=fun(y0,y1,y2,y3)=>y0.natAbs + y1.length + y2.natAbs + y3.natAbs
 fix:=fun(_,y1,y2,_) (y0,_,_,y3)=>(y0,y1,y2,y3)
 σ:= [(0,0),(1,320)]
 rd:=QU
theorem afx:LoopOk prog (fun k=>Nat.blt k Tryz.f50.ntmps) oi.F (aH f50 0):=by
 refine Lp.ok (tbl:= []) (lf:= []) aO oi (by kernel_rfl) (LOk.nil _) (fun _=>rfl) (fun _ _=>rfl) ?_ ?_ ?_ ?_ (fun _=>rfl) ?_
 ·rintro⟨y0,y1,y2,y3⟩;kernel_rfl
 ·rintro⟨y0,y1,y2,y3⟩;kernel_rfl
 ·intro s x h
  have h:QU s=some x:=h
  unfold QU at h
  repeat' split at h
  all_goals cases h
  constructor<;>repeat(first|refine ae (by assumption) rfl ?_|refine af rfl (by assumption) rfl ?_|exact rfl)
 ·rintro⟨y0,y1,y2,y3⟩;kernel_rfl
 ·rintro⟨y0,y1,y2,y3⟩ z;exact(And.intro rfl trivial)
section
variable (x0:List Int)
def Lk:Int×List Int×Int×Int:=((0:Int),x0,(0:Int),(52021:Int))
def NM:Int:=(Lp.res oi (Lk x0)).2.2.2.2
def Tc:Bool:=allT [Lp.fin oi (Lk x0)]
end
def aeB:List SV→List Entry→Option Out
 | [.one ⟨false,[.ref 0]⟩],[.row false 5 (.int .u8) x0]=>some ⟨.one ⟨false,[.ptr 1 0]⟩,[.row false 5 ak9 x0],[.box 157 [.ref 0,.val (.int .i64 0),.val (.int .i64 (NM x0))]],[Tc x0]⟩
 |_,_=>none
def amB:PF prog:=PF.ofG prog [] [oi.F] aO 50 f50 func50 (LOk.fnT (l:= [aH f50 0]) (by kernel_rfl) (.cons afx (.nil _))) aeB (by
 intro vs es r h;unfold aeB at h;split at h
 ·cases h;kernel_rfl
 ·cases h)
section
variable (x0 x1 x2:Int)(x3:List Int)
def Gt:Int:=IntKind.wrap .i64 (x1 + (1:Int))
def Ll:Bool:=bif leI x0 256 then Int.tmod (Gt x1) 2==0 else false
def Gu:Int:=IntKind.wrap .i64 (Gt x1 - (1:Int))
def yI:Int:=Int.tmod (IntKind.wrap .i64 (IntKind.wrap .i64 (x2 * (48271:Int)) + (29:Int))) 2147483647
def km:Int:=bif leI x0 1 then(0:Int)else Int.tmod (bif ltI x1 (↑x3.length:Int)then bif Ll x0 x1 then IntKind.wrap .i64 (Option.getD x3[Int.toNat (Gu x1)]? 0)else IntKind.wrap .i64 (IntKind.wrap .i64 (Int.tdiv (yI x2) 31) + IntKind.wrap .i64 (Option.getD x3[Int.toNat x1]? 0))else IntKind.wrap .i64 (Int.tdiv (yI x2) 31)) x0
def FA:Int:=bif leI x0 1 then x1 else bif ltI x1 (↑x3.length:Int)then Gt x1 else x1
def FB:Int:=bif leI x0 1 then x2 else bif ltI x1 (↑x3.length:Int)then yI x2 else yI x2
def FC:Bool:=allT [leI x0 1||neI 2147483647 0,leI x0 1||neI 31 0,leI x0 1||(!ltI x1 (↑x3.length:Int)||leI 0 x1),leI x0 1||(!ltI x1 (↑x3.length:Int)||ltI x1 (↑x3.length:Int)),leI x0 1||(!ltI x1 (↑x3.length:Int)||ltN x1.toNat x3.length),leI x0 1||(!ltI x1 (↑x3.length:Int)||(!(leI x0 256&&true)||neI 2 0)),leI x0 1||(!ltI x1 (↑x3.length:Int)||(!Ll x0 x1||leI 0 (Gu x1))),leI x0 1||(!ltI x1 (↑x3.length:Int)||(!Ll x0 x1||ltI (Gu x1) (↑x3.length:Int))),leI x0 1||(!ltI x1 (↑x3.length:Int)||(!Ll x0 x1||ltN (Int.toNat (Gu x1)) x3.length)),leI x0 1||neI x0 0]
end
def aeC:List SV→List Entry→Option Out
 | [.one ⟨false,[.ptr 0 0]⟩,.one ⟨false,[.val (.int .i64 x0)]⟩],[.box 157 [.ref 1,.val (.int .i64 x1),.val (.int .i64 x2)],.row false 5 (.int .u8) x3]=>some ⟨.one ⟨false,[.val (.int .i64 (km x0 x1 x2 x3))]⟩,[.box 157 [.ref 1,.val (.int .i64 (FA x0 x1 x3)),.val (.int .i64 (FB x0 x1 x2 x3))],.row false 5 ak9 x3],[],[FC x0 x1 x3]⟩
 |_,_=>none
def SK:PF prog:=PF.ofG prog [] [] aO 52 f52 func52 (fun c _=>LOk.nil c) aeC (by
 intro vs es r h;unfold aeC at h;split at h
 ·cases h;kernel_rfl
 ·cases h)
section
variable (x0 x1:Int)(x2 x3:List Int)
def Td:Int:=Option.getD x2[Int.toNat (km (↑x2.length:Int) x0 x1 x3)]? 0
def YP:Int:=FA (↑x2.length:Int) x0 x3
def YQ:Int:=FB (↑x2.length:Int) x0 x1 x3
def Te:Bool:=allT [FC (↑x2.length:Int) x0 x3,leI 0 (km (↑x2.length:Int) x0 x1 x3),ltI (km (↑x2.length:Int) x0 x1 x3) (↑x2.length:Int),ltN (Int.toNat (km (↑x2.length:Int) x0 x1 x3)) x2.length]
end
def aeD:List SV→List Entry→Option Out
 | [.one ⟨false,[.ptr 0 0]⟩,.one ⟨false,[.ref 1]⟩],[.box 157 [.ref 2,.val (.int .i64 x0),.val (.int .i64 x1)],.row false 2 (.int .i64) x2,.row false 5 (.int .u8) x3]=>some ⟨.one ⟨false,[.val (.int .i64 (Td x0 x1 x2 x3))]⟩,[.box 157 [.ref 2,.val (.int .i64 (YP x0 x2 x3)),.val (.int .i64 (YQ x0 x1 x2 x3))],.row false 2 aj1 x2,.row false 5 ak9 x3],[],[Te x0 x1 x2 x3]⟩
 |_,_=>none
def amC:PF prog:=PF.ofG prog (T3z [SK]) [] aO 67 f67 func67 (fun c _=>LOk.nil c) aeD (by
 intro vs es r h;unfold aeD at h;split at h
 ·cases h;kernel_rfl
 ·cases h)
abbrev AA:=Int×List Int×Int×Int
section
variable (y0:Int)(y1:List Int)(y3:Int)
def Sx:Bool:=ltI y0 (↑y1.length:Int)
def afn:Bool:=leI 0 y0
def afo:Bool:=ltN y0.toNat y1.length
def afp:Int:=IntKind.wrap .i64 (y0 + (1:Int))
def afq:Int:=IntKind.wrap IntKind.u64 (IntKind.wrap IntKind.u64 (IntKind.wrap IntKind.u64 (y3 * (1099511628211:Int)) + IntKind.wrap IntKind.u64 (Option.getD y1[Int.toNat y0]? 0)) + (5:Int))
end
def ak3:AA→List (Nat×SV)
 |(y0,_,_,_)=> [(6,(.one ⟨false,[.val (.int .i64 y0)]⟩)),(0,(.one ⟨false,[.ref 0]⟩)),(5,(.one ⟨false,[.ptr 1 0]⟩))]
def ak2:AA→List (Nat×Entry)
 |(_,y1,y2,y3)=> [(0,(.row false 5 ak9 y1)),(1,(.box 123 [.ref 0,.val (.int .i64 y2),.val (.int IntKind.u64 y3)]))]
def ak5:Nat→AA→List (Nat×SV)
 |_,(_,_,_,_)=> []
def ak4:Nat→AA→List (Nat×Entry)
 |_,(_,y1,y2,y3)=> [(0,(.row false 5 ak9 y1)),(1,(.box 123 [.ref 0,.val (.int .i64 y2),.val (.int IntKind.u64 y3)]))]
def Wd:AA→LT AA
 |(y0,y1,y2,y3)=> .ite (Sx y0 y1) (.need [afn y0,Sx y0 y1,afo y0 y1] (.nrm ((afp y0),y1,y2,(afq y0 y1 y3)) [(0,0),(1,1)])) (.ext 0 [(0,0),(1,1)])
def Wl(s:St):Option AA:=
 (match s.look 6 with
 |some ⟨none,.one ⟨false,[.val (.int .i64 y0)]⟩⟩=>
 (match s.look 0 with
 |some ⟨none,.one ⟨false,[.ref 0]⟩⟩=>
 (match s.look 5 with
 |some ⟨none,.one ⟨false,[.ptr 704 0]⟩⟩=>
 (match s.ent 0 with
 |some (.row false 5 (.int IntKind.u8) y1)=>
 (match s.ent 704 with
 |some (.box 123 [.ref 0,.val (.int .i64 y2),.val (.int IntKind.u64 y3)])=>
 some (y0,y1,y2,y3)
 |_=>none)
 |_=>none)
 |_=>none)
 |_=>none)
 |_=>none)
def sd:Lp AA where
 h:=⟨[16,17,18,19,22,23,24,25,26,27,28,29,30,31,32,33,34,35,36,20,21,6],[0,1],[],[]⟩
 JL:=ak3
 JE:=ak2
 XL:=ak5
 XE:=ak4
 q:=fun j=>match j with | _=> .exit 0
 tags:= [0]
 lt:=Wd
 fuel:=fun(y0,y1,y2,y3)=>y0.natAbs + y1.length + y2.natAbs + y3.natAbs
 fix:=fun(_,y1,y2,_) (y0,_,_,y3)=>(y0,y1,y2,y3)
 σ:= [(0,0),(1,704)]
 rd:=Wl
theorem ai8:LoopOk prog (fun k=>Nat.blt k Tryz.f27.ntmps) sd.F (aH f27 0):=by
 refine Lp.ok (tbl:= []) (lf:= []) aO sd (by kernel_rfl) (LOk.nil _) (fun _=>rfl) (fun _ _=>rfl) ?_ ?_ ?_ ?_ (fun _=>rfl) ?_
 ·rintro⟨y0,y1,y2,y3⟩;kernel_rfl
 ·rintro⟨y0,y1,y2,y3⟩;kernel_rfl
 ·intro s x h
  have h:Wl s=some x:=h
  unfold Wl at h
  repeat' split at h
  all_goals cases h
  constructor<;>repeat(first|refine ae (by assumption) rfl ?_|refine af rfl (by assumption) rfl ?_|exact rfl)
 ·rintro⟨y0,y1,y2,y3⟩;kernel_rfl
 ·rintro⟨y0,y1,y2,y3⟩ z;exact(And.intro rfl trivial)
section
variable (x0:Int)(x1:List Int)
def ac0:Int×List Int×Int×Int:=((0:Int),x1,(0:Int),IntKind.wrap IntKind.u64 (IntKind.wrap IntKind.u64 (x0 * (6007:Int)) + IntKind.wrap IntKind.u64 (↑x1.length:Int)))
def afm:Int:=(Lp.res sd (ac0 x0 x1)).2.2.2.2
def ZK:Bool:=allT [Lp.fin sd (ac0 x0 x1)]
end
def akB:List SV→List Entry→Option Out
 | [.one ⟨false,[.ref 0]⟩,.one ⟨false,[.val (.int .u64 x0)]⟩],[.row false 5 (.int .u8) x1]=>some ⟨.one ⟨false,[.ptr 1 0]⟩,[.row false 5 ak9 x1],[.box 123 [.ref 0,.val (.int .i64 0),.val (.int IntKind.u64 (afm x0 x1))]],[ZK x0 x1]⟩
 |_,_=>none
def apA:PF prog:=PF.ofG prog [] [sd.F] aO 27 f27 func27 (LOk.fnT (l:= [aH f27 0]) (by kernel_rfl) (.cons ai8 (.nil _))) akB (by
 intro vs es r h;unfold akB at h;split at h
 ·cases h;kernel_rfl
 ·cases h)
section
variable (x0 x1 x2:Int)(x3:List Int)
def iq:Int:=IntKind.wrap IntKind.u64 (IntKind.wrap IntKind.u64 (x2 * (6364136223846793005:Int)) + (1442695040888963407:Int))
def ru:Int:=IntKind.wrap .i64 (IntKind.wrap IntKind.u64 (↑(BitVec.toNat (BitVec.ofInt (IntKind.bits IntKind.u64) (Int.fdiv (iq x2) ((2:Int) ^ min (Int.toNat 33) (IntKind.bits IntKind.u64)))&&& BitVec.ofInt (IntKind.bits IntKind.u64) 16777215)):Int))
def me:Int:=Int.tmod (bif ltI x1 (↑x3.length:Int)then IntKind.wrap .i64 (ru x2 + IntKind.wrap .i64 (Option.getD x3[Int.toNat x1]? 0))else ru x2) x0
def BZ:Int:=bif ltI x1 (↑x3.length:Int)then IntKind.wrap .i64 (x1 + (1:Int))else x1
def Ca:Int:=bif ltI x1 (↑x3.length:Int)then iq x2 else iq x2
def iI:Bool:=allT [!ltI x1 (↑x3.length:Int)||leI 0 x1,!ltI x1 (↑x3.length:Int)||ltI x1 (↑x3.length:Int),!ltI x1 (↑x3.length:Int)||ltN x1.toNat x3.length,neI x0 0]
end
def BP:List SV→List Entry→Option Out
 | [.one ⟨false,[.ptr 0 0]⟩,.one ⟨false,[.val (.int .i64 x0)]⟩],[.box 123 [.ref 1,.val (.int .i64 x1),.val (.int .u64 x2)],.row false 5 (.int .u8) x3]=>some ⟨.one ⟨false,[.val (.int .i64 (me x0 x1 x2 x3))]⟩,[.box 123 [.ref 1,.val (.int .i64 (BZ x1 x3)),.val (.int IntKind.u64 (Ca x1 x2 x3))],.row false 5 ak9 x3],[],[iI x0 x1 x3]⟩
 |_,_=>none
def Oz:PF prog:=PF.ofG prog [] [] aO 28 f28 func28 (fun c _=>LOk.nil c) BP (by
 intro vs es r h;unfold BP at h;split at h
 ·cases h;kernel_rfl
 ·cases h)
def aD(a s:Int)(c:List Int):Bool:=(leI 0 a&&leI a 4096)&&((leI 0 s&&ltI s 2147483647)&&(leN c.length 4096&&c.all fun x=>inR x 0 255))
theorem agf{a s:Int}{c:List Int}:aD a s c=true↔(0≤a∧a≤4096)∧(0≤s∧s < 2147483647)∧c.length≤4096∧ ∀ x∈c,0≤x∧x≤255:=by
 simp only [aD,Bool.and_eq_true,Qt,UQ,dD,List.all_eq_true,oU]
theorem Vu{x n:Int}(h:0≤x)(hn:0 < n):0≤Int.tmod x n∧Int.tmod x n < n:=by
 rw [Int.tmod_eq_emod_of_nonneg h]
 exact⟨Int.emod_nonneg _ (by omega),Int.emod_lt_of_pos _ hn⟩
theorem ao6{code:List Int}(hb: ∀ x∈code,0≤x∧x≤255)(i:Nat):0≤(code[i]?.getD 0)∧(code[i]?.getD 0)≤255:=by
 cases h:code[i]? with
 |none=>simp
 |some x=>exact hb x (List.mem_of_getElem? h)
def nxV(n a s:Int)(c:List Int):Int:=km n a s c
def nxA(n a:Int)(c:List Int):Int:=FA n a c
def nxS(n a s:Int)(c:List Int):Int:=FB n a s c
theorem aji(n:Int){a s:Int}{code:List Int}(h:aD a s code=true):
  FC n a code=true∧aD (nxA n a code) (nxS n a s code) code=true∧0≤nxV n a s code∧(1≤n→nxV n a s code < n):=by
 obtain⟨⟨h0,h1⟩,⟨s0,s1⟩,hn,hb⟩:=agf.1 h
 have hw1:IntKind.i64.wrap (s * 48271)=s * 48271:=ar (by omega) (by omega)
 have hw2:IntKind.i64.wrap (s * 48271 + 29)=s * 48271 + 29:=ar (by omega) (by omega)
 have hw3:IntKind.i64.wrap (a + 1)=a + 1:=ar (by omega) (by omega)
 have hw4:IntKind.i64.wrap (a + 1 - 1)=a:=by rw [ar (by omega) (by omega)];omega
 obtain⟨t0,t1⟩:=Vu (x:=s * 48271 + 29) (n:=2147483647) (by omega) (by omega)
 have hd0:0≤Int.tdiv (Int.tmod (s * 48271 + 29) 2147483647) 31:=Int.tdiv_nonneg t0 (by omega)
 have hd1:Int.tdiv (Int.tmod (s * 48271 + 29) 2147483647) 31≤2147483647:=by
  rw [Int.tdiv_eq_ediv_of_nonneg t0];omega
 have hw7:IntKind.i64.wrap (Int.tdiv (Int.tmod (s * 48271 + 29) 2147483647) 31)=Int.tdiv (Int.tmod (s * 48271 + 29) 2147483647) 31:=ar (by omega) (by omega)
 have q1:neI 2147483647 0=true:=by decide
 have q2:neI 31 0=true:=by decide
 have q3:neI 2 0=true:=by decide
 simp only [nxA,nxS,nxV]
 by_cases hq:n≤1
 ·have d:leI n 1=true:=cR hq
  refine⟨by simp [FC,allT,d],?_,by simp [km,d],fun h=>by simp [km,d];omega⟩
  simp only [FA,FB,d,cond_true]
  exact h
 ·have d:leI n 1=false:=auu (by omega)
  have q4:neI n 0=true:=akW (by omega)
  by_cases hl:a < (code.length:Int)
  ·have dl:ltI a (code.length:Int)=true:=eg hl
   obtain⟨c0,c1⟩:=ao6 hb a.toNat
   have hw5:IntKind.i64.wrap (code[a.toNat]?.getD 0)=code[a.toNat]?.getD 0:=ar (by omega) (by omega)
   have hw6:IntKind.i64.wrap (Int.tdiv (Int.tmod (s * 48271 + 29) 2147483647) 31 + code[a.toNat]?.getD 0)=Int.tdiv (Int.tmod (s * 48271 + 29) 2147483647) 31 + code[a.toNat]?.getD 0:=ar (by omega) (by omega)
   have dn:ltN a.toNat code.length=true:=gC (by omega)
   have dz:leI 0 a=true:=cR h0
   have hwa:IntKind.i64.wrap a=a:=ar (by omega) (by omega)
   refine⟨?_,?_,?_⟩
   ·simp [FC,Gt,Gu,allT,d,dl,dn,hw3,hw4,hwa,dz,q1,q2,q3,q4]
   ·simp only [FA,FB,Gt,yI,d,dl,cond_true,cond_false,hw1,hw2,hw3]
    exact agf.2 ⟨⟨by omega,by omega⟩,⟨t0,t1⟩,hn,hb⟩
   ·simp only [km,Ll,Gu,Gt,yI,d,dl,cond_true,cond_false,hw1,hw2,hw3,hw4,hw5,hw7,hw6]
    cases (bif leI n 256 then Int.tmod (a + 1) 2==0 else false)with
    |true=>
     obtain⟨m0,m1⟩:=Vu (x:=code[a.toNat]?.getD 0) (n:=n) c0 (by omega)
     exact⟨m0,fun _=>m1⟩
    |false=>
     obtain⟨m0,m1⟩:=Vu (x:=Int.tdiv (Int.tmod (s * 48271 + 29) 2147483647) 31 + code[a.toNat]?.getD 0) (n:=n) (by omega) (by omega)
     exact⟨m0,fun _=>m1⟩
  ·have dl:ltI a (code.length:Int)=false:=ai9 (by omega)
   refine⟨?_,?_,?_⟩
   ·simp [FC,allT,d,dl,q1,q2,q4]
   ·simp only [FA,FB,yI,d,dl,cond_false,hw1,hw2]
    exact agf.2 ⟨⟨h0,h1⟩,⟨t0,t1⟩,hn,hb⟩
   ·simp only [km,yI,d,dl,cond_false,hw1,hw2,hw7]
    obtain⟨m0,m1⟩:=Vu (x:=Int.tdiv (Int.tmod (s * 48271 + 29) 2147483647) 31) (n:=n) hd0 (by omega)
    exact⟨m0,fun _=>m1⟩
theorem alh(x0 x1 x2:Int)(x3:List Int)(h:aD x1 x2 x3=true):km x0 x1 x2 x3=nxV x0 x1 x2 x3∧FA x0 x1 x3=nxA x0 x1 x3∧FB x0 x1 x2 x3=nxS x0 x1 x2 x3∧FC x0 x1 x3=true:=⟨rfl,rfl,rfl,(aji x0 h).1⟩
def aeU:List SV→List Entry→Option Out
 | [.one ⟨false,[.ptr 0 0]⟩,.one ⟨false,[.val (.int .i64 x0)]⟩],[.box 157 [.ref 1,.val (.int .i64 x1),.val (.int .i64 x2)],.row false 5 (.int .u8) x3]=>some ⟨.one ⟨false,[.val (.int .i64 (nxV x0 x1 x2 x3))]⟩,[.box 157 [.ref 1,.val (.int .i64 (nxA x0 x1 x3)),.val (.int .i64 (nxS x0 x1 x2 x3))],.row false 5 ak9 x3],[],[aD x1 x2 x3]⟩
 |_,_=>none
def am:PF prog:=PF.alt SK aeU (by
 intro args es o h bE;unfold aeU at h;split at h
 ·rename_i x0 x1 x2 x3
  cases h
  have bE:=jW bE
  have hh:=alh x0 x1 x2 x3 bE
  obtain⟨e0,e1,e2,en⟩:=hh
  exact nO rfl (iY en) (by simp only [e0] <;> rfl) (by simp only [e1,e2] <;> rfl) rfl
 ·cases h)
def pkV(a s:Int)(l c:List Int):Int:=Td a s l c
def pkA(a:Int)(l c:List Int):Int:=YP a l c
def pkS(a s:Int)(l c:List Int):Int:=YQ a s l c
theorem art{a s:Int}{l code:List Int}(h:(aD a s code&&leN 1 l.length)=true):
  Te a s l code=true∧aD (pkA a l code) (pkS a s l code) code=true∧pkV a s l code∈l:=by
 simp only [Bool.and_eq_true,dD]at h
 obtain⟨n3,n1,n0,nl⟩:=aji (l.length:Int) h.1
 have nl:=nl (by omega)
 simp only [nxV]at n0 nl
 refine⟨?_,n1,?_⟩
 ·have t1:leI 0 (km (l.length:Int) a s code)=true:=cR n0
  have t2:ltI (km (l.length:Int) a s code) (l.length:Int)=true:=eg nl
  have t3:ltN (km (l.length:Int) a s code).toNat l.length=true:=gC (by omega)
  simp only [Te,allT,n3,t1,t2,t3,cond_true]
 ·have eO:(km (l.length:Int) a s code).toNat < l.length:=by omega
  simp only [pkV,Td,List.getElem?_eq_getElem eO,Option.getD_some]
  exact List.getElem_mem eO
theorem ali(x0 x1:Int)(x2 x3:List Int)(h:(aD x0 x1 x3&&leN 1 x2.length)=true):Td x0 x1 x2 x3=pkV x0 x1 x2 x3∧YP x0 x2 x3=pkA x0 x2 x3∧YQ x0 x1 x2 x3=pkS x0 x1 x2 x3∧Te x0 x1 x2 x3=true:=⟨rfl,rfl,rfl,(art h).1⟩
def aeV:List SV→List Entry→Option Out
 | [.one ⟨false,[.ptr 0 0]⟩,.one ⟨false,[.ref 1]⟩],[.box 157 [.ref 2,.val (.int .i64 x0),.val (.int .i64 x1)],.row false 2 (.int .i64) x2,.row false 5 (.int .u8) x3]=>some ⟨.one ⟨false,[.val (.int .i64 (pkV x0 x1 x2 x3))]⟩,[.box 157 [.ref 2,.val (.int .i64 (pkA x0 x2 x3)),.val (.int .i64 (pkS x0 x1 x2 x3))],.row false 2 aj1 x2,.row false 5 ak9 x3],[],[aD x0 x1 x3&&leN 1 x2.length]⟩
 |_,_=>none
def ao:PF prog:=PF.alt amC aeV (by
 intro args es o h bE;unfold aeV at h;split at h
 ·rename_i x0 x1 x2 x3
  cases h
  have bE:=jW bE
  have hh:=ali x0 x1 x2 x3 bE
  obtain⟨e0,e1,e2,en⟩:=hh
  exact nO rfl (iY en) (by simp only [e0] <;> rfl) (by simp only [e1,e2] <;> rfl) rfl
 ·cases h)
def arD(b:Int)(a:Nat×Int):Nat ⊕ (Nat×Int):=bif decide (a.1 < 64)then .inr (a.1 + 1,Int.tmod (a.2 * 59 + b) 2147483647)else .inl 0
def frS(c:List Int):Int:=NM c
theorem aly(code:List Int)(h:aD 0 0 code=true):Tc code=true∧aD 0 (frS code) code=true:=by
 obtain⟨_,_,hn,hb⟩:=agf.1 h
 have dC:=akr (lt:=Fp) (fun i (a:Nat×Int)=>((i:Int),code,(0:Int),a.2)) arD 0 (fun i a=>a.1=i∧0≤a.2∧a.2 < 2147483647) code (fun i b a he hI=>⟨?_,fun a' hf=> ?_⟩) (fun a hI=> ?_) code 0 (0,52021) rfl (by simp) (by decide)
 ·have hres:=oi.run dC (aos (by simp only [oi];omega))
  have r1:oi.fin ((0:Int),code,(0:Int),(52021:Int))=true:=hres.1
  have r2:oi.res ((0:Int),code,(0:Int),(52021:Int))=_:=hres.2
  have inv: ∀ (r:List Int) (i:Nat) (a:Nat×Int),(∀ x∈r,0≤x∧x≤255)→0≤a.2∧a.2 < 2147483647→0≤(aL arD 0 r i a).2.2.2∧(aL arD 0 r i a).2.2.2 < 2147483647:=by
   intro r
   induction r with
   |nil=>intro i a _ h;exact h
   |cons b r ih=>
    intro i a hx h
    simp only [aL,arD]
    cases decide (a.1 < 64)with
    |false=>exact h
    |true=>
     have hb:=hx b (by simp)
     exact ih _ _ (fun x hm=>hx x (by simp [hm])) (Vu (by omega) (by omega))
  obtain⟨q0,q1⟩:=inv code 0 (0,52021) hb (by decide)
  refine⟨by simp [Tc,Lk,allT,r1],agf.2 ⟨by decide,⟨?_,?_⟩,hn,hb⟩⟩
  ·simp only [frS,NM,Lk,r2];exact q0
  ·simp only [frS,NM,Lk,r2];exact q1
 ·obtain⟨eO,he⟩:=List.getElem?_eq_some_iff.1 he
  subst he
  obtain⟨h1,h2,h3⟩:=hI
  have hw:=DJ eO (by omega)
  obtain⟨c0,c1⟩:=hb code[i] (List.getElem_mem eO)
  have hw1:IntKind.i64.wrap (a.2 * 59)=a.2 * 59:=ar (by omega) (by omega)
  have hw2:IntKind.i64.wrap code[i]=code[i]:=ar (by omega) (by omega)
  have hw3:IntKind.i64.wrap (a.2 * 59 + code[i])=a.2 * 59 + code[i]:=ar (by omega) (by omega)
  have q1:neI 2147483647 0=true:=by decide
  have q2:ltI (i:Int) (code.length:Int)=true:=eg (by omega)
  have q3:leI 0 (i:Int)=true:=cR (by omega)
  have q4:ltN i code.length=true:=gC eO
  simp only [arD,h1]
  by_cases h64:i < 64
  ·have d:decide (i < 64)=true:=decide_eq_true h64
   have d':ltI (i:Int) 64=true:=eg (by omega)
   simp [Fp,LT.out,allT,Mp,ZS,ZT,ZU,ZV,ZW,ZX,eO,hw,d,d',hw1,hw2,hw3,q1,q2,q3,q4]
  ·have d:decide (i < 64)=false:=decide_eq_false h64
   have d':ltI (i:Int) 64=false:=ai9 (by omega)
   simp [Fp,LT.out,Mp,d,d']
 ·simp only [arD]at hf
  obtain⟨h1,h2,h3⟩:=hI
  obtain⟨c0,c1⟩:=hb b (List.mem_of_getElem? he)
  cases hd:decide (a.1 < 64)with
  |false=>rw [hd]at hf;cases hf
  |true=>
   rw [hd]at hf
   simp only [cond_true,Sum.inr.injEq]at hf
   subst hf
   obtain⟨m0,m1⟩:=Vu (x:=a.2 * 59 + b) (n:=2147483647) (by omega) (by omega)
   exact⟨by simp [h1],m0,m1⟩
 ·simp [Fp,LT.out,Mp]
theorem alg(x0:List Int)(h:aD 0 0 x0=true):NM x0=frS x0∧Tc x0=true:=⟨rfl,(aly x0 h).1⟩
def aeT:List SV→List Entry→Option Out
 | [.one ⟨false,[.ref 0]⟩],[.row false 5 (.int .u8) x0]=>some ⟨.one ⟨false,[.ptr 1 0]⟩,[.row false 5 ak9 x0],[.box 157 [.ref 0,.val (.int .i64 0),.val (.int .i64 (frS x0))]],[aD 0 0 x0]⟩
 |_,_=>none
def Jk:PF prog:=PF.alt amB aeT (by
 intro args es o h bE;unfold aeT at h;split at h
 ·rename_i x0
  cases h
  have bE:=jW bE
  have hh:=alg x0 bE
  obtain⟨e0,en⟩:=hh
  exact nO rfl (iY en) rfl rfl (by simp only [e0] <;> rfl)
 ·cases h)
def rlS(x:Int)(c:List Int):Int:=afm x c
theorem atB(code:List Int)(hn:leN code.length 4096=true)(x:Int):ZK x code=true:=by
 have hn:=dD.1 hn
 have dC:=sd.walk (fun i (h:Int)=>((i:Int),code,(0:Int),h)) (fun b h=> .inr (IntKind.wrap IntKind.u64 (IntKind.wrap IntKind.u64 (IntKind.wrap IntKind.u64 (h * (1099511628211:Int)) + IntKind.wrap IntKind.u64 b) + (5:Int)))) 0 (fun _ _=>True) code
  (fun i b h he _=>⟨?_,fun _ _=>trivial⟩) (fun h _=> ?_) (IntKind.wrap IntKind.u64 (IntKind.wrap IntKind.u64 (x * (6007:Int)) + IntKind.wrap IntKind.u64 (↑(List.length code):Int))) trivial (by simp only [sd];omega)
 ·have k1:sd.fin ((0:Int),code,(0:Int),IntKind.wrap IntKind.u64 (IntKind.wrap IntKind.u64 (x * (6007:Int)) + IntKind.wrap IntKind.u64 (↑(List.length code):Int)))=true:=dC.1
  simp only [ZK,ac0,allT,k1,cond_true]
 ·obtain⟨eO,he⟩:=List.getElem?_eq_some_iff.1 he
  subst he
  have hw:=DJ eO (by omega)
  have q2:ltI (i:Int) (code.length:Int)=true:=eg (by omega)
  have q3:leI 0 (i:Int)=true:=cR (by omega)
  have q4:ltN i code.length=true:=gC eO
  simp [sd,Wd,LT.out,allT,Sx,afn,afo,afp,afq,eO,hw,q2,q3,q4]
 ·simp [sd,Wd,LT.out,Sx]
theorem aoC(x0:Int)(x1:List Int)(h:leN x1.length 4096=true):afm x0 x1=rlS x0 x1∧ZK x0 x1=true:=⟨rfl,atB x1 h x0⟩
def akC:List SV→List Entry→Option Out
 | [.one ⟨false,[.ref 0]⟩,.one ⟨false,[.val (.int .u64 x0)]⟩],[.row false 5 (.int .u8) x1]=>some ⟨.one ⟨false,[.ptr 1 0]⟩,[.row false 5 ak9 x1],[.box 123 [.ref 0,.val (.int .i64 0),.val (.int IntKind.u64 (rlS x0 x1))]],[leN x1.length 4096]⟩
 |_,_=>none
def afF:PF prog:=PF.alt apA akC (by
 intro args es o h bE;unfold akC at h;split at h
 ·rename_i x0 x1
  cases h
  have bE:=jW bE
  have hh:=aoC x0 x1 bE
  obtain⟨e0,en⟩:=hh
  exact nO rfl (iY en) rfl rfl (by simp only [e0] <;> rfl)
 ·cases h)
def blV(n a s:Int)(c:List Int):Int:=me n a s c
theorem ar8{n a:Int}{code:List Int}(h:(leI 1 n&&leI 0 a)=true):iI n a code=true:=by
 simp only [Bool.and_eq_true,Qt]at h
 have q1:neI n 0=true:=akW (by omega)
 have q2:leI 0 a=true:=cR h.2
 cases hl:ltI a (code.length:Int)with
 |true=>
  have:=UQ.1 hl
  have q3:ltN a.toNat code.length=true:=gC (by omega)
  simp [iI,allT,q1,q2,q3,hl]
 |false=>simp [iI,allT,q1,hl]
theorem ar7{n a s:Int}{code:List Int}(hn:1≤n)(hb: ∀ x∈code,0≤x∧x≤255):0≤blV n a s code∧blV n a s code < n:=by
 have hv: ∀ A:BitVec (IntKind.bits IntKind.u64),(A&&& BitVec.ofInt (IntKind.bits IntKind.u64) (16777215:Int)).toNat≤16777215:=fun A=>by
  rw [BitVec.toNat_and]
  exact Nat.le_trans Nat.and_le_right (by decide)
 have hu: ∀ v:Nat,v≤16777215→IntKind.u64.wrap (v:Int)=v:=fun v h=>by
  have hb:IntKind.u64.bits=64:=rfl
  have hs:IntKind.u64.signed=false:=rfl
  simp only [IntKind.wrap,hb,hs,Bool.false_and,Bool.false_eq_true,if_false]
  omega
 simp only [blV,me,ru]
 have hA:=hv (BitVec.ofInt (IntKind.bits IntKind.u64) (Int.fdiv (iq s) ((2:Int) ^ min (Int.toNat (33:Int)) (IntKind.bits IntKind.u64))))
 generalize BitVec.toNat (BitVec.ofInt (IntKind.bits IntKind.u64) (Int.fdiv (iq s) ((2:Int) ^ min (Int.toNat (33:Int)) (IntKind.bits IntKind.u64)))&&& BitVec.ofInt (IntKind.bits IntKind.u64) (16777215:Int))=v at hA ⊢
 obtain⟨c0,c1⟩:=ao6 hb a.toNat
 rw [hu v hA,ar (x:=(v:Int)) (by omega) (by omega),ar (x:=code[a.toNat]?.getD 0) (by omega) (by omega),ar (x:=(v:Int) + code[a.toNat]?.getD 0) (by omega) (by omega)]
 cases ltI a (↑(List.length code):Int)with
 |true=>exact Vu (by simp only [cond_true];omega) (by omega)
 |false=>exact Vu (by simp only [cond_false];omega) (by omega)
theorem Nu(x0 x1 x2:Int)(x3:List Int)(h:(leI 1 x0&&leI 0 x1)=true):me x0 x1 x2 x3=blV x0 x1 x2 x3∧iI x0 x1 x3=true:=⟨rfl,ar8 h⟩
def BR:List SV→List Entry→Option Out
 | [.one ⟨false,[.ptr 0 0]⟩,.one ⟨false,[.val (.int .i64 x0)]⟩],[.box 123 [.ref 1,.val (.int .i64 x1),.val (.int .u64 x2)],.row false 5 (.int .u8) x3]=>some ⟨.one ⟨false,[.val (.int .i64 (blV x0 x1 x2 x3))]⟩,[.box 123 [.ref 1,.val (.int .i64 (BZ x1 x3)),.val (.int IntKind.u64 (Ca x1 x2 x3))],.row false 5 ak9 x3],[],[leI 1 x0&&leI 0 x1]⟩
 |_,_=>none
def sr:PF prog:=PF.alt Oz BR (by
 intro args es o h bE;unfold BR at h;split at h
 ·rename_i x0 x1 x2 x3
  cases h
  have bE:=jW bE
  have hh:=Nu x0 x1 x2 x3 bE
  obtain⟨e0,en⟩:=hh
  exact nO rfl (iY en) (by simp only [e0] <;> rfl) rfl rfl
 ·cases h)
end Go.SX
