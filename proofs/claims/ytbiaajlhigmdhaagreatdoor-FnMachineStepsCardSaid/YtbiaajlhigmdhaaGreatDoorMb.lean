/- What functions of the program come to, and what that says in plain words: part 2. -/
import Derived.Test.YtbiaajlhigmdhaaGreatDoorMa
import Derived.Test.YtbiaajlhigmdhaaGreatDoorTXh
import Derived.Test.YtbiaajlhigmdhaaGreatDoorProg
set_option linter.unusedSimpArgs false
set_option linter.unusedVariables false
open Bool renaming and_eq_true → q9
open Int renaming toNat_natCast → w5
open List renaming length_singleton → w7
open Bool renaming or_true → w8
open Bool renaming cond_self → w9
open List renaming getElem?_eq_some_iff → j7
open Int renaming toNat → j8
open List renaming length → j9
open Option renaming getD → v3
open Go.IntKind renaming wrap → v4
open List renaming replicate → v5
namespace Go.SX
open Go.Proofs Go.Proofs.Tryz
set_option maxRecDepth 100000
abbrev lb:=Int×alV×alV×List alV×List alV×List alV×List (alV×(List (Int×(alV×Int))))
def sH(y0:Int)(y6:List (alV×(List (Int×(alV×Int))))):Bool:=ltI y0 (↑y6.length:Int)
def sI(y0:Int)(y6:List (alV×(List (Int×(alV×Int))))):Bool:=ltN y0.toNat y6.length
def lK(y0:Int)(y6:List (alV×(List (Int×(alV×Int))))):alV×List (Int×alV×Int):=v3 y6[j8 y0]? (uS aaY)
def io(y0:Int)(y6:List (alV×(List (Int×(alV×Int))))):Bool:= !lN ((lK y0 y6).1)
def pE(y0:Int)(y6:List (alV×(List (Int×(alV×Int))))):List (Int×alV×Int):=bif !io y0 y6&&true then (lK y0 y6).2else []
def uy(y0:Int)(y6:List (alV×(List (Int×(alV×Int))))):Bool:=sH y0 y6
def CR(y0:Int):Bool:=leI 0 y0
def CS(y0:Int)(y6:List (alV×(List (Int×(alV×Int))))):Bool:=sI y0 y6
def CT(y0:Int)(y6:List (alV×(List (Int×(alV×Int))))):Bool:=rU ((lK y0 y6).1)
def CU(y0:Int)(y6:List (alV×(List (Int×(alV×Int))))):Bool:= !(!io y0 y6&&true)||leI 0 y0
def CV(y0:Int)(y6:List (alV×(List (Int×(alV×Int))))):Bool:= !(!io y0 y6&&true)||sH y0 y6
def CW(y0:Int)(y6:List (alV×(List (Int×(alV×Int))))):Bool:= !(!io y0 y6&&true)||sI y0 y6
def CX(y0:Int)(y6:List (alV×(List (Int×(alV×Int))))):Bool:= !(!io y0 y6&&true)||ade (pE y0 y6)
def yA(y0:Int)(y6:List (alV×(List (Int×(alV×Int))))):Bool:=bif io y0 y6 then true else !aiw (pE y0 y6)
def CY(y0:Int):Int:=v4 .i64 (y0 + (1:Int))
def aap:lb→List (Nat×SV)
 |(y0,_,_,_,_,_,_)=> [(3,(.one ⟨false,[.val (.int .i64 y0)]⟩)),(1,(.one ⟨false,[.ptr 0 0]⟩))]
def aam:lb→List (Nat×Entry)
 |(_,y1,y2,y3,y4,y5,y6)=> [(0,(.box 43 [.val (.string y1),.ref 1,.ref 2,.ref 3,.val (.string y2),.ref 4])),(1,(.row false 9 alu y3)),(2,(.row false 9 alu y4)),(3,(.row false 9 alu y5)),(4,(.row false 142 aaY y6))]
def aaI:Nat→lb→List (Nat×SV)
 |0,(_,_,_,_,_,_,_)=> [(2,(.one ⟨false,[.val (.bool false)]⟩))]
 |_,(_,_,_,_,_,_,_)=> []
def aaF:Nat→lb→List (Nat×Entry)
 |0,(_,y1,y2,y3,y4,y5,y6)=> [(0,(.box 43 [.val (.string y1),.ref 1,.ref 2,.ref 3,.val (.string y2),.ref 4])),(1,(.row false 9 alu y3)),(2,(.row false 9 alu y4)),(3,(.row false 9 alu y5)),(4,(.row false 142 aaY y6))]
 |_,(_,y1,y2,y3,y4,y5,y6)=> [(0,(.box 43 [.val (.string y1),.ref 1,.ref 2,.ref 3,.val (.string y2),.ref 4])),(1,(.row false 9 alu y3)),(2,(.row false 9 alu y4)),(3,(.row false 9 alu y5)),(4,(.row false 142 aaY y6))]
def wP:lb→LT lb
 |(y0,y1,y2,y3,y4,y5,y6)=> .ite (uy y0 y6) (.need [CR y0,uy y0 y6,CS y0 y6,CT y0 y6,CU y0 y6,CV y0 y6,CW y0 y6,CX y0 y6] (.ite (yA y0 y6) (.ext 0 [(0,0),(1,1),(2,2),(3,3),(4,4)]) (.nrm ((CY y0),y1,y2,y3,y4,y5,y6) [(0,0),(1,1),(2,2),(3,3),(4,4)]))) (.ext 1 [(0,0),(1,1),(2,2),(3,3),(4,4)])
def Ik(s:St):Option lb:=
 (match s.look 3 with
 |some ⟨none,.one ⟨false,[.val (.int .i64 y0)]⟩⟩=>
 (match s.look 1 with
 |some ⟨none,.one ⟨false,[.ptr 320 0]⟩⟩=>
 (match s.ent 320 with
 |some (.box 43 [.val (.string y1),.ref 0,.ref 1,.ref 2,.val (.string y2),.ref 3])=>
 (match s.ent 0 with
 |some (.row false 9 (.str) y3)=>
 (match s.ent 1 with
 |some (.row false 9 (.str) y4)=>
 (match s.ent 2 with
 |some (.row false 9 (.str) y5)=>
 (match s.ent 3 with
 |some (.row false 142 (.pair .str (.sl 122 (.pair (.int .i64) (.pair .str (.int .i64))))) y6)=>
 some (y0,y1,y2,y3,y4,y5,y6)
 |_=>none)
 |_=>none)
 |_=>none)
 |_=>none)
 |_=>none)
 |_=>none)
 |_=>none)
def em:Lp lb where
 h:=⟨[37,38,39,40,41,44,45,46,47,48,49,50,51,52,53,54,55,56,57,58,59,60,61,2,42,43,3],[0,1,2,3,4],[],[]⟩
 JL:=aap
 JE:=aam
 XL:=aaI
 XE:=aaF
 q:=fun j=>match j with | 0=> .ret | _=> .exit 0
 tags:= [0,1]
 lt:=wP
 fuel:=fun(y0,y1,y2,y3,y4,y5,y6)=>y0.natAbs + y1.size + y2.size + y3.length + y4.length + y5.length + y6.length
 fix:=fun(_,y1,y2,y3,y4,y5,y6) (y0,_,_,_,_,_,_)=>(y0,y1,y2,y3,y4,y5,y6)
 σ:= [(0,320),(1,0),(2,1),(3,2),(4,3)]
 rd:=Ik
theorem Yk:LoopOk prog (fun k=>Nat.blt k Tryz.f105.ntmps) em.F (bV f105 0):=by
 refine Lp.ok (tbl:= (T3z [nQ,Ii,Bk,uv])) (lf:= []) bG em (by kernel_rfl) (LOk.nil _) (fun _=>rfl) (fun j _=>by unfold em;match j with | 0=>rfl | _ + 1=>rfl) ?_ ?_ ?_ ?_ (fun _=>rfl) ?_
 ·rintro⟨y0,y1,y2,y3,y4,y5,y6⟩;kernel_rfl
 ·rintro⟨y0,y1,y2,y3,y4,y5,y6⟩;kernel_rfl
 ·intro s x h
  have h:Ik s=some x:=h
  unfold Ik at h
  repeat' split at h
  all_goals cases h
  constructor<;>repeat(first|refine ab (by assumption) rfl ?_|refine aa rfl (by assumption) rfl ?_|exact rfl)
 ·rintro⟨y0,y1,y2,y3,y4,y5,y6⟩;kernel_rfl
 ·rintro⟨y0,y1,y2,y3,y4,y5,y6⟩ z;exact(And.intro (And.intro trivial rfl) trivial)
section
variable (x0:alV)(x2 x3 x4:List alV)
def Nj:Bool:=bif !lN x0 then true else !(List.all x2 uK&&inR (↑x2.length:Int) 1 20)
def Nk:Bool:=bif Nj x0 x2 then true else !(List.all x3 uK&&inR (↑x3.length:Int) 0 20)
def Nl:Bool:=bif Nk x0 x2 x3 then true else !(List.all x4 uK&&inR (↑x4.length:Int) 1 20)
end
def Nn(x1:alV):Bool:=
 !ByteArray.toList x1==ByteArray.toList { data:= #[] }
section
variable (x0 x1:alV)(x2 x3 x4:List alV)(x5:List (alV×List (Int×alV×Int)))
def Np:Bool:=bif Nl x0 x2 x3 x4 then true else bif Nn x1 then !lN x1 else false
def Ha:Int×alV×alV×List alV×List alV×List alV×List (alV×List (Int×alV×Int)):=((0:Int),x0,x1,x2,x3,x4,x5)
def DJ:Bool:=bif Np x0 x1 x2 x3 x4 then false else bif Nat.beq ((Lp.res em (Ha x0 x1 x2 x3 x4 x5)).1) 0 then false else aX (↑x5.length:Int) 1 40
def IV:Bool:=allT [rU x0,!(!!lN x0&&true)||Pg x2,!(!Nj x0 x2&&true)||Pg x3,!(!Nk x0 x2 x3&&true)||Pg x4,!(Nn x1&&(!Nl x0 x2 x3 x4&&true))||rU x1,Np x0 x1 x2 x3 x4||Lp.fin em (Ha x0 x1 x2 x3 x4 x5)]
end
def Ww:List SV→List Entry→Option Out
 | [.one ⟨true,[.val (.string x0),.ref 0,.ref 1,.ref 2,.val (.string x1),.ref 3]⟩],[.row false 9 (.str) x2,.row false 9 (.str) x3,.row false 9 (.str) x4,.row false 142 (.pair (.str) (.sl 122 (.pair (.int .i64) (.pair (.str) (.int .i64))))) x5]=>some ⟨.one ⟨false,[.val (.bool (DJ x0 x1 x2 x3 x4 x5))]⟩,[.row false 9 alu x2,.row false 9 alu x3,.row false 9 alu x4,.row false 142 (CTy.pair CTy.str (CTy.sl (122:TypeId) afs)) x5],[],[IV x0 x1 x2 x3 x4 x5]⟩
 |_,_=>none
def Pt:PF prog:=PF.ofG prog (T3z [nQ,Ii,Bk,uv]) [em.F] bG 105 f105 func105 (LOk.fnT (l:= [bV f105 0]) (by kernel_rfl) (.cons Yk (.nil _))) Ww (by
 intro vs es r h;unfold Ww at h;split at h
 ·cases h;kernel_rfl
 ·cases h)
def pN(x2:alV)(x3 x4:List alV):Bool:=bif leI 0 (uT x3 x2)then true else leI 0 (uT x4 x2)
def Ap(x2:alV)(x3 x4:List alV):Bool:=allT [leN x3.length (9223372036854775807:Nat),!(!leI 0 (uT x3 x2)&&true)||leN x4.length (9223372036854775807:Nat)]
def Si:List SV→List Entry→Option Out
 | [.one ⟨true,[.val (.string _x0),.ref 0,.ref 1,.ref 2,.val (.string _x1),.ref 3]⟩,.one ⟨false,[.val (.string x2)]⟩],[.row false 9 (.str) x3,.row false 9 (.str) x4,.row false 9 (.str) x5,.row false 142 (.pair (.str) (.sl 122 (.pair (.int .i64) (.pair (.str) (.int .i64))))) x6]=>some ⟨.one ⟨false,[.val (.bool (pN x2 x3 x4))]⟩,[.row false 9 alu x3,.row false 9 alu x4,.row false 9 alu x5,.row false 142 (CTy.pair CTy.str (CTy.sl (122:TypeId) afs)) x6],[],[Ap x2 x3 x4]⟩
 |_,_=>none
def iZ:PF prog:=PF.ofG prog (T3z [aU]) [] bG 146 f146 func146 (fun c _=>LOk.nil c) Si (by
 intro vs es r h;unfold Si at h;split at h
 ·cases h;kernel_rfl
 ·cases h)
abbrev lX:=Int×alV×alV×List alV×List alV×List alV×List alV×List (alV×(List (Int×(alV×Int))))
def gO(y0:Int)(y7:List (alV×(List (Int×(alV×Int))))):alV:=(v3 y7[j8 y0]? (uS aaY)).1
def wd(y0:Int)(y7:List (alV×(List (Int×(alV×Int))))):Bool:=ltI y0 (↑y7.length:Int)
def Ac(y0:Int):Bool:=leI 0 y0
def Ad(y0:Int)(y7:List (alV×(List (Int×(alV×Int))))):Bool:=ltN y0.toNat y7.length
def Ae(y5:List alV):Bool:=leN y5.length (9223372036854775807:Nat)
def Af(y0:Int)(y5 y6:List alV)(y7:List (alV×(List (Int×(alV×Int))))):Bool:= !(ltI (uT y5 (gO y0 y7)) 0&&true)||leN y6.length (9223372036854775807:Nat)
def Ag(y0:Int)(y5 y6:List alV)(y7:List (alV×(List (Int×(alV×Int))))):Bool:=bif ltI (uT y5 (gO y0 y7)) 0 then ltI (uT y6 (gO y0 y7)) 0 else false
def Ah(y0:Int)(y3:List alV)(y7:List (alV×(List (Int×(alV×Int))))):Bool:=leN (j9 y3 + j9 [gO y0 y7]) (9223372036854775807:Nat)
def Ai(y0:Int)(y3:List alV)(y7:List (alV×(List (Int×(alV×Int))))):Bool:=leN ((j9 y3 + j9 [gO y0 y7]) * (16:Nat)) 140737488355328
def Aj(y0:Int):Int:=v4 .i64 (y0 + (1:Int))
def Ak(y0:Int)(y3:List alV)(y7:List (alV×(List (Int×(alV×Int))))):List alV:=y3++ [gO y0 y7]
def acd:lX→List (Nat×SV)
 |(y0,_,_,_,_,_,_,_)=> [(4,(.one ⟨false,[.val (.int .i64 y0)]⟩)),(1,(.one ⟨false,[.ptr 0 0]⟩)),(3,(.one ⟨false,[.ref 1]⟩))]
def ab5:lX→List (Nat×Entry)
 |(_,y1,y2,y3,y4,y5,y6,y7)=> [(0,(.box 43 [.val (.string y1),.ref 2,.ref 3,.ref 4,.val (.string y2),.ref 5])),(2,(.row false 9 alu y4)),(3,(.row false 9 alu y5)),(4,(.row false 9 alu y6)),(5,(.row false 142 aaY y7)),(1,(.row true 9 alu y3))]
def acr:Nat→lX→List (Nat×SV)
 |0,(_,_,_,_,_,_,_,_)=> [(2,(.one ⟨false,[.val (.int .i64 3)]⟩))]
 |_,(_,_,_,_,_,_,_,_)=> [(3,(.one ⟨false,[.ref 1]⟩))]
def ack:Nat→lX→List (Nat×Entry)
 |0,(_,y1,y2,y3,y4,y5,y6,y7)=> [(0,(.box 43 [.val (.string y1),.ref 2,.ref 3,.ref 4,.val (.string y2),.ref 5])),(1,(.row true 9 alu y3)),(2,(.row false 9 alu y4)),(3,(.row false 9 alu y5)),(4,(.row false 9 alu y6)),(5,(.row false 142 aaY y7))]
 |_,(_,y1,y2,y3,y4,y5,y6,y7)=> [(0,(.box 43 [.val (.string y1),.ref 2,.ref 3,.ref 4,.val (.string y2),.ref 5])),(1,(.row true 9 alu y3)),(2,(.row false 9 alu y4)),(3,(.row false 9 alu y5)),(4,(.row false 9 alu y6)),(5,(.row false 142 aaY y7))]
def yj:lX→LT lX
 |(y0,y1,y2,y3,y4,y5,y6,y7)=> .ite (wd y0 y7) (.need [Ac y0,wd y0 y7,Ad y0 y7] (.need [Ae y5,Af y0 y5 y6 y7] (.ite (Ag y0 y5 y6 y7) (.ext 0 [(0,0),(1,1),(2,2),(3,3),(4,4),(5,5)]) (.need [Ah y0 y3 y7,Ai y0 y3 y7] (.nrm ((Aj y0),y1,y2,Ak y0 y3 y7,y4,y5,y6,y7) [(0,0),(1,1792),(2,2),(3,3),(4,4),(5,5)]))))) (.ext 1 [(0,0),(1,1),(2,2),(3,3),(4,4),(5,5)])
def JJ(s:St):Option lX:=
 (match s.look 4 with
 |some ⟨none,.one ⟨false,[.val (.int .i64 y0)]⟩⟩=>
 (match s.look 1 with
 |some ⟨none,.one ⟨false,[.ptr 320 0]⟩⟩=>
 (match s.look 3 with
 |some ⟨none,.one ⟨false,[.ref 1280]⟩⟩=>
 (match s.ent 320 with
 |some (.box 43 [.val (.string y1),.ref 0,.ref 1,.ref 2,.val (.string y2),.ref 3])=>
 (match s.ent 0 with
 |some (.row false 9 (.str) y4)=>
 (match s.ent 1 with
 |some (.row false 9 (.str) y5)=>
 (match s.ent 2 with
 |some (.row false 9 (.str) y6)=>
 (match s.ent 3 with
 |some (.row false 142 (.pair .str (.sl 122 (.pair (.int .i64) (.pair .str (.int .i64))))) y7)=>
 (match s.ent 1280 with
 |some (.row true 9 (.str) y3)=>
 some (y0,y1,y2,y3,y4,y5,y6,y7)
 |_=>none)
 |_=>none)
 |_=>none)
 |_=>none)
 |_=>none)
 |_=>none)
 |_=>none)
 |_=>none)
 |_=>none)
def dH:Lp lX where
 h:=⟨[23,24,25,26,27,30,31,32,33,34,35,5,36,37,38,39,40,41,42,43,44,45,46,47,2,48,49,50,51,3,28,29,4],[0,2,3,4,5],[1],[]⟩
 JL:=acd
 JE:=ab5
 XL:=acr
 XE:=ack
 q:=fun j=>match j with | 0=> .ret | _=> .exit 0
 tags:= [0,1]
 lt:=yj
 fuel:=fun(y0,y1,y2,y3,y4,y5,y6,y7)=>y0.natAbs + y1.size + y2.size + y3.length + y4.length + y5.length + y6.length + y7.length
 fix:=fun(_,y1,y2,_,y4,y5,y6,y7) (y0,_,_,y3,_,_,_,_)=>(y0,y1,y2,y3,y4,y5,y6,y7)
 σ:= [(0,320),(2,0),(3,1),(4,2),(5,3),(1,1280)]
 rd:=JJ
theorem ZD:LoopOk prog (fun k=>Nat.blt k Tryz.f106.ntmps) dH.F (bV f106 0):=by
 refine Lp.ok (tbl:= (T3z [aU,pS,mU,iZ])) (lf:= []) bG dH (by kernel_rfl) (LOk.nil _) (fun _=>rfl) (fun j _=>by unfold dH;match j with | 0=>rfl | _ + 1=>rfl) ?_ ?_ ?_ ?_ (fun _=>rfl) ?_
 ·rintro⟨y0,y1,y2,y3,y4,y5,y6,y7⟩;kernel_rfl
 ·rintro⟨y0,y1,y2,y3,y4,y5,y6,y7⟩;kernel_rfl
 ·intro s x h
  have h:JJ s=some x:=h
  unfold JJ at h
  repeat' split at h
  all_goals cases h
  constructor<;>repeat(first|refine ab (by assumption) rfl ?_|refine aa rfl (by assumption) rfl ?_|exact rfl)
 ·rintro⟨y0,y1,y2,y3,y4,y5,y6,y7⟩;kernel_rfl
 ·rintro⟨y0,y1,y2,y3,y4,y5,y6,y7⟩ z;exact(And.intro (And.intro trivial rfl) trivial)
abbrev mI:=Int×Int×alV×alV×List alV×List alV×List alV×List (alV×(List (Int×(alV×Int))))
def uf(y1:Int)(y7:List (alV×(List (Int×(alV×Int))))):List (Int×alV×Int):=(v3 y7[j8 y1]? (uS aaY)).2
def ug(y0 y1:Int)(y7:List (alV×(List (Int×(alV×Int))))):Int×alV×Int:=v3 (uf y1 y7)[j8 y0]? ((0:Int),ByteArray.empty,(0:Int))
def Fr(y0 y1:Int)(y7:List (alV×(List (Int×(alV×Int))))):Bool:=(ug y0 y1 y7).1==1
def Gw(y1:Int):Bool:=leI 0 y1
def Gx(y1:Int)(y7:List (alV×(List (Int×(alV×Int))))):Bool:=ltI y1 (↑y7.length:Int)
def AJ(y1:Int)(y7:List (alV×(List (Int×(alV×Int))))):Bool:=ltN y1.toNat y7.length
def rL(y0 y1:Int)(y7:List (alV×(List (Int×(alV×Int))))):Bool:=ltI y0 (↑(j9 (uf y1 y7)):Int)
def OI(y0:Int):Bool:=leI 0 y0
def Gy(y0 y1:Int)(y7:List (alV×(List (Int×(alV×Int))))):Bool:=ltN y0.toNat (j9 (uf y1 y7))
def Gz(y0 y1:Int)(y4 y5:List alV)(y7:List (alV×(List (Int×(alV×Int))))):Bool:= !(Fr y0 y1 y7&&true)||Ap (((ug y0 y1 y7).2).1) y4 y5
def GA(y0 y1:Int)(y4 y5:List alV)(y7:List (alV×(List (Int×(alV×Int))))):Bool:=bif Fr y0 y1 y7 then !pN (((ug y0 y1 y7).2).1) y4 y5 else false
def OJ(y0:Int):Int:=v4 .i64 (y0 + (1:Int))
def XF:mI→List (Nat×SV)
 |(y0,y1,_,_,_,_,_,_)=> [(7,(.one ⟨false,[.val (.int .i64 y0)]⟩)),(1,(.one ⟨false,[.ptr 0 0]⟩)),(6,(.one ⟨false,[.val (.int .i64 y1)]⟩))]
def Xz:mI→List (Nat×Entry)
 |(_,_,y2,y3,y4,y5,y6,y7)=> [(0,(.box 43 [.val (.string y2),.ref 1,.ref 2,.ref 3,.val (.string y3),.ref 4])),(1,(.row false 9 alu y4)),(2,(.row false 9 alu y5)),(3,(.row false 9 alu y6)),(4,(.row false 142 aaY y7))]
def XQ:Nat→mI→List (Nat×SV)
 |0,(_,_,_,_,_,_,_,_)=> [(2,(.one ⟨false,[.val (.int .i64 6)]⟩))]
 |_,(_,_,_,_,_,_,_,_)=> []
def XK:Nat→mI→List (Nat×Entry)
 |0,(_,_,y2,y3,y4,y5,y6,y7)=> [(0,(.box 43 [.val (.string y2),.ref 1,.ref 2,.ref 3,.val (.string y3),.ref 4])),(1,(.row false 9 alu y4)),(2,(.row false 9 alu y5)),(3,(.row false 9 alu y6)),(4,(.row false 142 aaY y7))]
 |_,(_,_,y2,y3,y4,y5,y6,y7)=> [(0,(.box 43 [.val (.string y2),.ref 1,.ref 2,.ref 3,.val (.string y3),.ref 4])),(1,(.row false 9 alu y4)),(2,(.row false 9 alu y5)),(3,(.row false 9 alu y6)),(4,(.row false 142 aaY y7))]
def tK:mI→LT mI
 |(y0,y1,y2,y3,y4,y5,y6,y7)=> .need [Gw y1,Gx y1 y7,AJ y1 y7] (.ite (rL y0 y1 y7) (.need [Gw y1,Gx y1 y7,AJ y1 y7,OI y0,rL y0 y1 y7,Gy y0 y1 y7] (.need [Gz y0 y1 y4 y5 y7] (.ite (GA y0 y1 y4 y5 y7) (.ext 0 [(0,0),(1,1),(2,2),(3,3),(4,4)]) (.nrm ((OJ y0),y1,y2,y3,y4,y5,y6,y7) [(0,0),(1,1),(2,2),(3,3),(4,4)])))) (.ext 1 [(0,0),(1,1),(2,2),(3,3),(4,4)]))
def Fd(s:St):Option mI:=
 (match s.look 7 with
 |some ⟨none,.one ⟨false,[.val (.int .i64 y0)]⟩⟩=>
 (match s.look 1 with
 |some ⟨none,.one ⟨false,[.ptr 0 0]⟩⟩=>
 (match s.look 6 with
 |some ⟨none,.one ⟨false,[.val (.int .i64 y1)]⟩⟩=>
 (match s.ent 0 with
 |some (.box 43 [.val (.string y2),.ref 1,.ref 2,.ref 3,.val (.string y3),.ref 4])=>
 (match s.ent 1 with
 |some (.row false 9 (.str) y4)=>
 (match s.ent 2 with
 |some (.row false 9 (.str) y5)=>
 (match s.ent 3 with
 |some (.row false 9 (.str) y6)=>
 (match s.ent 4 with
 |some (.row false 142 (.pair .str (.sl 122 (.pair (.int .i64) (.pair .str (.int .i64))))) y7)=>
 some (y0,y1,y2,y3,y4,y5,y6,y7)
 |_=>none)
 |_=>none)
 |_=>none)
 |_=>none)
 |_=>none)
 |_=>none)
 |_=>none)
 |_=>none)
def dX:Lp mI where
 h:=⟨[71,72,73,74,75,76,77,78,79,82,83,84,85,86,87,88,89,90,8,91,92,93,94,95,96,97,98,99,100,2,80,81,7],[0,1,2,3,4],[],[]⟩
 JL:=XF
 JE:=Xz
 XL:=XQ
 XE:=XK
 q:=fun j=>match j with | 0=> .ret | _=> .exit 4
 tags:= [0,1]
 lt:=tK
 fuel:=fun(y0,y1,y2,y3,y4,y5,y6,y7)=>y0.natAbs + y1.natAbs + y2.size + y3.size + y4.length + y5.length + y6.length + y7.length
 fix:=fun(_,y1,y2,y3,y4,y5,y6,y7) (y0,_,_,_,_,_,_,_)=>(y0,y1,y2,y3,y4,y5,y6,y7)
 σ:= [(0,0),(1,1),(2,2),(3,3),(4,4)]
 rd:=Fd
theorem VT:LoopOk prog (memN [64,65,66,67,68,7,71,72,73,74,75,76,77,78,79,82,83,84,85,86,87,88,89,90,8,91,92,93,94,95,96,97,98,99,100,2,80,81,69,70,6]) dX.F (VR (bV f106 1) 0):=by
 refine Lp.ok (tbl:= (T3z [aU,pS,mU,iZ])) (lf:= []) bG dX (by kernel_rfl) (LOk.nil _) (fun _=>rfl) (fun j _=>by unfold dX;match j with | 0=>rfl | _ + 1=>rfl) ?_ ?_ ?_ ?_ (fun _=>rfl) ?_
 ·rintro⟨y0,y1,y2,y3,y4,y5,y6,y7⟩;kernel_rfl
 ·rintro⟨y0,y1,y2,y3,y4,y5,y6,y7⟩;kernel_rfl
 ·intro s x h
  have h:Fd s=some x:=h
  unfold Fd at h
  repeat' split at h
  all_goals cases h
  constructor<;>repeat(first|refine ab (by assumption) rfl ?_|refine aa rfl (by assumption) rfl ?_|exact rfl)
 ·rintro⟨y0,y1,y2,y3,y4,y5,y6,y7⟩;kernel_rfl
 ·rintro⟨y0,y1,y2,y3,y4,y5,y6,y7⟩ z;exact(And.intro (And.intro trivial rfl) trivial)
abbrev pz:=Int×alV×alV×List alV×List alV×List alV×List (alV×(List (Int×(alV×Int))))
def JT(y0:Int)(y1 y2:alV)(y3 y4 y5:List alV)(y6:List (alV×(List (Int×(alV×Int))))):Int×Int×alV×alV×List alV×List alV×List alV×List (alV×List (Int×alV×Int)):=((0:Int),y0,y1,y2,y3,y4,y5,y6)
def LJ(y0:Int)(y6:List (alV×(List (Int×(alV×Int))))):Bool:=ltI y0 (↑y6.length:Int)
def Tw(y0:Int)(y1 y2:alV)(y3 y4 y5:List alV)(y6:List (alV×(List (Int×(alV×Int))))):Bool:=Lp.fin dX (JT y0 y1 y2 y3 y4 y5 y6)
def LK(y0:Int)(y1 y2:alV)(y3 y4 y5:List alV)(y6:List (alV×(List (Int×(alV×Int))))):Bool:=Nat.beq ((Lp.res dX (JT y0 y1 y2 y3 y4 y5 y6)).1) 0
def Tx(y0:Int):Int:=v4 .i64 (y0 + (1:Int))
def ace:pz→List (Nat×SV)
 |(y0,_,_,_,_,_,_)=> [(6,(.one ⟨false,[.val (.int .i64 y0)]⟩)),(1,(.one ⟨false,[.ptr 0 0]⟩))]
def ab6:pz→List (Nat×Entry)
 |(_,y1,y2,y3,y4,y5,y6)=> [(0,(.box 43 [.val (.string y1),.ref 1,.ref 2,.ref 3,.val (.string y2),.ref 4])),(1,(.row false 9 alu y3)),(2,(.row false 9 alu y4)),(3,(.row false 9 alu y5)),(4,(.row false 142 aaY y6))]
def acs:Nat→pz→List (Nat×SV)
 |0,(_,_,_,_,_,_,_)=> [(2,(.one ⟨false,[.val (.int .i64 6)]⟩))]
 |_,(_,_,_,_,_,_,_)=> []
def acl:Nat→pz→List (Nat×Entry)
 |0,(_,y1,y2,y3,y4,y5,y6)=> [(0,(.box 43 [.val (.string y1),.ref 1,.ref 2,.ref 3,.val (.string y2),.ref 4])),(1,(.row false 9 alu y3)),(2,(.row false 9 alu y4)),(3,(.row false 9 alu y5)),(4,(.row false 142 aaY y6))]
 |_,(_,y1,y2,y3,y4,y5,y6)=> [(0,(.box 43 [.val (.string y1),.ref 1,.ref 2,.ref 3,.val (.string y2),.ref 4])),(1,(.row false 9 alu y3)),(2,(.row false 9 alu y4)),(3,(.row false 9 alu y5)),(4,(.row false 142 aaY y6))]
def yk:pz→LT pz
 |(y0,y1,y2,y3,y4,y5,y6)=> .ite (LJ y0 y6) (.need [Tw y0 y1 y2 y3 y4 y5 y6] (.ite (LK y0 y1 y2 y3 y4 y5 y6) (.ext 0 [(0,0),(1,1),(2,2),(3,3),(4,4)]) (.nrm ((Tx y0),y1,y2,y3,y4,y5,y6) [(0,0),(1,1),(2,2),(3,3),(4,4)]))) (.ext 1 [(0,0),(1,1),(2,2),(3,3),(4,4)])
def JK(s:St):Option pz:=
 (match s.look 6 with
 |some ⟨none,.one ⟨false,[.val (.int .i64 y0)]⟩⟩=>
 (match s.look 1 with
 |some ⟨none,.one ⟨false,[.ptr 320 0]⟩⟩=>
 (match s.ent 320 with
 |some (.box 43 [.val (.string y1),.ref 0,.ref 1,.ref 2,.val (.string y2),.ref 3])=>
 (match s.ent 0 with
 |some (.row false 9 (.str) y3)=>
 (match s.ent 1 with
 |some (.row false 9 (.str) y4)=>
 (match s.ent 2 with
 |some (.row false 9 (.str) y5)=>
 (match s.ent 3 with
 |some (.row false 142 (.pair .str (.sl 122 (.pair (.int .i64) (.pair .str (.int .i64))))) y6)=>
 some (y0,y1,y2,y3,y4,y5,y6)
 |_=>none)
 |_=>none)
 |_=>none)
 |_=>none)
 |_=>none)
 |_=>none)
 |_=>none)
def ef:Lp pz where
 h:=⟨[64,65,66,67,68,7,71,72,73,74,75,76,77,78,79,82,83,84,85,86,87,88,89,90,8,91,92,93,94,95,96,97,98,99,100,2,80,81,69,70,6],[0,1,2,3,4],[],[]⟩
 JL:=ace
 JE:=ab6
 XL:=acs
 XE:=acl
 q:=fun j=>match j with | 0=> .ret | _=> .exit 2
 tags:= [0,1]
 lt:=yk
 fuel:=fun(y0,y1,y2,y3,y4,y5,y6)=>y0.natAbs + y1.size + y2.size + y3.length + y4.length + y5.length + y6.length
 fix:=fun(_,y1,y2,y3,y4,y5,y6) (y0,_,_,_,_,_,_)=>(y0,y1,y2,y3,y4,y5,y6)
 σ:= [(0,320),(1,0),(2,1),(3,2),(4,3)]
 rd:=JK
theorem ZE:LoopOk prog (fun k=>Nat.blt k Tryz.f106.ntmps) ef.F (bV f106 1):=by
 refine Lp.ok (tbl:= (T3z [aU,pS,mU,iZ])) (lf:= [dX.F]) bG ef (by kernel_rfl) (LOk.allT (l:= [VR (bV f106 1) 0]) (by kernel_rfl) (.cons VT (.nil _))) (fun _=>rfl) (fun j _=>by unfold ef;match j with | 0=>rfl | _ + 1=>rfl) ?_ ?_ ?_ ?_ (fun _=>rfl) ?_
 ·rintro⟨y0,y1,y2,y3,y4,y5,y6⟩;kernel_rfl
 ·rintro⟨y0,y1,y2,y3,y4,y5,y6⟩;kernel_rfl
 ·intro s x h
  have h:JK s=some x:=h
  unfold JK at h
  repeat' split at h
  all_goals cases h
  constructor<;>repeat(first|refine ab (by assumption) rfl ?_|refine aa rfl (by assumption) rfl ?_|exact rfl)
 ·rintro⟨y0,y1,y2,y3,y4,y5,y6⟩;kernel_rfl
 ·rintro⟨y0,y1,y2,y3,y4,y5,y6⟩ z;exact(And.intro (And.intro trivial rfl) trivial)
def sW(x2 x3 x4:List alV):List alV:=x2++x3++x4
def wc(x1:alV):Bool:=
 !ByteArray.toList x1==ByteArray.toList { data:= #[] }
section
variable (x0 x1:alV)(x2 x3 x4:List alV)(x5:List (alV×List (Int×alV×Int)))
def IX:List alV×List alV×List alV×List (alV×List (Int×alV×Int)):=(x2,x3,x4,x5)
def zp:Int×alV×alV×List alV×List alV×List alV×List alV×List (alV×List (Int×alV×Int)):=((0:Int),x0,x1,[],IX x2 x3 x4 x5)
def DP:Bool:=Nat.beq ((Lp.res dH (zp x0 x1 x2 x3 x4 x5)).1) 0
def zq:List alV:=((Lp.res dH (zp x0 x1 x2 x3 x4 x5)).2.2.2.2).1
def IY:Bool:=ltI (↑(j9 (zq x0 x1 x2 x3 x4 x5)):Int) (v4 .i64 ((↑x3.length:Int) + (↑x4.length:Int)))
def IZ:Int×alV×alV×List alV×List alV×List alV×List (alV×List (Int×alV×Int)):=((0:Int),x0,x1,IX x2 x3 x4 x5)
def KP:Int:=bif JY (sW x2 x3 x4)then(1:Int)else bif bif wc x1 then !pN x1 x2 x3 else false then(2:Int)else bif DP x0 x1 x2 x3 x4 x5 then(3:Int)else bif JY (zq x0 x1 x2 x3 x4 x5)then(4:Int)else bif IY x0 x1 x2 x3 x4 x5 then(5:Int)else bif Nat.beq ((Lp.res ef (IZ x0 x1 x2 x3 x4 x5)).1) 0 then(6:Int)else(0:Int)
def KQ:Bool:=allT [leN (j9 x2 + j9 x3 + j9 x4) 2000000,leN (j9 (sW x2 x3 x4)) 9223372036854775807,JY (sW x2 x3 x4)||(!(wc x1&&true)||Ap x1 x2 x3),JY (sW x2 x3 x4)||((bif wc x1 then !pN x1 x2 x3 else false)||Lp.fin dH (zp x0 x1 x2 x3 x4 x5)),JY (sW x2 x3 x4)||((bif wc x1 then !pN x1 x2 x3 else false)||(DP x0 x1 x2 x3 x4 x5||leN (j9 (zq x0 x1 x2 x3 x4 x5)) 9223372036854775807)),JY (sW x2 x3 x4)||((bif wc x1 then !pN x1 x2 x3 else false)||(DP x0 x1 x2 x3 x4 x5||(JY (zq x0 x1 x2 x3 x4 x5)||(IY x0 x1 x2 x3 x4 x5||Lp.fin ef (IZ x0 x1 x2 x3 x4 x5)))))]
end
def YG:List SV→List Entry→Option Out
 | [.one ⟨true,[.val (.string x0),.ref 0,.ref 1,.ref 2,.val (.string x1),.ref 3]⟩],[.row false 9 (.str) x2,.row false 9 (.str) x3,.row false 9 (.str) x4,.row false 142 (.pair (.str) (.sl 122 (.pair (.int .i64) (.pair (.str) (.int .i64))))) x5]=>some ⟨.one ⟨false,[.val (.int .i64 (KP x0 x1 x2 x3 x4 x5))]⟩,[.row false 9 alu x2,.row false 9 alu x3,.row false 9 alu x4,.row false 142 (CTy.pair CTy.str (CTy.sl (122:TypeId) afs)) x5],[],[KQ x0 x1 x2 x3 x4 x5]⟩
 |_,_=>none
def Rg:PF prog:=PF.ofG prog (T3z [aU,pS,mU,iZ]) [dH.F,ef.F] bG 106 f106 func106 (LOk.fnT (l:= [bV f106 0,bV f106 1]) (by kernel_rfl) (.cons ZD (.cons ZE (.nil _)))) YG (by
 intro vs es r h;unfold YG at h;split at h
 ·cases h;kernel_rfl
 ·cases h)
def Td(x0 x1:alV)(x2 x3 x4:List alV)(x5:List (alV×List (Int×alV×Int))):Bool:=bif DJ x0 x1 x2 x3 x4 x5 then KP x0 x1 x2 x3 x4 x5==0 else false
def Te(x0 x1:alV)(x2 x3 x4:List alV)(x5:List (alV×List (Int×alV×Int))):Bool:=allT [IV x0 x1 x2 x3 x4 x5,!(DJ x0 x1 x2 x3 x4 x5&&true)||KQ x0 x1 x2 x3 x4 x5]
def ZR:List SV→List Entry→Option Out
 | [.one ⟨true,[.val (.string x0),.ref 0,.ref 1,.ref 2,.val (.string x1),.ref 3]⟩],[.row false 9 (.str) x2,.row false 9 (.str) x3,.row false 9 (.str) x4,.row false 142 (.pair (.str) (.sl 122 (.pair (.int .i64) (.pair (.str) (.int .i64))))) x5]=>some ⟨.one ⟨false,[.val (.bool (Td x0 x1 x2 x3 x4 x5))]⟩,[.row false 9 alu x2,.row false 9 alu x3,.row false 9 alu x4,.row false 142 (CTy.pair CTy.str (CTy.sl (122:TypeId) afs)) x5],[],[Te x0 x1 x2 x3 x4 x5]⟩
 |_,_=>none
def ai4:PF prog:=PF.ofG prog (T3z [Pt,Rg]) [] bG 60 f60 func60 (fun c _=>LOk.nil c) ZR (by
 intro vs es r h;unfold ZR at h;split at h
 ·cases h;kernel_rfl
 ·cases h)
theorem apL{ins vs os:List alV}(h1:Pg ins=true)(h2:Pg vs=true)(h3:Pg os=true):
  leN ins.length 9223372036854775807=true∧leN vs.length 9223372036854775807=true∧leN os.length 9223372036854775807=true:=by
 simp only [Pg,q9]at h1 h2 h3
 exact⟨h1.1,h2.1,h3.1⟩
def ald(nm:alV)(ins vs os:List alV)(g:alV)(ls:List LN):Bool:=leN nm.size 9223372036854775807&&(Pg ins&&(Pg vs&&(Pg os&&(leN g.size 9223372036854775807&&(leN (ins.length + vs.length + os.length) 2000000&&afy ls)))))
theorem abv{nm:alV}{ins vs os:List alV}{g:alV}{ls:List LN}:ald nm ins vs os g ls=true↔
  nm.size≤9223372036854775807∧Pg ins=true∧Pg vs=true∧Pg os=true∧g.size≤9223372036854775807∧ins.length + vs.length + os.length≤2000000∧afy ls=true:=by
 simp only [ald,q9,iv]
def qT(b:alV×(List (Int×(alV×Int)))):(Unit)→Nat ⊕ (Unit)
 |_=>(bif(bif(!lN b.1)then true else !aiw (bif !(!lN b.1)&&true then b.2else []))then(.inl 0)else(.inr ()))
def pR(y1 y2:alV)(y3 y4 y5:List alV)(y6:List (alV×(List (Int×(alV×Int)))))(i:Nat):(Unit)→lb
 |_=>((i:Int),y1,y2,y3,y4,y5,y6)
def Ij:lb→Unit
 |(_,_,_,_,_,_,_)=>()
theorem acC(y1 y2:alV)(y3 y4 y5:List alV)(y6:List (alV×(List (Int×(alV×Int))))) (hn:y6.length≤9223372036854775807) (hA: ∀ l∈y6,l.1.size≤9223372036854775807∧ade l.2=true):
  em.fin ((0:Int),y1,y2,y3,y4,y5,y6)=true∧em.res ((0:Int),y1,y2,y3,y4,y5,y6)=((cX (qT) 1 y6 0 ()).1,(pR y1 y2 y3 y4 y5 y6) (cX (qT) 1 y6 0 ()).2.1 (cX (qT) 1 y6 0 ()).2.2):=by
 have my:=em.along (pR y1 y2 y3 y4 y5 y6) Ij (qT) 1 (fun _ _=>True) y6 () (by trivial) (by simp only [em,pR];omega) (fun i b a hb hI=> ?_) (fun a hI=> ?_)
 ·exact my
 ·obtain⟨⟩:=a
  have eQ:=(j7.1 hb).1
  have ry: ∀ d,v3 y6[i]? d=b:=fun d=>by rw [hb];rfl
  have hw:=IG eQ hn
  have lz:ltI (i:Int) (y6.length:Int)=true:=cS (by omega)
  have Qg:leI (0:Int) (i:Int)=true:=bu (by omega)
  have yL:ltN i y6.length=true:=dI eQ
  refine⟨?_,?_,?_,?_⟩
  ·have hg2:lK (i:Int) y6=b:=by simp only [lK,w5];exact ry _
   have hm:=hA b (List.mem_of_getElem? hb)
   obtain⟨q1,q2⟩:=Mp b.1 hm.1
   have e0:sH (i:Int) y6=true:=lz
   have e1:sI (i:Int) y6=true:=by simp only [sI,w5];exact yL
   have e3:io (i:Int) y6= !uK b.1:=by simp only [io,hg2,q1]
   have e4:pE (i:Int) y6=bif uK b.1 then b.2 else []:=by simp only [pE,e3,hg2];cases uK b.1 <;> rfl
   have h7:ade b.2=true:=hm.2
   have h8:ade []=true:=rfl
   simp only [uy,CR,CS,CT,CU,CV,CW,CX,yA,CY,wP,em,LT.nds,allT,pR,e0,e1,e3,e4,hg2,q2,Qg,cond_true,w8]
   cases uK b.1 <;> simp [LT.nds,h7,h8]
  ·simp [sH,sI,lK,io,pE,uy,CR,CS,CT,CU,CV,CW,CX,yA,CY,wP,em,LT.each,pR,Ij,hw]
  ·have hg2:lK (i:Int) y6=b:=by simp only [lK,w5];exact ry _
   have e0:sH (i:Int) y6=true:=lz
   simp only [em,wP,uy,yA,io,pE,LT.fn,pR,Ij,qT,e0,hg2,cond_true]
  ·exact fun _ _=>trivial
 ·obtain⟨⟩:=a
  simp [sH,sI,lK,io,pE,uy,CR,CS,CT,CU,CV,CW,CX,yA,CY,wP,em,LT.out,pR]
theorem ajm(nm:alV)(ins vs os:List alV)(g:alV)(ls:List LN)(h:ald nm ins vs os g ls=true):
  DJ nm g ins vs os ls=amJ nm ins vs os g ls∧IV nm g ins vs os ls=true:=by
 obtain⟨h1,h2,h3,h4,h5,h6,h7⟩:=abv.1 h
 obtain⟨hn,hA⟩:=abQ.1 h7
 obtain⟨w1,w2⟩:=acC nm g ins vs os ls (by omega) hA
 have e0:(cX qT 1 ls 0 ())=(cX (fun(k:LN) (_:Unit)=>bif !lineB k then(.inl 0:Nat ⊕ Unit)else .inr ()) 1 ls 0 ()):=by
  refine abJ fun b hb a=> ?_
  simp only [qT,(Mp b.1 (hA b hb).1).1,lineB]
  cases uK b.1 <;> simp
 rw [e0,ow (P:=fun k=> !lineB k) (j:=0) (fun k=>rfl)]at w2
 have e5:(ls.any fun k=> !lineB k)= !ls.all lineB:=by simp [List.all_eq_not_any_not]
 rw [e5]at w2
 obtain⟨q1,q2⟩:=Mp nm h1
 obtain⟨q3,q4⟩:=Mp g h5
 have c1:inR (ins.length:Int) 1 20=inR (ins.length:Int) ((1:Nat):Int) 20:=rfl
 have c0:inR (vs.length:Int) 0 20=inR (vs.length:Int) ((0:Nat):Int) 20:=rfl
 have c2:inR (os.length:Int) 1 20=inR (os.length:Int) ((1:Nat):Int) 20:=rfl
 refine⟨?_,?_⟩
 ·simp only [DJ,Nj,Nk,Nl,Nn,Np,Ha,w2,q1,q3,aX,Pn,Xg,amJ,aiW,c0,c1,c2]
  generalize uK nm=p1
  generalize ins.all uK=p2
  generalize inR (ins.length:Int) ((1:Nat):Int) 20=p3
  generalize vs.all uK=p4
  generalize inR (vs.length:Int) ((0:Nat):Int) 20=p5
  generalize os.all uK=p6
  generalize inR (os.length:Int) ((1:Nat):Int) 20=p7
  generalize (g.toList== [])=p8
  generalize uK g=p9
  generalize ls.all lineB=p10
  generalize inR (ls.length:Int) 1 40=p11
  cases p1 <;> cases p2 <;> cases p3 <;> simp <;> cases p4 <;> cases p5 <;> simp <;> cases p6 <;> cases p7 <;> simp <;> cases p8 <;> cases p9 <;> simp <;> cases p10 <;> simp [Nat.beq]
 ·simp only [IV,Ha,w1,q2,q4,h2,h3,h4,allT,w8,cond_true]
theorem aqW:(∀ m:Nat,leI 0 (m:Int)=true)∧leI 0 (-1)=false:=⟨fun m=>bu (by omega),rfl⟩
theorem an0{α:Type}(l:List α)(p:α→Bool):(l.any fun k=> !p k)= !l.all p:=by simp [List.all_eq_not_any_not]
theorem arg(l:List alV)(s:alV):ltI (uT l s) 0= !ES l s:=by rw [ahq,ad2]
theorem ahA(s:alV)(ins vs:List alV)(h1:leN ins.length 9223372036854775807=true)(h2:leN vs.length 9223372036854775807=true):
  pN s ins vs=ac9 ins vs s∧Ap s ins vs=true:=by
 simp only [pN,Ap,ad2,h1,h2,ac9,allT,w8,cond_true,and_true]
 cases ES ins s <;> rfl
def madeB(vs os:List alV)(l:LN):Bool:=ES vs l.1||ES os l.1
def mb(y5 y6:List alV)(b:alV×(List (Int×(alV×Int)))):(List alV)→Nat ⊕ (List alV)
 |y3=>(bif(bif ltI (uT y5 b.1) 0 then ltI (uT y6 b.1) 0 else false)then(.inl 0)else(.inr (y3++ [b.1])))
def oA(y1 y2:alV)(y4 y5 y6:List alV)(y7:List (alV×(List (Int×(alV×Int)))))(i:Nat):(List alV)→lX
 |y3=>((i:Int),y1,y2,y3,y4,y5,y6,y7)
def JC:lX→List alV
 |(_,_,_,y3,_,_,_,_)=>y3
theorem aeU(y1 y2:alV)(y4 y5 y6:List alV)(y7:List (alV×(List (Int×(alV×Int)))))(y3:List alV)(hn:y7.length≤9223372036854775807)(hv:leN y5.length 9223372036854775807=true)(ho:leN y6.length 9223372036854775807=true)(hN:y7.length≤1048576)(h3:y3.length=0):
  dH.fin ((0:Int),y1,y2,y3,y4,y5,y6,y7)=true∧dH.res ((0:Int),y1,y2,y3,y4,y5,y6,y7)=((cX (mb y5 y6) 1 y7 0 y3).1,(oA y1 y2 y4 y5 y6 y7) (cX (mb y5 y6) 1 y7 0 y3).2.1 (cX (mb y5 y6) 1 y7 0 y3).2.2):=by
 have my:=dH.along (oA y1 y2 y4 y5 y6 y7) JC (mb y5 y6) 1 (fun i a=>a.length=i) y7 y3 h3 (by simp only [dH,oA];omega) (fun i b a hb hI=> ?_) (fun a hI=> ?_)
 ·exact my
 ·obtain y3:=a
  have eQ:=(j7.1 hb).1
  have ry: ∀ d,v3 y7[i]? d=b:=fun d=>by rw [hb];rfl
  have hw:=IG eQ hn
  have lz:ltI (i:Int) (y7.length:Int)=true:=cS (by omega)
  have Qg:leI (0:Int) (i:Int)=true:=bu (by omega)
  have yL:ltN i y7.length=true:=dI eQ
  refine⟨?_,?_,?_,?_⟩
  ·have hg2:gO (i:Int) y7=b.1:=by simp only [gO,w5];exact congrArg Prod.fst (ry _)
   have l1: ∀ s:alV,leN (a.length + j9 [s]) 9223372036854775807=true:=fun s=>aR (by rw [w7];omega)
   have l2: ∀ s:alV,leN ((a.length + j9 [s]) * 16) 140737488355328=true:=fun s=>aR (by rw [w7];omega)
   simp only [wd,Ac,Ad,Ae,Af,Ag,Ah,Ai,Aj,Ak,yj,dH,LT.nds,allT,oA,lz,Qg,yL,hg2,hv,ho,l1,l2,w5,cond_true,w8,Bool.and_self]
   generalize (bif ltI (uT y5 b.1) 0 then ltI (uT y6 b.1) 0 else false)=q
   cases q <;> simp [LT.nds]
  ·simp [gO,wd,Ac,Ad,Ae,Af,Ag,Ah,Ai,Aj,Ak,yj,dH,LT.each,oA,JC,hw]
  ·have hg2:gO (i:Int) y7=b.1:=by simp only [gO,w5];exact congrArg Prod.fst (ry _)
   simp only [wd,Ac,Ad,Ae,Af,Ag,Ah,Ai,Aj,Ak,yj,dH,LT.fn,oA,JC,mb,lz,hg2,cond_true]
  ·intro a' hf
   simp only [mb]at hf
   revert hf
   generalize (bif ltI (uT y5 b.1) 0 then ltI (uT y6 b.1) 0 else false)=q
   cases q with
   |true=>intro hf;cases hf
   |false=>intro hf;simp only [cond_false,Sum.inr.injEq]at hf;subst hf;simp [hI]
 ·obtain y3:=a
  simp [gO,wd,Ac,Ad,Ae,Af,Ag,Ah,Ai,Aj,Ak,yj,dH,LT.out,oA]
theorem af5(vs os:List alV): ∀ (ls:List LN) (i:Nat) (acc:List alV),(cX (mb vs os) 1 ls i acc).1=(bif !ls.all (madeB vs os)then 0 else 1)∧
  (ls.all (madeB vs os)=true→(cX (mb vs os) 1 ls i acc).2.2=acc++ls.map Prod.fst)
 | [],i,acc=>by simp [cX]
 |l::r,i,acc=>by
  have hf:mb vs os l acc=bif madeB vs os l then .inr (acc++ [l.1])else .inl 0:=by
   simp only [mb,arg,madeB]
   cases ES vs l.1 <;> cases ES os l.1 <;> rfl
  obtain⟨h1,h2⟩:=af5 vs os r (i + 1) (acc++ [l.1])
  simp only [cX,hf,List.all_cons]
  cases hm:madeB vs os l with
  |false=>simp
  |true=>
   simp only [cond_true,Bool.true_and]
   refine⟨h1,fun h=> ?_⟩
   rw [h2 h];simp
theorem anU(k:Nat)(u v:alV)(ins vs os:List alV)(ls:List LN)(l:LN)(hl:ls[k]? =some l)(hn:l.2.length≤1048576)(h1:leN ins.length 9223372036854775807=true)(h2:leN vs.length 9223372036854775807=true):
  dX.fin ((0:Int),(k:Int),u,v,ins,vs,os,ls)=true∧(dX.res ((0:Int),(k:Int),u,v,ins,vs,os,ls)).1=bif !l.2.all (usedB ins vs)then 0 else 1:=by
 have hkl:=(j7.1 hl).1
 have hgl: ∀ d,v3 ls[k]? d=l:=fun d=>by rw [hl];rfl
 have ha2:uf (k:Int) ls=l.2:=by simp only [uf,w5];exact congrArg Prod.snd (hgl _)
 have c0:Gw (k:Int)=true:=bu (by omega)
 have c1:Gx (k:Int) ls=true:=cS (by omega)
 have c2:AJ (k:Int) ls=true:=by simp only [AJ,w5];exact dI hkl
 have my:=dX.along2 (fun i (_:Unit)=>((i:Int),(k:Int),u,v,ins,vs,os,ls)) (fun _=>()) (fun(b:TM) (_:Unit)=>bif !usedB ins vs b then .inl 0 else .inr ()) 1 (fun _ _=>True) l.2 () trivial (by omega)
  (fun i b a hb hI=> ?_) (fun a hI=> ?_)
 ·rw [ow (P:=fun b=> !usedB ins vs b) (j:=0) (fun b=>rfl),an0]at my
  exact⟨my.1,by rw [show ((0:Int),(k:Int),u,v,ins,vs,os,ls)=(((0:Nat):Int),(k:Int),u,v,ins,vs,os,ls) from rfl,my.2]⟩
 ·have eQ:=(j7.1 hb).1
  have hw:IntKind.i64.wrap ((i:Int) + 1)=((i + 1:Nat):Int):=by rw [aJ (by omega) (by omega)];omega
  have Qg:leI (0:Int) (i:Int)=true:=bu (by omega)
  have hg2:ug (i:Int) (k:Int) ls=b:=by simp only [ug,ha2,w5,hb,Option.getD_some]
  have hg3:rL (i:Int) (k:Int) ls=true:=by simp only [rL,ha2];exact cS (by omega)
  have c4:OI (i:Int)=true:=Qg
  have c5:Gy (i:Int) (k:Int) ls=true:=by simp only [Gy,ha2,w5];exact dI eQ
  obtain⟨r1,r2⟩:=ahA b.2.1 ins vs h1 h2
  have c6:Gz (i:Int) (k:Int) ins vs ls=true:=by simp only [Gz,hg2,r2,w8]
  have c7:GA (i:Int) (k:Int) ins vs ls= !usedB ins vs b:=by
   simp only [GA,Fr,hg2,r1,usedB]
   cases b.1==1 <;> simp
  have c8:OJ (i:Int)=((i + 1:Nat):Int):=hw
  refine⟨?_,?_,?_,fun _ _=>trivial⟩
  ·simp only [dX,tK,LT.nds,allT,c0,c1,c2,c4,c5,c6,c7,hg3,cond_true,Bool.and_self]
   cases usedB ins vs b <;> simp [LT.nds]
  ·simp only [dX,tK,LT.each,c7,c8,hg3]
   cases usedB ins vs b <;> simp [LT.each]
  ·simp only [dX,tK,LT.fn,c7,hg3,cond_true]
 ·have lz:rL (l.2.length:Int) (k:Int) ls=false:=by simp only [rL,ha2];exact wO (by omega)
  simp [dX,tK,LT.out,allT,c0,c1,c2,lz]
theorem ap9(u v:alV)(ins vs os:List alV)(ls:List LN)(hN:ls.length≤1048576)(hL: ∀ l∈ls,l.2.length≤1048576)(h1:leN ins.length 9223372036854775807=true)(h2:leN vs.length 9223372036854775807=true):
  ef.fin ((0:Int),u,v,ins,vs,os,ls)=true∧(ef.res ((0:Int),u,v,ins,vs,os,ls)).1=bif !ls.all (fun l=>l.2.all (usedB ins vs))then 0 else 1:=by
 have my:=ef.along2 (fun i (_:Unit)=>((i:Int),u,v,ins,vs,os,ls)) (fun _=>()) (fun(b:LN) (_:Unit)=>bif !b.2.all (usedB ins vs)then .inl 0 else .inr ()) 1 (fun _ _=>True) ls () trivial (by omega)
  (fun i b a hb hI=> ?_) (fun a hI=> ?_)
 ·rw [ow (P:=fun b:LN=> !b.2.all (usedB ins vs)) (j:=0) (fun b=>rfl),an0]at my
  exact⟨my.1,by rw [show ((0:Int),u,v,ins,vs,os,ls)=(((0:Nat):Int),u,v,ins,vs,os,ls) from rfl,my.2]⟩
 ·have eQ:=(j7.1 hb).1
  have hw:IntKind.i64.wrap ((i:Int) + 1)=((i + 1:Nat):Int):=by rw [aJ (by omega) (by omega)];omega
  obtain⟨k1,k2⟩:=anU i u v ins vs os ls b hb (hL b (List.mem_of_getElem? hb)) h1 h2
  have c0:LJ (i:Int) ls=true:=cS (by omega)
  have c1:Tw (i:Int) u v ins vs os ls=true:=k1
  have c2:LK (i:Int) u v ins vs os ls= !b.2.all (usedB ins vs):=by
   simp only [LK,JT,k2]
   cases b.2.all (usedB ins vs) <;> rfl
  have c3:Tx (i:Int)=((i + 1:Nat):Int):=hw
  refine⟨?_,?_,?_,fun _ _=>trivial⟩
  ·simp only [ef,yk,LT.nds,allT,c0,c1,c2,cond_true]
   cases b.2.all (usedB ins vs) <;> simp [LT.nds]
  ·simp only [ef,yk,LT.each,c0,c2,c3]
   cases b.2.all (usedB ins vs) <;> simp [LT.each]
  ·simp only [ef,yk,LT.fn,c0,c2,cond_true]
 ·have lz:LJ (ls.length:Int) ls=false:=wO (by omega)
  simp [ef,yk,LT.out,lz]
theorem ali(nm:alV)(ins vs os:List alV)(g:alV)(ls:List LN)(h:ald nm ins vs os g ls=true):
  (KP nm g ins vs os ls==0)=aqM ins vs os g ls∧KQ nm g ins vs os ls=true:=by
 obtain⟨h1,h2,h3,h4,h5,h6,h7⟩:=abv.1 h
 obtain⟨hn,hA⟩:=abQ.1 h7
 have hL: ∀ l∈ls,l.2.length≤1048576:=fun l hl=>(ab2.1 (hA l hl).2).1
 obtain⟨l1,l2,l3⟩:=apL h2 h3 h4
 obtain⟨w1,w2⟩:=aeU nm g ins vs os ls [] (by omega) l2 l3 hn rfl
 obtain⟨t1,t2⟩:=af5 vs os ls 0 []
 obtain⟨u1,u2⟩:=ap9 nm g ins vs os ls hn hL l1 l2
 obtain⟨r1,r2⟩:=ahA g ins vs l1 l2
 have a4:DP nm g ins vs os ls= !ls.all (madeB vs os):=by
  simp only [DP,zp,IX,w2,t1]
  cases ls.all (madeB vs os) <;> rfl
 have a5:ls.all (madeB vs os)=true→zq nm g ins vs os ls=ls.map Prod.fst:=fun hm=>by
  simp only [zq,zp,IX,w2,oA]
  rw [t2 hm];rfl
 have a6:ls.all (madeB vs os)=true→IY nm g ins vs os ls= !leN (vs.length + os.length) ls.length:=fun hm=>by
  simp only [IY,a5 hm,List.length_map]
  rw [aJ (by omega) (by omega),Bool.eq_iff_iff,GX,Bool.not_eq_true',← Bool.not_eq_true,iv]
  omega
 have e7:(Lp.res ef (IZ nm g ins vs os ls)).1=bif !ls.all (fun l=>l.2.all (usedB ins vs))then 0 else 1:=u2
 have e8:Lp.fin ef (IZ nm g ins vs os ls)=true:=u1
 have hnil:(g.toList==ByteArray.toList { data:= #[] })=(g.toList== []):=by rw [Xg]
 refine⟨?_,?_⟩
 ·simp only [KP,sW,wc,hnil,r1,a4,e7,aqM]
  cases hm:ls.all (madeB vs os)with
  |false=>
   have hm2:(ls.all fun l=>ES vs l.1||ES os l.1)=false:=hm
   rw [hm2]
   generalize JY (ins++vs++os)=p1
   generalize (g.toList== [])=p2
   generalize ac9 ins vs g=p3
   cases p1 <;> cases p2 <;> cases p3 <;> rfl
  |true=>
   have hm2:(ls.all fun l=>ES vs l.1||ES os l.1)=true:=hm
   rw [hm2,a5 hm,a6 hm]
   generalize JY (ins++vs++os)=p1
   generalize (g.toList== [])=p2
   generalize ac9 ins vs g=p3
   generalize JY (ls.map Prod.fst)=p4
   generalize leN (vs.length + os.length) ls.length=p5
   generalize (ls.all fun l=>l.2.all (usedB ins vs))=p6
   cases p1 <;> cases p2 <;> cases p3 <;> cases p4 <;> cases p5 <;> cases p6 <;> rfl
 ·have f1:leN (ins.length + vs.length + os.length) 2000000=true:=aR h6
  have f2:leN (ins++vs++os).length 9223372036854775807=true:=aR (by simp;omega)
  have f3:Lp.fin dH (zp nm g ins vs os ls)=true:=w1
  simp only [KQ,sW,wc,f1,f2,f3,r2,a4,e8,allT,w8,cond_true]
  cases hm:ls.all (madeB vs os)with
  |false=>simp
  |true=>
   have f4:leN (ls.map Prod.fst).length 9223372036854775807=true:=aR (by rw [List.length_map];omega)
   rw [a5 hm,f4]
   simp
def yR(nm:alV)(ins vs os:List alV)(g:alV)(ls:List LN):Bool:=amJ nm ins vs os g ls&&aqM ins vs os g ls
theorem alk(nm:alV)(ins vs os:List alV)(g:alV)(ls:List LN)(h:ald nm ins vs os g ls=true):
  Td nm g ins vs os ls=yR nm ins vs os g ls∧Te nm g ins vs os ls=true:=by
 obtain⟨a1,a2⟩:=ajm nm ins vs os g ls h
 obtain⟨b1,b2⟩:=ali nm ins vs os g ls h
 simp only [Td,Te,a1,a2,b1,b2,yR,allT,w8,cond_true,and_true]
 cases amJ nm ins vs os g ls <;> rfl
def aav:List SV→List Entry→Option Out
 | [.one ⟨true,[.val (.string x0),.ref 0,.ref 1,.ref 2,.val (.string x1),.ref 3]⟩],[.row false 9 (.str) x2,.row false 9 (.str) x3,.row false 9 (.str) x4,.row false 142 (.pair (.str) (.sl 122 (.pair (.int .i64) (.pair (.str) (.int .i64))))) x5]=>some ⟨.one ⟨false,[.val (.bool (yR x0 x2 x3 x4 x1 x5))]⟩,[.row false 9 alu x2,.row false 9 alu x3,.row false 9 alu x4,.row false 142 (CTy.pair CTy.str (CTy.sl (122:TypeId) afs)) x5],[],[ald x0 x2 x3 x4 x1 x5]⟩
 |_,_=>none
def tM:PF prog:=PF.alt ai4 aav (by
 intro args es o h cf;unfold aav at h;split at h
 ·rename_i x0 x1 x2 x3 x4 x5
  cases h
  have cf:=iw cf
  have hh:=alk x0 x2 x3 x4 x1 x5 cf
  obtain⟨e0,en⟩:=hh
  exact mK rfl (gE en) (by simp only [e0] <;> rfl) rfl rfl
 ·cases h)
section
variable (x3 x4 x5:Int)(x6:List (Int×alV×Int))(x8 x9 x10 x11 x12:List Int)(x13:List (Int×Int×Int))
def iD:Int:=v3 x8[j8 0]? 0
def cj:Int×alV×Int:=v3 x6[j8 x4]? ((0:Int),ByteArray.empty,(0:Int))
def aP:Int×Int×Int:=v3 x13[j8 x4]? ((0:Int),(0:Int),(0:Int))
def bm:Bool:=x3==1||(x3==2||(x3==3||(x3==4||(x3==5||(x3==6||leI 0 x4)))))
def bI:Bool:=x3==1||(x3==2||(x3==3||(x3==4||(x3==5||(x3==6||ltI x4 (↑x13.length:Int))))))
def bJ:Bool:=x3==1||(x3==2||(x3==3||(x3==4||(x3==5||(x3==6||ltN x4.toNat x13.length)))))
def bq:Int:=bif x3==1 then x4 else bif x3==2 then v3 x9[j8 x4]? 0 else bif x3==3 then v3 x11[j8 x4]? 0 else bif x3==4 then v4 .i64 ((1:Int) - iD x8)else bif x3==5 then v4 .i64 (↑(BitVec.toNat (BitVec.ofInt (IntKind.bits IntKind.i64) (iD x8)&&& BitVec.ofInt (IntKind.bits IntKind.i64) (v3 x8[j8 1]? 0))):Int)else bif x3==6 then v4 .i64 (↑(BitVec.toNat (BitVec.ofInt (IntKind.bits IntKind.i64) (iD x8)||| BitVec.ofInt (IntKind.bits IntKind.i64) (v3 x8[j8 1]? 0))):Int)else Bw ((cj x4 x6).1) ((cj x4 x6).2.2) ((aP x4 x13).1) (((aP x4 x13).2).1) ((aP x4 x13).2.2) x8
def nj:Int:=bif x3==1 then x5 else bif x3==2 then x5 else bif x3==3 then x5 else bif x3==4 then x5 else bif x3==5 then x5 else bif x3==6 then x5 else x5
def nk:List Int:=bif x3==1 then x8 else bif x3==2 then x8 else bif x3==3 then x8 else bif x3==4 then x8 else bif x3==5 then x8 else bif x3==6 then x8 else x8
def np:List Int:=bif x3==1 then x10 else bif x3==2 then x10 else bif x3==3 then x10 else bif x3==4 then x10 else bif x3==5 then x10 else bif x3==6 then x10 else x10
def nq:List Int:=bif x3==1 then x11 else bif x3==2 then x11 else bif x3==3 then x11 else bif x3==4 then x11 else bif x3==5 then x11 else bif x3==6 then x11 else x11
def nr:List Int:=bif x3==1 then x12 else bif x3==2 then x12 else bif x3==3 then x12 else bif x3==4 then x12 else bif x3==5 then x12 else bif x3==6 then x12 else x12
def eX:List (Int×(Int×Int)):=bif x3==1 then x13 else bif x3==2 then x13 else bif x3==3 then x13 else bif x3==4 then x13 else bif x3==5 then x13 else bif x3==6 then x13 else List.set x13 x4.toNat (zd ((cj x4 x6).1) ((cj x4 x6).2.2) ((aP x4 x13).1) (((aP x4 x13).2).1) ((aP x4 x13).2.2) x8,ze ((cj x4 x6).1) (((aP x4 x13).2).1) ((aP x4 x13).2.2) x8,zf ((cj x4 x6).1) ((cj x4 x6).2.2) ((aP x4 x13).1) (((aP x4 x13).2).1) ((aP x4 x13).2.2) x8)
def ak:Bool:=allT [x3==1||(!x3==2||leI 0 x4),x3==1||(!x3==2||ltI x4 (↑x9.length:Int)),x3==1||(!x3==2||ltN x4.toNat x9.length),x3==1||(x3==2||(!x3==3||leI 0 x4)),x3==1||(x3==2||(!x3==3||ltI x4 (↑x11.length:Int))),x3==1||(x3==2||(!x3==3||ltN x4.toNat x11.length)),x3==1||(x3==2||(x3==3||(!x3==4||leI 0 0))),x3==1||(x3==2||(x3==3||(!x3==4||ltI 0 (↑x8.length:Int)))),x3==1||(x3==2||(x3==3||(!x3==4||ltN (j8 0) x8.length))),x3==1||(x3==2||(x3==3||(x3==4||(!x3==5||leI 0 0)))),x3==1||(x3==2||(x3==3||(x3==4||(!x3==5||ltI 0 (↑x8.length:Int))))),x3==1||(x3==2||(x3==3||(x3==4||(!x3==5||ltN (j8 0) x8.length)))),x3==1||(x3==2||(x3==3||(x3==4||(!x3==5||leI 0 1)))),x3==1||(x3==2||(x3==3||(x3==4||(!x3==5||ltI 1 (↑x8.length:Int))))),x3==1||(x3==2||(x3==3||(x3==4||(!x3==5||ltN (j8 1) x8.length)))),x3==1||(x3==2||(x3==3||(x3==4||(x3==5||(!x3==6||leI 0 0))))),x3==1||(x3==2||(x3==3||(x3==4||(x3==5||(!x3==6||ltI 0 (↑x8.length:Int)))))),x3==1||(x3==2||(x3==3||(x3==4||(x3==5||(!x3==6||ltN (j8 0) x8.length))))),x3==1||(x3==2||(x3==3||(x3==4||(x3==5||(!x3==6||leI 0 1))))),x3==1||(x3==2||(x3==3||(x3==4||(x3==5||(!x3==6||ltI 1 (↑x8.length:Int)))))),x3==1||(x3==2||(x3==3||(x3==4||(x3==5||(!x3==6||ltN (j8 1) x8.length))))),bm x3 x4,x3==1||(x3==2||(x3==3||(x3==4||(x3==5||(x3==6||ltI x4 (↑x6.length:Int)))))),x3==1||(x3==2||(x3==3||(x3==4||(x3==5||(x3==6||ltN x4.toNat x6.length))))),bm x3 x4,bI x3 x4 x13,bJ x3 x4 x13,x3==1||(x3==2||(x3==3||(x3==4||(x3==5||(x3==6||Bx x8))))),bm x3 x4,bI x3 x4 x13,bJ x3 x4 x13]
end
def tw:List SV→List Entry→Option Out
 | [.one ⟨false,[.ptr 0 0]⟩,.one ⟨true,[.val (.int .i64 _x0),.val (.int .i64 _x1),.val (.int .i64 _x2),.ref 1,.ref 2]⟩,.one ⟨true,[.val (.int .i64 x3),.val (.int .i64 x4)]⟩,.one ⟨false,[.ref 3]⟩,.one ⟨false,[.ref 4]⟩],[.box 31 [.val (.int .i64 x5),.ref 5,.ref 6,.ref 7,.ref 8],.row false 122 (.pair (.int .i64) (.pair .str (.int .i64))) x6,.row false 83 (.pair (.int .i64) (.int .i64)) x7,.row true 2 (.int .i64) x8,.row false 2 (.int .i64) x9,.row true 2 (.int .i64) x10,.row true 2 (.int .i64) x11,.row true 2 (.int .i64) x12,.row true 109 (.pair (.int .i64) (.pair (.int .i64) (.int .i64))) x13]=>some ⟨.one ⟨false,[.val (.int .i64 (bq x3 x4 x6 x8 x9 x11 x13))]⟩,[.box 31 [.val (.int .i64 (nj x3 x5)),.ref 5,.ref 6,.ref 7,.ref 8],.row false 122 afs x6,.row false 83 ahF x7,.row true 2 akd (nk x3 x8),.row false 2 akd x9,.row true 2 akd (np x3 x10),.row true 2 akd (nq x3 x11),.row true 2 akd (nr x3 x12),.row true 109 ac0 (eX x3 x4 x6 x8 x13)],[],[ak x3 x4 x6 x8 x9 x11 x13]⟩
 |_,_=>none
def EO:PF prog:=PF.ofG prog (T3z [abl]) [] bG 95 f95 func95 (fun c _=>LOk.nil c) tw (by
 intro vs es r h;unfold tw at h;split at h
 ·cases h;kernel_rfl
 ·cases h)
section
variable (x0 x1:Int)(x3 x4 x6 x7:List Int)
def mH:Int:=v3 x3[j8 0]? 0
def mZ:List Int:=bif x0==8 then List.set x6 x1.toNat (mH x3)else x6
def iE:List Int:=bif x0==8 then x7 else bif x0==9 then List.set x7 x1.toNat (mH x3)else bif x0==10 then bif v3 x4[j8 x1]? 0==0 then Vo x7.length else x7 else bif x0==11 then bif v3 x6[j8 x1]? 0==0 then Vo x7.length else x7 else x7
def bn:Bool:=allT [!x0==8||leI 0 0,!x0==8||ltI 0 (↑x3.length:Int),!x0==8||ltN (j8 0) x3.length,!x0==8||leI 0 x1,!x0==8||ltI x1 (↑x6.length:Int),!x0==8||ltN x1.toNat x6.length,x0==8||(!x0==9||leI 0 0),x0==8||(!x0==9||ltI 0 (↑x3.length:Int)),x0==8||(!x0==9||ltN (j8 0) x3.length),x0==8||(!x0==9||leI 0 x1),x0==8||(!x0==9||ltI x1 (↑x7.length:Int)),x0==8||(!x0==9||ltN x1.toNat x7.length),x0==8||(x0==9||(!x0==10||leI 0 x1)),x0==8||(x0==9||(!x0==10||ltI x1 (↑x4.length:Int))),x0==8||(x0==9||(!x0==10||ltN x1.toNat x4.length)),x0==8||(x0==9||(x0==10||(!x0==11||leI 0 x1))),x0==8||(x0==9||(x0==10||(!x0==11||ltI x1 (↑x6.length:Int)))),x0==8||(x0==9||(x0==10||(!x0==11||ltN x1.toNat x6.length)))]
end
def sn:List SV→List Entry→Option Out
 | [.one ⟨false,[.ptr 0 0]⟩,.one ⟨true,[.val (.int .i64 x0),.val (.int .i64 x1)]⟩,.one ⟨false,[.ref 1]⟩,.one ⟨false,[.ref 2]⟩],[.box 31 [.val (.int .i64 x2),.ref 3,.ref 4,.ref 5,.ref 6],.row true 2 (.int .i64) x3,.row false 2 (.int .i64) x4,.row true 2 (.int .i64) x5,.row true 2 (.int .i64) x6,.row true 2 (.int .i64) x7,.row true 109 (.pair (.int .i64) (.pair (.int .i64) (.int .i64))) x8]=>some ⟨.tup [],[.box 31 [.val (.int .i64 x2),.ref 3,.ref 4,.ref 5,.ref 6],.row true 2 akd x3,.row false 2 akd x4,.row true 2 akd x5,.row true 2 akd (mZ x0 x1 x3 x6),.row true 2 akd (iE x0 x1 x3 x4 x6 x7),.row true 109 ac0 x8],[],[bn x0 x1 x3 x4 x6 x7]⟩
 |_,_=>none
def DD:PF prog:=PF.ofG prog [] [] bG 96 f96 func96 (fun c _=>LOk.nil c) sn (by
 intro vs es r h;unfold sn at h;split at h
 ·cases h;kernel_rfl
 ·cases h)
def aq(x0:List (Int×Int)):Int:=(↑x0.length:Int)
def Dq:List SV→List Entry→Option Out
 | [.one ⟨false,[.ref 0]⟩],[.row false 83 (.pair (.int .i64) (.int .i64)) x0]=>some ⟨.one ⟨false,[.val (.int .i64 (aq x0))]⟩,[.row false 83 ahF x0],[],[]⟩
 |_,_=>none
def cd:PF prog:=PF.ofG prog [] [] bG 48 f48 func48 (fun c _=>LOk.nil c) Dq (by
 intro vs es r h;unfold Dq at h;split at h
 ·cases h;kernel_rfl
 ·cases h)
def Jw(x0:List Int):Int:=(↑x0.length:Int)
def Rt:List SV→List Entry→Option Out
 | [.one ⟨false,[.ref 0]⟩],[.row false 2 (.int .i64) x0]=>some ⟨.one ⟨false,[.val (.int .i64 (Jw x0))]⟩,[.row false 2 akd x0],[],[]⟩
 |_,_=>none
def RA:PF prog:=PF.ofG prog [] [] bG 94 f94 func94 (fun c _=>LOk.nil c) Rt (by
 intro vs es r h;unfold Rt at h;split at h
 ·cases h;kernel_rfl
 ·cases h)
theorem aqo(x3 x4 x5:Int)(x6:List TM)(x8 x9 x10 x11 x12:List Int)(x13:List BS3)(h:ak x3 x4 x6 x8 x9 x11 x13=true):
  nj x3 x5=x5∧nk x3 x8=x8∧np x3 x10=x10∧nq x3 x11=x11∧nr x3 x12=x12∧ak x3 x4 x6 x8 x9 x11 x13=true:=
 ⟨by simp only [nj,w9],by simp only [nk,w9],by simp only [np,w9],by simp only [nq,w9],by simp only [nr,w9],h⟩
def jh:List SV→List Entry→Option Out
 | [.one ⟨false,[.ptr 0 0]⟩,.one ⟨true,[.val (.int .i64 _x0),.val (.int .i64 _x1),.val (.int .i64 _x2),.ref 1,.ref 2]⟩,.one ⟨true,[.val (.int .i64 x3),.val (.int .i64 x4)]⟩,.one ⟨false,[.ref 3]⟩,.one ⟨false,[.ref 4]⟩],[.box 31 [.val (.int .i64 x5),.ref 5,.ref 6,.ref 7,.ref 8],.row false 122 (.pair (.int .i64) (.pair .str (.int .i64))) x6,.row false 83 (.pair (.int .i64) (.int .i64)) x7,.row true 2 (.int .i64) x8,.row false 2 (.int .i64) x9,.row true 2 (.int .i64) x10,.row true 2 (.int .i64) x11,.row true 2 (.int .i64) x12,.row true 109 (.pair (.int .i64) (.pair (.int .i64) (.int .i64))) x13]=>some ⟨.one ⟨false,[.val (.int .i64 (bq x3 x4 x6 x8 x9 x11 x13))]⟩,[.box 31 [.val (.int .i64 x5),.ref 5,.ref 6,.ref 7,.ref 8],.row false 122 afs x6,.row false 83 ahF x7,.row true 2 akd x8,.row false 2 akd x9,.row true 2 akd x10,.row true 2 akd x11,.row true 2 akd x12,.row true 109 ac0 (eX x3 x4 x6 x8 x13)],[],[ak x3 x4 x6 x8 x9 x11 x13]⟩
 |_,_=>none
def EM:PF prog:=PF.alt EO jh (by
 intro args es o h cf;unfold jh at h;split at h
 ·rename_i _x0 _x1 _x2 x3 x4 x5 x6 x7 x8 x9 x10 x11 x12 x13
  cases h
  have cf:=iw cf
  have hh:=aqo x3 x4 x5 x6 x8 x9 x10 x11 x12 x13 cf
  obtain⟨e1,e2,e3,e4,e5,en⟩:=hh
  exact mK rfl (gE en) rfl (by simp only [e1,e2,e3,e4,e5] <;> rfl) rfl
 ·cases h)
def ark:PF prog:=PF.kept EM [0] (by
 intro args es o h
 have h:jh args es=some o:=h
 unfold jh at h;split at h
 ·cases h;exact List.forall_mem_cons.2 ⟨rfl,fun _ h=>(by cases h)⟩
 ·cases h)
def Ql(x0:List Int)(x1:List (Int×Int×Int)):Bool:=allT [leN x0.length (1048576:Nat),leN (0 + j9 x1) 9223372036854775807,leN ((0 + j9 x1) * 24) 140737488355328]
def acO:List SV→List Entry→Option Out
 | [.one ⟨true,[.ref 0,.ref 1]⟩],[.row false 2 (.int .i64) x0,.row false 109 (.pair (.int .i64) (.pair (.int .i64) (.int .i64))) x1]=>some ⟨.one ⟨true,[.ref 2,.ref 3]⟩,[.row false 2 akd x0,.row false 109 ac0 x1],[.row true 2 akd x0,.row true 109 ac0 x1],[Ql x0 x1]⟩
 |_,_=>none
def wH:PF prog:=PF.ofG prog (T3z [aE]) [] bG 139 f139 func139 (fun c _=>LOk.nil c) acO (by
 intro vs es r h;unfold acO at h;split at h
 ·cases h;kernel_rfl
 ·cases h)
def uO(x2:alV)(x3 x4:List alV)(x7 x9:List Int):Int:=bif leI 0 (uT x3 x2)then v3 x9[j8 (uT x3 x2)]? 0 else v3 x7[j8 (uT x4 x2)]? 0
def uP(x2:alV)(x3 x4:List alV)(x7 x9:List Int):Bool:=allT [leN x3.length (9223372036854775807:Nat),!leI 0 (uT x3 x2)||leI 0 (uT x3 x2),!leI 0 (uT x3 x2)||ltI (uT x3 x2) (↑x9.length:Int),!leI 0 (uT x3 x2)||ltN (j8 (uT x3 x2)) x9.length,leI 0 (uT x3 x2)||leN x4.length (9223372036854775807:Nat),leI 0 (uT x3 x2)||leI 0 (uT x4 x2),leI 0 (uT x3 x2)||ltI (uT x4 x2) (↑x7.length:Int),leI 0 (uT x3 x2)||ltN (j8 (uT x4 x2)) x7.length]
def YK:List SV→List Entry→Option Out
 | [.one ⟨true,[.val (.string _x0),.ref 0,.ref 1,.ref 2,.val (.string _x1),.ref 3]⟩,.one ⟨true,[.ref 4,.ref 5]⟩,.one ⟨false,[.ref 6]⟩,.one ⟨false,[.val (.string x2)]⟩],[.row false 9 (.str) x3,.row false 9 (.str) x4,.row false 9 (.str) x5,.row false 142 (.pair (.str) (.sl 122 (.pair (.int .i64) (.pair (.str) (.int .i64))))) x6,.row false 2 (.int .i64) x7,.row false 109 (.pair (.int .i64) (.pair (.int .i64) (.int .i64))) x8,.row false 2 (.int .i64) x9]=>some ⟨.one ⟨false,[.val (.int .i64 (uO x2 x3 x4 x7 x9))]⟩,[.row false 9 alu x3,.row false 9 alu x4,.row false 9 alu x5,.row false 142 (CTy.pair CTy.str (CTy.sl (122:TypeId) afs)) x6,.row false 2 akd x7,.row false 109 ac0 x8,.row false 2 akd x9],[],[uP x2 x3 x4 x7 x9]⟩
 |_,_=>none
def dP:PF prog:=PF.ofG prog (T3z [aU]) [] bG 141 f141 func141 (fun c _=>LOk.nil c) YK (by
 intro vs es r h;unfold YK at h;split at h
 ·cases h;kernel_rfl
 ·cases h)
abbrev rl:=Int×Int×List (Int×(alV×Int))×List Int×alV×alV×List Int×List alV×List alV×List alV×List (alV×(List (Int×(alV×Int))))×List Int×List (Int×(Int×Int))
section
variable (y0 y1:Int)(y2:List (Int×(alV×Int)))(y3 y6:List Int)(y7 y8:List alV)(y11:List Int)(y12:List (Int×(Int×Int)))
def ei:Int×alV×Int:=v3 y2[j8 y0]? ((0:Int),ByteArray.empty,(0:Int))
def Ft:Int:=v4 .i64 ((↑y3.length:Int) - ec ((ei y0 y2).1))
def gF:List Int:=List.drop (j8 (Ft y0 y2 y3)) (List.take (j8 (↑y3.length:Int)) y3)
def Fu:List Int:=List.drop (j8 0) (List.take (j8 (Ft y0 y2 y3)) y3)
def bj:Bool:=(ei y0 y2).1==1
def cu:Bool:=(ei y0 y2).1==2
def cv:Bool:=(ei y0 y2).1==3
def cw:Bool:=(ei y0 y2).1==4
def LM:Bool:=ltI 0 (↑(j9 (gF y0 y2 y3)):Int)
def LO:Bool:=ltN (j8 0) (j9 (gF y0 y2 y3))
def cL:Bool:=(ei y0 y2).1==5
def RC:Bool:=ltI 1 (↑(j9 (gF y0 y2 y3)):Int)
def RD:Bool:=ltN (j8 1) (j9 (gF y0 y2 y3))
def fQ:Bool:=(ei y0 y2).1==6
def JU:Int:=v3 (gF y0 y2 y3)[j8 0]? 0
def lc:Int×Int×Int:=v3 y12[j8 y1]? ((0:Int),(0:Int),(0:Int))
def JV:List Int:= [bif bj y0 y2 then uO (((ei y0 y2).2).1) y7 y8 y11 y6 else bif cu y0 y2 then(1:Int)else bif cv y0 y2 then(0:Int)else bif cw y0 y2 then v4 .i64 ((1:Int) - JU y0 y2 y3)else bif cL y0 y2 then v4 .i64 (↑(BitVec.toNat (BitVec.ofInt (IntKind.bits IntKind.i64) (JU y0 y2 y3)&&& BitVec.ofInt (IntKind.bits IntKind.i64) (v3 (gF y0 y2 y3)[j8 1]? 0))):Int)else bif fQ y0 y2 then v4 .i64 (↑(BitVec.toNat (BitVec.ofInt (IntKind.bits IntKind.i64) (JU y0 y2 y3)||| BitVec.ofInt (IntKind.bits IntKind.i64) (v3 (gF y0 y2 y3)[j8 1]? 0))):Int)else dZ ((ei y0 y2).1) ((ei y0 y2).2.2) ((lc y1 y12).1) (((lc y1 y12).2).1) ((lc y1 y12).2.2) (gF y0 y2 y3)]
def UW:Bool:=ltI y0 (↑y2.length:Int)
def afU:Bool:=leI 0 y0
def afV:Bool:=ltN y0.toNat y2.length
def UX:Bool:=leI 0 (Ft y0 y2 y3)
def UY:Bool:=leI (Ft y0 y2 y3) (↑y3.length:Int)
def afW:Bool:=leI (↑y3.length:Int) (↑y3.length:Int)
def afX:Bool:=leN (j9 (gF y0 y2 y3)) 1048576
end
def afY:Bool:=leI 0 0
section
variable (y0 y1:Int)(y2:List (Int×(alV×Int)))(y3 y6:List Int)(y7 y8 y9:List alV)(y11:List Int)(y12:List (Int×(Int×Int)))
def afZ:Bool:=leN (j9 (Fu y0 y2 y3)) 1048576
def af0:Bool:= !bj y0 y2||uP (((ei y0 y2).2).1) y7 y8 y11 y6
def aen:Bool:=bj y0 y2||(cu y0 y2||(cv y0 y2||(!cw y0 y2||leI 0 0)))
def aeo:Bool:=bj y0 y2||(cu y0 y2||(cv y0 y2||(!cw y0 y2||LM y0 y2 y3)))
def aep:Bool:=bj y0 y2||(cu y0 y2||(cv y0 y2||(!cw y0 y2||LO y0 y2 y3)))
def aeq:Bool:=bj y0 y2||(cu y0 y2||(cv y0 y2||(cw y0 y2||(!cL y0 y2||leI 0 0))))
def aer:Bool:=bj y0 y2||(cu y0 y2||(cv y0 y2||(cw y0 y2||(!cL y0 y2||LM y0 y2 y3))))
def aes:Bool:=bj y0 y2||(cu y0 y2||(cv y0 y2||(cw y0 y2||(!cL y0 y2||LO y0 y2 y3))))
def aet:Bool:=bj y0 y2||(cu y0 y2||(cv y0 y2||(cw y0 y2||(!cL y0 y2||leI 0 1))))
def aeu:Bool:=bj y0 y2||(cu y0 y2||(cv y0 y2||(cw y0 y2||(!cL y0 y2||RC y0 y2 y3))))
def aev:Bool:=bj y0 y2||(cu y0 y2||(cv y0 y2||(cw y0 y2||(!cL y0 y2||RD y0 y2 y3))))
def aew:Bool:=bj y0 y2||(cu y0 y2||(cv y0 y2||(cw y0 y2||(cL y0 y2||(!fQ y0 y2||leI 0 0)))))
def aex:Bool:=bj y0 y2||(cu y0 y2||(cv y0 y2||(cw y0 y2||(cL y0 y2||(!fQ y0 y2||LM y0 y2 y3)))))
def aey:Bool:=bj y0 y2||(cu y0 y2||(cv y0 y2||(cw y0 y2||(cL y0 y2||(!fQ y0 y2||LO y0 y2 y3)))))
def aez:Bool:=bj y0 y2||(cu y0 y2||(cv y0 y2||(cw y0 y2||(cL y0 y2||(!fQ y0 y2||leI 0 1)))))
def aeA:Bool:=bj y0 y2||(cu y0 y2||(cv y0 y2||(cw y0 y2||(cL y0 y2||(!fQ y0 y2||RC y0 y2 y3)))))
def aeB:Bool:=bj y0 y2||(cu y0 y2||(cv y0 y2||(cw y0 y2||(cL y0 y2||(!fQ y0 y2||RD y0 y2 y3)))))
def TA:Bool:=bj y0 y2||(cu y0 y2||(cv y0 y2||(cw y0 y2||(cL y0 y2||(fQ y0 y2||leI 0 y1)))))
def TB:Bool:=bj y0 y2||(cu y0 y2||(cv y0 y2||(cw y0 y2||(cL y0 y2||(fQ y0 y2||ltI y1 (↑y12.length:Int))))))
def TC:Bool:=bj y0 y2||(cu y0 y2||(cv y0 y2||(cw y0 y2||(cL y0 y2||(fQ y0 y2||ltN y1.toNat y12.length)))))
def aeC:Bool:=bj y0 y2||(cu y0 y2||(cv y0 y2||(cw y0 y2||(cL y0 y2||(fQ y0 y2||iq (gF y0 y2 y3))))))
def aeD:Bool:=leN (j9 (Fu y0 y2 y3) + j9 (JV y0 y1 y2 y3 y6 y7 y8 y11 y12)) 9223372036854775807
def aeE:Bool:=leN ((j9 (Fu y0 y2 y3) + j9 (JV y0 y1 y2 y3 y6 y7 y8 y11 y12)) * 8) 140737488355328
def aeF:Int:=v4 .i64 (y0 + (1:Int))
def aeG:Int:=bif bj y0 y2 then y1 else bif cu y0 y2 then y1 else bif cv y0 y2 then y1 else bif cw y0 y2 then y1 else bif cL y0 y2 then y1 else bif fQ y0 y2 then y1 else v4 .i64 (y1 + (1:Int))
def aeH:List Int:=Fu y0 y2 y3++JV y0 y1 y2 y3 y6 y7 y8 y11 y12
def aeI:List Int:=bif bj y0 y2 then y6 else y6
def aeJ:List alV:=bif bj y0 y2 then y7 else y7
def aeK:List alV:=bif bj y0 y2 then y8 else y8
def aeL:List alV:=bif bj y0 y2 then y9 else y9
end
def aeM(y0:Int)(y2:List (Int×(alV×Int)))(y10:List (alV×(List (Int×(alV×Int))))):List (alV×(List (Int×(alV×Int)))):=bif bj y0 y2 then y10 else y10
def aeN(y0:Int)(y2:List (Int×(alV×Int)))(y11:List Int):List Int:=bif bj y0 y2 then y11 else y11
def aeO(y0 y1:Int)(y2:List (Int×(alV×Int)))(y3:List Int)(y12:List (Int×(Int×Int))):List (Int×(Int×Int)):=bif bj y0 y2 then y12 else bif cu y0 y2 then y12 else bif cv y0 y2 then y12 else bif cw y0 y2 then y12 else bif cL y0 y2 then y12 else bif fQ y0 y2 then y12 else List.set y12 y1.toNat (fK ((ei y0 y2).1) ((ei y0 y2).2.2) ((lc y1 y12).1) (((lc y1 y12).2).1) ((lc y1 y12).2.2) (gF y0 y2 y3),fL ((ei y0 y2).1) (((lc y1 y12).2).1) ((lc y1 y12).2.2) (gF y0 y2 y3),fM ((ei y0 y2).1) ((ei y0 y2).2.2) ((lc y1 y12).1) ((lc y1 y12).2.2) (gF y0 y2 y3))
def ads:rl→List (Nat×SV)
 |(y0,y1,_,_,_,_,_,_,_,_,_,_,_)=> [(12,(.one ⟨false,[.val (.int .i64 y0)]⟩)),(3,(.one ⟨false,[.ref 0]⟩)),(11,(.one ⟨false,[.ref 1]⟩)),(5,(.one ⟨false,[.ptr 2 0]⟩)),(6,(.one ⟨false,[.ptr 3 0]⟩)),(2,(.one ⟨false,[.ref 4]⟩)),(4,(.one ⟨false,[.val (.int .i64 y1)]⟩))]
def adj:rl→List (Nat×Entry)
 |(_,_,y2,y3,y4,y5,y6,y7,y8,y9,y10,y11,y12)=> [(0,(.row true 122 afs y2)),(2,(.box 43 [.val (.string y4),.ref 5,.ref 6,.ref 7,.val (.string y5),.ref 8])),(3,(.box 50 [.ref 9,.ref 10])),(4,(.row true 2 akd y6)),(5,(.row true 9 alu y7)),(6,(.row true 9 alu y8)),(7,(.row true 9 alu y9)),(8,(.row true 142 aaY y10)),(9,(.row true 2 akd y11)),(10,(.row true 109 ac0 y12)),(1,(.row true 2 akd y3))]
def adK:Nat→rl→List (Nat×SV)
 |_,(_,_,_,_,_,_,_,_,_,_,_,_,_)=> [(11,(.one ⟨false,[.ref 1]⟩))]
def adB:Nat→rl→List (Nat×Entry)
 |_,(_,_,y2,y3,y4,y5,y6,y7,y8,y9,y10,y11,y12)=> [(0,(.row true 122 afs y2)),(1,(.row true 2 akd y3)),(2,(.box 43 [.val (.string y4),.ref 5,.ref 6,.ref 7,.val (.string y5),.ref 8])),(3,(.box 50 [.ref 9,.ref 10])),(4,(.row true 2 akd y6)),(5,(.row true 9 alu y7)),(6,(.row true 9 alu y8)),(7,(.row true 9 alu y9)),(8,(.row true 142 aaY y10)),(9,(.row true 2 akd y11)),(10,(.row true 109 ac0 y12))]
def ad5:rl→LT rl
 |(y0,y1,y2,y3,y4,y5,y6,y7,y8,y9,y10,y11,y12)=> .ite (UW y0 y2) (.need [afU y0,UW y0 y2,afV y0 y2] (.need [UX y0 y2 y3,UY y0 y2 y3,afW y3,afX y0 y2 y3] (.need [afY,UX y0 y2 y3,UY y0 y2 y3,afZ y0 y2 y3] (.need [af0 y0 y2 y6 y7 y8 y11,aen y0 y2,aeo y0 y2 y3,aep y0 y2 y3,aeq y0 y2,aer y0 y2 y3,aes y0 y2 y3,aet y0 y2,aeu y0 y2 y3,aev y0 y2 y3,aew y0 y2,aex y0 y2 y3,aey y0 y2 y3,aez y0 y2,aeA y0 y2 y3,aeB y0 y2 y3,TA y0 y1 y2,TB y0 y1 y2 y12,TC y0 y1 y2 y12,aeC y0 y2 y3,TA y0 y1 y2,TB y0 y1 y2 y12,TC y0 y1 y2 y12] (.need [aeD y0 y1 y2 y3 y6 y7 y8 y11 y12,aeE y0 y1 y2 y3 y6 y7 y8 y11 y12] (.nrm ((aeF y0),aeG y0 y1 y2,y2,aeH y0 y1 y2 y3 y6 y7 y8 y11 y12,y4,y5,aeI y0 y2 y6,aeJ y0 y2 y7,aeK y0 y2 y8,aeL y0 y2 y9,aeM y0 y2 y10,aeN y0 y2 y11,(aeO y0 y1 y2 y3 y12)) [(0,0),(1,4544),(2,2),(3,3),(4,4),(5,5),(6,6),(7,7),(8,8),(9,9),(10,10)])))))) (.ext 0 [(0,0),(1,1),(2,2),(3,3),(4,4),(5,5),(6,6),(7,7),(8,8),(9,9),(10,10)])
def Ly(s:St):Option rl:=
 (match s.look 12 with
 |some ⟨none,.one ⟨false,[.val (.int .i64 y0)]⟩⟩=>
 (match s.look 3 with
 |some ⟨none,.one ⟨false,[.ref 7]⟩⟩=>
 (match s.look 11 with
 |some ⟨none,.one ⟨false,[.ref 768]⟩⟩=>
 (match s.look 5 with
 |some ⟨none,.one ⟨false,[.ptr 576 0]⟩⟩=>
 (match s.look 6 with
 |some ⟨none,.one ⟨false,[.ptr 640 0]⟩⟩=>
 (match s.look 2 with
 |some ⟨none,.one ⟨false,[.ref 6]⟩⟩=>
 (match s.look 4 with
 |some ⟨none,.one ⟨false,[.val (.int .i64 y1)]⟩⟩=>
 (match s.ent 7 with
 |some (.row true 122 (.pair (.int .i64) (.pair .str (.int .i64))) y2)=>
 (match s.ent 576 with
 |some (.box 43 [.val (.string y4),.ref 0,.ref 1,.ref 2,.val (.string y5),.ref 3])=>
 (match s.ent 640 with
 |some (.box 50 [.ref 4,.ref 5])=>
 (match s.ent 6 with
 |some (.row true 2 (.int .i64) y6)=>
 (match s.ent 0 with
 |some (.row true 9 (.str) y7)=>
 (match s.ent 1 with
 |some (.row true 9 (.str) y8)=>
 (match s.ent 2 with
 |some (.row true 9 (.str) y9)=>
 (match s.ent 3 with
 |some (.row true 142 (.pair .str (.sl 122 (.pair (.int .i64) (.pair .str (.int .i64))))) y10)=>
 (match s.ent 4 with
 |some (.row true 2 (.int .i64) y11)=>
 (match s.ent 5 with
 |some (.row true 109 (.pair (.int .i64) (.pair (.int .i64) (.int .i64))) y12)=>
 (match s.ent 768 with
 |some (.row true 2 (.int .i64) y3)=>
 some (y0,y1,y2,y3,y4,y5,y6,y7,y8,y9,y10,y11,y12)
 |_=>none)
 |_=>none)
 |_=>none)
 |_=>none)
 |_=>none)
 |_=>none)
 |_=>none)
 |_=>none)
 |_=>none)
 |_=>none)
 |_=>none)
 |_=>none)
 |_=>none)
 |_=>none)
 |_=>none)
 |_=>none)
 |_=>none)
 |_=>none)
def zL:Lp rl where
 h:=⟨[20,21,22,23,26,27,28,29,13,30,31,32,33,34,35,14,36,37,38,39,15,40,41,42,43,11,16,44,45,66,65,67,68,69,70,71,72,74,73,76,75,78,77,79,80,81,82,84,83,85,86,87,88,89,90,91,93,92,94,95,96,97,98,99,100,47,48,49,50,51,52,53,54,46,55,56,18,17,57,58,59,60,61,62,63,64,4,101,102,103,104,24,25,12],[0,2,3,4,5,6,7,8,9,10],[1],[]⟩
 JL:=ads
 JE:=adj
 XL:=adK
 XE:=adB
 q:=fun j=>match j with | _=> .exit 0
 tags:= [0]
 lt:=ad5
 fuel:=fun(y0,y1,y2,y3,y4,y5,y6,y7,y8,y9,y10,y11,y12)=>y0.natAbs + y1.natAbs + y2.length + y3.length + y4.size + y5.size + y6.length + y7.length + y8.length + y9.length + y10.length + y11.length + y12.length
 fix:=fun(_,_,y2,_,y4,y5,_,_,_,_,_,_,_) (y0,y1,_,y3,_,_,y6,y7,y8,y9,y10,y11,y12)=>(y0,y1,y2,y3,y4,y5,y6,y7,y8,y9,y10,y11,y12)
 σ:= [(0,7),(2,576),(3,640),(4,6),(5,0),(6,1),(7,2),(8,3),(9,4),(10,5),(1,768)]
 rd:=Ly
theorem aa5:LoopOk prog (fun k=>Nat.blt k Tryz.f140.ntmps) zL.F (bV f140 0):=by
 refine Lp.ok (tbl:= (PF.mark prog::T3z [aE,dP,gj,nX])) (lf:= []) bG zL (by kernel_rfl) (LOk.nil _) (fun _=>rfl) (fun _ _=>rfl) ?_ ?_ ?_ ?_ (fun _=>rfl) ?_
 ·rintro⟨y0,y1,y2,y3,y4,y5,y6,y7,y8,y9,y10,y11,y12⟩;kernel_rfl
 ·rintro⟨y0,y1,y2,y3,y4,y5,y6,y7,y8,y9,y10,y11,y12⟩;kernel_rfl
 ·intro s x h
  have h:Ly s=some x:=h
  unfold Ly at h
  repeat' split at h
  all_goals cases h
  constructor<;>repeat(first|refine ab (by assumption) rfl ?_|refine aa rfl (by assumption) rfl ?_|exact rfl)
 ·rintro⟨y0,y1,y2,y3,y4,y5,y6,y7,y8,y9,y10,y11,y12⟩;kernel_rfl
 ·rintro⟨y0,y1,y2,y3,y4,y5,y6,y7,y8,y9,y10,y11,y12⟩ z;exact(And.intro rfl trivial)
section
variable (x0 x1:alV)(x2:Int)(x3 x4 x5:List alV)(x6:List (alV×List (Int×alV×Int)))(x7:List Int)(x8:List (Int×Int×Int))(x9:List Int)(x10:List (Int×alV×Int))
def YW:Int×Int×List (Int×alV×Int)×List Int×alV×alV×List Int×List alV×List alV×List alV×List (alV×List (Int×alV×Int))×List Int×List (Int×Int×Int):=((0:Int),x2,x10,[],x0,x1,x9,x3,x4,x5,x6,x7,x8)
def YX:List Int×alV×alV×List Int×List alV×List alV×List alV×List (alV×List (Int×alV×Int))×List Int×List (Int×Int×Int):=(Lp.res zL (YW x0 x1 x2 x3 x4 x5 x6 x7 x8 x9 x10)).2.2.2.2
def Rr:List Int:=(YX x0 x1 x2 x3 x4 x5 x6 x7 x8 x9 x10).1
def YY:List Int×List alV×List alV×List alV×List (alV×List (Int×alV×Int))×List Int×List (Int×Int×Int):=(YX x0 x1 x2 x3 x4 x5 x6 x7 x8 x9 x10).2.2.2
def YZ:List alV×List alV×List alV×List (alV×List (Int×alV×Int))×List Int×List (Int×Int×Int):=(YY x0 x1 x2 x3 x4 x5 x6 x7 x8 x9 x10).2
def Za:List alV×List alV×List (alV×List (Int×alV×Int))×List Int×List (Int×Int×Int):=(YZ x0 x1 x2 x3 x4 x5 x6 x7 x8 x9 x10).2
def Zb:List alV×List (alV×List (Int×alV×Int))×List Int×List (Int×Int×Int):=(Za x0 x1 x2 x3 x4 x5 x6 x7 x8 x9 x10).2
def Zc:List (alV×List (Int×alV×Int))×List Int×List (Int×Int×Int):=(Zb x0 x1 x2 x3 x4 x5 x6 x7 x8 x9 x10).2
def Zd:List Int×List (Int×Int×Int):=(Zc x0 x1 x2 x3 x4 x5 x6 x7 x8 x9 x10).2
def ajn:Int:=v3 (Rr x0 x1 x2 x3 x4 x5 x6 x7 x8 x9 x10)[j8 0]? 0
def ajo:List alV:=(YZ x0 x1 x2 x3 x4 x5 x6 x7 x8 x9 x10).1
def ajp:List alV:=(Za x0 x1 x2 x3 x4 x5 x6 x7 x8 x9 x10).1
def ajq:List alV:=(Zb x0 x1 x2 x3 x4 x5 x6 x7 x8 x9 x10).1
def ajr:List (alV×(List (Int×(alV×Int)))):=(Zc x0 x1 x2 x3 x4 x5 x6 x7 x8 x9 x10).1
def ajs:List Int:=(Zd x0 x1 x2 x3 x4 x5 x6 x7 x8 x9 x10).1
def ajt:List (Int×(Int×Int)):=(Zd x0 x1 x2 x3 x4 x5 x6 x7 x8 x9 x10).2
def aju:List Int:=(YY x0 x1 x2 x3 x4 x5 x6 x7 x8 x9 x10).1
def ajv:Bool:=allT [Lp.fin zL (YW x0 x1 x2 x3 x4 x5 x6 x7 x8 x9 x10),ltI 0 (↑(j9 (Rr x0 x1 x2 x3 x4 x5 x6 x7 x8 x9 x10)):Int),ltN (j8 0) (j9 (Rr x0 x1 x2 x3 x4 x5 x6 x7 x8 x9 x10))]
end
def aac:List SV→List Entry→Option Out
 | [.one ⟨true,[.val (.string x0),.ref 0,.ref 1,.ref 2,.val (.string x1),.ref 3]⟩,.one ⟨true,[.ref 4,.ref 5]⟩,.one ⟨false,[.ref 6]⟩,.one ⟨false,[.ref 7]⟩,.one ⟨false,[.val (.int .i64 x2)]⟩],[.row true 9 (.str) x3,.row true 9 (.str) x4,.row true 9 (.str) x5,.row true 142 (.pair (.str) (.sl 122 (.pair (.int .i64) (.pair (.str) (.int .i64))))) x6,.row true 2 (.int .i64) x7,.row true 109 (.pair (.int .i64) (.pair (.int .i64) (.int .i64))) x8,.row true 2 (.int .i64) x9,.row true 122 (.pair (.int .i64) (.pair (.str) (.int .i64))) x10]=>some ⟨.one ⟨false,[.val (.int .i64 (ajn x0 x1 x2 x3 x4 x5 x6 x7 x8 x9 x10))]⟩,[.row true 9 alu (ajo x0 x1 x2 x3 x4 x5 x6 x7 x8 x9 x10),.row true 9 alu (ajp x0 x1 x2 x3 x4 x5 x6 x7 x8 x9 x10),.row true 9 alu (ajq x0 x1 x2 x3 x4 x5 x6 x7 x8 x9 x10),.row true 142 aaY (ajr x0 x1 x2 x3 x4 x5 x6 x7 x8 x9 x10),.row true 2 akd (ajs x0 x1 x2 x3 x4 x5 x6 x7 x8 x9 x10),.row true 109 ac0 (ajt x0 x1 x2 x3 x4 x5 x6 x7 x8 x9 x10),.row true 2 akd (aju x0 x1 x2 x3 x4 x5 x6 x7 x8 x9 x10),.row true 122 afs x10],[],[ajv x0 x1 x2 x3 x4 x5 x6 x7 x8 x9 x10]⟩
 |_,_=>none
def tO:PF prog:=PF.ofG prog (PF.mark prog::T3z [aE,dP,gj,nX]) [zL.F] bG 140 f140 func140 (LOk.fnT (l:= [bV f140 0]) (by kernel_rfl) (.cons aa5 (.nil _))) aac (by
 intro vs es r h;unfold aac at h;split at h
 ·cases h;kernel_rfl
 ·cases h)
abbrev kO:=Int×Int×List (Int×(alV×Int))×List Int×alV×alV×List Int×List alV×List alV×List alV×List (alV×(List (Int×(alV×Int))))×List Int×List (Int×(Int×Int))
section
variable (y0 y1:Int)(y2:List (Int×(alV×Int)))(y3 y6:List Int)(y7 y8:List alV)(y11:List Int)(y12:List (Int×(Int×Int)))
def bO:Int×alV×Int:=v3 y2[j8 y0]? ((0:Int),ByteArray.empty,(0:Int))
def ot:Int:=v4 .i64 ((↑y3.length:Int) - ec ((bO y0 y2).1))
def cB:List Int:=List.drop (j8 (ot y0 y2 y3)) (List.take (j8 (↑y3.length:Int)) y3)
def ov:List Int:=List.drop (j8 0) (List.take (j8 (ot y0 y2 y3)) y3)
def aG:Bool:=(bO y0 y2).1==1
def aL:Bool:=(bO y0 y2).1==2
def aM:Bool:=(bO y0 y2).1==3
def aN:Bool:=(bO y0 y2).1==4
def ic:Bool:=ltI 0 (↑(j9 (cB y0 y2 y3)):Int)
def ie:Bool:=ltN (j8 0) (j9 (cB y0 y2 y3))
def bd:Bool:=(bO y0 y2).1==5
def nG:Bool:=ltI 1 (↑(j9 (cB y0 y2 y3)):Int)
def nH:Bool:=ltN (j8 1) (j9 (cB y0 y2 y3))
def cz:Bool:=(bO y0 y2).1==6
def qR:Int:=v3 (cB y0 y2 y3)[j8 0]? 0
def dF:Int×Int×Int:=v3 y12[j8 y1]? ((0:Int),(0:Int),(0:Int))
def bF:List Int:= [bif aG y0 y2 then uO (((bO y0 y2).2).1) y7 y8 y11 y6 else bif aL y0 y2 then(1:Int)else bif aM y0 y2 then(0:Int)else bif aN y0 y2 then v4 .i64 ((1:Int) - qR y0 y2 y3)else bif bd y0 y2 then v4 .i64 (↑(BitVec.toNat (BitVec.ofInt (IntKind.bits IntKind.i64) (qR y0 y2 y3)&&& BitVec.ofInt (IntKind.bits IntKind.i64) (v3 (cB y0 y2 y3)[j8 1]? 0))):Int)else bif cz y0 y2 then v4 .i64 (↑(BitVec.toNat (BitVec.ofInt (IntKind.bits IntKind.i64) (qR y0 y2 y3)||| BitVec.ofInt (IntKind.bits IntKind.i64) (v3 (cB y0 y2 y3)[j8 1]? 0))):Int)else dZ ((bO y0 y2).1) ((bO y0 y2).2.2) ((dF y1 y12).1) (((dF y1 y12).2).1) ((dF y1 y12).2.2) (cB y0 y2 y3)]
def ee:Bool:=ltI y0 (↑y2.length:Int)
def kQ:Bool:=leI 0 y0
def kR:Bool:=ltN y0.toNat y2.length
def iN:Bool:=leI 0 (ot y0 y2 y3)
def iO:Bool:=leI (ot y0 y2 y3) (↑y3.length:Int)
def kS:Bool:=leI (↑y3.length:Int) (↑y3.length:Int)
def kT:Bool:=leN (j9 (cB y0 y2 y3)) 1048576
end
def kU:Bool:=leI 0 0
section
variable (y0 y1:Int)(y2:List (Int×(alV×Int)))(y3 y6:List Int)(y7 y8:List alV)(y11:List Int)(y12:List (Int×(Int×Int)))
def kV:Bool:=leN (j9 (ov y0 y2 y3)) 1048576
def kW:Bool:= !aG y0 y2||uP (((bO y0 y2).2).1) y7 y8 y11 y6
def jD:Bool:=aG y0 y2||(aL y0 y2||(aM y0 y2||(!aN y0 y2||leI 0 0)))
def jE:Bool:=aG y0 y2||(aL y0 y2||(aM y0 y2||(!aN y0 y2||ic y0 y2 y3)))
def jF:Bool:=aG y0 y2||(aL y0 y2||(aM y0 y2||(!aN y0 y2||ie y0 y2 y3)))
def jG:Bool:=aG y0 y2||(aL y0 y2||(aM y0 y2||(aN y0 y2||(!bd y0 y2||leI 0 0))))
def jH:Bool:=aG y0 y2||(aL y0 y2||(aM y0 y2||(aN y0 y2||(!bd y0 y2||ic y0 y2 y3))))
def jI:Bool:=aG y0 y2||(aL y0 y2||(aM y0 y2||(aN y0 y2||(!bd y0 y2||ie y0 y2 y3))))
def jJ:Bool:=aG y0 y2||(aL y0 y2||(aM y0 y2||(aN y0 y2||(!bd y0 y2||leI 0 1))))
def jK:Bool:=aG y0 y2||(aL y0 y2||(aM y0 y2||(aN y0 y2||(!bd y0 y2||nG y0 y2 y3))))
def jL:Bool:=aG y0 y2||(aL y0 y2||(aM y0 y2||(aN y0 y2||(!bd y0 y2||nH y0 y2 y3))))
def jM:Bool:=aG y0 y2||(aL y0 y2||(aM y0 y2||(aN y0 y2||(bd y0 y2||(!cz y0 y2||leI 0 0)))))
def jN:Bool:=aG y0 y2||(aL y0 y2||(aM y0 y2||(aN y0 y2||(bd y0 y2||(!cz y0 y2||ic y0 y2 y3)))))
def jO:Bool:=aG y0 y2||(aL y0 y2||(aM y0 y2||(aN y0 y2||(bd y0 y2||(!cz y0 y2||ie y0 y2 y3)))))
def jP:Bool:=aG y0 y2||(aL y0 y2||(aM y0 y2||(aN y0 y2||(bd y0 y2||(!cz y0 y2||leI 0 1)))))
def jQ:Bool:=aG y0 y2||(aL y0 y2||(aM y0 y2||(aN y0 y2||(bd y0 y2||(!cz y0 y2||nG y0 y2 y3)))))
def jR:Bool:=aG y0 y2||(aL y0 y2||(aM y0 y2||(aN y0 y2||(bd y0 y2||(!cz y0 y2||nH y0 y2 y3)))))
def gZ:Bool:=aG y0 y2||(aL y0 y2||(aM y0 y2||(aN y0 y2||(bd y0 y2||(cz y0 y2||leI 0 y1)))))
def hO:Bool:=aG y0 y2||(aL y0 y2||(aM y0 y2||(aN y0 y2||(bd y0 y2||(cz y0 y2||ltI y1 (↑y12.length:Int))))))
def hY:Bool:=aG y0 y2||(aL y0 y2||(aM y0 y2||(aN y0 y2||(bd y0 y2||(cz y0 y2||ltN y1.toNat y12.length)))))
def jS:Bool:=aG y0 y2||(aL y0 y2||(aM y0 y2||(aN y0 y2||(bd y0 y2||(cz y0 y2||iq (cB y0 y2 y3))))))
def jT:Bool:=leN (j9 (ov y0 y2 y3) + j9 (bF y0 y1 y2 y3 y6 y7 y8 y11 y12)) 9223372036854775807
def jU:Bool:=leN ((j9 (ov y0 y2 y3) + j9 (bF y0 y1 y2 y3 y6 y7 y8 y11 y12)) * 8) 140737488355328
def hZ:Int:=v4 .i64 (y0 + (1:Int))
def cm:Int:=bif aG y0 y2 then y1 else bif aL y0 y2 then y1 else bif aM y0 y2 then y1 else bif aN y0 y2 then y1 else bif bd y0 y2 then y1 else bif cz y0 y2 then y1 else v4 .i64 (y1 + (1:Int))
def ia:List Int:=ov y0 y2 y3++bF y0 y1 y2 y3 y6 y7 y8 y11 y12
def ib:List Int:=bif aG y0 y2 then y11 else y11
def cn:List (Int×(Int×Int)):=bif aG y0 y2 then y12 else bif aL y0 y2 then y12 else bif aM y0 y2 then y12 else bif aN y0 y2 then y12 else bif bd y0 y2 then y12 else bif cz y0 y2 then y12 else List.set y12 y1.toNat (fK ((bO y0 y2).1) ((bO y0 y2).2.2) ((dF y1 y12).1) (((dF y1 y12).2).1) ((dF y1 y12).2.2) (cB y0 y2 y3),fL ((bO y0 y2).1) (((dF y1 y12).2).1) ((dF y1 y12).2.2) (cB y0 y2 y3),fM ((bO y0 y2).1) ((bO y0 y2).2.2) ((dF y1 y12).1) ((dF y1 y12).2.2) (cB y0 y2 y3))
end
def Vv:kO→List (Nat×SV)
 |(y0,y1,_,_,_,_,_,_,_,_,_,_,_)=> [(12,(.one ⟨false,[.val (.int .i64 y0)]⟩)),(3,(.one ⟨false,[.ref 0]⟩)),(11,(.one ⟨false,[.ref 1]⟩)),(5,(.one ⟨false,[.ptr 2 0]⟩)),(6,(.one ⟨false,[.ptr 3 0]⟩)),(2,(.one ⟨false,[.ref 4]⟩)),(4,(.one ⟨false,[.val (.int .i64 y1)]⟩))]
def Vr:kO→List (Nat×Entry)
 |(_,_,y2,y3,y4,y5,y6,y7,y8,y9,y10,y11,y12)=> [(0,(.row false 122 afs y2)),(2,(.box 43 [.val (.string y4),.ref 5,.ref 6,.ref 7,.val (.string y5),.ref 8])),(3,(.box 50 [.ref 9,.ref 10])),(4,(.row false 2 akd y6)),(5,(.row false 9 alu y7)),(6,(.row false 9 alu y8)),(7,(.row false 9 alu y9)),(8,(.row false 142 aaY y10)),(9,(.row true 2 akd y11)),(10,(.row true 109 ac0 y12)),(1,(.row true 2 akd y3))]
def VD:Nat→kO→List (Nat×SV)
 |_,(_,_,_,_,_,_,_,_,_,_,_,_,_)=> [(11,(.one ⟨false,[.ref 1]⟩))]
def Vz:Nat→kO→List (Nat×Entry)
 |_,(_,_,y2,y3,y4,y5,y6,y7,y8,y9,y10,y11,y12)=> [(0,(.row false 122 afs y2)),(1,(.row true 2 akd y3)),(2,(.box 43 [.val (.string y4),.ref 5,.ref 6,.ref 7,.val (.string y5),.ref 8])),(3,(.box 50 [.ref 9,.ref 10])),(4,(.row false 2 akd y6)),(5,(.row false 9 alu y7)),(6,(.row false 9 alu y8)),(7,(.row false 9 alu y9)),(8,(.row false 142 aaY y10)),(9,(.row true 2 akd y11)),(10,(.row true 109 ac0 y12))]
def eD:kO→LT kO
 |(y0,y1,y2,y3,y4,y5,y6,y7,y8,y9,y10,y11,y12)=> .ite (ee y0 y2) (.need [kQ y0,ee y0 y2,kR y0 y2] (.need [iN y0 y2 y3,iO y0 y2 y3,kS y3,kT y0 y2 y3] (.need [kU,iN y0 y2 y3,iO y0 y2 y3,kV y0 y2 y3] (.need [kW y0 y2 y6 y7 y8 y11,jD y0 y2,jE y0 y2 y3,jF y0 y2 y3,jG y0 y2,jH y0 y2 y3,jI y0 y2 y3,jJ y0 y2,jK y0 y2 y3,jL y0 y2 y3,jM y0 y2,jN y0 y2 y3,jO y0 y2 y3,jP y0 y2,jQ y0 y2 y3,jR y0 y2 y3,gZ y0 y1 y2,hO y0 y1 y2 y12,hY y0 y1 y2 y12,jS y0 y2 y3,gZ y0 y1 y2,hO y0 y1 y2 y12,hY y0 y1 y2 y12] (.need [jT y0 y1 y2 y3 y6 y7 y8 y11 y12,jU y0 y1 y2 y3 y6 y7 y8 y11 y12] (.nrm ((hZ y0),cm y0 y1 y2,y2,ia y0 y1 y2 y3 y6 y7 y8 y11 y12,y4,y5,y6,y7,y8,y9,y10,ib y0 y2 y11,(cn y0 y1 y2 y3 y12)) [(0,0),(1,4544),(2,2),(3,3),(4,4),(5,5),(6,6),(7,7),(8,8),(9,9),(10,10)])))))) (.ext 0 [(0,0),(1,1),(2,2),(3,3),(4,4),(5,5),(6,6),(7,7),(8,8),(9,9),(10,10)])
def Cr(s:St):Option kO:=
 (match s.look 12 with
 |some ⟨none,.one ⟨false,[.val (.int .i64 y0)]⟩⟩=>
 (match s.look 3 with
 |some ⟨none,.one ⟨false,[.ref 7]⟩⟩=>
 (match s.look 11 with
 |some ⟨none,.one ⟨false,[.ref 768]⟩⟩=>
 (match s.look 5 with
 |some ⟨none,.one ⟨false,[.ptr 576 0]⟩⟩=>
 (match s.look 6 with
 |some ⟨none,.one ⟨false,[.ptr 640 0]⟩⟩=>
 (match s.look 2 with
 |some ⟨none,.one ⟨false,[.ref 6]⟩⟩=>
 (match s.look 4 with
 |some ⟨none,.one ⟨false,[.val (.int .i64 y1)]⟩⟩=>
 (match s.ent 7 with
 |some (.row false 122 (.pair (.int .i64) (.pair .str (.int .i64))) y2)=>
 (match s.ent 576 with
 |some (.box 43 [.val (.string y4),.ref 0,.ref 1,.ref 2,.val (.string y5),.ref 3])=>
 (match s.ent 640 with
 |some (.box 50 [.ref 4,.ref 5])=>
 (match s.ent 6 with
 |some (.row false 2 (.int .i64) y6)=>
 (match s.ent 0 with
 |some (.row false 9 (.str) y7)=>
 (match s.ent 1 with
 |some (.row false 9 (.str) y8)=>
 (match s.ent 2 with
 |some (.row false 9 (.str) y9)=>
 (match s.ent 3 with
 |some (.row false 142 (.pair .str (.sl 122 (.pair (.int .i64) (.pair .str (.int .i64))))) y10)=>
 (match s.ent 4 with
 |some (.row true 2 (.int .i64) y11)=>
 (match s.ent 5 with
 |some (.row true 109 (.pair (.int .i64) (.pair (.int .i64) (.int .i64))) y12)=>
 (match s.ent 768 with
 |some (.row true 2 (.int .i64) y3)=>
 some (y0,y1,y2,y3,y4,y5,y6,y7,y8,y9,y10,y11,y12)
 |_=>none)
 |_=>none)
 |_=>none)
 |_=>none)
 |_=>none)
 |_=>none)
 |_=>none)
 |_=>none)
 |_=>none)
 |_=>none)
 |_=>none)
 |_=>none)
 |_=>none)
 |_=>none)
 |_=>none)
 |_=>none)
 |_=>none)
 |_=>none)
def bo:Lp kO where
 h:=⟨[20,21,22,23,26,27,28,29,13,30,31,32,33,34,35,14,36,37,38,39,15,40,41,42,43,11,16,44,45,66,65,67,68,69,70,71,72,74,73,76,75,78,77,79,80,81,82,84,83,85,86,87,88,89,90,91,93,92,94,95,96,97,98,99,100,47,48,49,50,51,52,53,54,46,55,56,18,17,57,58,59,60,61,62,63,64,4,101,102,103,104,24,25,12],[0,2,3,4,5,6,7,8,9,10],[1],[]⟩
 JL:=Vv
 JE:=Vr
 XL:=VD
 XE:=Vz
 q:=fun j=>match j with | _=> .exit 0
 tags:= [0]
 lt:=eD
 fuel:=fun(y0,y1,y2,y3,y4,y5,y6,y7,y8,y9,y10,y11,y12)=>y0.natAbs + y1.natAbs + y2.length + y3.length + y4.size + y5.size + y6.length + y7.length + y8.length + y9.length + y10.length + y11.length + y12.length
 fix:=fun(_,_,y2,_,y4,y5,y6,y7,y8,y9,y10,_,_) (y0,y1,_,y3,_,_,_,_,_,_,_,y11,y12)=>(y0,y1,y2,y3,y4,y5,y6,y7,y8,y9,y10,y11,y12)
 σ:= [(0,7),(2,576),(3,640),(4,6),(5,0),(6,1),(7,2),(8,3),(9,4),(10,5),(1,768)]
 rd:=Cr
theorem SF:LoopOk prog (fun k=>Nat.blt k Tryz.f140.ntmps) bo.F (bV f140 0):=by
 refine Lp.ok (tbl:= (PF.mark prog::T3z [aE,dP,gj,nX])) (lf:= []) bG bo (by kernel_rfl) (LOk.nil _) (fun _=>rfl) (fun _ _=>rfl) ?_ ?_ ?_ ?_ (fun _=>rfl) ?_
 ·rintro⟨y0,y1,y2,y3,y4,y5,y6,y7,y8,y9,y10,y11,y12⟩;kernel_rfl
 ·rintro⟨y0,y1,y2,y3,y4,y5,y6,y7,y8,y9,y10,y11,y12⟩;kernel_rfl
 ·intro s x h
  have h:Cr s=some x:=h
  unfold Cr at h
  repeat' split at h
  all_goals cases h
  constructor<;>repeat(first|refine ab (by assumption) rfl ?_|refine aa rfl (by assumption) rfl ?_|exact rfl)
 ·rintro⟨y0,y1,y2,y3,y4,y5,y6,y7,y8,y9,y10,y11,y12⟩;kernel_rfl
 ·rintro⟨y0,y1,y2,y3,y4,y5,y6,y7,y8,y9,y10,y11,y12⟩ z;exact(And.intro rfl trivial)
section
variable (x0 x1:alV)(x2:Int)(x3 x4 x5:List alV)(x6:List (alV×List (Int×alV×Int)))(x7:List Int)(x8:List (Int×Int×Int))(x9:List Int)(x10:List (Int×alV×Int))
def rO:Int×Int×List (Int×alV×Int)×List Int×alV×alV×List Int×List alV×List alV×List alV×List (alV×List (Int×alV×Int))×List Int×List (Int×Int×Int):=((0:Int),x2,x10,[],x0,x1,x9,x3,x4,x5,x6,x7,x8)
def vA:List Int×alV×alV×List Int×List alV×List alV×List alV×List (alV×List (Int×alV×Int))×List Int×List (Int×Int×Int):=(Lp.res bo (rO x0 x1 x2 x3 x4 x5 x6 x7 x8 x9 x10)).2.2.2.2
def vB:List Int:=(vA x0 x1 x2 x3 x4 x5 x6 x7 x8 x9 x10).1
def AO:List Int×List (Int×Int×Int):=(vA x0 x1 x2 x3 x4 x5 x6 x7 x8 x9 x10).2.2.2.2.2.2.2.2
def BO:Int:=v3 (vB x0 x1 x2 x3 x4 x5 x6 x7 x8 x9 x10)[j8 0]? 0
def BP:List Int:=(AO x0 x1 x2 x3 x4 x5 x6 x7 x8 x9 x10).1
def BQ:List (Int×(Int×Int)):=(AO x0 x1 x2 x3 x4 x5 x6 x7 x8 x9 x10).2
def BR:Bool:=allT [Lp.fin bo (rO x0 x1 x2 x3 x4 x5 x6 x7 x8 x9 x10),ltI 0 (↑(j9 (vB x0 x1 x2 x3 x4 x5 x6 x7 x8 x9 x10)):Int),ltN (j8 0) (j9 (vB x0 x1 x2 x3 x4 x5 x6 x7 x8 x9 x10))]
end
def QB:List SV→List Entry→Option Out
 | [.one ⟨true,[.val (.string x0),.ref 0,.ref 1,.ref 2,.val (.string x1),.ref 3]⟩,.one ⟨true,[.ref 4,.ref 5]⟩,.one ⟨false,[.ref 6]⟩,.one ⟨false,[.ref 7]⟩,.one ⟨false,[.val (.int .i64 x2)]⟩],[.row false 9 (.str) x3,.row false 9 (.str) x4,.row false 9 (.str) x5,.row false 142 (.pair .str (.sl 122 (.pair (.int .i64) (.pair .str (.int .i64))))) x6,.row true 2 (.int .i64) x7,.row true 109 (.pair (.int .i64) (.pair (.int .i64) (.int .i64))) x8,.row false 2 (.int .i64) x9,.row false 122 (.pair (.int .i64) (.pair .str (.int .i64))) x10]=>some ⟨.one ⟨false,[.val (.int .i64 (BO x0 x1 x2 x3 x4 x5 x6 x7 x8 x9 x10))]⟩,[.row false 9 alu x3,.row false 9 alu x4,.row false 9 alu x5,.row false 142 aaY x6,.row true 2 akd (BP x0 x1 x2 x3 x4 x5 x6 x7 x8 x9 x10),.row true 109 ac0 (BQ x0 x1 x2 x3 x4 x5 x6 x7 x8 x9 x10),.row false 2 akd x9,.row false 122 afs x10],[],[BR x0 x1 x2 x3 x4 x5 x6 x7 x8 x9 x10]⟩
 |_,_=>none
def lI:PF prog:=PF.ofG prog (PF.mark prog::T3z [aE,dP,gj,nX]) [bo.F] bG 140 f140 func140 (LOk.fnT (l:= [bV f140 0]) (by kernel_rfl) (.cons SF (.nil _))) QB (by
 intro vs es r h;unfold QB at h;split at h
 ·cases h;kernel_rfl
 ·cases h)
abbrev nA:=Int×Int×Int×alV×alV×List alV×List alV×List alV×List (alV×(List (Int×(alV×Int))))
def vC(y1:Int)(y8:List (alV×(List (Int×(alV×Int))))):List (Int×alV×Int):=(v3 y8[j8 y1]? (uS aaY)).2
def BU(y1:Int):Bool:=leI 0 y1
def BV(y1:Int)(y8:List (alV×(List (Int×(alV×Int))))):Bool:=ltI y1 (↑y8.length:Int)
def BW(y1:Int)(y8:List (alV×(List (Int×(alV×Int))))):Bool:=ltN y1.toNat y8.length
def sZ(y0 y1:Int)(y8:List (alV×(List (Int×(alV×Int))))):Bool:=ltI y0 (↑(j9 (vC y1 y8)):Int)
def QS(y0:Int):Bool:=leI 0 y0
def QT(y0 y1:Int)(y8:List (alV×(List (Int×(alV×Int))))):Bool:=ltN y0.toNat (j9 (vC y1 y8))
def QU(y0:Int):Int:=v4 .i64 (y0 + (1:Int))
def Iz(y0 y1 y2:Int)(y8:List (alV×(List (Int×(alV×Int))))):Int:=bif leI 7 ((v3 (vC y1 y8)[j8 y0]? ((0:Int),ByteArray.empty,(0:Int))).1)then v4 .i64 (y2 + (1:Int))else y2
def Zm:nA→List (Nat×SV)
 |(y0,y1,y2,_,_,_,_,_,_)=> [(14,(.one ⟨false,[.val (.int .i64 y0)]⟩)),(3,(.one ⟨false,[.ptr 0 0]⟩)),(11,(.one ⟨false,[.val (.int .i64 y1)]⟩)),(10,(.one ⟨false,[.val (.int .i64 y2)]⟩))]
def Zh:nA→List (Nat×Entry)
 |(_,_,_,y3,y4,y5,y6,y7,y8)=> [(0,(.box 43 [.val (.string y3),.ref 1,.ref 2,.ref 3,.val (.string y4),.ref 4])),(1,(.row false 9 alu y5)),(2,(.row false 9 alu y6)),(3,(.row false 9 alu y7)),(4,(.row false 142 aaY y8))]
def Zw:Nat→nA→List (Nat×SV)
 |_,(_,_,y2,_,_,_,_,_,_)=> [(10,(.one ⟨false,[.val (.int .i64 y2)]⟩))]
def Zr:Nat→nA→List (Nat×Entry)
 |_,(_,_,_,y3,y4,y5,y6,y7,y8)=> [(0,(.box 43 [.val (.string y3),.ref 1,.ref 2,.ref 3,.val (.string y4),.ref 4])),(1,(.row false 9 alu y5)),(2,(.row false 9 alu y6)),(3,(.row false 9 alu y7)),(4,(.row false 142 aaY y8))]
def vk:nA→LT nA
 |(y0,y1,y2,y3,y4,y5,y6,y7,y8)=> .need [BU y1,BV y1 y8,BW y1 y8] (.ite (sZ y0 y1 y8) (.need [BU y1,BV y1 y8,BW y1 y8,QS y0,sZ y0 y1 y8,QT y0 y1 y8] (.nrm ((QU y0),y1,Iz y0 y1 y2 y8,y3,y4,y5,y6,y7,y8) [(0,0),(1,1),(2,2),(3,3),(4,4)])) (.ext 0 [(0,0),(1,1),(2,2),(3,3),(4,4)]))
def Gr(s:St):Option nA:=
 (match s.look 14 with
 |some ⟨none,.one ⟨false,[.val (.int .i64 y0)]⟩⟩=>
 (match s.look 3 with
 |some ⟨none,.one ⟨false,[.ptr 0 0]⟩⟩=>
 (match s.look 11 with
 |some ⟨none,.one ⟨false,[.val (.int .i64 y1)]⟩⟩=>
 (match s.look 10 with
 |some ⟨none,.one ⟨false,[.val (.int .i64 y2)]⟩⟩=>
 (match s.ent 0 with
 |some (.box 43 [.val (.string y3),.ref 4,.ref 5,.ref 6,.val (.string y4),.ref 7])=>
 (match s.ent 4 with
 |some (.row false 9 (.str) y5)=>
 (match s.ent 5 with
 |some (.row false 9 (.str) y6)=>
 (match s.ent 6 with
 |some (.row false 9 (.str) y7)=>
 (match s.ent 7 with
 |some (.row false 142 (.pair .str (.sl 122 (.pair (.int .i64) (.pair .str (.int .i64))))) y8)=>
 some (y0,y1,y2,y3,y4,y5,y6,y7,y8)
 |_=>none)
 |_=>none)
 |_=>none)
 |_=>none)
 |_=>none)
 |_=>none)
 |_=>none)
 |_=>none)
 |_=>none)
def eS:Lp nA where
 h:=⟨[67,68,69,70,71,72,73,74,75,78,79,80,81,82,83,84,85,86,87,88,89,90,10,76,77,14],[0,1,2,3,4],[],[]⟩
 JL:=Zm
 JE:=Zh
 XL:=Zw
 XE:=Zr
 q:=fun j=>match j with | _=> .exit 2
 tags:= [0]
 lt:=vk
 fuel:=fun(y0,y1,y2,y3,y4,y5,y6,y7,y8)=>y0.natAbs + y1.natAbs + y2.natAbs + y3.size + y4.size + y5.length + y6.length + y7.length + y8.length
 fix:=fun(_,y1,_,y3,y4,y5,y6,y7,y8) (y0,_,y2,_,_,_,_,_,_)=>(y0,y1,y2,y3,y4,y5,y6,y7,y8)
 σ:= [(0,0),(1,4),(2,5),(3,6),(4,7)]
 rd:=Gr
theorem Xb:LoopOk prog (memN [21,22,23,24,25,28,29,30,31,32,33,34,35,36,37,38,12,39,40,41,42,43,44,45,46,47,13,48,49,50,51,52,53,54,55,56,57,58,59,60,61,62,63,64,65,66,14,67,68,69,70,71,72,73,74,75,78,79,80,81,82,83,84,85,86,87,88,89,90,10,76,77,26,27,11]) eS.F (VR (bV f102 0) 0):=by
 refine Lp.ok (tbl:= (T3z [aU,wH,tO,dP,lI])) (lf:= []) bG eS (by kernel_rfl) (LOk.nil _) (fun _=>rfl) (fun _ _=>rfl) ?_ ?_ ?_ ?_ (fun _=>rfl) ?_
 ·rintro⟨y0,y1,y2,y3,y4,y5,y6,y7,y8⟩;kernel_rfl
 ·rintro⟨y0,y1,y2,y3,y4,y5,y6,y7,y8⟩;kernel_rfl
 ·intro s x h
  have h:Gr s=some x:=h
  unfold Gr at h
  repeat' split at h
  all_goals cases h
  constructor<;>repeat(first|refine ab (by assumption) rfl ?_|refine aa rfl (by assumption) rfl ?_|exact rfl)
 ·rintro⟨y0,y1,y2,y3,y4,y5,y6,y7,y8⟩;kernel_rfl
 ·rintro⟨y0,y1,y2,y3,y4,y5,y6,y7,y8⟩ z;exact(And.intro rfl trivial)
abbrev rm:=Int×Int×alV×alV×List Int×List Int×List alV×List alV×List alV×List (alV×(List (Int×(alV×Int))))×List Int×List (Int×(Int×Int))
def Ma(y0:Int)(y9:List (alV×(List (Int×(alV×Int))))):Bool:=ltI y0 (↑y9.length:Int)
def Mb(y0:Int)(y9:List (alV×(List (Int×(alV×Int))))):Bool:=ltN y0.toNat y9.length
def pP(y0:Int)(y9:List (alV×(List (Int×(alV×Int))))):alV×List (Int×alV×Int):=v3 y9[j8 y0]? (uS aaY)
def dA(y0:Int)(y7:List alV)(y9:List (alV×(List (Int×(alV×Int))))):Int:=uT y7 ((pP y0 y9).1)
def wj(y0 y1:Int)(y2 y3:alV)(y4:List Int)(y6 y7 y8:List alV)(y9:List (alV×(List (Int×(alV×Int)))))(y10:List Int)(y11:List (Int×(Int×Int))):List Int:=BP y2 y3 y1 y6 y7 y8 y9 y10 y11 y4 ((pP y0 y9).2)
def wl(y0:Int)(y8:List alV)(y9:List (alV×(List (Int×(alV×Int))))):Int:=uT y8 ((pP y0 y9).1)
def Mc(y0 y1:Int)(y2 y3:alV)(y6 y7 y8:List alV)(y9:List (alV×(List (Int×(alV×Int))))):Int×Int×Int×alV×alV×List alV×List alV×List alV×List (alV×List (Int×alV×Int)):=((0:Int),y0,y1,y2,y3,y6,y7,y8,y9)
def Fv(y0 y1:Int)(y2 y3:alV)(y4:List Int)(y6 y7 y8:List alV)(y9:List (alV×(List (Int×(alV×Int)))))(y10:List Int)(y11:List (Int×(Int×Int))):Int:=BO y2 y3 y1 y6 y7 y8 y9 y10 y11 y4 ((pP y0 y9).2)
def BT(y0:Int)(y9:List (alV×(List (Int×(alV×Int))))):Bool:=Ma y0 y9
def NJ(y0:Int):Bool:=leI 0 y0
def NK(y0:Int)(y9:List (alV×(List (Int×(alV×Int))))):Bool:=Mb y0 y9
def NL(y0 y1:Int)(y2 y3:alV)(y4:List Int)(y6 y7 y8:List alV)(y9:List (alV×(List (Int×(alV×Int)))))(y10:List Int)(y11:List (Int×(Int×Int))):Bool:=BR y2 y3 y1 y6 y7 y8 y9 y10 y11 y4 ((pP y0 y9).2)
def UZ(y7:List alV):Bool:=leN y7.length (9223372036854775807:Nat)
def NM(y0:Int)(y7:List alV)(y9:List (alV×(List (Int×(alV×Int))))):Bool:= !leI 0 (dA y0 y7 y9)||leI 0 (dA y0 y7 y9)
def NN(y0 y1:Int)(y2 y3:alV)(y4:List Int)(y6 y7 y8:List alV)(y9:List (alV×(List (Int×(alV×Int)))))(y10:List Int)(y11:List (Int×(Int×Int))):Bool:= !leI 0 (dA y0 y7 y9)||ltI (dA y0 y7 y9) (↑(j9 (wj y0 y1 y2 y3 y4 y6 y7 y8 y9 y10 y11)):Int)
def NO(y0 y1:Int)(y2 y3:alV)(y4:List Int)(y6 y7 y8:List alV)(y9:List (alV×(List (Int×(alV×Int)))))(y10:List Int)(y11:List (Int×(Int×Int))):Bool:= !leI 0 (dA y0 y7 y9)||ltN (j8 (dA y0 y7 y9)) (j9 (wj y0 y1 y2 y3 y4 y6 y7 y8 y9 y10 y11))
def NP(y0:Int)(y7:List alV)(y9:List (alV×(List (Int×(alV×Int))))):Bool:=leI 0 (dA y0 y7 y9)||leI 0 y0
def NQ(y0:Int)(y7:List alV)(y9:List (alV×(List (Int×(alV×Int))))):Bool:=leI 0 (dA y0 y7 y9)||Ma y0 y9
def LP(y0:Int)(y7:List alV)(y9:List (alV×(List (Int×(alV×Int))))):Bool:=leI 0 (dA y0 y7 y9)||Mb y0 y9
def LQ(y0:Int)(y7 y8:List alV)(y9:List (alV×(List (Int×(alV×Int))))):Bool:=leI 0 (dA y0 y7 y9)||leN y8.length (9223372036854775807:Nat)
def LR(y0:Int)(y7 y8:List alV)(y9:List (alV×(List (Int×(alV×Int))))):Bool:=leI 0 (dA y0 y7 y9)||leI 0 (wl y0 y8 y9)
def LU(y0:Int)(y5:List Int)(y7 y8:List alV)(y9:List (alV×(List (Int×(alV×Int))))):Bool:=leI 0 (dA y0 y7 y9)||ltI (wl y0 y8 y9) (↑y5.length:Int)
def LV(y0:Int)(y5:List Int)(y7 y8:List alV)(y9:List (alV×(List (Int×(alV×Int))))):Bool:=leI 0 (dA y0 y7 y9)||ltN (j8 (wl y0 y8 y9)) y5.length
def TK(y0 y1:Int)(y2 y3:alV)(y6 y7 y8:List alV)(y9:List (alV×(List (Int×(alV×Int))))):Bool:=Lp.fin eS (Mc y0 y1 y2 y3 y6 y7 y8 y9)
def TL(y0:Int):Int:=v4 .i64 (y0 + (1:Int))
def LW(y0 y1:Int)(y2 y3:alV)(y6 y7 y8:List alV)(y9:List (alV×(List (Int×(alV×Int))))):Int:=((Lp.res eS (Mc y0 y1 y2 y3 y6 y7 y8 y9)).2.2.2).1
def LX(y0 y1:Int)(y2 y3:alV)(y4 y5:List Int)(y6 y7 y8:List alV)(y9:List (alV×(List (Int×(alV×Int)))))(y10:List Int)(y11:List (Int×(Int×Int))):List Int:=bif leI 0 (dA y0 y7 y9)then y5 else List.set y5 (j8 (wl y0 y8 y9)) (Fv y0 y1 y2 y3 y4 y6 y7 y8 y9 y10 y11)
def LY(y0 y1:Int)(y2 y3:alV)(y4:List Int)(y6 y7 y8:List alV)(y9:List (alV×(List (Int×(alV×Int)))))(y10:List Int)(y11:List (Int×(Int×Int))):List Int:=bif leI 0 (dA y0 y7 y9)then List.set (wj y0 y1 y2 y3 y4 y6 y7 y8 y9 y10 y11) (j8 (dA y0 y7 y9)) (Fv y0 y1 y2 y3 y4 y6 y7 y8 y9 y10 y11)else wj y0 y1 y2 y3 y4 y6 y7 y8 y9 y10 y11
def LZ(y0 y1:Int)(y2 y3:alV)(y4:List Int)(y6 y7 y8:List alV)(y9:List (alV×(List (Int×(alV×Int)))))(y10:List Int)(y11:List (Int×(Int×Int))):List (Int×(Int×Int)):=BQ y2 y3 y1 y6 y7 y8 y9 y10 y11 y4 ((pP y0 y9).2)
def adt:rm→List (Nat×SV)
 |(y0,y1,_,_,_,_,_,_,_,_,_,_)=> [(11,(.one ⟨false,[.val (.int .i64 y0)]⟩)),(3,(.one ⟨false,[.ptr 0 0]⟩)),(8,(.one ⟨false,[.ptr 1 0]⟩)),(2,(.one ⟨false,[.ref 2]⟩)),(10,(.one ⟨false,[.val (.int .i64 y1)]⟩)),(9,(.one ⟨false,[.ref 3]⟩))]
def adk:rm→List (Nat×Entry)
 |(_,_,y2,y3,y4,y5,y6,y7,y8,y9,y10,y11)=> [(0,(.box 43 [.val (.string y2),.ref 4,.ref 5,.ref 6,.val (.string y3),.ref 7])),(1,(.box 50 [.ref 8,.ref 9])),(2,(.row false 2 akd y4)),(3,(.row true 2 akd y5)),(4,(.row false 9 alu y6)),(5,(.row false 9 alu y7)),(6,(.row false 9 alu y8)),(7,(.row false 142 aaY y9)),(8,(.row true 2 akd y10)),(9,(.row true 109 ac0 y11))]
def adL:Nat→rm→List (Nat×SV)
 |_,(_,_,_,_,_,_,_,_,_,_,_,_)=> []
def adC:Nat→rm→List (Nat×Entry)
 |_,(_,_,y2,y3,y4,y5,y6,y7,y8,y9,y10,y11)=> [(0,(.box 43 [.val (.string y2),.ref 4,.ref 5,.ref 6,.val (.string y3),.ref 7])),(1,(.box 50 [.ref 8,.ref 9])),(2,(.row false 2 akd y4)),(3,(.row true 2 akd y5)),(4,(.row false 9 alu y6)),(5,(.row false 9 alu y7)),(6,(.row false 9 alu y8)),(7,(.row false 142 aaY y9)),(8,(.row true 2 akd y10)),(9,(.row true 109 ac0 y11))]
def zO:rm→LT rm
 |(y0,y1,y2,y3,y4,y5,y6,y7,y8,y9,y10,y11)=> .ite (BT y0 y9) (.need [NJ y0,BT y0 y9,NK y0 y9,NL y0 y1 y2 y3 y4 y6 y7 y8 y9 y10 y11] (.need [NJ y0,BT y0 y9,NK y0 y9,UZ y7] (.need [NM y0 y7 y9,NN y0 y1 y2 y3 y4 y6 y7 y8 y9 y10 y11,NO y0 y1 y2 y3 y4 y6 y7 y8 y9 y10 y11,NP y0 y7 y9,NQ y0 y7 y9,LP y0 y7 y9,LQ y0 y7 y8 y9,LR y0 y7 y8 y9,LU y0 y5 y7 y8 y9,LV y0 y5 y7 y8 y9] (.need [TK y0 y1 y2 y3 y6 y7 y8 y9] (.nrm ((TL y0),LW y0 y1 y2 y3 y6 y7 y8 y9,y2,y3,y4,LX y0 y1 y2 y3 y4 y5 y6 y7 y8 y9 y10 y11,y6,y7,y8,y9,LY y0 y1 y2 y3 y4 y6 y7 y8 y9 y10 y11,(LZ y0 y1 y2 y3 y4 y6 y7 y8 y9 y10 y11)) [(0,0),(1,1),(2,2),(3,3),(4,4),(5,5),(6,6),(7,7),(8,8),(9,9)]))))) (.ext 0 [(0,0),(1,1),(2,2),(3,3),(4,4),(5,5),(6,6),(7,7),(8,8),(9,9)])
def Lz(s:St):Option rm:=
 (match s.look 11 with
 |some ⟨none,.one ⟨false,[.val (.int .i64 y0)]⟩⟩=>
 (match s.look 3 with
 |some ⟨none,.one ⟨false,[.ptr 512 0]⟩⟩=>
 (match s.look 8 with
 |some ⟨none,.one ⟨false,[.ptr 896 0]⟩⟩=>
 (match s.look 2 with
 |some ⟨none,.one ⟨false,[.ref 6]⟩⟩=>
 (match s.look 10 with
 |some ⟨none,.one ⟨false,[.val (.int .i64 y1)]⟩⟩=>
 (match s.look 9 with
 |some ⟨none,.one ⟨false,[.ref 1216]⟩⟩=>
 (match s.ent 512 with
 |some (.box 43 [.val (.string y2),.ref 0,.ref 1,.ref 2,.val (.string y3),.ref 3])=>
 (match s.ent 896 with
 |some (.box 50 [.ref 832,.ref 833])=>
 (match s.ent 6 with
 |some (.row false 2 (.int .i64) y4)=>
 (match s.ent 1216 with
 |some (.row true 2 (.int .i64) y5)=>
 (match s.ent 0 with
 |some (.row false 9 (.str) y6)=>
 (match s.ent 1 with
 |some (.row false 9 (.str) y7)=>
 (match s.ent 2 with
 |some (.row false 9 (.str) y8)=>
 (match s.ent 3 with
 |some (.row false 142 (.pair .str (.sl 122 (.pair (.int .i64) (.pair .str (.int .i64))))) y9)=>
 (match s.ent 832 with
 |some (.row true 2 (.int .i64) y10)=>
 (match s.ent 833 with
 |some (.row true 109 (.pair (.int .i64) (.pair (.int .i64) (.int .i64))) y11)=>
 some (y0,y1,y2,y3,y4,y5,y6,y7,y8,y9,y10,y11)
 |_=>none)
 |_=>none)
 |_=>none)
 |_=>none)
 |_=>none)
 |_=>none)
 |_=>none)
 |_=>none)
 |_=>none)
 |_=>none)
 |_=>none)
 |_=>none)
 |_=>none)
 |_=>none)
 |_=>none)
 |_=>none)
def gD:Lp rm where
 h:=⟨[21,22,23,24,25,28,29,30,31,32,33,34,35,36,37,38,12,39,40,41,42,43,44,45,46,47,13,48,49,50,51,52,53,54,55,56,57,58,59,60,61,62,63,64,65,66,14,67,68,69,70,71,72,73,74,75,78,79,80,81,82,83,84,85,86,87,88,89,90,10,76,77,26,27,11],[0,1,2,3,4,5,6,7,8,9],[],[]⟩
 JL:=adt
 JE:=adk
 XL:=adL
 XE:=adC
 q:=fun j=>match j with | _=> .exit 0
 tags:= [0]
 lt:=zO
 fuel:=fun(y0,y1,y2,y3,y4,y5,y6,y7,y8,y9,y10,y11)=>y0.natAbs + y1.natAbs + y2.size + y3.size + y4.length + y5.length + y6.length + y7.length + y8.length + y9.length + y10.length + y11.length
 fix:=fun(_,_,y2,y3,y4,_,y6,y7,y8,y9,_,_) (y0,y1,_,_,_,y5,_,_,_,_,y10,y11)=>(y0,y1,y2,y3,y4,y5,y6,y7,y8,y9,y10,y11)
 σ:= [(0,512),(1,896),(2,6),(3,1216),(4,0),(5,1),(6,2),(7,3),(8,832),(9,833)]
 rd:=Lz
theorem aa6:LoopOk prog (fun k=>Nat.blt k Tryz.f102.ntmps) gD.F (bV f102 0):=by
 refine Lp.ok (tbl:= (T3z [aU,wH,tO,dP,lI])) (lf:= [eS.F]) bG gD (by kernel_rfl) (LOk.allT (l:= [VR (bV f102 0) 0]) (by kernel_rfl) (.cons Xb (.nil _))) (fun _=>rfl) (fun _ _=>rfl) ?_ ?_ ?_ ?_ (fun _=>rfl) ?_
 ·rintro⟨y0,y1,y2,y3,y4,y5,y6,y7,y8,y9,y10,y11⟩;kernel_rfl
 ·rintro⟨y0,y1,y2,y3,y4,y5,y6,y7,y8,y9,y10,y11⟩;kernel_rfl
 ·intro s x h
  have h:Lz s=some x:=h
  unfold Lz at h
  repeat' split at h
  all_goals cases h
  constructor<;>repeat(first|refine ab (by assumption) rfl ?_|refine aa rfl (by assumption) rfl ?_|exact rfl)
 ·rintro⟨y0,y1,y2,y3,y4,y5,y6,y7,y8,y9,y10,y11⟩;kernel_rfl
 ·rintro⟨y0,y1,y2,y3,y4,y5,y6,y7,y8,y9,y10,y11⟩ z;exact(And.intro rfl trivial)
def Bp(x1:alV):Bool:=
 !ByteArray.toList x1==ByteArray.toList { data:= #[] }
section
variable (x0 x1:alV)(x2 x3 x4:List alV)(x5:List (alV×List (Int×alV×Int)))(x6:List Int)(x7:List (Int×Int×Int))(x8:List Int)
def KT:List Int:=v5 (j8 (↑x4.length:Int)) (0:Int)
def FR:Int×Int×alV×alV×List Int×List Int×List alV×List alV×List alV×List (alV×List (Int×alV×Int))×List Int×List (Int×Int×Int):=((0:Int),(0:Int),x0,x1,x8,KT x4,x2,x3,x4,x5,x6,x7)
def KU:List Int×List alV×List alV×List alV×List (alV×List (Int×alV×Int))×List Int×List (Int×Int×Int):=(Lp.res gD (FR x0 x1 x2 x3 x4 x5 x6 x7 x8)).2.2.2.2.2.2
def KV:List Int×List (Int×Int×Int):=(KU x0 x1 x2 x3 x4 x5 x6 x7 x8).2.2.2.2.2
def Bq:List Int:=(KV x0 x1 x2 x3 x4 x5 x6 x7 x8).1
def rY:Bool:=bif Bp x1 then uO x1 x2 x3 (Bq x0 x1 x2 x3 x4 x5 x6 x7 x8) x8==0 else false
def KW:List Int:=bif Bp x1&&true then Bq x0 x1 x2 x3 x4 x5 x6 x7 x8 else Bq x0 x1 x2 x3 x4 x5 x6 x7 x8
def KX:List (Int×Int×Int):=(KV x0 x1 x2 x3 x4 x5 x6 x7 x8).2
def KY:List (Int×Int×Int):=bif Bp x1&&true then KX x0 x1 x2 x3 x4 x5 x6 x7 x8 else KX x0 x1 x2 x3 x4 x5 x6 x7 x8
def PI:Bool:=leI (↑x4.length:Int) (↑x4.length:Int)
def PJ:Bool:=leI ((↑(8:Nat):Int) * (↑x4.length:Int)) 281474976710656
def TG:List Int:=bif rY x0 x1 x2 x3 x4 x5 x6 x7 x8 then KT x4 else (KU x0 x1 x2 x3 x4 x5 x6 x7 x8).1
def TH:List Int:=bif rY x0 x1 x2 x3 x4 x5 x6 x7 x8 then KW x0 x1 x2 x3 x4 x5 x6 x7 x8 else KW x0 x1 x2 x3 x4 x5 x6 x7 x8
def TI:List (Int×(Int×Int)):=bif rY x0 x1 x2 x3 x4 x5 x6 x7 x8 then KY x0 x1 x2 x3 x4 x5 x6 x7 x8 else KY x0 x1 x2 x3 x4 x5 x6 x7 x8
def TJ:Bool:=allT [Ql x6 x7,leI 0 (↑x4.length:Int),PI x4,PJ x4,leI (↑x4.length:Int) 9223372036854775807,Lp.fin gD (FR x0 x1 x2 x3 x4 x5 x6 x7 x8),!(Bp x1&&true)||uP x1 x2 x3 (Bq x0 x1 x2 x3 x4 x5 x6 x7 x8) x8,!rY x0 x1 x2 x3 x4 x5 x6 x7 x8||leI 0 (↑x4.length:Int),!rY x0 x1 x2 x3 x4 x5 x6 x7 x8||PI x4,!rY x0 x1 x2 x3 x4 x5 x6 x7 x8||PJ x4,!rY x0 x1 x2 x3 x4 x5 x6 x7 x8||leI (↑x4.length:Int) 9223372036854775807]
end
def aad:List SV→List Entry→Option Out
 | [.one ⟨true,[.val (.string x0),.ref 0,.ref 1,.ref 2,.val (.string x1),.ref 3]⟩,.one ⟨true,[.ref 4,.ref 5]⟩,.one ⟨false,[.ref 6]⟩],[.row false 9 (.str) x2,.row false 9 (.str) x3,.row false 9 (.str) x4,.row false 142 (.pair (.str) (.sl 122 (.pair (.int .i64) (.pair (.str) (.int .i64))))) x5,.row false 2 (.int .i64) x6,.row false 109 (.pair (.int .i64) (.pair (.int .i64) (.int .i64))) x7,.row false 2 (.int .i64) x8]=>some ⟨.tup [⟨false,[.ref 7]⟩,⟨true,[.ref 8,.ref 9]⟩],[.row false 9 alu x2,.row false 9 alu x3,.row false 9 alu x4,.row false 142 (CTy.pair CTy.str (CTy.sl (122:TypeId) afs)) x5,.row false 2 akd x6,.row false 109 ac0 x7,.row false 2 akd x8],[.row true 2 akd (TG x0 x1 x2 x3 x4 x5 x6 x7 x8),.row true 2 akd (TH x0 x1 x2 x3 x4 x5 x6 x7 x8),.row true 109 ac0 (TI x0 x1 x2 x3 x4 x5 x6 x7 x8)],[TJ x0 x1 x2 x3 x4 x5 x6 x7 x8]⟩
 |_,_=>none
def ajb:PF prog:=PF.ofG prog (T3z [aU,wH,tO,dP,lI]) [gD.F] bG 102 f102 func102 (LOk.fnT (l:= [bV f102 0]) (by kernel_rfl) (.cons aa6 (.nil _))) aad (by
 intro vs es r h;unfold aad at h;split at h
 ·cases h;kernel_rfl
 ·cases h)
theorem aoE{a b:Int}(ha:a=0∨a=1)(hb:b=0∨b=1):IntKind.i64.wrap ((BitVec.toNat (BitVec.ofInt (IntKind.bits IntKind.i64) a&&& BitVec.ofInt (IntKind.bits IntKind.i64) b):Nat):Int)=ajz a b:=by
 rcases ha with rfl | rfl <;> rcases hb with rfl | rfl <;> rfl
theorem apW{a b:Int}(ha:a=0∨a=1)(hb:b=0∨b=1):IntKind.i64.wrap ((BitVec.toNat (BitVec.ofInt (IntKind.bits IntKind.i64) a||| BitVec.ofInt (IntKind.bits IntKind.i64) b):Nat):Int)=orI a b:=by
 rcases ha with rfl | rfl <;> rcases hb with rfl | rfl <;> rfl
theorem apU{a:Int}(ha:a=0∨a=1):IntKind.i64.wrap (1 - a)=1 - a:=by rcases ha with rfl | rfl <;> rfl
theorem abP{l:List alV}{s:alV}(h:ES l s=true):uT l s=(Xl l s:Int):=by simp only [uT,h,cond_true]
theorem amH(s:alV)(ins vs:List alV)(inp xs:List Int)(hr:ac9 ins vs s=true)(h1:leN ins.length 9223372036854775807=true)(h2:leN vs.length 9223372036854775807=true)(hi:inp.length=ins.length)(hx:xs.length=vs.length):
  uO s ins vs xs inp=nmV ins vs inp xs s∧uP s ins vs xs inp=true:=by
 cases h:ES ins s with
 |true=>
  have e:=abP h
  have hp:=afL h
  have l0:leI 0 (Xl ins s:Int)=true:=bu (by omega)
  have l1:ltI (Xl ins s:Int) (inp.length:Int)=true:=cS (by omega)
  have l2:ltN (Xl ins s) inp.length=true:=dI (by omega)
  refine⟨?_,?_⟩
  ·simp only [uO,nmV,h,e,l0,cond_true];rfl
  ·simp only [uP,e,l0,l1,l2,h1,h2,allT,w5,w8,Bool.true_or,cond_true]
 |false=>
  have hv:ES vs s=true:=by simpa [ac9,h] using hr
  have e0:leI 0 (uT ins s)=false:=by rw [ad2,h]
  have e:=abP hv
  have hp:=afL hv
  have l0:leI 0 (Xl vs s:Int)=true:=bu (by omega)
  have l1:ltI (Xl vs s:Int) (xs.length:Int)=true:=cS (by omega)
  have l2:ltN (Xl vs s) xs.length=true:=dI (by omega)
  refine⟨?_,?_⟩
  ·simp only [uO,nmV,h,e0,e,cond_false];rfl
  ·simp only [uP,e0,e,l0,l1,l2,h1,h2,allT,w5,w8,Bool.true_or,Bool.not_false,cond_true]
structure TmOk (ins vs:List alV) (inp xs:List Int) (t:TM) (ar:List Int) (k:Nat) (ss:List BS3):Prop where
 hT:termB t.1 t.2.1 t.2.2=true
 ha:bitsB (takesK t.1) ar=true
 hu:usedB ins vs t=true
 h1:leN ins.length 9223372036854775807=true
 h2:leN vs.length 9223372036854775807=true
 hi:inp.length=ins.length
 hx:xs.length=vs.length
 hb:leI 7 t.1=true→k < ss.length∧possB t.1 t.2.2 (stAt ss k).1 (stAt ss k).2.1 (stAt ss k).2.2=true
 hs:ss.length≤100000
theorem aoa(ins vs:List alV)(inp xs:List Int): ∀ (ts:List TM) (a:LS),ts.foldl (fun a t=>lnS ins vs inp xs t a) a=aiL ins vs inp xs ts a
 | [],a=>rfl
 |t::r,a=>by rw [List.foldl_cons,aoa ins vs inp xs r];rfl
structure LineH (ins vs:List alV) (inp xs:List Int) (pre post ts:List TM):Prop where
 hi:bitsB ins.length inp=true
 hx:bitsB vs.length xs=true
 ok: ∃ e,htT ts 0=some e
 hu:ts.all (usedB ins vs)=true
 hn:ts.length≤40
 hbl:(pre++blT ts++post).length≤2000
 h1:leN ins.length 9223372036854775807=true
 h2:leN vs.length 9223372036854775807=true
theorem LineH.tm{ins vs:List alV}{inp xs:List Int}{pre post ts:List TM}(h:LineH ins vs inp xs pre post ts){i:Nat}{t:TM}{a:LS}(ht:ts[i]? =some t)(hI:akB pre post ts i a):
  TmOk ins vs inp xs t (a.1.drop (ltk t a.1)) a.2.2 a.2.1∧a.2.2≤a.2.1.length∧a.2.1.length≤2000∧(0≤takesK t.1∧takesK t.1≤a.1.length)∧a.1.length≤40∧akB pre post ts (i + 1) (lnS ins vs inp xs t a):=by
 obtain⟨e,ok⟩:=h.ok
 obtain⟨g1,g2,g3,g4,g5,g6,g7,g8,g9⟩:=aki (ins:=ins) (vs:=vs) h.hi h.hx ok ht hI
 have hi2:=(cO.1 h.hi).2
 have hx2:=(cO.1 h.hx).2
 have hil:=(j7.1 ht).1
 have hn:=h.hn
 have hbl:=h.hbl
 refine⟨⟨g3,g4,List.all_eq_true.1 h.hu t (List.mem_of_getElem? ht),h.h1,h.h2,by omega,by omega,fun h7=> ?_,by omega⟩,by omega,by omega,g1,by omega,g9⟩
 obtain⟨q1,q2⟩:=g6 h7
 exact⟨by omega,q2⟩
theorem apK{ins vs:List alV}{inp xs:List Int}{pre post ts:List TM}(h:LineH ins vs inp xs pre post ts)(u v:alV)(os:List alV)(ls:List LN)(ss:List BS3)(k:Nat)(h0:akB pre post ts 0 ([],ss,k)):
  bo.fin ((0:Int),(k:Int),ts,[],u,v,inp,ins,vs,os,ls,xs,ss)=true∧
  bo.res ((0:Int),(k:Int),ts,[],u,v,inp,ins,vs,os,ls,xs,ss)=
   (0,((ts.length:Int),((aiL ins vs inp xs ts ([],ss,k)).2.2:Int),ts,(aiL ins vs inp xs ts ([],ss,k)).1,u,v,inp,ins,vs,os,ls,xs,(aiL ins vs inp xs ts ([],ss,k)).2.1)):=by
 have my:=bo.along2 (fun i (a:LS)=>((i:Int),(a.2.2:Int),ts,a.1,u,v,inp,ins,vs,os,ls,xs,a.2.1)) (fun x=>(x.2.2.2.1,x.2.2.2.2.2.2.2.2.2.2.2.2,x.2.1.toNat))
  (fun(t:TM) a=> .inr (lnS ins vs inp xs t a)) 0 (fun i a=>akB pre post ts i a) ts ([],ss,k) h0 (by have:=h.hn;omega) (fun i t a hb hI=> ?_) (fun a hI=> ?_)
 ·rw [Xv (g:=fun a t=>lnS ins vs inp xs t a) (fun b a=>rfl),aoa]at my
  simpa using my
 ·obtain⟨hm,hk,hs,WT,hst,hI2⟩:=h.tm hb hI
  have eQ:=(j7.1 hb).1
  have hn:=h.hn
  have hw:IntKind.i64.wrap ((i:Int) + 1)=((i + 1:Nat):Int):=by rw [aJ (by omega) (by omega)];omega
  obtain⟨kd,nm,num⟩:=t
  obtain⟨stk,ss',k'⟩:=a
  simp only at hk hs WT hst hm
  have g0:bO (i:Int) ts=(kd,nm,num):=by simp only [bO,w5,hb,Option.getD_some]
  have g1:ot (i:Int) ts stk=((ltk (kd,nm,num) stk:Nat):Int):=by
   simp only [ot,g0,show ec kd=takesK kd from rfl,ltk]
   rw [aJ (by omega) (by omega)];omega
  have g2:cB (i:Int) ts stk=stk.drop (ltk (kd,nm,num) stk):=by
   simp only [cB,g1,w5,List.take_length]
  have g3:ov (i:Int) ts stk=stk.take (ltk (kd,nm,num) stk):=by
   simp only [ov,g1,w5,Int.toNat_zero,List.drop_zero]
  have q4:aG (i:Int) ts=(kd==1):=by simp only [aG,g0]
  have q5:aL (i:Int) ts=(kd==2):=by simp only [aL,g0]
  have q6:aM (i:Int) ts=(kd==3):=by simp only [aM,g0]
  have q7:aN (i:Int) ts=(kd==4):=by simp only [aN,g0]
  have q10:bd (i:Int) ts=(kd==5):=by simp only [bd,g0]
  have q13:cz (i:Int) ts=(kd==6):=by simp only [cz,g0]
  have q15:dF (k':Int) ss'=stAt ss' k':=by simp only [dF,w5,stAt]
  obtain⟨hT,ha,hu,h1,h2,hi,hx,hb7,hss⟩:=hm
  have hkk:=akz hT
  simp only at hT ha hu hb7 hkk
  have hbits:=(cO.1 ha).1
  have mn:=(cO.1 ha).2
  generalize hA:stk.drop (ltk (kd,nm,num) stk)=ar at g2 ha hbits mn
  have a0:=EQ hbits 0
  have a1:=EQ hbits 1
  have e14:qR (i:Int) ts stk=atZ ar 0:=by simp only [qR,g2];rfl
  have e1:v3 ar[j8 (1:Int)]? (0:Int)=atZ ar 1:=rfl
  have hlk:ltk (kd,nm,num) stk≤stk.length:=Nat.sub_le _ _
  have l0:ltI (i:Int) (ts.length:Int)=true:=cS (by omega)
  have l1:leI 0 (i:Int)=true:=bu (by omega)
  have l2:ltN i ts.length=true:=dI eQ
  have l3:leI 0 ((ltk (kd,nm,num) stk:Nat):Int)=true:=bu (by omega)
  have l4:leI ((ltk (kd,nm,num) stk:Nat):Int) (stk.length:Int)=true:=bu (by omega)
  have l5:leI (stk.length:Int) (stk.length:Int)=true:=bu (by omega)
  have hal:ar.length≤40:=by rw [← hA,List.length_drop];omega
  have l6:leN ar.length 1048576=true:=aR (by omega)
  have l6b:leN (List.take (ltk (kd,nm,num) stk) stk).length 1048576=true:=aR (by rw [List.length_take];omega)
  have l7:leN ((List.take (ltk (kd,nm,num) stk) stk).length + 1) 9223372036854775807=true:=aR (by rw [List.length_take];omega)
  have l8:leN (((List.take (ltk (kd,nm,num) stk) stk).length + 1) * 8) 140737488355328=true:=aR (by rw [List.length_take];omega)
  have z00:leI (0:Int) 0=true:=rfl
  have z01:leI (0:Int) 1=true:=rfl
  have y0:ib (i:Int) ts xs=xs:=w9 _ _
  have hfin:bF (i:Int) (k':Int) ts stk inp ins vs xs ss'= [tmV ins vs inp xs (kd,nm,num) ar (stAt ss' k')]∧
    cm (i:Int) (k':Int) ts=((bif leI 7 kd then k' + 1 else k':Nat):Int)∧cn (i:Int) (k':Int) ts stk ss'=(bif leI 7 kd then ss'.set k' (MW kd num ar (stAt ss' k'))else ss')∧
    (bo.lt ((i:Int),(k':Int),ts,stk,u,v,inp,ins,vs,os,ls,xs,ss')).nds=true:=by
   have hc:kd=1∨kd=2∨kd=3∨kd=4∨kd=5∨kd=6∨(7≤kd∧kd≤12):=by omega
   have n29: ∀ z:Int,leN (j9 (List.take (ltk (kd,nm,num) stk) stk) + j9 [z]) 9223372036854775807=true:=fun z=>l7
   have n30: ∀ z:Int,leN ((j9 (List.take (ltk (kd,nm,num) stk) stk) + j9 [z]) * 8) 140737488355328=true:=fun z=>l8
   rcases hc with rfl | rfl | rfl | rfl | rfl | rfl | hc
   ·have hr:ac9 ins vs nm=true:=by simpa [usedB] using hu
    obtain⟨v1,v2⟩:=amH nm ins vs inp xs hr h1 h2 hi hx
    have hv:bF (i:Int) (k':Int) ts stk inp ins vs xs ss'= [tmV ins vs inp xs (1,nm,num) ar (stAt ss' k')]:=by simp [bF,tmV,q4,g0,v1]
    refine⟨hv,?_,?_,?_⟩
    ·simp [cm,q4,show leI 7 (1:Int)=false from rfl]
    ·simp [cn,q4,show leI 7 (1:Int)=false from rfl]
    ·simp only [ee,kQ,kR,iN,iO,kS,kT,kU,kV,kW,jD,jE,jF,jG,jH,jI,jJ,jK,jL,jM,jN,jO,jP,jQ,jR,gZ,hO,hY,jS,jT,jU,hZ,cm,ia,ib,cn,eD,bo,LT.nds,allT,g0,g1,g2,g3,q4,q5,q6,q7,q10,q13,hv,v2,l0,l1,l2,l3,l4,l5,l6,l6b,n29,n30,z00,w5];rfl
   ·have hv:bF (i:Int) (k':Int) ts stk inp ins vs xs ss'= [tmV ins vs inp xs (2,nm,num) ar (stAt ss' k')]:=by simp [bF,tmV,q4,q5]
    refine⟨hv,?_,?_,?_⟩
    ·simp [cm,q4,q5,show leI 7 (2:Int)=false from rfl]
    ·simp [cn,q4,q5,show leI 7 (2:Int)=false from rfl]
    ·simp only [ee,kQ,kR,iN,iO,kS,kT,kU,kV,kW,jD,jE,jF,jG,jH,jI,jJ,jK,jL,jM,jN,jO,jP,jQ,jR,gZ,hO,hY,jS,jT,jU,hZ,cm,ia,ib,cn,eD,bo,LT.nds,allT,g0,g1,g2,g3,q4,q5,q6,q7,q10,q13,hv,l0,l1,l2,l3,l4,l5,l6,l6b,n29,n30,z00,w5];rfl
   ·have hv:bF (i:Int) (k':Int) ts stk inp ins vs xs ss'= [tmV ins vs inp xs (3,nm,num) ar (stAt ss' k')]:=by simp [bF,tmV,q4,q5,q6]
    refine⟨hv,?_,?_,?_⟩
    ·simp [cm,q4,q5,q6,show leI 7 (3:Int)=false from rfl]
    ·simp [cn,q4,q5,q6,show leI 7 (3:Int)=false from rfl]
    ·simp only [ee,kQ,kR,iN,iO,kS,kT,kU,kV,kW,jD,jE,jF,jG,jH,jI,jJ,jK,jL,jM,jN,jO,jP,jQ,jR,gZ,hO,hY,jS,jT,jU,hZ,cm,ia,ib,cn,eD,bo,LT.nds,allT,g0,g1,g2,g3,q4,q5,q6,q7,q10,q13,hv,l0,l1,l2,l3,l4,l5,l6,l6b,n29,n30,z00,w5];rfl
   ·have t:takesK 4=1:=rfl
    rw [t]at mn
    have s1:ic (i:Int) ts stk=true:=by simp only [ic,g2];exact cS (by omega)
    have s2:ie (i:Int) ts stk=true:=by simp only [ie,g2];exact dI (by simp only [Int.toNat_zero];omega)
    have hv:bF (i:Int) (k':Int) ts stk inp ins vs xs ss'= [tmV ins vs inp xs (4,nm,num) ar (stAt ss' k')]:=by simp [bF,tmV,q4,q5,q6,q7,e14,apU a0]
    refine⟨hv,?_,?_,?_⟩
    ·simp [cm,q4,q5,q6,q7,show leI 7 (4:Int)=false from rfl]
    ·simp [cn,q4,q5,q6,q7,show leI 7 (4:Int)=false from rfl]
    ·simp only [ee,kQ,kR,iN,iO,kS,kT,kU,kV,kW,jD,jE,jF,jG,jH,jI,jJ,jK,jL,jM,jN,jO,jP,jQ,jR,gZ,hO,hY,jS,jT,jU,hZ,cm,ia,ib,cn,eD,bo,LT.nds,allT,g0,g1,g2,g3,q4,q5,q6,q7,q10,q13,s1,s2,hv,l0,l1,l2,l3,l4,l5,l6,l6b,n29,n30,z00,w5];rfl
   ·have t:takesK 5=2:=rfl
    rw [t]at mn
    have s1:ic (i:Int) ts stk=true:=by simp only [ic,g2];exact cS (by omega)
    have s2:ie (i:Int) ts stk=true:=by simp only [ie,g2];exact dI (by simp only [Int.toNat_zero];omega)
    have s3:nG (i:Int) ts stk=true:=by simp only [nG,g2];exact cS (by omega)
    have s4:nH (i:Int) ts stk=true:=by simp only [nH,g2];exact dI (by have:(j8 1)=1:=rfl;omega)
    have hv:bF (i:Int) (k':Int) ts stk inp ins vs xs ss'= [tmV ins vs inp xs (5,nm,num) ar (stAt ss' k')]:=by
     have:=aoE a0 a1
     simp only [bF,tmV,q4,q5,q6,q7,q10,e14,g2,e1,this];rfl
    refine⟨hv,?_,?_,?_⟩
    ·simp [cm,q4,q5,q6,q7,q10,show leI 7 (5:Int)=false from rfl]
    ·simp [cn,q4,q5,q6,q7,q10,show leI 7 (5:Int)=false from rfl]
    ·simp only [ee,kQ,kR,iN,iO,kS,kT,kU,kV,kW,jD,jE,jF,jG,jH,jI,jJ,jK,jL,jM,jN,jO,jP,jQ,jR,gZ,hO,hY,jS,jT,jU,hZ,cm,ia,ib,cn,eD,bo,LT.nds,allT,g0,g1,g2,g3,q4,q5,q6,q7,q10,q13,s1,s2,s3,s4,hv,l0,l1,l2,l3,l4,l5,l6,l6b,n29,n30,z00,z01,w5];rfl
   ·have t:takesK 6=2:=rfl
    rw [t]at mn
    have s1:ic (i:Int) ts stk=true:=by simp only [ic,g2];exact cS (by omega)
    have s2:ie (i:Int) ts stk=true:=by simp only [ie,g2];exact dI (by simp only [Int.toNat_zero];omega)
    have s3:nG (i:Int) ts stk=true:=by simp only [nG,g2];exact cS (by omega)
    have s4:nH (i:Int) ts stk=true:=by simp only [nH,g2];exact dI (by have:(j8 1)=1:=rfl;omega)
    have hv:bF (i:Int) (k':Int) ts stk inp ins vs xs ss'= [tmV ins vs inp xs (6,nm,num) ar (stAt ss' k')]:=by
     have:=apW a0 a1
     simp only [bF,tmV,q4,q5,q6,q7,q10,q13,e14,g2,e1,this];rfl
    refine⟨hv,?_,?_,?_⟩
    ·simp [cm,q4,q5,q6,q7,q10,q13,show leI 7 (6:Int)=false from rfl]
    ·simp [cn,q4,q5,q6,q7,q10,q13,show leI 7 (6:Int)=false from rfl]
    ·simp only [ee,kQ,kR,iN,iO,kS,kT,kU,kV,kW,jD,jE,jF,jG,jH,jI,jJ,jK,jL,jM,jN,jO,jP,jQ,jR,gZ,hO,hY,jS,jT,jU,hZ,cm,ia,ib,cn,eD,bo,LT.nds,allT,g0,g1,g2,g3,q4,q5,q6,q7,q10,q13,s1,s2,s3,s4,hv,l0,l1,l2,l3,l4,l5,l6,l6b,n29,n30,z00,z01,w5];rfl
   ·have q:leI 7 kd=true:=bu hc.1
    obtain⟨b1,b2⟩:=hb7 q
    have hB:=Yv (t:=(kd,nm,num)) hT q
    simp only at hB
    obtain⟨p0,p1,p2,p3,p4,p5,p6⟩:=ah6 hB b2 ha
    have t1:(kd==1)=false:=by simp;omega
    have t2:(kd==2)=false:=by simp;omega
    have t3:(kd==3)=false:=by simp;omega
    have t4:(kd==4)=false:=by simp;omega
    have t5:(kd==5)=false:=by simp;omega
    have t6:(kd==6)=false:=by simp;omega
    have m0:leI 0 (k':Int)=true:=bu (by omega)
    have m1:ltI (k':Int) (ss'.length:Int)=true:=cS (by omega)
    have m2:ltN k' ss'.length=true:=dI b1
    have hw2:IntKind.i64.wrap ((k':Int) + 1)=((k' + 1:Nat):Int):=by rw [aJ (by omega) (by omega)];omega
    have hv:bF (i:Int) (k':Int) ts stk inp ins vs xs ss'= [tmV ins vs inp xs (kd,nm,num) ar (stAt ss' k')]:=by
     simp only [bF,tmV,q4,q5,q6,q7,q10,q13,t1,t2,t3,t4,t5,t6,cond_false,g0,q15,g2,anW]
    refine⟨hv,?_,?_,?_⟩
    ·simp only [cm,q4,q5,q6,q7,q10,q13,t1,t2,t3,t4,t5,t6,cond_false,q,cond_true,hw2]
    ·simp only [cn,q4,q5,q6,q7,q10,q13,t1,t2,t3,t4,t5,t6,cond_false,q,cond_true,g0,q15,g2,MW,w5]
    ·simp only [ee,kQ,kR,iN,iO,kS,kT,kU,kV,kW,jD,jE,jF,jG,jH,jI,jJ,jK,jL,jM,jN,jO,jP,jQ,jR,gZ,hO,hY,jS,jT,jU,hZ,cm,ia,ib,cn,eD,bo,LT.nds,allT,g0,g1,g2,g3,q4,q5,q6,q7,q10,q13,t1,t2,t3,t4,t5,t6,hv,p5,m0,m1,m2,l0,l1,l2,l3,l4,l5,l6,l6b,n29,n30,z00,z01,w5];rfl
  obtain⟨f1,f2,f3,f4⟩:=hfin
  refine⟨f4,?_,?_,fun a' hf=> ?_⟩
  ·have c31:hZ (i:Int)=((i + 1:Nat):Int):=hw
   have c0:ee (i:Int) ts=true:=l0
   simp only [bo,eD,LT.each,c0,c31,f2,y0,w5]
   simp
  ·have c0:ee (i:Int) ts=true:=l0
   simp only [bo,eD,LT.fn,c0,cond_true,ia,f1,f2,f3,g3,w5,lnS,hA]
  ·simp only [Sum.inr.injEq]at hf
   subst hf;exact hI2
 ·have lz:ee (ts.length:Int) ts=false:=wO (by omega)
  simp only [bo,eD,LT.out,lz]
  rfl
structure ScH (ins vs os:List alV) (inp:List Int) (ls:List LN):Prop where
 hi:bitsB ins.length inp=true
 hL:ls.all lineB=true
 hm:ls.all (madeB vs os)=true
 hu:ls.all (fun l=>l.2.all (usedB ins vs))=true
 hn:ls.length≤40
 h1:ins.length≤20
 h2:vs.length≤20
 h3:os.length≤20
theorem api: ∀ (ls:List LN),ls.all lineB=true→(blL ls).length≤40 * ls.length
 | [],_=>by simp [blL]
 |l::r,h=>by
  simp only [List.all_cons,q9]at h
  have h1:=api r h.2
  have h2:=(afx h.1).2.1
  have h3:(blT l.2).length≤l.2.length:=List.length_filter_le ..
  have h4:blL (l::r)=blT l.2++blL r:=rfl
  rw [h4,List.length_append,List.length_cons]
  omega
theorem ScH.bl{ins vs os:List alV}{inp:List Int}{ls:List LN}(h:ScH ins vs os inp ls):(blL ls).length≤1600:=by
 have:=api ls h.hL
 have:=h.hn
 omega
theorem ScH.line{ins vs os:List alV}{inp:List Int}{ls:List LN}(h:ScH ins vs os inp ls){i:Nat}{a:SS4}{l:LN}(hl:ls[i]? =some l)(hI:ScAt vs os ls i a):
  LineH ins vs inp a.1 (blL (ls.take i)) (blL (ls.drop (i + 1))) l.2:=by
 have hm:=List.mem_of_getElem? hl
 obtain⟨q1,q2,q3⟩:=afx (List.all_eq_true.1 h.hL l hm)
 have h1:=h.h1
 have h2:=h.h2
 have hb:=h.bl
 rw [(abx hl).1]at hb
 exact⟨h.hi,hI.hx,⟨1,q3⟩,List.all_eq_true.1 h.hu l hm,q2,by omega,aR (by omega),aR (by omega)⟩
theorem apJ{ins vs os:List alV}{inp:List Int}{ls:List LN}(h:ScH ins vs os inp ls){i:Nat}{a:SS4}{l:LN}(hl:ls[i]? =some l)(hI:ScAt vs os ls i a)(u v:alV):
  BO u v (a.2.2.2:Int) ins vs os ls a.1 a.2.2.1 inp l.2=atZ (lnV ins vs inp l a).1 0∧
  BP u v (a.2.2.2:Int) ins vs os ls a.1 a.2.2.1 inp l.2=a.1∧
  BQ u v (a.2.2.2:Int) ins vs os ls a.1 a.2.2.1 inp l.2=(scS ins vs os inp l a).2.2.1∧
  BR u v (a.2.2.2:Int) ins vs os ls a.1 a.2.2.1 inp l.2=true:=by
 obtain⟨w1,w2⟩:=apK (h.line hl hI) u v os ls a.2.2.1 a.2.2.2 (akw hl hI)
 have hm:=List.mem_of_getElem? hl
 obtain⟨g1,g2,g3⟩:=ag0 (ins:=ins) (inp:=inp) h.hi (List.all_eq_true.1 h.hL l hm) hl hI
 rw [show aiL ins vs inp a.1 l.2 ([],a.2.2.1,a.2.2.2)=lnV ins vs inp l a from rfl]at w2
 have e2:vB u v (a.2.2.2:Int) ins vs os ls a.1 a.2.2.1 inp l.2=(lnV ins vs inp l a).1:=by
  simp only [vB,vA,rO,w2]
 have z0:leI (0:Int) 0=true:=rfl
 have k1:ltI 0 ((lnV ins vs inp l a).1.length:Int)=true:=by rw [g1];rfl
 have k2:ltN (j8 0) (lnV ins vs inp l a).1.length=true:=by rw [g1];rfl
 have hf:Lp.fin bo (rO u v (a.2.2.2:Int) ins vs os ls a.1 a.2.2.1 inp l.2)=true:=w1
 refine⟨?_,?_,?_,?_⟩
 ·simp only [BO,e2];rfl
 ·simp only [BP,AO,vA,rO,w2]
 ·simp only [BQ,AO,vA,rO,w2,scS]
 ·simp only [BR,hf,e2,z0,k1,k2,allT,cond_true]
def am5(n:Nat)(t:TM):Nat:=bif leI 7 t.1 then n + 1 else n
theorem akb: ∀ (ts:List TM) (n:Nat),ts.foldl am5 n=n + (blT ts).length
 | [],n=>by simp [blT]
 |t::r,n=>by
  rw [List.foldl_cons,akb r]
  simp only [am5,blT,List.filter_cons]
  cases leI 7 t.1 <;> simp <;> omega
theorem aq8(u v:alV)(ins vs os:List alV)(ls:List LN){i k:Nat}{l:LN}(hl:ls[i]? =some l)(hn:l.2.length≤40)(hk:k≤2000):
  eS.fin ((0:Int),(i:Int),(k:Int),u,v,ins,vs,os,ls)=true∧
  eS.res ((0:Int),(i:Int),(k:Int),u,v,ins,vs,os,ls)=(0,((l.2.length:Int),(i:Int),((k + (blT l.2).length:Nat):Int),u,v,ins,vs,os,ls)):=by
 have eQ:=(j7.1 hl).1
 have n0:leI 0 (i:Int)=true:=bu (by omega)
 have n1:ltI (i:Int) (ls.length:Int)=true:=cS (by omega)
 have n2:ltN i ls.length=true:=dI eQ
 have ry: ∀ d:LN,v3 ls[i]? d=l:=fun d=>by rw [hl];rfl
 have g0:vC (i:Int) ls=l.2:=by simp only [vC,w5];exact congrArg Prod.snd (ry _)
 have my:=eS.along2 (fun j (a:Nat)=>((j:Int),(i:Int),(a:Int),u,v,ins,vs,os,ls)) (fun x=>x.2.2.1.toNat)
  (fun(t:TM) a=> .inr (am5 a t)) 0 (fun j a=>a≤k + j) l.2 k (by omega) (by omega) (fun j t a hb hI=> ?_) (fun a hI=> ?_)
 ·rw [Xv (g:=am5) (fun b a=>rfl),akb]at my
  simpa using my
 ·have hjt:=(j7.1 hb).1
  have hw:IntKind.i64.wrap ((j:Int) + 1)=((j + 1:Nat):Int):=by rw [aJ (by omega) (by omega)];omega
  have hw2:IntKind.i64.wrap ((a:Int) + 1)=((a + 1:Nat):Int):=by rw [aJ (by omega) (by omega)];omega
  have l0:leI 0 (j:Int)=true:=bu (by omega)
  have l1:ltI (j:Int) (l.2.length:Int)=true:=cS (by omega)
  have l2:ltN j l.2.length=true:=dI hjt
  have c7:Iz (j:Int) (i:Int) (a:Int) ls=((am5 a t:Nat):Int):=by
   simp only [Iz,g0,w5,hb,Option.getD_some,hw2,am5]
   cases leI 7 t.1 <;> rfl
  refine⟨?_,?_,?_,fun a' hf=> ?_⟩
  ·simp only [eS,vk,BU,BV,BW,sZ,QS,QT,LT.nds,allT,g0,n0,n1,n2,l0,l1,l2,w5,cond_true,Bool.and_self]
  ·simp only [eS,vk,sZ,QU,LT.each,c7,g0,l1,hw,w5,Bool.and_true,and_self]
  ·simp only [eS,vk,sZ,LT.fn,c7,g0,l1,w5,cond_true]
  ·simp only [Sum.inr.injEq]at hf
   subst hf
   simp only [am5]
   cases leI 7 t.1 <;> simp <;> omega
 ·have lz:ltI (l.2.length:Int) (l.2.length:Int)=false:=wO (by omega)
  simp [eS,vk,BU,BV,BW,sZ,LT.out,g0,n0,n1,n2,lz,allT]
theorem aob(ins vs os:List alV)(inp:List Int): ∀ (ls:List LN) (a:SS4),ls.foldl (fun a l=>scS ins vs os inp l a) a=anP ins vs os inp ls a
 | [],a=>rfl
 |l::r,a=>by rw [List.foldl_cons,aob ins vs os inp r];rfl
theorem ap4{ins vs os:List alV}{inp xs:List Int}{ss:List BS3}{ls:List LN}(h:ScH ins vs os inp ls)(hs:vL vs.length (blL ls) xs ss=true)(u v:alV):
  gD.fin ((0:Int),(0:Int),u,v,inp,v5 os.length 0,ins,vs,os,ls,xs,ss)=true∧
  gD.res ((0:Int),(0:Int),u,v,inp,v5 os.length 0,ins,vs,os,ls,xs,ss)=
   (0,((ls.length:Int),((scE ins vs os ls inp xs ss).2.2.2:Int),u,v,inp,(scE ins vs os ls inp xs ss).2.1,ins,vs,os,ls,(scE ins vs os ls inp xs ss).1,(scE ins vs os ls inp xs ss).2.2.1)):=by
 obtain⟨s1,s2,s3⟩:=Xs.1 hs
 have h0:ScAt vs os ls 0 (xs,v5 os.length 0,ss,0):=⟨s2,cO.2 ⟨fun z hz=> .inl (List.eq_of_mem_replicate hz),by simp⟩,s1,s3,by simp [blL]⟩
 have hn:=h.hn
 have h2:=h.h2
 have h3:=h.h3
 have my:=gD.along2 (fun i (a:SS4)=>((i:Int),(a.2.2.2:Int),u,v,inp,a.2.1,ins,vs,os,ls,a.1,a.2.2.1)) (fun x=>(x.2.2.2.2.2.2.2.2.2.2.1,x.2.2.2.2.2.1,x.2.2.2.2.2.2.2.2.2.2.2,x.2.1.toNat))
  (fun(l:LN) a=> .inr (scS ins vs os inp l a)) 0 (fun i a=>ScAt vs os ls i a) ls (xs,v5 os.length 0,ss,0) h0 (by omega) (fun i l a hb hI=> ?_) (fun a hI=> ?_)
 ·rw [Xv (g:=fun a l=>scS ins vs os inp l a) (fun b a=>rfl),aob]at my
  simpa [scE] using my
 ·have eQ:=(j7.1 hb).1
  have hm:=List.mem_of_getElem? hb
  have hL:=List.all_eq_true.1 h.hL l hm
  have hw:IntKind.i64.wrap ((i:Int) + 1)=((i + 1:Nat):Int):=by rw [aJ (by omega) (by omega)];omega
  obtain⟨g1,g2,g3⟩:=ag0 (ins:=ins) (inp:=inp) h.hi hL hb hI
  obtain⟨r0,r1,r2,r3⟩:=apJ h hb hI u v
  have hbl:=h.bl
  have hsp:=(abx hb).2
  have hspl:=(abx hb).1
  have hk1:=hI.hk
  have hk2:=g3.hk
  have hkk:a.2.2.2≤2000:=by
   rw [hspl,List.length_append,List.length_append]at hbl
   omega
  obtain⟨c1,c2⟩:=aq8 u v ins vs os ls hb (afx hL).2.1 hkk
  have hknew:a.2.2.2 + (blT l.2).length=(scS ins vs os inp l a).2.2.2:=by omega
  have hmd:(ES vs l.1||ES os l.1)=true:=List.all_eq_true.1 h.hm l hm
  have hx:=(cO.1 hI.hx).2
  have ho:=(cO.1 hI.ho).2
  have q0:Ma (i:Int) ls=true:=cS (by omega)
  have q1:Mb (i:Int) ls=true:=dI (by simpa using eQ)
  have ry: ∀ d:LN,v3 ls[i]? d=l:=fun d=>by rw [hb];rfl
  have q2:pP (i:Int) ls=l:=by simp only [pP,w5];exact ry _
  have q3:dA (i:Int) vs ls=uT vs l.1:=by simp only [dA,q2]
  have q5:wl (i:Int) os ls=uT os l.1:=by simp only [wl,q2]
  have q4:wj (i:Int) (a.2.2.2:Int) u v inp ins vs os ls a.1 a.2.2.1=a.1:=by simp only [wj,q2,r1]
  have q7:Fv (i:Int) (a.2.2.2:Int) u v inp ins vs os ls a.1 a.2.2.1=atZ (lnV ins vs inp l a).1 0:=by simp only [Fv,q2,r0]
  have p1:NJ (i:Int)=true:=bu (by omega)
  have p3:NL (i:Int) (a.2.2.2:Int) u v inp ins vs os ls a.1 a.2.2.1=true:=by simp only [NL,q2,r3]
  have p4:UZ vs=true:=aR (by omega)
  have p15:TK (i:Int) (a.2.2.2:Int) u v ins vs os ls=true:=c1
  have p16:TL (i:Int)=((i + 1:Nat):Int):=hw
  have p17:LW (i:Int) (a.2.2.2:Int) u v ins vs os ls=((scS ins vs os inp l a).2.2.2:Int):=by
   simp only [LW,Mc,c2,hknew]
  have p20:LZ (i:Int) (a.2.2.2:Int) u v inp ins vs os ls a.1 a.2.2.1=(scS ins vs os inp l a).2.2.1:=by simp only [LZ,q2,r2]
  have p18:LX (i:Int) (a.2.2.2:Int) u v inp a.2.1 ins vs os ls a.1 a.2.2.1=(scS ins vs os inp l a).2.1:=by
   simp only [LX,q3,q5,q7,ad2,scS]
   cases hv:ES vs l.1 with
   |true=>rfl
   |false=>
    have ho':ES os l.1=true:=by simpa [hv] using hmd
    simp only [cond_false,abP ho',w5]
  have p19:LY (i:Int) (a.2.2.2:Int) u v inp ins vs os ls a.1 a.2.2.1=(scS ins vs os inp l a).1:=by
   simp only [LY,q3,q4,q7,ad2,scS]
   cases hv:ES vs l.1 with
   |true=>simp only [cond_true,abP hv,w5]
   |false=>rfl
  have pm:NM (i:Int) vs ls=true∧NN (i:Int) (a.2.2.2:Int) u v inp ins vs os ls a.1 a.2.2.1=true∧NO (i:Int) (a.2.2.2:Int) u v inp ins vs os ls a.1 a.2.2.1=true∧
    NP (i:Int) vs ls=true∧NQ (i:Int) vs ls=true∧LP (i:Int) vs ls=true∧LQ (i:Int) vs os ls=true∧
    LR (i:Int) vs os ls=true∧LU (i:Int) a.2.1 vs os ls=true∧LV (i:Int) a.2.1 vs os ls=true:=by
   simp only [NM,NN,NO,NP,NQ,LP,LQ,LR,LU,LV,q0,q1,q3,q4,q5,ad2]
   have m1:leI 0 (i:Int)=true:=p1
   have m2:leN os.length 9223372036854775807=true:=aR (by omega)
   cases hv:ES vs l.1 with
   |true=>
    have hp:=afL hv
    have k1:ltI (Xl vs l.1:Int) (a.1.length:Int)=true:=cS (by omega)
    have k2:ltN (Xl vs l.1) a.1.length=true:=dI (by omega)
    simp only [abP hv,aqW.1,k1,k2,w5,w8,Bool.true_or,and_self]
   |false=>
    have ho':ES os l.1=true:=by simpa [hv] using hmd
    have hp:=afL ho'
    have k1:ltI (Xl os l.1:Int) (a.2.1.length:Int)=true:=cS (by omega)
    have k2:ltN (Xl os l.1) a.2.1.length=true:=dI (by omega)
    simp only [ho',abP ho',aqW.1,k1,k2,m1,m2,w5,w8,Bool.true_or,Bool.not_false,and_self]
  obtain⟨m5,m6,m7,m8,m9,m10,m11,m12,m13,m14⟩:=pm
  have p0:BT (i:Int) ls=true:=q0
  have p2:NK (i:Int) ls=true:=q1
  refine⟨?_,?_,?_,fun a' hf=> ?_⟩
  ·simp only [gD,zO,LT.nds,allT,p0,p1,p2,p3,p4,m5,m6,m7,m8,m9,m10,m11,m12,m13,m14,p15,cond_true,Bool.and_self]
  ·simp only [gD,zO,LT.each,p0,p16,p17,p18,p19,p20,w5,Bool.and_true,and_self]
  ·simp only [gD,zO,LT.fn,p0,p17,p18,p19,p20,w5,cond_true]
  ·simp only [Sum.inr.injEq]at hf
   subst hf;exact g3
 ·have lz:BT (ls.length:Int) ls=false:=wO (by omega)
  simp [gD,zO,LT.out,lz]
theorem alW: ∀ (ts:List TM) (n e:Int),htT ts n=some e→Ss (blT ts)=true
 | [],n,e,_=>rfl
 |t::r,n,e,h=>by
  simp only [htT]at h
  cases hc:(termB t.1 t.2.1 t.2.2&&leI (takesK t.1) n)with
  |false=>rw [hc]at h;cases h
  |true=>
   rw [hc,cond_true]at h
   simp only [q9]at hc
   have h1:=alW r _ e h
   cases h7:leI 7 t.1 with
   |false=>simpa only [blT,List.filter_cons,h7,Bool.false_eq_true,if_false] using h1
   |true=>
    simp only [blT,List.filter_cons,h7,if_true,Ss,List.all_cons,q9]
    exact⟨Yv hc.1 h7,h1⟩
theorem alC: ∀ (ls:List LN),ls.all lineB=true→Ss (blL ls)=true
 | [],_=>rfl
 |l::r,h=>by
  simp only [List.all_cons,q9]at h
  have h1:=alC r h.2
  have h2:=alW _ _ _ (afx h.1).2.2
  have h4:blL (l::r)=blT l.2++blL r:=rfl
  simp only [Ss]at h1 h2
  simp only [h4,Ss,List.all_append,h1,h2,Bool.and_self]
theorem ag2{nm:alV}{ins vs os:List alV}{g:alV}{ls:List LN}(h:yR nm ins vs os g ls=true):
  (g.toList== []||ac9 ins vs g)=true∧ls.all lineB=true∧ls.all (madeB vs os)=true∧ls.all (fun l=>l.2.all (usedB ins vs))=true∧ls.length≤40∧ins.length≤20∧vs.length≤20∧os.length≤20:=by
 simp only [yR,amJ,aqM,aiW,q9,tE]at h
 obtain⟨⟨_,⟨_,i1⟩,⟨_,i2⟩,⟨_,i3⟩,_,hL,hn⟩,_,hg,hm,_,_,hu⟩:=h
 exact⟨hg,hL,hm,hu,by omega,by omega,by omega,by omega⟩
theorem alf{nm:alV}{ins vs os:List alV}{g:alV}{ls:List LN}{inp:List Int}(h:yR nm ins vs os g ls=true)(hi:bitsB ins.length inp=true):ScH ins vs os inp ls:=by
 obtain⟨_,hL,hm,hu,hn,h1,h2,h3⟩:=ag2 h
 exact⟨hi,hL,hm,hu,hn,h1,h2,h3⟩
def scG(nm:alV)(ins vs os:List alV)(g:alV)(ls:List LN)(xs:List Int)(ss:List BS3)(inp:List Int):Bool:=yR nm ins vs os g ls&&(vL vs.length (blL ls) xs ss&&bitsB ins.length inp)
theorem afR{nm:alV}{ins vs os:List alV}{g:alV}{ls:List LN}{xs:List Int}{ss:List BS3}{inp:List Int}:
  scG nm ins vs os g ls xs ss inp=true↔yR nm ins vs os g ls=true∧vL vs.length (blL ls) xs ss=true∧bitsB ins.length inp=true:=by
 simp only [scG,q9]
theorem amC(nm:alV)(ins vs os:List alV)(g:alV)(ls:List LN)(xs:List Int)(ss:List BS3)(inp:List Int)(h:scG nm ins vs os g ls xs ss inp=true):
  TG nm g ins vs os ls xs ss inp=scO ins vs os g ls inp xs ss∧TH nm g ins vs os ls xs ss inp=scV ins vs os ls inp xs ss∧
  TI nm g ins vs os ls xs ss inp=scB ins vs os ls inp xs ss∧TJ nm g ins vs os ls xs ss inp=true:=by
 obtain⟨h1,h2,h3⟩:=afR.1 h
 obtain⟨hg,_⟩:=ag2 h1
 have hS:=alf h1 h3
 obtain⟨w1,w2⟩:=ap4 hS h2 nm g
 have hE:=ap3 (os:=os) h3 hS.hL h2
 obtain⟨s1,s2,s3⟩:=Xs.1 h2
 have hb:=hS.bl
 have b1:=hS.h1
 have b2:=hS.h2
 have b3:=hS.h3
 have hx2:=(cO.1 s2).2
 have a1:KT os=v5 os.length 0:=by simp only [KT,w5]
 have a0:Bp g= !(g.toList== []):=by simp only [Bp,Xg]
 have e3:KU nm g ins vs os ls xs ss inp=((scE ins vs os ls inp xs ss).2.1,ins,vs,os,ls,(scE ins vs os ls inp xs ss).1,(scE ins vs os ls inp xs ss).2.2.1):=by
  simp only [KU,FR,a1,w2]
 have e5:Bq nm g ins vs os ls xs ss inp=(scE ins vs os ls inp xs ss).1:=by simp only [Bq,KV,e3]
 have e8:KX nm g ins vs os ls xs ss inp=(scE ins vs os ls inp xs ss).2.2.1:=by simp only [KX,KV,e3]
 have e7:KW nm g ins vs os ls xs ss inp=(scE ins vs os ls inp xs ss).1:=by simp only [KW,e5];exact w9 _ _
 have e9:KY nm g ins vs os ls xs ss inp=(scE ins vs os ls inp xs ss).2.2.1:=by simp only [KY,e8];exact w9 _ _
 have hv:(g.toList== [])=false→uO g ins vs (scE ins vs os ls inp xs ss).1 inp=nmV ins vs inp (scE ins vs os ls inp xs ss).1 g∧uP g ins vs (scE ins vs os ls inp xs ss).1 inp=true:=fun hgg=>by
  rw [hgg,Bool.false_or]at hg
  have q1:=(cO.1 h3).2
  have q2:=(cO.1 hE.hx).2
  exact amH g ins vs inp _ hg (aR (by omega)) (aR (by omega)) (by omega) (by omega)
 have e6:rY nm g ins vs os ls xs ss inp=(!(g.toList== [])&&nmV ins vs inp (scE ins vs os ls inp xs ss).1 g==0):=by
  simp only [rY,a0,e5]
  cases hgg:g.toList== []with
  |true=>rfl
  |false=>simp only [Bool.not_false,cond_true,(hv hgg).1,Bool.true_and]
 refine⟨?_,?_,?_,?_⟩
 ·simp only [TG,e6,e3,a1,scO]
 ·simp only [TH,e7,scV];exact w9 _ _
 ·simp only [TI,e9,scB];exact w9 _ _
 ·have f1:Lp.fin gD (FR nm g ins vs os ls xs ss inp)=true:=by simp only [FR,a1];exact w1
  have f0:Ql xs ss=true:=by
   simp only [Ql,allT,aR (show xs.length≤1048576 by omega),aR (show 0 + ss.length≤9223372036854775807 by omega),aR (show (0 + ss.length) * 24≤140737488355328 by omega),cond_true]
  have f2:leI 0 (os.length:Int)=true:=bu (by omega)
  have f3:leI (os.length:Int) (os.length:Int)=true:=bu (by omega)
  have f4:leI (((8:Nat):Int) * (os.length:Int)) 281474976710656=true:=bu (by omega)
  have f5:leI (os.length:Int) 9223372036854775807=true:=bu (by omega)
  have f6:PI os=true:=f3
  have f7:PJ os=true:=f4
  simp only [TJ,f0,f1,f2,f5,f6,f7,a0,e5,allT,w8,cond_true,Bool.and_true]
  cases hgg:g.toList== []with
  |true=>rfl
  |false=>simp only [(hv hgg).2];rfl
def aaB:List SV→List Entry→Option Out
 | [.one ⟨true,[.val (.string x0),.ref 0,.ref 1,.ref 2,.val (.string x1),.ref 3]⟩,.one ⟨true,[.ref 4,.ref 5]⟩,.one ⟨false,[.ref 6]⟩],[.row false 9 (.str) x2,.row false 9 (.str) x3,.row false 9 (.str) x4,.row false 142 (.pair (.str) (.sl 122 (.pair (.int .i64) (.pair (.str) (.int .i64))))) x5,.row false 2 (.int .i64) x6,.row false 109 (.pair (.int .i64) (.pair (.int .i64) (.int .i64))) x7,.row false 2 (.int .i64) x8]=>some ⟨.tup [⟨false,[.ref 7]⟩,⟨true,[.ref 8,.ref 9]⟩],[.row false 9 alu x2,.row false 9 alu x3,.row false 9 alu x4,.row false 142 (CTy.pair CTy.str (CTy.sl (122:TypeId) afs)) x5,.row false 2 akd x6,.row false 109 ac0 x7,.row false 2 akd x8],[.row true 2 akd (scO x2 x3 x4 x1 x5 x8 x6 x7),.row true 2 akd (scV x2 x3 x4 x5 x8 x6 x7),.row true 109 ac0 (scB x2 x3 x4 x5 x8 x6 x7)],[scG x0 x2 x3 x4 x1 x5 x6 x7 x8]⟩
 |_,_=>none
def tN:PF prog:=PF.alt ajb aaB (by
 intro args es o h cf;unfold aaB at h;split at h
 ·rename_i x0 x1 x2 x3 x4 x5 x6 x7 x8
  cases h
  have cf:=iw cf
  have hh:=amC x0 x2 x3 x4 x1 x5 x6 x7 x8 cf
  obtain⟨e0,e1,e2,en⟩:=hh
  exact mK rfl (gE en) rfl rfl (by simp only [e0,e1,e2] <;> rfl)
 ·cases h)
section
variable (x3:List alV)(x5:List (alV×List (Int×alV×Int)))
def Rp:List Int:=v5 (j8 (↑x3.length:Int)) (0:Int)
def Rq:List (Int×(Int×Int)):=v5 (j8 (↑(j9 (blL x5)):Int)) ((0:Int),(0:Int),(0:Int))
def KS:Bool:=allT [leI 0 (↑x3.length:Int),leI (↑x3.length:Int) (↑x3.length:Int),leI ((↑(8:Nat):Int) * (↑x3.length:Int)) 281474976710656,leI (↑x3.length:Int) 9223372036854775807,afy x5,leI 0 (↑(j9 (blL x5)):Int),leI (↑(j9 (blL x5)):Int) (↑(j9 (blL x5)):Int),leI ((↑(24:Nat):Int) * (↑(j9 (blL x5)):Int)) 281474976710656,leI (↑(j9 (blL x5)):Int) 9223372036854775807]
end
def YJ:List SV→List Entry→Option Out
 | [.one ⟨true,[.val (.string _x0),.ref 0,.ref 1,.ref 2,.val (.string _x1),.ref 3]⟩],[.row false 9 (.str) x2,.row false 9 (.str) x3,.row false 9 (.str) x4,.row false 142 (.pair (.str) (.sl 122 (.pair (.int .i64) (.pair (.str) (.int .i64))))) x5]=>some ⟨.one ⟨true,[.ref 4,.ref 5]⟩,[.row false 9 alu x2,.row false 9 alu x3,.row false 9 alu x4,.row false 142 (CTy.pair CTy.str (CTy.sl (122:TypeId) afs)) x5],[.row true 2 akd (Rp x3),.row true 109 ac0 (Rq x5)],[KS x3 x5]⟩
 |_,_=>none
def rX:PF prog:=PF.ofG prog (T3z [lA]) [] bG 101 f101 func101 (fun c _=>LOk.nil c) YJ (by
 intro vs es r h;unfold YJ at h;split at h
 ·cases h;kernel_rfl
 ·cases h)
abbrev oh:=Int×List (List Int)×alV×alV×List alV×List alV×List alV×List (alV×(List (Int×(alV×Int))))×List Int×List (Int×(Int×Int))
section
variable (y0:Int)(y1:List (List Int))(y4:List alV)
def ru:List Int:=v3 y1[j8 y0]? (uS ahG)
def zs:Bool:=ltI y0 (↑y1.length:Int)
def DZ:Bool:=leI 0 y0
def Ea:Bool:=ltN y0.toNat y1.length
def Eb:Bool:=leN (j9 (ru y0 y1)) 9223372036854775807
def Ec:Bool:= !bitsB (↑y4.length:Int) (ru y0 y1)
def Ed:Int:=v4 .i64 (y0 + (1:Int))
end
def ae7:oh→List (Nat×SV)
 |(y0,_,_,_,_,_,_,_,_,_)=> [(7,(.one ⟨false,[.val (.int .i64 y0)]⟩)),(1,(.one ⟨false,[.ref 0]⟩)),(2,(.one ⟨false,[.ptr 1 0]⟩)),(5,(.one ⟨false,[.ptr 2 0]⟩))]
def ae4:oh→List (Nat×Entry)
 |(_,y1,y2,y3,y4,y5,y6,y7,y8,y9)=> [(0,(.row false 28 ahG y1)),(1,(.box 43 [.val (.string y2),.ref 3,.ref 4,.ref 5,.val (.string y3),.ref 6])),(2,(.box 50 [.ref 7,.ref 8])),(3,(.row false 9 alu y4)),(4,(.row false 9 alu y5)),(5,(.row false 9 alu y6)),(6,(.row false 142 aaY y7)),(7,(.row true 2 akd y8)),(8,(.row true 109 ac0 y9))]
def afd:Nat→oh→List (Nat×SV)
 |0,(_,_,_,_,_,_,_,_,_,_)=> [(4,(.one ⟨false,[.ref 9]⟩)),(6,(.one ⟨false,[.val (.int .i64 2)]⟩))]
 |_,(_,_,_,_,_,_,_,_,_,_)=> []
def afa:Nat→oh→List (Nat×Entry)
 |0,(_,y1,y2,y3,y4,y5,y6,y7,y8,y9)=> [(0,(.row false 28 ahG y1)),(1,(.box 43 [.val (.string y2),.ref 3,.ref 4,.ref 5,.val (.string y3),.ref 6])),(2,(.box 50 [.ref 10,.ref 11])),(3,(.row false 9 alu y4)),(4,(.row false 9 alu y5)),(5,(.row false 9 alu y6)),(6,(.row false 142 aaY y7)),(7,(.row true 2 akd y8)),(8,(.row true 109 ac0 y9)),(9,(.row true 28 ahG [])),(10,(.row true 2 akd [])),(11,(.row true 109 ac0 []))]
 |_,(_,y1,y2,y3,y4,y5,y6,y7,y8,y9)=> [(0,(.row false 28 ahG y1)),(1,(.box 43 [.val (.string y2),.ref 3,.ref 4,.ref 5,.val (.string y3),.ref 6])),(2,(.box 50 [.ref 7,.ref 8])),(3,(.row false 9 alu y4)),(4,(.row false 9 alu y5)),(5,(.row false 9 alu y6)),(6,(.row false 142 aaY y7)),(7,(.row true 2 akd y8)),(8,(.row true 109 ac0 y9))]
def BE:oh→LT oh
 |(y0,y1,y2,y3,y4,y5,y6,y7,y8,y9)=> .ite (zs y0 y1) (.need [DZ y0,zs y0 y1,Ea y0 y1,Eb y0 y1] (.ite (Ec y0 y1 y4) (.ext 0 [(0,0),(1,1),(2,2),(3,3),(4,4),(5,5),(6,6),(7,7),(8,8),(9,960),(10,896),(11,897)]) (.nrm ((Ed y0),y1,y2,y3,y4,y5,y6,y7,y8,y9) [(0,0),(1,1),(2,2),(3,3),(4,4),(5,5),(6,6),(7,7),(8,8)]))) (.ext 1 [(0,0),(1,1),(2,2),(3,3),(4,4),(5,5),(6,6),(7,7),(8,8)])
def Ng(s:St):Option oh:=
 (match s.look 7 with
 |some ⟨none,.one ⟨false,[.val (.int .i64 y0)]⟩⟩=>
 (match s.look 1 with
 |some ⟨none,.one ⟨false,[.ref 4]⟩⟩=>
 (match s.look 2 with
 |some ⟨none,.one ⟨false,[.ptr 384 0]⟩⟩=>
 (match s.look 5 with
 |some ⟨none,.one ⟨false,[.ptr 512 0]⟩⟩=>
 (match s.ent 4 with
 |some (.row false 28 (.sl 2 (.int .i64)) y1)=>
 (match s.ent 384 with
 |some (.box 43 [.val (.string y2),.ref 0,.ref 1,.ref 2,.val (.string y3),.ref 3])=>
 (match s.ent 512 with
 |some (.box 50 [.ref 513,.ref 514])=>
 (match s.ent 0 with
 |some (.row false 9 (.str) y4)=>
 (match s.ent 1 with
 |some (.row false 9 (.str) y5)=>
 (match s.ent 2 with
 |some (.row false 9 (.str) y6)=>
 (match s.ent 3 with
 |some (.row false 142 (.pair .str (.sl 122 (.pair (.int .i64) (.pair .str (.int .i64))))) y7)=>
 (match s.ent 513 with
 |some (.row true 2 (.int .i64) y8)=>
 (match s.ent 514 with
 |some (.row true 109 (.pair (.int .i64) (.pair (.int .i64) (.int .i64))) y9)=>
 some (y0,y1,y2,y3,y4,y5,y6,y7,y8,y9)
 |_=>none)
 |_=>none)
 |_=>none)
 |_=>none)
 |_=>none)
 |_=>none)
 |_=>none)
 |_=>none)
 |_=>none)
 |_=>none)
 |_=>none)
 |_=>none)
 |_=>none)
def gB:Lp oh where
 h:=⟨[21,22,23,24,27,28,29,30,31,32,33,34,35,36,4,6,25,26,7],[0,1,2,3,4,5,6,7,8],[],[9,10,11]⟩
 JL:=ae7
 JE:=ae4
 XL:=afd
 XE:=afa
 q:=fun j=>match j with | 0=> .ret | _=> .exit 0
 tags:= [0,1]
 lt:=BE
 fuel:=fun(y0,y1,y2,y3,y4,y5,y6,y7,y8,y9)=>y0.natAbs + y1.length + y2.size + y3.size + y4.length + y5.length + y6.length + y7.length + y8.length + y9.length
 fix:=fun(_,y1,y2,y3,y4,y5,y6,y7,y8,y9) (y0,_,_,_,_,_,_,_,_,_)=>(y0,y1,y2,y3,y4,y5,y6,y7,y8,y9)
 σ:= [(0,4),(1,384),(2,512),(3,0),(4,1),(5,2),(6,3),(7,513),(8,514)]
 rd:=Ng
theorem acy:LoopOk prog (fun k=>Nat.blt k Tryz.f55.ntmps) gB.F (bV f55 0):=by
 refine Lp.ok (tbl:= (T3z [tN,tM,rX,cP])) (lf:= []) bG gB (by kernel_rfl) (LOk.nil _) (fun _=>rfl) (fun j _=>by unfold gB;match j with | 0=>rfl | _ + 1=>rfl) ?_ ?_ ?_ ?_ (fun _=>rfl) ?_
 ·rintro⟨y0,y1,y2,y3,y4,y5,y6,y7,y8,y9⟩;kernel_rfl
 ·rintro⟨y0,y1,y2,y3,y4,y5,y6,y7,y8,y9⟩;kernel_rfl
 ·intro s x h
  have h:Ng s=some x:=h
  unfold Ng at h
  repeat' split at h
  all_goals cases h
  constructor<;>repeat(first|refine ab (by assumption) rfl ?_|refine aa rfl (by assumption) rfl ?_|exact rfl)
 ·rintro⟨y0,y1,y2,y3,y4,y5,y6,y7,y8,y9⟩;kernel_rfl
 ·rintro⟨y0,y1,y2,y3,y4,y5,y6,y7,y8,y9⟩ z;exact(And.intro (And.intro trivial rfl) trivial)
abbrev oi:=Int×List (List Int)×alV×alV×List (List Int)×List alV×List alV×List alV×List (alV×(List (Int×(alV×Int))))×List Int×List (Int×(Int×Int))
def ni(y0:Int)(y1:List (List Int)):List Int:=v3 y1[j8 y0]? (uS ahG)
def ui(y0:Int)(y1:List (List Int))(y3:alV)(y5 y6 y7:List alV)(y8:List (alV×(List (Int×(alV×Int)))))(y9:List Int)(y10:List (Int×(Int×Int))):List (List Int):= [scO y5 y6 y7 y3 y8 (ni y0 y1) y9 y10]
section
variable (y0:Int)(y1:List (List Int))
def zt:Bool:=ltI y0 (↑y1.length:Int)
def Ee:Bool:=leI 0 y0
def Ef:Bool:=ltN y0.toNat y1.length
end
def Eg(y0:Int)(y1:List (List Int))(y2 y3:alV)(y5 y6 y7:List alV)(y8:List (alV×(List (Int×(alV×Int)))))(y9:List Int)(y10:List (Int×(Int×Int))):Bool:=scG y2 y5 y6 y7 y3 y8 y9 y10 (ni y0 y1)
def Eh(y0:Int)(y1:List (List Int))(y3:alV)(y4:List (List Int))(y5 y6 y7:List alV)(y8:List (alV×(List (Int×(alV×Int)))))(y9:List Int)(y10:List (Int×(Int×Int))):Bool:=leN (j9 y4 + j9 (ui y0 y1 y3 y5 y6 y7 y8 y9 y10)) 9223372036854775807
def Ei(y0:Int)(y1:List (List Int))(y3:alV)(y4:List (List Int))(y5 y6 y7:List alV)(y8:List (alV×(List (Int×(alV×Int)))))(y9:List Int)(y10:List (Int×(Int×Int))):Bool:=leN ((j9 y4 + j9 (ui y0 y1 y3 y5 y6 y7 y8 y9 y10)) * 24) 140737488355328
def Ej(y0:Int):Int:=v4 .i64 (y0 + (1:Int))
def Ek(y0:Int)(y1:List (List Int))(y3:alV)(y4:List (List Int))(y5 y6 y7:List alV)(y8:List (alV×(List (Int×(alV×Int)))))(y9:List Int)(y10:List (Int×(Int×Int))):List (List Int):=y4++ui y0 y1 y3 y5 y6 y7 y8 y9 y10
def El(y0:Int)(y1:List (List Int))(y5 y6 y7:List alV)(y8:List (alV×(List (Int×(alV×Int)))))(y9:List Int)(y10:List (Int×(Int×Int))):List Int:=scV y5 y6 y7 y8 (ni y0 y1) y9 y10
def Em(y0:Int)(y1:List (List Int))(y5 y6 y7:List alV)(y8:List (alV×(List (Int×(alV×Int)))))(y9:List Int)(y10:List (Int×(Int×Int))):List (Int×(Int×Int)):=scB y5 y6 y7 y8 (ni y0 y1) y9 y10
def ae8:oi→List (Nat×SV)
 |(y0,_,_,_,_,_,_,_,_,_,_)=> [(10,(.one ⟨false,[.val (.int .i64 y0)]⟩)),(1,(.one ⟨false,[.ref 0]⟩)),(2,(.one ⟨false,[.ptr 1 0]⟩)),(9,(.one ⟨false,[.ptr 2 0]⟩)),(8,(.one ⟨false,[.ref 3]⟩))]
def ae5:oi→List (Nat×Entry)
 |(_,y1,y2,y3,y4,y5,y6,y7,y8,y9,y10)=> [(0,(.row false 28 ahG y1)),(1,(.box 43 [.val (.string y2),.ref 4,.ref 5,.ref 6,.val (.string y3),.ref 7])),(2,(.box 50 [.ref 8,.ref 9])),(4,(.row false 9 alu y5)),(5,(.row false 9 alu y6)),(6,(.row false 9 alu y7)),(7,(.row false 142 aaY y8)),(3,(.row true 28 ahG y4)),(8,(.row true 2 akd y9)),(9,(.row true 109 ac0 y10))]
def afe:Nat→oi→List (Nat×SV)
 |_,(_,_,_,_,_,_,_,_,_,_,_)=> [(8,(.one ⟨false,[.ref 3]⟩))]
def afb:Nat→oi→List (Nat×Entry)
 |_,(_,y1,y2,y3,y4,y5,y6,y7,y8,y9,y10)=> [(0,(.row false 28 ahG y1)),(1,(.box 43 [.val (.string y2),.ref 4,.ref 5,.ref 6,.val (.string y3),.ref 7])),(2,(.box 50 [.ref 8,.ref 9])),(3,(.row true 28 ahG y4)),(4,(.row false 9 alu y5)),(5,(.row false 9 alu y6)),(6,(.row false 9 alu y7)),(7,(.row false 142 aaY y8)),(8,(.row true 2 akd y9)),(9,(.row true 109 ac0 y10))]
def BF:oi→LT oi
 |(y0,y1,y2,y3,y4,y5,y6,y7,y8,y9,y10)=> .ite (zt y0 y1) (.need [Ee y0,zt y0 y1,Ef y0 y1,Eg y0 y1 y2 y3 y5 y6 y7 y8 y9 y10] (.need [Eh y0 y1 y3 y4 y5 y6 y7 y8 y9 y10,Ei y0 y1 y3 y4 y5 y6 y7 y8 y9 y10] (.nrm ((Ej y0),y1,y2,y3,Ek y0 y1 y3 y4 y5 y6 y7 y8 y9 y10,y5,y6,y7,y8,El y0 y1 y5 y6 y7 y8 y9 y10,(Em y0 y1 y5 y6 y7 y8 y9 y10)) [(0,0),(1,1),(2,2),(3,1344),(4,4),(5,5),(6,6),(7,7),(8,705),(9,706)]))) (.ext 0 [(0,0),(1,1),(2,2),(3,3),(4,4),(5,5),(6,6),(7,7),(8,8),(9,9)])
def Nh(s:St):Option oi:=
 (match s.look 10 with
 |some ⟨none,.one ⟨false,[.val (.int .i64 y0)]⟩⟩=>
 (match s.look 1 with
 |some ⟨none,.one ⟨false,[.ref 4]⟩⟩=>
 (match s.look 2 with
 |some ⟨none,.one ⟨false,[.ptr 384 0]⟩⟩=>
 (match s.look 9 with
 |some ⟨none,.one ⟨false,[.ptr 1408 0]⟩⟩=>
 (match s.look 8 with
 |some ⟨none,.one ⟨false,[.ref 1152]⟩⟩=>
 (match s.ent 4 with
 |some (.row false 28 (.sl 2 (.int .i64)) y1)=>
 (match s.ent 384 with
 |some (.box 43 [.val (.string y2),.ref 0,.ref 1,.ref 2,.val (.string y3),.ref 3])=>
 (match s.ent 1408 with
 |some (.box 50 [.ref 1344,.ref 1345])=>
 (match s.ent 0 with
 |some (.row false 9 (.str) y5)=>
 (match s.ent 1 with
 |some (.row false 9 (.str) y6)=>
 (match s.ent 2 with
 |some (.row false 9 (.str) y7)=>
 (match s.ent 3 with
 |some (.row false 142 (.pair .str (.sl 122 (.pair (.int .i64) (.pair .str (.int .i64))))) y8)=>
 (match s.ent 1152 with
 |some (.row true 28 (.sl 2 (.int .i64)) y4)=>
 (match s.ent 1344 with
 |some (.row true 2 (.int .i64) y9)=>
 (match s.ent 1345 with
 |some (.row true 109 (.pair (.int .i64) (.pair (.int .i64) (.int .i64))) y10)=>
 some (y0,y1,y2,y3,y4,y5,y6,y7,y8,y9,y10)
 |_=>none)
 |_=>none)
 |_=>none)
 |_=>none)
 |_=>none)
 |_=>none)
 |_=>none)
 |_=>none)
 |_=>none)
 |_=>none)
 |_=>none)
 |_=>none)
 |_=>none)
 |_=>none)
 |_=>none)
def iF:Lp oi where
 h:=⟨[40,41,42,43,47,48,49,50,51,52,53,46,54,55,12,11,56,57,58,59,8,60,44,45,10],[0,1,2,4,5,6,7],[3,8,9],[]⟩
 JL:=ae8
 JE:=ae5
 XL:=afe
 XE:=afb
 q:=fun j=>match j with | _=> .exit 2
 tags:= [0]
 lt:=BF
 fuel:=fun(y0,y1,y2,y3,y4,y5,y6,y7,y8,y9,y10)=>y0.natAbs + y1.length + y2.size + y3.size + y4.length + y5.length + y6.length + y7.length + y8.length + y9.length + y10.length
 fix:=fun(_,y1,y2,y3,_,y5,y6,y7,y8,_,_) (y0,_,_,_,y4,_,_,_,_,y9,y10)=>(y0,y1,y2,y3,y4,y5,y6,y7,y8,y9,y10)
 σ:= [(0,4),(1,384),(2,1408),(4,0),(5,1),(6,2),(7,3),(3,1152),(8,1344),(9,1345)]
 rd:=Nh
theorem acz:LoopOk prog (fun k=>Nat.blt k Tryz.f55.ntmps) iF.F (bV f55 1):=by
 refine Lp.ok (tbl:= (T3z [tN,tM,rX,cP])) (lf:= []) bG iF (by kernel_rfl) (LOk.nil _) (fun _=>rfl) (fun _ _=>rfl) ?_ ?_ ?_ ?_ (fun _=>rfl) ?_
 ·rintro⟨y0,y1,y2,y3,y4,y5,y6,y7,y8,y9,y10⟩;kernel_rfl
 ·rintro⟨y0,y1,y2,y3,y4,y5,y6,y7,y8,y9,y10⟩;kernel_rfl
 ·intro s x h
  have h:Nh s=some x:=h
  unfold Nh at h
  repeat' split at h
  all_goals cases h
  constructor<;>repeat(first|refine ab (by assumption) rfl ?_|refine aa rfl (by assumption) rfl ?_|exact rfl)
 ·rintro⟨y0,y1,y2,y3,y4,y5,y6,y7,y8,y9,y10⟩;kernel_rfl
 ·rintro⟨y0,y1,y2,y3,y4,y5,y6,y7,y8,y9,y10⟩ z;exact(And.intro rfl trivial)
section
variable (x0 x1:alV)(x2 x3 x4:List alV)(x5:List (alV×List (Int×alV×Int)))(x6:List (List Int))
def xm:Bool:=ltI 200 (↑x6.length:Int)
def TD:Int×List (List Int)×alV×alV×List alV×List alV×List alV×List (alV×List (Int×alV×Int))×List Int×List (Int×Int×Int):=((0:Int),x6,x0,x1,x2,x3,x4,x5,[],[])
def xo:Bool:=Nat.beq ((Lp.res gB (TD x0 x1 x2 x3 x4 x5 x6)).1) 0
def NI:Int×List (List Int)×alV×alV×List (List Int)×List alV×List alV×List alV×List (alV×List (Int×alV×Int))×List Int×List (Int×Int×Int):=((0:Int),x6,x0,x1,[],x2,x3,x4,x5,Rp x3,Rq x5)
def TE:List (List Int)×List alV×List alV×List alV×List (alV×List (Int×alV×Int))×List Int×List (Int×Int×Int):=(Lp.res iF (NI x0 x1 x2 x3 x4 x5 x6)).2.2.2.2.2
def TF:List Int×List (Int×Int×Int):=(TE x0 x1 x2 x3 x4 x5 x6).2.2.2.2.2
def Qm:Int:=bif !yR x0 x2 x3 x4 x1 x5 then(1:Int)else bif xm x6 then(3:Int)else bif xo x0 x1 x2 x3 x4 x5 x6 then(2:Int)else(0:Int)
def Wj:List (List Int):=bif !yR x0 x2 x3 x4 x1 x5 then []else bif xm x6 then []else bif xo x0 x1 x2 x3 x4 x5 x6 then []else (TE x0 x1 x2 x3 x4 x5 x6).1
def Qn:List Int:=bif !yR x0 x2 x3 x4 x1 x5 then []else bif xm x6 then []else bif xo x0 x1 x2 x3 x4 x5 x6 then []else (TF x0 x1 x2 x3 x4 x5 x6).1
def Qo:List (Int×(Int×Int)):=bif !yR x0 x2 x3 x4 x1 x5 then []else bif xm x6 then []else bif xo x0 x1 x2 x3 x4 x5 x6 then []else (TF x0 x1 x2 x3 x4 x5 x6).2
def Qp:Bool:=allT [ald x0 x2 x3 x4 x1 x5,!yR x0 x2 x3 x4 x1 x5||(xm x6||Lp.fin gB (TD x0 x1 x2 x3 x4 x5 x6)),!yR x0 x2 x3 x4 x1 x5||(xm x6||(xo x0 x1 x2 x3 x4 x5 x6||KS x3 x5)),!yR x0 x2 x3 x4 x1 x5||(xm x6||(xo x0 x1 x2 x3 x4 x5 x6||Lp.fin iF (NI x0 x1 x2 x3 x4 x5 x6)))]
end
def acP:List SV→List Entry→Option Out
 | [.one ⟨true,[.val (.string x0),.ref 0,.ref 1,.ref 2,.val (.string x1),.ref 3]⟩,.one ⟨false,[.ref 4]⟩],[.row false 9 (.str) x2,.row false 9 (.str) x3,.row false 9 (.str) x4,.row false 142 (.pair (.str) (.sl 122 (.pair (.int .i64) (.pair (.str) (.int .i64))))) x5,.row false 28 (.sl 2 (.int .i64)) x6]=>some ⟨.tup [⟨false,[.ref 5]⟩,⟨true,[.ref 6,.ref 7]⟩,⟨false,[.val (.int .i64 (Qm x0 x1 x2 x3 x4 x5 x6))]⟩],[.row false 9 alu x2,.row false 9 alu x3,.row false 9 alu x4,.row false 142 (CTy.pair CTy.str (CTy.sl (122:TypeId) afs)) x5,.row false 28 (CTy.sl (2:TypeId) akd) x6],[.row true 28 ahG (Wj x0 x1 x2 x3 x4 x5 x6),.row true 2 akd (Qn x0 x1 x2 x3 x4 x5 x6),.row true 109 ac0 (Qo x0 x1 x2 x3 x4 x5 x6)],[Qp x0 x1 x2 x3 x4 x5 x6]⟩
 |_,_=>none
def VZ:PF prog:=PF.ofG prog (T3z [tN,tM,rX,cP]) [gB.F,iF.F] bG 55 f55 func55 (LOk.fnT (l:= [bV f55 0,bV f55 1]) (by kernel_rfl) (.cons acy (.cons acz (.nil _)))) acP (by
 intro vs es r h;unfold acP at h;split at h
 ·cases h;kernel_rfl
 ·cases h)
section
variable (x0 x1:alV)(x2 x3 x4:List alV)(x5:List (alV×List (Int×alV×Int)))(x6:List (List Int))
def Tf:Int:=Qm x0 x1 x2 x3 x4 x5 x6
def Tg:List Int:=Qn x0 x1 x2 x3 x4 x5 x6
def Th:List (Int×(Int×Int)):=Qo x0 x1 x2 x3 x4 x5 x6
def LF:Bool:=allT [Qp x0 x1 x2 x3 x4 x5 x6]
end
def Sg:List SV→List Entry→Option Out
 | [.one ⟨true,[.val (.string x0),.ref 0,.ref 1,.ref 2,.val (.string x1),.ref 3]⟩,.one ⟨false,[.ref 4]⟩],[.row false 9 (.str) x2,.row false 9 (.str) x3,.row false 9 (.str) x4,.row false 142 (.pair (.str) (.sl 122 (.pair (.int .i64) (.pair (.str) (.int .i64))))) x5,.row false 28 (.sl 2 (.int .i64)) x6]=>some ⟨.tup [⟨true,[.ref 5,.ref 6]⟩,⟨false,[.val (.int .i64 (Tf x0 x1 x2 x3 x4 x5 x6))]⟩],[.row false 9 alu x2,.row false 9 alu x3,.row false 9 alu x4,.row false 142 (CTy.pair CTy.str (CTy.sl (122:TypeId) afs)) x5,.row false 28 (CTy.sl (2:TypeId) akd) x6],[.row true 2 akd (Tg x0 x1 x2 x3 x4 x5 x6),.row true 109 ac0 (Th x0 x1 x2 x3 x4 x5 x6)],[LF x0 x1 x2 x3 x4 x5 x6]⟩
 |_,_=>none
def aed:PF prog:=PF.ofG prog (T3z [VZ]) [] bG 20 f20 func20 (fun c _=>LOk.nil c) Sg (by
 intro vs es r h;unfold Sg at h;split at h
 ·cases h;kernel_rfl
 ·cases h)
def xx(x0:Int)(x1:List Int):List Int:=bif x0==0 then v5 (j8 (↑x1.length:Int)) (0:Int)else x1
def xy(x0:Int)(x1:List Int):Bool:=allT [!x0==0||leI 0 (↑x1.length:Int),!x0==0||leI (↑x1.length:Int) (↑x1.length:Int),!x0==0||leI ((↑(8:Nat):Int) * (↑x1.length:Int)) 281474976710656,!x0==0||leI (↑x1.length:Int) 9223372036854775807]
def aaj:List SV→List Entry→Option Out
 | [.one ⟨false,[.ref 0]⟩,.one ⟨false,[.val (.int .i64 x0)]⟩],[.row false 2 (.int .i64) x1]=>some ⟨.one ⟨false,[.ref 1]⟩,[.row false 2 akd x1],[.row false 2 akd (xx x0 x1)],[xy x0 x1]⟩
 |_,_=>none
def SR:PF prog:=PF.ofG prog [] [] bG 125 f125 func125 (fun c _=>LOk.nil c) aaj (by
 intro vs es r h;unfold aaj at h;split at h
 ·cases h;kernel_rfl
 ·cases h)
section
variable (x3:Int)(x4:List (Int×alV×Int))(x5:List (Int×Int))(x6 x7 x8:List Int)(x9:List (Int×Int×Int))(x10:List Int)
def az:Int×Int:=v3 x5[j8 x3]? ((0:Int),(0:Int))
def ac:Bool:=(az x3 x5).1==1
def ag:Bool:=jf ((az x3 x5).1)==1
def cN:Int:=v4 .i64 (x3 + (1:Int))
def ae:Bool:=(az x3 x5).1==2
def ah:Bool:=(az x3 x5).1==3
def ai:Bool:=(az x3 x5).1==4
def al:Bool:=(az x3 x5).1==5
def au:Bool:=(az x3 x5).1==6
def aF:Bool:=(az x3 x5).1==7
def aS:Bool:=(az x3 x5).1==8
def bL:Bool:=(az x3 x5).1==9
def dq:Bool:=(az x3 x5).1==10
def gG:Bool:=(az x3 x5).1==11
def tp:Int:=v4 .i64 ((↑x6.length:Int) - eG ((az x3 x5).1) ((az x3 x5).2) x4)
def bg:List Int:=List.drop (j8 0) (List.take (j8 (tp x3 x4 x5 x6)) x6)
def tq:Int:=v3 x10[j8 ((az x3 x5).2)]? 0
def tt:Int:=v3 x7[j8 ((az x3 x5).2)]? 0
def gH:List Int:=List.drop (j8 (tp x3 x4 x5 x6)) (List.take (j8 (↑x6.length:Int)) x6)
def wo:Int:=v3 (gH x3 x4 x5 x6)[j8 0]? 0
def fR:List Int:= [v4 .i64 ((1:Int) - wo x3 x4 x5 x6)]
def fS:List Int:= [v4 .i64 (↑(BitVec.toNat (BitVec.ofInt (IntKind.bits IntKind.i64) (wo x3 x4 x5 x6)&&& BitVec.ofInt (IntKind.bits IntKind.i64) (v3 (gH x3 x4 x5 x6)[j8 1]? 0))):Int)]
def fT:List Int:= [v4 .i64 (↑(BitVec.toNat (BitVec.ofInt (IntKind.bits IntKind.i64) (wo x3 x4 x5 x6)||| BitVec.ofInt (IntKind.bits IntKind.i64) (v3 (gH x3 x4 x5 x6)[j8 1]? 0))):Int)]
def qG:Int×alV×Int:=v3 x4[j8 ((az x3 x5).2)]? ((0:Int),ByteArray.empty,(0:Int))
def lE:Int×Int×Int:=v3 x9[j8 ((az x3 x5).2)]? ((0:Int),(0:Int),(0:Int))
def fU:List Int:= [dZ ((qG x3 x4 x5).1) ((qG x3 x4 x5).2.2) ((lE x3 x5 x9).1) (((lE x3 x5 x9).2).1) ((lE x3 x5 x9).2.2) (gH x3 x4 x5 x6)]
def wq:List Int:=bif ag x3 x5 then bg x3 x4 x5 x6++ [(0:Int)]else bg x3 x4 x5 x6
def Jk:List Int:=List.set x7 (j8 ((az x3 x5).2)) (wo x3 x4 x5 x6)
def Jl:List Int:=List.set x8 (j8 ((az x3 x5).2)) (wo x3 x4 x5 x6)
def Jm:List (Int×Int×Int):=List.set x9 (j8 ((az x3 x5).2)) (fK ((qG x3 x4 x5).1) ((qG x3 x4 x5).2.2) ((lE x3 x5 x9).1) (((lE x3 x5 x9).2).1) ((lE x3 x5 x9).2.2) (gH x3 x4 x5 x6),fL ((qG x3 x4 x5).1) (((lE x3 x5 x9).2).1) ((lE x3 x5 x9).2.2) (gH x3 x4 x5 x6),fM ((qG x3 x4 x5).1) ((qG x3 x4 x5).2.2) ((lE x3 x5 x9).1) ((lE x3 x5 x9).2.2) (gH x3 x4 x5 x6))
def jY:Bool:=ltI ((az x3 x5).2) (↑x10.length:Int)
def iQ:Bool:=ltI ((az x3 x5).2) (↑x7.length:Int)
def fV:Bool:=ltI 0 (↑(j9 (gH x3 x4 x5 x6)):Int)
def fW:Bool:=ltN (j8 0) (j9 (gH x3 x4 x5 x6))
def jZ:Bool:=ltI 1 (↑(j9 (gH x3 x4 x5 x6)):Int)
def ka:Bool:=ltN (j8 1) (j9 (gH x3 x4 x5 x6))
def iR:Bool:=ac x3 x5||(ae x3 x5||(ah x3 x5||(ai x3 x5||(al x3 x5||(au x3 x5||(!aF x3 x5||leI 0 ((az x3 x5).2)))))))
def kb:Bool:=ac x3 x5||(ae x3 x5||(ah x3 x5||(ai x3 x5||(al x3 x5||(au x3 x5||(!aF x3 x5||ltI ((az x3 x5).2) (↑x9.length:Int)))))))
def ke:Bool:=ac x3 x5||(ae x3 x5||(ah x3 x5||(ai x3 x5||(al x3 x5||(au x3 x5||(!aF x3 x5||ltN (j8 ((az x3 x5).2)) x9.length))))))
def fX:Bool:= !ag x3 x5||leN (j9 (bg x3 x4 x5 x6) + j9 [(0:Int)]) (9223372036854775807:Nat)
def fY:Bool:= !ag x3 x5||leN ((j9 (bg x3 x4 x5 x6) + j9 [(0:Int)]) * (8:Nat)) 140737488355328
def Aw:Int:=bif ac x3 x5 then bif ag x3 x5 then cN x3 else cN x3 else bif ae x3 x5 then bif ag x3 x5 then cN x3 else cN x3 else bif ah x3 x5 then bif ag x3 x5 then cN x3 else cN x3 else bif ai x3 x5 then bif ag x3 x5 then cN x3 else cN x3 else bif al x3 x5 then bif ag x3 x5 then cN x3 else cN x3 else bif au x3 x5 then bif ag x3 x5 then cN x3 else cN x3 else bif aF x3 x5 then bif ag x3 x5 then cN x3 else cN x3 else bif aS x3 x5 then bif ag x3 x5 then cN x3 else cN x3 else bif bL x3 x5 then bif ag x3 x5 then cN x3 else cN x3 else bif dq x3 x5 then bif ag x3 x5 then cN x3 else cN x3 else bif gG x3 x5 then bif ag x3 x5 then cN x3 else cN x3 else bif ag x3 x5 then cN x3 else cN x3
def Ax:List Int:=bif ac x3 x5 then bif ag x3 x5 then bg x3 x4 x5 x6++ [(az x3 x5).2]else bg x3 x4 x5 x6 else bif ae x3 x5 then bif ag x3 x5 then bg x3 x4 x5 x6++ [tq x3 x5 x10]else bg x3 x4 x5 x6 else bif ah x3 x5 then bif ag x3 x5 then bg x3 x4 x5 x6++ [tt x3 x5 x7]else bg x3 x4 x5 x6 else bif ai x3 x5 then bif ag x3 x5 then bg x3 x4 x5 x6++fR x3 x4 x5 x6 else bg x3 x4 x5 x6 else bif al x3 x5 then bif ag x3 x5 then bg x3 x4 x5 x6++fS x3 x4 x5 x6 else bg x3 x4 x5 x6 else bif au x3 x5 then bif ag x3 x5 then bg x3 x4 x5 x6++fT x3 x4 x5 x6 else bg x3 x4 x5 x6 else bif aF x3 x5 then bif ag x3 x5 then bg x3 x4 x5 x6++fU x3 x4 x5 x6 x9 else bg x3 x4 x5 x6 else bif aS x3 x5 then wq x3 x4 x5 x6 else bif bL x3 x5 then wq x3 x4 x5 x6 else bif dq x3 x5 then wq x3 x4 x5 x6 else bif gG x3 x5 then wq x3 x4 x5 x6 else wq x3 x4 x5 x6
def Ez:List Int:=bif ac x3 x5 then bif ag x3 x5 then x7 else x7 else bif ae x3 x5 then bif ag x3 x5 then x7 else x7 else bif ah x3 x5 then bif ag x3 x5 then x7 else x7 else bif ai x3 x5 then bif ag x3 x5 then x7 else x7 else bif al x3 x5 then bif ag x3 x5 then x7 else x7 else bif au x3 x5 then bif ag x3 x5 then x7 else x7 else bif aF x3 x5 then bif ag x3 x5 then x7 else x7 else bif aS x3 x5 then bif ag x3 x5 then Jk x3 x4 x5 x6 x7 else Jk x3 x4 x5 x6 x7 else bif bL x3 x5 then bif ag x3 x5 then x7 else x7 else bif dq x3 x5 then bif ag x3 x5 then x7 else x7 else bif gG x3 x5 then bif ag x3 x5 then x7 else x7 else bif ag x3 x5 then x7 else x7
def EA:List Int:=bif ac x3 x5 then bif ag x3 x5 then x8 else x8 else bif ae x3 x5 then bif ag x3 x5 then x8 else x8 else bif ah x3 x5 then bif ag x3 x5 then x8 else x8 else bif ai x3 x5 then bif ag x3 x5 then x8 else x8 else bif al x3 x5 then bif ag x3 x5 then x8 else x8 else bif au x3 x5 then bif ag x3 x5 then x8 else x8 else bif aF x3 x5 then bif ag x3 x5 then x8 else x8 else bif aS x3 x5 then bif ag x3 x5 then x8 else x8 else bif bL x3 x5 then bif ag x3 x5 then Jl x3 x4 x5 x6 x8 else Jl x3 x4 x5 x6 x8 else bif dq x3 x5 then bif ag x3 x5 then xx (tq x3 x5 x10) x8 else xx (tq x3 x5 x10) x8 else bif gG x3 x5 then bif ag x3 x5 then xx (tt x3 x5 x7) x8 else xx (tt x3 x5 x7) x8 else bif ag x3 x5 then x8 else x8
def EB:List (Int×(Int×Int)):=bif ac x3 x5 then bif ag x3 x5 then x9 else x9 else bif ae x3 x5 then bif ag x3 x5 then x9 else x9 else bif ah x3 x5 then bif ag x3 x5 then x9 else x9 else bif ai x3 x5 then bif ag x3 x5 then x9 else x9 else bif al x3 x5 then bif ag x3 x5 then x9 else x9 else bif au x3 x5 then bif ag x3 x5 then x9 else x9 else bif aF x3 x5 then bif ag x3 x5 then Jm x3 x4 x5 x6 x9 else Jm x3 x4 x5 x6 x9 else bif aS x3 x5 then bif ag x3 x5 then x9 else x9 else bif bL x3 x5 then bif ag x3 x5 then x9 else x9 else bif dq x3 x5 then bif ag x3 x5 then x9 else x9 else bif gG x3 x5 then bif ag x3 x5 then x9 else x9 else bif ag x3 x5 then x9 else x9
def jn:Bool:=allT [leI 0 x3,ltI x3 (↑x5.length:Int),ltN x3.toNat x5.length,uQ ((az x3 x5).1) ((az x3 x5).2) x4,leI 0 (tp x3 x4 x5 x6),leI (tp x3 x4 x5 x6) (↑x6.length:Int),leI (↑x6.length:Int) (↑x6.length:Int),leN (j9 (gH x3 x4 x5 x6)) 1048576,leI 0 (tp x3 x4 x5 x6),leI (tp x3 x4 x5 x6) (↑x6.length:Int),leN (j9 (bg x3 x4 x5 x6)) 1048576,leN x7.length (1048576:Nat),leN x8.length (1048576:Nat),leN (0 + j9 x9) 9223372036854775807,leN ((0 + j9 x9) * 24) 140737488355328,ac x3 x5||(!ae x3 x5||leI 0 ((az x3 x5).2)),ac x3 x5||(!ae x3 x5||jY x3 x5 x10),ac x3 x5||(!ae x3 x5||ltN (j8 ((az x3 x5).2)) x10.length),ac x3 x5||(ae x3 x5||(!ah x3 x5||leI 0 ((az x3 x5).2))),ac x3 x5||(ae x3 x5||(!ah x3 x5||iQ x3 x5 x7)),ac x3 x5||(ae x3 x5||(!ah x3 x5||ltN (j8 ((az x3 x5).2)) x7.length)),ac x3 x5||(ae x3 x5||(ah x3 x5||(!ai x3 x5||leI 0 0))),ac x3 x5||(ae x3 x5||(ah x3 x5||(!ai x3 x5||fV x3 x4 x5 x6))),ac x3 x5||(ae x3 x5||(ah x3 x5||(!ai x3 x5||fW x3 x4 x5 x6))),ac x3 x5||(ae x3 x5||(ah x3 x5||(ai x3 x5||(!al x3 x5||leI 0 0)))),ac x3 x5||(ae x3 x5||(ah x3 x5||(ai x3 x5||(!al x3 x5||fV x3 x4 x5 x6)))),ac x3 x5||(ae x3 x5||(ah x3 x5||(ai x3 x5||(!al x3 x5||fW x3 x4 x5 x6)))),ac x3 x5||(ae x3 x5||(ah x3 x5||(ai x3 x5||(!al x3 x5||leI 0 1)))),ac x3 x5||(ae x3 x5||(ah x3 x5||(ai x3 x5||(!al x3 x5||jZ x3 x4 x5 x6)))),ac x3 x5||(ae x3 x5||(ah x3 x5||(ai x3 x5||(!al x3 x5||ka x3 x4 x5 x6)))),ac x3 x5||(ae x3 x5||(ah x3 x5||(ai x3 x5||(al x3 x5||(!au x3 x5||leI 0 0))))),ac x3 x5||(ae x3 x5||(ah x3 x5||(ai x3 x5||(al x3 x5||(!au x3 x5||fV x3 x4 x5 x6))))),ac x3 x5||(ae x3 x5||(ah x3 x5||(ai x3 x5||(al x3 x5||(!au x3 x5||fW x3 x4 x5 x6))))),ac x3 x5||(ae x3 x5||(ah x3 x5||(ai x3 x5||(al x3 x5||(!au x3 x5||leI 0 1))))),ac x3 x5||(ae x3 x5||(ah x3 x5||(ai x3 x5||(al x3 x5||(!au x3 x5||jZ x3 x4 x5 x6))))),ac x3 x5||(ae x3 x5||(ah x3 x5||(ai x3 x5||(al x3 x5||(!au x3 x5||ka x3 x4 x5 x6))))),iR x3 x5,ac x3 x5||(ae x3 x5||(ah x3 x5||(ai x3 x5||(al x3 x5||(au x3 x5||(!aF x3 x5||ltI ((az x3 x5).2) (↑x4.length:Int))))))),ac x3 x5||(ae x3 x5||(ah x3 x5||(ai x3 x5||(al x3 x5||(au x3 x5||(!aF x3 x5||ltN (j8 ((az x3 x5).2)) x4.length)))))),iR x3 x5,kb x3 x5 x9,ke x3 x5 x9,ac x3 x5||(ae x3 x5||(ah x3 x5||(ai x3 x5||(al x3 x5||(au x3 x5||(!aF x3 x5||iq (gH x3 x4 x5 x6))))))),iR x3 x5,kb x3 x5 x9,ke x3 x5 x9,ac x3 x5||(ae x3 x5||(ah x3 x5||(ai x3 x5||(al x3 x5||(au x3 x5||(aF x3 x5||(!aS x3 x5||leI 0 0))))))),ac x3 x5||(ae x3 x5||(ah x3 x5||(ai x3 x5||(al x3 x5||(au x3 x5||(aF x3 x5||(!aS x3 x5||fV x3 x4 x5 x6))))))),ac x3 x5||(ae x3 x5||(ah x3 x5||(ai x3 x5||(al x3 x5||(au x3 x5||(aF x3 x5||(!aS x3 x5||fW x3 x4 x5 x6))))))),ac x3 x5||(ae x3 x5||(ah x3 x5||(ai x3 x5||(al x3 x5||(au x3 x5||(aF x3 x5||(!aS x3 x5||leI 0 ((az x3 x5).2)))))))),ac x3 x5||(ae x3 x5||(ah x3 x5||(ai x3 x5||(al x3 x5||(au x3 x5||(aF x3 x5||(!aS x3 x5||iQ x3 x5 x7))))))),ac x3 x5||(ae x3 x5||(ah x3 x5||(ai x3 x5||(al x3 x5||(au x3 x5||(aF x3 x5||(!aS x3 x5||ltN (j8 ((az x3 x5).2)) x7.length))))))),ac x3 x5||(ae x3 x5||(ah x3 x5||(ai x3 x5||(al x3 x5||(au x3 x5||(aF x3 x5||(aS x3 x5||(!bL x3 x5||leI 0 0)))))))),ac x3 x5||(ae x3 x5||(ah x3 x5||(ai x3 x5||(al x3 x5||(au x3 x5||(aF x3 x5||(aS x3 x5||(!bL x3 x5||fV x3 x4 x5 x6)))))))),ac x3 x5||(ae x3 x5||(ah x3 x5||(ai x3 x5||(al x3 x5||(au x3 x5||(aF x3 x5||(aS x3 x5||(!bL x3 x5||fW x3 x4 x5 x6)))))))),ac x3 x5||(ae x3 x5||(ah x3 x5||(ai x3 x5||(al x3 x5||(au x3 x5||(aF x3 x5||(aS x3 x5||(!bL x3 x5||leI 0 ((az x3 x5).2))))))))),ac x3 x5||(ae x3 x5||(ah x3 x5||(ai x3 x5||(al x3 x5||(au x3 x5||(aF x3 x5||(aS x3 x5||(!bL x3 x5||ltI ((az x3 x5).2) (↑x8.length:Int))))))))),ac x3 x5||(ae x3 x5||(ah x3 x5||(ai x3 x5||(al x3 x5||(au x3 x5||(aF x3 x5||(aS x3 x5||(!bL x3 x5||ltN (j8 ((az x3 x5).2)) x8.length)))))))),ac x3 x5||(ae x3 x5||(ah x3 x5||(ai x3 x5||(al x3 x5||(au x3 x5||(aF x3 x5||(aS x3 x5||(bL x3 x5||(!dq x3 x5||leI 0 ((az x3 x5).2)))))))))),ac x3 x5||(ae x3 x5||(ah x3 x5||(ai x3 x5||(al x3 x5||(au x3 x5||(aF x3 x5||(aS x3 x5||(bL x3 x5||(!dq x3 x5||jY x3 x5 x10))))))))),ac x3 x5||(ae x3 x5||(ah x3 x5||(ai x3 x5||(al x3 x5||(au x3 x5||(aF x3 x5||(aS x3 x5||(bL x3 x5||(!dq x3 x5||ltN (j8 ((az x3 x5).2)) x10.length))))))))),ac x3 x5||(ae x3 x5||(ah x3 x5||(ai x3 x5||(al x3 x5||(au x3 x5||(aF x3 x5||(aS x3 x5||(bL x3 x5||(!dq x3 x5||xy (tq x3 x5 x10) x8))))))))),ac x3 x5||(ae x3 x5||(ah x3 x5||(ai x3 x5||(al x3 x5||(au x3 x5||(aF x3 x5||(aS x3 x5||(bL x3 x5||(dq x3 x5||(!gG x3 x5||leI 0 ((az x3 x5).2))))))))))),ac x3 x5||(ae x3 x5||(ah x3 x5||(ai x3 x5||(al x3 x5||(au x3 x5||(aF x3 x5||(aS x3 x5||(bL x3 x5||(dq x3 x5||(!gG x3 x5||iQ x3 x5 x7)))))))))),ac x3 x5||(ae x3 x5||(ah x3 x5||(ai x3 x5||(al x3 x5||(au x3 x5||(aF x3 x5||(aS x3 x5||(bL x3 x5||(dq x3 x5||(!gG x3 x5||ltN (j8 ((az x3 x5).2)) x7.length)))))))))),ac x3 x5||(ae x3 x5||(ah x3 x5||(ai x3 x5||(al x3 x5||(au x3 x5||(aF x3 x5||(aS x3 x5||(bL x3 x5||(dq x3 x5||(!gG x3 x5||xy (tt x3 x5 x7) x8)))))))))),!ac x3 x5||(!ag x3 x5||leN (j9 (bg x3 x4 x5 x6) + j9 [(az x3 x5).2]) (9223372036854775807:Nat)),!ac x3 x5||(!ag x3 x5||leN ((j9 (bg x3 x4 x5 x6) + j9 [(az x3 x5).2]) * 8) 140737488355328),ac x3 x5||(!ae x3 x5||(!ag x3 x5||leN (j9 (bg x3 x4 x5 x6) + j9 [tq x3 x5 x10]) (9223372036854775807:Nat))),ac x3 x5||(!ae x3 x5||(!ag x3 x5||leN ((j9 (bg x3 x4 x5 x6) + j9 [tq x3 x5 x10]) * 8) 140737488355328)),ac x3 x5||(ae x3 x5||(!ah x3 x5||(!ag x3 x5||leN (j9 (bg x3 x4 x5 x6) + j9 [tt x3 x5 x7]) (9223372036854775807:Nat)))),ac x3 x5||(ae x3 x5||(!ah x3 x5||(!ag x3 x5||leN ((j9 (bg x3 x4 x5 x6) + j9 [tt x3 x5 x7]) * (8:Nat)) 140737488355328))),ac x3 x5||(ae x3 x5||(ah x3 x5||(!ai x3 x5||(!ag x3 x5||leN (j9 (bg x3 x4 x5 x6) + j9 (fR x3 x4 x5 x6)) 9223372036854775807)))),ac x3 x5||(ae x3 x5||(ah x3 x5||(!ai x3 x5||(!ag x3 x5||leN ((j9 (bg x3 x4 x5 x6) + j9 (fR x3 x4 x5 x6)) * 8) 140737488355328)))),ac x3 x5||(ae x3 x5||(ah x3 x5||(ai x3 x5||(!al x3 x5||(!ag x3 x5||leN (j9 (bg x3 x4 x5 x6) + j9 (fS x3 x4 x5 x6)) 9223372036854775807))))),ac x3 x5||(ae x3 x5||(ah x3 x5||(ai x3 x5||(!al x3 x5||(!ag x3 x5||leN ((j9 (bg x3 x4 x5 x6) + j9 (fS x3 x4 x5 x6)) * 8) 140737488355328))))),ac x3 x5||(ae x3 x5||(ah x3 x5||(ai x3 x5||(al x3 x5||(!au x3 x5||(!ag x3 x5||leN (j9 (bg x3 x4 x5 x6) + j9 (fT x3 x4 x5 x6)) 9223372036854775807)))))),ac x3 x5||(ae x3 x5||(ah x3 x5||(ai x3 x5||(al x3 x5||(!au x3 x5||(!ag x3 x5||leN ((j9 (bg x3 x4 x5 x6) + j9 (fT x3 x4 x5 x6)) * 8) 140737488355328)))))),ac x3 x5||(ae x3 x5||(ah x3 x5||(ai x3 x5||(al x3 x5||(au x3 x5||(!aF x3 x5||(!ag x3 x5||leN (j9 (bg x3 x4 x5 x6) + j9 (fU x3 x4 x5 x6 x9)) 9223372036854775807))))))),ac x3 x5||(ae x3 x5||(ah x3 x5||(ai x3 x5||(al x3 x5||(au x3 x5||(!aF x3 x5||(!ag x3 x5||leN ((j9 (bg x3 x4 x5 x6) + j9 (fU x3 x4 x5 x6 x9)) * 8) 140737488355328))))))),ac x3 x5||(ae x3 x5||(ah x3 x5||(ai x3 x5||(al x3 x5||(au x3 x5||(aF x3 x5||(!aS x3 x5||fX x3 x4 x5 x6))))))),ac x3 x5||(ae x3 x5||(ah x3 x5||(ai x3 x5||(al x3 x5||(au x3 x5||(aF x3 x5||(!aS x3 x5||fY x3 x4 x5 x6))))))),ac x3 x5||(ae x3 x5||(ah x3 x5||(ai x3 x5||(al x3 x5||(au x3 x5||(aF x3 x5||(aS x3 x5||(!bL x3 x5||fX x3 x4 x5 x6)))))))),ac x3 x5||(ae x3 x5||(ah x3 x5||(ai x3 x5||(al x3 x5||(au x3 x5||(aF x3 x5||(aS x3 x5||(!bL x3 x5||fY x3 x4 x5 x6)))))))),ac x3 x5||(ae x3 x5||(ah x3 x5||(ai x3 x5||(al x3 x5||(au x3 x5||(aF x3 x5||(aS x3 x5||(bL x3 x5||(!dq x3 x5||fX x3 x4 x5 x6))))))))),ac x3 x5||(ae x3 x5||(ah x3 x5||(ai x3 x5||(al x3 x5||(au x3 x5||(aF x3 x5||(aS x3 x5||(bL x3 x5||(!dq x3 x5||fY x3 x4 x5 x6))))))))),ac x3 x5||(ae x3 x5||(ah x3 x5||(ai x3 x5||(al x3 x5||(au x3 x5||(aF x3 x5||(aS x3 x5||(bL x3 x5||(dq x3 x5||(!gG x3 x5||fX x3 x4 x5 x6)))))))))),ac x3 x5||(ae x3 x5||(ah x3 x5||(ai x3 x5||(al x3 x5||(au x3 x5||(aF x3 x5||(aS x3 x5||(bL x3 x5||(dq x3 x5||(!gG x3 x5||fY x3 x4 x5 x6)))))))))),ac x3 x5||(ae x3 x5||(ah x3 x5||(ai x3 x5||(al x3 x5||(au x3 x5||(aF x3 x5||(aS x3 x5||(bL x3 x5||(dq x3 x5||(gG x3 x5||fX x3 x4 x5 x6)))))))))),ac x3 x5||(ae x3 x5||(ah x3 x5||(ai x3 x5||(al x3 x5||(au x3 x5||(aF x3 x5||(aS x3 x5||(bL x3 x5||(dq x3 x5||(gG x3 x5||fY x3 x4 x5 x6))))))))))]
end
def aak:List SV→List Entry→Option Out
 | [.one ⟨true,[.val (.int .i64 _x0),.val (.int .i64 _x1),.val (.int .i64 _x2),.ref 0,.ref 1]⟩,.one ⟨true,[.val (.int .i64 x3),.ref 2,.ref 3,.ref 4,.ref 5]⟩,.one ⟨false,[.ref 6]⟩],[.row false 122 (.pair (.int .i64) (.pair (.str) (.int .i64))) x4,.row false 83 (.pair (.int .i64) (.int .i64)) x5,.row false 2 (.int .i64) x6,.row false 2 (.int .i64) x7,.row false 2 (.int .i64) x8,.row false 109 (.pair (.int .i64) (.pair (.int .i64) (.int .i64))) x9,.row false 2 (.int .i64) x10]=>some ⟨.one ⟨true,[.val (.int .i64 (Aw x3 x5)),.ref 7,.ref 8,.ref 9,.ref 10]⟩,[.row false 122 afs x4,.row false 83 ahF x5,.row false 2 akd x6,.row false 2 akd x7,.row false 2 akd x8,.row false 109 ac0 x9,.row false 2 akd x10],[.row false 2 akd (Ax x3 x4 x5 x6 x7 x9 x10),.row false 2 akd (Ez x3 x4 x5 x6 x7),.row false 2 akd (EA x3 x4 x5 x6 x7 x8 x10),.row false 109 ac0 (EB x3 x4 x5 x6 x9)],[jn x3 x4 x5 x6 x7 x8 x9 x10]⟩
 |_,_=>none
def DG:PF prog:=PF.ofG prog (T3z [aE,mV,gj,SR]) [] bG 77 f77 func77 (fun c _=>LOk.nil c) aak (by
 intro vs es r h;unfold aak at h;split at h
 ·cases h;kernel_rfl
 ·cases h)
abbrev oy:=Int×Int×Int×Int×List Int×List Int×List Int×List Int×List (Int×(Int×Int))×List (Int×(alV×Int))×List (Int×Int)
section
variable (y0:Int)(y4 y5 y6 y7:List Int)(y8:List (Int×(Int×Int)))(y9:List (Int×(alV×Int)))(y10:List (Int×Int))
def JW:Bool:=ltI y0 (↑y10.length:Int)
def RE:Bool:=jn y0 y9 y10 y5 y6 y7 y8 y4
def RF:Int:=Aw y0 y10
def RG:List Int:=Ax y0 y9 y10 y5 y6 y8 y4
def RH:List Int:=Ez y0 y9 y10 y5 y6
def RI:List Int:=EA y0 y9 y10 y5 y6 y7 y4
def RJ:List (Int×(Int×Int)):=EB y0 y9 y10 y5 y8
end
def aar:oy→List (Nat×SV)
 |(_,_,_,_,_,_,_,_,_,_,_)=> [(4,(.one ⟨false,[.ptr 0 0]⟩)),(3,(.one ⟨false,[.ptr 1 0]⟩)),(2,(.one ⟨false,[.ref 2]⟩))]
def aao:oy→List (Nat×Entry)
 |(y0,y1,y2,y3,y4,y5,y6,y7,y8,y9,y10)=> [(0,(.box 31 [.val (.int .i64 y0),.ref 3,.ref 4,.ref 5,.ref 6])),(1,(.box 27 [.val (.int .i64 y1),.val (.int .i64 y2),.val (.int .i64 y3),.ref 7,.ref 8])),(2,(.row false 2 akd y4)),(7,(.row false 122 afs y9)),(8,(.row false 83 ahF y10)),(3,(.row false 2 akd y5)),(4,(.row false 2 akd y6)),(5,(.row false 2 akd y7)),(6,(.row false 109 ac0 y8))]
def aaK:Nat→oy→List (Nat×SV)
 |_,(_,_,_,_,_,_,_,_,_,_,_)=> []
def aaH:Nat→oy→List (Nat×Entry)
 |_,(y0,y1,y2,y3,y4,y5,y6,y7,y8,y9,y10)=> [(0,(.box 31 [.val (.int .i64 y0),.ref 3,.ref 4,.ref 5,.ref 6])),(1,(.box 27 [.val (.int .i64 y1),.val (.int .i64 y2),.val (.int .i64 y3),.ref 7,.ref 8])),(2,(.row false 2 akd y4)),(3,(.row false 2 akd y5)),(4,(.row false 2 akd y6)),(5,(.row false 2 akd y7)),(6,(.row false 109 ac0 y8)),(7,(.row false 122 afs y9)),(8,(.row false 83 ahF y10))]
def HZ:oy→LT oy
 |(y0,y1,y2,y3,y4,y5,y6,y7,y8,y9,y10)=> .ite (JW y0 y10) (.need [RE y0 y4 y5 y6 y7 y8 y9 y10] (.nrm ((RF y0 y10),y1,y2,y3,y4,RG y0 y4 y5 y6 y8 y9 y10,RH y0 y5 y6 y9 y10,RI y0 y4 y5 y6 y7 y9 y10,RJ y0 y5 y8 y9 y10,y9,y10) [(0,0),(1,1),(2,2),(3,640),(4,641),(5,642),(6,643),(7,7),(8,8)])) (.ext 0 [(0,0),(1,1),(2,2),(3,3),(4,4),(5,5),(6,6),(7,7),(8,8)])
def Im(s:St):Option oy:=
 (match s.look 4 with
 |some ⟨none,.one ⟨false,[.ptr 576 0]⟩⟩=>
 (match s.look 3 with
 |some ⟨none,.one ⟨false,[.ptr 512 0]⟩⟩=>
 (match s.look 2 with
 |some ⟨none,.one ⟨false,[.ref 6]⟩⟩=>
 (match s.ent 576 with
 |some (.box 31 [.val (.int .i64 y0),.ref 2368,.ref 3008,.ref 3648,.ref 4288])=>
 (match s.ent 512 with
 |some (.box 27 [.val (.int .i64 y1),.val (.int .i64 y2),.val (.int .i64 y3),.ref 0,.ref 1])=>
 (match s.ent 6 with
 |some (.row false 2 (.int .i64) y4)=>
 (match s.ent 0 with
 |some (.row false 122 (.pair (.int .i64) (.pair .str (.int .i64))) y9)=>
 (match s.ent 1 with
 |some (.row false 83 (.pair (.int .i64) (.int .i64)) y10)=>
 (match s.ent 2368 with
 |some (.row false 2 (.int .i64) y5)=>
 (match s.ent 3008 with
 |some (.row false 2 (.int .i64) y6)=>
 (match s.ent 3648 with
 |some (.row false 2 (.int .i64) y7)=>
 (match s.ent 4288 with
 |some (.row false 109 (.pair (.int .i64) (.pair (.int .i64) (.int .i64))) y8)=>
 some (y0,y1,y2,y3,y4,y5,y6,y7,y8,y9,y10)
 |_=>none)
 |_=>none)
 |_=>none)
 |_=>none)
 |_=>none)
 |_=>none)
 |_=>none)
 |_=>none)
 |_=>none)
 |_=>none)
 |_=>none)
 |_=>none)
def jC:Lp oy where
 h:=⟨[23,24,25,26,27,28,29,30,31,32],[0,1,2,7,8],[3,4,5,6],[]⟩
 JL:=aar
 JE:=aao
 XL:=aaK
 XE:=aaH
 q:=fun j=>match j with | _=> .exit 0
 tags:= [0]
 lt:=HZ
 fuel:=fun(y0,y1,y2,y3,y4,y5,y6,y7,y8,y9,y10)=>y0.natAbs + y1.natAbs + y2.natAbs + y3.natAbs + y4.length + y5.length + y6.length + y7.length + y8.length + y9.length + y10.length
 fix:=fun(_,y1,y2,y3,y4,_,_,_,_,y9,y10) (y0,_,_,_,_,y5,y6,y7,y8,_,_)=>(y0,y1,y2,y3,y4,y5,y6,y7,y8,y9,y10)
 σ:= [(0,576),(1,512),(2,6),(7,0),(8,1),(3,2368),(4,3008),(5,3648),(6,4288)]
 rd:=Im
 fz:= [0]
theorem Ym:LoopOk prog (fun k=>Nat.blt k Tryz.f47.ntmps) jC.F (bV f47 0):=by
 refine Lp.ok (tbl:= (T3z [DG,aE])) (lf:= []) bG jC (by kernel_rfl) (LOk.nil _) (fun _=>rfl) (fun _ _=>rfl) ?_ ?_ ?_ ?_ (fun _=>rfl) ?_
 ·rintro⟨y0,y1,y2,y3,y4,y5,y6,y7,y8,y9,y10⟩;kernel_rfl
 ·rintro⟨y0,y1,y2,y3,y4,y5,y6,y7,y8,y9,y10⟩;kernel_rfl
 ·intro s x h
  have h:Im s=some x:=h
  unfold Im at h
  repeat' split at h
  all_goals cases h
  constructor<;>repeat(first|refine ab (by assumption) rfl ?_|refine aa rfl (by assumption) rfl ?_|exact rfl)
 ·rintro⟨y0,y1,y2,y3,y4,y5,y6,y7,y8,y9,y10⟩;kernel_rfl
 ·rintro⟨y0,y1,y2,y3,y4,y5,y6,y7,y8,y9,y10⟩ z;exact(And.intro rfl trivial)
section
variable (x0 x1 x2 x3:Int)(x4:List (Int×alV×Int))(x5:List (Int×Int))(x6 x7 x8:List Int)(x9:List (Int×Int×Int))(x10:List Int)
def Hh:Int×Int×Int×Int×List Int×List Int×List Int×List Int×List (Int×Int×Int)×List (Int×alV×Int)×List (Int×Int):=(x3,x0,x1,x2,x10,x6,x7,x8,x9,x4,x5)
def On:List Int×List Int×List Int×List (Int×Int×Int)×List (Int×alV×Int)×List (Int×Int):=(Lp.res jC (Hh x0 x1 x2 x3 x4 x5 x6 x7 x8 x9 x10)).2.2.2.2.2.2
def Oo:List Int×List Int×List (Int×Int×Int)×List (Int×alV×Int)×List (Int×Int):=(On x0 x1 x2 x3 x4 x5 x6 x7 x8 x9 x10).2
def Oq:List Int×List (Int×Int×Int)×List (Int×alV×Int)×List (Int×Int):=(Oo x0 x1 x2 x3 x4 x5 x6 x7 x8 x9 x10).2
def PW:Int:=((Lp.res jC (Hh x0 x1 x2 x3 x4 x5 x6 x7 x8 x9 x10)).2).1
def PX:List Int:=(On x0 x1 x2 x3 x4 x5 x6 x7 x8 x9 x10).1
def PY:List Int:=(Oo x0 x1 x2 x3 x4 x5 x6 x7 x8 x9 x10).1
def PZ:List Int:=(Oq x0 x1 x2 x3 x4 x5 x6 x7 x8 x9 x10).1
def Qa:List (Int×(Int×Int)):=((Oq x0 x1 x2 x3 x4 x5 x6 x7 x8 x9 x10).2).1
def Qb:Bool:=allT [leN x6.length (1048576:Nat),leN x7.length (1048576:Nat),leN x8.length (1048576:Nat),leN (0 + j9 x9) 9223372036854775807,leN ((0 + j9 x9) * 24) 140737488355328,Lp.fin jC (Hh x0 x1 x2 x3 x4 x5 x6 x7 x8 x9 x10)]
end
def WB:List SV→List Entry→Option Out
 | [.one ⟨true,[.val (.int .i64 x0),.val (.int .i64 x1),.val (.int .i64 x2),.ref 0,.ref 1]⟩,.one ⟨true,[.val (.int .i64 x3),.ref 2,.ref 3,.ref 4,.ref 5]⟩,.one ⟨false,[.ref 6]⟩],[.row false 122 (.pair (.int .i64) (.pair (.str) (.int .i64))) x4,.row false 83 (.pair (.int .i64) (.int .i64)) x5,.row false 2 (.int .i64) x6,.row false 2 (.int .i64) x7,.row false 2 (.int .i64) x8,.row false 109 (.pair (.int .i64) (.pair (.int .i64) (.int .i64))) x9,.row false 2 (.int .i64) x10]=>some ⟨.one ⟨true,[.val (.int .i64 (PW x0 x1 x2 x3 x4 x5 x6 x7 x8 x9 x10)),.ref 7,.ref 8,.ref 9,.ref 10]⟩,[.row false 122 afs x4,.row false 83 ahF x5,.row false 2 akd x6,.row false 2 akd x7,.row false 2 akd x8,.row false 109 ac0 x9,.row false 2 akd x10],[.row false 2 akd (PX x0 x1 x2 x3 x4 x5 x6 x7 x8 x9 x10),.row false 2 akd (PY x0 x1 x2 x3 x4 x5 x6 x7 x8 x9 x10),.row false 2 akd (PZ x0 x1 x2 x3 x4 x5 x6 x7 x8 x9 x10),.row false 109 ac0 (Qa x0 x1 x2 x3 x4 x5 x6 x7 x8 x9 x10)],[Qb x0 x1 x2 x3 x4 x5 x6 x7 x8 x9 x10]⟩
 |_,_=>none
def agQ:PF prog:=PF.ofG prog (T3z [DG,aE]) [(fun s=>jC.F (aaL [(576,1),(576,2),(576,3),(576,4)] s))] bG 47 f47 func47 (LOk.fnT (l:= [bV f47 0]) (by kernel_rfl) (.cons (Ym.alias [(576,1),(576,2),(576,3),(576,4)]) (.nil _))) WB (by
 intro vs es r h;unfold WB at h;split at h
 ·cases h;kernel_rfl
 ·cases h)
def Lb:List Int:= []
def Lc(x2:Int):List Int:=v5 x2.toNat (0:Int)
def Ld(x2:Int)(x5:List Int)(x6:List (Int×Int×Int)):Bool:=allT [leN x5.length (1048576:Nat),leI 0 x2,leI x2 x2,leI ((↑(8:Nat):Int) * x2) 281474976710656,leI x2 9223372036854775807,leN (0 + j9 x6) 9223372036854775807,leN ((0 + j9 x6) * 24) 140737488355328]
def YM:List SV→List Entry→Option Out
 | [.one ⟨true,[.val (.int .i64 _x0),.val (.int .i64 _x1),.val (.int .i64 x2),.ref 0,.ref 1]⟩,.one ⟨true,[.ref 2,.ref 3]⟩],[.row false 122 (.pair (.int .i64) (.pair (.str) (.int .i64))) x3,.row false 83 (.pair (.int .i64) (.int .i64)) x4,.row false 2 (.int .i64) x5,.row false 109 (.pair (.int .i64) (.pair (.int .i64) (.int .i64))) x6]=>some ⟨.one ⟨true,[.val (.int .i64 0),.ref 4,.ref 5,.ref 6,.ref 7]⟩,[.row false 122 afs x3,.row false 83 ahF x4,.row false 2 akd x5,.row false 109 ac0 x6],[.row true 2 akd (Lb),.row true 2 akd x5,.row true 2 akd (Lc x2),.row true 109 ac0 x6],[Ld x2 x5 x6]⟩
 |_,_=>none
def Rh:PF prog:=PF.ofG prog (T3z [aE]) [] bG 76 f76 func76 (fun c _=>LOk.nil c) YM (by
 intro vs es r h;unfold YM at h;split at h
 ·cases h;kernel_rfl
 ·cases h)
section
variable (x3:Int)(x4:List (Int×alV×Int))(x5:List (Int×Int))(x6 x7 x8 x9:List Int)(x10:List (Int×Int×Int))
def aj:Int×Int:=v3 x5[j8 x3]? ((0:Int),(0:Int))
def bf:Bool:=bW ((aj x3 x5).1)==1
def mY:Int:=v4 .i64 (x3 + (1:Int))
def am:Int:=v4 .i64 (Jw x7 - be ((aj x3 x5).1) ((aj x3 x5).2) x4)
def aw:List Int:= [bq ((aj x3 x5).1) ((aj x3 x5).2) x4 (List.drop (j8 (am x3 x4 x5 x7)) x7) x6 x8 x10]
def eY:Int:=bif bf x3 x5 then mY x3 else mY x3
def eZ:List Int:=bif bf x3 x5 then x8 else mZ ((aj x3 x5).1) ((aj x3 x5).2) (List.drop (j8 (am x3 x4 x5 x7)) x7) x8
def fa:List Int:=bif bf x3 x5 then x9 else iE ((aj x3 x5).1) ((aj x3 x5).2) (List.drop (j8 (am x3 x4 x5 x7)) x7) x6 x8 x9
def fb:List (Int×(Int×Int)):=bif bf x3 x5 then eX ((aj x3 x5).1) ((aj x3 x5).2) x4 (List.drop (j8 (am x3 x4 x5 x7)) x7) x10 else x10
def fc:List Int:=bif bf x3 x5 then List.take (j8 (am x3 x4 x5 x7)) x7++aw x3 x4 x5 x6 x7 x8 x10 else List.take (j8 (am x3 x4 x5 x7)) x7
def ax:Bool:=allT [leI 0 x3,ltI x3 (↑x5.length:Int),ltN x3.toNat x5.length,ik ((aj x3 x5).1) ((aj x3 x5).2) x4,leI 0 (am x3 x4 x5 x7),leI (am x3 x4 x5 x7) (↑x7.length:Int),leN (j8 (am x3 x4 x5 x7)) x7.length,leN (j9 (List.drop (j8 (am x3 x4 x5 x7)) x7)) 1048576,leI 0 (am x3 x4 x5 x7),leI (am x3 x4 x5 x7) (↑x7.length:Int),!bf x3 x5||ak ((aj x3 x5).1) ((aj x3 x5).2) x4 (List.drop (j8 (am x3 x4 x5 x7)) x7) x6 x8 x10,!bf x3 x5||leN (j9 (List.take (j8 (am x3 x4 x5 x7)) x7) + j9 (aw x3 x4 x5 x6 x7 x8 x10)) 9223372036854775807,!bf x3 x5||leN ((j9 (List.take (j8 (am x3 x4 x5 x7)) x7) + j9 (aw x3 x4 x5 x6 x7 x8 x10)) * 8) 140737488355328,bf x3 x5||bn ((aj x3 x5).1) ((aj x3 x5).2) (List.drop (j8 (am x3 x4 x5 x7)) x7) x6 x8 x9]
end
def tx:List SV→List Entry→Option Out
 | [.one ⟨false,[.ptr 0 0]⟩,.one ⟨true,[.val (.int .i64 _x0),.val (.int .i64 _x1),.val (.int .i64 _x2),.ref 1,.ref 2]⟩,.one ⟨false,[.ref 3]⟩],[.box 31 [.val (.int .i64 x3),.ref 4,.ref 5,.ref 6,.ref 7],.row false 122 (.pair (.int .i64) (.pair .str (.int .i64))) x4,.row false 83 (.pair (.int .i64) (.int .i64)) x5,.row false 2 (.int .i64) x6,.row true 2 (.int .i64) x7,.row true 2 (.int .i64) x8,.row true 2 (.int .i64) x9,.row true 109 (.pair (.int .i64) (.pair (.int .i64) (.int .i64))) x10]=>some ⟨.tup [],[.box 31 [.val (.int .i64 (eY x3 x5)),.ref 8,.ref 5,.ref 6,.ref 7],.row false 122 afs x4,.row false 83 ahF x5,.row false 2 akd x6,.gone,.row true 2 akd (eZ x3 x4 x5 x7 x8),.row true 2 akd (fa x3 x4 x5 x6 x7 x8 x9),.row true 109 ac0 (fb x3 x4 x5 x7 x10)],[.row true 2 akd (fc x3 x4 x5 x6 x7 x8 x10)],[ax x3 x4 x5 x6 x7 x8 x9 x10]⟩
 |_,_=>none
def nt:PF prog:=PF.ofG prog [PF.views prog,na,PF.lend na,PF.lend (PF.view na),db,PF.lend db,RA,PF.lend RA,ark,DD] [] bG 51 f51 func51 (fun c _=>LOk.nil c) tx (by
 intro vs es r h;unfold tx at h;split at h
 ·cases h;kernel_rfl
 ·cases h)
theorem aly{a b:Int}(ha:a=0∨a=1)(hb:b=0∨b=1):IntKind.i64.wrap ((BitVec.toNat (BitVec.ofInt (IntKind.bits IntKind.i64) a&&& BitVec.ofInt (IntKind.bits IntKind.i64) b):Nat):Int)=ajz a b:=by
 rcases ha with rfl | rfl <;> rcases hb with rfl | rfl <;> rfl
theorem aos{a b:Int}(ha:a=0∨a=1)(hb:b=0∨b=1):IntKind.i64.wrap ((BitVec.toNat (BitVec.ofInt (IntKind.bits IntKind.i64) a||| BitVec.ofInt (IntKind.bits IntKind.i64) b):Nat):Int)=orI a b:=by
 rcases ha with rfl | rfl <;> rcases hb with rfl | rfl <;> rfl
theorem aoq{a:Int}(ha:a=0∨a=1):IntKind.i64.wrap (1 - a)=1 - a:=by rcases ha with rfl | rfl <;> rfl
theorem an1{bs:List TM}{x:IN}{stk:List Int}(h:bitsB (tkI bs x) (ly bs x stk)=true):((ly bs x stk).length:Int)=tkI bs x:=(cO.1 h).2
theorem aq1{bs:List TM}{x:IN}:(x.1=4→tkI bs x=1)∧(x.1=5→tkI bs x=2)∧(x.1=6→tkI bs x=2)∧(x.1=8→tkI bs x=1)∧(x.1=9→tkI bs x=1)∧(x.1=7→tkI bs x=takesK (ek bs x.2.toNat).1):=by
 refine⟨fun h=> ?_,fun h=> ?_,fun h=> ?_,fun h=> ?_,fun h=> ?_,fun h=> ?_⟩ <;> simp [tkI,eG,lC,lD,qD,h,takesK,ek]
theorem aqV{x:IN}:((x.1=1∨x.1=2∨x.1=3∨x.1=4∨x.1=5∨x.1=6∨x.1=7)→gvI x=1)∧((x.1=8∨x.1=9∨x.1=10∨x.1=11)→gvI x=0):=by
 refine⟨fun h=> ?_,fun h=> ?_⟩
 ·rcases h with h | h | h | h | h | h | h <;> simp [gvI,jf,lC,lD,qD,h]
 ·rcases h with h | h | h | h <;> simp [gvI,jf,lC,lD,qD,h]
theorem amD{i v o:Int}{bs:List TM}{st:List IN}{inp:List Int}{k:Int}{stk xs os:List Int}{ss:List BS3}(hC:eR i v o bs st=true)(tu:bitsB i inp=true)
  (h:OkM i v o bs st k stk xs os ss) (eQ:k < st.length) {x:IN} (hx:st[k.toNat]? =some x):
  Aw k st=k + 1∧Ax k bs st stk xs ss inp=ajW bs inp x stk xs ss∧Ez k bs st stk xs=anX bs x stk xs∧
  EA k bs st stk xs os inp=anC bs inp x stk xs os∧EB k bs st stk ss=alD bs x stk ss∧jn k bs st stk xs os ss inp=true:=by
 obtain⟨g1,g2,g3,g4,g5,_⟩:=alo hC tu h eQ hx
 simp only [eR,q9]at hC
 obtain⟨hr,hB,fl⟩:=hC
 obtain⟨ri,rv,ro,rb,rs⟩:=FL.1 hr
 have h0:=h.lo
 have t2:=Wp bs x
 have hxl:=(cO.1 h.vl).2
 have hol:=(cO.1 h.ou).2
 have hil:=(cO.1 tu).2
 have hsl:=h.sl
 have hargb:=(cO.1 g3).1
 have hal:=an1 g3
 have ha0:=EQ hargb 0
 have ha1:=EQ hargb 1
 have e0:az k st=x:=by simp only [az,hx,Option.getD_some]
 have w3:IntKind.i64.wrap (k + 1)=k + 1:=aJ (by omega) (by omega)
 have e14:tp k bs st stk=stk.length - tkI bs x:=by
  simp only [tp,e0]
  exact aJ (by have:eG x.1 x.2 bs=tkI bs x:=rfl;omega) (by have:eG x.1 x.2 bs=tkI bs x:=rfl;omega)
 have en:((stk.length:Int) - tkI bs x).toNat=stk.length - (tkI bs x).toNat:=by omega
 have e15:bg k bs st stk=agX bs x stk:=by simp only [bg,e14,en,agX];rfl
 have e18:gH k bs st stk=ly bs x stk:=by simp only [gH,e14,en,ly,w5,List.take_length]
 have e19:wo k bs st stk=atZ (ly bs x stk) 0:=by simp only [wo,e18,atZ]
 have e20: ∀ d:Int,v3 (ly bs x stk)[j8 (1:Int)]? d=v3 (ly bs x stk)[j8 (1:Int)]? d:=fun _=>rfl
 have hl1:leN (agX bs x stk).length 1048576=true:=aR (by have:=abW g2;omega)
 have hl2:leN (ly bs x stk).length 1048576=true:=aR (by omega)
 have hl3:leN xs.length 1048576=true:=aR (by omega)
 have hl4:leN os.length 1048576=true:=aR (by omega)
 have hl5:leN (0 + ss.length) 9223372036854775807=true:=aR (by omega)
 have hl6:leN ((0 + ss.length) * 24) 140737488355328=true:=aR (by omega)
 have hl7:leN ((agX bs x stk).length + 1) 9223372036854775807=true:=aR (by have:=abW g2;omega)
 have hl8:leN (((agX bs x stk).length + 1) * 8) 140737488355328=true:=aR (by have:=abW g2;omega)
 have n1:leI 0 k=true:=bu h0
 have n2:ltI k (st.length:Int)=true:=cS eQ
 have n3:ltN k.toNat st.length=true:=dI (by omega)
 have n4:uQ x.1 x.2 bs=true:=akO rb g1
 have n5:leI 0 ((stk.length:Int) - tkI bs x)=true:=bu (by omega)
 have n6:leI ((stk.length:Int) - tkI bs x) (stk.length:Int)=true:=bu (by omega)
 have n7: ∀ n:Nat,leI (n:Int) (n:Int)=true:=fun n=>bu (by omega)
 have my: ∀ c:Int,x.1=c→ac k st=(c==1)∧ae k st=(c==2)∧ah k st=(c==3)∧ai k st=(c==4)∧al k st=(c==5)∧au k st=(c==6)∧
   aF k st=(c==7)∧aS k st=(c==8)∧bL k st=(c==9)∧dq k st=(c==10)∧gG k st=(c==11)∧ag k st=(gvI x==1):=by
  intro c hc
  have h2:jf c=gvI x:=by rw [← hc];rfl
  refine⟨?_,?_,?_,?_,?_,?_,?_,?_,?_,?_,?_,?_⟩ <;> simp only [ac,ag,ae,ah,ai,al,au,aF,aS,bL,dq,gG,e0,hc,h2]
 obtain⟨tk4,tk5,tk6,tk8,tk9,tk7⟩:=aq1 (bs:=bs) (x:=x)
 obtain⟨gv1,gv0⟩:=aqV (x:=x)
 have hB7:x.1=7→0≤x.2∧x.2 < bs.length→vM (ek bs x.2.toNat).1 (ek bs x.2.toNat).2.1 (ek bs x.2.toNat).2.2=true:=fun _ hq=>by
  have hlt7:x.2.toNat < bs.length:=by omega
  have hg7:ek bs x.2.toNat=bs[x.2.toNat]:=by simp only [ek,List.getElem?_eq_getElem hlt7];rfl
  rw [hg7];exact List.all_eq_true.1 hB _ (List.getElem_mem hlt7)
 have hs0:Aw k st=k + 1:=by simp only [Aw,cN,w3,w9]
 have hmask: ∀ (l:List Int) (z:Int),xx z l=anx l z:=fun l z=>by simp only [xx,anx,w5]
 have EP:=abO ri rv ro rb g1
 have a16:tq k st inp=atZ inp x.2:=by simp only [tq,e0,atZ]
 have a17:tt k st xs=atZ xs x.2:=by simp only [tt,e0,atZ]
 have a23:qG k bs st=ek bs x.2.toNat:=by simp only [qG,e0,ek]
 have a24:lE k st ss=stAt ss x.2.toNat:=by simp only [lE,e0,stAt]
 have a27:Jk k bs st stk xs=xs.set x.2.toNat (atZ (ly bs x stk) 0):=by simp only [Jk,e0,e19]
 have a28:Jl k bs st stk os=os.set x.2.toNat (atZ (ly bs x stk) 0):=by simp only [Jl,e0,e19]
 have a20:fR k bs st stk= [1 - atZ (ly bs x stk) 0]:=by simp only [fR,e19,aoq ha0]
 have a21:fS k bs st stk= [ajz (atZ (ly bs x stk) 0) (atZ (ly bs x stk) 1)]:=by
  simp only [fS,e19,e18]
  exact congrArg (fun z=> [z]) (aly ha0 ha1)
 have a22:fT k bs st stk= [orI (atZ (ly bs x stk) 0) (atZ (ly bs x stk) 1)]:=by
  simp only [fT,e19,e18]
  exact congrArg (fun z=> [z]) (aos ha0 ha1)
 have a25:fU k bs st stk ss= [anW (ek bs x.2.toNat).1 (ek bs x.2.toNat).2.2 (ly bs x stk) (stAt ss x.2.toNat)]:=by simp only [fU,a23,a24,e18,anW]
 have a29:Jm k bs st stk ss=ss.set x.2.toNat (MW (ek bs x.2.toNat).1 (ek bs x.2.toNat).2.2 (ly bs x stk) (stAt ss x.2.toNat)):=by simp only [Jm,a23,a24,e18,e0,MW]
 refine⟨hs0,?_,?_,?_,?_,?_⟩
 ·rcases EP with⟨e,q⟩ | ⟨e,q⟩ | ⟨e,q⟩ | e | e | e | ⟨e,q⟩ | ⟨e,q⟩ | ⟨e,q⟩ | ⟨e,q⟩ | ⟨e,q⟩ <;> (
   obtain⟨k1,k4,k5,k6,k7,k8,k9,k10,k11,k12,k13,k2⟩:=my _ e
   first
   |(have gv:gvI x=1:=gv1 (by omega)
     simp [Ax,wq,ajW,Ul,k1,k2,k4,k5,k6,k7,k8,k9,k10,k11,k12,k13,e0,e15,a16,a17,a20,a21,a22,a25,e,gv])
   |(have gv:gvI x=0:=gv0 (by omega)
     simp [Ax,wq,ajW,Ul,k1,k2,k4,k5,k6,k7,k8,k9,k10,k11,k12,k13,e0,e15,a16,a17,a20,a21,a22,a25,e,gv]))
 ·rcases EP with⟨e,q⟩ | ⟨e,q⟩ | ⟨e,q⟩ | e | e | e | ⟨e,q⟩ | ⟨e,q⟩ | ⟨e,q⟩ | ⟨e,q⟩ | ⟨e,q⟩ <;> (
   obtain⟨k1,k4,k5,k6,k7,k8,k9,k10,k11,k12,k13,k2⟩:=my _ e
   simp [Ez,anX,w9,k1,k4,k5,k6,k7,k8,k9,k10,k11,k12,k13,a27,e])
 ·rcases EP with⟨e,q⟩ | ⟨e,q⟩ | ⟨e,q⟩ | e | e | e | ⟨e,q⟩ | ⟨e,q⟩ | ⟨e,q⟩ | ⟨e,q⟩ | ⟨e,q⟩ <;> (
   obtain⟨k1,k4,k5,k6,k7,k8,k9,k10,k11,k12,k13,k2⟩:=my _ e
   simp [EA,anC,w9,k1,k4,k5,k6,k7,k8,k9,k10,k11,k12,k13,a28,a16,a17,hmask,e])
 ·rcases EP with⟨e,q⟩ | ⟨e,q⟩ | ⟨e,q⟩ | e | e | e | ⟨e,q⟩ | ⟨e,q⟩ | ⟨e,q⟩ | ⟨e,q⟩ | ⟨e,q⟩ <;> (
   obtain⟨k1,k4,k5,k6,k7,k8,k9,k10,k11,k12,k13,k2⟩:=my _ e
   simp [EB,alD,w9,k1,k4,k5,k6,k7,k8,k9,k10,k11,k12,k13,a29,e])
 ·rcases EP with⟨e,q⟩ | ⟨e,q⟩ | ⟨e,q⟩ | e | e | e | ⟨e,q⟩ | ⟨e,q⟩ | ⟨e,q⟩ | ⟨e,q⟩ | ⟨e,q⟩
  ·obtain⟨k1,k4,k5,k6,k7,k8,k9,k10,k11,k12,k13,k2⟩:=my _ e
   have z0:leI (0:Int) 0=true:=rfl
   have z1:leI (0:Int) 1=true:=rfl
   simp [jn,allT,k1,k2,k4,k5,k6,k7,k8,k9,k10,k11,k12,k13,e0,e14,e15,e18,n1,n2,n3,n4,n5,n6,n7,hl1,hl2,hl3,hl4,hl5,hl6,hl7,hl8,fR,fS,fT,fU,jY,iQ,fV,fW,jZ,ka,iR,kb,ke,fX,fY,w7,z0,z1] <;> omega
  ·obtain⟨k1,k4,k5,k6,k7,k8,k9,k10,k11,k12,k13,k2⟩:=my _ e
   have z0:leI (0:Int) 0=true:=rfl
   have z1:leI (0:Int) 1=true:=rfl
   have r1:leI 0 x.2=true:=bu (by omega)
   have r2:ltI x.2 (inp.length:Int)=true:=cS (by omega)
   have r3:ltN x.2.toNat inp.length=true:=dI (by omega)
   simp [jn,allT,k1,k2,k4,k5,k6,k7,k8,k9,k10,k11,k12,k13,e0,e14,e15,e18,n1,n2,n3,n4,n5,n6,n7,hl1,hl2,hl3,hl4,hl5,hl6,hl7,hl8,fR,fS,fT,fU,jY,iQ,fV,fW,jZ,ka,iR,kb,ke,fX,fY,w7,z0,z1,r1,r2,r3] <;> omega
  ·obtain⟨k1,k4,k5,k6,k7,k8,k9,k10,k11,k12,k13,k2⟩:=my _ e
   have z0:leI (0:Int) 0=true:=rfl
   have z1:leI (0:Int) 1=true:=rfl
   have r1:leI 0 x.2=true:=bu (by omega)
   have r2:ltI x.2 (xs.length:Int)=true:=cS (by omega)
   have r3:ltN x.2.toNat xs.length=true:=dI (by omega)
   simp [jn,allT,k1,k2,k4,k5,k6,k7,k8,k9,k10,k11,k12,k13,e0,e14,e15,e18,n1,n2,n3,n4,n5,n6,n7,hl1,hl2,hl3,hl4,hl5,hl6,hl7,hl8,fR,fS,fT,fU,jY,iQ,fV,fW,jZ,ka,iR,kb,ke,fX,fY,w7,z0,z1,r1,r2,r3] <;> omega
  ·obtain⟨k1,k4,k5,k6,k7,k8,k9,k10,k11,k12,k13,k2⟩:=my _ e
   have z0:leI (0:Int) 0=true:=rfl
   have z1:leI (0:Int) 1=true:=rfl
   have tk:=tk4 e
   have s1:ltI 0 ((ly bs x stk).length:Int)=true:=cS (by omega)
   have s2:ltN (j8 0) (ly bs x stk).length=true:=dI (by simp only [Int.toNat_zero];omega)
   simp [jn,allT,k1,k2,k4,k5,k6,k7,k8,k9,k10,k11,k12,k13,e0,e14,e15,e18,n1,n2,n3,n4,n5,n6,n7,hl1,hl2,hl3,hl4,hl5,hl6,hl7,hl8,fR,fS,fT,fU,jY,iQ,fV,fW,jZ,ka,iR,kb,ke,fX,fY,w7,z0,z1,s1,s2] <;> omega
  ·obtain⟨k1,k4,k5,k6,k7,k8,k9,k10,k11,k12,k13,k2⟩:=my _ e
   have z0:leI (0:Int) 0=true:=rfl
   have z1:leI (0:Int) 1=true:=rfl
   have tk:=tk5 e
   have s1:ltI 0 ((ly bs x stk).length:Int)=true:=cS (by omega)
   have s2:ltN (j8 0) (ly bs x stk).length=true:=dI (by simp only [Int.toNat_zero];omega)
   have s3:ltI 1 ((ly bs x stk).length:Int)=true:=cS (by omega)
   have s4:ltN (j8 1) (ly bs x stk).length=true:=dI (by rw [show j8 1=1 from rfl];omega)
   simp [jn,allT,k1,k2,k4,k5,k6,k7,k8,k9,k10,k11,k12,k13,e0,e14,e15,e18,n1,n2,n3,n4,n5,n6,n7,hl1,hl2,hl3,hl4,hl5,hl6,hl7,hl8,fR,fS,fT,fU,jY,iQ,fV,fW,jZ,ka,iR,kb,ke,fX,fY,w7,z0,z1,s1,s2,s3,s4] <;> omega
  ·obtain⟨k1,k4,k5,k6,k7,k8,k9,k10,k11,k12,k13,k2⟩:=my _ e
   have z0:leI (0:Int) 0=true:=rfl
   have z1:leI (0:Int) 1=true:=rfl
   have tk:=tk6 e
   have s1:ltI 0 ((ly bs x stk).length:Int)=true:=cS (by omega)
   have s2:ltN (j8 0) (ly bs x stk).length=true:=dI (by simp only [Int.toNat_zero];omega)
   have s3:ltI 1 ((ly bs x stk).length:Int)=true:=cS (by omega)
   have s4:ltN (j8 1) (ly bs x stk).length=true:=dI (by rw [show j8 1=1 from rfl];omega)
   simp [jn,allT,k1,k2,k4,k5,k6,k7,k8,k9,k10,k11,k12,k13,e0,e14,e15,e18,n1,n2,n3,n4,n5,n6,n7,hl1,hl2,hl3,hl4,hl5,hl6,hl7,hl8,fR,fS,fT,fU,jY,iQ,fV,fW,jZ,ka,iR,kb,ke,fX,fY,w7,z0,z1,s1,s2,s3,s4] <;> omega
  ·obtain⟨k1,k4,k5,k6,k7,k8,k9,k10,k11,k12,k13,k2⟩:=my _ e
   have z0:leI (0:Int) 0=true:=rfl
   have z1:leI (0:Int) 1=true:=rfl
   have r1:leI 0 x.2=true:=bu (by omega)
   have r2:ltI x.2 (bs.length:Int)=true:=cS (by omega)
   have r3:ltN x.2.toNat bs.length=true:=dI (by omega)
   have r4:ltI x.2 (ss.length:Int)=true:=cS (by omega)
   have r5:ltN x.2.toNat ss.length=true:=dI (by omega)
   have r6:=(ah6 (hB7 e q) (h.sp x.2.toNat (by omega)) (by rw [← tk7 e];exact g3)).2.2.2.2.2.1
   simp [jn,allT,k1,k2,k4,k5,k6,k7,k8,k9,k10,k11,k12,k13,e0,e14,e15,e18,n1,n2,n3,n4,n5,n6,n7,hl1,hl2,hl3,hl4,hl5,hl6,hl7,hl8,fR,fS,fT,fU,jY,iQ,fV,fW,jZ,ka,iR,kb,ke,fX,fY,w7,z0,z1,r1,r2,r3,r4,r5,r6] <;> omega
  ·obtain⟨k1,k4,k5,k6,k7,k8,k9,k10,k11,k12,k13,k2⟩:=my _ e
   have z0:leI (0:Int) 0=true:=rfl
   have z1:leI (0:Int) 1=true:=rfl
   have tk:=tk8 e
   have s1:ltI 0 ((ly bs x stk).length:Int)=true:=cS (by omega)
   have s2:ltN (j8 0) (ly bs x stk).length=true:=dI (by simp only [Int.toNat_zero];omega)
   have r1:leI 0 x.2=true:=bu (by omega)
   have r2:ltI x.2 (xs.length:Int)=true:=cS (by omega)
   have r3:ltN x.2.toNat xs.length=true:=dI (by omega)
   simp [jn,allT,k1,k2,k4,k5,k6,k7,k8,k9,k10,k11,k12,k13,e0,e14,e15,e18,n1,n2,n3,n4,n5,n6,n7,hl1,hl2,hl3,hl4,hl5,hl6,hl7,hl8,fR,fS,fT,fU,jY,iQ,fV,fW,jZ,ka,iR,kb,ke,fX,fY,w7,z0,z1,s1,s2,r1,r2,r3] <;> omega
  ·obtain⟨k1,k4,k5,k6,k7,k8,k9,k10,k11,k12,k13,k2⟩:=my _ e
   have z0:leI (0:Int) 0=true:=rfl
   have z1:leI (0:Int) 1=true:=rfl
   have tk:=tk9 e
   have s1:ltI 0 ((ly bs x stk).length:Int)=true:=cS (by omega)
   have s2:ltN (j8 0) (ly bs x stk).length=true:=dI (by simp only [Int.toNat_zero];omega)
   have r1:leI 0 x.2=true:=bu (by omega)
   have r2:ltI x.2 (os.length:Int)=true:=cS (by omega)
   have r3:ltN x.2.toNat os.length=true:=dI (by omega)
   simp [jn,allT,k1,k2,k4,k5,k6,k7,k8,k9,k10,k11,k12,k13,e0,e14,e15,e18,n1,n2,n3,n4,n5,n6,n7,hl1,hl2,hl3,hl4,hl5,hl6,hl7,hl8,fR,fS,fT,fU,jY,iQ,fV,fW,jZ,ka,iR,kb,ke,fX,fY,w7,z0,z1,s1,s2,r1,r2,r3] <;> omega
  ·obtain⟨k1,k4,k5,k6,k7,k8,k9,k10,k11,k12,k13,k2⟩:=my _ e
   have z0:leI (0:Int) 0=true:=rfl
   have z1:leI (0:Int) 1=true:=rfl
   have m1: ∀ z:Int,xy z os=true:=fun z=>by
    have q1:leI (0:Int) (os.length:Int)=true:=bu (by omega)
    have q2:leI (((8:Nat):Int) * (os.length:Int)) 281474976710656=true:=bu (by omega)
    have q3:leI (os.length:Int) 9223372036854775807=true:=bu (by omega)
    simp only [xy,q1,q2,q3,n7,allT,w8,cond_true]
   have r1:leI 0 x.2=true:=bu (by omega)
   have r2:ltI x.2 (inp.length:Int)=true:=cS (by omega)
   have r3:ltN x.2.toNat inp.length=true:=dI (by omega)
   simp [jn,allT,k1,k2,k4,k5,k6,k7,k8,k9,k10,k11,k12,k13,e0,e14,e15,e18,n1,n2,n3,n4,n5,n6,n7,hl1,hl2,hl3,hl4,hl5,hl6,hl7,hl8,fR,fS,fT,fU,jY,iQ,fV,fW,jZ,ka,iR,kb,ke,fX,fY,w7,z0,z1,m1,r1,r2,r3] <;> omega
  ·obtain⟨k1,k4,k5,k6,k7,k8,k9,k10,k11,k12,k13,k2⟩:=my _ e
   have z0:leI (0:Int) 0=true:=rfl
   have z1:leI (0:Int) 1=true:=rfl
   have m1: ∀ z:Int,xy z os=true:=fun z=>by
    have q1:leI (0:Int) (os.length:Int)=true:=bu (by omega)
    have q2:leI (((8:Nat):Int) * (os.length:Int)) 281474976710656=true:=bu (by omega)
    have q3:leI (os.length:Int) 9223372036854775807=true:=bu (by omega)
    simp only [xy,q1,q2,q3,n7,allT,w8,cond_true]
   have r1:leI 0 x.2=true:=bu (by omega)
   have r2:ltI x.2 (xs.length:Int)=true:=cS (by omega)
   have r3:ltN x.2.toNat xs.length=true:=dI (by omega)
   simp [jn,allT,k1,k2,k4,k5,k6,k7,k8,k9,k10,k11,k12,k13,e0,e14,e15,e18,n1,n2,n3,n4,n5,n6,n7,hl1,hl2,hl3,hl4,hl5,hl6,hl7,hl8,fR,fS,fT,fU,jY,iQ,fV,fW,jZ,ka,iR,kb,ke,fX,fY,w7,z0,z1,m1,r1,r2,r3] <;> omega
theorem al1{i v o:Int}{bs:List TM}{st:List IN}{inp:List Int}{k:Int}{stk xs os:List Int}{ss:List BS3}(hC:eR i v o bs st=true)(tu:bitsB i inp=true)
  (h:OkM i v o bs st k stk xs os ss) (eQ:k < st.length) {x:IN} (hx:st[k.toNat]? =some x):
  eY k st=k + 1∧fc k bs st inp stk xs ss=ajW bs inp x stk xs ss∧eZ k bs st stk xs=anX bs x stk xs∧
  fa k bs st inp stk xs os=anC bs inp x stk xs os∧fb k bs st stk ss=alD bs x stk ss∧ax k bs st inp stk xs os ss=true:=by
 obtain⟨g1,g2,g3,g4,g5,_⟩:=alo hC tu h eQ hx
 simp only [eR,q9]at hC
 obtain⟨hr,hB,fl⟩:=hC
 obtain⟨ri,rv,ro,rb,rs⟩:=FL.1 hr
 have h0:=h.lo
 have t2:=Wp bs x
 have hxl:=(cO.1 h.vl).2
 have hol:=(cO.1 h.ou).2
 have hil:=(cO.1 tu).2
 have hsl:=h.sl
 have hargb:=(cO.1 g3).1
 have hal:=an1 g3
 have ha0:=EQ hargb 0
 have ha1:=EQ hargb 1
 have e0:aj k st=x:=by simp only [aj,hx,Option.getD_some]
 have w3:mY k=k + 1:=aJ (by omega) (by omega)
 have e14:am k bs st stk=stk.length - tkI bs x:=by
  simp only [am,e0]
  have q:be x.1 x.2 bs=tkI bs x:=rfl
  have q2:Jw stk=(stk.length:Int):=rfl
  rw [q,q2]
  exact aJ (by omega) (by omega)
 have en:((stk.length:Int) - tkI bs x).toNat=stk.length - (tkI bs x).toNat:=by omega
 have e1:bf k st=(gvI x==1):=by
  simp only [bf,e0]
  rfl
 have ear:stk.drop (stk.length - (tkI bs x).toNat)=ly bs x stk:=rfl
 have ers:stk.take (stk.length - (tkI bs x).toNat)=agX bs x stk:=rfl
 have hz: ∀ (l:List Int) (z:Int),(bif z==0 then Vo l.length else l)=anx l z:=fun l z=>rfl
 have EP:=abO ri rv ro rb g1
 have hB7:x.1=7→0≤x.2∧x.2 < bs.length→vM (ek bs x.2.toNat).1 (ek bs x.2.toNat).2.1 (ek bs x.2.toNat).2.2=true:=fun _ hq=>by
  have hlt7:x.2.toNat < bs.length:=by omega
  have hg7:ek bs x.2.toNat=bs[x.2.toNat]:=by simp only [ek,List.getElem?_eq_getElem hlt7];rfl
  rw [hg7];exact List.all_eq_true.1 hB _ (List.getElem_mem hlt7)
 obtain⟨tk4,tk5,tk6,tk8,tk9,tk7⟩:=aq1 (bs:=bs) (x:=x)
 obtain⟨gv1,gv0⟩:=aqV (x:=x)
 have h7:x.1=7→0≤x.2∧x.2 < bs.length→_:=fun e q=>ah6 (hB7 e q) (h.sp x.2.toNat (by omega)) (by rw [← tk7 e];exact g3)
 have hga0:iD (ly bs x stk)=atZ (ly bs x stk) 0:=rfl
 have hga1:cj x.2 bs=ek bs x.2.toNat:=rfl
 have hga2:aP x.2 ss=stAt ss x.2.toNat:=rfl
 have hsa0:mH (ly bs x stk)=atZ (ly bs x stk) 0:=rfl
 have hat: ∀ (l:List Int) (z:Int),v3 l[j8 z]? (0:Int)=atZ l z:=fun _ _=>rfl
 have hat1: ∀ (l:List Int),v3 l[1]? (0:Int)=atZ l 1:=fun _=>rfl
 have hand:=aly ha0 ha1
 have hor:=aos ha0 ha1
 have hnot:=aoq ha0
 refine⟨?_,?_,?_,?_,?_,?_⟩
 ·simp only [eY,w3,w9]
 ·simp only [fc,aw,e0,e1,e14,en,ear,ers,ajW]
  rcases EP with⟨e,q⟩ | ⟨e,q⟩ | ⟨e,q⟩ | e | e | e | ⟨e,q⟩ | ⟨e,q⟩ | ⟨e,q⟩ | ⟨e,q⟩ | ⟨e,q⟩
  ·simp [bq,Ul,e,gv1 (by omega)]
  ·simp [bq,Ul,e,gv1 (by omega),hat]
  ·simp [bq,Ul,e,gv1 (by omega),hat]
  ·simp only [bq,Ul,e,hga0,hnot];rfl
  ·simp only [bq,Ul,e,hga0,hat,hand];rfl
  ·simp only [bq,Ul,e,hga0,hat,hor];rfl
  ·have:=(h7 e q).1
   simp only [bq,Ul,e,hga1,hga2]
   simp [this,anW]
  all_goals simp [gv0 (by omega)]
 ·simp only [eZ,e0,e1,e14,en,ear,anX]
  rcases EP with⟨e,q⟩ | ⟨e,q⟩ | ⟨e,q⟩ | e | e | e | ⟨e,q⟩ | ⟨e,q⟩ | ⟨e,q⟩ | ⟨e,q⟩ | ⟨e,q⟩
  all_goals first
   |simp [gv1 (by omega),e]
   |simp [gv0 (by omega),e,mZ,hsa0]
 ·simp only [fa,e0,e1,e14,en,ear,anC]
  rcases EP with⟨e,q⟩ | ⟨e,q⟩ | ⟨e,q⟩ | e | e | e | ⟨e,q⟩ | ⟨e,q⟩ | ⟨e,q⟩ | ⟨e,q⟩ | ⟨e,q⟩
  all_goals first
   |(simp [gv1 (by omega),e];done)
   |(simp [gv0 (by omega),e,iE,hsa0,hat];done)
   |(simp [gv0 (by omega),e,iE,hsa0,hat];exact hz _ _)
 ·simp only [fb,e0,e1,e14,en,ear,alD]
  rcases EP with⟨e,q⟩ | ⟨e,q⟩ | ⟨e,q⟩ | e | e | e | ⟨e,q⟩ | ⟨e,q⟩ | ⟨e,q⟩ | ⟨e,q⟩ | ⟨e,q⟩
  all_goals first
   |(have z:=h7 e q
     simp only [eX,e,hga1,hga2,z.2.1,z.2.2.1,z.2.2.2.1,gv1 (by omega)]
     simp [MW]
     done)
   |simp [gv1 (by omega),e,eX]
   |simp [gv0 (by omega),e]
 ·have n1:leI 0 k=true:=bu h0
  have n2:ltI k (st.length:Int)=true:=cS eQ
  have n3:ltN k.toNat st.length=true:=dI (by omega)
  have n4:ik x.1 x.2 bs=true:=akO rb g1
  have n5:leI 0 ((stk.length:Int) - tkI bs x)=true:=bu (by omega)
  have n6:leI ((stk.length:Int) - tkI bs x) (stk.length:Int)=true:=bu (by omega)
  have n7:leN (stk.length - (tkI bs x).toNat) stk.length=true:=aR (Nat.sub_le _ _)
  have n8:leN (ly bs x stk).length 1048576=true:=aR (by omega)
  have n9:leN ((agX bs x stk).length + 1) 9223372036854775807=true:=aR (by have:=abW g2;omega)
  have n10:leN (((agX bs x stk).length + 1) * 8) 140737488355328=true:=aR (by have:=abW g2;omega)
  have z0:leI (0:Int) 0=true:=rfl
  have z1:leI (0:Int) 1=true:=rfl
  rcases EP with⟨e,q⟩ | ⟨e,q⟩ | ⟨e,q⟩ | e | e | e | ⟨e,q⟩ | ⟨e,q⟩ | ⟨e,q⟩ | ⟨e,q⟩ | ⟨e,q⟩
  ·have gv:=gv1 (by omega)
   have hd:ak x.1 x.2 bs (ly bs x stk) inp xs ss=true:=by simp [ak,bm,bI,bJ,allT,e,z0,z1] <;> omega
   simp only [ax,aw,e0,e1,e14,en,ear,ers,gv,hd,n1,n2,n3,n4,n5,n6,n7,n8,n9,n10,w7,allT,beq_self_eq_true,Bool.not_true,Bool.false_or,Bool.true_or,w8,cond_true,show ((0:Int)==1)=false from rfl,Bool.not_false]
  ·have gv:=gv1 (by omega)
   have r1:leI 0 x.2=true:=bu (by omega)
   have r2:ltI x.2 (inp.length:Int)=true:=cS (by omega)
   have r3:ltN x.2.toNat inp.length=true:=dI (by omega)
   have hd:ak x.1 x.2 bs (ly bs x stk) inp xs ss=true:=by simp [ak,bm,bI,bJ,allT,e,z0,z1,r1,r2,r3] <;> omega
   simp only [ax,aw,e0,e1,e14,en,ear,ers,gv,hd,n1,n2,n3,n4,n5,n6,n7,n8,n9,n10,w7,allT,beq_self_eq_true,Bool.not_true,Bool.false_or,Bool.true_or,w8,cond_true,show ((0:Int)==1)=false from rfl,Bool.not_false]
  ·have gv:=gv1 (by omega)
   have r1:leI 0 x.2=true:=bu (by omega)
   have r2:ltI x.2 (xs.length:Int)=true:=cS (by omega)
   have r3:ltN x.2.toNat xs.length=true:=dI (by omega)
   have hd:ak x.1 x.2 bs (ly bs x stk) inp xs ss=true:=by simp [ak,bm,bI,bJ,allT,e,z0,z1,r1,r2,r3] <;> omega
   simp only [ax,aw,e0,e1,e14,en,ear,ers,gv,hd,n1,n2,n3,n4,n5,n6,n7,n8,n9,n10,w7,allT,beq_self_eq_true,Bool.not_true,Bool.false_or,Bool.true_or,w8,cond_true,show ((0:Int)==1)=false from rfl,Bool.not_false]
  ·have gv:=gv1 (by omega)
   have tk:=tk4 e
   have s1:ltI 0 ((ly bs x stk).length:Int)=true:=cS (by omega)
   have s2:ltN (j8 0) (ly bs x stk).length=true:=dI (by simp only [Int.toNat_zero];omega)
   have hd:ak x.1 x.2 bs (ly bs x stk) inp xs ss=true:=by simp [ak,bm,bI,bJ,allT,e,z0,z1,s1,s2] <;> omega
   simp only [ax,aw,e0,e1,e14,en,ear,ers,gv,hd,n1,n2,n3,n4,n5,n6,n7,n8,n9,n10,w7,allT,beq_self_eq_true,Bool.not_true,Bool.false_or,Bool.true_or,w8,cond_true,show ((0:Int)==1)=false from rfl,Bool.not_false]
  ·have gv:=gv1 (by omega)
   have tk:=tk5 e
   have s1:ltI 0 ((ly bs x stk).length:Int)=true:=cS (by omega)
   have s2:ltN (j8 0) (ly bs x stk).length=true:=dI (by simp only [Int.toNat_zero];omega)
   have s3:ltI 1 ((ly bs x stk).length:Int)=true:=cS (by omega)
   have s4:ltN (j8 1) (ly bs x stk).length=true:=dI (by rw [show j8 1=1 from rfl];omega)
   have hd:ak x.1 x.2 bs (ly bs x stk) inp xs ss=true:=by simp [ak,bm,bI,bJ,allT,e,z0,z1,s1,s2,s3,s4] <;> omega
   simp only [ax,aw,e0,e1,e14,en,ear,ers,gv,hd,n1,n2,n3,n4,n5,n6,n7,n8,n9,n10,w7,allT,beq_self_eq_true,Bool.not_true,Bool.false_or,Bool.true_or,w8,cond_true,show ((0:Int)==1)=false from rfl,Bool.not_false]
  ·have gv:=gv1 (by omega)
   have tk:=tk6 e
   have s1:ltI 0 ((ly bs x stk).length:Int)=true:=cS (by omega)
   have s2:ltN (j8 0) (ly bs x stk).length=true:=dI (by simp only [Int.toNat_zero];omega)
   have s3:ltI 1 ((ly bs x stk).length:Int)=true:=cS (by omega)
   have s4:ltN (j8 1) (ly bs x stk).length=true:=dI (by rw [show j8 1=1 from rfl];omega)
   have hd:ak x.1 x.2 bs (ly bs x stk) inp xs ss=true:=by simp [ak,bm,bI,bJ,allT,e,z0,z1,s1,s2,s3,s4] <;> omega
   simp only [ax,aw,e0,e1,e14,en,ear,ers,gv,hd,n1,n2,n3,n4,n5,n6,n7,n8,n9,n10,w7,allT,beq_self_eq_true,Bool.not_true,Bool.false_or,Bool.true_or,w8,cond_true,show ((0:Int)==1)=false from rfl,Bool.not_false]
  ·have gv:=gv1 (by omega)
   have r1:leI 0 x.2=true:=bu (by omega)
   have r2:ltI x.2 (bs.length:Int)=true:=cS (by omega)
   have r3:ltN x.2.toNat bs.length=true:=dI (by omega)
   have r4:ltI x.2 (ss.length:Int)=true:=cS (by omega)
   have r5:ltN x.2.toNat ss.length=true:=dI (by omega)
   have r6:=(h7 e q).2.2.2.2.1
   have hd:ak x.1 x.2 bs (ly bs x stk) inp xs ss=true:=by simp [ak,bm,bI,bJ,allT,e,z0,z1,r1,r2,r3,r4,r5,r6] <;> omega
   simp only [ax,aw,e0,e1,e14,en,ear,ers,gv,hd,n1,n2,n3,n4,n5,n6,n7,n8,n9,n10,w7,allT,beq_self_eq_true,Bool.not_true,Bool.false_or,Bool.true_or,w8,cond_true,show ((0:Int)==1)=false from rfl,Bool.not_false]
  ·have gv:=gv0 (by omega)
   have tk:=tk8 e
   have s1:ltI 0 ((ly bs x stk).length:Int)=true:=cS (by omega)
   have s2:ltN (j8 0) (ly bs x stk).length=true:=dI (by simp only [Int.toNat_zero];omega)
   have r1:leI 0 x.2=true:=bu (by omega)
   have r2:ltI x.2 (xs.length:Int)=true:=cS (by omega)
   have r3:ltN x.2.toNat xs.length=true:=dI (by omega)
   have hd:bn x.1 x.2 (ly bs x stk) inp xs os=true:=by simp [bn,allT,e,z0,z1,s1,s2,r1,r2,r3] <;> omega
   simp only [ax,aw,e0,e1,e14,en,ear,ers,gv,hd,n1,n2,n3,n4,n5,n6,n7,n8,n9,n10,w7,allT,beq_self_eq_true,Bool.not_true,Bool.false_or,Bool.true_or,w8,cond_true,show ((0:Int)==1)=false from rfl,Bool.not_false]
  ·have gv:=gv0 (by omega)
   have tk:=tk9 e
   have s1:ltI 0 ((ly bs x stk).length:Int)=true:=cS (by omega)
   have s2:ltN (j8 0) (ly bs x stk).length=true:=dI (by simp only [Int.toNat_zero];omega)
   have r1:leI 0 x.2=true:=bu (by omega)
   have r2:ltI x.2 (os.length:Int)=true:=cS (by omega)
   have r3:ltN x.2.toNat os.length=true:=dI (by omega)
   have hd:bn x.1 x.2 (ly bs x stk) inp xs os=true:=by simp [bn,allT,e,z0,z1,s1,s2,r1,r2,r3] <;> omega
   simp only [ax,aw,e0,e1,e14,en,ear,ers,gv,hd,n1,n2,n3,n4,n5,n6,n7,n8,n9,n10,w7,allT,beq_self_eq_true,Bool.not_true,Bool.false_or,Bool.true_or,w8,cond_true,show ((0:Int)==1)=false from rfl,Bool.not_false]
  ·have gv:=gv0 (by omega)
   have r1:leI 0 x.2=true:=bu (by omega)
   have r2:ltI x.2 (inp.length:Int)=true:=cS (by omega)
   have r3:ltN x.2.toNat inp.length=true:=dI (by omega)
   have hd:bn x.1 x.2 (ly bs x stk) inp xs os=true:=by simp [bn,allT,e,z0,z1,r1,r2,r3] <;> omega
   simp only [ax,aw,e0,e1,e14,en,ear,ers,gv,hd,n1,n2,n3,n4,n5,n6,n7,n8,n9,n10,w7,allT,beq_self_eq_true,Bool.not_true,Bool.false_or,Bool.true_or,w8,cond_true,show ((0:Int)==1)=false from rfl,Bool.not_false]
  ·have gv:=gv0 (by omega)
   have r1:leI 0 x.2=true:=bu (by omega)
   have r2:ltI x.2 (xs.length:Int)=true:=cS (by omega)
   have r3:ltN x.2.toNat xs.length=true:=dI (by omega)
   have hd:bn x.1 x.2 (ly bs x stk) inp xs os=true:=by simp [bn,allT,e,z0,z1,r1,r2,r3] <;> omega
   simp only [ax,aw,e0,e1,e14,en,ear,ers,gv,hd,n1,n2,n3,n4,n5,n6,n7,n8,n9,n10,w7,allT,beq_self_eq_true,Bool.not_true,Bool.false_or,Bool.true_or,w8,cond_true,show ((0:Int)==1)=false from rfl,Bool.not_false]
abbrev bP:=Int×Int×Int×Int×List Int×List Int×List Int×List Int×List (Int×(Int×Int))×List (Int×(alV×Int))×List (Int×Int)
section
variable (y0:Int)(y4 y5 y6 y7:List Int)(y8:List (Int×(Int×Int)))(y9:List (Int×(alV×Int)))(y10:List (Int×Int))
def lx:Bool:=ltI y0 (aq y10)
def qL:Bool:=ax y0 y9 y10 y4 y5 y6 y7 y8
def qM:Int:=eY y0 y10
def qN:List Int:=fc y0 y9 y10 y4 y5 y6 y8
def qO:List Int:=eZ y0 y9 y10 y5 y6
def qP:List Int:=fa y0 y9 y10 y4 y5 y6 y7
def qQ:List (Int×(Int×Int)):=fb y0 y9 y10 y5 y8
end
def AX:bP→List (Nat×SV)
 |(_,_,_,_,_,_,_,_,_,_,_)=> [(0,(.one ⟨false,[.ptr 0 0]⟩)),(4,(.one ⟨false,[.ptr 1 0]⟩)),(2,(.one ⟨false,[.ref 2]⟩))]
def AW:bP→List (Nat×Entry)
 |(y0,y1,y2,y3,y4,y5,y6,y7,y8,y9,y10)=> [(0,(.box 31 [.val (.int .i64 y0),.ref 3,.ref 4,.ref 5,.ref 6])),(1,(.box 27 [.val (.int .i64 y1),.val (.int .i64 y2),.val (.int .i64 y3),.ref 7,.ref 8])),(2,(.row false 2 akd y4)),(4,(.row true 2 akd y6)),(5,(.row true 2 akd y7)),(6,(.row true 109 ac0 y8)),(7,(.row false 122 afs y9)),(8,(.row false 83 ahF y10)),(3,(.row true 2 akd y5))]
def AZ:Nat→bP→List (Nat×SV)
 |_,(_,_,_,_,_,_,_,_,_,_,_)=> []
def AY:Nat→bP→List (Nat×Entry)
 |_,(y0,y1,y2,y3,y4,y5,y6,y7,y8,y9,y10)=> [(0,(.box 31 [.val (.int .i64 y0),.ref 3,.ref 4,.ref 5,.ref 6])),(1,(.box 27 [.val (.int .i64 y1),.val (.int .i64 y2),.val (.int .i64 y3),.ref 7,.ref 8])),(2,(.row false 2 akd y4)),(3,(.row true 2 akd y5)),(4,(.row true 2 akd y6)),(5,(.row true 2 akd y7)),(6,(.row true 109 ac0 y8)),(7,(.row false 122 afs y9)),(8,(.row false 83 ahF y10))]
def kZ:bP→LT bP
 |(y0,y1,y2,y3,y4,y5,y6,y7,y8,y9,y10)=> .ite (lx y0 y10) (.need [qL y0 y4 y5 y6 y7 y8 y9 y10] (.nrm ((qM y0 y10),y1,y2,y3,y4,qN y0 y4 y5 y6 y8 y9 y10,qO y0 y5 y6 y9 y10,qP y0 y4 y5 y6 y7 y9 y10,qQ y0 y5 y8 y9 y10,y9,y10) [(0,0),(1,1),(2,2),(3,768),(4,4),(5,5),(6,6),(7,7),(8,8)])) (.ext 0 [(0,0),(1,1),(2,2),(3,3),(4,4),(5,5),(6,6),(7,7),(8,8)])
def la(s:St):Option bP:=
 (match s.look 0 with
 |some ⟨none,.one ⟨false,[.ptr 0 0]⟩⟩=>
 (match s.look 4 with
 |some ⟨none,.one ⟨false,[.ptr 576 0]⟩⟩=>
 (match s.look 2 with
 |some ⟨none,.one ⟨false,[.ref 3]⟩⟩=>
 (match s.ent 0 with
 |some (.box 31 [.val (.int .i64 y0),.ref 4,.ref 5,.ref 6,.ref 7])=>
 (match s.ent 576 with
 |some (.box 27 [.val (.int .i64 y1),.val (.int .i64 y2),.val (.int .i64 y3),.ref 1,.ref 2])=>
 (match s.ent 3 with
 |some (.row false 2 (.int .i64) y4)=>
 (match s.ent 5 with
 |some (.row true 2 (.int .i64) y6)=>
 (match s.ent 6 with
 |some (.row true 2 (.int .i64) y7)=>
 (match s.ent 7 with
 |some (.row true 109 (.pair (.int .i64) (.pair (.int .i64) (.int .i64))) y8)=>
 (match s.ent 1 with
 |some (.row false 122 (.pair (.int .i64) (.pair .str (.int .i64))) y9)=>
 (match s.ent 2 with
 |some (.row false 83 (.pair (.int .i64) (.int .i64)) y10)=>
 (match s.ent 4 with
 |some (.row true 2 (.int .i64) y5)=>
 some (y0,y1,y2,y3,y4,y5,y6,y7,y8,y9,y10)
 |_=>none)
 |_=>none)
 |_=>none)
 |_=>none)
 |_=>none)
 |_=>none)
 |_=>none)
 |_=>none)
 |_=>none)
 |_=>none)
 |_=>none)
 |_=>none)
def aV:Lp bP where
 h:=⟨[6,7,8,9,10,11,12,13,14,15,16,17],[0,1,2,4,5,6,7,8],[3],[]⟩
 JL:=AX
 JE:=AW
 XL:=AZ
 XE:=AY
 q:=fun j=>match j with | _=> .exit 0
 tags:= [0]
 lt:=kZ
 fuel:=fun(y0,y1,y2,y3,y4,y5,y6,y7,y8,y9,y10)=>y0.natAbs + y1.natAbs + y2.natAbs + y3.natAbs + y4.length + y5.length + y6.length + y7.length + y8.length + y9.length + y10.length
 fix:=fun(_,y1,y2,y3,y4,_,_,_,_,y9,y10) (y0,_,_,_,_,y5,y6,y7,y8,_,_)=>(y0,y1,y2,y3,y4,y5,y6,y7,y8,y9,y10)
 σ:= [(0,0),(1,576),(2,3),(4,5),(5,6),(6,7),(7,1),(8,2),(3,4)]
 rd:=la
theorem zg:LoopOk prog (fun k=>Nat.blt k Tryz.f45.ntmps) aV.F (bV f45 0):=by
 refine Lp.ok (tbl:= [cd,PF.lend cd,nt]) (lf:= []) bG aV (by kernel_rfl) (LOk.nil _) (fun _=>rfl) (fun _ _=>rfl) ?_ ?_ ?_ ?_ (fun _=>rfl) ?_
 ·rintro⟨y0,y1,y2,y3,y4,y5,y6,y7,y8,y9,y10⟩;kernel_rfl
 ·rintro⟨y0,y1,y2,y3,y4,y5,y6,y7,y8,y9,y10⟩;kernel_rfl
 ·intro s x h
  have h:la s=some x:=h
  unfold la at h
  repeat' split at h
  all_goals cases h
  constructor<;>repeat(first|refine ab (by assumption) rfl ?_|refine aa rfl (by assumption) rfl ?_|exact rfl)
 ·rintro⟨y0,y1,y2,y3,y4,y5,y6,y7,y8,y9,y10⟩;kernel_rfl
 ·rintro⟨y0,y1,y2,y3,y4,y5,y6,y7,y8,y9,y10⟩ z;exact(And.intro rfl trivial)
section
variable (x0 x1 x2 x3:Int)(x4:List (Int×alV×Int))(x5:List (Int×Int))(x6 x7 x8 x9:List Int)(x10:List (Int×Int×Int))
def gT:Int×Int×Int×Int×List Int×List Int×List Int×List Int×List (Int×Int×Int)×List (Int×alV×Int)×List (Int×Int):=(x3,x0,x1,x2,x6,x7,x8,x9,x10,x4,x5)
def mc:List Int×List Int×List Int×List (Int×Int×Int)×List (Int×alV×Int)×List (Int×Int):=(Lp.res aV (gT x0 x1 x2 x3 x4 x5 x6 x7 x8 x9 x10)).2.2.2.2.2.2
def md:List Int×List Int×List (Int×Int×Int)×List (Int×alV×Int)×List (Int×Int):=(mc x0 x1 x2 x3 x4 x5 x6 x7 x8 x9 x10).2
def me:List Int×List (Int×Int×Int)×List (Int×alV×Int)×List (Int×Int):=(md x0 x1 x2 x3 x4 x5 x6 x7 x8 x9 x10).2
def mz:Int:=((Lp.res aV (gT x0 x1 x2 x3 x4 x5 x6 x7 x8 x9 x10)).2).1
def mA:List Int:=(md x0 x1 x2 x3 x4 x5 x6 x7 x8 x9 x10).1
def mB:List Int:=(me x0 x1 x2 x3 x4 x5 x6 x7 x8 x9 x10).1
def mC:List (Int×(Int×Int)):=((me x0 x1 x2 x3 x4 x5 x6 x7 x8 x9 x10).2).1
def mD:List Int:=(mc x0 x1 x2 x3 x4 x5 x6 x7 x8 x9 x10).1
def mE:Bool:=allT [Lp.fin aV (gT x0 x1 x2 x3 x4 x5 x6 x7 x8 x9 x10)]
end
def rZ:List SV→List Entry→Option Out
 | [.one ⟨false,[.ptr 0 0]⟩,.one ⟨true,[.val (.int .i64 x0),.val (.int .i64 x1),.val (.int .i64 x2),.ref 1,.ref 2]⟩,.one ⟨false,[.ref 3]⟩],[.box 31 [.val (.int .i64 x3),.ref 4,.ref 5,.ref 6,.ref 7],.row false 122 (.pair (.int .i64) (.pair .str (.int .i64))) x4,.row false 83 (.pair (.int .i64) (.int .i64)) x5,.row false 2 (.int .i64) x6,.row true 2 (.int .i64) x7,.row true 2 (.int .i64) x8,.row true 2 (.int .i64) x9,.row true 109 (.pair (.int .i64) (.pair (.int .i64) (.int .i64))) x10]=>some ⟨.tup [],[.box 31 [.val (.int .i64 (mz x0 x1 x2 x3 x4 x5 x6 x7 x8 x9 x10)),.ref 8,.ref 5,.ref 6,.ref 7],.row false 122 afs x4,.row false 83 ahF x5,.row false 2 akd x6,.gone,.row true 2 akd (mA x0 x1 x2 x3 x4 x5 x6 x7 x8 x9 x10),.row true 2 akd (mB x0 x1 x2 x3 x4 x5 x6 x7 x8 x9 x10),.row true 109 ac0 (mC x0 x1 x2 x3 x4 x5 x6 x7 x8 x9 x10)],[.row true 2 akd (mD x0 x1 x2 x3 x4 x5 x6 x7 x8 x9 x10)],[mE x0 x1 x2 x3 x4 x5 x6 x7 x8 x9 x10]⟩
 |_,_=>none
def CM:PF prog:=PF.ofG prog [cd,PF.lend cd,nt] [aV.F] bG 45 f45 func45 (LOk.fnT (l:= [bV f45 0]) (by kernel_rfl) (.cons zg (.nil _))) rZ (by
 intro vs es r h;unfold rZ at h;split at h
 ·cases h;kernel_rfl
 ·cases h)
abbrev MS:=Int×List Int×List Int×List Int×List BS3
def ahm(st:List IN)(k:Int):IN:=v3 st[k.toNat]? ((0:Int),(0:Int))
def Uk(bs:List TM)(st:List IN)(inp:List Int):MS→MS
 |(k,stk,xs,os,ss)=>(k + 1,ajW bs inp (ahm st k) stk xs ss,anX bs (ahm st k) stk xs,anC bs inp (ahm st k) stk xs os,alD bs (ahm st k) stk ss)
def ago(bs:List TM)(st:List IN)(inp:List Int):Nat→MS→MS
 |0,m=>m
 |n + 1,m=>ago bs st inp n (Uk bs st inp m)
def OkS(i v o:Int)(bs:List TM)(st:List IN)(m:MS):Prop:=OkM i v o bs st m.1 m.2.1 m.2.2.1 m.2.2.2.1 m.2.2.2.2
theorem aeQ{i v o:Int}{bs:List TM}{st:List IN}{inp:List Int}{m:MS}(hC:eR i v o bs st=true)(tu:bitsB i inp=true)(h:OkS i v o bs st m)(eQ:m.1 < st.length):
  OkS i v o bs st (Uk bs st inp m)∧st[m.1.toNat]? =some (ahm st m.1):=by
 obtain⟨k,stk,xs,os,ss⟩:=m
 have h0:=h.lo
 simp only at h0 eQ
 have hk:k.toNat < st.length:=by omega
 have hx:st[k.toNat]? =some (ahm st k):=by simp only [ahm,List.getElem?_eq_getElem hk];rfl
 exact⟨(alo hC tu h eQ hx).2.2.2.2.2,hx⟩
theorem an8{X:Type}(p:Lp X)(enc:MS→X){i v o:Int}{bs:List TM}{st:List IN}{inp:List Int}(hC:eR i v o bs st=true)(tu:bitsB i inp=true)
  (h1: ∀ m:MS,OkS i v o bs st m→m.1 < st.length→(p.lt (enc m)).out=some (.inr (enc (Uk bs st inp m)))) (h2: ∀ m:MS,m.1=st.length→(p.lt (enc m)).out=some (.inl 0))
  (hf: ∀ m,st.length≤p.fuel (enc m)) (m:MS) (hm:OkS i v o bs st m):
  p.fin (enc m)=true∧p.res (enc m)=(0,enc (ago bs st inp (st.length - m.1.toNat) m))∧OkS i v o bs st (ago bs st inp (st.length - m.1.toNat) m):=by
 have my: ∀ (n:Nat) (m:MS),OkS i v o bs st m→st.length - m.1.toNat=n→JP p.lt (n + 1) (enc m)=some (0,enc (ago bs st inp n m))∧OkS i v o bs st (ago bs st inp n m):=by
  intro n
  induction n with
  |zero=>
   intro m hm hn
   have:=hm.lo
   have:=hm.hi
   exact⟨FM _ (h2 m (by omega)),hm⟩
  |succ n ih=>
   intro m hm hn
   have h0:=hm.lo
   have eQ:m.1 < st.length:=by omega
   have hs:=(aeQ hC tu hm eQ).1
   have he:(Uk bs st inp m).1=m.1 + 1:=rfl
   obtain⟨r1,r2⟩:=ih _ hs (by rw [he];omega)
   exact⟨by rw [Px _ (h1 m hm eQ)];exact r1,r2⟩
 obtain⟨r1,r2⟩:=my _ m hm rfl
 obtain⟨q1,q2⟩:=p.run r1 (ad4 (by have:=hf m;omega))
 exact⟨q1,q2,r2⟩
def hAt(i v o:Int)(bs:List TM)(st:List IN)(k:Int):Int:=bif ltI 0 k then atZ (aaZ i v o bs st) (k - 1)else 0
def IL(i v o:Int)(bs:List TM)(st:List IN)(k:Int)(stk xs os:List Int)(ss:List BS3):Bool:=inR k 0 st.length&&(bitsB (hAt i v o bs st k) stk&&(bitsB o os&&vL v bs xs ss))
theorem ajw{v:Int}{bs:List TM}{xs:List Int}{ss:List BS3}:vL v bs xs ss=true↔ss.length=bs.length∧bitsB v xs=true∧ ∀ k,k < bs.length→possAt bs ss k=true:=by
 simp only [vL,q9,beq_iff_eq,List.all_eq_true,List.mem_range]
 constructor
 ·rintro⟨h1,h2,h3⟩;exact⟨by omega,h2,h3⟩
 ·rintro⟨h1,h2,h3⟩;exact⟨by omega,h2,h3⟩
theorem agy{i v o:Int}{bs:List TM}{st:List IN}{k:Int}{stk xs os:List Int}{ss:List BS3}(hC:eR i v o bs st=true)(h:IL i v o bs st k stk xs os ss=true):OkM i v o bs st k stk xs os ss:=by
 simp only [IL,q9,tE]at h
 obtain⟨⟨k0,k1⟩,h2,h3,h4⟩:=h
 obtain⟨s1,s2,s3⟩:=ajw.1 h4
 simp only [eR,q9]at hC
 obtain⟨b1,b2⟩:=cO.1 h2
 refine⟨k0,k1,?_,b1,s2,h3,s1,s3⟩
 obtain⟨n,L,g1,g2,g3,g4⟩:=akV hC.2.2 k.toNat (by omega)
 refine⟨L,?_⟩
 rw [g1,b2]
 by_cases hk:0 < k
 ·have:=g4 (by omega)
  have ht:ltI 0 k=true:=cS hk
  simp only [hAt,ht,cond_true]
  rw [show ((k.toNat:Int) - 1)=k - 1 by omega]at this
  rw [this]
 ·have ht:ltI 0 k=false:=wO (by omega)
  simp only [hAt,ht,cond_false]
  rw [g3 (by omega)]
theorem anA{i v o:Int}{bs:List TM}{st:List IN}{m:MS}(hC:eR i v o bs st=true)(h:OkS i v o bs st m):IL i v o bs st m.1 m.2.1 m.2.2.1 m.2.2.2.1 m.2.2.2.2=true:=by
 obtain⟨k,stk,xs,os,ss⟩:=m
 simp only [eR,q9]at hC
 obtain⟨L,hL⟩:=h.hg
 have h0:=h.lo
 have h1:=h.hi
 simp only at h0 h1 hL
 obtain⟨n,L',g1,g2,g3,g4⟩:=akV hC.2.2 k.toNat (by omega)
 rw [hL,Option.some.injEq,Prod.mk.injEq]at g1
 simp only [IL,q9,tE]
 refine⟨⟨h0,h1⟩,cO.2 ⟨h.bt,?_⟩,h.ou,ajw.2 ⟨h.sl,h.vl,h.sp⟩⟩
 by_cases hk:0 < k
 ·have:=g4 (by omega)
  have ht:ltI 0 k=true:=cS hk
  simp only [hAt,ht,cond_true]
  rw [show k - 1=((k.toNat:Int) - 1) by omega,this];exact g1.1
 ·have ht:ltI 0 k=false:=wO (by omega)
  simp only [hAt,ht,cond_false]
  rw [← g3 (by omega)];exact g1.1
theorem anz{i v o:Int}{bs:List TM}{st:List IN}{m:MS}(hC:eR i v o bs st=true)(h:OkS i v o bs st m):m.2.1.length≤40∧m.2.2.1.length≤20∧m.2.2.2.1.length≤20∧m.2.2.2.2.length≤2000:=by
 obtain⟨k,stk,xs,os,ss⟩:=m
 simp only [eR,q9]at hC
 obtain⟨ri,rv,ro,rb,rs⟩:=FL.1 hC.1
 obtain⟨L,hL⟩:=h.hg
 have h2:=ah1 _ _ _ _ _ (by omega) hL
 have hxl:=(cO.1 h.vl).2
 have hol:=(cO.1 h.ou).2
 have hsl:=h.sl
 simp only at h2 hxl hol hsl ⊢
 omega
def fnM(bs:List TM)(st:List IN)(inp:List Int)(k:Int)(stk xs os:List Int)(ss:List BS3):MS:=ago bs st inp (st.length - k.toNat) (k,stk,xs,os,ss)
def SW(i v o:Int)(bs:List TM)(st:List IN)(inp:List Int)(k:Int)(stk xs os:List Int)(ss:List BS3):Bool:=eR i v o bs st&&(bitsB i inp&&IL i v o bs st k stk xs os ss)
theorem aqp(i v o:Int)(bs:List TM)(st:List IN)(inp:List Int)(k:Int)(stk xs os:List Int)(ss:List BS3)(h:SW i v o bs st inp k stk xs os ss=true):
  mz i v o k bs st inp stk xs os ss=(fnM bs st inp k stk xs os ss).1∧mA i v o k bs st inp stk xs os ss=(fnM bs st inp k stk xs os ss).2.2.1∧
  mB i v o k bs st inp stk xs os ss=(fnM bs st inp k stk xs os ss).2.2.2.1∧mC i v o k bs st inp stk xs os ss=(fnM bs st inp k stk xs os ss).2.2.2.2∧
  mD i v o k bs st inp stk xs os ss=(fnM bs st inp k stk xs os ss).2.1∧mE i v o k bs st inp stk xs os ss=true:=by
 simp only [SW,q9]at h
 obtain⟨hC,tu,hm⟩:=h
 have hm:=agy hC hm
 obtain⟨f1,f2,_⟩:=an8 aV (fun m=>(m.1,i,v,o,inp,m.2.1,m.2.2.1,m.2.2.2.1,m.2.2.2.2,bs,st)) hC tu
  (fun m hm eQ=>by
   obtain⟨k,stk,xs,os,ss⟩:=m
   obtain⟨_,hx⟩:=aeQ hC tu hm eQ
   obtain⟨e0,e4,e1,e2,e3,e5⟩:=al1 hC tu hm eQ hx
   simp only at eQ e0 e1 e2 e3 e4 e5
   have t1:ltI k (st.length:Int)=true:=cS eQ
   simp only [aV,kZ,LT.out,lx,qL,qM,qN,qO,qP,qQ,aq,t1,e0,e1,e2,e3,e4,e5,Uk,allT]
   rfl)
  (fun m hk=>by
   obtain⟨k,stk,xs,os,ss⟩:=m
   simp only at hk
   have t1:ltI k (st.length:Int)=false:=wO (by omega)
   simp only [aV,kZ,LT.out,lx,aq,t1,cond_false])
  (fun m=>by simp only [aV];omega) (k,stk,xs,os,ss) hm
 simp only at f1 f2
 simp only [mz,mA,mB,mC,mD,mE,gT,mc,md,me,f1,f2,allT,fnM,and_self,cond_true]
theorem aqN(i v o:Int)(bs:List TM)(st:List IN)(inp:List Int)(k:Int)(stk xs os:List Int)(ss:List BS3)(h:SW i v o bs st inp k stk xs os ss=true):
  PW i v o k bs st stk xs os ss inp=(fnM bs st inp k stk xs os ss).1∧PX i v o k bs st stk xs os ss inp=(fnM bs st inp k stk xs os ss).2.1∧
  PY i v o k bs st stk xs os ss inp=(fnM bs st inp k stk xs os ss).2.2.1∧PZ i v o k bs st stk xs os ss inp=(fnM bs st inp k stk xs os ss).2.2.2.1∧
  Qa i v o k bs st stk xs os ss inp=(fnM bs st inp k stk xs os ss).2.2.2.2∧Qb i v o k bs st stk xs os ss inp=true:=by
 simp only [SW,q9]at h
 obtain⟨hC,tu,hm⟩:=h
 have hm:=agy hC hm
 obtain⟨l1,l2,l3,l4⟩:=anz (m:=(k,stk,xs,os,ss)) hC hm
 simp only at l1 l2 l3 l4
 obtain⟨f1,f2,_⟩:=an8 jC (fun m=>(m.1,i,v,o,inp,m.2.1,m.2.2.1,m.2.2.2.1,m.2.2.2.2,bs,st)) hC tu
  (fun m hm eQ=>by
   obtain⟨k,stk,xs,os,ss⟩:=m
   obtain⟨_,hx⟩:=aeQ hC tu hm eQ
   obtain⟨e0,e1,e2,e3,e4,e5⟩:=amD hC tu hm eQ hx
   simp only at eQ e0 e1 e2 e3 e4 e5
   have t1:ltI k (st.length:Int)=true:=cS eQ
   simp only [jC,HZ,LT.out,JW,RE,RF,RG,RH,RI,RJ,t1,e0,e1,e2,e3,e4,e5,Uk,allT]
   rfl)
  (fun m hk=>by
   obtain⟨k,stk,xs,os,ss⟩:=m
   simp only at hk
   have t1:ltI k (st.length:Int)=false:=wO (by omega)
   simp only [jC,HZ,LT.out,JW,t1,cond_false])
  (fun m=>by simp only [jC];omega) (k,stk,xs,os,ss) hm
 simp only at f1 f2
 have t1:leN stk.length 1048576=true:=aR (by omega)
 have t2:leN xs.length 1048576=true:=aR (by omega)
 have t3:leN os.length 1048576=true:=aR (by omega)
 have t4:leN (0 + ss.length) 9223372036854775807=true:=aR (by omega)
 have t5:leN ((0 + ss.length) * 24) 140737488355328=true:=aR (by omega)
 simp only [PW,PX,PY,PZ,Qa,Qb,Hh,On,Oo,Oq,f1,f2,t1,t2,t3,t4,t5,allT,fnM,and_self,cond_true]
def sb:List SV→List Entry→Option Out
 | [.one ⟨false,[.ptr 0 0]⟩,.one ⟨true,[.val (.int .i64 x0),.val (.int .i64 x1),.val (.int .i64 x2),.ref 1,.ref 2]⟩,.one ⟨false,[.ref 3]⟩],[.box 31 [.val (.int .i64 x3),.ref 4,.ref 5,.ref 6,.ref 7],.row false 122 (.pair (.int .i64) (.pair .str (.int .i64))) x4,.row false 83 (.pair (.int .i64) (.int .i64)) x5,.row false 2 (.int .i64) x6,.row true 2 (.int .i64) x7,.row true 2 (.int .i64) x8,.row true 2 (.int .i64) x9,.row true 109 (.pair (.int .i64) (.pair (.int .i64) (.int .i64))) x10]=>some ⟨.tup [],[.box 31 [.val (.int .i64 ((fnM x4 x5 x6 x3 x7 x8 x9 x10).1)),.ref 8,.ref 5,.ref 6,.ref 7],.row false 122 afs x4,.row false 83 ahF x5,.row false 2 akd x6,.gone,.row true 2 akd ((fnM x4 x5 x6 x3 x7 x8 x9 x10).2.2.1),.row true 2 akd ((fnM x4 x5 x6 x3 x7 x8 x9 x10).2.2.2.1),.row true 109 ac0 ((fnM x4 x5 x6 x3 x7 x8 x9 x10).2.2.2.2)],[.row true 2 akd ((fnM x4 x5 x6 x3 x7 x8 x9 x10).2.1)],[SW x0 x1 x2 x4 x5 x6 x3 x7 x8 x9 x10]⟩
 |_,_=>none
def CL:PF prog:=PF.alt CM sb (by
 intro args es o h cf;unfold sb at h;split at h
 ·rename_i x0 x1 x2 x3 x4 x5 x6 x7 x8 x9 x10
  cases h
  have cf:=iw cf
  have hh:=aqp x0 x1 x2 x4 x5 x6 x3 x7 x8 x9 x10 cf
  obtain⟨e0,e1,e2,e3,e4,en⟩:=hh
  exact mK rfl (gE en) rfl (by simp only [e0,e1,e2,e3] <;> rfl) (by simp only [e4] <;> rfl)
 ·cases h)
def WK:List SV→List Entry→Option Out
 | [.one ⟨true,[.val (.int .i64 x0),.val (.int .i64 x1),.val (.int .i64 x2),.ref 0,.ref 1]⟩,.one ⟨true,[.val (.int .i64 x3),.ref 2,.ref 3,.ref 4,.ref 5]⟩,.one ⟨false,[.ref 6]⟩],[.row false 122 (.pair (.int .i64) (.pair (.str) (.int .i64))) x4,.row false 83 (.pair (.int .i64) (.int .i64)) x5,.row false 2 (.int .i64) x6,.row false 2 (.int .i64) x7,.row false 2 (.int .i64) x8,.row false 109 (.pair (.int .i64) (.pair (.int .i64) (.int .i64))) x9,.row false 2 (.int .i64) x10]=>some ⟨.one ⟨true,[.val (.int .i64 ((fnM x4 x5 x10 x3 x6 x7 x8 x9).1)),.ref 7,.ref 8,.ref 9,.ref 10]⟩,[.row false 122 afs x4,.row false 83 ahF x5,.row false 2 akd x6,.row false 2 akd x7,.row false 2 akd x8,.row false 109 ac0 x9,.row false 2 akd x10],[.row false 2 akd ((fnM x4 x5 x10 x3 x6 x7 x8 x9).2.1),.row false 2 akd ((fnM x4 x5 x10 x3 x6 x7 x8 x9).2.2.1),.row false 2 akd ((fnM x4 x5 x10 x3 x6 x7 x8 x9).2.2.2.1),.row false 109 ac0 ((fnM x4 x5 x10 x3 x6 x7 x8 x9).2.2.2.2)],[SW x0 x1 x2 x4 x5 x10 x3 x6 x7 x8 x9]⟩
 |_,_=>none
def Pq:PF prog:=PF.alt agQ WK (by
 intro args es o h cf;unfold WK at h;split at h
 ·rename_i x0 x1 x2 x3 x4 x5 x6 x7 x8 x9 x10
  cases h
  have cf:=iw cf
  have hh:=aqN x0 x1 x2 x4 x5 x10 x3 x6 x7 x8 x9 cf
  obtain⟨e0,e1,e2,e3,e4,en⟩:=hh
  exact mK rfl (gE en) (by simp only [e0] <;> rfl) rfl (by simp only [e1,e2,e3,e4] <;> rfl)
 ·cases h)
section
variable (x0 x1 x2 x3:Int)(x4:List (Int×alV×Int))(x5:List (Int×Int))(x6 x7 x8:List Int)(x9:List (Int×Int×Int))
def ld:Bool:= !aX x3 0 (↑x5.length:Int)
def uD:Int:=v4 .i64 (x3 - (1:Int))
def Do:Bool:=bitsB (bif ltI 0 x3 then v3 (aaZ x0 x1 x2 x4 x5)[j8 (uD x3)]? 0 else(0:Int)) x6
def JX:Bool:=bif Do x0 x1 x2 x3 x4 x5 x6 then bitsB x2 x8 else false
def Mh:Bool:=bif ld x3 x5 then false else bif JX x0 x1 x2 x3 x4 x5 x6 x8 then vL x1 x4 x7 x9 else false
def Mi:Bool:=allT [ld x3 x5||(!ltI 0 x3||leN x5.length (2000:Nat)&&leN x4.length (2000:Nat)),ld x3 x5||(!ltI 0 x3||leI 0 (uD x3)),ld x3 x5||(!ltI 0 x3||ltI (uD x3) (↑(j9 (aaZ x0 x1 x2 x4 x5)):Int)),ld x3 x5||(!ltI 0 x3||ltN (j8 (uD x3)) (j9 (aaZ x0 x1 x2 x4 x5))),ld x3 x5||leN x6.length (9223372036854775807:Nat),ld x3 x5||(!(Do x0 x1 x2 x3 x4 x5 x6&&true)||leN x8.length (9223372036854775807:Nat)),ld x3 x5||(!(JX x0 x1 x2 x3 x4 x5 x6 x8&&true)||leN x7.length (9223372036854775807:Nat)&&leN x4.length (9223372036854775807:Nat))]
end
def Sm:List SV→List Entry→Option Out
 | [.one ⟨true,[.val (.int .i64 x0),.val (.int .i64 x1),.val (.int .i64 x2),.ref 0,.ref 1]⟩,.one ⟨true,[.val (.int .i64 x3),.ref 2,.ref 3,.ref 4,.ref 5]⟩],[.row false 122 (.pair (.int .i64) (.pair (.str) (.int .i64))) x4,.row false 83 (.pair (.int .i64) (.int .i64)) x5,.row false 2 (.int .i64) x6,.row false 2 (.int .i64) x7,.row false 2 (.int .i64) x8,.row false 109 (.pair (.int .i64) (.pair (.int .i64) (.int .i64))) x9]=>some ⟨.one ⟨false,[.val (.bool (Mh x0 x1 x2 x3 x4 x5 x6 x7 x8 x9))]⟩,[.row false 122 afs x4,.row false 83 ahF x5,.row false 2 akd x6,.row false 2 akd x7,.row false 2 akd x8,.row false 109 ac0 x9],[],[Mi x0 x1 x2 x3 x4 x5 x6 x7 x8]⟩
 |_,_=>none
def aeg:PF prog:=PF.ofG prog (T3z [Bl,nQ,MU,cP]) [] bG 50 f50 func50 (fun c _=>LOk.nil c) Sm (by
 intro vs es r h;unfold Sm at h;split at h
 ·cases h;kernel_rfl
 ·cases h)
section
variable (x0 x1 x2 x3:Int)(x4 x5 x6:List Int)(x7:List (Int×Int×Int))(x8:List (Int×alV×Int))(x9:List (Int×Int))
def dm:Int:=v4 .i64 (x0 - (1:Int))
def gU:Bool:=bitsB (bif ltI 0 x0 then v3 (aaZ x1 x2 x3 x8 x9)[j8 (dm x0)]? 0 else(0:Int)) x4
def mf:Bool:=bif gU x0 x1 x2 x3 x4 x8 x9 then bitsB x3 x6 else false
def mF:Bool:=bif !dO x0 0 (aq x9)then false else bif mf x0 x1 x2 x3 x4 x6 x8 x9 then vL x2 x8 x5 x7 else false
def mG:Bool:=allT [!dO x0 0 (aq x9)||ale x1 x2 x3 x8 x9,!dO x0 0 (aq x9)||(!ltI 0 x0||leI 0 (dm x0)),!dO x0 0 (aq x9)||(!ltI 0 x0||ltI (dm x0) (↑(j9 (aaZ x1 x2 x3 x8 x9)):Int)),!dO x0 0 (aq x9)||(!ltI 0 x0||ltN (j8 (dm x0)) (j9 (aaZ x1 x2 x3 x8 x9))),!dO x0 0 (aq x9)||leN x4.length (9223372036854775807:Nat),!dO x0 0 (aq x9)||(!(gU x0 x1 x2 x3 x4 x8 x9&&true)||leN x6.length (9223372036854775807:Nat)),!dO x0 0 (aq x9)||(!(mf x0 x1 x2 x3 x4 x6 x8 x9&&true)||leN x5.length (9223372036854775807:Nat)&&(leN x8.length (9223372036854775807:Nat)&&Ss x8))]
end
def sa:List SV→List Entry→Option Out
 | [.one ⟨true,[.val (.int .i64 x0),.ref 0,.ref 1,.ref 2,.ref 3]⟩,.one ⟨true,[.val (.int .i64 x1),.val (.int .i64 x2),.val (.int .i64 x3),.ref 4,.ref 5]⟩],[.row false 2 (.int .i64) x4,.row false 2 (.int .i64) x5,.row false 2 (.int .i64) x6,.row false 109 (.pair (.int .i64) (.pair (.int .i64) (.int .i64))) x7,.row false 122 (.pair (.int .i64) (.pair (.str) (.int .i64))) x8,.row false 83 (.pair (.int .i64) (.int .i64)) x9]=>some ⟨.one ⟨false,[.val (.bool (mF x0 x1 x2 x3 x4 x5 x6 x7 x8 x9))]⟩,[.row false 2 akd x4,.row false 2 akd x5,.row false 2 akd x6,.row false 109 ac0 x7,.row false 122 afs x8,.row false 83 ahF x9],[],[mG x0 x1 x2 x3 x4 x5 x6 x8 x9]⟩
 |_,_=>none
def CN:PF prog:=PF.ofG prog (T3z [pd,cd,Kp,pc,nW]) [] bG 84 f84 func84 (fun c _=>LOk.nil c) sa (by
 intro vs es r h;unfold sa at h;split at h
 ·cases h;kernel_rfl
 ·cases h)
theorem afl{i v o:Int}{bs:List TM}{st:List IN}(h:eR i v o bs st=true):((0≤i∧i≤20)∧(0≤v∧v≤20)∧(0≤o∧o≤20)∧bs.length≤2000∧st.length≤2000)∧Ss bs=true∧Ux i v o bs st=true:=by
 simp only [eR,q9]at h
 exact⟨FL.1 h.1,h.2.1,h.2.2⟩
def ags(l:List (List Int)):Bool:=leN l.length 9223372036854775807&&l.all fun x=>leN x.length 9223372036854775807
def pNd(i v o:Int)(bs:List TM)(st:List IN)(stk xs os:List Int):Bool:=eR i v o bs st&&(leN stk.length 9223372036854775807&&(leN xs.length 9223372036854775807&&leN os.length 9223372036854775807))
theorem alU{i v o:Int}{bs:List TM}{st:List IN}(h:Ux i v o bs st=true):(aaZ i v o bs st).length=st.length:=by
 simp only [Ux]at h
 unfold aaZ
 cases hh:hgt i v o bs st 0 []with
 |none=>rw [hh]at h;cases h
 |some r=>
  obtain⟨m,out⟩:=r
  have:=akW _ _ _ _ _ hh
  simpa using this
theorem ap6(i v o:Int)(bs:List TM)(st:List IN)(k:Int)(stk xs os:List Int)(ss:List BS3)(h:pNd i v o bs st stk xs os=true):
  Mh i v o k bs st stk xs os ss=IL i v o bs st k stk xs os ss∧Mi i v o k bs st stk xs os=true:=by
 simp only [pNd,q9]at h
 obtain⟨hC,t1,t2,t3⟩:=h
 obtain⟨⟨ri,rv,ro,rb,rs⟩,hB,fl⟩:=afl hC
 have mn:=alU fl
 have e1:ld k st= !inR k 0 st.length:=by simp only [ld,aX,Pn]
 simp only [Mh,Mi,e1,IL,t1,t2,t3,allT,JX]
 cases hr:inR k 0 st.length with
 |false=>simp
 |true=>
  obtain⟨k0,k1⟩:=tE.1 hr
  have e2:Do i v o k bs st stk=bitsB (hAt i v o bs st k) stk:=by
   simp only [Do,hAt]
   by_cases hk:0 < k
   ·have hw:uD k=k - 1:=aJ (by omega) (by omega)
    simp only [hw,atZ]
   ·rw [wO (by omega)];rfl
  have n1:leN st.length 2000=true:=aR rs
  have n2:leN bs.length 2000=true:=aR rb
  have n3:leN bs.length 9223372036854775807=true:=aR (by omega)
  rw [e2,n1,n2,n3,mn]
  by_cases hk:0 < k
  ·have hw:uD k=k - 1:=aJ (by omega) (by omega)
   have u1:leI 0 (k - 1)=true:=bu (by omega)
   have u2:ltI (k - 1) (st.length:Int)=true:=cS (by omega)
   have u3:ltN (k - 1).toNat st.length=true:=dI (by omega)
   rw [hw,u1,u2,u3]
   cases bitsB (hAt i v o bs st k) stk <;> cases bitsB o os <;> simp
  ·rw [wO (by omega)]
   cases bitsB (hAt i v o bs st k) stk <;> cases bitsB o os <;> simp
theorem apG(i v o:Int)(bs:List TM)(st:List IN)(k:Int)(stk xs os:List Int)(ss:List BS3)(h:pNd i v o bs st stk xs os=true):
  mF k i v o stk xs os ss bs st=IL i v o bs st k stk xs os ss∧mG k i v o stk xs os bs st=true:=by
 simp only [pNd,q9]at h
 obtain⟨hC,t1,t2,t3⟩:=h
 have hC2:=hC
 obtain⟨⟨ri,rv,ro,rb,rs⟩,hB,fl⟩:=afl hC
 simp only [eR,q9]at hC2
 have mn:=alU fl
 have e1:dO k 0 (aq st)=inR k 0 st.length:=by simp only [dO,Pn];rfl
 simp only [mF,mG,e1,IL,t1,t2,t3,hC2.1,hB,allT,mf]
 cases hr:inR k 0 st.length with
 |false=>simp
 |true=>
  obtain⟨k0,k1⟩:=tE.1 hr
  have e2:gU k i v o stk bs st=bitsB (hAt i v o bs st k) stk:=by
   simp only [gU,hAt]
   by_cases hk:0 < k
   ·have hw:dm k=k - 1:=aJ (by omega) (by omega)
    simp only [hw,atZ]
   ·rw [wO (by omega)];rfl
  have n3:leN bs.length 9223372036854775807=true:=aR (by omega)
  rw [e2,n3,mn]
  by_cases hk:0 < k
  ·have hw:dm k=k - 1:=aJ (by omega) (by omega)
   have u1:leI 0 (k - 1)=true:=bu (by omega)
   have u2:ltI (k - 1) (st.length:Int)=true:=cS (by omega)
   have u3:ltN (k - 1).toNat st.length=true:=dI (by omega)
   rw [hw,u1,u2,u3]
   cases bitsB (hAt i v o bs st k) stk <;> cases bitsB o os <;> simp
  ·rw [wO (by omega)]
   cases bitsB (hAt i v o bs st k) stk <;> cases bitsB o os <;> simp
def Sr:List SV→List Entry→Option Out
 | [.one ⟨true,[.val (.int .i64 x0),.val (.int .i64 x1),.val (.int .i64 x2),.ref 0,.ref 1]⟩,.one ⟨true,[.val (.int .i64 x3),.ref 2,.ref 3,.ref 4,.ref 5]⟩],[.row false 122 (.pair (.int .i64) (.pair (.str) (.int .i64))) x4,.row false 83 (.pair (.int .i64) (.int .i64)) x5,.row false 2 (.int .i64) x6,.row false 2 (.int .i64) x7,.row false 2 (.int .i64) x8,.row false 109 (.pair (.int .i64) (.pair (.int .i64) (.int .i64))) x9]=>some ⟨.one ⟨false,[.val (.bool (IL x0 x1 x2 x4 x5 x3 x6 x7 x8 x9))]⟩,[.row false 122 afs x4,.row false 83 ahF x5,.row false 2 akd x6,.row false 2 akd x7,.row false 2 akd x8,.row false 109 ac0 x9],[],[pNd x0 x1 x2 x4 x5 x6 x7 x8]⟩
 |_,_=>none
def nP:PF prog:=PF.alt aeg Sr (by
 intro args es o h cf;unfold Sr at h;split at h
 ·rename_i x0 x1 x2 x3 x4 x5 x6 x7 x8 x9
  cases h
  have cf:=iw cf
  have hh:=ap6 x0 x1 x2 x4 x5 x3 x6 x7 x8 x9 cf
  obtain⟨e0,en⟩:=hh
  exact mK rfl (gE en) (by simp only [e0] <;> rfl) rfl rfl
 ·cases h)
def sc:List SV→List Entry→Option Out
 | [.one ⟨true,[.val (.int .i64 x0),.ref 0,.ref 1,.ref 2,.ref 3]⟩,.one ⟨true,[.val (.int .i64 x1),.val (.int .i64 x2),.val (.int .i64 x3),.ref 4,.ref 5]⟩],[.row false 2 (.int .i64) x4,.row false 2 (.int .i64) x5,.row false 2 (.int .i64) x6,.row false 109 (.pair (.int .i64) (.pair (.int .i64) (.int .i64))) x7,.row false 122 (.pair (.int .i64) (.pair (.str) (.int .i64))) x8,.row false 83 (.pair (.int .i64) (.int .i64)) x9]=>some ⟨.one ⟨false,[.val (.bool (IL x1 x2 x3 x8 x9 x0 x4 x5 x6 x7))]⟩,[.row false 2 akd x4,.row false 2 akd x5,.row false 2 akd x6,.row false 109 ac0 x7,.row false 122 afs x8,.row false 83 ahF x9],[],[pNd x1 x2 x3 x8 x9 x4 x5 x6]⟩
 |_,_=>none
def dB:PF prog:=PF.alt CN sc (by
 intro args es o h cf;unfold sc at h;split at h
 ·rename_i x0 x1 x2 x3 x4 x5 x6 x7 x8 x9
  cases h
  have cf:=iw cf
  have hh:=apG x1 x2 x3 x8 x9 x0 x4 x5 x6 x7 cf
  obtain⟨e0,en⟩:=hh
  exact mK rfl (gE en) (by simp only [e0] <;> rfl) rfl rfl
 ·cases h)
def stM(bs:List TM)(st:List IN)(inp:List Int)(k:Int)(stk xs os:List Int)(ss:List BS3):MS:=Uk bs st inp (k,stk,xs,os,ss)
def ahX(i v o:Int)(bs:List TM)(st:List IN)(inp:List Int)(k:Int)(stk xs os:List Int)(ss:List BS3):Bool:=ltI k (st.length:Int)&&SW i v o bs st inp k stk xs os ss
theorem amF{i v o:Int}{bs:List TM}{st:List IN}{inp:List Int}{k:Int}{stk xs os:List Int}{ss:List BS3}(h:ahX i v o bs st inp k stk xs os ss=true):
  eR i v o bs st=true∧bitsB i inp=true∧OkM i v o bs st k stk xs os ss∧k < st.length∧st[k.toNat]? =some (ahm st k):=by
 simp only [ahX,SW,q9]at h
 obtain⟨h0,hC,tu,hm⟩:=h
 have hm:=agy hC hm
 have eQ:k < st.length:=GX.1 h0
 exact⟨hC,tu,hm,eQ,(aeQ (m:=(k,stk,xs,os,ss)) hC tu hm eQ).2⟩
theorem arj(i v o:Int)(bs:List TM)(st:List IN)(inp:List Int)(k:Int)(stk xs os:List Int)(ss:List BS3)(h:ahX i v o bs st inp k stk xs os ss=true):
  eY k st=(stM bs st inp k stk xs os ss).1∧eZ k bs st stk xs=(stM bs st inp k stk xs os ss).2.2.1∧
  fa k bs st inp stk xs os=(stM bs st inp k stk xs os ss).2.2.2.1∧fb k bs st stk ss=(stM bs st inp k stk xs os ss).2.2.2.2∧
  fc k bs st inp stk xs ss=(stM bs st inp k stk xs os ss).2.1∧ax k bs st inp stk xs os ss=true:=by
 obtain⟨hC,tu,hm,eQ,hx⟩:=amF h
 obtain⟨e0,e4,e1,e2,e3,e5⟩:=al1 hC tu hm eQ hx
 exact⟨e0,e1,e2,e3,e4,e5⟩
theorem art(i v o:Int)(bs:List TM)(st:List IN)(inp:List Int)(k:Int)(stk xs os:List Int)(ss:List BS3)(h:ahX i v o bs st inp k stk xs os ss=true):
  Aw k st=(stM bs st inp k stk xs os ss).1∧Ax k bs st stk xs ss inp=(stM bs st inp k stk xs os ss).2.1∧Ez k bs st stk xs=(stM bs st inp k stk xs os ss).2.2.1∧
  EA k bs st stk xs os inp=(stM bs st inp k stk xs os ss).2.2.2.1∧EB k bs st stk ss=(stM bs st inp k stk xs os ss).2.2.2.2∧jn k bs st stk xs os ss inp=true:=by
 obtain⟨hC,tu,hm,eQ,hx⟩:=amF h
 exact amD hC tu hm eQ hx
def tz:List SV→List Entry→Option Out
 | [.one ⟨false,[.ptr 0 0]⟩,.one ⟨true,[.val (.int .i64 x0),.val (.int .i64 x1),.val (.int .i64 x2),.ref 1,.ref 2]⟩,.one ⟨false,[.ref 3]⟩],[.box 31 [.val (.int .i64 x3),.ref 4,.ref 5,.ref 6,.ref 7],.row false 122 (.pair (.int .i64) (.pair .str (.int .i64))) x4,.row false 83 (.pair (.int .i64) (.int .i64)) x5,.row false 2 (.int .i64) x6,.row true 2 (.int .i64) x7,.row true 2 (.int .i64) x8,.row true 2 (.int .i64) x9,.row true 109 (.pair (.int .i64) (.pair (.int .i64) (.int .i64))) x10]=>some ⟨.tup [],[.box 31 [.val (.int .i64 ((stM x4 x5 x6 x3 x7 x8 x9 x10).1)),.ref 8,.ref 5,.ref 6,.ref 7],.row false 122 afs x4,.row false 83 ahF x5,.row false 2 akd x6,.gone,.row true 2 akd ((stM x4 x5 x6 x3 x7 x8 x9 x10).2.2.1),.row true 2 akd ((stM x4 x5 x6 x3 x7 x8 x9 x10).2.2.2.1),.row true 109 ac0 ((stM x4 x5 x6 x3 x7 x8 x9 x10).2.2.2.2)],[.row true 2 akd ((stM x4 x5 x6 x3 x7 x8 x9 x10).2.1)],[ahX x0 x1 x2 x4 x5 x6 x3 x7 x8 x9 x10]⟩
 |_,_=>none
def EN:PF prog:=PF.alt nt tz (by
 intro args es o h cf;unfold tz at h;split at h
 ·rename_i x0 x1 x2 x3 x4 x5 x6 x7 x8 x9 x10
  cases h
  have cf:=iw cf
  have hh:=arj x0 x1 x2 x4 x5 x6 x3 x7 x8 x9 x10 cf
  obtain⟨e0,e1,e2,e3,e4,en⟩:=hh
  exact mK rfl (gE en) rfl (by simp only [e0,e1,e2,e3] <;> rfl) (by simp only [e4] <;> rfl)
 ·cases h)
end Go.SX
