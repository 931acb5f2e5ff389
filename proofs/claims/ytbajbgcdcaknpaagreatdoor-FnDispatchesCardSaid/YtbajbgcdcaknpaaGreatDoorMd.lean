/- What functions of the program come to, and what that says in plain words: part 4. -/
import Derived.Test.YtbajbgcdcaknpaaGreatDoorMc
import Derived.Test.YtbajbgcdcaknpaaGreatDoorTXh
import Derived.Test.YtbajbgcdcaknpaaGreatDoorProg
import Derived.Test.YtbajbgcdcaknpaaGreatDoorTXi
set_option linter.unusedSimpArgs false
set_option linter.unusedVariables false
namespace Go.SX
open Go.Proofs Go.Proofs.Tryz
set_option maxRecDepth 100000
def NX(x0:List Int):Bool:=ltI (4096:Int) (↑x0.length:Int)
def aji:List SV→List Entry→Option Out
 | [.one ⟨false,[.ref 0]⟩],[.row false 5 (.int .u8) x0]=>some ⟨.one ⟨false,[.val (.bool (NX x0))]⟩,[.row false 5 ajC x0],[],[]⟩
 |_,_=>none
def Se:PF prog:=PF.ofG prog [] [] aM 10 f10 func10 (fun c _=>LOk.nil c) aji (by
 intro vs es r h;unfold aji at h;split at h
 ·cases h;kernel_rfl
 ·cases h)
abbrev jt:=Int×Int×Int×Int×Int×Int×List (Int×(Int×((Int×Int)×(Int×(Int×Bool)))))×List Int×List Int×List (Int×(Int×Int))×List (List Int)×List (Int×(Int×Int))×List (Int×Int)×List (Int×Int)
section
variable (y0 y1 y2 y3 y4 y5:Int)(y7 y8:List Int)(y9:List (Int×(Int×Int)))(y10:List (List Int))(y11:List (Int×(Int×Int)))(y12 y13:List (Int×Int))
def Qn:Bool:=vq y3 y4 y5 (DG y1 y2 y10 y7) (DH y1 y2 y10 y7) (IZ y1 y2 y10 y7) (Ja y1 y2 y10 y7) (Jb y1 y2 y10 y7) (Jc y1 y2 y10 y7) (Jd y1 y2 y10 y7) y8 y9 y10 y11 y12 y13
def IO:Bool:= !Qn y1 y2 y3 y4 y5 y7 y8 y9 y10 y11 y12 y13&&true
def Qo:Bool:=bif Qn y1 y2 y3 y4 y5 y7 y8 y9 y10 y11 y12 y13 then true else nxV (12:Int) (nb y1 y2 y10 y7) (qF y1 y2 y10 y7) y7==(0:Int)
def Qp:Bool:= !Qo y1 y2 y3 y4 y5 y7 y8 y9 y10 y11 y12 y13
def rm:List (Int×Int×(Int×Int)×Int×Int×Bool):= [(DG y1 y2 y10 y7,DH y1 y2 y10 y7,(IZ y1 y2 y10 y7,Ja y1 y2 y10 y7),Jb y1 y2 y10 y7,Jc y1 y2 y10 y7,Jd y1 y2 y10 y7)]
def Kn:Bool:=ltI (0:Int) y0
def Rm:Bool:=aq y1 y2 y7
def Rn:Bool:=zP y3 y4 y5 (DG y1 y2 y10 y7) (DH y1 y2 y10 y7) y8 y9 y10 y11 y12 y13
def Rp:Bool:= !IO y1 y2 y3 y4 y5 y7 y8 y9 y10 y11 y12 y13||aq (nb y1 y2 y10 y7) (qF y1 y2 y10 y7) y7
end
def Rq(y1 y2 y3 y4 y5:Int)(y6:List (Int×(Int×((Int×Int)×(Int×(Int×Bool))))))(y7 y8:List Int)(y9:List (Int×(Int×Int)))(y10:List (List Int))(y11:List (Int×(Int×Int)))(y12 y13:List (Int×Int)):Bool:=Qp y1 y2 y3 y4 y5 y7 y8 y9 y10 y11 y12 y13||leN (List.length y6 + List.length (rm y1 y2 y7 y10)) (9223372036854775807:Nat)
def Rr(y1 y2 y3 y4 y5:Int)(y6:List (Int×(Int×((Int×Int)×(Int×(Int×Bool))))))(y7 y8:List Int)(y9:List (Int×(Int×Int)))(y10:List (List Int))(y11:List (Int×(Int×Int)))(y12 y13:List (Int×Int)):Bool:=Qp y1 y2 y3 y4 y5 y7 y8 y9 y10 y11 y12 y13||leN ((List.length y6 + List.length (rm y1 y2 y7 y10)) * (56:Nat)) (140737488355328:Nat)
section
variable (y0 y1 y2 y3 y4 y5:Int)(y7 y8:List Int)(y9:List (Int×(Int×Int)))(y10:List (List Int))(y11:List (Int×(Int×Int)))(y12 y13:List (Int×Int))
def abG:Bool:=Qo y1 y2 y3 y4 y5 y7 y8 y9 y10 y11 y12 y13
def DM:Int:=IntKind.wrap .i64 (y0 - (1:Int))
def Ko:Int:=bif IO y1 y2 y3 y4 y5 y7 y8 y9 y10 y11 y12 y13 then nxA (12:Int) (nb y1 y2 y10 y7) y7 else nb y1 y2 y10 y7
def Kp:Int:=bif IO y1 y2 y3 y4 y5 y7 y8 y9 y10 y11 y12 y13 then nxS (12:Int) (nb y1 y2 y10 y7) (qF y1 y2 y10 y7) y7 else qF y1 y2 y10 y7
end
def IM(y1 y2:Int)(y6:List (Int×(Int×((Int×Int)×(Int×(Int×Bool))))))(y7:List Int)(y10:List (List Int)):List (Int×(Int×((Int×Int)×(Int×(Int×Bool))))):=y6++rm y1 y2 y7 y10
def aad:jt→List (Nat×SV)
 |(y0,_,_,_,_,_,_,_,_,_,_,_,_,_)=> [(7,(.one ⟨false,[.val (.int .i64 y0)]⟩)),(4,(.one ⟨false,[.ptr 0 0]⟩)),(5,(.one ⟨false,[.ptr 1 0]⟩)),(6,(.one ⟨false,[.ref 2]⟩))]
def aab:jt→List (Nat×Entry)
 |(_,y1,y2,y3,y4,y5,y6,y7,y8,y9,y10,y11,y12,y13)=> [(0,(.box 157 [.ref 3,.val (.int .i64 y1),.val (.int .i64 y2)])),(1,(.box 33 [.val (.int .i64 y3),.ref 4,.ref 5,.ref 6,.ref 7,.val (.int .i64 y4),.ref 8,.ref 9,.val (.int .i64 y5)])),(3,(.row false 5 ajC y7)),(4,(.row true 2 aiQ y8)),(5,(.row true 169 acG y9)),(6,(.row true 24 (CTy.sl (2:Nat) aiQ) y10)),(7,(.row true 100 acG y11)),(8,(.row true 173 acH y12)),(9,(.row true 176 acH y13)),(2,(.row true 49 aa6 y6))]
def aah:Nat→jt→List (Nat×SV)
 |_,(_,_,_,_,_,_,_,_,_,_,_,_,_,_)=> [(6,(.one ⟨false,[.ref 2]⟩))]
def aaf:Nat→jt→List (Nat×Entry)
 |_,(_,y1,y2,y3,y4,y5,y6,y7,y8,y9,y10,y11,y12,y13)=> [(0,(.box 157 [.ref 3,.val (.int .i64 y1),.val (.int .i64 y2)])),(1,(.box 33 [.val (.int .i64 y3),.ref 4,.ref 5,.ref 6,.ref 7,.val (.int .i64 y4),.ref 8,.ref 9,.val (.int .i64 y5)])),(2,(.row true 49 aa6 y6)),(3,(.row false 5 ajC y7)),(4,(.row true 2 aiQ y8)),(5,(.row true 169 acG y9)),(6,(.row true 24 (CTy.sl (2:Nat) aiQ) y10)),(7,(.row true 100 acG y11)),(8,(.row true 173 acH y12)),(9,(.row true 176 acH y13))]
def Iz:jt→LT jt
 |(y0,y1,y2,y3,y4,y5,y6,y7,y8,y9,y10,y11,y12,y13)=> .ite (Kn y0) (.need [Rm y1 y2 y7] (.need [Rn y1 y2 y3 y4 y5 y7 y8 y9 y10 y11 y12 y13,Rp y1 y2 y3 y4 y5 y7 y8 y9 y10 y11 y12 y13] (.need [Rq y1 y2 y3 y4 y5 y6 y7 y8 y9 y10 y11 y12 y13,Rr y1 y2 y3 y4 y5 y6 y7 y8 y9 y10 y11 y12 y13] (.ite (abG y1 y2 y3 y4 y5 y7 y8 y9 y10 y11 y12 y13) (.nrm ((DM y0),Ko y1 y2 y3 y4 y5 y7 y8 y9 y10 y11 y12 y13,Kp y1 y2 y3 y4 y5 y7 y8 y9 y10 y11 y12 y13,y3,y4,y5,IM y1 y2 y6 y7 y10,y7,y8,y9,y10,y11,y12,y13) [(0,0),(1,1),(2,1216),(3,3),(4,4),(5,5),(6,6),(7,7),(8,8),(9,9)]) (.nrm ((DM y0),Ko y1 y2 y3 y4 y5 y7 y8 y9 y10 y11 y12 y13,Kp y1 y2 y3 y4 y5 y7 y8 y9 y10 y11 y12 y13,y3,y4,y5,y6,y7,y8,y9,y10,y11,y12,y13) [(0,0),(1,1),(2,2),(3,3),(4,4),(5,5),(6,6),(7,7),(8,8),(9,9)]))))) (.ext 0 [(0,0),(1,1),(2,2),(3,3),(4,4),(5,5),(6,6),(7,7),(8,8),(9,9)])
def IC(s:St):Option jt:=
 (match s.look 7 with
 |some ⟨none,.one ⟨false,[.val (.int .i64 y0)]⟩⟩=>
 (match s.look 4 with
 |some ⟨none,.one ⟨false,[.ptr 320 0]⟩⟩=>
 (match s.look 5 with
 |some ⟨none,.one ⟨false,[.ptr 576 0]⟩⟩=>
 (match s.look 6 with
 |some ⟨none,.one ⟨false,[.ref 704]⟩⟩=>
 (match s.ent 320 with
 |some (.box 157 [.ref 0,.val (.int .i64 y1),.val (.int .i64 y2)])=>
 (match s.ent 576 with
 |some (.box 33 [.val (.int .i64 y3),.ref 512,.ref 513,.ref 514,.ref 515,.val (.int .i64 y4),.ref 516,.ref 517,.val (.int .i64 y5)])=>
 (match s.ent 0 with
 |some (.row false 5 (.int IntKind.u8) y7)=>
 (match s.ent 512 with
 |some (.row true 2 (.int .i64) y8)=>
 (match s.ent 513 with
 |some (.row true 169 (.pair (.int .i64) (.pair (.int .i64) (.int .i64))) y9)=>
 (match s.ent 514 with
 |some (.row true 24 (.sl 2 (.int .i64)) y10)=>
 (match s.ent 515 with
 |some (.row true 100 (.pair (.int .i64) (.pair (.int .i64) (.int .i64))) y11)=>
 (match s.ent 516 with
 |some (.row true 173 (.pair (.int .i64) (.int .i64)) y12)=>
 (match s.ent 517 with
 |some (.row true 176 (.pair (.int .i64) (.int .i64)) y13)=>
 (match s.ent 704 with
 |some (.row true 49 (.pair (.int .i64) (.pair (.int .i64) (.pair (.pair (.int .i64) (.int .i64)) (.pair (.int .i64) (.pair (.int .i64) .bool))))) y6)=>
 some (y0,y1,y2,y3,y4,y5,y6,y7,y8,y9,y10,y11,y12,y13)
 |_=>none)
 |_=>none)
 |_=>none)
 |_=>none)
 |_=>none)
 |_=>none)
 |_=>none)
 |_=>none)
 |_=>none)
 |_=>none)
 |_=>none)
 |_=>none)
 |_=>none)
 |_=>none)
def gM:Lp jt where
 h:=⟨[16,17,20,21,22,8,23,24,25,26,27,28,29,30,31,32,33,34,6,18,19,7],[0,1,3,4,5,6,7,8,9],[2],[]⟩
 JL:=aad
 JE:=aab
 XL:=aah
 XE:=aaf
 q:=fun j=>match j with | _=> .exit 0
 tags:= [0]
 lt:=Iz
 fuel:=fun(y0,y1,y2,y3,y4,y5,y6,y7,y8,y9,y10,y11,y12,y13)=>y0.natAbs + y1.natAbs + y2.natAbs + y3.natAbs + y4.natAbs + y5.natAbs + y6.length + y7.length + y8.length + y9.length + y10.length + y11.length + y12.length + y13.length
 fix:=fun(_,_,_,y3,y4,y5,_,y7,y8,y9,y10,y11,y12,y13) (y0,y1,y2,_,_,_,y6,_,_,_,_,_,_,_)=>(y0,y1,y2,y3,y4,y5,y6,y7,y8,y9,y10,y11,y12,y13)
 σ:= [(0,320),(1,576),(3,0),(4,512),(5,513),(6,514),(7,515),(8,516),(9,517),(2,704)]
 rd:=IC
theorem Yf:LoopOk prog (fun k=>Nat.blt k Tryz.f11.ntmps) gM.F (aL f11 0):=by
 refine Lp.ok (tbl:= [eM,PF.lend eM,PF.fz eM,GH,PF.lend GH,PF.fz GH,wY,PF.lend wY,PF.fz wY,af,PF.lend af,PF.fz af,wZ,PF.lend wZ,PF.fz wZ]) (lf:= []) aM gM (by kernel_rfl) (LOk.nil _) (fun _=>rfl) (fun _ _=>rfl) ?_ ?_ ?_ ?_ (fun _=>rfl) ?_
 ·rintro⟨y0,y1,y2,y3,y4,y5,y6,y7,y8,y9,y10,y11,y12,y13⟩;kernel_rfl
 ·rintro⟨y0,y1,y2,y3,y4,y5,y6,y7,y8,y9,y10,y11,y12,y13⟩;kernel_rfl
 ·intro s x h
  have h:IC s=some x:=h
  unfold IC at h
  repeat' split at h
  all_goals cases h
  exact⟨aa (by assumption) rfl (aa (by assumption) rfl (aa (by assumption) rfl (aa (by assumption) rfl (rfl)))),ab rfl (by assumption) rfl (ab rfl (by assumption) rfl (ab rfl (by assumption) rfl (ab rfl (by assumption) rfl (ab rfl (by assumption) rfl (ab rfl (by assumption) rfl (ab rfl (by assumption) rfl (ab rfl (by assumption) rfl (ab rfl (by assumption) rfl (ab rfl (by assumption) rfl (rfl))))))))))⟩
 ·rintro⟨y0,y1,y2,y3,y4,y5,y6,y7,y8,y9,y10,y11,y12,y13⟩;kernel_rfl
 ·rintro⟨y0,y1,y2,y3,y4,y5,y6,y7,y8,y9,y10,y11,y12,y13⟩ z;exact(And.intro (And.intro rfl rfl) trivial)
section
variable (x0:List Int)
def Gq:Int×Int×Int×Int×Int×Int×List (Int×Int×(Int×Int)×Int×Int×Bool)×List Int×List Int×List (Int×Int×Int)×List (List Int)×List (Int×Int×Int)×List (Int×Int)×List (Int×Int):=(nxV (30:Int) (qw (0:Int) (frS x0) x0) (tu (0:Int) (frS x0) x0) x0,nxA (30:Int) (qw (0:Int) (frS x0) x0) x0,nxS (30:Int) (qw (0:Int) (frS x0) x0) (tu (0:Int) (frS x0) x0) x0,DD (0:Int) (frS x0) x0,DE (0:Int) (frS x0) x0,DF (0:Int) (frS x0) x0,[],x0,qx (0:Int) (frS x0) x0,qy (0:Int) (frS x0) x0,mZ (0:Int) (frS x0) x0,qz (0:Int) (frS x0) x0,qA (0:Int) (frS x0) x0,nU (0:Int) (frS x0) x0)
def AR:Int×Int×Int×Int×Int×List (Int×Int×(Int×Int)×Int×Int×Bool)×List Int×List Int×List (Int×Int×Int)×List (List Int)×List (Int×Int×Int)×List (Int×Int)×List (Int×Int):=(Lp.res gM (Gq x0)).2.2
def nT:Int:=(AR x0).1
def Gr:Int×Int×Int×Int×List (Int×Int×(Int×Int)×Int×Int×Bool)×List Int×List Int×List (Int×Int×Int)×List (List Int)×List (Int×Int×Int)×List (Int×Int)×List (Int×Int):=(AR x0).2
def vS:Int:=(Gr x0).1
def cD:Bool:=nxV (60:Int) (nT x0) (vS x0) x0==(0:Int)
def iD:Int:=IntKind.wrap .i64 ((200:Int) + nxV (2:Int) (nxA (60:Int) (nT x0) x0) (nxS (60:Int) (nT x0) (vS x0) x0) x0)
def VD:Int:=bif cD x0 then DD (0:Int) (frS x0) x0 else DD (0:Int) (frS x0) x0
def VE:Int:=bif cD x0 then DE (0:Int) (frS x0) x0 else DE (0:Int) (frS x0) x0
def VF:Int:=bif cD x0 then DF (0:Int) (frS x0) x0 else DF (0:Int) (frS x0) x0
def IF:List Int:=bif cD x0 then qx (0:Int) (frS x0) x0 else qx (0:Int) (frS x0) x0
def IG:List (Int×(Int×Int)):=bif cD x0 then qy (0:Int) (frS x0) x0 else qy (0:Int) (frS x0) x0
def IH:List (List Int):=bif cD x0 then mZ (0:Int) (frS x0) x0 else mZ (0:Int) (frS x0) x0
def II:List (Int×(Int×Int)):=bif cD x0 then qz (0:Int) (frS x0) x0 else qz (0:Int) (frS x0) x0
def IJ:List (Int×Int):=bif cD x0 then qA (0:Int) (frS x0) x0 else qA (0:Int) (frS x0) x0
def IK:List (Int×Int):=bif cD x0 then nU (0:Int) (frS x0) x0 else nU (0:Int) (frS x0) x0
def IL:List (Int×(Int×((Int×Int)×(Int×(Int×Bool))))):=bif cD x0 then List.replicate (Int.toNat (iD x0)) ((0:Int),(0:Int),((0:Int),(0:Int)),(0:Int),(0:Int),false)else ((Gr x0).2.2.2.2).1
def Gp:Bool:=allT [aq (0:Int) (0:Int) x0,aq (0:Int) (frS x0) x0,aq (qw (0:Int) (frS x0) x0) (tu (0:Int) (frS x0) x0) x0,Lp.fin gM (Gq x0),aq (nT x0) (vS x0) x0,!cD x0||aq (nxA (60:Int) (nT x0) x0) (nxS (60:Int) (nT x0) (vS x0) x0) x0,!cD x0||leI (0:Int) (iD x0),!cD x0||leI (iD x0) (iD x0),!cD x0||leI ((↑(56:Nat):Int) * iD x0) (281474976710656:Int),!cD x0||leI (iD x0) (9223372036854775807:Int)]
end
def Ur:List SV→List Entry→Option Out
 | [.one ⟨false,[.ref 0]⟩],[.row false 5 (.int .u8) x0]=>some ⟨.tup [⟨true,[.val (.int .i64 (VD x0)),.ref 1,.ref 2,.ref 3,.ref 4,.val (.int .i64 (VE x0)),.ref 5,.ref 6,.val (.int .i64 (VF x0))]⟩,⟨false,[.ref 7]⟩],[.row false 5 ajC x0],[.row true 2 aiQ (IF x0),.row true 169 acG (IG x0),.row true 24 (CTy.sl (2:Nat) aiQ) (IH x0),.row true 100 acG (II x0),.row true 173 acH (IJ x0),.row true 176 acH (IK x0),.row true 49 aa6 (IL x0)],[Gp x0]⟩
 |_,_=>none
def Od:PF prog:=PF.ofG prog [eM,PF.lend eM,PF.fz eM,GH,PF.lend GH,PF.fz GH,wY,PF.lend wY,PF.fz wY,af,PF.lend af,PF.fz af,wZ,PF.lend wZ,PF.fz wZ] [gM.F] aM 11 f11 func11 (LOk.fnT (l:= [aL f11 0]) (by kernel_rfl) (.cons Yf (.nil _))) Ur (by
 intro vs es r h;unfold Ur at h;split at h
 ·cases h;kernel_rfl
 ·cases h)
section
variable (x0:List Int)
def vo:Int:=VD x0
def qr:Int:=VE x0
def vp:Int:=VF x0
def lR:List Int:=IF x0
def lS:List (Int×(Int×Int)):=IG x0
def lT:List (List Int):=IH x0
def lU:List (Int×(Int×Int)):=II x0
def lV:List (Int×Int):=IJ x0
def lW:List (Int×Int):=IK x0
def lX:List (Int×(Int×((Int×Int)×(Int×(Int×Bool))))):=IL x0
def uv:Bool:=allT [Gp x0]
end
def KY:List SV→List Entry→Option Out
 | [.one ⟨false,[.ref 0]⟩],[.row false 5 (.int .u8) x0]=>some ⟨.tup [⟨true,[.val (.int .i64 (vo x0)),.ref 1,.ref 2,.ref 3,.ref 4,.val (.int .i64 (qr x0)),.ref 5,.ref 6,.val (.int .i64 (vp x0))]⟩,⟨false,[.ref 7]⟩],[.row false 5 ajC x0],[.row true 2 aiQ (lR x0),.row true 169 acG (lS x0),.row true 24 (CTy.sl (2:Nat) aiQ) (lT x0),.row true 100 acG (lU x0),.row true 173 acH (lV x0),.row true 176 acH (lW x0),.row true 49 aa6 (lX x0)],[uv x0]⟩
 |_,_=>none
def lN:PF prog:=PF.ofG prog [Od,PF.lend Od,PF.fz Od] [] aM 29 f29 func29 (fun c _=>LOk.nil c) KY (by
 intro vs es r h;unfold KY at h;split at h
 ·cases h;kernel_rfl
 ·cases h)
abbrev gJ:=Int×Int×Int×List (Int×(Int×((Int×Int)×(Int×(Int×Bool)))))
def pC(y0:Int)(y3:List (Int×(Int×((Int×Int)×(Int×(Int×Bool)))))):Int:=(Option.getD y3[Int.toNat y0]? ((0:Int),(0:Int),((0:Int),(0:Int)),(0:Int),(0:Int),false)).1
def pD(y0:Int)(y3:List (Int×(Int×((Int×Int)×(Int×(Int×Bool)))))):Bool:=pC y0 y3==(0:Int)
def qZ(y0:Int)(y3:List (Int×(Int×((Int×Int)×(Int×(Int×Bool)))))):Bool:=ltI y0 (↑y3.length:Int)
def uS(y0:Int):Bool:=leI (0:Int) y0
def uT(y0:Int)(y3:List (Int×(Int×((Int×Int)×(Int×(Int×Bool)))))):Bool:=ltN y0.toNat y3.length
def uU(y0:Int):Int:=IntKind.wrap .i64 (y0 + (1:Int))
def uV(y0 y1:Int)(y3:List (Int×(Int×((Int×Int)×(Int×(Int×Bool)))))):Int:=bif pD y0 y3 then IntKind.wrap .i64 (y1 + (1:Int))else y1
def uW(y0 y2:Int)(y3:List (Int×(Int×((Int×Int)×(Int×(Int×Bool)))))):Int:=bif pD y0 y3 then y2 else bif pC y0 y3==(2:Int)then IntKind.wrap .i64 (y2 + (1:Int))else y2
def YR:gJ→List (Nat×SV)
 |(y0,y1,y2,_)=> [(11,(.one ⟨false,[.val (.int .i64 y0)]⟩)),(4,(.one ⟨false,[.ref 0]⟩)),(9,(.one ⟨false,[.val (.int .i64 y1)]⟩)),(10,(.one ⟨false,[.val (.int .i64 y2)]⟩))]
def YN:gJ→List (Nat×Entry)
 |(_,_,_,y3)=> [(0,(.row true 49 aa6 y3))]
def Zh:Nat→gJ→List (Nat×SV)
 |_,(_,y1,y2,_)=> [(9,(.one ⟨false,[.val (.int .i64 y1)]⟩)),(10,(.one ⟨false,[.val (.int .i64 y2)]⟩))]
def Zd:Nat→gJ→List (Nat×Entry)
 |_,(_,_,_,y3)=> [(0,(.row true 49 aa6 y3))]
def tG:gJ→LT gJ
 |(y0,y1,y2,y3)=> .ite (qZ y0 y3) (.need [uS y0,qZ y0 y3,uT y0 y3] (.nrm ((uU y0),uV y0 y1 y3,uW y0 y2 y3,y3) [(0,0)])) (.ext 0 [(0,0)])
def GL(s:St):Option gJ:=
 (match s.look 11 with
 |some ⟨none,.one ⟨false,[.val (.int .i64 y0)]⟩⟩=>
 (match s.look 4 with
 |some ⟨none,.one ⟨false,[.ref 390]⟩⟩=>
 (match s.look 9 with
 |some ⟨none,.one ⟨false,[.val (.int .i64 y1)]⟩⟩=>
 (match s.look 10 with
 |some ⟨none,.one ⟨false,[.val (.int .i64 y2)]⟩⟩=>
 (match s.ent 390 with
 |some (.row true 49 (.pair (.int .i64) (.pair (.int .i64) (.pair (.pair (.int .i64) (.int .i64)) (.pair (.int .i64) (.pair (.int .i64) .bool))))) y3)=>
 some (y0,y1,y2,y3)
 |_=>none)
 |_=>none)
 |_=>none)
 |_=>none)
 |_=>none)
def bT:Lp gJ where
 h:=⟨[41,42,43,44,47,48,49,50,51,53,52,54,55,9,57,56,58,59,10,45,46,11],[0],[],[]⟩
 JL:=YR
 JE:=YN
 XL:=Zh
 XE:=Zd
 q:=fun j=>match j with | _=> .exit 0
 tags:= [0]
 lt:=tG
 fuel:=fun(y0,y1,y2,y3)=>y0.natAbs + y1.natAbs + y2.natAbs + y3.length
 fix:=fun(_,_,_,y3) (y0,y1,y2,_)=>(y0,y1,y2,y3)
 σ:= [(0,390)]
 rd:=GL
theorem Ww:LoopOk prog (fun k=>Nat.blt k Tryz.f5.ntmps) bT.F (aL f5 0):=by
 refine Lp.ok (tbl:= [Se,PF.lend Se,PF.fz Se,lN,PF.lend lN,PF.fz lN,rb,PF.lend rb,PF.fz rb,rc,PF.lend rc,PF.fz rc]) (lf:= []) aM bT (by kernel_rfl) (LOk.nil _) (fun _=>rfl) (fun _ _=>rfl) ?_ ?_ ?_ ?_ (fun _=>rfl) ?_
 ·rintro⟨y0,y1,y2,y3⟩;kernel_rfl
 ·rintro⟨y0,y1,y2,y3⟩;kernel_rfl
 ·intro s x h
  have h:GL s=some x:=h
  unfold GL at h
  repeat' split at h
  all_goals cases h
  exact⟨aa (by assumption) rfl (aa (by assumption) rfl (aa (by assumption) rfl (aa (by assumption) rfl (rfl)))),ab rfl (by assumption) rfl (rfl)⟩
 ·rintro⟨y0,y1,y2,y3⟩;kernel_rfl
 ·rintro⟨y0,y1,y2,y3⟩ z;exact(And.intro rfl trivial)
section
variable (x0:List Int)
def tD:Int:=rrC (vo x0) (qr x0) (vp x0) (lR x0) (lS x0) (lT x0) (lU x0) (lV x0) (lW x0) (lX x0)
def qa:Int:=rrT (vo x0) (qr x0) (vp x0) (lR x0) (lS x0) (lT x0) (lU x0) (lV x0) (lW x0) (lX x0)
def El:Bool:=bif tD x0 !=tD x0 then true else qa x0 !=qa x0
def tE:Int×Int×Int×List (Int×Int×(Int×Int)×Int×Int×Bool):=((0:Int),(0:Int),(0:Int),lX x0)
def tF:Int×Int×List (Int×Int×(Int×Int)×Int×Int×Bool):=(Lp.res bT (tE x0)).2.2
def yJ:Bool:=NX x0||Gb (9223372036854775807:Nat) (lR x0) (lS x0) (lT x0) (lU x0) (lV x0) (lW x0)
def Gl:Bool:=bif NX x0 then true else bif El x0 then false else bif tD x0 !=(0:Int)then true else bif bif leI (0:Int) (qa x0)then leI (qa x0) ((tF x0).1)else false then bif bif qr x0==(3:Int)then true else ltI (0:Int) (((tF x0).2).1)then true else qa x0==(0:Int)else false
def Gm:Bool:=allT [NX x0||uv x0,yJ x0,yJ x0,NX x0||(El x0||(tD x0 !=(0:Int)||Lp.fin bT (tE x0)))]
end
def TK:List SV→List Entry→Option Out
 | [.one ⟨false,[.ref 0]⟩],[.row false 5 (.int .u8) x0]=>some ⟨.one ⟨false,[.val (.bool (Gl x0))]⟩,[.row false 5 ajC x0],[],[Gm x0]⟩
 |_,_=>none
def aed:PF prog:=PF.ofG prog [Se,PF.lend Se,PF.fz Se,lN,PF.lend lN,PF.fz lN,rb,PF.lend rb,PF.fz rb,rc,PF.lend rc,PF.fz rc] [bT.F] aM 5 f5 func5 (LOk.fnT (l:= [aL f5 0]) (by kernel_rfl) (.cons Ww (.nil _))) TK (by
 intro vs es r h;unfold TK at h;split at h
 ·cases h;kernel_rfl
 ·cases h)
theorem aq4{c:List Int}(hb: ∀ (i:Nat) (x:Int),c[i]? =some x→0≤x∧x≤255)(h:NX c=false):aq 0 0 c=true:=by
 have:=aw.1 h
 refine adz.2 ⟨by omega,by omega,by omega,fun x hx=> ?_⟩
 obtain⟨i,hi⟩:=List.getElem?_of_mem hx
 exact hb i x hi
 attribute [local irreducible] nxA nxS nxV pkA pkS pkV Gb
theorem Yt(c:List Int)(x:jt)(hx:match x with | (y0,y1,y2,y3,y4,y5,y6,y7,y8,y9,y10,y11,y12,y13)=>y0≤((30:Nat):Int)∧aq y1 y2 y7=true∧y6.length + (30:Nat)≤30∧Gb 1000000 y8 y9 y10 y11 y12 y13=true∧y7=c):
  gM.fin x=true∧ ∃ j y,gM.res x=(j,y)∧(match y with | (y0,y1,y2,y3,y4,y5,y6,y7,y8,y9,y10,y11,y12,y13)=>aq y1 y2 c=true∧y6.length≤30∧c=y7):=by
 refine gM.inv2 (fun k x=>match x with | (y0,y1,y2,y3,y4,y5,y6,y7,y8,y9,y10,y11,y12,y13)=>y0≤(k:Int)∧aq y1 y2 y7=true∧y6.length + k≤30∧Gb 1000000 y8 y9 y10 y11 y12 y13=true∧y7=c) (fun y=>match y with | (y0,y1,y2,y3,y4,y5,y6,y7,y8,y9,y10,y11,y12,y13)=>aq y1 y2 c=true∧y6.length≤30∧c=y7) (fun k x hx=> ?_) (fun x hx=> ?_) 30 x (by omega) hx
 ·obtain⟨y0,y1,y2,y3,y4,y5,y6,y7,y8,y9,y10,y11,y12,y13⟩:=x
  obtain⟨h0,h1,h2,h3,rfl⟩:=hx
  have iN:Gb 9223372036854775807 y8 y9 y10 y11 y12 y13=true:=aki h3 (by omega)
  have hd:=(RE y1 y2 y10 y7 h1).2
  have i2:Rn y1 y2 y3 y4 y5 y7 y8 y9 y10 y11 y12 y13=true:=(ah9 y3 y4 y5 _ _ 0 0 0 0 false y8 y9 y10 y11 y12 y13 iN).2
  have i3:Rp y1 y2 y3 y4 y5 y7 y8 y9 y10 y11 y12 y13=true:=aqZ hd
  have i4:Rq y1 y2 y3 y4 y5 y6 y7 y8 y9 y10 y11 y12 y13=true:=aqZ (br (by simp only [rm,List.length_cons,List.length_nil];omega))
  have i5:Rr y1 y2 y3 y4 y5 y6 y7 y8 y9 y10 y11 y12 y13=true:=aqZ (br (by simp only [rm,List.length_cons,List.length_nil];omega))
  have i1:Rm y1 y2 y7=true:=h1
  have e8:aq (Ko y1 y2 y3 y4 y5 y7 y8 y9 y10 y11 y12 y13) (Kp y1 y2 y3 y4 y5 y7 y8 y9 y10 y11 y12 y13) y7=true:=qK (fk hd) hd
  have l10:(IM y1 y2 y6 y7 y10).length=y6.length + 1:=by simp only [IM,rm,List.length_append,List.length_cons,List.length_nil]
  have w7:ltI 0 y0=true→DM y0≤(k:Int):=fun h=>by
   have:=ay.1 h
   simp only [DM];rw [ag (by omega) (by omega)];omega
  simp only [gM,Iz,LT.ok,Cr,Cs,and_true,true_and,i1,i2,i3,i4,i5,Kn]
  exact⟨fun h=>⟨fun _=>⟨w7 h,e8,by omega,h3⟩,fun _=>⟨w7 h,e8,by omega,h3⟩⟩,fun _=>⟨h1,by omega⟩⟩
 ·obtain⟨y0,y1,y2,y3,y4,y5,y6,y7,y8,y9,y10,y11,y12,y13⟩:=x
  obtain⟨h0,h1,h2,h3,rfl⟩:=hx
  have e0:ltI 0 y0=false:=aiu (by omega)
  simp only [gM,Iz,LT.ok,Kn,e0,Bool.false_eq_true,false_implies,true_implies,true_and,and_true]
  exact⟨h1,by omega⟩
theorem dRR(c:List Int)(h:aq 0 0 c=true):Gp c=true∧Gb 1000000 (IF c) (IG c) (IH c) (II c) (IJ c) (IK c)=true∧(IL c).length≤201:=by
 have h1:=(aoF c h).2
 obtain⟨_,h2,hN⟩:=Rv 0 (frS c) c h1
 have n1:=Vm (n:=30) h2 (by omega)
 obtain⟨f0,j0,⟨z0,z1,z2,z3,z4,z5,z6,z7,z8,z9,z10,z11,z12,z13⟩,g0,q1,q2,q3⟩:=Yt c (Gq c) (by
  simp only [Gq]
  exact⟨by omega,fk h2,by simp,hN,trivial⟩)
 subst q3
 have e2:nT c=z1:=by simp only [nT,AR,g0]
 have e4:vS c=z2:=by simp only [vS,Gr,AR,g0]
 have s1:aq (nxA 60 z1 c) (nxS 60 z1 z2 c) c=true:=fk q1
 have n2:=Vm (n:=2) s1 (by omega)
 have e6:iD c=200 + nxV 2 (nxA 60 z1 c) (nxS 60 z1 z2 c) c:=by simp only [iD,e2,e4];exact ag (by omega) (by omega)
 have t1:leI 0 (iD c)=true:=da (by omega)
 have t2:leI ((56:Nat) * iD c) 281474976710656=true:=da (by omega)
 have t3:leI (iD c) 9223372036854775807=true:=da (by omega)
 refine⟨?_,?_,?_⟩
 ·simp only [Gp,e2,e4,h,h1,h2,f0,s1,q1,t1,t2,t3,agL,allT,Bool.or_true,cond_true]
 ·simp only [IF,IG,IH,II,IJ,IK,Bool.cond_self];exact hN
 ·simp only [IL,Gr,AR,g0]
  cases cD c with
  |true=>simp only [cond_true,List.length_replicate];omega
  |false=>simp only [cond_false];omega
end Go.SX
namespace Go.SX
open Go.Proofs Go.Proofs.Tryz
set_option maxRecDepth 100000
def mJ(b:Int×(Int×((Int×Int)×(Int×(Int×Bool))))):(Int×Int)→Nat ⊕ (Int×Int)
 |(y1,y2)=>(.inr ((bif(b.1==(0:Int))then IntKind.wrap .i64 (y1 + (1:Int))else y1),(bif(b.1==(0:Int))then y2 else bif(b.1)==(2:Int)then IntKind.wrap .i64 (y2 + (1:Int))else y2)))
def fG(y3:List (Int×(Int×((Int×Int)×(Int×(Int×Bool))))))(i:Nat):(Int×Int)→gJ
 |(y1,y2)=>((i:Int),y1,y2,y3)
def GJ:gJ→Int×Int
 |(_,y1,y2,_)=>(y1,y2)
theorem aaO(y3:List (Int×(Int×((Int×Int)×(Int×(Int×Bool))))))(y1 y2:Int)(hn:y3.length≤9223372036854775807):
  bT.fin ((0:Int),y1,y2,y3)=true∧bT.res ((0:Int),y1,y2,y3)=((aO (mJ) 0 y3 0 (y1,y2)).1,(fG y3) (aO (mJ) 0 y3 0 (y1,y2)).2.1 (aO (mJ) 0 y3 0 (y1,y2)).2.2):=by
 have ez:=bT.along (fG y3) GJ (mJ) 0 (fun _ _=>True) y3 (y1,y2) (by trivial) (by simp only [bT,fG];omega) (fun i b a hb hI=> ?_) (fun a hI=> ?_)
 ·exact ez
 ·obtain⟨y1,y2⟩:=a
  have dZ:=(List.getElem?_eq_some_iff.1 hb).1
  have gQ: ∀ d,Option.getD y3[i]? d=b:=fun d=>by rw [hb];rfl
  have hw:=tw dZ hn
  have cR:ltI (i:Int) (y3.length:Int)=true:=fj (by omega)
  have ta:leI (0:Int) (i:Int)=true:=da (by omega)
  have fB:ltN i y3.length=true:=gp dZ
  refine⟨?_,?_,?_,?_⟩
  ·simp [pC,pD,qZ,uS,uT,uU,uV,uW,tG,bT,LT.nds,allT,fG,cR,ta,fB,gQ]
  ·simp [pC,pD,qZ,uS,uT,uU,uV,uW,tG,bT,LT.each,fG,GJ,hw]
  ·simp only [pC,pD,qZ,uS,uT,uU,uV,uW,tG,bT,LT.fn,fG,GJ,mJ,Int.toNat_natCast,cR,ta,fB,gQ,cond_true,Bool.cond_self]
  ·exact fun _ _=>trivial
 ·obtain⟨y1,y2⟩:=a
  simp [pC,pD,qZ,uS,uT,uU,uV,uW,tG,bT,LT.out,fG]
def mvC:List RX→Nat
 | []=>0
 |x::r=>(bif x.1==0 then 1 else 0) + mvC r
def cmC:List RX→Nat
 | []=>0
 |x::r=>(bif x.1==0 then 0 else bif x.1==2 then 1 else 0) + cmC r
theorem ahj{e:Nat}: ∀ (r:List RX) (i:Nat) (a b:Int),0≤a→0≤b→a + r.length≤1000000→b + r.length≤1000000→
  aO mJ e r i (a,b)=(e,i + r.length,(a + mvC r,b + cmC r))
 | [],i,a,b,_,_,_,_=>by simp [aO,mvC,cmC]
 |x::r,i,a,b,h1,h2,h3,h4=>by
  simp only [List.length_cons]at h3 h4
  have hw: ∀ z:Int,0≤z→z≤1000000→IntKind.i64.wrap (z + 1)=z + 1:=fun z _ _=>ag (by omega) (by omega)
  have wa:=hw a h1 (by omega)
  have wb:=hw b h2 (by omega)
  simp only [aO,mJ,mvC,cmC,List.length_cons]
  cases hx:x.1==0 with
  |true=>
   simp only [cond_true,wa]
   rw [ahj r (i + 1) (a + 1) b (by omega) h2 (by omega) (by omega)]
   simp only [Prod.mk.injEq,true_and];omega
  |false=>
   cases hy:x.1==2 with
   |true=>
    simp only [cond_true,cond_false,wb]
    rw [ahj r (i + 1) a (b + 1) h1 (by omega) (by omega) (by omega)]
    simp only [Prod.mk.injEq,true_and];omega
   |false=>
    simp only [cond_false]
    rw [ahj r (i + 1) a b h1 h2 (by omega) (by omega)]
    simp only [Prod.mk.injEq,true_and];omega
theorem aon{n mode day:Int}{ps:LI}{fs:L3}{rs:List LI}{lf:L3}{pl ls:L2}(f:RideF n mode day ps fs rs lf pl ls){t:Int}(h:HR n t ps=true)(hv:aeO n mode ps fs rs lf t=0):mode=3:=by
 have hn:=f.n1
 have hp:ps[t.toNat]?.getD 0=3 * n - 2:=by
  simp only [HR,cj]at h
  rw [ag (x:=n - 1) (by omega) (by omega),ag (x:=3 * (n - 1)) (by omega) (by omega),ag (by omega) (by omega)]at h
  have:=beq_iff_eq.1 h
  omega
 have hm:(Int.tmod (3 * n - 2) 3==1)=true:=by rw [Int.tmod_eq_emod_of_nonneg (by omega)];exact beq_iff_eq.2 (by omega)
 simp only [aeO,hp,hm,Bool.not_true,cond_false]at hv
 cases h1:mode==3 with
 |true=>exact beq_iff_eq.1 h1
 |false=>rw [show (mode !=3)=true from by simp [bne,h1]]at hv;cases hv
theorem ak4{n day:Int}{fs lf:L3}{pl ls:L2}{ps0:LI}{rs0:List LI}: ∀ {r:List RX} {i:Nat} {s:RS},aiL n day fs lf pl ls ps0 rs0 i s→(∀ x∈r,isX ps0 rs0 x=true)→0≤s.2.2.2.2→s.2.2.2.2 + r.length≤1000000→
  (s.2.2.2.2≤(r.foldl (stX n day fs lf pl ls) s).2.2.2.2∧(r.foldl (stX n day fs lf pl ls) s).2.2.2.2≤s.2.2.2.2 + mvC r)∧
  (s.1≠3→cmC r=0→(r.foldl (stX n day fs lf pl ls) s).2.2.2.2=s.2.2.2.2)
 | [],i,s,h,_,_,_=>by simp [mvC]
 |x::r,i,s,h,hx,h0,h1=>by
  obtain⟨hx',hI⟩:=Mq h (hx x (by simp))
  simp only [List.length_cons]at h1
  have hw:IntKind.i64.wrap (s.2.2.2.2 + 1)=s.2.2.2.2 + 1:=ag (by omega) (by omega)
  have hc:(stX n day fs lf pl ls s x).2.2.2.2=bif x.1==0&&(vX n day fs lf pl ls s x==0&&HR n x.2.1 s.2.1)then s.2.2.2.2 + 1 else s.2.2.2.2:=by simp only [stX,hw]
  have hb:s.2.2.2.2≤(stX n day fs lf pl ls s x).2.2.2.2∧(stX n day fs lf pl ls s x).2.2.2.2≤s.2.2.2.2 + (bif x.1==0 then 1 else 0:Nat):=by
   rw [hc]
   cases x.1==0 <;> cases (vX n day fs lf pl ls s x==0&&HR n x.2.1 s.2.1) <;> simp <;> omega
  have NV:(bif x.1==0 then 1 else 0:Nat)≤1:=by cases x.1==0 <;> simp
  obtain⟨⟨g1,g2⟩,g3⟩:=ak4 (r:=r) hI (fun y hy=>hx y (by simp [hy])) (by omega) (by omega)
  simp only [List.foldl_cons,mvC,cmC]
  refine⟨⟨by omega,by omega⟩,fun hm hcm=> ?_⟩
  have k2:x.1≠2:=fun hk=>by rw [hk]at hcm;simp at hcm
  have hmode:(stX n day fs lf pl ls s x).1=s.1:=by
   simp only [stX,stM]
   rcases Ln hx' with⟨hk,_⟩ | ⟨hk,_⟩ | ⟨hk,_⟩
   ·rw [hk];rfl
   ·rw [hk];rfl
   ·exact absurd hk k2
  have hcc:cmC r=0:=by
   cases hq:x.1==0 <;> simp [hq]at hcm <;> omega
  rw [g3 (by rw [hmode];exact hm) hcc,hc]
  cases hk:x.1==0 with
  |false=>rfl
  |true=>
   cases hv:vX n day fs lf pl ls s x==0 with
   |false=>rfl
   |true=>
    cases hs:HR n x.2.1 s.2.1 with
    |false=>rfl
    |true=>
     have hk0:x.1=0:=beq_iff_eq.1 hk
     have hv0:vX n day fs lf pl ls s x=0:=beq_iff_eq.1 hv
     rw [vX,stV,hk]at hv0
     exact absurd (aon h.1 hs hv0) hm
theorem ajI(c:List Int)(w:wfD (.sl 5 (.int .u8)) c):Gl c=true∧Gm c=true:=by
 have hb: ∀ (i:Nat) (x:Int),c[i]? =some x→0≤x∧x≤255:=fun i x hx=>ark (w.2 x (List.mem_of_getElem? hx))
 cases hbig:NX c with
 |true=>simp [Gl,Gm,allT,hbig,yJ]
 |false=>
  have hsrc:=aq4 hb hbig
  obtain⟨hd,hM,hL⟩:=dRR c hsrc
  have hd':uv c=true:=by simp only [uv,hd,allT,cond_true]
  have hM':Gb 1000000 (lR c) (lS c) (lT c) (lU c) (lV c) (lW c)=true:=hM
  have hL':(lX c).length≤201:=hL
  generalize u0:vo c=n
  generalize u1:qr c=mode
  generalize u2:vp c=day
  generalize u3:lR c=ps at hM'
  generalize u4:lS c=fs at hM'
  generalize u5:lT c=rs at hM'
  generalize u6:lU c=lf at hM'
  generalize u7:lV c=pl at hM'
  generalize u8:lW c=ls at hM'
  generalize u9:lX c=xs at hL'
  have hN:Gb 9223372036854775807 ps fs rs lf pl ls=true:=aki hM' (by omega)
  obtain⟨v1,v2⟩:=aaO xs 0 0 (by omega)
  rw [ahj xs 0 0 0 (by omega) (by omega) (by omega) (by omega)]at v2
  have f1:Lp.fin bT (tE c)=true:=by simp only [tE,u9];exact v1
  have f2:Lp.res bT (tE c)=(0,fG xs (0 + xs.length) (0 + (mvC xs:Int),0 + (cmC xs:Int))):=by simp only [tE,u9];exact v2
  have a0:tD c=rrC n mode day ps fs rs lf pl ls xs:=by simp only [tD,u0,u1,u2,u3,u4,u5,u6,u7,u8,u9]
  have a1:qa c=rrT n mode day ps fs rs lf pl ls xs:=by simp only [qa,u0,u1,u2,u3,u4,u5,u6,u7,u8,u9]
  have a2:El c=false:=by simp only [El,bne_self_eq_false,cond_false]
  have a5:yJ c=true:=by simp only [yJ,u3,u4,u5,u6,u7,u8,hN,Bool.or_true]
  refine⟨?_,by simp only [Gm,hd',a5,f1,allT,Bool.or_true,cond_true]⟩
  simp only [Gl,hbig,a0,a1,a2,cond_false,aqf]
  cases hB:rrB n mode day ps fs rs lf pl ls xs with
  |false=>rfl
  |true=>
   obtain⟨f,_,hX⟩:=am5 hB
   obtain⟨⟨g1,g2⟩,g3⟩:=ak4 (r:=xs) (am3 f) hX (by simp) (by simp only;omega)
   simp only at g1 g2 g3
   have hT:rrT n mode day ps fs rs lf pl ls xs=(rrE n mode day ps fs rs lf pl ls xs).2.2.2.2:=by rw [rrT,hB];rfl
   have e1:leI 0 (rrT n mode day ps fs rs lf pl ls xs)=true:=da (by rw [hT];exact g1)
   have e2:leI (rrT n mode day ps fs rs lf pl ls xs) (tF c).1=true:=da (by simp only [tF,f2,fG];rw [hT];exact g2)
   have e3:(tF c).2.1=0 + (cmC xs:Int):=by simp only [tF,f2,fG]
   simp only [Bool.not_true,cond_false,e1,e2,cond_true,e3,u1]
   cases hm:mode==3 with
   |true=>rfl
   |false=>
    have hmn:mode≠3:=fun h=>by rw [h]at hm;cases hm
    cases hc:ltI 0 (0 + (cmC xs:Int))with
    |true=>rfl
    |false=>
     have h0:=aw.1 hc
     have:=g3 hmn (by omega)
     simp only [cond_false]
     rw [hT]
     exact beq_iff_eq.2 this
end Go.SX
