/- What functions of the program come to, and what that says in plain words: part 2. -/
import Derived.Test.YtbajbgcdcaknpaaGreatDoorMa
import Derived.Test.YtbajbgcdcaknpaaGreatDoorTXh
import Derived.Test.YtbajbgcdcaknpaaGreatDoorProg
import Derived.Test.YtbajbgcdcaknpaaGreatDoorTXk
set_option linter.unusedSimpArgs false
set_option linter.unusedVariables false
namespace Go.SX
open Go.Proofs Go.Proofs.Tryz
set_option maxRecDepth 100000
def aiY(n:Int)(ps:List Int)(rs:List (List Int))(b:Nat):Bool:=bif !ac n (b:Int) ps then !Hu (rs[b]?.getD [])else false
def SA(n:Int)(ps:List Int)(fs:List (Int×Int×Int))(rs:List (List Int))(lf:List (Int×Int×Int))(mode:Int)(pl ls:List (Int×Int))(day:Int):Bool:=kO n ps fs rs lf mode pl ls day&&(aa6 n ps&& !(List.range rs.length).any (aiY n ps rs))
theorem Ha(x:Option (List Int)):Option.getD x (DA (CTy.sl (2:TypeId) ajn))=x.getD []:=rfl
theorem awm(n mode day:Int)(ps:List Int)(fs:List (Int×Int×Int))(rs:List (List Int))(lf:List (Int×Int×Int))(pl ls:List (Int×Int))(hl:rs.length=ps.length)(hn:rs.length≤9223372036854775807)(hA: ∀ x∈rs,x.length≤9223372036854775807):
  eq.fin ((0:Int),(rs.length:Int),rs,n,mode,day,ps,fs,lf,pl,ls)=true∧(eq.res ((0:Int),(rs.length:Int),rs,n,mode,day,ps,fs,lf,pl,ls)).1=bif(List.range rs.length).any (aiY n ps rs)then 0 else 1:=by
 refine Lp.scan eq (fun b=>((b:Int),(rs.length:Int),rs,n,mode,day,ps,fs,lf,pl,ls)) rs.length (aiY n ps rs) 1 (by simp only [eq];omega) (fun b hb=> ?_) ?_
 ·have bW:ltI (b:Int) (rs.length:Int)=true:=du (by omega)
  have hdec2:ltI (b:Int) (ps.length:Int)=true:=du (by omega)
  have hw:IntKind.i64.wrap ((b:Int) + 1)=((b + 1:Nat):Int):=by rw [aw (by omega) (by omega)];omega
  have pY:leI (0:Int) (b:Int)=true:=ct (by omega)
  have dw:ltN b rs.length=true:=ec (by omega)
  have hltd2:ltN b ps.length=true:=ec (by omega)
  have hx:rs[b]? =some rs[b]:=List.getElem?_eq_getElem hb
  have hm:rs[b]∈rs:=List.getElem_mem hb
  have h6:leN (CU (b:Int) rs).length 9223372036854775807=true:=bY (by
   simp only [CU,Int.toNat_natCast,Ha,hx,Option.getD_some]
   exact hA _ hm)
  have i2:ST (b:Int) rs n ps=aiY n ps rs b:=by
   simp only [ST,CU,Int.toNat_natCast,Ha,aiY]
  refine⟨?_,?_,?_⟩
  ·simp [eq,Db,LT.nds,allT,LO,aax,aay,aaz,aaA,aaB,bq,bW,hdec2,pY,dw,hltd2,h6]
  ·simp [eq,Db,LT.each,aaC,hw]
  ·simp only [eq,Db,LT.fn,LO,bW,i2,cond_true]
 ·simp [eq,Db,LT.out,LO]
theorem aqb(n mode day:Int)(ps:List Int)(fs:List (Int×Int×Int))(rs:List (List Int))(lf:List (Int×Int×Int))(pl ls:List (Int×Int))(h:rV 9223372036854775807 ps fs rs lf pl ls=true):
  YF n mode day ps fs rs lf pl ls=SA n ps fs rs lf mode pl ls day∧YG n mode day ps fs rs lf pl ls=true:=by
 obtain⟨h1,h2,⟨h3,h4⟩,h5,h6,h7⟩:=TO.1 h
 simp only [YF,YG,WU,WV,SA,h,allT]
 cases ho:kO n ps fs rs lf mode pl ls day with
 |false=>simp
 |true=>
  obtain⟨o1,o2,o3,o4,o5,o6,o7,o8,o9⟩:=alK.1 ho
  obtain⟨w1,w2⟩:=awm n mode day ps fs rs lf pl ls o3 h3 h4
  rw [w1,w2,o1]
  cases aa6 n ps <;> cases (List.range rs.length).any (aiY n ps rs) <;> simp [Nat.beq]
def agc:List SV→List Entry→Option Out
 | [.one ⟨true,[.val (.int .i64 x0),.ref 0,.ref 1,.ref 2,.ref 3,.val (.int .i64 x1),.ref 4,.ref 5,.val (.int .i64 x2)]⟩],[.row false 2 (.int .i64) x3,.row false 169 (.pair (.int .i64) (.pair (.int .i64) (.int .i64))) x4,.row false 24 (.sl 2 (.int .i64)) x5,.row false 100 (.pair (.int .i64) (.pair (.int .i64) (.int .i64))) x6,.row false 173 (.pair (.int .i64) (.int .i64)) x7,.row false 176 (.pair (.int .i64) (.int .i64)) x8]=>some ⟨.one ⟨false,[.val (.bool (SA x0 x3 x4 x5 x6 x1 x7 x8 x2))]⟩,[.row false 2 ajn x3,.row false 169 adk x4,.row false 24 (CTy.sl (2:TypeId) ajn) x5,.row false 100 adk x6,.row false 173 aiq x7,.row false 176 aiq x8],[],[rV 9223372036854775807 x3 x4 x5 x6 x7 x8]⟩
 |_,_=>none
def GO:PF prog:=PF.alt apu agc (by
 intro args es o h bz;unfold agc at h;split at h
 ·rename_i x0 x1 x2 x3 x4 x5 x6 x7 x8
  cases h
  have bz:=fM bz
  have hh:=aqb x0 x1 x2 x3 x4 x5 x6 x7 x8 bz
  obtain⟨e0,en⟩:=hh
  exact jK rfl (fj en) (by simp only [e0] <;> rfl) rfl rfl
 ·cases h)
abbrev lh:=Int×Int×List Int×List Int
section
variable (y0 y1:Int)(y2 y3:List Int)
def xA:Int:=Option.getD y2[Int.toNat y0]? (0:Int)
def Ff:Bool:=ltI y0 y1
def yZ:Bool:=leI (0:Int) y0
def Fg:Bool:=ltI y0 (↑y2.length:Int)
def Fh:Bool:=ltN y0.toNat y2.length
def Fi:Bool:=ltI y0 (↑y3.length:Int)
def Fj:Bool:=ltN y0.toNat y3.length
def Fk:Int:=IntKind.wrap .i64 (y0 + (1:Int))
def Fl:List Int:=List.set y3 y0.toNat (an1 (1:Int) (xA y0 y2) (1:Int) (xA y0 y2))
end
def ajI:lh→List (Nat×SV)
 |(y0,y1,_,_)=> [(17,(.one ⟨false,[.val (.int .i64 y0)]⟩)),(16,(.one ⟨false,[.val (.int .i64 y1)]⟩)),(15,(.one ⟨false,[.ref 0]⟩)),(5,(.one ⟨false,[.ref 1]⟩))]
def ajz:lh→List (Nat×Entry)
 |(_,_,y2,y3)=> [(0,(.row true 2 ajn y2)),(1,(.row true 2 ajn y3))]
def aj1:Nat→lh→List (Nat×SV)
 |_,(_,_,_,_)=> []
def ajS:Nat→lh→List (Nat×Entry)
 |_,(_,_,y2,y3)=> [(0,(.row true 2 ajn y2)),(1,(.row true 2 ajn y3))]
def Dd:lh→LT lh
 |(y0,y1,y2,y3)=> .ite (Ff y0 y1) (.need [yZ y0,Fg y0 y2,Fh y0 y2] (.need [yZ y0,Fi y0 y3,Fj y0 y3] (.nrm ((Fk y0),y1,y2,(Fl y0 y2 y3)) [(0,0),(1,1)]))) (.ext 0 [(0,0),(1,1)])
def Rb(s:St):Option lh:=
 (match s.look 17 with
 |some ⟨none,.one ⟨false,[.val (.int .i64 y0)]⟩⟩=>
 (match s.look 16 with
 |some ⟨none,.one ⟨false,[.val (.int .i64 y1)]⟩⟩=>
 (match s.look 15 with
 |some ⟨none,.one ⟨false,[.ref 640]⟩⟩=>
 (match s.look 5 with
 |some ⟨none,.one ⟨false,[.ref 448]⟩⟩=>
 (match s.ent 640 with
 |some (.row true 2 (.int .i64) y2)=>
 (match s.ent 448 with
 |some (.row true 2 (.int .i64) y3)=>
 some (y0,y1,y2,y3)
 |_=>none)
 |_=>none)
 |_=>none)
 |_=>none)
 |_=>none)
 |_=>none)
def et:Lp lh where
 h:=⟨[18,19,20,21,6,7,22,23,24,25,26,27,17],[0,1],[],[]⟩
 JL:=ajI
 JE:=ajz
 XL:=aj1
 XE:=ajS
 q:=fun j=>match j with | _=> .exit 0
 tags:= [0]
 lt:=Dd
 fuel:=fun(y0,y1,y2,y3)=>y0.natAbs + y1.natAbs + y2.length + y3.length
 fix:=fun(_,y1,y2,_) (y0,_,_,y3)=>(y0,y1,y2,y3)
 σ:= [(0,640),(1,448)]
 rd:=Rb
theorem ahf:LoopOk prog (fun k=>Nat.blt k Tryz.f202.ntmps) et.F (aK f202 0):=by
 refine Lp.ok (tbl:= [ay,PF.lend ay,PF.fz ay,aU,PF.lend aU,PF.fz aU]) (lf:= []) aO et (by kernel_rfl) (LOk.nil _) (fun _=>rfl) (fun _ _=>rfl) ?_ ?_ ?_ ?_ (fun _=>rfl) ?_
 ·rintro⟨y0,y1,y2,y3⟩;kernel_rfl
 ·rintro⟨y0,y1,y2,y3⟩;kernel_rfl
 ·intro s x h
  have h:Rb s=some x:=h
  unfold Rb at h
  repeat' split at h
  all_goals cases h
  exact⟨aa (by assumption) rfl (aa (by assumption) rfl (aa (by assumption) rfl (aa (by assumption) rfl (rfl)))),ab rfl (by assumption) rfl (ab rfl (by assumption) rfl (rfl))⟩
 ·rintro⟨y0,y1,y2,y3⟩;kernel_rfl
 ·rintro⟨y0,y1,y2,y3⟩ z;exact(And.intro rfl trivial)
abbrev li:=Int×Int×List (Int×(Int×Int))×List Int×List Int
section
variable (y0 y1:Int)(y2:List (Int×(Int×Int)))(y3 y4:List Int)
def eo:Int×Int×Int:=Option.getD y2[Int.toNat y0]? ((0:Int),(0:Int),(0:Int))
def hZ:Bool:=((eo y0 y2).2).1==(0:Int)
def xB:Bool:=leI (0:Int) ((eo y0 y2).1)
def Fm:Bool:=ltI y0 y1
def Fo:Bool:=leI (0:Int) y0
def Fp:Bool:=ltI y0 (↑y2.length:Int)
def Fq:Bool:=ltN y0.toNat y2.length
def Fr:Bool:= !hZ y0 y2||xB y0 y2
def Fs:Bool:= !hZ y0 y2||ltI ((eo y0 y2).1) (↑y3.length:Int)
def Ft:Bool:= !hZ y0 y2||ltN (Int.toNat ((eo y0 y2).1)) y3.length
def Fu:Bool:=hZ y0 y2||xB y0 y2
def Fv:Bool:=hZ y0 y2||ltI ((eo y0 y2).1) (↑y4.length:Int)
def Fw:Bool:=hZ y0 y2||ltN (Int.toNat ((eo y0 y2).1)) y4.length
def CV:Int:=IntKind.wrap .i64 (y0 + (1:Int))
def CW:List Int:=bif hZ y0 y2 then List.set y3 (Int.toNat ((eo y0 y2).1)) ((eo y0 y2).2.2)else y3
def CX:List Int:=bif hZ y0 y2 then y4 else List.set y4 (Int.toNat ((eo y0 y2).1)) ((eo y0 y2).2.2)
end
def ajJ:li→List (Nat×SV)
 |(y0,y1,_,_,_)=> [(34,(.one ⟨false,[.val (.int .i64 y0)]⟩)),(33,(.one ⟨false,[.val (.int .i64 y1)]⟩)),(32,(.one ⟨false,[.ref 0]⟩)),(8,(.one ⟨false,[.ptr 1 0]⟩))]
def ajA:li→List (Nat×Entry)
 |(_,_,y2,y3,y4)=> [(0,(.row false 169 adk y2)),(1,(.box 130 [.ref 2,.ref 3])),(2,(.row true 2 ajn y3)),(3,(.row true 2 ajn y4))]
def aj2:Nat→li→List (Nat×SV)
 |_,(_,_,_,_,_)=> []
def ajT:Nat→li→List (Nat×Entry)
 |_,(_,_,y2,y3,y4)=> [(0,(.row false 169 adk y2)),(1,(.box 130 [.ref 2,.ref 3])),(2,(.row true 2 ajn y3)),(3,(.row true 2 ajn y4))]
def De:li→LT li
 |(y0,y1,y2,y3,y4)=> .ite (Fm y0 y1) (.need [Fo y0,Fp y0 y2,Fq y0 y2] (.need [Fr y0 y2,Fs y0 y2 y3,Ft y0 y2 y3,Fu y0 y2,Fv y0 y2 y4,Fw y0 y2 y4] (.nrm ((CV y0),y1,y2,CW y0 y2 y3,(CX y0 y2 y4)) [(0,0),(1,1),(2,2),(3,3)]))) (.ext 0 [(0,0),(1,1),(2,2),(3,3)])
def Rc(s:St):Option li:=
 (match s.look 34 with
 |some ⟨none,.one ⟨false,[.val (.int .i64 y0)]⟩⟩=>
 (match s.look 33 with
 |some ⟨none,.one ⟨false,[.val (.int .i64 y1)]⟩⟩=>
 (match s.look 32 with
 |some ⟨none,.one ⟨false,[.ref 1]⟩⟩=>
 (match s.look 8 with
 |some ⟨none,.one ⟨false,[.ptr 1152 0]⟩⟩=>
 (match s.ent 1 with
 |some (.row false 169 (.pair (.int .i64) (.pair (.int .i64) (.int .i64))) y2)=>
 (match s.ent 1152 with
 |some (.box 130 [.ref 448,.ref 1024])=>
 (match s.ent 448 with
 |some (.row true 2 (.int .i64) y3)=>
 (match s.ent 1024 with
 |some (.row true 2 (.int .i64) y4)=>
 some (y0,y1,y2,y3,y4)
 |_=>none)
 |_=>none)
 |_=>none)
 |_=>none)
 |_=>none)
 |_=>none)
 |_=>none)
 |_=>none)
def eu:Lp li where
 h:=⟨[35,36,37,10,38,39,40,41,42,43,44,45,46,47,48,49,50,51,52,53,54,55,34],[0,1,2,3],[],[]⟩
 JL:=ajJ
 JE:=ajA
 XL:=aj2
 XE:=ajT
 q:=fun j=>match j with | _=> .exit 2
 tags:= [0]
 lt:=De
 fuel:=fun(y0,y1,y2,y3,y4)=>y0.natAbs + y1.natAbs + y2.length + y3.length + y4.length
 fix:=fun(_,y1,y2,_,_) (y0,_,_,y3,y4)=>(y0,y1,y2,y3,y4)
 σ:= [(0,1),(1,1152),(2,448),(3,1024)]
 rd:=Rc
theorem ahg:LoopOk prog (fun k=>Nat.blt k Tryz.f202.ntmps) eu.F (aK f202 1):=by
 refine Lp.ok (tbl:= [ay,PF.lend ay,PF.fz ay,aU,PF.lend aU,PF.fz aU]) (lf:= []) aO eu (by kernel_rfl) (LOk.nil _) (fun _=>rfl) (fun _ _=>rfl) ?_ ?_ ?_ ?_ (fun _=>rfl) ?_
 ·rintro⟨y0,y1,y2,y3,y4⟩;kernel_rfl
 ·rintro⟨y0,y1,y2,y3,y4⟩;kernel_rfl
 ·intro s x h
  have h:Rc s=some x:=h
  unfold Rc at h
  repeat' split at h
  all_goals cases h
  exact⟨aa (by assumption) rfl (aa (by assumption) rfl (aa (by assumption) rfl (aa (by assumption) rfl (rfl)))),ab rfl (by assumption) rfl (ab rfl (by assumption) rfl (ab rfl (by assumption) rfl (ab rfl (by assumption) rfl (rfl))))⟩
 ·rintro⟨y0,y1,y2,y3,y4⟩;kernel_rfl
 ·rintro⟨y0,y1,y2,y3,y4⟩ z;exact(And.intro rfl trivial)
section
variable (x0:Int)(x1:List Int)(x2:List (Int×Int×Int))
def QA:Int×Int×List Int×List Int:=((0:Int),(↑(List.length (pE x0 x1)):Int),pE x0 x1,List.replicate x0.toNat (0:Int))
def Ef:List Int:=(Lp.res et (QA x0 x1)).2.2.2.2
def Kb:Int×Int×List (Int×Int×Int)×List Int×List Int:=((0:Int),(↑x2.length:Int),x2,Ef x0 x1,Ef x0 x1)
def QB:List Int×List Int:=(Lp.res eu (Kb x0 x1 x2)).2.2.2.2
def YP:List Int:=(QB x0 x1 x2).1
def YQ:List Int:=(QB x0 x1 x2).2
def YR:Bool:=allT [leI (0:Int) x0,leI x0 x0,leI ((↑(8:Nat):Int) * x0) (281474976710656:Int),leI x0 (9223372036854775807:Int),isT x0 x1,Lp.fin et (QA x0 x1),leN (1:Nat) (List.length (Ef x0 x1))&&leN (List.length (Ef x0 x1)) (1048576:Nat),Lp.fin eu (Kb x0 x1 x2)]
end
def af4:List SV→List Entry→Option Out
 | [.one ⟨true,[.val (.int .i64 x0),.ref 0]⟩,.one ⟨false,[.ref 1]⟩],[.row false 2 (.int .i64) x1,.row false 169 (.pair (.int .i64) (.pair (.int .i64) (.int .i64))) x2]=>some ⟨.one ⟨true,[.ref 2,.ref 3]⟩,[.row false 2 ajn x1,.row false 169 adk x2],[.row true 2 ajn (YP x0 x1 x2),.row true 2 ajn (YQ x0 x1 x2)],[YR x0 x1 x2]⟩
 |_,_=>none
def apw:PF prog:=PF.ofG prog [ay,PF.lend ay,PF.fz ay,aU,PF.lend aU,PF.fz aU] [et.F,eu.F] aO 202 f202 func202 (LOk.fnT (l:= [aK f202 0,aK f202 1]) (by kernel_rfl) (.cons ahf (.cons ahg (.nil _)))) af4 (by
 intro vs es r h;unfold af4 at h;split at h
 ·cases h;kernel_rfl
 ·cases h)
section
variable (x0:Int)(x1 x2:List Int)
def eX:Bool:=Option.getD x1[Int.toNat x0]? (0:Int)==(0:Int)
def nT:Bool:=bif eX x0 x1 then Option.getD x2[Int.toNat x0]? (0:Int)==(0:Int)else false
def nU:Bool:=allT [leI (0:Int) x0,ltI x0 (↑x1.length:Int),ltN x0.toNat x1.length,!(eX x0 x1&&true)||leI (0:Int) x0,!(eX x0 x1&&true)||ltI x0 (↑x2.length:Int),!(eX x0 x1&&true)||ltN x0.toNat x2.length]
end
def xJ:List SV→List Entry→Option Out
 | [.one ⟨true,[.ref 0,.ref 1]⟩,.one ⟨false,[.val (.int .i64 x0)]⟩],[.row false 2 (.int .i64) x1,.row false 2 (.int .i64) x2]=>some ⟨.one ⟨false,[.val (.bool (nT x0 x1 x2))]⟩,[.row false 2 ajn x1,.row false 2 ajn x2],[],[nU x0 x1 x2]⟩
 |_,_=>none
def od:PF prog:=PF.ofG prog [] [] aO 233 f233 func233 (fun c _=>LOk.nil c) xJ (by
 intro vs es r h;unfold xJ at h;split at h
 ·cases h;kernel_rfl
 ·cases h)
section
variable (x0 x1:Int)(x2 x3 x4:List Int)
def jl:Int:=Option.getD x4[Int.toNat x1]? (0:Int)
def eY:Bool:=Int.tmod (jl x1 x4) (3:Int)!=(1:Int)
def jm:Int:=Int.tmod (IntKind.wrap .i64 (IntKind.wrap .i64 (Int.tdiv (jl x1 x4) (3:Int)) + (1:Int))) x0
def nV:Bool:=bif eY x1 x4 then true else nT (jm x0 x1 x4) x2 x3
def nW:Bool:=allT [leI (0:Int) x1,ltI x1 (↑x4.length:Int),ltN x1.toNat x4.length,!(!eY x1 x4&&true)||neI (3:Int) (0:Int),!(!eY x1 x4&&true)||neI x0 (0:Int),!(!eY x1 x4&&true)||nU (jm x0 x1 x4) x2 x3]
end
def xK:List SV→List Entry→Option Out
 | [.one ⟨true,[.ref 0,.ref 1]⟩,.one ⟨true,[.val (.int .i64 x0),.ref 2]⟩,.one ⟨false,[.val (.int .i64 x1)]⟩],[.row false 2 (.int .i64) x2,.row false 2 (.int .i64) x3,.row false 2 (.int .i64) x4]=>some ⟨.one ⟨false,[.val (.bool (nV x0 x1 x2 x3 x4))]⟩,[.row false 2 ajn x2,.row false 2 ajn x3,.row false 2 ajn x4],[],[nW x0 x1 x2 x3 x4]⟩
 |_,_=>none
def MR:PF prog:=PF.ofG prog [od,PF.lend od,PF.fz od] [] aO 203 f203 func203 (fun c _=>LOk.nil c) xK (by
 intro vs es r h;unfold xK at h;split at h
 ·cases h;kernel_rfl
 ·cases h)
section
variable (x0 x1:Int)(x2 x3 x4:List Int)
def Mq:Int:=Option.getD x2[Int.toNat x1]? (0:Int)
def uo:Bool:=Int.tmod (Mq x1 x2) (3:Int)!=(1:Int)
def nH:Int:=Int.tmod (IntKind.wrap .i64 (IntKind.wrap .i64 (Int.tdiv (Mq x1 x2) (3:Int)) + (1:Int))) x0
def Tz:Bool:= !(!uo x1 x2&&true)||leI (0:Int) (nH x0 x1 x2)
def VJ:Bool:=bif uo x1 x2 then true else IntKind.wrap .i64 (Option.getD x3[Int.toNat (nH x0 x1 x2)]? (0:Int) + Option.getD x4[Int.toNat (nH x0 x1 x2)]? (0:Int))==(0:Int)
def VK:Bool:=allT [leI (0:Int) x1,ltI x1 (↑x2.length:Int),ltN x1.toNat x2.length,neI x0 (0:Int),leI (0:Int) x1,ltI x1 (↑x2.length:Int),ltN x1.toNat x2.length,Tz x0 x1 x2,!(!uo x1 x2&&true)||ltI (nH x0 x1 x2) (↑x3.length:Int),!(!uo x1 x2&&true)||ltN (Int.toNat (nH x0 x1 x2)) x3.length,Tz x0 x1 x2,!(!uo x1 x2&&true)||ltI (nH x0 x1 x2) (↑x4.length:Int),!(!uo x1 x2&&true)||ltN (Int.toNat (nH x0 x1 x2)) x4.length]
end
def acb:List SV→List Entry→Option Out
 | [.one ⟨true,[.val (.int .i64 x0),.ref 0]⟩,.one ⟨true,[.ref 1,.ref 2]⟩,.one ⟨false,[.val (.int .i64 x1)]⟩],[.row false 2 (.int .i64) x2,.row false 2 (.int .i64) x3,.row false 2 (.int .i64) x4]=>some ⟨.one ⟨false,[.val (.bool (VJ x0 x1 x2 x3 x4))]⟩,[.row false 2 ajn x2,.row false 2 ajn x3,.row false 2 ajn x4],[],[VK x0 x1 x2 x3 x4]⟩
 |_,_=>none
def anh:PF prog:=PF.ofG prog [] [] aO 221 f221 func221 (fun c _=>LOk.nil c) acb (by
 intro vs es r h;unfold acb at h;split at h
 ·cases h;kernel_rfl
 ·cases h)
abbrev jy:=Int×Int×List Int×List Int
section
variable (y0 y1:Int)(y2 y3:List Int)
def po:List Int:= [an1 (↑(Uv y1 y3 y0):Int) (1:Int) (↑(Uv y1 y3 y0):Int) (1:Int)]
def Bj:Bool:=ltI y0 y1
def Bk:Bool:=isT y1 y3
def Bl:Bool:=leN (List.length y2 + List.length (po y0 y1 y3)) (9223372036854775807:Nat)
def Bm:Bool:=leN ((List.length y2 + List.length (po y0 y1 y3)) * (8:Nat)) (140737488355328:Nat)
def Bn:Int:=IntKind.wrap .i64 (y0 + (1:Int))
def Bo:List Int:=y2++po y0 y1 y3
end
def agN:jy→List (Nat×SV)
 |(y0,_,_,_)=> [(8,(.one ⟨false,[.val (.int .i64 y0)]⟩)),(3,(.one ⟨false,[.ptr 0 0]⟩)),(7,(.one ⟨false,[.ref 1]⟩))]
def agD:jy→List (Nat×Entry)
 |(_,y1,y2,y3)=> [(0,(.box 26 [.val (.int .i64 y1),.ref 2])),(2,(.row false 2 ajn y3)),(1,(.row true 2 ajn y2))]
def ag7:Nat→jy→List (Nat×SV)
 |_,(_,_,_,_)=> [(7,(.one ⟨false,[.ref 1]⟩))]
def agX:Nat→jy→List (Nat×Entry)
 |_,(_,y1,y2,y3)=> [(0,(.box 26 [.val (.int .i64 y1),.ref 2])),(1,(.row true 2 ajn y2)),(2,(.row false 2 ajn y3))]
def yI:jy→LT jy
 |(y0,y1,y2,y3)=> .ite (Bj y0 y1) (.need [Bk y1 y3,Bl y0 y1 y2 y3,Bm y0 y1 y2 y3] (.nrm ((Bn y0),y1,Bo y0 y1 y2 y3,y3) [(0,0),(1,704),(2,2)])) (.ext 0 [(0,0),(1,1),(2,2)])
def NQ(s:St):Option jy:=
 (match s.look 8 with
 |some ⟨none,.one ⟨false,[.val (.int .i64 y0)]⟩⟩=>
 (match s.look 3 with
 |some ⟨none,.one ⟨false,[.ptr 192 0]⟩⟩=>
 (match s.look 7 with
 |some ⟨none,.one ⟨false,[.ref 320]⟩⟩=>
 (match s.ent 192 with
 |some (.box 26 [.val (.int .i64 y1),.ref 0])=>
 (match s.ent 0 with
 |some (.row false 2 (.int .i64) y3)=>
 (match s.ent 320 with
 |some (.row true 2 (.int .i64) y2)=>
 some (y0,y1,y2,y3)
 |_=>none)
 |_=>none)
 |_=>none)
 |_=>none)
 |_=>none)
 |_=>none)
def cv:Lp jy where
 h:=⟨[11,12,13,14,17,18,19,20,21,22,23,7,15,16,8],[0,2],[1],[]⟩
 JL:=agN
 JE:=agD
 XL:=ag7
 XE:=agX
 q:=fun j=>match j with | _=> .exit 0
 tags:= [0]
 lt:=yI
 fuel:=fun(y0,y1,y2,y3)=>y0.natAbs + y1.natAbs + y2.length + y3.length
 fix:=fun(_,y1,_,y3) (y0,_,y2,_)=>(y0,y1,y2,y3)
 σ:= [(0,192),(2,0),(1,320)]
 rd:=NQ
theorem aeP:LoopOk prog (fun k=>Nat.blt k Tryz.f238.ntmps) cv.F (aK f238 0):=by
 refine Lp.ok (tbl:= [tX,PF.lend tX,PF.fz tX]) (lf:= []) aO cv (by kernel_rfl) (LOk.nil _) (fun _=>rfl) (fun _ _=>rfl) ?_ ?_ ?_ ?_ (fun _=>rfl) ?_
 ·rintro⟨y0,y1,y2,y3⟩;kernel_rfl
 ·rintro⟨y0,y1,y2,y3⟩;kernel_rfl
 ·intro s x h
  have h:NQ s=some x:=h
  unfold NQ at h
  repeat' split at h
  all_goals cases h
  exact⟨aa (by assumption) rfl (aa (by assumption) rfl (aa (by assumption) rfl (rfl))),ab rfl (by assumption) rfl (ab rfl (by assumption) rfl (ab rfl (by assumption) rfl (rfl)))⟩
 ·rintro⟨y0,y1,y2,y3⟩;kernel_rfl
 ·rintro⟨y0,y1,y2,y3⟩ z;exact(And.intro rfl trivial)
abbrev jz:=Int×Int×List (Int×(Int×Int))×List Int
section
variable (y0 y1:Int)(y2:List (Int×(Int×Int)))(y3:List Int)
def iO:Int×Int×Int:=Option.getD y2[Int.toNat y0]? ((0:Int),(0:Int),(0:Int))
def gA:Bool:=((iO y0 y2).2).1==y1
def vi:Bool:=ltI y0 (↑y2.length:Int)
def Bp:Bool:=leI (0:Int) y0
def Bq:Bool:=ltN y0.toNat y2.length
def vj:Bool:= !gA y0 y1 y2||leI (0:Int) y0
def vk:Bool:= !gA y0 y1 y2||ltI y0 (↑y2.length:Int)
def vl:Bool:= !gA y0 y1 y2||ltN y0.toNat y2.length
def Br:Bool:= !gA y0 y1 y2||leI (0:Int) ((iO y0 y2).1)
def Bs:Bool:= !gA y0 y1 y2||ltI ((iO y0 y2).1) (↑y3.length:Int)
def Bt:Bool:= !gA y0 y1 y2||ltN (Int.toNat ((iO y0 y2).1)) y3.length
def Bu:Int:=IntKind.wrap .i64 (y0 + (1:Int))
def yO:List Int:=bif gA y0 y1 y2 then List.set y3 (Int.toNat ((iO y0 y2).1)) ((iO y0 y2).2.2)else y3
end
def agO:jz→List (Nat×SV)
 |(y0,y1,_,_)=> [(9,(.one ⟨false,[.val (.int .i64 y0)]⟩)),(1,(.one ⟨false,[.ref 0]⟩)),(2,(.one ⟨false,[.val (.int .i64 y1)]⟩)),(7,(.one ⟨false,[.ref 1]⟩))]
def agE:jz→List (Nat×Entry)
 |(_,_,y2,y3)=> [(0,(.row false 169 adk y2)),(1,(.row true 2 ajn y3))]
def ag8:Nat→jz→List (Nat×SV)
 |_,(_,_,_,_)=> []
def agY:Nat→jz→List (Nat×Entry)
 |_,(_,_,y2,y3)=> [(0,(.row false 169 adk y2)),(1,(.row true 2 ajn y3))]
def yJ:jz→LT jz
 |(y0,y1,y2,y3)=> .ite (vi y0 y2) (.need [Bp y0,vi y0 y2,Bq y0 y2] (.need [vj y0 y1 y2,vk y0 y1 y2,vl y0 y1 y2,vj y0 y1 y2,vk y0 y1 y2,vl y0 y1 y2,Br y0 y1 y2,Bs y0 y1 y2 y3,Bt y0 y1 y2 y3] (.nrm ((Bu y0),y1,y2,(yO y0 y1 y2 y3)) [(0,0),(1,1)]))) (.ext 0 [(0,0),(1,1)])
def NR(s:St):Option jz:=
 (match s.look 9 with
 |some ⟨none,.one ⟨false,[.val (.int .i64 y0)]⟩⟩=>
 (match s.look 1 with
 |some ⟨none,.one ⟨false,[.ref 1]⟩⟩=>
 (match s.look 2 with
 |some ⟨none,.one ⟨false,[.val (.int .i64 y1)]⟩⟩=>
 (match s.look 7 with
 |some ⟨none,.one ⟨false,[.ref 512]⟩⟩=>
 (match s.ent 1 with
 |some (.row false 169 (.pair (.int .i64) (.pair (.int .i64) (.int .i64))) y2)=>
 (match s.ent 512 with
 |some (.row true 2 (.int .i64) y3)=>
 some (y0,y1,y2,y3)
 |_=>none)
 |_=>none)
 |_=>none)
 |_=>none)
 |_=>none)
 |_=>none)
def cY:Lp jz where
 h:=⟨[24,25,26,27,30,31,32,33,34,35,36,37,38,39,40,41,42,43,44,45,46,47,48,28,29,9],[0,1],[],[]⟩
 JL:=agO
 JE:=agE
 XL:=ag8
 XE:=agY
 q:=fun j=>match j with | _=> .exit 2
 tags:= [0]
 lt:=yJ
 fuel:=fun(y0,y1,y2,y3)=>y0.natAbs + y1.natAbs + y2.length + y3.length
 fix:=fun(_,y1,y2,_) (y0,_,_,y3)=>(y0,y1,y2,y3)
 σ:= [(0,1),(1,512)]
 rd:=NR
theorem aeQ:LoopOk prog (fun k=>Nat.blt k Tryz.f238.ntmps) cY.F (aK f238 1):=by
 refine Lp.ok (tbl:= [tX,PF.lend tX,PF.fz tX]) (lf:= []) aO cY (by kernel_rfl) (LOk.nil _) (fun _=>rfl) (fun _ _=>rfl) ?_ ?_ ?_ ?_ (fun _=>rfl) ?_
 ·rintro⟨y0,y1,y2,y3⟩;kernel_rfl
 ·rintro⟨y0,y1,y2,y3⟩;kernel_rfl
 ·intro s x h
  have h:NR s=some x:=h
  unfold NR at h
  repeat' split at h
  all_goals cases h
  exact⟨aa (by assumption) rfl (aa (by assumption) rfl (aa (by assumption) rfl (aa (by assumption) rfl (rfl)))),ab rfl (by assumption) rfl (ab rfl (by assumption) rfl (rfl))⟩
 ·rintro⟨y0,y1,y2,y3⟩;kernel_rfl
 ·rintro⟨y0,y1,y2,y3⟩ z;exact(And.intro rfl trivial)
section
variable (x0 x1:Int)(x2:List Int)(x3:List (Int×Int×Int))
def Ga:Int×Int×List Int×List Int:=((0:Int),x0,[],x2)
def Gb:Int×Int×List (Int×Int×Int)×List Int:=((0:Int),x1,x3,((Lp.res cv (Ga x0 x2)).2.2.2).1)
def HL:List Int:=(Lp.res cY (Gb x0 x1 x2 x3)).2.2.2.2
def HM:Bool:=allT [Lp.fin cv (Ga x0 x2),Lp.fin cY (Gb x0 x1 x2 x3)]
end
def aca:List SV→List Entry→Option Out
 | [.one ⟨true,[.val (.int .i64 x0),.ref 0]⟩,.one ⟨false,[.ref 1]⟩,.one ⟨false,[.val (.int .i64 x1)]⟩],[.row false 2 (.int .i64) x2,.row false 169 (.pair (.int .i64) (.pair (.int .i64) (.int .i64))) x3]=>some ⟨.one ⟨false,[.ref 2]⟩,[.row false 2 ajn x2,.row false 169 adk x3],[.row true 2 ajn (HL x0 x1 x2 x3)],[HM x0 x1 x2 x3]⟩
 |_,_=>none
def Va:PF prog:=PF.ofG prog [tX,PF.lend tX,PF.fz tX] [cv.F,cY.F] aO 238 f238 func238 (LOk.fnT (l:= [aK f238 0,aK f238 1]) (by kernel_rfl) (.cons aeP (.cons aeQ (.nil _)))) aca (by
 intro vs es r h;unfold aca at h;split at h
 ·cases h;kernel_rfl
 ·cases h)
section
variable (x0:Int)(x1:List Int)(x2:List (Int×Int×Int))
def afa:List Int:=HL x0 (0:Int) x1 x2
def afb:List Int:=HL x0 (1:Int) x1 x2
def Xt:Bool:=allT [HM x0 (0:Int) x1 x2,HM x0 (1:Int) x1 x2]
end
def adX:List SV→List Entry→Option Out
 | [.one ⟨true,[.val (.int .i64 x0),.ref 0]⟩,.one ⟨false,[.ref 1]⟩],[.row false 2 (.int .i64) x1,.row false 169 (.pair (.int .i64) (.pair (.int .i64) (.int .i64))) x2]=>some ⟨.one ⟨true,[.ref 2,.ref 3]⟩,[.row false 2 ajn x1,.row false 169 adk x2],[.row true 2 ajn (afa x0 x1 x2),.row true 2 ajn (afb x0 x1 x2)],[Xt x0 x1 x2]⟩
 |_,_=>none
def aoq:PF prog:=PF.ofG prog [Va,PF.lend Va,PF.fz Va] [] aO 222 f222 func222 (fun c _=>LOk.nil c) adX (by
 intro vs es r h;unfold adX at h;split at h
 ·cases h;kernel_rfl
 ·cases h)
def occ(c:Int):Int:=bif ltI c 1 then c else 1
def adD(ch:Int)(l:List Int)(f:Int×Int×Int):List Int:=bif f.2.1==ch then l.set f.1.toNat f.2.2 else l
def agk(n:Int)(ps:List Int):List Int:=(List.range n.toNat).map fun(b:Nat)=>occ (Uv n ps (b:Int):Int)
def xR(n:Int)(ps:List Int)(fs:List (Int×Int×Int))(ch:Int):List Int:=fs.foldl (adD ch) (agk n ps)
def atS(n:Int)(a:List Int):Bool:=eqI (a.length:Int) n&&a.all fun v=>inR v 0 1
theorem at1(ch:Int)(l:List Int)(f:Int×Int×Int):(adD ch l f).length=l.length:=by
 unfold adD;cases f.2.1==ch <;> simp
theorem Ut(n:Int)(ps:List Int):(agk n ps).length=n.toNat:=by simp [agk]
theorem WP(ch:Int): ∀ (fs:List (Int×Int×Int)) (l:List Int),(fs.foldl (adD ch) l).length=l.length
 | [],l=>rfl
 |f::fs,l=>by rw [List.foldl_cons,WP ch fs,at1]
theorem asl(n:Int)(ps:List Int)(fs:List (Int×Int×Int))(ch:Int):(xR n ps fs ch).length=n.toNat:=by
 rw [xR,WP,Ut]
theorem avC{n:Int}{fs:List (Int×Int×Int)}(h2:2≤n∧n≤8)(h:okFs n fs=true):fs.length≤8∧ ∀ f∈fs,(0≤f.1∧f.1 < n)∧(f.2.1=0∨f.2.1=1)∧(0≤f.2.2∧f.2.2≤1):=by
 simp only [okFs,Bool.and_eq_true,dT,List.all_eq_true,List.mem_range]at h
 refine⟨h.1,fun f hf=> ?_⟩
 obtain⟨b,hb,rfl⟩:=List.getElem_of_mem hf
 have h3:=h.2 b hb
 simp only [Bool.not_eq_true',Bool.or_eq_false_iff,alB,fAt,List.getElem?_eq_getElem hb,Option.getD_some,Bool.not_eq_false']at h3
 have h4:=h3.1
 simp only [fIn,Bool.and_eq_true,sa]at h4
 rw [aw (by omega) (by omega)]at h4
 omega
def fV(n:Int)(f:Int×Int×Int):Bool:=(leI 0 f.1&&ltI f.1 n)&&((f.2.1==0||f.2.1==1)&&inR f.2.2 0 1)
def an2(n:Int)(fs:List (Int×Int×Int)):Bool:=leN fs.length 1000&&fs.all (fV n)
theorem asC{n:Int}{fs:List (Int×Int×Int)}(h:an2 n fs=true):fs.length≤1000∧ ∀ f∈fs,(0≤f.1∧f.1 < n)∧(f.2.1=0∨f.2.1=1)∧(0≤f.2.2∧f.2.2≤1):=by
 simp only [an2,Bool.and_eq_true,dT,List.all_eq_true]at h
 refine⟨h.1,fun f hf=> ?_⟩
 have h3:=h.2 f hf
 simp only [fV,Bool.and_eq_true,Bool.or_eq_true,beq_iff_eq,sa,Sx,Xz]at h3
 exact h3
theorem axu{n:Int}{fs:List (Int×Int×Int)}(h2:2≤n∧n≤8)(h:okFs n fs=true):an2 n fs=true:=by
 obtain⟨hl,hf⟩:=avC h2 h
 simp only [an2,Bool.and_eq_true,dT,List.all_eq_true]
 refine⟨by omega,fun f hm=> ?_⟩
 simp only [fV,Bool.and_eq_true,Bool.or_eq_true,beq_iff_eq,sa,Sx,Xz]
 exact hf f hm
theorem ZT{B C:Type}(g:B→C): ∀ (r:List B) (a:List C),r.foldl (fun a b=>a++ [g b]) a=a++r.map g
 | [],a=>by simp
 |b::r,a=>by rw [List.foldl_cons,ZT g r];simp
theorem ayE(c:Int):an1 c 1 c 1=occ c:=by simp [occ]
theorem ayF(c:Int):an1 1 c 1 c=occ c:=by
 simp only [amU,occ]
 cases h:ltI 1 c <;> cases h':ltI c 1 <;> simp at h h' ⊢ <;> omega
def nc(y1:Int)(y3:List Int)(b:Nat):(List Int)→Nat ⊕ (List Int)
 |y2=>(.inr (y2++([an1 (↑(Uv y1 y3 (↑b:Int)):Int) (1:Int) (↑(Uv y1 y3 (↑b:Int)):Int) (1:Int)])))
def lZ(y1:Int)(y3:List Int)(i:Nat):(List Int)→jy
 |y2=>((i:Int),y1,y2,y3)
def NG:jy→List Int
 |(_,_,y2,_)=>y2
theorem ajf(y1:Int)(y3 y2:List Int)(hn:y1≤9223372036854775807)(hT:isT y1 y3=true)(h0:y2= []):
  cv.fin ((0:Int),y1,y2,y3)=true∧cv.res ((0:Int),y1,y2,y3)=((aN (nc y1 y3) 0 (List.range y1.toNat) 0 y2).1,(lZ y1 y3) (aN (nc y1 y3) 0 (List.range y1.toNat) 0 y2).2.1 (aN (nc y1 y3) 0 (List.range y1.toNat) 0 y2).2.2):=by
 have cH:=cv.along (lZ y1 y3) NG (nc y1 y3) 0 (fun i a=>a.length≤i) (List.range y1.toNat) y2 (by subst h0;simp) (by simp only [cv,lZ,List.length_range];omega) (fun i b a hb hI=> ?_) (fun a hI=> ?_)
 ·exact cH
 ·obtain y2:=a
  obtain⟨rfl,dd⟩:=qD hb
  have hw:IntKind.i64.wrap ((b:Int) + 1)=((b + 1:Nat):Int):=by rw [aw (by omega) (by omega)];omega
  have bW:ltI (b:Int) y1=true:=du (by omega)
  have pY:leI (0:Int) (b:Int)=true:=ct (by omega)
  refine⟨?_,?_,?_,?_⟩
  ·have h4:=(ya.1 hT).1
   simp [po,Bj,Bk,Bl,Bm,Bn,Bo,yI,cv,LT.nds,allT,lZ,bW,hT]
   omega
  ·simp [po,Bj,Bk,Bl,Bm,Bn,Bo,yI,cv,LT.each,lZ,NG,hw]
  ·simp only [po,Bj,Bk,Bl,Bm,Bn,Bo,yI,cv,LT.fn,lZ,NG,nc,Int.toNat_natCast,bW,pY,cond_true,Bool.cond_self]
  ·intro a' hf;simp only [nc,Sum.inr.injEq]at hf;subst hf;simp;omega
 ·obtain y2:=a
  simp only [po,Bj,Bk,Bl,Bm,Bn,Bo,yI,cv,LT.out,lZ,List.length_range,aeT,aiH,cond_false]
def qR(y1:Int)(b:Int×(Int×Int)):(List Int)→Nat ⊕ (List Int)
 |y3=>(.inr (bif(b.2.1==y1)then List.set y3 (Int.toNat b.1) b.2.2else y3))
def ma(y1:Int)(y2:List (Int×(Int×Int)))(i:Nat):(List Int)→jz
 |y3=>((i:Int),y1,y2,y3)
def NH:jz→List Int
 |(_,_,_,y3)=>y3
theorem ajg(y1:Int)(y2:List (Int×(Int×Int)))(y3:List Int)(hn:y2.length≤9223372036854775807)(n:Nat)(h3:y3.length=n)(hf: ∀ f∈y2,0≤f.1∧f.1 < (n:Int)):
  cY.fin ((0:Int),y1,y2,y3)=true∧cY.res ((0:Int),y1,y2,y3)=((aN (qR y1) 0 y2 0 y3).1,(ma y1 y2) (aN (qR y1) 0 y2 0 y3).2.1 (aN (qR y1) 0 y2 0 y3).2.2):=by
 have cH:=cY.along (ma y1 y2) NH (qR y1) 0 (fun _ a=>a.length=n) y2 y3 h3 (by simp only [cY,ma];omega) (fun i b a hb hI=> ?_) (fun a hI=> ?_)
 ·exact cH
 ·obtain y3:=a
  have dd:=(List.getElem?_eq_some_iff.1 hb).1
  have gc: ∀ d,Option.getD y2[i]? d=b:=fun d=>by rw [hb];rfl
  have hw:=tQ dd hn
  have bW:ltI (i:Int) (y2.length:Int)=true:=du (by omega)
  have pY:leI (0:Int) (i:Int)=true:=ct (by omega)
  have dw:ltN i y2.length=true:=ec dd
  refine⟨?_,?_,?_,?_⟩
  ·have h5:=hf b (List.mem_of_getElem? hb)
   have h6:leI 0 b.1=true:=ct h5.1
   have h7:ltI b.1 (a.length:Int)=true:=du (by omega)
   have h8:ltN b.1.toNat a.length=true:=ec (by omega)
   simp only [iO,gA,vi,Bp,Bq,vj,vk,vl,Br,Bs,Bt,Bu,yO,yJ,cY,LT.nds,allT,ma,Int.toNat_natCast,bW,pY,dw,gc,h6,h7,h8,Bool.or_true,cond_true]
  ·simp [iO,gA,vi,Bp,Bq,vj,vk,vl,Br,Bs,Bt,Bu,yO,yJ,cY,LT.each,ma,NH,hw]
  ·simp only [iO,gA,vi,Bp,Bq,vj,vk,vl,Br,Bs,Bt,Bu,yO,yJ,cY,LT.fn,ma,NH,qR,Int.toNat_natCast,bW,pY,dw,gc,cond_true,Bool.cond_self]
  ·intro a' hf;simp only [qR,Sum.inr.injEq]at hf;subst hf;cases b.2.1==y1 <;> simpa using hI
 ·obtain y3:=a
  simp [iO,gA,vi,Bp,Bq,vj,vk,vl,Br,Bs,Bt,Bu,yO,yJ,cY,LT.out,ma]
theorem apb(n ch:Int)(ps:List Int)(fs:List (Int×Int×Int))(hT:isT n ps=true)(hF:an2 n fs=true):
  HL n ch ps fs=xR n ps fs ch∧HM n ch ps fs=true:=by
 have h2:=(ya.1 hT).1
 obtain⟨hl,hf⟩:=asC hF
 obtain⟨w1,w2⟩:=ajf n ps [] (by omega) hT rfl
 rw [jI (f:=nc n ps) (g:=fun a b=>a++ [occ (Uv n ps ((b:Nat):Int):Int)]) (fun b a=>by simp only [nc,ayE]),ZT]at w2
 have e1:((Lp.res cv (Ga n ps)).2.2.2).1=agk n ps:=by
  simp only [Ga,w2,lZ,List.nil_append];rfl
 obtain⟨v1,v2⟩:=ajg ch fs (agk n ps) (by omega) n.toNat (Ut n ps) (fun f hm=>by have:=(hf f hm).1;omega)
 rw [jI (f:=qR ch) (g:=adD ch) (fun b a=>rfl)]at v2
 refine⟨?_,?_⟩
 ·simp only [HL,Gb,e1,v2,ma];rfl
 ·have v3:Lp.fin cY (Gb n ch ps fs)=true:=by rw [Gb,e1];exact v1
  have w3:Lp.fin cv (Ga n ps)=true:=w1
  simp only [HM,v3,w3,allT,cond_true]
theorem arz(n:Int)(ps:List Int)(fs:List (Int×Int×Int))(h:(isT n ps&&an2 n fs)=true):
  afa n ps fs=xR n ps fs 0∧afb n ps fs=xR n ps fs 1∧Xt n ps fs=true:=by
 simp only [Bool.and_eq_true]at h
 obtain⟨a1,a2⟩:=apb n 0 ps fs h.1 h.2
 obtain⟨b1,b2⟩:=apb n 1 ps fs h.1 h.2
 exact⟨a1,b1,by simp only [Xt,a2,b2,allT,cond_true]⟩
def aee:List SV→List Entry→Option Out
 | [.one ⟨true,[.val (.int .i64 x0),.ref 0]⟩,.one ⟨false,[.ref 1]⟩],[.row false 2 (.int .i64) x1,.row false 169 (.pair (.int .i64) (.pair (.int .i64) (.int .i64))) x2]=>some ⟨.one ⟨true,[.ref 2,.ref 3]⟩,[.row false 2 ajn x1,.row false 169 adk x2],[.row true 2 ajn (xR x0 x1 x2 0),.row true 2 ajn (xR x0 x1 x2 1)],[isT x0 x1&&an2 x0 x2]⟩
 |_,_=>none
def Xi:PF prog:=PF.alt aoq aee (by
 intro args es o h bz;unfold aee at h;split at h
 ·rename_i x0 x1 x2
  cases h
  have bz:=fM bz
  have hh:=arz x0 x1 x2 bz
  obtain⟨e0,e1,en⟩:=hh
  exact jK rfl (fj en) rfl rfl (by simp only [e0,e1] <;> rfl)
 ·cases h)
def qQ(y2:List Int)(b:Nat):(List Int)→Nat ⊕ (List Int)
 |y3=>(.inr (List.set y3 b (an1 (1:Int) (Option.getD y2[b]? (0:Int)) (1:Int) (Option.getD y2[b]? (0:Int)))))
def oP(y2:List Int)(i:Nat):(List Int)→lh
 |y3=>((i:Int),(↑y2.length:Int),y2,y3)
def QT:lh→List Int
 |(_,_,_,y3)=>y3
theorem alY(y2 y3:List Int)(hn:y2.length≤9223372036854775807)(hl:y3.length=y2.length):
  et.fin ((0:Int),(↑y2.length:Int),y2,y3)=true∧et.res ((0:Int),(↑y2.length:Int),y2,y3)=((aN (qQ y2) 0 (List.range y2.length) 0 y3).1,(oP y2) (aN (qQ y2) 0 (List.range y2.length) 0 y3).2.1 (aN (qQ y2) 0 (List.range y2.length) 0 y3).2.2):=by
 have cH:=et.along (oP y2) QT (qQ y2) 0 (fun _ a=>a.length=y2.length) (List.range y2.length) y3 hl (by simp only [et,oP,List.length_range];omega) (fun i b a hb hI=> ?_) (fun a hI=> ?_)
 ·exact cH
 ·obtain y3:=a
  obtain⟨rfl,dd⟩:=qD hb
  have hw:IntKind.i64.wrap ((b:Int) + 1)=((b + 1:Nat):Int):=by rw [aw (by omega) (by omega)];omega
  have bW:ltI (b:Int) (y2.length:Int)=true:=du (by omega)
  have pY:leI (0:Int) (b:Int)=true:=ct (by omega)
  have dw:ltN b y2.length=true:=ec (by omega)
  refine⟨?_,?_,?_,?_⟩
  ·simp [xA,Ff,yZ,Fg,Fh,Fi,Fj,Fk,Fl,Dd,et,LT.nds,allT,oP,bW,pY,dw,hI]
  ·simp [xA,Ff,yZ,Fg,Fh,Fi,Fj,Fk,Fl,Dd,et,LT.each,oP,QT,hw,hI]
  ·simp only [xA,Ff,yZ,Fg,Fh,Fi,Fj,Fk,Fl,Dd,et,LT.fn,oP,QT,qQ,Int.toNat_natCast,bW,cond_true]
  ·intro a' hf;simp only [qQ,Sum.inr.injEq]at hf;subst hf;simpa using hI
 ·obtain y3:=a
  simp [xA,Ff,yZ,Fg,Fh,Fi,Fj,Fk,Fl,Dd,et,LT.out,oP,List.length_range]
def ue(b:Int×(Int×Int)):(List Int×List Int)→Nat ⊕ (List Int×List Int)
 |(y3,y4)=>(.inr ((bif(b.2.1==(0:Int))then List.set y3 (Int.toNat b.1) b.2.2else y3),(bif(b.2.1==(0:Int))then y4 else List.set y4 (Int.toNat b.1) b.2.2)))
def oQ(y2:List (Int×(Int×Int)))(i:Nat):(List Int×List Int)→li
 |(y3,y4)=>((i:Int),(↑y2.length:Int),y2,y3,y4)
def QU:li→List Int×List Int
 |(_,_,_,y3,y4)=>(y3,y4)
theorem alZ(y2:List (Int×(Int×Int)))(y3 y4:List Int)(hn:y2.length≤9223372036854775807)(n:Nat)(h3:y3.length=n)(h4:y4.length=n)(hf: ∀ f∈y2,0≤f.1∧f.1 < (n:Int)):
  eu.fin ((0:Int),(↑y2.length:Int),y2,y3,y4)=true∧eu.res ((0:Int),(↑y2.length:Int),y2,y3,y4)=((aN (ue) 0 y2 0 (y3,y4)).1,(oQ y2) (aN (ue) 0 y2 0 (y3,y4)).2.1 (aN (ue) 0 y2 0 (y3,y4)).2.2):=by
 have cH:=eu.along (oQ y2) QU (ue) 0 (fun _ a=>a.1.length=n∧a.2.length=n) y2 (y3,y4) ⟨h3,h4⟩ (by simp only [eu,oQ];omega) (fun i b a hb hI=> ?_) (fun a hI=> ?_)
 ·exact cH
 ·obtain⟨y3,y4⟩:=a
  have dd:=(List.getElem?_eq_some_iff.1 hb).1
  have gc: ∀ d,Option.getD y2[i]? d=b:=fun d=>by rw [hb];rfl
  have hw:=tQ dd hn
  have bW:ltI (i:Int) (y2.length:Int)=true:=du (by omega)
  have pY:leI (0:Int) (i:Int)=true:=ct (by omega)
  have dw:ltN i y2.length=true:=ec dd
  refine⟨?_,?_,?_,?_⟩
  ·have h5:=hf b (List.mem_of_getElem? hb)
   have hI1:=hI.1
   have hI2:=hI.2
   have h6:leI 0 b.1=true:=ct h5.1
   have h7:ltI b.1 (n:Int)=true:=du (by omega)
   have h8:ltN b.1.toNat n=true:=ec (by omega)
   simp only at hI1 hI2
   simp [eo,hZ,xB,Fm,Fo,Fp,Fq,Fr,Fs,Ft,Fu,Fv,Fw,CV,CW,CX,De,eu,LT.nds,allT,oQ,bW,pY,dw,gc,h6,h7,h8,hI1,hI2]
  ·simp [eo,hZ,xB,Fm,Fo,Fp,Fq,Fr,Fs,Ft,Fu,Fv,Fw,CV,CW,CX,De,eu,LT.each,oQ,QU,hw]
  ·simp only [eo,hZ,xB,Fm,Fo,Fp,Fq,Fr,Fs,Ft,Fu,Fv,Fw,CV,CW,CX,De,eu,LT.fn,oQ,QU,ue,Int.toNat_natCast,bW,pY,dw,gc,cond_true,Bool.cond_self]
  ·intro a' hf;simp only [ue,Sum.inr.injEq]at hf;subst hf;have hI1:=hI.1;have hI2:=hI.2;cases b.2.1==0 <;> simpa using ⟨hI1,hI2⟩
 ·obtain⟨y3,y4⟩:=a
  simp [eo,hZ,xB,Fm,Fo,Fp,Fq,Fr,Fs,Ft,Fu,Fv,Fw,CV,CW,CX,De,eu,LT.out,oQ]
theorem anZ: ∀ (fs:List (Int×Int×Int)) (a:List Int×List Int),(∀ f∈fs,f.2.1=0∨f.2.1=1)→
  fs.foldl (fun a f=>(bif f.2.1==0 then a.1.set f.1.toNat f.2.2 else a.1,bif f.2.1==0 then a.2 else a.2.set f.1.toNat f.2.2)) a=(fs.foldl (adD 0) a.1,fs.foldl (adD 1) a.2)
 | [],a,_=>rfl
 |f::fs,a,h=>by
  simp only [List.foldl_cons]
  rw [anZ fs _ (fun g hg=>h g (by simp [hg]))]
  rcases h f (by simp)with e | e <;> simp [adD,e]
theorem arj(n:Int)(ps:List Int)(fs:List (Int×Int×Int))(h:(isT n ps&&an2 n fs)=true):
  YP n ps fs=xR n ps fs 0∧YQ n ps fs=xR n ps fs 1∧YR n ps fs=true:=by
 simp only [Bool.and_eq_true]at h
 have h2:=(ya.1 h.1).1
 obtain⟨hl,hf⟩:=asC h.2
 have hr:(List.replicate n.toNat (0:Int)).length=(pE n ps).length:=by rw [Nk];simp
 obtain⟨w1,w2⟩:=alY (pE n ps) (List.replicate n.toNat (0:Int)) (by rw [Nk];omega) hr
 rw [asg (xs:=pE n ps) (d:=(0:Int)) (g:=occ) (f:=qQ (pE n ps)) (e:=0) (fun b a=>by simp only [qQ,ayF]) hr]at w2
 have e1:Ef n ps=agk n ps:=by
  rw [Ef,QA,w2]
  simp only [oP,pE,agk,List.map_map];rfl
 obtain⟨v1,v2⟩:=alZ fs (agk n ps) (agk n ps) (by omega) n.toNat (Ut n ps) (Ut n ps) (fun f hm=>by have:=(hf f hm).1;omega)
 rw [jI (f:=ue) (g:=fun a f=>(bif f.2.1==0 then a.1.set f.1.toNat f.2.2 else a.1,bif f.2.1==0 then a.2 else a.2.set f.1.toNat f.2.2)) (fun b a=>rfl),anZ _ _ (fun f hm=>(hf f hm).2.1)]at v2
 have e3:QB n ps fs=(xR n ps fs 0,xR n ps fs 1):=by
  simp only [QB,Kb,e1,v2,oQ];rfl
 refine⟨by rw [YP,e3],by rw [YQ,e3],?_⟩
 have e4:Lp.fin eu (Kb n ps fs)=true:=by simp only [Kb,e1];exact v1
 have e5:Lp.fin et (QA n ps)=true:=w1
 simp only [YR,e4,e5,e1,h.1,Ut,allT]
 simp;omega
def age:List SV→List Entry→Option Out
 | [.one ⟨true,[.val (.int .i64 x0),.ref 0]⟩,.one ⟨false,[.ref 1]⟩],[.row false 2 (.int .i64) x1,.row false 169 (.pair (.int .i64) (.pair (.int .i64) (.int .i64))) x2]=>some ⟨.one ⟨true,[.ref 2,.ref 3]⟩,[.row false 2 ajn x1,.row false 169 adk x2],[.row true 2 ajn (xR x0 x1 x2 0),.row true 2 ajn (xR x0 x1 x2 1)],[isT x0 x1&&an2 x0 x2]⟩
 |_,_=>none
def YT:PF prog:=PF.alt apw age (by
 intro args es o h bz;unfold age at h;split at h
 ·rename_i x0 x1 x2
  cases h
  have bz:=fM bz
  have hh:=arj x0 x1 x2 bz
  obtain⟨e0,e1,en⟩:=hh
  exact jK rfl (fj en) rfl rfl (by simp only [e0,e1] <;> rfl)
 ·cases h)
def MO(n:Int)(ps:List Int)(t:Int):Int:=Int.tmod (blk (ps[t.toNat]?.getD 0) + 1) n
def Zx(n:Int)(ps a b:List Int)(t:Int):Bool:=phs (ps[t.toNat]?.getD 0)!=1||(a[(MO n ps t).toNat]?.getD 0==0&&b[(MO n ps t).toNat]?.getD 0==0)
def adC(n:Int)(ps a b:List Int)(t:Int):Bool:=aeW n ps t&&(atS n a&&atS n b)
theorem aqQ{n t:Int}{ps a b:List Int}(h:adC n ps a b t=true):
  (0≤t∧t < ps.length)∧(2≤n∧n≤8)∧(0≤MO n ps t∧MO n ps t < n)∧((a.length:Int)=n∧(b.length:Int)=n)∧
   IntKind.i64.wrap (IntKind.i64.wrap (Int.tdiv (ps[t.toNat]?.getD 0) 3) + 1)=blk (ps[t.toNat]?.getD 0) + 1∧
   (0≤a[(MO n ps t).toNat]?.getD 0∧a[(MO n ps t).toNat]?.getD 0≤1)∧(0≤b[(MO n ps t).toNat]?.getD 0∧b[(MO n ps t).toNat]?.getD 0≤1):=by
 simp only [adC,Bool.and_eq_true,am5,atS,avt,List.all_eq_true,sa,Pb]at h
 obtain⟨⟨hT,ht⟩,⟨ha,ha2⟩,hb,hb2⟩:=h
 have h1:=ya.1 hT
 have dd:t.toNat < ps.length:=by omega
 have hp:=h1.2.2 (ps[t.toNat]) (List.getElem_mem dd)
 have e0:ps[t.toNat]?.getD 0=ps[t.toNat]:=by rw [List.getElem?_eq_getElem dd];rfl
 rw [MO,e0]
 have hb3:blk ps[t.toNat]=ps[t.toNat] / 3:=afx hp.1
 have hb4:Int.tdiv ps[t.toNat] 3=ps[t.toNat] / 3:=Int.tdiv_eq_ediv_of_nonneg hp.1
 have hq:Int.tmod (blk ps[t.toNat] + 1) n=(ps[t.toNat] / 3 + 1) % n:=by rw [hb3,Int.tmod_eq_emod_of_nonneg (by omega)]
 have hm0:0≤(ps[t.toNat] / 3 + 1) % n:=Int.emod_nonneg _ (by omega)
 have hm1:(ps[t.toNat] / 3 + 1) % n < n:=Int.emod_lt_of_pos _ (by omega)
 rw [hq]
 have la:((ps[t.toNat] / 3 + 1) % n).toNat < a.length:=by omega
 have lb:((ps[t.toNat] / 3 + 1) % n).toNat < b.length:=by omega
 rw [List.getElem?_eq_getElem la,List.getElem?_eq_getElem lb]
 refine⟨ht,h1.1,⟨hm0,hm1⟩,⟨ha,hb⟩,?_,ha2 _ (List.getElem_mem la),hb2 _ (List.getElem_mem lb)⟩
 rw [hb4,aw (x:=ps[t.toNat] / 3) (by omega) (by omega),aw (by omega) (by omega),hb3]
theorem at4(n t:Int)(ps a b:List Int)(h:adC n ps a b t=true):VJ n t ps a b=Zx n ps a b t∧VK n t ps a b=true:=by
 obtain⟨ht,hn,hx,hl,hw,ha,hb⟩:=aqQ h
 have e2:nH n t ps=MO n ps t:=by
  simp only [nH,Mq,hw];rfl
 refine⟨?_,?_⟩
 ·simp only [VJ,e2,uo,Mq,Zx,phs]
  rw [aw (by omega) (by omega)]
  cases Int.tmod (ps[t.toNat]?.getD 0) 3 !=1 with
  |true=>rfl
  |false=>
   rw [cond_false,Bool.false_or,Bool.eq_iff_iff]
   simp only [beq_iff_eq,Bool.and_eq_true]
   omega
 ·have t1:leI 0 t=true:=ct ht.1
  have t2:ltI t (ps.length:Int)=true:=du ht.2
  have t3:ltN t.toNat ps.length=true:=ec (by omega)
  have t4:neI n 0=true:=ao5 (by omega)
  have t5:leI 0 (MO n ps t)=true:=ct hx.1
  have t6:ltI (MO n ps t) (a.length:Int)=true:=du (by omega)
  have t7:ltN (MO n ps t).toNat a.length=true:=ec (by omega)
  have t8:ltI (MO n ps t) (b.length:Int)=true:=du (by omega)
  have t9:ltN (MO n ps t).toNat b.length=true:=ec (by omega)
  simp only [VK,Tz,e2,t1,t2,t3,t4,t5,t6,t7,t8,t9,allT,cond_true,Bool.or_true]
def aci:List SV→List Entry→Option Out
 | [.one ⟨true,[.val (.int .i64 x0),.ref 0]⟩,.one ⟨true,[.ref 1,.ref 2]⟩,.one ⟨false,[.val (.int .i64 x1)]⟩],[.row false 2 (.int .i64) x2,.row false 2 (.int .i64) x3,.row false 2 (.int .i64) x4]=>some ⟨.one ⟨false,[.val (.bool (Zx x0 x2 x3 x4 x1))]⟩,[.row false 2 ajn x2,.row false 2 ajn x3,.row false 2 ajn x4],[],[adC x0 x2 x3 x4 x1]⟩
 |_,_=>none
def US:PF prog:=PF.alt anh aci (by
 intro args es o h bz;unfold aci at h;split at h
 ·rename_i x0 x1 x2 x3 x4
  cases h
  have bz:=fM bz
  have hh:=at4 x0 x1 x2 x3 x4 bz
  obtain⟨e0,en⟩:=hh
  exact jK rfl (fj en) (by simp only [e0] <;> rfl) rfl rfl
 ·cases h)
theorem atv(n t:Int)(a b ps:List Int)(h:adC n ps a b t=true):nV n t a b ps=Zx n ps a b t∧nW n t a b ps=true:=by
 obtain⟨ht,hn,hx,hl,hw,ha,hb⟩:=aqQ h
 have e2:jm n t ps=MO n ps t:=by
  simp only [jm,jl,hw];rfl
 refine⟨?_,?_⟩
 ·simp only [nV,e2,eY,jl,nT,eX,Zx,phs]
  cases Int.tmod (ps[t.toNat]?.getD 0) 3 !=1 with
  |true=>rfl
  |false=>
   rw [cond_false,Bool.false_or]
   cases a[(MO n ps t).toNat]?.getD 0==0 <;> rfl
 ·have t1:leI 0 t=true:=ct ht.1
  have t2:ltI t (ps.length:Int)=true:=du ht.2
  have t3:ltN t.toNat ps.length=true:=ec (by omega)
  have t4:neI n 0=true:=ao5 (by omega)
  have t4':neI (3:Int) 0=true:=ao5 (by omega)
  have t5:leI 0 (MO n ps t)=true:=ct hx.1
  have t6:ltI (MO n ps t) (a.length:Int)=true:=du (by omega)
  have t7:ltN (MO n ps t).toNat a.length=true:=ec (by omega)
  have t8:ltI (MO n ps t) (b.length:Int)=true:=du (by omega)
  have t9:ltN (MO n ps t).toNat b.length=true:=ec (by omega)
  simp only [nW,nU,e2,t1,t2,t3,t4,t4',t5,t6,t7,t8,t9,allT,cond_true,Bool.or_true]
def xO:List SV→List Entry→Option Out
 | [.one ⟨true,[.ref 0,.ref 1]⟩,.one ⟨true,[.val (.int .i64 x0),.ref 2]⟩,.one ⟨false,[.val (.int .i64 x1)]⟩],[.row false 2 (.int .i64) x2,.row false 2 (.int .i64) x3,.row false 2 (.int .i64) x4]=>some ⟨.one ⟨false,[.val (.bool (Zx x0 x4 x2 x3 x1))]⟩,[.row false 2 ajn x2,.row false 2 ajn x3,.row false 2 ajn x4],[],[adC x0 x4 x2 x3 x1]⟩
 |_,_=>none
def oc:PF prog:=PF.alt MR xO (by
 intro args es o h bz;unfold xO at h;split at h
 ·rename_i x0 x1 x2 x3 x4
  cases h
  have bz:=fM bz
  have hh:=atv x0 x1 x2 x3 x4 bz
  obtain⟨e0,en⟩:=hh
  exact jK rfl (fj en) (by simp only [e0] <;> rfl) rfl rfl
 ·cases h)
theorem axl(n:Int)(ps:List Int)(b:Int):inR (occ (Uv n ps b:Int)) 0 1=true:=by
 rw [sa,occ];cases h:ltI (Uv n ps b:Int) 1 <;> simp at h ⊢;omega
theorem atf(n:Int)(ps:List Int)(fs:List (Int×Int×Int))(ch:Int)(hT:isT n ps=true)(hF:an2 n fs=true):atS n (xR n ps fs ch)=true:=by
 have h2:=(ya.1 hT).1
 obtain⟨hl,hf⟩:=asC hF
 simp only [atS,Bool.and_eq_true,avt,asl]
 refine⟨by omega,?_⟩
 have cH: ∀ (fs:List (Int×Int×Int)) (l:List Int),(∀ f∈fs,0≤f.2.2∧f.2.2≤1)→(l.all fun v=>inR v 0 1)=true→((fs.foldl (adD ch) l).all fun v=>inR v 0 1)=true:=by
  intro fs
  induction fs with
  |nil=>intro l _ h;exact h
  |cons f fs ih=>
   intro l hv h
   rw [List.foldl_cons]
   refine ih _ (fun g hg=>hv g (by simp [hg])) ?_
   unfold adD
   cases f.2.1==ch with
   |false=>exact h
   |true=>
    simp only [cond_true,List.all_eq_true]at h ⊢
    intro v hm
    rcases List.mem_or_eq_of_mem_set hm with h3 | rfl
    ·exact h v h3
    ·exact sa.2 (hv f (by simp))
 refine cH fs _ (fun f hm=>(hf f hm).2.2) ?_
 simp only [agk,List.all_map,List.all_eq_true,Function.comp]
 intro b _;exact axl n ps b
def abt(x0 x1 x2:Int):Bool:=bif bif x1==(0:Int)then x1==(0:Int)else x1==(1:Int)then aZ x2 (0:Int) (IntKind.wrap .i64 (x0 - (1:Int)))else bif bif x1==(2:Int)then x1==(2:Int)else x1==(3:Int)then x2==(0:Int)else false
def ahA:List SV→List Entry→Option Out
 | [.one ⟨false,[.val (.int .i64 x0)]⟩,.one ⟨true,[.val (.int .i64 x1),.val (.int .i64 x2)]⟩],[]=>some ⟨.one ⟨false,[.val (.bool (abt x0 x1 x2))]⟩,[],[],[]⟩
 |_,_=>none
def aqJ:PF prog:=PF.ofG prog [gh] [] aO 100 f100 func100 (fun c _=>LOk.nil c) ahA (by
 intro vs es r h;unfold ahA at h;split at h
 ·cases h;kernel_rfl
 ·cases h)
def abx(x0:Int):Bool:=aZ x0 (0:Int) (3:Int)
def ahF:List SV→List Entry→Option Out
 | [.one ⟨false,[.val (.int .i64 x0)]⟩],[]=>some ⟨.one ⟨false,[.val (.bool (abx x0))]⟩,[],[],[]⟩
 |_,_=>none
def aqN:PF prog:=PF.ofG prog [gh] [] aO 186 f186 func186 (fun c _=>LOk.nil c) ahF (by
 intro vs es r h;unfold ahF at h;split at h
 ·cases h;kernel_rfl
 ·cases h)
def Xp(x0 x1:Int):Bool:=bif aZ x0 (0:Int) (9:Int)then abx x1 else false
def adU:List SV→List Entry→Option Out
 | [.one ⟨true,[.val (.int .i64 x0),.val (.int .i64 x1),.val (.bool _x2)]⟩],[]=>some ⟨.one ⟨false,[.val (.bool (Xp x0 x1))]⟩,[],[],[]⟩
 |_,_=>none
def aoo:PF prog:=PF.ofG prog [aqN,gh] [] aO 101 f101 func101 (fun c _=>LOk.nil c) adU (by
 intro vs es r h;unfold adU at h;split at h
 ·cases h;kernel_rfl
 ·cases h)
abbrev cF:=Int×Int×Int×List Int
section
variable (y0 y1 y2:Int)(y3:List Int)
def nf:Bool:=ltI y0 y1
def ng:Bool:=leI (0:Int) y0
def nh:Bool:=ltI y0 (↑y3.length:Int)
def ni:Bool:=ltN y0.toNat y3.length
def nj:Bool:=y2==Option.getD y3[Int.toNat y0]? (0:Int)
def nk:Int:=IntKind.wrap .i64 (y0 + (1:Int))
end
def WK:cF→List (Nat×SV)
 |(y0,y1,y2,_)=> [(8,(.one ⟨false,[.val (.int .i64 y0)]⟩)),(7,(.one ⟨false,[.val (.int .i64 y1)]⟩)),(1,(.one ⟨false,[.val (.int .i64 y2)]⟩)),(0,(.one ⟨false,[.ref 0]⟩))]
def WJ:cF→List (Nat×Entry)
 |(_,_,_,y3)=> [(0,(.row false 2 ajn y3))]
def WN:Nat→cF→List (Nat×SV)
 |0,(y0,_,_,_)=> [(4,(.one ⟨false,[.val (.int .i64 y0)]⟩))]
 |_,(_,_,_,_)=> []
def WM:Nat→cF→List (Nat×Entry)
 |0,(_,_,_,y3)=> [(0,(.row false 2 ajn y3))]
 |_,(_,_,_,y3)=> [(0,(.row false 2 ajn y3))]
def my:cF→LT cF
 |(y0,y1,y2,y3)=> .ite (nf y0 y1) (.need [ng y0,nh y0 y3,ni y0 y3] (.ite (nj y0 y2 y3) (.ext 0 [(0,0)]) (.nrm ((nk y0),y1,y2,y3) [(0,0)]))) (.ext 1 [(0,0)])
def zh(s:St):Option cF:=
 (match s.look 8 with
 |some ⟨none,.one ⟨false,[.val (.int .i64 y0)]⟩⟩=>
 (match s.look 7 with
 |some ⟨none,.one ⟨false,[.val (.int .i64 y1)]⟩⟩=>
 (match s.look 1 with
 |some ⟨none,.one ⟨false,[.val (.int .i64 y2)]⟩⟩=>
 (match s.look 0 with
 |some ⟨none,.one ⟨false,[.ref 0]⟩⟩=>
 (match s.ent 0 with
 |some (.row false 2 (.int .i64) y3)=>
 some (y0,y1,y2,y3)
 |_=>none)
 |_=>none)
 |_=>none)
 |_=>none)
 |_=>none)
def bd:Lp cF where
 h:=⟨[9,10,5,11,12,13,14,15,16,17,4,18,8],[0],[],[]⟩
 JL:=WK
 JE:=WJ
 XL:=WN
 XE:=WM
 q:=fun j=>match j with | 0=> .ret | _=> .exit 0
 tags:= [0,1]
 lt:=my
 fuel:=fun(y0,y1,y2,y3)=>y0.natAbs + y1.natAbs + y2.natAbs + y3.length
 fix:=fun(_,y1,y2,y3) (y0,_,_,_)=>(y0,y1,y2,y3)
 σ:= [(0,0)]
 rd:=zh
theorem UO:LoopOk prog (fun k=>Nat.blt k Tryz.f212.ntmps) bd.F (aK f212 0):=by
 refine Lp.ok (tbl:= []) (lf:= []) aO bd (by kernel_rfl) (LOk.nil _) (fun _=>rfl) (fun j _=>by unfold bd;match j with | 0=>rfl | _ + 1=>rfl) ?_ ?_ ?_ ?_ (fun _=>rfl) ?_
 ·rintro⟨y0,y1,y2,y3⟩;kernel_rfl
 ·rintro⟨y0,y1,y2,y3⟩;kernel_rfl
 ·intro s x h
  have h:zh s=some x:=h
  unfold zh at h
  repeat' split at h
  all_goals cases h
  exact⟨aa (by assumption) rfl (aa (by assumption) rfl (aa (by assumption) rfl (aa (by assumption) rfl (rfl)))),ab rfl (by assumption) rfl (rfl)⟩
 ·rintro⟨y0,y1,y2,y3⟩;kernel_rfl
 ·rintro⟨y0,y1,y2,y3⟩ z;exact(And.intro (And.intro trivial rfl) trivial)
section
variable (x0:Int)(x1:List Int)
def vO:Int×Int×Int×List Int:=((0:Int),(↑x1.length:Int),x0,x1)
def FN:Int:=bif Nat.beq ((Lp.res bd (vO x0 x1)).1) (0:Nat)then ((Lp.res bd (vO x0 x1)).2).1else(-1:Int)
def FO:Bool:=allT [Lp.fin bd (vO x0 x1)]
end
def OP:List SV→List Entry→Option Out
 | [.one ⟨false,[.ref 0]⟩,.one ⟨false,[.val (.int .i64 x0)]⟩],[.row false 2 (.int .i64) x1]=>some ⟨.one ⟨false,[.val (.int .i64 (FN x0 x1))]⟩,[.row false 2 ajn x1],[],[FO x0 x1]⟩
 |_,_=>none
def FK:PF prog:=PF.ofG prog [] [bd.F] aO 212 f212 func212 (LOk.fnT (l:= [aK f212 0]) (by kernel_rfl) (.cons UO (.nil _))) OP (by
 intro vs es r h;unfold OP at h;split at h
 ·cases h;kernel_rfl
 ·cases h)
def ba(x0:Int)(x1:List Int):Bool:=leI (0:Int) (FN x0 x1)
def dK(x0:Int)(x1:List Int):Bool:=allT [FO x0 x1]
def LE:List SV→List Entry→Option Out
 | [.one ⟨false,[.ref 0]⟩,.one ⟨false,[.val (.int .i64 x0)]⟩],[.row false 2 (.int .i64) x1]=>some ⟨.one ⟨false,[.val (.bool (ba x0 x1))]⟩,[.row false 2 ajn x1],[],[dK x0 x1]⟩
 |_,_=>none
def aG:PF prog:=PF.ofG prog [FK,PF.lend FK,PF.fz FK] [] aO 160 f160 func160 (fun c _=>LOk.nil c) LE (by
 intro vs es r h;unfold LE at h;split at h
 ·cases h;kernel_rfl
 ·cases h)
def afF(x0:Bool):Int:=bif x0 then(1:Int)else(0:Int)
def al3:List SV→List Entry→Option Out
 | [.one ⟨false,[.val (.bool x0)]⟩],[]=>some ⟨.one ⟨false,[.val (.int .i64 (afF x0))]⟩,[],[],[]⟩
 |_,_=>none
def afQ:PF prog:=PF.ofG prog [] [] aO 232 f232 func232 (fun c _=>LOk.nil c) al3 (by
 intro vs es r h;unfold al3 at h;split at h
 ·cases h;kernel_rfl
 ·cases h)
abbrev jr:=Int×Int×List Int×List Int
section
variable (y0 y1:Int)(y2 y3:List Int)
def oS:List Int:= [afF (Option.getD y2[Int.toNat y0]? (0:Int)==(2:Int))]
def Ag:Bool:=ltI y0 y1
def Ah:Bool:=leI (0:Int) y0
def Ai:Bool:=ltI y0 (↑y2.length:Int)
def Aj:Bool:=ltN y0.toNat y2.length
def Ak:Bool:=leN (List.length y3 + List.length (oS y0 y2)) (9223372036854775807:Nat)
def Al:Bool:=leN ((List.length y3 + List.length (oS y0 y2)) * (8:Nat)) (140737488355328:Nat)
def Am:Int:=IntKind.wrap .i64 (y0 + (1:Int))
def An:List Int:=y3++oS y0 y2
end
def agH:jr→List (Nat×SV)
 |(y0,y1,_,_)=> [(13,(.one ⟨false,[.val (.int .i64 y0)]⟩)),(12,(.one ⟨false,[.val (.int .i64 y1)]⟩)),(11,(.one ⟨false,[.ref 0]⟩)),(5,(.one ⟨false,[.ref 1]⟩))]
def agx:jr→List (Nat×Entry)
 |(_,_,y2,y3)=> [(0,(.row false 2 ajn y2)),(1,(.row true 2 ajn y3))]
def ag1:Nat→jr→List (Nat×SV)
 |_,(_,_,_,_)=> [(5,(.one ⟨false,[.ref 1]⟩))]
def agR:Nat→jr→List (Nat×Entry)
 |_,(_,_,y2,y3)=> [(0,(.row false 2 ajn y2)),(1,(.row true 2 ajn y3))]
def yC:jr→LT jr
 |(y0,y1,y2,y3)=> .ite (Ag y0 y1) (.need [Ah y0,Ai y0 y2,Aj y0 y2] (.need [Ak y0 y2 y3,Al y0 y2 y3] (.nrm ((Am y0),y1,y2,(An y0 y2 y3)) [(0,0),(1,640)]))) (.ext 0 [(0,0),(1,1)])
def NK(s:St):Option jr:=
 (match s.look 13 with
 |some ⟨none,.one ⟨false,[.val (.int .i64 y0)]⟩⟩=>
 (match s.look 12 with
 |some ⟨none,.one ⟨false,[.val (.int .i64 y1)]⟩⟩=>
 (match s.look 11 with
 |some ⟨none,.one ⟨false,[.ref 0]⟩⟩=>
 (match s.look 5 with
 |some ⟨none,.one ⟨false,[.ref 256]⟩⟩=>
 (match s.ent 0 with
 |some (.row false 2 (.int .i64) y2)=>
 (match s.ent 256 with
 |some (.row true 2 (.int .i64) y3)=>
 some (y0,y1,y2,y3)
 |_=>none)
 |_=>none)
 |_=>none)
 |_=>none)
 |_=>none)
 |_=>none)
def cS:Lp jr where
 h:=⟨[14,15,16,7,17,18,19,20,21,22,5,23,13],[0],[1],[]⟩
 JL:=agH
 JE:=agx
 XL:=ag1
 XE:=agR
 q:=fun j=>match j with | _=> .exit 0
 tags:= [0]
 lt:=yC
 fuel:=fun(y0,y1,y2,y3)=>y0.natAbs + y1.natAbs + y2.length + y3.length
 fix:=fun(_,y1,y2,_) (y0,_,_,y3)=>(y0,y1,y2,y3)
 σ:= [(0,0),(1,256)]
 rd:=NK
theorem aeJ:LoopOk prog (fun k=>Nat.blt k Tryz.f187.ntmps) cS.F (aK f187 0):=by
 refine Lp.ok (tbl:= [ay,PF.lend ay,PF.fz ay,afQ]) (lf:= []) aO cS (by kernel_rfl) (LOk.nil _) (fun _=>rfl) (fun _ _=>rfl) ?_ ?_ ?_ ?_ (fun _=>rfl) ?_
 ·rintro⟨y0,y1,y2,y3⟩;kernel_rfl
 ·rintro⟨y0,y1,y2,y3⟩;kernel_rfl
 ·intro s x h
  have h:NK s=some x:=h
  unfold NK at h
  repeat' split at h
  all_goals cases h
  exact⟨aa (by assumption) rfl (aa (by assumption) rfl (aa (by assumption) rfl (aa (by assumption) rfl (rfl)))),ab rfl (by assumption) rfl (ab rfl (by assumption) rfl (rfl))⟩
 ·rintro⟨y0,y1,y2,y3⟩;kernel_rfl
 ·rintro⟨y0,y1,y2,y3⟩ z;exact(And.intro rfl trivial)
abbrev jt:=Int×Int×List (Int×(Int×Int))×List Int×List Int
section
variable (y0 y1:Int)(y2:List (Int×(Int×Int)))(y3 y4:List Int)
def cR:Int×Int×Int:=Option.getD y2[Int.toNat y0]? ((0:Int),(0:Int),(0:Int))
def eM:Bool:=((cR y0 y2).2).1==(0:Int)
def ti:Bool:=leI (0:Int) ((cR y0 y2).1)
def Ao:Bool:=ltI y0 y1
def Ap:Bool:=leI (0:Int) y0
def Aq:Bool:=ltI y0 (↑y2.length:Int)
def Ar:Bool:=ltN y0.toNat y2.length
def As:Bool:= !eM y0 y2||ti y0 y2
def At:Bool:= !eM y0 y2||ltI ((cR y0 y2).1) (↑y3.length:Int)
def Au:Bool:= !eM y0 y2||ltN (Int.toNat ((cR y0 y2).1)) y3.length
def Av:Bool:=eM y0 y2||ti y0 y2
def Aw:Bool:=eM y0 y2||ltI ((cR y0 y2).1) (↑y4.length:Int)
def Ax:Bool:=eM y0 y2||ltN (Int.toNat ((cR y0 y2).1)) y4.length
def yo:Int:=IntKind.wrap .i64 (y0 + (1:Int))
def yp:List Int:=bif eM y0 y2 then List.set y3 (Int.toNat ((cR y0 y2).1)) ((cR y0 y2).2.2)else y3
def yq:List Int:=bif eM y0 y2 then y4 else List.set y4 (Int.toNat ((cR y0 y2).1)) ((cR y0 y2).2.2)
end
def agI:jt→List (Nat×SV)
 |(y0,y1,_,_,_)=> [(30,(.one ⟨false,[.val (.int .i64 y0)]⟩)),(29,(.one ⟨false,[.val (.int .i64 y1)]⟩)),(28,(.one ⟨false,[.ref 0]⟩)),(8,(.one ⟨false,[.ptr 1 0]⟩))]
def agy:jt→List (Nat×Entry)
 |(_,_,y2,y3,y4)=> [(0,(.row false 100 adk y2)),(1,(.box 130 [.ref 2,.ref 3])),(2,(.row true 2 ajn y3)),(3,(.row true 2 ajn y4))]
def ag2:Nat→jt→List (Nat×SV)
 |_,(_,_,_,_,_)=> []
def agS:Nat→jt→List (Nat×Entry)
 |_,(_,_,y2,y3,y4)=> [(0,(.row false 100 adk y2)),(1,(.box 130 [.ref 2,.ref 3])),(2,(.row true 2 ajn y3)),(3,(.row true 2 ajn y4))]
def yD:jt→LT jt
 |(y0,y1,y2,y3,y4)=> .ite (Ao y0 y1) (.need [Ap y0,Aq y0 y2,Ar y0 y2] (.need [As y0 y2,At y0 y2 y3,Au y0 y2 y3,Av y0 y2,Aw y0 y2 y4,Ax y0 y2 y4] (.nrm ((yo y0),y1,y2,yp y0 y2 y3,(yq y0 y2 y4)) [(0,0),(1,1),(2,2),(3,3)]))) (.ext 0 [(0,0),(1,1),(2,2),(3,3)])
def NL(s:St):Option jt:=
 (match s.look 30 with
 |some ⟨none,.one ⟨false,[.val (.int .i64 y0)]⟩⟩=>
 (match s.look 29 with
 |some ⟨none,.one ⟨false,[.val (.int .i64 y1)]⟩⟩=>
 (match s.look 28 with
 |some ⟨none,.one ⟨false,[.ref 1]⟩⟩=>
 (match s.look 8 with
 |some ⟨none,.one ⟨false,[.ptr 832 0]⟩⟩=>
 (match s.ent 1 with
 |some (.row false 100 (.pair (.int .i64) (.pair (.int .i64) (.int .i64))) y2)=>
 (match s.ent 832 with
 |some (.box 130 [.ref 512,.ref 704])=>
 (match s.ent 512 with
 |some (.row true 2 (.int .i64) y3)=>
 (match s.ent 704 with
 |some (.row true 2 (.int .i64) y4)=>
 some (y0,y1,y2,y3,y4)
 |_=>none)
 |_=>none)
 |_=>none)
 |_=>none)
 |_=>none)
 |_=>none)
 |_=>none)
 |_=>none)
def cT:Lp jt where
 h:=⟨[31,32,33,10,34,35,36,37,38,39,40,41,42,43,44,45,46,47,48,49,50,51,30],[0,1,2,3],[],[]⟩
 JL:=agI
 JE:=agy
 XL:=ag2
 XE:=agS
 q:=fun j=>match j with | _=> .exit 2
 tags:= [0]
 lt:=yD
 fuel:=fun(y0,y1,y2,y3,y4)=>y0.natAbs + y1.natAbs + y2.length + y3.length + y4.length
 fix:=fun(_,y1,y2,_,_) (y0,_,_,y3,y4)=>(y0,y1,y2,y3,y4)
 σ:= [(0,1),(1,832),(2,512),(3,704)]
 rd:=NL
theorem aeK:LoopOk prog (fun k=>Nat.blt k Tryz.f187.ntmps) cT.F (aK f187 1):=by
 refine Lp.ok (tbl:= [ay,PF.lend ay,PF.fz ay,afQ]) (lf:= []) aO cT (by kernel_rfl) (LOk.nil _) (fun _=>rfl) (fun _ _=>rfl) ?_ ?_ ?_ ?_ (fun _=>rfl) ?_
 ·rintro⟨y0,y1,y2,y3,y4⟩;kernel_rfl
 ·rintro⟨y0,y1,y2,y3,y4⟩;kernel_rfl
 ·intro s x h
  have h:NL s=some x:=h
  unfold NL at h
  repeat' split at h
  all_goals cases h
  exact⟨aa (by assumption) rfl (aa (by assumption) rfl (aa (by assumption) rfl (aa (by assumption) rfl (rfl)))),ab rfl (by assumption) rfl (ab rfl (by assumption) rfl (ab rfl (by assumption) rfl (ab rfl (by assumption) rfl (rfl))))⟩
 ·rintro⟨y0,y1,y2,y3,y4⟩;kernel_rfl
 ·rintro⟨y0,y1,y2,y3,y4⟩ z;exact(And.intro rfl trivial)
section
variable (x0:List Int)(x1:List (Int×Int×Int))
def LR:Int×Int×List Int×List Int:=((0:Int),(↑x0.length:Int),x0,[])
def yY:List Int:=(Lp.res cS (LR x0)).2.2.2.2
def Fe:Int×Int×List (Int×Int×Int)×List Int×List Int:=((0:Int),(↑x1.length:Int),x1,yY x0,yY x0)
def LS:List Int×List Int:=(Lp.res cT (Fe x0 x1)).2.2.2.2
def Ca:List Int:=(LS x0 x1).1
def Ho:List Int:=(LS x0 x1).2
def Ob:Bool:=allT [Lp.fin cS (LR x0),leN (1:Nat) (List.length (yY x0))&&leN (List.length (yY x0)) (1048576:Nat),Lp.fin cT (Fe x0 x1)]
end
def ab3:List SV→List Entry→Option Out
 | [.one ⟨false,[.ref 0]⟩,.one ⟨false,[.ref 1]⟩],[.row false 2 (.int .i64) x0,.row false 100 (.pair (.int .i64) (.pair (.int .i64) (.int .i64))) x1]=>some ⟨.one ⟨true,[.ref 2,.ref 3]⟩,[.row false 2 ajn x0,.row false 100 adk x1],[.row true 2 ajn (Ca x0 x1),.row true 2 ajn (Ho x0 x1)],[Ob x0 x1]⟩
 |_,_=>none
def UX:PF prog:=PF.ofG prog [ay,PF.lend ay,PF.fz ay,afQ] [cS.F,cT.F] aO 187 f187 func187 (LOk.fnT (l:= [aK f187 0,aK f187 1]) (by kernel_rfl) (.cons aeJ (.cons aeK (.nil _)))) ab3 (by
 intro vs es r h;unfold ab3 at h;split at h
 ·cases h;kernel_rfl
 ·cases h)
def aaD(x0:List Int)(x1:List (Int×Int×Int)):Bool:=bif !ba (0:Int) (Ca x0 x1)then !ba (0:Int) (Ho x0 x1)else false
def aaE(x0:List Int)(x1:List (Int×Int×Int)):Bool:=allT [Ob x0 x1,dK (0:Int) (Ca x0 x1),!(!ba (0:Int) (Ca x0 x1)&&true)||dK (0:Int) (Ho x0 x1)]
def ahq:List SV→List Entry→Option Out
 | [.one ⟨false,[.ref 0]⟩,.one ⟨false,[.ref 1]⟩],[.row false 2 (.int .i64) x0,.row false 100 (.pair (.int .i64) (.pair (.int .i64) (.int .i64))) x1]=>some ⟨.one ⟨false,[.val (.bool (aaD x0 x1))]⟩,[.row false 2 ajn x0,.row false 100 adk x1],[],[aaE x0 x1]⟩
 |_,_=>none
def aqB:PF prog:=PF.ofG prog [aG,PF.lend aG,PF.fz aG,UX,PF.lend UX,PF.fz UX] [] aO 103 f103 func103 (fun c _=>LOk.nil c) ahq (by
 intro vs es r h;unfold ahq at h;split at h
 ·cases h;kernel_rfl
 ·cases h)
abbrev eT:=Int×Int×Int×List Int
section
variable (y0 y1 y2:Int)(y3:List Int)
def tx:Bool:=ltI y0 y1
def tz:Bool:=leI (0:Int) y0
def tA:Bool:=ltI y0 (↑y3.length:Int)
def tB:Bool:=ltN y0.toNat y3.length
def tC:Int:=IntKind.wrap .i64 (y0 + (1:Int))
def tD:List Int:=List.set y3 y0.toNat y2
end
def abO:eT→List (Nat×SV)
 |(y0,y1,y2,_)=> [(41,(.one ⟨false,[.val (.int .i64 y0)]⟩)),(40,(.one ⟨false,[.val (.int .i64 y1)]⟩)),(0,(.one ⟨false,[.ref 0]⟩)),(5,(.one ⟨false,[.val (.int .i64 y2)]⟩))]
def abM:eT→List (Nat×Entry)
 |(_,_,_,y3)=> [(0,(.row true 2 ajn y3))]
def abS:Nat→eT→List (Nat×SV)
 |_,(_,_,_,_)=> []
def abQ:Nat→eT→List (Nat×Entry)
 |_,(_,_,_,y3)=> [(0,(.row true 2 ajn y3))]
def sw:eT→LT eT
 |(y0,y1,y2,y3)=> .ite (tx y0 y1) (.need [tz y0,tA y0 y3,tB y0 y3] (.nrm ((tC y0),y1,y2,(tD y0 y2 y3)) [(0,0)])) (.ext 0 [(0,0)])
def GL(s:St):Option eT:=
 (match s.look 41 with
 |some ⟨none,.one ⟨false,[.val (.int .i64 y0)]⟩⟩=>
 (match s.look 40 with
 |some ⟨none,.one ⟨false,[.val (.int .i64 y1)]⟩⟩=>
 (match s.look 0 with
 |some ⟨none,.one ⟨false,[.ref 0]⟩⟩=>
 (match s.look 5 with
 |some ⟨none,.one ⟨false,[.val (.int .i64 y2)]⟩⟩=>
 (match s.ent 0 with
 |some (.row true 2 (.int .i64) y3)=>
 some (y0,y1,y2,y3)
 |_=>none)
 |_=>none)
 |_=>none)
 |_=>none)
 |_=>none)
def bo:Lp eT where
 h:=⟨[42,43,6,44,45,46,47,48,41],[0],[],[]⟩
 JL:=abO
 JE:=abM
 XL:=abS
 XE:=abQ
 q:=fun j=>match j with | _=> .exit 1
 tags:= [0]
 lt:=sw
 fuel:=fun(y0,y1,y2,y3)=>y0.natAbs + y1.natAbs + y2.natAbs + y3.length
 fix:=fun(_,y1,y2,_) (y0,_,_,y3)=>(y0,y1,y2,y3)
 σ:= [(0,0)]
 rd:=GL
theorem ZL:LoopOk prog (fun k=>Nat.blt k Tryz.f205.ntmps) bo.F (aK f205 0):=by
 refine Lp.ok (tbl:= [aG,PF.lend aG,PF.fz aG,kB,PF.lend kB,PF.fz kB]) (lf:= []) aO bo (by kernel_rfl) (LOk.nil _) (fun _=>rfl) (fun _ _=>rfl) ?_ ?_ ?_ ?_ (fun _=>rfl) ?_
 ·rintro⟨y0,y1,y2,y3⟩;kernel_rfl
 ·rintro⟨y0,y1,y2,y3⟩;kernel_rfl
 ·intro s x h
  have h:GL s=some x:=h
  unfold GL at h
  repeat' split at h
  all_goals cases h
  exact⟨aa (by assumption) rfl (aa (by assumption) rfl (aa (by assumption) rfl (aa (by assumption) rfl (rfl)))),ab rfl (by assumption) rfl (rfl)⟩
 ·rintro⟨y0,y1,y2,y3⟩;kernel_rfl
 ·rintro⟨y0,y1,y2,y3⟩ z;exact(And.intro rfl trivial)
section
variable (x0 x1:Int)(x2:List Int)
def ce:Bool:=bif x0==(0:Int)then x0==(0:Int)else x0==(1:Int)
def LU:Int:=Option.getD x2[Int.toNat x1]? (0:Int)
def nv:Bool:=LU x1 x2 !=IntKind.wrap .i64 (IntKind.wrap .i64 (x0 - (0:Int)) + (0:Int))
def LV:Int×Int×Int×List Int:=((0:Int),(↑x2.length:Int),(2:Int),x2)
def LW:Int×Int×Int×List Int:=((0:Int),(↑x2.length:Int),(1:Int),x2)
def wv:Bool:= !ce x0||(nv x0 x1 x2||leI (0:Int) x1)
def ww:Bool:= !ce x0||(nv x0 x1 x2||ltI x1 (↑x2.length:Int))
def wx:Bool:= !ce x0||(nv x0 x1 x2||ltN x1.toNat x2.length)
def yt:Bool:=bif ce x0 then bif nv x0 x1 x2 then false else true else bif x0==(2:Int)then bif ba (0:Int) x2 then false else true else bif !Hu x2 then false else true
def yu:List Int:=bif ce x0 then bif nv x0 x1 x2 then x2 else List.set x2 x1.toNat (IntKind.wrap .i64 ((1:Int) - LU x1 x2))else bif x0==(2:Int)then bif ba (0:Int) x2 then x2 else (Lp.res bo (LV x2)).2.2.2.2else bif !Hu x2 then x2 else (Lp.res bo (LW x2)).2.2.2.2
def yw:Bool:=allT [!ce x0||leI (0:Int) x1,!ce x0||ltI x1 (↑x2.length:Int),!ce x0||ltN x1.toNat x2.length,ce x0||(!x0==(2:Int)||dK (0:Int) x2),ce x0||(x0==(2:Int)||leN x2.length (9223372036854775807:Nat)),wv x0 x1 x2,ww x0 x1 x2,wx x0 x1 x2,wv x0 x1 x2,ww x0 x1 x2,wx x0 x1 x2,ce x0||(!x0==(2:Int)||(ba (0:Int) x2||Lp.fin bo (LV x2))),ce x0||(x0==(2:Int)||(!Hu x2||Lp.fin bo (LW x2)))]
end
def Wn:List SV→List Entry→Option Out
 | [.one ⟨false,[.ref 0]⟩,.one ⟨true,[.val (.int .i64 x0),.val (.int .i64 x1)]⟩],[.row true 2 (.int .i64) x2]=>some ⟨.one ⟨false,[.val (.bool (yt x0 x1 x2))]⟩,[.row true 2 ajn (yu x0 x1 x2)],[],[yw x0 x1 x2]⟩
 |_,_=>none
def ahm:PF prog:=PF.ofG prog [aG,PF.lend aG,PF.fz aG,kB,PF.lend kB,PF.fz kB] [bo.F] aO 205 f205 func205 (LOk.fnT (l:= [aK f205 0]) (by kernel_rfl) (.cons ZL (.nil _))) Wn (by
 intro vs es r h;unfold Wn at h;split at h
 ·cases h;kernel_rfl
 ·cases h)
section
variable (x0 x1:Int)(x2:Bool)(x3:Int)
def mU:Int×Int×Int×Bool:=Option.getD aoB[Int.toNat x0]? ((0:Int),(0:Int),(0:Int),false)
def mV:Int×Bool:=(mU x0).2.2
def jj:Int:=bif IntKind.wrap .i64 (↑(BitVec.toNat (BitVec.ofInt (IntKind.bits IntKind.i64) (Int.fdiv ((mU x0).1) ((2:Int) ^ min x3.toNat (IntKind.bits IntKind.i64)))&&& BitVec.ofInt (IntKind.bits IntKind.i64) (1:Int))):Int)==(0:Int)then(1:Int)else bif ltI x1 ((mV x0).1)then(2:Int)else bif bif (mV x0).2then !x2 else false then(3:Int)else(0:Int)
def jk:Bool:=allT [leI (0:Int) x0,ltI x0 (↑(List.length aoB):Int),ltN x0.toNat (List.length aoB),leI (0:Int) x3]
end
def wb:List SV→List Entry→Option Out
 | [.one ⟨true,[.val (.int .i64 x0),.val (.int .i64 x1),.val (.bool x2)]⟩,.one ⟨false,[.val (.int .i64 x3)]⟩],[]=>some ⟨.one ⟨false,[.val (.int .i64 (jj x0 x1 x2 x3))]⟩,[],[],[jk x0 x3]⟩
 |_,_=>none
def wI:PF prog:=PF.ofG prog [] [] aO 206 f206 func206 (fun c _=>LOk.nil c) wb (by
 intro vs es r h;unfold wb at h;split at h
 ·cases h;kernel_rfl
 ·cases h)
def jC(x0 x1:Int):Int:=IntKind.wrap .i64 (x1 + x0)
def DY:List SV→List Entry→Option Out
 | [.one ⟨true,[.val (.int .i64 x0),.val (.int .i64 x1)]⟩],[]=>some ⟨.one ⟨false,[.val (.int .i64 (jC x0 x1))]⟩,[],[],[]⟩
 |_,_=>none
def Eb:PF prog:=PF.ofG prog [] [] aO 239 f239 func239 (fun c _=>LOk.nil c) DY (by
 intro vs es r h;unfold DY at h;split at h
 ·cases h;kernel_rfl
 ·cases h)
abbrev lg:=Int×Int×Int×List (Int×Int)×List Int
section
variable (y0 y1 y2:Int)(y3:List (Int×Int))(y4:List Int)
def xz:Int×Int:=Option.getD y3[Int.toNat y0]? ((0:Int),(0:Int))
def sx:Bool:=leI (jC ((xz y0 y3).1) ((xz y0 y3).2)) y2
def EW:Bool:=ltI y0 y1
def EX:Bool:=leI (0:Int) y0
def EY:Bool:=ltI y0 (↑y3.length:Int)
def EZ:Bool:=ltN y0.toNat y3.length
def Fa:Bool:= !sx y0 y2 y3||leN (List.length y4 + List.length [y0]) (9223372036854775807:Nat)
def Fb:Bool:= !sx y0 y2 y3||leN ((List.length y4 + List.length [y0]) * (8:Nat)) (140737488355328:Nat)
def Fc:Bool:=sx y0 y2 y3
def yX:Int:=IntKind.wrap .i64 (y0 + (1:Int))
def Fd:List Int:=y4++ [y0]
end
def ajH:lg→List (Nat×SV)
 |(y0,y1,y2,_,_)=> [(10,(.one ⟨false,[.val (.int .i64 y0)]⟩)),(9,(.one ⟨false,[.val (.int .i64 y1)]⟩)),(8,(.one ⟨false,[.ref 0]⟩)),(1,(.one ⟨false,[.val (.int .i64 y2)]⟩)),(5,(.one ⟨false,[.ref 1]⟩))]
def ajy:lg→List (Nat×Entry)
 |(_,_,_,y3,y4)=> [(0,(.row false 173 aiq y3)),(1,(.row true 2 ajn y4))]
def aj0:Nat→lg→List (Nat×SV)
 |_,(_,_,_,_,_)=> [(5,(.one ⟨false,[.ref 1]⟩))]
def ajR:Nat→lg→List (Nat×Entry)
 |_,(_,_,_,y3,y4)=> [(0,(.row false 173 aiq y3)),(1,(.row true 2 ajn y4))]
def Dc:lg→LT lg
 |(y0,y1,y2,y3,y4)=> .ite (EW y0 y1) (.need [EX y0,EY y0 y3,EZ y0 y3] (.need [Fa y0 y2 y3 y4,Fb y0 y2 y3 y4] (.ite (Fc y0 y2 y3) (.nrm ((yX y0),y1,y2,y3,(Fd y0 y4)) [(0,0),(1,960)]) (.nrm ((yX y0),y1,y2,y3,y4) [(0,0),(1,1)])))) (.ext 0 [(0,0),(1,1)])
def Ra(s:St):Option lg:=
 (match s.look 10 with
 |some ⟨none,.one ⟨false,[.val (.int .i64 y0)]⟩⟩=>
 (match s.look 9 with
 |some ⟨none,.one ⟨false,[.val (.int .i64 y1)]⟩⟩=>
 (match s.look 8 with
 |some ⟨none,.one ⟨false,[.ref 0]⟩⟩=>
 (match s.look 1 with
 |some ⟨none,.one ⟨false,[.val (.int .i64 y2)]⟩⟩=>
 (match s.look 5 with
 |some ⟨none,.one ⟨false,[.ref 192]⟩⟩=>
 (match s.ent 0 with
 |some (.row false 173 (.pair (.int .i64) (.int .i64)) y3)=>
 (match s.ent 192 with
 |some (.row true 2 (.int .i64) y4)=>
 some (y0,y1,y2,y3,y4)
 |_=>none)
 |_=>none)
 |_=>none)
 |_=>none)
 |_=>none)
 |_=>none)
 |_=>none)
def fG:Lp lg where
 h:=⟨[11,12,13,14,7,6,15,16,17,18,19,20,21,22,5,23,10],[0],[1],[]⟩
 JL:=ajH
 JE:=ajy
 XL:=aj0
 XE:=ajR
 q:=fun j=>match j with | _=> .exit 0
 tags:= [0]
 lt:=Dc
 fuel:=fun(y0,y1,y2,y3,y4)=>y0.natAbs + y1.natAbs + y2.natAbs + y3.length + y4.length
 fix:=fun(_,y1,y2,y3,_) (y0,_,_,_,y4)=>(y0,y1,y2,y3,y4)
 σ:= [(0,0),(1,192)]
 rd:=Ra
theorem ahe:LoopOk prog (fun k=>Nat.blt k Tryz.f234.ntmps) fG.F (aK f234 0):=by
 refine Lp.ok (tbl:= [Eb]) (lf:= []) aO fG (by kernel_rfl) (LOk.nil _) (fun _=>rfl) (fun _ _=>rfl) ?_ ?_ ?_ ?_ (fun _=>rfl) ?_
 ·rintro⟨y0,y1,y2,y3,y4⟩;kernel_rfl
 ·rintro⟨y0,y1,y2,y3,y4⟩;kernel_rfl
 ·intro s x h
  have h:Ra s=some x:=h
  unfold Ra at h
  repeat' split at h
  all_goals cases h
  exact⟨aa (by assumption) rfl (aa (by assumption) rfl (aa (by assumption) rfl (aa (by assumption) rfl (aa (by assumption) rfl (rfl))))),ab rfl (by assumption) rfl (ab rfl (by assumption) rfl (rfl))⟩
 ·rintro⟨y0,y1,y2,y3,y4⟩;kernel_rfl
 ·rintro⟨y0,y1,y2,y3,y4⟩ z;exact(And.intro (And.intro rfl rfl) trivial)
section
variable (x0:Int)(x1:List (Int×Int))
def Qz:Int×Int×Int×List (Int×Int)×List Int:=((0:Int),(↑x1.length:Int),x0,x1,[])
def Sr:List Int:=(Lp.res fG (Qz x0 x1)).2.2.2.2.2
def Ss:Bool:=allT [Lp.fin fG (Qz x0 x1)]
end
def af3:List SV→List Entry→Option Out
 | [.one ⟨false,[.ref 0]⟩,.one ⟨false,[.val (.int .i64 x0)]⟩],[.row false 173 (.pair (.int .i64) (.int .i64)) x1]=>some ⟨.one ⟨false,[.ref 1]⟩,[.row false 173 aiq x1],[.row true 2 ajn (Sr x0 x1)],[Ss x0 x1]⟩
 |_,_=>none
def YV:PF prog:=PF.ofG prog [Eb] [fG.F] aO 234 f234 func234 (LOk.fnT (l:= [aK f234 0]) (by kernel_rfl) (.cons ahe (.nil _))) af3 (by
 intro vs es r h;unfold af3 at h;split at h
 ·cases h;kernel_rfl
 ·cases h)
section
variable (x0:Int)(x1 x2:List (Int×Int))
def SU:Bool:=(bif bif okPl x1 then okLk x2 else false then zK x0 else false)&&true
def Uz:Bool:=bif bif bif bif okPl x1 then okLk x2 else false then zK x0 else false then(↑(List.length (bif SU x0 x1 x2 then Sr x0 x1 else [])):Int)==(0:Int)else false then(↑x2.length:Int)==(0:Int)else false
def UA:Bool:=allT [leN x1.length (9223372036854775807:Nat),!(okPl x1&&true)||leN x2.length (9223372036854775807:Nat),!SU x0 x1 x2||Ss x0 x1]
end
def ab1:List SV→List Entry→Option Out
 | [.one ⟨false,[.ref 0]⟩,.one ⟨false,[.ref 1]⟩,.one ⟨false,[.val (.int .i64 x0)]⟩],[.row false 173 (.pair (.int .i64) (.int .i64)) x1,.row false 176 (.pair (.int .i64) (.int .i64)) x2]=>some ⟨.one ⟨false,[.val (.bool (Uz x0 x1 x2))]⟩,[.row false 173 aiq x1,.row false 176 aiq x2],[],[UA x0 x1 x2]⟩
 |_,_=>none
def ane:PF prog:=PF.ofG prog [YV,PF.lend YV,PF.fz YV,zO,PF.lend zO,PF.fz zO,tV,PF.lend tV,PF.fz tV,UV] [] aO 207 f207 func207 (fun c _=>LOk.nil c) ab1 (by
 intro vs es r h;unfold ab1 at h;split at h
 ·cases h;kernel_rfl
 ·cases h)
section
variable (x0 x1:Int)(x2:Bool)(x3:Int)
def gi:Bool:=jj x0 x1 x2 x3==(0:Int)
def pZ:Int:=bif gi x0 x1 x2 x3 then ((Option.getD aoB[Int.toNat x0]? ((0:Int),(0:Int),(0:Int),false)).2).1else x3
def qa:Bool:=allT [jk x0 x3,!gi x0 x1 x2 x3||leI (0:Int) x0,!gi x0 x1 x2 x3||ltI x0 (↑(List.length aoB):Int),!gi x0 x1 x2 x3||ltN x0.toNat (List.length aoB)]
end
def zv:List SV→List Entry→Option Out
 | [.one ⟨true,[.val (.int .i64 x0),.val (.int .i64 x1),.val (.bool x2)]⟩,.one ⟨false,[.val (.int .i64 x3)]⟩],[]=>some ⟨.one ⟨false,[.val (.int .i64 (pZ x0 x1 x2 x3))]⟩,[],[],[qa x0 x1 x2 x3]⟩
 |_,_=>none
def OE:PF prog:=PF.ofG prog [wI] [] aO 208 f208 func208 (fun c _=>LOk.nil c) zv (by
 intro vs es r h;unfold zv at h;split at h
 ·cases h;kernel_rfl
 ·cases h)
abbrev jA:=Int×List Int×List Int
section
variable (y0:Int)(y1:List Int)
def pp:List Int:= [IntKind.wrap .i64 (Int.tdiv (Option.getD y1[Int.toNat y0]? (0:Int)) (2:Int))]
def vm:Bool:=ltI y0 (↑y1.length:Int)
def Bz:Bool:=leI (0:Int) y0
def BA:Bool:=ltN y0.toNat y1.length
end
def BB:Bool:=neI (2:Int) (0:Int)
section
variable (y0:Int)(y1 y2:List Int)
def BC:Bool:=leN (List.length y2 + List.length (pp y0 y1)) (9223372036854775807:Nat)
def BD:Bool:=leN ((List.length y2 + List.length (pp y0 y1)) * (8:Nat)) (140737488355328:Nat)
def BE:Int:=IntKind.wrap .i64 (y0 + (1:Int))
def BF:List Int:=y2++pp y0 y1
end
def agP:jA→List (Nat×SV)
 |(y0,_,_)=> [(8,(.one ⟨false,[.val (.int .i64 y0)]⟩)),(0,(.one ⟨false,[.ref 0]⟩)),(7,(.one ⟨false,[.ref 1]⟩))]
def agF:jA→List (Nat×Entry)
 |(_,y1,y2)=> [(0,(.row false 2 ajn y1)),(1,(.row true 2 ajn y2))]
def ag9:Nat→jA→List (Nat×SV)
 |_,(_,_,_)=> [(7,(.one ⟨false,[.ref 1]⟩))]
def agZ:Nat→jA→List (Nat×Entry)
 |_,(_,y1,y2)=> [(0,(.row false 2 ajn y1)),(1,(.row true 2 ajn y2))]
def yK:jA→LT jA
 |(y0,y1,y2)=> .ite (vm y0 y1) (.need [Bz y0,vm y0 y1,BA y0 y1,BB,BC y0 y1 y2,BD y0 y1 y2] (.nrm ((BE y0),y1,(BF y0 y1 y2)) [(0,0),(1,768)])) (.ext 0 [(0,0),(1,1)])
def NS(s:St):Option jA:=
 (match s.look 8 with
 |some ⟨none,.one ⟨false,[.val (.int .i64 y0)]⟩⟩=>
 (match s.look 0 with
 |some ⟨none,.one ⟨false,[.ref 0]⟩⟩=>
 (match s.look 7 with
 |some ⟨none,.one ⟨false,[.ref 256]⟩⟩=>
 (match s.ent 0 with
 |some (.row false 2 (.int .i64) y1)=>
 (match s.ent 256 with
 |some (.row true 2 (.int .i64) y2)=>
 some (y0,y1,y2)
 |_=>none)
 |_=>none)
 |_=>none)
 |_=>none)
 |_=>none)
def cw:Lp jA where
 h:=⟨[11,12,13,14,17,18,19,20,21,22,23,24,7,15,16,8],[0],[1],[]⟩
 JL:=agP
 JE:=agF
 XL:=ag9
 XE:=agZ
 q:=fun j=>match j with | _=> .exit 0
 tags:= [0]
 lt:=yK
 fuel:=fun(y0,y1,y2)=>y0.natAbs + y1.length + y2.length
 fix:=fun(_,y1,_) (y0,_,y2)=>(y0,y1,y2)
 σ:= [(0,0),(1,256)]
 rd:=NS
theorem aeR:LoopOk prog (fun k=>Nat.blt k Tryz.f242.ntmps) cw.F (aK f242 0):=by
 refine Lp.ok (tbl:= []) (lf:= []) aO cw (by kernel_rfl) (LOk.nil _) (fun _=>rfl) (fun _ _=>rfl) ?_ ?_ ?_ ?_ (fun _=>rfl) ?_
 ·rintro⟨y0,y1,y2⟩;kernel_rfl
 ·rintro⟨y0,y1,y2⟩;kernel_rfl
 ·intro s x h
  have h:NS s=some x:=h
  unfold NS at h
  repeat' split at h
  all_goals cases h
  exact⟨aa (by assumption) rfl (aa (by assumption) rfl (aa (by assumption) rfl (rfl))),ab rfl (by assumption) rfl (ab rfl (by assumption) rfl (rfl))⟩
 ·rintro⟨y0,y1,y2⟩;kernel_rfl
 ·rintro⟨y0,y1,y2⟩ z;exact(And.intro rfl trivial)
abbrev jB:=Int×Int×List (Int×(Int×Int))×List Int
section
variable (y0 y1:Int)(y2:List (Int×(Int×Int)))(y3:List Int)
def iP:Int×Int×Int:=Option.getD y2[Int.toNat y0]? ((0:Int),(0:Int),(0:Int))
def gC:Bool:=((iP y0 y2).2).1==y1
def vn:Bool:=ltI y0 (↑y2.length:Int)
def BG:Bool:=leI (0:Int) y0
def BH:Bool:=ltN y0.toNat y2.length
def vo:Bool:= !gC y0 y1 y2||leI (0:Int) y0
def vp:Bool:= !gC y0 y1 y2||ltI y0 (↑y2.length:Int)
def vq:Bool:= !gC y0 y1 y2||ltN y0.toNat y2.length
def BI:Bool:= !gC y0 y1 y2||leI (0:Int) ((iP y0 y2).1)
def BJ:Bool:= !gC y0 y1 y2||ltI ((iP y0 y2).1) (↑y3.length:Int)
def BK:Bool:= !gC y0 y1 y2||ltN (Int.toNat ((iP y0 y2).1)) y3.length
def BL:Int:=IntKind.wrap .i64 (y0 + (1:Int))
def yS:List Int:=bif gC y0 y1 y2 then List.set y3 (Int.toNat ((iP y0 y2).1)) ((iP y0 y2).2.2)else y3
end
def agQ:jB→List (Nat×SV)
 |(y0,y1,_,_)=> [(9,(.one ⟨false,[.val (.int .i64 y0)]⟩)),(1,(.one ⟨false,[.ref 0]⟩)),(2,(.one ⟨false,[.val (.int .i64 y1)]⟩)),(7,(.one ⟨false,[.ref 1]⟩))]
def agG:jB→List (Nat×Entry)
 |(_,_,y2,y3)=> [(0,(.row false 100 adk y2)),(1,(.row true 2 ajn y3))]
def aha:Nat→jB→List (Nat×SV)
 |_,(_,_,_,_)=> []
def ag0:Nat→jB→List (Nat×Entry)
 |_,(_,_,y2,y3)=> [(0,(.row false 100 adk y2)),(1,(.row true 2 ajn y3))]
def yL:jB→LT jB
 |(y0,y1,y2,y3)=> .ite (vn y0 y2) (.need [BG y0,vn y0 y2,BH y0 y2] (.need [vo y0 y1 y2,vp y0 y1 y2,vq y0 y1 y2,vo y0 y1 y2,vp y0 y1 y2,vq y0 y1 y2,BI y0 y1 y2,BJ y0 y1 y2 y3,BK y0 y1 y2 y3] (.nrm ((BL y0),y1,y2,(yS y0 y1 y2 y3)) [(0,0),(1,1)]))) (.ext 0 [(0,0),(1,1)])
def NT(s:St):Option jB:=
 (match s.look 9 with
 |some ⟨none,.one ⟨false,[.val (.int .i64 y0)]⟩⟩=>
 (match s.look 1 with
 |some ⟨none,.one ⟨false,[.ref 1]⟩⟩=>
 (match s.look 2 with
 |some ⟨none,.one ⟨false,[.val (.int .i64 y1)]⟩⟩=>
 (match s.look 7 with
 |some ⟨none,.one ⟨false,[.ref 448]⟩⟩=>
 (match s.ent 1 with
 |some (.row false 100 (.pair (.int .i64) (.pair (.int .i64) (.int .i64))) y2)=>
 (match s.ent 448 with
 |some (.row true 2 (.int .i64) y3)=>
 some (y0,y1,y2,y3)
 |_=>none)
 |_=>none)
 |_=>none)
 |_=>none)
 |_=>none)
 |_=>none)
def cZ:Lp jB where
 h:=⟨[25,26,27,28,31,32,33,34,35,36,37,38,39,40,41,42,43,44,45,46,47,48,49,29,30,9],[0,1],[],[]⟩
 JL:=agQ
 JE:=agG
 XL:=aha
 XE:=ag0
 q:=fun j=>match j with | _=> .exit 2
 tags:= [0]
 lt:=yL
 fuel:=fun(y0,y1,y2,y3)=>y0.natAbs + y1.natAbs + y2.length + y3.length
 fix:=fun(_,y1,y2,_) (y0,_,_,y3)=>(y0,y1,y2,y3)
 σ:= [(0,1),(1,448)]
 rd:=NT
theorem aeS:LoopOk prog (fun k=>Nat.blt k Tryz.f242.ntmps) cZ.F (aK f242 1):=by
 refine Lp.ok (tbl:= []) (lf:= []) aO cZ (by kernel_rfl) (LOk.nil _) (fun _=>rfl) (fun _ _=>rfl) ?_ ?_ ?_ ?_ (fun _=>rfl) ?_
 ·rintro⟨y0,y1,y2,y3⟩;kernel_rfl
 ·rintro⟨y0,y1,y2,y3⟩;kernel_rfl
 ·intro s x h
  have h:NT s=some x:=h
  unfold NT at h
  repeat' split at h
  all_goals cases h
  exact⟨aa (by assumption) rfl (aa (by assumption) rfl (aa (by assumption) rfl (aa (by assumption) rfl (rfl)))),ab rfl (by assumption) rfl (ab rfl (by assumption) rfl (rfl))⟩
 ·rintro⟨y0,y1,y2,y3⟩;kernel_rfl
 ·rintro⟨y0,y1,y2,y3⟩ z;exact(And.intro rfl trivial)
section
variable (x0:Int)(x1:List Int)(x2:List (Int×Int×Int))
def Gc:Int×List Int×List Int:=((0:Int),x1,[])
def Gd:Int×Int×List (Int×Int×Int)×List Int:=((0:Int),x0,x2,(Lp.res cw (Gc x1)).2.2.2)
def HN:List Int:=(Lp.res cZ (Gd x0 x1 x2)).2.2.2.2
def HO:Bool:=allT [Lp.fin cw (Gc x1),Lp.fin cZ (Gd x0 x1 x2)]
end
def acd:List SV→List Entry→Option Out
 | [.one ⟨false,[.ref 0]⟩,.one ⟨false,[.ref 1]⟩,.one ⟨false,[.val (.int .i64 x0)]⟩],[.row false 2 (.int .i64) x1,.row false 100 (.pair (.int .i64) (.pair (.int .i64) (.int .i64))) x2]=>some ⟨.one ⟨false,[.ref 2]⟩,[.row false 2 ajn x1,.row false 100 adk x2],[.row true 2 ajn (HN x0 x1 x2)],[HO x0 x1 x2]⟩
 |_,_=>none
def Vb:PF prog:=PF.ofG prog [] [cw.F,cZ.F] aO 242 f242 func242 (LOk.fnT (l:= [aK f242 0,aK f242 1]) (by kernel_rfl) (.cons aeR (.cons aeS (.nil _)))) acd (by
 intro vs es r h;unfold acd at h;split at h
 ·cases h;kernel_rfl
 ·cases h)
section
variable (x0:List Int)(x1:List (Int×Int×Int))
def HI:Int:=bif !areR x0 then(1:Int)else bif !lfOk (↑x0.length:Int) x1 then(2:Int)else(0:Int)
def HJ:List Int:=bif !areR x0 then []else bif !lfOk (↑x0.length:Int) x1 then []else HN (0:Int) x0 x1
def HK:List Int:=bif !areR x0 then []else bif !lfOk (↑x0.length:Int) x1 then []else HN (1:Int) x0 x1
def Oj:Bool:=allT [leN x0.length (9223372036854775807:Nat),!areR x0||leN x1.length (9223372036854775807:Nat),!areR x0||(!lfOk (↑x0.length:Int) x1||HO (0:Int) x0 x1),!areR x0||(!lfOk (↑x0.length:Int) x1||HO (1:Int) x0 x1)]
end
def ab8:List SV→List Entry→Option Out
 | [.one ⟨false,[.ref 0]⟩,.one ⟨false,[.ref 1]⟩],[.row false 2 (.int .i64) x0,.row false 100 (.pair (.int .i64) (.pair (.int .i64) (.int .i64))) x1]=>some ⟨.tup [⟨true,[.ref 2,.ref 3]⟩,⟨false,[.val (.int .i64 (HI x0 x1))]⟩],[.row false 2 ajn x0,.row false 100 adk x1],[.row true 2 ajn (HJ x0 x1),.row true 2 ajn (HK x0 x1)],[Oj x0 x1]⟩
 |_,_=>none
def UY:PF prog:=PF.ofG prog [Vb,PF.lend Vb,PF.fz Vb,kL,PF.lend kL,PF.fz kL,kK,PF.lend kK,PF.fz kK] [] aO 236 f236 func236 (fun c _=>LOk.nil c) ab8 (by
 intro vs es r h;unfold ab8 at h;split at h
 ·cases h;kernel_rfl
 ·cases h)
abbrev oq:=Int×Int×List Int
section
variable (y0 y1:Int)(y2:List Int)
def Er:Bool:=ltI y0 (↑y2.length:Int)
def KH:Bool:=leI (0:Int) y0
def KI:Bool:=ltN y0.toNat y2.length
def KJ:Int:=IntKind.wrap .i64 (y0 + (1:Int))
def KK:Int:=IntKind.wrap .i64 (y1 + Option.getD y2[Int.toNat y0]? (0:Int))
end
def amk:oq→List (Nat×SV)
 |(y0,y1,_)=> [(4,(.one ⟨false,[.val (.int .i64 y0)]⟩)),(0,(.one ⟨false,[.ref 0]⟩)),(3,(.one ⟨false,[.val (.int .i64 y1)]⟩))]
def amb:oq→List (Nat×Entry)
 |(_,_,y2)=> [(0,(.row false 2 ajn y2))]
def amC:Nat→oq→List (Nat×SV)
 |_,(_,y1,_)=> [(3,(.one ⟨false,[.val (.int .i64 y1)]⟩))]
def amt:Nat→oq→List (Nat×Entry)
 |_,(_,_,y2)=> [(0,(.row false 2 ajn y2))]
def HA:oq→LT oq
 |(y0,y1,y2)=> .ite (Er y0 y2) (.need [KH y0,Er y0 y2,KI y0 y2] (.nrm ((KJ y0),KK y0 y1 y2,y2) [(0,0)])) (.ext 0 [(0,0)])
def Vn(s:St):Option oq:=
 (match s.look 4 with
 |some ⟨none,.one ⟨false,[.val (.int .i64 y0)]⟩⟩=>
 (match s.look 0 with
 |some ⟨none,.one ⟨false,[.ref 0]⟩⟩=>
 (match s.look 3 with
 |some ⟨none,.one ⟨false,[.val (.int .i64 y1)]⟩⟩=>
 (match s.ent 0 with
 |some (.row false 2 (.int .i64) y2)=>
 some (y0,y1,y2)
 |_=>none)
 |_=>none)
 |_=>none)
 |_=>none)
def iD:Lp oq where
 h:=⟨[5,6,7,8,11,12,13,14,15,16,3,9,10,4],[0],[],[]⟩
 JL:=amk
 JE:=amb
 XL:=amC
 XE:=amt
 q:=fun j=>match j with | _=> .exit 0
 tags:= [0]
 lt:=HA
 fuel:=fun(y0,y1,y2)=>y0.natAbs + y1.natAbs + y2.length
 fix:=fun(_,_,y2) (y0,y1,_)=>(y0,y1,y2)
 σ:= [(0,0)]
 rd:=Vn
theorem akd:LoopOk prog (fun k=>Nat.blt k Tryz.f237.ntmps) iD.F (aK f237 0):=by
 refine Lp.ok (tbl:= []) (lf:= []) aO iD (by kernel_rfl) (LOk.nil _) (fun _=>rfl) (fun _ _=>rfl) ?_ ?_ ?_ ?_ (fun _=>rfl) ?_
 ·rintro⟨y0,y1,y2⟩;kernel_rfl
 ·rintro⟨y0,y1,y2⟩;kernel_rfl
 ·intro s x h
  have h:Vn s=some x:=h
  unfold Vn at h
  repeat' split at h
  all_goals cases h
  exact⟨aa (by assumption) rfl (aa (by assumption) rfl (aa (by assumption) rfl (rfl))),ab rfl (by assumption) rfl (rfl)⟩
 ·rintro⟨y0,y1,y2⟩;kernel_rfl
 ·rintro⟨y0,y1,y2⟩ z;exact(And.intro rfl trivial)
section
variable (x0:List Int)
def VD:Int×Int×List Int:=((0:Int),(0:Int),x0)
def RK:Int:=((Lp.res iD (VD x0)).2.2).1
def RL:Bool:=allT [Lp.fin iD (VD x0)]
end
def akw:List SV→List Entry→Option Out
 | [.one ⟨false,[.ref 0]⟩],[.row false 2 (.int .i64) x0]=>some ⟨.one ⟨false,[.val (.int .i64 (RK x0))]⟩,[.row false 2 ajn x0],[],[RL x0]⟩
 |_,_=>none
def adz:PF prog:=PF.ofG prog [] [iD.F] aO 237 f237 func237 (LOk.fnT (l:= [aK f237 0]) (by kernel_rfl) (.cons akd (.nil _))) akw (by
 intro vs es r h;unfold akw at h;split at h
 ·cases h;kernel_rfl
 ·cases h)
section
variable (x0:List Int)(x1:List (Int×Int×Int))
def GR:Bool:=HI x0 x1 !=(0:Int)
def abe:Bool:=bif GR x0 x1 then false else IntKind.wrap .i64 (RK (HJ x0 x1) + RK (HK x0 x1))==IntKind.wrap .i64 ((2:Int) * (↑x0.length:Int))
def abf:Int:=bif GR x0 x1 then HI x0 x1 else(0:Int)
def abg:Bool:=allT [Oj x0 x1,GR x0 x1||RL (HJ x0 x1),GR x0 x1||RL (HK x0 x1)]
end
def ahr:List SV→List Entry→Option Out
 | [.one ⟨false,[.ref 0]⟩,.one ⟨false,[.ref 1]⟩],[.row false 2 (.int .i64) x0,.row false 100 (.pair (.int .i64) (.pair (.int .i64) (.int .i64))) x1]=>some ⟨.tup [⟨false,[.val (.bool (abe x0 x1))]⟩,⟨false,[.val (.int .i64 (abf x0 x1))]⟩],[.row false 2 ajn x0,.row false 100 adk x1],[],[abg x0 x1]⟩
 |_,_=>none
def aqC:PF prog:=PF.ofG prog [UY,PF.lend UY,PF.fz UY,adz,PF.lend adz,PF.fz adz] [] aO 220 f220 func220 (fun c _=>LOk.nil c) ahr (by
 intro vs es r h;unfold ahr at h;split at h
 ·cases h;kernel_rfl
 ·cases h)
abbrev mN:=Int×Int×List Int×List Int
section
variable (y0 y1:Int)(y2 y3:List Int)
def HP:Bool:=ltI y0 (↑y2.length:Int)
def HQ:Bool:=leN (List.length y3 + List.length [y1]) (9223372036854775807:Nat)
def HR:Bool:=leN ((List.length y3 + List.length [y1]) * (8:Nat)) (140737488355328:Nat)
def HS:Int:=IntKind.wrap .i64 (y0 + (1:Int))
def HT:List Int:=y3++ [y1]
end
def ak5:mN→List (Nat×SV)
 |(y0,y1,_,_)=> [(6,(.one ⟨false,[.val (.int .i64 y0)]⟩)),(0,(.one ⟨false,[.ref 0]⟩)),(5,(.one ⟨false,[.ref 1]⟩)),(1,(.one ⟨false,[.val (.int .i64 y1)]⟩))]
def akX:mN→List (Nat×Entry)
 |(_,_,y2,y3)=> [(0,(.row false 2 ajn y2)),(1,(.row true 2 ajn y3))]
def alm:Nat→mN→List (Nat×SV)
 |_,(_,_,_,_)=> [(5,(.one ⟨false,[.ref 1]⟩))]
def ald:Nat→mN→List (Nat×Entry)
 |_,(_,_,y2,y3)=> [(0,(.row false 2 ajn y2)),(1,(.row true 2 ajn y3))]
def FH:mN→LT mN
 |(y0,y1,y2,y3)=> .ite (HP y0 y2) (.need [HQ y1 y3,HR y1 y3] (.nrm ((HS y0),y1,y2,(HT y1 y3)) [(0,0),(1,512)])) (.ext 0 [(0,0),(1,1)])
def Tm(s:St):Option mN:=
 (match s.look 6 with
 |some ⟨none,.one ⟨false,[.val (.int .i64 y0)]⟩⟩=>
 (match s.look 0 with
 |some ⟨none,.one ⟨false,[.ref 0]⟩⟩=>
 (match s.look 5 with
 |some ⟨none,.one ⟨false,[.ref 192]⟩⟩=>
 (match s.look 1 with
 |some ⟨none,.one ⟨false,[.val (.int .i64 y1)]⟩⟩=>
 (match s.ent 0 with
 |some (.row false 2 (.int .i64) y2)=>
 (match s.ent 192 with
 |some (.row true 2 (.int .i64) y3)=>
 some (y0,y1,y2,y3)
 |_=>none)
 |_=>none)
 |_=>none)
 |_=>none)
 |_=>none)
 |_=>none)
def gK:Lp mN where
 h:=⟨[8,9,10,11,14,15,16,17,5,12,13,6],[0],[1],[]⟩
 JL:=ak5
 JE:=akX
 XL:=alm
 XE:=ald
 q:=fun j=>match j with | _=> .exit 0
 tags:= [0]
 lt:=FH
 fuel:=fun(y0,y1,y2,y3)=>y0.natAbs + y1.natAbs + y2.length + y3.length
 fix:=fun(_,y1,y2,_) (y0,_,_,y3)=>(y0,y1,y2,y3)
 σ:= [(0,0),(1,192)]
 rd:=Tm
theorem aiC:LoopOk prog (fun k=>Nat.blt k Tryz.f223.ntmps) gK.F (aK f223 0):=by
 refine Lp.ok (tbl:= []) (lf:= []) aO gK (by kernel_rfl) (LOk.nil _) (fun _=>rfl) (fun _ _=>rfl) ?_ ?_ ?_ ?_ (fun _=>rfl) ?_
 ·rintro⟨y0,y1,y2,y3⟩;kernel_rfl
 ·rintro⟨y0,y1,y2,y3⟩;kernel_rfl
 ·intro s x h
  have h:Tm s=some x:=h
  unfold Tm at h
  repeat' split at h
  all_goals cases h
  exact⟨aa (by assumption) rfl (aa (by assumption) rfl (aa (by assumption) rfl (aa (by assumption) rfl (rfl)))),ab rfl (by assumption) rfl (ab rfl (by assumption) rfl (rfl))⟩
 ·rintro⟨y0,y1,y2,y3⟩;kernel_rfl
 ·rintro⟨y0,y1,y2,y3⟩ z;exact(And.intro rfl trivial)
section
variable (x0:Int)(x1:List Int)
def SG:Int×Int×List Int×List Int:=((0:Int),x0,x1,[])
def PP:List Int:=(Lp.res gK (SG x0 x1)).2.2.2.2
def PQ:Bool:=allT [Lp.fin gK (SG x0 x1)]
end
def ahz:List SV→List Entry→Option Out
 | [.one ⟨false,[.ref 0]⟩,.one ⟨false,[.val (.int .i64 x0)]⟩],[.row false 2 (.int .i64) x1]=>some ⟨.one ⟨false,[.ref 1]⟩,[.row false 2 ajn x1],[.row true 2 ajn (PP x0 x1)],[PQ x0 x1]⟩
 |_,_=>none
def aa2:PF prog:=PF.ofG prog [] [gK.F] aO 223 f223 func223 (LOk.fnT (l:= [aK f223 0]) (by kernel_rfl) (.cons aiC (.nil _))) ahz (by
 intro vs es r h;unfold ahz at h;split at h
 ·cases h;kernel_rfl
 ·cases h)
section
variable (x0 x1:Int)(x2:List Int)
def Eu:Int:=Option.getD x2[Int.toNat x1]? (0:Int)
def Ev:Bool:= !x0==(0:Int)||leI (0:Int) x1
def Ew:Bool:= !x0==(0:Int)||ltI x1 (↑x2.length:Int)
def Ey:Bool:= !x0==(0:Int)||ltN x1.toNat x2.length
def Ez:Bool:=x0==(0:Int)||(!x0==(1:Int)||leI (0:Int) x1)
def EA:Bool:=x0==(0:Int)||(!x0==(1:Int)||ltI x1 (↑x2.length:Int))
def EB:Bool:=x0==(0:Int)||(!x0==(1:Int)||ltN x1.toNat x2.length)
def GW:Bool:=bif x0==(0:Int)then Eu x1 x2==(0:Int)else bif x0==(1:Int)then Eu x1 x2==(1:Int)else bif x0==(2:Int)then leI (1:Int) (CI x2)else CI x2==(2:Int)
def GX:List Int:=bif x0==(0:Int)then List.set x2 x1.toNat (1:Int)else bif x0==(1:Int)then List.set x2 x1.toNat (0:Int)else bif x0==(2:Int)then PP (2:Int) x2 else PP (1:Int) x2
def GY:Bool:=allT [leN x2.length (1048576:Nat),Ev x0 x1,Ew x0 x1 x2,Ey x0 x1 x2,Ev x0 x1,Ew x0 x1 x2,Ey x0 x1 x2,Ez x0 x1,EA x0 x1 x2,EB x0 x1 x2,Ez x0 x1,EA x0 x1 x2,EB x0 x1 x2,x0==(0:Int)||(x0==(1:Int)||(!x0==(2:Int)||PQ (2:Int) x2)),x0==(0:Int)||(x0==(1:Int)||(!x0==(2:Int)||Na x2)),x0==(0:Int)||(x0==(1:Int)||(x0==(2:Int)||PQ (1:Int) x2)),x0==(0:Int)||(x0==(1:Int)||(x0==(2:Int)||Na x2))]
end
def af8:List SV→List Entry→Option Out
 | [.one ⟨false,[.ref 0]⟩,.one ⟨true,[.val (.int .i64 x0),.val (.int .i64 x1)]⟩],[.row false 2 (.int .i64) x2]=>some ⟨.tup [⟨false,[.ref 1]⟩,⟨false,[.val (.bool (GW x0 x1 x2))]⟩],[.row false 2 ajn x2],[.row true 2 ajn (GX x0 x1 x2)],[GY x0 x1 x2]⟩
 |_,_=>none
def apA:PF prog:=PF.ofG prog [YW,PF.lend YW,PF.fz YW,rP,PF.lend rP,PF.fz rP,aa2,PF.lend aa2,PF.fz aa2] [] aO 179 f179 func179 (fun c _=>LOk.nil c) af8 (by
 intro vs es r h;unfold af8 at h;split at h
 ·cases h;kernel_rfl
 ·cases h)
abbrev oo:=Int×Int×List Int
section
variable (y0 y1:Int)(y2:List Int)
def Ep:Bool:=ltI y0 (↑y2.length:Int)
def KD:Bool:=leI (0:Int) y0
def KE:Bool:=ltN y0.toNat y2.length
def KF:Bool:=Option.getD y2[Int.toNat y0]? (0:Int)==y1
def KG:Int:=IntKind.wrap .i64 (y0 + (1:Int))
end
def amj:oo→List (Nat×SV)
 |(y0,y1,_)=> [(5,(.one ⟨false,[.val (.int .i64 y0)]⟩)),(0,(.one ⟨false,[.ref 0]⟩)),(1,(.one ⟨false,[.val (.int .i64 y1)]⟩))]
def ama:oo→List (Nat×Entry)
 |(_,_,y2)=> [(0,(.row false 2 ajn y2))]
def amB:Nat→oo→List (Nat×SV)
 |0,(_,_,_)=> [(4,(.one ⟨false,[.val (.bool true)]⟩))]
 |_,(_,_,_)=> []
def ams:Nat→oo→List (Nat×Entry)
 |0,(_,_,y2)=> [(0,(.row false 2 ajn y2))]
 |_,(_,_,y2)=> [(0,(.row false 2 ajn y2))]
def Hz:oo→LT oo
 |(y0,y1,y2)=> .ite (Ep y0 y2) (.need [KD y0,Ep y0 y2,KE y0 y2] (.ite (KF y0 y1 y2) (.ext 0 [(0,0)]) (.nrm ((KG y0),y1,y2) [(0,0)]))) (.ext 1 [(0,0)])
def Vm(s:St):Option oo:=
 (match s.look 5 with
 |some ⟨none,.one ⟨false,[.val (.int .i64 y0)]⟩⟩=>
 (match s.look 0 with
 |some ⟨none,.one ⟨false,[.ref 0]⟩⟩=>
 (match s.look 1 with
 |some ⟨none,.one ⟨false,[.val (.int .i64 y1)]⟩⟩=>
 (match s.ent 0 with
 |some (.row false 2 (.int .i64) y2)=>
 some (y0,y1,y2)
 |_=>none)
 |_=>none)
 |_=>none)
 |_=>none)
def gG:Lp oo where
 h:=⟨[6,7,8,9,12,13,14,15,16,17,4,10,11,5],[0],[],[]⟩
 JL:=amj
 JE:=ama
 XL:=amB
 XE:=ams
 q:=fun j=>match j with | 0=> .ret | _=> .exit 0
 tags:= [0,1]
 lt:=Hz
 fuel:=fun(y0,y1,y2)=>y0.natAbs + y1.natAbs + y2.length
 fix:=fun(_,y1,y2) (y0,_,_)=>(y0,y1,y2)
 σ:= [(0,0)]
 rd:=Vm
theorem akc:LoopOk prog (fun k=>Nat.blt k Tryz.f224.ntmps) gG.F (aK f224 0):=by
 refine Lp.ok (tbl:= []) (lf:= []) aO gG (by kernel_rfl) (LOk.nil _) (fun _=>rfl) (fun j _=>by unfold gG;match j with | 0=>rfl | _ + 1=>rfl) ?_ ?_ ?_ ?_ (fun _=>rfl) ?_
 ·rintro⟨y0,y1,y2⟩;kernel_rfl
 ·rintro⟨y0,y1,y2⟩;kernel_rfl
 ·intro s x h
  have h:Vm s=some x:=h
  unfold Vm at h
  repeat' split at h
  all_goals cases h
  exact⟨aa (by assumption) rfl (aa (by assumption) rfl (aa (by assumption) rfl (rfl))),ab rfl (by assumption) rfl (rfl)⟩
 ·rintro⟨y0,y1,y2⟩;kernel_rfl
 ·rintro⟨y0,y1,y2⟩ z;exact(And.intro (And.intro trivial rfl) trivial)
section
variable (x0:Int)(x1:List Int)
def abj:Int×Int×List Int:=((0:Int),x0,x1)
def XC:Bool:=bif Nat.beq ((Lp.res gG (abj x0 x1)).1) (0:Nat)then true else false
def XD:Bool:=allT [Lp.fin gG (abj x0 x1)]
end
def aku:List SV→List Entry→Option Out
 | [.one ⟨false,[.ref 0]⟩,.one ⟨false,[.val (.int .i64 x0)]⟩],[.row false 2 (.int .i64) x1]=>some ⟨.one ⟨false,[.val (.bool (XC x0 x1))]⟩,[.row false 2 ajn x1],[],[XD x0 x1]⟩
 |_,_=>none
def ady:PF prog:=PF.ofG prog [] [gG.F] aO 224 f224 func224 (LOk.fnT (l:= [aK f224 0]) (by kernel_rfl) (.cons akc (.nil _))) aku (by
 intro vs es r h;unfold aku at h;split at h
 ·cases h;kernel_rfl
 ·cases h)
def PT(x0:Int):List Int:=bif x0==(0:Int)then [(0:Int)]else bif x0==(2:Int)then [(3:Int)]else bif x0==(3:Int)then [(1:Int),(2:Int),(3:Int),(4:Int),(5:Int)]else bif bif x0==(4:Int)then x0==(4:Int)else x0==(5:Int)then [(4:Int)]else bif x0==(6:Int)then [(5:Int)]else bif x0==(7:Int)then [(0:Int),(2:Int)]else bif x0==(8:Int)then [(1:Int)]else [(2:Int)]
def ahC:List SV→List Entry→Option Out
 | [.one ⟨false,[.val (.int .i64 x0)]⟩],[]=>some ⟨.one ⟨false,[.ref 0]⟩,[],[.row true 2 ajn (PT x0)],[]⟩
 |_,_=>none
def aqL:PF prog:=PF.ofG prog [] [] aO 225 f225 func225 (fun c _=>LOk.nil c) ahC (by
 intro vs es r h;unfold ahC at h;split at h
 ·cases h;kernel_rfl
 ·cases h)
def SK(x0:Int):Int:=bif x0==(3:Int)then(0:Int)else bif bif x0==(4:Int)then x0==(4:Int)else bif x0==(7:Int)then x0==(7:Int)else x0==(8:Int)then(2:Int)else bif bif x0==(5:Int)then x0==(5:Int)else x0==(6:Int)then(3:Int)else(1:Int)
def aga:List SV→List Entry→Option Out
 | [.one ⟨false,[.val (.int .i64 x0)]⟩],[]=>some ⟨.one ⟨false,[.val (.int .i64 (SK x0))]⟩,[],[],[]⟩
 |_,_=>none
def apB:PF prog:=PF.ofG prog [] [] aO 226 f226 func226 (fun c _=>LOk.nil c) aga (by
 intro vs es r h;unfold aga at h;split at h
 ·cases h;kernel_rfl
 ·cases h)
def XF(x0:Int):Bool:=bif bif bif x0==(0:Int)then true else x0==(4:Int)then true else x0==(7:Int)then true else x0==(8:Int)
def akx:List SV→List Entry→Option Out
 | [.one ⟨false,[.val (.int .i64 x0)]⟩],[]=>some ⟨.one ⟨false,[.val (.bool (XF x0))]⟩,[],[],[]⟩
 |_,_=>none
def arw:PF prog:=PF.ofG prog [] [] aO 227 f227 func227 (fun c _=>LOk.nil c) akx (by
 intro vs es r h;unfold akx at h;split at h
 ·cases h;kernel_rfl
 ·cases h)
def Ol(x0 x1 x2:Int)(x3:Bool):Int:=bif !XC x0 (PT x1)then(1:Int)else bif ltI x2 (SK x1)then(2:Int)else bif bif XF x1 then !x3 else false then(3:Int)else(0:Int)
def Om(x0 x1:Int):Bool:=allT [XD x0 (PT x1)]
def ace:List SV→List Entry→Option Out
 | [.one ⟨false,[.val (.int .i64 x0)]⟩,.one ⟨true,[.val (.int .i64 x1),.val (.int .i64 x2),.val (.bool x3)]⟩],[]=>some ⟨.one ⟨false,[.val (.int .i64 (Ol x0 x1 x2 x3))]⟩,[],[],[Om x0 x1]⟩
 |_,_=>none
def acq:PF prog:=PF.ofG prog [ady,PF.lend ady,PF.fz ady,aqL,apB,arw] [] aO 180 f180 func180 (fun c _=>LOk.nil c) ace (by
 intro vs es r h;unfold ace at h;split at h
 ·cases h;kernel_rfl
 ·cases h)
def aby(x0:Int)(x1:List (Int×Int)):Int:=bif !okPl x1 then(1:Int)else bif !aZ x0 (0:Int) (100000:Int)then(2:Int)else(0:Int)
def abz(x1:List (Int×Int)):Bool:=allT [leN x1.length (9223372036854775807:Nat)]
def ahG:List SV→List Entry→Option Out
 | [.one ⟨false,[.ref 0]⟩,.one ⟨false,[.val (.int .i64 x0)]⟩],[.row false 173 (.pair (.int .i64) (.int .i64)) x1]=>some ⟨.one ⟨false,[.val (.int .i64 (aby x0 x1))]⟩,[.row false 173 aiq x1],[],[abz x1]⟩
 |_,_=>none
def aa3:PF prog:=PF.ofG prog [gh,zP,PF.lend zP,PF.fz zP] [] aO 228 f228 func228 (fun c _=>LOk.nil c) ahG (by
 intro vs es r h;unfold ahG at h;split at h
 ·cases h;kernel_rfl
 ·cases h)
abbrev ot:=Int×Int×List (Int×Int)×List Int
section
variable (y0 y1:Int)(y2:List (Int×Int))(y3:List Int)
def Ct:Int×Int:=Option.getD y2[Int.toNat y0]? ((0:Int),(0:Int))
def xo:Bool:=leI (IntKind.wrap .i64 ((Ct y0 y2).2 + (Ct y0 y2).1)) y1
def zq:Bool:=ltI y0 (↑y2.length:Int)
def EC:Bool:=leI (0:Int) y0
def ED:Bool:=ltN y0.toNat y2.length
def KO:Bool:= !xo y0 y1 y2||leN (List.length y3 + List.length [y0]) (9223372036854775807:Nat)
def KP:Bool:= !xo y0 y1 y2||leN ((List.length y3 + List.length [y0]) * (8:Nat)) (140737488355328:Nat)
def KQ:Bool:=xo y0 y1 y2
def EE:Int:=IntKind.wrap .i64 (y0 + (1:Int))
def KR:List Int:=y3++ [y0]
end
def aml:ot→List (Nat×SV)
 |(y0,y1,_,_)=> [(6,(.one ⟨false,[.val (.int .i64 y0)]⟩)),(0,(.one ⟨false,[.ref 0]⟩)),(1,(.one ⟨false,[.val (.int .i64 y1)]⟩)),(5,(.one ⟨false,[.ref 1]⟩))]
def amc:ot→List (Nat×Entry)
 |(_,_,y2,y3)=> [(0,(.row false 173 aiq y2)),(1,(.row true 2 ajn y3))]
def amD:Nat→ot→List (Nat×SV)
 |_,(_,_,_,_)=> [(5,(.one ⟨false,[.ref 1]⟩))]
def amu:Nat→ot→List (Nat×Entry)
 |_,(_,_,y2,y3)=> [(0,(.row false 173 aiq y2)),(1,(.row true 2 ajn y3))]
def HB:ot→LT ot
 |(y0,y1,y2,y3)=> .ite (zq y0 y2) (.need [EC y0,zq y0 y2,ED y0 y2,EC y0,zq y0 y2,ED y0 y2] (.need [KO y0 y1 y2 y3,KP y0 y1 y2 y3] (.ite (KQ y0 y1 y2) (.nrm ((EE y0),y1,y2,(KR y0 y3)) [(0,0),(1,1344)]) (.nrm ((EE y0),y1,y2,y3) [(0,0),(1,1)])))) (.ext 0 [(0,0),(1,1)])
def Vo(s:St):Option ot:=
 (match s.look 6 with
 |some ⟨none,.one ⟨false,[.val (.int .i64 y0)]⟩⟩=>
 (match s.look 0 with
 |some ⟨none,.one ⟨false,[.ref 0]⟩⟩=>
 (match s.look 1 with
 |some ⟨none,.one ⟨false,[.val (.int .i64 y1)]⟩⟩=>
 (match s.look 5 with
 |some ⟨none,.one ⟨false,[.ref 192]⟩⟩=>
 (match s.ent 0 with
 |some (.row false 173 (.pair (.int .i64) (.int .i64)) y2)=>
 (match s.ent 192 with
 |some (.row true 2 (.int .i64) y3)=>
 some (y0,y1,y2,y3)
 |_=>none)
 |_=>none)
 |_=>none)
 |_=>none)
 |_=>none)
 |_=>none)
def iE:Lp ot where
 h:=⟨[8,9,10,11,14,15,16,17,18,19,20,21,22,23,24,25,26,27,28,29,30,5,12,13,6],[0],[1],[]⟩
 JL:=aml
 JE:=amc
 XL:=amD
 XE:=amu
 q:=fun j=>match j with | _=> .exit 0
 tags:= [0]
 lt:=HB
 fuel:=fun(y0,y1,y2,y3)=>y0.natAbs + y1.natAbs + y2.length + y3.length
 fix:=fun(_,y1,y2,_) (y0,_,_,y3)=>(y0,y1,y2,y3)
 σ:= [(0,0),(1,192)]
 rd:=Vo
theorem ake:LoopOk prog (fun k=>Nat.blt k Tryz.f229.ntmps) iE.F (aK f229 0):=by
 refine Lp.ok (tbl:= []) (lf:= []) aO iE (by kernel_rfl) (LOk.nil _) (fun _=>rfl) (fun _ _=>rfl) ?_ ?_ ?_ ?_ (fun _=>rfl) ?_
 ·rintro⟨y0,y1,y2,y3⟩;kernel_rfl
 ·rintro⟨y0,y1,y2,y3⟩;kernel_rfl
 ·intro s x h
  have h:Vo s=some x:=h
  unfold Vo at h
  repeat' split at h
  all_goals cases h
  exact⟨aa (by assumption) rfl (aa (by assumption) rfl (aa (by assumption) rfl (aa (by assumption) rfl (rfl)))),ab rfl (by assumption) rfl (ab rfl (by assumption) rfl (rfl))⟩
 ·rintro⟨y0,y1,y2,y3⟩;kernel_rfl
 ·rintro⟨y0,y1,y2,y3⟩ z;exact(And.intro (And.intro rfl rfl) trivial)
section
variable (x0:Int)(x1:List (Int×Int))
def VQ:Int×Int×List (Int×Int)×List Int:=((0:Int),x0,x1,[])
def XG:List Int:=(Lp.res iE (VQ x0 x1)).2.2.2.2
def XH:Bool:=allT [Lp.fin iE (VQ x0 x1)]
end
def aky:List SV→List Entry→Option Out
 | [.one ⟨false,[.ref 0]⟩,.one ⟨false,[.val (.int .i64 x0)]⟩],[.row false 173 (.pair (.int .i64) (.int .i64)) x1]=>some ⟨.one ⟨false,[.ref 1]⟩,[.row false 173 aiq x1],[.row true 2 ajn (XG x0 x1)],[XH x0 x1]⟩
 |_,_=>none
def adA:PF prog:=PF.ofG prog [] [iE.F] aO 229 f229 func229 (LOk.fnT (l:= [aK f229 0]) (by kernel_rfl) (.cons ake (.nil _))) aky (by
 intro vs es r h;unfold aky at h;split at h
 ·cases h;kernel_rfl
 ·cases h)
section
variable (x0:Int)(x1 x2:List (Int×Int))
def Ty:Bool:=aby x0 x1==(0:Int)
def Mo:Bool:=bif bif Ty x0 x1 then okLk x2 else false then(↑x2.length:Int)==(0:Int)else false
def Vy:Bool:=bif Mo x0 x1 x2 then(↑(List.length (bif Mo x0 x1 x2&&true then XG x0 x1 else [])):Int)==(0:Int)else false
def Vz:Bool:=allT [abz x1,!(Ty x0 x1&&true)||leN x2.length (9223372036854775807:Nat),!(Mo x0 x1 x2&&true)||XH x0 x1]
end
def ab9:List SV→List Entry→Option Out
 | [.one ⟨false,[.ref 0]⟩,.one ⟨false,[.ref 1]⟩,.one ⟨false,[.val (.int .i64 x0)]⟩],[.row false 173 (.pair (.int .i64) (.int .i64)) x1,.row false 176 (.pair (.int .i64) (.int .i64)) x2]=>some ⟨.one ⟨false,[.val (.bool (Vy x0 x1 x2))]⟩,[.row false 173 aiq x1,.row false 176 aiq x2],[],[Vz x0 x1 x2]⟩
 |_,_=>none
def ang:PF prog:=PF.ofG prog [aa3,PF.lend aa3,PF.fz aa3,adA,PF.lend adA,PF.fz adA,tW,PF.lend tW,PF.fz tW] [] aO 181 f181 func181 (fun c _=>LOk.nil c) ab9 (by
 intro vs es r h;unfold ab9 at h;split at h
 ·cases h;kernel_rfl
 ·cases h)
def afS(x0:Int):Int:=Option.getD [(2:Int),(3:Int),(2:Int),(4:Int),(2:Int),(5:Int),(4:Int),(1:Int),(2:Int),(0:Int)][Int.toNat x0]? (0:Int)
def afT(x0:Int):Bool:=allT [leI (0:Int) x0,ltI x0 (↑(List.length [(2:Int),(3:Int),(2:Int),(4:Int),(2:Int),(5:Int),(4:Int),(1:Int),(2:Int),(0:Int)]):Int),ltN x0.toNat (List.length [(2:Int),(3:Int),(2:Int),(4:Int),(2:Int),(5:Int),(4:Int),(1:Int),(2:Int),(0:Int)])]
def al6:List SV→List Entry→Option Out
 | [.one ⟨false,[.val (.int .i64 x0)]⟩],[]=>some ⟨.one ⟨false,[.val (.int .i64 (afS x0))]⟩,[],[],[afT x0]⟩
 |_,_=>none
def asP:PF prog:=PF.ofG prog [] [] aO 230 f230 func230 (fun c _=>LOk.nil c) al6 (by
 intro vs es r h;unfold al6 at h;split at h
 ·cases h;kernel_rfl
 ·cases h)
section
variable (x0 x1 x2:Int)(x3:Bool)
def Zc:Bool:=Ol x0 x1 x2 x3==(0:Int)
def abv:Int:=bif Zc x0 x1 x2 x3 then afS x1 else x0
def abw:Bool:=allT [Om x0 x1,!Zc x0 x1 x2 x3||afT x1]
end
def ahE:List SV→List Entry→Option Out
 | [.one ⟨false,[.val (.int .i64 x0)]⟩,.one ⟨true,[.val (.int .i64 x1),.val (.int .i64 x2),.val (.bool x3)]⟩],[]=>some ⟨.one ⟨false,[.val (.int .i64 (abv x0 x1 x2 x3))]⟩,[],[],[abw x0 x1 x2 x3]⟩
 |_,_=>none
def aqM:PF prog:=PF.ofG prog [acq,asP] [] aO 182 f182 func182 (fun c _=>LOk.nil c) ahE (by
 intro vs es r h;unfold ahE at h;split at h
 ·cases h;kernel_rfl
 ·cases h)
def LQ(x0 x1 x2:Int):Bool:=bif bif x1==(0:Int)then x1==(0:Int)else x1==(1:Int)then bu x2 (0:Int) (IntKind.wrap .i64 (x0 - (1:Int)))else bif bif x1==(2:Int)then x1==(2:Int)else x1==(3:Int)then x2==(0:Int)else false
def Ur:List SV→List Entry→Option Out
 | [.one ⟨false,[.val (.int .i64 x0)]⟩,.one ⟨true,[.val (.int .i64 x1),.val (.int .i64 x2)]⟩],[]=>some ⟨.one ⟨false,[.val (.bool (LQ x0 x1 x2))]⟩,[],[],[]⟩
 |_,_=>none
def afP:PF prog:=PF.ofG prog [il] [] aO 184 f184 func184 (fun c _=>LOk.nil c) Ur (by
 intro vs es r h;unfold Ur at h;split at h
 ·cases h;kernel_rfl
 ·cases h)
def adp(x0:Int):Bool:=bu x0 (0:Int) (3:Int)
def akq:List SV→List Entry→Option Out
 | [.one ⟨false,[.val (.int .i64 x0)]⟩],[]=>some ⟨.one ⟨false,[.val (.bool (adp x0))]⟩,[],[],[]⟩
 |_,_=>none
def ars:PF prog:=PF.ofG prog [il] [] aO 231 f231 func231 (fun c _=>LOk.nil c) akq (by
 intro vs es r h;unfold akq at h;split at h
 ·cases h;kernel_rfl
 ·cases h)
def WT(x0 x1:Int):Bool:=bif bu x0 (0:Int) (9:Int)then adp x1 else false
def adO:List SV→List Entry→Option Out
 | [.one ⟨true,[.val (.int .i64 x0),.val (.int .i64 x1),.val (.bool _x2)]⟩],[]=>some ⟨.one ⟨false,[.val (.bool (WT x0 x1))]⟩,[],[],[]⟩
 |_,_=>none
def aoj:PF prog:=PF.ofG prog [ars,il] [] aO 185 f185 func185 (fun c _=>LOk.nil c) adO (by
 intro vs es r h;unfold adO at h;split at h
 ·cases h;kernel_rfl
 ·cases h)
def amL(k r:Int):Bool:=inR k 0 9&&inR r 0 3
def atm(k:Int):List Int:=PT k
def vdC(m k r:Int)(cH:Bool):Int:=bif !(atm k).any (· ==m)then 1 else bif ltI r (SK k)then 2 else bif bif XF k then !cH else false then 3 else 0
def toC(k:Int):Int:=afS k
def nxC(m k r:Int)(cH:Bool):Int:=bif vdC m k r cH==0 then toC k else m
def aho(m k:Int):Bool:=inR k 0 9&&inR m 0 5
theorem au6(k r:Int):Xp k r=amL k r:=by
 simp only [Xp,abx,aZ,xZ,amL]
 cases inR k 0 9 <;> rfl
theorem auG(k r:Int):WT k r=amL k r:=by
 simp only [WT,adp,bu,xZ,amL]
 cases inR k 0 9 <;> rfl
def JX(y1 b:Int):(Unit)→Nat ⊕ (Unit)
 |_=>(bif(b==y1)then(.inl 0)else(.inr ()))
def xw(y1:Int)(y2:List Int)(i:Nat):(Unit)→oo
 |_=>((i:Int),y1,y2)
def Vd:oo→Unit
 |(_,_,_)=>()
theorem aoD(y1:Int)(y2:List Int) (hn:y2.length≤9223372036854775807):
  gG.fin ((0:Int),y1,y2)=true∧gG.res ((0:Int),y1,y2)=((aN (JX y1) 1 y2 0 ()).1,(xw y1 y2) (aN (JX y1) 1 y2 0 ()).2.1 (aN (JX y1) 1 y2 0 ()).2.2):=by
 have cH:=gG.along (xw y1 y2) Vd (JX y1) 1 (fun _ _=>True) y2 () (by trivial) (by simp only [gG,xw];omega) (fun i b a hb hI=> ?_) (fun a hI=> ?_)
 ·exact cH
 ·obtain⟨⟩:=a
  have dd:=(List.getElem?_eq_some_iff.1 hb).1
  have gc: ∀ d,Option.getD y2[i]? d=b:=fun d=>by rw [hb];rfl
  have hw:=tQ dd hn
  have bW:ltI (i:Int) (y2.length:Int)=true:=du (by omega)
  have pY:leI (0:Int) (i:Int)=true:=ct (by omega)
  have dw:ltN i y2.length=true:=ec dd
  refine⟨?_,?_,?_,?_⟩
  ·simp [Ep,KD,KE,KF,KG,Hz,gG,LT.nds,allT,xw,bW,pY,dw,gc]
  ·simp [Ep,KD,KE,KF,KG,Hz,gG,LT.each,xw,Vd,hw]
  ·simp only [Ep,KD,KE,KF,KG,Hz,gG,LT.fn,xw,Vd,JX,Int.toNat_natCast,bW,pY,dw,gc,cond_true,Bool.cond_self]
  ·exact fun _ _=>trivial
 ·obtain⟨⟩:=a
  simp [Ep,KD,KE,KF,KG,Hz,gG,LT.out,xw]
theorem ax6(x:Int)(l:List Int)(h:l.length≤9223372036854775807):XC x l=l.any (· ==x)∧XD x l=true:=by
 obtain⟨w1,w2⟩:=aoD x l h
 rw [kH (P:=fun v=>v==x) (j:=0) (fun v=>rfl)]at w2
 simp only [XC,XD,abj,w1,w2,allT]
 cases l.any (· ==x) <;> exact⟨rfl,rfl⟩
theorem as1{m k:Int}(h:aho m k=true): ∃ (a:Fin 10) (b:Fin 6),k=(a.val:Int)∧m=(b.val:Int):=by
 simp only [aho,Bool.and_eq_true,sa]at h
 exact⟨⟨k.toNat,by omega⟩,⟨m.toNat,by omega⟩,by simp;omega,by simp;omega⟩
theorem awI: ∀ a:Fin 10,(atm (a.val:Int)).length≤5:=by decide
theorem asb(m k r:Int)(cH:Bool)(h:aho m k=true):Ol m k r cH=vdC m k r cH∧Om m k=true:=by
 obtain⟨a,b,rfl,rfl⟩:=as1 h
 have hl:=awI a
 obtain⟨h1,h2⟩:=ax6 (b.val:Int) (atm (a.val:Int)) (by omega)
 have e:PT (a.val:Int)=atm (a.val:Int):=rfl
 simp only [Ol,Om,e,h1,h2,vdC,allT,cond_true,and_self]
theorem aw9: ∀ (a:Fin 10) (b:Fin 6),(IntKind.i64.wrap (↑(BitVec.toNat (BitVec.ofInt (IntKind.bits IntKind.i64) (Int.fdiv ((Option.getD aoB[Int.toNat (a.val:Int)]? ((0:Int),(0:Int),(0:Int),false)).1) ((2:Int) ^ min (Int.toNat (b.val:Int)) (IntKind.bits IntKind.i64)))&&& BitVec.ofInt (IntKind.bits IntKind.i64) (1:Int))):Int)==(0:Int))= !(atm (a.val:Int)).any (· ==(b.val:Int)):=by decide
theorem aua: ∀ a:Fin 10,(Option.getD aoB[Int.toNat (a.val:Int)]? ((0:Int),(0:Int),(0:Int),false)).2=(toC (a.val:Int),SK (a.val:Int),XF (a.val:Int)):=by decide
theorem avi: ∀ a:Fin 10,ltI (a.val:Int) (aoB.length:Int)=true∧ltN (Int.toNat (a.val:Int)) aoB.length=true∧afT (a.val:Int)=true:=by decide
theorem arT(m k r:Int)(cH:Bool)(h:aho m k=true):jj k r cH m=vdC m k r cH∧jk k m=true:=by
 obtain⟨a,b,rfl,rfl⟩:=as1 h
 obtain⟨n1,n2,_⟩:=avi a
 have n0:leI 0 (a.val:Int)=true:=ct (by omega)
 have n3:leI 0 (b.val:Int)=true:=ct (by omega)
 simp only [jj,jk,mU,mV,aw9,aua,n0,n1,n2,n3,vdC,allT,cond_true,and_self]
theorem awg(m k r:Int)(cH:Bool)(h:aho m k=true):abv m k r cH=nxC m k r cH∧abw m k r cH=true:=by
 obtain⟨h1,h2⟩:=asb m k r cH h
 obtain⟨a,b,rfl,rfl⟩:=as1 h
 simp only [abv,abw,Zc,h1,h2,(avi a).2.2,nxC,toC,allT,Bool.or_true,cond_true,and_self]
theorem avW(m k r:Int)(cH:Bool)(h:aho m k=true):pZ k r cH m=nxC m k r cH∧qa k r cH m=true:=by
 obtain⟨h1,h2⟩:=arT m k r cH h
 obtain⟨a,b,rfl,rfl⟩:=as1 h
 obtain⟨n1,n2,_⟩:=avi a
 have n0:leI 0 (a.val:Int)=true:=ct (by omega)
 simp only [pZ,qa,gi,h1,h2,n0,n1,n2,aua,nxC,allT,Bool.or_true,cond_true,and_self]
def aec:List SV→List Entry→Option Out
 | [.one ⟨true,[.val (.int .i64 x0),.val (.int .i64 x1),.val (.bool _x2)]⟩],[]=>some ⟨.one ⟨false,[.val (.bool (amL x0 x1))]⟩,[],[],[]⟩
 |_,_=>none
def aod:PF prog:=PF.alt aoo aec (by
 intro args es o h bz;unfold aec at h;split at h
 ·rename_i x0 x1 _x2
  cases h
  have hh:=au6 x0 x1
  have e0:=hh
  exact jK rfl (fun _ h=>by cases h) (by simp only [e0] <;> rfl) rfl rfl
 ·cases h)
def ad7:List SV→List Entry→Option Out
 | [.one ⟨true,[.val (.int .i64 x0),.val (.int .i64 x1),.val (.bool _x2)]⟩],[]=>some ⟨.one ⟨false,[.val (.bool (amL x0 x1))]⟩,[],[],[]⟩
 |_,_=>none
def aoc:PF prog:=PF.alt aoj ad7 (by
 intro args es o h bz;unfold ad7 at h;split at h
 ·rename_i x0 x1 _x2
  cases h
  have hh:=auG x0 x1
  have e0:=hh
  exact jK rfl (fun _ h=>by cases h) (by simp only [e0] <;> rfl) rfl rfl
 ·cases h)
def acj:List SV→List Entry→Option Out
 | [.one ⟨false,[.val (.int .i64 x0)]⟩,.one ⟨true,[.val (.int .i64 x1),.val (.int .i64 x2),.val (.bool x3)]⟩],[]=>some ⟨.one ⟨false,[.val (.int .i64 (vdC x0 x1 x2 x3))]⟩,[],[],[aho x0 x1]⟩
 |_,_=>none
def am6:PF prog:=PF.alt acq acj (by
 intro args es o h bz;unfold acj at h;split at h
 ·rename_i x0 x1 x2 x3
  cases h
  have bz:=fM bz
  have hh:=asb x0 x1 x2 x3 bz
  obtain⟨e0,en⟩:=hh
  exact jK rfl (fj en) (by simp only [e0] <;> rfl) rfl rfl
 ·cases h)
def ah6:List SV→List Entry→Option Out
 | [.one ⟨false,[.val (.int .i64 x0)]⟩,.one ⟨true,[.val (.int .i64 x1),.val (.int .i64 x2),.val (.bool x3)]⟩],[]=>some ⟨.one ⟨false,[.val (.int .i64 (nxC x0 x1 x2 x3))]⟩,[],[],[aho x0 x1]⟩
 |_,_=>none
def aqv:PF prog:=PF.alt aqM ah6 (by
 intro args es o h bz;unfold ah6 at h;split at h
 ·rename_i x0 x1 x2 x3
  cases h
  have bz:=fM bz
  have hh:=awg x0 x1 x2 x3 bz
  obtain⟨e0,en⟩:=hh
  exact jK rfl (fj en) (by simp only [e0] <;> rfl) rfl rfl
 ·cases h)
def wd:List SV→List Entry→Option Out
 | [.one ⟨true,[.val (.int .i64 x0),.val (.int .i64 x1),.val (.bool x2)]⟩,.one ⟨false,[.val (.int .i64 x3)]⟩],[]=>some ⟨.one ⟨false,[.val (.int .i64 (vdC x3 x0 x1 x2))]⟩,[],[],[aho x3 x0]⟩
 |_,_=>none
def Mg:PF prog:=PF.alt wI wd (by
 intro args es o h bz;unfold wd at h;split at h
 ·rename_i x0 x1 x2 x3
  cases h
  have bz:=fM bz
  have hh:=arT x3 x0 x1 x2 bz
  obtain⟨e0,en⟩:=hh
  exact jK rfl (fj en) (by simp only [e0] <;> rfl) rfl rfl
 ·cases h)
def zE:List SV→List Entry→Option Out
 | [.one ⟨true,[.val (.int .i64 x0),.val (.int .i64 x1),.val (.bool x2)]⟩,.one ⟨false,[.val (.int .i64 x3)]⟩],[]=>some ⟨.one ⟨false,[.val (.int .i64 (nxC x3 x0 x1 x2))]⟩,[],[],[aho x3 x0]⟩
 |_,_=>none
def OC:PF prog:=PF.alt OE zE (by
 intro args es o h bz;unfold zE at h;split at h
 ·rename_i x0 x1 x2 x3
  cases h
  have bz:=fM bz
  have hh:=avW x3 x0 x1 x2 bz
  obtain⟨e0,en⟩:=hh
  exact jK rfl (fj en) (by simp only [e0] <;> rfl) rfl rfl
 ·cases h)
def awA(pl:List (Int×Int))(day:Int)(b:Nat):Bool:=leI (IntKind.i64.wrap ((pl[b]?.getD ((0:Int),(0:Int))).2 + (pl[b]?.getD ((0:Int),(0:Int))).1)) day
def awB(pl:List (Int×Int))(day:Int):List Int:=((List.range pl.length).filter (awA pl day)).map fun b:Nat=>(b:Int)
def an9(pl ls:List (Int×Int))(day:Int):Bool:=okPl pl&&(okLk ls&&(inR day 0 100000&&((awB pl day).length==0&&ls.length==0)))
theorem ain(P:Nat→Bool): ∀ (r:List Nat) (a:List Int),r.foldl (fun a b=>bif P b then a++ [(b:Int)]else a) a=a++(r.filter P).map fun b:Nat=>(b:Int)
 | [],a=>by simp
 |b::r,a=>by
  rw [List.foldl_cons,ain P r]
  cases h:P b <;> simp [List.filter_cons,h]
theorem aqy{pl:List (Int×Int)}(h:okPl pl=true):pl.length≤12:=by
 simp only [okPl,Bool.and_eq_true,dT]at h;exact h.1
def uG(y1:Int)(y2:List (Int×Int))(b:Nat):(List Int)→Nat ⊕ (List Int)
 |y3=>(bif(leI (IntKind.wrap .i64 ((Option.getD y2[b]? ((0:Int),(0:Int))).2 + (Option.getD y2[b]? ((0:Int),(0:Int))).1)) y1)then(.inr (y3++ [(↑b:Int)]))else(.inr y3))
def te(y1:Int)(y2:List (Int×Int))(i:Nat):(List Int)→ot
 |y3=>((i:Int),y1,y2,y3)
def Vf:ot→List Int
 |(_,_,_,y3)=>y3
theorem aoF(y1:Int)(y2:List (Int×Int))(y3:List Int)(hn:y2.length≤9223372036854775807)(h12:y2.length≤12)(h3:y3= []):
  iE.fin ((0:Int),y1,y2,y3)=true∧iE.res ((0:Int),y1,y2,y3)=((aN (uG y1 y2) 0 (List.range y2.length) 0 y3).1,(te y1 y2) (aN (uG y1 y2) 0 (List.range y2.length) 0 y3).2.1 (aN (uG y1 y2) 0 (List.range y2.length) 0 y3).2.2):=by
 have cH:=iE.along (te y1 y2) Vf (uG y1 y2) 0 (fun i a=>a.length≤i) (List.range y2.length) y3 (by subst h3;simp) (by simp only [iE,te,List.length_range];omega) (fun i b a hb hI=> ?_) (fun a hI=> ?_)
 ·exact cH
 ·obtain y3:=a
  obtain⟨rfl,dd⟩:=qD hb
  have hw:IntKind.i64.wrap ((b:Int) + 1)=((b + 1:Nat):Int):=by rw [aw (by omega) (by omega)];omega
  have bW:ltI (b:Int) (y2.length:Int)=true:=du (by omega)
  have pY:leI (0:Int) (b:Int)=true:=ct (by omega)
  have dw:ltN b y2.length=true:=ec (by omega)
  refine⟨?_,?_,?_,?_⟩
  ·have h6:leN (a.length + 1) 9223372036854775807=true:=bY (by omega)
   have h7:leN ((a.length + 1) * 8) 140737488355328=true:=bY (by omega)
   simp [Ct,xo,zq,EC,ED,KO,KP,KQ,EE,KR,HB,iE,LT.nds,allT,te,bW,pY,dw,h6,h7]
  ·simp [Ct,xo,zq,EC,ED,KO,KP,KQ,EE,KR,HB,iE,LT.each,te,Vf,hw]
  ·simp only [Ct,xo,zq,EC,ED,KO,KP,KQ,EE,KR,HB,iE,LT.fn,te,Vf,uG,Int.toNat_natCast,bW,pY,dw,cond_true,Bool.cond_self]
  ·intro a' hf
   simp only [uG]at hf
   revert hf
   cases leI (IntKind.wrap .i64 ((Option.getD y2[b]? ((0:Int),(0:Int))).2 + (Option.getD y2[b]? ((0:Int),(0:Int))).1)) y1 <;> intro hf <;> (simp only [cond_true,cond_false,Sum.inr.injEq]at hf;subst hf;(try simp only [List.length_append,List.length_singleton]);omega)
 ·obtain y3:=a
  simp [Ct,xo,zq,EC,ED,KO,KP,KQ,EE,KR,HB,iE,LT.out,te,List.length_range]
def qN(y2:Int)(y3:List (Int×Int))(b:Nat):(List Int)→Nat ⊕ (List Int)
 |y4=>(bif(leI (jC ((Option.getD y3[b]? ((0:Int),(0:Int))).1) ((Option.getD y3[b]? ((0:Int),(0:Int))).2)) y2)then(.inr (y4++ [(↑b:Int)]))else(.inr y4))
def oO(y2:Int)(y3:List (Int×Int))(i:Nat):(List Int)→lg
 |y4=>((i:Int),(↑y3.length:Int),y2,y3,y4)
def QS:lg→List Int
 |(_,_,_,_,y4)=>y4
theorem alX(y2:Int)(y3:List (Int×Int))(y4:List Int)(hn:y3.length≤9223372036854775807)(h12:y3.length≤12)(h3:y4= []):
  fG.fin ((0:Int),(↑y3.length:Int),y2,y3,y4)=true∧fG.res ((0:Int),(↑y3.length:Int),y2,y3,y4)=((aN (qN y2 y3) 0 (List.range y3.length) 0 y4).1,(oO y2 y3) (aN (qN y2 y3) 0 (List.range y3.length) 0 y4).2.1 (aN (qN y2 y3) 0 (List.range y3.length) 0 y4).2.2):=by
 have cH:=fG.along (oO y2 y3) QS (qN y2 y3) 0 (fun i a=>a.length≤i) (List.range y3.length) y4 (by subst h3;simp) (by simp only [fG,oO,List.length_range];omega) (fun i b a hb hI=> ?_) (fun a hI=> ?_)
 ·exact cH
 ·obtain y4:=a
  obtain⟨rfl,dd⟩:=qD hb
  have hw:IntKind.i64.wrap ((b:Int) + 1)=((b + 1:Nat):Int):=by rw [aw (by omega) (by omega)];omega
  have bW:ltI (b:Int) (y3.length:Int)=true:=du (by omega)
  have pY:leI (0:Int) (b:Int)=true:=ct (by omega)
  have dw:ltN b y3.length=true:=ec (by omega)
  refine⟨?_,?_,?_,?_⟩
  ·have h6:leN (a.length + 1) 9223372036854775807=true:=bY (by omega)
   have h7:leN ((a.length + 1) * 8) 140737488355328=true:=bY (by omega)
   simp [xz,sx,EW,EX,EY,EZ,Fa,Fb,Fc,yX,Fd,Dc,fG,LT.nds,allT,oO,bW,pY,dw,h6,h7]
  ·simp [xz,sx,EW,EX,EY,EZ,Fa,Fb,Fc,yX,Fd,Dc,fG,LT.each,oO,QS,hw]
  ·simp only [xz,sx,EW,EX,EY,EZ,Fa,Fb,Fc,yX,Fd,Dc,fG,LT.fn,oO,QS,qN,Int.toNat_natCast,bW,pY,dw,cond_true,Bool.cond_self]
  ·intro a' hf
   simp only [qN,jC]at hf
   revert hf
   cases leI (IntKind.wrap .i64 ((Option.getD y3[b]? ((0:Int),(0:Int))).2 + (Option.getD y3[b]? ((0:Int),(0:Int))).1)) y2 <;> intro hf <;> (simp only [cond_true,cond_false,Sum.inr.injEq]at hf;subst hf;(try simp only [List.length_append,List.length_singleton]);omega)
 ·obtain y4:=a
  simp [xz,sx,EW,EX,EY,EZ,Fa,Fb,Fc,yX,Fd,Dc,fG,LT.out,oO,List.length_range]
theorem au7(day:Int)(pl:List (Int×Int))(h:pl.length≤12):XG day pl=awB pl day∧XH day pl=true:=by
 obtain⟨w1,w2⟩:=aoF day pl [] (by omega) h rfl
 rw [jI (f:=uG day pl) (g:=fun a b=>bif awA pl day b then a++ [(b:Int)]else a) (fun b a=>by simp only [uG,awA];cases leI _ day <;> rfl),ain]at w2
 exact⟨by simp only [XG,VQ,w2,te,List.nil_append,awB],by simp only [XH,VQ,w1,allT,cond_true]⟩
theorem auH(day:Int)(pl:List (Int×Int))(h:pl.length≤12):Sr day pl=awB pl day∧Ss day pl=true:=by
 obtain⟨w1,w2⟩:=alX day pl [] (by omega) h rfl
 rw [jI (f:=qN day pl) (g:=fun a b=>bif awA pl day b then a++ [(b:Int)]else a) (fun b a=>by simp only [qN,jC,awA];cases leI _ day <;> rfl),ain]at w2
 exact⟨by simp only [Sr,Qz,w2,oO,List.nil_append,awB],by simp only [Ss,Qz,w1,allT,cond_true]⟩
theorem ayv(n:Nat):((n:Int)==0)=(n==0):=by cases n <;> rfl
theorem au9(day:Int)(pl ls:List (Int×Int))(h:(leN pl.length 9223372036854775807&&leN ls.length 9223372036854775807)=true):Vy day pl ls=an9 pl ls day∧Vz day pl ls=true:=by
 simp only [Bool.and_eq_true]at h
 simp only [Vy,Vz,Ty,Mo,aby,abz,aZ,xZ,h.1,h.2,ayv,an9,allT]
 cases hp:okPl pl with
 |false=>simp
 |true=>
  obtain⟨e1,e2⟩:=au7 day pl (aqy hp)
  rw [e1,e2]
  cases hi:inR day 0 100000 <;> cases okLk ls <;> cases ls.length==0 <;> simp
theorem auK(day:Int)(pl ls:List (Int×Int))(h:(leN pl.length 9223372036854775807&&leN ls.length 9223372036854775807)=true):Uz day pl ls=an9 pl ls day∧UA day pl ls=true:=by
 simp only [Bool.and_eq_true]at h
 have e:zK day=inR day 0 100000:=by simp only [zK,bu,xZ]
 simp only [Uz,UA,SU,e,h.1,h.2,ayv,an9,allT]
 cases hp:okPl pl with
 |false=>simp
 |true=>
  obtain⟨e1,e2⟩:=auH day pl (aqy hp)
  rw [e1,e2]
  cases hi:inR day 0 100000 <;> cases okLk ls <;> cases ls.length==0 <;> simp
def ach:List SV→List Entry→Option Out
 | [.one ⟨false,[.ref 0]⟩,.one ⟨false,[.ref 1]⟩,.one ⟨false,[.val (.int .i64 x0)]⟩],[.row false 173 (.pair (.int .i64) (.int .i64)) x1,.row false 176 (.pair (.int .i64) (.int .i64)) x2]=>some ⟨.one ⟨false,[.val (.bool (an9 x1 x2 x0))]⟩,[.row false 173 aiq x1,.row false 176 aiq x2],[],[leN x1.length 9223372036854775807&&leN x2.length 9223372036854775807]⟩
 |_,_=>none
def UR:PF prog:=PF.alt ang ach (by
 intro args es o h bz;unfold ach at h;split at h
 ·rename_i x0 x1 x2
  cases h
  have bz:=fM bz
  have hh:=au9 x0 x1 x2 bz
  obtain⟨e0,en⟩:=hh
  exact jK rfl (fj en) (by simp only [e0] <;> rfl) rfl rfl
 ·cases h)
def acf:List SV→List Entry→Option Out
 | [.one ⟨false,[.ref 0]⟩,.one ⟨false,[.ref 1]⟩,.one ⟨false,[.val (.int .i64 x0)]⟩],[.row false 173 (.pair (.int .i64) (.int .i64)) x1,.row false 176 (.pair (.int .i64) (.int .i64)) x2]=>some ⟨.one ⟨false,[.val (.bool (an9 x1 x2 x0))]⟩,[.row false 173 aiq x1,.row false 176 aiq x2],[],[leN x1.length 9223372036854775807&&leN x2.length 9223372036854775807]⟩
 |_,_=>none
def UQ:PF prog:=PF.alt ane acf (by
 intro args es o h bz;unfold acf at h;split at h
 ·rename_i x0 x1 x2
  cases h
  have bz:=fM bz
  have hh:=auK x0 x1 x2 bz
  obtain⟨e0,en⟩:=hh
  exact jK rfl (fj en) (by simp only [e0] <;> rfl) rfl rfl
 ·cases h)
theorem atF{n:Int}{fs:List (Int×Int×Int)}(h:lfOk n fs=true):fs.length≤8∧ ∀ f∈fs,(0≤f.1∧f.1 < n)∧(f.2.1=0∨f.2.1=1)∧(f.2.2=0∨f.2.2=1):=by
 simp only [lfOk,okFs,Bool.and_eq_true,dT,List.all_eq_true,List.mem_range,sa]at h
 refine⟨h.2.1,fun f hf=> ?_⟩
 obtain⟨b,hb,rfl⟩:=List.getElem_of_mem hf
 have h3:=h.2.2 b hb
 simp only [Bool.not_eq_true',Bool.or_eq_false_iff,alB,fAt,List.getElem?_eq_getElem hb,Option.getD_some,Bool.not_eq_false']at h3
 have h4:=h3.1
 simp only [fIn,Bool.and_eq_true,sa]at h4
 rw [aw (by omega) (by omega)]at h4
 omega
def lkB(st:List Int):List Int:=st.map fun v=>bif v==2 then 1 else 0
def lkC(st:List Int)(lf:List (Int×Int×Int))(ch:Int):List Int:=lf.foldl (adD ch) (lkB st)
def Xm(st:List Int)(lf:List (Int×Int×Int)):Bool:= !(lkC st lf 0).any (· ==0)&& !(lkC st lf 1).any (· ==0)
def akk(st:List Int)(lf:List (Int×Int×Int)):Bool:=areR st&&lfOk (st.length:Int) lf
theorem aaG(st:List Int):(lkB st).length=st.length:=by simp [lkB]
theorem Ta(st:List Int)(lf:List (Int×Int×Int))(ch:Int):(lkC st lf ch).length=st.length:=by rw [lkC,WP,aaG]
theorem awd{ch:Int}{l:List Int}{f:Int×Int×Int}(h: ∀ v∈l,v=0∨v=1)(hf:f.2.2=0∨f.2.2=1): ∀ v∈adD ch l f,v=0∨v=1:=by
 intro v hv
 simp only [adD]at hv
 cases hc:f.2.1==ch with
 |false=>rw [hc]at hv;exact h v hv
 |true=>
  rw [hc]at hv
  rcases List.mem_or_eq_of_mem_set hv with hv | rfl
  ·exact h v hv
  ·exact hf
theorem arQ{ch:Int}: ∀ (lf:List (Int×Int×Int)) (l:List Int),(∀ v∈l,v=0∨v=1)→(∀ f∈lf,f.2.2=0∨f.2.2=1)→ ∀ v∈lf.foldl (adD ch) l,v=0∨v=1
 | [],l,h,_=>h
 |f::r,l,h,hf=>by
  rw [List.foldl_cons]
  exact arQ r _ (awd h (hf f (by simp))) fun g hg=>hf g (by simp [hg])
theorem atH{st:List Int}{lf:List (Int×Int×Int)}{ch:Int}(h:akk st lf=true): ∀ v∈lkC st lf ch,v=0∨v=1:=by
 simp only [akk,Bool.and_eq_true]at h
 refine arQ lf _ (fun v hv=> ?_) fun f hf=>((atF h.2).2 f hf).2.2
 obtain⟨x,_,rfl⟩:=List.mem_map.1 hv
 cases x==2 <;> simp
def qS(b:Int):(List Int)→Nat ⊕ (List Int)
 |y2=>(.inr (y2++([IntKind.wrap .i64 (Int.tdiv b (2:Int))])))
def mb(y1:List Int)(i:Nat):(List Int)→jA
 |y2=>((i:Int),y1,y2)
def NI:jA→List Int
 |(_,_,y2)=>y2
theorem ajh(y1 y2:List Int)(hn:y1.length≤9223372036854775807)(hR:areR y1=true)(h0:y2= []):
  cw.fin ((0:Int),y1,y2)=true∧cw.res ((0:Int),y1,y2)=((aN (qS) 0 y1 0 y2).1,(mb y1) (aN (qS) 0 y1 0 y2).2.1 (aN (qS) 0 y1 0 y2).2.2):=by
 have cH:=cw.along (mb y1) NI (qS) 0 (fun i a=>a.length≤i) y1 y2 (by subst h0;simp) (by simp only [cw,mb];omega) (fun i b a hb hI=> ?_) (fun a hI=> ?_)
 ·exact cH
 ·obtain y2:=a
  have dd:=(List.getElem?_eq_some_iff.1 hb).1
  have gc: ∀ d,Option.getD y1[i]? d=b:=fun d=>by rw [hb];rfl
  have hw:=tQ dd hn
  have bW:ltI (i:Int) (y1.length:Int)=true:=du (by omega)
  have pY:leI (0:Int) (i:Int)=true:=ct (by omega)
  have dw:ltN i y1.length=true:=ec dd
  refine⟨?_,?_,?_,?_⟩
  ·have h12:=(GZ.1 hR).1
   have h6:leN (a.length + 1) 9223372036854775807=true:=bY (by omega)
   have h7:leN ((a.length + 1) * 8) 140737488355328=true:=bY (by omega)
   have h8:neI 2 0=true:=rfl
   simp [pp,vm,Bz,BA,BB,BC,BD,BE,BF,yK,cw,LT.nds,allT,mb,bW,pY,dw,h6,h7,h8]
  ·simp [pp,vm,Bz,BA,BB,BC,BD,BE,BF,yK,cw,LT.each,mb,NI,hw]
  ·simp only [pp,vm,Bz,BA,BB,BC,BD,BE,BF,yK,cw,LT.fn,mb,NI,qS,Int.toNat_natCast,bW,pY,dw,gc,cond_true,Bool.cond_self]
  ·intro a' hf;simp only [qS,Sum.inr.injEq]at hf;subst hf;simp;omega
 ·obtain y2:=a
  simp [pp,vm,Bz,BA,BB,BC,BD,BE,BF,yK,cw,LT.out,mb]
def qT(y1:Int)(b:Int×(Int×Int)):(List Int)→Nat ⊕ (List Int)
 |y3=>(.inr (bif(b.2.1==y1)then List.set y3 (Int.toNat b.1) b.2.2else y3))
def mc(y1:Int)(y2:List (Int×(Int×Int)))(i:Nat):(List Int)→jB
 |y3=>((i:Int),y1,y2,y3)
def NJ:jB→List Int
 |(_,_,_,y3)=>y3
theorem aji(y1:Int)(y2:List (Int×(Int×Int)))(y3:List Int)(hn:y2.length≤9223372036854775807)(n:Nat)(h3:y3.length=n)(hf: ∀ f∈y2,0≤f.1∧f.1 < (n:Int)):
  cZ.fin ((0:Int),y1,y2,y3)=true∧cZ.res ((0:Int),y1,y2,y3)=((aN (qT y1) 0 y2 0 y3).1,(mc y1 y2) (aN (qT y1) 0 y2 0 y3).2.1 (aN (qT y1) 0 y2 0 y3).2.2):=by
 have cH:=cZ.along (mc y1 y2) NJ (qT y1) 0 (fun _ a=>a.length=n) y2 y3 h3 (by simp only [cZ,mc];omega) (fun i b a hb hI=> ?_) (fun a hI=> ?_)
 ·exact cH
 ·obtain y3:=a
  have dd:=(List.getElem?_eq_some_iff.1 hb).1
  have gc: ∀ d,Option.getD y2[i]? d=b:=fun d=>by rw [hb];rfl
  have hw:=tQ dd hn
  have bW:ltI (i:Int) (y2.length:Int)=true:=du (by omega)
  have pY:leI (0:Int) (i:Int)=true:=ct (by omega)
  have dw:ltN i y2.length=true:=ec dd
  refine⟨?_,?_,?_,?_⟩
  ·have h5:=hf b (List.mem_of_getElem? hb)
   have h6:leI 0 b.1=true:=ct h5.1
   have h7:ltI b.1 (a.length:Int)=true:=du (by omega)
   have h8:ltN b.1.toNat a.length=true:=ec (by omega)
   simp only [iP,gC,vn,BG,BH,vo,vp,vq,BI,BJ,BK,BL,yS,yL,cZ,LT.nds,allT,mc,Int.toNat_natCast,bW,pY,dw,gc,h6,h7,h8,Bool.or_true,cond_true]
  ·simp [iP,gC,vn,BG,BH,vo,vp,vq,BI,BJ,BK,BL,yS,yL,cZ,LT.each,mc,NJ,hw]
  ·simp only [iP,gC,vn,BG,BH,vo,vp,vq,BI,BJ,BK,BL,yS,yL,cZ,LT.fn,mc,NJ,qT,Int.toNat_natCast,bW,pY,dw,gc,cond_true,Bool.cond_self]
  ·intro a' hf;simp only [qT,Sum.inr.injEq]at hf;subst hf;cases b.2.1==y1 <;> simpa using hI
 ·obtain y3:=a
  simp [iP,gC,vn,BG,BH,vo,vp,vq,BI,BJ,BK,BL,yS,yL,cZ,LT.out,mc]
theorem ayD{v:Int}(h:0≤v∧v≤2):IntKind.i64.wrap (Int.tdiv v 2)=bif v==2 then 1 else 0:=by
 have h:v=0∨v=1∨v=2:=by omega
 rcases h with rfl | rfl | rfl <;> rfl
theorem amS{B C:Type}{g g':B→C}: ∀ (r:List B) (a:List C),(∀ b∈r,g b=g' b)→r.foldl (fun a b=>a++ [g b]) a=a++r.map g'
 | [],a,_=>by simp
 |b::r,a,h=>by rw [List.foldl_cons,amS r _ fun c hc=>h c (by simp [hc]),h b (by simp)];simp
theorem ant(ch:Int)(st:List Int)(lf:List (Int×Int×Int))(h:akk st lf=true):HN ch st lf=lkC st lf ch∧HO ch st lf=true:=by
 simp only [akk,Bool.and_eq_true]at h
 have h12:=(GZ.1 h.1).1
 obtain⟨hl,hf⟩:=atF h.2
 obtain⟨w1,w2⟩:=ajh st [] (by omega) h.1 rfl
 rw [jI (f:=qS) (g:=fun a b=>a++ [IntKind.i64.wrap (Int.tdiv b 2)]) (fun b a=>rfl),amS (g':=fun v=>bif v==2 then 1 else 0) _ _ (fun b hb=>ayD ((GZ.1 h.1).2 b hb))]at w2
 have e1:(Lp.res cw (Gc st)).2.2.2=lkB st:=by
  simp only [Gc,w2,mb,List.nil_append];rfl
 obtain⟨v1,v2⟩:=aji ch lf (lkB st) (by omega) st.length (aaG st) (fun f hm=>(hf f hm).1)
 rw [jI (f:=qT ch) (g:=adD ch) (fun b a=>rfl)]at v2
 refine⟨?_,?_⟩
 ·simp only [HN,Gd,e1,v2,mc];rfl
 ·have v3:Lp.fin cZ (Gd ch st lf)=true:=by rw [Gd,e1];exact v1
  have w3:Lp.fin cw (Gc st)=true:=w1
  simp only [HO,v3,w3,allT,cond_true]
def Ed(b:Int):(Int)→Nat ⊕ (Int)
 |y1=>(.inr (IntKind.wrap .i64 (y1 + b)))
def td(y2:List Int)(i:Nat):(Int)→oq
 |y1=>((i:Int),y1,y2)
def Ve:oq→Int
 |(_,y1,_)=>y1
theorem aoE(y2:List Int)(y1:Int)(hn:y2.length≤9223372036854775807):
  iD.fin ((0:Int),y1,y2)=true∧iD.res ((0:Int),y1,y2)=((aN (Ed) 0 y2 0 y1).1,(td y2) (aN (Ed) 0 y2 0 y1).2.1 (aN (Ed) 0 y2 0 y1).2.2):=by
 have cH:=iD.along (td y2) Ve (Ed) 0 (fun _ _=>True) y2 y1 (by trivial) (by simp only [iD,td];omega) (fun i b a hb hI=> ?_) (fun a hI=> ?_)
 ·exact cH
 ·obtain y1:=a
  have dd:=(List.getElem?_eq_some_iff.1 hb).1
  have gc: ∀ d,Option.getD y2[i]? d=b:=fun d=>by rw [hb];rfl
  have hw:=tQ dd hn
  have bW:ltI (i:Int) (y2.length:Int)=true:=du (by omega)
  have pY:leI (0:Int) (i:Int)=true:=ct (by omega)
  have dw:ltN i y2.length=true:=ec dd
  refine⟨?_,?_,?_,?_⟩
  ·simp [Er,KH,KI,KJ,KK,HA,iD,LT.nds,allT,td,bW,pY,dw,gc]
  ·simp [Er,KH,KI,KJ,KK,HA,iD,LT.each,td,Ve,hw]
  ·simp only [Er,KH,KI,KJ,KK,HA,iD,LT.fn,td,Ve,Ed,Int.toNat_natCast,bW,pY,dw,gc,cond_true,Bool.cond_self]
  ·exact fun _ _=>trivial
 ·obtain y1:=a
  simp [Er,KH,KI,KJ,KK,HA,iD,LT.out,td]
def at9(l:List Int):Int:=l.foldl (fun a b=>IntKind.i64.wrap (a + b)) 0
theorem aq2(l:List Int)(h:l.length≤9223372036854775807):RK l=at9 l∧RL l=true:=by
 obtain⟨w1,w2⟩:=aoE l 0 h
 rw [jI (f:=Ed) (g:=fun a b=>IntKind.i64.wrap (a + b)) (fun b a=>rfl)]at w2
 exact⟨by simp only [RK,VD,w2,td,at9],by simp only [RL,VD,w1,allT,cond_true]⟩
theorem aq3: ∀ (l:List Int) (a:Int),(∀ v∈l,v=0∨v=1)→0≤a→a + l.length≤1000000→
  ∃ s:Int,l.foldl (fun a b=>IntKind.i64.wrap (a + b)) a=a + s∧(0≤s∧s≤l.length)∧((s=l.length)↔l.any (· ==0)=false)
 | [],a,_,_,_=>⟨0,by simp,by simp,by simp⟩
 |v::r,a,h,h0,h1=>by
  have hv:=h v (by simp)
  simp only [List.length_cons]at h1
  have hw:IntKind.i64.wrap (a + v)=a + v:=aw (by omega) (by omega)
  obtain⟨s,e1,e2,e3⟩:=aq3 r (a + v) (fun x hx=>h x (by simp [hx])) (by omega) (by omega)
  refine⟨v + s,by rw [List.foldl_cons,hw,e1];omega,by simp only [List.length_cons];omega,?_⟩
  simp only [List.length_cons,List.any_cons,Bool.or_eq_false_iff,← e3]
  rcases hv with rfl | rfl
  ·simp;omega
  ·simp;omega
theorem axP{a b:List Int}{n:Nat}(ha: ∀ v∈a,v=0∨v=1)(hb: ∀ v∈b,v=0∨v=1)(la:a.length=n)(lb:b.length=n)(hn:n≤12):
  (IntKind.i64.wrap (at9 a + at9 b)==IntKind.i64.wrap (2 * (n:Int)))=(!a.any (· ==0)&& !b.any (· ==0)):=by
 obtain⟨s,e1,e2,e3⟩:=aq3 a 0 ha (by omega) (by omega)
 obtain⟨t,g1,g2,g3⟩:=aq3 b 0 hb (by omega) (by omega)
 have w1:IntKind.i64.wrap (at9 a + at9 b)=s + t:=by rw [at9,at9,e1,g1,aw (by omega) (by omega)];omega
 have w2:IntKind.i64.wrap (2 * (n:Int))=2 * (n:Int):=aw (by omega) (by omega)
 rw [w1,w2]
 cases ha2:a.any (· ==0) <;> cases hb2:b.any (· ==0) <;> simp only [ha2,hb2]at e3 g3 <;> simp <;> simp at e3 g3 <;> omega
theorem asW(st:List Int)(lf:List (Int×Int×Int))(h:akk st lf=true):abe st lf=Xm st lf∧abf st lf=0∧abg st lf=true:=by
 have h':=h
 simp only [akk,Bool.and_eq_true]at h'
 have h12:=(GZ.1 h'.1).1
 have hl:=(atF h'.2).1
 obtain⟨a1,a2⟩:=ant 0 st lf h
 obtain⟨b1,b2⟩:=ant 1 st lf h
 have n1:leN st.length 9223372036854775807=true:=bY (by omega)
 have n2:leN lf.length 9223372036854775807=true:=bY (by omega)
 have q0:HI st lf=0:=by simp only [HI,h'.1,h'.2];rfl
 have q1:HJ st lf=lkC st lf 0:=by simp only [HJ,h'.1,h'.2,a1];rfl
 have q2:HK st lf=lkC st lf 1:=by simp only [HK,h'.1,h'.2,b1];rfl
 have q3:Oj st lf=true:=by simp only [Oj,h'.1,h'.2,a2,b2,n1,n2,allT,Bool.or_true,cond_true]
 obtain⟨s1,s2⟩:=aq2 (lkC st lf 0) (by rw [Ta];omega)
 obtain⟨t1,t2⟩:=aq2 (lkC st lf 1) (by rw [Ta];omega)
 have e:=axP (atH (ch:=0) h) (atH (ch:=1) h) (Ta st lf 0) (Ta st lf 1) h12.2
 refine⟨?_,?_,?_⟩
 ·simp only [abe,GR,q0,q1,q2,s1,t1,e,Xm,bne_self_eq_false,cond_false]
 ·simp only [abf,GR,q0,bne_self_eq_false,cond_false]
 ·simp only [abg,q1,q2,q3,s2,t2,allT,Bool.or_true,cond_true]
def ko(y2 b:Int):(Unit)→Nat ⊕ (Unit)
 |_=>(bif(y2==b)then(.inl 0)else(.inr ()))
def eL(y2:Int)(y3:List Int)(i:Nat):(Unit)→cF
 |_=>((i:Int),(↑y3.length:Int),y2,y3)
def zg:cF→Unit
 |(_,_,_,_)=>()
theorem Ys(y2:Int)(y3:List Int) (hn:y3.length≤9223372036854775807):
  bd.fin ((0:Int),(↑y3.length:Int),y2,y3)=true∧bd.res ((0:Int),(↑y3.length:Int),y2,y3)=((aN (ko y2) 1 y3 0 ()).1,(eL y2 y3) (aN (ko y2) 1 y3 0 ()).2.1 (aN (ko y2) 1 y3 0 ()).2.2):=by
 have cH:=bd.along (eL y2 y3) zg (ko y2) 1 (fun _ _=>True) y3 () (by trivial) (by simp only [bd,eL];omega) (fun i b a hb hI=> ?_) (fun a hI=> ?_)
 ·exact cH
 ·obtain⟨⟩:=a
  have dd:=(List.getElem?_eq_some_iff.1 hb).1
  have gc: ∀ d,Option.getD y3[i]? d=b:=fun d=>by rw [hb];rfl
  have hw:=tQ dd hn
  have bW:ltI (i:Int) (y3.length:Int)=true:=du (by omega)
  have pY:leI (0:Int) (i:Int)=true:=ct (by omega)
  have dw:ltN i y3.length=true:=ec dd
  refine⟨?_,?_,?_,?_⟩
  ·simp [nf,ng,nh,ni,nj,nk,my,bd,LT.nds,allT,eL,bW,pY,dw,gc]
  ·simp [nf,ng,nh,ni,nj,nk,my,bd,LT.each,eL,zg,hw]
  ·simp only [nf,ng,nh,ni,nj,nk,my,bd,LT.fn,eL,zg,ko,Int.toNat_natCast,bW,pY,dw,gc,cond_true,Bool.cond_self]
  ·exact fun _ _=>trivial
 ·obtain⟨⟩:=a
  simp [nf,ng,nh,ni,nj,nk,my,bd,LT.out,eL]
def qO(b:Int):(List Int)→Nat ⊕ (List Int)
 |y3=>(.inr (y3++([afF (b==(2:Int))])))
def lX(y2:List Int)(i:Nat):(List Int)→jr
 |y3=>((i:Int),(↑y2.length:Int),y2,y3)
def NA:jr→List Int
 |(_,_,_,y3)=>y3
theorem ajd(y2 y3:List Int)(hn:y2.length≤9223372036854775807)(hR:areR y2=true)(h0:y3= []):
  cS.fin ((0:Int),(↑y2.length:Int),y2,y3)=true∧cS.res ((0:Int),(↑y2.length:Int),y2,y3)=((aN (qO) 0 y2 0 y3).1,(lX y2) (aN (qO) 0 y2 0 y3).2.1 (aN (qO) 0 y2 0 y3).2.2):=by
 have cH:=cS.along (lX y2) NA (qO) 0 (fun i a=>a.length≤i) y2 y3 (by subst h0;simp) (by simp only [cS,lX];omega) (fun i b a hb hI=> ?_) (fun a hI=> ?_)
 ·exact cH
 ·obtain y3:=a
  have dd:=(List.getElem?_eq_some_iff.1 hb).1
  have gc: ∀ d,Option.getD y2[i]? d=b:=fun d=>by rw [hb];rfl
  have hw:=tQ dd hn
  have bW:ltI (i:Int) (y2.length:Int)=true:=du (by omega)
  have pY:leI (0:Int) (i:Int)=true:=ct (by omega)
  have dw:ltN i y2.length=true:=ec dd
  refine⟨?_,?_,?_,?_⟩
  ·have h12:=(GZ.1 hR).1
   have h6:leN (a.length + 1) 9223372036854775807=true:=bY (by omega)
   have h7:leN ((a.length + 1) * 8) 140737488355328=true:=bY (by omega)
   simp [oS,Ag,Ah,Ai,Aj,Ak,Al,Am,An,yC,cS,LT.nds,allT,lX,bW,pY,dw,h6,h7]
  ·simp [oS,Ag,Ah,Ai,Aj,Ak,Al,Am,An,yC,cS,LT.each,lX,NA,hw]
  ·simp only [oS,Ag,Ah,Ai,Aj,Ak,Al,Am,An,yC,cS,LT.fn,lX,NA,qO,Int.toNat_natCast,bW,pY,dw,gc,cond_true,Bool.cond_self]
  ·intro a' hf;simp only [qO,Sum.inr.injEq]at hf;subst hf;simp;omega
 ·obtain y3:=a
  simp [oS,Ag,Ah,Ai,Aj,Ak,Al,Am,An,yC,cS,LT.out,lX]
def qP(b:Int×(Int×Int)):(List Int×List Int)→Nat ⊕ (List Int×List Int)
 |(y3,y4)=>(.inr ((bif(b.2.1==(0:Int))then List.set y3 (Int.toNat b.1) b.2.2else y3),(bif(b.2.1==(0:Int))then y4 else List.set y4 (Int.toNat b.1) b.2.2)))
def lY(y2:List (Int×(Int×Int)))(i:Nat):(List Int×List Int)→jt
 |(y3,y4)=>((i:Int),(↑y2.length:Int),y2,y3,y4)
def NB:jt→List Int×List Int
 |(_,_,_,y3,y4)=>(y3,y4)
theorem aje(y2:List (Int×(Int×Int)))(y3 y4:List Int)(hn:y2.length≤9223372036854775807)(n:Nat)(h3:y3.length=n)(h4:y4.length=n)(hf: ∀ f∈y2,0≤f.1∧f.1 < (n:Int)):
  cT.fin ((0:Int),(↑y2.length:Int),y2,y3,y4)=true∧cT.res ((0:Int),(↑y2.length:Int),y2,y3,y4)=((aN (qP) 0 y2 0 (y3,y4)).1,(lY y2) (aN (qP) 0 y2 0 (y3,y4)).2.1 (aN (qP) 0 y2 0 (y3,y4)).2.2):=by
 have cH:=cT.along (lY y2) NB (qP) 0 (fun _ a=>a.1.length=n∧a.2.length=n) y2 (y3,y4) ⟨h3,h4⟩ (by simp only [cT,lY];omega) (fun i b a hb hI=> ?_) (fun a hI=> ?_)
 ·exact cH
 ·obtain⟨y3,y4⟩:=a
  have dd:=(List.getElem?_eq_some_iff.1 hb).1
  have gc: ∀ d,Option.getD y2[i]? d=b:=fun d=>by rw [hb];rfl
  have hw:=tQ dd hn
  have bW:ltI (i:Int) (y2.length:Int)=true:=du (by omega)
  have pY:leI (0:Int) (i:Int)=true:=ct (by omega)
  have dw:ltN i y2.length=true:=ec dd
  refine⟨?_,?_,?_,?_⟩
  ·have h5:=hf b (List.mem_of_getElem? hb)
   have hI1:=hI.1
   have hI2:=hI.2
   have h6:leI 0 b.1=true:=ct h5.1
   have h7:ltI b.1 (n:Int)=true:=du (by omega)
   have h8:ltN b.1.toNat n=true:=ec (by omega)
   simp only at hI1 hI2
   simp [cR,eM,ti,Ao,Ap,Aq,Ar,As,At,Au,Av,Aw,Ax,yo,yp,yq,yD,cT,LT.nds,allT,lY,bW,pY,dw,gc,h6,h7,h8,hI1,hI2]
  ·simp [cR,eM,ti,Ao,Ap,Aq,Ar,As,At,Au,Av,Aw,Ax,yo,yp,yq,yD,cT,LT.each,lY,NB,hw]
  ·simp only [cR,eM,ti,Ao,Ap,Aq,Ar,As,At,Au,Av,Aw,Ax,yo,yp,yq,yD,cT,LT.fn,lY,NB,qP,Int.toNat_natCast,bW,pY,dw,gc,cond_true,Bool.cond_self]
  ·intro a' hf;simp only [qP,Sum.inr.injEq]at hf;subst hf;have hI1:=hI.1;have hI2:=hI.2;cases b.2.1==0 <;> simpa using ⟨hI1,hI2⟩
 ·obtain⟨y3,y4⟩:=a
  simp [cR,eM,ti,Ao,Ap,Aq,Ar,As,At,Au,Av,Aw,Ax,yo,yp,yq,yD,cT,LT.out,lY]
theorem axn(x v:Int):(x==v)=(v==x):=by rw [Bool.eq_iff_iff,beq_iff_eq,beq_iff_eq];exact eq_comm
theorem ZK(x:Int)(l:List Int)(h:l.length≤9223372036854775807):ba x l=l.any (· ==x)∧dK x l=true:=by
 obtain⟨w1,w2⟩:=Ys x l h
 rw [kH (P:=fun v=>v==x) (j:=0) (fun v=>by simp only [ko];rw [axn x v])]at w2
 simp only [ba,dK,FN,FO,vO,w1,w2,allT,eL]
 cases l.any (· ==x)with
 |false=>exact⟨rfl,rfl⟩
 |true=>
  simp only [cond_true,Nat.beq]
  exact⟨ct (by omega),trivial⟩
theorem asB(st:List Int)(lf:List (Int×Int×Int))(h:akk st lf=true):aaD st lf=Xm st lf∧aaE st lf=true:=by
 have h':=h
 simp only [akk,Bool.and_eq_true]at h'
 have h12:=(GZ.1 h'.1).1
 obtain⟨hl,hf⟩:=atF h'.2
 obtain⟨w1,w2⟩:=ajd st [] (by omega) h'.1 rfl
 rw [jI (f:=qO) (g:=fun a b=>a++ [bif b==2 then 1 else 0]) (fun b a=>rfl),ZT]at w2
 have e1:yY st=lkB st:=by
  simp only [yY,LR,w2,lX,List.nil_append];rfl
 obtain⟨v1,v2⟩:=aje lf (lkB st) (lkB st) (by omega) st.length (aaG st) (aaG st) (fun f hm=>(hf f hm).1)
 rw [jI (f:=qP) (g:=fun a f=>(bif f.2.1==0 then a.1.set f.1.toNat f.2.2 else a.1,bif f.2.1==0 then a.2 else a.2.set f.1.toNat f.2.2)) (fun b a=>rfl),anZ _ _ (fun f hm=>(hf f hm).2.1)]at v2
 have e3:LS st lf=(lkC st lf 0,lkC st lf 1):=by
  simp only [LS,Fe,e1,v2,lY];rfl
 have e4:Lp.fin cT (Fe st lf)=true:=by simp only [Fe,e1];exact v1
 have e5:Lp.fin cS (LR st)=true:=w1
 have q0:Ca st lf=lkC st lf 0:=by rw [Ca,e3]
 have q1:Ho st lf=lkC st lf 1:=by rw [Ho,e3]
 have n1:leN 1 st.length=true:=bY (by omega)
 have n2:leN st.length 1048576=true:=bY (by omega)
 have q2:Ob st lf=true:=by simp only [Ob,e4,e5,e1,aaG,n1,n2,allT,Bool.and_self,cond_true]
 obtain⟨s1,s2⟩:=ZK 0 (lkC st lf 0) (by rw [Ta];omega)
 obtain⟨t1,t2⟩:=ZK 0 (lkC st lf 1) (by rw [Ta];omega)
 refine⟨?_,?_⟩
 ·simp only [aaD,q0,q1,s1,t1,Xm]
  cases (lkC st lf 0).any (· ==0) <;> rfl
 ·simp only [aaE,q0,q1,q2,s2,t2,allT,Bool.or_true,cond_true]
def ahW:List SV→List Entry→Option Out
 | [.one ⟨false,[.ref 0]⟩,.one ⟨false,[.ref 1]⟩],[.row false 2 (.int .i64) x0,.row false 100 (.pair (.int .i64) (.pair (.int .i64) (.int .i64))) x1]=>some ⟨.tup [⟨false,[.val (.bool (Xm x0 x1))]⟩,⟨false,[.val (.int .i64 (0))]⟩],[.row false 2 ajn x0,.row false 100 adk x1],[],[akk x0 x1]⟩
 |_,_=>none
def aaS:PF prog:=PF.alt aqC ahW (by
 intro args es o h bz;unfold ahW at h;split at h
 ·rename_i x0 x1
  cases h
  have bz:=fM bz
  have hh:=asW x0 x1 bz
  obtain⟨e0,e1,en⟩:=hh
  exact jK rfl (fj en) (by simp only [e0,e1] <;> rfl) rfl rfl
 ·cases h)
def ahV:List SV→List Entry→Option Out
 | [.one ⟨false,[.ref 0]⟩,.one ⟨false,[.ref 1]⟩],[.row false 2 (.int .i64) x0,.row false 100 (.pair (.int .i64) (.pair (.int .i64) (.int .i64))) x1]=>some ⟨.one ⟨false,[.val (.bool (Xm x0 x1))]⟩,[.row false 2 ajn x0,.row false 100 adk x1],[],[akk x0 x1]⟩
 |_,_=>none
def aaR:PF prog:=PF.alt aqB ahV (by
 intro args es o h bz;unfold ahV at h;split at h
 ·rename_i x0 x1
  cases h
  have bz:=fM bz
  have hh:=asB x0 x1 bz
  obtain⟨e0,en⟩:=hh
  exact jK rfl (fj en) (by simp only [e0] <;> rfl) rfl rfl
 ·cases h)
def rsB(n k row:Int):Bool:=bif k==0||k==1 then inR row 0 (IntKind.i64.wrap (n - 1))else bif k==2||k==3 then row==0 else false
def lG(st:List Int)(k row:Int):Bool:=bif k==0||k==1 then(st[row.toNat]?.getD 0)==k else bif k==2 then !st.any (· ==0)else Hu st
def Ui(st:List Int)(k row:Int):List Int:=bif k==0||k==1 then st.set row.toNat (1 - k)else st.map fun _=>bif k==2 then 2 else 1
def ann(st:List Int)(k row:Int):Bool:=areR st&&rsB (st.length:Int) k row
theorem avE(a b:Bool):(bif a then a else b)=(a||b):=by cases a <;> rfl
theorem awi(n k row:Int):abt n k row=rsB n k row:=by
 simp only [abt,aZ,xZ,rsB,avE]
theorem avX(n k row:Int):LQ n k row=rsB n k row:=by
 simp only [LQ,bu,xZ,rsB,avE]
theorem aqV{st:List Int}{k row:Int}(h:ann st k row=true):areR st=true∧(1≤st.length∧st.length≤12)∧(((k=0∨k=1)∧0≤row∧row < st.length)∨((k=2∨k=3)∧row=0)):=by
 simp only [ann,Bool.and_eq_true]at h
 have h12:=(GZ.1 h.1).1
 refine⟨h.1,h12,?_⟩
 have h2:=h.2
 rw [rsB,aw (by omega) (by omega)]at h2
 cases h3:(k==0||k==1)with
 |true=>
  rw [h3,cond_true,sa]at h2
  simp only [Bool.or_eq_true,beq_iff_eq]at h3
  exact .inl ⟨h3,by omega⟩
 |false=>
  rw [h3,cond_false]at h2
  cases h4:(k==2||k==3)with
  |true=>
   rw [h4,cond_true,beq_iff_eq]at h2
   simp only [Bool.or_eq_true,beq_iff_eq]at h4
   exact .inr ⟨h4,h2⟩
  |false=>rw [h4]at h2;cases h2
def wg(y1 _b:Int):(List Int)→Nat ⊕ (List Int)
 |y3=>(.inr (y3++ [y1]))
def rJ(y1:Int)(y2:List Int)(i:Nat):(List Int)→mN
 |y3=>((i:Int),y1,y2,y3)
def Th:mN→List Int
 |(_,_,_,y3)=>y3
theorem anB(y1:Int)(y2 y3:List Int)(hn:y2.length≤9223372036854775807)(h12:y2.length≤12)(h0:y3= []):
  gK.fin ((0:Int),y1,y2,y3)=true∧gK.res ((0:Int),y1,y2,y3)=((aN (wg y1) 0 y2 0 y3).1,(rJ y1 y2) (aN (wg y1) 0 y2 0 y3).2.1 (aN (wg y1) 0 y2 0 y3).2.2):=by
 have cH:=gK.along (rJ y1 y2) Th (wg y1) 0 (fun i a=>a.length≤i) y2 y3 (by subst h0;simp) (by simp only [gK,rJ];omega) (fun i b a hb hI=> ?_) (fun a hI=> ?_)
 ·exact cH
 ·obtain y3:=a
  have dd:=(List.getElem?_eq_some_iff.1 hb).1
  have gc: ∀ d,Option.getD y2[i]? d=b:=fun d=>by rw [hb];rfl
  have hw:=tQ dd hn
  have bW:ltI (i:Int) (y2.length:Int)=true:=du (by omega)
  have pY:leI (0:Int) (i:Int)=true:=ct (by omega)
  have dw:ltN i y2.length=true:=ec dd
  refine⟨?_,?_,?_,?_⟩
  ·have h6:leN (a.length + 1) 9223372036854775807=true:=bY (by omega)
   have h7:leN ((a.length + 1) * 8) 140737488355328=true:=bY (by omega)
   simp [HP,HQ,HR,HS,HT,FH,gK,LT.nds,allT,rJ,bW,pY,dw,h6,h7]
  ·simp [HP,HQ,HR,HS,HT,FH,gK,LT.each,rJ,Th,hw]
  ·simp only [HP,HQ,HR,HS,HT,FH,gK,LT.fn,rJ,Th,wg,Int.toNat_natCast,bW,pY,dw,gc,cond_true,Bool.cond_self]
  ·intro a' hf;simp only [wg,Sum.inr.injEq]at hf;subst hf;simp;omega
 ·obtain y3:=a
  simp [HP,HQ,HR,HS,HT,FH,gK,LT.out,rJ]
theorem apc(x:Int)(st:List Int)(h:st.length≤12):PP x st=st.map (fun _=>x)∧PQ x st=true:=by
 obtain⟨w1,w2⟩:=anB x st [] (by omega) h rfl
 rw [jI (f:=wg x) (g:=fun a _=>a++ [x]) (fun b a=>rfl),ZT (fun _=>x)]at w2
 exact⟨by simp only [PP,SG,w2,rJ,List.nil_append],by simp only [PQ,SG,w1,allT,cond_true]⟩
theorem an5: ∀ (xs:List Int) (m:Int),0≤m→(∀ y∈xs,0≤y)→
  leI 1 (xs.foldl (fun m b=>bif ltI b m then b else m) m)=(!(m==0)&& !xs.any (· ==0))
 | [],m,hm,_=>by
  simp only [List.foldl_nil,List.any_nil,Bool.not_false,Bool.and_true]
  rw [Bool.eq_iff_iff,Bool.not_eq_true',beq_eq_false_iff_ne,Sx];omega
 |y::xs,m,hm,h=>by
  have hy:=h y (by simp)
  rw [List.foldl_cons,List.any_cons]
  cases hc:ltI y m with
  |true=>
   rw [cond_true,an5 xs y hy fun z hz=>h z (by simp [hz])]
   have hc:=Xz.1 hc
   rw [show (m==0)=false from by rw [beq_eq_false_iff_ne];omega]
   cases y==0 <;> simp
  |false=>
   rw [cond_false,an5 xs m hm fun z hz=>h z (by simp [hz])]
   have hc: ¬ y < m:=fun h=>by rw [du h]at hc;cases hc
   cases hm0:m==0 with
   |true=>rfl
   |false=>
    rw [beq_eq_false_iff_ne]at hm0
    rw [show (y==0)=false from by rw [beq_eq_false_iff_ne];omega]
    simp
theorem av3(st:List Int)(h:areR st=true):leI 1 (CI st)= !st.any (· ==0):=by
 obtain⟨h1,h2⟩:=GZ.1 h
 match st,h1,h2 with
 |x::xs,h1,h2=>
  have hx:=h2 x (by simp)
  obtain⟨w1,w2⟩:=abJ (x::xs) x (by omega)
  rw [jI (f:=nu) (g:=fun m b=>bif ltI b m then b else m) (fun b a=>by simp only [nu,amU])]at w2
  have e0:Option.getD (x::xs)[Int.toNat 0]? 0=x:=rfl
  simp only [CI,KN,e0,w2,mp,List.drop_one,List.tail_cons]
  rw [an5 xs x hx.1 fun y hy=>(h2 y (by simp [hy])).1,List.any_cons,Bool.not_or]
theorem aot{st:List Int}{row:Int}(h:0≤row∧row < st.length):leI 0 row=true∧ltI row (st.length:Int)=true∧ltN row.toNat st.length=true:=
 ⟨ct h.1,du h.2,ec (by omega)⟩
theorem asU(k row:Int)(st:List Int)(h:ann st k row=true):GW k row st=lG st k row∧GX k row st=Ui st k row∧GY k row st=true:=by
 obtain⟨hA,h12,hk⟩:=aqV h
 obtain⟨l1,l2⟩:=awR st hA
 have l3:=av3 st hA
 obtain⟨f1,f2⟩:=apc 2 st h12.2
 obtain⟨g1,g2⟩:=apc 1 st h12.2
 have n1:leN st.length 1048576=true:=bY (by omega)
 rcases hk with⟨rfl | rfl,hr⟩ | ⟨rfl | rfl,rfl⟩
 ·obtain⟨r1,r2,r3⟩:=aot hr
  simp [GW,GX,GY,Eu,Ev,Ew,Ey,Ez,EA,EB,lG,Ui,r1,r2,r3,n1,allT]
 ·obtain⟨r1,r2,r3⟩:=aot hr
  simp [GW,GX,GY,Eu,Ev,Ew,Ey,Ez,EA,EB,lG,Ui,r1,r2,r3,n1,allT]
 ·simp [GW,GX,GY,Eu,Ev,Ew,Ey,Ez,EA,EB,lG,Ui,l2,l3,f1,f2,n1,allT]
 ·simp [GW,GX,GY,Eu,Ev,Ew,Ey,Ez,EA,EB,lG,Ui,l1,l2,g1,g2,n1,allT]
def lm(y2:Int)(b:Nat):(List Int)→Nat ⊕ (List Int)
 |y3=>(.inr (List.set y3 b y2))
def iT(y1 y2:Int)(i:Nat):(List Int)→eT
 |y3=>((i:Int),y1,y2,y3)
def GK:eT→List Int
 |(_,_,_,y3)=>y3
theorem adN(y1 y2:Int)(y3:List Int)(hn:y1≤9223372036854775807)(h3:y1=(y3.length:Int)):
  bo.fin ((0:Int),y1,y2,y3)=true∧bo.res ((0:Int),y1,y2,y3)=((aN (lm y2) 0 (List.range y1.toNat) 0 y3).1,(iT y1 y2) (aN (lm y2) 0 (List.range y1.toNat) 0 y3).2.1 (aN (lm y2) 0 (List.range y1.toNat) 0 y3).2.2):=by
 have cH:=bo.along (iT y1 y2) GK (lm y2) 0 (fun _ a=>y1=(a.length:Int)) (List.range y1.toNat) y3 h3 (by simp only [bo,iT,List.length_range];omega) (fun i b a hb hI=> ?_) (fun a hI=> ?_)
 ·exact cH
 ·obtain y3:=a
  obtain⟨rfl,dd⟩:=qD hb
  have hw:IntKind.i64.wrap ((b:Int) + 1)=((b + 1:Nat):Int):=by rw [aw (by omega) (by omega)];omega
  have bW:ltI (b:Int) y1=true:=du (by omega)
  have pY:leI (0:Int) (b:Int)=true:=ct (by omega)
  refine⟨?_,?_,?_,?_⟩
  ·have h6:ltI (b:Int) (a.length:Int)=true:=du (by omega)
   have h7:ltN b a.length=true:=ec (by omega)
   simp [tx,tz,tA,tB,tC,tD,sw,bo,LT.nds,allT,iT,bW,pY,h6,h7]
  ·simp [tx,tz,tA,tB,tC,tD,sw,bo,LT.each,iT,GK,hw]
  ·simp only [tx,tz,tA,tB,tC,tD,sw,bo,LT.fn,iT,GK,lm,Int.toNat_natCast,bW,pY,cond_true,Bool.cond_self]
  ·intro a' hf;simp only [lm,Sum.inr.injEq]at hf;subst hf;simpa using hI
 ·obtain y3:=a
  simp only [tx,tz,tA,tB,tC,tD,sw,bo,LT.out,iT,List.length_range,aeT,aiH,cond_false]
theorem aoU(x:Int)(st:List Int)(h:st.length≤12):(Lp.res bo ((0:Int),(↑(List.length st):Int),x,st)).2.2.2.2=st.map (fun _=>x)∧Lp.fin bo ((0:Int),(↑(List.length st):Int),x,st)=true:=by
 obtain⟨w1,w2⟩:=adN (st.length:Int) x st (by omega) rfl
 rw [Int.toNat_natCast,asg (xs:=st) (d:=0) (f:=lm x) (g:=fun _=>x) (fun b a=>rfl) rfl]at w2
 exact⟨by simp only [w2,iT],w1⟩
theorem ayl{k:Int}(h:0≤k∧k≤2):IntKind.i64.wrap (IntKind.i64.wrap (k - 0) + 0)=k∧IntKind.i64.wrap (1 - k)=1 - k:=
 ⟨by rw [show IntKind.i64.wrap (k - 0)=k from by rw [aw (by omega) (by omega)];omega,aw (by omega) (by omega)];omega,aw (by omega) (by omega)⟩
theorem atz(k row:Int)(st:List Int)(h:ann st k row=true):yt k row st=lG st k row∧yu k row st=(bif lG st k row then Ui st k row else st)∧yw k row st=true:=by
 obtain⟨hA,h12,hk⟩:=aqV h
 obtain⟨c1,c2⟩:=ZK 0 st (by omega)
 obtain⟨f1,f2⟩:=aoU 2 st h12.2
 obtain⟨g1,g2⟩:=aoU 1 st h12.2
 have n1:leN st.length 9223372036854775807=true:=bY (by omega)
 rcases hk with⟨hk,hr⟩ | ⟨rfl | rfl,rfl⟩
 ·obtain⟨r1,r2,r3⟩:=aot hr
  obtain⟨q1,q2⟩:=ayl (k:=k) (by omega)
  have ha0:ce k=true:=by rcases hk with rfl | rfl <;> rfl
  have ha1:(k==0||k==1)=true:=by rcases hk with rfl | rfl <;> rfl
  have ha2:nv k row st= !((st[row.toNat]?.getD 0)==k):=by
   rw [nv,q1];rfl
  simp only [yt,yu,yw,ha0,ha2,wv,ww,wx,lG,Ui,ha1,cond_true,r1,r2,r3,Bool.or_true,Bool.true_or,allT]
  cases hc:(st[row.toNat]?.getD 0)==k with
  |false=>simp
  |true=>
   have hv:LU row st=k:=by rw [beq_iff_eq]at hc;exact hc
   rw [hv,q2]
   simp
 ·simp only [yt,yu,yw,show ce 2=false from rfl,LV,wv,ww,wx,lG,Ui,c1,c2,f1,f2,n1,allT]
  cases st.any (· ==0) <;> simp
 ·simp only [yt,yu,yw,show ce 3=false from rfl,LW,wv,ww,wx,lG,Ui,c1,c2,g1,g2,n1,allT]
  cases Hu st <;> simp
def ah4:List SV→List Entry→Option Out
 | [.one ⟨false,[.val (.int .i64 x0)]⟩,.one ⟨true,[.val (.int .i64 x1),.val (.int .i64 x2)]⟩],[]=>some ⟨.one ⟨false,[.val (.bool (rsB x0 x1 x2))]⟩,[],[],[]⟩
 |_,_=>none
def aqu:PF prog:=PF.alt aqJ ah4 (by
 intro args es o h bz;unfold ah4 at h;split at h
 ·rename_i x0 x1 x2
  cases h
  have hh:=awi x0 x1 x2
  have e0:=hh
  exact jK rfl (fun _ h=>by cases h) (by simp only [e0] <;> rfl) rfl rfl
 ·cases h)
def Us:List SV→List Entry→Option Out
 | [.one ⟨false,[.val (.int .i64 x0)]⟩,.one ⟨true,[.val (.int .i64 x1),.val (.int .i64 x2)]⟩],[]=>some ⟨.one ⟨false,[.val (.bool (rsB x0 x1 x2))]⟩,[],[],[]⟩
 |_,_=>none
def afK:PF prog:=PF.alt afP Us (by
 intro args es o h bz;unfold Us at h;split at h
 ·rename_i x0 x1 x2
  cases h
  have hh:=avX x0 x1 x2
  have e0:=hh
  exact jK rfl (fun _ h=>by cases h) (by simp only [e0] <;> rfl) rfl rfl
 ·cases h)
def agj:List SV→List Entry→Option Out
 | [.one ⟨false,[.ref 0]⟩,.one ⟨true,[.val (.int .i64 x0),.val (.int .i64 x1)]⟩],[.row false 2 (.int .i64) x2]=>some ⟨.tup [⟨false,[.ref 1]⟩,⟨false,[.val (.bool (lG x2 x0 x1))]⟩],[.row false 2 ajn x2],[.row true 2 ajn (Ui x2 x0 x1)],[ann x2 x0 x1]⟩
 |_,_=>none
def YU:PF prog:=PF.alt apA agj (by
 intro args es o h bz;unfold agj at h;split at h
 ·rename_i x0 x1 x2
  cases h
  have bz:=fM bz
  have hh:=asU x0 x1 x2 bz
  obtain⟨e0,e1,en⟩:=hh
  exact jK rfl (fj en) (by simp only [e0] <;> rfl) rfl (by simp only [e1] <;> rfl)
 ·cases h)
def Wo:List SV→List Entry→Option Out
 | [.one ⟨false,[.ref 0]⟩,.one ⟨true,[.val (.int .i64 x0),.val (.int .i64 x1)]⟩],[.row true 2 (.int .i64) x2]=>some ⟨.one ⟨false,[.val (.bool (lG x2 x0 x1))]⟩,[.row true 2 ajn (bif lG x2 x0 x1 then Ui x2 x0 x1 else x2)],[],[ann x2 x0 x1]⟩
 |_,_=>none
def Ny:PF prog:=PF.alt ahm Wo (by
 intro args es o h bz;unfold Wo at h;split at h
 ·rename_i x0 x1 x2
  cases h
  have bz:=fM bz
  have hh:=atz x0 x1 x2 bz
  obtain⟨e0,e1,en⟩:=hh
  exact jK rfl (fj en) (by simp only [e0] <;> rfl) (by simp only [e1] <;> rfl) rfl
 ·cases h)
section
variable (x0 x1 x2 x3 x4 x5 x6 x7 x8:Int)(x9:Bool)(x10:List Int)(x11:List (Int×Int×Int))(x12:List (List Int))(x13:List (Int×Int×Int))(x14 x15:List (Int×Int))
def Mn:Bool:=aZ x4 (0:Int) (IntKind.wrap .i64 ((↑x12.length:Int) - (1:Int)))
def Tw:Bool:=bif x5==(0:Int)then bif x6==(0:Int)then true else false else false
def Tx:Bool:=bif x7==(0:Int)then bif x8==(0:Int)then bif x9==false then true else false else false else false
def wU:Bool:=bif !kO x0 x10 x11 x12 x13 x1 x14 x15 x2 then false else bif x3==(0:Int)then bif Mn x4 x12 then bif x3==(0:Int)then bif x4==x4 then bif Tw x5 x6 then bif Tx x7 x8 x9 then true else false else false else false else false else false else bif x3==(1:Int)then bif bif Mn x4 x12 then rsB (BR x12) x5 x6 else false then Tx x7 x8 x9 else false else bif x3==(2:Int)then bif bif x4==(0:Int)then Tw x5 x6 else false then amL x7 x8 else false else false
def Ce:Bool:=allT [rV (9223372036854775807:Nat) x10 x11 x12 x13 x14 x15,!kO x0 x10 x11 x12 x13 x1 x14 x15 x2||(x3==(0:Int)||(!x3==(1:Int)||(!(Mn x4 x12&&true)||BS x12)))]
end
def ab7:List SV→List Entry→Option Out
 | [.one ⟨true,[.val (.int .i64 x0),.ref 0,.ref 1,.ref 2,.ref 3,.val (.int .i64 x1),.ref 4,.ref 5,.val (.int .i64 x2)]⟩,.one ⟨true,[.val (.int .i64 x3),.val (.int .i64 x4),.val (.int .i64 x5),.val (.int .i64 x6),.val (.int .i64 x7),.val (.int .i64 x8),.val (.bool x9)]⟩],[.row false 2 (.int .i64) x10,.row false 169 (.pair (.int .i64) (.pair (.int .i64) (.int .i64))) x11,.row false 24 (.sl 2 (.int .i64)) x12,.row false 100 (.pair (.int .i64) (.pair (.int .i64) (.int .i64))) x13,.row false 173 (.pair (.int .i64) (.int .i64)) x14,.row false 176 (.pair (.int .i64) (.int .i64)) x15]=>some ⟨.one ⟨false,[.val (.bool (wU x0 x1 x2 x3 x4 x5 x6 x7 x8 x9 x10 x11 x12 x13 x14 x15))]⟩,[.row false 2 ajn x10,.row false 169 adk x11,.row false 24 (CTy.sl (2:TypeId) ajn) x12,.row false 100 adk x13,.row false 173 aiq x14,.row false 176 aiq x15],[],[Ce x0 x1 x2 x3 x4 x10 x11 x12 x13 x14 x15]⟩
 |_,_=>none
def fk:PF prog:=PF.ofG prog [aqu,aod,rO,PF.lend rO,PF.fz rO,gh,wJ,PF.lend wJ,PF.fz wJ] [] aO 35 f35 func35 (fun c _=>LOk.nil c) ab7 (by
 intro vs es r h;unfold ab7 at h;split at h
 ·cases h;kernel_rfl
 ·cases h)
abbrev ou:=Int×Int×Int×Int×List (List Int)×List Int×List (Int×(Int×Int))×List (List Int)×List (Int×(Int×Int))×List (Int×Int)×List (Int×Int)
section
variable (y0:Int)(y4 y7:List (List Int))
def ta:List Int:=Option.getD y7[Int.toNat y0]? (DA (CTy.sl (2:TypeId) ajn))
def EF:Bool:=ltI y0 (↑y7.length:Int)
def KV:Bool:=leI (0:Int) y0
def KW:Bool:=ltN y0.toNat y7.length
def KX:Bool:=leN (List.length (ta y0 y7)) (1048576:Nat)
def KY:Bool:=leN (List.length y4 + List.length [ta y0 y7]) (9223372036854775807:Nat)
def KZ:Bool:=leN ((List.length y4 + List.length [ta y0 y7]) * (24:Nat)) (140737488355328:Nat)
def La:Int:=IntKind.wrap .i64 (y0 + (1:Int))
def Lb:List (List Int):=y4++ [ta y0 y7]
end
def amm:ou→List (Nat×SV)
 |(y0,_,_,_,_,_,_,_,_,_,_)=> [(4,(.one ⟨false,[.val (.int .i64 y0)]⟩)),(1,(.one ⟨false,[.ptr 0 0]⟩)),(3,(.one ⟨false,[.ref 1]⟩))]
def amd:ou→List (Nat×Entry)
 |(_,y1,y2,y3,y4,y5,y6,y7,y8,y9,y10)=> [(0,(.box 33 [.val (.int .i64 y1),.ref 2,.ref 3,.ref 4,.ref 5,.val (.int .i64 y2),.ref 6,.ref 7,.val (.int .i64 y3)])),(2,(.row false 2 ajn y5)),(3,(.row false 169 adk y6)),(4,(.row false 24 (CTy.sl (2:TypeId) ajn) y7)),(5,(.row false 100 adk y8)),(6,(.row false 173 aiq y9)),(7,(.row false 176 aiq y10)),(1,(.row true 24 (CTy.sl (2:Nat) ajn) y4))]
def amE:Nat→ou→List (Nat×SV)
 |_,(_,_,_,_,_,_,_,_,_,_,_)=> [(3,(.one ⟨false,[.ref 1]⟩))]
def amv:Nat→ou→List (Nat×Entry)
 |_,(_,y1,y2,y3,y4,y5,y6,y7,y8,y9,y10)=> [(0,(.box 33 [.val (.int .i64 y1),.ref 2,.ref 3,.ref 4,.ref 5,.val (.int .i64 y2),.ref 6,.ref 7,.val (.int .i64 y3)])),(1,(.row true 24 (CTy.sl (2:Nat) ajn) y4)),(2,(.row false 2 ajn y5)),(3,(.row false 169 adk y6)),(4,(.row false 24 (CTy.sl (2:TypeId) ajn) y7)),(5,(.row false 100 adk y8)),(6,(.row false 173 aiq y9)),(7,(.row false 176 aiq y10))]
def HC:ou→LT ou
 |(y0,y1,y2,y3,y4,y5,y6,y7,y8,y9,y10)=> .ite (EF y0 y7) (.need [KV y0,EF y0 y7,KW y0 y7,KX y0 y7,KY y0 y4 y7,KZ y0 y4 y7] (.nrm ((La y0),y1,y2,y3,Lb y0 y4 y7,y5,y6,y7,y8,y9,y10) [(0,0),(1,896),(2,2),(3,3),(4,4),(5,5),(6,6),(7,7)])) (.ext 0 [(0,0),(1,1),(2,2),(3,3),(4,4),(5,5),(6,6),(7,7)])
def Vp(s:St):Option ou:=
 (match s.look 4 with
 |some ⟨none,.one ⟨false,[.val (.int .i64 y0)]⟩⟩=>
 (match s.look 1 with
 |some ⟨none,.one ⟨false,[.ptr 448 0]⟩⟩=>
 (match s.look 3 with
 |some ⟨none,.one ⟨false,[.ref 576]⟩⟩=>
 (match s.ent 448 with
 |some (.box 33 [.val (.int .i64 y1),.ref 0,.ref 1,.ref 2,.ref 3,.val (.int .i64 y2),.ref 4,.ref 5,.val (.int .i64 y3)])=>
 (match s.ent 0 with
 |some (.row false 2 (.int .i64) y5)=>
 (match s.ent 1 with
 |some (.row false 169 (.pair (.int .i64) (.pair (.int .i64) (.int .i64))) y6)=>
 (match s.ent 2 with
 |some (.row false 24 (.sl 2 (.int .i64)) y7)=>
 (match s.ent 3 with
 |some (.row false 100 (.pair (.int .i64) (.pair (.int .i64) (.int .i64))) y8)=>
 (match s.ent 4 with
 |some (.row false 173 (.pair (.int .i64) (.int .i64)) y9)=>
 (match s.ent 5 with
 |some (.row false 176 (.pair (.int .i64) (.int .i64)) y10)=>
 (match s.ent 576 with
 |some (.row true 24 (.sl 2 (.int .i64)) y4)=>
 some (y0,y1,y2,y3,y4,y5,y6,y7,y8,y9,y10)
 |_=>none)
 |_=>none)
 |_=>none)
 |_=>none)
 |_=>none)
 |_=>none)
 |_=>none)
 |_=>none)
 |_=>none)
 |_=>none)
 |_=>none)
def gH:Lp ou where
 h:=⟨[6,7,8,9,10,13,14,15,16,17,18,19,20,21,3,11,12,4],[0,2,3,4,5,6,7],[1],[]⟩
 JL:=amm
 JE:=amd
 XL:=amE
 XE:=amv
 q:=fun j=>match j with | _=> .exit 0
 tags:= [0]
 lt:=HC
 fuel:=fun(y0,y1,y2,y3,y4,y5,y6,y7,y8,y9,y10)=>y0.natAbs + y1.natAbs + y2.natAbs + y3.natAbs + y4.length + y5.length + y6.length + y7.length + y8.length + y9.length + y10.length
 fix:=fun(_,y1,y2,y3,_,y5,y6,y7,y8,y9,y10) (y0,_,_,_,y4,_,_,_,_,_,_)=>(y0,y1,y2,y3,y4,y5,y6,y7,y8,y9,y10)
 σ:= [(0,448),(2,0),(3,1),(4,2),(5,3),(6,4),(7,5),(1,576)]
 rd:=Vp
theorem akf:LoopOk prog (fun k=>Nat.blt k Tryz.f155.ntmps) gH.F (aK f155 0):=by
 refine Lp.ok (tbl:= [rP,PF.lend rP,PF.fz rP]) (lf:= []) aO gH (by kernel_rfl) (LOk.nil _) (fun _=>rfl) (fun _ _=>rfl) ?_ ?_ ?_ ?_ (fun _=>rfl) ?_
 ·rintro⟨y0,y1,y2,y3,y4,y5,y6,y7,y8,y9,y10⟩;kernel_rfl
 ·rintro⟨y0,y1,y2,y3,y4,y5,y6,y7,y8,y9,y10⟩;kernel_rfl
 ·intro s x h
  have h:Vp s=some x:=h
  unfold Vp at h
  repeat' split at h
  all_goals cases h
  exact⟨aa (by assumption) rfl (aa (by assumption) rfl (aa (by assumption) rfl (rfl))),ab rfl (by assumption) rfl (ab rfl (by assumption) rfl (ab rfl (by assumption) rfl (ab rfl (by assumption) rfl (ab rfl (by assumption) rfl (ab rfl (by assumption) rfl (ab rfl (by assumption) rfl (ab rfl (by assumption) rfl (rfl))))))))⟩
 ·rintro⟨y0,y1,y2,y3,y4,y5,y6,y7,y8,y9,y10⟩;kernel_rfl
 ·rintro⟨y0,y1,y2,y3,y4,y5,y6,y7,y8,y9,y10⟩ z;exact(And.intro rfl trivial)
section
variable (x0 x1 x2:Int)(x3:List Int)(x4:List (Int×Int×Int))(x5:List (List Int))(x6:List (Int×Int×Int))(x7 x8:List (Int×Int))
def Wb:Int×Int×Int×Int×List (List Int)×List Int×List (Int×Int×Int)×List (List Int)×List (Int×Int×Int)×List (Int×Int)×List (Int×Int):=((0:Int),x0,x1,x2,[],x3,x4,x5,x6,x7,x8)
def mS:List (List Int):=((Lp.res gH (Wb x0 x1 x2 x3 x4 x5 x6 x7 x8)).2.2.2.2.2).1
def Sd:Bool:=allT [Lp.fin gH (Wb x0 x1 x2 x3 x4 x5 x6 x7 x8),leN x3.length (1048576:Nat),leN ((0:Nat) + List.length x4) (9223372036854775807:Nat),leN (((0:Nat) + List.length x4) * (24:Nat)) (140737488355328:Nat),leN ((0:Nat) + List.length x6) (9223372036854775807:Nat),leN (((0:Nat) + List.length x6) * (24:Nat)) (140737488355328:Nat),leN ((0:Nat) + List.length x7) (9223372036854775807:Nat),leN (((0:Nat) + List.length x7) * (16:Nat)) (140737488355328:Nat),leN ((0:Nat) + List.length x8) (9223372036854775807:Nat),leN (((0:Nat) + List.length x8) * (16:Nat)) (140737488355328:Nat)]
end
def akz:List SV→List Entry→Option Out
 | [.one ⟨true,[.val (.int .i64 x0),.ref 0,.ref 1,.ref 2,.ref 3,.val (.int .i64 x1),.ref 4,.ref 5,.val (.int .i64 x2)]⟩],[.row false 2 (.int .i64) x3,.row false 169 (.pair (.int .i64) (.pair (.int .i64) (.int .i64))) x4,.row false 24 (.sl 2 (.int .i64)) x5,.row false 100 (.pair (.int .i64) (.pair (.int .i64) (.int .i64))) x6,.row false 173 (.pair (.int .i64) (.int .i64)) x7,.row false 176 (.pair (.int .i64) (.int .i64)) x8]=>some ⟨.one ⟨true,[.val (.int .i64 x0),.ref 6,.ref 7,.ref 8,.ref 9,.val (.int .i64 x1),.ref 10,.ref 11,.val (.int .i64 x2)]⟩,[.row false 2 ajn x3,.row false 169 adk x4,.row false 24 (CTy.sl (2:TypeId) ajn) x5,.row false 100 adk x6,.row false 173 aiq x7,.row false 176 aiq x8],[.row true 2 ajn x3,.row true 169 adk x4,.row true 24 (CTy.sl (2:Nat) ajn) (mS x0 x1 x2 x3 x4 x5 x6 x7 x8),.row true 100 adk x6,.row true 173 aiq x7,.row true 176 aiq x8],[Sd x0 x1 x2 x3 x4 x5 x6 x7 x8]⟩
 |_,_=>none
def rQ:PF prog:=PF.ofG prog [rP,PF.lend rP,PF.fz rP] [gH.F] aO 155 f155 func155 (LOk.fnT (l:= [aK f155 0]) (by kernel_rfl) (.cons akf (.nil _))) akz (by
 intro vs es r h;unfold akz at h;split at h
 ·cases h;kernel_rfl
 ·cases h)
section
variable (x0 x1 x3:Int)(x4:List Int)(x5:List (Int×Int×Int))(x6:List (List Int))(x7:List (Int×Int×Int))
def ua:Bool:=Int.tmod (Option.getD x4[Int.toNat x3]? (0:Int)) (3:Int)!=(1:Int)
def Zd:Bool:= !Zx x0 x4 (xR x0 x4 x5 (0:Int)) (xR x0 x4 x5 (1:Int)) x3
def SM:List Int:=Option.getD x6[Int.toNat x3]? (DA (CTy.sl (2:TypeId) ajn))
def KU:Int:=bif ua x3 x4 then(0:Int)else bif x1 !=(3:Int)then(1:Int)else bif Zd x0 x3 x4 x5 then(2:Int)else bif bif bX x0 x3 x4 then !Xm (SM x3 x6) x7 else false then(3:Int)else(0:Int)
def Wa:Bool:=allT [leI (0:Int) x3,ltI x3 (↑x4.length:Int),ltN x3.toNat x4.length,ua x3 x4||leI (0:Int) x3,ua x3 x4||ltI x3 (↑x6.length:Int),ua x3 x4||ltN x3.toNat x6.length,ua x3 x4||akk (SM x3 x6) x7,ua x3 x4||(x1 !=(3:Int)||isT x0 x4&&an2 x0 x5),ua x3 x4||(x1 !=(3:Int)||adC x0 x4 (xR x0 x4 x5 (0:Int)) (xR x0 x4 x5 (1:Int)) x3),ua x3 x4||(x1 !=(3:Int)||(Zd x0 x3 x4 x5||sv x3 x4))]
end
def ahL:List SV→List Entry→Option Out
 | [.one ⟨true,[.val (.int .i64 x0),.ref 0,.ref 1,.ref 2,.ref 3,.val (.int .i64 x1),.ref 4,.ref 5,.val (.int .i64 _x2)]⟩,.one ⟨false,[.val (.int .i64 x3)]⟩],[.row false 2 (.int .i64) x4,.row false 169 (.pair (.int .i64) (.pair (.int .i64) (.int .i64))) x5,.row false 24 (.sl 2 (.int .i64)) x6,.row false 100 (.pair (.int .i64) (.pair (.int .i64) (.int .i64))) x7,.row false 173 (.pair (.int .i64) (.int .i64)) x8,.row false 176 (.pair (.int .i64) (.int .i64)) x9]=>some ⟨.one ⟨false,[.val (.int .i64 (KU x0 x1 x3 x4 x5 x6 x7))]⟩,[.row false 2 ajn x4,.row false 169 adk x5,.row false 24 (CTy.sl (2:TypeId) ajn) x6,.row false 100 adk x7,.row false 173 aiq x8,.row false 176 aiq x9],[],[Wa x0 x1 x3 x4 x5 x6 x7]⟩
 |_,_=>none
def aa4:PF prog:=PF.ofG prog [aaS,PF.lend aaS,PF.fz aaS,US,PF.lend US,PF.fz US,Xi,PF.lend Xi,PF.fz Xi,gL,PF.lend gL,PF.fz gL] [] aO 177 f177 func177 (fun c _=>LOk.nil c) ahL (by
 intro vs es r h;unfold ahL at h;split at h
 ·cases h;kernel_rfl
 ·cases h)
section
variable (x0 x1 x2 x3 x4 x5 x6 x7 x8:Int)(x9:Bool)(x10:List Int)(x11:List (Int×Int×Int))(x12:List (List Int))(x13:List (Int×Int×Int))(x14 x15:List (Int×Int))
def mr:Bool:=KU x0 x1 x4 x10 x11 x12 x13==(0:Int)
def ic:List Int:=Option.getD x12[Int.toNat x4]? (DA (CTy.sl (2:TypeId) ajn))
def kG:Bool:=vdC x1 x7 x8 x9 !=(0:Int)
def mt:Bool:=bif x7==(1:Int)then !an9 x14 x15 x2 else false
def Qg:Int:=bif x3==(0:Int)then bif mr x0 x1 x4 x10 x11 x12 x13 then x0 else x0 else bif x3==(1:Int)then bif !bX x0 x4 x10 then x0 else bif !lG (ic x4 x12) x5 x6 then x0 else x0 else bif kG x1 x7 x8 x9 then x0 else bif mt x2 x7 x14 x15 then x0 else x0
def Qh:Int:=bif x3==(0:Int)then bif mr x0 x1 x4 x10 x11 x12 x13 then x1 else x1 else bif x3==(1:Int)then bif !bX x0 x4 x10 then x1 else bif !lG (ic x4 x12) x5 x6 then x1 else x1 else bif kG x1 x7 x8 x9 then x1 else bif mt x2 x7 x14 x15 then x1 else nxC x1 x7 x8 x9
def Qi:Int:=bif x3==(0:Int)then bif mr x0 x1 x4 x10 x11 x12 x13 then x2 else x2 else bif x3==(1:Int)then bif !bX x0 x4 x10 then x2 else bif !lG (ic x4 x12) x5 x6 then x2 else x2 else bif kG x1 x7 x8 x9 then x2 else bif mt x2 x7 x14 x15 then x2 else x2
def Lq:Int:=bif x3==(0:Int)then bif mr x0 x1 x4 x10 x11 x12 x13 then KU x0 x1 x4 x10 x11 x12 x13 else KU x0 x1 x4 x10 x11 x12 x13 else bif x3==(1:Int)then bif !bX x0 x4 x10 then(4:Int)else bif !lG (ic x4 x12) x5 x6 then(5:Int)else(0:Int)else bif kG x1 x7 x8 x9 then(6:Int)else bif mt x2 x7 x14 x15 then(7:Int)else(0:Int)
def Qj:List Int:=bif x3==(0:Int)then bif mr x0 x1 x4 x10 x11 x12 x13 then ahl x0 x10 x4 else x10 else bif x3==(1:Int)then bif !bX x0 x4 x10 then x10 else bif !lG (ic x4 x12) x5 x6 then x10 else x10 else bif kG x1 x7 x8 x9 then x10 else bif mt x2 x7 x14 x15 then x10 else x10
def Qk:List (Int×(Int×Int)):=bif x3==(0:Int)then bif mr x0 x1 x4 x10 x11 x12 x13 then x11 else x11 else bif x3==(1:Int)then bif !bX x0 x4 x10 then x11 else bif !lG (ic x4 x12) x5 x6 then x11 else x11 else bif kG x1 x7 x8 x9 then x11 else bif mt x2 x7 x14 x15 then x11 else x11
def Ql:List (List Int):=bif x3==(0:Int)then bif mr x0 x1 x4 x10 x11 x12 x13 then mS x0 x1 x2 x10 x11 x12 x13 x14 x15 else mS x0 x1 x2 x10 x11 x12 x13 x14 x15 else bif x3==(1:Int)then bif !bX x0 x4 x10 then mS x0 x1 x2 x10 x11 x12 x13 x14 x15 else bif !lG (ic x4 x12) x5 x6 then mS x0 x1 x2 x10 x11 x12 x13 x14 x15 else List.set (mS x0 x1 x2 x10 x11 x12 x13 x14 x15) x4.toNat (Ui (ic x4 x12) x5 x6)else bif kG x1 x7 x8 x9 then mS x0 x1 x2 x10 x11 x12 x13 x14 x15 else bif mt x2 x7 x14 x15 then mS x0 x1 x2 x10 x11 x12 x13 x14 x15 else mS x0 x1 x2 x10 x11 x12 x13 x14 x15
def Qm:List (Int×(Int×Int)):=bif x3==(0:Int)then bif mr x0 x1 x4 x10 x11 x12 x13 then x13 else x13 else bif x3==(1:Int)then bif !bX x0 x4 x10 then x13 else bif !lG (ic x4 x12) x5 x6 then x13 else x13 else bif kG x1 x7 x8 x9 then x13 else bif mt x2 x7 x14 x15 then x13 else x13
def Qn:List (Int×Int):=bif x3==(0:Int)then bif mr x0 x1 x4 x10 x11 x12 x13 then x14 else x14 else bif x3==(1:Int)then bif !bX x0 x4 x10 then x14 else bif !lG (ic x4 x12) x5 x6 then x14 else x14 else bif kG x1 x7 x8 x9 then x14 else bif mt x2 x7 x14 x15 then x14 else x14
def Qo:List (Int×Int):=bif x3==(0:Int)then bif mr x0 x1 x4 x10 x11 x12 x13 then x15 else x15 else bif x3==(1:Int)then bif !bX x0 x4 x10 then x15 else bif !lG (ic x4 x12) x5 x6 then x15 else x15 else bif kG x1 x7 x8 x9 then x15 else bif mt x2 x7 x14 x15 then x15 else x15
def SN:Bool:=allT [Sd x0 x1 x2 x10 x11 x12 x13 x14 x15,!x3==(0:Int)||Wa x0 x1 x4 x10 x11 x12 x13,!x3==(0:Int)||(!mr x0 x1 x4 x10 x11 x12 x13||aeW x0 x10 x4),x3==(0:Int)||(!x3==(1:Int)||leI (0:Int) x4),x3==(0:Int)||(!x3==(1:Int)||ltI x4 (↑x12.length:Int)),x3==(0:Int)||(!x3==(1:Int)||ltN x4.toNat x12.length),x3==(0:Int)||(!x3==(1:Int)||ann (ic x4 x12) x5 x6),x3==(0:Int)||(!x3==(1:Int)||sv x4 x10),x3==(0:Int)||(!x3==(1:Int)||(!bX x0 x4 x10||(!lG (ic x4 x12) x5 x6||leI (0:Int) x4))),x3==(0:Int)||(!x3==(1:Int)||(!bX x0 x4 x10||(!lG (ic x4 x12) x5 x6||ltI x4 (↑(List.length (mS x0 x1 x2 x10 x11 x12 x13 x14 x15)):Int)))),x3==(0:Int)||(!x3==(1:Int)||(!bX x0 x4 x10||(!lG (ic x4 x12) x5 x6||ltN x4.toNat (List.length (mS x0 x1 x2 x10 x11 x12 x13 x14 x15))))),x3==(0:Int)||(x3==(1:Int)||aho x1 x7),x3==(0:Int)||(x3==(1:Int)||(kG x1 x7 x8 x9||(!(x7==(1:Int)&&true)||leN x14.length (9223372036854775807:Nat)&&leN x15.length (9223372036854775807:Nat)))),x3==(0:Int)||(x3==(1:Int)||(kG x1 x7 x8 x9||(mt x2 x7 x14 x15||aho x1 x7)))]
end
def ahN:List SV→List Entry→Option Out
 | [.one ⟨true,[.val (.int .i64 x0),.ref 0,.ref 1,.ref 2,.ref 3,.val (.int .i64 x1),.ref 4,.ref 5,.val (.int .i64 x2)]⟩,.one ⟨true,[.val (.int .i64 x3),.val (.int .i64 x4),.val (.int .i64 x5),.val (.int .i64 x6),.val (.int .i64 x7),.val (.int .i64 x8),.val (.bool x9)]⟩],[.row false 2 (.int .i64) x10,.row false 169 (.pair (.int .i64) (.pair (.int .i64) (.int .i64))) x11,.row false 24 (.sl 2 (.int .i64)) x12,.row false 100 (.pair (.int .i64) (.pair (.int .i64) (.int .i64))) x13,.row false 173 (.pair (.int .i64) (.int .i64)) x14,.row false 176 (.pair (.int .i64) (.int .i64)) x15]=>some ⟨.tup [⟨true,[.val (.int .i64 (Qg x0 x1 x2 x3 x4 x5 x6 x7 x8 x9 x10 x11 x12 x13 x14 x15)),.ref 6,.ref 7,.ref 8,.ref 9,.val (.int .i64 (Qh x0 x1 x2 x3 x4 x5 x6 x7 x8 x9 x10 x11 x12 x13 x14 x15)),.ref 10,.ref 11,.val (.int .i64 (Qi x0 x1 x2 x3 x4 x5 x6 x7 x8 x9 x10 x11 x12 x13 x14 x15))]⟩,⟨false,[.val (.int .i64 (Lq x0 x1 x2 x3 x4 x5 x6 x7 x8 x9 x10 x11 x12 x13 x14 x15))]⟩],[.row false 2 ajn x10,.row false 169 adk x11,.row false 24 (CTy.sl (2:TypeId) ajn) x12,.row false 100 adk x13,.row false 173 aiq x14,.row false 176 aiq x15],[.row true 2 ajn (Qj x0 x1 x2 x3 x4 x5 x6 x7 x8 x9 x10 x11 x12 x13 x14 x15),.row true 169 adk (Qk x0 x1 x2 x3 x4 x5 x6 x7 x8 x9 x10 x11 x12 x13 x14 x15),.row true 24 (CTy.sl (2:Nat) ajn) (Ql x0 x1 x2 x3 x4 x5 x6 x7 x8 x9 x10 x11 x12 x13 x14 x15),.row true 100 adk (Qm x0 x1 x2 x3 x4 x5 x6 x7 x8 x9 x10 x11 x12 x13 x14 x15),.row true 173 aiq (Qn x0 x1 x2 x3 x4 x5 x6 x7 x8 x9 x10 x11 x12 x13 x14 x15),.row true 176 aiq (Qo x0 x1 x2 x3 x4 x5 x6 x7 x8 x9 x10 x11 x12 x13 x14 x15)],[SN x0 x1 x2 x3 x4 x5 x6 x7 x8 x9 x10 x11 x12 x13 x14 x15]⟩
 |_,_=>none
def wK:PF prog:=PF.ofG prog [rQ,PF.lend rQ,PF.fz rQ,aa4,PF.lend aa4,PF.fz aa4,aaT,PF.lend aaT,PF.fz aaT,YU,PF.lend YU,PF.fz YU,am6,UR,PF.lend UR,PF.fz UR,aqv,gL,PF.lend gL,PF.fz gL] [] aO 98 f98 func98 (fun c _=>LOk.nil c) ahN (by
 intro vs es r h;unfold ahN at h;split at h
 ·cases h;kernel_rfl
 ·cases h)
abbrev ov:=Int×List (Int×(Int×((Int×Int)×(Int×(Int×Bool)))))×Int×Int×Int×Int×Int×Int×List Int×List (Int×(Int×Int))×List (List Int)×List (Int×(Int×Int))×List (Int×Int)×List (Int×Int)×List Int×List (Int×(Int×Int))×List (List Int)×List (Int×(Int×Int))×List (Int×Int)×List (Int×Int)
def Cv(y0:Int)(y1:List (Int×(Int×((Int×Int)×(Int×(Int×Bool)))))):Int×Int×(Int×Int)×Int×Int×Bool:=Option.getD y1[Int.toNat y0]? ((0:Int),(0:Int),((0:Int),(0:Int)),(0:Int),(0:Int),false)
def Cw(y0:Int)(y1:List (Int×(Int×((Int×Int)×(Int×(Int×Bool)))))):Int:=(Cv y0 y1).1
def Cx(y0:Int)(y1:List (Int×(Int×((Int×Int)×(Int×(Int×Bool)))))):Int×(Int×Int)×Int×Int×Bool:=(Cv y0 y1).2
def Cy(y0:Int)(y1:List (Int×(Int×((Int×Int)×(Int×(Int×Bool)))))):Int:=(Cx y0 y1).1
def tb(y0:Int)(y1:List (Int×(Int×((Int×Int)×(Int×(Int×Bool)))))):(Int×Int)×Int×Int×Bool:=(Cx y0 y1).2
def Cz(y0:Int)(y1:List (Int×(Int×((Int×Int)×(Int×(Int×Bool)))))):Int×Bool:=(tb y0 y1).2.2
def EG(y0:Int)(y1:List (Int×(Int×((Int×Int)×(Int×(Int×Bool)))))):Bool:=ltI y0 (↑y1.length:Int)
def Ld(y0:Int):Bool:=leI (0:Int) y0
def Le(y0:Int)(y1:List (Int×(Int×((Int×Int)×(Int×(Int×Bool)))))):Bool:=ltN y0.toNat y1.length
def Lf(y0:Int)(y1:List (Int×(Int×((Int×Int)×(Int×(Int×Bool))))))(y2 y3 y4:Int)(y8:List Int)(y9:List (Int×(Int×Int)))(y10:List (List Int))(y11:List (Int×(Int×Int)))(y12 y13:List (Int×Int)):Bool:=Ce y2 y3 y4 (Cw y0 y1) (Cy y0 y1) y8 y9 y10 y11 y12 y13
def Lg(y0:Int)(y1:List (Int×(Int×((Int×Int)×(Int×(Int×Bool))))))(y2 y3 y4:Int)(y8:List Int)(y9:List (Int×(Int×Int)))(y10:List (List Int))(y11:List (Int×(Int×Int)))(y12 y13:List (Int×Int)):Bool:= !wU y2 y3 y4 (Cw y0 y1) (Cy y0 y1) ((tb y0 y1).1.1) ((tb y0 y1).1.2) (((tb y0 y1).2).1) ((Cz y0 y1).1) ((Cz y0 y1).2) y8 y9 y10 y11 y12 y13
def Lh(y0:Int):Int:=IntKind.wrap .i64 (y0 + (1:Int))
def amn:ov→List (Nat×SV)
 |(y0,_,_,_,_,_,_,_,_,_,_,_,_,_,_,_,_,_,_,_)=> [(8,(.one ⟨false,[.val (.int .i64 y0)]⟩)),(1,(.one ⟨false,[.ref 0]⟩)),(2,(.one ⟨false,[.ptr 1 0]⟩)),(4,(.one ⟨false,[.ptr 2 0]⟩))]
def ame:ov→List (Nat×Entry)
 |(_,y1,y2,y3,y4,y5,y6,y7,y8,y9,y10,y11,y12,y13,y14,y15,y16,y17,y18,y19)=> [(0,(.row false 49 abL y1)),(1,(.box 33 [.val (.int .i64 y2),.ref 3,.ref 4,.ref 5,.ref 6,.val (.int .i64 y3),.ref 7,.ref 8,.val (.int .i64 y4)])),(2,(.box 33 [.val (.int .i64 y5),.ref 9,.ref 10,.ref 11,.ref 12,.val (.int .i64 y6),.ref 13,.ref 14,.val (.int .i64 y7)])),(3,(.row false 2 ajn y8)),(4,(.row false 169 adk y9)),(5,(.row false 24 (CTy.sl (2:TypeId) ajn) y10)),(6,(.row false 100 adk y11)),(7,(.row false 173 aiq y12)),(8,(.row false 176 aiq y13)),(9,(.row true 2 ajn y14)),(10,(.row true 169 adk y15)),(11,(.row true 24 (CTy.sl (2:Nat) ajn) y16)),(12,(.row true 100 adk y17)),(13,(.row true 173 aiq y18)),(14,(.row true 176 aiq y19))]
def amF:Nat→ov→List (Nat×SV)
 |0,(_,_,_,_,_,_,_,_,_,_,_,_,_,_,_,_,_,_,_,_)=> [(5,(.one ⟨false,[.ref 15]⟩)),(6,(.one ⟨false,[.val (.int .i64 (0:Int))]⟩)),(7,(.one ⟨false,[.val (.int .i64 (2:Int))]⟩))]
 |_,(_,_,_,_,_,_,_,_,_,_,_,_,_,_,_,_,_,_,_,_)=> []
def amw:Nat→ov→List (Nat×Entry)
 |0,(_,y1,y2,y3,y4,_,_,_,y8,y9,y10,y11,y12,y13,y14,y15,y16,y17,y18,y19)=> [(0,(.row false 49 abL y1)),(1,(.box 33 [.val (.int .i64 y2),.ref 3,.ref 4,.ref 5,.ref 6,.val (.int .i64 y3),.ref 7,.ref 8,.val (.int .i64 y4)])),(2,(.box 33 [.val (.int .i64 (0:Int)),.ref 16,.ref 17,.ref 18,.ref 19,.val (.int .i64 (0:Int)),.ref 20,.ref 21,.val (.int .i64 (0:Int))])),(3,(.row false 2 ajn y8)),(4,(.row false 169 adk y9)),(5,(.row false 24 (CTy.sl (2:TypeId) ajn) y10)),(6,(.row false 100 adk y11)),(7,(.row false 173 aiq y12)),(8,(.row false 176 aiq y13)),(9,(.row true 2 ajn y14)),(10,(.row true 169 adk y15)),(11,(.row true 24 (CTy.sl (2:Nat) ajn) y16)),(12,(.row true 100 adk y17)),(13,(.row true 173 aiq y18)),(14,(.row true 176 aiq y19)),(15,(.row true 2 ajn [])),(16,(.row true 2 ajn [])),(17,(.row true 169 adk [])),(18,(.row true 24 (CTy.sl (2:Nat) ajn) [])),(19,(.row true 100 adk [])),(20,(.row true 173 aiq [])),(21,(.row true 176 aiq []))]
 |_,(_,y1,y2,y3,y4,y5,y6,y7,y8,y9,y10,y11,y12,y13,y14,y15,y16,y17,y18,y19)=> [(0,(.row false 49 abL y1)),(1,(.box 33 [.val (.int .i64 y2),.ref 3,.ref 4,.ref 5,.ref 6,.val (.int .i64 y3),.ref 7,.ref 8,.val (.int .i64 y4)])),(2,(.box 33 [.val (.int .i64 y5),.ref 9,.ref 10,.ref 11,.ref 12,.val (.int .i64 y6),.ref 13,.ref 14,.val (.int .i64 y7)])),(3,(.row false 2 ajn y8)),(4,(.row false 169 adk y9)),(5,(.row false 24 (CTy.sl (2:TypeId) ajn) y10)),(6,(.row false 100 adk y11)),(7,(.row false 173 aiq y12)),(8,(.row false 176 aiq y13)),(9,(.row true 2 ajn y14)),(10,(.row true 169 adk y15)),(11,(.row true 24 (CTy.sl (2:Nat) ajn) y16)),(12,(.row true 100 adk y17)),(13,(.row true 173 aiq y18)),(14,(.row true 176 aiq y19))]
def HD:ov→LT ov
 |(y0,y1,y2,y3,y4,y5,y6,y7,y8,y9,y10,y11,y12,y13,y14,y15,y16,y17,y18,y19)=> .ite (EG y0 y1) (.need [Ld y0,EG y0 y1,Le y0 y1,Lf y0 y1 y2 y3 y4 y8 y9 y10 y11 y12 y13] (.ite (Lg y0 y1 y2 y3 y4 y8 y9 y10 y11 y12 y13) (.ext 0 [(0,0),(1,1),(2,2),(3,3),(4,4),(5,5),(6,6),(7,7),(8,8),(9,9),(10,10),(11,11),(12,12),(13,13),(14,14),(15,896),(16,768),(17,769),(18,770),(19,771),(20,772),(21,773)]) (.nrm ((Lh y0),y1,y2,y3,y4,y5,y6,y7,y8,y9,y10,y11,y12,y13,y14,y15,y16,y17,y18,y19) [(0,0),(1,1),(2,2),(3,3),(4,4),(5,5),(6,6),(7,7),(8,8),(9,9),(10,10),(11,11),(12,12),(13,13),(14,14)]))) (.ext 1 [(0,0),(1,1),(2,2),(3,3),(4,4),(5,5),(6,6),(7,7),(8,8),(9,9),(10,10),(11,11),(12,12),(13,13),(14,14)])
def Vq(s:St):Option ov:=
 (match s.look 8 with
 |some ⟨none,.one ⟨false,[.val (.int .i64 y0)]⟩⟩=>
 (match s.look 1 with
 |some ⟨none,.one ⟨false,[.ref 6]⟩⟩=>
 (match s.look 2 with
 |some ⟨none,.one ⟨false,[.ptr 512 0]⟩⟩=>
 (match s.look 4 with
 |some ⟨none,.one ⟨false,[.ptr 576 0]⟩⟩=>
 (match s.ent 6 with
 |some (.row false 49 (.pair (.int .i64) (.pair (.int .i64) (.pair (.pair (.int .i64) (.int .i64)) (.pair (.int .i64) (.pair (.int .i64) .bool))))) y1)=>
 (match s.ent 512 with
 |some (.box 33 [.val (.int .i64 y2),.ref 0,.ref 1,.ref 2,.ref 3,.val (.int .i64 y3),.ref 4,.ref 5,.val (.int .i64 y4)])=>
 (match s.ent 576 with
 |some (.box 33 [.val (.int .i64 y5),.ref 577,.ref 578,.ref 579,.ref 580,.val (.int .i64 y6),.ref 581,.ref 582,.val (.int .i64 y7)])=>
 (match s.ent 0 with
 |some (.row false 2 (.int .i64) y8)=>
 (match s.ent 1 with
 |some (.row false 169 (.pair (.int .i64) (.pair (.int .i64) (.int .i64))) y9)=>
 (match s.ent 2 with
 |some (.row false 24 (.sl 2 (.int .i64)) y10)=>
 (match s.ent 3 with
 |some (.row false 100 (.pair (.int .i64) (.pair (.int .i64) (.int .i64))) y11)=>
 (match s.ent 4 with
 |some (.row false 173 (.pair (.int .i64) (.int .i64)) y12)=>
 (match s.ent 5 with
 |some (.row false 176 (.pair (.int .i64) (.int .i64)) y13)=>
 (match s.ent 577 with
 |some (.row true 2 (.int .i64) y14)=>
 (match s.ent 578 with
 |some (.row true 169 (.pair (.int .i64) (.pair (.int .i64) (.int .i64))) y15)=>
 (match s.ent 579 with
 |some (.row true 24 (.sl 2 (.int .i64)) y16)=>
 (match s.ent 580 with
 |some (.row true 100 (.pair (.int .i64) (.pair (.int .i64) (.int .i64))) y17)=>
 (match s.ent 581 with
 |some (.row true 173 (.pair (.int .i64) (.int .i64)) y18)=>
 (match s.ent 582 with
 |some (.row true 176 (.pair (.int .i64) (.int .i64)) y19)=>
 some (y0,y1,y2,y3,y4,y5,y6,y7,y8,y9,y10,y11,y12,y13,y14,y15,y16,y17,y18,y19)
 |_=>none)
 |_=>none)
 |_=>none)
 |_=>none)
 |_=>none)
 |_=>none)
 |_=>none)
 |_=>none)
 |_=>none)
 |_=>none)
 |_=>none)
 |_=>none)
 |_=>none)
 |_=>none)
 |_=>none)
 |_=>none)
 |_=>none)
 |_=>none)
 |_=>none)
def ff:Lp ov where
 h:=⟨[23,24,25,26,29,30,31,32,33,34,35,36,5,6,7,27,28,8],[0,1,2,3,4,5,6,7,8,9,10,11,12,13,14],[],[15,16,17,18,19,20,21]⟩
 JL:=amn
 JE:=ame
 XL:=amF
 XE:=amw
 q:=fun j=>match j with | 0=> .ret | _=> .exit 0
 tags:= [0,1]
 lt:=HD
 fuel:=fun(y0,y1,y2,y3,y4,y5,y6,y7,y8,y9,y10,y11,y12,y13,y14,y15,y16,y17,y18,y19)=>y0.natAbs + y1.length + y2.natAbs + y3.natAbs + y4.natAbs + y5.natAbs + y6.natAbs + y7.natAbs + y8.length + y9.length + y10.length + y11.length + y12.length + y13.length + y14.length + y15.length + y16.length + y17.length + y18.length + y19.length
 fix:=fun(_,y1,y2,y3,y4,y5,y6,y7,y8,y9,y10,y11,y12,y13,y14,y15,y16,y17,y18,y19) (y0,_,_,_,_,_,_,_,_,_,_,_,_,_,_,_,_,_,_,_)=>(y0,y1,y2,y3,y4,y5,y6,y7,y8,y9,y10,y11,y12,y13,y14,y15,y16,y17,y18,y19)
 σ:= [(0,6),(1,512),(2,576),(3,0),(4,1),(5,2),(6,3),(7,4),(8,5),(9,577),(10,578),(11,579),(12,580),(13,581),(14,582)]
 rd:=Vq
theorem akg:LoopOk prog (fun k=>Nat.blt k Tryz.f57.ntmps) ff.F (aK f57 0):=by
 refine Lp.ok (tbl:= [rQ,PF.lend rQ,PF.fz rQ,rO,PF.lend rO,PF.fz rO,fk,PF.lend fk,PF.fz fk,gL,PF.lend gL,PF.fz gL,wK,PF.lend wK,PF.fz wK]) (lf:= []) aO ff (by kernel_rfl) (LOk.nil _) (fun _=>rfl) (fun j _=>by unfold ff;match j with | 0=>rfl | _ + 1=>rfl) ?_ ?_ ?_ ?_ (fun _=>rfl) ?_
 ·rintro⟨y0,y1,y2,y3,y4,y5,y6,y7,y8,y9,y10,y11,y12,y13,y14,y15,y16,y17,y18,y19⟩;kernel_rfl
 ·rintro⟨y0,y1,y2,y3,y4,y5,y6,y7,y8,y9,y10,y11,y12,y13,y14,y15,y16,y17,y18,y19⟩;kernel_rfl
 ·intro s x h
  have h:Vq s=some x:=h
  unfold Vq at h
  repeat' split at h
  all_goals cases h
  exact⟨aa (by assumption) rfl (aa (by assumption) rfl (aa (by assumption) rfl (aa (by assumption) rfl (rfl)))),ab rfl (by assumption) rfl (ab rfl (by assumption) rfl (ab rfl (by assumption) rfl (ab rfl (by assumption) rfl (ab rfl (by assumption) rfl (ab rfl (by assumption) rfl (ab rfl (by assumption) rfl (ab rfl (by assumption) rfl (ab rfl (by assumption) rfl (ab rfl (by assumption) rfl (ab rfl (by assumption) rfl (ab rfl (by assumption) rfl (ab rfl (by assumption) rfl (ab rfl (by assumption) rfl (ab rfl (by assumption) rfl (rfl)))))))))))))))⟩
 ·rintro⟨y0,y1,y2,y3,y4,y5,y6,y7,y8,y9,y10,y11,y12,y13,y14,y15,y16,y17,y18,y19⟩;kernel_rfl
 ·rintro⟨y0,y1,y2,y3,y4,y5,y6,y7,y8,y9,y10,y11,y12,y13,y14,y15,y16,y17,y18,y19⟩ z;exact(And.intro (And.intro trivial rfl) trivial)
abbrev ow:=Int×Int×List (Int×(Int×((Int×Int)×(Int×(Int×Bool)))))×Int×Int×Int×List Int×List Int×List (Int×(Int×Int))×List (List Int)×List (Int×(Int×Int))×List (Int×Int)×List (Int×Int)
def CA(y0:Int)(y2:List (Int×(Int×((Int×Int)×(Int×(Int×Bool)))))):Bool:=ltI y0 (↑y2.length:Int)
def CB(y0:Int)(y2:List (Int×(Int×((Int×Int)×(Int×(Int×Bool)))))):Bool:=ltN y0.toNat y2.length
def CC(y0:Int)(y2:List (Int×(Int×((Int×Int)×(Int×(Int×Bool)))))):Int×Int×(Int×Int)×Int×Int×Bool:=Option.getD y2[Int.toNat y0]? ((0:Int),(0:Int),((0:Int),(0:Int)),(0:Int),(0:Int),false)
def eA(y0:Int)(y2:List (Int×(Int×((Int×Int)×(Int×(Int×Bool)))))):Int:=(CC y0 y2).1
def CD(y0:Int)(y2:List (Int×(Int×((Int×Int)×(Int×(Int×Bool)))))):Int×(Int×Int)×Int×Int×Bool:=(CC y0 y2).2
def dL(y0:Int)(y2:List (Int×(Int×((Int×Int)×(Int×(Int×Bool)))))):Int:=(CD y0 y2).1
def tc(y0:Int)(y2:List (Int×(Int×((Int×Int)×(Int×(Int×Bool)))))):(Int×Int)×Int×Int×Bool:=(CD y0 y2).2
def fA(y0:Int)(y2:List (Int×(Int×((Int×Int)×(Int×(Int×Bool)))))):Int:=(tc y0 y2).1.1
def fB(y0:Int)(y2:List (Int×(Int×((Int×Int)×(Int×(Int×Bool)))))):Int:=(tc y0 y2).1.2
def fC(y0:Int)(y2:List (Int×(Int×((Int×Int)×(Int×(Int×Bool)))))):Int:=((tc y0 y2).2).1
def bj(y0:Int)(y2:List (Int×(Int×((Int×Int)×(Int×(Int×Bool)))))):Int×Bool:=(tc y0 y2).2.2
def zt(y0:Int)(y2:List (Int×(Int×((Int×Int)×(Int×(Int×Bool))))))(y3 y4 y5:Int)(y7:List Int)(y8:List (Int×(Int×Int)))(y9:List (List Int))(y10:List (Int×(Int×Int)))(y11 y12:List (Int×Int)):Int:=Lq y3 y4 y5 (eA y0 y2) (dL y0 y2) (fA y0 y2) (fB y0 y2) (fC y0 y2) ((bj y0 y2).1) ((bj y0 y2).2) y7 y8 y9 y10 y11 y12
def zu(y0:Int)(y2:List (Int×(Int×((Int×Int)×(Int×(Int×Bool))))))(y3 y4 y5:Int)(y7:List Int)(y8:List (Int×(Int×Int)))(y9:List (List Int))(y10:List (Int×(Int×Int)))(y11 y12:List (Int×Int)):Bool:=bif eA y0 y2==(0:Int)then zt y0 y2 y3 y4 y5 y7 y8 y9 y10 y11 y12==(0:Int)else false
def rG(y0:Int)(y2:List (Int×(Int×((Int×Int)×(Int×(Int×Bool))))))(y3 y4 y5:Int)(y7:List Int)(y8:List (Int×(Int×Int)))(y9:List (List Int))(y10:List (Int×(Int×Int)))(y11 y12:List (Int×Int)):Bool:= !(zu y0 y2 y3 y4 y5 y7 y8 y9 y10 y11 y12&&true)
def ux(y0:Int)(y2:List (Int×(Int×((Int×Int)×(Int×(Int×Bool))))))(y3 y4 y5:Int)(y7:List Int)(y8:List (Int×(Int×Int)))(y9:List (List Int))(y10:List (Int×(Int×Int)))(y11 y12:List (Int×Int)):List Int:= [zt y0 y2 y3 y4 y5 y7 y8 y9 y10 y11 y12]
def zr(y0:Int)(y2:List (Int×(Int×((Int×Int)×(Int×(Int×Bool)))))):Bool:=CA y0 y2
def EH(y0:Int):Bool:=leI (0:Int) y0
def EI(y0:Int)(y2:List (Int×(Int×((Int×Int)×(Int×(Int×Bool)))))):Bool:=CB y0 y2
def Li(y0:Int)(y2:List (Int×(Int×((Int×Int)×(Int×(Int×Bool))))))(y3 y4 y5:Int)(y7:List Int)(y8:List (Int×(Int×Int)))(y9:List (List Int))(y10:List (Int×(Int×Int)))(y11 y12:List (Int×Int)):Bool:=SN y3 y4 y5 (eA y0 y2) (dL y0 y2) (fA y0 y2) (fB y0 y2) (fC y0 y2) ((bj y0 y2).1) ((bj y0 y2).2) y7 y8 y9 y10 y11 y12
def Lj(y0:Int)(y2:List (Int×(Int×((Int×Int)×(Int×(Int×Bool))))))(y3 y4 y5:Int)(y7:List Int)(y8:List (Int×(Int×Int)))(y9:List (List Int))(y10:List (Int×(Int×Int)))(y11 y12:List (Int×Int)):Bool:=rG y0 y2 y3 y4 y5 y7 y8 y9 y10 y11 y12||leI (0:Int) y0
def Lk(y0:Int)(y2:List (Int×(Int×((Int×Int)×(Int×(Int×Bool))))))(y3 y4 y5:Int)(y7:List Int)(y8:List (Int×(Int×Int)))(y9:List (List Int))(y10:List (Int×(Int×Int)))(y11 y12:List (Int×Int)):Bool:=rG y0 y2 y3 y4 y5 y7 y8 y9 y10 y11 y12||CA y0 y2
def Ll(y0:Int)(y2:List (Int×(Int×((Int×Int)×(Int×(Int×Bool))))))(y3 y4 y5:Int)(y7:List Int)(y8:List (Int×(Int×Int)))(y9:List (List Int))(y10:List (Int×(Int×Int)))(y11 y12:List (Int×Int)):Bool:=rG y0 y2 y3 y4 y5 y7 y8 y9 y10 y11 y12||CB y0 y2
def Lm(y0:Int)(y2:List (Int×(Int×((Int×Int)×(Int×(Int×Bool))))))(y3 y4 y5:Int)(y7:List Int)(y8:List (Int×(Int×Int)))(y9:List (List Int))(y10:List (Int×(Int×Int)))(y11 y12:List (Int×Int)):Bool:=rG y0 y2 y3 y4 y5 y7 y8 y9 y10 y11 y12||sv (dL y0 y2) y7
def Ln(y0:Int)(y2:List (Int×(Int×((Int×Int)×(Int×(Int×Bool))))))(y3 y4 y5:Int)(y6 y7:List Int)(y8:List (Int×(Int×Int)))(y9:List (List Int))(y10:List (Int×(Int×Int)))(y11 y12:List (Int×Int)):Bool:=leN (List.length y6 + List.length (ux y0 y2 y3 y4 y5 y7 y8 y9 y10 y11 y12)) (9223372036854775807:Nat)
def Lo(y0:Int)(y2:List (Int×(Int×((Int×Int)×(Int×(Int×Bool))))))(y3 y4 y5:Int)(y6 y7:List Int)(y8:List (Int×(Int×Int)))(y9:List (List Int))(y10:List (Int×(Int×Int)))(y11 y12:List (Int×Int)):Bool:=leN ((List.length y6 + List.length (ux y0 y2 y3 y4 y5 y7 y8 y9 y10 y11 y12)) * (8:Nat)) (140737488355328:Nat)
def Im(y0:Int):Int:=IntKind.wrap .i64 (y0 + (1:Int))
def Io(y0 y1:Int)(y2:List (Int×(Int×((Int×Int)×(Int×(Int×Bool))))))(y3 y4 y5:Int)(y7:List Int)(y8:List (Int×(Int×Int)))(y9:List (List Int))(y10:List (Int×(Int×Int)))(y11 y12:List (Int×Int)):Int:=bif bif zu y0 y2 y3 y4 y5 y7 y8 y9 y10 y11 y12 then bX y3 (dL y0 y2) y7 else false then IntKind.wrap .i64 (y1 + (1:Int))else y1
def Ip(y0:Int)(y2:List (Int×(Int×((Int×Int)×(Int×(Int×Bool))))))(y3 y4 y5:Int)(y7:List Int)(y8:List (Int×(Int×Int)))(y9:List (List Int))(y10:List (Int×(Int×Int)))(y11 y12:List (Int×Int)):Int:=Qg y3 y4 y5 (eA y0 y2) (dL y0 y2) (fA y0 y2) (fB y0 y2) (fC y0 y2) ((bj y0 y2).1) ((bj y0 y2).2) y7 y8 y9 y10 y11 y12
def Iq(y0:Int)(y2:List (Int×(Int×((Int×Int)×(Int×(Int×Bool))))))(y3 y4 y5:Int)(y7:List Int)(y8:List (Int×(Int×Int)))(y9:List (List Int))(y10:List (Int×(Int×Int)))(y11 y12:List (Int×Int)):Int:=Qh y3 y4 y5 (eA y0 y2) (dL y0 y2) (fA y0 y2) (fB y0 y2) (fC y0 y2) ((bj y0 y2).1) ((bj y0 y2).2) y7 y8 y9 y10 y11 y12
def Ir(y0:Int)(y2:List (Int×(Int×((Int×Int)×(Int×(Int×Bool))))))(y3 y4 y5:Int)(y7:List Int)(y8:List (Int×(Int×Int)))(y9:List (List Int))(y10:List (Int×(Int×Int)))(y11 y12:List (Int×Int)):Int:=Qi y3 y4 y5 (eA y0 y2) (dL y0 y2) (fA y0 y2) (fB y0 y2) (fC y0 y2) ((bj y0 y2).1) ((bj y0 y2).2) y7 y8 y9 y10 y11 y12
def Is(y0:Int)(y2:List (Int×(Int×((Int×Int)×(Int×(Int×Bool))))))(y3 y4 y5:Int)(y6 y7:List Int)(y8:List (Int×(Int×Int)))(y9:List (List Int))(y10:List (Int×(Int×Int)))(y11 y12:List (Int×Int)):List Int:=y6++ux y0 y2 y3 y4 y5 y7 y8 y9 y10 y11 y12
def It(y0:Int)(y2:List (Int×(Int×((Int×Int)×(Int×(Int×Bool))))))(y3 y4 y5:Int)(y7:List Int)(y8:List (Int×(Int×Int)))(y9:List (List Int))(y10:List (Int×(Int×Int)))(y11 y12:List (Int×Int)):List Int:=Qj y3 y4 y5 (eA y0 y2) (dL y0 y2) (fA y0 y2) (fB y0 y2) (fC y0 y2) ((bj y0 y2).1) ((bj y0 y2).2) y7 y8 y9 y10 y11 y12
def Iu(y0:Int)(y2:List (Int×(Int×((Int×Int)×(Int×(Int×Bool))))))(y3 y4 y5:Int)(y7:List Int)(y8:List (Int×(Int×Int)))(y9:List (List Int))(y10:List (Int×(Int×Int)))(y11 y12:List (Int×Int)):List (Int×(Int×Int)):=Qk y3 y4 y5 (eA y0 y2) (dL y0 y2) (fA y0 y2) (fB y0 y2) (fC y0 y2) ((bj y0 y2).1) ((bj y0 y2).2) y7 y8 y9 y10 y11 y12
def Iv(y0:Int)(y2:List (Int×(Int×((Int×Int)×(Int×(Int×Bool))))))(y3 y4 y5:Int)(y7:List Int)(y8:List (Int×(Int×Int)))(y9:List (List Int))(y10:List (Int×(Int×Int)))(y11 y12:List (Int×Int)):List (List Int):=Ql y3 y4 y5 (eA y0 y2) (dL y0 y2) (fA y0 y2) (fB y0 y2) (fC y0 y2) ((bj y0 y2).1) ((bj y0 y2).2) y7 y8 y9 y10 y11 y12
def Iw(y0:Int)(y2:List (Int×(Int×((Int×Int)×(Int×(Int×Bool))))))(y3 y4 y5:Int)(y7:List Int)(y8:List (Int×(Int×Int)))(y9:List (List Int))(y10:List (Int×(Int×Int)))(y11 y12:List (Int×Int)):List (Int×(Int×Int)):=Qm y3 y4 y5 (eA y0 y2) (dL y0 y2) (fA y0 y2) (fB y0 y2) (fC y0 y2) ((bj y0 y2).1) ((bj y0 y2).2) y7 y8 y9 y10 y11 y12
def Ix(y0:Int)(y2:List (Int×(Int×((Int×Int)×(Int×(Int×Bool))))))(y3 y4 y5:Int)(y7:List Int)(y8:List (Int×(Int×Int)))(y9:List (List Int))(y10:List (Int×(Int×Int)))(y11 y12:List (Int×Int)):List (Int×Int):=Qn y3 y4 y5 (eA y0 y2) (dL y0 y2) (fA y0 y2) (fB y0 y2) (fC y0 y2) ((bj y0 y2).1) ((bj y0 y2).2) y7 y8 y9 y10 y11 y12
def Iy(y0:Int)(y2:List (Int×(Int×((Int×Int)×(Int×(Int×Bool))))))(y3 y4 y5:Int)(y7:List Int)(y8:List (Int×(Int×Int)))(y9:List (List Int))(y10:List (Int×(Int×Int)))(y11 y12:List (Int×Int)):List (Int×Int):=Qo y3 y4 y5 (eA y0 y2) (dL y0 y2) (fA y0 y2) (fB y0 y2) (fC y0 y2) ((bj y0 y2).1) ((bj y0 y2).2) y7 y8 y9 y10 y11 y12
def amo:ow→List (Nat×SV)
 |(y0,y1,_,_,_,_,_,_,_,_,_,_,_)=> [(12,(.one ⟨false,[.val (.int .i64 y0)]⟩)),(1,(.one ⟨false,[.ref 0]⟩)),(9,(.one ⟨false,[.ptr 1 0]⟩)),(11,(.one ⟨false,[.val (.int .i64 y1)]⟩)),(10,(.one ⟨false,[.ref 2]⟩))]
def amf:ow→List (Nat×Entry)
 |(_,_,y2,y3,y4,y5,y6,y7,y8,y9,y10,y11,y12)=> [(0,(.row false 49 abL y2)),(1,(.box 33 [.val (.int .i64 y3),.ref 3,.ref 4,.ref 5,.ref 6,.val (.int .i64 y4),.ref 7,.ref 8,.val (.int .i64 y5)])),(2,(.row true 2 ajn y6)),(3,(.row true 2 ajn y7)),(4,(.row true 169 adk y8)),(5,(.row true 24 (CTy.sl (2:Nat) ajn) y9)),(6,(.row true 100 adk y10)),(7,(.row true 173 aiq y11)),(8,(.row true 176 aiq y12))]
def amG:Nat→ow→List (Nat×SV)
 |_,(_,y1,_,_,_,_,_,_,_,_,_,_,_)=> [(11,(.one ⟨false,[.val (.int .i64 y1)]⟩)),(10,(.one ⟨false,[.ref 2]⟩))]
def amx:Nat→ow→List (Nat×Entry)
 |_,(_,_,y2,y3,y4,y5,y6,y7,y8,y9,y10,y11,y12)=> [(0,(.row false 49 abL y2)),(1,(.box 33 [.val (.int .i64 y3),.ref 3,.ref 4,.ref 5,.ref 6,.val (.int .i64 y4),.ref 7,.ref 8,.val (.int .i64 y5)])),(2,(.row true 2 ajn y6)),(3,(.row true 2 ajn y7)),(4,(.row true 169 adk y8)),(5,(.row true 24 (CTy.sl (2:Nat) ajn) y9)),(6,(.row true 100 adk y10)),(7,(.row true 173 aiq y11)),(8,(.row true 176 aiq y12))]
def HE:ow→LT ow
 |(y0,y1,y2,y3,y4,y5,y6,y7,y8,y9,y10,y11,y12)=> .ite (zr y0 y2) (.need [EH y0,zr y0 y2,EI y0 y2,Li y0 y2 y3 y4 y5 y7 y8 y9 y10 y11 y12] (.need [EH y0,zr y0 y2,EI y0 y2,Lj y0 y2 y3 y4 y5 y7 y8 y9 y10 y11 y12,Lk y0 y2 y3 y4 y5 y7 y8 y9 y10 y11 y12,Ll y0 y2 y3 y4 y5 y7 y8 y9 y10 y11 y12,Lm y0 y2 y3 y4 y5 y7 y8 y9 y10 y11 y12] (.need [Ln y0 y2 y3 y4 y5 y6 y7 y8 y9 y10 y11 y12,Lo y0 y2 y3 y4 y5 y6 y7 y8 y9 y10 y11 y12] (.nrm ((Im y0),Io y0 y1 y2 y3 y4 y5 y7 y8 y9 y10 y11 y12,y2,Ip y0 y2 y3 y4 y5 y7 y8 y9 y10 y11 y12,Iq y0 y2 y3 y4 y5 y7 y8 y9 y10 y11 y12,Ir y0 y2 y3 y4 y5 y7 y8 y9 y10 y11 y12,Is y0 y2 y3 y4 y5 y6 y7 y8 y9 y10 y11 y12,It y0 y2 y3 y4 y5 y7 y8 y9 y10 y11 y12,Iu y0 y2 y3 y4 y5 y7 y8 y9 y10 y11 y12,Iv y0 y2 y3 y4 y5 y7 y8 y9 y10 y11 y12,Iw y0 y2 y3 y4 y5 y7 y8 y9 y10 y11 y12,Ix y0 y2 y3 y4 y5 y7 y8 y9 y10 y11 y12,(Iy y0 y2 y3 y4 y5 y7 y8 y9 y10 y11 y12)) [(0,0),(1,1),(2,2816),(3,640),(4,641),(5,642),(6,643),(7,644),(8,645)])))) (.ext 0 [(0,0),(1,1),(2,2),(3,3),(4,4),(5,5),(6,6),(7,7),(8,8)])
def Vr(s:St):Option ow:=
 (match s.look 12 with
 |some ⟨none,.one ⟨false,[.val (.int .i64 y0)]⟩⟩=>
 (match s.look 1 with
 |some ⟨none,.one ⟨false,[.ref 6]⟩⟩=>
 (match s.look 9 with
 |some ⟨none,.one ⟨false,[.ptr 1536 0]⟩⟩=>
 (match s.look 11 with
 |some ⟨none,.one ⟨false,[.val (.int .i64 y1)]⟩⟩=>
 (match s.look 10 with
 |some ⟨none,.one ⟨false,[.ref 1472]⟩⟩=>
 (match s.ent 6 with
 |some (.row false 49 (.pair (.int .i64) (.pair (.int .i64) (.pair (.pair (.int .i64) (.int .i64)) (.pair (.int .i64) (.pair (.int .i64) .bool))))) y2)=>
 (match s.ent 1536 with
 |some (.box 33 [.val (.int .i64 y3),.ref 1408,.ref 1409,.ref 1410,.ref 1411,.val (.int .i64 y4),.ref 1412,.ref 1413,.val (.int .i64 y5)])=>
 (match s.ent 1472 with
 |some (.row true 2 (.int .i64) y6)=>
 (match s.ent 1408 with
 |some (.row true 2 (.int .i64) y7)=>
 (match s.ent 1409 with
 |some (.row true 169 (.pair (.int .i64) (.pair (.int .i64) (.int .i64))) y8)=>
 (match s.ent 1410 with
 |some (.row true 24 (.sl 2 (.int .i64)) y9)=>
 (match s.ent 1411 with
 |some (.row true 100 (.pair (.int .i64) (.pair (.int .i64) (.int .i64))) y10)=>
 (match s.ent 1412 with
 |some (.row true 173 (.pair (.int .i64) (.int .i64)) y11)=>
 (match s.ent 1413 with
 |some (.row true 176 (.pair (.int .i64) (.int .i64)) y12)=>
 some (y0,y1,y2,y3,y4,y5,y6,y7,y8,y9,y10,y11,y12)
 |_=>none)
 |_=>none)
 |_=>none)
 |_=>none)
 |_=>none)
 |_=>none)
 |_=>none)
 |_=>none)
 |_=>none)
 |_=>none)
 |_=>none)
 |_=>none)
 |_=>none)
 |_=>none)
def fg:Lp ow where
 h:=⟨[40,41,42,43,47,48,49,50,51,52,46,53,54,13,14,55,56,57,58,59,60,61,62,63,64,65,66,67,68,69,70,71,72,73,74,75,11,76,77,78,79,80,10,44,45,12],[0,1],[2,3,4,5,6,7,8],[]⟩
 JL:=amo
 JE:=amf
 XL:=amG
 XE:=amx
 q:=fun j=>match j with | _=> .exit 2
 tags:= [0]
 lt:=HE
 fuel:=fun(y0,y1,y2,y3,y4,y5,y6,y7,y8,y9,y10,y11,y12)=>y0.natAbs + y1.natAbs + y2.length + y3.natAbs + y4.natAbs + y5.natAbs + y6.length + y7.length + y8.length + y9.length + y10.length + y11.length + y12.length
 fix:=fun(_,_,y2,_,_,_,_,_,_,_,_,_,_) (y0,y1,_,y3,y4,y5,y6,y7,y8,y9,y10,y11,y12)=>(y0,y1,y2,y3,y4,y5,y6,y7,y8,y9,y10,y11,y12)
 σ:= [(0,6),(1,1536),(2,1472),(3,1408),(4,1409),(5,1410),(6,1411),(7,1412),(8,1413)]
 rd:=Vr
theorem akh:LoopOk prog (fun k=>Nat.blt k Tryz.f57.ntmps) fg.F (aK f57 1):=by
 refine Lp.ok (tbl:= [rQ,PF.lend rQ,PF.fz rQ,rO,PF.lend rO,PF.fz rO,fk,PF.lend fk,PF.fz fk,gL,PF.lend gL,PF.fz gL,wK,PF.lend wK,PF.fz wK]) (lf:= []) aO fg (by kernel_rfl) (LOk.nil _) (fun _=>rfl) (fun _ _=>rfl) ?_ ?_ ?_ ?_ (fun _=>rfl) ?_
 ·rintro⟨y0,y1,y2,y3,y4,y5,y6,y7,y8,y9,y10,y11,y12⟩;kernel_rfl
 ·rintro⟨y0,y1,y2,y3,y4,y5,y6,y7,y8,y9,y10,y11,y12⟩;kernel_rfl
 ·intro s x h
  have h:Vr s=some x:=h
  unfold Vr at h
  repeat' split at h
  all_goals cases h
  exact⟨aa (by assumption) rfl (aa (by assumption) rfl (aa (by assumption) rfl (aa (by assumption) rfl (aa (by assumption) rfl (rfl))))),ab rfl (by assumption) rfl (ab rfl (by assumption) rfl (ab rfl (by assumption) rfl (ab rfl (by assumption) rfl (ab rfl (by assumption) rfl (ab rfl (by assumption) rfl (ab rfl (by assumption) rfl (ab rfl (by assumption) rfl (ab rfl (by assumption) rfl (rfl)))))))))⟩
 ·rintro⟨y0,y1,y2,y3,y4,y5,y6,y7,y8,y9,y10,y11,y12⟩;kernel_rfl
 ·rintro⟨y0,y1,y2,y3,y4,y5,y6,y7,y8,y9,y10,y11,y12⟩ z;exact(And.intro rfl trivial)
section
variable (x0 x1 x2:Int)(x3:List Int)(x4:List (Int×Int×Int))(x5:List (List Int))(x6:List (Int×Int×Int))(x7 x8:List (Int×Int))(x9:List (Int×Int×(Int×Int)×Int×Int×Bool))
def jb:Bool:=ltI (200:Int) (↑x9.length:Int)
def Wc:Int×List (Int×Int×(Int×Int)×Int×Int×Bool)×Int×Int×Int×Int×Int×Int×List Int×List (Int×Int×Int)×List (List Int)×List (Int×Int×Int)×List (Int×Int)×List (Int×Int)×List Int×List (Int×Int×Int)×List (List Int)×List (Int×Int×Int)×List (Int×Int)×List (Int×Int):=((0:Int),x9,x0,x1,x2,(0:Int),(0:Int),(0:Int),x3,x4,x5,x6,x7,x8,[],[],[],[],[],[])
def je:Bool:=Nat.beq ((Lp.res ff (Wc x0 x1 x2 x3 x4 x5 x6 x7 x8 x9)).1) (0:Nat)
def Lc:Int×Int×List (Int×Int×(Int×Int)×Int×Int×Bool)×Int×Int×Int×List Int×List Int×List (Int×Int×Int)×List (List Int)×List (Int×Int×Int)×List (Int×Int)×List (Int×Int):=((0:Int),(0:Int),x9,x0,x1,x2,[],x3,x4,mS x0 x1 x2 x3 x4 x5 x6 x7 x8,x6,x7,x8)
def abA:Int×List (Int×Int×(Int×Int)×Int×Int×Bool)×Int×Int×Int×List Int×List Int×List (Int×Int×Int)×List (List Int)×List (Int×Int×Int)×List (Int×Int)×List (Int×Int):=(Lp.res fg (Lc x0 x1 x2 x3 x4 x5 x6 x7 x8 x9)).2.2
def abB:Int×Int×Int×List Int×List Int×List (Int×Int×Int)×List (List Int)×List (Int×Int×Int)×List (Int×Int)×List (Int×Int):=(abA x0 x1 x2 x3 x4 x5 x6 x7 x8 x9).2.2
def abC:Int×Int×List Int×List Int×List (Int×Int×Int)×List (List Int)×List (Int×Int×Int)×List (Int×Int)×List (Int×Int):=(abB x0 x1 x2 x3 x4 x5 x6 x7 x8 x9).2
def abD:Int×List Int×List Int×List (Int×Int×Int)×List (List Int)×List (Int×Int×Int)×List (Int×Int)×List (Int×Int):=(abC x0 x1 x2 x3 x4 x5 x6 x7 x8 x9).2
def abE:List Int×List Int×List (Int×Int×Int)×List (List Int)×List (Int×Int×Int)×List (Int×Int)×List (Int×Int):=(abD x0 x1 x2 x3 x4 x5 x6 x7 x8 x9).2
def abF:List Int×List (Int×Int×Int)×List (List Int)×List (Int×Int×Int)×List (Int×Int)×List (Int×Int):=(abE x0 x1 x2 x3 x4 x5 x6 x7 x8 x9).2
def Ze:List (Int×Int×Int)×List (List Int)×List (Int×Int×Int)×List (Int×Int)×List (Int×Int):=(abF x0 x1 x2 x3 x4 x5 x6 x7 x8 x9).2
def Zf:List (List Int)×List (Int×Int×Int)×List (Int×Int)×List (Int×Int):=(Ze x0 x1 x2 x3 x4 x5 x6 x7 x8 x9).2
def Zg:List (Int×Int×Int)×List (Int×Int)×List (Int×Int):=(Zf x0 x1 x2 x3 x4 x5 x6 x7 x8 x9).2
def Zh:List (Int×Int)×List (Int×Int):=(Zg x0 x1 x2 x3 x4 x5 x6 x7 x8 x9).2
def Jk:Int:=bif !kO x0 x3 x4 x5 x6 x1 x7 x8 x2 then(0:Int)else bif jb x9 then(0:Int)else bif je x0 x1 x2 x3 x4 x5 x6 x7 x8 x9 then(0:Int)else (abB x0 x1 x2 x3 x4 x5 x6 x7 x8 x9).1
def Jl:Int:=bif !kO x0 x3 x4 x5 x6 x1 x7 x8 x2 then(0:Int)else bif jb x9 then(0:Int)else bif je x0 x1 x2 x3 x4 x5 x6 x7 x8 x9 then(0:Int)else (abC x0 x1 x2 x3 x4 x5 x6 x7 x8 x9).1
def Jm:Int:=bif !kO x0 x3 x4 x5 x6 x1 x7 x8 x2 then(0:Int)else bif jb x9 then(0:Int)else bif je x0 x1 x2 x3 x4 x5 x6 x7 x8 x9 then(0:Int)else (abD x0 x1 x2 x3 x4 x5 x6 x7 x8 x9).1
def Nj:Int:=bif !kO x0 x3 x4 x5 x6 x1 x7 x8 x2 then(0:Int)else bif jb x9 then(0:Int)else bif je x0 x1 x2 x3 x4 x5 x6 x7 x8 x9 then(0:Int)else (abA x0 x1 x2 x3 x4 x5 x6 x7 x8 x9).1
def Jn:Int:=bif !kO x0 x3 x4 x5 x6 x1 x7 x8 x2 then(1:Int)else bif jb x9 then(3:Int)else bif je x0 x1 x2 x3 x4 x5 x6 x7 x8 x9 then(2:Int)else(0:Int)
def Jo:List Int:=bif !kO x0 x3 x4 x5 x6 x1 x7 x8 x2 then []else bif jb x9 then []else bif je x0 x1 x2 x3 x4 x5 x6 x7 x8 x9 then []else (abF x0 x1 x2 x3 x4 x5 x6 x7 x8 x9).1
def Jp:List (Int×(Int×Int)):=bif !kO x0 x3 x4 x5 x6 x1 x7 x8 x2 then []else bif jb x9 then []else bif je x0 x1 x2 x3 x4 x5 x6 x7 x8 x9 then []else (Ze x0 x1 x2 x3 x4 x5 x6 x7 x8 x9).1
def Jq:List (List Int):=bif !kO x0 x3 x4 x5 x6 x1 x7 x8 x2 then []else bif jb x9 then []else bif je x0 x1 x2 x3 x4 x5 x6 x7 x8 x9 then []else (Zf x0 x1 x2 x3 x4 x5 x6 x7 x8 x9).1
def Jr:List (Int×(Int×Int)):=bif !kO x0 x3 x4 x5 x6 x1 x7 x8 x2 then []else bif jb x9 then []else bif je x0 x1 x2 x3 x4 x5 x6 x7 x8 x9 then []else (Zg x0 x1 x2 x3 x4 x5 x6 x7 x8 x9).1
def Js:List (Int×Int):=bif !kO x0 x3 x4 x5 x6 x1 x7 x8 x2 then []else bif jb x9 then []else bif je x0 x1 x2 x3 x4 x5 x6 x7 x8 x9 then []else (Zh x0 x1 x2 x3 x4 x5 x6 x7 x8 x9).1
def Gr:List (Int×Int):=bif !kO x0 x3 x4 x5 x6 x1 x7 x8 x2 then []else bif jb x9 then []else bif je x0 x1 x2 x3 x4 x5 x6 x7 x8 x9 then []else (Zh x0 x1 x2 x3 x4 x5 x6 x7 x8 x9).2
def Gs:List Int:=bif !kO x0 x3 x4 x5 x6 x1 x7 x8 x2 then []else bif jb x9 then []else bif je x0 x1 x2 x3 x4 x5 x6 x7 x8 x9 then []else (abE x0 x1 x2 x3 x4 x5 x6 x7 x8 x9).1
def Gt:Bool:=allT [rV (9223372036854775807:Nat) x3 x4 x5 x6 x7 x8,!kO x0 x3 x4 x5 x6 x1 x7 x8 x2||(jb x9||Lp.fin ff (Wc x0 x1 x2 x3 x4 x5 x6 x7 x8 x9)),!kO x0 x3 x4 x5 x6 x1 x7 x8 x2||(jb x9||(je x0 x1 x2 x3 x4 x5 x6 x7 x8 x9||Sd x0 x1 x2 x3 x4 x5 x6 x7 x8)),!kO x0 x3 x4 x5 x6 x1 x7 x8 x2||(jb x9||(je x0 x1 x2 x3 x4 x5 x6 x7 x8 x9||Lp.fin fg (Lc x0 x1 x2 x3 x4 x5 x6 x7 x8 x9)))]
end
def akA:List SV→List Entry→Option Out
 | [.one ⟨true,[.val (.int .i64 x0),.ref 0,.ref 1,.ref 2,.ref 3,.val (.int .i64 x1),.ref 4,.ref 5,.val (.int .i64 x2)]⟩,.one ⟨false,[.ref 6]⟩],[.row false 2 (.int .i64) x3,.row false 169 (.pair (.int .i64) (.pair (.int .i64) (.int .i64))) x4,.row false 24 (.sl 2 (.int .i64)) x5,.row false 100 (.pair (.int .i64) (.pair (.int .i64) (.int .i64))) x6,.row false 173 (.pair (.int .i64) (.int .i64)) x7,.row false 176 (.pair (.int .i64) (.int .i64)) x8,.row false 49 (.pair (.int .i64) (.pair (.int .i64) (.pair (.pair (.int .i64) (.int .i64)) (.pair (.int .i64) (.pair (.int .i64) (.bool)))))) x9]=>some ⟨.tup [⟨true,[.val (.int .i64 (Jk x0 x1 x2 x3 x4 x5 x6 x7 x8 x9)),.ref 7,.ref 8,.ref 9,.ref 10,.val (.int .i64 (Jl x0 x1 x2 x3 x4 x5 x6 x7 x8 x9)),.ref 11,.ref 12,.val (.int .i64 (Jm x0 x1 x2 x3 x4 x5 x6 x7 x8 x9))]⟩,⟨false,[.ref 13]⟩,⟨false,[.val (.int .i64 (Nj x0 x1 x2 x3 x4 x5 x6 x7 x8 x9))]⟩,⟨false,[.val (.int .i64 (Jn x0 x1 x2 x3 x4 x5 x6 x7 x8 x9))]⟩],[.row false 2 ajn x3,.row false 169 adk x4,.row false 24 (CTy.sl (2:TypeId) ajn) x5,.row false 100 adk x6,.row false 173 aiq x7,.row false 176 aiq x8,.row false 49 abL x9],[.row true 2 ajn (Jo x0 x1 x2 x3 x4 x5 x6 x7 x8 x9),.row true 169 adk (Jp x0 x1 x2 x3 x4 x5 x6 x7 x8 x9),.row true 24 (CTy.sl (2:Nat) ajn) (Jq x0 x1 x2 x3 x4 x5 x6 x7 x8 x9),.row true 100 adk (Jr x0 x1 x2 x3 x4 x5 x6 x7 x8 x9),.row true 173 aiq (Js x0 x1 x2 x3 x4 x5 x6 x7 x8 x9),.row true 176 aiq (Gr x0 x1 x2 x3 x4 x5 x6 x7 x8 x9),.row true 2 ajn (Gs x0 x1 x2 x3 x4 x5 x6 x7 x8 x9)],[Gt x0 x1 x2 x3 x4 x5 x6 x7 x8 x9]⟩
 |_,_=>none
def adB:PF prog:=PF.ofG prog [rQ,PF.lend rQ,PF.fz rQ,rO,PF.lend rO,PF.fz rO,fk,PF.lend fk,PF.fz fk,gL,PF.lend gL,PF.fz gL,wK,PF.lend wK,PF.fz wK] [ff.F,fg.F] aO 57 f57 func57 (LOk.fnT (l:= [aK f57 0,aK f57 1]) (by kernel_rfl) (.cons akg (.cons akh (.nil _)))) akA (by
 intro vs es r h;unfold akA at h;split at h
 ·cases h;kernel_rfl
 ·cases h)
section
variable (x0 x1 x2:Int)(x3:List Int)(x4:List (Int×Int×Int))(x5:List (List Int))(x6:List (Int×Int×Int))(x7 x8:List (Int×Int))(x9:List (Int×Int×(Int×Int)×Int×Int×Bool))
def ai0:Int:=Jk x0 x1 x2 x3 x4 x5 x6 x7 x8 x9
def ai1:Int:=Jl x0 x1 x2 x3 x4 x5 x6 x7 x8 x9
def ai2:Int:=Jm x0 x1 x2 x3 x4 x5 x6 x7 x8 x9
def ai3:Int:=Jn x0 x1 x2 x3 x4 x5 x6 x7 x8 x9
def ai4:List Int:=Jo x0 x1 x2 x3 x4 x5 x6 x7 x8 x9
def ai5:List (Int×(Int×Int)):=Jp x0 x1 x2 x3 x4 x5 x6 x7 x8 x9
def ai6:List (List Int):=Jq x0 x1 x2 x3 x4 x5 x6 x7 x8 x9
def ai7:List (Int×(Int×Int)):=Jr x0 x1 x2 x3 x4 x5 x6 x7 x8 x9
def ai8:List (Int×Int):=Js x0 x1 x2 x3 x4 x5 x6 x7 x8 x9
def ai9:List (Int×Int):=Gr x0 x1 x2 x3 x4 x5 x6 x7 x8 x9
def agw:List Int:=Gs x0 x1 x2 x3 x4 x5 x6 x7 x8 x9
def YZ:Bool:=allT [Gt x0 x1 x2 x3 x4 x5 x6 x7 x8 x9]
end
def ahs:List SV→List Entry→Option Out
 | [.one ⟨true,[.val (.int .i64 x0),.ref 0,.ref 1,.ref 2,.ref 3,.val (.int .i64 x1),.ref 4,.ref 5,.val (.int .i64 x2)]⟩,.one ⟨false,[.ref 6]⟩],[.row false 2 (.int .i64) x3,.row false 169 (.pair (.int .i64) (.pair (.int .i64) (.int .i64))) x4,.row false 24 (.sl 2 (.int .i64)) x5,.row false 100 (.pair (.int .i64) (.pair (.int .i64) (.int .i64))) x6,.row false 173 (.pair (.int .i64) (.int .i64)) x7,.row false 176 (.pair (.int .i64) (.int .i64)) x8,.row false 49 (.pair (.int .i64) (.pair (.int .i64) (.pair (.pair (.int .i64) (.int .i64)) (.pair (.int .i64) (.pair (.int .i64) (.bool)))))) x9]=>some ⟨.tup [⟨true,[.val (.int .i64 (ai0 x0 x1 x2 x3 x4 x5 x6 x7 x8 x9)),.ref 7,.ref 8,.ref 9,.ref 10,.val (.int .i64 (ai1 x0 x1 x2 x3 x4 x5 x6 x7 x8 x9)),.ref 11,.ref 12,.val (.int .i64 (ai2 x0 x1 x2 x3 x4 x5 x6 x7 x8 x9))]⟩,⟨false,[.ref 13]⟩,⟨false,[.val (.int .i64 (ai3 x0 x1 x2 x3 x4 x5 x6 x7 x8 x9))]⟩],[.row false 2 ajn x3,.row false 169 adk x4,.row false 24 (CTy.sl (2:TypeId) ajn) x5,.row false 100 adk x6,.row false 173 aiq x7,.row false 176 aiq x8,.row false 49 abL x9],[.row true 2 ajn (ai4 x0 x1 x2 x3 x4 x5 x6 x7 x8 x9),.row true 169 adk (ai5 x0 x1 x2 x3 x4 x5 x6 x7 x8 x9),.row true 24 (CTy.sl (2:Nat) ajn) (ai6 x0 x1 x2 x3 x4 x5 x6 x7 x8 x9),.row true 100 adk (ai7 x0 x1 x2 x3 x4 x5 x6 x7 x8 x9),.row true 173 aiq (ai8 x0 x1 x2 x3 x4 x5 x6 x7 x8 x9),.row true 176 aiq (ai9 x0 x1 x2 x3 x4 x5 x6 x7 x8 x9),.row true 2 ajn (agw x0 x1 x2 x3 x4 x5 x6 x7 x8 x9)],[YZ x0 x1 x2 x3 x4 x5 x6 x7 x8 x9]⟩
 |_,_=>none
def aqD:PF prog:=PF.ofG prog [adB,PF.lend adB,PF.fz adB] [] aO 13 f13 func13 (fun c _=>LOk.nil c) ahs (by
 intro vs es r h;unfold ahs at h;split at h
 ·cases h;kernel_rfl
 ·cases h)
def Wk(x0:List (Int×Int×Int)):Bool:=allT [ltN (0:Nat) x0.length,false||leN ((0:Nat) + List.length x0) (9223372036854775807:Nat),false||leN (((0:Nat) + List.length x0) * (24:Nat)) (140737488355328:Nat)]
def Jv:List SV→List Entry→Option Out
 | [.one ⟨false,[.ref 0]⟩],[.row false 169 (.pair (.int .i64) (.pair (.int .i64) (.int .i64))) x0]=>some ⟨.one ⟨false,[.ref 1]⟩,[.row false 169 adk x0],[.row true 169 adk x0],[Wk x0]⟩
 |_,_=>none
def Wg:PF prog:=PF.ofG prog [] [] aO 147 f147 func147 (fun c _=>LOk.nil c) Jv (by
 intro vs es r h;unfold Jv at h;split at h
 ·cases h;kernel_rfl
 ·cases h)
def Un:List (Int×(Int×Int)):= []
def GD:List SV→List Entry→Option Out
 | [.one ⟨false,[.val (.slice none 0 0)]⟩],[]=>some ⟨.one ⟨false,[.ref 0]⟩,[],[.row true 169 adk (Un)],[true]⟩
 |_,_=>none
def Ul:PF prog:=PF.ofG prog [PF.raw prog] [] aO 147 f147 func147 (fun c _=>LOk.nil c) GD (by
 intro vs es r h;unfold GD at h;split at h
 ·cases h;kernel_rfl
 ·cases h)
def Uo:List (Int×(Int×Int)):= []
def GE:List SV→List Entry→Option Out
 | [.one ⟨false,[.val (.slice (some b) 0 c)]⟩],[]=>some ⟨.one ⟨false,[.ref 0]⟩,[],[.row true 169 adk (Uo)],[true]⟩
 |_,_=>none
def Um:PF prog:=PF.ofG prog [] [] aO 147 f147 func147 (fun c _=>LOk.nil c) GE (by
 intro vs es r h;unfold GE at h;split at h
 ·cases h;kernel_rfl
 ·cases h)
def Yi(x0:List (Int×Int×Int)):Bool:=allT [ltN (0:Nat) x0.length,false||leN ((0:Nat) + List.length x0) (9223372036854775807:Nat),false||leN (((0:Nat) + List.length x0) * (24:Nat)) (140737488355328:Nat)]
def LD:List SV→List Entry→Option Out
 | [.one ⟨false,[.ref 0]⟩],[.row false 100 (.pair (.int .i64) (.pair (.int .i64) (.int .i64))) x0]=>some ⟨.one ⟨false,[.ref 1]⟩,[.row false 100 adk x0],[.row true 100 adk x0],[Yi x0]⟩
 |_,_=>none
def Yf:PF prog:=PF.ofG prog [] [] aO 148 f148 func148 (fun c _=>LOk.nil c) LD (by
 intro vs es r h;unfold LD at h;split at h
 ·cases h;kernel_rfl
 ·cases h)
def Wi:List (Int×(Int×Int)):= []
def Jt:List SV→List Entry→Option Out
 | [.one ⟨false,[.val (.slice none 0 0)]⟩],[]=>some ⟨.one ⟨false,[.ref 0]⟩,[],[.row true 100 adk (Wi)],[true]⟩
 |_,_=>none
def We:PF prog:=PF.ofG prog [PF.raw prog] [] aO 148 f148 func148 (fun c _=>LOk.nil c) Jt (by
 intro vs es r h;unfold Jt at h;split at h
 ·cases h;kernel_rfl
 ·cases h)
def Wj:List (Int×(Int×Int)):= []
def Ju:List SV→List Entry→Option Out
 | [.one ⟨false,[.val (.slice (some b) 0 c)]⟩],[]=>some ⟨.one ⟨false,[.ref 0]⟩,[],[.row true 100 adk (Wj)],[true]⟩
 |_,_=>none
def Wf:PF prog:=PF.ofG prog [] [] aO 148 f148 func148 (fun c _=>LOk.nil c) Ju (by
 intro vs es r h;unfold Ju at h;split at h
 ·cases h;kernel_rfl
 ·cases h)
def adF(x0:List (Int×Int)):Bool:=allT [ltN (0:Nat) x0.length,false||leN ((0:Nat) + List.length x0) (9223372036854775807:Nat),false||leN (((0:Nat) + List.length x0) * (16:Nat)) (140737488355328:Nat)]
def Ru:List SV→List Entry→Option Out
 | [.one ⟨false,[.ref 0]⟩],[.row false 173 (.pair (.int .i64) (.int .i64)) x0]=>some ⟨.one ⟨false,[.ref 1]⟩,[.row false 173 aiq x0],[.row true 173 aiq x0],[adF x0]⟩
 |_,_=>none
def adw:PF prog:=PF.ofG prog [] [] aO 149 f149 func149 (fun c _=>LOk.nil c) Ru (by
 intro vs es r h;unfold Ru at h;split at h
 ·cases h;kernel_rfl
 ·cases h)
def aa9:List (Int×Int):= []
def OM:List SV→List Entry→Option Out
 | [.one ⟨false,[.val (.slice none 0 0)]⟩],[]=>some ⟨.one ⟨false,[.ref 0]⟩,[],[.row true 173 aiq (aa9)],[true]⟩
 |_,_=>none
def aaZ:PF prog:=PF.ofG prog [PF.raw prog] [] aO 149 f149 func149 (fun c _=>LOk.nil c) OM (by
 intro vs es r h;unfold OM at h;split at h
 ·cases h;kernel_rfl
 ·cases h)
def aba:List (Int×Int):= []
def ON:List SV→List Entry→Option Out
 | [.one ⟨false,[.val (.slice (some b) 0 c)]⟩],[]=>some ⟨.one ⟨false,[.ref 0]⟩,[],[.row true 173 aiq (aba)],[true]⟩
 |_,_=>none
def aa0:PF prog:=PF.ofG prog [] [] aO 149 f149 func149 (fun c _=>LOk.nil c) ON (by
 intro vs es r h;unfold ON at h;split at h
 ·cases h;kernel_rfl
 ·cases h)
def adE(x0:List (Int×Int)):Bool:=allT [ltN (0:Nat) x0.length,false||leN ((0:Nat) + List.length x0) (9223372036854775807:Nat),false||leN (((0:Nat) + List.length x0) * (16:Nat)) (140737488355328:Nat)]
def Rt:List SV→List Entry→Option Out
 | [.one ⟨false,[.ref 0]⟩],[.row false 176 (.pair (.int .i64) (.int .i64)) x0]=>some ⟨.one ⟨false,[.ref 1]⟩,[.row false 176 aiq x0],[.row true 176 aiq x0],[adE x0]⟩
 |_,_=>none
def adv:PF prog:=PF.ofG prog [] [] aO 150 f150 func150 (fun c _=>LOk.nil c) Rt (by
 intro vs es r h;unfold Rt at h;split at h
 ·cases h;kernel_rfl
 ·cases h)
def aa7:List (Int×Int):= []
def OK:List SV→List Entry→Option Out
 | [.one ⟨false,[.val (.slice none 0 0)]⟩],[]=>some ⟨.one ⟨false,[.ref 0]⟩,[],[.row true 176 aiq (aa7)],[true]⟩
 |_,_=>none
def aaX:PF prog:=PF.ofG prog [PF.raw prog] [] aO 150 f150 func150 (fun c _=>LOk.nil c) OK (by
 intro vs es r h;unfold OK at h;split at h
 ·cases h;kernel_rfl
 ·cases h)
def aa8:List (Int×Int):= []
def OL:List SV→List Entry→Option Out
 | [.one ⟨false,[.val (.slice (some b) 0 c)]⟩],[]=>some ⟨.one ⟨false,[.ref 0]⟩,[],[.row true 176 aiq (aa8)],[true]⟩
 |_,_=>none
def aaY:PF prog:=PF.ofG prog [] [] aO 150 f150 func150 (fun c _=>LOk.nil c) OL (by
 intro vs es r h;unfold OL at h;split at h
 ·cases h;kernel_rfl
 ·cases h)
end Go.SX
namespace Go.SX
open Go.RowKit Go.Proofs
set_option maxRecDepth 100000
theorem avs{n:Nat}(h2:0 < n)(h1:n≤1048576):allT [ltN 0 n,false||leN (0 + n) 9223372036854775807,false||leN ((0 + n) * 24) 140737488355328]=true:=by
 rw [ec h2,bY (by omega),bY (by omega)];rfl
theorem avr{n:Nat}(h2:0 < n)(h1:n≤1048576):allT [ltN 0 n,false||leN (0 + n) 9223372036854775807,false||leN ((0 + n) * 16) 140737488355328]=true:=by
 rw [ec h2,bY (by omega),bY (by omega)];rfl
theorem apV(x0:List (Int×(Int×Int)))(h:leN x0.length 1048576=true)(mem:Nat→Option Obj)(ρ:Nm)(w:World)(hp:HpL w mem [.row false 169 (.pair (.int .i64) (.pair (.int .i64) (.int .i64))) x0] ρ w):
  Calls Tryz.prog 147 ([SV.one ⟨false,[.ref 0]⟩].map (SV.conc ρ)).toArray w fun en w'=> ∃ ρ':Nm,Ext (memB w mem) (fun i=>Nat.blt i 1) ρ ρ'∧en= .returned ((SV.one ⟨false,[.ref 1]⟩).conc ρ')∧
   HpL w mem [.row false 169 (.pair (.int .i64) (.pair (.int .i64) (.int .i64))) x0,.row true 169 (.pair (.int .i64) (.pair (.int .i64) (.int .i64))) x0] ρ' w':=
 afz (t:=(.pair (.int .i64) (.pair (.int .i64) (.int .i64)))) Wg Ul Um rfl rfl rfl ⟨_,rfl,fun b hb=>(by simp at hb;exact hb)⟩ (fun _ _=>⟨_,rfl,fun b hb=>(by simp at hb;exact hb)⟩) x0
  (fun Sg=>⟨_,rfl,fun b hb=>(by
   have h1:=dT.1 h
   have h2:0 < x0.length:=by cases x0 with
    |nil=>exact(Sg rfl).elim
    |cons y r=>exact Nat.succ_pos _
   rw [List.mem_singleton]at hb;subst hb
   exact avs h2 h1)⟩) mem ρ w hp
def Jw:List SV→List Entry→Option Out
 | [.one ⟨false,[.ref 0]⟩],[.row false 169 (.pair (.int .i64) (.pair (.int .i64) (.int .i64))) x0]=>some ⟨.one ⟨false,[.ref 1]⟩,[.row false 169 (.pair (.int .i64) (.pair (.int .i64) (.int .i64))) x0],[.row true 169 (.pair (.int .i64) (.pair (.int .i64) (.int .i64))) x0],[leN x0.length 1048576]⟩
 |_,_=>none
def jf:PF Tryz.prog where
 k:=147
 F:=Jw
 ok:=by
  intro args es o h bz mem ρ w hp
  unfold Jw at h;split at h
  ·rename_i x0
   cases h
   refine(apV x0 (bz _ (List.mem_singleton.2 rfl)) mem ρ w hp).mono fun en w' ⟨ρ1,hx,he,hh⟩=>⟨ρ1,hx,he,rfl,?_,hh⟩
   intro c hc
   simp at hc;subst hc;rfl
  ·cases h
theorem asn(x0:List (Int×(Int×Int)))(h:leN x0.length 1048576=true)(mem:Nat→Option Obj)(ρ:Nm)(w:World)(hp:HpL w mem [.row false 100 (.pair (.int .i64) (.pair (.int .i64) (.int .i64))) x0] ρ w):
  Calls Tryz.prog 148 ([SV.one ⟨false,[.ref 0]⟩].map (SV.conc ρ)).toArray w fun en w'=> ∃ ρ':Nm,Ext (memB w mem) (fun i=>Nat.blt i 1) ρ ρ'∧en= .returned ((SV.one ⟨false,[.ref 1]⟩).conc ρ')∧
   HpL w mem [.row false 100 (.pair (.int .i64) (.pair (.int .i64) (.int .i64))) x0,.row true 100 (.pair (.int .i64) (.pair (.int .i64) (.int .i64))) x0] ρ' w':=
 afz (t:=(.pair (.int .i64) (.pair (.int .i64) (.int .i64)))) Yf We Wf rfl rfl rfl ⟨_,rfl,fun b hb=>(by simp at hb;exact hb)⟩ (fun _ _=>⟨_,rfl,fun b hb=>(by simp at hb;exact hb)⟩) x0
  (fun Sg=>⟨_,rfl,fun b hb=>(by
   have h1:=dT.1 h
   have h2:0 < x0.length:=by cases x0 with
    |nil=>exact(Sg rfl).elim
    |cons y r=>exact Nat.succ_pos _
   rw [List.mem_singleton]at hb;subst hb
   exact avs h2 h1)⟩) mem ρ w hp
def LF:List SV→List Entry→Option Out
 | [.one ⟨false,[.ref 0]⟩],[.row false 100 (.pair (.int .i64) (.pair (.int .i64) (.int .i64))) x0]=>some ⟨.one ⟨false,[.ref 1]⟩,[.row false 100 (.pair (.int .i64) (.pair (.int .i64) (.int .i64))) x0],[.row true 100 (.pair (.int .i64) (.pair (.int .i64) (.int .i64))) x0],[leN x0.length 1048576]⟩
 |_,_=>none
def kq:PF Tryz.prog where
 k:=148
 F:=LF
 ok:=by
  intro args es o h bz mem ρ w hp
  unfold LF at h;split at h
  ·rename_i x0
   cases h
   refine(asn x0 (bz _ (List.mem_singleton.2 rfl)) mem ρ w hp).mono fun en w' ⟨ρ1,hx,he,hh⟩=>⟨ρ1,hx,he,rfl,?_,hh⟩
   intro c hc
   simp at hc;subst hc;rfl
  ·cases h
theorem axk(x0:List (Int×Int))(h:leN x0.length 1048576=true)(mem:Nat→Option Obj)(ρ:Nm)(w:World)(hp:HpL w mem [.row false 173 (.pair (.int .i64) (.int .i64)) x0] ρ w):
  Calls Tryz.prog 149 ([SV.one ⟨false,[.ref 0]⟩].map (SV.conc ρ)).toArray w fun en w'=> ∃ ρ':Nm,Ext (memB w mem) (fun i=>Nat.blt i 1) ρ ρ'∧en= .returned ((SV.one ⟨false,[.ref 1]⟩).conc ρ')∧
   HpL w mem [.row false 173 (.pair (.int .i64) (.int .i64)) x0,.row true 173 (.pair (.int .i64) (.int .i64)) x0] ρ' w':=
 afz (t:=(.pair (.int .i64) (.int .i64))) adw aaZ aa0 rfl rfl rfl ⟨_,rfl,fun b hb=>(by simp at hb;exact hb)⟩ (fun _ _=>⟨_,rfl,fun b hb=>(by simp at hb;exact hb)⟩) x0
  (fun Sg=>⟨_,rfl,fun b hb=>(by
   have h1:=dT.1 h
   have h2:0 < x0.length:=by cases x0 with
    |nil=>exact(Sg rfl).elim
    |cons y r=>exact Nat.succ_pos _
   rw [List.mem_singleton]at hb;subst hb
   exact avr h2 h1)⟩) mem ρ w hp
def Ry:List SV→List Entry→Option Out
 | [.one ⟨false,[.ref 0]⟩],[.row false 173 (.pair (.int .i64) (.int .i64)) x0]=>some ⟨.one ⟨false,[.ref 1]⟩,[.row false 173 (.pair (.int .i64) (.int .i64)) x0],[.row true 173 (.pair (.int .i64) (.int .i64)) x0],[leN x0.length 1048576]⟩
 |_,_=>none
def oA:PF Tryz.prog where
 k:=149
 F:=Ry
 ok:=by
  intro args es o h bz mem ρ w hp
  unfold Ry at h;split at h
  ·rename_i x0
   cases h
   refine(axk x0 (bz _ (List.mem_singleton.2 rfl)) mem ρ w hp).mono fun en w' ⟨ρ1,hx,he,hh⟩=>⟨ρ1,hx,he,rfl,?_,hh⟩
   intro c hc
   simp at hc;subst hc;rfl
  ·cases h
theorem axj(x0:List (Int×Int))(h:leN x0.length 1048576=true)(mem:Nat→Option Obj)(ρ:Nm)(w:World)(hp:HpL w mem [.row false 176 (.pair (.int .i64) (.int .i64)) x0] ρ w):
  Calls Tryz.prog 150 ([SV.one ⟨false,[.ref 0]⟩].map (SV.conc ρ)).toArray w fun en w'=> ∃ ρ':Nm,Ext (memB w mem) (fun i=>Nat.blt i 1) ρ ρ'∧en= .returned ((SV.one ⟨false,[.ref 1]⟩).conc ρ')∧
   HpL w mem [.row false 176 (.pair (.int .i64) (.int .i64)) x0,.row true 176 (.pair (.int .i64) (.int .i64)) x0] ρ' w':=
 afz (t:=(.pair (.int .i64) (.int .i64))) adv aaX aaY rfl rfl rfl ⟨_,rfl,fun b hb=>(by simp at hb;exact hb)⟩ (fun _ _=>⟨_,rfl,fun b hb=>(by simp at hb;exact hb)⟩) x0
  (fun Sg=>⟨_,rfl,fun b hb=>(by
   have h1:=dT.1 h
   have h2:0 < x0.length:=by cases x0 with
    |nil=>exact(Sg rfl).elim
    |cons y r=>exact Nat.succ_pos _
   rw [List.mem_singleton]at hb;subst hb
   exact avr h2 h1)⟩) mem ρ w hp
def Rx:List SV→List Entry→Option Out
 | [.one ⟨false,[.ref 0]⟩],[.row false 176 (.pair (.int .i64) (.int .i64)) x0]=>some ⟨.one ⟨false,[.ref 1]⟩,[.row false 176 (.pair (.int .i64) (.int .i64)) x0],[.row true 176 (.pair (.int .i64) (.int .i64)) x0],[leN x0.length 1048576]⟩
 |_,_=>none
def oz:PF Tryz.prog where
 k:=150
 F:=Rx
 ok:=by
  intro args es o h bz mem ρ w hp
  unfold Rx at h;split at h
  ·rename_i x0
   cases h
   refine(axj x0 (bz _ (List.mem_singleton.2 rfl)) mem ρ w hp).mono fun en w' ⟨ρ1,hx,he,hh⟩=>⟨ρ1,hx,he,rfl,?_,hh⟩
   intro c hc
   simp at hc;subst hc;rfl
  ·cases h
end Go.SX
