/- What functions of the program come to, and what that says in plain words: part 2. -/
import Derived.Test.YtcgchjiidpbeoaaGreatDoorMa
import Derived.Test.YtcgchjiidpbeoaaGreatDoorTXh
import Derived.Test.YtcgchjiidpbeoaaGreatDoorProg
set_option linter.unusedSimpArgs false
set_option linter.unusedVariables false
open Bool renaming and_eq_true → q8
open Int renaming toNat_natCast → q9
open List renaming length_singleton → w5
open List renaming length_append → j6
open Bool renaming or_true → j7
open Bool renaming cond_self → j8
open List renaming getElem?_eq_some_iff → j9
open Int renaming toNat → k7
open List renaming length → k8
open Option renaming getD → k9
open Go.IntKind renaming wrap → v5
open List renaming replicate → v6
namespace Go.SX
open Go.Proofs Go.Proofs.Tryz
set_option maxRecDepth 100000
abbrev ov:=Int×aAi×aAi×List aAi×List aAi×List aAi×List (aAi×(List (Int×(aAi×Int))))
section
variable (a:Int)(b:aiJ)
def zh:Bool:=ltI a (↑b.length:Int)
def zi:Bool:=ltN a.toNat b.length
def pp:aAi×aoQ:=k9 b[k7 a]? (vB aaP)
def kH:Bool:= !pu ((pp a b).1)
def uT:aoQ:=bif !kH a b&&true then (pp a b).2else []
def AY:Bool:=zh a b
def Kb:Bool:=leI 0 a
def Kc:Bool:=zi a b
def Kd:Bool:=yk ((pp a b).1)
def Ke:Bool:= !(!kH a b&&true)||leI 0 a
def Kf:Bool:= !(!kH a b&&true)||zh a b
def Kg:Bool:= !(!kH a b&&true)||zi a b
def Kh:Bool:= !(!kH a b&&true)||aaf (uT a b)
def EP:Bool:=bif kH a b then true else !ami (uT a b)
def Ki:Int:=v5 .i64 (a + (1:Int))
end
def ahw:ov→List (Nat×SV)
 |(a,_,_,_,_,_,_)=> [(3,(aAm a)),(1,(aAl (.ptr 0 0)))]
def aht:ov→List (Nat×Entry)
 |(_,a,b,c,d,e,f)=> [(0,(.box 27 [.val (.string a),.ref 1,.ref 2,.ref 3,.val (.string b),.ref 4])),(1,(aAn c)),(2,(aAn d)),(3,(aAn e)),(4,(aAs f))]
def ahR:Nat→ov→List (Nat×SV)
 |0,(_,_,_,_,_,_,_)=> [(2,(aAl (.val (.bool false))))]
 |_,_=>[]
def Dq:ov→LT ov
 |(a,b,c,d,e,f,g)=> .ite (AY a g) (.need [Kb a,AY a g,Kc a g,Kd a g,Ke a g,Kf a g,Kg a g,Kh a g] (.ite (EP a g) (.ext 0 [(0,0),(1,1),(2,2),(3,3),(4,4)]) (.nrm ((Ki a),b,c,d,e,f,g) [(0,0),(1,1),(2,2),(3,3),(4,4)]))) (.ext 1 [(0,0),(1,1),(2,2),(3,3),(4,4)])
def Rl(s:St):Option ov:=do
 let some ⟨none,.one ⟨false,[.val (.int .i64 a)]⟩⟩:=s.look 3|none
 let some ⟨none,.one ⟨false,[.ptr 320 0]⟩⟩:=s.look 1|none
 let some (.box 27 [.val (.string b),.ref 0,.ref 1,.ref 2,.val (.string c),.ref 3]):=s.ent 320|none
 let some (.row false 9 (.str) d):=s.ent 0|none
 let some (.row false 9 (.str) e):=s.ent 1|none
 let some (.row false 9 (.str) f):=s.ent 2|none
 let some (.row false 91 (.pair .str (.sl 66 (.pair (.int .i64) (.pair .str (.int .i64))))) g):=s.ent 3|none
 some (a,b,c,d,e,f,g)
def fQ:Lp ov where
 h:=⟨[37,38,39,40,41,44,45,46,47,48,49,50,51,52,53,54,55,56,57,58,59,60,61,2,42,43,3],[0,1,2,3,4],[],[]⟩
 JL:=ahw
 JE:=aht
 XL:=ahR
 XE:=fun _=>aht
 q:=fun j=>match j with | 0=> .ret | _=> .exit 0
 tags:= [0,1]
 lt:=Dq
 fuel:=fun(a,b,c,d,e,f,g)=>a.natAbs + b.size + c.size + d.length + e.length + f.length + g.length
 fix:=fun(_,b,c,d,e,f,g) (a,_,_,_,_,_,_)=>(a,b,c,d,e,f,g)
 σ:= [(0,320),(1,0),(2,1),(3,2),(4,3)]
 rd:=Rl
theorem afB:LoopOk prog (fun k=>Nat.blt k Tryz.f55.ntmps) fQ.F (bc f55 0):=by
 refine Lp.ok (tbl:= (T3z [Ar,Ri,HN,AX])) (lf:= []) aU fQ (by kernel_rfl) (LOk.nil _) (fun _=>rfl) (fun j _=>by unfold fQ;match j with | 0=>rfl | _ + 1=>rfl) ?_ ?_ ?_ ?_ (fun _=>rfl) ?_
 ·intro _;kernel_rfl
 ·intro _;kernel_rfl
 ·intro s x h
  have h:Rl s=some x:=h
  unfold Rl at h
  repeat' split at h
  all_goals cases h
  constructor<;>repeat(first|refine ab ‹_› rfl ?_|refine aa rfl ‹_› rfl ?_|rfl)
 ·intro _;kernel_rfl
 ·intro _ _;exact(And.intro (And.intro trivial rfl) trivial)
section
variable (a:aAi)(b c d:List aAi)
def Wj:Bool:=bif !pu a then true else !(List.all b pB&&inR (↑b.length:Int) 1 20)
def Wk:Bool:=bif Wj a b then true else !(List.all c pB&&inR (↑c.length:Int) 0 20)
def Wl:Bool:=bif Wk a b c then true else !(List.all d pB&&inR (↑d.length:Int) 1 20)
end
def Wm(a:aAi):Bool:=
 !ByteArray.toList a==ByteArray.toList { data:= #[] }
section
variable (a b:aAi)(c d e:List aAi)(f:aiK)
def Wn:Bool:=bif Wl a c d e then true else bif Wm b then !pu b else false
def Qb:Int×aAi×aAi×List aAi×List aAi×List aAi×aiK:=((0:Int),a,b,c,d,e,f)
def Lf:Bool:=bif Wn a b c d e then false else bif Nat.beq ((Lp.res fQ (Qb a b c d e f)).1) 0 then false else ak (↑f.length:Int) 1 40
def Sp:Bool:=allT [yk a,!(!!pu a&&true)||XD c,!(!Wj a c&&true)||XD d,!(!Wk a c d&&true)||XD e,!(Wm b&&(!Wl a c d e&&true))||yk b,Wn a b c d e||Lp.fin fQ (Qb a b c d e f)]
end
def aed:aAj
 | [.one ⟨true,[.val (.string a),.ref 0,.ref 1,.ref 2,.val (.string b),.ref 3]⟩],[.row false 9 (.str) c,.row false 9 (.str) d,.row false 9 (.str) e,.row false 91 (.pair (.str) (.sl 66 (.pair (.int .i64) (.pair (.str) (.int .i64))))) f]=>some ⟨aAl (.val (.bool (Lf a b c d e f))),[aAn c,aAn d,aAn e,aAt f],[],[Sp a b c d e f]⟩
 |_,_=>none
def XQ:PF prog:=PF.ofG prog (T3z [Ar,Ri,HN,AX]) [fQ.F] aU 55 f55 func55 (LOk.fnT (l:= [bc f55 0]) (by kernel_rfl) (.cons afB (.nil _))) aed (by
 intro _ _ _ h;unfold aed at h;split at h<;>cases h;kernel_rfl)
def vk(a:aAi)(b c:List aAi):Bool:=bif leI 0 (oP b a)then true else leI 0 (oP c a)
def GY(a:aAi)(b c:List aAi):Bool:=allT [leN b.length (9223372036854775807:Nat),!(!leI 0 (oP b a)&&true)||leN c.length (9223372036854775807:Nat)]
def aaE:aAj
 | [.one ⟨true,[.val (.string _x0),.ref 0,.ref 1,.ref 2,.val (.string _x1),.ref 3]⟩,.one ⟨false,[.val (.string a)]⟩],[.row false 9 (.str) b,.row false 9 (.str) c,.row false 9 (.str) d,.row false 91 (.pair (.str) (.sl 66 (.pair (.int .i64) (.pair (.str) (.int .i64))))) e]=>some ⟨aAl (.val (.bool (vk a b c))),[aAn b,aAn c,aAn d,aAt e],[],[GY a b c]⟩
 |_,_=>none
def lJ:PF prog:=PF.ofG prog (T3z [aX]) [] aU 103 f103 func103 (fun c _=>LOk.nil c) aaE (by
 intro _ _ _ h;unfold aaE at h;split at h<;>cases h;kernel_rfl)
abbrev pF:=Int×aAi×aAi×List aAi×List aAi×List aAi×List aAi×List (aAi×(List (Int×(aAi×Int))))
section
variable (a:Int)(b c d:List aAi)(e:aiJ)
def kb:aAi:=(k9 e[k7 a]? (vB aaP)).1
def CL:Bool:=ltI a (↑e.length:Int)
def GK:Bool:=leI 0 a
def GL:Bool:=ltN a.toNat e.length
def GM:Bool:=leN c.length (9223372036854775807:Nat)
def GN:Bool:= !(ltI (oP c (kb a e)) 0&&true)||leN d.length (9223372036854775807:Nat)
def GO:Bool:=bif ltI (oP c (kb a e)) 0 then ltI (oP d (kb a e)) 0 else false
def GP:Bool:=leN (k8 b + k8 [kb a e]) (9223372036854775807:Nat)
def GQ:Bool:=leN ((k8 b + k8 [kb a e]) * (16:Nat)) 140737488355328
def GR:Int:=v5 .i64 (a + (1:Int))
def GS:List aAi:=b++ [kb a e]
end
def ai7:pF→List (Nat×SV)
 |(a,_,_,_,_,_,_,_)=> [(4,(aAm a)),(1,(aAl (.ptr 0 0))),(3,(aAl (.ref 1)))]
def ai0:pF→List (Nat×Entry)
 |(_,a,b,c,d,e,f,g)=> [(0,(.box 27 [.val (.string a),.ref 2,.ref 3,.ref 4,.val (.string b),.ref 5])),(2,(aAn d)),(3,(aAn e)),(4,(aAn f)),(5,(aAs g)),(1,(aAr c))]
def ajl:Nat→pF→List (Nat×SV)
 |0,(_,_,_,_,_,_,_,_)=> [(2,(aAm 3))]
 |_,(_,_,_,_,_,_,_,_)=> [(3,(aAl (.ref 1)))]
def aje:Nat→pF→List (Nat×Entry)
 |0,(_,a,b,c,d,e,f,g)=> [(0,(.box 27 [.val (.string a),.ref 2,.ref 3,.ref 4,.val (.string b),.ref 5])),(1,(aAr c)),(2,(aAn d)),(3,(aAn e)),(4,(aAn f)),(5,(aAs g))]
 |_,(_,a,b,c,d,e,f,g)=> [(0,(.box 27 [.val (.string a),.ref 2,.ref 3,.ref 4,.val (.string b),.ref 5])),(1,(aAr c)),(2,(aAn d)),(3,(aAn e)),(4,(aAn f)),(5,(aAs g))]
def EH:pF→LT pF
 |(a,b,c,d,e,f,g,i)=> .ite (CL a i) (.need [GK a,CL a i,GL a i] (.need [GM f,GN a f g i] (.ite (GO a f g i) (.ext 0 [(0,0),(1,1),(2,2),(3,3),(4,4),(5,5)]) (.need [GP a d i,GQ a d i] (.nrm ((GR a),b,c,GS a d i,e,f,g,i) [(0,0),(1,1792),(2,2),(3,3),(4,4),(5,5)]))))) (.ext 1 [(0,0),(1,1),(2,2),(3,3),(4,4),(5,5)])
def SY(s:St):Option pF:=do
 let some ⟨none,.one ⟨false,[.val (.int .i64 a)]⟩⟩:=s.look 4|none
 let some ⟨none,.one ⟨false,[.ptr 320 0]⟩⟩:=s.look 1|none
 let some ⟨none,.one ⟨false,[.ref 1280]⟩⟩:=s.look 3|none
 let some (.box 27 [.val (.string b),.ref 0,.ref 1,.ref 2,.val (.string c),.ref 3]):=s.ent 320|none
 let some (.row false 9 (.str) e):=s.ent 0|none
 let some (.row false 9 (.str) f):=s.ent 1|none
 let some (.row false 9 (.str) g):=s.ent 2|none
 let some (.row false 91 (.pair .str (.sl 66 (.pair (.int .i64) (.pair .str (.int .i64))))) i):=s.ent 3|none
 let some (.row true 9 (.str) d):=s.ent 1280|none
 some (a,b,c,d,e,f,g,i)
def eO:Lp pF where
 h:=⟨[23,24,25,26,27,30,31,32,33,34,35,5,36,37,38,39,40,41,42,43,44,45,46,47,2,48,49,50,51,3,28,29,4],[0,2,3,4,5],[1],[]⟩
 JL:=ai7
 JE:=ai0
 XL:=ajl
 XE:=aje
 q:=fun j=>match j with | 0=> .ret | _=> .exit 0
 tags:= [0,1]
 lt:=EH
 fuel:=fun(a,b,c,d,e,f,g,i)=>a.natAbs + b.size + c.size + d.length + e.length + f.length + g.length + i.length
 fix:=fun(_,b,c,_,e,f,g,i) (a,_,_,d,_,_,_,_)=>(a,b,c,d,e,f,g,i)
 σ:= [(0,320),(2,0),(3,1),(4,2),(5,3),(1,1280)]
 rd:=SY
theorem agX:LoopOk prog (fun k=>Nat.blt k Tryz.f56.ntmps) eO.F (bc f56 0):=by
 refine Lp.ok (tbl:= (T3z [aX,vv,qH,lJ])) (lf:= []) aU eO (by kernel_rfl) (LOk.nil _) (fun _=>rfl) (fun j _=>by unfold eO;match j with | 0=>rfl | _ + 1=>rfl) ?_ ?_ ?_ ?_ (fun _=>rfl) ?_
 ·intro _;kernel_rfl
 ·intro _;kernel_rfl
 ·intro s x h
  have h:SY s=some x:=h
  unfold SY at h
  repeat' split at h
  all_goals cases h
  constructor<;>repeat(first|refine ab ‹_› rfl ?_|refine aa rfl ‹_› rfl ?_|rfl)
 ·intro _;kernel_rfl
 ·intro _ _;exact(And.intro (And.intro trivial rfl) trivial)
abbrev qD:=Int×Int×aAi×aAi×List aAi×List aAi×List aAi×List (aAi×(List (Int×(aAi×Int))))
section
variable (a b:Int)(c d:List aAi)(e:aiJ)
def AM:aoQ:=(k9 e[k7 b]? (vB aaP)).2
def AO:Int×aAi×Int:=k9 (AM b e)[k7 a]? ((0:Int),ByteArray.empty,(0:Int))
def Nw:Bool:=(AO a b e).1==1
def Pu:Bool:=leI 0 b
def Pv:Bool:=ltI b (↑e.length:Int)
def Hr:Bool:=ltN b.toNat e.length
def xT:Bool:=ltI a (↑(k8 (AM b e)):Int)
def Xs:Bool:=leI 0 a
def Pw:Bool:=ltN a.toNat (k8 (AM b e))
def Px:Bool:= !(Nw a b e&&true)||GY (((AO a b e).2).1) c d
def Py:Bool:=bif Nw a b e then !vk (((AO a b e).2).1) c d else false
def Xt:Int:=v5 .i64 (a + (1:Int))
end
def ae6:qD→List (Nat×SV)
 |(a,b,_,_,_,_,_,_)=> [(7,(aAm a)),(1,(aAl (.ptr 0 0))),(6,(aAm b))]
def ae0:qD→List (Nat×Entry)
 |(_,_,a,b,c,d,e,f)=> [(0,(.box 27 [.val (.string a),.ref 1,.ref 2,.ref 3,.val (.string b),.ref 4])),(1,(aAn c)),(2,(aAn d)),(3,(aAn e)),(4,(aAs f))]
def afi:Nat→qD→List (Nat×SV)
 |0,(_,_,_,_,_,_,_,_)=> [(2,(aAm 6))]
 |_,_=>[]
def An:qD→LT qD
 |(a,b,c,d,e,f,g,i)=> .need [Pu b,Pv b i,Hr b i] (.ite (xT a b i) (.need [Pu b,Pv b i,Hr b i,Xs a,xT a b i,Pw a b i] (.need [Px a b e f i] (.ite (Py a b e f i) (.ext 0 [(0,0),(1,1),(2,2),(3,3),(4,4)]) (.nrm ((Xt a),b,c,d,e,f,g,i) [(0,0),(1,1),(2,2),(3,3),(4,4)])))) (.ext 1 [(0,0),(1,1),(2,2),(3,3),(4,4)]))
def Nh(s:St):Option qD:=do
 let some ⟨none,.one ⟨false,[.val (.int .i64 a)]⟩⟩:=s.look 7|none
 let some ⟨none,.one ⟨false,[.ptr 0 0]⟩⟩:=s.look 1|none
 let some ⟨none,.one ⟨false,[.val (.int .i64 b)]⟩⟩:=s.look 6|none
 let some (.box 27 [.val (.string c),.ref 1,.ref 2,.ref 3,.val (.string d),.ref 4]):=s.ent 0|none
 let some (.row false 9 (.str) e):=s.ent 1|none
 let some (.row false 9 (.str) f):=s.ent 2|none
 let some (.row false 9 (.str) g):=s.ent 3|none
 let some (.row false 91 (.pair .str (.sl 66 (.pair (.int .i64) (.pair .str (.int .i64))))) i):=s.ent 4|none
 some (a,b,c,d,e,f,g,i)
def fg:Lp qD where
 h:=⟨[71,72,73,74,75,76,77,78,79,82,83,84,85,86,87,88,89,90,8,91,92,93,94,95,96,97,98,99,100,2,80,81,7],[0,1,2,3,4],[],[]⟩
 JL:=ae6
 JE:=ae0
 XL:=afi
 XE:=fun _=>ae0
 q:=fun j=>match j with | 0=> .ret | _=> .exit 4
 tags:= [0,1]
 lt:=An
 fuel:=fun(a,b,c,d,e,f,g,i)=>a.natAbs + b.natAbs + c.size + d.size + e.length + f.length + g.length + i.length
 fix:=fun(_,b,c,d,e,f,g,i) (a,_,_,_,_,_,_,_)=>(a,b,c,d,e,f,g,i)
 σ:= [(0,0),(1,1),(2,2),(3,3),(4,4)]
 rd:=Nh
theorem adP:LoopOk prog (memN [64,65,66,67,68,7,71,72,73,74,75,76,77,78,79,82,83,84,85,86,87,88,89,90,8,91,92,93,94,95,96,97,98,99,100,2,80,81,69,70,6]) fg.F (ZA (bc f56 1) 0):=by
 refine Lp.ok (tbl:= (T3z [aX,vv,qH,lJ])) (lf:= []) aU fg (by kernel_rfl) (LOk.nil _) (fun _=>rfl) (fun j _=>by unfold fg;match j with | 0=>rfl | _ + 1=>rfl) ?_ ?_ ?_ ?_ (fun _=>rfl) ?_
 ·intro _;kernel_rfl
 ·intro _;kernel_rfl
 ·intro s x h
  have h:Nh s=some x:=h
  unfold Nh at h
  repeat' split at h
  all_goals cases h
  constructor<;>repeat(first|refine ab ‹_› rfl ?_|refine aa rfl ‹_› rfl ?_|rfl)
 ·intro _;kernel_rfl
 ·intro _ _;exact(And.intro (And.intro trivial rfl) trivial)
abbrev ut:=Int×aAi×aAi×List aAi×List aAi×List aAi×List (aAi×(List (Int×(aAi×Int))))
section
variable (a:Int)(b c:aAi)(d e f:List aAi)(g:aiJ)
def Tf:Int×Int×aAi×aAi×List aAi×List aAi×List aAi×aiK:=((0:Int),a,b,c,d,e,f,g)
def Uz:Bool:=ltI a (↑g.length:Int)
def abX:Bool:=Lp.fin fg (Tf a b c d e f g)
def UA:Bool:=Nat.beq ((Lp.res fg (Tf a b c d e f g)).1) 0
def abY:Int:=v5 .i64 (a + (1:Int))
end
def ai8:ut→List (Nat×SV)
 |(a,_,_,_,_,_,_)=> [(6,(aAm a)),(1,(aAl (.ptr 0 0)))]
def ai1:ut→List (Nat×Entry)
 |(_,a,b,c,d,e,f)=> [(0,(.box 27 [.val (.string a),.ref 1,.ref 2,.ref 3,.val (.string b),.ref 4])),(1,(aAn c)),(2,(aAn d)),(3,(aAn e)),(4,(aAs f))]
def ajm:Nat→ut→List (Nat×SV)
 |0,(_,_,_,_,_,_,_)=> [(2,(aAm 6))]
 |_,_=>[]
def EI:ut→LT ut
 |(a,b,c,d,e,f,g)=> .ite (Uz a g) (.need [abX a b c d e f g] (.ite (UA a b c d e f g) (.ext 0 [(0,0),(1,1),(2,2),(3,3),(4,4)]) (.nrm ((abY a),b,c,d,e,f,g) [(0,0),(1,1),(2,2),(3,3),(4,4)]))) (.ext 1 [(0,0),(1,1),(2,2),(3,3),(4,4)])
def SZ(s:St):Option ut:=do
 let some ⟨none,.one ⟨false,[.val (.int .i64 a)]⟩⟩:=s.look 6|none
 let some ⟨none,.one ⟨false,[.ptr 320 0]⟩⟩:=s.look 1|none
 let some (.box 27 [.val (.string b),.ref 0,.ref 1,.ref 2,.val (.string c),.ref 3]):=s.ent 320|none
 let some (.row false 9 (.str) d):=s.ent 0|none
 let some (.row false 9 (.str) e):=s.ent 1|none
 let some (.row false 9 (.str) f):=s.ent 2|none
 let some (.row false 91 (.pair .str (.sl 66 (.pair (.int .i64) (.pair .str (.int .i64))))) g):=s.ent 3|none
 some (a,b,c,d,e,f,g)
def fF:Lp ut where
 h:=⟨[64,65,66,67,68,7,71,72,73,74,75,76,77,78,79,82,83,84,85,86,87,88,89,90,8,91,92,93,94,95,96,97,98,99,100,2,80,81,69,70,6],[0,1,2,3,4],[],[]⟩
 JL:=ai8
 JE:=ai1
 XL:=ajm
 XE:=fun _=>ai1
 q:=fun j=>match j with | 0=> .ret | _=> .exit 2
 tags:= [0,1]
 lt:=EI
 fuel:=fun(a,b,c,d,e,f,g)=>a.natAbs + b.size + c.size + d.length + e.length + f.length + g.length
 fix:=fun(_,b,c,d,e,f,g) (a,_,_,_,_,_,_)=>(a,b,c,d,e,f,g)
 σ:= [(0,320),(1,0),(2,1),(3,2),(4,3)]
 rd:=SZ
theorem agY:LoopOk prog (fun k=>Nat.blt k Tryz.f56.ntmps) fF.F (bc f56 1):=by
 refine Lp.ok (tbl:= (T3z [aX,vv,qH,lJ])) (lf:= [fg.F]) aU fF (by kernel_rfl) (LOk.allT (l:= [ZA (bc f56 1) 0]) (by kernel_rfl) (.cons adP (.nil _))) (fun _=>rfl) (fun j _=>by unfold fF;match j with | 0=>rfl | _ + 1=>rfl) ?_ ?_ ?_ ?_ (fun _=>rfl) ?_
 ·intro _;kernel_rfl
 ·intro _;kernel_rfl
 ·intro s x h
  have h:SZ s=some x:=h
  unfold SZ at h
  repeat' split at h
  all_goals cases h
  constructor<;>repeat(first|refine ab ‹_› rfl ?_|refine aa rfl ‹_› rfl ?_|rfl)
 ·intro _;kernel_rfl
 ·intro _ _;exact(And.intro (And.intro trivial rfl) trivial)
def zA(a b c:List aAi):List aAi:=a++b++c
def CJ(a:aAi):Bool:=
 !ByteArray.toList a==ByteArray.toList { data:= #[] }
section
variable (a b:aAi)(c d e:List aAi)(f:aiK)
def Sr:List aAi×List aAi×List aAi×aiK:=(c,d,e,f)
def FF:Int×aAi×aAi×List aAi×List aAi×List aAi×List aAi×aiK:=((0:Int),a,b,[],Sr c d e f)
def Lk:Bool:=Nat.beq ((Lp.res eO (FF a b c d e f)).1) 0
def FG:List aAi:=((Lp.res eO (FF a b c d e f)).2.2.2.2).1
def Ss:Bool:=ltI (↑(k8 (FG a b c d e f)):Int) (v5 .i64 ((↑d.length:Int) + (↑e.length:Int)))
def Su:Int×aAi×aAi×List aAi×List aAi×List aAi×aiK:=((0:Int),a,b,Sr c d e f)
def TJ:Int:=bif vt (zA c d e)then(1:Int)else bif bif CJ b then !vk b c d else false then(2:Int)else bif Lk a b c d e f then(3:Int)else bif vt (FG a b c d e f)then(4:Int)else bif Ss a b c d e f then(5:Int)else bif Nat.beq ((Lp.res fF (Su a b c d e f)).1) 0 then(6:Int)else(0:Int)
def TK:Bool:=allT [leN (k8 c + k8 d + k8 e) 2000000,leN (k8 (zA c d e)) 9223372036854775807,vt (zA c d e)||(!(CJ b&&true)||GY b c d),vt (zA c d e)||((bif CJ b then !vk b c d else false)||Lp.fin eO (FF a b c d e f)),vt (zA c d e)||((bif CJ b then !vk b c d else false)||(Lk a b c d e f||leN (k8 (FG a b c d e f)) 9223372036854775807)),vt (zA c d e)||((bif CJ b then !vk b c d else false)||(Lk a b c d e f||(vt (FG a b c d e f)||(Ss a b c d e f||Lp.fin fF (Su a b c d e f)))))]
end
def afZ:aAj
 | [.one ⟨true,[.val (.string a),.ref 0,.ref 1,.ref 2,.val (.string b),.ref 3]⟩],[.row false 9 (.str) c,.row false 9 (.str) d,.row false 9 (.str) e,.row false 91 (.pair (.str) (.sl 66 (.pair (.int .i64) (.pair (.str) (.int .i64))))) f]=>some ⟨aAm (TJ a b c d e f),[aAn c,aAn d,aAn e,aAt f],[],[TK a b c d e f]⟩
 |_,_=>none
def ZD:PF prog:=PF.ofG prog (T3z [aX,vv,qH,lJ]) [eO.F,fF.F] aU 56 f56 func56 (LOk.fnT (l:= [bc f56 0,bc f56 1]) (by kernel_rfl) (.cons agX (.cons agY (.nil _)))) afZ (by
 intro _ _ _ h;unfold afZ at h;split at h<;>cases h;kernel_rfl)
def abv(a b:aAi)(c d e:List aAi)(f:aiK):Bool:=bif Lf a b c d e f then TJ a b c d e f==0 else false
def abw(a b:aAi)(c d e:List aAi)(f:aiK):Bool:=allT [Sp a b c d e f,!(Lf a b c d e f&&true)||TK a b c d e f]
def ag9:aAj
 | [.one ⟨true,[.val (.string a),.ref 0,.ref 1,.ref 2,.val (.string b),.ref 3]⟩],[.row false 9 (.str) c,.row false 9 (.str) d,.row false 9 (.str) e,.row false 91 (.pair (.str) (.sl 66 (.pair (.int .i64) (.pair (.str) (.int .i64))))) f]=>some ⟨aAl (.val (.bool (abv a b c d e f))),[aAn c,aAn d,aAn e,aAt f],[],[abw a b c d e f]⟩
 |_,_=>none
def ap1:PF prog:=PF.ofG prog (T3z [XQ,ZD]) [] aU 23 f23 func23 (fun c _=>LOk.nil c) ag9 (by
 intro _ _ _ h;unfold ag9 at h;split at h<;>cases h;kernel_rfl)
def KW(a:aoQ):Bool:=ltI 40 (↑a.length:Int)
def yU:aAj
 | [.one ⟨true,[.val (.string _x0),.ref 0]⟩],[.row false 66 (.pair (.int .i64) (.pair (.str) (.int .i64))) a]=>some ⟨aAl (.val (.bool (KW a))),[aAp a],[],[]⟩
 |_,_=>none
def qO:PF prog:=PF.ofG prog [] [] aU 126 f126 func126 (fun c _=>LOk.nil c) yU (by
 intro _ _ _ h;unfold yU at h;split at h<;>cases h;kernel_rfl)
def dG(a:aoQ):Bool:=ltI 40 (↑a.length:Int)
def ur:aAj
 | [.one ⟨true,[.val (.string _x0),.ref 0]⟩],[.row false 66 (.pair (.int .i64) (.pair .str (.int .i64))) a]=>some ⟨aAl (.val (.bool (dG a))),[aAp a],[],[]⟩
 |_,_=>none
def dH:PF prog:=PF.ofG prog [] [] aU 126 f126 func126 (fun c _=>LOk.nil c) ur (by
 intro _ _ _ h;unfold ur at h;split at h<;>cases h;kernel_rfl)
abbrev cz:=Int×Int×List (aAi×(List (Int×(aAi×Int))))
section
variable (a b:Int)(c:aiJ)
def lb:Bool:=ltI a b
def pX:Bool:=leI 0 a
def pY:Bool:=ltI a (↑c.length:Int)
def pZ:Bool:=ltN a.toNat c.length
def ia:Bool:=dG ((k9 c[k7 a]? (vB aaP)).2)
def vW:Int:=v5 .i64 (a + (1:Int))
end
def Qv:cz→List (Nat×SV)
 |(a,b,_)=> [(8,(aAm a)),(7,(aAm b)),(1,(aAl (.val (.func (.func 126) ⟨[]⟩ ⟨[]⟩)))),(0,(aAl (.ref 0)))]
def Qp:cz→List (Nat×Entry)
 |(_,_,a)=> [(0,(aAs a))]
def QI:Nat→cz→List (Nat×SV)
 |0,(a,_,_)=> [(4,(aAm a))]
 |_,_=>[]
def kC:cz→LT cz
 |(a,b,c)=> .ite (lb a b) (.need [pX a,pY a c,pZ a c] (.ite (ia a c) (.ext 0 [(0,0)]) (.nrm ((vW a),b,c) [(0,0)]))) (.ext 1 [(0,0)])
def uH(s:St):Option cz:=do
 let some ⟨none,.one ⟨false,[.val (.int .i64 a)]⟩⟩:=s.look 8|none
 let some ⟨none,.one ⟨false,[.val (.int .i64 b)]⟩⟩:=s.look 7|none
 let some ⟨none,.one ⟨false,[.val (.func (.func 126) ⟨[]⟩ ⟨[]⟩)]⟩⟩:=s.look 1|none
 let some ⟨none,.one ⟨false,[.ref 0]⟩⟩:=s.look 0|none
 let some (.row false 91 (.pair .str (.sl 66 (.pair (.int .i64) (.pair .str (.int .i64))))) c):=s.ent 0|none
 some (a,b,c)
def aH:Lp cz where
 h:=⟨[9,10,5,11,12,13,14,15,16,17,4,18,8],[0],[],[]⟩
 JL:=Qv
 JE:=Qp
 XL:=QI
 XE:=fun _=>Qp
 q:=fun j=>match j with | 0=> .ret | _=> .exit 0
 tags:= [0,1]
 lt:=kC
 fuel:=fun(a,b,c)=>a.natAbs + b.natAbs + c.length
 fix:=fun(_,b,c) (a,_,_)=>(a,b,c)
 σ:= [(0,0)]
 rd:=uH
theorem OH:LoopOk prog (fun k=>Nat.blt k Tryz.f127.ntmps) aH.F (bc f127 0):=by
 refine Lp.ok (tbl:= (T3z [dH])) (lf:= []) aU aH (by kernel_rfl) (LOk.nil _) (fun _=>rfl) (fun j _=>by unfold aH;match j with | 0=>rfl | _ + 1=>rfl) ?_ ?_ ?_ ?_ (fun _=>rfl) ?_
 ·intro _;kernel_rfl
 ·intro _;kernel_rfl
 ·intro s x h
  have h:uH s=some x:=h
  unfold uH at h
  repeat' split at h
  all_goals cases h
  constructor<;>repeat(first|refine ab ‹_› rfl ?_|refine aa rfl ‹_› rfl ?_|rfl)
 ·intro _;kernel_rfl
 ·intro _ _;exact(And.intro (And.intro trivial rfl) trivial)
section
variable (a:aiK)
def qY:Int×Int×aiK:=((0:Int),(↑a.length:Int),a)
def yG:Int:=bif Nat.beq ((Lp.res aH (qY a)).1) 0 then ((Lp.res aH (qY a)).2).1else(-1:Int)
def yH:Bool:=allT [Lp.fin aH (qY a)]
end
def FL:aAj
 | [.one ⟨false,[.ref 0]⟩,.one ⟨false,[.val (.func (.func 126) ⟨[]⟩ ⟨[]⟩)]⟩],[.row false 91 (.pair .str (.sl 66 (.pair (.int .i64) (.pair .str (.int .i64))))) a]=>some ⟨aAm (yG a),[aAs a],[],[yH a]⟩
 |_,_=>none
def yA:PF prog:=PF.ofG prog (T3z [dH]) [aH.F] aU 127 f127 func127 (LOk.fnT (l:= [bc f127 0]) (by kernel_rfl) (.cons OH (.nil _))) FL (by
 intro _ _ _ h;unfold FL at h;split at h<;>cases h;kernel_rfl)
def vR(a:aiK):Bool:=leI 0 (yG a)
def vS(a:aiK):Bool:=allT [yH a]
def DY:aAj
 | [.one ⟨false,[.ref 0]⟩,.one ⟨false,[.val (.func (.func 126) ⟨[]⟩ ⟨[]⟩)]⟩],[.row false 91 (.pair .str (.sl 66 (.pair (.int .i64) (.pair .str (.int .i64))))) a]=>some ⟨aAl (.val (.bool (vR a))),[aAs a],[],[vS a]⟩
 |_,_=>none
def vH:PF prog:=PF.ofG prog (T3z [yA]) [] aU 83 f83 func83 (fun c _=>LOk.nil c) DY (by
 intro _ _ _ h;unfold DY at h;split at h<;>cases h;kernel_rfl)
section
variable (a b c:List aAi)(d:aiK)
def rl:Bool:=bif bif bif leI (↑a.length:Int) 20 then leI (↑b.length:Int) 20 else false then leI (↑c.length:Int) 20 else false then leI (↑d.length:Int) 40 else false
def mn:Bool:=bif rl a b c d then !vR d else false
def mo:Bool:=allT [!(rl a b c d&&true)||vS d]
end
def Ae:aAj
 | [.one ⟨true,[.val (.string _x0),.ref 0,.ref 1,.ref 2,.val (.string _x1),.ref 3]⟩],[.row false 9 (.str) a,.row false 9 (.str) b,.row false 9 (.str) c,.row false 91 (.pair (.str) (.sl 66 (.pair (.int .i64) (.pair (.str) (.int .i64))))) d]=>some ⟨aAl (.val (.bool (mn a b c d))),[aAn a,aAn b,aAn c,aAt d],[],[mo a b c d]⟩
 |_,_=>none
def rM:PF prog:=PF.ofG prog (T3z [qO,vH]) [] aU 82 f82 func82 (fun c _=>LOk.nil c) Ae (by
 intro _ _ _ h;unfold Ae at h;split at h<;>cases h;kernel_rfl)
def akO(a:aAi)(b:aoQ):Bool:= !lineB (a,b)
def akP(a:aoQ):Bool:=allT [aaf a]
def aax:aAj
 | [.one ⟨true,[.val (.string a),.ref 0]⟩],[.row false 66 (.pair (.int .i64) (.pair (.str) (.int .i64))) b]=>some ⟨aAl (.val (.bool (akO a b))),[aAp b],[],[akP b]⟩
 |_,_=>none
def Uk:PF prog:=PF.ofG prog (T3z [Oc]) [] aU 84 f84 func84 (fun c _=>LOk.nil c) aax (by
 intro _ _ _ h;unfold aax at h;split at h<;>cases h;kernel_rfl)
def CZ(a:aAi)(b:aoQ):Bool:= !lineB (a,b)
def IY(a:aoQ):Bool:=allT [aaf a]
def Ti:aAj
 | [.one ⟨true,[.val (.string a),.ref 0]⟩],[.row false 66 (.pair (.int .i64) (.pair .str (.int .i64))) b]=>some ⟨aAl (.val (.bool (CZ a b))),[aAp b],[],[IY b]⟩
 |_,_=>none
def sJ:PF prog:=PF.ofG prog (T3z [Oc]) [] aU 84 f84 func84 (fun c _=>LOk.nil c) Ti (by
 intro _ _ _ h;unfold Ti at h;split at h<;>cases h;kernel_rfl)
abbrev cA:=Int×Int×List (aAi×(List (Int×(aAi×Int))))
section
variable (a b:Int)(c:aiJ)
def dg:aAi×aoQ:=k9 c[k7 a]? (vB aaP)
def lc:Bool:=ltI a b
def qa:Bool:=leI 0 a
def qb:Bool:=ltI a (↑c.length:Int)
def qc:Bool:=ltN a.toNat c.length
def ld:Bool:=IY ((dg a c).2)
def le:Bool:=CZ ((dg a c).1) ((dg a c).2)
def vX:Int:=v5 .i64 (a + (1:Int))
end
def Qw:cA→List (Nat×SV)
 |(a,b,_)=> [(8,(aAm a)),(7,(aAm b)),(1,(aAl (.val (.func (.func 84) ⟨[]⟩ ⟨[]⟩)))),(0,(aAl (.ref 0)))]
def Qq:cA→List (Nat×Entry)
 |(_,_,a)=> [(0,(aAs a))]
def QJ:Nat→cA→List (Nat×SV)
 |0,(a,_,_)=> [(4,(aAm a))]
 |_,_=>[]
def kD:cA→LT cA
 |(a,b,c)=> .ite (lc a b) (.need [qa a,qb a c,qc a c,ld a c] (.ite (le a c) (.ext 0 [(0,0)]) (.nrm ((vX a),b,c) [(0,0)]))) (.ext 1 [(0,0)])
def uI(s:St):Option cA:=do
 let some ⟨none,.one ⟨false,[.val (.int .i64 a)]⟩⟩:=s.look 8|none
 let some ⟨none,.one ⟨false,[.val (.int .i64 b)]⟩⟩:=s.look 7|none
 let some ⟨none,.one ⟨false,[.val (.func (.func 84) ⟨[]⟩ ⟨[]⟩)]⟩⟩:=s.look 1|none
 let some ⟨none,.one ⟨false,[.ref 0]⟩⟩:=s.look 0|none
 let some (.row false 91 (.pair .str (.sl 66 (.pair (.int .i64) (.pair .str (.int .i64))))) c):=s.ent 0|none
 some (a,b,c)
def aI:Lp cA where
 h:=⟨[9,10,5,11,12,13,14,15,16,17,4,18,8],[0],[],[]⟩
 JL:=Qw
 JE:=Qq
 XL:=QJ
 XE:=fun _=>Qq
 q:=fun j=>match j with | 0=> .ret | _=> .exit 0
 tags:= [0,1]
 lt:=kD
 fuel:=fun(a,b,c)=>a.natAbs + b.natAbs + c.length
 fix:=fun(_,b,c) (a,_,_)=>(a,b,c)
 σ:= [(0,0)]
 rd:=uI
theorem OI:LoopOk prog (fun k=>Nat.blt k Tryz.f127.ntmps) aI.F (bc f127 0):=by
 refine Lp.ok (tbl:= (T3z [sJ])) (lf:= []) aU aI (by kernel_rfl) (LOk.nil _) (fun _=>rfl) (fun j _=>by unfold aI;match j with | 0=>rfl | _ + 1=>rfl) ?_ ?_ ?_ ?_ (fun _=>rfl) ?_
 ·intro _;kernel_rfl
 ·intro _;kernel_rfl
 ·intro s x h
  have h:uI s=some x:=h
  unfold uI at h
  repeat' split at h
  all_goals cases h
  constructor<;>repeat(first|refine ab ‹_› rfl ?_|refine aa rfl ‹_› rfl ?_|rfl)
 ·intro _;kernel_rfl
 ·intro _ _;exact(And.intro (And.intro trivial rfl) trivial)
section
variable (a:aiK)
def qZ:Int×Int×aiK:=((0:Int),(↑a.length:Int),a)
def yI:Int:=bif Nat.beq ((Lp.res aI (qZ a)).1) 0 then ((Lp.res aI (qZ a)).2).1else(-1:Int)
def yJ:Bool:=allT [Lp.fin aI (qZ a)]
end
def FM:aAj
 | [.one ⟨false,[.ref 0]⟩,.one ⟨false,[.val (.func (.func 84) ⟨[]⟩ ⟨[]⟩)]⟩],[.row false 91 (.pair .str (.sl 66 (.pair (.int .i64) (.pair .str (.int .i64))))) a]=>some ⟨aAm (yI a),[aAs a],[],[yJ a]⟩
 |_,_=>none
def yB:PF prog:=PF.ofG prog (T3z [sJ]) [aI.F] aU 127 f127 func127 (LOk.fnT (l:= [bc f127 0]) (by kernel_rfl) (.cons OI (.nil _))) FM (by
 intro _ _ _ h;unfold FM at h;split at h<;>cases h;kernel_rfl)
def pS(a:aiK):Bool:=leI 0 (yI a)
def pT(a:aiK):Bool:=allT [yJ a]
def DZ:aAj
 | [.one ⟨false,[.ref 0]⟩,.one ⟨false,[.val (.func (.func 84) ⟨[]⟩ ⟨[]⟩)]⟩],[.row false 91 (.pair .str (.sl 66 (.pair (.int .i64) (.pair .str (.int .i64))))) a]=>some ⟨aAl (.val (.bool (pS a))),[aAs a],[],[pT a]⟩
 |_,_=>none
def vI:PF prog:=PF.ofG prog (T3z [yB]) [] aU 83 f83 func83 (fun c _=>LOk.nil c) DZ (by
 intro _ _ _ h;unfold DZ at h;split at h<;>cases h;kernel_rfl)
def HV(a:aAi)(b c d:List aAi):arh:=bif ox a&&true then [b,c,d]else []
def PR(a:aAi)(b c d:List aAi):List aAi:=bif ox a&&true then List.flatten (HV a b c d)else []
def VE(a b:aAi)(c d e:List aAi)(f:aiK):Bool:=
 bif
  bif
    bif
      bif bif ox a then List.all (PR a c d e) pB else false then
       bif ByteArray.toList b==ByteArray.toList { data:= #[] } then true else ox b
      else false then
     ltI (0:Int) (↑c.length:Int)
    else false then
   ltI (0:Int) (↑e.length:Int)
  else false then
 ltI (0:Int) (↑f.length:Int)
 else false
section
variable (a b:aAi)(c d e:List aAi)(f:aiK)
def VF:Bool:=bif VE a b c d e f then mn c d e f else false
def KI:Bool:=bif VF a b c d e f then !pS f else false
def RQ:Bool:=allT [!(ox a&&true)||leN (k8 (HV a c d e)) 1000&&leN (NV (HV a c d e)) 2000000,!(ox a&&true)||leN (k8 (PR a c d e)) 9223372036854775807,!(VE a b c d e f&&true)||mo c d e f,!(VF a b c d e f&&true)||pT f]
end
def ad7:aAj
 | [.one ⟨true,[.val (.string a),.ref 0,.ref 1,.ref 2,.val (.string b),.ref 3]⟩],[.row false 9 (.str) c,.row false 9 (.str) d,.row false 9 (.str) e,.row false 91 (.pair (.str) (.sl 66 (.pair (.int .i64) (.pair (.str) (.int .i64))))) f]=>some ⟨aAl (.val (.bool (KI a b c d e f))),[aAn c,aAn d,aAn e,aAt f],[],[RQ a b c d e f]⟩
 |_,_=>none
def XN:PF prog:=PF.ofG prog (T3z [Ts,ZB,dq,rM,Uk,vI]) [] aU 50 f50 func50 (fun c _=>LOk.nil c) ad7 (by
 intro _ _ _ h;unfold ad7 at h;split at h<;>cases h;kernel_rfl)
section
variable (a b c:List aAi)
def iL:arh:= [a,b,c]
def bE:List aAi:=List.flatten (iL a b c)
def nG:Bool:=allT [leN (k8 (iL a b c)) 1000&&leN (NV (iL a b c)) 2000000]
end
def BA:aAj
 | [.one ⟨true,[.val (.string _x0),.ref 0,.ref 1,.ref 2,.val (.string _x1),.ref 3]⟩],[.row false 9 (.str) a,.row false 9 (.str) b,.row false 9 (.str) c,.row false 91 (.pair (.str) (.sl 66 (.pair (.int .i64) (.pair (.str) (.int .i64))))) d]=>some ⟨aAl (.ref 4),[aAn a,aAn b,aAn c,aAt d],[aAr (bE a b c)],[nG a b c]⟩
 |_,_=>none
def fY:PF prog:=PF.ofG prog (T3z [dq]) [] aU 87 f87 func87 (fun c _=>LOk.nil c) BA (by
 intro _ _ _ h;unfold BA at h;split at h<;>cases h;kernel_rfl)
section
variable (a:Int)(b:aAi)(c d:List aAi)
def rX:Bool:=bif a==1 then !lY c b else false
def sg:Bool:=bif rX a b c then !lY d b else false
def si:Bool:=allT [!(a==1&&true)||leN c.length (9223372036854775807:Nat),!(rX a b c&&true)||leN d.length (9223372036854775807:Nat)]
end
def rZ:aAj
 | [.one ⟨true,[.val (.int .i64 a),.val (.string b),.val (.int .i64 _x2)]⟩,.one ⟨false,[.ptr 0 0]⟩],[.box 27 [.val (.string c),.ref 1,.ref 2,.ref 3,.val (.string d),.ref 4],.row false 9 (.str) e,.row false 9 (.str) f,.row false 9 (.str) g,.row false 91 (.pair .str (.sl 66 (.pair (.int .i64) (.pair .str (.int .i64))))) i]=>some ⟨aAl (.val (.bool (sg a b e f))),[.box 27 [.val (.string c),.ref 1,.ref 2,.ref 3,.val (.string d),.ref 4],aAn e,aAn f,aAn g,aAs i],[],[si a b e f]⟩
 |_,_=>none
def dd:PF prog:=PF.ofG prog (T3z [aO]) [] aU 130 f130 func130 (fun c _=>LOk.nil c) rZ (by
 intro _ _ _ h;unfold rZ at h;split at h<;>cases h;kernel_rfl)
abbrev ek:=Int×Int×aAi×aAi×List (Int×(aAi×Int))×List aAi×List aAi×List aAi×List (aAi×(List (Int×(aAi×Int))))
section
variable (a b:Int)(c:aor)(d e:List aAi)
def pj:Int×aAi×Int:=k9 c[k7 a]? ((0:Int),ByteArray.empty,(0:Int))
def Sh:Bool:=ltI a b
def Si:Bool:=leI 0 a
def Sj:Bool:=ltI a (↑c.length:Int)
def Sk:Bool:=ltN a.toNat c.length
def Sl:Bool:=si ((pj a c).1) (((pj a c).2).1) d e
def Sm:Bool:=sg ((pj a c).1) (((pj a c).2).1) d e
def Sn:Int:=v5 .i64 (a + (1:Int))
end
def Qz:ek→List (Nat×SV)
 |(a,b,_,_,_,_,_,_,_)=> [(8,(aAm a)),(7,(aAm b)),(1,(aAl (.clo 130 [0]))),(0,(aAl (.ref 1)))]
def Qt:ek→List (Nat×Entry)
 |(_,_,a,b,c,d,e,f,g)=> [(0,(.box 27 [.val (.string a),.ref 2,.ref 3,.ref 4,.val (.string b),.ref 5])),(1,(aAp c)),(2,(aAn d)),(3,(aAn e)),(4,(aAn f)),(5,(aAs g))]
def QM:Nat→ek→List (Nat×SV)
 |0,(a,_,_,_,_,_,_,_,_)=> [(4,(aAm a))]
 |_,_=>[]
def QZ:ek→LT ek
 |(a,b,c,d,e,f,g,i,j)=> .ite (Sh a b) (.need [Si a,Sj a e,Sk a e,Sl a e f g] (.ite (Sm a e f g) (.ext 0 [(0,0),(1,1),(2,2),(3,3),(4,4),(5,5)]) (.nrm ((Sn a),b,c,d,e,f,g,i,j) [(0,0),(1,1),(2,2),(3,3),(4,4),(5,5)]))) (.ext 1 [(0,0),(1,1),(2,2),(3,3),(4,4),(5,5)])
def uL(s:St):Option ek:=do
 let some ⟨none,.one ⟨false,[.val (.int .i64 a)]⟩⟩:=s.look 8|none
 let some ⟨none,.one ⟨false,[.val (.int .i64 b)]⟩⟩:=s.look 7|none
 let some ⟨none,.one ⟨false,[.clo 130 [1]]⟩⟩:=s.look 1|none
 let some ⟨none,.one ⟨false,[.ref 0]⟩⟩:=s.look 0|none
 let some (.box 27 [.val (.string c),.ref 2,.ref 3,.ref 4,.val (.string d),.ref 5]):=s.ent 1|none
 let some (.row false 66 (.pair (.int .i64) (.pair .str (.int .i64))) e):=s.ent 0|none
 let some (.row false 9 (.str) f):=s.ent 2|none
 let some (.row false 9 (.str) g):=s.ent 3|none
 let some (.row false 9 (.str) i):=s.ent 4|none
 let some (.row false 91 (.pair .str (.sl 66 (.pair (.int .i64) (.pair .str (.int .i64))))) j):=s.ent 5|none
 some (a,b,c,d,e,f,g,i,j)
def eP:Lp ek where
 h:=⟨[9,10,5,11,12,13,14,15,16,17,4,18,8],[0,1,2,3,4,5],[],[]⟩
 JL:=Qz
 JE:=Qt
 XL:=QM
 XE:=fun _=>Qt
 q:=fun j=>match j with | 0=> .ret | _=> .exit 0
 tags:= [0,1]
 lt:=QZ
 fuel:=fun(a,b,c,d,e,f,g,i,k)=>a.natAbs + b.natAbs + c.size + d.size + e.length + f.length + g.length + i.length + k.length
 fix:=fun(_,b,c,d,e,f,g,i,k) (a,_,_,_,_,_,_,_,_)=>(a,b,c,d,e,f,g,i,k)
 σ:= [(0,1),(1,0),(2,2),(3,3),(4,4),(5,5)]
 rd:=uL
theorem OL:LoopOk prog (fun k=>Nat.blt k Tryz.f67.ntmps) eP.F (bc f67 0):=by
 refine Lp.ok (tbl:= (T3z [dd])) (lf:= []) aU eP (by kernel_rfl) (LOk.nil _) (fun _=>rfl) (fun j _=>by unfold eP;match j with | 0=>rfl | _ + 1=>rfl) ?_ ?_ ?_ ?_ (fun _=>rfl) ?_
 ·intro _;kernel_rfl
 ·intro _;kernel_rfl
 ·intro s x h
  have h:uL s=some x:=h
  unfold uL at h
  repeat' split at h
  all_goals cases h
  constructor<;>repeat(first|refine ab ‹_› rfl ?_|refine aa rfl ‹_› rfl ?_|rfl)
 ·intro _;kernel_rfl
 ·intro _ _;exact(And.intro (And.intro trivial rfl) trivial)
section
variable (a:aoQ)(b c:aAi)(d e f:List aAi)(g:aiK)
def yc:Int×Int×aAi×aAi×aoQ×List aAi×List aAi×List aAi×aiK:=((0:Int),(↑a.length:Int),b,c,a,d,e,f,g)
def yf:Bool:=Nat.beq ((Lp.res eP (yc a b c d e f g)).1) 0
def Gx:Int:=bif yf a b c d e f g then ((Lp.res eP (yc a b c d e f g)).2).1else(-1:Int)
def Gy:aAi:=bif yf a b c d e f g then b else b
def Gz:aAi:=bif yf a b c d e f g then c else c
def GA:Bool:=allT [Lp.fin eP (yc a b c d e f g)]
end
def FP:aAj
 | [.one ⟨false,[.ref 0]⟩,.one ⟨false,[.clo 130 [1]]⟩],[.row false 66 (.pair (.int .i64) (.pair .str (.int .i64))) a,.box 27 [.val (.string b),.ref 2,.ref 3,.ref 4,.val (.string c),.ref 5],.row false 9 (.str) d,.row false 9 (.str) e,.row false 9 (.str) f,.row false 91 (.pair .str (.sl 66 (.pair (.int .i64) (.pair .str (.int .i64))))) g]=>some ⟨aAm (Gx a b c d e f g),[aAp a,.box 27 [.val (.string (Gy a b c d e f g)),.ref 2,.ref 3,.ref 4,.val (.string (Gz a b c d e f g)),.ref 5],aAn d,aAn e,aAn f,aAs g],[],[GA a b c d e f g]⟩
 |_,_=>none
def yE:PF prog:=PF.ofG prog (T3z [dd]) [eP.F] aU 67 f67 func67 (LOk.fnT (l:= [bc f67 0]) (by kernel_rfl) (.cons OL (.nil _))) FP (by
 intro _ _ _ h;unfold FP at h;split at h<;>cases h;kernel_rfl)
section
variable (a:aoQ)(b c:aAi)(d e f:List aAi)(g:aiK)
def El:Bool:=leI 0 (Gx a b c d e f g)
def Sd:aAi:=Gy a b c d e f g
def Se:aAi:=Gz a b c d e f g
def Em:Bool:=allT [GA a b c d e f g]
end
def Ec:aAj
 | [.one ⟨false,[.ref 0]⟩,.one ⟨false,[.clo 130 [1]]⟩],[.row false 66 (.pair (.int .i64) (.pair .str (.int .i64))) a,.box 27 [.val (.string b),.ref 2,.ref 3,.ref 4,.val (.string c),.ref 5],.row false 9 (.str) d,.row false 9 (.str) e,.row false 9 (.str) f,.row false 91 (.pair .str (.sl 66 (.pair (.int .i64) (.pair .str (.int .i64))))) g]=>some ⟨aAl (.val (.bool (El a b c d e f g))),[aAp a,.box 27 [.val (.string (Sd a b c d e f g)),.ref 2,.ref 3,.ref 4,.val (.string (Se a b c d e f g)),.ref 5],aAn d,aAn e,aAn f,aAs g],[],[Em a b c d e f g]⟩
 |_,_=>none
def vK:PF prog:=PF.ofG prog (T3z [yE]) [] aU 33 f33 func33 (fun c _=>LOk.nil c) Ec (by
 intro _ _ _ h;unfold Ec at h;split at h<;>cases h;kernel_rfl)
def IZ(a b:aAi)(c d e:List aAi)(f:aiK)(g:aoQ):Bool:=El g a b c d e f
def Ja(a b:aAi)(c d e:List aAi)(f:aiK)(g:aoQ):Bool:=allT [Em g a b c d e f]
def xY:aAj
 | [.one ⟨true,[.val (.string a),.ref 0,.ref 1,.ref 2,.val (.string b),.ref 3]⟩,.one ⟨true,[.val (.string _x2),.ref 4]⟩],[.row false 9 (.str) c,.row false 9 (.str) d,.row false 9 (.str) e,.row false 91 (.pair (.str) (.sl 66 (.pair (.int .i64) (.pair (.str) (.int .i64))))) f,.row false 66 (.pair (.int .i64) (.pair (.str) (.int .i64))) g]=>some ⟨aAl (.val (.bool (IZ a b c d e f g))),[aAn c,aAn d,aAn e,aAt f,aAp g],[],[Ja a b c d e f g]⟩
 |_,_=>none
def et:PF prog:=PF.ofG prog (T3z [vK]) [] aU 92 f92 func92 (fun c _=>LOk.nil c) xY (by
 intro _ _ _ h;unfold xY at h;split at h<;>cases h;kernel_rfl)
def oR(a:aAi)(b:List aAi):Bool:= !lY b a
def oS(a:List aAi):Bool:=allT [leN a.length (9223372036854775807:Nat)]
def wG:aAj
 | [.one ⟨false,[.val (.string a)]⟩,.one ⟨false,[.ptr 0 0]⟩],[.box 24 [.ref 1],.row true 9 (.str) b]=>some ⟨aAl (.val (.bool (oR a b))),[.box 24 [.ref 1],aAr b],[],[oS b]⟩
 |_,_=>none
def ee:PF prog:=PF.ofG prog (T3z [aO]) [] aU 90 f90 func90 (fun c _=>LOk.nil c) wG (by
 intro _ _ _ h;unfold wG at h;split at h<;>cases h;kernel_rfl)
abbrev bQ:=Int×Int×List aAi×List aAi
section
variable (a b:Int)(c d:List aAi)
def iT:Bool:=ltI a b
def iU:Bool:=leI 0 a
def iV:Bool:=ltI a (↑c.length:Int)
def iW:Bool:=ltN a.toNat c.length
def fA:Bool:=oS d
def iX:Bool:=oR (k9 c[k7 a]? ByteArray.empty) d
def mY:Int:=v5 .i64 (a + (1:Int))
end
def Mt:bQ→List (Nat×SV)
 |(a,b,_,_)=> [(8,(aAm a)),(7,(aAm b)),(1,(aAl (.clo 90 [0]))),(0,(aAl (.ref 1)))]
def Mp:bQ→List (Nat×Entry)
 |(_,_,a,b)=> [(0,(.box 24 [.ref 2])),(1,(aAr a)),(2,(aAr b))]
def Mz:Nat→bQ→List (Nat×SV)
 |0,(a,_,_,_)=> [(4,(aAm a))]
 |_,_=>[]
def iy:bQ→LT bQ
 |(a,b,c,d)=> .ite (iT a b) (.need [iU a,iV a c,iW a c,fA d] (.ite (iX a c d) (.ext 0 [(0,0),(1,1),(2,2)]) (.nrm ((mY a),b,c,d) [(0,0),(1,1),(2,2)]))) (.ext 1 [(0,0),(1,1),(2,2)])
def rR(s:St):Option bQ:=do
 let some ⟨none,.one ⟨false,[.val (.int .i64 a)]⟩⟩:=s.look 8|none
 let some ⟨none,.one ⟨false,[.val (.int .i64 b)]⟩⟩:=s.look 7|none
 let some ⟨none,.one ⟨false,[.clo 90 [1]]⟩⟩:=s.look 1|none
 let some ⟨none,.one ⟨false,[.ref 0]⟩⟩:=s.look 0|none
 let some (.box 24 [.ref 2]):=s.ent 1|none
 let some (.row true 9 (.str) c):=s.ent 0|none
 let some (.row true 9 (.str) d):=s.ent 2|none
 some (a,b,c,d)
def ao:Lp bQ where
 h:=⟨[9,10,5,11,12,13,14,15,16,17,4,18,8],[0,1,2],[],[]⟩
 JL:=Mt
 JE:=Mp
 XL:=Mz
 XE:=fun _=>Mp
 q:=fun j=>match j with | 0=> .ret | _=> .exit 0
 tags:= [0,1]
 lt:=iy
 fuel:=fun(a,b,c,d)=>a.natAbs + b.natAbs + c.length + d.length
 fix:=fun(_,b,c,d) (a,_,_,_)=>(a,b,c,d)
 σ:= [(0,1),(1,0),(2,2)]
 rd:=rR
theorem KY:LoopOk prog (fun k=>Nat.blt k Tryz.f129.ntmps) ao.F (bc f129 0):=by
 refine Lp.ok (tbl:= (T3z [ee])) (lf:= []) aU ao (by kernel_rfl) (LOk.nil _) (fun _=>rfl) (fun j _=>by unfold ao;match j with | 0=>rfl | _ + 1=>rfl) ?_ ?_ ?_ ?_ (fun _=>rfl) ?_
 ·intro _;kernel_rfl
 ·intro _;kernel_rfl
 ·intro s x h
  have h:rR s=some x:=h
  unfold rR at h
  repeat' split at h
  all_goals cases h
  constructor<;>repeat(first|refine ab ‹_› rfl ?_|refine aa rfl ‹_› rfl ?_|rfl)
 ·intro _;kernel_rfl
 ·intro _ _;exact(And.intro (And.intro trivial rfl) trivial)
section
variable (a b:List aAi)
def jX:Int×Int×List aAi×List aAi:=((0:Int),(↑a.length:Int),a,b)
def oN:Bool:=Nat.beq ((Lp.res ao (jX a b)).1) 0
def uP:Int:=bif oN a b then ((Lp.res ao (jX a b)).2).1else(-1:Int)
def Dw:List aAi:=bif oN a b then a else a
def Dx:List aAi:=bif oN a b then b else b
def uQ:Bool:=allT [Lp.fin ao (jX a b)]
end
def Dj:aAj
 | [.one ⟨false,[.ref 0]⟩,.one ⟨false,[.clo 90 [1]]⟩],[.row true 9 (.str) a,.box 24 [.ref 2],.row true 9 (.str) b]=>some ⟨aAm (uP a b),[aAr (Dw a b),.box 24 [.ref 2],aAr (Dx a b)],[],[uQ a b]⟩
 |_,_=>none
def uA:PF prog:=PF.ofG prog (T3z [ee]) [ao.F] aU 129 f129 func129 (LOk.fnT (l:= [bc f129 0]) (by kernel_rfl) (.cons KY (.nil _))) Dj (by
 intro _ _ _ h;unfold Dj at h;split at h<;>cases h;kernel_rfl)
section
variable (a b:List aAi)
def ep:Bool:=leI 0 (uP a b)
def dr:List aAi:=Dw a b
def mU:List aAi:=Dx a b
def mV:Bool:=allT [uQ a b]
end
def Bg:aAj
 | [.one ⟨false,[.ref 0]⟩,.one ⟨false,[.clo 90 [1]]⟩],[.row true 9 (.str) a,.box 24 [.ref 2],.row true 9 (.str) b]=>some ⟨aAl (.val (.bool (ep a b))),[aAr (dr a b),.box 24 [.ref 2],aAr (mU a b)],[],[mV a b]⟩
 |_,_=>none
def fw:PF prog:=PF.ofG prog (T3z [uA]) [] aU 89 f89 func89 (fun c _=>LOk.nil c) Bg (by
 intro _ _ _ h;unfold Bg at h;split at h<;>cases h;kernel_rfl)
def oT(a:aAi)(b:List aAi):Bool:= !lY b a
def oU(a:List aAi):Bool:=allT [leN a.length (9223372036854775807:Nat)]
def wH:aAj
 | [.one ⟨false,[.val (.string a)]⟩,.one ⟨false,[.ptr 0 0]⟩],[.box 24 [.ref 1],.row true 9 (.str) b]=>some ⟨aAl (.val (.bool (oT a b))),[.box 24 [.ref 1],aAr b],[],[oU b]⟩
 |_,_=>none
def ef:PF prog:=PF.ofG prog (T3z [aO]) [] aU 91 f91 func91 (fun c _=>LOk.nil c) wH (by
 intro _ _ _ h;unfold wH at h;split at h<;>cases h;kernel_rfl)
abbrev bR:=Int×Int×List aAi×List aAi
section
variable (a b:Int)(c d:List aAi)
def iY:Bool:=ltI a b
def iZ:Bool:=leI 0 a
def ja:Bool:=ltI a (↑c.length:Int)
def jb:Bool:=ltN a.toNat c.length
def fB:Bool:=oU d
def je:Bool:=oT (k9 c[k7 a]? ByteArray.empty) d
def mZ:Int:=v5 .i64 (a + (1:Int))
end
def Mu:bR→List (Nat×SV)
 |(a,b,_,_)=> [(8,(aAm a)),(7,(aAm b)),(1,(aAl (.clo 91 [0]))),(0,(aAl (.ref 1)))]
def Mq:bR→List (Nat×Entry)
 |(_,_,a,b)=> [(0,(.box 24 [.ref 2])),(1,(aAr a)),(2,(aAr b))]
def MA:Nat→bR→List (Nat×SV)
 |0,(a,_,_,_)=> [(4,(aAm a))]
 |_,_=>[]
def iz:bR→LT bR
 |(a,b,c,d)=> .ite (iY a b) (.need [iZ a,ja a c,jb a c,fB d] (.ite (je a c d) (.ext 0 [(0,0),(1,1),(2,2)]) (.nrm ((mZ a),b,c,d) [(0,0),(1,1),(2,2)]))) (.ext 1 [(0,0),(1,1),(2,2)])
def rS(s:St):Option bR:=do
 let some ⟨none,.one ⟨false,[.val (.int .i64 a)]⟩⟩:=s.look 8|none
 let some ⟨none,.one ⟨false,[.val (.int .i64 b)]⟩⟩:=s.look 7|none
 let some ⟨none,.one ⟨false,[.clo 91 [1]]⟩⟩:=s.look 1|none
 let some ⟨none,.one ⟨false,[.ref 0]⟩⟩:=s.look 0|none
 let some (.box 24 [.ref 2]):=s.ent 1|none
 let some (.row true 9 (.str) c):=s.ent 0|none
 let some (.row true 9 (.str) d):=s.ent 2|none
 some (a,b,c,d)
def ap:Lp bR where
 h:=⟨[9,10,5,11,12,13,14,15,16,17,4,18,8],[0,1,2],[],[]⟩
 JL:=Mu
 JE:=Mq
 XL:=MA
 XE:=fun _=>Mq
 q:=fun j=>match j with | 0=> .ret | _=> .exit 0
 tags:= [0,1]
 lt:=iz
 fuel:=fun(a,b,c,d)=>a.natAbs + b.natAbs + c.length + d.length
 fix:=fun(_,b,c,d) (a,_,_,_)=>(a,b,c,d)
 σ:= [(0,1),(1,0),(2,2)]
 rd:=rS
theorem KZ:LoopOk prog (fun k=>Nat.blt k Tryz.f129.ntmps) ap.F (bc f129 0):=by
 refine Lp.ok (tbl:= (T3z [ef])) (lf:= []) aU ap (by kernel_rfl) (LOk.nil _) (fun _=>rfl) (fun j _=>by unfold ap;match j with | 0=>rfl | _ + 1=>rfl) ?_ ?_ ?_ ?_ (fun _=>rfl) ?_
 ·intro _;kernel_rfl
 ·intro _;kernel_rfl
 ·intro s x h
  have h:rS s=some x:=h
  unfold rS at h
  repeat' split at h
  all_goals cases h
  constructor<;>repeat(first|refine ab ‹_› rfl ?_|refine aa rfl ‹_› rfl ?_|rfl)
 ·intro _;kernel_rfl
 ·intro _ _;exact(And.intro (And.intro trivial rfl) trivial)
section
variable (a b:List aAi)
def jY:Int×Int×List aAi×List aAi:=((0:Int),(↑a.length:Int),a,b)
def oO:Bool:=Nat.beq ((Lp.res ap (jY a b)).1) 0
def uR:Int:=bif oO a b then ((Lp.res ap (jY a b)).2).1else(-1:Int)
def Dy:List aAi:=bif oO a b then a else a
def Dz:List aAi:=bif oO a b then b else b
def uS:Bool:=allT [Lp.fin ap (jY a b)]
end
def Dk:aAj
 | [.one ⟨false,[.ref 0]⟩,.one ⟨false,[.clo 91 [1]]⟩],[.row true 9 (.str) a,.box 24 [.ref 2],.row true 9 (.str) b]=>some ⟨aAm (uR a b),[aAr (Dy a b),.box 24 [.ref 2],aAr (Dz a b)],[],[uS a b]⟩
 |_,_=>none
def uB:PF prog:=PF.ofG prog (T3z [ef]) [ap.F] aU 129 f129 func129 (LOk.fnT (l:= [bc f129 0]) (by kernel_rfl) (.cons KZ (.nil _))) Dk (by
 intro _ _ _ h;unfold Dk at h;split at h<;>cases h;kernel_rfl)
section
variable (a b:List aAi)
def mW:Bool:=leI 0 (uR a b)
def Bo:List aAi:=Dy a b
def Bp:List aAi:=Dz a b
def mX:Bool:=allT [uS a b]
end
def Bh:aAj
 | [.one ⟨false,[.ref 0]⟩,.one ⟨false,[.clo 91 [1]]⟩],[.row true 9 (.str) a,.box 24 [.ref 2],.row true 9 (.str) b]=>some ⟨aAl (.val (.bool (mW a b))),[aAr (Bo a b),.box 24 [.ref 2],aAr (Bp a b)],[],[mX a b]⟩
 |_,_=>none
def fy:PF prog:=PF.ofG prog (T3z [uB]) [] aU 89 f89 func89 (fun c _=>LOk.nil c) Bh (by
 intro _ _ _ h;unfold Bh at h;split at h<;>cases h;kernel_rfl)
section
variable (a:Int)(b:aAi)(c d:List aAi)
def kN:Bool:=bif a==1 then !lY c b else false
def gg:Bool:=bif kN a b c then !lY d b else false
def lH:Bool:=allT [!(a==1&&true)||leN c.length (9223372036854775807:Nat),!(kN a b c&&true)||leN d.length (9223372036854775807:Nat)]
end
def sb:aAj
 | [.one ⟨true,[.val (.int .i64 a),.val (.string b),.val (.int .i64 _x2)]⟩,.one ⟨false,[.ptr 0 0]⟩],[.box 27 [.val (.string c),.ref 1,.ref 2,.ref 3,.val (.string d),.ref 4],.row false 9 (.str) e,.row false 9 (.str) f,.row false 9 (.str) g,.row false 91 (.pair .str (.sl 66 (.pair (.int .i64) (.pair .str (.int .i64))))) i]=>some ⟨aAl (.val (.bool (gg a b e f))),[.box 27 [.val (.string c),.ref 1,.ref 2,.ref 3,.val (.string d),.ref 4],aAn e,aAn f,aAn g,aAs i],[],[lH a b e f]⟩
 |_,_=>none
def de:PF prog:=PF.ofG prog (T3z [aO]) [] aU 130 f130 func130 (fun c _=>LOk.nil c) sb (by
 intro _ _ _ h;unfold sb at h;split at h<;>cases h;kernel_rfl)
abbrev cD:=Int×Int×aAi×aAi×List (Int×(aAi×Int))×List aAi×List aAi×List aAi×List (aAi×(List (Int×(aAi×Int))))
section
variable (a b:Int)(c:aor)(d e:List aAi)
def ct:Int×aAi×Int:=k9 c[k7 a]? ((0:Int),ByteArray.empty,(0:Int))
def lr:Bool:=ltI a b
def qg:Bool:=leI 0 a
def qh:Bool:=ltI a (↑c.length:Int)
def qi:Bool:=ltN a.toNat c.length
def lu:Bool:=lH ((ct a c).1) (((ct a c).2).1) d e
def lv:Bool:=gg ((ct a c).1) (((ct a c).2).1) d e
def vZ:Int:=v5 .i64 (a + (1:Int))
end
def QA:cD→List (Nat×SV)
 |(a,b,_,_,_,_,_,_,_)=> [(8,(aAm a)),(7,(aAm b)),(1,(aAl (.clo 130 [0]))),(0,(aAl (.ref 1)))]
def Qu:cD→List (Nat×Entry)
 |(_,_,a,b,c,d,e,f,g)=> [(0,(.box 27 [.val (.string a),.ref 2,.ref 3,.ref 4,.val (.string b),.ref 5])),(1,(aAp c)),(2,(aAn d)),(3,(aAn e)),(4,(aAn f)),(5,(aAs g))]
def QN:Nat→cD→List (Nat×SV)
 |0,(a,_,_,_,_,_,_,_,_)=> [(4,(aAm a))]
 |_,_=>[]
def kG:cD→LT cD
 |(a,b,c,d,e,f,g,i,j)=> .ite (lr a b) (.need [qg a,qh a e,qi a e,lu a e f g] (.ite (lv a e f g) (.ext 0 [(0,0),(1,1),(2,2),(3,3),(4,4),(5,5)]) (.nrm ((vZ a),b,c,d,e,f,g,i,j) [(0,0),(1,1),(2,2),(3,3),(4,4),(5,5)]))) (.ext 1 [(0,0),(1,1),(2,2),(3,3),(4,4),(5,5)])
def uM(s:St):Option cD:=do
 let some ⟨none,.one ⟨false,[.val (.int .i64 a)]⟩⟩:=s.look 8|none
 let some ⟨none,.one ⟨false,[.val (.int .i64 b)]⟩⟩:=s.look 7|none
 let some ⟨none,.one ⟨false,[.clo 130 [1]]⟩⟩:=s.look 1|none
 let some ⟨none,.one ⟨false,[.ref 0]⟩⟩:=s.look 0|none
 let some (.box 27 [.val (.string c),.ref 2,.ref 3,.ref 4,.val (.string d),.ref 5]):=s.ent 1|none
 let some (.row false 66 (.pair (.int .i64) (.pair .str (.int .i64))) e):=s.ent 0|none
 let some (.row false 9 (.str) f):=s.ent 2|none
 let some (.row false 9 (.str) g):=s.ent 3|none
 let some (.row false 9 (.str) i):=s.ent 4|none
 let some (.row false 91 (.pair .str (.sl 66 (.pair (.int .i64) (.pair .str (.int .i64))))) j):=s.ent 5|none
 some (a,b,c,d,e,f,g,i,j)
def aL:Lp cD where
 h:=⟨[9,10,5,11,12,13,14,15,16,17,4,18,8],[0,1,2,3,4,5],[],[]⟩
 JL:=QA
 JE:=Qu
 XL:=QN
 XE:=fun _=>Qu
 q:=fun j=>match j with | 0=> .ret | _=> .exit 0
 tags:= [0,1]
 lt:=kG
 fuel:=fun(a,b,c,d,e,f,g,i,k)=>a.natAbs + b.natAbs + c.size + d.size + e.length + f.length + g.length + i.length + k.length
 fix:=fun(_,b,c,d,e,f,g,i,k) (a,_,_,_,_,_,_,_,_)=>(a,b,c,d,e,f,g,i,k)
 σ:= [(0,1),(1,0),(2,2),(3,3),(4,4),(5,5)]
 rd:=uM
theorem OM:LoopOk prog (fun k=>Nat.blt k Tryz.f67.ntmps) aL.F (bc f67 0):=by
 refine Lp.ok (tbl:= (T3z [de])) (lf:= []) aU aL (by kernel_rfl) (LOk.nil _) (fun _=>rfl) (fun j _=>by unfold aL;match j with | 0=>rfl | _ + 1=>rfl) ?_ ?_ ?_ ?_ (fun _=>rfl) ?_
 ·intro _;kernel_rfl
 ·intro _;kernel_rfl
 ·intro s x h
  have h:uM s=some x:=h
  unfold uM at h
  repeat' split at h
  all_goals cases h
  constructor<;>repeat(first|refine ab ‹_› rfl ?_|refine aa rfl ‹_› rfl ?_|rfl)
 ·intro _;kernel_rfl
 ·intro _ _;exact(And.intro (And.intro trivial rfl) trivial)
section
variable (a:aoQ)(b c:aAi)(d e f:List aAi)(g:aiK)
def mu:Int×Int×aAi×aAi×aoQ×List aAi×List aAi×List aAi×aiK:=((0:Int),(↑a.length:Int),b,c,a,d,e,f,g)
def rc:Bool:=Nat.beq ((Lp.res aL (mu a b c d e f g)).1) 0
def yO:Int:=bif rc a b c d e f g then ((Lp.res aL (mu a b c d e f g)).2).1else(-1:Int)
def GC:aAi:=bif rc a b c d e f g then b else b
def GD:aAi:=bif rc a b c d e f g then c else c
def yP:Bool:=allT [Lp.fin aL (mu a b c d e f g)]
end
def FQ:aAj
 | [.one ⟨false,[.ref 0]⟩,.one ⟨false,[.clo 130 [1]]⟩],[.row false 66 (.pair (.int .i64) (.pair .str (.int .i64))) a,.box 27 [.val (.string b),.ref 2,.ref 3,.ref 4,.val (.string c),.ref 5],.row false 9 (.str) d,.row false 9 (.str) e,.row false 9 (.str) f,.row false 91 (.pair .str (.sl 66 (.pair (.int .i64) (.pair .str (.int .i64))))) g]=>some ⟨aAm (yO a b c d e f g),[aAp a,.box 27 [.val (.string (GC a b c d e f g)),.ref 2,.ref 3,.ref 4,.val (.string (GD a b c d e f g)),.ref 5],aAn d,aAn e,aAn f,aAs g],[],[yP a b c d e f g]⟩
 |_,_=>none
def yF:PF prog:=PF.ofG prog (T3z [de]) [aL.F] aU 67 f67 func67 (LOk.fnT (l:= [bc f67 0]) (by kernel_rfl) (.cons OM (.nil _))) FQ (by
 intro _ _ _ h;unfold FQ at h;split at h<;>cases h;kernel_rfl)
section
variable (a:aoQ)(b c:aAi)(d e f:List aAi)(g:aiK)
def vU:Bool:=leI 0 (yO a b c d e f g)
def Sf:aAi:=GC a b c d e f g
def Sg:aAi:=GD a b c d e f g
def vV:Bool:=allT [yP a b c d e f g]
end
def Ed:aAj
 | [.one ⟨false,[.ref 0]⟩,.one ⟨false,[.clo 130 [1]]⟩],[.row false 66 (.pair (.int .i64) (.pair .str (.int .i64))) a,.box 27 [.val (.string b),.ref 2,.ref 3,.ref 4,.val (.string c),.ref 5],.row false 9 (.str) d,.row false 9 (.str) e,.row false 9 (.str) f,.row false 91 (.pair .str (.sl 66 (.pair (.int .i64) (.pair .str (.int .i64))))) g]=>some ⟨aAl (.val (.bool (vU a b c d e f g))),[aAp a,.box 27 [.val (.string (Sf a b c d e f g)),.ref 2,.ref 3,.ref 4,.val (.string (Sg a b c d e f g)),.ref 5],aAn d,aAn e,aAn f,aAs g],[],[vV a b c d e f g]⟩
 |_,_=>none
def vL:PF prog:=PF.ofG prog (T3z [yF]) [] aU 33 f33 func33 (fun c _=>LOk.nil c) Ed (by
 intro _ _ _ h;unfold Ed at h;split at h<;>cases h;kernel_rfl)
def eJ(a b:aAi)(c d e:List aAi)(f:aiK)(g:aoQ):Bool:=vU g a b c d e f
def gD(a b:aAi)(c d e:List aAi)(f:aiK)(g:aoQ):Bool:=allT [vV g a b c d e f]
def tE:aAj
 | [.one ⟨true,[.val (.string a),.ref 0,.ref 1,.ref 2,.val (.string b),.ref 3]⟩,.one ⟨true,[.val (.string _x2),.ref 4]⟩],[.row false 9 (.str) c,.row false 9 (.str) d,.row false 9 (.str) e,.row false 91 (.pair .str (.sl 66 (.pair (.int .i64) (.pair .str (.int .i64))))) f,.row false 66 (.pair (.int .i64) (.pair .str (.int .i64))) g]=>some ⟨aAl (.val (.bool (eJ a b c d e f g))),[aAn c,aAn d,aAn e,aAs f,aAp g],[],[gD a b c d e f g]⟩
 |_,_=>none
def dw:PF prog:=PF.ofG prog (T3z [vL]) [] aU 92 f92 func92 (fun c _=>LOk.nil c) tE (by
 intro _ _ _ h;unfold tE at h;split at h<;>cases h;kernel_rfl)
abbrev cB:=Int×Int×aAi×aAi×List aAi×List aAi×List aAi×List (aAi×(List (Int×(aAi×Int))))
section
variable (a b:Int)(c d:aAi)(e f g:List aAi)(i:aiJ)
def dU:aoQ:=(k9 i[k7 a]? (vB aaP)).2
def lg:Bool:=ltI a b
def qd:Bool:=leI 0 a
def qe:Bool:=ltI a (↑i.length:Int)
def qf:Bool:=ltN a.toNat i.length
def lh:Bool:=gD c d e f g i (dU a i)
def li:Bool:=eJ c d e f g i (dU a i)
def vY:Int:=v5 .i64 (a + (1:Int))
end
def Qx:cB→List (Nat×SV)
 |(a,b,c,d,_,_,_,_)=> [(8,(aAm a)),(7,(aAm b)),(1,(aAl (.bnd 92 [(0,some (.string c)),(0,none),(1,none),(2,none),(0,some (.string d)),(3,none)]))),(0,(aAl (.ref 3)))]
def Qr:cB→List (Nat×Entry)
 |(_,_,_,_,a,b,c,d)=> [(0,(aAn a)),(1,(aAn b)),(2,(aAn c)),(3,(aAs d))]
def QK:Nat→cB→List (Nat×SV)
 |0,(a,_,_,_,_,_,_,_)=> [(4,(aAm a))]
 |_,_=>[]
def kE:cB→LT cB
 |(a,b,c,d,e,f,g,i)=> .ite (lg a b) (.need [qd a,qe a i,qf a i,lh a c d e f g i] (.ite (li a c d e f g i) (.ext 0 [(0,0),(1,1),(2,2),(3,3)]) (.nrm ((vY a),b,c,d,e,f,g,i) [(0,0),(1,1),(2,2),(3,3)]))) (.ext 1 [(0,0),(1,1),(2,2),(3,3)])
def uJ(s:St):Option cB:=do
 let some ⟨none,.one ⟨false,[.val (.int .i64 a)]⟩⟩:=s.look 8|none
 let some ⟨none,.one ⟨false,[.val (.int .i64 b)]⟩⟩:=s.look 7|none
 let some ⟨none,.one ⟨false,[.bnd 92 [(0,some (.string c)),(1,none),(2,none),(3,none),(0,some (.string d)),(0,none)]]⟩⟩:=s.look 1|none
 let some ⟨none,.one ⟨false,[.ref 0]⟩⟩:=s.look 0|none
 let some (.row false 9 (.str) e):=s.ent 1|none
 let some (.row false 9 (.str) f):=s.ent 2|none
 let some (.row false 9 (.str) g):=s.ent 3|none
 let some (.row false 91 (.pair .str (.sl 66 (.pair (.int .i64) (.pair .str (.int .i64))))) i):=s.ent 0|none
 some (a,b,c,d,e,f,g,i)
def aJ:Lp cB where
 h:=⟨[9,10,5,11,12,13,14,15,16,17,4,18,8],[0,1,2,3],[],[]⟩
 JL:=Qx
 JE:=Qr
 XL:=QK
 XE:=fun _=>Qr
 q:=fun j=>match j with | 0=> .ret | _=> .exit 0
 tags:= [0,1]
 lt:=kE
 fuel:=fun(a,b,c,d,e,f,g,i)=>a.natAbs + b.natAbs + c.size + d.size + e.length + f.length + g.length + i.length
 fix:=fun(_,b,c,d,e,f,g,i) (a,_,_,_,_,_,_,_)=>(a,b,c,d,e,f,g,i)
 σ:= [(0,1),(1,2),(2,3),(3,0)]
 rd:=uJ
theorem OJ:LoopOk prog (fun k=>Nat.blt k Tryz.f127.ntmps) aJ.F (bc f127 0):=by
 refine Lp.ok (tbl:= (T3z [dw])) (lf:= []) aU aJ (by kernel_rfl) (LOk.nil _) (fun _=>rfl) (fun j _=>by unfold aJ;match j with | 0=>rfl | _ + 1=>rfl) ?_ ?_ ?_ ?_ (fun _=>rfl) ?_
 ·intro _;kernel_rfl
 ·intro _;kernel_rfl
 ·intro s x h
  have h:uJ s=some x:=h
  unfold uJ at h
  repeat' split at h
  all_goals cases h
  constructor<;>repeat(first|refine ab ‹_› rfl ?_|refine aa rfl ‹_› rfl ?_|rfl)
 ·intro _;kernel_rfl
 ·intro _ _;exact(And.intro (And.intro trivial rfl) trivial)
section
variable (a b:aAi)(c:aiK)(d e f:List aAi)
def mt:Int×Int×aAi×aAi×List aAi×List aAi×List aAi×aiK:=((0:Int),(↑c.length:Int),a,b,d,e,f,c)
def yK:Int:=bif Nat.beq ((Lp.res aJ (mt a b c d e f)).1) 0 then ((Lp.res aJ (mt a b c d e f)).2).1else(-1:Int)
def yL:Bool:=allT [Lp.fin aJ (mt a b c d e f)]
end
def FN:aAj
 | [.one ⟨false,[.ref 0]⟩,.one ⟨false,[.bnd 92 [(0,some (.string a)),(1,none),(2,none),(3,none),(0,some (.string b)),(0,none)]]⟩],[.row false 91 (.pair .str (.sl 66 (.pair (.int .i64) (.pair .str (.int .i64))))) c,.row false 9 (.str) d,.row false 9 (.str) e,.row false 9 (.str) f]=>some ⟨aAm (yK a b c d e f),[aAs c,aAn d,aAn e,aAn f],[],[yL a b c d e f]⟩
 |_,_=>none
def yC:PF prog:=PF.ofG prog (T3z [dw]) [aJ.F] aU 127 f127 func127 (LOk.fnT (l:= [bc f127 0]) (by kernel_rfl) (.cons OJ (.nil _))) FN (by
 intro _ _ _ h;unfold FN at h;split at h<;>cases h;kernel_rfl)
def pU(a b:aAi)(c:aiK)(d e f:List aAi):Bool:=leI 0 (yK a b c d e f)
def pV(a b:aAi)(c:aiK)(d e f:List aAi):Bool:=allT [yL a b c d e f]
def Ea:aAj
 | [.one ⟨false,[.ref 0]⟩,.one ⟨false,[.bnd 92 [(0,some (.string a)),(1,none),(2,none),(3,none),(0,some (.string b)),(0,none)]]⟩],[.row false 91 (.pair .str (.sl 66 (.pair (.int .i64) (.pair .str (.int .i64))))) c,.row false 9 (.str) d,.row false 9 (.str) e,.row false 9 (.str) f]=>some ⟨aAl (.val (.bool (pU a b c d e f))),[aAs c,aAn d,aAn e,aAn f],[],[pV a b c d e f]⟩
 |_,_=>none
def hZ:PF prog:=PF.ofG prog (T3z [yC]) [] aU 83 f83 func83 (fun c _=>LOk.nil c) Ea (by
 intro _ _ _ h;unfold Ea at h;split at h<;>cases h;kernel_rfl)
abbrev bF:=Int×Int×List (aAi×(List (Int×(aAi×Int))))×List aAi
section
variable (a b:Int)(c:aiJ)(d:List aAi)
def bV:List aAi:= [(k9 c[k7 a]? (vB aaP)).1]
def gN:Bool:=ltI a b
def gO:Bool:=leI 0 a
def gP:Bool:=ltI a (↑c.length:Int)
def gQ:Bool:=ltN a.toNat c.length
def gR:Bool:=leN (k8 d + k8 (bV a c)) 9223372036854775807
def gS:Bool:=leN ((k8 d + k8 (bV a c)) * 16) 140737488355328
def gT:Int:=v5 .i64 (a + (1:Int))
def gU:List aAi:=d++bV a c
end
def Kx:bF→List (Nat×SV)
 |(a,b,_,_)=> [(10,(aAm a)),(9,(aAm b)),(8,(aAl (.ref 0))),(3,(aAl (.ptr 1 0)))]
def Kv:bF→List (Nat×Entry)
 |(_,_,a,b)=> [(0,(aAs a)),(1,(.box 24 [.ref 2])),(2,(aAr b))]
def KC:Nat→bF→List (Nat×SV)
 |_,_=>[]
def gy:bF→LT bF
 |(a,b,c,d)=> .ite (gN a b) (.need [gO a,gP a c,gQ a c] (.need [gR a c d,gS a c d] (.nrm ((gT a),b,c,(gU a c d)) [(0,0),(1,1),(2,640)]))) (.ext 0 [(0,0),(1,1),(2,2)])
def qQ(s:St):Option bF:=do
 let some ⟨none,.one ⟨false,[.val (.int .i64 a)]⟩⟩:=s.look 10|none
 let some ⟨none,.one ⟨false,[.val (.int .i64 b)]⟩⟩:=s.look 9|none
 let some ⟨none,.one ⟨false,[.ref 3]⟩⟩:=s.look 8|none
 let some ⟨none,.one ⟨false,[.ptr 448 0]⟩⟩:=s.look 3|none
 let some (.row false 91 (.pair .str (.sl 66 (.pair (.int .i64) (.pair .str (.int .i64))))) c):=s.ent 3|none
 let some (.box 24 [.ref 449]):=s.ent 448|none
 let some (.row true 9 (.str) d):=s.ent 449|none
 some (a,b,c,d)
def aq:Lp bF where
 h:=⟨[11,12,13,5,14,15,16,17,18,19,10],[0,1],[2],[]⟩
 JL:=Kx
 JE:=Kv
 XL:=KC
 XE:=fun _=>Kv
 q:=fun j=>match j with | _=> .exit 0
 tags:= [0]
 lt:=gy
 fuel:=fun(a,b,c,d)=>a.natAbs + b.natAbs + c.length + d.length
 fix:=fun(_,b,c,_) (a,_,_,d)=>(a,b,c,d)
 σ:= [(0,3),(1,448),(2,449)]
 rd:=qQ
theorem Jb:LoopOk prog (fun k=>Nat.blt k Tryz.f51.ntmps) aq.F (bc f51 0):=by
 refine Lp.ok (tbl:= (T3z [dq,HL,fY,aO,et,fw,fy,hZ])) (lf:= []) aU aq (by kernel_rfl) (LOk.nil _) (fun _=>rfl) (fun _ _=>rfl) ?_ ?_ ?_ ?_ (fun _=>rfl) ?_
 ·intro _;kernel_rfl
 ·intro _;kernel_rfl
 ·intro s x h
  have h:qQ s=some x:=h
  unfold qQ at h
  repeat' split at h
  all_goals cases h
  constructor<;>repeat(first|refine ab ‹_› rfl ?_|refine aa rfl ‹_› rfl ?_|rfl)
 ·intro _;kernel_rfl
 ·intro _ _;exact(And.intro rfl trivial)
def mO(a:aAi):Bool:=
 !ByteArray.toList a==ByteArray.toList { data:= #[] }
section
variable (a b:aAi)(c d e:List aAi)(f:aiK)
def ft:Bool:=bif bif mO b then !lY c b else false then !lY d b else false
def mP:Int×Int×aiK×List aAi:=((0:Int),(↑f.length:Int),f,[])
def au:List aAi:=(Lp.res aq (mP f)).2.2.2.2
def aw:List aAi:=List.flatten [d,e]
def mQ:Bool:=mW (mU (au f) (aw d e)) (dr (au f) (aw d e))
def nE:Int:=bif vt (bE c d e)then(1:Int)else bif ft b c d then(2:Int)else bif ep (au f) (aw d e)then(3:Int)else bif vt (dr (au f) (aw d e))then(4:Int)else bif mQ d e f then(5:Int)else bif pU a b f c d e then(6:Int)else(0:Int)
def nF:Bool:=allT [Lp.fin aq (mP f),leN (k8 [d,e]) (1000:Nat)&&leN (NV [d,e]) 2000000,nG c d e,leN (k8 (bE c d e)) 9223372036854775807,vt (bE c d e)||(!(mO b&&true)||leN c.length (9223372036854775807:Nat)),vt (bE c d e)||(!((bif mO b then !lY c b else false)&&true)||leN d.length (9223372036854775807:Nat)),vt (bE c d e)||(ft b c d||mV (au f) (aw d e)),vt (bE c d e)||(ft b c d||(ep (au f) (aw d e)||leN (k8 (dr (au f) (aw d e))) 9223372036854775807)),vt (bE c d e)||(ft b c d||(ep (au f) (aw d e)||(vt (dr (au f) (aw d e))||mX (mU (au f) (aw d e)) (dr (au f) (aw d e))))),vt (bE c d e)||(ft b c d||(ep (au f) (aw d e)||(vt (dr (au f) (aw d e))||(mQ d e f||pV a b f c d e))))]
end
def Bz:aAj
 | [.one ⟨true,[.val (.string a),.ref 0,.ref 1,.ref 2,.val (.string b),.ref 3]⟩],[.row false 9 (.str) c,.row false 9 (.str) d,.row false 9 (.str) e,.row false 91 (.pair (.str) (.sl 66 (.pair (.int .i64) (.pair (.str) (.int .i64))))) f]=>some ⟨aAm (nE a b c d e f),[aAn c,aAn d,aAn e,aAt f],[],[nF a b c d e f]⟩
 |_,_=>none
def tj:PF prog:=PF.ofG prog (T3z [dq,HL,fY,aO,et,fw,fy,hZ]) [aq.F] aU 51 f51 func51 (LOk.fnT (l:= [bc f51 0]) (by kernel_rfl) (.cons Jb (.nil _))) Bz (by
 intro _ _ _ h;unfold Bz at h;split at h<;>cases h;kernel_rfl)
def aaS(a b:aAi)(c d e:List aAi)(f:aiK):Bool:=bif KI a b c d e f then nE a b c d e f==0 else false
def aaT(a b:aAi)(c d e:List aAi)(f:aiK):Bool:=allT [RQ a b c d e f,!(KI a b c d e f&&true)||nF a b c d e f]
def ag5:aAj
 | [.one ⟨true,[.val (.string a),.ref 0,.ref 1,.ref 2,.val (.string b),.ref 3]⟩],[.row false 9 (.str) c,.row false 9 (.str) d,.row false 9 (.str) e,.row false 91 (.pair (.str) (.sl 66 (.pair (.int .i64) (.pair (.str) (.int .i64))))) f]=>some ⟨aAl (.val (.bool (aaS a b c d e f))),[aAn c,aAn d,aAn e,aAt f],[],[aaT a b c d e f]⟩
 |_,_=>none
def apX:PF prog:=PF.ofG prog (T3z [XN,tj]) [] aU 21 f21 func21 (fun c _=>LOk.nil c) ag5 (by
 intro _ _ _ h;unfold ag5 at h;split at h<;>cases h;kernel_rfl)
theorem ato{ins vs os:List aAi}(h1:XD ins=true)(h2:XD vs=true)(h3:XD os=true):
  leN ins.length 9223372036854775807=true∧leN vs.length 9223372036854775807=true∧leN os.length 9223372036854775807=true:=by
 simp only [XD,q8]at h1 h2 h3
 exact⟨h1.1,h2.1,h3.1⟩
def adZ(nm:aAi)(ins vs os:List aAi)(g:aAi)(ls:List LN):Bool:=leN nm.size 9223372036854775807&&(XD ins&&(XD vs&&(XD os&&(leN g.size 9223372036854775807&&(leN (ins.length + vs.length + os.length) 2000000&&ZY ls)))))
theorem Wa{nm:aAi}{ins vs os:List aAi}{g:aAi}{ls:List LN}:adZ nm ins vs os g ls=true↔
  nm.size≤9223372036854775807∧XD ins=true∧XD vs=true∧XD os=true∧g.size≤9223372036854775807∧ins.length + vs.length + os.length≤2000000∧ZY ls=true:=by
 simp only [adZ,q8,eN]
def wR(b:aAi×(aor)):(Unit)→Nat ⊕ (Unit)
 |_=>(bif(bif(!pu b.1)then true else !ami (bif !(!pu b.1)&&true then b.2else []))then(.inl 0)else(.inr ()))
def vr(a b:aAi)(c d e:List aAi)(f:aiJ)(i:Nat):(Unit)→ov
 |_=>((i:Int),a,b,c,d,e,f)
def Rj:ov→Unit
 |(_,_,_,_,_,_,_)=>()
theorem ajx(c e:aAi)(f g j:List aAi)(k:aiJ) (hn:k.length≤9223372036854775807) (hA: ∀ l∈k,l.1.size≤9223372036854775807∧aaf l.2=true):
  fQ.fin ((0:Int),c,e,f,g,j,k)=true∧fQ.res ((0:Int),c,e,f,g,j,k)=((bz (wR) 1 k 0 ()).1,(vr c e f g j k) (bz (wR) 1 k 0 ()).2.1 (bz (wR) 1 k 0 ()).2.2):=by
 have oe:=fQ.along (vr c e f g j k) Rj (wR) 1 (fun _ _=>True) k () (by trivial) (by simp only [fQ,vr];omega) (fun i b a hb hI=> ?_) (fun a hI=> ?_)
 ·exact oe
 ·obtain⟨⟩:=a
  have hlt:=(j9.1 hb).1
  have nk: ∀ d,k9 k[i]? d=b:=fun d=>by rw [hb];rfl
  have hw:=Bv hlt hn
  have gr:ltI (i:Int) (k.length:Int)=true:=dL (by omega)
  have LW:leI (0:Int) (i:Int)=true:=bx (by omega)
  have sd:ltN i k.length=true:=er hlt
  refine⟨?_,?_,?_,?_⟩
  ·have hg2:pp (i:Int) k=b:=by simp only [pp,q9];exact nk _
   have hm:=hA b (List.mem_of_getElem? hb)
   obtain⟨q1,q2⟩:=Vc b.1 hm.1
   have e0:zh (i:Int) k=true:=gr
   have e1:zi (i:Int) k=true:=by simp only [zi,q9];exact sd
   have e3:kH (i:Int) k= !pB b.1:=by simp only [kH,hg2,q1]
   have e4:uT (i:Int) k=bif pB b.1 then b.2 else []:=by simp only [uT,e3,hg2];cases pB b.1 <;> rfl
   have h7:aaf b.2=true:=hm.2
   have h8:aaf []=true:=rfl
   simp only [AY,Kb,Kc,Kd,Ke,Kf,Kg,Kh,EP,Ki,Dq,fQ,LT.nds,allT,vr,e0,e1,e3,e4,hg2,q2,LW,cond_true,j7]
   cases pB b.1 <;> simp [LT.nds,h7,h8]
  ·simp [zh,zi,pp,kH,uT,AY,Kb,Kc,Kd,Ke,Kf,Kg,Kh,EP,Ki,Dq,fQ,LT.each,vr,Rj,hw]
  ·have hg2:pp (i:Int) k=b:=by simp only [pp,q9];exact nk _
   have e0:zh (i:Int) k=true:=gr
   simp only [fQ,Dq,AY,EP,kH,uT,LT.fn,vr,Rj,wR,e0,hg2,cond_true]
  ·exact fun _ _=>trivial
 ·obtain⟨⟩:=a
  simp [zh,zi,pp,kH,uT,AY,Kb,Kc,Kd,Ke,Kf,Kg,Kh,EP,Ki,Dq,fQ,LT.out,vr]
theorem aql(nm:aAi)(ins vs os:List aAi)(g:aAi)(ls:List LN)(h:adZ nm ins vs os g ls=true):
  Lf nm g ins vs os ls=aoo nm ins vs os g ls∧Sp nm g ins vs os ls=true:=by
 obtain⟨h1,h2,h3,h4,h5,h6,h7⟩:=Wa.1 h
 obtain⟨hn,hA⟩:=UV.1 h7
 obtain⟨w1,w2⟩:=ajx nm g ins vs os ls (by omega) hA
 have e0:(bz wR 1 ls 0 ())=(bz (fun(k:LN) (_:Unit)=>bif !lineB k then(.inl 0:Nat ⊕ Unit)else .inr ()) 1 ls 0 ()):=by
  refine adh fun b hb a=> ?_
  simp only [wR,(Vc b.1 (hA b hb).1).1,lineB]
  cases pB b.1 <;> simp
 rw [e0,lA (P:=fun k=> !lineB k) (j:=0) (fun k=>rfl)]at w2
 have e5:(ls.any fun k=> !lineB k)= !ls.all lineB:=by simp [List.all_eq_not_any_not]
 rw [e5]at w2
 obtain⟨q1,q2⟩:=Vc nm h1
 obtain⟨q3,q4⟩:=Vc g h5
 have c1:inR (ins.length:Int) 1 20=inR (ins.length:Int) ((1:Nat):Int) 20:=rfl
 have c0:inR (vs.length:Int) 0 20=inR (vs.length:Int) ((0:Nat):Int) 20:=rfl
 have c2:inR (os.length:Int) 1 20=inR (os.length:Int) ((1:Nat):Int) 20:=rfl
 refine⟨?_,?_⟩
 ·simp only [Lf,Wj,Wk,Wl,Wm,Wn,Qb,w2,q1,q3,ak,MM,Sb,aoo,ano,c0,c1,c2]
  generalize pB nm=p1
  generalize ins.all pB=p2
  generalize inR (ins.length:Int) ((1:Nat):Int) 20=p3
  generalize vs.all pB=p4
  generalize inR (vs.length:Int) ((0:Nat):Int) 20=p5
  generalize os.all pB=p6
  generalize inR (os.length:Int) ((1:Nat):Int) 20=p7
  generalize (g.toList== [])=p8
  generalize pB g=p9
  generalize ls.all lineB=p10
  generalize inR (ls.length:Int) 1 40=p11
  cases p1 <;> cases p2 <;> cases p3 <;> simp <;> cases p4 <;> cases p5 <;> simp <;> cases p6 <;> cases p7 <;> simp <;> cases p8 <;> cases p9 <;> simp <;> cases p10 <;> simp [Nat.beq]
 ·simp only [Sp,Qb,w1,q2,q4,h2,h3,h4,allT,j7,cond_true]
theorem acD:(∀ m:Nat,leI 0 (m:Int)=true)∧leI 0 (-1)=false:=⟨fun m=>bx (by omega),rfl⟩
theorem afn{α:Type}(l:List α)(p:α→Bool):(l.any fun k=> !p k)= !l.all p:=by simp [List.all_eq_not_any_not]
def gX(b:aAi×(aor)):(Unit)→Nat ⊕ (Unit)
 |_=>(bif(dG b.2)then(.inl 0)else(.inr ()))
def dV(a:aiJ)(i:Nat):(Unit)→cz
 |_=>((i:Int),(↑a.length:Int),a)
def uC:cz→Unit
 |(_,_,_)=>()
theorem Sw(c:aiJ) (hn:c.length≤9223372036854775807):
  aH.fin ((0:Int),(↑c.length:Int),c)=true∧aH.res ((0:Int),(↑c.length:Int),c)=((bz (gX) 1 c 0 ()).1,(dV c) (bz (gX) 1 c 0 ()).2.1 (bz (gX) 1 c 0 ()).2.2):=by
 have oe:=aH.along (dV c) uC (gX) 1 (fun _ _=>True) c () (by trivial) (by simp only [aH,dV];omega) (fun i b a hb hI=> ?_) (fun a hI=> ?_)
 ·exact oe
 ·obtain⟨⟩:=a
  have hlt:=(j9.1 hb).1
  have nk: ∀ d,k9 c[i]? d=b:=fun d=>by rw [hb];rfl
  have hw:=Bv hlt hn
  have gr:ltI (i:Int) (c.length:Int)=true:=dL (by omega)
  have LW:leI (0:Int) (i:Int)=true:=bx (by omega)
  have sd:ltN i c.length=true:=er hlt
  refine⟨?_,?_,?_,?_⟩
  ·simp only [lb,pX,pY,pZ,kC,aH,LT.nds,allT,dV,gr,LW,sd,q9,cond_true,Bool.and_self]
   cases ia (i:Int) c <;> simp [LT.nds]
  ·simp [lb,pX,pY,pZ,ia,vW,kC,aH,LT.each,dV,uC,hw]
  ·have hg2:ia (i:Int) c=dG b.2:=by
    simp only [ia,q9];exact congrArg (fun z:LN=>dG z.2) (nk _)
   simp only [lb,kC,aH,LT.fn,dV,uC,gX,gr,hg2,cond_true]
  ·exact fun _ _=>trivial
 ·obtain⟨⟩:=a
  simp [lb,pX,pY,pZ,ia,vW,kC,aH,LT.out,dV]
theorem axL(ins vs os:List aAi)(ls:List LN)(hn:ls.length≤1048576):
  mn ins vs os ls=(leN ins.length 20&&(leN vs.length 20&&(leN os.length 20&&(leN ls.length 40&&ls.all fun l=>leN l.2.length 40))))∧mo ins vs os ls=true:=by
 obtain⟨w1,w2⟩:=Sw ls (by omega)
 have hc: ∀ (k:Nat) (m:Nat),leI (m:Int) (k:Int)=leN m k:=fun k m=>by rw [Bool.eq_iff_iff,zJ,eN];omega
 have hc20: ∀ m:Nat,leI (m:Int) 20=leN m 20:=fun m=>hc 20 m
 have hc40: ∀ m:Nat,leI (m:Int) 40=leN m 40:=fun m=>hc 40 m
 rw [lA (P:=fun k=> !leN k.2.length 40) (j:=0) (fun k=>by
  simp only [gX,dG]
  have:ltI 40 (k.2.length:Int)= !leN k.2.length 40:=by rw [acO,hc40]
  rw [this]),afn]at w2
 simp only [mn,mo,rl,vR,vS,yG,yH,qY,w1,w2,allT,dV,hc20,hc40,j7,cond_true]
 refine⟨?_,trivial⟩
 generalize (ls.all fun k=>leN k.2.length 40)=q
 cases leN ins.length 20 <;> cases leN vs.length 20 <;> cases leN os.length 20 <;> cases leN ls.length 40 <;> cases q <;> simp [Nat.beq,acD.1,acD.2]
def gY(b:aAi×(aor)):(Unit)→Nat ⊕ (Unit)
 |_=>(bif(CZ b.1 b.2)then(.inl 0)else(.inr ()))
def dW(a:aiJ)(i:Nat):(Unit)→cA
 |_=>((i:Int),(↑a.length:Int),a)
def uD:cA→Unit
 |(_,_,_)=>()
theorem Sx(c:aiJ) (hn:c.length≤9223372036854775807) (hA: ∀ l∈c,aaf l.2=true):
  aI.fin ((0:Int),(↑c.length:Int),c)=true∧aI.res ((0:Int),(↑c.length:Int),c)=((bz (gY) 1 c 0 ()).1,(dW c) (bz (gY) 1 c 0 ()).2.1 (bz (gY) 1 c 0 ()).2.2):=by
 have oe:=aI.along (dW c) uD (gY) 1 (fun _ _=>True) c () (by trivial) (by simp only [aI,dW];omega) (fun i b a hb hI=> ?_) (fun a hI=> ?_)
 ·exact oe
 ·obtain⟨⟩:=a
  have hlt:=(j9.1 hb).1
  have nk: ∀ d,k9 c[i]? d=b:=fun d=>by rw [hb];rfl
  have hw:=Bv hlt hn
  have gr:ltI (i:Int) (c.length:Int)=true:=dL (by omega)
  have LW:leI (0:Int) (i:Int)=true:=bx (by omega)
  have sd:ltN i c.length=true:=er hlt
  refine⟨?_,?_,?_,?_⟩
  ·have hg2:dg (i:Int) c=b:=by simp only [dg,q9];exact nk _
   have hm:=hA b (List.mem_of_getElem? hb)
   have h4:ld (i:Int) c=true:=by simp only [ld,hg2,IY,hm,allT,cond_true]
   simp only [lc,qa,qb,qc,kD,aI,LT.nds,allT,dW,h4,gr,LW,sd,q9,cond_true,Bool.and_self]
   cases le (i:Int) c <;> simp [LT.nds]
  ·simp [dg,lc,qa,qb,qc,ld,le,vX,kD,aI,LT.each,dW,uD,hw]
  ·have hg2:dg (i:Int) c=b:=by simp only [dg,q9];exact nk _
   simp only [lc,le,kD,aI,LT.fn,dW,uD,gY,gr,hg2,cond_true]
  ·exact fun _ _=>trivial
 ·obtain⟨⟩:=a
  simp [dg,lc,qa,qb,qc,ld,le,vX,kD,aI,LT.out,dW]
theorem apx(nm:aAi)(ins vs os:List aAi)(g:aAi)(ls:List LN)(h:adZ nm ins vs os g ls=true):
  KI nm g ins vs os ls=aoo nm ins vs os g ls∧RQ nm g ins vs os ls=true:=by
 obtain⟨h1,h2,h3,h4,h5,h6,h7⟩:=Wa.1 h
 obtain⟨hn,hA⟩:=UV.1 h7
 obtain⟨w1,w2⟩:=Sx ls (by omega) (fun l hl=>(hA l hl).2)
 rw [lA (P:=fun k=> !lineB k) (j:=0) (fun k=>by simp only [gY,CZ]),afn]at w2
 obtain⟨s1,s2⟩:=axL ins vs os ls hn
 have t1:NV [ins,vs,os]≤2000000:=by simp [NV];omega
 have t2: [ins,vs,os].flatten.length≤2000000:=by simp;omega
 have hfl: [ins,vs,os].flatten.all pB=(ins.all pB&&(vs.all pB&&os.all pB)):=by simp [List.all_append,Bool.and_assoc]
 have hcont:pS ls= !ls.all lineB∧pT ls=true:=by
  simp only [pS,pT,yI,yJ,qZ,w1,w2,allT,dW]
  cases ls.all lineB <;> simp [Nat.beq,acD.1,acD.2]
 refine⟨?_,?_⟩
 ·have hz: ∀ m k:Nat,inR (m:Int) 1 (k:Int)=(ltI 0 (m:Int)&&leN m k):=fun m k=>by
   rw [Bool.eq_iff_iff,pR,q8,Sa,eN];omega
  have hz0: ∀ m k:Nat,inR (m:Int) ((0:Nat):Int) (k:Int)=leN m k:=fun m k=>by
   rw [Bool.eq_iff_iff,pR,eN];omega
  have c1:inR (ins.length:Int) ((1:Nat):Int) 20=(ltI 0 (ins.length:Int)&&leN ins.length 20):=hz _ 20
  have c2:inR (os.length:Int) ((1:Nat):Int) 20=(ltI 0 (os.length:Int)&&leN os.length 20):=hz _ 20
  have c3:inR (ls.length:Int) 1 40=(ltI 0 (ls.length:Int)&&leN ls.length 40):=hz _ 40
  have c4:inR (vs.length:Int) ((0:Nat):Int) 20=leN vs.length 20:=hz0 _ 20
  have hl40:ls.all lineB=true→(ls.all fun l=>leN l.2.length 40)=true:=fun hl=>by
   rw [List.all_eq_true]at hl ⊢
   intro l hm
   exact aY (aal (hl l hm)).2.1
  simp only [KI,HV,PR,VE,VF,acF,s1,hcont.1,Sb,aoo,ano,c1,c2,c3,c4]
  cases hq:ls.all lineB with
  |false=>simp
  |true=>
   rw [hl40 hq]
   cases pB nm with
   |false=>simp
   |true=>
    simp only [Bool.and_true,cond_true,hfl]
    generalize ins.all pB=p2
    generalize vs.all pB=p4
    generalize os.all pB=p6
    generalize (g.toList== [])=p8
    generalize pB g=p9
    generalize ltI 0 (ins.length:Int)=r1
    generalize ltI 0 (os.length:Int)=r2
    generalize ltI 0 (ls.length:Int)=r3
    generalize leN ins.length 20=r4
    generalize leN vs.length 20=r5
    generalize leN os.length 20=r6
    generalize leN ls.length 40=r7
    cases p2 <;> simp <;> cases p4 <;> simp <;> cases p6 <;> simp <;> cases r1 <;> simp <;> cases r2 <;> simp <;> cases r3 <;> simp <;> cases r4 <;> simp <;> cases r5 <;> simp <;> cases r6 <;> simp <;> cases r7 <;> simp <;> cases p8 <;> simp
 ·simp only [RQ,HV,PR,s2,hcont.2,acF,allT,j7,cond_true]
  cases pB nm with
  |false=>simp
  |true=>
   have t4:leN [ins,vs,os].flatten.length 9223372036854775807=true:=aY (by omega)
   have t5:leN (NV [ins,vs,os]) 2000000=true:=aY t1
   have t6:leN [ins,vs,os].length 1000=true:=rfl
   simp only [Bool.and_true,cond_true,t4,t5,t6,Bool.and_self,j7]
theorem azb(l:List aAi)(s:aAi):ltI (oP l s) 0= !lY l s:=by rw [acO,Zq]
theorem aoh(s:aAi)(ins vs:List aAi)(h1:leN ins.length 9223372036854775807=true)(h2:leN vs.length 9223372036854775807=true):
  vk s ins vs=SD ins vs s∧GY s ins vs=true:=by
 simp only [vk,GY,Zq,h1,h2,SD,allT,j7,cond_true,and_true]
 cases lY ins s <;> rfl
def madeB(vs os:List aAi)(l:LN):Bool:=lY vs l.1||lY os l.1
def pI(c d:List aAi)(b:aAi×(aor)):(List aAi)→Nat ⊕ (List aAi)
 |a=>(bif(bif ltI (oP c b.1) 0 then ltI (oP d b.1) 0 else false)then(.inl 0)else(.inr (a++ [b.1])))
def sQ(a b:aAi)(d e f:List aAi)(g:aiJ)(i:Nat):(List aAi)→pF
 |c=>((i:Int),a,b,c,d,e,f,g)
def SO:pF→List aAi
 |(_,_,_,a,_,_,_,_)=>a
theorem alK(c e:aAi)(g j k:List aAi)(l:aiJ)(f:List aAi)(hn:l.length≤9223372036854775807)(hv:leN j.length 9223372036854775807=true)(ho:leN k.length 9223372036854775807=true)(hN:l.length≤1048576)(h3:f.length=0):
  eO.fin ((0:Int),c,e,f,g,j,k,l)=true∧eO.res ((0:Int),c,e,f,g,j,k,l)=((bz (pI j k) 1 l 0 f).1,(sQ c e g j k l) (bz (pI j k) 1 l 0 f).2.1 (bz (pI j k) 1 l 0 f).2.2):=by
 have oe:=eO.along (sQ c e g j k l) SO (pI j k) 1 (fun i a=>a.length=i) l f h3 (by simp only [eO,sQ];omega) (fun i b a hb hI=> ?_) (fun a hI=> ?_)
 ·exact oe
 ·obtain f:=a
  have hlt:=(j9.1 hb).1
  have nk: ∀ d,k9 l[i]? d=b:=fun d=>by rw [hb];rfl
  have hw:=Bv hlt hn
  have gr:ltI (i:Int) (l.length:Int)=true:=dL (by omega)
  have LW:leI (0:Int) (i:Int)=true:=bx (by omega)
  have sd:ltN i l.length=true:=er hlt
  refine⟨?_,?_,?_,?_⟩
  ·have hg2:kb (i:Int) l=b.1:=by simp only [kb,q9];exact congrArg Prod.fst (nk _)
   have l1: ∀ s:aAi,leN (a.length + k8 [s]) 9223372036854775807=true:=fun s=>aY (by rw [w5];omega)
   have l2: ∀ s:aAi,leN ((a.length + k8 [s]) * 16) 140737488355328=true:=fun s=>aY (by rw [w5];omega)
   simp only [CL,GK,GL,GM,GN,GO,GP,GQ,GR,GS,EH,eO,LT.nds,allT,sQ,gr,LW,sd,hg2,hv,ho,l1,l2,q9,cond_true,j7,Bool.and_self]
   generalize (bif ltI (oP j b.1) 0 then ltI (oP k b.1) 0 else false)=q
   cases q <;> simp [LT.nds]
  ·simp [kb,CL,GK,GL,GM,GN,GO,GP,GQ,GR,GS,EH,eO,LT.each,sQ,SO,hw]
  ·have hg2:kb (i:Int) l=b.1:=by simp only [kb,q9];exact congrArg Prod.fst (nk _)
   simp only [CL,GK,GL,GM,GN,GO,GP,GQ,GR,GS,EH,eO,LT.fn,sQ,SO,pI,gr,hg2,cond_true]
  ·intro a' hf
   simp only [pI]at hf
   revert hf
   generalize (bif ltI (oP j b.1) 0 then ltI (oP k b.1) 0 else false)=q
   cases q with
   |true=>intro hf;cases hf
   |false=>intro hf;simp only [cond_false,Sum.inr.injEq]at hf;subst hf;simp [hI]
 ·obtain f:=a
  simp [kb,CL,GK,GL,GM,GN,GO,GP,GQ,GR,GS,EH,eO,LT.out,sQ]
theorem amV(vs os:List aAi): ∀ (ls:List LN) (i:Nat) (acc:List aAi),(bz (pI vs os) 1 ls i acc).1=(bif !ls.all (madeB vs os)then 0 else 1)∧
  (ls.all (madeB vs os)=true→(bz (pI vs os) 1 ls i acc).2.2=acc++ls.map Prod.fst)
 | [],i,acc=>by simp [bz]
 |l::r,i,acc=>by
  have hf:pI vs os l acc=bif madeB vs os l then .inr (acc++ [l.1])else .inl 0:=by
   simp only [pI,azb,madeB]
   cases lY vs l.1 <;> cases lY os l.1 <;> rfl
  obtain⟨h1,h2⟩:=amV vs os r (i + 1) (acc++ [l.1])
  simp only [bz,hf,List.all_cons]
  cases hm:madeB vs os l with
  |false=>simp
  |true=>
   simp only [cond_true,Bool.true_and]
   refine⟨h1,fun h=> ?_⟩
   rw [h2 h];simp
theorem au9(k:Nat)(u v:aAi)(ins vs os:List aAi)(ls:List LN)(l:LN)(hl:ls[k]? =some l)(hn:l.2.length≤1048576)(h1:leN ins.length 9223372036854775807=true)(h2:leN vs.length 9223372036854775807=true):
  fg.fin ((0:Int),(k:Int),u,v,ins,vs,os,ls)=true∧(fg.res ((0:Int),(k:Int),u,v,ins,vs,os,ls)).1=bif !l.2.all (usedB ins vs)then 0 else 1:=by
 have hkl:=(j9.1 hl).1
 have hgl: ∀ d,k9 ls[k]? d=l:=fun d=>by rw [hl];rfl
 have ha2:AM (k:Int) ls=l.2:=by simp only [AM,q9];exact congrArg Prod.snd (hgl _)
 have c0:Pu (k:Int)=true:=bx (by omega)
 have c1:Pv (k:Int) ls=true:=dL (by omega)
 have c2:Hr (k:Int) ls=true:=by simp only [Hr,q9];exact er hkl
 have oe:=fg.along2 (fun i (_:Unit)=>((i:Int),(k:Int),u,v,ins,vs,os,ls)) (fun _=>()) (fun(b:TM) (_:Unit)=>bif !usedB ins vs b then .inl 0 else .inr ()) 1 (fun _ _=>True) l.2 () trivial (by omega)
  (fun i b a hb hI=> ?_) (fun a hI=> ?_)
 ·rw [lA (P:=fun b=> !usedB ins vs b) (j:=0) (fun b=>rfl),afn]at oe
  exact⟨oe.1,by rw [show ((0:Int),(k:Int),u,v,ins,vs,os,ls)=(((0:Nat):Int),(k:Int),u,v,ins,vs,os,ls) from rfl,oe.2]⟩
 ·have hlt:=(j9.1 hb).1
  have hw:IntKind.i64.wrap ((i:Int) + 1)=((i + 1:Nat):Int):=by rw [wrap_i64 (by omega) (by omega)];omega
  have LW:leI (0:Int) (i:Int)=true:=bx (by omega)
  have hg2:AO (i:Int) (k:Int) ls=b:=by simp only [AO,ha2,q9,hb,Option.getD_some]
  have hg3:xT (i:Int) (k:Int) ls=true:=by simp only [xT,ha2];exact dL (by omega)
  have c4:Xs (i:Int)=true:=LW
  have c5:Pw (i:Int) (k:Int) ls=true:=by simp only [Pw,ha2,q9];exact er hlt
  obtain⟨r1,r2⟩:=aoh b.2.1 ins vs h1 h2
  have c6:Px (i:Int) (k:Int) ins vs ls=true:=by simp only [Px,hg2,r2,j7]
  have c7:Py (i:Int) (k:Int) ins vs ls= !usedB ins vs b:=by
   simp only [Py,Nw,hg2,r1,usedB]
   cases b.1==1 <;> simp
  have c8:Xt (i:Int)=((i + 1:Nat):Int):=hw
  refine⟨?_,?_,?_,fun _ _=>trivial⟩
  ·simp only [fg,An,LT.nds,allT,c0,c1,c2,c4,c5,c6,c7,hg3,cond_true,Bool.and_self]
   cases usedB ins vs b <;> simp [LT.nds]
  ·simp only [fg,An,LT.each,c7,c8,hg3]
   cases usedB ins vs b <;> simp [LT.each]
  ·simp only [fg,An,LT.fn,c7,hg3,cond_true]
 ·have gr:xT (l.2.length:Int) (k:Int) ls=false:=by simp only [xT,ha2];exact Ej (by omega)
  simp [fg,An,LT.out,allT,c0,c1,c2,gr]
theorem axQ(u v:aAi)(ins vs os:List aAi)(ls:List LN)(hN:ls.length≤1048576)(hL: ∀ l∈ls,l.2.length≤1048576)(h1:leN ins.length 9223372036854775807=true)(h2:leN vs.length 9223372036854775807=true):
  fF.fin ((0:Int),u,v,ins,vs,os,ls)=true∧(fF.res ((0:Int),u,v,ins,vs,os,ls)).1=bif !ls.all (fun l=>l.2.all (usedB ins vs))then 0 else 1:=by
 have oe:=fF.along2 (fun i (_:Unit)=>((i:Int),u,v,ins,vs,os,ls)) (fun _=>()) (fun(b:LN) (_:Unit)=>bif !b.2.all (usedB ins vs)then .inl 0 else .inr ()) 1 (fun _ _=>True) ls () trivial (by omega)
  (fun i b a hb hI=> ?_) (fun a hI=> ?_)
 ·rw [lA (P:=fun b:LN=> !b.2.all (usedB ins vs)) (j:=0) (fun b=>rfl),afn]at oe
  exact⟨oe.1,by rw [show ((0:Int),u,v,ins,vs,os,ls)=(((0:Nat):Int),u,v,ins,vs,os,ls) from rfl,oe.2]⟩
 ·have hlt:=(j9.1 hb).1
  have hw:IntKind.i64.wrap ((i:Int) + 1)=((i + 1:Nat):Int):=by rw [wrap_i64 (by omega) (by omega)];omega
  obtain⟨k1,k2⟩:=au9 i u v ins vs os ls b hb (hL b (List.mem_of_getElem? hb)) h1 h2
  have c0:Uz (i:Int) ls=true:=dL (by omega)
  have c1:abX (i:Int) u v ins vs os ls=true:=k1
  have c2:UA (i:Int) u v ins vs os ls= !b.2.all (usedB ins vs):=by
   simp only [UA,Tf,k2]
   cases b.2.all (usedB ins vs) <;> rfl
  have c3:abY (i:Int)=((i + 1:Nat):Int):=hw
  refine⟨?_,?_,?_,fun _ _=>trivial⟩
  ·simp only [fF,EI,LT.nds,allT,c0,c1,c2,cond_true]
   cases b.2.all (usedB ins vs) <;> simp [LT.nds]
  ·simp only [fF,EI,LT.each,c0,c2,c3]
   cases b.2.all (usedB ins vs) <;> simp [LT.each]
  ·simp only [fF,EI,LT.fn,c0,c2,cond_true]
 ·have gr:Uz (ls.length:Int) ls=false:=Ej (by omega)
  simp [fF,EI,LT.out,gr]
theorem asx(nm:aAi)(ins vs os:List aAi)(g:aAi)(ls:List LN)(h:adZ nm ins vs os g ls=true):
  (TJ nm g ins vs os ls==0)=aww ins vs os g ls∧TK nm g ins vs os ls=true:=by
 obtain⟨h1,h2,h3,h4,h5,h6,h7⟩:=Wa.1 h
 obtain⟨hn,hA⟩:=UV.1 h7
 have hL: ∀ l∈ls,l.2.length≤1048576:=fun l hl=>(Vm.1 (hA l hl).2).1
 obtain⟨l1,l2,l3⟩:=ato h2 h3 h4
 obtain⟨w1,w2⟩:=alK nm g ins vs os ls [] (by omega) l2 l3 hn rfl
 obtain⟨t1,t2⟩:=amV vs os ls 0 []
 obtain⟨u1,u2⟩:=axQ nm g ins vs os ls hn hL l1 l2
 obtain⟨r1,r2⟩:=aoh g ins vs l1 l2
 have a4:Lk nm g ins vs os ls= !ls.all (madeB vs os):=by
  simp only [Lk,FF,Sr,w2,t1]
  cases ls.all (madeB vs os) <;> rfl
 have a5:ls.all (madeB vs os)=true→FG nm g ins vs os ls=ls.map Prod.fst:=fun hm=>by
  simp only [FG,FF,Sr,w2,sQ]
  rw [t2 hm];rfl
 have a6:ls.all (madeB vs os)=true→Ss nm g ins vs os ls= !leN (vs.length + os.length) ls.length:=fun hm=>by
  simp only [Ss,a5 hm,List.length_map]
  rw [wrap_i64 (by omega) (by omega),Bool.eq_iff_iff,Sa,Bool.not_eq_true',← Bool.not_eq_true,eN]
  omega
 have e7:(Lp.res fF (Su nm g ins vs os ls)).1=bif !ls.all (fun l=>l.2.all (usedB ins vs))then 0 else 1:=u2
 have e8:Lp.fin fF (Su nm g ins vs os ls)=true:=u1
 have hnil:(g.toList==ByteArray.toList { data:= #[] })=(g.toList== []):=by rw [Sb]
 refine⟨?_,?_⟩
 ·simp only [TJ,zA,CJ,hnil,r1,a4,e7,aww]
  cases hm:ls.all (madeB vs os)with
  |false=>
   have hm2:(ls.all fun l=>lY vs l.1||lY os l.1)=false:=hm
   rw [hm2]
   generalize vt (ins++vs++os)=p1
   generalize (g.toList== [])=p2
   generalize SD ins vs g=p3
   cases p1 <;> cases p2 <;> cases p3 <;> rfl
  |true=>
   have hm2:(ls.all fun l=>lY vs l.1||lY os l.1)=true:=hm
   rw [hm2,a5 hm,a6 hm]
   generalize vt (ins++vs++os)=p1
   generalize (g.toList== [])=p2
   generalize SD ins vs g=p3
   generalize vt (ls.map Prod.fst)=p4
   generalize leN (vs.length + os.length) ls.length=p5
   generalize (ls.all fun l=>l.2.all (usedB ins vs))=p6
   cases p1 <;> cases p2 <;> cases p3 <;> cases p4 <;> cases p5 <;> cases p6 <;> rfl
 ·have f1:leN (ins.length + vs.length + os.length) 2000000=true:=aY h6
  have f2:leN (ins++vs++os).length 9223372036854775807=true:=aY (by simp;omega)
  have f3:Lp.fin eO (FF nm g ins vs os ls)=true:=w1
  simp only [TK,zA,CJ,f1,f2,f3,r2,a4,e8,allT,j7,cond_true]
  cases hm:ls.all (madeB vs os)with
  |false=>simp
  |true=>
   have f4:leN (ls.map Prod.fst).length 9223372036854775807=true:=aY (by rw [List.length_map];omega)
   rw [a5 hm,f4]
   simp
def dP(b:aAi×(aor)):(List aAi)→Nat ⊕ (List aAi)
 |a=>(.inr (a++([b.1])))
def cJ(a:aiJ)(i:Nat):(List aAi)→bF
 |b=>((i:Int),(↑a.length:Int),a,b)
def qP:bF→List aAi
 |(_,_,_,a)=>a
theorem Mj(c:aiJ)(e:List aAi)(hn:c.length≤9223372036854775807)(hN:c.length≤1048576)(h3:e.length=0):
  aq.fin ((0:Int),(↑c.length:Int),c,e)=true∧aq.res ((0:Int),(↑c.length:Int),c,e)=((bz (dP) 0 c 0 e).1,(cJ c) (bz (dP) 0 c 0 e).2.1 (bz (dP) 0 c 0 e).2.2):=by
 have oe:=aq.along (cJ c) qP (dP) 0 (fun i a=>a.length=i) c e h3 (by simp only [aq,cJ];omega) (fun i b a hb hI=> ?_) (fun a hI=> ?_)
 ·exact oe
 ·obtain e:=a
  have hlt:=(j9.1 hb).1
  have nk: ∀ d,k9 c[i]? d=b:=fun d=>by rw [hb];rfl
  have hw:=Bv hlt hn
  have gr:ltI (i:Int) (c.length:Int)=true:=dL (by omega)
  have LW:leI (0:Int) (i:Int)=true:=bx (by omega)
  have sd:ltN i c.length=true:=er hlt
  refine⟨?_,?_,?_,?_⟩
  ·have hg2:bV (i:Int) c= [b.1]:=by simp only [bV,q9];exact congrArg (fun z:LN=> [z.1]) (nk _)
   have l1: ∀ s:aAi,leN (a.length + k8 [s]) 9223372036854775807=true:=fun s=>aY (by rw [w5];omega)
   have l2: ∀ s:aAi,leN ((a.length + k8 [s]) * 16) 140737488355328=true:=fun s=>aY (by rw [w5];omega)
   simp only [gN,gO,gP,gQ,gR,gS,gT,gU,gy,aq,LT.nds,allT,cJ,gr,LW,sd,hg2,l1,l2,q9,cond_true,Bool.and_self]
  ·simp [bV,gN,gO,gP,gQ,gR,gS,gT,gU,gy,aq,LT.each,cJ,qP,hw]
  ·have hg2:bV (i:Int) c= [b.1]:=by simp only [bV,q9];exact congrArg (fun z:LN=> [z.1]) (nk _)
   simp only [gN,gO,gP,gQ,gR,gS,gT,gU,gy,aq,LT.fn,cJ,qP,dP,gr,hg2,cond_true]
  ·intro a' hf
   simp only [dP,Sum.inr.injEq]at hf
   subst hf;simp [hI]
 ·obtain e:=a
  simp [bV,gN,gO,gP,gQ,gR,gS,gT,gU,gy,aq,LT.out,cJ]
theorem as6: ∀ (ls:List LN) (acc:List aAi),ls.foldl (fun a l=>a++ [l.1]) acc=acc++ls.map Prod.fst
 | [],acc=>by simp
 |l::r,acc=>by rw [List.foldl_cons,as6 r];simp
def iJ(a:List aAi)(b:aAi):(Unit)→Nat ⊕ (Unit)
 |_=>(bif(oR b a)then(.inl 0)else(.inr ()))
def di(a b:List aAi)(i:Nat):(Unit)→bQ
 |_=>((i:Int),(↑a.length:Int),a,b)
def rO:bQ→Unit
 |(_,_,_,_)=>()
theorem NX(c e:List aAi) (hn:c.length≤9223372036854775807) (hm:leN e.length 9223372036854775807=true):
  ao.fin ((0:Int),(↑c.length:Int),c,e)=true∧ao.res ((0:Int),(↑c.length:Int),c,e)=((bz (iJ e) 1 c 0 ()).1,(di c e) (bz (iJ e) 1 c 0 ()).2.1 (bz (iJ e) 1 c 0 ()).2.2):=by
 have oe:=ao.along (di c e) rO (iJ e) 1 (fun _ _=>True) c () (by trivial) (by simp only [ao,di];omega) (fun i b a hb hI=> ?_) (fun a hI=> ?_)
 ·exact oe
 ·obtain⟨⟩:=a
  have hlt:=(j9.1 hb).1
  have nk: ∀ d,k9 c[i]? d=b:=fun d=>by rw [hb];rfl
  have hw:=Bv hlt hn
  have gr:ltI (i:Int) (c.length:Int)=true:=dL (by omega)
  have LW:leI (0:Int) (i:Int)=true:=bx (by omega)
  have sd:ltN i c.length=true:=er hlt
  refine⟨?_,?_,?_,?_⟩
  ·have h4:fA e=true:=by simp only [fA,oS,hm,allT,cond_true]
   simp only [iT,iU,iV,iW,iy,ao,LT.nds,allT,di,h4,gr,LW,sd,q9,cond_true,Bool.and_self]
   cases iX (i:Int) c e <;> simp [LT.nds]
  ·simp [iT,iU,iV,iW,fA,iX,mY,iy,ao,LT.each,di,rO,hw]
  ·simp only [iT,iU,iV,iW,fA,iX,mY,iy,ao,LT.fn,di,rO,iJ,q9,gr,LW,sd,nk,cond_true,j8]
  ·exact fun _ _=>trivial
 ·obtain⟨⟩:=a
  simp [iT,iU,iV,iW,fA,iX,mY,iy,ao,LT.out,di]
def iK(a:List aAi)(b:aAi):(Unit)→Nat ⊕ (Unit)
 |_=>(bif(oT b a)then(.inl 0)else(.inr ()))
def dj(a b:List aAi)(i:Nat):(Unit)→bR
 |_=>((i:Int),(↑a.length:Int),a,b)
def rP:bR→Unit
 |(_,_,_,_)=>()
theorem NY(c e:List aAi) (hn:c.length≤9223372036854775807) (hm:leN e.length 9223372036854775807=true):
  ap.fin ((0:Int),(↑c.length:Int),c,e)=true∧ap.res ((0:Int),(↑c.length:Int),c,e)=((bz (iK e) 1 c 0 ()).1,(dj c e) (bz (iK e) 1 c 0 ()).2.1 (bz (iK e) 1 c 0 ()).2.2):=by
 have oe:=ap.along (dj c e) rP (iK e) 1 (fun _ _=>True) c () (by trivial) (by simp only [ap,dj];omega) (fun i b a hb hI=> ?_) (fun a hI=> ?_)
 ·exact oe
 ·obtain⟨⟩:=a
  have hlt:=(j9.1 hb).1
  have nk: ∀ d,k9 c[i]? d=b:=fun d=>by rw [hb];rfl
  have hw:=Bv hlt hn
  have gr:ltI (i:Int) (c.length:Int)=true:=dL (by omega)
  have LW:leI (0:Int) (i:Int)=true:=bx (by omega)
  have sd:ltN i c.length=true:=er hlt
  refine⟨?_,?_,?_,?_⟩
  ·have h4:fB e=true:=by simp only [fB,oU,hm,allT,cond_true]
   simp only [iY,iZ,ja,jb,iz,ap,LT.nds,allT,dj,h4,gr,LW,sd,q9,cond_true,Bool.and_self]
   cases je (i:Int) c e <;> simp [LT.nds]
  ·simp [iY,iZ,ja,jb,fB,je,mZ,iz,ap,LT.each,dj,rP,hw]
  ·simp only [iY,iZ,ja,jb,fB,je,mZ,iz,ap,LT.fn,dj,rP,iK,q9,gr,LW,sd,nk,cond_true,j8]
  ·exact fun _ _=>trivial
 ·obtain⟨⟩:=a
  simp [iY,iZ,ja,jb,fB,je,mZ,iz,ap,LT.out,dj]
theorem ayJ(a b:List aAi)(ha:leN a.length 9223372036854775807=true)(hb:leN b.length 9223372036854775807=true):
  ep a b=(a.any fun s=> !lY b s)∧dr a b=a∧mU a b=b∧mV a b=true:=by
 obtain⟨w1,w2⟩:=NX a b (eN.1 ha) hb
 rw [lA (P:=fun s=> !lY b s) (j:=0) (fun s=>rfl)]at w2
 refine⟨?_,j8 _ _,j8 _ _,?_⟩
 ·simp only [ep,uP,jX,oN,w2,di]
  cases (a.any fun s=> !lY b s) <;> simp [Nat.beq,acD.1,acD.2]
 ·simp only [mV,uQ,jX,w1,allT,cond_true]
theorem ayK(a b:List aAi)(ha:leN a.length 9223372036854775807=true)(hb:leN b.length 9223372036854775807=true):
  mW a b=(a.any fun s=> !lY b s)∧Bo a b=a∧Bp a b=b∧mX a b=true:=by
 obtain⟨w1,w2⟩:=NY a b (eN.1 ha) hb
 rw [lA (P:=fun s=> !lY b s) (j:=0) (fun s=>rfl)]at w2
 refine⟨?_,j8 _ _,j8 _ _,?_⟩
 ·simp only [mW,uR,jY,oO,w2,dj]
  cases (a.any fun s=> !lY b s) <;> simp [Nat.beq,acD.1,acD.2]
 ·simp only [mX,uS,jY,w1,allT,cond_true]
def hY(a c:List aAi)(b:Int×(aAi×Int)):(Unit)→Nat ⊕ (Unit)
 |_=>(bif(gg b.1 (b.2.1) a c)then(.inl 0)else(.inr ()))
def dZ(a b:aAi)(c:aor)(d e f:List aAi)(g:aiJ)(i:Nat):(Unit)→cD
 |_=>((i:Int),(↑c.length:Int),a,b,c,d,e,f,g)
def uG:cD→Unit
 |(_,_,_,_,_,_,_,_,_)=>()
theorem SA(c e:aAi)(f:aor)(g j k:List aAi)(l:aiJ) (hn:f.length≤9223372036854775807) (h5:leN g.length 9223372036854775807=true) (h6:leN j.length 9223372036854775807=true):
  aL.fin ((0:Int),(↑f.length:Int),c,e,f,g,j,k,l)=true∧aL.res ((0:Int),(↑f.length:Int),c,e,f,g,j,k,l)=((bz (hY g j) 1 f 0 ()).1,(dZ c e f g j k l) (bz (hY g j) 1 f 0 ()).2.1 (bz (hY g j) 1 f 0 ()).2.2):=by
 have oe:=aL.along (dZ c e f g j k l) uG (hY g j) 1 (fun _ _=>True) f () (by trivial) (by simp only [aL,dZ];omega) (fun i b a hb hI=> ?_) (fun a hI=> ?_)
 ·exact oe
 ·obtain⟨⟩:=a
  have hlt:=(j9.1 hb).1
  have nk: ∀ d,k9 f[i]? d=b:=fun d=>by rw [hb];rfl
  have hw:=Bv hlt hn
  have gr:ltI (i:Int) (f.length:Int)=true:=dL (by omega)
  have LW:leI (0:Int) (i:Int)=true:=bx (by omega)
  have sd:ltN i f.length=true:=er hlt
  refine⟨?_,?_,?_,?_⟩
  ·have hg2:ct (i:Int) f=b:=by simp only [ct,q9];exact nk _
   have h4:lu (i:Int) f g j=true:=by simp only [lu,lH,h5,h6,allT,j7,cond_true]
   simp only [lr,qg,qh,qi,kG,aL,LT.nds,allT,dZ,h4,gr,LW,sd,q9,cond_true,Bool.and_self]
   cases lv (i:Int) f g j <;> simp [LT.nds]
  ·simp [ct,lr,qg,qh,qi,lu,lv,vZ,kG,aL,LT.each,dZ,uG,hw]
  ·have hg2:ct (i:Int) f=b:=by simp only [ct,q9];exact nk _
   simp only [lr,lv,kG,aL,LT.fn,dZ,uG,hY,gr,hg2,cond_true]
  ·exact fun _ _=>trivial
 ·obtain⟨⟩:=a
  simp [ct,lr,qg,qh,qi,lu,lv,vZ,kG,aL,LT.out,dZ]
theorem aqx(u v:aAi)(ins vs os:List aAi)(ls:List LN)(ts:List TM)(hn:ts.length≤1048576)(h1:leN ins.length 9223372036854775807=true)(h2:leN vs.length 9223372036854775807=true):
  eJ u v ins vs os ls ts= !ts.all (usedB ins vs)∧gD u v ins vs os ls ts=true:=by
 obtain⟨w1,w2⟩:=SA u v ts ins vs os ls (by omega) h1 h2
 rw [lA (P:=fun b=> !usedB ins vs b) (j:=0) (fun b=>by
  simp only [hY,gg,kN,usedB,SD]
  cases b.1==1 <;> cases lY ins b.2.1 <;> cases lY vs b.2.1 <;> rfl),afn]at w2
 refine⟨?_,?_⟩
 ·simp only [eJ,vU,yO,mu,rc,w2,dZ]
  cases ts.all (usedB ins vs) <;> simp [Nat.beq,acD.1,acD.2]
 ·simp only [gD,vV,yP,mu,w1,allT,cond_true]
def gZ(a c:aAi)(d e f:List aAi)(g:aiJ)(b:aAi×(aor)):(Unit)→Nat ⊕ (Unit)
 |_=>(bif(eJ a c d e f g b.2)then(.inl 0)else(.inr ()))
def dX(a b:aAi)(c d e:List aAi)(f:aiJ)(i:Nat):(Unit)→cB
 |_=>((i:Int),(↑f.length:Int),a,b,c,d,e,f)
def uE:cB→Unit
 |(_,_,_,_,_,_,_,_)=>()
theorem Sy(c e:aAi)(f g j:List aAi)(k:aiJ) (hn:k.length≤9223372036854775807) (hL: ∀ l∈k,l.2.length≤1048576) (h4:leN f.length 9223372036854775807=true) (h5:leN g.length 9223372036854775807=true):
  aJ.fin ((0:Int),(↑k.length:Int),c,e,f,g,j,k)=true∧aJ.res ((0:Int),(↑k.length:Int),c,e,f,g,j,k)=((bz (gZ c e f g j k) 1 k 0 ()).1,(dX c e f g j k) (bz (gZ c e f g j k) 1 k 0 ()).2.1 (bz (gZ c e f g j k) 1 k 0 ()).2.2):=by
 have oe:=aJ.along (dX c e f g j k) uE (gZ c e f g j k) 1 (fun _ _=>True) k () (by trivial) (by simp only [aJ,dX];omega) (fun i b a hb hI=> ?_) (fun a hI=> ?_)
 ·exact oe
 ·obtain⟨⟩:=a
  have hlt:=(j9.1 hb).1
  have nk: ∀ d,k9 k[i]? d=b:=fun d=>by rw [hb];rfl
  have hw:=Bv hlt hn
  have gr:ltI (i:Int) (k.length:Int)=true:=dL (by omega)
  have LW:leI (0:Int) (i:Int)=true:=bx (by omega)
  have sd:ltN i k.length=true:=er hlt
  refine⟨?_,?_,?_,?_⟩
  ·have hg2:dU (i:Int) k=b.2:=by simp only [dU,q9];exact congrArg Prod.snd (nk _)
   have k4:lh (i:Int) c e f g j k=true:=by simp only [lh,hg2];exact(aqx c e f g j k b.2 (hL b (List.mem_of_getElem? hb)) h4 h5).2
   simp only [lg,qd,qe,qf,kE,aJ,LT.nds,allT,dX,k4,gr,LW,sd,q9,cond_true,Bool.and_self]
   cases li (i:Int) c e f g j k <;> simp [LT.nds]
  ·simp [dU,lg,qd,qe,qf,lh,li,vY,kE,aJ,LT.each,dX,uE,hw]
  ·have hg2:dU (i:Int) k=b.2:=by simp only [dU,q9];exact congrArg Prod.snd (nk _)
   simp only [lg,li,kE,aJ,LT.fn,dX,uE,gZ,gr,hg2,cond_true]
  ·exact fun _ _=>trivial
 ·obtain⟨⟩:=a
  simp [dU,lg,qd,qe,qf,lh,li,vY,kE,aJ,LT.out,dX]
theorem axP(u v:aAi)(ins vs os:List aAi)(ls:List LN)(hN:ls.length≤1048576)(hL: ∀ l∈ls,l.2.length≤1048576)(h1:leN ins.length 9223372036854775807=true)(h2:leN vs.length 9223372036854775807=true):
  pU u v ls ins vs os= !ls.all (fun l=>l.2.all (usedB ins vs))∧pV u v ls ins vs os=true:=by
 obtain⟨w1,w2⟩:=Sy u v ins vs os ls (by omega) hL h1 h2
 rw [adh (g:=fun(b:LN) (_:Unit)=>bif !b.2.all (usedB ins vs)then(.inl 0:Nat ⊕ Unit)else .inr ()) (fun b hb a=>by
  simp only [gZ,(aqx u v ins vs os ls b.2 (hL b hb) h1 h2).1]),lA (P:=fun b:LN=> !b.2.all (usedB ins vs)) (j:=0) (fun b=>rfl),afn]at w2
 refine⟨?_,?_⟩
 ·simp only [pU,yK,mt,w2,dX]
  cases ls.all (fun l=>l.2.all (usedB ins vs)) <;> simp [Nat.beq,acD.1,acD.2]
 ·simp only [pV,yL,mt,w1,allT,cond_true]
theorem ar5(nm:aAi)(ins vs os:List aAi)(g:aAi)(ls:List LN)(h:adZ nm ins vs os g ls=true):
  (nE nm g ins vs os ls==0)=aww ins vs os g ls∧nF nm g ins vs os ls=true:=by
 obtain⟨h1,h2,h3,h4,h5,h6,h7⟩:=Wa.1 h
 obtain⟨hn,hA⟩:=UV.1 h7
 have hL: ∀ l∈ls,l.2.length≤1048576:=fun l hl=>(Vm.1 (hA l hl).2).1
 obtain⟨l1,l2,l3⟩:=ato h2 h3 h4
 obtain⟨w1,w2⟩:=Mj ls [] (by omega) hn rfl
 rw [Xa (f:=dP) (g:=fun a (l:LN)=>a++ [l.1]) (fun b a=>rfl),as6]at w2
 have a3:au ls=ls.map Prod.fst:=by
  simp only [au,mP,w2,cJ,List.nil_append]
 have a4:aw vs os=vs++os:=by simp [aw]
 have n0:bE ins vs os=ins++vs++os:=by simp [bE,iL]
 have k1:leN (ls.map Prod.fst).length 9223372036854775807=true:=aY (by rw [List.length_map];omega)
 have k2:leN (vs++os).length 9223372036854775807=true:=aY (by rw [j6];omega)
 obtain⟨s1,s2,s3,s4⟩:=ayJ (ls.map Prod.fst) (vs++os) k1 k2
 obtain⟨v1,v2,v3,v4⟩:=ayK (vs++os) (ls.map Prod.fst) k2 k1
 obtain⟨u1,u2⟩:=axP nm g ins vs os ls hn hL l1 l2
 have hnil:(g.toList==ByteArray.toList { data:= #[] })=(g.toList== []):=by rw [Sb]
 have hmade:((ls.map Prod.fst).any fun s=> !lY (vs++os) s)= !ls.all (fun l=>lY vs l.1||lY os l.1):=by
  rw [afn,List.all_map]
  congr 2
  funext l
  simp only [Function.comp,an1]
 have a5:mQ vs os ls=(vs++os).any fun s=> !lY (ls.map Prod.fst) s:=by
  simp only [mQ,a3,a4,s2,s3,v1]
 refine⟨?_,?_⟩
 ·simp only [nE,n0,ft,mO,hnil,a3,a4,s1,s2,u1,hmade,a5,aww,SD]
  cases p1:vt (ins++vs++os)with
  |true=>rfl
  |false=>
   cases p3:(ls.all fun l=>lY vs l.1||lY os l.1)with
   |false=>
    generalize (g.toList== [])=q1
    generalize lY ins g=q2
    generalize lY vs g=q3
    cases q1 <;> cases q2 <;> cases q3 <;> rfl
   |true=>
    cases p4:vt (ls.map Prod.fst)with
    |true=>
     generalize (g.toList== [])=q1
     generalize lY ins g=q2
     generalize lY vs g=q3
     cases q1 <;> cases q2 <;> cases q3 <;> rfl
    |false=>
     rw [axr p1 p3 p4]
     generalize (g.toList== [])=q1
     generalize lY ins g=q2
     generalize lY vs g=q3
     generalize leN (vs.length + os.length) ls.length=q4
     generalize (ls.all fun l=>l.2.all (usedB ins vs))=q5
     cases q1 <;> cases q2 <;> cases q3 <;> cases q4 <;> cases q5 <;> rfl
 ·have f1:Lp.fin aq (mP ls)=true:=w1
  have f2:(leN [vs,os].length 1000&&leN (NV [vs,os]) 2000000)=true:=by
   rw [q8];exact⟨rfl,aY (by simp [NV];omega)⟩
  have f3:nG ins vs os=true:=by
   have:(leN [ins,vs,os].length 1000&&leN (NV [ins,vs,os]) 2000000)=true:=by
    rw [q8];exact⟨rfl,aY (by simp [NV];omega)⟩
   simp only [nG,iL,this,allT,cond_true]
  have f4:leN (ins++vs++os).length 9223372036854775807=true:=aY (by simp;omega)
  simp only [nF,f1,f2,f3,n0,f4,a3,a4,s2,s3,s4,v2,v3,v4,u2,l1,l2,k1,k2,allT,j7,cond_true]
def gj(nm:aAi)(ins vs os:List aAi)(g:aAi)(ls:List LN):Bool:=aoo nm ins vs os g ls&&aww ins vs os g ls
theorem asz(nm:aAi)(ins vs os:List aAi)(g:aAi)(ls:List LN)(h:adZ nm ins vs os g ls=true):
  abv nm g ins vs os ls=gj nm ins vs os g ls∧abw nm g ins vs os ls=true:=by
 obtain⟨a1,a2⟩:=aql nm ins vs os g ls h
 obtain⟨b1,b2⟩:=asx nm ins vs os g ls h
 simp only [abv,abw,a1,a2,b1,b2,gj,allT,j7,cond_true,and_true]
 cases aoo nm ins vs os g ls <;> rfl
theorem ar6(nm:aAi)(ins vs os:List aAi)(g:aAi)(ls:List LN)(h:adZ nm ins vs os g ls=true):
  aaS nm g ins vs os ls=gj nm ins vs os g ls∧aaT nm g ins vs os ls=true:=by
 obtain⟨a1,a2⟩:=apx nm ins vs os g ls h
 obtain⟨b1,b2⟩:=ar5 nm ins vs os g ls h
 simp only [aaS,aaT,a1,a2,b1,b2,gj,allT,j7,cond_true,and_true]
 cases aoo nm ins vs os g ls <;> rfl
def ahD:aAj
 | [.one ⟨true,[.val (.string a),.ref 0,.ref 1,.ref 2,.val (.string b),.ref 3]⟩],[.row false 9 (.str) c,.row false 9 (.str) d,.row false 9 (.str) e,.row false 91 (.pair (.str) (.sl 66 (.pair (.int .i64) (.pair (.str) (.int .i64))))) f]=>some ⟨aAl (.val (.bool (gj a c d e b f))),[aAn c,aAn d,aAn e,aAt f],[],[adZ a c d e b f]⟩
 |_,_=>none
def nr:PF prog:=PF.alt ap1 ahD (by
 intro args es o h cL;unfold ahD at h;split at h
 ·rename_i a b c d e f
  cases h
  have cL:=kO cL
  have hh:=asz a c d e b f cL
  obtain⟨e0,en⟩:=hh
  exact qm rfl (jv en) (by simp only [e0] <;> rfl) rfl rfl
 ·cases h)
def ahA:aAj
 | [.one ⟨true,[.val (.string a),.ref 0,.ref 1,.ref 2,.val (.string b),.ref 3]⟩],[.row false 9 (.str) c,.row false 9 (.str) d,.row false 9 (.str) e,.row false 91 (.pair (.str) (.sl 66 (.pair (.int .i64) (.pair (.str) (.int .i64))))) f]=>some ⟨aAl (.val (.bool (gj a c d e b f))),[aAn c,aAn d,aAn e,aAt f],[],[adZ a c d e b f]⟩
 |_,_=>none
def abh:PF prog:=PF.alt apX ahA (by
 intro args es o h cL;unfold ahA at h;split at h
 ·rename_i a b c d e f
  cases h
  have cL:=kO cL
  have hh:=ar6 a c d e b f cL
  obtain⟨e0,en⟩:=hh
  exact qm rfl (jv en) (by simp only [e0] <;> rfl) rfl rfl
 ·cases h)
section
variable (a b c:Int)(d:aoQ)(e f g i j:avu)(k:at0)
def kT:Int:=k9 e[k7 0]? 0
def cH:Int×aAi×Int:=k9 d[k7 b]? ((0:Int),ByteArray.empty,(0:Int))
def aS:Int×Int×Int:=k9 k[k7 b]? ((0:Int),(0:Int),(0:Int))
def bB:Bool:=a==1||(a==2||(a==3||(a==4||(a==5||(a==6||leI 0 b)))))
def bT:Bool:=a==1||(a==2||(a==3||(a==4||(a==5||(a==6||ltI b (↑k.length:Int))))))
def bU:Bool:=a==1||(a==2||(a==3||(a==4||(a==5||(a==6||ltN b.toNat k.length)))))
def bG:Int:=bif a==1 then b else bif a==2 then k9 f[k7 b]? 0 else bif a==3 then k9 i[k7 b]? 0 else bif a==4 then v5 .i64 ((1:Int) - kT e)else bif a==5 then v5 .i64 (↑(BitVec.toNat (BitVec.ofInt (IntKind.bits IntKind.i64) (kT e)&&& BitVec.ofInt (IntKind.bits IntKind.i64) (k9 e[k7 1]? 0))):Int)else bif a==6 then v5 .i64 (↑(BitVec.toNat (BitVec.ofInt (IntKind.bits IntKind.i64) (kT e)||| BitVec.ofInt (IntKind.bits IntKind.i64) (k9 e[k7 1]? 0))):Int)else HW ((cH b d).1) ((cH b d).2.2) ((aS b k).1) (((aS b k).2).1) ((aS b k).2.2) e
def rf:Int:=bif a==1 then c else bif a==2 then c else bif a==3 then c else bif a==4 then c else bif a==5 then c else bif a==6 then c else c
def rg:avu:=bif a==1 then e else bif a==2 then e else bif a==3 then e else bif a==4 then e else bif a==5 then e else bif a==6 then e else e
def rh:avu:=bif a==1 then g else bif a==2 then g else bif a==3 then g else bif a==4 then g else bif a==5 then g else bif a==6 then g else g
def rj:avu:=bif a==1 then i else bif a==2 then i else bif a==3 then i else bif a==4 then i else bif a==5 then i else bif a==6 then i else i
def rk:avu:=bif a==1 then j else bif a==2 then j else bif a==3 then j else bif a==4 then j else bif a==5 then j else bif a==6 then j else j
def gM:as9:=bif a==1 then k else bif a==2 then k else bif a==3 then k else bif a==4 then k else bif a==5 then k else bif a==6 then k else List.set k b.toNat (Fy ((cH b d).1) ((cH b d).2.2) ((aS b k).1) (((aS b k).2).1) ((aS b k).2.2) e,Fz ((cH b d).1) (((aS b k).2).1) ((aS b k).2.2) e,FA ((cH b d).1) ((cH b d).2.2) ((aS b k).1) (((aS b k).2).1) ((aS b k).2.2) e)
def ad:Bool:=allT [a==1||(!a==2||leI 0 b),a==1||(!a==2||ltI b (↑f.length:Int)),a==1||(!a==2||ltN b.toNat f.length),a==1||(a==2||(!a==3||leI 0 b)),a==1||(a==2||(!a==3||ltI b (↑i.length:Int))),a==1||(a==2||(!a==3||ltN b.toNat i.length)),a==1||(a==2||(a==3||(!a==4||leI 0 0))),a==1||(a==2||(a==3||(!a==4||ltI 0 (↑e.length:Int)))),a==1||(a==2||(a==3||(!a==4||ltN (k7 0) e.length))),a==1||(a==2||(a==3||(a==4||(!a==5||leI 0 0)))),a==1||(a==2||(a==3||(a==4||(!a==5||ltI 0 (↑e.length:Int))))),a==1||(a==2||(a==3||(a==4||(!a==5||ltN (k7 0) e.length)))),a==1||(a==2||(a==3||(a==4||(!a==5||leI 0 1)))),a==1||(a==2||(a==3||(a==4||(!a==5||ltI 1 (↑e.length:Int))))),a==1||(a==2||(a==3||(a==4||(!a==5||ltN (k7 1) e.length)))),a==1||(a==2||(a==3||(a==4||(a==5||(!a==6||leI 0 0))))),a==1||(a==2||(a==3||(a==4||(a==5||(!a==6||ltI 0 (↑e.length:Int)))))),a==1||(a==2||(a==3||(a==4||(a==5||(!a==6||ltN (k7 0) e.length))))),a==1||(a==2||(a==3||(a==4||(a==5||(!a==6||leI 0 1))))),a==1||(a==2||(a==3||(a==4||(a==5||(!a==6||ltI 1 (↑e.length:Int)))))),a==1||(a==2||(a==3||(a==4||(a==5||(!a==6||ltN (k7 1) e.length))))),bB a b,a==1||(a==2||(a==3||(a==4||(a==5||(a==6||ltI b (↑d.length:Int)))))),a==1||(a==2||(a==3||(a==4||(a==5||(a==6||ltN b.toNat d.length))))),bB a b,bT a b k,bU a b k,a==1||(a==2||(a==3||(a==4||(a==5||(a==6||HX e))))),bB a b,bT a b k,bU a b k]
end
def zR:aAj
 | [.one ⟨false,[.ptr 0 0]⟩,.one ⟨true,[.val (.int .i64 _x0),.val (.int .i64 _x1),.val (.int .i64 _x2),.ref 1,.ref 2]⟩,.one ⟨true,[.val (.int .i64 a),.val (.int .i64 b)]⟩,.one ⟨false,[.ref 3]⟩,.one ⟨false,[.ref 4]⟩],[.box 109 [.val (.int .i64 c),.ref 5,.ref 6,.ref 7,.ref 8],.row false 66 (.pair (.int .i64) (.pair .str (.int .i64))) d,.row false 60 (.pair (.int .i64) (.int .i64)) e,.row true 2 (.int .i64) f,.row false 2 (.int .i64) g,.row true 2 (.int .i64) i,.row true 2 (.int .i64) j,.row true 2 (.int .i64) k,.row true 84 (.pair (.int .i64) (.pair (.int .i64) (.int .i64))) l]=>some ⟨aAm (bG a b d f g j l),[.box 109 [aAk (rf a c),.ref 5,.ref 6,.ref 7,.ref 8],aAp d,aAx e,aAo (rg a f),aAq g,aAo (rh a i),aAo (rj a j),aAo (rk a k),aAw (gM a b d f l)],[],[ad a b d f g j l]⟩
 |_,_=>none
def Mi:PF prog:=PF.ofG prog (T3z [aiq]) [] aU 139 f139 func139 (fun c _=>LOk.nil c) zR (by
 intro _ _ _ h;unfold zR at h;split at h<;>cases h;kernel_rfl)
section
variable (a b:Int)(c d e f:avu)
def qy:Int:=k9 c[k7 0]? 0
def qK:avu:=bif a==8 then List.set e b.toNat (qy c)else e
def kU:avu:=bif a==8 then f else bif a==9 then List.set f b.toNat (qy c)else bif a==10 then bif k9 d[k7 b]? 0==0 then adi f.length else f else bif a==11 then bif k9 e[k7 b]? 0==0 then adi f.length else f else f
def bC:Bool:=allT [!a==8||leI 0 0,!a==8||ltI 0 (↑c.length:Int),!a==8||ltN (k7 0) c.length,!a==8||leI 0 b,!a==8||ltI b (↑e.length:Int),!a==8||ltN b.toNat e.length,a==8||(!a==9||leI 0 0),a==8||(!a==9||ltI 0 (↑c.length:Int)),a==8||(!a==9||ltN (k7 0) c.length),a==8||(!a==9||leI 0 b),a==8||(!a==9||ltI b (↑f.length:Int)),a==8||(!a==9||ltN b.toNat f.length),a==8||(a==9||(!a==10||leI 0 b)),a==8||(a==9||(!a==10||ltI b (↑d.length:Int))),a==8||(a==9||(!a==10||ltN b.toNat d.length)),a==8||(a==9||(a==10||(!a==11||leI 0 b))),a==8||(a==9||(a==10||(!a==11||ltI b (↑e.length:Int)))),a==8||(a==9||(a==10||(!a==11||ltN b.toNat e.length)))]
end
def yT:aAj
 | [.one ⟨false,[.ptr 0 0]⟩,.one ⟨true,[.val (.int .i64 a),.val (.int .i64 b)]⟩,.one ⟨false,[.ref 1]⟩,.one ⟨false,[.ref 2]⟩],[.box 109 [.val (.int .i64 c),.ref 3,.ref 4,.ref 5,.ref 6],.row true 2 (.int .i64) d,.row false 2 (.int .i64) e,.row true 2 (.int .i64) f,.row true 2 (.int .i64) g,.row true 2 (.int .i64) i,.row true 84 (.pair (.int .i64) (.pair (.int .i64) (.int .i64))) j]=>some ⟨.tup [],[.box 109 [aAk c,.ref 3,.ref 4,.ref 5,.ref 6],aAo d,aAq e,aAo f,aAo (qK a b d g),aAo (kU a b d e g i),aAw j],[],[bC a b d e g i]⟩
 |_,_=>none
def Lb:PF prog:=PF.ofG prog [] [] aU 140 f140 func140 (fun c _=>LOk.nil c) yT (by
 intro _ _ _ h;unfold yT at h;split at h<;>cases h;kernel_rfl)
def vD(a:auv):Int:=(↑a.length:Int)
def Kt:aAj
 | [.one ⟨false,[.ref 0]⟩],[.row false 60 (.pair (.int .i64) (.int .i64)) a]=>some ⟨aAm (vD a),[aAx a],[],[]⟩
 |_,_=>none
def vG:PF prog:=PF.ofG prog [] [] aU 109 f109 func109 (fun c _=>LOk.nil c) Kt (by
 intro _ _ _ h;unfold Kt at h;split at h<;>cases h;kernel_rfl)
def SI(a:avu):Int:=(↑a.length:Int)
def ZS:aAj
 | [.one ⟨false,[.ref 0]⟩],[.row false 2 (.int .i64) a]=>some ⟨aAm (SI a),[aAq a],[],[]⟩
 |_,_=>none
def ZZ:PF prog:=PF.ofG prog [] [] aU 138 f138 func138 (fun c _=>LOk.nil c) ZS (by
 intro _ _ _ h;unfold ZS at h;split at h<;>cases h;kernel_rfl)
theorem ayb(a b c:Int)(d:List TM)(e f g i j:avu)(k:List BS3)(h:ad a b d e f i k=true):
  rf a c=c∧rg a e=e∧rh a g=g∧rj a i=i∧rk a j=j∧ad a b d e f i k=true:=
 ⟨by simp only [rf,j8],by simp only [rg,j8],by simp only [rh,j8],by simp only [rj,j8],by simp only [rk,j8],h⟩
def lP:aAj
 | [.one ⟨false,[.ptr 0 0]⟩,.one ⟨true,[.val (.int .i64 _x0),.val (.int .i64 _x1),.val (.int .i64 _x2),.ref 1,.ref 2]⟩,.one ⟨true,[.val (.int .i64 a),.val (.int .i64 b)]⟩,.one ⟨false,[.ref 3]⟩,.one ⟨false,[.ref 4]⟩],[.box 109 [.val (.int .i64 c),.ref 5,.ref 6,.ref 7,.ref 8],.row false 66 (.pair (.int .i64) (.pair .str (.int .i64))) d,.row false 60 (.pair (.int .i64) (.int .i64)) e,.row true 2 (.int .i64) f,.row false 2 (.int .i64) g,.row true 2 (.int .i64) i,.row true 2 (.int .i64) j,.row true 2 (.int .i64) k,.row true 84 (.pair (.int .i64) (.pair (.int .i64) (.int .i64))) l]=>some ⟨aAm (bG a b d f g j l),[.box 109 [aAk c,.ref 5,.ref 6,.ref 7,.ref 8],aAp d,aAx e,aAo f,aAq g,aAo i,aAo j,aAo k,aAw (gM a b d f l)],[],[ad a b d f g j l]⟩
 |_,_=>none
def Mg:PF prog:=PF.alt Mi lP (by
 intro args es o h cL;unfold lP at h;split at h
 ·rename_i _x0 _x1 _x2 a b c d e f g i j k l
  cases h
  have cL:=kO cL
  have hh:=ayb a b c d f g i j k l cL
  obtain⟨e1,e2,e3,e4,e5,en⟩:=hh
  exact qm rfl (jv en) rfl (by simp only [e1,e2,e3,e4,e5] <;> rfl) rfl
 ·cases h)
def azf:PF prog:=PF.kept Mg [0] (by
 intro args es o h
 have h:lP args es=some o:=h
 unfold lP at h;split at h
 ·cases h;exact List.forall_mem_cons.2 ⟨rfl,fun _ h=>(by cases h)⟩
 ·cases h)
def Ym(a:avu)(b:at0):Bool:=allT [leN a.length (1048576:Nat),leN (0 + k8 b) 9223372036854775807,leN ((0 + k8 b) * 24) 140737488355328]
def ajK:aAj
 | [.one ⟨true,[.ref 0,.ref 1]⟩],[.row false 2 (.int .i64) a,.row false 84 (.pair (.int .i64) (.pair (.int .i64) (.int .i64))) b]=>some ⟨.one ⟨true,[.ref 2,.ref 3]⟩,[aAq a,aAz b],[aAo a,aAw b],[Ym a b]⟩
 |_,_=>none
def Dc:PF prog:=PF.ofG prog (T3z [cM]) [] aU 46 f46 func46 (fun c _=>LOk.nil c) ajK (by
 intro _ _ _ h;unfold ajK at h;split at h<;>cases h;kernel_rfl)
def Bt(a:aAi)(b c:List aAi)(d e:avu):Int:=bif leI 0 (oP b a)then k9 e[k7 (oP b a)]? 0 else k9 d[k7 (oP c a)]? 0
def Bu(a:aAi)(b c:List aAi)(d e:avu):Bool:=allT [leN b.length (9223372036854775807:Nat),!leI 0 (oP b a)||leI 0 (oP b a),!leI 0 (oP b a)||ltI (oP b a) (↑e.length:Int),!leI 0 (oP b a)||ltN (k7 (oP b a)) e.length,leI 0 (oP b a)||leN c.length (9223372036854775807:Nat),leI 0 (oP b a)||leI 0 (oP c a),leI 0 (oP b a)||ltI (oP c a) (↑d.length:Int),leI 0 (oP b a)||ltN (k7 (oP c a)) d.length]
def af3:aAj
 | [.one ⟨true,[.val (.string _x0),.ref 0,.ref 1,.ref 2,.val (.string _x1),.ref 3]⟩,.one ⟨true,[.ref 4,.ref 5]⟩,.one ⟨false,[.ref 6]⟩,.one ⟨false,[.val (.string a)]⟩],[.row false 9 (.str) b,.row false 9 (.str) c,.row false 9 (.str) d,.row false 91 (.pair (.str) (.sl 66 (.pair (.int .i64) (.pair (.str) (.int .i64))))) e,.row false 2 (.int .i64) f,.row false 84 (.pair (.int .i64) (.pair (.int .i64) (.int .i64))) g,.row false 2 (.int .i64) i]=>some ⟨aAm (Bt a b c f i),[aAn b,aAn c,aAn d,aAt e,aAq f,aAz g,aAq i],[],[Bu a b c f i]⟩
 |_,_=>none
def eW:PF prog:=PF.ofG prog (T3z [aX]) [] aU 49 f49 func49 (fun c _=>LOk.nil c) af3 (by
 intro _ _ _ h;unfold af3 at h;split at h<;>cases h;kernel_rfl)
abbrev xt:=Int×Int×List (Int×(aAi×Int))×List Int×aAi×aAi×List Int×List aAi×List aAi×List aAi×List (aAi×(List (Int×(aAi×Int))))×List Int×List (Int×(Int×Int))
section
variable (a b:Int)(c:aor)(d e:avu)(f g:List aAi)(i:avu)(j:as9)
def fH:Int×aAi×Int:=k9 c[k7 a]? ((0:Int),ByteArray.empty,(0:Int))
def Ny:Int:=v5 .i64 ((↑d.length:Int) - fC ((fH a c).1))
def jN:avu:=List.drop (k7 (Ny a c d)) (List.take (k7 (↑d.length:Int)) d)
def Nz:avu:=List.drop (k7 0) (List.take (k7 (Ny a c d)) d)
def bv:Bool:=(fH a c).1==1
def cY:Bool:=(fH a c).1==2
def cZ:Bool:=(fH a c).1==3
def da:Bool:=(fH a c).1==4
def UC:Bool:=ltI 0 (↑(k8 (jN a c d)):Int)
def UD:Bool:=ltN (k7 0) (k8 (jN a c d))
def dD:Bool:=(fH a c).1==5
def aad:Bool:=ltI 1 (↑(k8 (jN a c d)):Int)
def aae:Bool:=ltN (k7 1) (k8 (jN a c d))
def iI:Bool:=(fH a c).1==6
def Tg:Int:=k9 (jN a c d)[k7 0]? 0
def oA:Int×Int×Int:=k9 j[k7 b]? ((0:Int),(0:Int),(0:Int))
def Th:avu:= [bif bv a c then Bt (((fH a c).2).1) f g i e else bif cY a c then(1:Int)else bif cZ a c then(0:Int)else bif da a c then v5 .i64 ((1:Int) - Tg a c d)else bif dD a c then v5 .i64 (↑(BitVec.toNat (BitVec.ofInt (IntKind.bits IntKind.i64) (Tg a c d)&&& BitVec.ofInt (IntKind.bits IntKind.i64) (k9 (jN a c d)[k7 1]? 0))):Int)else bif iI a c then v5 .i64 (↑(BitVec.toNat (BitVec.ofInt (IntKind.bits IntKind.i64) (Tg a c d)||| BitVec.ofInt (IntKind.bits IntKind.i64) (k9 (jN a c d)[k7 1]? 0))):Int)else ge ((fH a c).1) ((fH a c).2.2) ((oA b j).1) (((oA b j).2).1) ((oA b j).2.2) (jN a c d)]
def adc:Bool:=ltI a (↑c.length:Int)
def amL:Bool:=leI 0 a
def amM:Bool:=ltN a.toNat c.length
def ade:Bool:=leI 0 (Ny a c d)
def adf:Bool:=leI (Ny a c d) (↑d.length:Int)
def amN:Bool:=leI (↑d.length:Int) (↑d.length:Int)
def amO:Bool:=leN (k8 (jN a c d)) 1048576
end
def amP:Bool:=leI 0 0
section
variable (a b:Int)(c:aor)(d e:avu)(f g i:List aAi)(j:aiJ)(k:avu)(l:as9)
def amQ:Bool:=leN (k8 (Nz a c d)) 1048576
def amR:Bool:= !bv a c||Bu (((fH a c).2).1) f g k e
def ak9:Bool:=bv a c||(cY a c||(cZ a c||(!da a c||leI 0 0)))
def ala:Bool:=bv a c||(cY a c||(cZ a c||(!da a c||UC a c d)))
def alb:Bool:=bv a c||(cY a c||(cZ a c||(!da a c||UD a c d)))
def alc:Bool:=bv a c||(cY a c||(cZ a c||(da a c||(!dD a c||leI 0 0))))
def ald:Bool:=bv a c||(cY a c||(cZ a c||(da a c||(!dD a c||UC a c d))))
def ale:Bool:=bv a c||(cY a c||(cZ a c||(da a c||(!dD a c||UD a c d))))
def alf:Bool:=bv a c||(cY a c||(cZ a c||(da a c||(!dD a c||leI 0 1))))
def alg:Bool:=bv a c||(cY a c||(cZ a c||(da a c||(!dD a c||aad a c d))))
def alh:Bool:=bv a c||(cY a c||(cZ a c||(da a c||(!dD a c||aae a c d))))
def ali:Bool:=bv a c||(cY a c||(cZ a c||(da a c||(dD a c||(!iI a c||leI 0 0)))))
def alj:Bool:=bv a c||(cY a c||(cZ a c||(da a c||(dD a c||(!iI a c||UC a c d)))))
def alk:Bool:=bv a c||(cY a c||(cZ a c||(da a c||(dD a c||(!iI a c||UD a c d)))))
def alm:Bool:=bv a c||(cY a c||(cZ a c||(da a c||(dD a c||(!iI a c||leI 0 1)))))
def aln:Bool:=bv a c||(cY a c||(cZ a c||(da a c||(dD a c||(!iI a c||aad a c d)))))
def alo:Bool:=bv a c||(cY a c||(cZ a c||(da a c||(dD a c||(!iI a c||aae a c d)))))
def ab1:Bool:=bv a c||(cY a c||(cZ a c||(da a c||(dD a c||(iI a c||leI 0 b)))))
def ab2:Bool:=bv a c||(cY a c||(cZ a c||(da a c||(dD a c||(iI a c||ltI b (↑l.length:Int))))))
def ab3:Bool:=bv a c||(cY a c||(cZ a c||(da a c||(dD a c||(iI a c||ltN b.toNat l.length)))))
def alp:Bool:=bv a c||(cY a c||(cZ a c||(da a c||(dD a c||(iI a c||ma (jN a c d))))))
def alq:Bool:=leN (k8 (Nz a c d) + k8 (Th a b c d e f g k l)) 9223372036854775807
def alr:Bool:=leN ((k8 (Nz a c d) + k8 (Th a b c d e f g k l)) * 8) 140737488355328
def als:Int:=v5 .i64 (a + (1:Int))
def alu:Int:=bif bv a c then b else bif cY a c then b else bif cZ a c then b else bif da a c then b else bif dD a c then b else bif iI a c then b else v5 .i64 (b + (1:Int))
def alv:avu:=Nz a c d++Th a b c d e f g k l
def alw:avu:=bif bv a c then e else e
def alx:List aAi:=bif bv a c then f else f
def aly:List aAi:=bif bv a c then g else g
def alz:List aAi:=bif bv a c then i else i
def alA:aiJ:=bif bv a c then j else j
def alB:avu:=bif bv a c then k else k
def alC:as9:=bif bv a c then l else bif cY a c then l else bif cZ a c then l else bif da a c then l else bif dD a c then l else bif iI a c then l else List.set l b.toNat (jG ((fH a c).1) ((fH a c).2.2) ((oA b l).1) (((oA b l).2).1) ((oA b l).2.2) (jN a c d),jH ((fH a c).1) (((oA b l).2).1) ((oA b l).2.2) (jN a c d),jI ((fH a c).1) ((fH a c).2.2) ((oA b l).1) ((oA b l).2.2) (jN a c d))
end
def akk:xt→List (Nat×SV)
 |(a,b,_,_,_,_,_,_,_,_,_,_,_)=> [(12,(aAm a)),(3,(aAl (.ref 0))),(11,(aAl (.ref 1))),(5,(aAl (.ptr 2 0))),(6,(aAl (.ptr 3 0))),(2,(aAl (.ref 4))),(4,(aAm b))]
def akd:xt→List (Nat×Entry)
 |(_,_,a,b,c,d,e,f,g,i,j,k,l)=> [(0,(aAv a)),(2,(.box 27 [.val (.string c),.ref 5,.ref 6,.ref 7,.val (.string d),.ref 8])),(3,(.box 31 [.ref 9,.ref 10])),(4,(aAo e)),(5,(aAr f)),(6,(aAr g)),(7,(aAr i)),(8,(aAA j)),(9,(aAo k)),(10,(aAw l)),(1,(aAo b))]
def aky:Nat→xt→List (Nat×SV)
 |_,(_,_,_,_,_,_,_,_,_,_,_,_,_)=> [(11,(aAl (.ref 1)))]
def akr:Nat→xt→List (Nat×Entry)
 |_,(_,_,a,b,c,d,e,f,g,i,j,k,l)=> [(0,(aAv a)),(1,(aAo b)),(2,(.box 27 [.val (.string c),.ref 5,.ref 6,.ref 7,.val (.string d),.ref 8])),(3,(.box 31 [.ref 9,.ref 10])),(4,(aAo e)),(5,(aAr f)),(6,(aAr g)),(7,(aAr i)),(8,(aAA j)),(9,(aAo k)),(10,(aAw l))]
def akR:xt→LT xt
 |(a,b,c,d,e,f,g,i,j,k,l,m,n)=> .ite (adc a c) (.need [amL a,adc a c,amM a c] (.need [ade a c d,adf a c d,amN d,amO a c d] (.need [amP,ade a c d,adf a c d,amQ a c d] (.need [amR a c g i j m,ak9 a c,ala a c d,alb a c d,alc a c,ald a c d,ale a c d,alf a c,alg a c d,alh a c d,ali a c,alj a c d,alk a c d,alm a c,aln a c d,alo a c d,ab1 a b c,ab2 a b c n,ab3 a b c n,alp a c d,ab1 a b c,ab2 a b c n,ab3 a b c n] (.need [alq a b c d g i j m n,alr a b c d g i j m n] (.nrm ((als a),alu a b c,c,alv a b c d g i j m n,e,f,alw a c g,alx a c i,aly a c j,alz a c k,alA a c l,alB a c m,(alC a b c d n)) [(0,0),(1,4544),(2,2),(3,3),(4,4),(5,5),(6,6),(7,7),(8,8),(9,9),(10,10)])))))) (.ext 0 [(0,0),(1,1),(2,2),(3,3),(4,4),(5,5),(6,6),(7,7),(8,8),(9,9),(10,10)])
def Ur(s:St):Option xt:=do
 let some ⟨none,.one ⟨false,[.val (.int .i64 a)]⟩⟩:=s.look 12|none
 let some ⟨none,.one ⟨false,[.ref 7]⟩⟩:=s.look 3|none
 let some ⟨none,.one ⟨false,[.ref 768]⟩⟩:=s.look 11|none
 let some ⟨none,.one ⟨false,[.ptr 576 0]⟩⟩:=s.look 5|none
 let some ⟨none,.one ⟨false,[.ptr 640 0]⟩⟩:=s.look 6|none
 let some ⟨none,.one ⟨false,[.ref 6]⟩⟩:=s.look 2|none
 let some ⟨none,.one ⟨false,[.val (.int .i64 b)]⟩⟩:=s.look 4|none
 let some (.row true 66 (.pair (.int .i64) (.pair .str (.int .i64))) c):=s.ent 7|none
 let some (.box 27 [.val (.string e),.ref 0,.ref 1,.ref 2,.val (.string f),.ref 3]):=s.ent 576|none
 let some (.box 31 [.ref 4,.ref 5]):=s.ent 640|none
 let some (.row true 2 (.int .i64) g):=s.ent 6|none
 let some (.row true 9 (.str) i):=s.ent 0|none
 let some (.row true 9 (.str) j):=s.ent 1|none
 let some (.row true 9 (.str) k):=s.ent 2|none
 let some (.row true 91 (.pair .str (.sl 66 (.pair (.int .i64) (.pair .str (.int .i64))))) l):=s.ent 3|none
 let some (.row true 2 (.int .i64) m):=s.ent 4|none
 let some (.row true 84 (.pair (.int .i64) (.pair (.int .i64) (.int .i64))) n):=s.ent 5|none
 let some (.row true 2 (.int .i64) d):=s.ent 768|none
 some (a,b,c,d,e,f,g,i,j,k,l,m,n)
def Gp:Lp xt where
 h:=⟨[20,21,22,23,26,27,28,29,13,30,31,32,33,34,35,14,36,37,38,39,15,40,41,42,43,11,16,44,45,66,65,67,68,69,70,71,72,74,73,76,75,78,77,79,80,81,82,84,83,85,86,87,88,89,90,91,93,92,94,95,96,97,98,99,100,47,48,49,50,51,52,53,54,46,55,56,18,17,57,58,59,60,61,62,63,64,4,101,102,103,104,24,25,12],[0,2,3,4,5,6,7,8,9,10],[1],[]⟩
 JL:=akk
 JE:=akd
 XL:=aky
 XE:=akr
 q:=fun j=>match j with | _=> .exit 0
 tags:= [0]
 lt:=akR
 fuel:=fun(a,b,c,d,e,f,g,i,k,l,m,n,o)=>a.natAbs + b.natAbs + c.length + d.length + e.size + f.size + g.length + i.length + k.length + l.length + m.length + n.length + o.length
 fix:=fun(_,_,c,_,e,f,_,_,_,_,_,_,_) (a,b,_,d,_,_,g,i,k,l,m,n,o)=>(a,b,c,d,e,f,g,i,k,l,m,n,o)
 σ:= [(0,7),(2,576),(3,640),(4,6),(5,0),(6,1),(7,2),(8,3),(9,4),(10,5),(1,768)]
 rd:=Ur
theorem aif:LoopOk prog (fun k=>Nat.blt k Tryz.f47.ntmps) Gp.F (bc f47 0):=by
 refine Lp.ok (tbl:= (PF.mark prog::T3z [cM,eW,sn,vz])) (lf:= []) aU Gp (by kernel_rfl) (LOk.nil _) (fun _=>rfl) (fun _ _=>rfl) ?_ ?_ ?_ ?_ (fun _=>rfl) ?_
 ·intro _;kernel_rfl
 ·intro _;kernel_rfl
 ·intro s x h
  have h:Ur s=some x:=h
  unfold Ur at h
  repeat' split at h
  all_goals cases h
  constructor<;>repeat(first|refine ab ‹_› rfl ?_|refine aa rfl ‹_› rfl ?_|rfl)
 ·intro _;kernel_rfl
 ·intro _ _;exact(And.intro rfl trivial)
section
variable (a b:aAi)(c:Int)(d e f:List aAi)(g:aiK)(i:avu)(j:at0)(k:avu)(l:aoQ)
def age:Int×Int×aoQ×avu×aAi×aAi×avu×List aAi×List aAi×List aAi×aiK×avu×at0:=((0:Int),c,l,[],a,b,k,d,e,f,g,i,j)
def agf:avu×aAi×aAi×avu×List aAi×List aAi×List aAi×aiK×avu×at0:=(Lp.res Gp (age a b c d e f g i j k l)).2.2.2.2
def ZP:avu:=(agf a b c d e f g i j k l).1
def agh:avu×List aAi×List aAi×List aAi×aiK×avu×at0:=(agf a b c d e f g i j k l).2.2.2
def agi:List aAi×List aAi×List aAi×aiK×avu×at0:=(agh a b c d e f g i j k l).2
def agj:List aAi×List aAi×aiK×avu×at0:=(agi a b c d e f g i j k l).2
def agk:List aAi×aiK×avu×at0:=(agj a b c d e f g i j k l).2
def agl:aiK×avu×at0:=(agk a b c d e f g i j k l).2
def agm:avu×at0:=(agl a b c d e f g i j k l).2
def aqm:Int:=k9 (ZP a b c d e f g i j k l)[k7 0]? 0
def aqn:List aAi:=(agi a b c d e f g i j k l).1
def aqo:List aAi:=(agj a b c d e f g i j k l).1
def aqp:List aAi:=(agk a b c d e f g i j k l).1
def aqq:aiJ:=(agl a b c d e f g i j k l).1
def aqr:avu:=(agm a b c d e f g i j k l).1
def aqs:as9:=(agm a b c d e f g i j k l).2
def aqt:avu:=(agh a b c d e f g i j k l).1
def aqu:Bool:=allT [Lp.fin Gp (age a b c d e f g i j k l),ltI 0 (↑(k8 (ZP a b c d e f g i j k l)):Int),ltN (k7 0) (k8 (ZP a b c d e f g i j k l))]
end
def ahp:aAj
 | [.one ⟨true,[.val (.string a),.ref 0,.ref 1,.ref 2,.val (.string b),.ref 3]⟩,.one ⟨true,[.ref 4,.ref 5]⟩,.one ⟨false,[.ref 6]⟩,.one ⟨false,[.ref 7]⟩,.one ⟨false,[.val (.int .i64 c)]⟩],[.row true 9 (.str) d,.row true 9 (.str) e,.row true 9 (.str) f,.row true 91 (.pair (.str) (.sl 66 (.pair (.int .i64) (.pair (.str) (.int .i64))))) g,.row true 2 (.int .i64) i,.row true 84 (.pair (.int .i64) (.pair (.int .i64) (.int .i64))) j,.row true 2 (.int .i64) k,.row true 66 (.pair (.int .i64) (.pair (.str) (.int .i64))) l]=>some ⟨aAm (aqm a b c d e f g i j k l),[aAr (aqn a b c d e f g i j k l),aAr (aqo a b c d e f g i j k l),aAr (aqp a b c d e f g i j k l),aAA (aqq a b c d e f g i j k l),aAo (aqr a b c d e f g i j k l),aAw (aqs a b c d e f g i j k l),aAo (aqt a b c d e f g i j k l),aAv l],[],[aqu a b c d e f g i j k l]⟩
 |_,_=>none
def As:PF prog:=PF.ofG prog (PF.mark prog::T3z [cM,eW,sn,vz]) [Gp.F] aU 47 f47 func47 (LOk.fnT (l:= [bc f47 0]) (by kernel_rfl) (.cons aif (.nil _))) ahp (by
 intro _ _ _ h;unfold ahp at h;split at h<;>cases h;kernel_rfl)
abbrev od:=Int×Int×List (Int×(aAi×Int))×List Int×aAi×aAi×List Int×List aAi×List aAi×List aAi×List (aAi×(List (Int×(aAi×Int))))×List Int×List (Int×(Int×Int))
section
variable (a b:Int)(c:aor)(d e:avu)(f g:List aAi)(i:avu)(j:as9)
def bY:Int×aAi×Int:=k9 c[k7 a]? ((0:Int),ByteArray.empty,(0:Int))
def sL:Int:=v5 .i64 ((↑d.length:Int) - fC ((bY a c).1))
def dm:avu:=List.drop (k7 (sL a c d)) (List.take (k7 (↑d.length:Int)) d)
def sM:avu:=List.drop (k7 0) (List.take (k7 (sL a c d)) d)
def aF:Bool:=(bY a c).1==1
def aP:Bool:=(bY a c).1==2
def aQ:Bool:=(bY a c).1==3
def aR:Bool:=(bY a c).1==4
def kw:Bool:=ltI 0 (↑(k8 (dm a c d)):Int)
def kx:Bool:=ltN (k7 0) (k8 (dm a c d))
def be:Bool:=(bY a c).1==5
def rD:Bool:=ltI 1 (↑(k8 (dm a c d)):Int)
def rE:Bool:=ltN (k7 1) (k8 (dm a c d))
def db:Bool:=(bY a c).1==6
def wP:Int:=k9 (dm a c d)[k7 0]? 0
def eM:Int×Int×Int:=k9 j[k7 b]? ((0:Int),(0:Int),(0:Int))
def bL:avu:= [bif aF a c then Bt (((bY a c).2).1) f g i e else bif aP a c then(1:Int)else bif aQ a c then(0:Int)else bif aR a c then v5 .i64 ((1:Int) - wP a c d)else bif be a c then v5 .i64 (↑(BitVec.toNat (BitVec.ofInt (IntKind.bits IntKind.i64) (wP a c d)&&& BitVec.ofInt (IntKind.bits IntKind.i64) (k9 (dm a c d)[k7 1]? 0))):Int)else bif db a c then v5 .i64 (↑(BitVec.toNat (BitVec.ofInt (IntKind.bits IntKind.i64) (wP a c d)||| BitVec.ofInt (IntKind.bits IntKind.i64) (k9 (dm a c d)[k7 1]? 0))):Int)else ge ((bY a c).1) ((bY a c).2.2) ((eM b j).1) (((eM b j).2).1) ((eM b j).2.2) (dm a c d)]
def fE:Bool:=ltI a (↑c.length:Int)
def og:Bool:=leI 0 a
def oh:Bool:=ltN a.toNat c.length
def lx:Bool:=leI 0 (sL a c d)
def ly:Bool:=leI (sL a c d) (↑d.length:Int)
def oi:Bool:=leI (↑d.length:Int) (↑d.length:Int)
def oj:Bool:=leN (k8 (dm a c d)) 1048576
end
def ol:Bool:=leI 0 0
section
variable (a b:Int)(c:aor)(d e:avu)(f g:List aAi)(i:avu)(j:as9)
def om:Bool:=leN (k8 (sM a c d)) 1048576
def oo:Bool:= !aF a c||Bu (((bY a c).2).1) f g i e
def mv:Bool:=aF a c||(aP a c||(aQ a c||(!aR a c||leI 0 0)))
def mw:Bool:=aF a c||(aP a c||(aQ a c||(!aR a c||kw a c d)))
def my:Bool:=aF a c||(aP a c||(aQ a c||(!aR a c||kx a c d)))
def mz:Bool:=aF a c||(aP a c||(aQ a c||(aR a c||(!be a c||leI 0 0))))
def mA:Bool:=aF a c||(aP a c||(aQ a c||(aR a c||(!be a c||kw a c d))))
def mB:Bool:=aF a c||(aP a c||(aQ a c||(aR a c||(!be a c||kx a c d))))
def mC:Bool:=aF a c||(aP a c||(aQ a c||(aR a c||(!be a c||leI 0 1))))
def mD:Bool:=aF a c||(aP a c||(aQ a c||(aR a c||(!be a c||rD a c d))))
def mE:Bool:=aF a c||(aP a c||(aQ a c||(aR a c||(!be a c||rE a c d))))
def mF:Bool:=aF a c||(aP a c||(aQ a c||(aR a c||(be a c||(!db a c||leI 0 0)))))
def mG:Bool:=aF a c||(aP a c||(aQ a c||(aR a c||(be a c||(!db a c||kw a c d)))))
def mH:Bool:=aF a c||(aP a c||(aQ a c||(aR a c||(be a c||(!db a c||kx a c d)))))
def mI:Bool:=aF a c||(aP a c||(aQ a c||(aR a c||(be a c||(!db a c||leI 0 1)))))
def mJ:Bool:=aF a c||(aP a c||(aQ a c||(aR a c||(be a c||(!db a c||rD a c d)))))
def mK:Bool:=aF a c||(aP a c||(aQ a c||(aR a c||(be a c||(!db a c||rE a c d)))))
def ko:Bool:=aF a c||(aP a c||(aQ a c||(aR a c||(be a c||(db a c||leI 0 b)))))
def kq:Bool:=aF a c||(aP a c||(aQ a c||(aR a c||(be a c||(db a c||ltI b (↑j.length:Int))))))
def kr:Bool:=aF a c||(aP a c||(aQ a c||(aR a c||(be a c||(db a c||ltN b.toNat j.length)))))
def mL:Bool:=aF a c||(aP a c||(aQ a c||(aR a c||(be a c||(db a c||ma (dm a c d))))))
def mM:Bool:=leN (k8 (sM a c d) + k8 (bL a b c d e f g i j)) 9223372036854775807
def mN:Bool:=leN ((k8 (sM a c d) + k8 (bL a b c d e f g i j)) * 8) 140737488355328
def kt:Int:=v5 .i64 (a + (1:Int))
def cO:Int:=bif aF a c then b else bif aP a c then b else bif aQ a c then b else bif aR a c then b else bif be a c then b else bif db a c then b else v5 .i64 (b + (1:Int))
def ku:avu:=sM a c d++bL a b c d e f g i j
def kv:avu:=bif aF a c then i else i
def cP:as9:=bif aF a c then j else bif aP a c then j else bif aQ a c then j else bif aR a c then j else bif be a c then j else bif db a c then j else List.set j b.toNat (jG ((bY a c).1) ((bY a c).2.2) ((eM b j).1) (((eM b j).2).1) ((eM b j).2.2) (dm a c d),jH ((bY a c).1) (((eM b j).2).1) ((eM b j).2.2) (dm a c d),jI ((bY a c).1) ((bY a c).2.2) ((eM b j).1) ((eM b j).2.2) (dm a c d))
end
def adp:od→List (Nat×SV)
 |(a,b,_,_,_,_,_,_,_,_,_,_,_)=> [(12,(aAm a)),(3,(aAl (.ref 0))),(11,(aAl (.ref 1))),(5,(aAl (.ptr 2 0))),(6,(aAl (.ptr 3 0))),(2,(aAl (.ref 4))),(4,(aAm b))]
def adl:od→List (Nat×Entry)
 |(_,_,a,b,c,d,e,f,g,i,j,k,l)=> [(0,(aAp a)),(2,(.box 27 [.val (.string c),.ref 5,.ref 6,.ref 7,.val (.string d),.ref 8])),(3,(.box 31 [.ref 9,.ref 10])),(4,(aAq e)),(5,(aAn f)),(6,(aAn g)),(7,(aAn i)),(8,(aAs j)),(9,(aAo k)),(10,(aAw l)),(1,(aAo b))]
def adx:Nat→od→List (Nat×SV)
 |_,(_,_,_,_,_,_,_,_,_,_,_,_,_)=> [(11,(aAl (.ref 1)))]
def adt:Nat→od→List (Nat×Entry)
 |_,(_,_,a,b,c,d,e,f,g,i,j,k,l)=> [(0,(aAp a)),(1,(aAo b)),(2,(.box 27 [.val (.string c),.ref 5,.ref 6,.ref 7,.val (.string d),.ref 8])),(3,(.box 31 [.ref 9,.ref 10])),(4,(aAq e)),(5,(aAn f)),(6,(aAn g)),(7,(aAn i)),(8,(aAs j)),(9,(aAo k)),(10,(aAw l))]
def gd:od→LT od
 |(a,b,c,d,e,f,g,i,j,k,l,m,n)=> .ite (fE a c) (.need [og a,fE a c,oh a c] (.need [lx a c d,ly a c d,oi d,oj a c d] (.need [ol,lx a c d,ly a c d,om a c d] (.need [oo a c g i j m,mv a c,mw a c d,my a c d,mz a c,mA a c d,mB a c d,mC a c,mD a c d,mE a c d,mF a c,mG a c d,mH a c d,mI a c,mJ a c d,mK a c d,ko a b c,kq a b c n,kr a b c n,mL a c d,ko a b c,kq a b c n,kr a b c n] (.need [mM a b c d g i j m n,mN a b c d g i j m n] (.nrm ((kt a),cO a b c,c,ku a b c d g i j m n,e,f,g,i,j,k,l,kv a c m,(cP a b c d n)) [(0,0),(1,4544),(2,2),(3,3),(4,4),(5,5),(6,6),(7,7),(8,8),(9,9),(10,10)])))))) (.ext 0 [(0,0),(1,1),(2,2),(3,3),(4,4),(5,5),(6,6),(7,7),(8,8),(9,9),(10,10)])
def Jg(s:St):Option od:=do
 let some ⟨none,.one ⟨false,[.val (.int .i64 a)]⟩⟩:=s.look 12|none
 let some ⟨none,.one ⟨false,[.ref 7]⟩⟩:=s.look 3|none
 let some ⟨none,.one ⟨false,[.ref 768]⟩⟩:=s.look 11|none
 let some ⟨none,.one ⟨false,[.ptr 576 0]⟩⟩:=s.look 5|none
 let some ⟨none,.one ⟨false,[.ptr 640 0]⟩⟩:=s.look 6|none
 let some ⟨none,.one ⟨false,[.ref 6]⟩⟩:=s.look 2|none
 let some ⟨none,.one ⟨false,[.val (.int .i64 b)]⟩⟩:=s.look 4|none
 let some (.row false 66 (.pair (.int .i64) (.pair .str (.int .i64))) c):=s.ent 7|none
 let some (.box 27 [.val (.string e),.ref 0,.ref 1,.ref 2,.val (.string f),.ref 3]):=s.ent 576|none
 let some (.box 31 [.ref 4,.ref 5]):=s.ent 640|none
 let some (.row false 2 (.int .i64) g):=s.ent 6|none
 let some (.row false 9 (.str) i):=s.ent 0|none
 let some (.row false 9 (.str) j):=s.ent 1|none
 let some (.row false 9 (.str) k):=s.ent 2|none
 let some (.row false 91 (.pair .str (.sl 66 (.pair (.int .i64) (.pair .str (.int .i64))))) l):=s.ent 3|none
 let some (.row true 2 (.int .i64) m):=s.ent 4|none
 let some (.row true 84 (.pair (.int .i64) (.pair (.int .i64) (.int .i64))) n):=s.ent 5|none
 let some (.row true 2 (.int .i64) d):=s.ent 768|none
 some (a,b,c,d,e,f,g,i,j,k,l,m,n)
def bD:Lp od where
 h:=⟨[20,21,22,23,26,27,28,29,13,30,31,32,33,34,35,14,36,37,38,39,15,40,41,42,43,11,16,44,45,66,65,67,68,69,70,71,72,74,73,76,75,78,77,79,80,81,82,84,83,85,86,87,88,89,90,91,93,92,94,95,96,97,98,99,100,47,48,49,50,51,52,53,54,46,55,56,18,17,57,58,59,60,61,62,63,64,4,101,102,103,104,24,25,12],[0,2,3,4,5,6,7,8,9,10],[1],[]⟩
 JL:=adp
 JE:=adl
 XL:=adx
 XE:=adt
 q:=fun j=>match j with | _=> .exit 0
 tags:= [0]
 lt:=gd
 fuel:=fun(a,b,c,d,e,f,g,i,k,l,m,n,o)=>a.natAbs + b.natAbs + c.length + d.length + e.size + f.size + g.length + i.length + k.length + l.length + m.length + n.length + o.length
 fix:=fun(_,_,c,_,e,f,g,i,k,l,m,_,_) (a,b,_,d,_,_,_,_,_,_,_,n,o)=>(a,b,c,d,e,f,g,i,k,l,m,n,o)
 σ:= [(0,7),(2,576),(3,640),(4,6),(5,0),(6,1),(7,2),(8,3),(9,4),(10,5),(1,768)]
 rd:=Jg
theorem abd:LoopOk prog (fun k=>Nat.blt k Tryz.f47.ntmps) bD.F (bc f47 0):=by
 refine Lp.ok (tbl:= (PF.mark prog::T3z [cM,eW,sn,vz])) (lf:= []) aU bD (by kernel_rfl) (LOk.nil _) (fun _=>rfl) (fun _ _=>rfl) ?_ ?_ ?_ ?_ (fun _=>rfl) ?_
 ·intro _;kernel_rfl
 ·intro _;kernel_rfl
 ·intro s x h
  have h:Jg s=some x:=h
  unfold Jg at h
  repeat' split at h
  all_goals cases h
  constructor<;>repeat(first|refine ab ‹_› rfl ?_|refine aa rfl ‹_› rfl ?_|rfl)
 ·intro _;kernel_rfl
 ·intro _ _;exact(And.intro rfl trivial)
section
variable (a b:aAi)(c:Int)(d e f:List aAi)(g:aiK)(i:avu)(j:at0)(k:avu)(l:aoQ)
def xW:Int×Int×aoQ×avu×aAi×aAi×avu×List aAi×List aAi×List aAi×aiK×avu×at0:=((0:Int),c,l,[],a,b,k,d,e,f,g,i,j)
def Cg:avu×aAi×aAi×avu×List aAi×List aAi×List aAi×aiK×avu×at0:=(Lp.res bD (xW a b c d e f g i j k l)).2.2.2.2
def Ch:avu:=(Cg a b c d e f g i j k l).1
def Hv:avu×at0:=(Cg a b c d e f g i j k l).2.2.2.2.2.2.2.2
def IE:Int:=k9 (Ch a b c d e f g i j k l)[k7 0]? 0
def IF:avu:=(Hv a b c d e f g i j k l).1
def IG:as9:=(Hv a b c d e f g i j k l).2
def IH:Bool:=allT [Lp.fin bD (xW a b c d e f g i j k l),ltI 0 (↑(k8 (Ch a b c d e f g i j k l)):Int),ltN (k7 0) (k8 (Ch a b c d e f g i j k l))]
end
def YA:aAj
 | [.one ⟨true,[.val (.string a),.ref 0,.ref 1,.ref 2,.val (.string b),.ref 3]⟩,.one ⟨true,[.ref 4,.ref 5]⟩,.one ⟨false,[.ref 6]⟩,.one ⟨false,[.ref 7]⟩,.one ⟨false,[.val (.int .i64 c)]⟩],[.row false 9 (.str) d,.row false 9 (.str) e,.row false 9 (.str) f,.row false 91 (.pair .str (.sl 66 (.pair (.int .i64) (.pair .str (.int .i64))))) g,.row true 2 (.int .i64) i,.row true 84 (.pair (.int .i64) (.pair (.int .i64) (.int .i64))) j,.row false 2 (.int .i64) k,.row false 66 (.pair (.int .i64) (.pair .str (.int .i64))) l]=>some ⟨aAm (IE a b c d e f g i j k l),[aAn d,aAn e,aAn f,aAs g,aAo (IF a b c d e f g i j k l),aAw (IG a b c d e f g i j k l),aAq k,aAp l],[],[IH a b c d e f g i j k l]⟩
 |_,_=>none
def pf:PF prog:=PF.ofG prog (PF.mark prog::T3z [cM,eW,sn,vz]) [bD.F] aU 47 f47 func47 (LOk.fnT (l:= [bc f47 0]) (by kernel_rfl) (.cons abd (.nil _))) YA (by
 intro _ _ _ h;unfold YA at h;split at h<;>cases h;kernel_rfl)
abbrev rx:=Int×Int×Int×aAi×aAi×List aAi×List aAi×List aAi×List (aAi×(List (Int×(aAi×Int))))
section
variable (a b c:Int)(d:aiJ)
def Ci:aoQ:=(k9 d[k7 b]? (vB aaP)).2
def IJ:Bool:=leI 0 b
def IK:Bool:=ltI b (↑d.length:Int)
def IL:Bool:=ltN b.toNat d.length
def zG:Bool:=ltI a (↑(k8 (Ci b d)):Int)
def Zh:Bool:=leI 0 a
def Zi:Bool:=ltN a.toNat (k8 (Ci b d))
def Zj:Int:=v5 .i64 (a + (1:Int))
def RC:Int:=bif leI 7 ((k9 (Ci b d)[k7 a]? ((0:Int),ByteArray.empty,(0:Int))).1)then v5 .i64 (c + (1:Int))else c
end
def agB:rx→List (Nat×SV)
 |(a,b,c,_,_,_,_,_,_)=> [(14,(aAm a)),(3,(aAl (.ptr 0 0))),(11,(aAm b)),(10,(aAm c))]
def agt:rx→List (Nat×Entry)
 |(_,_,_,a,b,c,d,e,f)=> [(0,(.box 27 [.val (.string a),.ref 1,.ref 2,.ref 3,.val (.string b),.ref 4])),(1,(aAn c)),(2,(aAn d)),(3,(aAn e)),(4,(aAs f))]
def agR:Nat→rx→List (Nat×SV)
 |_,(_,_,a,_,_,_,_,_,_)=> [(10,(aAm a))]
def BR:rx→LT rx
 |(a,b,c,d,e,f,g,i,j)=> .need [IJ b,IK b j,IL b j] (.ite (zG a b j) (.need [IJ b,IK b j,IL b j,Zh a,zG a b j,Zi a b j] (.nrm ((Zj a),b,RC a b c j,d,e,f,g,i,j) [(0,0),(1,1),(2,2),(3,3),(4,4)])) (.ext 0 [(0,0),(1,1),(2,2),(3,3),(4,4)]))
def Pg(s:St):Option rx:=do
 let some ⟨none,.one ⟨false,[.val (.int .i64 a)]⟩⟩:=s.look 14|none
 let some ⟨none,.one ⟨false,[.ptr 0 0]⟩⟩:=s.look 3|none
 let some ⟨none,.one ⟨false,[.val (.int .i64 b)]⟩⟩:=s.look 11|none
 let some ⟨none,.one ⟨false,[.val (.int .i64 c)]⟩⟩:=s.look 10|none
 let some (.box 27 [.val (.string d),.ref 4,.ref 5,.ref 6,.val (.string e),.ref 7]):=s.ent 0|none
 let some (.row false 9 (.str) f):=s.ent 4|none
 let some (.row false 9 (.str) g):=s.ent 5|none
 let some (.row false 9 (.str) i):=s.ent 6|none
 let some (.row false 91 (.pair .str (.sl 66 (.pair (.int .i64) (.pair .str (.int .i64))))) j):=s.ent 7|none
 some (a,b,c,d,e,f,g,i,j)
def gH:Lp rx where
 h:=⟨[67,68,69,70,71,72,73,74,75,78,79,80,81,82,83,84,85,86,87,88,89,90,10,76,77,14],[0,1,2,3,4],[],[]⟩
 JL:=agB
 JE:=agt
 XL:=agR
 XE:=fun _=>agt
 q:=fun j=>match j with | _=> .exit 2
 tags:= [0]
 lt:=BR
 fuel:=fun(a,b,c,d,e,f,g,i,k)=>a.natAbs + b.natAbs + c.natAbs + d.size + e.size + f.length + g.length + i.length + k.length
 fix:=fun(_,b,_,d,e,f,g,i,k) (a,_,c,_,_,_,_,_,_)=>(a,b,c,d,e,f,g,i,k)
 σ:= [(0,0),(1,4),(2,5),(3,6),(4,7)]
 rd:=Pg
theorem aeE:LoopOk prog (memN [21,22,23,24,25,28,29,30,31,32,33,34,35,36,37,38,12,39,40,41,42,43,44,45,46,47,13,48,49,50,51,52,53,54,55,56,57,58,59,60,61,62,63,64,65,66,14,67,68,69,70,71,72,73,74,75,78,79,80,81,82,83,84,85,86,87,88,89,90,10,76,77,26,27,11]) gH.F (ZA (bc f20 0) 0):=by
 refine Lp.ok (tbl:= (T3z [aX,Dc,As,eW,pf])) (lf:= []) aU gH (by kernel_rfl) (LOk.nil _) (fun _=>rfl) (fun _ _=>rfl) ?_ ?_ ?_ ?_ (fun _=>rfl) ?_
 ·intro _;kernel_rfl
 ·intro _;kernel_rfl
 ·intro s x h
  have h:Pg s=some x:=h
  unfold Pg at h
  repeat' split at h
  all_goals cases h
  constructor<;>repeat(first|refine ab ‹_› rfl ?_|refine aa rfl ‹_› rfl ?_|rfl)
 ·intro _;kernel_rfl
 ·intro _ _;exact(And.intro rfl trivial)
abbrev xu:=Int×Int×aAi×aAi×List Int×List Int×List aAi×List aAi×List aAi×List (aAi×(List (Int×(aAi×Int))))×List Int×List (Int×(Int×Int))
section
variable (a b:Int)(c d:aAi)(e f:avu)(g i j:List aAi)(k:aiJ)(l:avu)(m:as9)
def UN:Bool:=ltI a (↑k.length:Int)
def UO:Bool:=ltN a.toNat k.length
def vp:aAi×aoQ:=k9 k[k7 a]? (vB aaP)
def eE:Int:=oP i ((vp a k).1)
def CQ:avu:=IF c d b g i j k l m e ((vp a k).2)
def CR:Int:=oP j ((vp a k).1)
def UP:Int×Int×Int×aAi×aAi×List aAi×List aAi×List aAi×aiK:=((0:Int),a,b,c,d,g,i,j,k)
def NA:Int:=IE c d b g i j k l m e ((vp a k).2)
def II:Bool:=UN a k
def WN:Bool:=leI 0 a
def WO:Bool:=UO a k
def WP:Bool:=IH c d b g i j k l m e ((vp a k).2)
def adg:Bool:=leN i.length (9223372036854775807:Nat)
def WQ:Bool:= !leI 0 (eE a i k)||leI 0 (eE a i k)
def WR:Bool:= !leI 0 (eE a i k)||ltI (eE a i k) (↑(k8 (CQ a b c d e g i j k l m)):Int)
def WS:Bool:= !leI 0 (eE a i k)||ltN (k7 (eE a i k)) (k8 (CQ a b c d e g i j k l m))
def WT:Bool:=leI 0 (eE a i k)||leI 0 a
def WU:Bool:=leI 0 (eE a i k)||UN a k
def UE:Bool:=leI 0 (eE a i k)||UO a k
def UF:Bool:=leI 0 (eE a i k)||leN j.length (9223372036854775807:Nat)
def UG:Bool:=leI 0 (eE a i k)||leI 0 (CR a j k)
def UH:Bool:=leI 0 (eE a i k)||ltI (CR a j k) (↑f.length:Int)
def UI:Bool:=leI 0 (eE a i k)||ltN (k7 (CR a j k)) f.length
def ab7:Bool:=Lp.fin gH (UP a b c d g i j k)
def ab8:Int:=v5 .i64 (a + (1:Int))
def UJ:Int:=((Lp.res gH (UP a b c d g i j k)).2.2.2).1
def UK:avu:=bif leI 0 (eE a i k)then f else List.set f (k7 (CR a j k)) (NA a b c d e g i j k l m)
def UL:avu:=bif leI 0 (eE a i k)then List.set (CQ a b c d e g i j k l m) (k7 (eE a i k)) (NA a b c d e g i j k l m)else CQ a b c d e g i j k l m
def UM:as9:=IG c d b g i j k l m e ((vp a k).2)
end
def akl:xu→List (Nat×SV)
 |(a,b,_,_,_,_,_,_,_,_,_,_)=> [(11,(aAm a)),(3,(aAl (.ptr 0 0))),(8,(aAl (.ptr 1 0))),(2,(aAl (.ref 2))),(10,(aAm b)),(9,(aAl (.ref 3)))]
def ake:xu→List (Nat×Entry)
 |(_,_,a,b,c,d,e,f,g,i,j,k)=> [(0,(.box 27 [.val (.string a),.ref 4,.ref 5,.ref 6,.val (.string b),.ref 7])),(1,(.box 31 [.ref 8,.ref 9])),(2,(aAq c)),(3,(aAo d)),(4,(aAn e)),(5,(aAn f)),(6,(aAn g)),(7,(aAs i)),(8,(aAo j)),(9,(aAw k))]
def akz:Nat→xu→List (Nat×SV)
 |_,_=>[]
def Gt:xu→LT xu
 |(a,b,c,d,e,f,g,i,j,k,l,m)=> .ite (II a k) (.need [WN a,II a k,WO a k,WP a b c d e g i j k l m] (.need [WN a,II a k,WO a k,adg i] (.need [WQ a i k,WR a b c d e g i j k l m,WS a b c d e g i j k l m,WT a i k,WU a i k,UE a i k,UF a i j k,UG a i j k,UH a f i j k,UI a f i j k] (.need [ab7 a b c d g i j k] (.nrm ((ab8 a),UJ a b c d g i j k,c,d,e,UK a b c d e f g i j k l m,g,i,j,k,UL a b c d e g i j k l m,(UM a b c d e g i j k l m)) [(0,0),(1,1),(2,2),(3,3),(4,4),(5,5),(6,6),(7,7),(8,8),(9,9)]))))) (.ext 0 [(0,0),(1,1),(2,2),(3,3),(4,4),(5,5),(6,6),(7,7),(8,8),(9,9)])
def Us(s:St):Option xu:=do
 let some ⟨none,.one ⟨false,[.val (.int .i64 a)]⟩⟩:=s.look 11|none
 let some ⟨none,.one ⟨false,[.ptr 512 0]⟩⟩:=s.look 3|none
 let some ⟨none,.one ⟨false,[.ptr 896 0]⟩⟩:=s.look 8|none
 let some ⟨none,.one ⟨false,[.ref 6]⟩⟩:=s.look 2|none
 let some ⟨none,.one ⟨false,[.val (.int .i64 b)]⟩⟩:=s.look 10|none
 let some ⟨none,.one ⟨false,[.ref 1216]⟩⟩:=s.look 9|none
 let some (.box 27 [.val (.string c),.ref 0,.ref 1,.ref 2,.val (.string d),.ref 3]):=s.ent 512|none
 let some (.box 31 [.ref 832,.ref 833]):=s.ent 896|none
 let some (.row false 2 (.int .i64) e):=s.ent 6|none
 let some (.row true 2 (.int .i64) f):=s.ent 1216|none
 let some (.row false 9 (.str) g):=s.ent 0|none
 let some (.row false 9 (.str) i):=s.ent 1|none
 let some (.row false 9 (.str) j):=s.ent 2|none
 let some (.row false 91 (.pair .str (.sl 66 (.pair (.int .i64) (.pair .str (.int .i64))))) k):=s.ent 3|none
 let some (.row true 2 (.int .i64) l):=s.ent 832|none
 let some (.row true 84 (.pair (.int .i64) (.pair (.int .i64) (.int .i64))) m):=s.ent 833|none
 some (a,b,c,d,e,f,g,i,j,k,l,m)
def jM:Lp xu where
 h:=⟨[21,22,23,24,25,28,29,30,31,32,33,34,35,36,37,38,12,39,40,41,42,43,44,45,46,47,13,48,49,50,51,52,53,54,55,56,57,58,59,60,61,62,63,64,65,66,14,67,68,69,70,71,72,73,74,75,78,79,80,81,82,83,84,85,86,87,88,89,90,10,76,77,26,27,11],[0,1,2,3,4,5,6,7,8,9],[],[]⟩
 JL:=akl
 JE:=ake
 XL:=akz
 XE:=fun _=>ake
 q:=fun j=>match j with | _=> .exit 0
 tags:= [0]
 lt:=Gt
 fuel:=fun(a,b,c,d,e,f,g,i,k,l,m,n)=>a.natAbs + b.natAbs + c.size + d.size + e.length + f.length + g.length + i.length + k.length + l.length + m.length + n.length
 fix:=fun(_,_,c,d,e,_,g,i,k,l,_,_) (a,b,_,_,_,f,_,_,_,_,m,n)=>(a,b,c,d,e,f,g,i,k,l,m,n)
 σ:= [(0,512),(1,896),(2,6),(3,1216),(4,0),(5,1),(6,2),(7,3),(8,832),(9,833)]
 rd:=Us
theorem aig:LoopOk prog (fun k=>Nat.blt k Tryz.f20.ntmps) jM.F (bc f20 0):=by
 refine Lp.ok (tbl:= (T3z [aX,Dc,As,eW,pf])) (lf:= [gH.F]) aU jM (by kernel_rfl) (LOk.allT (l:= [ZA (bc f20 0) 0]) (by kernel_rfl) (.cons aeE (.nil _))) (fun _=>rfl) (fun _ _=>rfl) ?_ ?_ ?_ ?_ (fun _=>rfl) ?_
 ·intro _;kernel_rfl
 ·intro _;kernel_rfl
 ·intro s x h
  have h:Us s=some x:=h
  unfold Us at h
  repeat' split at h
  all_goals cases h
  constructor<;>repeat(first|refine ab ‹_› rfl ?_|refine aa rfl ‹_› rfl ?_|rfl)
 ·intro _;kernel_rfl
 ·intro _ _;exact(And.intro rfl trivial)
def HS(a:aAi):Bool:=
 !ByteArray.toList a==ByteArray.toList { data:= #[] }
section
variable (a b:aAi)(c d e:List aAi)(f:aiK)(g:avu)(i:at0)(j:avu)
def TO:avu:=v6 (k7 (↑e.length:Int)) (0:Int)
def NT:Int×Int×aAi×aAi×avu×avu×List aAi×List aAi×List aAi×aiK×avu×at0:=((0:Int),(0:Int),a,b,j,TO e,c,d,e,f,g,i)
def TP:avu×List aAi×List aAi×List aAi×aiK×avu×at0:=(Lp.res jM (NT a b c d e f g i j)).2.2.2.2.2.2
def TQ:avu×at0:=(TP a b c d e f g i j).2.2.2.2.2
def HT:avu:=(TQ a b c d e f g i j).1
def yw:Bool:=bif HS b then Bt b c d (HT a b c d e f g i j) j==0 else false
def TR:avu:=bif HS b&&true then HT a b c d e f g i j else HT a b c d e f g i j
def TS:at0:=(TQ a b c d e f g i j).2
def TT:at0:=bif HS b&&true then TS a b c d e f g i j else TS a b c d e f g i j
def Yb:Bool:=leI (↑e.length:Int) (↑e.length:Int)
def Yc:Bool:=leI ((↑(8:Nat):Int) * (↑e.length:Int)) 281474976710656
def WJ:avu:=bif yw a b c d e f g i j then TO e else (TP a b c d e f g i j).1
def WK:avu:=bif yw a b c d e f g i j then TR a b c d e f g i j else TR a b c d e f g i j
def WL:as9:=bif yw a b c d e f g i j then TT a b c d e f g i j else TT a b c d e f g i j
def WM:Bool:=allT [Ym g i,leI 0 (↑e.length:Int),Yb e,Yc e,leI (↑e.length:Int) 9223372036854775807,Lp.fin jM (NT a b c d e f g i j),!(HS b&&true)||Bu b c d (HT a b c d e f g i j) j,!yw a b c d e f g i j||leI 0 (↑e.length:Int),!yw a b c d e f g i j||Yb e,!yw a b c d e f g i j||Yc e,!yw a b c d e f g i j||leI (↑e.length:Int) 9223372036854775807]
end
def ahq:aAj
 | [.one ⟨true,[.val (.string a),.ref 0,.ref 1,.ref 2,.val (.string b),.ref 3]⟩,.one ⟨true,[.ref 4,.ref 5]⟩,.one ⟨false,[.ref 6]⟩],[.row false 9 (.str) c,.row false 9 (.str) d,.row false 9 (.str) e,.row false 91 (.pair (.str) (.sl 66 (.pair (.int .i64) (.pair (.str) (.int .i64))))) f,.row false 2 (.int .i64) g,.row false 84 (.pair (.int .i64) (.pair (.int .i64) (.int .i64))) i,.row false 2 (.int .i64) j]=>some ⟨.tup [⟨false,[.ref 7]⟩,⟨true,[.ref 8,.ref 9]⟩],[aAn c,aAn d,aAn e,aAt f,aAq g,aAz i,aAq j],[aAo (WJ a b c d e f g i j),aAo (WK a b c d e f g i j),aAw (WL a b c d e f g i j)],[WM a b c d e f g i j]⟩
 |_,_=>none
def VY:PF prog:=PF.ofG prog (T3z [aX,Dc,As,eW,pf]) [jM.F] aU 20 f20 func20 (LOk.fnT (l:= [bc f20 0]) (by kernel_rfl) (.cons aig (.nil _))) ahq (by
 intro _ _ _ h;unfold ahq at h;split at h<;>cases h;kernel_rfl)
abbrev ow:=Int×List (Int×(aAi×Int))×List Int×List (Int×(Int×Int))
section
variable (a:Int)(b:aor)(c:as9)
def zF:Int×aAi×Int:=k9 b[k7 a]? ((0:Int),ByteArray.empty,(0:Int))
def vo:Int×Int×Int:=k9 c[k7 a]? ((0:Int),(0:Int),(0:Int))
def Bc:Bool:=ltI a (↑b.length:Int)
def Bd:Bool:=leI 0 a
def EZ:Bool:=ltN a.toNat b.length
def Fa:Bool:=ltI a (↑c.length:Int)
def Fb:Bool:=ltN a.toNat c.length
def Fc:Bool:= !dK ((zF a b).1) ((zF a b).2.2) ((vo a c).1) (((vo a c).2).1) ((vo a c).2.2)
def Fd:Int:=v5 .i64 (a + (1:Int))
end
def ahy:ow→List (Nat×SV)
 |(a,_,_,_)=> [(6,(aAm a)),(5,(aAl (.ref 0))),(3,(aAl (.ptr 1 0)))]
def ahv:ow→List (Nat×Entry)
 |(_,a,b,c)=> [(0,(aAv a)),(1,(.box 31 [.ref 2,.ref 3])),(2,(aAq b)),(3,(aAz c))]
def ahT:Nat→ow→List (Nat×SV)
 |0,(_,_,_,_)=> [(4,(aAl (.val (.bool false))))]
 |_,_=>[]
def Ds:ow→LT ow
 |(a,b,c,d)=> .ite (Bc a b) (.need [Bd a,Bc a b,EZ a b,Bd a,Fa a d,Fb a d] (.ite (Fc a b d) (.ext 0 [(0,0),(1,1),(2,2),(3,3)]) (.nrm ((Fd a),b,c,d) [(0,0),(1,1),(2,2),(3,3)]))) (.ext 1 [(0,0),(1,1),(2,2),(3,3)])
def Rn(s:St):Option ow:=do
 let some ⟨none,.one ⟨false,[.val (.int .i64 a)]⟩⟩:=s.look 6|none
 let some ⟨none,.one ⟨false,[.ref 704]⟩⟩:=s.look 5|none
 let some ⟨none,.one ⟨false,[.ptr 512 0]⟩⟩:=s.look 3|none
 let some (.row true 66 (.pair (.int .i64) (.pair .str (.int .i64))) b):=s.ent 704|none
 let some (.box 31 [.ref 4,.ref 5]):=s.ent 512|none
 let some (.row false 2 (.int .i64) c):=s.ent 4|none
 let some (.row false 84 (.pair (.int .i64) (.pair (.int .i64) (.int .i64))) d):=s.ent 5|none
 some (a,b,c,d)
def eQ:Lp ow where
 h:=⟨[24,25,26,27,30,31,32,33,34,35,36,37,38,39,40,4,28,29,6],[0,1,2,3],[],[]⟩
 JL:=ahy
 JE:=ahv
 XL:=ahT
 XE:=fun _=>ahv
 q:=fun j=>match j with | 0=> .ret | _=> .exit 0
 tags:= [0,1]
 lt:=Ds
 fuel:=fun(a,b,c,d)=>a.natAbs + b.length + c.length + d.length
 fix:=fun(_,b,c,d) (a,_,_,_)=>(a,b,c,d)
 σ:= [(0,704),(1,512),(2,4),(3,5)]
 rd:=Rn
theorem afD:LoopOk prog (fun k=>Nat.blt k Tryz.f44.ntmps) eQ.F (bc f44 0):=by
 refine Lp.ok (tbl:= (T3z [abq,fX,ju])) (lf:= []) aU eQ (by kernel_rfl) (LOk.nil _) (fun _=>rfl) (fun j _=>by unfold eQ;match j with | 0=>rfl | _ + 1=>rfl) ?_ ?_ ?_ ?_ (fun _=>rfl) ?_
 ·intro _;kernel_rfl
 ·intro _;kernel_rfl
 ·intro s x h
  have h:Rn s=some x:=h
  unfold Rn at h
  repeat' split at h
  all_goals cases h
  constructor<;>repeat(first|refine ab ‹_› rfl ?_|refine aa rfl ‹_› rfl ?_|rfl)
 ·intro _;kernel_rfl
 ·intro _ _;exact(And.intro (And.intro trivial rfl) trivial)
section
variable (a:List aAi)(b:aiK)(c:avu)(d:at0)
def Ep:Bool:=(↑d.length:Int)!=(↑(k8 (blL b)):Int)
def Qh:Bool:=bif Ep b d then true else !bitsB (↑a.length:Int) c
def Qi:Int×aoQ×avu×at0:=((0:Int),blL b,c,d)
def FH:Bool:=bif Qh a b c d then false else bif Nat.beq ((Lp.res eQ (Qi b c d)).1) 0 then false else true
def Lw:Bool:=allT [ZY b,!(!Ep b d&&true)||leN c.length (9223372036854775807:Nat),Qh a b c d||Lp.fin eQ (Qi b c d)]
end
def aeh:aAj
 | [.one ⟨true,[.val (.string _x0),.ref 0,.ref 1,.ref 2,.val (.string _x1),.ref 3]⟩,.one ⟨true,[.ref 4,.ref 5]⟩],[.row false 9 (.str) a,.row false 9 (.str) b,.row false 9 (.str) c,.row false 91 (.pair (.str) (.sl 66 (.pair (.int .i64) (.pair (.str) (.int .i64))))) d,.row false 2 (.int .i64) e,.row false 84 (.pair (.int .i64) (.pair (.int .i64) (.int .i64))) f]=>some ⟨aAl (.val (.bool (FH b d e f))),[aAn a,aAn b,aAn c,aAt d,aAq e,aAz f],[],[Lw b d e f]⟩
 |_,_=>none
def XS:PF prog:=PF.ofG prog (T3z [abq,fX,ju]) [eQ.F] aU 44 f44 func44 (LOk.fnT (l:= [bc f44 0]) (by kernel_rfl) (.cons afD (.nil _))) aeh (by
 intro _ _ _ h;unfold aeh at h;split at h<;>cases h;kernel_rfl)
def RA(a b:aAi)(c d e:List aAi)(f:aiK)(g:avu)(i:at0)(j:avu):Int:=bif !gj a c d e b f then(1:Int)else bif bif !FH d f g i then true else !bitsB (↑c.length:Int) j then(2:Int)else(0:Int)
def WG(a b:aAi)(c d e:List aAi)(f:aiK)(g:avu)(i:at0)(j:avu):Bool:=allT [adZ a c d e b f,!gj a c d e b f||Lw d f g i,!gj a c d e b f||(!(!!FH d f g i&&true)||leN j.length (9223372036854775807:Nat))]
def aho:aAj
 | [.one ⟨true,[.val (.string a),.ref 0,.ref 1,.ref 2,.val (.string b),.ref 3]⟩,.one ⟨true,[.ref 4,.ref 5]⟩,.one ⟨false,[.ref 6]⟩],[.row false 9 (.str) c,.row false 9 (.str) d,.row false 9 (.str) e,.row false 91 (.pair (.str) (.sl 66 (.pair (.int .i64) (.pair (.str) (.int .i64))))) f,.row false 2 (.int .i64) g,.row false 84 (.pair (.int .i64) (.pair (.int .i64) (.int .i64))) i,.row false 2 (.int .i64) j]=>some ⟨aAm (RA a b c d e f g i j),[aAn c,aAn d,aAn e,aAt f,aAq g,aAz i,aAq j],[],[WG a b c d e f g i j]⟩
 |_,_=>none
section
variable (a b:aAi)(c d e:List aAi)(f:aiK)(g:avu)(i:at0)(j:avu)
def HO:Bool:=RA a b c d e f g i j !=0
def abA:Int:=bif HO a b c d e f g i j then RA a b c d e f g i j else(0:Int)
def abB:avu:=bif HO a b c d e f g i j then []else WJ a b c d e f g i j
def abC:avu:=bif HO a b c d e f g i j then []else WK a b c d e f g i j
def abD:as9:=bif HO a b c d e f g i j then []else WL a b c d e f g i j
def abE:Bool:=allT [WG a b c d e f g i j,HO a b c d e f g i j||WM a b c d e f g i j]
end
def aha:aAj
 | [.one ⟨true,[.val (.string a),.ref 0,.ref 1,.ref 2,.val (.string b),.ref 3]⟩,.one ⟨true,[.ref 4,.ref 5]⟩,.one ⟨false,[.ref 6]⟩],[.row false 9 (.str) c,.row false 9 (.str) d,.row false 9 (.str) e,.row false 91 (.pair (.str) (.sl 66 (.pair (.int .i64) (.pair (.str) (.int .i64))))) f,.row false 2 (.int .i64) g,.row false 84 (.pair (.int .i64) (.pair (.int .i64) (.int .i64))) i,.row false 2 (.int .i64) j]=>some ⟨.tup [⟨false,[.ref 7]⟩,⟨true,[.ref 8,.ref 9]⟩,⟨false,[aAk (abA a b c d e f g i j)]⟩],[aAn c,aAn d,aAn e,aAt f,aAq g,aAz i,aAq j],[aAo (abB a b c d e f g i j),aAo (abC a b c d e f g i j),aAw (abD a b c d e f g i j)],[abE a b c d e f g i j]⟩
 |_,_=>none
theorem av0{a b:Int}(ha:a=0∨a=1)(hb:b=0∨b=1):IntKind.i64.wrap ((BitVec.toNat (BitVec.ofInt (IntKind.bits IntKind.i64) a&&& BitVec.ofInt (IntKind.bits IntKind.i64) b):Nat):Int)=ao4 a b:=by
 rcases ha with rfl | rfl <;> rcases hb with rfl | rfl <;> rfl
theorem axC{a b:Int}(ha:a=0∨a=1)(hb:b=0∨b=1):IntKind.i64.wrap ((BitVec.toNat (BitVec.ofInt (IntKind.bits IntKind.i64) a||| BitVec.ofInt (IntKind.bits IntKind.i64) b):Nat):Int)=orI a b:=by
 rcases ha with rfl | rfl <;> rcases hb with rfl | rfl <;> rfl
theorem axz{a:Int}(ha:a=0∨a=1):IntKind.i64.wrap (1 - a)=1 - a:=by rcases ha with rfl | rfl <;> rfl
theorem JS{l:List aAi}{s:aAi}(h:lY l s=true):oP l s=(Io l s:Int):=by simp only [oP,h,cond_true]
theorem atU(s:aAi)(ins vs:List aAi)(inp xs:avu)(hr:SD ins vs s=true)(h1:leN ins.length 9223372036854775807=true)(h2:leN vs.length 9223372036854775807=true)(hi:inp.length=ins.length)(hx:xs.length=vs.length):
  Bt s ins vs xs inp=nmV ins vs inp xs s∧Bu s ins vs xs inp=true:=by
 cases h:lY ins s with
 |true=>
  have e:=JS h
  have hp:=VZ h
  have l0:leI 0 (Io ins s:Int)=true:=bx (by omega)
  have l1:ltI (Io ins s:Int) (inp.length:Int)=true:=dL (by omega)
  have l2:ltN (Io ins s) inp.length=true:=er (by omega)
  refine⟨?_,?_⟩
  ·simp only [Bt,nmV,h,e,l0,cond_true];rfl
  ·simp only [Bu,e,l0,l1,l2,h1,h2,allT,q9,j7,Bool.true_or,cond_true]
 |false=>
  have hv:lY vs s=true:=by simpa [SD,h] using hr
  have e0:leI 0 (oP ins s)=false:=by rw [Zq,h]
  have e:=JS hv
  have hp:=VZ hv
  have l0:leI 0 (Io vs s:Int)=true:=bx (by omega)
  have l1:ltI (Io vs s:Int) (xs.length:Int)=true:=dL (by omega)
  have l2:ltN (Io vs s) xs.length=true:=er (by omega)
  refine⟨?_,?_⟩
  ·simp only [Bt,nmV,h,e0,e,cond_false];rfl
  ·simp only [Bu,e0,e,l0,l1,l2,h1,h2,allT,q9,j7,Bool.true_or,Bool.not_false,cond_true]
structure TmOk (ins vs:List aAi) (inp xs:avu) (t:TM) (ar:avu) (k:Nat) (ss:List BS3):Prop where
 hT:termB t.1 t.2.1 t.2.2=true
 ha:bitsB (takesK t.1) ar=true
 hu:usedB ins vs t=true
 h1:leN ins.length 9223372036854775807=true
 h2:leN vs.length 9223372036854775807=true
 hi:inp.length=ins.length
 hx:xs.length=vs.length
 hb:leI 7 t.1=true→k < ss.length∧possB t.1 t.2.2 (stAt ss k).1 (stAt ss k).2.1 (stAt ss k).2.2=true
 hs:ss.length≤100000
theorem avq(ins vs:List aAi)(inp xs:avu): ∀ (ts:List TM) (a:LS),ts.foldl (fun a t=>lnS ins vs inp xs t a) a=ajr ins vs inp xs ts a
 | [],a=>rfl
 |t::r,a=>by rw [List.foldl_cons,avq ins vs inp xs r];rfl
structure LineH (ins vs:List aAi) (inp xs:avu) (pre post ts:List TM):Prop where
 hi:bitsB ins.length inp=true
 hx:bitsB vs.length xs=true
 ok: ∃ e,htT ts 0=some e
 hu:ts.all (usedB ins vs)=true
 hn:ts.length≤40
 hbl:(pre++blT ts++post).length≤2000
 h1:leN ins.length 9223372036854775807=true
 h2:leN vs.length 9223372036854775807=true
theorem LineH.tm{ins vs:List aAi}{inp xs:avu}{pre post ts:List TM}(h:LineH ins vs inp xs pre post ts){i:Nat}{t:TM}{a:LS}(ht:ts[i]? =some t)(hI:aqD pre post ts i a):
  TmOk ins vs inp xs t (a.1.drop (ltk t a.1)) a.2.2 a.2.1∧a.2.2≤a.2.1.length∧a.2.1.length≤2000∧(0≤takesK t.1∧takesK t.1≤a.1.length)∧a.1.length≤40∧aqD pre post ts (i + 1) (lnS ins vs inp xs t a):=by
 obtain⟨e,ok⟩:=h.ok
 obtain⟨g1,g2,g3,g4,g5,g6,g7,g8,g9⟩:=ani (ins:=ins) (vs:=vs) h.hi h.hx ok ht hI
 have hi2:=(dF.1 h.hi).2
 have hx2:=(dF.1 h.hx).2
 have hil:=(j9.1 ht).1
 have hn:=h.hn
 have hbl:=h.hbl
 refine⟨⟨g3,g4,List.all_eq_true.1 h.hu t (List.mem_of_getElem? ht),h.h1,h.h2,by omega,by omega,fun h7=> ?_,by omega⟩,by omega,by omega,g1,by omega,g9⟩
 obtain⟨q1,q2⟩:=g6 h7
 exact⟨by omega,q2⟩
theorem axm{ins vs:List aAi}{inp xs:avu}{pre post ts:List TM}(h:LineH ins vs inp xs pre post ts)(u v:aAi)(os:List aAi)(ls:List LN)(ss:List BS3)(k:Nat)(h0:aqD pre post ts 0 ([],ss,k)):
  bD.fin ((0:Int),(k:Int),ts,[],u,v,inp,ins,vs,os,ls,xs,ss)=true∧
  bD.res ((0:Int),(k:Int),ts,[],u,v,inp,ins,vs,os,ls,xs,ss)=
   (0,((ts.length:Int),((ajr ins vs inp xs ts ([],ss,k)).2.2:Int),ts,(ajr ins vs inp xs ts ([],ss,k)).1,u,v,inp,ins,vs,os,ls,xs,(ajr ins vs inp xs ts ([],ss,k)).2.1)):=by
 have oe:=bD.along2 (fun i (a:LS)=>((i:Int),(a.2.2:Int),ts,a.1,u,v,inp,ins,vs,os,ls,xs,a.2.1)) (fun x=>(x.2.2.2.1,x.2.2.2.2.2.2.2.2.2.2.2.2,x.2.1.toNat))
  (fun(t:TM) a=> .inr (lnS ins vs inp xs t a)) 0 (fun i a=>aqD pre post ts i a) ts ([],ss,k) h0 (by have:=h.hn;omega) (fun i t a hb hI=> ?_) (fun a hI=> ?_)
 ·rw [Xa (g:=fun a t=>lnS ins vs inp xs t a) (fun b a=>rfl),avq]at oe
  simpa using oe
 ·obtain⟨hm,hk,hs,htk,hst,hI2⟩:=h.tm hb hI
  have hlt:=(j9.1 hb).1
  have hn:=h.hn
  have hw:IntKind.i64.wrap ((i:Int) + 1)=((i + 1:Nat):Int):=by rw [wrap_i64 (by omega) (by omega)];omega
  obtain⟨kd,nm,num⟩:=t
  obtain⟨stk,ss',k'⟩:=a
  simp only at hk hs htk hst hm
  have g0:bY (i:Int) ts=(kd,nm,num):=by simp only [bY,q9,hb,Option.getD_some]
  have g1:sL (i:Int) ts stk=((ltk (kd,nm,num) stk:Nat):Int):=by
   simp only [sL,g0,show fC kd=takesK kd from rfl,ltk]
   rw [wrap_i64 (by omega) (by omega)];omega
  have g2:dm (i:Int) ts stk=stk.drop (ltk (kd,nm,num) stk):=by
   simp only [dm,g1,q9,List.take_length]
  have g3:sM (i:Int) ts stk=stk.take (ltk (kd,nm,num) stk):=by
   simp only [sM,g1,q9,Int.toNat_zero,List.drop_zero]
  have q4:aF (i:Int) ts=(kd==1):=by simp only [aF,g0]
  have q5:aP (i:Int) ts=(kd==2):=by simp only [aP,g0]
  have q6:aQ (i:Int) ts=(kd==3):=by simp only [aQ,g0]
  have q7:aR (i:Int) ts=(kd==4):=by simp only [aR,g0]
  have q10:be (i:Int) ts=(kd==5):=by simp only [be,g0]
  have q13:db (i:Int) ts=(kd==6):=by simp only [db,g0]
  have q15:eM (k':Int) ss'=stAt ss' k':=by simp only [eM,q9,stAt]
  obtain⟨hT,ha,hu,h1,h2,hi,hx,hb7,hss⟩:=hm
  have hkk:=aiV hT
  simp only at hT ha hu hb7 hkk
  have hbits:=(dF.1 ha).1
  have tG:=(dF.1 ha).2
  generalize hA:stk.drop (ltk (kd,nm,num) stk)=ar at g2 ha hbits tG
  have a0:=RO hbits 0
  have a1:=RO hbits 1
  have e14:wP (i:Int) ts stk=atZ ar 0:=by simp only [wP,g2];rfl
  have e1:k9 ar[k7 (1:Int)]? (0:Int)=atZ ar 1:=rfl
  have hlk:ltk (kd,nm,num) stk≤stk.length:=Nat.sub_le _ _
  have l0:ltI (i:Int) (ts.length:Int)=true:=dL (by omega)
  have l1:leI 0 (i:Int)=true:=bx (by omega)
  have l2:ltN i ts.length=true:=er hlt
  have l3:leI 0 ((ltk (kd,nm,num) stk:Nat):Int)=true:=bx (by omega)
  have l4:leI ((ltk (kd,nm,num) stk:Nat):Int) (stk.length:Int)=true:=bx (by omega)
  have l5:leI (stk.length:Int) (stk.length:Int)=true:=bx (by omega)
  have hal:ar.length≤40:=by rw [← hA,List.length_drop];omega
  have l6:leN ar.length 1048576=true:=aY (by omega)
  have l6b:leN (List.take (ltk (kd,nm,num) stk) stk).length 1048576=true:=aY (by rw [List.length_take];omega)
  have l7:leN ((List.take (ltk (kd,nm,num) stk) stk).length + 1) 9223372036854775807=true:=aY (by rw [List.length_take];omega)
  have l8:leN (((List.take (ltk (kd,nm,num) stk) stk).length + 1) * 8) 140737488355328=true:=aY (by rw [List.length_take];omega)
  have z00:leI (0:Int) 0=true:=rfl
  have z01:leI (0:Int) 1=true:=rfl
  have c:kv (i:Int) ts xs=xs:=j8 _ _
  have hfin:bL (i:Int) (k':Int) ts stk inp ins vs xs ss'= [tmV ins vs inp xs (kd,nm,num) ar (stAt ss' k')]∧
    cO (i:Int) (k':Int) ts=((bif leI 7 kd then k' + 1 else k':Nat):Int)∧cP (i:Int) (k':Int) ts stk ss'=(bif leI 7 kd then ss'.set k' (VR kd num ar (stAt ss' k'))else ss')∧
    (bD.lt ((i:Int),(k':Int),ts,stk,u,v,inp,ins,vs,os,ls,xs,ss')).nds=true:=by
   have hc:kd=1∨kd=2∨kd=3∨kd=4∨kd=5∨kd=6∨(7≤kd∧kd≤12):=by omega
   have n29: ∀ z:Int,leN (k8 (List.take (ltk (kd,nm,num) stk) stk) + k8 [z]) 9223372036854775807=true:=fun z=>l7
   have n30: ∀ z:Int,leN ((k8 (List.take (ltk (kd,nm,num) stk) stk) + k8 [z]) * 8) 140737488355328=true:=fun z=>l8
   rcases hc with rfl | rfl | rfl | rfl | rfl | rfl | hc
   ·have hr:SD ins vs nm=true:=by simpa [usedB] using hu
    obtain⟨v1,v2⟩:=atU nm ins vs inp xs hr h1 h2 hi hx
    have hv:bL (i:Int) (k':Int) ts stk inp ins vs xs ss'= [tmV ins vs inp xs (1,nm,num) ar (stAt ss' k')]:=by simp [bL,tmV,q4,g0,v1]
    refine⟨hv,?_,?_,?_⟩
    ·simp [cO,q4,show leI 7 (1:Int)=false from rfl]
    ·simp [cP,q4,show leI 7 (1:Int)=false from rfl]
    ·simp only [fE,og,oh,lx,ly,oi,oj,ol,om,oo,mv,mw,my,mz,mA,mB,mC,mD,mE,mF,mG,mH,mI,mJ,mK,ko,kq,kr,mL,mM,mN,kt,cO,ku,kv,cP,gd,bD,LT.nds,allT,g0,g1,g2,g3,q4,q5,q6,q7,q10,q13,hv,v2,l0,l1,l2,l3,l4,l5,l6,l6b,n29,n30,z00,q9];rfl
   ·have hv:bL (i:Int) (k':Int) ts stk inp ins vs xs ss'= [tmV ins vs inp xs (2,nm,num) ar (stAt ss' k')]:=by simp [bL,tmV,q4,q5]
    refine⟨hv,?_,?_,?_⟩
    ·simp [cO,q4,q5,show leI 7 (2:Int)=false from rfl]
    ·simp [cP,q4,q5,show leI 7 (2:Int)=false from rfl]
    ·simp only [fE,og,oh,lx,ly,oi,oj,ol,om,oo,mv,mw,my,mz,mA,mB,mC,mD,mE,mF,mG,mH,mI,mJ,mK,ko,kq,kr,mL,mM,mN,kt,cO,ku,kv,cP,gd,bD,LT.nds,allT,g0,g1,g2,g3,q4,q5,q6,q7,q10,q13,hv,l0,l1,l2,l3,l4,l5,l6,l6b,n29,n30,z00,q9];rfl
   ·have hv:bL (i:Int) (k':Int) ts stk inp ins vs xs ss'= [tmV ins vs inp xs (3,nm,num) ar (stAt ss' k')]:=by simp [bL,tmV,q4,q5,q6]
    refine⟨hv,?_,?_,?_⟩
    ·simp [cO,q4,q5,q6,show leI 7 (3:Int)=false from rfl]
    ·simp [cP,q4,q5,q6,show leI 7 (3:Int)=false from rfl]
    ·simp only [fE,og,oh,lx,ly,oi,oj,ol,om,oo,mv,mw,my,mz,mA,mB,mC,mD,mE,mF,mG,mH,mI,mJ,mK,ko,kq,kr,mL,mM,mN,kt,cO,ku,kv,cP,gd,bD,LT.nds,allT,g0,g1,g2,g3,q4,q5,q6,q7,q10,q13,hv,l0,l1,l2,l3,l4,l5,l6,l6b,n29,n30,z00,q9];rfl
   ·have t:takesK 4=1:=rfl
    rw [t]at tG
    have s1:kw (i:Int) ts stk=true:=by simp only [kw,g2];exact dL (by omega)
    have s2:kx (i:Int) ts stk=true:=by simp only [kx,g2];exact er (by simp only [Int.toNat_zero];omega)
    have hv:bL (i:Int) (k':Int) ts stk inp ins vs xs ss'= [tmV ins vs inp xs (4,nm,num) ar (stAt ss' k')]:=by simp [bL,tmV,q4,q5,q6,q7,e14,axz a0]
    refine⟨hv,?_,?_,?_⟩
    ·simp [cO,q4,q5,q6,q7,show leI 7 (4:Int)=false from rfl]
    ·simp [cP,q4,q5,q6,q7,show leI 7 (4:Int)=false from rfl]
    ·simp only [fE,og,oh,lx,ly,oi,oj,ol,om,oo,mv,mw,my,mz,mA,mB,mC,mD,mE,mF,mG,mH,mI,mJ,mK,ko,kq,kr,mL,mM,mN,kt,cO,ku,kv,cP,gd,bD,LT.nds,allT,g0,g1,g2,g3,q4,q5,q6,q7,q10,q13,s1,s2,hv,l0,l1,l2,l3,l4,l5,l6,l6b,n29,n30,z00,q9];rfl
   ·have t:takesK 5=2:=rfl
    rw [t]at tG
    have s1:kw (i:Int) ts stk=true:=by simp only [kw,g2];exact dL (by omega)
    have s2:kx (i:Int) ts stk=true:=by simp only [kx,g2];exact er (by simp only [Int.toNat_zero];omega)
    have s3:rD (i:Int) ts stk=true:=by simp only [rD,g2];exact dL (by omega)
    have s4:rE (i:Int) ts stk=true:=by simp only [rE,g2];exact er (by have:(k7 1)=1:=rfl;omega)
    have hv:bL (i:Int) (k':Int) ts stk inp ins vs xs ss'= [tmV ins vs inp xs (5,nm,num) ar (stAt ss' k')]:=by
     have:=av0 a0 a1
     simp only [bL,tmV,q4,q5,q6,q7,q10,e14,g2,e1,this];rfl
    refine⟨hv,?_,?_,?_⟩
    ·simp [cO,q4,q5,q6,q7,q10,show leI 7 (5:Int)=false from rfl]
    ·simp [cP,q4,q5,q6,q7,q10,show leI 7 (5:Int)=false from rfl]
    ·simp only [fE,og,oh,lx,ly,oi,oj,ol,om,oo,mv,mw,my,mz,mA,mB,mC,mD,mE,mF,mG,mH,mI,mJ,mK,ko,kq,kr,mL,mM,mN,kt,cO,ku,kv,cP,gd,bD,LT.nds,allT,g0,g1,g2,g3,q4,q5,q6,q7,q10,q13,s1,s2,s3,s4,hv,l0,l1,l2,l3,l4,l5,l6,l6b,n29,n30,z00,z01,q9];rfl
   ·have t:takesK 6=2:=rfl
    rw [t]at tG
    have s1:kw (i:Int) ts stk=true:=by simp only [kw,g2];exact dL (by omega)
    have s2:kx (i:Int) ts stk=true:=by simp only [kx,g2];exact er (by simp only [Int.toNat_zero];omega)
    have s3:rD (i:Int) ts stk=true:=by simp only [rD,g2];exact dL (by omega)
    have s4:rE (i:Int) ts stk=true:=by simp only [rE,g2];exact er (by have:(k7 1)=1:=rfl;omega)
    have hv:bL (i:Int) (k':Int) ts stk inp ins vs xs ss'= [tmV ins vs inp xs (6,nm,num) ar (stAt ss' k')]:=by
     have:=axC a0 a1
     simp only [bL,tmV,q4,q5,q6,q7,q10,q13,e14,g2,e1,this];rfl
    refine⟨hv,?_,?_,?_⟩
    ·simp [cO,q4,q5,q6,q7,q10,q13,show leI 7 (6:Int)=false from rfl]
    ·simp [cP,q4,q5,q6,q7,q10,q13,show leI 7 (6:Int)=false from rfl]
    ·simp only [fE,og,oh,lx,ly,oi,oj,ol,om,oo,mv,mw,my,mz,mA,mB,mC,mD,mE,mF,mG,mH,mI,mJ,mK,ko,kq,kr,mL,mM,mN,kt,cO,ku,kv,cP,gd,bD,LT.nds,allT,g0,g1,g2,g3,q4,q5,q6,q7,q10,q13,s1,s2,s3,s4,hv,l0,l1,l2,l3,l4,l5,l6,l6b,n29,n30,z00,z01,q9];rfl
   ·have q:leI 7 kd=true:=bx hc.1
    obtain⟨b1,b2⟩:=hb7 q
    have hB:=afM (t:=(kd,nm,num)) hT q
    simp only at hB
    obtain⟨p0,p1,p2,p3,p4,p5,p6⟩:=asC hB b2 ha
    have t1:(kd==1)=false:=by simp;omega
    have t2:(kd==2)=false:=by simp;omega
    have t3:(kd==3)=false:=by simp;omega
    have t4:(kd==4)=false:=by simp;omega
    have t5:(kd==5)=false:=by simp;omega
    have t6:(kd==6)=false:=by simp;omega
    have m0:leI 0 (k':Int)=true:=bx (by omega)
    have m1:ltI (k':Int) (ss'.length:Int)=true:=dL (by omega)
    have m2:ltN k' ss'.length=true:=er b1
    have hw2:IntKind.i64.wrap ((k':Int) + 1)=((k' + 1:Nat):Int):=by rw [wrap_i64 (by omega) (by omega)];omega
    have hv:bL (i:Int) (k':Int) ts stk inp ins vs xs ss'= [tmV ins vs inp xs (kd,nm,num) ar (stAt ss' k')]:=by
     simp only [bL,tmV,q4,q5,q6,q7,q10,q13,t1,t2,t3,t4,t5,t6,cond_false,g0,q15,g2,avb]
    refine⟨hv,?_,?_,?_⟩
    ·simp only [cO,q4,q5,q6,q7,q10,q13,t1,t2,t3,t4,t5,t6,cond_false,q,cond_true,hw2]
    ·simp only [cP,q4,q5,q6,q7,q10,q13,t1,t2,t3,t4,t5,t6,cond_false,q,cond_true,g0,q15,g2,VR,q9]
    ·simp only [fE,og,oh,lx,ly,oi,oj,ol,om,oo,mv,mw,my,mz,mA,mB,mC,mD,mE,mF,mG,mH,mI,mJ,mK,ko,kq,kr,mL,mM,mN,kt,cO,ku,kv,cP,gd,bD,LT.nds,allT,g0,g1,g2,g3,q4,q5,q6,q7,q10,q13,t1,t2,t3,t4,t5,t6,hv,p5,m0,m1,m2,l0,l1,l2,l3,l4,l5,l6,l6b,n29,n30,z00,z01,q9];rfl
  obtain⟨f1,f2,f3,f4⟩:=hfin
  refine⟨f4,?_,?_,fun a' hf=> ?_⟩
  ·have c31:kt (i:Int)=((i + 1:Nat):Int):=hw
   have c0:fE (i:Int) ts=true:=l0
   simp only [bD,gd,LT.each,c0,c31,f2,c,q9]
   simp
  ·have c0:fE (i:Int) ts=true:=l0
   simp only [bD,gd,LT.fn,c0,cond_true,ku,f1,f2,f3,g3,q9,lnS,hA]
  ·simp only [Sum.inr.injEq]at hf
   subst hf;exact hI2
 ·have gr:fE (ts.length:Int) ts=false:=Ej (by omega)
  simp only [bD,gd,LT.out,gr]
  rfl
structure ScH (ins vs os:List aAi) (inp:avu) (ls:List LN):Prop where
 hi:bitsB ins.length inp=true
 hL:ls.all lineB=true
 hm:ls.all (madeB vs os)=true
 hu:ls.all (fun l=>l.2.all (usedB ins vs))=true
 hn:ls.length≤40
 h1:ins.length≤20
 h2:vs.length≤20
 h3:os.length≤20
theorem arJ: ∀ (ls:List LN),ls.all lineB=true→(blL ls).length≤40 * ls.length
 | [],_=>by simp [blL]
 |l::r,h=>by
  simp only [List.all_cons,q8]at h
  have h1:=arJ r h.2
  have h2:=(aal h.1).2.1
  have h3:(blT l.2).length≤l.2.length:=List.length_filter_le ..
  have h4:blL (l::r)=blT l.2++blL r:=rfl
  rw [h4,j6,List.length_cons]
  omega
theorem ScH.bl{ins vs os:List aAi}{inp:avu}{ls:List LN}(h:ScH ins vs os inp ls):(blL ls).length≤1600:=by
 have:=arJ ls h.hL
 have:=h.hn
 omega
theorem ScH.line{ins vs os:List aAi}{inp:avu}{ls:List LN}(h:ScH ins vs os inp ls){i:Nat}{a:SS4}{l:LN}(hl:ls[i]? =some l)(hI:ScAt vs os ls i a):
  LineH ins vs inp a.1 (blL (ls.take i)) (blL (ls.drop (i + 1))) l.2:=by
 have hm:=List.mem_of_getElem? hl
 obtain⟨q1,q2,q3⟩:=aal (List.all_eq_true.1 h.hL l hm)
 have h1:=h.h1
 have h2:=h.h2
 have hb:=h.bl
 rw [(abu hl).1]at hb
 exact⟨h.hi,hI.hx,⟨1,q3⟩,List.all_eq_true.1 h.hu l hm,q2,by omega,aY (by omega),aY (by omega)⟩
theorem axl{ins vs os:List aAi}{inp:avu}{ls:List LN}(h:ScH ins vs os inp ls){i:Nat}{a:SS4}{l:LN}(hl:ls[i]? =some l)(hI:ScAt vs os ls i a)(u v:aAi):
  IE u v (a.2.2.2:Int) ins vs os ls a.1 a.2.2.1 inp l.2=atZ (lnV ins vs inp l a).1 0∧
  IF u v (a.2.2.2:Int) ins vs os ls a.1 a.2.2.1 inp l.2=a.1∧
  IG u v (a.2.2.2:Int) ins vs os ls a.1 a.2.2.1 inp l.2=(scS ins vs os inp l a).2.2.1∧
  IH u v (a.2.2.2:Int) ins vs os ls a.1 a.2.2.1 inp l.2=true:=by
 obtain⟨w1,w2⟩:=axm (h.line hl hI) u v os ls a.2.2.1 a.2.2.2 (anI hl hI)
 have hm:=List.mem_of_getElem? hl
 obtain⟨g1,g2,g3⟩:=aeQ (ins:=ins) (inp:=inp) h.hi (List.all_eq_true.1 h.hL l hm) hl hI
 rw [show ajr ins vs inp a.1 l.2 ([],a.2.2.1,a.2.2.2)=lnV ins vs inp l a from rfl]at w2
 have e2:Ch u v (a.2.2.2:Int) ins vs os ls a.1 a.2.2.1 inp l.2=(lnV ins vs inp l a).1:=by
  simp only [Ch,Cg,xW,w2]
 have z0:leI (0:Int) 0=true:=rfl
 have k1:ltI 0 ((lnV ins vs inp l a).1.length:Int)=true:=by rw [g1];rfl
 have k2:ltN (k7 0) (lnV ins vs inp l a).1.length=true:=by rw [g1];rfl
 have hf:Lp.fin bD (xW u v (a.2.2.2:Int) ins vs os ls a.1 a.2.2.1 inp l.2)=true:=w1
 refine⟨?_,?_,?_,?_⟩
 ·simp only [IE,e2];rfl
 ·simp only [IF,Hv,Cg,xW,w2]
 ·simp only [IG,Hv,Cg,xW,w2,scS]
 ·simp only [IH,hf,e2,z0,k1,k2,allT,cond_true]
def aug(n:Nat)(t:TM):Nat:=bif leI 7 t.1 then n + 1 else n
theorem arc: ∀ (ts:List TM) (n:Nat),ts.foldl aug n=n + (blT ts).length
 | [],n=>by simp [blT]
 |t::r,n=>by
  rw [List.foldl_cons,arc r]
  simp only [aug,blT,List.filter_cons]
  cases leI 7 t.1 <;> simp <;> omega
theorem ay1(u v:aAi)(ins vs os:List aAi)(ls:List LN){i k:Nat}{l:LN}(hl:ls[i]? =some l)(hn:l.2.length≤40)(hk:k≤2000):
  gH.fin ((0:Int),(i:Int),(k:Int),u,v,ins,vs,os,ls)=true∧
  gH.res ((0:Int),(i:Int),(k:Int),u,v,ins,vs,os,ls)=(0,((l.2.length:Int),(i:Int),((k + (blT l.2).length:Nat):Int),u,v,ins,vs,os,ls)):=by
 have hlt:=(j9.1 hl).1
 have n0:leI 0 (i:Int)=true:=bx (by omega)
 have n1:ltI (i:Int) (ls.length:Int)=true:=dL (by omega)
 have n2:ltN i ls.length=true:=er hlt
 have nk: ∀ d:LN,k9 ls[i]? d=l:=fun d=>by rw [hl];rfl
 have g0:Ci (i:Int) ls=l.2:=by simp only [Ci,q9];exact congrArg Prod.snd (nk _)
 have oe:=gH.along2 (fun j (a:Nat)=>((j:Int),(i:Int),(a:Int),u,v,ins,vs,os,ls)) (fun x=>x.2.2.1.toNat)
  (fun(t:TM) a=> .inr (aug a t)) 0 (fun j a=>a≤k + j) l.2 k (by omega) (by omega) (fun j t a hb hI=> ?_) (fun a hI=> ?_)
 ·rw [Xa (g:=aug) (fun b a=>rfl),arc]at oe
  simpa using oe
 ·have hjt:=(j9.1 hb).1
  have hw:IntKind.i64.wrap ((j:Int) + 1)=((j + 1:Nat):Int):=by rw [wrap_i64 (by omega) (by omega)];omega
  have hw2:IntKind.i64.wrap ((a:Int) + 1)=((a + 1:Nat):Int):=by rw [wrap_i64 (by omega) (by omega)];omega
  have l0:leI 0 (j:Int)=true:=bx (by omega)
  have l1:ltI (j:Int) (l.2.length:Int)=true:=dL (by omega)
  have l2:ltN j l.2.length=true:=er hjt
  have c7:RC (j:Int) (i:Int) (a:Int) ls=((aug a t:Nat):Int):=by
   simp only [RC,g0,q9,hb,Option.getD_some,hw2,aug]
   cases leI 7 t.1 <;> rfl
  refine⟨?_,?_,?_,fun a' hf=> ?_⟩
  ·simp only [gH,BR,IJ,IK,IL,zG,Zh,Zi,LT.nds,allT,g0,n0,n1,n2,l0,l1,l2,q9,cond_true,Bool.and_self]
  ·simp only [gH,BR,zG,Zj,LT.each,c7,g0,l1,hw,q9,Bool.and_true,and_self]
  ·simp only [gH,BR,zG,LT.fn,c7,g0,l1,q9,cond_true]
  ·simp only [Sum.inr.injEq]at hf
   subst hf
   simp only [aug]
   cases leI 7 t.1 <;> simp <;> omega
 ·have gr:ltI (l.2.length:Int) (l.2.length:Int)=false:=Ej (by omega)
  simp [gH,BR,IJ,IK,IL,zG,LT.out,g0,n0,n1,n2,gr,allT]
theorem avr(ins vs os:List aAi)(inp:avu): ∀ (ls:List LN) (a:SS4),ls.foldl (fun a l=>scS ins vs os inp l a) a=aqh ins vs os inp ls a
 | [],a=>rfl
 |l::r,a=>by rw [List.foldl_cons,avr ins vs os inp r];rfl
theorem axK{ins vs os:List aAi}{inp xs:avu}{ss:List BS3}{ls:List LN}(h:ScH ins vs os inp ls)(hs:xF vs.length (blL ls) xs ss=true)(u v:aAi):
  jM.fin ((0:Int),(0:Int),u,v,inp,v6 os.length 0,ins,vs,os,ls,xs,ss)=true∧
  jM.res ((0:Int),(0:Int),u,v,inp,v6 os.length 0,ins,vs,os,ls,xs,ss)=
   (0,((ls.length:Int),((scE ins vs os ls inp xs ss).2.2.2:Int),u,v,inp,(scE ins vs os ls inp xs ss).2.1,ins,vs,os,ls,(scE ins vs os ls inp xs ss).1,(scE ins vs os ls inp xs ss).2.2.1)):=by
 obtain⟨s1,s2,s3⟩:=Yd.1 hs
 have h0:ScAt vs os ls 0 (xs,v6 os.length 0,ss,0):=⟨s2,dF.2 ⟨fun z hz=> .inl (List.eq_of_mem_replicate hz),by simp⟩,s1,s3,by simp [blL]⟩
 have hn:=h.hn
 have h2:=h.h2
 have h3:=h.h3
 have oe:=jM.along2 (fun i (a:SS4)=>((i:Int),(a.2.2.2:Int),u,v,inp,a.2.1,ins,vs,os,ls,a.1,a.2.2.1)) (fun x=>(x.2.2.2.2.2.2.2.2.2.2.1,x.2.2.2.2.2.1,x.2.2.2.2.2.2.2.2.2.2.2,x.2.1.toNat))
  (fun(l:LN) a=> .inr (scS ins vs os inp l a)) 0 (fun i a=>ScAt vs os ls i a) ls (xs,v6 os.length 0,ss,0) h0 (by omega) (fun i l a hb hI=> ?_) (fun a hI=> ?_)
 ·rw [Xa (g:=fun a l=>scS ins vs os inp l a) (fun b a=>rfl),avr]at oe
  simpa [scE] using oe
 ·have hlt:=(j9.1 hb).1
  have hm:=List.mem_of_getElem? hb
  have hL:=List.all_eq_true.1 h.hL l hm
  have hw:IntKind.i64.wrap ((i:Int) + 1)=((i + 1:Nat):Int):=by rw [wrap_i64 (by omega) (by omega)];omega
  obtain⟨g1,g2,g3⟩:=aeQ (ins:=ins) (inp:=inp) h.hi hL hb hI
  obtain⟨r0,r1,r2,r3⟩:=axl h hb hI u v
  have hbl:=h.bl
  have hsp:=(abu hb).2
  have hspl:=(abu hb).1
  have hk1:=hI.hk
  have hk2:=g3.hk
  have hkk:a.2.2.2≤2000:=by
   rw [hspl,j6,j6]at hbl
   omega
  obtain⟨c1,c2⟩:=ay1 u v ins vs os ls hb (aal hL).2.1 hkk
  have hknew:a.2.2.2 + (blT l.2).length=(scS ins vs os inp l a).2.2.2:=by omega
  have hmd:(lY vs l.1||lY os l.1)=true:=List.all_eq_true.1 h.hm l hm
  have hx:=(dF.1 hI.hx).2
  have ho:=(dF.1 hI.ho).2
  have q0:UN (i:Int) ls=true:=dL (by omega)
  have q1:UO (i:Int) ls=true:=er (by simpa using hlt)
  have nk: ∀ d:LN,k9 ls[i]? d=l:=fun d=>by rw [hb];rfl
  have q2:vp (i:Int) ls=l:=by simp only [vp,q9];exact nk _
  have q3:eE (i:Int) vs ls=oP vs l.1:=by simp only [eE,q2]
  have q5:CR (i:Int) os ls=oP os l.1:=by simp only [CR,q2]
  have q4:CQ (i:Int) (a.2.2.2:Int) u v inp ins vs os ls a.1 a.2.2.1=a.1:=by simp only [CQ,q2,r1]
  have q7:NA (i:Int) (a.2.2.2:Int) u v inp ins vs os ls a.1 a.2.2.1=atZ (lnV ins vs inp l a).1 0:=by simp only [NA,q2,r0]
  have p1:WN (i:Int)=true:=bx (by omega)
  have p3:WP (i:Int) (a.2.2.2:Int) u v inp ins vs os ls a.1 a.2.2.1=true:=by simp only [WP,q2,r3]
  have p4:adg vs=true:=aY (by omega)
  have p15:ab7 (i:Int) (a.2.2.2:Int) u v ins vs os ls=true:=c1
  have p16:ab8 (i:Int)=((i + 1:Nat):Int):=hw
  have p17:UJ (i:Int) (a.2.2.2:Int) u v ins vs os ls=((scS ins vs os inp l a).2.2.2:Int):=by
   simp only [UJ,UP,c2,hknew]
  have p20:UM (i:Int) (a.2.2.2:Int) u v inp ins vs os ls a.1 a.2.2.1=(scS ins vs os inp l a).2.2.1:=by simp only [UM,q2,r2]
  have p18:UK (i:Int) (a.2.2.2:Int) u v inp a.2.1 ins vs os ls a.1 a.2.2.1=(scS ins vs os inp l a).2.1:=by
   simp only [UK,q3,q5,q7,Zq,scS]
   cases hv:lY vs l.1 with
   |true=>rfl
   |false=>
    have ho':lY os l.1=true:=by simpa [hv] using hmd
    simp only [cond_false,JS ho',q9]
  have p19:UL (i:Int) (a.2.2.2:Int) u v inp ins vs os ls a.1 a.2.2.1=(scS ins vs os inp l a).1:=by
   simp only [UL,q3,q4,q7,Zq,scS]
   cases hv:lY vs l.1 with
   |true=>simp only [cond_true,JS hv,q9]
   |false=>rfl
  have pm:WQ (i:Int) vs ls=true∧WR (i:Int) (a.2.2.2:Int) u v inp ins vs os ls a.1 a.2.2.1=true∧WS (i:Int) (a.2.2.2:Int) u v inp ins vs os ls a.1 a.2.2.1=true∧
    WT (i:Int) vs ls=true∧WU (i:Int) vs ls=true∧UE (i:Int) vs ls=true∧UF (i:Int) vs os ls=true∧
    UG (i:Int) vs os ls=true∧UH (i:Int) a.2.1 vs os ls=true∧UI (i:Int) a.2.1 vs os ls=true:=by
   simp only [WQ,WR,WS,WT,WU,UE,UF,UG,UH,UI,q0,q1,q3,q4,q5,Zq]
   have m1:leI 0 (i:Int)=true:=p1
   have m2:leN os.length 9223372036854775807=true:=aY (by omega)
   cases hv:lY vs l.1 with
   |true=>
    have hp:=VZ hv
    have k1:ltI (Io vs l.1:Int) (a.1.length:Int)=true:=dL (by omega)
    have k2:ltN (Io vs l.1) a.1.length=true:=er (by omega)
    simp only [JS hv,acD.1,k1,k2,q9,j7,Bool.true_or,and_self]
   |false=>
    have ho':lY os l.1=true:=by simpa [hv] using hmd
    have hp:=VZ ho'
    have k1:ltI (Io os l.1:Int) (a.2.1.length:Int)=true:=dL (by omega)
    have k2:ltN (Io os l.1) a.2.1.length=true:=er (by omega)
    simp only [ho',JS ho',acD.1,k1,k2,m1,m2,q9,j7,Bool.true_or,Bool.not_false,and_self]
  obtain⟨m5,m6,m7,m8,m9,m10,m11,m12,m13,m14⟩:=pm
  have p0:II (i:Int) ls=true:=q0
  have p2:WO (i:Int) ls=true:=q1
  refine⟨?_,?_,?_,fun a' hf=> ?_⟩
  ·simp only [jM,Gt,LT.nds,allT,p0,p1,p2,p3,p4,m5,m6,m7,m8,m9,m10,m11,m12,m13,m14,p15,cond_true,Bool.and_self]
  ·simp only [jM,Gt,LT.each,p0,p16,p17,p18,p19,p20,q9,Bool.and_true,and_self]
  ·simp only [jM,Gt,LT.fn,p0,p17,p18,p19,p20,q9,cond_true]
  ·simp only [Sum.inr.injEq]at hf
   subst hf;exact g3
 ·have gr:II (ls.length:Int) ls=false:=Ej (by omega)
  simp [jM,Gt,LT.out,gr]
theorem atc: ∀ (ts:List TM) (n e:Int),htT ts n=some e→acz (blT ts)=true
 | [],n,e,_=>rfl
 |t::r,n,e,h=>by
  simp only [htT]at h
  cases hc:(termB t.1 t.2.1 t.2.2&&leI (takesK t.1) n)with
  |false=>rw [hc]at h;cases h
  |true=>
   rw [hc,cond_true]at h
   simp only [q8]at hc
   have h1:=atc r _ e h
   cases h7:leI 7 t.1 with
   |false=>simpa only [blT,List.filter_cons,h7,Bool.false_eq_true,if_false] using h1
   |true=>
    simp only [blT,List.filter_cons,h7,if_true,acz,List.all_cons,q8]
    exact⟨afM hc.1 h7,h1⟩
theorem apa: ∀ (ls:List LN),ls.all lineB=true→acz (blL ls)=true
 | [],_=>rfl
 |l::r,h=>by
  simp only [List.all_cons,q8]at h
  have h1:=apa r h.2
  have h2:=atc _ _ _ (aal h.1).2.2
  have h4:blL (l::r)=blT l.2++blL r:=rfl
  simp only [acz]at h1 h2
  simp only [h4,acz,List.all_append,h1,h2,Bool.and_self]
theorem Vb{nm:aAi}{ins vs os:List aAi}{g:aAi}{ls:List LN}(h:gj nm ins vs os g ls=true):
  (g.toList== []||SD ins vs g)=true∧ls.all lineB=true∧ls.all (madeB vs os)=true∧ls.all (fun l=>l.2.all (usedB ins vs))=true∧ls.length≤40∧ins.length≤20∧vs.length≤20∧os.length≤20:=by
 simp only [gj,aoo,aww,ano,q8,pR]at h
 obtain⟨⟨_,⟨_,i1⟩,⟨_,i2⟩,⟨_,i3⟩,_,hL,hn⟩,_,hg,hm,_,_,hu⟩:=h
 exact⟨hg,hL,hm,hu,by omega,by omega,by omega,by omega⟩
theorem ak4{nm:aAi}{ins vs os:List aAi}{g:aAi}{ls:List LN}{inp:avu}(h:gj nm ins vs os g ls=true)(hi:bitsB ins.length inp=true):ScH ins vs os inp ls:=by
 obtain⟨_,hL,hm,hu,hn,h1,h2,h3⟩:=Vb h
 exact⟨hi,hL,hm,hu,hn,h1,h2,h3⟩
def scG(nm:aAi)(ins vs os:List aAi)(g:aAi)(ls:List LN)(xs:avu)(ss:List BS3)(inp:avu):Bool:=gj nm ins vs os g ls&&(xF vs.length (blL ls) xs ss&&bitsB ins.length inp)
theorem aap{nm:aAi}{ins vs os:List aAi}{g:aAi}{ls:List LN}{xs:avu}{ss:List BS3}{inp:avu}:
  scG nm ins vs os g ls xs ss inp=true↔gj nm ins vs os g ls=true∧xF vs.length (blL ls) xs ss=true∧bitsB ins.length inp=true:=by
 simp only [scG,q8]
theorem aok(nm:aAi)(ins vs os:List aAi)(g:aAi)(ls:List LN)(xs:avu)(ss:List BS3)(inp:avu)(h:scG nm ins vs os g ls xs ss inp=true):
  WJ nm g ins vs os ls xs ss inp=scO ins vs os g ls inp xs ss∧WK nm g ins vs os ls xs ss inp=scV ins vs os ls inp xs ss∧
  WL nm g ins vs os ls xs ss inp=scB ins vs os ls inp xs ss∧WM nm g ins vs os ls xs ss inp=true:=by
 obtain⟨h1,h2,h3⟩:=aap.1 h
 obtain⟨hg,_⟩:=Vb h1
 have hS:=ak4 h1 h3
 obtain⟨w1,w2⟩:=axK hS h2 nm g
 have hE:=au1 (os:=os) h3 hS.hL h2
 obtain⟨s1,s2,s3⟩:=Yd.1 h2
 have hb:=hS.bl
 have b1:=hS.h1
 have b2:=hS.h2
 have b3:=hS.h3
 have hx2:=(dF.1 s2).2
 have a1:TO os=v6 os.length 0:=by simp only [TO,q9]
 have a0:HS g= !(g.toList== []):=by simp only [HS,Sb]
 have e3:TP nm g ins vs os ls xs ss inp=((scE ins vs os ls inp xs ss).2.1,ins,vs,os,ls,(scE ins vs os ls inp xs ss).1,(scE ins vs os ls inp xs ss).2.2.1):=by
  simp only [TP,NT,a1,w2]
 have e5:HT nm g ins vs os ls xs ss inp=(scE ins vs os ls inp xs ss).1:=by simp only [HT,TQ,e3]
 have e8:TS nm g ins vs os ls xs ss inp=(scE ins vs os ls inp xs ss).2.2.1:=by simp only [TS,TQ,e3]
 have e7:TR nm g ins vs os ls xs ss inp=(scE ins vs os ls inp xs ss).1:=by simp only [TR,e5];exact j8 _ _
 have e9:TT nm g ins vs os ls xs ss inp=(scE ins vs os ls inp xs ss).2.2.1:=by simp only [TT,e8];exact j8 _ _
 have hv:(g.toList== [])=false→Bt g ins vs (scE ins vs os ls inp xs ss).1 inp=nmV ins vs inp (scE ins vs os ls inp xs ss).1 g∧Bu g ins vs (scE ins vs os ls inp xs ss).1 inp=true:=fun hgg=>by
  rw [hgg,Bool.false_or]at hg
  have q1:=(dF.1 h3).2
  have q2:=(dF.1 hE.hx).2
  exact atU g ins vs inp _ hg (aY (by omega)) (aY (by omega)) (by omega) (by omega)
 have e6:yw nm g ins vs os ls xs ss inp=(!(g.toList== [])&&nmV ins vs inp (scE ins vs os ls inp xs ss).1 g==0):=by
  simp only [yw,a0,e5]
  cases hgg:g.toList== []with
  |true=>rfl
  |false=>simp only [Bool.not_false,cond_true,(hv hgg).1,Bool.true_and]
 refine⟨?_,?_,?_,?_⟩
 ·simp only [WJ,e6,e3,a1,scO]
 ·simp only [WK,e7,scV];exact j8 _ _
 ·simp only [WL,e9,scB];exact j8 _ _
 ·have f1:Lp.fin jM (NT nm g ins vs os ls xs ss inp)=true:=by simp only [NT,a1];exact w1
  have f0:Ym xs ss=true:=by
   simp only [Ym,allT,aY (show xs.length≤1048576 by omega),aY (show 0 + ss.length≤9223372036854775807 by omega),aY (show (0 + ss.length) * 24≤140737488355328 by omega),cond_true]
  have f2:leI 0 (os.length:Int)=true:=bx (by omega)
  have f3:leI (os.length:Int) (os.length:Int)=true:=bx (by omega)
  have f4:leI (((8:Nat):Int) * (os.length:Int)) 281474976710656=true:=bx (by omega)
  have f5:leI (os.length:Int) 9223372036854775807=true:=bx (by omega)
  have f6:Yb os=true:=f3
  have f7:Yc os=true:=f4
  simp only [WM,f0,f1,f2,f5,f6,f7,a0,e5,allT,j7,cond_true,Bool.and_true]
  cases hgg:g.toList== []with
  |true=>rfl
  |false=>simp only [(hv hgg).2];rfl
def ahM:aAj
 | [.one ⟨true,[.val (.string a),.ref 0,.ref 1,.ref 2,.val (.string b),.ref 3]⟩,.one ⟨true,[.ref 4,.ref 5]⟩,.one ⟨false,[.ref 6]⟩],[.row false 9 (.str) c,.row false 9 (.str) d,.row false 9 (.str) e,.row false 91 (.pair (.str) (.sl 66 (.pair (.int .i64) (.pair (.str) (.int .i64))))) f,.row false 2 (.int .i64) g,.row false 84 (.pair (.int .i64) (.pair (.int .i64) (.int .i64))) i,.row false 2 (.int .i64) j]=>some ⟨.tup [⟨false,[.ref 7]⟩,⟨true,[.ref 8,.ref 9]⟩],[aAn c,aAn d,aAn e,aAt f,aAq g,aAz i,aAq j],[aAo (scO c d e b f j g i),aAo (scV c d e f j g i),aAw (scB c d e f j g i)],[scG a c d e b f g i j]⟩
 |_,_=>none
def Aq:PF prog:=PF.alt VY ahM (by
 intro args es o h cL;unfold ahM at h;split at h
 ·rename_i a b c d e f g i j
  cases h
  have cL:=kO cL
  have hh:=aok a c d e b f g i j cL
  obtain⟨e0,e1,e2,en⟩:=hh
  exact qm rfl (jv en) rfl rfl (by simp only [e0,e1,e2] <;> rfl)
 ·cases h)
def EB(a:aor)(c:as9)(b:Nat):(Unit)→Nat ⊕ (Unit)
 |_=>(bif(!dK ((k9 a[b]? ((0:Int),ByteArray.empty,(0:Int))).1) ((k9 a[b]? ((0:Int),ByteArray.empty,(0:Int))).2.2) ((k9 c[b]? ((0:Int),(0:Int),(0:Int))).1) (((k9 c[b]? ((0:Int),(0:Int),(0:Int))).2).1) ((k9 c[b]? ((0:Int),(0:Int),(0:Int))).2.2))then(.inl 0)else(.inr ()))
def rA(a:aor)(b:avu)(c:as9)(i:Nat):(Unit)→ow
 |_=>((i:Int),a,b,c)
def Rk:ow→Unit
 |(_,_,_,_)=>()
theorem ajy(c:aor)(d:avu)(e:as9) (hn:c.length≤9223372036854775807) (he:e.length=c.length):
  eQ.fin ((0:Int),c,d,e)=true∧eQ.res ((0:Int),c,d,e)=((bz (EB c e) 1 (List.range c.length) 0 ()).1,(rA c d e) (bz (EB c e) 1 (List.range c.length) 0 ()).2.1 (bz (EB c e) 1 (List.range c.length) 0 ()).2.2):=by
 have oe:=eQ.along (rA c d e) Rk (EB c e) 1 (fun _ _=>True) (List.range c.length) () (by trivial) (by simp only [eQ,rA,List.length_range];omega) (fun i b a hb hI=> ?_) (fun a hI=> ?_)
 ·exact oe
 ·obtain⟨⟩:=a
  obtain⟨rfl,hlt⟩:=UZ hb
  have hw:IntKind.i64.wrap ((b:Int) + 1)=((b + 1:Nat):Int):=by rw [wrap_i64 (by omega) (by omega)];omega
  have gr:ltI (b:Int) (c.length:Int)=true:=dL (by omega)
  have LW:leI (0:Int) (b:Int)=true:=bx (by omega)
  have sd:ltN b c.length=true:=er (by omega)
  refine⟨?_,?_,?_,?_⟩
  ·simp [zF,vo,Bc,Bd,EZ,Fa,Fb,Fc,Fd,Ds,eQ,LT.nds,allT,rA,gr,LW,sd,he]
  ·simp [zF,vo,Bc,Bd,EZ,Fa,Fb,Fc,Fd,Ds,eQ,LT.each,rA,Rk,hw,he]
  ·simp only [zF,vo,Bc,Bd,EZ,Fa,Fb,Fc,Fd,Ds,eQ,LT.fn,rA,Rk,EB,q9,gr,cond_true]
  ·exact fun _ _=>trivial
 ·obtain⟨⟩:=a
  simp [zF,vo,Bc,Bd,EZ,Fa,Fb,Fc,Fd,Ds,eQ,LT.out,rA,List.length_range]
theorem avh: ∀ (ls:List LN),(∀ l∈ls,l.2.length≤1048576)→(blL ls).length≤1048576 * ls.length
 | [],_=>by simp [blL]
 |l::r,h=>by
  have h1:=avh r (fun x hx=>h x (by simp [hx]))
  have h2:=h l (by simp)
  have h3:(blT l.2).length≤l.2.length:=List.length_filter_le ..
  have h4:blL (l::r)=blT l.2++blL r:=rfl
  rw [h4,j6,List.length_cons]
  omega
theorem azh{ls:List LN}(h:ZY ls=true):(blL ls).length≤1099511627776:=by
 obtain⟨hn,hA⟩:=UV.1 h
 have:=avh ls (fun l hl=>(Vm.1 (hA l hl).2).1)
 omega
theorem au3(vs:List aAi)(ls:List LN)(xs:avu)(ss:List BS3)(h:(ZY ls&&leN xs.length 9223372036854775807)=true):
  FH vs ls xs ss=xF vs.length (blL ls) xs ss∧Lw vs ls xs ss=true:=by
 simp only [q8]at h
 have hn:=azh h.1
 generalize hbs:blL ls=bs at hn
 by_cases hl:ss.length=bs.length
 ·obtain⟨w1,w2⟩:=ajy bs xs ss (by omega) hl
  rw [lA (P:=fun k=> !possAt bs ss k) (j:=0) (fun k=>rfl),arG (g:=possAt bs ss) (h:=possAt bs ss) _ (fun k _=>rfl)]at w2
  have a0:Ep ls ss=false:=by simp [Ep,hbs,hl]
  have a2:Qi ls xs ss=((0:Int),bs,xs,ss):=by simp only [Qi,hbs]
  have w1':Lp.fin eQ ((0:Int),bs,xs,ss)=true:=w1
  simp only [rA]at w2
  simp only [FH,Lw,Qh,a0,a2,w1,w2,h.1,h.2,allT,xF,hl]
  cases bitsB (vs.length:Int) xs <;> cases (List.range bs.length).all (possAt bs ss) <;> simp [Nat.beq,w1']
 ·have hl2: ¬ ((ss.length:Int)=(bs.length:Int)):=by omega
  have a0:Ep ls ss=true:=by simp [Ep,hbs,hl2]
  have e:((ss.length:Int)==(bs.length:Int))=false:=by simpa using hl2
  simp [FH,Lw,Qh,a0,allT,xF,e,h.1]
def aaq(nm:aAi)(ins vs os:List aAi)(g:aAi)(ls:List LN)(xs:avu)(ss:List BS3)(inps:at1):Int:=bif !gj nm ins vs os g ls then 1 else bif !xF vs.length (blL ls) xs ss|| !inps.all (fun l=>bitsB ins.length l)then 2 else 0
theorem awv{nm:aAi}{ins vs os:List aAi}{g:aAi}{ls:List LN}{xs:avu}{ss:List BS3}{inps:at1}(h:(aaq nm ins vs os g ls xs ss inps !=0)=false):
  gj nm ins vs os g ls=true∧xF vs.length (blL ls) xs ss=true∧inps.all (fun l=>bitsB ins.length l)=true:=by
 simp only [aaq]at h
 revert h
 cases gj nm ins vs os g ls <;> cases xF vs.length (blL ls) xs ss <;> cases inps.all (fun l=>bitsB ins.length l) <;> simp
def cdG(nm:aAi)(ins vs os:List aAi)(g:aAi)(ls:List LN)(xs:avu)(inps:at1):Bool:=adZ nm ins vs os g ls&&(leN xs.length 9223372036854775807&&(leN inps.length 1048576&&inps.all fun l=>leN l.length 9223372036854775807))
theorem avk{nm:aAi}{ins vs os:List aAi}{g:aAi}{ls:List LN}{xs:avu}{inps:at1}:
  cdG nm ins vs os g ls xs inps=true↔adZ nm ins vs os g ls=true∧leN xs.length 9223372036854775807=true∧inps.length≤1048576∧ ∀ l∈inps,leN l.length 9223372036854775807=true:=by
 simp only [cdG,q8,eN,List.all_eq_true]
theorem atO(nm:aAi)(ins vs os:List aAi)(g:aAi)(ls:List LN)(xs:avu)(ss:List BS3)(inp:avu)(h:cdG nm ins vs os g ls xs [inp]=true):
  RA nm g ins vs os ls xs ss inp=aaq nm ins vs os g ls xs ss [inp]∧WG nm g ins vs os ls xs ss inp=true:=by
 obtain⟨h1,h2,h3,h4⟩:=avk.1 h
 obtain⟨m1,m2⟩:=au3 vs ls xs ss (by rw [(Wa.1 h1).2.2.2.2.2.2,h2];rfl)
 have h5:=h4 inp (by simp)
 simp only [RA,WG,m1,m2,h1,h5,aaq,allT,List.all_cons,List.all_nil,Bool.and_true,j7,cond_true,and_true]
 cases xF vs.length (blL ls) xs ss <;> rfl
def rnO(nm:aAi)(ins vs os:List aAi)(g:aAi)(ls:List LN)(xs:avu)(ss:List BS3)(inp:avu):avu:=bif aaq nm ins vs os g ls xs ss [inp]!=0 then []else scO ins vs os g ls inp xs ss
def rnV(nm:aAi)(ins vs os:List aAi)(g:aAi)(ls:List LN)(xs:avu)(ss:List BS3)(inp:avu):avu:=bif aaq nm ins vs os g ls xs ss [inp]!=0 then []else scV ins vs os ls inp xs ss
def rnB(nm:aAi)(ins vs os:List aAi)(g:aAi)(ls:List LN)(xs:avu)(ss:List BS3)(inp:avu):List BS3:=bif aaq nm ins vs os g ls xs ss [inp]!=0 then []else scB ins vs os ls inp xs ss
theorem asv{nm:aAi}{ins vs os:List aAi}{g:aAi}{ls:List LN}{xs:avu}{ss:List BS3}{inp:avu}(h:(aaq nm ins vs os g ls xs ss [inp]!=0)=false):scG nm ins vs os g ls xs ss inp=true:=by
 obtain⟨h1,h2,h3⟩:=awv h
 exact aap.2 ⟨h1,h2,by simpa using h3⟩
theorem ave{z:Int}(h:(z !=0)=false):z=0:=by simpa using h
theorem au4(nm:aAi)(ins vs os:List aAi)(g:aAi)(ls:List LN)(xs:avu)(ss:List BS3)(inp:avu)(h:cdG nm ins vs os g ls xs [inp]=true):
  abA nm g ins vs os ls xs ss inp=aaq nm ins vs os g ls xs ss [inp]∧abB nm g ins vs os ls xs ss inp=rnO nm ins vs os g ls xs ss inp∧
  abC nm g ins vs os ls xs ss inp=rnV nm ins vs os g ls xs ss inp∧abD nm g ins vs os ls xs ss inp=rnB nm ins vs os g ls xs ss inp∧abE nm g ins vs os ls xs ss inp=true:=by
 obtain⟨c0,c1⟩:=atO nm ins vs os g ls xs ss inp h
 simp only [abA,abB,abC,abD,abE,HO,c0,c1,rnO,rnV,rnB,allT]
 cases hz:(aaq nm ins vs os g ls xs ss [inp]!=0)with
 |true=>exact⟨rfl,rfl,rfl,rfl,rfl⟩
 |false=>
  obtain⟨s0,s1,s2,s3⟩:=aok nm ins vs os g ls xs ss inp (asv hz)
  simp only [cond_false,cond_true,s0,s1,s2,s3,j7,and_self,ave hz]
def ahE:aAj
 | [.one ⟨true,[.val (.string a),.ref 0,.ref 1,.ref 2,.val (.string b),.ref 3]⟩,.one ⟨true,[.ref 4,.ref 5]⟩,.one ⟨false,[.ref 6]⟩],[.row false 9 (.str) c,.row false 9 (.str) d,.row false 9 (.str) e,.row false 91 (.pair (.str) (.sl 66 (.pair (.int .i64) (.pair (.str) (.int .i64))))) f,.row false 2 (.int .i64) g,.row false 84 (.pair (.int .i64) (.pair (.int .i64) (.int .i64))) i,.row false 2 (.int .i64) j]=>some ⟨.tup [⟨false,[.ref 7]⟩,⟨true,[.ref 8,.ref 9]⟩,⟨false,[aAk (aaq a c d e b f g i [j])]⟩],[aAn c,aAn d,aAn e,aAt f,aAq g,aAz i,aAq j],[aAo (rnO a c d e b f g i j),aAo (rnV a c d e b f g i j),aAw (rnB a c d e b f g i j)],[cdG a c d e b f g [j]]⟩
 |_,_=>none
theorem axG(nm:aAi)(ins vs os:List aAi)(g:aAi)(ls:List LN)(xs:avu)(ss:List BS3)(inp:avu):
  (∀ z∈rnO nm ins vs os g ls xs ss inp,z=0∨z=1)∧(rnO nm ins vs os g ls xs ss inp).length≤20:=by
 simp only [rnO]
 cases hz:(aaq nm ins vs os g ls xs ss [inp]!=0)with
 |true=>exact⟨fun z hz=>(List.not_mem_nil hz).elim,by simp⟩
 |false=>
  obtain⟨h1,h2,h3⟩:=aap.1 (asv hz)
  have hS:=ak4 h1 h3
  obtain⟨b1,b2⟩:=dF.1 (asu (os:=os) (g:=g) h3 hS.hL h2).2
  have:=hS.h3
  exact⟨b1,by simp only [cond_false];omega⟩
section
variable (a:List aAi)(b:aiK)
def ZN:avu:=v6 (k7 (↑a.length:Int)) (0:Int)
def ZO:as9:=v6 (k7 (↑(k8 (blL b)):Int)) ((0:Int),(0:Int),(0:Int))
def TN:Bool:=allT [leI 0 (↑a.length:Int),leI (↑a.length:Int) (↑a.length:Int),leI ((↑(8:Nat):Int) * (↑a.length:Int)) 281474976710656,leI (↑a.length:Int) 9223372036854775807,ZY b,leI 0 (↑(k8 (blL b)):Int),leI (↑(k8 (blL b)):Int) (↑(k8 (blL b)):Int),leI ((↑(24:Nat):Int) * (↑(k8 (blL b)):Int)) 281474976710656,leI (↑(k8 (blL b)):Int) 9223372036854775807]
end
def af2:aAj
 | [.one ⟨true,[.val (.string _x0),.ref 0,.ref 1,.ref 2,.val (.string _x1),.ref 3]⟩],[.row false 9 (.str) a,.row false 9 (.str) b,.row false 9 (.str) c,.row false 91 (.pair (.str) (.sl 66 (.pair (.int .i64) (.pair (.str) (.int .i64))))) d]=>some ⟨.one ⟨true,[.ref 4,.ref 5]⟩,[aAn a,aAn b,aAn c,aAt d],[aAo (ZN b),aAw (ZO d)],[TN b d]⟩
 |_,_=>none
def yu:PF prog:=PF.ofG prog (T3z [fX]) [] aU 119 f119 func119 (fun c _=>LOk.nil c) af2 (by
 intro _ _ _ h;unfold af2 at h;split at h<;>cases h;kernel_rfl)
abbrev sE:=Int×List (List Int)×aAi×aAi×List aAi×List aAi×List aAi×List (aAi×(List (Int×(aAi×Int))))×List Int×List (Int×(Int×Int))
section
variable (a:Int)(b:at1)(c:List aAi)
def xC:avu:=k9 b[k7 a]? (vB aml)
def FI:Bool:=ltI a (↑b.length:Int)
def Lx:Bool:=leI 0 a
def Ly:Bool:=ltN a.toNat b.length
def Lz:Bool:=leN (k8 (xC a b)) 9223372036854775807
def LA:Bool:= !bitsB (↑c.length:Int) (xC a b)
def LB:Int:=v5 .i64 (a + (1:Int))
end
def al0:sE→List (Nat×SV)
 |(a,_,_,_,_,_,_,_,_,_)=> [(7,(aAm a)),(1,(aAl (.ref 0))),(2,(aAl (.ptr 1 0))),(5,(aAl (.ptr 2 0)))]
def alX:sE→List (Nat×Entry)
 |(_,a,b,c,d,e,f,g,i,j)=> [(0,(aAD a)),(1,(.box 27 [.val (.string b),.ref 3,.ref 4,.ref 5,.val (.string c),.ref 6])),(2,(.box 31 [.ref 7,.ref 8])),(3,(aAn d)),(4,(aAn e)),(5,(aAn f)),(6,(aAs g)),(7,(aAo i)),(8,(aAw j))]
def al6:Nat→sE→List (Nat×SV)
 |0,(_,_,_,_,_,_,_,_,_,_)=> [(4,(aAl (.ref 9))),(6,(aAm 2))]
 |_,_=>[]
def al3:Nat→sE→List (Nat×Entry)
 |0,(_,a,b,c,d,e,f,g,i,j)=> [(0,(aAD a)),(1,(.box 27 [.val (.string b),.ref 3,.ref 4,.ref 5,.val (.string c),.ref 6])),(2,(.box 31 [.ref 10,.ref 11])),(3,(aAn d)),(4,(aAn e)),(5,(aAn f)),(6,(aAs g)),(7,(aAo i)),(8,(aAw j)),(9,(aAB [])),(10,(aAo [])),(11,(aAw []))]
 |_,(_,a,b,c,d,e,f,g,i,j)=> [(0,(aAD a)),(1,(.box 27 [.val (.string b),.ref 3,.ref 4,.ref 5,.val (.string c),.ref 6])),(2,(.box 31 [.ref 7,.ref 8])),(3,(aAn d)),(4,(aAn e)),(5,(aAn f)),(6,(aAs g)),(7,(aAo i)),(8,(aAw j))]
def Ik:sE→LT sE
 |(a,b,c,d,e,f,g,i,j,k)=> .ite (FI a b) (.need [Lx a,FI a b,Ly a b,Lz a b] (.ite (LA a b e) (.ext 0 [(0,0),(1,1),(2,2),(3,3),(4,4),(5,5),(6,6),(7,7),(8,8),(9,960),(10,896),(11,897)]) (.nrm ((LB a),b,c,d,e,f,g,i,j,k) [(0,0),(1,1),(2,2),(3,3),(4,4),(5,5),(6,6),(7,7),(8,8)]))) (.ext 1 [(0,0),(1,1),(2,2),(3,3),(4,4),(5,5),(6,6),(7,7),(8,8)])
def Wf(s:St):Option sE:=do
 let some ⟨none,.one ⟨false,[.val (.int .i64 a)]⟩⟩:=s.look 7|none
 let some ⟨none,.one ⟨false,[.ref 4]⟩⟩:=s.look 1|none
 let some ⟨none,.one ⟨false,[.ptr 384 0]⟩⟩:=s.look 2|none
 let some ⟨none,.one ⟨false,[.ptr 512 0]⟩⟩:=s.look 5|none
 let some (.row false 28 (.sl 2 (.int .i64)) b):=s.ent 4|none
 let some (.box 27 [.val (.string c),.ref 0,.ref 1,.ref 2,.val (.string d),.ref 3]):=s.ent 384|none
 let some (.box 31 [.ref 513,.ref 514]):=s.ent 512|none
 let some (.row false 9 (.str) e):=s.ent 0|none
 let some (.row false 9 (.str) f):=s.ent 1|none
 let some (.row false 9 (.str) g):=s.ent 2|none
 let some (.row false 91 (.pair .str (.sl 66 (.pair (.int .i64) (.pair .str (.int .i64))))) i):=s.ent 3|none
 let some (.row true 2 (.int .i64) j):=s.ent 513|none
 let some (.row true 84 (.pair (.int .i64) (.pair (.int .i64) (.int .i64))) k):=s.ent 514|none
 some (a,b,c,d,e,f,g,i,j,k)
def jK:Lp sE where
 h:=⟨[21,22,23,24,27,28,29,30,31,32,33,34,35,36,4,6,25,26,7],[0,1,2,3,4,5,6,7,8],[],[9,10,11]⟩
 JL:=al0
 JE:=alX
 XL:=al6
 XE:=al3
 q:=fun j=>match j with | 0=> .ret | _=> .exit 0
 tags:= [0,1]
 lt:=Ik
 fuel:=fun(a,b,c,d,e,f,g,i,k,l)=>a.natAbs + b.length + c.size + d.size + e.length + f.length + g.length + i.length + k.length + l.length
 fix:=fun(_,b,c,d,e,f,g,i,k,l) (a,_,_,_,_,_,_,_,_,_)=>(a,b,c,d,e,f,g,i,k,l)
 σ:= [(0,4),(1,384),(2,512),(3,0),(4,1),(5,2),(6,3),(7,513),(8,514)]
 rd:=Wf
theorem ajt:LoopOk prog (fun k=>Nat.blt k Tryz.f74.ntmps) jK.F (bc f74 0):=by
 refine Lp.ok (tbl:= (T3z [Aq,nr,yu,ju])) (lf:= []) aU jK (by kernel_rfl) (LOk.nil _) (fun _=>rfl) (fun j _=>by unfold jK;match j with | 0=>rfl | _ + 1=>rfl) ?_ ?_ ?_ ?_ (fun _=>rfl) ?_
 ·intro _;kernel_rfl
 ·intro _;kernel_rfl
 ·intro s x h
  have h:Wf s=some x:=h
  unfold Wf at h
  repeat' split at h
  all_goals cases h
  constructor<;>repeat(first|refine ab ‹_› rfl ?_|refine aa rfl ‹_› rfl ?_|rfl)
 ·intro _;kernel_rfl
 ·intro _ _;exact(And.intro (And.intro trivial rfl) trivial)
abbrev sF:=Int×List (List Int)×aAi×aAi×List (List Int)×List aAi×List aAi×List aAi×List (aAi×(List (Int×(aAi×Int))))×List Int×List (Int×(Int×Int))
section
variable (a:Int)(b:at1)(c d:aAi)(e:at1)(f g i:List aAi)(j:aiJ)(k:avu)(l:as9)
def re:avu:=k9 b[k7 a]? (vB aml)
def AQ:at1:= [scO f g i d j (re a b) k l]
def FJ:Bool:=ltI a (↑b.length:Int)
def LC:Bool:=leI 0 a
def LD:Bool:=ltN a.toNat b.length
def LF:Bool:=scG c f g i d j k l (re a b)
def LG:Bool:=leN (k8 e + k8 (AQ a b d f g i j k l)) 9223372036854775807
def LH:Bool:=leN ((k8 e + k8 (AQ a b d f g i j k l)) * 24) 140737488355328
def LI:Int:=v5 .i64 (a + (1:Int))
def LJ:at1:=e++AQ a b d f g i j k l
def LK:avu:=scV f g i j (re a b) k l
def LL:as9:=scB f g i j (re a b) k l
end
def al1:sF→List (Nat×SV)
 |(a,_,_,_,_,_,_,_,_,_,_)=> [(10,(aAm a)),(1,(aAl (.ref 0))),(2,(aAl (.ptr 1 0))),(9,(aAl (.ptr 2 0))),(8,(aAl (.ref 3)))]
def alY:sF→List (Nat×Entry)
 |(_,a,b,c,d,e,f,g,i,j,k)=> [(0,(aAD a)),(1,(.box 27 [.val (.string b),.ref 4,.ref 5,.ref 6,.val (.string c),.ref 7])),(2,(.box 31 [.ref 8,.ref 9])),(4,(aAn e)),(5,(aAn f)),(6,(aAn g)),(7,(aAs i)),(3,(aAB d)),(8,(aAo j)),(9,(aAw k))]
def al7:Nat→sF→List (Nat×SV)
 |_,(_,_,_,_,_,_,_,_,_,_,_)=> [(8,(aAl (.ref 3)))]
def al4:Nat→sF→List (Nat×Entry)
 |_,(_,a,b,c,d,e,f,g,i,j,k)=> [(0,(aAD a)),(1,(.box 27 [.val (.string b),.ref 4,.ref 5,.ref 6,.val (.string c),.ref 7])),(2,(.box 31 [.ref 8,.ref 9])),(3,(aAB d)),(4,(aAn e)),(5,(aAn f)),(6,(aAn g)),(7,(aAs i)),(8,(aAo j)),(9,(aAw k))]
def Il:sF→LT sF
 |(a,b,c,d,e,f,g,i,j,k,l)=> .ite (FJ a b) (.need [LC a,FJ a b,LD a b,LF a b c d f g i j k l] (.need [LG a b d e f g i j k l,LH a b d e f g i j k l] (.nrm ((LI a),b,c,d,LJ a b d e f g i j k l,f,g,i,j,LK a b f g i j k l,(LL a b f g i j k l)) [(0,0),(1,1),(2,2),(3,1344),(4,4),(5,5),(6,6),(7,7),(8,705),(9,706)]))) (.ext 0 [(0,0),(1,1),(2,2),(3,3),(4,4),(5,5),(6,6),(7,7),(8,8),(9,9)])
def Wg(s:St):Option sF:=do
 let some ⟨none,.one ⟨false,[.val (.int .i64 a)]⟩⟩:=s.look 10|none
 let some ⟨none,.one ⟨false,[.ref 4]⟩⟩:=s.look 1|none
 let some ⟨none,.one ⟨false,[.ptr 384 0]⟩⟩:=s.look 2|none
 let some ⟨none,.one ⟨false,[.ptr 1408 0]⟩⟩:=s.look 9|none
 let some ⟨none,.one ⟨false,[.ref 1152]⟩⟩:=s.look 8|none
 let some (.row false 28 (.sl 2 (.int .i64)) b):=s.ent 4|none
 let some (.box 27 [.val (.string c),.ref 0,.ref 1,.ref 2,.val (.string d),.ref 3]):=s.ent 384|none
 let some (.box 31 [.ref 1344,.ref 1345]):=s.ent 1408|none
 let some (.row false 9 (.str) f):=s.ent 0|none
 let some (.row false 9 (.str) g):=s.ent 1|none
 let some (.row false 9 (.str) i):=s.ent 2|none
 let some (.row false 91 (.pair .str (.sl 66 (.pair (.int .i64) (.pair .str (.int .i64))))) j):=s.ent 3|none
 let some (.row true 28 (.sl 2 (.int .i64)) e):=s.ent 1152|none
 let some (.row true 2 (.int .i64) k):=s.ent 1344|none
 let some (.row true 84 (.pair (.int .i64) (.pair (.int .i64) (.int .i64))) l):=s.ent 1345|none
 some (a,b,c,d,e,f,g,i,j,k,l)
def la:Lp sF where
 h:=⟨[40,41,42,43,47,48,49,50,51,52,53,46,54,55,12,11,56,57,58,59,8,60,44,45,10],[0,1,2,4,5,6,7],[3,8,9],[]⟩
 JL:=al1
 JE:=alY
 XL:=al7
 XE:=al4
 q:=fun j=>match j with | _=> .exit 2
 tags:= [0]
 lt:=Il
 fuel:=fun(a,b,c,d,e,f,g,i,k,l,m)=>a.natAbs + b.length + c.size + d.size + e.length + f.length + g.length + i.length + k.length + l.length + m.length
 fix:=fun(_,b,c,d,_,f,g,i,k,_,_) (a,_,_,_,e,_,_,_,_,l,m)=>(a,b,c,d,e,f,g,i,k,l,m)
 σ:= [(0,4),(1,384),(2,1408),(4,0),(5,1),(6,2),(7,3),(3,1152),(8,1344),(9,1345)]
 rd:=Wg
theorem aju:LoopOk prog (fun k=>Nat.blt k Tryz.f74.ntmps) la.F (bc f74 1):=by
 refine Lp.ok (tbl:= (T3z [Aq,nr,yu,ju])) (lf:= []) aU la (by kernel_rfl) (LOk.nil _) (fun _=>rfl) (fun _ _=>rfl) ?_ ?_ ?_ ?_ (fun _=>rfl) ?_
 ·intro _;kernel_rfl
 ·intro _;kernel_rfl
 ·intro s x h
  have h:Wg s=some x:=h
  unfold Wg at h
  repeat' split at h
  all_goals cases h
  constructor<;>repeat(first|refine ab ‹_› rfl ?_|refine aa rfl ‹_› rfl ?_|rfl)
 ·intro _;kernel_rfl
 ·intro _ _;exact(And.intro rfl trivial)
section
variable (a b:aAi)(c d e:List aAi)(f:aiK)(g:at1)
def DW:Bool:=ltI 200 (↑g.length:Int)
def ab4:Int×at1×aAi×aAi×List aAi×List aAi×List aAi×aiK×avu×at0:=((0:Int),g,a,b,c,d,e,f,[],[])
def DX:Bool:=Nat.beq ((Lp.res jK (ab4 a b c d e f g)).1) 0
def WI:Int×at1×aAi×aAi×at1×List aAi×List aAi×List aAi×aiK×avu×at0:=((0:Int),g,a,b,[],c,d,e,f,ZN d,ZO f)
def ab5:at1×List aAi×List aAi×List aAi×aiK×avu×at0:=(Lp.res la (WI a b c d e f g)).2.2.2.2.2
def ab6:avu×at0:=(ab5 a b c d e f g).2.2.2.2.2
def Yn:Int:=bif !gj a c d e b f then(1:Int)else bif DW g then(3:Int)else bif DX a b c d e f g then(2:Int)else(0:Int)
def ad5:at1:=bif !gj a c d e b f then []else bif DW g then []else bif DX a b c d e f g then []else (ab5 a b c d e f g).1
def Yo:avu:=bif !gj a c d e b f then []else bif DW g then []else bif DX a b c d e f g then []else (ab6 a b c d e f g).1
def Yp:as9:=bif !gj a c d e b f then []else bif DW g then []else bif DX a b c d e f g then []else (ab6 a b c d e f g).2
def Yq:Bool:=allT [adZ a c d e b f,!gj a c d e b f||(DW g||Lp.fin jK (ab4 a b c d e f g)),!gj a c d e b f||(DW g||(DX a b c d e f g||TN d f)),!gj a c d e b f||(DW g||(DX a b c d e f g||Lp.fin la (WI a b c d e f g)))]
end
def ajL:aAj
 | [.one ⟨true,[.val (.string a),.ref 0,.ref 1,.ref 2,.val (.string b),.ref 3]⟩,.one ⟨false,[.ref 4]⟩],[.row false 9 (.str) c,.row false 9 (.str) d,.row false 9 (.str) e,.row false 91 (.pair (.str) (.sl 66 (.pair (.int .i64) (.pair (.str) (.int .i64))))) f,.row false 28 (.sl 2 (.int .i64)) g]=>some ⟨.tup [⟨false,[.ref 5]⟩,⟨true,[.ref 6,.ref 7]⟩,⟨false,[aAk (Yn a b c d e f g)]⟩],[aAn c,aAn d,aAn e,aAt f,aAC g],[aAB (ad5 a b c d e f g),aAo (Yo a b c d e f g),aAw (Yp a b c d e f g)],[Yq a b c d e f g]⟩
 |_,_=>none
def adY:PF prog:=PF.ofG prog (T3z [Aq,nr,yu,ju]) [jK.F,la.F] aU 74 f74 func74 (LOk.fnT (l:= [bc f74 0,bc f74 1]) (by kernel_rfl) (.cons ajt (.cons aju (.nil _)))) ajL (by
 intro _ _ _ h;unfold ajL at h;split at h<;>cases h;kernel_rfl)
section
variable (a b:aAi)(c d e:List aAi)(f:aiK)(g:at1)
def abx:Int:=Yn a b c d e f g
def aby:avu:=Yo a b c d e f g
def abz:as9:=Yp a b c d e f g
def Uv:Bool:=allT [Yq a b c d e f g]
end
def aaC:aAj
 | [.one ⟨true,[.val (.string a),.ref 0,.ref 1,.ref 2,.val (.string b),.ref 3]⟩,.one ⟨false,[.ref 4]⟩],[.row false 9 (.str) c,.row false 9 (.str) d,.row false 9 (.str) e,.row false 91 (.pair (.str) (.sl 66 (.pair (.int .i64) (.pair (.str) (.int .i64))))) f,.row false 28 (.sl 2 (.int .i64)) g]=>some ⟨.tup [⟨true,[.ref 5,.ref 6]⟩,⟨false,[aAk (abx a b c d e f g)]⟩],[aAn c,aAn d,aAn e,aAt f,aAC g],[aAo (aby a b c d e f g),aAw (abz a b c d e f g)],[Uv a b c d e f g]⟩
 |_,_=>none
def ak0:PF prog:=PF.ofG prog (T3z [adY]) [] aU 40 f40 func40 (fun c _=>LOk.nil c) aaC (by
 intro _ _ _ h;unfold aaC at h;split at h<;>cases h;kernel_rfl)
section
variable (a:Int)(b:aoQ)(c:auv)(d e f g:avu)(i:at0)
def ac:Int×Int:=k9 c[k7 a]? ((0:Int),(0:Int))
def bg:Bool:=cp ((ac a c).1)==1
def qJ:Int:=v5 .i64 (a + (1:Int))
def af:Int:=v5 .i64 (SI e - bf ((ac a c).1) ((ac a c).2) b)
def aj:avu:= [bG ((ac a c).1) ((ac a c).2) b (List.drop (k7 (af a b c e)) e) d f i]
def lT:Int:=bif bg a c then qJ a else qJ a
def lU:avu:=bif bg a c then f else qK ((ac a c).1) ((ac a c).2) (List.drop (k7 (af a b c e)) e) f
def lV:avu:=bif bg a c then g else kU ((ac a c).1) ((ac a c).2) (List.drop (k7 (af a b c e)) e) d f g
def lW:as9:=bif bg a c then gM ((ac a c).1) ((ac a c).2) b (List.drop (k7 (af a b c e)) e) i else i
def lX:avu:=bif bg a c then List.take (k7 (af a b c e)) e++aj a b c d e f i else List.take (k7 (af a b c e)) e
def aB:Bool:=allT [leI 0 a,ltI a (↑c.length:Int),ltN a.toNat c.length,kA ((ac a c).1) ((ac a c).2) b,leI 0 (af a b c e),leI (af a b c e) (↑e.length:Int),leN (k7 (af a b c e)) e.length,leN (k8 (List.drop (k7 (af a b c e)) e)) 1048576,leI 0 (af a b c e),leI (af a b c e) (↑e.length:Int),!bg a c||ad ((ac a c).1) ((ac a c).2) b (List.drop (k7 (af a b c e)) e) d f i,!bg a c||leN (k8 (List.take (k7 (af a b c e)) e) + k8 (aj a b c d e f i)) 9223372036854775807,!bg a c||leN ((k8 (List.take (k7 (af a b c e)) e) + k8 (aj a b c d e f i)) * 8) 140737488355328,bg a c||bC ((ac a c).1) ((ac a c).2) (List.drop (k7 (af a b c e)) e) d f g]
end
def zS:aAj
 | [.one ⟨false,[.ptr 0 0]⟩,.one ⟨true,[.val (.int .i64 _x0),.val (.int .i64 _x1),.val (.int .i64 _x2),.ref 1,.ref 2]⟩,.one ⟨false,[.ref 3]⟩],[.box 109 [.val (.int .i64 a),.ref 4,.ref 5,.ref 6,.ref 7],.row false 66 (.pair (.int .i64) (.pair .str (.int .i64))) b,.row false 60 (.pair (.int .i64) (.int .i64)) c,.row false 2 (.int .i64) d,.row true 2 (.int .i64) e,.row true 2 (.int .i64) f,.row true 2 (.int .i64) g,.row true 84 (.pair (.int .i64) (.pair (.int .i64) (.int .i64))) i]=>some ⟨.tup [],[.box 109 [aAk (lT a c),.ref 8,.ref 5,.ref 6,.ref 7],aAp b,aAx c,aAq d,.gone,aAo (lU a b c e f),aAo (lV a b c d e f g),aAw (lW a b c e i)],[aAo (lX a b c d e f i)],[aB a b c d e f g i]⟩
 |_,_=>none
def Ac:PF prog:=PF.ofG prog [PF.views prog,qN,PF.lend qN,PF.lend (PF.view qN),dS,PF.lend dS,ZZ,PF.lend ZZ,azf,Lb] [] aU 110 f110 func110 (fun c _=>LOk.nil c) zS (by
 intro _ _ _ h;unfold zS at h;split at h<;>cases h;kernel_rfl)
theorem awD{a b:Int}(ha:a=0∨a=1)(hb:b=0∨b=1):IntKind.i64.wrap ((BitVec.toNat (BitVec.ofInt (IntKind.bits IntKind.i64) a&&& BitVec.ofInt (IntKind.bits IntKind.i64) b):Nat):Int)=ao4 a b:=by
 rcases ha with rfl | rfl <;> rcases hb with rfl | rfl <;> rfl
theorem ayy{a b:Int}(ha:a=0∨a=1)(hb:b=0∨b=1):IntKind.i64.wrap ((BitVec.toNat (BitVec.ofInt (IntKind.bits IntKind.i64) a||| BitVec.ofInt (IntKind.bits IntKind.i64) b):Nat):Int)=orI a b:=by
 rcases ha with rfl | rfl <;> rcases hb with rfl | rfl <;> rfl
theorem ayu{a:Int}(ha:a=0∨a=1):IntKind.i64.wrap (1 - a)=1 - a:=by rcases ha with rfl | rfl <;> rfl
theorem axW{bs:List TM}{x:IN}{stk:avu}(h:bitsB (tkI bs x) (yq bs x stk)=true):((yq bs x stk).length:Int)=tkI bs x:=(dF.1 h).2
theorem axO{bs:List TM}{x:IN}:(x.1=4→tkI bs x=1)∧(x.1=5→tkI bs x=2)∧(x.1=6→tkI bs x=2)∧(x.1=8→tkI bs x=1)∧(x.1=9→tkI bs x=1)∧(x.1=7→tkI bs x=takesK (gB bs x.2.toNat).1):=by
 refine⟨fun h=> ?_,fun h=> ?_,fun h=> ?_,fun h=> ?_,fun h=> ?_,fun h=> ?_⟩ <;> simp [tkI,NU,oY,oZ,wF,h,takesK,gB]
theorem azB{x:IN}:((x.1=1∨x.1=2∨x.1=3∨x.1=4∨x.1=5∨x.1=6∨x.1=7)→gvI x=1)∧((x.1=8∨x.1=9∨x.1=10∨x.1=11)→gvI x=0):=by
 refine⟨fun h=> ?_,fun h=> ?_⟩
 ·rcases h with h | h | h | h | h | h | h <;> simp [gvI,TU,oY,oZ,wF,h]
 ·rcases h with h | h | h | h <;> simp [gvI,TU,oY,oZ,wF,h]
theorem axf{i v o:Int}{bs:List TM}{st:List IN}{inp:avu}{k:Int}{stk xs os:avu}{ss:List BS3}(hC:jR i v o bs st=true)(FK:bitsB i inp=true)
  (h:OkM i v o bs st k stk xs os ss) (hlt:k < st.length) {x:IN} (hx:st[k.toNat]? =some x):
  lT k st=k + 1∧lX k bs st inp stk xs ss=asD bs inp x stk xs ss∧lU k bs st stk xs=avc bs x stk xs∧
  lV k bs st inp stk xs os=auM bs inp x stk xs os∧lW k bs st stk ss=arL bs x stk ss∧aB k bs st inp stk xs os ss=true:=by
 obtain⟨g1,g2,g3,g4,g5,_⟩:=avV hC FK h hlt hx
 simp only [jR,q8]at hC
 obtain⟨hr,hB,lO⟩:=hC
 obtain⟨ri,rv,ro,rb,rs⟩:=Rp.1 hr
 have h0:=h.lo
 have t2:=alF bs x
 have hxl:=(dF.1 h.vl).2
 have hol:=(dF.1 h.ou).2
 have hil:=(dF.1 FK).2
 have hsl:=h.sl
 have hargb:=(dF.1 g3).1
 have hal:=axW g3
 have ha0:=RO hargb 0
 have ha1:=RO hargb 1
 have e0:ac k st=x:=by simp only [ac,hx,Option.getD_some]
 have w3:qJ k=k + 1:=wrap_i64 (by omega) (by omega)
 have e14:af k bs st stk=stk.length - tkI bs x:=by
  simp only [af,e0]
  have q:bf x.1 x.2 bs=tkI bs x:=rfl
  have q2:SI stk=(stk.length:Int):=rfl
  rw [q,q2]
  exact wrap_i64 (by omega) (by omega)
 have en:((stk.length:Int) - tkI bs x).toNat=stk.length - (tkI bs x).toNat:=by omega
 have e1:bg k st=(gvI x==1):=by
  simp only [bg,e0]
  rfl
 have ear:stk.drop (stk.length - (tkI bs x).toNat)=yq bs x stk:=rfl
 have ers:stk.take (stk.length - (tkI bs x).toNat)=ass bs x stk:=rfl
 have hz: ∀ (l:avu) (z:Int),(bif z==0 then adi l.length else l)=axw l z:=fun l z=>rfl
 have Tz:=ane ri rv ro rb g1
 have hB7:x.1=7→0≤x.2∧x.2 < bs.length→KE (gB bs x.2.toNat).1 (gB bs x.2.toNat).2.1 (gB bs x.2.toNat).2.2=true:=fun _ hq=>by
  have hlt7:x.2.toNat < bs.length:=by omega
  have hg7:gB bs x.2.toNat=bs[x.2.toNat]:=by simp only [gB,List.getElem?_eq_getElem hlt7];rfl
  rw [hg7];exact List.all_eq_true.1 hB _ (List.getElem_mem hlt7)
 obtain⟨tk4,tk5,tk6,tk8,tk9,tk7⟩:=axO (bs:=bs) (x:=x)
 obtain⟨gv1,gv0⟩:=azB (x:=x)
 have h7:x.1=7→0≤x.2∧x.2 < bs.length→_:=fun e q=>asC (hB7 e q) (h.sp x.2.toNat (by omega)) (by rw [← tk7 e];exact g3)
 have hga0:kT (yq bs x stk)=atZ (yq bs x stk) 0:=rfl
 have hga1:cH x.2 bs=gB bs x.2.toNat:=rfl
 have hga2:aS x.2 ss=stAt ss x.2.toNat:=rfl
 have hsa0:qy (yq bs x stk)=atZ (yq bs x stk) 0:=rfl
 have hat: ∀ (l:avu) (z:Int),k9 l[k7 z]? (0:Int)=atZ l z:=fun _ _=>rfl
 have hat1: ∀ (l:avu),k9 l[1]? (0:Int)=atZ l 1:=fun _=>rfl
 have hand:=awD ha0 ha1
 have hor:=ayy ha0 ha1
 have hnot:=ayu ha0
 refine⟨?_,?_,?_,?_,?_,?_⟩
 ·simp only [lT,w3,j8]
 ·simp only [lX,aj,e0,e1,e14,en,ear,ers,asD]
  rcases Tz with⟨e,q⟩ | ⟨e,q⟩ | ⟨e,q⟩ | e | e | e | ⟨e,q⟩ | ⟨e,q⟩ | ⟨e,q⟩ | ⟨e,q⟩ | ⟨e,q⟩
  ·simp [bG,acm,e,gv1 (by omega)]
  ·simp [bG,acm,e,gv1 (by omega),hat]
  ·simp [bG,acm,e,gv1 (by omega),hat]
  ·simp only [bG,acm,e,hga0,hnot];rfl
  ·simp only [bG,acm,e,hga0,hat,hand];rfl
  ·simp only [bG,acm,e,hga0,hat,hor];rfl
  ·have:=(h7 e q).1
   simp only [bG,acm,e,hga1,hga2]
   simp [this,avb]
  all_goals simp [gv0 (by omega)]
 ·simp only [lU,e0,e1,e14,en,ear,avc]
  rcases Tz with⟨e,q⟩ | ⟨e,q⟩ | ⟨e,q⟩ | e | e | e | ⟨e,q⟩ | ⟨e,q⟩ | ⟨e,q⟩ | ⟨e,q⟩ | ⟨e,q⟩
  all_goals first
   |simp [gv1 (by omega),e]
   |simp [gv0 (by omega),e,qK,hsa0]
 ·simp only [lV,e0,e1,e14,en,ear,auM]
  rcases Tz with⟨e,q⟩ | ⟨e,q⟩ | ⟨e,q⟩ | e | e | e | ⟨e,q⟩ | ⟨e,q⟩ | ⟨e,q⟩ | ⟨e,q⟩ | ⟨e,q⟩
  all_goals first
   |(simp [gv1 (by omega),e];done)
   |(simp [gv0 (by omega),e,kU,hsa0,hat];done)
   |(simp [gv0 (by omega),e,kU,hsa0,hat];exact hz _ _)
 ·simp only [lW,e0,e1,e14,en,ear,arL]
  rcases Tz with⟨e,q⟩ | ⟨e,q⟩ | ⟨e,q⟩ | e | e | e | ⟨e,q⟩ | ⟨e,q⟩ | ⟨e,q⟩ | ⟨e,q⟩ | ⟨e,q⟩
  all_goals first
   |(have z:=h7 e q
     simp only [gM,e,hga1,hga2,z.2.1,z.2.2.1,z.2.2.2.1,gv1 (by omega)]
     simp [VR]
     done)
   |simp [gv1 (by omega),e,gM]
   |simp [gv0 (by omega),e]
 ·have n1:leI 0 k=true:=bx h0
  have n2:ltI k (st.length:Int)=true:=dL hlt
  have n3:ltN k.toNat st.length=true:=er (by omega)
  have n4:kA x.1 x.2 bs=true:=aw3 rb g1
  have n5:leI 0 ((stk.length:Int) - tkI bs x)=true:=bx (by omega)
  have n6:leI ((stk.length:Int) - tkI bs x) (stk.length:Int)=true:=bx (by omega)
  have n7:leN (stk.length - (tkI bs x).toNat) stk.length=true:=aY (Nat.sub_le _ _)
  have n8:leN (yq bs x stk).length 1048576=true:=aY (by omega)
  have n9:leN ((ass bs x stk).length + 1) 9223372036854775807=true:=aY (by have:=ast g2;omega)
  have n10:leN (((ass bs x stk).length + 1) * 8) 140737488355328=true:=aY (by have:=ast g2;omega)
  have z0:leI (0:Int) 0=true:=rfl
  have z1:leI (0:Int) 1=true:=rfl
  rcases Tz with⟨e,q⟩ | ⟨e,q⟩ | ⟨e,q⟩ | e | e | e | ⟨e,q⟩ | ⟨e,q⟩ | ⟨e,q⟩ | ⟨e,q⟩ | ⟨e,q⟩
  ·have gv:=gv1 (by omega)
   have hd:ad x.1 x.2 bs (yq bs x stk) inp xs ss=true:=by simp [ad,bB,bT,bU,allT,e,z0,z1] <;> omega
   simp only [aB,aj,e0,e1,e14,en,ear,ers,gv,hd,n1,n2,n3,n4,n5,n6,n7,n8,n9,n10,w5,allT,beq_self_eq_true,Bool.not_true,Bool.false_or,Bool.true_or,j7,cond_true,show ((0:Int)==1)=false from rfl,Bool.not_false]
  ·have gv:=gv1 (by omega)
   have r1:leI 0 x.2=true:=bx (by omega)
   have r2:ltI x.2 (inp.length:Int)=true:=dL (by omega)
   have r3:ltN x.2.toNat inp.length=true:=er (by omega)
   have hd:ad x.1 x.2 bs (yq bs x stk) inp xs ss=true:=by simp [ad,bB,bT,bU,allT,e,z0,z1,r1,r2,r3] <;> omega
   simp only [aB,aj,e0,e1,e14,en,ear,ers,gv,hd,n1,n2,n3,n4,n5,n6,n7,n8,n9,n10,w5,allT,beq_self_eq_true,Bool.not_true,Bool.false_or,Bool.true_or,j7,cond_true,show ((0:Int)==1)=false from rfl,Bool.not_false]
  ·have gv:=gv1 (by omega)
   have r1:leI 0 x.2=true:=bx (by omega)
   have r2:ltI x.2 (xs.length:Int)=true:=dL (by omega)
   have r3:ltN x.2.toNat xs.length=true:=er (by omega)
   have hd:ad x.1 x.2 bs (yq bs x stk) inp xs ss=true:=by simp [ad,bB,bT,bU,allT,e,z0,z1,r1,r2,r3] <;> omega
   simp only [aB,aj,e0,e1,e14,en,ear,ers,gv,hd,n1,n2,n3,n4,n5,n6,n7,n8,n9,n10,w5,allT,beq_self_eq_true,Bool.not_true,Bool.false_or,Bool.true_or,j7,cond_true,show ((0:Int)==1)=false from rfl,Bool.not_false]
  ·have gv:=gv1 (by omega)
   have tk:=tk4 e
   have s1:ltI 0 ((yq bs x stk).length:Int)=true:=dL (by omega)
   have s2:ltN (k7 0) (yq bs x stk).length=true:=er (by simp only [Int.toNat_zero];omega)
   have hd:ad x.1 x.2 bs (yq bs x stk) inp xs ss=true:=by simp [ad,bB,bT,bU,allT,e,z0,z1,s1,s2] <;> omega
   simp only [aB,aj,e0,e1,e14,en,ear,ers,gv,hd,n1,n2,n3,n4,n5,n6,n7,n8,n9,n10,w5,allT,beq_self_eq_true,Bool.not_true,Bool.false_or,Bool.true_or,j7,cond_true,show ((0:Int)==1)=false from rfl,Bool.not_false]
  ·have gv:=gv1 (by omega)
   have tk:=tk5 e
   have s1:ltI 0 ((yq bs x stk).length:Int)=true:=dL (by omega)
   have s2:ltN (k7 0) (yq bs x stk).length=true:=er (by simp only [Int.toNat_zero];omega)
   have s3:ltI 1 ((yq bs x stk).length:Int)=true:=dL (by omega)
   have s4:ltN (k7 1) (yq bs x stk).length=true:=er (by rw [show k7 1=1 from rfl];omega)
   have hd:ad x.1 x.2 bs (yq bs x stk) inp xs ss=true:=by simp [ad,bB,bT,bU,allT,e,z0,z1,s1,s2,s3,s4] <;> omega
   simp only [aB,aj,e0,e1,e14,en,ear,ers,gv,hd,n1,n2,n3,n4,n5,n6,n7,n8,n9,n10,w5,allT,beq_self_eq_true,Bool.not_true,Bool.false_or,Bool.true_or,j7,cond_true,show ((0:Int)==1)=false from rfl,Bool.not_false]
  ·have gv:=gv1 (by omega)
   have tk:=tk6 e
   have s1:ltI 0 ((yq bs x stk).length:Int)=true:=dL (by omega)
   have s2:ltN (k7 0) (yq bs x stk).length=true:=er (by simp only [Int.toNat_zero];omega)
   have s3:ltI 1 ((yq bs x stk).length:Int)=true:=dL (by omega)
   have s4:ltN (k7 1) (yq bs x stk).length=true:=er (by rw [show k7 1=1 from rfl];omega)
   have hd:ad x.1 x.2 bs (yq bs x stk) inp xs ss=true:=by simp [ad,bB,bT,bU,allT,e,z0,z1,s1,s2,s3,s4] <;> omega
   simp only [aB,aj,e0,e1,e14,en,ear,ers,gv,hd,n1,n2,n3,n4,n5,n6,n7,n8,n9,n10,w5,allT,beq_self_eq_true,Bool.not_true,Bool.false_or,Bool.true_or,j7,cond_true,show ((0:Int)==1)=false from rfl,Bool.not_false]
  ·have gv:=gv1 (by omega)
   have r1:leI 0 x.2=true:=bx (by omega)
   have r2:ltI x.2 (bs.length:Int)=true:=dL (by omega)
   have r3:ltN x.2.toNat bs.length=true:=er (by omega)
   have r4:ltI x.2 (ss.length:Int)=true:=dL (by omega)
   have r5:ltN x.2.toNat ss.length=true:=er (by omega)
   have r6:=(h7 e q).2.2.2.2.1
   have hd:ad x.1 x.2 bs (yq bs x stk) inp xs ss=true:=by simp [ad,bB,bT,bU,allT,e,z0,z1,r1,r2,r3,r4,r5,r6] <;> omega
   simp only [aB,aj,e0,e1,e14,en,ear,ers,gv,hd,n1,n2,n3,n4,n5,n6,n7,n8,n9,n10,w5,allT,beq_self_eq_true,Bool.not_true,Bool.false_or,Bool.true_or,j7,cond_true,show ((0:Int)==1)=false from rfl,Bool.not_false]
  ·have gv:=gv0 (by omega)
   have tk:=tk8 e
   have s1:ltI 0 ((yq bs x stk).length:Int)=true:=dL (by omega)
   have s2:ltN (k7 0) (yq bs x stk).length=true:=er (by simp only [Int.toNat_zero];omega)
   have r1:leI 0 x.2=true:=bx (by omega)
   have r2:ltI x.2 (xs.length:Int)=true:=dL (by omega)
   have r3:ltN x.2.toNat xs.length=true:=er (by omega)
   have hd:bC x.1 x.2 (yq bs x stk) inp xs os=true:=by simp [bC,allT,e,z0,z1,s1,s2,r1,r2,r3] <;> omega
   simp only [aB,aj,e0,e1,e14,en,ear,ers,gv,hd,n1,n2,n3,n4,n5,n6,n7,n8,n9,n10,w5,allT,beq_self_eq_true,Bool.not_true,Bool.false_or,Bool.true_or,j7,cond_true,show ((0:Int)==1)=false from rfl,Bool.not_false]
  ·have gv:=gv0 (by omega)
   have tk:=tk9 e
   have s1:ltI 0 ((yq bs x stk).length:Int)=true:=dL (by omega)
   have s2:ltN (k7 0) (yq bs x stk).length=true:=er (by simp only [Int.toNat_zero];omega)
   have r1:leI 0 x.2=true:=bx (by omega)
   have r2:ltI x.2 (os.length:Int)=true:=dL (by omega)
   have r3:ltN x.2.toNat os.length=true:=er (by omega)
   have hd:bC x.1 x.2 (yq bs x stk) inp xs os=true:=by simp [bC,allT,e,z0,z1,s1,s2,r1,r2,r3] <;> omega
   simp only [aB,aj,e0,e1,e14,en,ear,ers,gv,hd,n1,n2,n3,n4,n5,n6,n7,n8,n9,n10,w5,allT,beq_self_eq_true,Bool.not_true,Bool.false_or,Bool.true_or,j7,cond_true,show ((0:Int)==1)=false from rfl,Bool.not_false]
  ·have gv:=gv0 (by omega)
   have r1:leI 0 x.2=true:=bx (by omega)
   have r2:ltI x.2 (inp.length:Int)=true:=dL (by omega)
   have r3:ltN x.2.toNat inp.length=true:=er (by omega)
   have hd:bC x.1 x.2 (yq bs x stk) inp xs os=true:=by simp [bC,allT,e,z0,z1,r1,r2,r3] <;> omega
   simp only [aB,aj,e0,e1,e14,en,ear,ers,gv,hd,n1,n2,n3,n4,n5,n6,n7,n8,n9,n10,w5,allT,beq_self_eq_true,Bool.not_true,Bool.false_or,Bool.true_or,j7,cond_true,show ((0:Int)==1)=false from rfl,Bool.not_false]
  ·have gv:=gv0 (by omega)
   have r1:leI 0 x.2=true:=bx (by omega)
   have r2:ltI x.2 (xs.length:Int)=true:=dL (by omega)
   have r3:ltN x.2.toNat xs.length=true:=er (by omega)
   have hd:bC x.1 x.2 (yq bs x stk) inp xs os=true:=by simp [bC,allT,e,z0,z1,r1,r2,r3] <;> omega
   simp only [aB,aj,e0,e1,e14,en,ear,ers,gv,hd,n1,n2,n3,n4,n5,n6,n7,n8,n9,n10,w5,allT,beq_self_eq_true,Bool.not_true,Bool.false_or,Bool.true_or,j7,cond_true,show ((0:Int)==1)=false from rfl,Bool.not_false]
abbrev ce:=Int×Int×Int×Int×List Int×List Int×List Int×List Int×List (Int×(Int×Int))×List (Int×(aAi×Int))×List (Int×Int)
section
variable (a:Int)(b c d e:avu)(f:as9)(g:aor)(i:auv)
def oQ:Bool:=ltI a (vD i)
def wI:Bool:=aB a g i b c d e f
def wJ:Int:=lT a i
def wK:avu:=lX a g i b c d f
def wL:avu:=lU a g i c d
def wM:avu:=lV a g i b c d e
def wN:as9:=lW a g i c f
end
def Hy:ce→List (Nat×SV)
 |(_,_,_,_,_,_,_,_,_,_,_)=> [(0,(aAl (.ptr 0 0))),(4,(aAl (.ptr 1 0))),(2,(aAl (.ref 2)))]
def Hx:ce→List (Nat×Entry)
 |(a,b,c,d,e,f,g,i,j,k,l)=> [(0,(.box 109 [aAk a,.ref 3,.ref 4,.ref 5,.ref 6])),(1,(.box 39 [aAk b,aAk c,aAk d,.ref 7,.ref 8])),(2,(aAq e)),(4,(aAo g)),(5,(aAo i)),(6,(aAw j)),(7,(aAp k)),(8,(aAx l)),(3,(aAo f))]
def HA:Nat→ce→List (Nat×SV)
 |_,_=>[]
def Hz:Nat→ce→List (Nat×Entry)
 |_,(a,b,c,d,e,f,g,i,j,k,l)=> [(0,(.box 109 [aAk a,.ref 3,.ref 4,.ref 5,.ref 6])),(1,(.box 39 [aAk b,aAk c,aAk d,.ref 7,.ref 8])),(2,(aAq e)),(3,(aAo f)),(4,(aAo g)),(5,(aAo i)),(6,(aAw j)),(7,(aAp k)),(8,(aAx l))]
def oq:ce→LT ce
 |(a,b,c,d,e,f,g,i,j,k,l)=> .ite (oQ a l) (.need [wI a e f g i j k l] (.nrm ((wJ a l),b,c,d,e,wK a e f g j k l,wL a f g k l,wM a e f g i k l,wN a f j k l,k,l) [(0,0),(1,1),(2,2),(3,768),(4,4),(5,5),(6,6),(7,7),(8,8)])) (.ext 0 [(0,0),(1,1),(2,2),(3,3),(4,4),(5,5),(6,6),(7,7),(8,8)])
def ot(s:St):Option ce:=do
 let some ⟨none,.one ⟨false,[.ptr 0 0]⟩⟩:=s.look 0|none
 let some ⟨none,.one ⟨false,[.ptr 576 0]⟩⟩:=s.look 4|none
 let some ⟨none,.one ⟨false,[.ref 3]⟩⟩:=s.look 2|none
 let some (.box 109 [.val (.int .i64 a),.ref 4,.ref 5,.ref 6,.ref 7]):=s.ent 0|none
 let some (.box 39 [.val (.int .i64 b),.val (.int .i64 c),.val (.int .i64 d),.ref 1,.ref 2]):=s.ent 576|none
 let some (.row false 2 (.int .i64) e):=s.ent 3|none
 let some (.row true 2 (.int .i64) g):=s.ent 5|none
 let some (.row true 2 (.int .i64) i):=s.ent 6|none
 let some (.row true 84 (.pair (.int .i64) (.pair (.int .i64) (.int .i64))) j):=s.ent 7|none
 let some (.row false 66 (.pair (.int .i64) (.pair .str (.int .i64))) k):=s.ent 1|none
 let some (.row false 60 (.pair (.int .i64) (.int .i64)) l):=s.ent 2|none
 let some (.row true 2 (.int .i64) f):=s.ent 4|none
 some (a,b,c,d,e,f,g,i,j,k,l)
def aZ:Lp ce where
 h:=⟨[6,7,8,9,10,11,12,13,14,15,16,17],[0,1,2,4,5,6,7,8],[3],[]⟩
 JL:=Hy
 JE:=Hx
 XL:=HA
 XE:=Hz
 q:=fun j=>match j with | _=> .exit 0
 tags:= [0]
 lt:=oq
 fuel:=fun(a,b,c,d,e,f,g,i,k,l,m)=>a.natAbs + b.natAbs + c.natAbs + d.natAbs + e.length + f.length + g.length + i.length + k.length + l.length + m.length
 fix:=fun(_,b,c,d,e,_,_,_,_,l,m) (a,_,_,_,_,f,g,i,k,_,_)=>(a,b,c,d,e,f,g,i,k,l,m)
 σ:= [(0,0),(1,576),(2,3),(4,5),(5,6),(6,7),(7,1),(8,2),(3,4)]
 rd:=ot
theorem FB:LoopOk prog (fun k=>Nat.blt k Tryz.f64.ntmps) aZ.F (bc f64 0):=by
 refine Lp.ok (tbl:= [vG,PF.lend vG,Ac]) (lf:= []) aU aZ (by kernel_rfl) (LOk.nil _) (fun _=>rfl) (fun _ _=>rfl) ?_ ?_ ?_ ?_ (fun _=>rfl) ?_
 ·intro _;kernel_rfl
 ·intro _;kernel_rfl
 ·intro s x h
  have h:ot s=some x:=h
  unfold ot at h
  repeat' split at h
  all_goals cases h
  constructor<;>repeat(first|refine ab ‹_› rfl ?_|refine aa rfl ‹_› rfl ?_|rfl)
 ·intro _;kernel_rfl
 ·intro _ _;exact(And.intro rfl trivial)
section
variable (a b c d:Int)(e:aoQ)(f:auv)(g i j k:avu)(l:at0)
def kh:Int×Int×Int×Int×avu×avu×avu×avu×at0×aoQ×auv:=(d,a,b,c,g,i,j,k,l,e,f)
def pL:avu×avu×avu×at0×aoQ×auv:=(Lp.res aZ (kh a b c d e f g i j k l)).2.2.2.2.2.2
def pM:avu×avu×at0×aoQ×auv:=(pL a b c d e f g i j k l).2
def pN:avu×at0×aoQ×auv:=(pM a b c d e f g i j k l).2
def qw:Int:=((Lp.res aZ (kh a b c d e f g i j k l)).2).1
def kJ:avu:=(pM a b c d e f g i j k l).1
def kK:avu:=(pN a b c d e f g i j k l).1
def kL:as9:=((pN a b c d e f g i j k l).2).1
def qx:avu:=(pL a b c d e f g i j k l).1
def kM:Bool:=allT [Lp.fin aZ (kh a b c d e f g i j k l)]
end
def yx:aAj
 | [.one ⟨false,[.ptr 0 0]⟩,.one ⟨true,[.val (.int .i64 a),.val (.int .i64 b),.val (.int .i64 c),.ref 1,.ref 2]⟩,.one ⟨false,[.ref 3]⟩],[.box 109 [.val (.int .i64 d),.ref 4,.ref 5,.ref 6,.ref 7],.row false 66 (.pair (.int .i64) (.pair .str (.int .i64))) e,.row false 60 (.pair (.int .i64) (.int .i64)) f,.row false 2 (.int .i64) g,.row true 2 (.int .i64) i,.row true 2 (.int .i64) j,.row true 2 (.int .i64) k,.row true 84 (.pair (.int .i64) (.pair (.int .i64) (.int .i64))) l]=>some ⟨.tup [],[.box 109 [aAk (qw a b c d e f g i j k l),.ref 8,.ref 5,.ref 6,.ref 7],aAp e,aAx f,aAq g,.gone,aAo (kJ a b c d e f g i j k l),aAo (kK a b c d e f g i j k l),aAw (kL a b c d e f g i j k l)],[aAo (qx a b c d e f g i j k l)],[kM a b c d e f g i j k l]⟩
 |_,_=>none
def JR:PF prog:=PF.ofG prog [vG,PF.lend vG,Ac] [aZ.F] aU 64 f64 func64 (LOk.fnT (l:= [bc f64 0]) (by kernel_rfl) (.cons FB (.nil _))) yx (by
 intro _ _ _ h;unfold yx at h;split at h<;>cases h;kernel_rfl)
def tX(a:avu)(b:at0):Bool:=allT [leN a.length (1048576:Nat),leN b.length (1048576:Nat)]
def CU:aAj
 | [.one ⟨true,[.ref 0,.ref 1]⟩],[.row false 2 (.int .i64) a,.row false 84 (.pair (.int .i64) (.pair (.int .i64) (.int .i64))) b]=>some ⟨.one ⟨true,[.ref 2,.ref 3]⟩,[aAq a,aAz b],[aAo a,aAw b],[tX a b]⟩
 |_,_=>none
def ua:PF prog:=PF.ofG prog (T3z [qN,Cz]) [] aU 108 f108 func108 (fun c _=>LOk.nil c) CU (by
 intro _ _ _ h;unfold CU at h;split at h<;>cases h;kernel_rfl)
def RT:avu:= []
def RU(a:Int):avu:=v6 a.toNat (0:Int)
def afA(a:Int)(b:avu)(c:at0):Bool:=allT [tX b c,leI 0 a,leI a a,leI ((↑(8:Nat):Int) * a) 281474976710656,leI a 9223372036854775807]
def alT:aAj
 | [.one ⟨true,[.val (.int .i64 _x0),.val (.int .i64 _x1),.val (.int .i64 a),.ref 0,.ref 1]⟩,.one ⟨true,[.ref 2,.ref 3]⟩],[.row false 66 (.pair (.int .i64) (.pair (.str) (.int .i64))) b,.row false 60 (.pair (.int .i64) (.int .i64)) c,.row false 2 (.int .i64) d,.row false 84 (.pair (.int .i64) (.pair (.int .i64) (.int .i64))) e]=>some ⟨.one ⟨true,[aAk 0,.ref 4,.ref 5,.ref 6,.ref 7]⟩,[aAp b,aAx c,aAq d,aAz e],[aAo (RT),aAo d,aAo (RU a),aAw e],[afA a d e]⟩
 |_,_=>none
def afK:PF prog:=PF.ofG prog (T3z [ua]) [] aU 63 f63 func63 (fun c _=>LOk.nil c) alT (by
 intro _ _ _ h;unfold alT at h;split at h<;>cases h;kernel_rfl)
section
variable (a b c:Int)(d:aoQ)(e:auv)(f:avu)(g:at0)(i:avu)
def Zu:avu:=kK a b c 0 d e i RT f (RU c) g
def Zv:avu:=kJ a b c 0 d e i RT f (RU c) g
def Zw:as9:=kL a b c 0 d e i RT f (RU c) g
def Zx:Bool:=allT [afA c f g,kM a b c 0 d e i RT f (RU c) g]
end
def afR:aAj
 | [.one ⟨true,[.val (.int .i64 a),.val (.int .i64 b),.val (.int .i64 c),.ref 0,.ref 1]⟩,.one ⟨true,[.ref 2,.ref 3]⟩,.one ⟨false,[.ref 4]⟩],[.row false 66 (.pair (.int .i64) (.pair (.str) (.int .i64))) d,.row false 60 (.pair (.int .i64) (.int .i64)) e,.row false 2 (.int .i64) f,.row false 84 (.pair (.int .i64) (.pair (.int .i64) (.int .i64))) g,.row false 2 (.int .i64) i]=>some ⟨.tup [⟨false,[.ref 5]⟩,⟨true,[.ref 6,.ref 7]⟩],[aAp d,aAx e,aAq f,aAz g,aAq i],[aAo (Zu a b c d e f g i),aAo (Zv a b c d e f g i),aAw (Zw a b c d e f g i)],[Zx a b c d e f g i]⟩
 |_,_=>none
def aoC:PF prog:=PF.ofG prog (T3z [JR,afK]) [] aU 27 f27 func27 (fun c _=>LOk.nil c) afR (by
 intro _ _ _ h;unfold afR at h;split at h<;>cases h;kernel_rfl)
abbrev MS:=Int×List Int×List Int×List Int×List BS3
def ah9(st:List IN)(k:Int):IN:=k9 st[k.toNat]? ((0:Int),(0:Int))
def asF(bs:List TM)(st:List IN)(inp:avu):MS→MS
 |(k,stk,xs,os,ss)=>(k + 1,asD bs inp (ah9 st k) stk xs ss,avc bs (ah9 st k) stk xs,auM bs inp (ah9 st k) stk xs os,arL bs (ah9 st k) stk ss)
def as3(bs:List TM)(st:List IN)(inp:avu):Nat→MS→MS
 |0,m=>m
 |n + 1,m=>as3 bs st inp n (asF bs st inp m)
def OkS(i v o:Int)(bs:List TM)(st:List IN)(m:MS):Prop:=OkM i v o bs st m.1 m.2.1 m.2.2.1 m.2.2.2.1 m.2.2.2.2
theorem au6{i v o:Int}{bs:List TM}{st:List IN}{inp:avu}{m:MS}(hC:jR i v o bs st=true)(FK:bitsB i inp=true)(h:OkS i v o bs st m)(hlt:m.1 < st.length):
  OkS i v o bs st (asF bs st inp m)∧st[m.1.toNat]? =some (ah9 st m.1):=by
 obtain⟨k,stk,xs,os,ss⟩:=m
 have h0:=h.lo
 simp only at h0 hlt
 have hk:k.toNat < st.length:=by omega
 have hx:st[k.toNat]? =some (ah9 st k):=by simp only [ah9,List.getElem?_eq_getElem hk];rfl
 exact⟨(avV hC FK h hlt hx).2.2.2.2.2,hx⟩
theorem ax8{X:Type}(p:Lp X)(enc:MS→X){i v o:Int}{bs:List TM}{st:List IN}{inp:avu}(hC:jR i v o bs st=true)(FK:bitsB i inp=true)
  (h1: ∀ m:MS,OkS i v o bs st m→m.1 < st.length→(p.lt (enc m)).out=some (.inr (enc (asF bs st inp m)))) (h2: ∀ m:MS,m.1=st.length→(p.lt (enc m)).out=some (.inl 0))
  (hf: ∀ m,st.length≤p.fuel (enc m)) (m:MS) (hm:OkS i v o bs st m):
  p.fin (enc m)=true∧p.res (enc m)=(0,enc (as3 bs st inp (st.length - m.1.toNat) m))∧OkS i v o bs st (as3 bs st inp (st.length - m.1.toNat) m):=by
 have oe: ∀ (n:Nat) (m:MS),OkS i v o bs st m→st.length - m.1.toNat=n→Pj p.lt (n + 1) (enc m)=some (0,enc (as3 bs st inp n m))∧OkS i v o bs st (as3 bs st inp n m):=by
  intro n
  induction n with
  |zero=>
   intro m hm hn
   have:=hm.lo
   have:=hm.hi
   exact⟨NP _ (h2 m (by omega)),hm⟩
  |succ n ih=>
   intro m hm hn
   have h0:=hm.lo
   have hlt:m.1 < st.length:=by omega
   have hs:=(au6 hC FK hm hlt).1
   have he:(asF bs st inp m).1=m.1 + 1:=rfl
   obtain⟨r1,r2⟩:=ih _ hs (by rw [he];omega)
   exact⟨by rw [Le _ (h1 m hm hlt)];exact r1,r2⟩
 obtain⟨r1,r2⟩:=oe _ m hm rfl
 obtain⟨q1,q2⟩:=p.run r1 (adK (by have:=hf m;omega))
 exact⟨q1,q2,r2⟩
def hAt(i v o:Int)(bs:List TM)(st:List IN)(k:Int):Int:=bif ltI 0 k then atZ (aw9 i v o bs st) (k - 1)else 0
def axt(i v o:Int)(bs:List TM)(st:List IN)(k:Int)(stk xs os:avu)(ss:List BS3):Bool:=inR k 0 st.length&&(bitsB (hAt i v o bs st k) stk&&(bitsB o os&&xF v bs xs ss))
theorem aqv{v:Int}{bs:List TM}{xs:avu}{ss:List BS3}:xF v bs xs ss=true↔ss.length=bs.length∧bitsB v xs=true∧ ∀ k,k < bs.length→possAt bs ss k=true:=by
 simp only [xF,q8,beq_iff_eq,List.all_eq_true,List.mem_range]
 constructor
 ·rintro⟨h1,h2,h3⟩;exact⟨by omega,h2,h3⟩
 ·rintro⟨h1,h2,h3⟩;exact⟨by omega,h2,h3⟩
theorem axu{i v o:Int}{bs:List TM}{st:List IN}{k:Int}{stk xs os:avu}{ss:List BS3}(hC:jR i v o bs st=true)(h:axt i v o bs st k stk xs os ss=true):OkM i v o bs st k stk xs os ss:=by
 simp only [axt,q8,pR]at h
 obtain⟨⟨k0,k1⟩,h2,h3,h4⟩:=h
 obtain⟨s1,s2,s3⟩:=aqv.1 h4
 simp only [jR,q8]at hC
 obtain⟨b1,b2⟩:=dF.1 h2
 refine⟨k0,k1,?_,b1,s2,h3,s1,s3⟩
 obtain⟨n,L,g1,g2,g3,g4⟩:=avv hC.2.2 k.toNat (by omega)
 refine⟨L,?_⟩
 rw [g1,b2]
 by_cases hk:0 < k
 ·have:=g4 (by omega)
  have ht:ltI 0 k=true:=dL hk
  simp only [hAt,ht,cond_true]
  rw [show ((k.toNat:Int) - 1)=k - 1 by omega]at this
  rw [this]
 ·have ht:ltI 0 k=false:=Ej (by omega)
  simp only [hAt,ht,cond_false]
  rw [g3 (by omega)]
def fnM(bs:List TM)(st:List IN)(inp:avu)(k:Int)(stk xs os:avu)(ss:List BS3):MS:=as3 bs st inp (st.length - k.toNat) (k,stk,xs,os,ss)
def avR(i v o:Int)(bs:List TM)(st:List IN)(inp:avu)(k:Int)(stk xs os:avu)(ss:List BS3):Bool:=jR i v o bs st&&(bitsB i inp&&axt i v o bs st k stk xs os ss)
theorem ayg(i v o:Int)(bs:List TM)(st:List IN)(inp:avu)(k:Int)(stk xs os:avu)(ss:List BS3)(h:avR i v o bs st inp k stk xs os ss=true):
  qw i v o k bs st inp stk xs os ss=(fnM bs st inp k stk xs os ss).1∧kJ i v o k bs st inp stk xs os ss=(fnM bs st inp k stk xs os ss).2.2.1∧
  kK i v o k bs st inp stk xs os ss=(fnM bs st inp k stk xs os ss).2.2.2.1∧kL i v o k bs st inp stk xs os ss=(fnM bs st inp k stk xs os ss).2.2.2.2∧
  qx i v o k bs st inp stk xs os ss=(fnM bs st inp k stk xs os ss).2.1∧kM i v o k bs st inp stk xs os ss=true:=by
 simp only [avR,q8]at h
 obtain⟨hC,FK,hm⟩:=h
 have hm:=axu hC hm
 obtain⟨f1,f2,_⟩:=ax8 aZ (fun m=>(m.1,i,v,o,inp,m.2.1,m.2.2.1,m.2.2.2.1,m.2.2.2.2,bs,st)) hC FK
  (fun m hm hlt=>by
   obtain⟨k,stk,xs,os,ss⟩:=m
   obtain⟨_,hx⟩:=au6 hC FK hm hlt
   obtain⟨e0,e4,e1,e2,e3,e5⟩:=axf hC FK hm hlt hx
   simp only at hlt e0 e1 e2 e3 e4 e5
   have t1:ltI k (st.length:Int)=true:=dL hlt
   simp only [aZ,oq,LT.out,oQ,wI,wJ,wK,wL,wM,wN,vD,t1,e0,e1,e2,e3,e4,e5,asF,allT]
   rfl)
  (fun m hk=>by
   obtain⟨k,stk,xs,os,ss⟩:=m
   simp only at hk
   have t1:ltI k (st.length:Int)=false:=Ej (by omega)
   simp only [aZ,oq,LT.out,oQ,vD,t1,cond_false])
  (fun m=>by simp only [aZ];omega) (k,stk,xs,os,ss) hm
 simp only at f1 f2
 simp only [qw,kJ,kK,kL,qx,kM,kh,pL,pM,pN,f1,f2,allT,fnM,and_self,cond_true]
def rnM(o:Int)(bs:List TM)(st:List IN)(inp xs:avu)(ss:List BS3):MS:=fnM bs st inp 0 [] xs (v6 o.toNat 0) ss
def auo(i v o:Int)(bs:List TM)(st:List IN)(inp xs:avu)(ss:List BS3):Bool:=jR i v o bs st&&(bitsB i inp&&xF v bs xs ss)
theorem ay7{i v o:Int}{bs:List TM}{st:List IN}{inp xs:avu}{ss:List BS3}(h:auo i v o bs st inp xs ss=true):
  avR i v o bs st inp 0 [] xs (v6 o.toNat 0) ss=true∧(0≤o∧o≤20)∧xs.length≤20∧ss.length≤2000:=by
 simp only [auo,q8]at h
 obtain⟨hC,FK,hs⟩:=h
 obtain⟨s1,s2,s3⟩:=aqv.1 hs
 have hC2:=hC
 simp only [jR,q8]at hC2
 obtain⟨ri,rv,ro,rb,rs⟩:=Rp.1 hC2.1
 have hxl:=(dF.1 s2).2
 refine⟨?_,ro,by omega,by omega⟩
 simp only [avR,q8,axt,pR]
 refine⟨hC,FK,by omega,?_,?_,hs⟩
 ·rw [show hAt i v o bs st 0=0 from rfl]
  exact dF.2 ⟨fun z hz=>(List.not_mem_nil hz).elim,rfl⟩
 ·exact dF.2 ⟨fun z hz=> .inl (List.eq_of_mem_replicate hz),by rw [List.length_replicate];omega⟩
theorem azd(i v o:Int)(bs:List TM)(st:List IN)(xs:avu)(ss:List BS3)(inp:avu)(h:auo i v o bs st inp xs ss=true):
  Zu i v o bs st xs ss inp=(rnM o bs st inp xs ss).2.2.2.1∧Zv i v o bs st xs ss inp=(rnM o bs st inp xs ss).2.2.1∧
  Zw i v o bs st xs ss inp=(rnM o bs st inp xs ss).2.2.2.2∧Zx i v o bs st xs ss inp=true:=by
 obtain⟨h1,h2,h3,h4⟩:=ay7 h
 obtain⟨f0,f1,f2,f3,f4,f5⟩:=ayg i v o bs st inp 0 [] xs (v6 o.toNat 0) ss h1
 have t1:leN xs.length 1048576=true:=aY (by omega)
 have t2:leN ss.length 1048576=true:=aY (by omega)
 have u1:leI 0 o=true:=bx h2.1
 have u2:leI o o=true:=bx (by omega)
 have u3:leI (((8:Nat):Int) * o) 281474976710656=true:=bx (by omega)
 have u4:leI o 9223372036854775807=true:=bx (by omega)
 simp only [Zu,Zv,Zw,Zx,RT,RU,afA,tX,f0,f1,f2,f3,f4,f5,t1,t2,u1,u2,u3,u4,allT,rnM,and_self,cond_true]
def af5:aAj
 | [.one ⟨true,[.val (.int .i64 a),.val (.int .i64 b),.val (.int .i64 c),.ref 0,.ref 1]⟩,.one ⟨true,[.ref 2,.ref 3]⟩,.one ⟨false,[.ref 4]⟩],[.row false 66 (.pair (.int .i64) (.pair (.str) (.int .i64))) d,.row false 60 (.pair (.int .i64) (.int .i64)) e,.row false 2 (.int .i64) f,.row false 84 (.pair (.int .i64) (.pair (.int .i64) (.int .i64))) g,.row false 2 (.int .i64) i]=>some ⟨.tup [⟨false,[.ref 5]⟩,⟨true,[.ref 6,.ref 7]⟩],[aAp d,aAx e,aAq f,aAz g,aAq i],[aAo ((rnM c d e i f g).2.2.2.1),aAo ((rnM c d e i f g).2.2.1),aAw ((rnM c d e i f g).2.2.2.2)],[auo a b c d e i f g]⟩
 |_,_=>none
def ZC:PF prog:=PF.alt aoC af5 (by
 intro args es o h cL;unfold af5 at h;split at h
 ·rename_i a b c d e f g i
  cases h
  have cL:=kO cL
  have hh:=azd a b c d e f g i cL
  obtain⟨e0,e1,e2,en⟩:=hh
  exact qm rfl (jv en) rfl rfl (by simp only [e0,e1,e2] <;> rfl)
 ·cases h)
def HF(a:avu)(b:Int):Bool:= !bitsB b a
def HG(a:avu):Bool:=allT [leN a.length (9223372036854775807:Nat)]
def SB:aAj
 | [.one ⟨false,[.ref 0]⟩,.one ⟨false,[.ptr 1 0]⟩],[.row false 2 (.int .i64) a,.box 39 [.val (.int .i64 b),.val (.int .i64 c),.val (.int .i64 d),.ref 2,.ref 3],.row false 66 (.pair (.int .i64) (.pair .str (.int .i64))) e,.row false 60 (.pair (.int .i64) (.int .i64)) f]=>some ⟨aAl (.val (.bool (HF a b))),[aAq a,.box 39 [aAk b,aAk c,aAk d,.ref 2,.ref 3],aAp e,aAx f],[],[HG a]⟩
 |_,_=>none
def rC:PF prog:=PF.ofG prog (T3z [Ap]) [] aU 61 f61 func61 (fun c _=>LOk.nil c) SB (by
 intro _ _ _ h;unfold SB at h;split at h<;>cases h;kernel_rfl)
abbrev cg:=Int×Int×Int×Int×Int×List (List Int)×List (Int×(aAi×Int))×List (Int×Int)
section
variable (a b c:Int)(d:at1)
def dy:avu:=k9 d[k7 a]? (vB (CTy.sl (2:TypeId) aqC))
def jV:Bool:=ltI a b
def oH:Bool:=leI 0 a
def oI:Bool:=ltI a (↑d.length:Int)
def oJ:Bool:=ltN a.toNat d.length
def oK:Bool:=HG (dy a d)
def jW:Bool:=HF (dy a d) c
def oL:Int:=v5 .i64 (a + (1:Int))
end
def Of:cg→List (Nat×SV)
 |(a,b,_,_,_,_,_,_)=> [(8,(aAm a)),(7,(aAm b)),(1,(aAl (.clo 61 [0]))),(0,(aAl (.ref 1)))]
def Oe:cg→List (Nat×Entry)
 |(_,_,a,b,c,d,e,f)=> [(0,(.box 39 [aAk a,aAk b,aAk c,.ref 2,.ref 3])),(1,(aAC d)),(2,(aAp e)),(3,(aAx f))]
def Oh:Nat→cg→List (Nat×SV)
 |0,(a,_,_,_,_,_,_,_)=> [(4,(aAm a))]
 |_,_=>[]
def jt:cg→LT cg
 |(a,b,c,d,e,f,g,i)=> .ite (jV a b) (.need [oH a,oI a f,oJ a f,oK a f] (.ite (jW a c f) (.ext 0 [(0,0),(1,1),(2,2),(3,3)]) (.nrm ((oL a),b,c,d,e,f,g,i) [(0,0),(1,1),(2,2),(3,3)]))) (.ext 1 [(0,0),(1,1),(2,2),(3,3)])
def tq(s:St):Option cg:=do
 let some ⟨none,.one ⟨false,[.val (.int .i64 a)]⟩⟩:=s.look 8|none
 let some ⟨none,.one ⟨false,[.val (.int .i64 b)]⟩⟩:=s.look 7|none
 let some ⟨none,.one ⟨false,[.clo 61 [1]]⟩⟩:=s.look 1|none
 let some ⟨none,.one ⟨false,[.ref 0]⟩⟩:=s.look 0|none
 let some (.box 39 [.val (.int .i64 c),.val (.int .i64 d),.val (.int .i64 e),.ref 2,.ref 3]):=s.ent 1|none
 let some (.row false 28 (.sl 2 (.int .i64)) f):=s.ent 0|none
 let some (.row false 66 (.pair (.int .i64) (.pair .str (.int .i64))) g):=s.ent 2|none
 let some (.row false 60 (.pair (.int .i64) (.int .i64)) i):=s.ent 3|none
 some (a,b,c,d,e,f,g,i)
def aD:Lp cg where
 h:=⟨[9,10,5,11,12,13,14,15,16,17,4,18,8],[0,1,2,3],[],[]⟩
 JL:=Of
 JE:=Oe
 XL:=Oh
 XE:=fun _=>Oe
 q:=fun j=>match j with | 0=> .ret | _=> .exit 0
 tags:= [0,1]
 lt:=jt
 fuel:=fun(a,b,c,d,e,f,g,i)=>a.natAbs + b.natAbs + c.natAbs + d.natAbs + e.natAbs + f.length + g.length + i.length
 fix:=fun(_,b,c,d,e,f,g,i) (a,_,_,_,_,_,_,_)=>(a,b,c,d,e,f,g,i)
 σ:= [(0,1),(1,0),(2,2),(3,3)]
 rd:=tq
theorem MY:LoopOk prog (fun k=>Nat.blt k Tryz.f105.ntmps) aD.F (bc f105 0):=by
 refine Lp.ok (tbl:= (T3z [rC])) (lf:= []) aU aD (by kernel_rfl) (LOk.nil _) (fun _=>rfl) (fun j _=>by unfold aD;match j with | 0=>rfl | _ + 1=>rfl) ?_ ?_ ?_ ?_ (fun _=>rfl) ?_
 ·intro _;kernel_rfl
 ·intro _;kernel_rfl
 ·intro s x h
  have h:tq s=some x:=h
  unfold tq at h
  repeat' split at h
  all_goals cases h
  constructor<;>repeat(first|refine ab ‹_› rfl ?_|refine aa rfl ‹_› rfl ?_|rfl)
 ·intro _;kernel_rfl
 ·intro _ _;exact(And.intro (And.intro trivial rfl) trivial)
section
variable (a:at1)(b c d:Int)(e:aoQ)(f:auv)
def qj:Int×Int×Int×Int×Int×at1×aoQ×auv:=((0:Int),(↑a.length:Int),b,c,d,a,e,f)
def lw:Bool:=Nat.beq ((Lp.res aD (qj a b c d e f)).1) 0
def wU:Int:=bif lw a b c d e f then ((Lp.res aD (qj a b c d e f)).2).1else(-1:Int)
def EM:Int:=bif lw a b c d e f then b else b
def EN:Int:=bif lw a b c d e f then c else c
def EO:Int:=bif lw a b c d e f then d else d
def wV:Bool:=allT [Lp.fin aD (qj a b c d e f)]
end
def EA:aAj
 | [.one ⟨false,[.ref 0]⟩,.one ⟨false,[.clo 61 [1]]⟩],[.row false 28 (.sl 2 (.int .i64)) a,.box 39 [.val (.int .i64 b),.val (.int .i64 c),.val (.int .i64 d),.ref 2,.ref 3],.row false 66 (.pair (.int .i64) (.pair .str (.int .i64))) e,.row false 60 (.pair (.int .i64) (.int .i64)) f]=>some ⟨aAm (wU a b c d e f),[aAC a,.box 39 [aAk (EM a b c d e f),aAk (EN a b c d e f),aAk (EO a b c d e f),.ref 2,.ref 3],aAp e,aAx f],[],[wV a b c d e f]⟩
 |_,_=>none
def wT:PF prog:=PF.ofG prog (T3z [rC]) [aD.F] aU 105 f105 func105 (LOk.fnT (l:= [bc f105 0]) (by kernel_rfl) (.cons MY (.nil _))) EA (by
 intro _ _ _ h;unfold EA at h;split at h<;>cases h;kernel_rfl)
section
variable (a:at1)(b c d:Int)(e:aoQ)(f:auv)
def uc:Bool:=leI 0 (wU a b c d e f)
def Qk:Int:=EM a b c d e f
def Ql:Int:=EN a b c d e f
def Qm:Int:=EO a b c d e f
def ud:Bool:=allT [wV a b c d e f]
end
def CW:aAj
 | [.one ⟨false,[.ref 0]⟩,.one ⟨false,[.clo 61 [1]]⟩],[.row false 28 (.sl 2 (.int .i64)) a,.box 39 [.val (.int .i64 b),.val (.int .i64 c),.val (.int .i64 d),.ref 2,.ref 3],.row false 66 (.pair (.int .i64) (.pair .str (.int .i64))) e,.row false 60 (.pair (.int .i64) (.int .i64)) f]=>some ⟨aAl (.val (.bool (uc a b c d e f))),[aAC a,.box 39 [aAk (Qk a b c d e f),aAk (Ql a b c d e f),aAk (Qm a b c d e f),.ref 2,.ref 3],aAp e,aAx f],[],[ud a b c d e f]⟩
 |_,_=>none
def ub:PF prog:=PF.ofG prog (T3z [wT]) [] aU 60 f60 func60 (fun c _=>LOk.nil c) CW (by
 intro _ _ _ h;unfold CW at h;split at h<;>cases h;kernel_rfl)
def PS(a b c:Int)(d:aoQ)(e:auv)(f:avu)(g:at0)(i:at1):Int:=bif !jR a b c d e then(1:Int)else bif bif !xF b d f g then true else uc i a b c d e then(2:Int)else(0:Int)
def PT(a b c:Int)(d:aoQ)(e:auv)(f:avu)(g:at0)(i:at1):Bool:=allT [!jR a b c d e||leN f.length (9223372036854775807:Nat)&&(leN d.length (9223372036854775807:Nat)&&acz d),!jR a b c d e||(!(!!xF b d f g&&true)||ud i a b c d e)]
def acq:aAj
 | [.one ⟨true,[.val (.int .i64 a),.val (.int .i64 b),.val (.int .i64 c),.ref 0,.ref 1]⟩,.one ⟨true,[.ref 2,.ref 3]⟩,.one ⟨false,[.ref 4]⟩],[.row false 66 (.pair (.int .i64) (.pair (.str) (.int .i64))) d,.row false 60 (.pair (.int .i64) (.int .i64)) e,.row false 2 (.int .i64) f,.row false 84 (.pair (.int .i64) (.pair (.int .i64) (.int .i64))) g,.row false 28 (.sl 2 (.int .i64)) i]=>some ⟨aAm (PS a b c d e f g i),[aAp d,aAx e,aAq f,aAz g,aAC i],[],[PT a b c d e f g i]⟩
 |_,_=>none
def VT:PF prog:=PF.ofG prog (T3z [tY,vu,ub]) [] aU 26 f26 func26 (fun c _=>LOk.nil c) acq (by
 intro _ _ _ h;unfold acq at h;split at h<;>cases h;kernel_rfl)
section
variable (a b c:Int)(d:aoQ)(e:auv)(f:avu)(g:at0)(i:avu)
def Zr:Int:=PS a b c d e f g [i]
def HJ:Bool:=Zr a b c d e f g i !=0
def aaU:Int:=bif HJ a b c d e f g i then Zr a b c d e f g i else(0:Int)
def aaV:avu:=bif HJ a b c d e f g i then []else ((rnM c d e i f g).2.2.2).1
def aaW:avu:=bif HJ a b c d e f g i then []else ((rnM c d e i f g).2.2).1
def aaX:as9:=bif HJ a b c d e f g i then []else (rnM c d e i f g).2.2.2.2
def aaY:Bool:=allT [PT a b c d e f g [i],HJ a b c d e f g i||auo a b c d e i f g]
end
def ag6:aAj
 | [.one ⟨true,[.val (.int .i64 a),.val (.int .i64 b),.val (.int .i64 c),.ref 0,.ref 1]⟩,.one ⟨true,[.ref 2,.ref 3]⟩,.one ⟨false,[.ref 4]⟩],[.row false 66 (.pair (.int .i64) (.pair (.str) (.int .i64))) d,.row false 60 (.pair (.int .i64) (.int .i64)) e,.row false 2 (.int .i64) f,.row false 84 (.pair (.int .i64) (.pair (.int .i64) (.int .i64))) g,.row false 2 (.int .i64) i]=>some ⟨.tup [⟨false,[.ref 5]⟩,⟨true,[.ref 6,.ref 7]⟩,⟨false,[aAk (aaU a b c d e f g i)]⟩],[aAp d,aAx e,aAq f,aAz g,aAq i],[aAo (aaV a b c d e f g i),aAo (aaW a b c d e f g i),aAw (aaX a b c d e f g i)],[aaY a b c d e f g i]⟩
 |_,_=>none
def apY:PF prog:=PF.ofG prog (T3z [VT,ZC]) [] aU 10 f10 func10 (fun c _=>LOk.nil c) ag6 (by
 intro _ _ _ h;unfold ag6 at h;split at h<;>cases h;kernel_rfl)
end Go.SX
