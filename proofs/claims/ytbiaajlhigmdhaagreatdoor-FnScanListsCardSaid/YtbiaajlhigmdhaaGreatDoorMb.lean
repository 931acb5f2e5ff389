/- What functions of the program come to, and what that says in plain words: part 2. -/
import Derived.Test.YtbiaajlhigmdhaaGreatDoorMa
import Derived.Test.YtbiaajlhigmdhaaGreatDoorTXh
import Derived.Test.YtbiaajlhigmdhaaGreatDoorProg
set_option linter.unusedSimpArgs false
set_option linter.unusedVariables false
open Bool renaming and_eq_true → q8
open Int renaming toNat_natCast → q9
open List renaming length_singleton → w5
open List renaming length_append → j6
open List renaming length_take → j7
open Bool renaming or_true → j8
open Bool renaming cond_self → j9
open List renaming getElem?_eq_some_iff → k7
open Int renaming toNat → k8
open List renaming length → k9
open Option renaming getD → v5
open Go.IntKind renaming wrap → v6
open List renaming replicate → v7
namespace Go.SX
open Go.Proofs Go.Proofs.Tryz
set_option maxRecDepth 100000
abbrev qg:=Int×avP×avP×List avP×List avP×List avP×List (avP×(List (Int×(avP×Int))))
section
variable (a:Int)(b:afa)
def BG:Bool:=ltI a (↑b.length:Int)
def BH:Bool:=ltN a.toNat b.length
def rh:avP×alv:=v5 b[k8 a]? (xS aa8)
def lX:Bool:= !rl ((rh a b).1)
def xu:alv:=bif !lX a b&&true then (rh a b).2else []
def Df:Bool:=BG a b
def Mp:Bool:=leI 0 a
def Mq:Bool:=BH a b
def Mr:Bool:=AE ((rh a b).1)
def Mt:Bool:= !(!lX a b&&true)||leI 0 a
def Mu:Bool:= !(!lX a b&&true)||BG a b
def Mv:Bool:= !(!lX a b&&true)||BH a b
def Mw:Bool:= !(!lX a b&&true)||abX (xu a b)
def Hn:Bool:=bif lX a b then true else !anT (xu a b)
def Mx:Int:=v6 .i64 (a + (1:Int))
end
def aiX:qg→List (Nat×SV)
 |(a,_,_,_,_,_,_)=> [(3,(aBC a)),(1,(aBB (.ptr 0 0)))]
def aiU:qg→List (Nat×Entry)
 |(_,a,b,c,d,e,f)=> [(0,(.box 43 [.val (.string a),.ref 1,.ref 2,.ref 3,.val (.string b),.ref 4])),(1,(aBD c)),(2,(aBD d)),(3,(aBD e)),(4,(aBI f))]
def ajh:Nat→qg→List (Nat×SV)
 |0,(_,_,_,_,_,_,_)=> [(2,(aBB (.val (.bool false))))]
 |_,_=>[]
def Fx:qg→LT qg
 |(a,b,c,d,e,f,g)=> .ite (Df a g) (.need [Mp a,Df a g,Mq a g,Mr a g,Mt a g,Mu a g,Mv a g,Mw a g] (.ite (Hn a g) (.ext 0 [(0,0),(1,1),(2,2),(3,3),(4,4)]) (.nrm ((Mx a),b,c,d,e,f,g) [(0,0),(1,1),(2,2),(3,3),(4,4)]))) (.ext 1 [(0,0),(1,1),(2,2),(3,3),(4,4)])
def Tw(s:St):Option qg:=do
 let some ⟨none,.one ⟨false,[.val (.int .i64 a)]⟩⟩:=s.look 3|none
 let some ⟨none,.one ⟨false,[.ptr 320 0]⟩⟩:=s.look 1|none
 let some (.box 43 [.val (.string b),.ref 0,.ref 1,.ref 2,.val (.string c),.ref 3]):=s.ent 320|none
 let some (.row false 9 (.str) d):=s.ent 0|none
 let some (.row false 9 (.str) e):=s.ent 1|none
 let some (.row false 9 (.str) f):=s.ent 2|none
 let some (.row false 142 (.pair .str (.sl 122 (.pair (.int .i64) (.pair .str (.int .i64))))) g):=s.ent 3|none
 some (a,b,c,d,e,f,g)
def gu:Lp qg where
 h:=⟨[37,38,39,40,41,44,45,46,47,48,49,50,51,52,53,54,55,56,57,58,59,60,61,2,42,43,3],[0,1,2,3,4],[],[]⟩
 JL:=aiX
 JE:=aiU
 XL:=ajh
 XE:=fun _=>aiU
 q:=fun j=>match j with | 0=> .ret | _=> .exit 0
 tags:= [0,1]
 lt:=Fx
 fuel:=fun(a,b,c,d,e,f,g)=>a.natAbs + b.size + c.size + d.length + e.length + f.length + g.length
 fix:=fun(_,b,c,d,e,f,g) (a,_,_,_,_,_,_)=>(a,b,c,d,e,f,g)
 σ:= [(0,320),(1,0),(2,1),(3,2),(4,3)]
 rd:=Tw
theorem agY:LoopOk prog (fun k=>Nat.blt k Tryz.f105.ntmps) gu.F (bj f105 0):=by
 refine Lp.ok (tbl:= (T3z [CF,Tt,Kq,De])) (lf:= []) aT gu (by kernel_rfl) (LOk.nil _) (fun _=>rfl) (fun j _=>by unfold gu;match j with | 0=>rfl | _ + 1=>rfl) ?_ ?_ ?_ ?_ (fun _=>rfl) ?_
 ·intro _;kernel_rfl
 ·intro _;kernel_rfl
 ·intro s x h
  have h:Tw s=some x:=h
  unfold Tw at h
  repeat' split at h
  all_goals cases h
  constructor<;>repeat(first|refine ab ‹_› rfl ?_|refine aa rfl ‹_› rfl ?_|rfl)
 ·intro _;kernel_rfl
 ·intro _ _;exact(And.intro (And.intro trivial rfl) trivial)
section
variable (a:avP)(b c d:List avP)
def Yn:Bool:=bif !rl a then true else !(List.all b rx&&inR (↑b.length:Int) 1 20)
def Yo:Bool:=bif Yn a b then true else !(List.all c rx&&inR (↑c.length:Int) 0 20)
def Yp:Bool:=bif Yo a b c then true else !(List.all d rx&&inR (↑d.length:Int) 1 20)
end
def Yq(a:avP):Bool:=
 !ByteArray.toList a==ByteArray.toList { data:= #[] }
section
variable (a b:avP)(c d e:List avP)(f:afZ)
def Yr:Bool:=bif Yp a c d e then true else bif Yq b then !rl b else false
def RU:Int×avP×avP×List avP×List avP×List avP×afZ:=((0:Int),a,b,c,d,e,f)
def NE:Bool:=bif Yr a b c d e then false else bif Nat.beq ((Lp.res gu (RU a b c d e f)).1) 0 then false else aw (↑f.length:Int) 1 40
def Up:Bool:=allT [AE a,!(!!rl a&&true)||Zx c,!(!Yn a c&&true)||Zx d,!(!Yo a c d&&true)||Zx e,!(Yq b&&(!Yp a c d e&&true))||AE b,Yr a b c d e||Lp.fin gu (RU a b c d e f)]
end
def afI:awh
 | [.one ⟨true,[.val (.string a),.ref 0,.ref 1,.ref 2,.val (.string b),.ref 3]⟩],[.row false 9 (.str) c,.row false 9 (.str) d,.row false 9 (.str) e,.row false 142 (.pair (.str) (.sl 122 (.pair (.int .i64) (.pair (.str) (.int .i64))))) f]=>some ⟨aBB (.val (.bool (NE a b c d e f))),[aBD c,aBD d,aBD e,aBH f],[],[Up a b c d e f]⟩
 |_,_=>none
def ZO:PF prog:=PF.ofG prog (T3z [CF,Tt,Kq,De]) [gu.F] aT 105 f105 func105 (LOk.fnT (l:= [bj f105 0]) (by kernel_rfl) (.cons agY (.nil _))) afI (by
 intro _ _ _ h;unfold afI at h;split at h<;>cases h;kernel_rfl)
def xI(a:avP)(b c:List avP):Bool:=bif leI 0 (eA b a)then true else leI 0 (eA c a)
def JH(a:avP)(b c:List avP):Bool:=allT [leN b.length (9223372036854775807:Nat),!(!leI 0 (eA b a)&&true)||leN c.length (9223372036854775807:Nat)]
def acs:awh
 | [.one ⟨true,[.val (.string _x0),.ref 0,.ref 1,.ref 2,.val (.string _x1),.ref 3]⟩,.one ⟨false,[.val (.string a)]⟩],[.row false 9 (.str) b,.row false 9 (.str) c,.row false 9 (.str) d,.row false 142 (.pair (.str) (.sl 122 (.pair (.int .i64) (.pair (.str) (.int .i64))))) e]=>some ⟨aBB (.val (.bool (xI a b c))),[aBD b,aBD c,aBD d,aBH e],[],[JH a b c]⟩
 |_,_=>none
def ne:PF prog:=PF.ofG prog (T3z [cB]) [] aT 146 f146 func146 (fun c _=>LOk.nil c) acs (by
 intro _ _ _ h;unfold acs at h;split at h<;>cases h;kernel_rfl)
abbrev rD:=Int×avP×avP×List avP×List avP×List avP×List avP×List (avP×(List (Int×(avP×Int))))
section
variable (a:Int)(b c d:List avP)(e:afa)
def lr:avP:=(v5 e[k8 a]? (xS aa8)).1
def EL:Bool:=ltI a (↑e.length:Int)
def Jr:Bool:=leI 0 a
def Js:Bool:=ltN a.toNat e.length
def Jt:Bool:=leN c.length (9223372036854775807:Nat)
def Ju:Bool:= !(ltI (eA c (lr a e)) 0&&true)||leN d.length (9223372036854775807:Nat)
def Jv:Bool:=bif ltI (eA c (lr a e)) 0 then ltI (eA d (lr a e)) 0 else false
def Jw:Bool:=leN (k9 b + k9 [lr a e]) (9223372036854775807:Nat)
def Jz:Bool:=leN ((k9 b + k9 [lr a e]) * (16:Nat)) 140737488355328
def JA:Int:=v6 .i64 (a + (1:Int))
def JB:List avP:=b++ [lr a e]
end
def akB:rD→List (Nat×SV)
 |(a,_,_,_,_,_,_,_)=> [(4,(aBC a)),(1,(aBB (.ptr 0 0))),(3,(aBB (.ref 1)))]
def aks:rD→List (Nat×Entry)
 |(_,a,b,c,d,e,f,g)=> [(0,(.box 43 [.val (.string a),.ref 2,.ref 3,.ref 4,.val (.string b),.ref 5])),(2,(aBD d)),(3,(aBD e)),(4,(aBD f)),(5,(aBI g)),(1,(aBJ c))]
def akT:Nat→rD→List (Nat×SV)
 |0,(_,_,_,_,_,_,_,_)=> [(2,(aBC 3))]
 |_,(_,_,_,_,_,_,_,_)=> [(3,(aBB (.ref 1)))]
def akK:Nat→rD→List (Nat×Entry)
 |0,(_,a,b,c,d,e,f,g)=> [(0,(.box 43 [.val (.string a),.ref 2,.ref 3,.ref 4,.val (.string b),.ref 5])),(1,(aBJ c)),(2,(aBD d)),(3,(aBD e)),(4,(aBD f)),(5,(aBI g))]
 |_,(_,a,b,c,d,e,f,g)=> [(0,(.box 43 [.val (.string a),.ref 2,.ref 3,.ref 4,.val (.string b),.ref 5])),(1,(aBJ c)),(2,(aBD d)),(3,(aBD e)),(4,(aBD f)),(5,(aBI g))]
def Hb:rD→LT rD
 |(a,b,c,d,e,f,g,i)=> .ite (EL a i) (.need [Jr a,EL a i,Js a i] (.need [Jt f,Ju a f g i] (.ite (Jv a f g i) (.ext 0 [(0,0),(1,1),(2,2),(3,3),(4,4),(5,5)]) (.need [Jw a d i,Jz a d i] (.nrm ((JA a),b,c,JB a d i,e,f,g,i) [(0,0),(1,1792),(2,2),(3,3),(4,4),(5,5)]))))) (.ext 1 [(0,0),(1,1),(2,2),(3,3),(4,4),(5,5)])
def UY(s:St):Option rD:=do
 let some ⟨none,.one ⟨false,[.val (.int .i64 a)]⟩⟩:=s.look 4|none
 let some ⟨none,.one ⟨false,[.ptr 320 0]⟩⟩:=s.look 1|none
 let some ⟨none,.one ⟨false,[.ref 1280]⟩⟩:=s.look 3|none
 let some (.box 43 [.val (.string b),.ref 0,.ref 1,.ref 2,.val (.string c),.ref 3]):=s.ent 320|none
 let some (.row false 9 (.str) e):=s.ent 0|none
 let some (.row false 9 (.str) f):=s.ent 1|none
 let some (.row false 9 (.str) g):=s.ent 2|none
 let some (.row false 142 (.pair .str (.sl 122 (.pair (.int .i64) (.pair .str (.int .i64))))) i):=s.ent 3|none
 let some (.row true 9 (.str) d):=s.ent 1280|none
 some (a,b,c,d,e,f,g,i)
def fg:Lp rD where
 h:=⟨[23,24,25,26,27,30,31,32,33,34,35,5,36,37,38,39,40,41,42,43,44,45,46,47,2,48,49,50,51,3,28,29,4],[0,2,3,4,5],[1],[]⟩
 JL:=akB
 JE:=aks
 XL:=akT
 XE:=akK
 q:=fun j=>match j with | 0=> .ret | _=> .exit 0
 tags:= [0,1]
 lt:=Hb
 fuel:=fun(a,b,c,d,e,f,g,i)=>a.natAbs + b.size + c.size + d.length + e.length + f.length + g.length + i.length
 fix:=fun(_,b,c,_,e,f,g,i) (a,_,_,d,_,_,_,_)=>(a,b,c,d,e,f,g,i)
 σ:= [(0,320),(2,0),(3,1),(4,2),(5,3),(1,1280)]
 rd:=UY
theorem air:LoopOk prog (fun k=>Nat.blt k Tryz.f106.ntmps) fg.F (bj f106 0):=by
 refine Lp.ok (tbl:= (T3z [cB,rL,sL,ne])) (lf:= []) aT fg (by kernel_rfl) (LOk.nil _) (fun _=>rfl) (fun j _=>by unfold fg;match j with | 0=>rfl | _ + 1=>rfl) ?_ ?_ ?_ ?_ (fun _=>rfl) ?_
 ·intro _;kernel_rfl
 ·intro _;kernel_rfl
 ·intro s x h
  have h:UY s=some x:=h
  unfold UY at h
  repeat' split at h
  all_goals cases h
  constructor<;>repeat(first|refine ab ‹_› rfl ?_|refine aa rfl ‹_› rfl ?_|rfl)
 ·intro _;kernel_rfl
 ·intro _ _;exact(And.intro (And.intro trivial rfl) trivial)
abbrev sF:=Int×Int×avP×avP×List avP×List avP×List avP×List (avP×(List (Int×(avP×Int))))
section
variable (a b:Int)(c d:List avP)(e:afa)
def CZ:alv:=(v5 e[k8 b]? (xS aa8)).2
def Da:Int×avP×Int:=v5 (CZ b e)[k8 a]? ((0:Int),ByteArray.empty,(0:Int))
def PN:Bool:=(Da a b e).1==1
def Rv:Bool:=leI 0 b
def Rw:Bool:=ltI b (↑e.length:Int)
def JU:Bool:=ltN b.toNat e.length
def As:Bool:=ltI a (↑(k9 (CZ b e)):Int)
def Zq:Bool:=leI 0 a
def Rx:Bool:=ltN a.toNat (k9 (CZ b e))
def Ry:Bool:= !(PN a b e&&true)||JH (((Da a b e).2).1) c d
def Rz:Bool:=bif PN a b e then !xI (((Da a b e).2).1) c d else false
def Zr:Int:=v6 .i64 (a + (1:Int))
end
def agw:sF→List (Nat×SV)
 |(a,b,_,_,_,_,_,_)=> [(7,(aBC a)),(1,(aBB (.ptr 0 0))),(6,(aBC b))]
def ags:sF→List (Nat×Entry)
 |(_,_,a,b,c,d,e,f)=> [(0,(.box 43 [.val (.string a),.ref 1,.ref 2,.ref 3,.val (.string b),.ref 4])),(1,(aBD c)),(2,(aBD d)),(3,(aBD e)),(4,(aBI f))]
def agE:Nat→sF→List (Nat×SV)
 |0,(_,_,_,_,_,_,_,_)=> [(2,(aBC 6))]
 |_,_=>[]
def CC:sF→LT sF
 |(a,b,c,d,e,f,g,i)=> .need [Rv b,Rw b i,JU b i] (.ite (As a b i) (.need [Rv b,Rw b i,JU b i,Zq a,As a b i,Rx a b i] (.need [Ry a b e f i] (.ite (Rz a b e f i) (.ext 0 [(0,0),(1,1),(2,2),(3,3),(4,4)]) (.nrm ((Zr a),b,c,d,e,f,g,i) [(0,0),(1,1),(2,2),(3,3),(4,4)])))) (.ext 1 [(0,0),(1,1),(2,2),(3,3),(4,4)]))
def Px(s:St):Option sF:=do
 let some ⟨none,.one ⟨false,[.val (.int .i64 a)]⟩⟩:=s.look 7|none
 let some ⟨none,.one ⟨false,[.ptr 0 0]⟩⟩:=s.look 1|none
 let some ⟨none,.one ⟨false,[.val (.int .i64 b)]⟩⟩:=s.look 6|none
 let some (.box 43 [.val (.string c),.ref 1,.ref 2,.ref 3,.val (.string d),.ref 4]):=s.ent 0|none
 let some (.row false 9 (.str) e):=s.ent 1|none
 let some (.row false 9 (.str) f):=s.ent 2|none
 let some (.row false 9 (.str) g):=s.ent 3|none
 let some (.row false 142 (.pair .str (.sl 122 (.pair (.int .i64) (.pair .str (.int .i64))))) i):=s.ent 4|none
 some (a,b,c,d,e,f,g,i)
def fE:Lp sF where
 h:=⟨[71,72,73,74,75,76,77,78,79,82,83,84,85,86,87,88,89,90,8,91,92,93,94,95,96,97,98,99,100,2,80,81,7],[0,1,2,3,4],[],[]⟩
 JL:=agw
 JE:=ags
 XL:=agE
 XE:=fun _=>ags
 q:=fun j=>match j with | 0=> .ret | _=> .exit 4
 tags:= [0,1]
 lt:=CC
 fuel:=fun(a,b,c,d,e,f,g,i)=>a.natAbs + b.natAbs + c.size + d.size + e.length + f.length + g.length + i.length
 fix:=fun(_,b,c,d,e,f,g,i) (a,_,_,_,_,_,_,_)=>(a,b,c,d,e,f,g,i)
 σ:= [(0,0),(1,1),(2,2),(3,3),(4,4)]
 rd:=Px
theorem afp:LoopOk prog (memN [64,65,66,67,68,7,71,72,73,74,75,76,77,78,79,82,83,84,85,86,87,88,89,90,8,91,92,93,94,95,96,97,98,99,100,2,80,81,69,70,6]) fE.F (afn (bj f106 1) 0):=by
 refine Lp.ok (tbl:= (T3z [cB,rL,sL,ne])) (lf:= []) aT fE (by kernel_rfl) (LOk.nil _) (fun _=>rfl) (fun j _=>by unfold fE;match j with | 0=>rfl | _ + 1=>rfl) ?_ ?_ ?_ ?_ (fun _=>rfl) ?_
 ·intro _;kernel_rfl
 ·intro _;kernel_rfl
 ·intro s x h
  have h:Px s=some x:=h
  unfold Px at h
  repeat' split at h
  all_goals cases h
  constructor<;>repeat(first|refine ab ‹_› rfl ?_|refine aa rfl ‹_› rfl ?_|rfl)
 ·intro _;kernel_rfl
 ·intro _ _;exact(And.intro (And.intro trivial rfl) trivial)
abbrev wN:=Int×avP×avP×List avP×List avP×List avP×List (avP×(List (Int×(avP×Int))))
section
variable (a:Int)(b c:avP)(d e f:List avP)(g:afa)
def Vk:Int×Int×avP×avP×List avP×List avP×List avP×afZ:=((0:Int),a,b,c,d,e,f,g)
def WC:Bool:=ltI a (↑g.length:Int)
def adC:Bool:=Lp.fin fE (Vk a b c d e f g)
def WD:Bool:=Nat.beq ((Lp.res fE (Vk a b c d e f g)).1) 0
def adD:Int:=v6 .i64 (a + (1:Int))
end
def akC:wN→List (Nat×SV)
 |(a,_,_,_,_,_,_)=> [(6,(aBC a)),(1,(aBB (.ptr 0 0)))]
def akt:wN→List (Nat×Entry)
 |(_,a,b,c,d,e,f)=> [(0,(.box 43 [.val (.string a),.ref 1,.ref 2,.ref 3,.val (.string b),.ref 4])),(1,(aBD c)),(2,(aBD d)),(3,(aBD e)),(4,(aBI f))]
def akU:Nat→wN→List (Nat×SV)
 |0,(_,_,_,_,_,_,_)=> [(2,(aBC 6))]
 |_,_=>[]
def Hc:wN→LT wN
 |(a,b,c,d,e,f,g)=> .ite (WC a g) (.need [adC a b c d e f g] (.ite (WD a b c d e f g) (.ext 0 [(0,0),(1,1),(2,2),(3,3),(4,4)]) (.nrm ((adD a),b,c,d,e,f,g) [(0,0),(1,1),(2,2),(3,3),(4,4)]))) (.ext 1 [(0,0),(1,1),(2,2),(3,3),(4,4)])
def UZ(s:St):Option wN:=do
 let some ⟨none,.one ⟨false,[.val (.int .i64 a)]⟩⟩:=s.look 6|none
 let some ⟨none,.one ⟨false,[.ptr 320 0]⟩⟩:=s.look 1|none
 let some (.box 43 [.val (.string b),.ref 0,.ref 1,.ref 2,.val (.string c),.ref 3]):=s.ent 320|none
 let some (.row false 9 (.str) d):=s.ent 0|none
 let some (.row false 9 (.str) e):=s.ent 1|none
 let some (.row false 9 (.str) f):=s.ent 2|none
 let some (.row false 142 (.pair .str (.sl 122 (.pair (.int .i64) (.pair .str (.int .i64))))) g):=s.ent 3|none
 some (a,b,c,d,e,f,g)
def fX:Lp wN where
 h:=⟨[64,65,66,67,68,7,71,72,73,74,75,76,77,78,79,82,83,84,85,86,87,88,89,90,8,91,92,93,94,95,96,97,98,99,100,2,80,81,69,70,6],[0,1,2,3,4],[],[]⟩
 JL:=akC
 JE:=akt
 XL:=akU
 XE:=fun _=>akt
 q:=fun j=>match j with | 0=> .ret | _=> .exit 2
 tags:= [0,1]
 lt:=Hc
 fuel:=fun(a,b,c,d,e,f,g)=>a.natAbs + b.size + c.size + d.length + e.length + f.length + g.length
 fix:=fun(_,b,c,d,e,f,g) (a,_,_,_,_,_,_)=>(a,b,c,d,e,f,g)
 σ:= [(0,320),(1,0),(2,1),(3,2),(4,3)]
 rd:=UZ
theorem ais:LoopOk prog (fun k=>Nat.blt k Tryz.f106.ntmps) fX.F (bj f106 1):=by
 refine Lp.ok (tbl:= (T3z [cB,rL,sL,ne])) (lf:= [fE.F]) aT fX (by kernel_rfl) (LOk.allT (l:= [afn (bj f106 1) 0]) (by kernel_rfl) (.cons afp (.nil _))) (fun _=>rfl) (fun j _=>by unfold fX;match j with | 0=>rfl | _ + 1=>rfl) ?_ ?_ ?_ ?_ (fun _=>rfl) ?_
 ·intro _;kernel_rfl
 ·intro _;kernel_rfl
 ·intro s x h
  have h:UZ s=some x:=h
  unfold UZ at h
  repeat' split at h
  all_goals cases h
  constructor<;>repeat(first|refine ab ‹_› rfl ?_|refine aa rfl ‹_› rfl ?_|rfl)
 ·intro _;kernel_rfl
 ·intro _ _;exact(And.intro (And.intro trivial rfl) trivial)
def BV(a b c:List avP):List avP:=a++b++c
def EK(a:avP):Bool:=
 !ByteArray.toList a==ByteArray.toList { data:= #[] }
section
variable (a b:avP)(c d e:List avP)(f:afZ)
def Ur:List avP×List avP×List avP×afZ:=(c,d,e,f)
def Ib:Int×avP×avP×List avP×List avP×List avP×List avP×afZ:=((0:Int),a,b,[],Ur c d e f)
def NJ:Bool:=Nat.beq ((Lp.res fg (Ib a b c d e f)).1) 0
def Ic:List avP:=((Lp.res fg (Ib a b c d e f)).2.2.2.2).1
def Us:Bool:=ltI (↑(k9 (Ic a b c d e f)):Int) (v6 .i64 ((↑d.length:Int) + (↑e.length:Int)))
def Ut:Int×avP×avP×List avP×List avP×List avP×afZ:=((0:Int),a,b,Ur c d e f)
def VO:Int:=bif xO (BV c d e)then(1:Int)else bif bif EK b then !xI b c d else false then(2:Int)else bif NJ a b c d e f then(3:Int)else bif xO (Ic a b c d e f)then(4:Int)else bif Us a b c d e f then(5:Int)else bif Nat.beq ((Lp.res fX (Ut a b c d e f)).1) 0 then(6:Int)else(0:Int)
def VP:Bool:=allT [leN (k9 c + k9 d + k9 e) 2000000,leN (k9 (BV c d e)) 9223372036854775807,xO (BV c d e)||(!(EK b&&true)||JH b c d),xO (BV c d e)||((bif EK b then !xI b c d else false)||Lp.fin fg (Ib a b c d e f)),xO (BV c d e)||((bif EK b then !xI b c d else false)||(NJ a b c d e f||leN (k9 (Ic a b c d e f)) 9223372036854775807)),xO (BV c d e)||((bif EK b then !xI b c d else false)||(NJ a b c d e f||(xO (Ic a b c d e f)||(Us a b c d e f||Lp.fin fX (Ut a b c d e f)))))]
end
def aht:awh
 | [.one ⟨true,[.val (.string a),.ref 0,.ref 1,.ref 2,.val (.string b),.ref 3]⟩],[.row false 9 (.str) c,.row false 9 (.str) d,.row false 9 (.str) e,.row false 142 (.pair (.str) (.sl 122 (.pair (.int .i64) (.pair (.str) (.int .i64))))) f]=>some ⟨aBC (VO a b c d e f),[aBD c,aBD d,aBD e,aBH f],[],[VP a b c d e f]⟩
 |_,_=>none
def abr:PF prog:=PF.ofG prog (T3z [cB,rL,sL,ne]) [fg.F,fX.F] aT 106 f106 func106 (LOk.fnT (l:= [bj f106 0,bj f106 1]) (by kernel_rfl) (.cons air (.cons ais (.nil _)))) aht (by
 intro _ _ _ h;unfold aht at h;split at h<;>cases h;kernel_rfl)
def adf(a b:avP)(c d e:List avP)(f:afZ):Bool:=bif NE a b c d e f then VO a b c d e f==0 else false
def adg(a b:avP)(c d e:List avP)(f:afZ):Bool:=allT [Up a b c d e f,!(NE a b c d e f&&true)||VP a b c d e f]
def aiC:awh
 | [.one ⟨true,[.val (.string a),.ref 0,.ref 1,.ref 2,.val (.string b),.ref 3]⟩],[.row false 9 (.str) c,.row false 9 (.str) d,.row false 9 (.str) e,.row false 142 (.pair (.str) (.sl 122 (.pair (.int .i64) (.pair (.str) (.int .i64))))) f]=>some ⟨aBB (.val (.bool (adf a b c d e f))),[aBD c,aBD d,aBD e,aBH f],[],[adg a b c d e f]⟩
 |_,_=>none
def arK:PF prog:=PF.ofG prog (T3z [ZO,abr]) [] aT 60 f60 func60 (fun c _=>LOk.nil c) aiC (by
 intro _ _ _ h;unfold aiC at h;split at h<;>cases h;kernel_rfl)
def Np(a:alv):Bool:=ltI 40 (↑a.length:Int)
def Bp:awh
 | [.one ⟨true,[.val (.string _x0),.ref 0]⟩],[.row false 122 (.pair (.int .i64) (.pair (.str) (.int .i64))) a]=>some ⟨aBB (.val (.bool (Np a))),[aBG a],[],[]⟩
 |_,_=>none
def te:PF prog:=PF.ofG prog [] [] aT 185 f185 func185 (fun c _=>LOk.nil c) Bp (by
 intro _ _ _ h;unfold Bp at h;split at h<;>cases h;kernel_rfl)
def dY(a:alv):Bool:=ltI 40 (↑a.length:Int)
def wM:awh
 | [.one ⟨true,[.val (.string _x0),.ref 0]⟩],[.row false 122 (.pair (.int .i64) (.pair .str (.int .i64))) a]=>some ⟨aBB (.val (.bool (dY a))),[aBG a],[],[]⟩
 |_,_=>none
def ea:PF prog:=PF.ofG prog [] [] aT 185 f185 func185 (fun c _=>LOk.nil c) wM (by
 intro _ _ _ h;unfold wM at h;split at h<;>cases h;kernel_rfl)
abbrev cM:=Int×Int×List (avP×(List (Int×(avP×Int))))
section
variable (a b:Int)(c:afa)
def mB:Bool:=ltI a b
def rU:Bool:=leI 0 a
def rV:Bool:=ltI a (↑c.length:Int)
def rW:Bool:=ltN a.toNat c.length
def iX:Bool:=dY ((v5 c[k8 a]? (xS aa8)).2)
def yw:Int:=v6 .i64 (a + (1:Int))
end
def SG:cM→List (Nat×SV)
 |(a,b,_)=> [(8,(aBC a)),(7,(aBC b)),(1,(aBB (.val (.func (.func 185) ⟨[]⟩ ⟨[]⟩)))),(0,(aBB (.ref 0)))]
def SA:cM→List (Nat×Entry)
 |(_,_,a)=> [(0,(aBI a))]
def SU:Nat→cM→List (Nat×SV)
 |0,(a,_,_)=> [(4,(aBC a))]
 |_,_=>[]
def lS:cM→LT cM
 |(a,b,c)=> .ite (mB a b) (.need [rU a,rV a c,rW a c] (.ite (iX a c) (.ext 0 [(0,0)]) (.nrm ((yw a),b,c) [(0,0)]))) (.ext 1 [(0,0)])
def wZ(s:St):Option cM:=do
 let some ⟨none,.one ⟨false,[.val (.int .i64 a)]⟩⟩:=s.look 8|none
 let some ⟨none,.one ⟨false,[.val (.int .i64 b)]⟩⟩:=s.look 7|none
 let some ⟨none,.one ⟨false,[.val (.func (.func 185) ⟨[]⟩ ⟨[]⟩)]⟩⟩:=s.look 1|none
 let some ⟨none,.one ⟨false,[.ref 0]⟩⟩:=s.look 0|none
 let some (.row false 142 (.pair .str (.sl 122 (.pair (.int .i64) (.pair .str (.int .i64))))) c):=s.ent 0|none
 some (a,b,c)
def aN:Lp cM where
 h:=⟨[9,10,5,11,12,13,14,15,16,17,4,18,8],[0],[],[]⟩
 JL:=SG
 JE:=SA
 XL:=SU
 XE:=fun _=>SA
 q:=fun j=>match j with | 0=> .ret | _=> .exit 0
 tags:= [0,1]
 lt:=lS
 fuel:=fun(a,b,c)=>a.natAbs + b.natAbs + c.length
 fix:=fun(_,b,c) (a,_,_)=>(a,b,c)
 σ:= [(0,0)]
 rd:=wZ
theorem QW:LoopOk prog (fun k=>Nat.blt k Tryz.f186.ntmps) aN.F (bj f186 0):=by
 refine Lp.ok (tbl:= (T3z [ea])) (lf:= []) aT aN (by kernel_rfl) (LOk.nil _) (fun _=>rfl) (fun j _=>by unfold aN;match j with | 0=>rfl | _ + 1=>rfl) ?_ ?_ ?_ ?_ (fun _=>rfl) ?_
 ·intro _;kernel_rfl
 ·intro _;kernel_rfl
 ·intro s x h
  have h:wZ s=some x:=h
  unfold wZ at h
  repeat' split at h
  all_goals cases h
  constructor<;>repeat(first|refine ab ‹_› rfl ?_|refine aa rfl ‹_› rfl ?_|rfl)
 ·intro _;kernel_rfl
 ·intro _ _;exact(And.intro (And.intro trivial rfl) trivial)
section
variable (a:afZ)
def tw:Int×Int×afZ:=((0:Int),(↑a.length:Int),a)
def Ba:Int:=bif Nat.beq ((Lp.res aN (tw a)).1) 0 then ((Lp.res aN (tw a)).2).1else(-1:Int)
def Bb:Bool:=allT [Lp.fin aN (tw a)]
end
def Ig:awh
 | [.one ⟨false,[.ref 0]⟩,.one ⟨false,[.val (.func (.func 185) ⟨[]⟩ ⟨[]⟩)]⟩],[.row false 142 (.pair .str (.sl 122 (.pair (.int .i64) (.pair .str (.int .i64))))) a]=>some ⟨aBC (Ba a),[aBI a],[],[Bb a]⟩
 |_,_=>none
def AU:PF prog:=PF.ofG prog (T3z [ea]) [aN.F] aT 186 f186 func186 (LOk.fnT (l:= [bj f186 0]) (by kernel_rfl) (.cons QW (.nil _))) Ig (by
 intro _ _ _ h;unfold Ig at h;split at h<;>cases h;kernel_rfl)
def yo(a:afZ):Bool:=leI 0 (Ba a)
def yp(a:afZ):Bool:=allT [Bb a]
def Gf:awh
 | [.one ⟨false,[.ref 0]⟩,.one ⟨false,[.val (.func (.func 185) ⟨[]⟩ ⟨[]⟩)]⟩],[.row false 142 (.pair .str (.sl 122 (.pair (.int .i64) (.pair .str (.int .i64))))) a]=>some ⟨aBB (.val (.bool (yo a))),[aBI a],[],[yp a]⟩
 |_,_=>none
def xY:PF prog:=PF.ofG prog (T3z [AU]) [] aT 151 f151 func151 (fun c _=>LOk.nil c) Gf (by
 intro _ _ _ h;unfold Gf at h;split at h<;>cases h;kernel_rfl)
section
variable (a b c:List avP)(d:afZ)
def tH:Bool:=bif bif bif leI (↑a.length:Int) 20 then leI (↑b.length:Int) 20 else false then leI (↑c.length:Int) 20 else false then leI (↑d.length:Int) 40 else false
def nO:Bool:=bif tH a b c d then !yo d else false
def nP:Bool:=allT [!(tH a b c d&&true)||yp d]
end
def Cw:awh
 | [.one ⟨true,[.val (.string _x0),.ref 0,.ref 1,.ref 2,.val (.string _x1),.ref 3]⟩],[.row false 9 (.str) a,.row false 9 (.str) b,.row false 9 (.str) c,.row false 142 (.pair (.str) (.sl 122 (.pair (.int .i64) (.pair (.str) (.int .i64))))) d]=>some ⟨aBB (.val (.bool (nO a b c d))),[aBD a,aBD b,aBD c,aBH d],[],[nP a b c d]⟩
 |_,_=>none
def uh:PF prog:=PF.ofG prog (T3z [te,xY]) [] aT 150 f150 func150 (fun c _=>LOk.nil c) Cw (by
 intro _ _ _ h;unfold Cw at h;split at h<;>cases h;kernel_rfl)
def amp(a:avP)(b:alv):Bool:= !lineB (a,b)
def amq(a:alv):Bool:=allT [abX a]
def acj:awh
 | [.one ⟨true,[.val (.string a),.ref 0]⟩],[.row false 122 (.pair (.int .i64) (.pair (.str) (.int .i64))) b]=>some ⟨aBB (.val (.bool (amp a b))),[aBG b],[],[amq b]⟩
 |_,_=>none
def Wm:PF prog:=PF.ofG prog (T3z [Qu]) [] aT 152 f152 func152 (fun c _=>LOk.nil c) acj (by
 intro _ _ _ h;unfold acj at h;split at h<;>cases h;kernel_rfl)
def Fe(a:avP)(b:alv):Bool:= !lineB (a,b)
def LA(a:alv):Bool:=allT [abX a]
def Vn:awh
 | [.one ⟨true,[.val (.string a),.ref 0]⟩],[.row false 122 (.pair (.int .i64) (.pair .str (.int .i64))) b]=>some ⟨aBB (.val (.bool (Fe a b))),[aBG b],[],[LA b]⟩
 |_,_=>none
def uY:PF prog:=PF.ofG prog (T3z [Qu]) [] aT 152 f152 func152 (fun c _=>LOk.nil c) Vn (by
 intro _ _ _ h;unfold Vn at h;split at h<;>cases h;kernel_rfl)
abbrev cO:=Int×Int×List (avP×(List (Int×(avP×Int))))
section
variable (a b:Int)(c:afa)
def dA:avP×alv:=v5 c[k8 a]? (xS aa8)
def mC:Bool:=ltI a b
def rX:Bool:=leI 0 a
def rY:Bool:=ltI a (↑c.length:Int)
def rZ:Bool:=ltN a.toNat c.length
def mD:Bool:=LA ((dA a c).2)
def mE:Bool:=Fe ((dA a c).1) ((dA a c).2)
def yx:Int:=v6 .i64 (a + (1:Int))
end
def SH:cO→List (Nat×SV)
 |(a,b,_)=> [(8,(aBC a)),(7,(aBC b)),(1,(aBB (.val (.func (.func 152) ⟨[]⟩ ⟨[]⟩)))),(0,(aBB (.ref 0)))]
def SB:cO→List (Nat×Entry)
 |(_,_,a)=> [(0,(aBI a))]
def SW:Nat→cO→List (Nat×SV)
 |0,(a,_,_)=> [(4,(aBC a))]
 |_,_=>[]
def lT:cO→LT cO
 |(a,b,c)=> .ite (mC a b) (.need [rX a,rY a c,rZ a c,mD a c] (.ite (mE a c) (.ext 0 [(0,0)]) (.nrm ((yx a),b,c) [(0,0)]))) (.ext 1 [(0,0)])
def xa(s:St):Option cO:=do
 let some ⟨none,.one ⟨false,[.val (.int .i64 a)]⟩⟩:=s.look 8|none
 let some ⟨none,.one ⟨false,[.val (.int .i64 b)]⟩⟩:=s.look 7|none
 let some ⟨none,.one ⟨false,[.val (.func (.func 152) ⟨[]⟩ ⟨[]⟩)]⟩⟩:=s.look 1|none
 let some ⟨none,.one ⟨false,[.ref 0]⟩⟩:=s.look 0|none
 let some (.row false 142 (.pair .str (.sl 122 (.pair (.int .i64) (.pair .str (.int .i64))))) c):=s.ent 0|none
 some (a,b,c)
def aO:Lp cO where
 h:=⟨[9,10,5,11,12,13,14,15,16,17,4,18,8],[0],[],[]⟩
 JL:=SH
 JE:=SB
 XL:=SW
 XE:=fun _=>SB
 q:=fun j=>match j with | 0=> .ret | _=> .exit 0
 tags:= [0,1]
 lt:=lT
 fuel:=fun(a,b,c)=>a.natAbs + b.natAbs + c.length
 fix:=fun(_,b,c) (a,_,_)=>(a,b,c)
 σ:= [(0,0)]
 rd:=xa
theorem QX:LoopOk prog (fun k=>Nat.blt k Tryz.f186.ntmps) aO.F (bj f186 0):=by
 refine Lp.ok (tbl:= (T3z [uY])) (lf:= []) aT aO (by kernel_rfl) (LOk.nil _) (fun _=>rfl) (fun j _=>by unfold aO;match j with | 0=>rfl | _ + 1=>rfl) ?_ ?_ ?_ ?_ (fun _=>rfl) ?_
 ·intro _;kernel_rfl
 ·intro _;kernel_rfl
 ·intro s x h
  have h:xa s=some x:=h
  unfold xa at h
  repeat' split at h
  all_goals cases h
  constructor<;>repeat(first|refine ab ‹_› rfl ?_|refine aa rfl ‹_› rfl ?_|rfl)
 ·intro _;kernel_rfl
 ·intro _ _;exact(And.intro (And.intro trivial rfl) trivial)
section
variable (a:afZ)
def tx:Int×Int×afZ:=((0:Int),(↑a.length:Int),a)
def Bc:Int:=bif Nat.beq ((Lp.res aO (tx a)).1) 0 then ((Lp.res aO (tx a)).2).1else(-1:Int)
def Bd:Bool:=allT [Lp.fin aO (tx a)]
end
def Ih:awh
 | [.one ⟨false,[.ref 0]⟩,.one ⟨false,[.val (.func (.func 152) ⟨[]⟩ ⟨[]⟩)]⟩],[.row false 142 (.pair .str (.sl 122 (.pair (.int .i64) (.pair .str (.int .i64))))) a]=>some ⟨aBC (Bc a),[aBI a],[],[Bd a]⟩
 |_,_=>none
def AV:PF prog:=PF.ofG prog (T3z [uY]) [aO.F] aT 186 f186 func186 (LOk.fnT (l:= [bj f186 0]) (by kernel_rfl) (.cons QX (.nil _))) Ih (by
 intro _ _ _ h;unfold Ih at h;split at h<;>cases h;kernel_rfl)
def rP(a:afZ):Bool:=leI 0 (Bc a)
def rQ(a:afZ):Bool:=allT [Bd a]
def Gg:awh
 | [.one ⟨false,[.ref 0]⟩,.one ⟨false,[.val (.func (.func 152) ⟨[]⟩ ⟨[]⟩)]⟩],[.row false 142 (.pair .str (.sl 122 (.pair (.int .i64) (.pair .str (.int .i64))))) a]=>some ⟨aBB (.val (.bool (rP a))),[aBI a],[],[rQ a]⟩
 |_,_=>none
def xZ:PF prog:=PF.ofG prog (T3z [AV]) [] aT 151 f151 func151 (fun c _=>LOk.nil c) Gg (by
 intro _ _ _ h;unfold Gg at h;split at h<;>cases h;kernel_rfl)
def KD(a:avP)(b c d:List avP):ap9:=bif qj a&&true then [b,c,d]else []
def RR(a:avP)(b c d:List avP):List avP:=bif qj a&&true then List.flatten (KD a b c d)else []
def XP(a b:avP)(c d e:List avP)(f:afZ):Bool:=
 bif
  bif
    bif
      bif bif qj a then List.all (RR a c d e) rx else false then
       bif ByteArray.toList b==ByteArray.toList { data:= #[] } then true else qj b
      else false then
     ltI (0:Int) (↑c.length:Int)
    else false then
   ltI (0:Int) (↑e.length:Int)
  else false then
 ltI (0:Int) (↑f.length:Int)
 else false
section
variable (a b:avP)(c d e:List avP)(f:afZ)
def XQ:Bool:=bif XP a b c d e f then nO c d e f else false
def MZ:Bool:=bif XQ a b c d e f then !rP f else false
def TR:Bool:=allT [!(qj a&&true)||leN (k9 (KD a c d e)) 1000&&leN (Qo (KD a c d e)) 2000000,!(qj a&&true)||leN (k9 (RR a c d e)) 9223372036854775807,!(XP a b c d e f&&true)||nP c d e f,!(XQ a b c d e f&&true)||rQ f]
end
def afD:awh
 | [.one ⟨true,[.val (.string a),.ref 0,.ref 1,.ref 2,.val (.string b),.ref 3]⟩],[.row false 9 (.str) c,.row false 9 (.str) d,.row false 9 (.str) e,.row false 142 (.pair (.str) (.sl 122 (.pair (.int .i64) (.pair (.str) (.int .i64))))) f]=>some ⟨aBB (.val (.bool (MZ a b c d e f))),[aBD c,aBD d,aBD e,aBH f],[],[TR a b c d e f]⟩
 |_,_=>none
def ZM:PF prog:=PF.ofG prog (T3z [Vx,abp,dH,uh,Wm,xZ]) [] aT 109 f109 func109 (fun c _=>LOk.nil c) afD (by
 intro _ _ _ h;unfold afD at h;split at h<;>cases h;kernel_rfl)
section
variable (a b c:List avP)
def jU:ap9:= [a,b,c]
def bN:List avP:=List.flatten (jU a b c)
def pv:Bool:=allT [leN (k9 (jU a b c)) 1000&&leN (Qo (jU a b c)) 2000000]
end
def DI:awh
 | [.one ⟨true,[.val (.string _x0),.ref 0,.ref 1,.ref 2,.val (.string _x1),.ref 3]⟩],[.row false 9 (.str) a,.row false 9 (.str) b,.row false 9 (.str) c,.row false 142 (.pair (.str) (.sl 122 (.pair (.int .i64) (.pair (.str) (.int .i64))))) d]=>some ⟨aBB (.ref 4),[aBD a,aBD b,aBD c,aBH d],[aBJ (bN a b c)],[pv a b c]⟩
 |_,_=>none
def gD:PF prog:=PF.ofG prog (T3z [dH]) [] aT 155 f155 func155 (fun c _=>LOk.nil c) DI (by
 intro _ _ _ h;unfold DI at h;split at h<;>cases h;kernel_rfl)
section
variable (a:Int)(b:avP)(c d:List avP)
def uv:Bool:=bif a==1 then !lM c b else false
def uA:Bool:=bif uv a b c then !lM d b else false
def uB:Bool:=allT [!(a==1&&true)||leN c.length (9223372036854775807:Nat),!(uv a b c&&true)||leN d.length (9223372036854775807:Nat)]
end
def uw:awh
 | [.one ⟨true,[.val (.int .i64 a),.val (.string b),.val (.int .i64 _x2)]⟩,.one ⟨false,[.ptr 0 0]⟩],[.box 43 [.val (.string c),.ref 1,.ref 2,.ref 3,.val (.string d),.ref 4],.row false 9 (.str) e,.row false 9 (.str) f,.row false 9 (.str) g,.row false 142 (.pair .str (.sl 122 (.pair (.int .i64) (.pair .str (.int .i64))))) i]=>some ⟨aBB (.val (.bool (uA a b e f))),[.box 43 [.val (.string c),.ref 1,.ref 2,.ref 3,.val (.string d),.ref 4],aBD e,aBD f,aBD g,aBI i],[],[uB a b e f]⟩
 |_,_=>none
def du:PF prog:=PF.ofG prog (T3z [aW]) [] aT 189 f189 func189 (fun c _=>LOk.nil c) uw (by
 intro _ _ _ h;unfold uw at h;split at h<;>cases h;kernel_rfl)
abbrev eG:=Int×Int×avP×avP×List (Int×(avP×Int))×List avP×List avP×List avP×List (avP×(List (Int×(avP×Int))))
section
variable (a b:Int)(c:ajz)(d e:List avP)
def rf:Int×avP×Int:=v5 c[k8 a]? ((0:Int),ByteArray.empty,(0:Int))
def Uh:Bool:=ltI a b
def Ui:Bool:=leI 0 a
def Uj:Bool:=ltI a (↑c.length:Int)
def Uk:Bool:=ltN a.toNat c.length
def Ul:Bool:=uB ((rf a c).1) (((rf a c).2).1) d e
def Um:Bool:=uA ((rf a c).1) (((rf a c).2).1) d e
def Un:Int:=v6 .i64 (a + (1:Int))
end
def SK:eG→List (Nat×SV)
 |(a,b,_,_,_,_,_,_,_)=> [(8,(aBC a)),(7,(aBC b)),(1,(aBB (.clo 189 [0]))),(0,(aBB (.ref 1)))]
def SE:eG→List (Nat×Entry)
 |(_,_,a,b,c,d,e,f,g)=> [(0,(.box 43 [.val (.string a),.ref 2,.ref 3,.ref 4,.val (.string b),.ref 5])),(1,(aBG c)),(2,(aBD d)),(3,(aBD e)),(4,(aBD f)),(5,(aBI g))]
def Ta:Nat→eG→List (Nat×SV)
 |0,(a,_,_,_,_,_,_,_,_)=> [(4,(aBC a))]
 |_,_=>[]
def Tl:eG→LT eG
 |(a,b,c,d,e,f,g,i,j)=> .ite (Uh a b) (.need [Ui a,Uj a e,Uk a e,Ul a e f g] (.ite (Um a e f g) (.ext 0 [(0,0),(1,1),(2,2),(3,3),(4,4),(5,5)]) (.nrm ((Un a),b,c,d,e,f,g,i,j) [(0,0),(1,1),(2,2),(3,3),(4,4),(5,5)]))) (.ext 1 [(0,0),(1,1),(2,2),(3,3),(4,4),(5,5)])
def xg(s:St):Option eG:=do
 let some ⟨none,.one ⟨false,[.val (.int .i64 a)]⟩⟩:=s.look 8|none
 let some ⟨none,.one ⟨false,[.val (.int .i64 b)]⟩⟩:=s.look 7|none
 let some ⟨none,.one ⟨false,[.clo 189 [1]]⟩⟩:=s.look 1|none
 let some ⟨none,.one ⟨false,[.ref 0]⟩⟩:=s.look 0|none
 let some (.box 43 [.val (.string c),.ref 2,.ref 3,.ref 4,.val (.string d),.ref 5]):=s.ent 1|none
 let some (.row false 122 (.pair (.int .i64) (.pair .str (.int .i64))) e):=s.ent 0|none
 let some (.row false 9 (.str) f):=s.ent 2|none
 let some (.row false 9 (.str) g):=s.ent 3|none
 let some (.row false 9 (.str) i):=s.ent 4|none
 let some (.row false 142 (.pair .str (.sl 122 (.pair (.int .i64) (.pair .str (.int .i64))))) j):=s.ent 5|none
 some (a,b,c,d,e,f,g,i,j)
def fh:Lp eG where
 h:=⟨[9,10,5,11,12,13,14,15,16,17,4,18,8],[0,1,2,3,4,5],[],[]⟩
 JL:=SK
 JE:=SE
 XL:=Ta
 XE:=fun _=>SE
 q:=fun j=>match j with | 0=> .ret | _=> .exit 0
 tags:= [0,1]
 lt:=Tl
 fuel:=fun(a,b,c,d,e,f,g,i,k)=>a.natAbs + b.natAbs + c.size + d.size + e.length + f.length + g.length + i.length + k.length
 fix:=fun(_,b,c,d,e,f,g,i,k) (a,_,_,_,_,_,_,_,_)=>(a,b,c,d,e,f,g,i,k)
 σ:= [(0,1),(1,0),(2,2),(3,3),(4,4),(5,5)]
 rd:=xg
theorem Ra:LoopOk prog (fun k=>Nat.blt k Tryz.f164.ntmps) fh.F (bj f164 0):=by
 refine Lp.ok (tbl:= (T3z [du])) (lf:= []) aT fh (by kernel_rfl) (LOk.nil _) (fun _=>rfl) (fun j _=>by unfold fh;match j with | 0=>rfl | _ + 1=>rfl) ?_ ?_ ?_ ?_ (fun _=>rfl) ?_
 ·intro _;kernel_rfl
 ·intro _;kernel_rfl
 ·intro s x h
  have h:xg s=some x:=h
  unfold xg at h
  repeat' split at h
  all_goals cases h
  constructor<;>repeat(first|refine ab ‹_› rfl ?_|refine aa rfl ‹_› rfl ?_|rfl)
 ·intro _;kernel_rfl
 ·intro _ _;exact(And.intro (And.intro trivial rfl) trivial)
section
variable (a:alv)(b c:avP)(d e f:List avP)(g:afZ)
def Az:Int×Int×avP×avP×alv×List avP×List avP×List avP×afZ:=((0:Int),(↑a.length:Int),b,c,a,d,e,f,g)
def AA:Bool:=Nat.beq ((Lp.res fh (Az a b c d e f g)).1) 0
def Jf:Int:=bif AA a b c d e f g then ((Lp.res fh (Az a b c d e f g)).2).1else(-1:Int)
def Jg:avP:=bif AA a b c d e f g then b else b
def Jh:avP:=bif AA a b c d e f g then c else c
def Ji:Bool:=allT [Lp.fin fh (Az a b c d e f g)]
end
def Ik:awh
 | [.one ⟨false,[.ref 0]⟩,.one ⟨false,[.clo 189 [1]]⟩],[.row false 122 (.pair (.int .i64) (.pair .str (.int .i64))) a,.box 43 [.val (.string b),.ref 2,.ref 3,.ref 4,.val (.string c),.ref 5],.row false 9 (.str) d,.row false 9 (.str) e,.row false 9 (.str) f,.row false 142 (.pair .str (.sl 122 (.pair (.int .i64) (.pair .str (.int .i64))))) g]=>some ⟨aBC (Jf a b c d e f g),[aBG a,.box 43 [.val (.string (Jg a b c d e f g)),.ref 2,.ref 3,.ref 4,.val (.string (Jh a b c d e f g)),.ref 5],aBD d,aBD e,aBD f,aBI g],[],[Ji a b c d e f g]⟩
 |_,_=>none
def AY:PF prog:=PF.ofG prog (T3z [du]) [fh.F] aT 164 f164 func164 (LOk.fnT (l:= [bj f164 0]) (by kernel_rfl) (.cons Ra (.nil _))) Ik (by
 intro _ _ _ h;unfold Ik at h;split at h<;>cases h;kernel_rfl)
section
variable (a:alv)(b c:avP)(d e f:List avP)(g:afZ)
def Gw:Bool:=leI 0 (Jf a b c d e f g)
def Ud:avP:=Jg a b c d e f g
def Ue:avP:=Jh a b c d e f g
def Gx:Bool:=allT [Ji a b c d e f g]
end
def Gj:awh
 | [.one ⟨false,[.ref 0]⟩,.one ⟨false,[.clo 189 [1]]⟩],[.row false 122 (.pair (.int .i64) (.pair .str (.int .i64))) a,.box 43 [.val (.string b),.ref 2,.ref 3,.ref 4,.val (.string c),.ref 5],.row false 9 (.str) d,.row false 9 (.str) e,.row false 9 (.str) f,.row false 142 (.pair .str (.sl 122 (.pair (.int .i64) (.pair .str (.int .i64))))) g]=>some ⟨aBB (.val (.bool (Gw a b c d e f g))),[aBG a,.box 43 [.val (.string (Ud a b c d e f g)),.ref 2,.ref 3,.ref 4,.val (.string (Ue a b c d e f g)),.ref 5],aBD d,aBD e,aBD f,aBI g],[],[Gx a b c d e f g]⟩
 |_,_=>none
def yc:PF prog:=PF.ofG prog (T3z [AY]) [] aT 115 f115 func115 (fun c _=>LOk.nil c) Gj (by
 intro _ _ _ h;unfold Gj at h;split at h<;>cases h;kernel_rfl)
def LB(a b:avP)(c d e:List avP)(f:afZ)(g:alv):Bool:=Gw g a b c d e f
def LC(a b:avP)(c d e:List avP)(f:afZ)(g:alv):Bool:=allT [Gx g a b c d e f]
def Ax:awh
 | [.one ⟨true,[.val (.string a),.ref 0,.ref 1,.ref 2,.val (.string b),.ref 3]⟩,.one ⟨true,[.val (.string _x2),.ref 4]⟩],[.row false 9 (.str) c,.row false 9 (.str) d,.row false 9 (.str) e,.row false 142 (.pair (.str) (.sl 122 (.pair (.int .i64) (.pair (.str) (.int .i64))))) f,.row false 122 (.pair (.int .i64) (.pair (.str) (.int .i64))) g]=>some ⟨aBB (.val (.bool (LB a b c d e f g))),[aBD c,aBD d,aBD e,aBH f,aBG g],[],[LC a b c d e f g]⟩
 |_,_=>none
def eP:PF prog:=PF.ofG prog (T3z [yc]) [] aT 160 f160 func160 (fun c _=>LOk.nil c) Ax (by
 intro _ _ _ h;unfold Ax at h;split at h<;>cases h;kernel_rfl)
def qM(a:avP)(b:List avP):Bool:= !lM b a
def qN(a:List avP):Bool:=allT [leN a.length (9223372036854775807:Nat)]
def zb:awh
 | [.one ⟨false,[.val (.string a)]⟩,.one ⟨false,[.ptr 0 0]⟩],[.box 40 [.ref 1],.row true 9 (.str) b]=>some ⟨aBB (.val (.bool (qM a b))),[.box 40 [.ref 1],aBJ b],[],[qN b]⟩
 |_,_=>none
def eB:PF prog:=PF.ofG prog (T3z [aW]) [] aT 158 f158 func158 (fun c _=>LOk.nil c) zb (by
 intro _ _ _ h;unfold zb at h;split at h<;>cases h;kernel_rfl)
abbrev cf:=Int×Int×List avP×List avP
section
variable (a b:Int)(c d:List avP)
def kf:Bool:=ltI a b
def kg:Bool:=leI 0 a
def kh:Bool:=ltI a (↑c.length:Int)
def ki:Bool:=ltN a.toNat c.length
def fR:Bool:=qN d
def kj:Bool:=qM (v5 c[k8 a]? ByteArray.empty) d
def oH:Int:=v6 .i64 (a + (1:Int))
end
def OL:cf→List (Nat×SV)
 |(a,b,_,_)=> [(8,(aBC a)),(7,(aBC b)),(1,(aBB (.clo 158 [0]))),(0,(aBB (.ref 1)))]
def OI:cf→List (Nat×Entry)
 |(_,_,a,b)=> [(0,(.box 40 [.ref 2])),(1,(aBJ a)),(2,(aBJ b))]
def OR:Nat→cf→List (Nat×SV)
 |0,(a,_,_,_)=> [(4,(aBC a))]
 |_,_=>[]
def jC:cf→LT cf
 |(a,b,c,d)=> .ite (kf a b) (.need [kg a,kh a c,ki a c,fR d] (.ite (kj a c d) (.ext 0 [(0,0),(1,1),(2,2)]) (.nrm ((oH a),b,c,d) [(0,0),(1,1),(2,2)]))) (.ext 1 [(0,0),(1,1),(2,2)])
def um(s:St):Option cf:=do
 let some ⟨none,.one ⟨false,[.val (.int .i64 a)]⟩⟩:=s.look 8|none
 let some ⟨none,.one ⟨false,[.val (.int .i64 b)]⟩⟩:=s.look 7|none
 let some ⟨none,.one ⟨false,[.clo 158 [1]]⟩⟩:=s.look 1|none
 let some ⟨none,.one ⟨false,[.ref 0]⟩⟩:=s.look 0|none
 let some (.box 40 [.ref 2]):=s.ent 1|none
 let some (.row true 9 (.str) c):=s.ent 0|none
 let some (.row true 9 (.str) d):=s.ent 2|none
 some (a,b,c,d)
def ao:Lp cf where
 h:=⟨[9,10,5,11,12,13,14,15,16,17,4,18,8],[0,1,2],[],[]⟩
 JL:=OL
 JE:=OI
 XL:=OR
 XE:=fun _=>OI
 q:=fun j=>match j with | 0=> .ret | _=> .exit 0
 tags:= [0,1]
 lt:=jC
 fuel:=fun(a,b,c,d)=>a.natAbs + b.natAbs + c.length + d.length
 fix:=fun(_,b,c,d) (a,_,_,_)=>(a,b,c,d)
 σ:= [(0,1),(1,0),(2,2)]
 rd:=um
theorem Nu:LoopOk prog (fun k=>Nat.blt k Tryz.f188.ntmps) ao.F (bj f188 0):=by
 refine Lp.ok (tbl:= (T3z [eB])) (lf:= []) aT ao (by kernel_rfl) (LOk.nil _) (fun _=>rfl) (fun j _=>by unfold ao;match j with | 0=>rfl | _ + 1=>rfl) ?_ ?_ ?_ ?_ (fun _=>rfl) ?_
 ·intro _;kernel_rfl
 ·intro _;kernel_rfl
 ·intro s x h
  have h:um s=some x:=h
  unfold um at h
  repeat' split at h
  all_goals cases h
  constructor<;>repeat(first|refine ab ‹_› rfl ?_|refine aa rfl ‹_› rfl ?_|rfl)
 ·intro _;kernel_rfl
 ·intro _ _;exact(And.intro (And.intro trivial rfl) trivial)
section
variable (a b:List avP)
def lk:Int×Int×List avP×List avP:=((0:Int),(↑a.length:Int),a,b)
def qI:Bool:=Nat.beq ((Lp.res ao (lk a b)).1) 0
def xl:Int:=bif qI a b then ((Lp.res ao (lk a b)).2).1else(-1:Int)
def FD:List avP:=bif qI a b then a else a
def FE:List avP:=bif qI a b then b else b
def xm:Bool:=allT [Lp.fin ao (lk a b)]
end
def Fl:awh
 | [.one ⟨false,[.ref 0]⟩,.one ⟨false,[.clo 158 [1]]⟩],[.row true 9 (.str) a,.box 40 [.ref 2],.row true 9 (.str) b]=>some ⟨aBC (xl a b),[aBJ (FD a b),.box 40 [.ref 2],aBJ (FE a b)],[],[xm a b]⟩
 |_,_=>none
def wS:PF prog:=PF.ofG prog (T3z [eB]) [ao.F] aT 188 f188 func188 (LOk.fnT (l:= [bj f188 0]) (by kernel_rfl) (.cons Nu (.nil _))) Fl (by
 intro _ _ _ h;unfold Fl at h;split at h<;>cases h;kernel_rfl)
section
variable (a b:List avP)
def eJ:Bool:=leI 0 (xl a b)
def dI:List avP:=FD a b
def oD:List avP:=FE a b
def oE:Bool:=allT [xm a b]
end
def Dr:awh
 | [.one ⟨false,[.ref 0]⟩,.one ⟨false,[.clo 158 [1]]⟩],[.row true 9 (.str) a,.box 40 [.ref 2],.row true 9 (.str) b]=>some ⟨aBB (.val (.bool (eJ a b))),[aBJ (dI a b),.box 40 [.ref 2],aBJ (oD a b)],[],[oE a b]⟩
 |_,_=>none
def fP:PF prog:=PF.ofG prog (T3z [wS]) [] aT 157 f157 func157 (fun c _=>LOk.nil c) Dr (by
 intro _ _ _ h;unfold Dr at h;split at h<;>cases h;kernel_rfl)
def qO(a:avP)(b:List avP):Bool:= !lM b a
def qP(a:List avP):Bool:=allT [leN a.length (9223372036854775807:Nat)]
def zc:awh
 | [.one ⟨false,[.val (.string a)]⟩,.one ⟨false,[.ptr 0 0]⟩],[.box 40 [.ref 1],.row true 9 (.str) b]=>some ⟨aBB (.val (.bool (qO a b))),[.box 40 [.ref 1],aBJ b],[],[qP b]⟩
 |_,_=>none
def eC:PF prog:=PF.ofG prog (T3z [aW]) [] aT 159 f159 func159 (fun c _=>LOk.nil c) zc (by
 intro _ _ _ h;unfold zc at h;split at h<;>cases h;kernel_rfl)
abbrev cg:=Int×Int×List avP×List avP
section
variable (a b:Int)(c d:List avP)
def kk:Bool:=ltI a b
def km:Bool:=leI 0 a
def kn:Bool:=ltI a (↑c.length:Int)
def ko:Bool:=ltN a.toNat c.length
def fS:Bool:=qP d
def kq:Bool:=qO (v5 c[k8 a]? ByteArray.empty) d
def oI:Int:=v6 .i64 (a + (1:Int))
end
def OM:cg→List (Nat×SV)
 |(a,b,_,_)=> [(8,(aBC a)),(7,(aBC b)),(1,(aBB (.clo 159 [0]))),(0,(aBB (.ref 1)))]
def OJ:cg→List (Nat×Entry)
 |(_,_,a,b)=> [(0,(.box 40 [.ref 2])),(1,(aBJ a)),(2,(aBJ b))]
def OS:Nat→cg→List (Nat×SV)
 |0,(a,_,_,_)=> [(4,(aBC a))]
 |_,_=>[]
def jD:cg→LT cg
 |(a,b,c,d)=> .ite (kk a b) (.need [km a,kn a c,ko a c,fS d] (.ite (kq a c d) (.ext 0 [(0,0),(1,1),(2,2)]) (.nrm ((oI a),b,c,d) [(0,0),(1,1),(2,2)]))) (.ext 1 [(0,0),(1,1),(2,2)])
def uo(s:St):Option cg:=do
 let some ⟨none,.one ⟨false,[.val (.int .i64 a)]⟩⟩:=s.look 8|none
 let some ⟨none,.one ⟨false,[.val (.int .i64 b)]⟩⟩:=s.look 7|none
 let some ⟨none,.one ⟨false,[.clo 159 [1]]⟩⟩:=s.look 1|none
 let some ⟨none,.one ⟨false,[.ref 0]⟩⟩:=s.look 0|none
 let some (.box 40 [.ref 2]):=s.ent 1|none
 let some (.row true 9 (.str) c):=s.ent 0|none
 let some (.row true 9 (.str) d):=s.ent 2|none
 some (a,b,c,d)
def ap:Lp cg where
 h:=⟨[9,10,5,11,12,13,14,15,16,17,4,18,8],[0,1,2],[],[]⟩
 JL:=OM
 JE:=OJ
 XL:=OS
 XE:=fun _=>OJ
 q:=fun j=>match j with | 0=> .ret | _=> .exit 0
 tags:= [0,1]
 lt:=jD
 fuel:=fun(a,b,c,d)=>a.natAbs + b.natAbs + c.length + d.length
 fix:=fun(_,b,c,d) (a,_,_,_)=>(a,b,c,d)
 σ:= [(0,1),(1,0),(2,2)]
 rd:=uo
theorem Nv:LoopOk prog (fun k=>Nat.blt k Tryz.f188.ntmps) ap.F (bj f188 0):=by
 refine Lp.ok (tbl:= (T3z [eC])) (lf:= []) aT ap (by kernel_rfl) (LOk.nil _) (fun _=>rfl) (fun j _=>by unfold ap;match j with | 0=>rfl | _ + 1=>rfl) ?_ ?_ ?_ ?_ (fun _=>rfl) ?_
 ·intro _;kernel_rfl
 ·intro _;kernel_rfl
 ·intro s x h
  have h:uo s=some x:=h
  unfold uo at h
  repeat' split at h
  all_goals cases h
  constructor<;>repeat(first|refine ab ‹_› rfl ?_|refine aa rfl ‹_› rfl ?_|rfl)
 ·intro _;kernel_rfl
 ·intro _ _;exact(And.intro (And.intro trivial rfl) trivial)
section
variable (a b:List avP)
def lm:Int×Int×List avP×List avP:=((0:Int),(↑a.length:Int),a,b)
def qJ:Bool:=Nat.beq ((Lp.res ap (lm a b)).1) 0
def xo:Int:=bif qJ a b then ((Lp.res ap (lm a b)).2).1else(-1:Int)
def FF:List avP:=bif qJ a b then a else a
def FG:List avP:=bif qJ a b then b else b
def xt:Bool:=allT [Lp.fin ap (lm a b)]
end
def Fm:awh
 | [.one ⟨false,[.ref 0]⟩,.one ⟨false,[.clo 159 [1]]⟩],[.row true 9 (.str) a,.box 40 [.ref 2],.row true 9 (.str) b]=>some ⟨aBC (xo a b),[aBJ (FF a b),.box 40 [.ref 2],aBJ (FG a b)],[],[xt a b]⟩
 |_,_=>none
def wT:PF prog:=PF.ofG prog (T3z [eC]) [ap.F] aT 188 f188 func188 (LOk.fnT (l:= [bj f188 0]) (by kernel_rfl) (.cons Nv (.nil _))) Fm (by
 intro _ _ _ h;unfold Fm at h;split at h<;>cases h;kernel_rfl)
section
variable (a b:List avP)
def oF:Bool:=leI 0 (xo a b)
def Dz:List avP:=FF a b
def DA:List avP:=FG a b
def oG:Bool:=allT [xt a b]
end
def Ds:awh
 | [.one ⟨false,[.ref 0]⟩,.one ⟨false,[.clo 159 [1]]⟩],[.row true 9 (.str) a,.box 40 [.ref 2],.row true 9 (.str) b]=>some ⟨aBB (.val (.bool (oF a b))),[aBJ (Dz a b),.box 40 [.ref 2],aBJ (DA a b)],[],[oG a b]⟩
 |_,_=>none
def fQ:PF prog:=PF.ofG prog (T3z [wT]) [] aT 157 f157 func157 (fun c _=>LOk.nil c) Ds (by
 intro _ _ _ h;unfold Ds at h;split at h<;>cases h;kernel_rfl)
section
variable (a:Int)(b:avP)(c d:List avP)
def me:Bool:=bif a==1 then !lM c b else false
def gS:Bool:=bif me a b c then !lM d b else false
def nb:Bool:=allT [!(a==1&&true)||leN c.length (9223372036854775807:Nat),!(me a b c&&true)||leN d.length (9223372036854775807:Nat)]
end
def ux:awh
 | [.one ⟨true,[.val (.int .i64 a),.val (.string b),.val (.int .i64 _x2)]⟩,.one ⟨false,[.ptr 0 0]⟩],[.box 43 [.val (.string c),.ref 1,.ref 2,.ref 3,.val (.string d),.ref 4],.row false 9 (.str) e,.row false 9 (.str) f,.row false 9 (.str) g,.row false 142 (.pair .str (.sl 122 (.pair (.int .i64) (.pair .str (.int .i64))))) i]=>some ⟨aBB (.val (.bool (gS a b e f))),[.box 43 [.val (.string c),.ref 1,.ref 2,.ref 3,.val (.string d),.ref 4],aBD e,aBD f,aBD g,aBI i],[],[nb a b e f]⟩
 |_,_=>none
def dv:PF prog:=PF.ofG prog (T3z [aW]) [] aT 189 f189 func189 (fun c _=>LOk.nil c) ux (by
 intro _ _ _ h;unfold ux at h;split at h<;>cases h;kernel_rfl)
abbrev cR:=Int×Int×avP×avP×List (Int×(avP×Int))×List avP×List avP×List avP×List (avP×(List (Int×(avP×Int))))
section
variable (a b:Int)(c:ajz)(d e:List avP)
def cH:Int×avP×Int:=v5 c[k8 a]? ((0:Int),ByteArray.empty,(0:Int))
def mO:Bool:=ltI a b
def sd:Bool:=leI 0 a
def se:Bool:=ltI a (↑c.length:Int)
def sf:Bool:=ltN a.toNat c.length
def mP:Bool:=nb ((cH a c).1) (((cH a c).2).1) d e
def mQ:Bool:=gS ((cH a c).1) (((cH a c).2).1) d e
def yz:Int:=v6 .i64 (a + (1:Int))
end
def SL:cR→List (Nat×SV)
 |(a,b,_,_,_,_,_,_,_)=> [(8,(aBC a)),(7,(aBC b)),(1,(aBB (.clo 189 [0]))),(0,(aBB (.ref 1)))]
def SF:cR→List (Nat×Entry)
 |(_,_,a,b,c,d,e,f,g)=> [(0,(.box 43 [.val (.string a),.ref 2,.ref 3,.ref 4,.val (.string b),.ref 5])),(1,(aBG c)),(2,(aBD d)),(3,(aBD e)),(4,(aBD f)),(5,(aBI g))]
def Tb:Nat→cR→List (Nat×SV)
 |0,(a,_,_,_,_,_,_,_,_)=> [(4,(aBC a))]
 |_,_=>[]
def lW:cR→LT cR
 |(a,b,c,d,e,f,g,i,j)=> .ite (mO a b) (.need [sd a,se a e,sf a e,mP a e f g] (.ite (mQ a e f g) (.ext 0 [(0,0),(1,1),(2,2),(3,3),(4,4),(5,5)]) (.nrm ((yz a),b,c,d,e,f,g,i,j) [(0,0),(1,1),(2,2),(3,3),(4,4),(5,5)]))) (.ext 1 [(0,0),(1,1),(2,2),(3,3),(4,4),(5,5)])
def xh(s:St):Option cR:=do
 let some ⟨none,.one ⟨false,[.val (.int .i64 a)]⟩⟩:=s.look 8|none
 let some ⟨none,.one ⟨false,[.val (.int .i64 b)]⟩⟩:=s.look 7|none
 let some ⟨none,.one ⟨false,[.clo 189 [1]]⟩⟩:=s.look 1|none
 let some ⟨none,.one ⟨false,[.ref 0]⟩⟩:=s.look 0|none
 let some (.box 43 [.val (.string c),.ref 2,.ref 3,.ref 4,.val (.string d),.ref 5]):=s.ent 1|none
 let some (.row false 122 (.pair (.int .i64) (.pair .str (.int .i64))) e):=s.ent 0|none
 let some (.row false 9 (.str) f):=s.ent 2|none
 let some (.row false 9 (.str) g):=s.ent 3|none
 let some (.row false 9 (.str) i):=s.ent 4|none
 let some (.row false 142 (.pair .str (.sl 122 (.pair (.int .i64) (.pair .str (.int .i64))))) j):=s.ent 5|none
 some (a,b,c,d,e,f,g,i,j)
def aR:Lp cR where
 h:=⟨[9,10,5,11,12,13,14,15,16,17,4,18,8],[0,1,2,3,4,5],[],[]⟩
 JL:=SL
 JE:=SF
 XL:=Tb
 XE:=fun _=>SF
 q:=fun j=>match j with | 0=> .ret | _=> .exit 0
 tags:= [0,1]
 lt:=lW
 fuel:=fun(a,b,c,d,e,f,g,i,k)=>a.natAbs + b.natAbs + c.size + d.size + e.length + f.length + g.length + i.length + k.length
 fix:=fun(_,b,c,d,e,f,g,i,k) (a,_,_,_,_,_,_,_,_)=>(a,b,c,d,e,f,g,i,k)
 σ:= [(0,1),(1,0),(2,2),(3,3),(4,4),(5,5)]
 rd:=xh
theorem Rb:LoopOk prog (fun k=>Nat.blt k Tryz.f164.ntmps) aR.F (bj f164 0):=by
 refine Lp.ok (tbl:= (T3z [dv])) (lf:= []) aT aR (by kernel_rfl) (LOk.nil _) (fun _=>rfl) (fun j _=>by unfold aR;match j with | 0=>rfl | _ + 1=>rfl) ?_ ?_ ?_ ?_ (fun _=>rfl) ?_
 ·intro _;kernel_rfl
 ·intro _;kernel_rfl
 ·intro s x h
  have h:xh s=some x:=h
  unfold xh at h
  repeat' split at h
  all_goals cases h
  constructor<;>repeat(first|refine ab ‹_› rfl ?_|refine aa rfl ‹_› rfl ?_|rfl)
 ·intro _;kernel_rfl
 ·intro _ _;exact(And.intro (And.intro trivial rfl) trivial)
section
variable (a:alv)(b c:avP)(d e f:List avP)(g:afZ)
def nU:Int×Int×avP×avP×alv×List avP×List avP×List avP×afZ:=((0:Int),(↑a.length:Int),b,c,a,d,e,f,g)
def tA:Bool:=Nat.beq ((Lp.res aR (nU a b c d e f g)).1) 0
def Bi:Int:=bif tA a b c d e f g then ((Lp.res aR (nU a b c d e f g)).2).1else(-1:Int)
def Jj:avP:=bif tA a b c d e f g then b else b
def Jk:avP:=bif tA a b c d e f g then c else c
def Bj:Bool:=allT [Lp.fin aR (nU a b c d e f g)]
end
def Il:awh
 | [.one ⟨false,[.ref 0]⟩,.one ⟨false,[.clo 189 [1]]⟩],[.row false 122 (.pair (.int .i64) (.pair .str (.int .i64))) a,.box 43 [.val (.string b),.ref 2,.ref 3,.ref 4,.val (.string c),.ref 5],.row false 9 (.str) d,.row false 9 (.str) e,.row false 9 (.str) f,.row false 142 (.pair .str (.sl 122 (.pair (.int .i64) (.pair .str (.int .i64))))) g]=>some ⟨aBC (Bi a b c d e f g),[aBG a,.box 43 [.val (.string (Jj a b c d e f g)),.ref 2,.ref 3,.ref 4,.val (.string (Jk a b c d e f g)),.ref 5],aBD d,aBD e,aBD f,aBI g],[],[Bj a b c d e f g]⟩
 |_,_=>none
def AZ:PF prog:=PF.ofG prog (T3z [dv]) [aR.F] aT 164 f164 func164 (LOk.fnT (l:= [bj f164 0]) (by kernel_rfl) (.cons Rb (.nil _))) Il (by
 intro _ _ _ h;unfold Il at h;split at h<;>cases h;kernel_rfl)
section
variable (a:alv)(b c:avP)(d e f:List avP)(g:afZ)
def yt:Bool:=leI 0 (Bi a b c d e f g)
def Uf:avP:=Jj a b c d e f g
def Ug:avP:=Jk a b c d e f g
def yu:Bool:=allT [Bj a b c d e f g]
end
def Gk:awh
 | [.one ⟨false,[.ref 0]⟩,.one ⟨false,[.clo 189 [1]]⟩],[.row false 122 (.pair (.int .i64) (.pair .str (.int .i64))) a,.box 43 [.val (.string b),.ref 2,.ref 3,.ref 4,.val (.string c),.ref 5],.row false 9 (.str) d,.row false 9 (.str) e,.row false 9 (.str) f,.row false 142 (.pair .str (.sl 122 (.pair (.int .i64) (.pair .str (.int .i64))))) g]=>some ⟨aBB (.val (.bool (yt a b c d e f g))),[aBG a,.box 43 [.val (.string (Uf a b c d e f g)),.ref 2,.ref 3,.ref 4,.val (.string (Ug a b c d e f g)),.ref 5],aBD d,aBD e,aBD f,aBI g],[],[yu a b c d e f g]⟩
 |_,_=>none
def yf:PF prog:=PF.ofG prog (T3z [AZ]) [] aT 115 f115 func115 (fun c _=>LOk.nil c) Gk (by
 intro _ _ _ h;unfold Gk at h;split at h<;>cases h;kernel_rfl)
def fa(a b:avP)(c d e:List avP)(f:afZ)(g:alv):Bool:=yt g a b c d e f
def io(a b:avP)(c d e:List avP)(f:afZ)(g:alv):Bool:=allT [yu g a b c d e f]
def vU:awh
 | [.one ⟨true,[.val (.string a),.ref 0,.ref 1,.ref 2,.val (.string b),.ref 3]⟩,.one ⟨true,[.val (.string _x2),.ref 4]⟩],[.row false 9 (.str) c,.row false 9 (.str) d,.row false 9 (.str) e,.row false 142 (.pair .str (.sl 122 (.pair (.int .i64) (.pair .str (.int .i64))))) f,.row false 122 (.pair (.int .i64) (.pair .str (.int .i64))) g]=>some ⟨aBB (.val (.bool (fa a b c d e f g))),[aBD c,aBD d,aBD e,aBI f,aBG g],[],[io a b c d e f g]⟩
 |_,_=>none
def dL:PF prog:=PF.ofG prog (T3z [yf]) [] aT 160 f160 func160 (fun c _=>LOk.nil c) vU (by
 intro _ _ _ h;unfold vU at h;split at h<;>cases h;kernel_rfl)
abbrev cP:=Int×Int×avP×avP×List avP×List avP×List avP×List (avP×(List (Int×(avP×Int))))
section
variable (a b:Int)(c d:avP)(e f g:List avP)(i:afa)
def ep:alv:=(v5 i[k8 a]? (xS aa8)).2
def mF:Bool:=ltI a b
def sa:Bool:=leI 0 a
def sb:Bool:=ltI a (↑i.length:Int)
def sc:Bool:=ltN a.toNat i.length
def mG:Bool:=io c d e f g i (ep a i)
def mH:Bool:=fa c d e f g i (ep a i)
def yy:Int:=v6 .i64 (a + (1:Int))
end
def SI:cP→List (Nat×SV)
 |(a,b,c,d,_,_,_,_)=> [(8,(aBC a)),(7,(aBC b)),(1,(aBB (.bnd 160 [(0,some (.string c)),(0,none),(1,none),(2,none),(0,some (.string d)),(3,none)]))),(0,(aBB (.ref 3)))]
def SC:cP→List (Nat×Entry)
 |(_,_,_,_,a,b,c,d)=> [(0,(aBD a)),(1,(aBD b)),(2,(aBD c)),(3,(aBI d))]
def SY:Nat→cP→List (Nat×SV)
 |0,(a,_,_,_,_,_,_,_)=> [(4,(aBC a))]
 |_,_=>[]
def lU:cP→LT cP
 |(a,b,c,d,e,f,g,i)=> .ite (mF a b) (.need [sa a,sb a i,sc a i,mG a c d e f g i] (.ite (mH a c d e f g i) (.ext 0 [(0,0),(1,1),(2,2),(3,3)]) (.nrm ((yy a),b,c,d,e,f,g,i) [(0,0),(1,1),(2,2),(3,3)]))) (.ext 1 [(0,0),(1,1),(2,2),(3,3)])
def xc(s:St):Option cP:=do
 let some ⟨none,.one ⟨false,[.val (.int .i64 a)]⟩⟩:=s.look 8|none
 let some ⟨none,.one ⟨false,[.val (.int .i64 b)]⟩⟩:=s.look 7|none
 let some ⟨none,.one ⟨false,[.bnd 160 [(0,some (.string c)),(1,none),(2,none),(3,none),(0,some (.string d)),(0,none)]]⟩⟩:=s.look 1|none
 let some ⟨none,.one ⟨false,[.ref 0]⟩⟩:=s.look 0|none
 let some (.row false 9 (.str) e):=s.ent 1|none
 let some (.row false 9 (.str) f):=s.ent 2|none
 let some (.row false 9 (.str) g):=s.ent 3|none
 let some (.row false 142 (.pair .str (.sl 122 (.pair (.int .i64) (.pair .str (.int .i64))))) i):=s.ent 0|none
 some (a,b,c,d,e,f,g,i)
def aP:Lp cP where
 h:=⟨[9,10,5,11,12,13,14,15,16,17,4,18,8],[0,1,2,3],[],[]⟩
 JL:=SI
 JE:=SC
 XL:=SY
 XE:=fun _=>SC
 q:=fun j=>match j with | 0=> .ret | _=> .exit 0
 tags:= [0,1]
 lt:=lU
 fuel:=fun(a,b,c,d,e,f,g,i)=>a.natAbs + b.natAbs + c.size + d.size + e.length + f.length + g.length + i.length
 fix:=fun(_,b,c,d,e,f,g,i) (a,_,_,_,_,_,_,_)=>(a,b,c,d,e,f,g,i)
 σ:= [(0,1),(1,2),(2,3),(3,0)]
 rd:=xc
theorem QY:LoopOk prog (fun k=>Nat.blt k Tryz.f186.ntmps) aP.F (bj f186 0):=by
 refine Lp.ok (tbl:= (T3z [dL])) (lf:= []) aT aP (by kernel_rfl) (LOk.nil _) (fun _=>rfl) (fun j _=>by unfold aP;match j with | 0=>rfl | _ + 1=>rfl) ?_ ?_ ?_ ?_ (fun _=>rfl) ?_
 ·intro _;kernel_rfl
 ·intro _;kernel_rfl
 ·intro s x h
  have h:xc s=some x:=h
  unfold xc at h
  repeat' split at h
  all_goals cases h
  constructor<;>repeat(first|refine ab ‹_› rfl ?_|refine aa rfl ‹_› rfl ?_|rfl)
 ·intro _;kernel_rfl
 ·intro _ _;exact(And.intro (And.intro trivial rfl) trivial)
section
variable (a b:avP)(c:afZ)(d e f:List avP)
def nT:Int×Int×avP×avP×List avP×List avP×List avP×afZ:=((0:Int),(↑c.length:Int),a,b,d,e,f,c)
def Be:Int:=bif Nat.beq ((Lp.res aP (nT a b c d e f)).1) 0 then ((Lp.res aP (nT a b c d e f)).2).1else(-1:Int)
def Bf:Bool:=allT [Lp.fin aP (nT a b c d e f)]
end
def Ii:awh
 | [.one ⟨false,[.ref 0]⟩,.one ⟨false,[.bnd 160 [(0,some (.string a)),(1,none),(2,none),(3,none),(0,some (.string b)),(0,none)]]⟩],[.row false 142 (.pair .str (.sl 122 (.pair (.int .i64) (.pair .str (.int .i64))))) c,.row false 9 (.str) d,.row false 9 (.str) e,.row false 9 (.str) f]=>some ⟨aBC (Be a b c d e f),[aBI c,aBD d,aBD e,aBD f],[],[Bf a b c d e f]⟩
 |_,_=>none
def AW:PF prog:=PF.ofG prog (T3z [dL]) [aP.F] aT 186 f186 func186 (LOk.fnT (l:= [bj f186 0]) (by kernel_rfl) (.cons QY (.nil _))) Ii (by
 intro _ _ _ h;unfold Ii at h;split at h<;>cases h;kernel_rfl)
def rR(a b:avP)(c:afZ)(d e f:List avP):Bool:=leI 0 (Be a b c d e f)
def rS(a b:avP)(c:afZ)(d e f:List avP):Bool:=allT [Bf a b c d e f]
def Gh:awh
 | [.one ⟨false,[.ref 0]⟩,.one ⟨false,[.bnd 160 [(0,some (.string a)),(1,none),(2,none),(3,none),(0,some (.string b)),(0,none)]]⟩],[.row false 142 (.pair .str (.sl 122 (.pair (.int .i64) (.pair .str (.int .i64))))) c,.row false 9 (.str) d,.row false 9 (.str) e,.row false 9 (.str) f]=>some ⟨aBB (.val (.bool (rR a b c d e f))),[aBI c,aBD d,aBD e,aBD f],[],[rS a b c d e f]⟩
 |_,_=>none
def iW:PF prog:=PF.ofG prog (T3z [AW]) [] aT 151 f151 func151 (fun c _=>LOk.nil c) Gh (by
 intro _ _ _ h;unfold Gh at h;split at h<;>cases h;kernel_rfl)
abbrev bO:=Int×Int×List (avP×(List (Int×(avP×Int))))×List avP
section
variable (a b:Int)(c:afa)(d:List avP)
def ck:List avP:= [(v5 c[k8 a]? (xS aa8)).1]
def iC:Bool:=ltI a b
def iD:Bool:=leI 0 a
def iE:Bool:=ltI a (↑c.length:Int)
def iF:Bool:=ltN a.toNat c.length
def iG:Bool:=leN (k9 d + k9 (ck a c)) 9223372036854775807
def iH:Bool:=leN ((k9 d + k9 (ck a c)) * 16) 140737488355328
def iI:Int:=v6 .i64 (a + (1:Int))
def iJ:List avP:=d++ck a c
end
def MM:bO→List (Nat×SV)
 |(a,b,_,_)=> [(10,(aBC a)),(9,(aBC b)),(8,(aBB (.ref 0))),(3,(aBB (.ptr 1 0)))]
def MK:bO→List (Nat×Entry)
 |(_,_,a,b)=> [(0,(aBI a)),(1,(.box 40 [.ref 2])),(2,(aBJ b))]
def MR:Nat→bO→List (Nat×SV)
 |_,_=>[]
def ik:bO→LT bO
 |(a,b,c,d)=> .ite (iC a b) (.need [iD a,iE a c,iF a c] (.need [iG a c d,iH a c d] (.nrm ((iI a),b,c,(iJ a c d)) [(0,0),(1,1),(2,640)]))) (.ext 0 [(0,0),(1,1),(2,2)])
def th(s:St):Option bO:=do
 let some ⟨none,.one ⟨false,[.val (.int .i64 a)]⟩⟩:=s.look 10|none
 let some ⟨none,.one ⟨false,[.val (.int .i64 b)]⟩⟩:=s.look 9|none
 let some ⟨none,.one ⟨false,[.ref 3]⟩⟩:=s.look 8|none
 let some ⟨none,.one ⟨false,[.ptr 448 0]⟩⟩:=s.look 3|none
 let some (.row false 142 (.pair .str (.sl 122 (.pair (.int .i64) (.pair .str (.int .i64))))) c):=s.ent 3|none
 let some (.box 40 [.ref 449]):=s.ent 448|none
 let some (.row true 9 (.str) d):=s.ent 449|none
 some (a,b,c,d)
def aq:Lp bO where
 h:=⟨[11,12,13,5,14,15,16,17,18,19,10],[0,1],[2],[]⟩
 JL:=MM
 JE:=MK
 XL:=MR
 XE:=fun _=>MK
 q:=fun j=>match j with | _=> .exit 0
 tags:= [0]
 lt:=ik
 fuel:=fun(a,b,c,d)=>a.natAbs + b.natAbs + c.length + d.length
 fix:=fun(_,b,c,_) (a,_,_,d)=>(a,b,c,d)
 σ:= [(0,3),(1,448),(2,449)]
 rd:=th
theorem LD:LoopOk prog (fun k=>Nat.blt k Tryz.f110.ntmps) aq.F (bj f110 0):=by
 refine Lp.ok (tbl:= (T3z [dH,Kp,gD,aW,eP,fP,fQ,iW])) (lf:= []) aT aq (by kernel_rfl) (LOk.nil _) (fun _=>rfl) (fun _ _=>rfl) ?_ ?_ ?_ ?_ (fun _=>rfl) ?_
 ·intro _;kernel_rfl
 ·intro _;kernel_rfl
 ·intro s x h
  have h:th s=some x:=h
  unfold th at h
  repeat' split at h
  all_goals cases h
  constructor<;>repeat(first|refine ab ‹_› rfl ?_|refine aa rfl ‹_› rfl ?_|rfl)
 ·intro _;kernel_rfl
 ·intro _ _;exact(And.intro rfl trivial)
def ox(a:avP):Bool:=
 !ByteArray.toList a==ByteArray.toList { data:= #[] }
section
variable (a b:avP)(c d e:List avP)(f:afZ)
def fM:Bool:=bif bif ox b then !lM c b else false then !lM d b else false
def oy:Int×Int×afZ×List avP:=((0:Int),(↑f.length:Int),f,[])
def ax:List avP:=(Lp.res aq (oy f)).2.2.2.2
def ay:List avP:=List.flatten [d,e]
def oz:Bool:=oF (oD (ax f) (ay d e)) (dI (ax f) (ay d e))
def pt:Int:=bif xO (bN c d e)then(1:Int)else bif fM b c d then(2:Int)else bif eJ (ax f) (ay d e)then(3:Int)else bif xO (dI (ax f) (ay d e))then(4:Int)else bif oz d e f then(5:Int)else bif rR a b f c d e then(6:Int)else(0:Int)
def pu:Bool:=allT [Lp.fin aq (oy f),leN (k9 [d,e]) (1000:Nat)&&leN (Qo [d,e]) 2000000,pv c d e,leN (k9 (bN c d e)) 9223372036854775807,xO (bN c d e)||(!(ox b&&true)||leN c.length (9223372036854775807:Nat)),xO (bN c d e)||(!((bif ox b then !lM c b else false)&&true)||leN d.length (9223372036854775807:Nat)),xO (bN c d e)||(fM b c d||oE (ax f) (ay d e)),xO (bN c d e)||(fM b c d||(eJ (ax f) (ay d e)||leN (k9 (dI (ax f) (ay d e))) 9223372036854775807)),xO (bN c d e)||(fM b c d||(eJ (ax f) (ay d e)||(xO (dI (ax f) (ay d e))||oG (oD (ax f) (ay d e)) (dI (ax f) (ay d e))))),xO (bN c d e)||(fM b c d||(eJ (ax f) (ay d e)||(xO (dI (ax f) (ay d e))||(oz d e f||rS a b f c d e))))]
end
def DH:awh
 | [.one ⟨true,[.val (.string a),.ref 0,.ref 1,.ref 2,.val (.string b),.ref 3]⟩],[.row false 9 (.str) c,.row false 9 (.str) d,.row false 9 (.str) e,.row false 142 (.pair (.str) (.sl 122 (.pair (.int .i64) (.pair (.str) (.int .i64))))) f]=>some ⟨aBC (pt a b c d e f),[aBD c,aBD d,aBD e,aBH f],[],[pu a b c d e f]⟩
 |_,_=>none
def vE:PF prog:=PF.ofG prog (T3z [dH,Kp,gD,aW,eP,fP,fQ,iW]) [aq.F] aT 110 f110 func110 (LOk.fnT (l:= [bj f110 0]) (by kernel_rfl) (.cons LD (.nil _))) DH (by
 intro _ _ _ h;unfold DH at h;split at h<;>cases h;kernel_rfl)
def acF(a b:avP)(c d e:List avP)(f:afZ):Bool:=bif MZ a b c d e f then pt a b c d e f==0 else false
def acG(a b:avP)(c d e:List avP)(f:afZ):Bool:=allT [TR a b c d e f,!(MZ a b c d e f&&true)||pu a b c d e f]
def aiy:awh
 | [.one ⟨true,[.val (.string a),.ref 0,.ref 1,.ref 2,.val (.string b),.ref 3]⟩],[.row false 9 (.str) c,.row false 9 (.str) d,.row false 9 (.str) e,.row false 142 (.pair (.str) (.sl 122 (.pair (.int .i64) (.pair (.str) (.int .i64))))) f]=>some ⟨aBB (.val (.bool (acF a b c d e f))),[aBD c,aBD d,aBD e,aBH f],[],[acG a b c d e f]⟩
 |_,_=>none
def arG:PF prog:=PF.ofG prog (T3z [ZM,vE]) [] aT 63 f63 func63 (fun c _=>LOk.nil c) aiy (by
 intro _ _ _ h;unfold aiy at h;split at h<;>cases h;kernel_rfl)
theorem au9{ins vs os:List avP}(h1:Zx ins=true)(h2:Zx vs=true)(h3:Zx os=true):
  leN ins.length 9223372036854775807=true∧leN vs.length 9223372036854775807=true∧leN os.length 9223372036854775807=true:=by
 simp only [Zx,q8]at h1 h2 h3
 exact⟨h1.1,h2.1,h3.1⟩
def Uc(nm:avP)(ins vs os:List avP)(g:avP)(ls:List LN):Bool:=leN nm.size 9223372036854775807&&(Zx ins&&(Zx vs&&(Zx os&&(leN g.size 9223372036854775807&&(leN (ins.length + vs.length + os.length) 2000000&&Xc ls)))))
theorem Qg{nm:avP}{ins vs os:List avP}{g:avP}{ls:List LN}:Uc nm ins vs os g ls=true↔
  nm.size≤9223372036854775807∧Zx ins=true∧Zx vs=true∧Zx os=true∧g.size≤9223372036854775807∧ins.length + vs.length + os.length≤2000000∧Xc ls=true:=by
 simp only [Uc,q8,gR]
def zo(b:avP×(ajz)):(Unit)→Nat ⊕ (Unit)
 |_=>(bif(bif(!rl b.1)then true else !anT (bif !(!rl b.1)&&true then b.2else []))then(.inl 0)else(.inr ()))
def xN(a b:avP)(c d e:List avP)(f:afa)(i:Nat):(Unit)→qg
 |_=>((i:Int),a,b,c,d,e,f)
def Tu:qg→Unit
 |(_,_,_,_,_,_,_)=>()
theorem ak5(c e:avP)(f g j:List avP)(k:afa) (hn:k.length≤9223372036854775807) (hA: ∀ l∈k,l.1.size≤9223372036854775807∧abX l.2=true):
  gu.fin ((0:Int),c,e,f,g,j,k)=true∧gu.res ((0:Int),c,e,f,g,j,k)=((br (zo) 1 k 0 ()).1,(xN c e f g j k) (br (zo) 1 k 0 ()).2.1 (br (zo) 1 k 0 ()).2.2):=by
 have nQ:=gu.along (xN c e f g j k) Tu (zo) 1 (fun _ _=>True) k () (by trivial) (by simp only [gu,xN];omega) (fun i b a hb hI=> ?_) (fun a hI=> ?_)
 ·exact nQ
 ·obtain⟨⟩:=a
  have fC:=(k7.1 hb).1
  have lP: ∀ d,v5 k[i]? d=b:=fun d=>by rw [hb];rfl
  have hw:=Bm fC hn
  have fB:ltI (i:Int) (k.length:Int)=true:=dw (by omega)
  have Ly:leI (0:Int) (i:Int)=true:=bk (by omega)
  have sO:ltN i k.length=true:=eD fC
  refine⟨?_,?_,?_,?_⟩
  ·have hg2:rh (i:Int) k=b:=by simp only [rh,q9];exact lP _
   have hm:=hA b (List.mem_of_getElem? hb)
   obtain⟨q1,q2⟩:=Xj b.1 hm.1
   have e0:BG (i:Int) k=true:=fB
   have e1:BH (i:Int) k=true:=by simp only [BH,q9];exact sO
   have e3:lX (i:Int) k= !rx b.1:=by simp only [lX,hg2,q1]
   have e4:xu (i:Int) k=bif rx b.1 then b.2 else []:=by simp only [xu,e3,hg2];cases rx b.1 <;> rfl
   have h7:abX b.2=true:=hm.2
   have h8:abX []=true:=rfl
   simp only [Df,Mp,Mq,Mr,Mt,Mu,Mv,Mw,Hn,Mx,Fx,gu,LT.nds,allT,xN,e0,e1,e3,e4,hg2,q2,Ly,cond_true,j8]
   cases rx b.1 <;> simp [LT.nds,h7,h8]
  ·simp [BG,BH,rh,lX,xu,Df,Mp,Mq,Mr,Mt,Mu,Mv,Mw,Hn,Mx,Fx,gu,LT.each,xN,Tu,hw]
  ·have hg2:rh (i:Int) k=b:=by simp only [rh,q9];exact lP _
   have e0:BG (i:Int) k=true:=fB
   simp only [gu,Fx,Df,Hn,lX,xu,LT.fn,xN,Tu,zo,e0,hg2,cond_true]
  ·exact fun _ _=>trivial
 ·obtain⟨⟩:=a
  simp [BG,BH,rh,lX,xu,Df,Mp,Mq,Mr,Mt,Mu,Mv,Mw,Hn,Mx,Fx,gu,LT.out,xN]
theorem ar4(nm:avP)(ins vs os:List avP)(g:avP)(ls:List LN)(h:Uc nm ins vs os g ls=true):
  NE nm g ins vs os ls=ap5 nm ins vs os g ls∧Up nm g ins vs os ls=true:=by
 obtain⟨h1,h2,h3,h4,h5,h6,h7⟩:=Qg.1 h
 obtain⟨hn,hA⟩:=Xd.1 h7
 obtain⟨w1,w2⟩:=ak5 nm g ins vs os ls (by omega) hA
 have e0:(br zo 1 ls 0 ())=(br (fun(k:LN) (_:Unit)=>bif !lineB k then(.inl 0:Nat ⊕ Unit)else .inr ()) 1 ls 0 ()):=by
  refine aeU fun b hb a=> ?_
  simp only [zo,(Xj b.1 (hA b hb).1).1,lineB]
  cases rx b.1 <;> simp
 rw [e0,lN (P:=fun k=> !lineB k) (j:=0) (fun k=>rfl)]at w2
 have e5:(ls.any fun k=> !lineB k)= !ls.all lineB:=by simp [List.all_eq_not_any_not]
 rw [e5]at w2
 obtain⟨q1,q2⟩:=Xj nm h1
 obtain⟨q3,q4⟩:=Xj g h5
 have c1:inR (ins.length:Int) 1 20=inR (ins.length:Int) ((1:Nat):Int) 20:=rfl
 have c0:inR (vs.length:Int) 0 20=inR (vs.length:Int) ((0:Nat):Int) 20:=rfl
 have c2:inR (os.length:Int) 1 20=inR (os.length:Int) ((1:Nat):Int) 20:=rfl
 refine⟨?_,?_⟩
 ·simp only [NE,Yn,Yo,Yp,Yq,Yr,RU,w2,q1,q3,aw,QU,Ua,ap5,ao6,c0,c1,c2]
  generalize rx nm=p1
  generalize ins.all rx=p2
  generalize inR (ins.length:Int) ((1:Nat):Int) 20=p3
  generalize vs.all rx=p4
  generalize inR (vs.length:Int) ((0:Nat):Int) 20=p5
  generalize os.all rx=p6
  generalize inR (os.length:Int) ((1:Nat):Int) 20=p7
  generalize (g.toList== [])=p8
  generalize rx g=p9
  generalize ls.all lineB=p10
  generalize inR (ls.length:Int) 1 40=p11
  cases p1 <;> cases p2 <;> cases p3 <;> simp <;> cases p4 <;> cases p5 <;> simp <;> cases p6 <;> cases p7 <;> simp <;> cases p8 <;> cases p9 <;> simp <;> cases p10 <;> simp [Nat.beq]
 ·simp only [Up,RU,w1,q2,q4,h2,h3,h4,allT,j8,cond_true]
theorem Zj:(∀ m:Nat,leI 0 (m:Int)=true)∧leI 0 (-1)=false:=⟨fun m=>bk (by omega),rfl⟩
theorem aeg{α:Type}(l:List α)(p:α→Bool):(l.any fun k=> !p k)= !l.all p:=by simp [List.all_eq_not_any_not]
def iS(b:avP×(ajz)):(Unit)→Nat ⊕ (Unit)
 |_=>(bif(dY b.2)then(.inl 0)else(.inr ()))
def eq(a:afa)(i:Nat):(Unit)→cM
 |_=>((i:Int),(↑a.length:Int),a)
def wU:cM→Unit
 |(_,_,_)=>()
theorem Ux(c:afa) (hn:c.length≤9223372036854775807):
  aN.fin ((0:Int),(↑c.length:Int),c)=true∧aN.res ((0:Int),(↑c.length:Int),c)=((br (iS) 1 c 0 ()).1,(eq c) (br (iS) 1 c 0 ()).2.1 (br (iS) 1 c 0 ()).2.2):=by
 have nQ:=aN.along (eq c) wU (iS) 1 (fun _ _=>True) c () (by trivial) (by simp only [aN,eq];omega) (fun i b a hb hI=> ?_) (fun a hI=> ?_)
 ·exact nQ
 ·obtain⟨⟩:=a
  have fC:=(k7.1 hb).1
  have lP: ∀ d,v5 c[i]? d=b:=fun d=>by rw [hb];rfl
  have hw:=Bm fC hn
  have fB:ltI (i:Int) (c.length:Int)=true:=dw (by omega)
  have Ly:leI (0:Int) (i:Int)=true:=bk (by omega)
  have sO:ltN i c.length=true:=eD fC
  refine⟨?_,?_,?_,?_⟩
  ·simp only [mB,rU,rV,rW,lS,aN,LT.nds,allT,eq,fB,Ly,sO,q9,cond_true,Bool.and_self]
   cases iX (i:Int) c <;> simp [LT.nds]
  ·simp [mB,rU,rV,rW,iX,yw,lS,aN,LT.each,eq,wU,hw]
  ·have hg2:iX (i:Int) c=dY b.2:=by
    simp only [iX,q9];exact congrArg (fun z:LN=>dY z.2) (lP _)
   simp only [mB,lS,aN,LT.fn,eq,wU,iS,fB,hg2,cond_true]
  ·exact fun _ _=>trivial
 ·obtain⟨⟩:=a
  simp [mB,rU,rV,rW,iX,yw,lS,aN,LT.out,eq]
theorem azc(ins vs os:List avP)(ls:List LN)(hn:ls.length≤1048576):
  nO ins vs os ls=(leN ins.length 20&&(leN vs.length 20&&(leN os.length 20&&(leN ls.length 40&&ls.all fun l=>leN l.2.length 40))))∧nP ins vs os ls=true:=by
 obtain⟨w1,w2⟩:=Ux ls (by omega)
 have hc: ∀ (k:Nat) (m:Nat),leI (m:Int) (k:Int)=leN m k:=fun k m=>by rw [Bool.eq_iff_iff,Gt,gR];omega
 have hc20: ∀ m:Nat,leI (m:Int) 20=leN m 20:=fun m=>hc 20 m
 have hc40: ∀ m:Nat,leI (m:Int) 40=leN m 40:=fun m=>hc 40 m
 rw [lN (P:=fun k=> !leN k.2.length 40) (j:=0) (fun k=>by
  simp only [iS,dY]
  have:ltI 40 (k.2.length:Int)= !leN k.2.length 40:=by rw [aet,hc40]
  rw [this]),aeg]at w2
 simp only [nO,nP,tH,yo,yp,Ba,Bb,tw,w1,w2,allT,eq,hc20,hc40,j8,cond_true]
 refine⟨?_,trivial⟩
 generalize (ls.all fun k=>leN k.2.length 40)=q
 cases leN ins.length 20 <;> cases leN vs.length 20 <;> cases leN os.length 20 <;> cases leN ls.length 40 <;> cases q <;> simp [Nat.beq,Zj.1,Zj.2]
def iT(b:avP×(ajz)):(Unit)→Nat ⊕ (Unit)
 |_=>(bif(Fe b.1 b.2)then(.inl 0)else(.inr ()))
def er(a:afa)(i:Nat):(Unit)→cO
 |_=>((i:Int),(↑a.length:Int),a)
def wV:cO→Unit
 |(_,_,_)=>()
theorem Uy(c:afa) (hn:c.length≤9223372036854775807) (hA: ∀ l∈c,abX l.2=true):
  aO.fin ((0:Int),(↑c.length:Int),c)=true∧aO.res ((0:Int),(↑c.length:Int),c)=((br (iT) 1 c 0 ()).1,(er c) (br (iT) 1 c 0 ()).2.1 (br (iT) 1 c 0 ()).2.2):=by
 have nQ:=aO.along (er c) wV (iT) 1 (fun _ _=>True) c () (by trivial) (by simp only [aO,er];omega) (fun i b a hb hI=> ?_) (fun a hI=> ?_)
 ·exact nQ
 ·obtain⟨⟩:=a
  have fC:=(k7.1 hb).1
  have lP: ∀ d,v5 c[i]? d=b:=fun d=>by rw [hb];rfl
  have hw:=Bm fC hn
  have fB:ltI (i:Int) (c.length:Int)=true:=dw (by omega)
  have Ly:leI (0:Int) (i:Int)=true:=bk (by omega)
  have sO:ltN i c.length=true:=eD fC
  refine⟨?_,?_,?_,?_⟩
  ·have hg2:dA (i:Int) c=b:=by simp only [dA,q9];exact lP _
   have hm:=hA b (List.mem_of_getElem? hb)
   have h4:mD (i:Int) c=true:=by simp only [mD,hg2,LA,hm,allT,cond_true]
   simp only [mC,rX,rY,rZ,lT,aO,LT.nds,allT,er,h4,fB,Ly,sO,q9,cond_true,Bool.and_self]
   cases mE (i:Int) c <;> simp [LT.nds]
  ·simp [dA,mC,rX,rY,rZ,mD,mE,yx,lT,aO,LT.each,er,wV,hw]
  ·have hg2:dA (i:Int) c=b:=by simp only [dA,q9];exact lP _
   simp only [mC,mE,lT,aO,LT.fn,er,wV,iT,fB,hg2,cond_true]
  ·exact fun _ _=>trivial
 ·obtain⟨⟩:=a
  simp [dA,mC,rX,rY,rZ,mD,mE,yx,lT,aO,LT.out,er]
theorem arj(nm:avP)(ins vs os:List avP)(g:avP)(ls:List LN)(h:Uc nm ins vs os g ls=true):
  MZ nm g ins vs os ls=ap5 nm ins vs os g ls∧TR nm g ins vs os ls=true:=by
 obtain⟨h1,h2,h3,h4,h5,h6,h7⟩:=Qg.1 h
 obtain⟨hn,hA⟩:=Xd.1 h7
 obtain⟨w1,w2⟩:=Uy ls (by omega) (fun l hl=>(hA l hl).2)
 rw [lN (P:=fun k=> !lineB k) (j:=0) (fun k=>by simp only [iT,Fe]),aeg]at w2
 obtain⟨s1,s2⟩:=azc ins vs os ls hn
 have t1:Qo [ins,vs,os]≤2000000:=by simp [Qo];omega
 have t2: [ins,vs,os].flatten.length≤2000000:=by simp;omega
 have hfl: [ins,vs,os].flatten.all rx=(ins.all rx&&(vs.all rx&&os.all rx)):=by simp [List.all_append,Bool.and_assoc]
 have hcont:rP ls= !ls.all lineB∧rQ ls=true:=by
  simp only [rP,rQ,Bc,Bd,tx,w1,w2,allT,er]
  cases ls.all lineB <;> simp [Nat.beq,Zj.1,Zj.2]
 refine⟨?_,?_⟩
 ·have hz: ∀ m k:Nat,inR (m:Int) 1 (k:Int)=(ltI 0 (m:Int)&&leN m k):=fun m k=>by
   rw [Bool.eq_iff_iff,ua,q8,ab7,gR];omega
  have hz0: ∀ m k:Nat,inR (m:Int) ((0:Nat):Int) (k:Int)=leN m k:=fun m k=>by
   rw [Bool.eq_iff_iff,ua,gR];omega
  have c1:inR (ins.length:Int) ((1:Nat):Int) 20=(ltI 0 (ins.length:Int)&&leN ins.length 20):=hz _ 20
  have c2:inR (os.length:Int) ((1:Nat):Int) 20=(ltI 0 (os.length:Int)&&leN os.length 20):=hz _ 20
  have c3:inR (ls.length:Int) 1 40=(ltI 0 (ls.length:Int)&&leN ls.length 40):=hz _ 40
  have c4:inR (vs.length:Int) ((0:Nat):Int) 20=leN vs.length 20:=hz0 _ 20
  have hl40:ls.all lineB=true→(ls.all fun l=>leN l.2.length 40)=true:=fun hl=>by
   rw [List.all_eq_true]at hl ⊢
   intro l hm
   exact bx (ab5 (hl l hm)).2.1
  simp only [MZ,KD,RR,XP,XQ,aek,s1,hcont.1,Ua,ap5,ao6,c1,c2,c3,c4]
  cases hq:ls.all lineB with
  |false=>simp
  |true=>
   rw [hl40 hq]
   cases rx nm with
   |false=>simp
   |true=>
    simp only [Bool.and_true,cond_true,hfl]
    generalize ins.all rx=p2
    generalize vs.all rx=p4
    generalize os.all rx=p6
    generalize (g.toList== [])=p8
    generalize rx g=p9
    generalize ltI 0 (ins.length:Int)=r1
    generalize ltI 0 (os.length:Int)=r2
    generalize ltI 0 (ls.length:Int)=r3
    generalize leN ins.length 20=r4
    generalize leN vs.length 20=r5
    generalize leN os.length 20=r6
    generalize leN ls.length 40=r7
    cases p2 <;> simp <;> cases p4 <;> simp <;> cases p6 <;> simp <;> cases r1 <;> simp <;> cases r2 <;> simp <;> cases r3 <;> simp <;> cases r4 <;> simp <;> cases r5 <;> simp <;> cases r6 <;> simp <;> cases r7 <;> simp <;> cases p8 <;> simp
 ·simp only [TR,KD,RR,s2,hcont.2,aek,allT,j8,cond_true]
  cases rx nm with
  |false=>simp
  |true=>
   have t4:leN [ins,vs,os].flatten.length 9223372036854775807=true:=bx (by omega)
   have t5:leN (Qo [ins,vs,os]) 2000000=true:=bx t1
   have t6:leN [ins,vs,os].length 1000=true:=rfl
   simp only [Bool.and_true,cond_true,t4,t5,t6,Bool.and_self,j8]
theorem ayL(l:List avP)(s:avP):ltI (eA l s) 0= !lM l s:=by rw [aet,Wd]
theorem apZ(s:avP)(ins vs:List avP)(h1:leN ins.length 9223372036854775807=true)(h2:leN vs.length 9223372036854775807=true):
  xI s ins vs=Tz ins vs s∧JH s ins vs=true:=by
 simp only [xI,JH,Wd,h1,h2,Tz,allT,j8,cond_true,and_true]
 cases lM ins s <;> rfl
def madeB(vs os:List avP)(l:LN):Bool:=lM vs l.1||lM os l.1
def rG(c d:List avP)(b:avP×(ajz)):(List avP)→Nat ⊕ (List avP)
 |a=>(bif(bif ltI (eA c b.1) 0 then ltI (eA d b.1) 0 else false)then(.inl 0)else(.inr (a++ [b.1])))
def vi(a b:avP)(d e f:List avP)(g:afa)(i:Nat):(List avP)→rD
 |c=>((i:Int),a,b,c,d,e,f,g)
def UQ:rD→List avP
 |(_,_,_,a,_,_,_,_)=>a
theorem ann(c e:avP)(g j k:List avP)(l:afa)(f:List avP)(hn:l.length≤9223372036854775807)(hv:leN j.length 9223372036854775807=true)(ho:leN k.length 9223372036854775807=true)(hN:l.length≤1048576)(h3:f.length=0):
  fg.fin ((0:Int),c,e,f,g,j,k,l)=true∧fg.res ((0:Int),c,e,f,g,j,k,l)=((br (rG j k) 1 l 0 f).1,(vi c e g j k l) (br (rG j k) 1 l 0 f).2.1 (br (rG j k) 1 l 0 f).2.2):=by
 have nQ:=fg.along (vi c e g j k l) UQ (rG j k) 1 (fun i a=>a.length=i) l f h3 (by simp only [fg,vi];omega) (fun i b a hb hI=> ?_) (fun a hI=> ?_)
 ·exact nQ
 ·obtain f:=a
  have fC:=(k7.1 hb).1
  have lP: ∀ d,v5 l[i]? d=b:=fun d=>by rw [hb];rfl
  have hw:=Bm fC hn
  have fB:ltI (i:Int) (l.length:Int)=true:=dw (by omega)
  have Ly:leI (0:Int) (i:Int)=true:=bk (by omega)
  have sO:ltN i l.length=true:=eD fC
  refine⟨?_,?_,?_,?_⟩
  ·have hg2:lr (i:Int) l=b.1:=by simp only [lr,q9];exact congrArg Prod.fst (lP _)
   have l1: ∀ s:avP,leN (a.length + k9 [s]) 9223372036854775807=true:=fun s=>bx (by rw [w5];omega)
   have l2: ∀ s:avP,leN ((a.length + k9 [s]) * 16) 140737488355328=true:=fun s=>bx (by rw [w5];omega)
   simp only [EL,Jr,Js,Jt,Ju,Jv,Jw,Jz,JA,JB,Hb,fg,LT.nds,allT,vi,fB,Ly,sO,hg2,hv,ho,l1,l2,q9,cond_true,j8,Bool.and_self]
   generalize (bif ltI (eA j b.1) 0 then ltI (eA k b.1) 0 else false)=q
   cases q <;> simp [LT.nds]
  ·simp [lr,EL,Jr,Js,Jt,Ju,Jv,Jw,Jz,JA,JB,Hb,fg,LT.each,vi,UQ,hw]
  ·have hg2:lr (i:Int) l=b.1:=by simp only [lr,q9];exact congrArg Prod.fst (lP _)
   simp only [EL,Jr,Js,Jt,Ju,Jv,Jw,Jz,JA,JB,Hb,fg,LT.fn,vi,UQ,rG,fB,hg2,cond_true]
  ·intro a' hf
   simp only [rG]at hf
   revert hf
   generalize (bif ltI (eA j b.1) 0 then ltI (eA k b.1) 0 else false)=q
   cases q with
   |true=>intro hf;cases hf
   |false=>intro hf;simp only [cond_false,Sum.inr.injEq]at hf;subst hf;simp [hI]
 ·obtain f:=a
  simp [lr,EL,Jr,Js,Jt,Ju,Jv,Jw,Jz,JA,JB,Hb,fg,LT.out,vi]
theorem aoB(vs os:List avP): ∀ (ls:List LN) (i:Nat) (acc:List avP),(br (rG vs os) 1 ls i acc).1=(bif !ls.all (madeB vs os)then 0 else 1)∧
  (ls.all (madeB vs os)=true→(br (rG vs os) 1 ls i acc).2.2=acc++ls.map Prod.fst)
 | [],i,acc=>by simp [br]
 |l::r,i,acc=>by
  have hf:rG vs os l acc=bif madeB vs os l then .inr (acc++ [l.1])else .inl 0:=by
   simp only [rG,ayL,madeB]
   cases lM vs l.1 <;> cases lM os l.1 <;> rfl
  obtain⟨h1,h2⟩:=aoB vs os r (i + 1) (acc++ [l.1])
  simp only [br,hf,List.all_cons]
  cases hm:madeB vs os l with
  |false=>simp
  |true=>
   simp only [cond_true,Bool.true_and]
   refine⟨h1,fun h=> ?_⟩
   rw [h2 h];simp
theorem awR(k:Nat)(u v:avP)(ins vs os:List avP)(ls:List LN)(l:LN)(hl:ls[k]? =some l)(hn:l.2.length≤1048576)(h1:leN ins.length 9223372036854775807=true)(h2:leN vs.length 9223372036854775807=true):
  fE.fin ((0:Int),(k:Int),u,v,ins,vs,os,ls)=true∧(fE.res ((0:Int),(k:Int),u,v,ins,vs,os,ls)).1=bif !l.2.all (usedB ins vs)then 0 else 1:=by
 have hkl:=(k7.1 hl).1
 have hgl: ∀ d,v5 ls[k]? d=l:=fun d=>by rw [hl];rfl
 have ha2:CZ (k:Int) ls=l.2:=by simp only [CZ,q9];exact congrArg Prod.snd (hgl _)
 have c0:Rv (k:Int)=true:=bk (by omega)
 have c1:Rw (k:Int) ls=true:=dw (by omega)
 have c2:JU (k:Int) ls=true:=by simp only [JU,q9];exact eD hkl
 have nQ:=fE.along2 (fun i (_:Unit)=>((i:Int),(k:Int),u,v,ins,vs,os,ls)) (fun _=>()) (fun(b:TM) (_:Unit)=>bif !usedB ins vs b then .inl 0 else .inr ()) 1 (fun _ _=>True) l.2 () trivial (by omega)
  (fun i b a hb hI=> ?_) (fun a hI=> ?_)
 ·rw [lN (P:=fun b=> !usedB ins vs b) (j:=0) (fun b=>rfl),aeg]at nQ
  exact⟨nQ.1,by rw [show ((0:Int),(k:Int),u,v,ins,vs,os,ls)=(((0:Nat):Int),(k:Int),u,v,ins,vs,os,ls) from rfl,nQ.2]⟩
 ·have fC:=(k7.1 hb).1
  have hw:IntKind.i64.wrap ((i:Int) + 1)=((i + 1:Nat):Int):=by rw [aM (by omega) (by omega)];omega
  have Ly:leI (0:Int) (i:Int)=true:=bk (by omega)
  have hg2:Da (i:Int) (k:Int) ls=b:=by simp only [Da,ha2,q9,hb,Option.getD_some]
  have hg3:As (i:Int) (k:Int) ls=true:=by simp only [As,ha2];exact dw (by omega)
  have c4:Zq (i:Int)=true:=Ly
  have c5:Rx (i:Int) (k:Int) ls=true:=by simp only [Rx,ha2,q9];exact eD fC
  obtain⟨r1,r2⟩:=apZ b.2.1 ins vs h1 h2
  have c6:Ry (i:Int) (k:Int) ins vs ls=true:=by simp only [Ry,hg2,r2,j8]
  have c7:Rz (i:Int) (k:Int) ins vs ls= !usedB ins vs b:=by
   simp only [Rz,PN,hg2,r1,usedB]
   cases b.1==1 <;> simp
  have c8:Zr (i:Int)=((i + 1:Nat):Int):=hw
  refine⟨?_,?_,?_,fun _ _=>trivial⟩
  ·simp only [fE,CC,LT.nds,allT,c0,c1,c2,c4,c5,c6,c7,hg3,cond_true,Bool.and_self]
   cases usedB ins vs b <;> simp [LT.nds]
  ·simp only [fE,CC,LT.each,c7,c8,hg3]
   cases usedB ins vs b <;> simp [LT.each]
  ·simp only [fE,CC,LT.fn,c7,hg3,cond_true]
 ·have fB:As (l.2.length:Int) (k:Int) ls=false:=by simp only [As,ha2];exact IZ (by omega)
  simp [fE,CC,LT.out,allT,c0,c1,c2,fB]
theorem azj(u v:avP)(ins vs os:List avP)(ls:List LN)(hN:ls.length≤1048576)(hL: ∀ l∈ls,l.2.length≤1048576)(h1:leN ins.length 9223372036854775807=true)(h2:leN vs.length 9223372036854775807=true):
  fX.fin ((0:Int),u,v,ins,vs,os,ls)=true∧(fX.res ((0:Int),u,v,ins,vs,os,ls)).1=bif !ls.all (fun l=>l.2.all (usedB ins vs))then 0 else 1:=by
 have nQ:=fX.along2 (fun i (_:Unit)=>((i:Int),u,v,ins,vs,os,ls)) (fun _=>()) (fun(b:LN) (_:Unit)=>bif !b.2.all (usedB ins vs)then .inl 0 else .inr ()) 1 (fun _ _=>True) ls () trivial (by omega)
  (fun i b a hb hI=> ?_) (fun a hI=> ?_)
 ·rw [lN (P:=fun b:LN=> !b.2.all (usedB ins vs)) (j:=0) (fun b=>rfl),aeg]at nQ
  exact⟨nQ.1,by rw [show ((0:Int),u,v,ins,vs,os,ls)=(((0:Nat):Int),u,v,ins,vs,os,ls) from rfl,nQ.2]⟩
 ·have fC:=(k7.1 hb).1
  have hw:IntKind.i64.wrap ((i:Int) + 1)=((i + 1:Nat):Int):=by rw [aM (by omega) (by omega)];omega
  obtain⟨k1,k2⟩:=awR i u v ins vs os ls b hb (hL b (List.mem_of_getElem? hb)) h1 h2
  have c0:WC (i:Int) ls=true:=dw (by omega)
  have c1:adC (i:Int) u v ins vs os ls=true:=k1
  have c2:WD (i:Int) u v ins vs os ls= !b.2.all (usedB ins vs):=by
   simp only [WD,Vk,k2]
   cases b.2.all (usedB ins vs) <;> rfl
  have c3:adD (i:Int)=((i + 1:Nat):Int):=hw
  refine⟨?_,?_,?_,fun _ _=>trivial⟩
  ·simp only [fX,Hc,LT.nds,allT,c0,c1,c2,cond_true]
   cases b.2.all (usedB ins vs) <;> simp [LT.nds]
  ·simp only [fX,Hc,LT.each,c0,c2,c3]
   cases b.2.all (usedB ins vs) <;> simp [LT.each]
  ·simp only [fX,Hc,LT.fn,c0,c2,cond_true]
 ·have fB:WC (ls.length:Int) ls=false:=IZ (by omega)
  simp [fX,Hc,LT.out,fB]
theorem aue(nm:avP)(ins vs os:List avP)(g:avP)(ls:List LN)(h:Uc nm ins vs os g ls=true):
  (VO nm g ins vs os ls==0)=ax1 ins vs os g ls∧VP nm g ins vs os ls=true:=by
 obtain⟨h1,h2,h3,h4,h5,h6,h7⟩:=Qg.1 h
 obtain⟨hn,hA⟩:=Xd.1 h7
 have hL: ∀ l∈ls,l.2.length≤1048576:=fun l hl=>(Xt.1 (hA l hl).2).1
 obtain⟨l1,l2,l3⟩:=au9 h2 h3 h4
 obtain⟨w1,w2⟩:=ann nm g ins vs os ls [] (by omega) l2 l3 hn rfl
 obtain⟨t1,t2⟩:=aoB vs os ls 0 []
 obtain⟨u1,u2⟩:=azj nm g ins vs os ls hn hL l1 l2
 obtain⟨r1,r2⟩:=apZ g ins vs l1 l2
 have a4:NJ nm g ins vs os ls= !ls.all (madeB vs os):=by
  simp only [NJ,Ib,Ur,w2,t1]
  cases ls.all (madeB vs os) <;> rfl
 have a5:ls.all (madeB vs os)=true→Ic nm g ins vs os ls=ls.map Prod.fst:=fun hm=>by
  simp only [Ic,Ib,Ur,w2,vi]
  rw [t2 hm];rfl
 have a6:ls.all (madeB vs os)=true→Us nm g ins vs os ls= !leN (vs.length + os.length) ls.length:=fun hm=>by
  simp only [Us,a5 hm,List.length_map]
  rw [aM (by omega) (by omega),Bool.eq_iff_iff,ab7,Bool.not_eq_true',← Bool.not_eq_true,gR]
  omega
 have e7:(Lp.res fX (Ut nm g ins vs os ls)).1=bif !ls.all (fun l=>l.2.all (usedB ins vs))then 0 else 1:=u2
 have e8:Lp.fin fX (Ut nm g ins vs os ls)=true:=u1
 have hnil:(g.toList==ByteArray.toList { data:= #[] })=(g.toList== []):=by rw [Ua]
 refine⟨?_,?_⟩
 ·simp only [VO,BV,EK,hnil,r1,a4,e7,ax1]
  cases hm:ls.all (madeB vs os)with
  |false=>
   have hm2:(ls.all fun l=>lM vs l.1||lM os l.1)=false:=hm
   rw [hm2]
   generalize xO (ins++vs++os)=p1
   generalize (g.toList== [])=p2
   generalize Tz ins vs g=p3
   cases p1 <;> cases p2 <;> cases p3 <;> rfl
  |true=>
   have hm2:(ls.all fun l=>lM vs l.1||lM os l.1)=true:=hm
   rw [hm2,a5 hm,a6 hm]
   generalize xO (ins++vs++os)=p1
   generalize (g.toList== [])=p2
   generalize Tz ins vs g=p3
   generalize xO (ls.map Prod.fst)=p4
   generalize leN (vs.length + os.length) ls.length=p5
   generalize (ls.all fun l=>l.2.all (usedB ins vs))=p6
   cases p1 <;> cases p2 <;> cases p3 <;> cases p4 <;> cases p5 <;> cases p6 <;> rfl
 ·have f1:leN (ins.length + vs.length + os.length) 2000000=true:=bx h6
  have f2:leN (ins++vs++os).length 9223372036854775807=true:=bx (by simp;omega)
  have f3:Lp.fin fg (Ib nm g ins vs os ls)=true:=w1
  simp only [VP,BV,EK,f1,f2,f3,r2,a4,e8,allT,j8,cond_true]
  cases hm:ls.all (madeB vs os)with
  |false=>simp
  |true=>
   have f4:leN (ls.map Prod.fst).length 9223372036854775807=true:=bx (by rw [List.length_map];omega)
   rw [a5 hm,f4]
   simp
def ej(b:avP×(ajz)):(List avP)→Nat ⊕ (List avP)
 |a=>(.inr (a++([b.1])))
def cX(a:afa)(i:Nat):(List avP)→bO
 |b=>((i:Int),(↑a.length:Int),a,b)
def tf:bO→List avP
 |(_,_,_,a)=>a
theorem OB(c:afa)(e:List avP)(hn:c.length≤9223372036854775807)(hN:c.length≤1048576)(h3:e.length=0):
  aq.fin ((0:Int),(↑c.length:Int),c,e)=true∧aq.res ((0:Int),(↑c.length:Int),c,e)=((br (ej) 0 c 0 e).1,(cX c) (br (ej) 0 c 0 e).2.1 (br (ej) 0 c 0 e).2.2):=by
 have nQ:=aq.along (cX c) tf (ej) 0 (fun i a=>a.length=i) c e h3 (by simp only [aq,cX];omega) (fun i b a hb hI=> ?_) (fun a hI=> ?_)
 ·exact nQ
 ·obtain e:=a
  have fC:=(k7.1 hb).1
  have lP: ∀ d,v5 c[i]? d=b:=fun d=>by rw [hb];rfl
  have hw:=Bm fC hn
  have fB:ltI (i:Int) (c.length:Int)=true:=dw (by omega)
  have Ly:leI (0:Int) (i:Int)=true:=bk (by omega)
  have sO:ltN i c.length=true:=eD fC
  refine⟨?_,?_,?_,?_⟩
  ·have hg2:ck (i:Int) c= [b.1]:=by simp only [ck,q9];exact congrArg (fun z:LN=> [z.1]) (lP _)
   have l1: ∀ s:avP,leN (a.length + k9 [s]) 9223372036854775807=true:=fun s=>bx (by rw [w5];omega)
   have l2: ∀ s:avP,leN ((a.length + k9 [s]) * 16) 140737488355328=true:=fun s=>bx (by rw [w5];omega)
   simp only [iC,iD,iE,iF,iG,iH,iI,iJ,ik,aq,LT.nds,allT,cX,fB,Ly,sO,hg2,l1,l2,q9,cond_true,Bool.and_self]
  ·simp [ck,iC,iD,iE,iF,iG,iH,iI,iJ,ik,aq,LT.each,cX,tf,hw]
  ·have hg2:ck (i:Int) c= [b.1]:=by simp only [ck,q9];exact congrArg (fun z:LN=> [z.1]) (lP _)
   simp only [iC,iD,iE,iF,iG,iH,iI,iJ,ik,aq,LT.fn,cX,tf,ej,fB,hg2,cond_true]
  ·intro a' hf
   simp only [ej,Sum.inr.injEq]at hf
   subst hf;simp [hI]
 ·obtain e:=a
  simp [ck,iC,iD,iE,iF,iG,iH,iI,iJ,ik,aq,LT.out,cX]
theorem auN: ∀ (ls:List LN) (acc:List avP),ls.foldl (fun a l=>a++ [l.1]) acc=acc++ls.map Prod.fst
 | [],acc=>by simp
 |l::r,acc=>by rw [List.foldl_cons,auN r];simp
def jS(a:List avP)(b:avP):(Unit)→Nat ⊕ (Unit)
 |_=>(bif(qM b a)then(.inl 0)else(.inr ()))
def dC(a b:List avP)(i:Nat):(Unit)→cf
 |_=>((i:Int),(↑a.length:Int),a,b)
def uj:cf→Unit
 |(_,_,_,_)=>()
theorem Qq(c e:List avP) (hn:c.length≤9223372036854775807) (hm:leN e.length 9223372036854775807=true):
  ao.fin ((0:Int),(↑c.length:Int),c,e)=true∧ao.res ((0:Int),(↑c.length:Int),c,e)=((br (jS e) 1 c 0 ()).1,(dC c e) (br (jS e) 1 c 0 ()).2.1 (br (jS e) 1 c 0 ()).2.2):=by
 have nQ:=ao.along (dC c e) uj (jS e) 1 (fun _ _=>True) c () (by trivial) (by simp only [ao,dC];omega) (fun i b a hb hI=> ?_) (fun a hI=> ?_)
 ·exact nQ
 ·obtain⟨⟩:=a
  have fC:=(k7.1 hb).1
  have lP: ∀ d,v5 c[i]? d=b:=fun d=>by rw [hb];rfl
  have hw:=Bm fC hn
  have fB:ltI (i:Int) (c.length:Int)=true:=dw (by omega)
  have Ly:leI (0:Int) (i:Int)=true:=bk (by omega)
  have sO:ltN i c.length=true:=eD fC
  refine⟨?_,?_,?_,?_⟩
  ·have h4:fR e=true:=by simp only [fR,qN,hm,allT,cond_true]
   simp only [kf,kg,kh,ki,jC,ao,LT.nds,allT,dC,h4,fB,Ly,sO,q9,cond_true,Bool.and_self]
   cases kj (i:Int) c e <;> simp [LT.nds]
  ·simp [kf,kg,kh,ki,fR,kj,oH,jC,ao,LT.each,dC,uj,hw]
  ·simp only [kf,kg,kh,ki,fR,kj,oH,jC,ao,LT.fn,dC,uj,jS,q9,fB,Ly,sO,lP,cond_true,j9]
  ·exact fun _ _=>trivial
 ·obtain⟨⟩:=a
  simp [kf,kg,kh,ki,fR,kj,oH,jC,ao,LT.out,dC]
def jT(a:List avP)(b:avP):(Unit)→Nat ⊕ (Unit)
 |_=>(bif(qO b a)then(.inl 0)else(.inr ()))
def dD(a b:List avP)(i:Nat):(Unit)→cg
 |_=>((i:Int),(↑a.length:Int),a,b)
def uk:cg→Unit
 |(_,_,_,_)=>()
theorem Qr(c e:List avP) (hn:c.length≤9223372036854775807) (hm:leN e.length 9223372036854775807=true):
  ap.fin ((0:Int),(↑c.length:Int),c,e)=true∧ap.res ((0:Int),(↑c.length:Int),c,e)=((br (jT e) 1 c 0 ()).1,(dD c e) (br (jT e) 1 c 0 ()).2.1 (br (jT e) 1 c 0 ()).2.2):=by
 have nQ:=ap.along (dD c e) uk (jT e) 1 (fun _ _=>True) c () (by trivial) (by simp only [ap,dD];omega) (fun i b a hb hI=> ?_) (fun a hI=> ?_)
 ·exact nQ
 ·obtain⟨⟩:=a
  have fC:=(k7.1 hb).1
  have lP: ∀ d,v5 c[i]? d=b:=fun d=>by rw [hb];rfl
  have hw:=Bm fC hn
  have fB:ltI (i:Int) (c.length:Int)=true:=dw (by omega)
  have Ly:leI (0:Int) (i:Int)=true:=bk (by omega)
  have sO:ltN i c.length=true:=eD fC
  refine⟨?_,?_,?_,?_⟩
  ·have h4:fS e=true:=by simp only [fS,qP,hm,allT,cond_true]
   simp only [kk,km,kn,ko,jD,ap,LT.nds,allT,dD,h4,fB,Ly,sO,q9,cond_true,Bool.and_self]
   cases kq (i:Int) c e <;> simp [LT.nds]
  ·simp [kk,km,kn,ko,fS,kq,oI,jD,ap,LT.each,dD,uk,hw]
  ·simp only [kk,km,kn,ko,fS,kq,oI,jD,ap,LT.fn,dD,uk,jT,q9,fB,Ly,sO,lP,cond_true,j9]
  ·exact fun _ _=>trivial
 ·obtain⟨⟩:=a
  simp [kk,km,kn,ko,fS,kq,oI,jD,ap,LT.out,dD]
theorem az7(a b:List avP)(ha:leN a.length 9223372036854775807=true)(hb:leN b.length 9223372036854775807=true):
  eJ a b=(a.any fun s=> !lM b s)∧dI a b=a∧oD a b=b∧oE a b=true:=by
 obtain⟨w1,w2⟩:=Qq a b (gR.1 ha) hb
 rw [lN (P:=fun s=> !lM b s) (j:=0) (fun s=>rfl)]at w2
 refine⟨?_,j9 _ _,j9 _ _,?_⟩
 ·simp only [eJ,xl,lk,qI,w2,dC]
  cases (a.any fun s=> !lM b s) <;> simp [Nat.beq,Zj.1,Zj.2]
 ·simp only [oE,xm,lk,w1,allT,cond_true]
theorem az8(a b:List avP)(ha:leN a.length 9223372036854775807=true)(hb:leN b.length 9223372036854775807=true):
  oF a b=(a.any fun s=> !lM b s)∧Dz a b=a∧DA a b=b∧oG a b=true:=by
 obtain⟨w1,w2⟩:=Qr a b (gR.1 ha) hb
 rw [lN (P:=fun s=> !lM b s) (j:=0) (fun s=>rfl)]at w2
 refine⟨?_,j9 _ _,j9 _ _,?_⟩
 ·simp only [oF,xo,lm,qJ,w2,dD]
  cases (a.any fun s=> !lM b s) <;> simp [Nat.beq,Zj.1,Zj.2]
 ·simp only [oG,xt,lm,w1,allT,cond_true]
def iV(a c:List avP)(b:Int×(avP×Int)):(Unit)→Nat ⊕ (Unit)
 |_=>(bif(gS b.1 (b.2.1) a c)then(.inl 0)else(.inr ()))
def ew(a b:avP)(c:ajz)(d e f:List avP)(g:afa)(i:Nat):(Unit)→cR
 |_=>((i:Int),(↑c.length:Int),a,b,c,d,e,f,g)
def wY:cR→Unit
 |(_,_,_,_,_,_,_,_,_)=>()
theorem UB(c e:avP)(f:ajz)(g j k:List avP)(l:afa) (hn:f.length≤9223372036854775807) (h5:leN g.length 9223372036854775807=true) (h6:leN j.length 9223372036854775807=true):
  aR.fin ((0:Int),(↑f.length:Int),c,e,f,g,j,k,l)=true∧aR.res ((0:Int),(↑f.length:Int),c,e,f,g,j,k,l)=((br (iV g j) 1 f 0 ()).1,(ew c e f g j k l) (br (iV g j) 1 f 0 ()).2.1 (br (iV g j) 1 f 0 ()).2.2):=by
 have nQ:=aR.along (ew c e f g j k l) wY (iV g j) 1 (fun _ _=>True) f () (by trivial) (by simp only [aR,ew];omega) (fun i b a hb hI=> ?_) (fun a hI=> ?_)
 ·exact nQ
 ·obtain⟨⟩:=a
  have fC:=(k7.1 hb).1
  have lP: ∀ d,v5 f[i]? d=b:=fun d=>by rw [hb];rfl
  have hw:=Bm fC hn
  have fB:ltI (i:Int) (f.length:Int)=true:=dw (by omega)
  have Ly:leI (0:Int) (i:Int)=true:=bk (by omega)
  have sO:ltN i f.length=true:=eD fC
  refine⟨?_,?_,?_,?_⟩
  ·have hg2:cH (i:Int) f=b:=by simp only [cH,q9];exact lP _
   have h4:mP (i:Int) f g j=true:=by simp only [mP,nb,h5,h6,allT,j8,cond_true]
   simp only [mO,sd,se,sf,lW,aR,LT.nds,allT,ew,h4,fB,Ly,sO,q9,cond_true,Bool.and_self]
   cases mQ (i:Int) f g j <;> simp [LT.nds]
  ·simp [cH,mO,sd,se,sf,mP,mQ,yz,lW,aR,LT.each,ew,wY,hw]
  ·have hg2:cH (i:Int) f=b:=by simp only [cH,q9];exact lP _
   simp only [mO,mQ,lW,aR,LT.fn,ew,wY,iV,fB,hg2,cond_true]
  ·exact fun _ _=>trivial
 ·obtain⟨⟩:=a
  simp [cH,mO,sd,se,sf,mP,mQ,yz,lW,aR,LT.out,ew]
theorem asf(u v:avP)(ins vs os:List avP)(ls:List LN)(ts:List TM)(hn:ts.length≤1048576)(h1:leN ins.length 9223372036854775807=true)(h2:leN vs.length 9223372036854775807=true):
  fa u v ins vs os ls ts= !ts.all (usedB ins vs)∧io u v ins vs os ls ts=true:=by
 obtain⟨w1,w2⟩:=UB u v ts ins vs os ls (by omega) h1 h2
 rw [lN (P:=fun b=> !usedB ins vs b) (j:=0) (fun b=>by
  simp only [iV,gS,me,usedB,Tz]
  cases b.1==1 <;> cases lM ins b.2.1 <;> cases lM vs b.2.1 <;> rfl),aeg]at w2
 refine⟨?_,?_⟩
 ·simp only [fa,yt,Bi,nU,tA,w2,ew]
  cases ts.all (usedB ins vs) <;> simp [Nat.beq,Zj.1,Zj.2]
 ·simp only [io,yu,Bj,nU,w1,allT,cond_true]
def iU(a c:avP)(d e f:List avP)(g:afa)(b:avP×(ajz)):(Unit)→Nat ⊕ (Unit)
 |_=>(bif(fa a c d e f g b.2)then(.inl 0)else(.inr ()))
def et(a b:avP)(c d e:List avP)(f:afa)(i:Nat):(Unit)→cP
 |_=>((i:Int),(↑f.length:Int),a,b,c,d,e,f)
def wW:cP→Unit
 |(_,_,_,_,_,_,_,_)=>()
theorem Uz(c e:avP)(f g j:List avP)(k:afa) (hn:k.length≤9223372036854775807) (hL: ∀ l∈k,l.2.length≤1048576) (h4:leN f.length 9223372036854775807=true) (h5:leN g.length 9223372036854775807=true):
  aP.fin ((0:Int),(↑k.length:Int),c,e,f,g,j,k)=true∧aP.res ((0:Int),(↑k.length:Int),c,e,f,g,j,k)=((br (iU c e f g j k) 1 k 0 ()).1,(et c e f g j k) (br (iU c e f g j k) 1 k 0 ()).2.1 (br (iU c e f g j k) 1 k 0 ()).2.2):=by
 have nQ:=aP.along (et c e f g j k) wW (iU c e f g j k) 1 (fun _ _=>True) k () (by trivial) (by simp only [aP,et];omega) (fun i b a hb hI=> ?_) (fun a hI=> ?_)
 ·exact nQ
 ·obtain⟨⟩:=a
  have fC:=(k7.1 hb).1
  have lP: ∀ d,v5 k[i]? d=b:=fun d=>by rw [hb];rfl
  have hw:=Bm fC hn
  have fB:ltI (i:Int) (k.length:Int)=true:=dw (by omega)
  have Ly:leI (0:Int) (i:Int)=true:=bk (by omega)
  have sO:ltN i k.length=true:=eD fC
  refine⟨?_,?_,?_,?_⟩
  ·have hg2:ep (i:Int) k=b.2:=by simp only [ep,q9];exact congrArg Prod.snd (lP _)
   have k4:mG (i:Int) c e f g j k=true:=by simp only [mG,hg2];exact(asf c e f g j k b.2 (hL b (List.mem_of_getElem? hb)) h4 h5).2
   simp only [mF,sa,sb,sc,lU,aP,LT.nds,allT,et,k4,fB,Ly,sO,q9,cond_true,Bool.and_self]
   cases mH (i:Int) c e f g j k <;> simp [LT.nds]
  ·simp [ep,mF,sa,sb,sc,mG,mH,yy,lU,aP,LT.each,et,wW,hw]
  ·have hg2:ep (i:Int) k=b.2:=by simp only [ep,q9];exact congrArg Prod.snd (lP _)
   simp only [mF,mH,lU,aP,LT.fn,et,wW,iU,fB,hg2,cond_true]
  ·exact fun _ _=>trivial
 ·obtain⟨⟩:=a
  simp [ep,mF,sa,sb,sc,mG,mH,yy,lU,aP,LT.out,et]
theorem azi(u v:avP)(ins vs os:List avP)(ls:List LN)(hN:ls.length≤1048576)(hL: ∀ l∈ls,l.2.length≤1048576)(h1:leN ins.length 9223372036854775807=true)(h2:leN vs.length 9223372036854775807=true):
  rR u v ls ins vs os= !ls.all (fun l=>l.2.all (usedB ins vs))∧rS u v ls ins vs os=true:=by
 obtain⟨w1,w2⟩:=Uz u v ins vs os ls (by omega) hL h1 h2
 rw [aeU (g:=fun(b:LN) (_:Unit)=>bif !b.2.all (usedB ins vs)then(.inl 0:Nat ⊕ Unit)else .inr ()) (fun b hb a=>by
  simp only [iU,(asf u v ins vs os ls b.2 (hL b hb) h1 h2).1]),lN (P:=fun b:LN=> !b.2.all (usedB ins vs)) (j:=0) (fun b=>rfl),aeg]at w2
 refine⟨?_,?_⟩
 ·simp only [rR,Be,nT,w2,et]
  cases ls.all (fun l=>l.2.all (usedB ins vs)) <;> simp [Nat.beq,Zj.1,Zj.2]
 ·simp only [rS,Bf,nT,w1,allT,cond_true]
theorem atT(nm:avP)(ins vs os:List avP)(g:avP)(ls:List LN)(h:Uc nm ins vs os g ls=true):
  (pt nm g ins vs os ls==0)=ax1 ins vs os g ls∧pu nm g ins vs os ls=true:=by
 obtain⟨h1,h2,h3,h4,h5,h6,h7⟩:=Qg.1 h
 obtain⟨hn,hA⟩:=Xd.1 h7
 have hL: ∀ l∈ls,l.2.length≤1048576:=fun l hl=>(Xt.1 (hA l hl).2).1
 obtain⟨l1,l2,l3⟩:=au9 h2 h3 h4
 obtain⟨w1,w2⟩:=OB ls [] (by omega) hn rfl
 rw [TN (f:=ej) (g:=fun a (l:LN)=>a++ [l.1]) (fun b a=>rfl),auN]at w2
 have a3:ax ls=ls.map Prod.fst:=by
  simp only [ax,oy,w2,cX,List.nil_append]
 have a4:ay vs os=vs++os:=by simp [ay]
 have n0:bN ins vs os=ins++vs++os:=by simp [bN,jU]
 have k1:leN (ls.map Prod.fst).length 9223372036854775807=true:=bx (by rw [List.length_map];omega)
 have k2:leN (vs++os).length 9223372036854775807=true:=bx (by rw [j6];omega)
 obtain⟨s1,s2,s3,s4⟩:=az7 (ls.map Prod.fst) (vs++os) k1 k2
 obtain⟨v1,v2,v3,v4⟩:=az8 (vs++os) (ls.map Prod.fst) k2 k1
 obtain⟨u1,u2⟩:=azi nm g ins vs os ls hn hL l1 l2
 have hnil:(g.toList==ByteArray.toList { data:= #[] })=(g.toList== []):=by rw [Ua]
 have hmade:((ls.map Prod.fst).any fun s=> !lM (vs++os) s)= !ls.all (fun l=>lM vs l.1||lM os l.1):=by
  rw [aeg,List.all_map]
  congr 2
  funext l
  simp only [Function.comp,apJ]
 have a5:oz vs os ls=(vs++os).any fun s=> !lM (ls.map Prod.fst) s:=by
  simp only [oz,a3,a4,s2,s3,v1]
 refine⟨?_,?_⟩
 ·simp only [pt,n0,fM,ox,hnil,a3,a4,s1,s2,u1,hmade,a5,ax1,Tz]
  cases p1:xO (ins++vs++os)with
  |true=>rfl
  |false=>
   cases p3:(ls.all fun l=>lM vs l.1||lM os l.1)with
   |false=>
    generalize (g.toList== [])=q1
    generalize lM ins g=q2
    generalize lM vs g=q3
    cases q1 <;> cases q2 <;> cases q3 <;> rfl
   |true=>
    cases p4:xO (ls.map Prod.fst)with
    |true=>
     generalize (g.toList== [])=q1
     generalize lM ins g=q2
     generalize lM vs g=q3
     cases q1 <;> cases q2 <;> cases q3 <;> rfl
    |false=>
     rw [ayW p1 p3 p4]
     generalize (g.toList== [])=q1
     generalize lM ins g=q2
     generalize lM vs g=q3
     generalize leN (vs.length + os.length) ls.length=q4
     generalize (ls.all fun l=>l.2.all (usedB ins vs))=q5
     cases q1 <;> cases q2 <;> cases q3 <;> cases q4 <;> cases q5 <;> rfl
 ·have f1:Lp.fin aq (oy ls)=true:=w1
  have f2:(leN [vs,os].length 1000&&leN (Qo [vs,os]) 2000000)=true:=by
   rw [q8];exact⟨rfl,bx (by simp [Qo];omega)⟩
  have f3:pv ins vs os=true:=by
   have:(leN [ins,vs,os].length 1000&&leN (Qo [ins,vs,os]) 2000000)=true:=by
    rw [q8];exact⟨rfl,bx (by simp [Qo];omega)⟩
   simp only [pv,jU,this,allT,cond_true]
  have f4:leN (ins++vs++os).length 9223372036854775807=true:=bx (by simp;omega)
  simp only [pu,f1,f2,f3,n0,f4,a3,a4,s2,s3,s4,v2,v3,v4,u2,l1,l2,k1,k2,allT,j8,cond_true]
def dS(nm:avP)(ins vs os:List avP)(g:avP)(ls:List LN):Bool:=ap5 nm ins vs os g ls&&ax1 ins vs os g ls
theorem aug(nm:avP)(ins vs os:List avP)(g:avP)(ls:List LN)(h:Uc nm ins vs os g ls=true):
  adf nm g ins vs os ls=dS nm ins vs os g ls∧adg nm g ins vs os ls=true:=by
 obtain⟨a1,a2⟩:=ar4 nm ins vs os g ls h
 obtain⟨b1,b2⟩:=aue nm ins vs os g ls h
 simp only [adf,adg,a1,a2,b1,b2,dS,allT,j8,cond_true,and_true]
 cases ap5 nm ins vs os g ls <;> rfl
theorem atU(nm:avP)(ins vs os:List avP)(g:avP)(ls:List LN)(h:Uc nm ins vs os g ls=true):
  acF nm g ins vs os ls=dS nm ins vs os g ls∧acG nm g ins vs os ls=true:=by
 obtain⟨a1,a2⟩:=arj nm ins vs os g ls h
 obtain⟨b1,b2⟩:=atT nm ins vs os g ls h
 simp only [acF,acG,a1,a2,b1,b2,dS,allT,j8,cond_true,and_true]
 cases ap5 nm ins vs os g ls <;> rfl
def ai4:awh
 | [.one ⟨true,[.val (.string a),.ref 0,.ref 1,.ref 2,.val (.string b),.ref 3]⟩],[.row false 9 (.str) c,.row false 9 (.str) d,.row false 9 (.str) e,.row false 142 (.pair (.str) (.sl 122 (.pair (.int .i64) (.pair (.str) (.int .i64))))) f]=>some ⟨aBB (.val (.bool (dS a c d e b f))),[aBD c,aBD d,aBD e,aBH f],[],[Uc a c d e b f]⟩
 |_,_=>none
def uC:PF prog:=PF.alt arK ai4 (by
 intro args es o h cA;unfold ai4 at h;split at h
 ·rename_i a b c d e f
  cases h
  have cA:=jQ cA
  have hh:=aug a c d e b f cA
  obtain⟨e0,en⟩:=hh
  exact pW rfl (ip en) (by simp only [e0] <;> rfl) rfl rfl
 ·cases h)
def ai1:awh
 | [.one ⟨true,[.val (.string a),.ref 0,.ref 1,.ref 2,.val (.string b),.ref 3]⟩],[.row false 9 (.str) c,.row false 9 (.str) d,.row false 9 (.str) e,.row false 142 (.pair (.str) (.sl 122 (.pair (.int .i64) (.pair (.str) (.int .i64))))) f]=>some ⟨aBB (.val (.bool (dS a c d e b f))),[aBD c,aBD d,aBD e,aBH f],[],[Uc a c d e b f]⟩
 |_,_=>none
def kI:PF prog:=PF.alt arG ai1 (by
 intro args es o h cA;unfold ai1 at h;split at h
 ·rename_i a b c d e f
  cases h
  have cA:=jQ cA
  have hh:=atU a c d e b f cA
  obtain⟨e0,en⟩:=hh
  exact pW rfl (ip en) (by simp only [e0] <;> rfl) rfl rfl
 ·cases h)
section
variable (a b c:Int)(d:alv)(e f g i j:avO)(k:asZ)
def mj:Int:=v5 e[k8 0]? 0
def cU:Int×avP×Int:=v5 d[k8 b]? ((0:Int),ByteArray.empty,(0:Int))
def bc:Int×Int×Int:=v5 k[k8 b]? ((0:Int),(0:Int),(0:Int))
def bK:Bool:=a==1||(a==2||(a==3||(a==4||(a==5||(a==6||leI 0 b)))))
def ci:Bool:=a==1||(a==2||(a==3||(a==4||(a==5||(a==6||ltI b (↑k.length:Int))))))
def cj:Bool:=a==1||(a==2||(a==3||(a==4||(a==5||(a==6||ltN b.toNat k.length)))))
def bP:Int:=bif a==1 then b else bif a==2 then v5 f[k8 b]? 0 else bif a==3 then v5 i[k8 b]? 0 else bif a==4 then v6 .i64 ((1:Int) - mj e)else bif a==5 then v6 .i64 (↑(BitVec.toNat (BitVec.ofInt (IntKind.bits IntKind.i64) (mj e)&&& BitVec.ofInt (IntKind.bits IntKind.i64) (v5 e[k8 1]? 0))):Int)else bif a==6 then v6 .i64 (↑(BitVec.toNat (BitVec.ofInt (IntKind.bits IntKind.i64) (mj e)||| BitVec.ofInt (IntKind.bits IntKind.i64) (v5 e[k8 1]? 0))):Int)else HT ((cU b d).1) ((cU b d).2.2) ((bc b k).1) (((bc b k).2).1) ((bc b k).2.2) e
def tC:Int:=bif a==1 then c else bif a==2 then c else bif a==3 then c else bif a==4 then c else bif a==5 then c else bif a==6 then c else c
def tD:avO:=bif a==1 then e else bif a==2 then e else bif a==3 then e else bif a==4 then e else bif a==5 then e else bif a==6 then e else e
def tE:avO:=bif a==1 then g else bif a==2 then g else bif a==3 then g else bif a==4 then g else bif a==5 then g else bif a==6 then g else g
def tF:avO:=bif a==1 then i else bif a==2 then i else bif a==3 then i else bif a==4 then i else bif a==5 then i else bif a==6 then i else i
def tG:avO:=bif a==1 then j else bif a==2 then j else bif a==3 then j else bif a==4 then j else bif a==5 then j else bif a==6 then j else j
def iB:asY:=bif a==1 then k else bif a==2 then k else bif a==3 then k else bif a==4 then k else bif a==5 then k else bif a==6 then k else List.set k b.toNat (Fs ((cU b d).1) ((cU b d).2.2) ((bc b k).1) (((bc b k).2).1) ((bc b k).2.2) e,Ft ((cU b d).1) (((bc b k).2).1) ((bc b k).2.2) e,Fu ((cU b d).1) ((cU b d).2.2) ((bc b k).1) (((bc b k).2).1) ((bc b k).2.2) e)
def ae:Bool:=allT [a==1||(!a==2||leI 0 b),a==1||(!a==2||ltI b (↑f.length:Int)),a==1||(!a==2||ltN b.toNat f.length),a==1||(a==2||(!a==3||leI 0 b)),a==1||(a==2||(!a==3||ltI b (↑i.length:Int))),a==1||(a==2||(!a==3||ltN b.toNat i.length)),a==1||(a==2||(a==3||(!a==4||leI 0 0))),a==1||(a==2||(a==3||(!a==4||ltI 0 (↑e.length:Int)))),a==1||(a==2||(a==3||(!a==4||ltN (k8 0) e.length))),a==1||(a==2||(a==3||(a==4||(!a==5||leI 0 0)))),a==1||(a==2||(a==3||(a==4||(!a==5||ltI 0 (↑e.length:Int))))),a==1||(a==2||(a==3||(a==4||(!a==5||ltN (k8 0) e.length)))),a==1||(a==2||(a==3||(a==4||(!a==5||leI 0 1)))),a==1||(a==2||(a==3||(a==4||(!a==5||ltI 1 (↑e.length:Int))))),a==1||(a==2||(a==3||(a==4||(!a==5||ltN (k8 1) e.length)))),a==1||(a==2||(a==3||(a==4||(a==5||(!a==6||leI 0 0))))),a==1||(a==2||(a==3||(a==4||(a==5||(!a==6||ltI 0 (↑e.length:Int)))))),a==1||(a==2||(a==3||(a==4||(a==5||(!a==6||ltN (k8 0) e.length))))),a==1||(a==2||(a==3||(a==4||(a==5||(!a==6||leI 0 1))))),a==1||(a==2||(a==3||(a==4||(a==5||(!a==6||ltI 1 (↑e.length:Int)))))),a==1||(a==2||(a==3||(a==4||(a==5||(!a==6||ltN (k8 1) e.length))))),bK a b,a==1||(a==2||(a==3||(a==4||(a==5||(a==6||ltI b (↑d.length:Int)))))),a==1||(a==2||(a==3||(a==4||(a==5||(a==6||ltN b.toNat d.length))))),bK a b,ci a b k,cj a b k,a==1||(a==2||(a==3||(a==4||(a==5||(a==6||HU e))))),bK a b,ci a b k,cj a b k]
end
def Cf:awh
 | [.one ⟨false,[.ptr 0 0]⟩,.one ⟨true,[.val (.int .i64 _x0),.val (.int .i64 _x1),.val (.int .i64 _x2),.ref 1,.ref 2]⟩,.one ⟨true,[.val (.int .i64 a),.val (.int .i64 b)]⟩,.one ⟨false,[.ref 3]⟩,.one ⟨false,[.ref 4]⟩],[.box 31 [.val (.int .i64 c),.ref 5,.ref 6,.ref 7,.ref 8],.row false 122 (.pair (.int .i64) (.pair .str (.int .i64))) d,.row false 83 (.pair (.int .i64) (.int .i64)) e,.row true 2 (.int .i64) f,.row false 2 (.int .i64) g,.row true 2 (.int .i64) i,.row true 2 (.int .i64) j,.row true 2 (.int .i64) k,.row true 109 (.pair (.int .i64) (.pair (.int .i64) (.int .i64))) l]=>some ⟨aBC (bP a b d f g j l),[.box 31 [axb (tC a c),.ref 5,.ref 6,.ref 7,.ref 8],aBG d,aBO e,aBE (tD a f),aBF g,aBE (tE a i),aBE (tF a j),aBE (tG a k),aBK (iB a b d f l)],[],[ae a b d f g j l]⟩
 |_,_=>none
def Oz:PF prog:=PF.ofG prog (T3z [aew]) [] aT 95 f95 func95 (fun c _=>LOk.nil c) Cf (by
 intro _ _ _ h;unfold Cf at h;split at h<;>cases h;kernel_rfl)
section
variable (a b:Int)(c d e f:avO)
def sC:Int:=v5 c[k8 0]? 0
def sQ:avO:=bif a==8 then List.set e b.toNat (sC c)else e
def ml:avO:=bif a==8 then f else bif a==9 then List.set f b.toNat (sC c)else bif a==10 then bif v5 d[k8 b]? 0==0 then abZ f.length else f else bif a==11 then bif v5 e[k8 b]? 0==0 then abZ f.length else f else f
def bL:Bool:=allT [!a==8||leI 0 0,!a==8||ltI 0 (↑c.length:Int),!a==8||ltN (k8 0) c.length,!a==8||leI 0 b,!a==8||ltI b (↑e.length:Int),!a==8||ltN b.toNat e.length,a==8||(!a==9||leI 0 0),a==8||(!a==9||ltI 0 (↑c.length:Int)),a==8||(!a==9||ltN (k8 0) c.length),a==8||(!a==9||leI 0 b),a==8||(!a==9||ltI b (↑f.length:Int)),a==8||(!a==9||ltN b.toNat f.length),a==8||(a==9||(!a==10||leI 0 b)),a==8||(a==9||(!a==10||ltI b (↑d.length:Int))),a==8||(a==9||(!a==10||ltN b.toNat d.length)),a==8||(a==9||(a==10||(!a==11||leI 0 b))),a==8||(a==9||(a==10||(!a==11||ltI b (↑e.length:Int)))),a==8||(a==9||(a==10||(!a==11||ltN b.toNat e.length)))]
end
def Bo:awh
 | [.one ⟨false,[.ptr 0 0]⟩,.one ⟨true,[.val (.int .i64 a),.val (.int .i64 b)]⟩,.one ⟨false,[.ref 1]⟩,.one ⟨false,[.ref 2]⟩],[.box 31 [.val (.int .i64 c),.ref 3,.ref 4,.ref 5,.ref 6],.row true 2 (.int .i64) d,.row false 2 (.int .i64) e,.row true 2 (.int .i64) f,.row true 2 (.int .i64) g,.row true 2 (.int .i64) i,.row true 109 (.pair (.int .i64) (.pair (.int .i64) (.int .i64))) j]=>some ⟨.tup [],[.box 31 [axb c,.ref 3,.ref 4,.ref 5,.ref 6],aBE d,aBF e,aBE f,aBE (sQ a b d g),aBE (ml a b d e g i),aBK j],[],[bL a b d e g i]⟩
 |_,_=>none
def NA:PF prog:=PF.ofG prog [] [] aT 96 f96 func96 (fun c _=>LOk.nil c) Bo (by
 intro _ _ _ h;unfold Bo at h;split at h<;>cases h;kernel_rfl)
def xU(a:auQ):Int:=(↑a.length:Int)
def MI:awh
 | [.one ⟨false,[.ref 0]⟩],[.row false 83 (.pair (.int .i64) (.int .i64)) a]=>some ⟨aBC (xU a),[aBO a],[],[]⟩
 |_,_=>none
def xX:PF prog:=PF.ofG prog [] [] aT 48 f48 func48 (fun c _=>LOk.nil c) MI (by
 intro _ _ _ h;unfold MI at h;split at h<;>cases h;kernel_rfl)
def UH(a:avO):Int:=(↑a.length:Int)
def abI:awh
 | [.one ⟨false,[.ref 0]⟩],[.row false 2 (.int .i64) a]=>some ⟨aBC (UH a),[aBF a],[],[]⟩
 |_,_=>none
def abR:PF prog:=PF.ofG prog [] [] aT 94 f94 func94 (fun c _=>LOk.nil c) abI (by
 intro _ _ _ h;unfold abI at h;split at h<;>cases h;kernel_rfl)
theorem azE(a b c:Int)(d:List TM)(e f g i j:avO)(k:List BS3)(h:ae a b d e f i k=true):
  tC a c=c∧tD a e=e∧tE a g=g∧tF a i=i∧tG a j=j∧ae a b d e f i k=true:=
 ⟨by simp only [tC,j9],by simp only [tD,j9],by simp only [tE,j9],by simp only [tF,j9],by simp only [tG,j9],h⟩
def ni:awh
 | [.one ⟨false,[.ptr 0 0]⟩,.one ⟨true,[.val (.int .i64 _x0),.val (.int .i64 _x1),.val (.int .i64 _x2),.ref 1,.ref 2]⟩,.one ⟨true,[.val (.int .i64 a),.val (.int .i64 b)]⟩,.one ⟨false,[.ref 3]⟩,.one ⟨false,[.ref 4]⟩],[.box 31 [.val (.int .i64 c),.ref 5,.ref 6,.ref 7,.ref 8],.row false 122 (.pair (.int .i64) (.pair .str (.int .i64))) d,.row false 83 (.pair (.int .i64) (.int .i64)) e,.row true 2 (.int .i64) f,.row false 2 (.int .i64) g,.row true 2 (.int .i64) i,.row true 2 (.int .i64) j,.row true 2 (.int .i64) k,.row true 109 (.pair (.int .i64) (.pair (.int .i64) (.int .i64))) l]=>some ⟨aBC (bP a b d f g j l),[.box 31 [axb c,.ref 5,.ref 6,.ref 7,.ref 8],aBG d,aBO e,aBE f,aBF g,aBE i,aBE j,aBE k,aBK (iB a b d f l)],[],[ae a b d f g j l]⟩
 |_,_=>none
def Oy:PF prog:=PF.alt Oz ni (by
 intro args es o h cA;unfold ni at h;split at h
 ·rename_i _x0 _x1 _x2 a b c d e f g i j k l
  cases h
  have cA:=jQ cA
  have hh:=azE a b c d f g i j k l cA
  obtain⟨e1,e2,e3,e4,e5,en⟩:=hh
  exact pW rfl (ip en) rfl (by simp only [e1,e2,e3,e4,e5] <;> rfl) rfl
 ·cases h)
def aAB:PF prog:=PF.kept Oy [0] (by
 intro args es o h
 have h:ni args es=some o:=h
 unfold ni at h;split at h
 ·cases h;exact List.forall_mem_cons.2 ⟨rfl,fun _ h=>(by cases h)⟩
 ·cases h)
def aai(a:avO)(b:asZ):Bool:=allT [leN a.length (1048576:Nat),leN (0 + k9 b) 9223372036854775807,leN ((0 + k9 b) * 24) 140737488355328]
def ali:awh
 | [.one ⟨true,[.ref 0,.ref 1]⟩],[.row false 2 (.int .i64) a,.row false 109 (.pair (.int .i64) (.pair (.int .i64) (.int .i64))) b]=>some ⟨.one ⟨true,[.ref 2,.ref 3]⟩,[aBF a,aBN b],[aBE a,aBK b],[aai a b]⟩
 |_,_=>none
def Fi:PF prog:=PF.ofG prog (T3z [cY]) [] aT 139 f139 func139 (fun c _=>LOk.nil c) ali (by
 intro _ _ _ h;unfold ali at h;split at h<;>cases h;kernel_rfl)
def xQ(a:avP)(b c:List avP)(d e:avO):Int:=bif leI 0 (eA b a)then v5 e[k8 (eA b a)]? 0 else v5 d[k8 (eA c a)]? 0
def xR(a:avP)(b c:List avP)(d e:avO):Bool:=allT [leN b.length (9223372036854775807:Nat),!leI 0 (eA b a)||leI 0 (eA b a),!leI 0 (eA b a)||ltI (eA b a) (↑e.length:Int),!leI 0 (eA b a)||ltN (k8 (eA b a)) e.length,leI 0 (eA b a)||leN c.length (9223372036854775807:Nat),leI 0 (eA b a)||leI 0 (eA c a),leI 0 (eA b a)||ltI (eA c a) (↑d.length:Int),leI 0 (eA b a)||ltN (k8 (eA c a)) d.length]
def ahx:awh
 | [.one ⟨true,[.val (.string _x0),.ref 0,.ref 1,.ref 2,.val (.string _x1),.ref 3]⟩,.one ⟨true,[.ref 4,.ref 5]⟩,.one ⟨false,[.ref 6]⟩,.one ⟨false,[.val (.string a)]⟩],[.row false 9 (.str) b,.row false 9 (.str) c,.row false 9 (.str) d,.row false 142 (.pair (.str) (.sl 122 (.pair (.int .i64) (.pair (.str) (.int .i64))))) e,.row false 2 (.int .i64) f,.row false 109 (.pair (.int .i64) (.pair (.int .i64) (.int .i64))) g,.row false 2 (.int .i64) i]=>some ⟨aBC (xQ a b c f i),[aBD b,aBD c,aBD d,aBH e,aBF f,aBN g,aBF i],[],[xR a b c f i]⟩
 |_,_=>none
def fu:PF prog:=PF.ofG prog (T3z [cB]) [] aT 141 f141 func141 (fun c _=>LOk.nil c) ahx (by
 intro _ _ _ h;unfold ahx at h;split at h<;>cases h;kernel_rfl)
abbrev zV:=Int×Int×List (Int×(avP×Int))×List Int×avP×avP×List Int×List avP×List avP×List avP×List (avP×(List (Int×(avP×Int))))×List Int×List (Int×(Int×Int))
section
variable (a b:Int)(c:ajz)(d e:avO)(f g:List avP)(i:avO)(j:asY)
def fZ:Int×avP×Int:=v5 c[k8 a]? ((0:Int),ByteArray.empty,(0:Int))
def PP:Int:=v6 .i64 ((↑d.length:Int) - fT ((fZ a c).1))
def la:avO:=List.drop (k8 (PP a c d)) (List.take (k8 (↑d.length:Int)) d)
def PQ:avO:=List.drop (k8 0) (List.take (k8 (PP a c d)) d)
def bB:Bool:=(fZ a c).1==1
def dj:Bool:=(fZ a c).1==2
def dk:Bool:=(fZ a c).1==3
def dm:Bool:=(fZ a c).1==4
def WF:Bool:=ltI 0 (↑(k9 (la a c d)):Int)
def WG:Bool:=ltN (k8 0) (k9 (la a c d))
def dW:Bool:=(fZ a c).1==5
def abV:Bool:=ltI 1 (↑(k9 (la a c d)):Int)
def abW:Bool:=ltN (k8 1) (k9 (la a c d))
def jP:Bool:=(fZ a c).1==6
def Vl:Int:=v5 (la a c d)[k8 0]? 0
def qn:Int×Int×Int:=v5 j[k8 b]? ((0:Int),(0:Int),(0:Int))
def Vm:avO:= [bif bB a c then xQ (((fZ a c).2).1) f g i e else bif dj a c then(1:Int)else bif dk a c then(0:Int)else bif dm a c then v6 .i64 ((1:Int) - Vl a c d)else bif dW a c then v6 .i64 (↑(BitVec.toNat (BitVec.ofInt (IntKind.bits IntKind.i64) (Vl a c d)&&& BitVec.ofInt (IntKind.bits IntKind.i64) (v5 (la a c d)[k8 1]? 0))):Int)else bif jP a c then v6 .i64 (↑(BitVec.toNat (BitVec.ofInt (IntKind.bits IntKind.i64) (Vl a c d)||| BitVec.ofInt (IntKind.bits IntKind.i64) (v5 (la a c d)[k8 1]? 0))):Int)else gP ((fZ a c).1) ((fZ a c).2.2) ((qn b j).1) (((qn b j).2).1) ((qn b j).2.2) (la a c d)]
def aeQ:Bool:=ltI a (↑c.length:Int)
def aoq:Bool:=leI 0 a
def aor:Bool:=ltN a.toNat c.length
def aeR:Bool:=leI 0 (PP a c d)
def aeS:Bool:=leI (PP a c d) (↑d.length:Int)
def aos:Bool:=leI (↑d.length:Int) (↑d.length:Int)
def aot:Bool:=leN (k9 (la a c d)) 1048576
end
def aou:Bool:=leI 0 0
section
variable (a b:Int)(c:ajz)(d e:avO)(f g i:List avP)(j:afa)(k:avO)(l:asY)
def aov:Bool:=leN (k9 (PQ a c d)) 1048576
def aow:Bool:= !bB a c||xR (((fZ a c).2).1) f g k e
def amM:Bool:=bB a c||(dj a c||(dk a c||(!dm a c||leI 0 0)))
def amN:Bool:=bB a c||(dj a c||(dk a c||(!dm a c||WF a c d)))
def amO:Bool:=bB a c||(dj a c||(dk a c||(!dm a c||WG a c d)))
def amP:Bool:=bB a c||(dj a c||(dk a c||(dm a c||(!dW a c||leI 0 0))))
def amQ:Bool:=bB a c||(dj a c||(dk a c||(dm a c||(!dW a c||WF a c d))))
def amR:Bool:=bB a c||(dj a c||(dk a c||(dm a c||(!dW a c||WG a c d))))
def amS:Bool:=bB a c||(dj a c||(dk a c||(dm a c||(!dW a c||leI 0 1))))
def amT:Bool:=bB a c||(dj a c||(dk a c||(dm a c||(!dW a c||abV a c d))))
def amU:Bool:=bB a c||(dj a c||(dk a c||(dm a c||(!dW a c||abW a c d))))
def amV:Bool:=bB a c||(dj a c||(dk a c||(dm a c||(dW a c||(!jP a c||leI 0 0)))))
def amW:Bool:=bB a c||(dj a c||(dk a c||(dm a c||(dW a c||(!jP a c||WF a c d)))))
def amX:Bool:=bB a c||(dj a c||(dk a c||(dm a c||(dW a c||(!jP a c||WG a c d)))))
def amY:Bool:=bB a c||(dj a c||(dk a c||(dm a c||(dW a c||(!jP a c||leI 0 1)))))
def amZ:Bool:=bB a c||(dj a c||(dk a c||(dm a c||(dW a c||(!jP a c||abV a c d)))))
def am0:Bool:=bB a c||(dj a c||(dk a c||(dm a c||(dW a c||(!jP a c||abW a c d)))))
def adG:Bool:=bB a c||(dj a c||(dk a c||(dm a c||(dW a c||(jP a c||leI 0 b)))))
def adH:Bool:=bB a c||(dj a c||(dk a c||(dm a c||(dW a c||(jP a c||ltI b (↑l.length:Int))))))
def adI:Bool:=bB a c||(dj a c||(dk a c||(dm a c||(dW a c||(jP a c||ltN b.toNat l.length)))))
def am1:Bool:=bB a c||(dj a c||(dk a c||(dm a c||(dW a c||(jP a c||nE (la a c d))))))
def am2:Bool:=leN (k9 (PQ a c d) + k9 (Vm a b c d e f g k l)) 9223372036854775807
def am3:Bool:=leN ((k9 (PQ a c d) + k9 (Vm a b c d e f g k l)) * 8) 140737488355328
def am4:Int:=v6 .i64 (a + (1:Int))
def am5:Int:=bif bB a c then b else bif dj a c then b else bif dk a c then b else bif dm a c then b else bif dW a c then b else bif jP a c then b else v6 .i64 (b + (1:Int))
def am6:avO:=PQ a c d++Vm a b c d e f g k l
def am7:avO:=bif bB a c then e else e
def am8:List avP:=bif bB a c then f else f
def am9:List avP:=bif bB a c then g else g
def ana:List avP:=bif bB a c then i else i
def anb:afa:=bif bB a c then j else j
def anc:avO:=bif bB a c then k else k
def ane:asY:=bif bB a c then l else bif dj a c then l else bif dk a c then l else bif dm a c then l else bif dW a c then l else bif jP a c then l else List.set l b.toNat (kT ((fZ a c).1) ((fZ a c).2.2) ((qn b l).1) (((qn b l).2).1) ((qn b l).2.2) (la a c d),kU ((fZ a c).1) (((qn b l).2).1) ((qn b l).2.2) (la a c d),kV ((fZ a c).1) ((fZ a c).2.2) ((qn b l).1) ((qn b l).2.2) (la a c d))
end
def alV:zV→List (Nat×SV)
 |(a,b,_,_,_,_,_,_,_,_,_,_,_)=> [(12,(aBC a)),(3,(aBB (.ref 0))),(11,(aBB (.ref 1))),(5,(aBB (.ptr 2 0))),(6,(aBB (.ptr 3 0))),(2,(aBB (.ref 4))),(4,(aBC b))]
def alO:zV→List (Nat×Entry)
 |(_,_,a,b,c,d,e,f,g,i,j,k,l)=> [(0,(aBM a)),(2,(.box 43 [.val (.string c),.ref 5,.ref 6,.ref 7,.val (.string d),.ref 8])),(3,(.box 50 [.ref 9,.ref 10])),(4,(aBE e)),(5,(aBJ f)),(6,(aBJ g)),(7,(aBJ i)),(8,(aBR j)),(9,(aBE k)),(10,(aBK l)),(1,(aBE b))]
def al9:Nat→zV→List (Nat×SV)
 |_,(_,_,_,_,_,_,_,_,_,_,_,_,_)=> [(11,(aBB (.ref 1)))]
def al2:Nat→zV→List (Nat×Entry)
 |_,(_,_,a,b,c,d,e,f,g,i,j,k,l)=> [(0,(aBM a)),(1,(aBE b)),(2,(.box 43 [.val (.string c),.ref 5,.ref 6,.ref 7,.val (.string d),.ref 8])),(3,(.box 50 [.ref 9,.ref 10])),(4,(aBE e)),(5,(aBJ f)),(6,(aBJ g)),(7,(aBJ i)),(8,(aBR j)),(9,(aBE k)),(10,(aBK l))]
def amt:zV→LT zV
 |(a,b,c,d,e,f,g,i,j,k,l,m,n)=> .ite (aeQ a c) (.need [aoq a,aeQ a c,aor a c] (.need [aeR a c d,aeS a c d,aos d,aot a c d] (.need [aou,aeR a c d,aeS a c d,aov a c d] (.need [aow a c g i j m,amM a c,amN a c d,amO a c d,amP a c,amQ a c d,amR a c d,amS a c,amT a c d,amU a c d,amV a c,amW a c d,amX a c d,amY a c,amZ a c d,am0 a c d,adG a b c,adH a b c n,adI a b c n,am1 a c d,adG a b c,adH a b c n,adI a b c n] (.need [am2 a b c d g i j m n,am3 a b c d g i j m n] (.nrm ((am4 a),am5 a b c,c,am6 a b c d g i j m n,e,f,am7 a c g,am8 a c i,am9 a c j,ana a c k,anb a c l,anc a c m,(ane a b c d n)) [(0,0),(1,4544),(2,2),(3,3),(4,4),(5,5),(6,6),(7,7),(8,8),(9,9),(10,10)])))))) (.ext 0 [(0,0),(1,1),(2,2),(3,3),(4,4),(5,5),(6,6),(7,7),(8,8),(9,9),(10,10)])
def Wt(s:St):Option zV:=do
 let some ⟨none,.one ⟨false,[.val (.int .i64 a)]⟩⟩:=s.look 12|none
 let some ⟨none,.one ⟨false,[.ref 7]⟩⟩:=s.look 3|none
 let some ⟨none,.one ⟨false,[.ref 768]⟩⟩:=s.look 11|none
 let some ⟨none,.one ⟨false,[.ptr 576 0]⟩⟩:=s.look 5|none
 let some ⟨none,.one ⟨false,[.ptr 640 0]⟩⟩:=s.look 6|none
 let some ⟨none,.one ⟨false,[.ref 6]⟩⟩:=s.look 2|none
 let some ⟨none,.one ⟨false,[.val (.int .i64 b)]⟩⟩:=s.look 4|none
 let some (.row true 122 (.pair (.int .i64) (.pair .str (.int .i64))) c):=s.ent 7|none
 let some (.box 43 [.val (.string e),.ref 0,.ref 1,.ref 2,.val (.string f),.ref 3]):=s.ent 576|none
 let some (.box 50 [.ref 4,.ref 5]):=s.ent 640|none
 let some (.row true 2 (.int .i64) g):=s.ent 6|none
 let some (.row true 9 (.str) i):=s.ent 0|none
 let some (.row true 9 (.str) j):=s.ent 1|none
 let some (.row true 9 (.str) k):=s.ent 2|none
 let some (.row true 142 (.pair .str (.sl 122 (.pair (.int .i64) (.pair .str (.int .i64))))) l):=s.ent 3|none
 let some (.row true 2 (.int .i64) m):=s.ent 4|none
 let some (.row true 109 (.pair (.int .i64) (.pair (.int .i64) (.int .i64))) n):=s.ent 5|none
 let some (.row true 2 (.int .i64) d):=s.ent 768|none
 some (a,b,c,d,e,f,g,i,j,k,l,m,n)
def IX:Lp zV where
 h:=⟨[20,21,22,23,26,27,28,29,13,30,31,32,33,34,35,14,36,37,38,39,15,40,41,42,43,11,16,44,45,66,65,67,68,69,70,71,72,74,73,76,75,78,77,79,80,81,82,84,83,85,86,87,88,89,90,91,93,92,94,95,96,97,98,99,100,47,48,49,50,51,52,53,54,46,55,56,18,17,57,58,59,60,61,62,63,64,4,101,102,103,104,24,25,12],[0,2,3,4,5,6,7,8,9,10],[1],[]⟩
 JL:=alV
 JE:=alO
 XL:=al9
 XE:=al2
 q:=fun j=>match j with | _=> .exit 0
 tags:= [0]
 lt:=amt
 fuel:=fun(a,b,c,d,e,f,g,i,k,l,m,n,o)=>a.natAbs + b.natAbs + c.length + d.length + e.size + f.size + g.length + i.length + k.length + l.length + m.length + n.length + o.length
 fix:=fun(_,_,c,_,e,f,_,_,_,_,_,_,_) (a,b,_,d,_,_,g,i,k,l,m,n,o)=>(a,b,c,d,e,f,g,i,k,l,m,n,o)
 σ:= [(0,7),(2,576),(3,640),(4,6),(5,0),(6,1),(7,2),(8,3),(9,4),(10,5),(1,768)]
 rd:=Wt
theorem ajG:LoopOk prog (fun k=>Nat.blt k Tryz.f140.ntmps) IX.F (bj f140 0):=by
 refine Lp.ok (tbl:= (PF.mark prog::T3z [cY,fu,uF,xP])) (lf:= []) aT IX (by kernel_rfl) (LOk.nil _) (fun _=>rfl) (fun _ _=>rfl) ?_ ?_ ?_ ?_ (fun _=>rfl) ?_
 ·intro _;kernel_rfl
 ·intro _;kernel_rfl
 ·intro s x h
  have h:Wt s=some x:=h
  unfold Wt at h
  repeat' split at h
  all_goals cases h
  constructor<;>repeat(first|refine ab ‹_› rfl ?_|refine aa rfl ‹_› rfl ?_|rfl)
 ·intro _;kernel_rfl
 ·intro _ _;exact(And.intro rfl trivial)
section
variable (a b:avP)(c:Int)(d e f:List avP)(g:afZ)(i:avO)(j:asZ)(k:avO)(l:alv)
def ahP:Int×Int×alv×avO×avP×avP×avO×List avP×List avP×List avP×afZ×avO×asZ:=((0:Int),c,l,[],a,b,k,d,e,f,g,i,j)
def ahQ:avO×avP×avP×avO×List avP×List avP×List avP×afZ×avO×asZ:=(Lp.res IX (ahP a b c d e f g i j k l)).2.2.2.2
def abF:avO:=(ahQ a b c d e f g i j k l).1
def ahR:avO×List avP×List avP×List avP×afZ×avO×asZ:=(ahQ a b c d e f g i j k l).2.2.2
def ahS:List avP×List avP×List avP×afZ×avO×asZ:=(ahR a b c d e f g i j k l).2
def ahT:List avP×List avP×afZ×avO×asZ:=(ahS a b c d e f g i j k l).2
def ahU:List avP×afZ×avO×asZ:=(ahT a b c d e f g i j k l).2
def ahV:afZ×avO×asZ:=(ahU a b c d e f g i j k l).2
def ahW:avO×asZ:=(ahV a b c d e f g i j k l).2
def ar5:Int:=v5 (abF a b c d e f g i j k l)[k8 0]? 0
def ar6:List avP:=(ahS a b c d e f g i j k l).1
def ar7:List avP:=(ahT a b c d e f g i j k l).1
def ar8:List avP:=(ahU a b c d e f g i j k l).1
def ar9:afa:=(ahV a b c d e f g i j k l).1
def asa:avO:=(ahW a b c d e f g i j k l).1
def asb:asY:=(ahW a b c d e f g i j k l).2
def asc:avO:=(ahR a b c d e f g i j k l).1
def asd:Bool:=allT [Lp.fin IX (ahP a b c d e f g i j k l),ltI 0 (↑(k9 (abF a b c d e f g i j k l)):Int),ltN (k8 0) (k9 (abF a b c d e f g i j k l))]
end
def aiR:awh
 | [.one ⟨true,[.val (.string a),.ref 0,.ref 1,.ref 2,.val (.string b),.ref 3]⟩,.one ⟨true,[.ref 4,.ref 5]⟩,.one ⟨false,[.ref 6]⟩,.one ⟨false,[.ref 7]⟩,.one ⟨false,[.val (.int .i64 c)]⟩],[.row true 9 (.str) d,.row true 9 (.str) e,.row true 9 (.str) f,.row true 142 (.pair (.str) (.sl 122 (.pair (.int .i64) (.pair (.str) (.int .i64))))) g,.row true 2 (.int .i64) i,.row true 109 (.pair (.int .i64) (.pair (.int .i64) (.int .i64))) j,.row true 2 (.int .i64) k,.row true 122 (.pair (.int .i64) (.pair (.str) (.int .i64))) l]=>some ⟨aBC (ar5 a b c d e f g i j k l),[aBJ (ar6 a b c d e f g i j k l),aBJ (ar7 a b c d e f g i j k l),aBJ (ar8 a b c d e f g i j k l),aBR (ar9 a b c d e f g i j k l),aBE (asa a b c d e f g i j k l),aBK (asb a b c d e f g i j k l),aBE (asc a b c d e f g i j k l),aBM l],[],[asd a b c d e f g i j k l]⟩
 |_,_=>none
def CG:PF prog:=PF.ofG prog (PF.mark prog::T3z [cY,fu,uF,xP]) [IX.F] aT 140 f140 func140 (LOk.fnT (l:= [bj f140 0]) (by kernel_rfl) (.cons ajG (.nil _))) aiR (by
 intro _ _ _ h;unfold aiR at h;split at h<;>cases h;kernel_rfl)
abbrev pV:=Int×Int×List (Int×(avP×Int))×List Int×avP×avP×List Int×List avP×List avP×List avP×List (avP×(List (Int×(avP×Int))))×List Int×List (Int×(Int×Int))
section
variable (a b:Int)(c:ajz)(d e:avO)(f g:List avP)(i:avO)(j:asY)
def cp:Int×avP×Int:=v5 c[k8 a]? ((0:Int),ByteArray.empty,(0:Int))
def va:Int:=v6 .i64 ((↑d.length:Int) - fT ((cp a c).1))
def dG:avO:=List.drop (k8 (va a c d)) (List.take (k8 (↑d.length:Int)) d)
def vb:avO:=List.drop (k8 0) (List.take (k8 (va a c d)) d)
def aK:Bool:=(cp a c).1==1
def aX:Bool:=(cp a c).1==2
def aY:Bool:=(cp a c).1==3
def aZ:Bool:=(cp a c).1==4
def lK:Bool:=ltI 0 (↑(k9 (dG a c d)):Int)
def lL:Bool:=ltN (k8 0) (k9 (dG a c d))
def bo:Bool:=(cp a c).1==5
def tY:Bool:=ltI 1 (↑(k9 (dG a c d)):Int)
def tZ:Bool:=ltN (k8 1) (k9 (dG a c d))
def dq:Bool:=(cp a c).1==6
def zl:Int:=v5 (dG a c d)[k8 0]? 0
def fe:Int×Int×Int:=v5 j[k8 b]? ((0:Int),(0:Int),(0:Int))
def bX:avO:= [bif aK a c then xQ (((cp a c).2).1) f g i e else bif aX a c then(1:Int)else bif aY a c then(0:Int)else bif aZ a c then v6 .i64 ((1:Int) - zl a c d)else bif bo a c then v6 .i64 (↑(BitVec.toNat (BitVec.ofInt (IntKind.bits IntKind.i64) (zl a c d)&&& BitVec.ofInt (IntKind.bits IntKind.i64) (v5 (dG a c d)[k8 1]? 0))):Int)else bif dq a c then v6 .i64 (↑(BitVec.toNat (BitVec.ofInt (IntKind.bits IntKind.i64) (zl a c d)||| BitVec.ofInt (IntKind.bits IntKind.i64) (v5 (dG a c d)[k8 1]? 0))):Int)else gP ((cp a c).1) ((cp a c).2.2) ((fe b j).1) (((fe b j).2).1) ((fe b j).2.2) (dG a c d)]
def fV:Bool:=ltI a (↑c.length:Int)
def pX:Bool:=leI 0 a
def pY:Bool:=ltN a.toNat c.length
def mU:Bool:=leI 0 (va a c d)
def mV:Bool:=leI (va a c d) (↑d.length:Int)
def pZ:Bool:=leI (↑d.length:Int) (↑d.length:Int)
def qa:Bool:=leN (k9 (dG a c d)) 1048576
end
def qb:Bool:=leI 0 0
section
variable (a b:Int)(c:ajz)(d e:avO)(f g:List avP)(i:avO)(j:asY)
def qc:Bool:=leN (k9 (vb a c d)) 1048576
def qd:Bool:= !aK a c||xR (((cp a c).2).1) f g i e
def nW:Bool:=aK a c||(aX a c||(aY a c||(!aZ a c||leI 0 0)))
def nX:Bool:=aK a c||(aX a c||(aY a c||(!aZ a c||lK a c d)))
def nY:Bool:=aK a c||(aX a c||(aY a c||(!aZ a c||lL a c d)))
def nZ:Bool:=aK a c||(aX a c||(aY a c||(aZ a c||(!bo a c||leI 0 0))))
def oa:Bool:=aK a c||(aX a c||(aY a c||(aZ a c||(!bo a c||lK a c d))))
def oc:Bool:=aK a c||(aX a c||(aY a c||(aZ a c||(!bo a c||lL a c d))))
def od:Bool:=aK a c||(aX a c||(aY a c||(aZ a c||(!bo a c||leI 0 1))))
def oe:Bool:=aK a c||(aX a c||(aY a c||(aZ a c||(!bo a c||tY a c d))))
def og:Bool:=aK a c||(aX a c||(aY a c||(aZ a c||(!bo a c||tZ a c d))))
def oh:Bool:=aK a c||(aX a c||(aY a c||(aZ a c||(bo a c||(!dq a c||leI 0 0)))))
def oi:Bool:=aK a c||(aX a c||(aY a c||(aZ a c||(bo a c||(!dq a c||lK a c d)))))
def oj:Bool:=aK a c||(aX a c||(aY a c||(aZ a c||(bo a c||(!dq a c||lL a c d)))))
def ol:Bool:=aK a c||(aX a c||(aY a c||(aZ a c||(bo a c||(!dq a c||leI 0 1)))))
def om:Bool:=aK a c||(aX a c||(aY a c||(aZ a c||(bo a c||(!dq a c||tY a c d)))))
def oo:Bool:=aK a c||(aX a c||(aY a c||(aZ a c||(bo a c||(!dq a c||tZ a c d)))))
def lE:Bool:=aK a c||(aX a c||(aY a c||(aZ a c||(bo a c||(dq a c||leI 0 b)))))
def lF:Bool:=aK a c||(aX a c||(aY a c||(aZ a c||(bo a c||(dq a c||ltI b (↑j.length:Int))))))
def lG:Bool:=aK a c||(aX a c||(aY a c||(aZ a c||(bo a c||(dq a c||ltN b.toNat j.length)))))
def oq:Bool:=aK a c||(aX a c||(aY a c||(aZ a c||(bo a c||(dq a c||nE (dG a c d))))))
def ot:Bool:=leN (k9 (vb a c d) + k9 (bX a b c d e f g i j)) 9223372036854775807
def ov:Bool:=leN ((k9 (vb a c d) + k9 (bX a b c d e f g i j)) * 8) 140737488355328
def lH:Int:=v6 .i64 (a + (1:Int))
def cZ:Int:=bif aK a c then b else bif aX a c then b else bif aY a c then b else bif aZ a c then b else bif bo a c then b else bif dq a c then b else v6 .i64 (b + (1:Int))
def lI:avO:=vb a c d++bX a b c d e f g i j
def lJ:avO:=bif aK a c then i else i
def da:asY:=bif aK a c then j else bif aX a c then j else bif aY a c then j else bif aZ a c then j else bif bo a c then j else bif dq a c then j else List.set j b.toNat (kT ((cp a c).1) ((cp a c).2.2) ((fe b j).1) (((fe b j).2).1) ((fe b j).2.2) (dG a c d),kU ((cp a c).1) (((fe b j).2).1) ((fe b j).2.2) (dG a c d),kV ((cp a c).1) ((cp a c).2.2) ((fe b j).1) ((fe b j).2.2) (dG a c d))
end
def ae0:pV→List (Nat×SV)
 |(a,b,_,_,_,_,_,_,_,_,_,_,_)=> [(12,(aBC a)),(3,(aBB (.ref 0))),(11,(aBB (.ref 1))),(5,(aBB (.ptr 2 0))),(6,(aBB (.ptr 3 0))),(2,(aBB (.ref 4))),(4,(aBC b))]
def aeX:pV→List (Nat×Entry)
 |(_,_,a,b,c,d,e,f,g,i,j,k,l)=> [(0,(aBG a)),(2,(.box 43 [.val (.string c),.ref 5,.ref 6,.ref 7,.val (.string d),.ref 8])),(3,(.box 50 [.ref 9,.ref 10])),(4,(aBF e)),(5,(aBD f)),(6,(aBD g)),(7,(aBD i)),(8,(aBI j)),(9,(aBE k)),(10,(aBK l)),(1,(aBE b))]
def ae6:Nat→pV→List (Nat×SV)
 |_,(_,_,_,_,_,_,_,_,_,_,_,_,_)=> [(11,(aBB (.ref 1)))]
def ae3:Nat→pV→List (Nat×Entry)
 |_,(_,_,a,b,c,d,e,f,g,i,j,k,l)=> [(0,(aBG a)),(1,(aBE b)),(2,(.box 43 [.val (.string c),.ref 5,.ref 6,.ref 7,.val (.string d),.ref 8])),(3,(.box 50 [.ref 9,.ref 10])),(4,(aBF e)),(5,(aBD f)),(6,(aBD g)),(7,(aBD i)),(8,(aBI j)),(9,(aBE k)),(10,(aBK l))]
def gO:pV→LT pV
 |(a,b,c,d,e,f,g,i,j,k,l,m,n)=> .ite (fV a c) (.need [pX a,fV a c,pY a c] (.need [mU a c d,mV a c d,pZ d,qa a c d] (.need [qb,mU a c d,mV a c d,qc a c d] (.need [qd a c g i j m,nW a c,nX a c d,nY a c d,nZ a c,oa a c d,oc a c d,od a c,oe a c d,og a c d,oh a c,oi a c d,oj a c d,ol a c,om a c d,oo a c d,lE a b c,lF a b c n,lG a b c n,oq a c d,lE a b c,lF a b c n,lG a b c n] (.need [ot a b c d g i j m n,ov a b c d g i j m n] (.nrm ((lH a),cZ a b c,c,lI a b c d g i j m n,e,f,g,i,j,k,l,lJ a c m,(da a b c d n)) [(0,0),(1,4544),(2,2),(3,3),(4,4),(5,5),(6,6),(7,7),(8,8),(9,9),(10,10)])))))) (.ext 0 [(0,0),(1,1),(2,2),(3,3),(4,4),(5,5),(6,6),(7,7),(8,8),(9,9),(10,10)])
def LI(s:St):Option pV:=do
 let some ⟨none,.one ⟨false,[.val (.int .i64 a)]⟩⟩:=s.look 12|none
 let some ⟨none,.one ⟨false,[.ref 7]⟩⟩:=s.look 3|none
 let some ⟨none,.one ⟨false,[.ref 768]⟩⟩:=s.look 11|none
 let some ⟨none,.one ⟨false,[.ptr 576 0]⟩⟩:=s.look 5|none
 let some ⟨none,.one ⟨false,[.ptr 640 0]⟩⟩:=s.look 6|none
 let some ⟨none,.one ⟨false,[.ref 6]⟩⟩:=s.look 2|none
 let some ⟨none,.one ⟨false,[.val (.int .i64 b)]⟩⟩:=s.look 4|none
 let some (.row false 122 (.pair (.int .i64) (.pair .str (.int .i64))) c):=s.ent 7|none
 let some (.box 43 [.val (.string e),.ref 0,.ref 1,.ref 2,.val (.string f),.ref 3]):=s.ent 576|none
 let some (.box 50 [.ref 4,.ref 5]):=s.ent 640|none
 let some (.row false 2 (.int .i64) g):=s.ent 6|none
 let some (.row false 9 (.str) i):=s.ent 0|none
 let some (.row false 9 (.str) j):=s.ent 1|none
 let some (.row false 9 (.str) k):=s.ent 2|none
 let some (.row false 142 (.pair .str (.sl 122 (.pair (.int .i64) (.pair .str (.int .i64))))) l):=s.ent 3|none
 let some (.row true 2 (.int .i64) m):=s.ent 4|none
 let some (.row true 109 (.pair (.int .i64) (.pair (.int .i64) (.int .i64))) n):=s.ent 5|none
 let some (.row true 2 (.int .i64) d):=s.ent 768|none
 some (a,b,c,d,e,f,g,i,j,k,l,m,n)
def bM:Lp pV where
 h:=⟨[20,21,22,23,26,27,28,29,13,30,31,32,33,34,35,14,36,37,38,39,15,40,41,42,43,11,16,44,45,66,65,67,68,69,70,71,72,74,73,76,75,78,77,79,80,81,82,84,83,85,86,87,88,89,90,91,93,92,94,95,96,97,98,99,100,47,48,49,50,51,52,53,54,46,55,56,18,17,57,58,59,60,61,62,63,64,4,101,102,103,104,24,25,12],[0,2,3,4,5,6,7,8,9,10],[1],[]⟩
 JL:=ae0
 JE:=aeX
 XL:=ae6
 XE:=ae3
 q:=fun j=>match j with | _=> .exit 0
 tags:= [0]
 lt:=gO
 fuel:=fun(a,b,c,d,e,f,g,i,k,l,m,n,o)=>a.natAbs + b.natAbs + c.length + d.length + e.size + f.size + g.length + i.length + k.length + l.length + m.length + n.length + o.length
 fix:=fun(_,_,c,_,e,f,g,i,k,l,m,_,_) (a,b,_,d,_,_,_,_,_,_,_,n,o)=>(a,b,c,d,e,f,g,i,k,l,m,n,o)
 σ:= [(0,7),(2,576),(3,640),(4,6),(5,0),(6,1),(7,2),(8,3),(9,4),(10,5),(1,768)]
 rd:=LI
theorem ac1:LoopOk prog (fun k=>Nat.blt k Tryz.f140.ntmps) bM.F (bj f140 0):=by
 refine Lp.ok (tbl:= (PF.mark prog::T3z [cY,fu,uF,xP])) (lf:= []) aT bM (by kernel_rfl) (LOk.nil _) (fun _=>rfl) (fun _ _=>rfl) ?_ ?_ ?_ ?_ (fun _=>rfl) ?_
 ·intro _;kernel_rfl
 ·intro _;kernel_rfl
 ·intro s x h
  have h:LI s=some x:=h
  unfold LI at h
  repeat' split at h
  all_goals cases h
  constructor<;>repeat(first|refine ab ‹_› rfl ?_|refine aa rfl ‹_› rfl ?_|rfl)
 ·intro _;kernel_rfl
 ·intro _ _;exact(And.intro rfl trivial)
section
variable (a b:avP)(c:Int)(d e f:List avP)(g:afZ)(i:avO)(j:asZ)(k:avO)(l:alv)
def Av:Int×Int×alv×avO×avP×avP×avO×List avP×List avP×List avP×afZ×avO×asZ:=((0:Int),c,l,[],a,b,k,d,e,f,g,i,j)
def Eo:avO×avP×avP×avO×List avP×List avP×List avP×afZ×avO×asZ:=(Lp.res bM (Av a b c d e f g i j k l)).2.2.2.2
def Ep:avO:=(Eo a b c d e f g i j k l).1
def JY:avO×asZ:=(Eo a b c d e f g i j k l).2.2.2.2.2.2.2.2
def Li:Int:=v5 (Ep a b c d e f g i j k l)[k8 0]? 0
def Lj:avO:=(JY a b c d e f g i j k l).1
def Lk:asY:=(JY a b c d e f g i j k l).2
def Ll:Bool:=allT [Lp.fin bM (Av a b c d e f g i j k l),ltI 0 (↑(k9 (Ep a b c d e f g i j k l)):Int),ltN (k8 0) (k9 (Ep a b c d e f g i j k l))]
end
def aav:awh
 | [.one ⟨true,[.val (.string a),.ref 0,.ref 1,.ref 2,.val (.string b),.ref 3]⟩,.one ⟨true,[.ref 4,.ref 5]⟩,.one ⟨false,[.ref 6]⟩,.one ⟨false,[.ref 7]⟩,.one ⟨false,[.val (.int .i64 c)]⟩],[.row false 9 (.str) d,.row false 9 (.str) e,.row false 9 (.str) f,.row false 142 (.pair .str (.sl 122 (.pair (.int .i64) (.pair .str (.int .i64))))) g,.row true 2 (.int .i64) i,.row true 109 (.pair (.int .i64) (.pair (.int .i64) (.int .i64))) j,.row false 2 (.int .i64) k,.row false 122 (.pair (.int .i64) (.pair .str (.int .i64))) l]=>some ⟨aBC (Li a b c d e f g i j k l),[aBD d,aBD e,aBD f,aBI g,aBE (Lj a b c d e f g i j k l),aBK (Lk a b c d e f g i j k l),aBF k,aBG l],[],[Ll a b c d e f g i j k l]⟩
 |_,_=>none
def qZ:PF prog:=PF.ofG prog (PF.mark prog::T3z [cY,fu,uF,xP]) [bM.F] aT 140 f140 func140 (LOk.fnT (l:= [bj f140 0]) (by kernel_rfl) (.cons ac1 (.nil _))) aav (by
 intro _ _ _ h;unfold aav at h;split at h<;>cases h;kernel_rfl)
abbrev tT:=Int×Int×Int×avP×avP×List avP×List avP×List avP×List (avP×(List (Int×(avP×Int))))
section
variable (a b c:Int)(d:afa)
def Er:alv:=(v5 d[k8 b]? (xS aa8)).2
def Ln:Bool:=leI 0 b
def Lo:Bool:=ltI b (↑d.length:Int)
def Lq:Bool:=ltN b.toNat d.length
def Ca:Bool:=ltI a (↑(k9 (Er b d)):Int)
def aa0:Bool:=leI 0 a
def aa1:Bool:=ltN a.toNat (k9 (Er b d))
def aa2:Int:=v6 .i64 (a + (1:Int))
def TL:Int:=bif leI 7 ((v5 (Er b d)[k8 a]? ((0:Int),ByteArray.empty,(0:Int))).1)then v6 .i64 (c + (1:Int))else c
end
def ah8:tT→List (Nat×SV)
 |(a,b,c,_,_,_,_,_,_)=> [(14,(aBC a)),(3,(aBB (.ptr 0 0))),(11,(aBC b)),(10,(aBC c))]
def ah2:tT→List (Nat×Entry)
 |(_,_,_,a,b,c,d,e,f)=> [(0,(.box 43 [.val (.string a),.ref 1,.ref 2,.ref 3,.val (.string b),.ref 4])),(1,(aBD c)),(2,(aBD d)),(3,(aBD e)),(4,(aBI f))]
def aik:Nat→tT→List (Nat×SV)
 |_,(_,_,a,_,_,_,_,_,_)=> [(10,(aBC a))]
def DZ:tT→LT tT
 |(a,b,c,d,e,f,g,i,j)=> .need [Ln b,Lo b j,Lq b j] (.ite (Ca a b j) (.need [Ln b,Lo b j,Lq b j,aa0 a,Ca a b j,aa1 a b j] (.nrm ((aa2 a),b,TL a b c j,d,e,f,g,i,j) [(0,0),(1,1),(2,2),(3,3),(4,4)])) (.ext 0 [(0,0),(1,1),(2,2),(3,3),(4,4)]))
def Rs(s:St):Option tT:=do
 let some ⟨none,.one ⟨false,[.val (.int .i64 a)]⟩⟩:=s.look 14|none
 let some ⟨none,.one ⟨false,[.ptr 0 0]⟩⟩:=s.look 3|none
 let some ⟨none,.one ⟨false,[.val (.int .i64 b)]⟩⟩:=s.look 11|none
 let some ⟨none,.one ⟨false,[.val (.int .i64 c)]⟩⟩:=s.look 10|none
 let some (.box 43 [.val (.string d),.ref 4,.ref 5,.ref 6,.val (.string e),.ref 7]):=s.ent 0|none
 let some (.row false 9 (.str) f):=s.ent 4|none
 let some (.row false 9 (.str) g):=s.ent 5|none
 let some (.row false 9 (.str) i):=s.ent 6|none
 let some (.row false 142 (.pair .str (.sl 122 (.pair (.int .i64) (.pair .str (.int .i64))))) j):=s.ent 7|none
 some (a,b,c,d,e,f,g,i,j)
def iv:Lp tT where
 h:=⟨[67,68,69,70,71,72,73,74,75,78,79,80,81,82,83,84,85,86,87,88,89,90,10,76,77,14],[0,1,2,3,4],[],[]⟩
 JL:=ah8
 JE:=ah2
 XL:=aik
 XE:=fun _=>ah2
 q:=fun j=>match j with | _=> .exit 2
 tags:= [0]
 lt:=DZ
 fuel:=fun(a,b,c,d,e,f,g,i,k)=>a.natAbs + b.natAbs + c.natAbs + d.size + e.size + f.length + g.length + i.length + k.length
 fix:=fun(_,b,_,d,e,f,g,i,k) (a,_,c,_,_,_,_,_,_)=>(a,b,c,d,e,f,g,i,k)
 σ:= [(0,0),(1,4),(2,5),(3,6),(4,7)]
 rd:=Rs
theorem af9:LoopOk prog (memN [21,22,23,24,25,28,29,30,31,32,33,34,35,36,37,38,12,39,40,41,42,43,44,45,46,47,13,48,49,50,51,52,53,54,55,56,57,58,59,60,61,62,63,64,65,66,14,67,68,69,70,71,72,73,74,75,78,79,80,81,82,83,84,85,86,87,88,89,90,10,76,77,26,27,11]) iv.F (afn (bj f102 0) 0):=by
 refine Lp.ok (tbl:= (T3z [cB,Fi,CG,fu,qZ])) (lf:= []) aT iv (by kernel_rfl) (LOk.nil _) (fun _=>rfl) (fun _ _=>rfl) ?_ ?_ ?_ ?_ (fun _=>rfl) ?_
 ·intro _;kernel_rfl
 ·intro _;kernel_rfl
 ·intro s x h
  have h:Rs s=some x:=h
  unfold Rs at h
  repeat' split at h
  all_goals cases h
  constructor<;>repeat(first|refine ab ‹_› rfl ?_|refine aa rfl ‹_› rfl ?_|rfl)
 ·intro _;kernel_rfl
 ·intro _ _;exact(And.intro rfl trivial)
abbrev zW:=Int×Int×avP×avP×List Int×List Int×List avP×List avP×List avP×List (avP×(List (Int×(avP×Int))))×List Int×List (Int×(Int×Int))
section
variable (a b:Int)(c d:avP)(e f:avO)(g i j:List avP)(k:afa)(l:avO)(m:asY)
def WQ:Bool:=ltI a (↑k.length:Int)
def WR:Bool:=ltN a.toNat k.length
def xM:avP×alv:=v5 k[k8 a]? (xS aa8)
def eY:Int:=eA i ((xM a k).1)
def EQ:avO:=Lj c d b g i j k l m e ((xM a k).2)
def ER:Int:=eA j ((xM a k).1)
def WS:Int×Int×Int×avP×avP×List avP×List avP×List avP×afZ:=((0:Int),a,b,c,d,g,i,j,k)
def PR:Int:=Li c d b g i j k l m e ((xM a k).2)
def Lm:Bool:=WQ a k
def YQ:Bool:=leI 0 a
def YR:Bool:=WR a k
def YS:Bool:=Ll c d b g i j k l m e ((xM a k).2)
def aeT:Bool:=leN i.length (9223372036854775807:Nat)
def YT:Bool:= !leI 0 (eY a i k)||leI 0 (eY a i k)
def YU:Bool:= !leI 0 (eY a i k)||ltI (eY a i k) (↑(k9 (EQ a b c d e g i j k l m)):Int)
def YV:Bool:= !leI 0 (eY a i k)||ltN (k8 (eY a i k)) (k9 (EQ a b c d e g i j k l m))
def YW:Bool:=leI 0 (eY a i k)||leI 0 a
def YX:Bool:=leI 0 (eY a i k)||WQ a k
def WH:Bool:=leI 0 (eY a i k)||WR a k
def WI:Bool:=leI 0 (eY a i k)||leN j.length (9223372036854775807:Nat)
def WJ:Bool:=leI 0 (eY a i k)||leI 0 (ER a j k)
def WK:Bool:=leI 0 (eY a i k)||ltI (ER a j k) (↑f.length:Int)
def WL:Bool:=leI 0 (eY a i k)||ltN (k8 (ER a j k)) f.length
def adQ:Bool:=Lp.fin iv (WS a b c d g i j k)
def adR:Int:=v6 .i64 (a + (1:Int))
def WM:Int:=((Lp.res iv (WS a b c d g i j k)).2.2.2).1
def WN:avO:=bif leI 0 (eY a i k)then f else List.set f (k8 (ER a j k)) (PR a b c d e g i j k l m)
def WO:avO:=bif leI 0 (eY a i k)then List.set (EQ a b c d e g i j k l m) (k8 (eY a i k)) (PR a b c d e g i j k l m)else EQ a b c d e g i j k l m
def WP:asY:=Lk c d b g i j k l m e ((xM a k).2)
end
def alW:zW→List (Nat×SV)
 |(a,b,_,_,_,_,_,_,_,_,_,_)=> [(11,(aBC a)),(3,(aBB (.ptr 0 0))),(8,(aBB (.ptr 1 0))),(2,(aBB (.ref 2))),(10,(aBC b)),(9,(aBB (.ref 3)))]
def alP:zW→List (Nat×Entry)
 |(_,_,a,b,c,d,e,f,g,i,j,k)=> [(0,(.box 43 [.val (.string a),.ref 4,.ref 5,.ref 6,.val (.string b),.ref 7])),(1,(.box 50 [.ref 8,.ref 9])),(2,(aBF c)),(3,(aBE d)),(4,(aBD e)),(5,(aBD f)),(6,(aBD g)),(7,(aBI i)),(8,(aBE j)),(9,(aBK k))]
def ama:Nat→zW→List (Nat×SV)
 |_,_=>[]
def Jc:zW→LT zW
 |(a,b,c,d,e,f,g,i,j,k,l,m)=> .ite (Lm a k) (.need [YQ a,Lm a k,YR a k,YS a b c d e g i j k l m] (.need [YQ a,Lm a k,YR a k,aeT i] (.need [YT a i k,YU a b c d e g i j k l m,YV a b c d e g i j k l m,YW a i k,YX a i k,WH a i k,WI a i j k,WJ a i j k,WK a f i j k,WL a f i j k] (.need [adQ a b c d g i j k] (.nrm ((adR a),WM a b c d g i j k,c,d,e,WN a b c d e f g i j k l m,g,i,j,k,WO a b c d e g i j k l m,(WP a b c d e g i j k l m)) [(0,0),(1,1),(2,2),(3,3),(4,4),(5,5),(6,6),(7,7),(8,8),(9,9)]))))) (.ext 0 [(0,0),(1,1),(2,2),(3,3),(4,4),(5,5),(6,6),(7,7),(8,8),(9,9)])
def Wu(s:St):Option zW:=do
 let some ⟨none,.one ⟨false,[.val (.int .i64 a)]⟩⟩:=s.look 11|none
 let some ⟨none,.one ⟨false,[.ptr 512 0]⟩⟩:=s.look 3|none
 let some ⟨none,.one ⟨false,[.ptr 896 0]⟩⟩:=s.look 8|none
 let some ⟨none,.one ⟨false,[.ref 6]⟩⟩:=s.look 2|none
 let some ⟨none,.one ⟨false,[.val (.int .i64 b)]⟩⟩:=s.look 10|none
 let some ⟨none,.one ⟨false,[.ref 1216]⟩⟩:=s.look 9|none
 let some (.box 43 [.val (.string c),.ref 0,.ref 1,.ref 2,.val (.string d),.ref 3]):=s.ent 512|none
 let some (.box 50 [.ref 832,.ref 833]):=s.ent 896|none
 let some (.row false 2 (.int .i64) e):=s.ent 6|none
 let some (.row true 2 (.int .i64) f):=s.ent 1216|none
 let some (.row false 9 (.str) g):=s.ent 0|none
 let some (.row false 9 (.str) i):=s.ent 1|none
 let some (.row false 9 (.str) j):=s.ent 2|none
 let some (.row false 142 (.pair .str (.sl 122 (.pair (.int .i64) (.pair .str (.int .i64))))) k):=s.ent 3|none
 let some (.row true 2 (.int .i64) l):=s.ent 832|none
 let some (.row true 109 (.pair (.int .i64) (.pair (.int .i64) (.int .i64))) m):=s.ent 833|none
 some (a,b,c,d,e,f,g,i,j,k,l,m)
def kZ:Lp zW where
 h:=⟨[21,22,23,24,25,28,29,30,31,32,33,34,35,36,37,38,12,39,40,41,42,43,44,45,46,47,13,48,49,50,51,52,53,54,55,56,57,58,59,60,61,62,63,64,65,66,14,67,68,69,70,71,72,73,74,75,78,79,80,81,82,83,84,85,86,87,88,89,90,10,76,77,26,27,11],[0,1,2,3,4,5,6,7,8,9],[],[]⟩
 JL:=alW
 JE:=alP
 XL:=ama
 XE:=fun _=>alP
 q:=fun j=>match j with | _=> .exit 0
 tags:= [0]
 lt:=Jc
 fuel:=fun(a,b,c,d,e,f,g,i,k,l,m,n)=>a.natAbs + b.natAbs + c.size + d.size + e.length + f.length + g.length + i.length + k.length + l.length + m.length + n.length
 fix:=fun(_,_,c,d,e,_,g,i,k,l,_,_) (a,b,_,_,_,f,_,_,_,_,m,n)=>(a,b,c,d,e,f,g,i,k,l,m,n)
 σ:= [(0,512),(1,896),(2,6),(3,1216),(4,0),(5,1),(6,2),(7,3),(8,832),(9,833)]
 rd:=Wu
theorem ajH:LoopOk prog (fun k=>Nat.blt k Tryz.f102.ntmps) kZ.F (bj f102 0):=by
 refine Lp.ok (tbl:= (T3z [cB,Fi,CG,fu,qZ])) (lf:= [iv.F]) aT kZ (by kernel_rfl) (LOk.allT (l:= [afn (bj f102 0) 0]) (by kernel_rfl) (.cons af9 (.nil _))) (fun _=>rfl) (fun _ _=>rfl) ?_ ?_ ?_ ?_ (fun _=>rfl) ?_
 ·intro _;kernel_rfl
 ·intro _;kernel_rfl
 ·intro s x h
  have h:Wu s=some x:=h
  unfold Wu at h
  repeat' split at h
  all_goals cases h
  constructor<;>repeat(first|refine ab ‹_› rfl ?_|refine aa rfl ‹_› rfl ?_|rfl)
 ·intro _;kernel_rfl
 ·intro _ _;exact(And.intro rfl trivial)
def Kv(a:avP):Bool:=
 !ByteArray.toList a==ByteArray.toList { data:= #[] }
section
variable (a b:avP)(c d e:List avP)(f:afZ)(g:avO)(i:asZ)(j:avO)
def VS:avO:=v7 (k8 (↑e.length:Int)) (0:Int)
def Ql:Int×Int×avP×avP×avO×avO×List avP×List avP×List avP×afZ×avO×asZ:=((0:Int),(0:Int),a,b,j,VS e,c,d,e,f,g,i)
def VT:avO×List avP×List avP×List avP×afZ×avO×asZ:=(Lp.res kZ (Ql a b c d e f g i j)).2.2.2.2.2.2
def VU:avO×asZ:=(VT a b c d e f g i j).2.2.2.2.2
def Kw:avO:=(VU a b c d e f g i j).1
def AM:Bool:=bif Kv b then xQ b c d (Kw a b c d e f g i j) j==0 else false
def VV:avO:=bif Kv b&&true then Kw a b c d e f g i j else Kw a b c d e f g i j
def VW:asZ:=(VU a b c d e f g i j).2
def VX:asZ:=bif Kv b&&true then VW a b c d e f g i j else VW a b c d e f g i j
def aaa:Bool:=leI (↑e.length:Int) (↑e.length:Int)
def aab:Bool:=leI ((↑(8:Nat):Int) * (↑e.length:Int)) 281474976710656
def adM:avO:=bif AM a b c d e f g i j then VS e else (VT a b c d e f g i j).1
def adN:avO:=bif AM a b c d e f g i j then VV a b c d e f g i j else VV a b c d e f g i j
def adO:asY:=bif AM a b c d e f g i j then VX a b c d e f g i j else VX a b c d e f g i j
def adP:Bool:=allT [aai g i,leI 0 (↑e.length:Int),aaa e,aab e,leI (↑e.length:Int) 9223372036854775807,Lp.fin kZ (Ql a b c d e f g i j),!(Kv b&&true)||xR b c d (Kw a b c d e f g i j) j,!AM a b c d e f g i j||leI 0 (↑e.length:Int),!AM a b c d e f g i j||aaa e,!AM a b c d e f g i j||aab e,!AM a b c d e f g i j||leI (↑e.length:Int) 9223372036854775807]
end
def aiS:awh
 | [.one ⟨true,[.val (.string a),.ref 0,.ref 1,.ref 2,.val (.string b),.ref 3]⟩,.one ⟨true,[.ref 4,.ref 5]⟩,.one ⟨false,[.ref 6]⟩],[.row false 9 (.str) c,.row false 9 (.str) d,.row false 9 (.str) e,.row false 142 (.pair (.str) (.sl 122 (.pair (.int .i64) (.pair (.str) (.int .i64))))) f,.row false 2 (.int .i64) g,.row false 109 (.pair (.int .i64) (.pair (.int .i64) (.int .i64))) i,.row false 2 (.int .i64) j]=>some ⟨.tup [⟨false,[.ref 7]⟩,⟨true,[.ref 8,.ref 9]⟩],[aBD c,aBD d,aBD e,aBH f,aBF g,aBN i,aBF j],[aBE (adM a b c d e f g i j),aBE (adN a b c d e f g i j),aBK (adO a b c d e f g i j)],[adP a b c d e f g i j]⟩
 |_,_=>none
def arU:PF prog:=PF.ofG prog (T3z [cB,Fi,CG,fu,qZ]) [kZ.F] aT 102 f102 func102 (LOk.fnT (l:= [bj f102 0]) (by kernel_rfl) (.cons ajH (.nil _))) aiS (by
 intro _ _ _ h;unfold aiS at h;split at h<;>cases h;kernel_rfl)
abbrev qh:=Int×List (Int×(avP×Int))×List Int×List (Int×(Int×Int))
section
variable (a:Int)(b:ajz)(c:asY)
def BZ:Int×avP×Int:=v5 b[k8 a]? ((0:Int),ByteArray.empty,(0:Int))
def xL:Int×Int×Int:=v5 c[k8 a]? ((0:Int),(0:Int),(0:Int))
def Dm:Bool:=ltI a (↑b.length:Int)
def Dn:Bool:=leI 0 a
def Hx:Bool:=ltN a.toNat b.length
def Hy:Bool:=ltI a (↑c.length:Int)
def Hz:Bool:=ltN a.toNat c.length
def HA:Bool:= !ed ((BZ a b).1) ((BZ a b).2.2) ((xL a c).1) (((xL a c).2).1) ((xL a c).2.2)
def HB:Int:=v6 .i64 (a + (1:Int))
end
def aiZ:qh→List (Nat×SV)
 |(a,_,_,_)=> [(6,(aBC a)),(5,(aBB (.ref 0))),(3,(aBB (.ptr 1 0)))]
def aiW:qh→List (Nat×Entry)
 |(_,a,b,c)=> [(0,(aBM a)),(1,(.box 50 [.ref 2,.ref 3])),(2,(aBF b)),(3,(aBN c))]
def ajj:Nat→qh→List (Nat×SV)
 |0,(_,_,_,_)=> [(4,(aBB (.val (.bool false))))]
 |_,_=>[]
def Fz:qh→LT qh
 |(a,b,c,d)=> .ite (Dm a b) (.need [Dn a,Dm a b,Hx a b,Dn a,Hy a d,Hz a d] (.ite (HA a b d) (.ext 0 [(0,0),(1,1),(2,2),(3,3)]) (.nrm ((HB a),b,c,d) [(0,0),(1,1),(2,2),(3,3)]))) (.ext 1 [(0,0),(1,1),(2,2),(3,3)])
def Ty(s:St):Option qh:=do
 let some ⟨none,.one ⟨false,[.val (.int .i64 a)]⟩⟩:=s.look 6|none
 let some ⟨none,.one ⟨false,[.ref 704]⟩⟩:=s.look 5|none
 let some ⟨none,.one ⟨false,[.ptr 512 0]⟩⟩:=s.look 3|none
 let some (.row true 122 (.pair (.int .i64) (.pair .str (.int .i64))) b):=s.ent 704|none
 let some (.box 50 [.ref 4,.ref 5]):=s.ent 512|none
 let some (.row false 2 (.int .i64) c):=s.ent 4|none
 let some (.row false 109 (.pair (.int .i64) (.pair (.int .i64) (.int .i64))) d):=s.ent 5|none
 some (a,b,c,d)
def fj:Lp qh where
 h:=⟨[24,25,26,27,30,31,32,33,34,35,36,37,38,39,40,4,28,29,6],[0,1,2,3],[],[]⟩
 JL:=aiZ
 JE:=aiW
 XL:=ajj
 XE:=fun _=>aiW
 q:=fun j=>match j with | 0=> .ret | _=> .exit 0
 tags:= [0,1]
 lt:=Fz
 fuel:=fun(a,b,c,d)=>a.natAbs + b.length + c.length + d.length
 fix:=fun(_,b,c,d) (a,_,_,_)=>(a,b,c,d)
 σ:= [(0,704),(1,512),(2,4),(3,5)]
 rd:=Ty
theorem ag0:LoopOk prog (fun k=>Nat.blt k Tryz.f61.ntmps) fj.F (bj f61 0):=by
 refine Lp.ok (tbl:= (T3z [ac9,xW,oU])) (lf:= []) aT fj (by kernel_rfl) (LOk.nil _) (fun _=>rfl) (fun j _=>by unfold fj;match j with | 0=>rfl | _ + 1=>rfl) ?_ ?_ ?_ ?_ (fun _=>rfl) ?_
 ·intro _;kernel_rfl
 ·intro _;kernel_rfl
 ·intro s x h
  have h:Ty s=some x:=h
  unfold Ty at h
  repeat' split at h
  all_goals cases h
  constructor<;>repeat(first|refine ab ‹_› rfl ?_|refine aa rfl ‹_› rfl ?_|rfl)
 ·intro _;kernel_rfl
 ·intro _ _;exact(And.intro (And.intro trivial rfl) trivial)
section
variable (a:List avP)(b:afZ)(c:avO)(d:asZ)
def GC:Bool:=(↑d.length:Int)!=(↑(k9 (blL b)):Int)
def Sb:Bool:=bif GC b d then true else !bitsB (↑a.length:Int) c
def Sc:Int×alv×avO×asZ:=((0:Int),blL b,c,d)
def Uv:Bool:=bif Sb a b c d then false else bif Nat.beq ((Lp.res fj (Sc b c d)).1) 0 then false else true
def Uw:Bool:=allT [Xc b,!(!GC b d&&true)||leN c.length (9223372036854775807:Nat),Sb a b c d||Lp.fin fj (Sc b c d)]
end
def afM:awh
 | [.one ⟨true,[.val (.string _x0),.ref 0,.ref 1,.ref 2,.val (.string _x1),.ref 3]⟩,.one ⟨true,[.ref 4,.ref 5]⟩],[.row false 9 (.str) a,.row false 9 (.str) b,.row false 9 (.str) c,.row false 142 (.pair (.str) (.sl 122 (.pair (.int .i64) (.pair (.str) (.int .i64))))) d,.row false 2 (.int .i64) e,.row false 109 (.pair (.int .i64) (.pair (.int .i64) (.int .i64))) f]=>some ⟨aBB (.val (.bool (Uv b d e f))),[aBD a,aBD b,aBD c,aBH d,aBF e,aBN f],[],[Uw b d e f]⟩
 |_,_=>none
def api:PF prog:=PF.ofG prog (T3z [ac9,xW,oU]) [fj.F] aT 61 f61 func61 (LOk.fnT (l:= [bj f61 0]) (by kernel_rfl) (.cons ag0 (.nil _))) afM (by
 intro _ _ _ h;unfold afM at h;split at h<;>cases h;kernel_rfl)
def pq(a:avO)(b:asZ):Bool:=allT [leN a.length (1048576:Nat),leN b.length (1048576:Nat)]
def DG:awh
 | [.one ⟨true,[.ref 0,.ref 1]⟩],[.row false 2 (.int .i64) a,.row false 109 (.pair (.int .i64) (.pair (.int .i64) (.int .i64))) b]=>some ⟨.one ⟨true,[.ref 2,.ref 3]⟩,[aBF a,aBN b],[aBE a,aBK b],[pq a b]⟩
 |_,_=>none
def Ed:PF prog:=PF.ofG prog (T3z [jE,ow]) [] aT 122 f122 func122 (fun c _=>LOk.nil c) DG (by
 intro _ _ _ h;unfold DG at h;split at h<;>cases h;kernel_rfl)
def Gr(a:avO)(b:List avP):Bool:= !bitsB (↑b.length:Int) a
def Nn(a:avO):Bool:=allT [leN a.length (9223372036854775807:Nat)]
def WW:awh
 | [.one ⟨false,[.ref 0]⟩,.one ⟨false,[.ptr 1 0]⟩],[.row false 2 (.int .i64) a,.box 43 [.val (.string b),.ref 2,.ref 3,.ref 4,.val (.string c),.ref 5],.row false 9 (.str) d,.row false 9 (.str) e,.row false 9 (.str) f,.row false 142 (.pair .str (.sl 122 (.pair (.int .i64) (.pair .str (.int .i64))))) g]=>some ⟨aBB (.val (.bool (Gr a d))),[aBF a,.box 43 [.val (.string b),.ref 2,.ref 3,.ref 4,.val (.string c),.ref 5],aBD d,aBD e,aBD f,aBI g],[],[Nn a]⟩
 |_,_=>none
def wF:PF prog:=PF.ofG prog (T3z [oT]) [] aT 104 f104 func104 (fun c _=>LOk.nil c) WW (by
 intro _ _ _ h;unfold WW at h;split at h<;>cases h;kernel_rfl)
abbrev cw:=Int×Int×avP×avP×List (List Int)×List avP×List avP×List avP×List (avP×(List (Int×(avP×Int))))
section
variable (a b:Int)(c:aup)(d:List avP)
def dP:avO:=v5 c[k8 a]? (xS agV)
def lh:Bool:=ltI a b
def qE:Bool:=leI 0 a
def qF:Bool:=ltI a (↑c.length:Int)
def qG:Bool:=ltN a.toNat c.length
def li:Bool:=Nn (dP a c)
def lj:Bool:=Gr (dP a c) d
def wD:Int:=v6 .i64 (a + (1:Int))
end
def QC:cw→List (Nat×SV)
 |(a,b,_,_,_,_,_,_,_)=> [(8,(aBC a)),(7,(aBC b)),(1,(aBB (.clo 104 [0]))),(0,(aBB (.ref 1)))]
def Qz:cw→List (Nat×Entry)
 |(_,_,a,b,c,d,e,f,g)=> [(0,(.box 43 [.val (.string a),.ref 2,.ref 3,.ref 4,.val (.string b),.ref 5])),(1,(aBT c)),(2,(aBD d)),(3,(aBD e)),(4,(aBD f)),(5,(aBI g))]
def QI:Nat→cw→List (Nat×SV)
 |0,(a,_,_,_,_,_,_,_,_)=> [(4,(aBC a))]
 |_,_=>[]
def kH:cw→LT cw
 |(a,b,c,d,e,f,g,i,j)=> .ite (lh a b) (.need [qE a,qF a e,qG a e,li a e] (.ite (lj a e f) (.ext 0 [(0,0),(1,1),(2,2),(3,3),(4,4),(5,5)]) (.nrm ((wD a),b,c,d,e,f,g,i,j) [(0,0),(1,1),(2,2),(3,3),(4,4),(5,5)]))) (.ext 1 [(0,0),(1,1),(2,2),(3,3),(4,4),(5,5)])
def vJ(s:St):Option cw:=do
 let some ⟨none,.one ⟨false,[.val (.int .i64 a)]⟩⟩:=s.look 8|none
 let some ⟨none,.one ⟨false,[.val (.int .i64 b)]⟩⟩:=s.look 7|none
 let some ⟨none,.one ⟨false,[.clo 104 [1]]⟩⟩:=s.look 1|none
 let some ⟨none,.one ⟨false,[.ref 0]⟩⟩:=s.look 0|none
 let some (.box 43 [.val (.string c),.ref 2,.ref 3,.ref 4,.val (.string d),.ref 5]):=s.ent 1|none
 let some (.row false 28 (.sl 2 (.int .i64)) e):=s.ent 0|none
 let some (.row false 9 (.str) f):=s.ent 2|none
 let some (.row false 9 (.str) g):=s.ent 3|none
 let some (.row false 9 (.str) i):=s.ent 4|none
 let some (.row false 142 (.pair .str (.sl 122 (.pair (.int .i64) (.pair .str (.int .i64))))) j):=s.ent 5|none
 some (a,b,c,d,e,f,g,i,j)
def aI:Lp cw where
 h:=⟨[9,10,5,11,12,13,14,15,16,17,4,18,8],[0,1,2,3,4,5],[],[]⟩
 JL:=QC
 JE:=Qz
 XL:=QI
 XE:=fun _=>Qz
 q:=fun j=>match j with | 0=> .ret | _=> .exit 0
 tags:= [0,1]
 lt:=kH
 fuel:=fun(a,b,c,d,e,f,g,i,k)=>a.natAbs + b.natAbs + c.size + d.size + e.length + f.length + g.length + i.length + k.length
 fix:=fun(_,b,c,d,e,f,g,i,k) (a,_,_,_,_,_,_,_,_)=>(a,b,c,d,e,f,g,i,k)
 σ:= [(0,1),(1,0),(2,2),(3,3),(4,4),(5,5)]
 rd:=vJ
theorem Po:LoopOk prog (fun k=>Nat.blt k Tryz.f128.ntmps) aI.F (bj f128 0):=by
 refine Lp.ok (tbl:= (T3z [wF])) (lf:= []) aT aI (by kernel_rfl) (LOk.nil _) (fun _=>rfl) (fun j _=>by unfold aI;match j with | 0=>rfl | _ + 1=>rfl) ?_ ?_ ?_ ?_ (fun _=>rfl) ?_
 ·intro _;kernel_rfl
 ·intro _;kernel_rfl
 ·intro s x h
  have h:vJ s=some x:=h
  unfold vJ at h
  repeat' split at h
  all_goals cases h
  constructor<;>repeat(first|refine ab ‹_› rfl ?_|refine aa rfl ‹_› rfl ?_|rfl)
 ·intro _;kernel_rfl
 ·intro _ _;exact(And.intro (And.intro trivial rfl) trivial)
section
variable (a:aup)(b c:avP)(d e f:List avP)(g:afZ)
def mS:Int×Int×avP×avP×aup×List avP×List avP×List avP×afZ:=((0:Int),(↑a.length:Int),b,c,a,d,e,f,g)
def si:Bool:=Nat.beq ((Lp.res aI (mS a b c d e f g)).1) 0
def zC:Int:=bif si a b c d e f g then ((Lp.res aI (mS a b c d e f g)).2).1else(-1:Int)
def Hi:avP:=bif si a b c d e f g then b else b
def Hj:avP:=bif si a b c d e f g then c else c
def zD:Bool:=allT [Lp.fin aI (mS a b c d e f g)]
end
def GM:awh
 | [.one ⟨false,[.ref 0]⟩,.one ⟨false,[.clo 104 [1]]⟩],[.row false 28 (.sl 2 (.int .i64)) a,.box 43 [.val (.string b),.ref 2,.ref 3,.ref 4,.val (.string c),.ref 5],.row false 9 (.str) d,.row false 9 (.str) e,.row false 9 (.str) f,.row false 142 (.pair .str (.sl 122 (.pair (.int .i64) (.pair .str (.int .i64))))) g]=>some ⟨aBC (zC a b c d e f g),[aBT a,.box 43 [.val (.string (Hi a b c d e f g)),.ref 2,.ref 3,.ref 4,.val (.string (Hj a b c d e f g)),.ref 5],aBD d,aBD e,aBD f,aBI g],[],[zD a b c d e f g]⟩
 |_,_=>none
def zx:PF prog:=PF.ofG prog (T3z [wF]) [aI.F] aT 128 f128 func128 (LOk.fnT (l:= [bj f128 0]) (by kernel_rfl) (.cons Po (.nil _))) GM (by
 intro _ _ _ h;unfold GM at h;split at h<;>cases h;kernel_rfl)
section
variable (a:aup)(b c:avP)(d e f:List avP)(g:afZ)
def qv:Bool:=leI 0 (zC a b c d e f g)
def Sk:avP:=Hi a b c d e f g
def Sl:avP:=Hj a b c d e f g
def qw:Bool:=allT [zD a b c d e f g]
end
def EY:awh
 | [.one ⟨false,[.ref 0]⟩,.one ⟨false,[.clo 104 [1]]⟩],[.row false 28 (.sl 2 (.int .i64)) a,.box 43 [.val (.string b),.ref 2,.ref 3,.ref 4,.val (.string c),.ref 5],.row false 9 (.str) d,.row false 9 (.str) e,.row false 9 (.str) f,.row false 142 (.pair .str (.sl 122 (.pair (.int .i64) (.pair .str (.int .i64))))) g]=>some ⟨aBB (.val (.bool (qv a b c d e f g))),[aBT a,.box 43 [.val (.string (Sk a b c d e f g)),.ref 2,.ref 3,.ref 4,.val (.string (Sl a b c d e f g)),.ref 5],aBD d,aBD e,aBD f,aBI g],[],[qw a b c d e f g]⟩
 |_,_=>none
def wz:PF prog:=PF.ofG prog (T3z [zx]) [] aT 85 f85 func85 (fun c _=>LOk.nil c) EY (by
 intro _ _ _ h;unfold EY at h;split at h<;>cases h;kernel_rfl)
def abl(a b:avP)(c d e:List avP)(f:afZ)(g:avO)(i:asZ)(j:aup):Int:=bif !dS a c d e b f then(1:Int)else bif bif !sy (↑d.length:Int) (blL f) g i then true else qv j a b c d e f then(2:Int)else(0:Int)
def abm(a b:avP)(c d e:List avP)(f:afZ)(g:avO)(i:asZ)(j:aup):Bool:=allT [Uc a c d e b f,!dS a c d e b f||Xc f,!dS a c d e b f||leN g.length (9223372036854775807:Nat)&&(leN (k9 (blL f)) 9223372036854775807&&XK (blL f)),!dS a c d e b f||(!(!!sy (↑d.length:Int) (blL f) g i&&true)||qw j a b c d e f)]
def ahl:awh
 | [.one ⟨true,[.val (.string a),.ref 0,.ref 1,.ref 2,.val (.string b),.ref 3]⟩,.one ⟨true,[.ref 4,.ref 5]⟩,.one ⟨false,[.ref 6]⟩],[.row false 9 (.str) c,.row false 9 (.str) d,.row false 9 (.str) e,.row false 142 (.pair (.str) (.sl 122 (.pair (.int .i64) (.pair (.str) (.int .i64))))) f,.row false 2 (.int .i64) g,.row false 109 (.pair (.int .i64) (.pair (.int .i64) (.int .i64))) i,.row false 28 (.sl 2 (.int .i64)) j]=>some ⟨aBC (abl a b c d e f g i j),[aBD c,aBD d,aBD e,aBH f,aBF g,aBN i,aBP j],[],[abm a b c d e f g i j]⟩
 |_,_=>none
def aqo:PF prog:=PF.ofG prog (T3z [kI,bz,aB,wz]) [] aT 58 f58 func58 (fun c _=>LOk.nil c) ahl (by
 intro _ _ _ h;unfold ahl at h;split at h<;>cases h;kernel_rfl)
section
variable (a b c:avP)(d:Int)(e f:List avP)(g:avO)(i:asZ)(j k:avO)
def my:Int:=bif leI 0 (eA e a)then v5 j[k8 (eA e a)]? 0 else v5 g[k8 (eA f a)]? 0
def Nq:avP:=bif leI 0 (eA e a)then b else b
def Nr:avP:=bif leI 0 (eA e a)then c else c
def Ns:Int:=bif leI 0 (eA e a)then d else d
def sZ:avO:=bif leI 0 (eA e a)then g else g
def ta:asY:=bif leI 0 (eA e a)then i else i
def tb:avO:=bif leI 0 (eA e a)then k else k
def mz:Bool:=allT [leN e.length (9223372036854775807:Nat),!leI 0 (eA e a)||leI 0 (eA e a),!leI 0 (eA e a)||ltI (eA e a) (↑j.length:Int),!leI 0 (eA e a)||ltN (k8 (eA e a)) j.length,leI 0 (eA e a)||leN f.length (9223372036854775807:Nat),leI 0 (eA e a)||leI 0 (eA f a),leI 0 (eA e a)||ltI (eA f a) (↑g.length:Int),leI 0 (eA e a)||ltN (k8 (eA f a)) g.length]
end
def Br:awh
 | [.one ⟨false,[.ptr 0 0]⟩,.one ⟨false,[.val (.string a)]⟩],[.box 165 [.val (.string b),.ref 1,.ref 2,.ref 3,.val (.string c),.ref 4,.ref 5,.ref 6,.ref 7,.ref 8,.val (.int .i64 d)],.row false 9 (.str) e,.row false 9 (.str) f,.row false 9 (.str) g,.row false 142 (.pair (.str) (.sl 122 (.pair (.int .i64) (.pair (.str) (.int .i64))))) i,.row true 2 (.int .i64) j,.row true 109 (.pair (.int .i64) (.pair (.int .i64) (.int .i64))) k,.row false 2 (.int .i64) l,.row true 2 (.int .i64) m]=>some ⟨aBC (my a e f j l),[.box 165 [.val (.string (Nq a b e)),.ref 1,.ref 2,.ref 3,.val (.string (Nr a c e)),.ref 4,.ref 5,.ref 6,.ref 7,.ref 8,axb (Ns a d e)],aBD e,aBD f,aBD g,aBH i,aBE (sZ a e j),aBK (ta a e k),aBF l,aBE (tb a e m)],[],[mz a e f j l]⟩
 |_,_=>none
def BE:PF prog:=PF.ofG prog [ft] [] aT 138 f138 func138 (fun c _=>LOk.nil c) Br (by
 intro _ _ _ h;unfold Br at h;split at h<;>cases h;kernel_rfl)
section
variable (a b c:avP)(d:Int)(e f:List avP)(g:avO)(i:asZ)(j:avO)
def sS:Int:=bif leI 0 (eA e a)then v5 j[k8 (eA e a)]? 0 else v5 g[k8 (eA f a)]? 0
def sU:avP:=bif leI 0 (eA e a)then b else b
def sV:avP:=bif leI 0 (eA e a)then c else c
def sW:Int:=bif leI 0 (eA e a)then d else d
def sX:asY:=bif leI 0 (eA e a)then i else i
def sY:Bool:=allT [leN e.length (9223372036854775807:Nat),!leI 0 (eA e a)||leI 0 (eA e a),!leI 0 (eA e a)||ltI (eA e a) (↑j.length:Int),!leI 0 (eA e a)||ltN (k8 (eA e a)) j.length,leI 0 (eA e a)||leN f.length (9223372036854775807:Nat),leI 0 (eA e a)||leI 0 (eA f a),leI 0 (eA e a)||ltI (eA f a) (↑g.length:Int),leI 0 (eA e a)||ltN (k8 (eA f a)) g.length]
end
def Bq:awh
 | [.one ⟨false,[.ptr 0 0]⟩,.one ⟨false,[.val (.string a)]⟩],[.box 165 [.val (.string b),.ref 1,.ref 2,.ref 3,.val (.string c),.ref 4,.ref 5,.ref 6,.ref 7,.ref 8,.val (.int .i64 d)],.row false 9 (.str) e,.row false 9 (.str) f,.row false 9 (.str) g,.row false 142 (.pair (.str) (.sl 122 (.pair (.int .i64) (.pair (.str) (.int .i64))))) i,.row false 2 (.int .i64) j,.row true 109 (.pair (.int .i64) (.pair (.int .i64) (.int .i64))) k,.row false 2 (.int .i64) l,.row false 2 (.int .i64) m]=>some ⟨aBC (sS a e f j l),[.box 165 [.val (.string (sU a b e)),.ref 1,.ref 2,.ref 3,.val (.string (sV a c e)),.ref 4,.ref 5,.ref 6,.ref 7,.ref 8,axb (sW a d e)],aBD e,aBD f,aBD g,aBH i,aBF j,aBK (sX a e k),aBF l,aBF m],[],[sY a e f j l]⟩
 |_,_=>none
def NB:PF prog:=PF.ofG prog [ft] [] aT 138 f138 func138 (fun c _=>LOk.nil c) Bq (by
 intro _ _ _ h;unfold Bq at h;split at h<;>cases h;kernel_rfl)
section
variable (a b c:Int)(d:avO)(e:asZ)
def aL:Int×Int×Int:=v5 e[k8 c]? ((0:Int),(0:Int),(0:Int))
def tJ:Int:=HT a b ((aL c e).1) (((aL c e).2).1) ((aL c e).2.2) d
def tK:Int:=v6 .i64 (c + (1:Int))
def tL:asY:=List.set e c.toNat (Fs a b ((aL c e).1) (((aL c e).2).1) ((aL c e).2.2) d,Ft a (((aL c e).2).1) ((aL c e).2.2) d,Fu a b ((aL c e).1) (((aL c e).2).1) ((aL c e).2.2) d)
def tM:Bool:=allT [leI 0 c,ltI c (↑e.length:Int),ltN c.toNat e.length,HU d,leI 0 c,ltI c (↑e.length:Int),ltN c.toNat e.length]
end
def Ch:awh
 | [.one ⟨false,[.ptr 0 0]⟩,.one ⟨true,[.val (.int .i64 a),.val (.string _x1),.val (.int .i64 b)]⟩,.one ⟨false,[.ref 1]⟩],[.box 165 [.val (.string c),.ref 2,.ref 3,.ref 4,.val (.string d),.ref 5,.ref 6,.ref 7,.ref 8,.ref 9,.val (.int .i64 e)],.row false 2 (.int .i64) f,.row false 9 (.str) g,.row false 9 (.str) i,.row false 9 (.str) j,.row false 142 (.pair (.str) (.sl 122 (.pair (.int .i64) (.pair (.str) (.int .i64))))) k,.row false 2 (.int .i64) l,.row true 109 (.pair (.int .i64) (.pair (.int .i64) (.int .i64))) m,.row false 2 (.int .i64) n,.row false 2 (.int .i64) o]=>some ⟨aBC (tJ a b e f m),[.box 165 [.val (.string c),.ref 2,.ref 3,.ref 4,.val (.string d),.ref 5,.ref 6,.ref 7,.ref 8,.ref 9,axb (tK e)],aBF f,aBD g,aBD i,aBD j,aBH k,aBF l,aBK (tL a b e f m),aBF n,aBF o],[],[tM e f m]⟩
 |_,_=>none
def OA:PF prog:=PF.ofG prog [aew] [] aT 193 f193 func193 (fun c _=>LOk.nil c) Ch (by
 intro _ _ _ h;unfold Ch at h;split at h<;>cases h;kernel_rfl)
section
variable (a:Int)(b:avP)(c:Int)(d e:avP)(f:Int)(g:avO)(i j:List avP)(k:avO)(l:asZ)(m:avO)
def mw:Int:=v5 g[k8 0]? 0
def de:Int:=bif a==1 then sS b i j k m else bif a==2 then(1:Int)else bif a==3 then(0:Int)else bif a==4 then v6 .i64 ((1:Int) - mw g)else bif a==5 then v6 .i64 (↑(BitVec.toNat (BitVec.ofInt (IntKind.bits IntKind.i64) (mw g)&&& BitVec.ofInt (IntKind.bits IntKind.i64) (v5 g[k8 1]? 0))):Int)else bif a==6 then v6 .i64 (↑(BitVec.toNat (BitVec.ofInt (IntKind.bits IntKind.i64) (mw g)||| BitVec.ofInt (IntKind.bits IntKind.i64) (v5 g[k8 1]? 0))):Int)else tJ a c f g l
def iN:avP:=bif a==1 then sU b d i else bif a==2 then d else bif a==3 then d else bif a==4 then d else bif a==5 then d else bif a==6 then d else d
def iO:avP:=bif a==1 then sV b e i else bif a==2 then e else bif a==3 then e else bif a==4 then e else bif a==5 then e else bif a==6 then e else e
def bQ:Int:=bif a==1 then sW b f i else bif a==2 then f else bif a==3 then f else bif a==4 then f else bif a==5 then f else bif a==6 then f else tK f
def bR:asY:=bif a==1 then sX b i l else bif a==2 then l else bif a==3 then l else bif a==4 then l else bif a==5 then l else bif a==6 then l else tL a c f g l
def bS:Bool:=allT [!a==1||sY b i j k m,a==1||(a==2||(a==3||(!a==4||leI 0 0))),a==1||(a==2||(a==3||(!a==4||ltI 0 (↑g.length:Int)))),a==1||(a==2||(a==3||(!a==4||ltN (k8 0) g.length))),a==1||(a==2||(a==3||(a==4||(!a==5||leI 0 0)))),a==1||(a==2||(a==3||(a==4||(!a==5||ltI 0 (↑g.length:Int))))),a==1||(a==2||(a==3||(a==4||(!a==5||ltN (k8 0) g.length)))),a==1||(a==2||(a==3||(a==4||(!a==5||leI 0 1)))),a==1||(a==2||(a==3||(a==4||(!a==5||ltI 1 (↑g.length:Int))))),a==1||(a==2||(a==3||(a==4||(!a==5||ltN (k8 1) g.length)))),a==1||(a==2||(a==3||(a==4||(a==5||(!a==6||leI 0 0))))),a==1||(a==2||(a==3||(a==4||(a==5||(!a==6||ltI 0 (↑g.length:Int)))))),a==1||(a==2||(a==3||(a==4||(a==5||(!a==6||ltN (k8 0) g.length))))),a==1||(a==2||(a==3||(a==4||(a==5||(!a==6||leI 0 1))))),a==1||(a==2||(a==3||(a==4||(a==5||(!a==6||ltI 1 (↑g.length:Int)))))),a==1||(a==2||(a==3||(a==4||(a==5||(!a==6||ltN (k8 1) g.length))))),a==1||(a==2||(a==3||(a==4||(a==5||(a==6||tM f g l)))))]
end
def Cj:awh
 | [.one ⟨false,[.ptr 0 0]⟩,.one ⟨true,[.val (.int .i64 a),.val (.string b),.val (.int .i64 c)]⟩,.one ⟨false,[.ref 1]⟩],[.box 165 [.val (.string d),.ref 2,.ref 3,.ref 4,.val (.string e),.ref 5,.ref 6,.ref 7,.ref 8,.ref 9,.val (.int .i64 f)],.row false 2 (.int .i64) g,.row false 9 (.str) i,.row false 9 (.str) j,.row false 9 (.str) k,.row false 142 (.pair (.str) (.sl 122 (.pair (.int .i64) (.pair (.str) (.int .i64))))) l,.row false 2 (.int .i64) m,.row true 109 (.pair (.int .i64) (.pair (.int .i64) (.int .i64))) n,.row false 2 (.int .i64) o,.row false 2 (.int .i64) p]=>some ⟨aBC (de a b c f g i j m n o),[.box 165 [.val (.string (iN a b d i)),.ref 2,.ref 3,.ref 4,.val (.string (iO a b e i)),.ref 5,.ref 6,.ref 7,.ref 8,.ref 9,axb (bQ a b f i)],aBF g,aBD i,aBD j,aBD k,aBH l,aBF m,aBK (bR a b c f g i n),aBF o,aBF p],[],[bS a b f g i j m n o]⟩
 |_,_=>none
def Cu:PF prog:=PF.ofG prog [NB,OA] [] aT 177 f177 func177 (fun c _=>LOk.nil c) Cj (by
 intro _ _ _ h;unfold Cj at h;split at h<;>cases h;kernel_rfl)
abbrev cF:=Int×Int×List (Int×(avP×Int))×List Int×avP×avP×Int×List avP×List avP×List avP×List (avP×(List (Int×(avP×Int))))×List Int×List (Int×(Int×Int))×List Int×List Int
section
variable (a b:Int)(c:ajz)(d:avO)(e f:avP)(g:Int)(i j:List avP)(k:avO)(l:asY)(m:avO)
def af:Int×avP×Int:=v5 c[k8 a]? ((0:Int),ByteArray.empty,(0:Int))
def be:Int:=v6 .i64 ((↑d.length:Int) - uW ((af a c).1))
def gt:avO:= [de ((af a c).1) (((af a c).2).1) ((af a c).2.2) g (List.drop (k8 (be a c d)) d) i j k l m]
def gF:Bool:=ltI a b
def gG:Bool:=leI 0 a
def gH:Bool:=ltI a (↑c.length:Int)
def gI:Bool:=ltN a.toNat c.length
def eM:Bool:=leI 0 (be a c d)
def eN:Bool:=leI (be a c d) (↑d.length:Int)
def gJ:Bool:=leN (k8 (be a c d)) d.length
def gK:Bool:=bS ((af a c).1) (((af a c).2).1) g (List.drop (k8 (be a c d)) d) i j k l m
def gL:Bool:=leN (k9 (List.take (k8 (be a c d)) d) + k9 (gt a c d g i j k l m)) 9223372036854775807
def gM:Bool:=leN ((k9 (List.take (k8 (be a c d)) d) + k9 (gt a c d g i j k l m)) * 8) 140737488355328
def gk:Int:=v6 .i64 (a + (1:Int))
def gm:avO:=List.take (k8 (be a c d)) d++gt a c d g i j k l m
def gn:avP:=iN ((af a c).1) (((af a c).2).1) e i
def gp:avP:=iO ((af a c).1) (((af a c).2).1) f i
def gq:Int:=bQ ((af a c).1) (((af a c).2).1) g i
def gr:asY:=bR ((af a c).1) (((af a c).2).1) ((af a c).2.2) g (List.drop (k8 (be a c d)) d) i l
end
def Kz:cF→List (Nat×SV)
 |(a,b,_,_,_,_,_,_,_,_,_,_,_,_,_)=> [(13,(aBC a)),(12,(aBC b)),(11,(aBB (.ref 0))),(4,(aBB (.ref 1))),(0,(aBB (.ptr 2 0)))]
def Ky:cF→List (Nat×Entry)
 |(_,_,a,b,c,d,e,f,g,i,j,k,l,m,n)=> [(0,(aBG a)),(2,(.box 165 [.val (.string c),.ref 3,.ref 4,.ref 5,.val (.string d),.ref 6,.ref 7,.ref 8,.ref 9,.ref 10,axb e])),(3,(aBD f)),(4,(aBD g)),(5,(aBD i)),(6,(aBI j)),(7,(aBE k)),(8,(aBK l)),(9,(aBF m)),(10,(aBE n)),(1,(aBE b))]
def KB:Nat→cF→List (Nat×SV)
 |_,(_,_,_,_,_,_,_,_,_,_,_,_,_,_,_)=> [(4,(aBB (.ref 1)))]
def KA:Nat→cF→List (Nat×Entry)
 |_,(_,_,a,b,c,d,e,f,g,i,j,k,l,m,n)=> [(0,(aBG a)),(1,(aBE b)),(2,(.box 165 [.val (.string c),.ref 3,.ref 4,.ref 5,.val (.string d),.ref 6,.ref 7,.ref 8,.ref 9,.ref 10,axb e])),(3,(aBD f)),(4,(aBD g)),(5,(aBD i)),(6,(aBI j)),(7,(aBE k)),(8,(aBK l)),(9,(aBF m)),(10,(aBE n))]
def gw:cF→LT cF
 |(a,b,c,d,e,f,g,i,j,k,l,m,n,o,p)=> .ite (gF a b) (.need [gG a,gH a c,gI a c] (.need [eM a c d,eN a c d,gJ a c d,gK a c d g i j m n o] (.need [eM a c d,eN a c d,gL a c d g i j m n o,gM a c d g i j m n o] (.nrm ((gk a),b,c,gm a c d g i j m n o,gn a c e i,gp a c f i,gq a c g i,i,j,k,l,m,gr a c d g i n,o,p) [(0,0),(1,1600),(2,2),(3,3),(4,4),(5,5),(6,6),(7,7),(8,8),(9,9),(10,10)])))) (.ext 0 [(0,0),(1,1),(2,2),(3,3),(4,4),(5,5),(6,6),(7,7),(8,8),(9,9),(10,10)])
def ra(s:St):Option cF:=do
 let some ⟨none,.one ⟨false,[.val (.int .i64 a)]⟩⟩:=s.look 13|none
 let some ⟨none,.one ⟨false,[.val (.int .i64 b)]⟩⟩:=s.look 12|none
 let some ⟨none,.one ⟨false,[.ref 1]⟩⟩:=s.look 11|none
 let some ⟨none,.one ⟨false,[.ref 768]⟩⟩:=s.look 4|none
 let some ⟨none,.one ⟨false,[.ptr 0 0]⟩⟩:=s.look 0|none
 let some (.row false 122 (.pair (.int .i64) (.pair .str (.int .i64))) c):=s.ent 1|none
 let some (.box 165 [.val (.string e),.ref 2,.ref 3,.ref 4,.val (.string f),.ref 5,.ref 6,.ref 7,.ref 8,.ref 9,.val (.int .i64 g)]):=s.ent 0|none
 let some (.row false 9 (.str) i):=s.ent 2|none
 let some (.row false 9 (.str) j):=s.ent 3|none
 let some (.row false 9 (.str) k):=s.ent 4|none
 let some (.row false 142 (.pair .str (.sl 122 (.pair (.int .i64) (.pair .str (.int .i64))))) l):=s.ent 5|none
 let some (.row true 2 (.int .i64) m):=s.ent 6|none
 let some (.row true 109 (.pair (.int .i64) (.pair (.int .i64) (.int .i64))) n):=s.ent 7|none
 let some (.row false 2 (.int .i64) o):=s.ent 8|none
 let some (.row true 2 (.int .i64) p):=s.ent 9|none
 let some (.row true 2 (.int .i64) d):=s.ent 768|none
 some (a,b,c,d,e,f,g,i,j,k,l,m,n,o,p)
def au:Lp cF where
 h:=⟨[14,15,16,6,17,18,19,20,21,22,7,23,24,25,26,27,28,8,29,30,31,32,33,34,4,35,13],[0,2,3,4,5,6,7,8,9,10],[1],[]⟩
 JL:=Kz
 JE:=Ky
 XL:=KB
 XE:=KA
 q:=fun j=>match j with | _=> .exit 0
 tags:= [0]
 lt:=gw
 fuel:=fun(a,b,c,d,e,f,g,i,k,l,m,n,o,p,r)=>a.natAbs + b.natAbs + c.length + d.length + e.size + f.size + g.natAbs + i.length + k.length + l.length + m.length + n.length + o.length + p.length + r.length
 fix:=fun(_,b,c,_,_,_,_,i,k,l,m,n,_,p,r) (a,_,_,d,e,f,g,_,_,_,_,_,o,_,_)=>(a,b,c,d,e,f,g,i,k,l,m,n,o,p,r)
 σ:= [(0,1),(2,0),(3,2),(4,3),(5,4),(6,5),(7,6),(8,7),(9,8),(10,9),(1,768)]
 rd:=ra
theorem Ke:LoopOk prog (fun k=>Nat.blt k Tryz.f137.ntmps) au.F (bj f137 0):=by
 refine Lp.ok (tbl:= [PF.views prog,ft,Ny,PF.lendBut 109 (PF.view Cu)]) (lf:= []) aT au (by kernel_rfl) (LOk.nil _) (fun _=>rfl) (fun _ _=>rfl) ?_ ?_ ?_ ?_ (fun _=>rfl) ?_
 ·intro _;kernel_rfl
 ·intro _;kernel_rfl
 ·intro s x h
  have h:ra s=some x:=h
  unfold ra at h
  repeat' split at h
  all_goals cases h
  constructor<;>repeat(first|refine ab ‹_› rfl ?_|refine aa rfl ‹_› rfl ?_|rfl)
 ·intro _;kernel_rfl
 ·intro _ _;exact(And.intro rfl trivial)
section
variable (a b c:avP)(d:Int)(e:alv)(f g i:List avP)(j:afZ)(k:avO)(l:asZ)(m n:avO)
def cV:Int×Int×alv×avO×avP×avP×Int×List avP×List avP×List avP×afZ×avO×asZ×avO×avO:=((0:Int),(↑e.length:Int),e,[],b,c,d,f,g,i,j,k,l,m,n)
def dZ:avO×avP×avP×Int×List avP×List avP×List avP×afZ×avO×asZ×avO×avO:=(Lp.res au (cV b c d e f g i j k l m n)).2.2.2.2
def ff:avP×avP×Int×List avP×List avP×List avP×afZ×avO×asZ×avO×avO:=(dZ b c d e f g i j k l m n).2
def ii:avP×Int×List avP×List avP×List avP×afZ×avO×asZ×avO×avO:=(ff b c d e f g i j k l m n).2
def mr:Int×List avP×List avP×List avP×afZ×avO×asZ×avO×avO:=(ii b c d e f g i j k l m n).2
def ij:avO:=(dZ b c d e f g i j k l m n).1
def mt:Int:=v5 (ij b c d e f g i j k l m n)[k8 0]? 0
def mu:Bool:=ltI 0 (↑(k9 (ij b c d e f g i j k l m n)):Int)
def mv:Bool:=ltN (k8 0) (k9 (ij b c d e f g i j k l m n))
def nx:avP:=(ff b c d e f g i j k l m n).1
def ny:avP:=(ii b c d e f g i j k l m n).1
def nz:Int:=(mr b c d e f g i j k l m n).1
def nA:avO:=bif leI 0 (eA g a)then List.set k (k8 (eA g a)) (mt b c d e f g i j k l m n)else k
def nB:asY:=((mr b c d e f g i j k l m n).2.2.2.2.2.2).1
def nC:avO:=bif leI 0 (eA g a)then n else List.set n (k8 (eA i a)) (mt b c d e f g i j k l m n)
def iM:Bool:=allT [Lp.fin au (cV b c d e f g i j k l m n),leN g.length (9223372036854775807:Nat),!leI 0 (eA g a)||leI 0 0,!leI 0 (eA g a)||mu b c d e f g i j k l m n,!leI 0 (eA g a)||mv b c d e f g i j k l m n,!leI 0 (eA g a)||leI 0 (eA g a),!leI 0 (eA g a)||ltI (eA g a) (↑k.length:Int),!leI 0 (eA g a)||ltN (k8 (eA g a)) k.length,leI 0 (eA g a)||leN i.length (9223372036854775807:Nat),leI 0 (eA g a)||leI 0 0,leI 0 (eA g a)||mu b c d e f g i j k l m n,leI 0 (eA g a)||mv b c d e f g i j k l m n,leI 0 (eA g a)||leI 0 (eA i a),leI 0 (eA g a)||ltI (eA i a) (↑n.length:Int),leI 0 (eA g a)||ltN (k8 (eA i a)) n.length]
end
def Ci:awh
 | [.one ⟨false,[.ptr 0 0]⟩,.one ⟨true,[.val (.string a),.ref 1]⟩],[.box 165 [.val (.string b),.ref 2,.ref 3,.ref 4,.val (.string c),.ref 5,.ref 6,.ref 7,.ref 8,.ref 9,.val (.int .i64 d)],.row false 122 (.pair (.int .i64) (.pair (.str) (.int .i64))) e,.row false 9 (.str) f,.row false 9 (.str) g,.row false 9 (.str) i,.row false 142 (.pair (.str) (.sl 122 (.pair (.int .i64) (.pair (.str) (.int .i64))))) j,.row true 2 (.int .i64) k,.row true 109 (.pair (.int .i64) (.pair (.int .i64) (.int .i64))) l,.row false 2 (.int .i64) m,.row true 2 (.int .i64) n]=>some ⟨.tup [],[.box 165 [.val (.string (nx b c d e f g i j k l m n)),.ref 2,.ref 3,.ref 4,.val (.string (ny b c d e f g i j k l m n)),.ref 5,.ref 6,.ref 7,.ref 8,.ref 9,axb (nz b c d e f g i j k l m n)],aBG e,aBD f,aBD g,aBD i,aBH j,aBE (nA a b c d e f g i j k l m n),aBK (nB b c d e f g i j k l m n),aBF m,aBE (nC a b c d e f g i j k l m n)],[],[iM a b c d e f g i j k l m n]⟩
 |_,_=>none
def Ct:PF prog:=PF.ofG prog [PF.views prog,ft,Ny,PF.lendBut 109 (PF.view Cu)] [au.F] aT 137 f137 func137 (LOk.fnT (l:= [bj f137 0]) (by kernel_rfl) (.cons Ke (.nil _))) Ci (by
 intro _ _ _ h;unfold Ci at h;split at h<;>cases h;kernel_rfl)
theorem asK{a b:Int}(ha:a=0∨a=1)(hb:b=0∨b=1):IntKind.i64.wrap ((BitVec.toNat (BitVec.ofInt (IntKind.bits IntKind.i64) a&&& BitVec.ofInt (IntKind.bits IntKind.i64) b):Nat):Int)=atr a b:=by
 rcases ha with rfl | rfl <;> rcases hb with rfl | rfl <;> rfl
theorem avk{a b:Int}(ha:a=0∨a=1)(hb:b=0∨b=1):IntKind.i64.wrap ((BitVec.toNat (BitVec.ofInt (IntKind.bits IntKind.i64) a||| BitVec.ofInt (IntKind.bits IntKind.i64) b):Nat):Int)=orI a b:=by
 rcases ha with rfl | rfl <;> rcases hb with rfl | rfl <;> rfl
theorem avg{a:Int}(ha:a=0∨a=1):IntKind.i64.wrap (1 - a)=1 - a:=by rcases ha with rfl | rfl <;> rfl
theorem Gn{l:List avP}{s:avP}(h:lM l s=true):eA l s=(EC l s:Int):=by simp only [eA,h,cond_true]
theorem aoy(s:avP)(ins vs:List avP)(inp xs:avO)(hr:Tz ins vs s=true)(h1:leN ins.length 9223372036854775807=true)(h2:leN vs.length 9223372036854775807=true)(hi:inp.length=ins.length)(hx:xs.length=vs.length):
  xQ s ins vs xs inp=nmV ins vs inp xs s∧xR s ins vs xs inp=true:=by
 cases h:lM ins s with
 |true=>
  have e:=Gn h
  have hp:=Pt h
  have l0:leI 0 (EC ins s:Int)=true:=bk (by omega)
  have l1:ltI (EC ins s:Int) (inp.length:Int)=true:=dw (by omega)
  have l2:ltN (EC ins s) inp.length=true:=eD (by omega)
  refine⟨?_,?_⟩
  ·simp only [xQ,nmV,h,e,l0,cond_true];rfl
  ·simp only [xR,e,l0,l1,l2,h1,h2,allT,q9,j8,Bool.true_or,cond_true]
 |false=>
  have hv:lM vs s=true:=by simpa [Tz,h] using hr
  have e0:leI 0 (eA ins s)=false:=by rw [Wd,h]
  have e:=Gn hv
  have hp:=Pt hv
  have l0:leI 0 (EC vs s:Int)=true:=bk (by omega)
  have l1:ltI (EC vs s:Int) (xs.length:Int)=true:=dw (by omega)
  have l2:ltN (EC vs s) xs.length=true:=eD (by omega)
  refine⟨?_,?_⟩
  ·simp only [xQ,nmV,h,e0,e,cond_false];rfl
  ·simp only [xR,e0,e,l0,l1,l2,h1,h2,allT,q9,j8,Bool.true_or,Bool.not_false,cond_true]
theorem atm(s:avP)(ins vs:List avP)(inp xs:avO):sS s ins vs xs inp=xQ s ins vs xs inp∧sY s ins vs xs inp=xR s ins vs xs inp:=⟨rfl,rfl⟩
theorem atn(s:avP)(ins vs:List avP)(inp xs:avO):my s ins vs xs inp=xQ s ins vs xs inp∧mz s ins vs xs inp=xR s ins vs xs inp:=⟨rfl,rfl⟩
structure TmOk (ins vs:List avP) (inp xs:avO) (t:TM) (ar:avO) (k:Nat) (ss:List BS3):Prop where
 hT:termB t.1 t.2.1 t.2.2=true
 ha:bitsB (takesK t.1) ar=true
 hu:usedB ins vs t=true
 h1:leN ins.length 9223372036854775807=true
 h2:leN vs.length 9223372036854775807=true
 hi:inp.length=ins.length
 hx:xs.length=vs.length
 hb:leI 7 t.1=true→k < ss.length∧possB t.1 t.2.2 (stAt ss k).1 (stAt ss k).2.1 (stAt ss k).2.2=true
 hs:ss.length≤100000
theorem aAa{ins vs:List avP}{inp xs:avO}{kd:Int}{nm:avP}{num:Int}{ar:avO}{k:Nat}{ss:List BS3}(h:TmOk ins vs inp xs (kd,nm,num) ar k ss)(hk:k≤ss.length)(u v:avP):
  de kd nm num (k:Int) ar ins vs xs ss inp=tmV ins vs inp xs (kd,nm,num) ar (stAt ss k)∧
  iN kd nm u ins=u∧iO kd nm v ins=v∧
  bQ kd nm (k:Int) ins=((bif leI 7 kd then k + 1 else k:Nat):Int)∧
  bR kd nm num (k:Int) ar ins ss=(bif leI 7 kd then ss.set k (Vu kd num ar (stAt ss k))else ss)∧
  bS kd nm (k:Int) ar ins vs xs ss inp=true:=by
 obtain⟨hT,ha,hu,h1,h2,hi,hx,hb,hs⟩:=h
 have hkk:=agn hT
 simp only at hT ha hu hb hkk
 have hbits:=(ct.1 ha).1
 have ru:=(ct.1 ha).2
 have a0:=OT hbits 0
 have a1:=OT hbits 1
 have hc:kd=1∨kd=2∨kd=3∨kd=4∨kd=5∨kd=6∨(7≤kd∧kd≤12):=by omega
 have c1: ∀ x:avP,sU nm x ins=x:=fun x=>j9 _ _
 have c2: ∀ x:avP,sV nm x ins=x:=fun x=>j9 _ _
 have c3: ∀ x:Int,sW nm x ins=x:=fun x=>j9 _ _
 have c4: ∀ x:List BS3,sX nm ins x=x:=fun x=>j9 _ _
 have z00:leI (0:Int) 0=true:=rfl
 have z01:leI (0:Int) 1=true:=rfl
 have e0:mw ar=atZ ar 0:=rfl
 have e1:v5 ar[k8 (1:Int)]? (0:Int)=atZ ar 1:=rfl
 rcases hc with rfl | rfl | rfl | rfl | rfl | rfl | hc
 ·have hr:Tz ins vs nm=true:=by simpa [usedB] using hu
  obtain⟨v1,v2⟩:=aoy nm ins vs inp xs hr h1 h2 hi hx
  have q:leI 7 (1:Int)=false:=rfl
  refine⟨?_,?_,?_,?_,?_,?_⟩
  ·simp [de,tmV,(atm nm ins vs inp xs).1,v1]
  ·simp [iN,c1]
  ·simp [iO,c2]
  ·simp [bQ,c3,q]
  ·simp [bR,c4,q]
  ·simp [bS,(atm nm ins vs inp xs).2,v2,allT]
 ·have q:leI 7 (2:Int)=false:=rfl
  refine⟨rfl,rfl,rfl,?_,?_,?_⟩
  ·simp [bQ,q]
  ·simp [bR,q]
  ·simp [bS,allT]
 ·have q:leI 7 (3:Int)=false:=rfl
  refine⟨rfl,rfl,rfl,?_,?_,?_⟩
  ·simp [bQ,q]
  ·simp [bR,q]
  ·simp [bS,allT]
 ·have q:leI 7 (4:Int)=false:=rfl
  have t:takesK 4=1:=rfl
  rw [t]at ru
  have s1:ltI 0 (ar.length:Int)=true:=dw (by omega)
  have s2:ltN (k8 0) ar.length=true:=eD (by simp only [Int.toNat_zero];omega)
  refine⟨?_,rfl,rfl,?_,?_,?_⟩
  ·simp [de,tmV,e0,avg a0]
  ·simp [bQ,q]
  ·simp [bR,q]
  ·simp only [bS,allT,z00,s1,s2];rfl
 ·have q:leI 7 (5:Int)=false:=rfl
  have t:takesK 5=2:=rfl
  rw [t]at ru
  have s1:ltI 0 (ar.length:Int)=true:=dw (by omega)
  have s2:ltN (k8 0) ar.length=true:=eD (by simp only [Int.toNat_zero];omega)
  have s3:ltI 1 (ar.length:Int)=true:=dw (by omega)
  have s4:ltN (k8 1) ar.length=true:=eD (by have:(k8 1)=1:=rfl;omega)
  refine⟨?_,rfl,rfl,?_,?_,?_⟩
  ·have:=asK a0 a1
   simp only [de,tmV,e0,e1,this];rfl
  ·simp [bQ,q]
  ·simp [bR,q]
  ·simp only [bS,allT,z00,z01,s1,s2,s3,s4];rfl
 ·have q:leI 7 (6:Int)=false:=rfl
  have t:takesK 6=2:=rfl
  rw [t]at ru
  have s1:ltI 0 (ar.length:Int)=true:=dw (by omega)
  have s2:ltN (k8 0) ar.length=true:=eD (by simp only [Int.toNat_zero];omega)
  have s3:ltI 1 (ar.length:Int)=true:=dw (by omega)
  have s4:ltN (k8 1) ar.length=true:=eD (by have:(k8 1)=1:=rfl;omega)
  refine⟨?_,rfl,rfl,?_,?_,?_⟩
  ·have:=avk a0 a1
   simp only [de,tmV,e0,e1,this];rfl
  ·simp [bQ,q]
  ·simp [bR,q]
  ·simp only [bS,allT,z00,z01,s1,s2,s3,s4];rfl
 ·have q:leI 7 kd=true:=bk hc.1
  obtain⟨b1,b2⟩:=hb q
  have hB:=adU (t:=(kd,nm,num)) hT q
  simp only at hB
  obtain⟨p0,p1,p2,p3,p4,p5,p6⟩:=aqG hB b2 ha
  have t1:(kd==1)=false:=by simp;omega
  have t2:(kd==2)=false:=by simp;omega
  have t3:(kd==3)=false:=by simp;omega
  have t4:(kd==4)=false:=by simp;omega
  have t5:(kd==5)=false:=by simp;omega
  have t6:(kd==6)=false:=by simp;omega
  have ca:aL (k:Int) ss=stAt ss k:=by simp only [aL,q9,stAt]
  have l0:leI 0 (k:Int)=true:=bk (by omega)
  have l1:ltI (k:Int) (ss.length:Int)=true:=dw (by omega)
  have l2:ltN k ss.length=true:=eD b1
  have hw:IntKind.i64.wrap ((k:Int) + 1)=((k + 1:Nat):Int):=by rw [aM (by omega) (by omega)];omega
  refine⟨?_,?_,?_,?_,?_,?_⟩
  ·simp only [de,tmV,t1,t2,t3,t4,t5,t6,cond_false,tJ,ca,p0,avI]
  ·simp only [iN,t1,t2,t3,t4,t5,t6,cond_false]
  ·simp only [iO,t1,t2,t3,t4,t5,t6,cond_false]
  ·simp only [bQ,t1,t2,t3,t4,t5,t6,cond_false,q,cond_true,tK,hw]
  ·simp only [bR,t1,t2,t3,t4,t5,t6,cond_false,q,cond_true,tL,ca,p1,p2,p3,Vu,q9]
  ·simp only [bS,t1,t2,t3,t4,t5,t6,tM,p4,l0,l1,l2,q9,allT,Bool.false_or,Bool.not_false,Bool.true_or,j8,cond_true]
theorem atK(ins vs:List avP)(inp xs:avO): ∀ (ts:List TM) (a:LS),ts.foldl (fun a t=>lnS ins vs inp xs t a) a=af3 ins vs inp xs ts a
 | [],a=>rfl
 |t::r,a=>by rw [List.foldl_cons,atK ins vs inp xs r];rfl
structure LineH (ins vs:List avP) (inp xs:avO) (pre post ts:List TM):Prop where
 hi:bitsB ins.length inp=true
 hx:bitsB vs.length xs=true
 ok: ∃ e,htT ts 0=some e
 hu:ts.all (usedB ins vs)=true
 hn:ts.length≤40
 hbl:(pre++blT ts++post).length≤2000
 h1:leN ins.length 9223372036854775807=true
 h2:leN vs.length 9223372036854775807=true
theorem LineH.tm{ins vs:List avP}{inp xs:avO}{pre post ts:List TM}(h:LineH ins vs inp xs pre post ts){i:Nat}{t:TM}{a:LS}(ht:ts[i]? =some t)(hI:ap6 pre post ts i a):
  TmOk ins vs inp xs t (a.1.drop (ltk t a.1)) a.2.2 a.2.1∧a.2.2≤a.2.1.length∧a.2.1.length≤2000∧(0≤takesK t.1∧takesK t.1≤a.1.length)∧a.1.length≤40∧ap6 pre post ts (i + 1) (lnS ins vs inp xs t a):=by
 obtain⟨e,ok⟩:=h.ok
 obtain⟨g1,g2,g3,g4,g5,g6,g7,g8,g9⟩:=aoZ (ins:=ins) (vs:=vs) h.hi h.hx ok ht hI
 have hi2:=(ct.1 h.hi).2
 have hx2:=(ct.1 h.hx).2
 have hil:=(k7.1 ht).1
 have hn:=h.hn
 have hbl:=h.hbl
 refine⟨⟨g3,g4,List.all_eq_true.1 h.hu t (List.mem_of_getElem? ht),h.h1,h.h2,by omega,by omega,fun h7=> ?_,by omega⟩,by omega,by omega,g1,by omega,g9⟩
 obtain⟨q1,q2⟩:=g6 h7
 exact⟨by omega,q2⟩
theorem ayQ{ins vs:List avP}{inp xs:avO}{pre post ts:List TM}(h:LineH ins vs inp xs pre post ts)(u v:avP)(os:List avP)(ls:List LN)(ou:avO)(ss:List BS3)(k:Nat)(h0:ap6 pre post ts 0 ([],ss,k)):
  au.fin ((0:Int),(ts.length:Int),ts,[],u,v,(k:Int),ins,vs,os,ls,xs,ss,inp,ou)=true∧
  au.res ((0:Int),(ts.length:Int),ts,[],u,v,(k:Int),ins,vs,os,ls,xs,ss,inp,ou)=
   (0,((ts.length:Int),(ts.length:Int),ts,(af3 ins vs inp xs ts ([],ss,k)).1,u,v,((af3 ins vs inp xs ts ([],ss,k)).2.2:Int),ins,vs,os,ls,xs,(af3 ins vs inp xs ts ([],ss,k)).2.1,inp,ou)):=by
 have nQ:=au.along2 (fun i (a:LS)=>((i:Int),(ts.length:Int),ts,a.1,u,v,(a.2.2:Int),ins,vs,os,ls,xs,a.2.1,inp,ou)) (fun x=>(x.2.2.2.1,x.2.2.2.2.2.2.2.2.2.2.2.2.1,x.2.2.2.2.2.2.1.toNat))
  (fun(t:TM) a=> .inr (lnS ins vs inp xs t a)) 0 (fun i a=>ap6 pre post ts i a) ts ([],ss,k) h0 (by have:=h.hn;omega) (fun i t a hb hI=> ?_) (fun a hI=> ?_)
 ·rw [TN (g:=fun a t=>lnS ins vs inp xs t a) (fun b a=>rfl),atK]at nQ
  simpa using nQ
 ·obtain⟨hm,hk,hs,htk,hst,hI2⟩:=h.tm hb hI
  have fC:=(k7.1 hb).1
  have hn:=h.hn
  have hw:IntKind.i64.wrap ((i:Int) + 1)=((i + 1:Nat):Int):=by rw [aM (by omega) (by omega)];omega
  obtain⟨kd,nm,num⟩:=t
  obtain⟨stk,ss',k'⟩:=a
  simp only at hk hs htk hst hm
  have g0:af (i:Int) ts=(kd,nm,num):=by simp only [af,q9,hb,Option.getD_some]
  have g1:be (i:Int) ts stk=((ltk (kd,nm,num) stk:Nat):Int):=by
   simp only [be,g0,awV,ltk]
   rw [aM (by omega) (by omega)];omega
  obtain⟨r0,r1,r2,r3,r4,r5⟩:=aAa hm hk u v
  have g2:gt (i:Int) ts stk (k':Int) ins vs xs ss' inp= [tmV ins vs inp xs (kd,nm,num) (stk.drop (ltk (kd,nm,num) stk)) (stAt ss' k')]:=by
   simp only [gt,g0,g1,q9,r0]
  have hlk:ltk (kd,nm,num) stk≤stk.length:=Nat.sub_le _ _
  have l0:ltI (i:Int) (ts.length:Int)=true:=dw (by omega)
  have l1:leI 0 (i:Int)=true:=bk (by omega)
  have l2:ltN i ts.length=true:=eD fC
  have l3:leI 0 ((ltk (kd,nm,num) stk:Nat):Int)=true:=bk (by omega)
  have l4:leI ((ltk (kd,nm,num) stk:Nat):Int) (stk.length:Int)=true:=bk (by omega)
  have l5:leN (ltk (kd,nm,num) stk) stk.length=true:=bx hlk
  have l6:leN ((List.take (ltk (kd,nm,num) stk) stk).length + 1) 9223372036854775807=true:=bx (by rw [j7];omega)
  have l7:leN (((List.take (ltk (kd,nm,num) stk) stk).length + 1) * 8) 140737488355328=true:=bx (by rw [j7];omega)
  refine⟨?_,?_,?_,fun a' hf=> ?_⟩
  ·simp only [gF,gG,gH,gI,eM,eN,gJ,gK,gL,gM,gk,gm,gn,gp,gq,gr,gw,au,LT.nds,allT,g0,g1,g2,r5,l0,l1,l2,l3,l4,l5,l6,l7,w5,q9,cond_true,Bool.and_self]
  ·simp only [gF,gG,gH,gI,eM,eN,gJ,gK,gL,gM,gk,gm,gn,gp,gq,gr,gw,au,LT.each,g0,g1,g2,r1,r2,r3,r4,l0,hw,q9,Bool.and_true,and_self]
  ·simp only [gF,gG,gH,gI,eM,eN,gJ,gK,gL,gM,gk,gm,gn,gp,gq,gr,gw,au,LT.fn,g0,g1,g2,r3,r4,l0,q9,cond_true,lnS]
  ·simp only [Sum.inr.injEq]at hf
   subst hf;exact hI2
 ·have fB:ltI (ts.length:Int) (ts.length:Int)=false:=IZ (by omega)
  simp [gF,gG,gH,gI,eM,eN,gJ,gK,gL,gM,gk,gm,gn,gp,gq,gr,gw,au,LT.out,fB]
theorem ayS{ins vs:List avP}{inp xs:avO}{pre post ts:List TM}(h:LineH ins vs inp xs pre post ts)(u v:avP)(os:List avP)(ls:List LN)(ss:List BS3)(k:Nat)(h0:ap6 pre post ts 0 ([],ss,k)):
  bM.fin ((0:Int),(k:Int),ts,[],u,v,inp,ins,vs,os,ls,xs,ss)=true∧
  bM.res ((0:Int),(k:Int),ts,[],u,v,inp,ins,vs,os,ls,xs,ss)=
   (0,((ts.length:Int),((af3 ins vs inp xs ts ([],ss,k)).2.2:Int),ts,(af3 ins vs inp xs ts ([],ss,k)).1,u,v,inp,ins,vs,os,ls,xs,(af3 ins vs inp xs ts ([],ss,k)).2.1)):=by
 have nQ:=bM.along2 (fun i (a:LS)=>((i:Int),(a.2.2:Int),ts,a.1,u,v,inp,ins,vs,os,ls,xs,a.2.1)) (fun x=>(x.2.2.2.1,x.2.2.2.2.2.2.2.2.2.2.2.2,x.2.1.toNat))
  (fun(t:TM) a=> .inr (lnS ins vs inp xs t a)) 0 (fun i a=>ap6 pre post ts i a) ts ([],ss,k) h0 (by have:=h.hn;omega) (fun i t a hb hI=> ?_) (fun a hI=> ?_)
 ·rw [TN (g:=fun a t=>lnS ins vs inp xs t a) (fun b a=>rfl),atK]at nQ
  simpa using nQ
 ·obtain⟨hm,hk,hs,htk,hst,hI2⟩:=h.tm hb hI
  have fC:=(k7.1 hb).1
  have hn:=h.hn
  have hw:IntKind.i64.wrap ((i:Int) + 1)=((i + 1:Nat):Int):=by rw [aM (by omega) (by omega)];omega
  obtain⟨kd,nm,num⟩:=t
  obtain⟨stk,ss',k'⟩:=a
  simp only at hk hs htk hst hm
  have g0:cp (i:Int) ts=(kd,nm,num):=by simp only [cp,q9,hb,Option.getD_some]
  have g1:va (i:Int) ts stk=((ltk (kd,nm,num) stk:Nat):Int):=by
   simp only [va,g0,show fT kd=takesK kd from rfl,ltk]
   rw [aM (by omega) (by omega)];omega
  have g2:dG (i:Int) ts stk=stk.drop (ltk (kd,nm,num) stk):=by
   simp only [dG,g1,q9,List.take_length]
  have g3:vb (i:Int) ts stk=stk.take (ltk (kd,nm,num) stk):=by
   simp only [vb,g1,q9,Int.toNat_zero,List.drop_zero]
  have q4:aK (i:Int) ts=(kd==1):=by simp only [aK,g0]
  have q5:aX (i:Int) ts=(kd==2):=by simp only [aX,g0]
  have q6:aY (i:Int) ts=(kd==3):=by simp only [aY,g0]
  have q7:aZ (i:Int) ts=(kd==4):=by simp only [aZ,g0]
  have q10:bo (i:Int) ts=(kd==5):=by simp only [bo,g0]
  have q13:dq (i:Int) ts=(kd==6):=by simp only [dq,g0]
  have q15:fe (k':Int) ss'=stAt ss' k':=by simp only [fe,q9,stAt]
  obtain⟨hT,ha,hu,h1,h2,hi,hx,hb7,hss⟩:=hm
  have hkk:=agn hT
  simp only at hT ha hu hb7 hkk
  have hbits:=(ct.1 ha).1
  have ru:=(ct.1 ha).2
  generalize hA:stk.drop (ltk (kd,nm,num) stk)=ar at g2 ha hbits ru
  have a0:=OT hbits 0
  have a1:=OT hbits 1
  have e14:zl (i:Int) ts stk=atZ ar 0:=by simp only [zl,g2];rfl
  have e1:v5 ar[k8 (1:Int)]? (0:Int)=atZ ar 1:=rfl
  have hlk:ltk (kd,nm,num) stk≤stk.length:=Nat.sub_le _ _
  have l0:ltI (i:Int) (ts.length:Int)=true:=dw (by omega)
  have l1:leI 0 (i:Int)=true:=bk (by omega)
  have l2:ltN i ts.length=true:=eD fC
  have l3:leI 0 ((ltk (kd,nm,num) stk:Nat):Int)=true:=bk (by omega)
  have l4:leI ((ltk (kd,nm,num) stk:Nat):Int) (stk.length:Int)=true:=bk (by omega)
  have l5:leI (stk.length:Int) (stk.length:Int)=true:=bk (by omega)
  have hal:ar.length≤40:=by rw [← hA,List.length_drop];omega
  have l6:leN ar.length 1048576=true:=bx (by omega)
  have l6b:leN (List.take (ltk (kd,nm,num) stk) stk).length 1048576=true:=bx (by rw [j7];omega)
  have l7:leN ((List.take (ltk (kd,nm,num) stk) stk).length + 1) 9223372036854775807=true:=bx (by rw [j7];omega)
  have l8:leN (((List.take (ltk (kd,nm,num) stk) stk).length + 1) * 8) 140737488355328=true:=bx (by rw [j7];omega)
  have z00:leI (0:Int) 0=true:=rfl
  have z01:leI (0:Int) 1=true:=rfl
  have c:lJ (i:Int) ts xs=xs:=j9 _ _
  have hfin:bX (i:Int) (k':Int) ts stk inp ins vs xs ss'= [tmV ins vs inp xs (kd,nm,num) ar (stAt ss' k')]∧
    cZ (i:Int) (k':Int) ts=((bif leI 7 kd then k' + 1 else k':Nat):Int)∧da (i:Int) (k':Int) ts stk ss'=(bif leI 7 kd then ss'.set k' (Vu kd num ar (stAt ss' k'))else ss')∧
    (bM.lt ((i:Int),(k':Int),ts,stk,u,v,inp,ins,vs,os,ls,xs,ss')).nds=true:=by
   have hc:kd=1∨kd=2∨kd=3∨kd=4∨kd=5∨kd=6∨(7≤kd∧kd≤12):=by omega
   have n29: ∀ z:Int,leN (k9 (List.take (ltk (kd,nm,num) stk) stk) + k9 [z]) 9223372036854775807=true:=fun z=>l7
   have n30: ∀ z:Int,leN ((k9 (List.take (ltk (kd,nm,num) stk) stk) + k9 [z]) * 8) 140737488355328=true:=fun z=>l8
   rcases hc with rfl | rfl | rfl | rfl | rfl | rfl | hc
   ·have hr:Tz ins vs nm=true:=by simpa [usedB] using hu
    obtain⟨v1,v2⟩:=aoy nm ins vs inp xs hr h1 h2 hi hx
    have hv:bX (i:Int) (k':Int) ts stk inp ins vs xs ss'= [tmV ins vs inp xs (1,nm,num) ar (stAt ss' k')]:=by simp [bX,tmV,q4,g0,v1]
    refine⟨hv,?_,?_,?_⟩
    ·simp [cZ,q4,show leI 7 (1:Int)=false from rfl]
    ·simp [da,q4,show leI 7 (1:Int)=false from rfl]
    ·simp only [fV,pX,pY,mU,mV,pZ,qa,qb,qc,qd,nW,nX,nY,nZ,oa,oc,od,oe,og,oh,oi,oj,ol,om,oo,lE,lF,lG,oq,ot,ov,lH,cZ,lI,lJ,da,gO,bM,LT.nds,allT,g0,g1,g2,g3,q4,q5,q6,q7,q10,q13,hv,v2,l0,l1,l2,l3,l4,l5,l6,l6b,n29,n30,z00,q9];rfl
   ·have hv:bX (i:Int) (k':Int) ts stk inp ins vs xs ss'= [tmV ins vs inp xs (2,nm,num) ar (stAt ss' k')]:=by simp [bX,tmV,q4,q5]
    refine⟨hv,?_,?_,?_⟩
    ·simp [cZ,q4,q5,show leI 7 (2:Int)=false from rfl]
    ·simp [da,q4,q5,show leI 7 (2:Int)=false from rfl]
    ·simp only [fV,pX,pY,mU,mV,pZ,qa,qb,qc,qd,nW,nX,nY,nZ,oa,oc,od,oe,og,oh,oi,oj,ol,om,oo,lE,lF,lG,oq,ot,ov,lH,cZ,lI,lJ,da,gO,bM,LT.nds,allT,g0,g1,g2,g3,q4,q5,q6,q7,q10,q13,hv,l0,l1,l2,l3,l4,l5,l6,l6b,n29,n30,z00,q9];rfl
   ·have hv:bX (i:Int) (k':Int) ts stk inp ins vs xs ss'= [tmV ins vs inp xs (3,nm,num) ar (stAt ss' k')]:=by simp [bX,tmV,q4,q5,q6]
    refine⟨hv,?_,?_,?_⟩
    ·simp [cZ,q4,q5,q6,show leI 7 (3:Int)=false from rfl]
    ·simp [da,q4,q5,q6,show leI 7 (3:Int)=false from rfl]
    ·simp only [fV,pX,pY,mU,mV,pZ,qa,qb,qc,qd,nW,nX,nY,nZ,oa,oc,od,oe,og,oh,oi,oj,ol,om,oo,lE,lF,lG,oq,ot,ov,lH,cZ,lI,lJ,da,gO,bM,LT.nds,allT,g0,g1,g2,g3,q4,q5,q6,q7,q10,q13,hv,l0,l1,l2,l3,l4,l5,l6,l6b,n29,n30,z00,q9];rfl
   ·have t:takesK 4=1:=rfl
    rw [t]at ru
    have s1:lK (i:Int) ts stk=true:=by simp only [lK,g2];exact dw (by omega)
    have s2:lL (i:Int) ts stk=true:=by simp only [lL,g2];exact eD (by simp only [Int.toNat_zero];omega)
    have hv:bX (i:Int) (k':Int) ts stk inp ins vs xs ss'= [tmV ins vs inp xs (4,nm,num) ar (stAt ss' k')]:=by simp [bX,tmV,q4,q5,q6,q7,e14,avg a0]
    refine⟨hv,?_,?_,?_⟩
    ·simp [cZ,q4,q5,q6,q7,show leI 7 (4:Int)=false from rfl]
    ·simp [da,q4,q5,q6,q7,show leI 7 (4:Int)=false from rfl]
    ·simp only [fV,pX,pY,mU,mV,pZ,qa,qb,qc,qd,nW,nX,nY,nZ,oa,oc,od,oe,og,oh,oi,oj,ol,om,oo,lE,lF,lG,oq,ot,ov,lH,cZ,lI,lJ,da,gO,bM,LT.nds,allT,g0,g1,g2,g3,q4,q5,q6,q7,q10,q13,s1,s2,hv,l0,l1,l2,l3,l4,l5,l6,l6b,n29,n30,z00,q9];rfl
   ·have t:takesK 5=2:=rfl
    rw [t]at ru
    have s1:lK (i:Int) ts stk=true:=by simp only [lK,g2];exact dw (by omega)
    have s2:lL (i:Int) ts stk=true:=by simp only [lL,g2];exact eD (by simp only [Int.toNat_zero];omega)
    have s3:tY (i:Int) ts stk=true:=by simp only [tY,g2];exact dw (by omega)
    have s4:tZ (i:Int) ts stk=true:=by simp only [tZ,g2];exact eD (by have:(k8 1)=1:=rfl;omega)
    have hv:bX (i:Int) (k':Int) ts stk inp ins vs xs ss'= [tmV ins vs inp xs (5,nm,num) ar (stAt ss' k')]:=by
     have:=asK a0 a1
     simp only [bX,tmV,q4,q5,q6,q7,q10,e14,g2,e1,this];rfl
    refine⟨hv,?_,?_,?_⟩
    ·simp [cZ,q4,q5,q6,q7,q10,show leI 7 (5:Int)=false from rfl]
    ·simp [da,q4,q5,q6,q7,q10,show leI 7 (5:Int)=false from rfl]
    ·simp only [fV,pX,pY,mU,mV,pZ,qa,qb,qc,qd,nW,nX,nY,nZ,oa,oc,od,oe,og,oh,oi,oj,ol,om,oo,lE,lF,lG,oq,ot,ov,lH,cZ,lI,lJ,da,gO,bM,LT.nds,allT,g0,g1,g2,g3,q4,q5,q6,q7,q10,q13,s1,s2,s3,s4,hv,l0,l1,l2,l3,l4,l5,l6,l6b,n29,n30,z00,z01,q9];rfl
   ·have t:takesK 6=2:=rfl
    rw [t]at ru
    have s1:lK (i:Int) ts stk=true:=by simp only [lK,g2];exact dw (by omega)
    have s2:lL (i:Int) ts stk=true:=by simp only [lL,g2];exact eD (by simp only [Int.toNat_zero];omega)
    have s3:tY (i:Int) ts stk=true:=by simp only [tY,g2];exact dw (by omega)
    have s4:tZ (i:Int) ts stk=true:=by simp only [tZ,g2];exact eD (by have:(k8 1)=1:=rfl;omega)
    have hv:bX (i:Int) (k':Int) ts stk inp ins vs xs ss'= [tmV ins vs inp xs (6,nm,num) ar (stAt ss' k')]:=by
     have:=avk a0 a1
     simp only [bX,tmV,q4,q5,q6,q7,q10,q13,e14,g2,e1,this];rfl
    refine⟨hv,?_,?_,?_⟩
    ·simp [cZ,q4,q5,q6,q7,q10,q13,show leI 7 (6:Int)=false from rfl]
    ·simp [da,q4,q5,q6,q7,q10,q13,show leI 7 (6:Int)=false from rfl]
    ·simp only [fV,pX,pY,mU,mV,pZ,qa,qb,qc,qd,nW,nX,nY,nZ,oa,oc,od,oe,og,oh,oi,oj,ol,om,oo,lE,lF,lG,oq,ot,ov,lH,cZ,lI,lJ,da,gO,bM,LT.nds,allT,g0,g1,g2,g3,q4,q5,q6,q7,q10,q13,s1,s2,s3,s4,hv,l0,l1,l2,l3,l4,l5,l6,l6b,n29,n30,z00,z01,q9];rfl
   ·have q:leI 7 kd=true:=bk hc.1
    obtain⟨b1,b2⟩:=hb7 q
    have hB:=adU (t:=(kd,nm,num)) hT q
    simp only at hB
    obtain⟨p0,p1,p2,p3,p4,p5,p6⟩:=aqG hB b2 ha
    have t1:(kd==1)=false:=by simp;omega
    have t2:(kd==2)=false:=by simp;omega
    have t3:(kd==3)=false:=by simp;omega
    have t4:(kd==4)=false:=by simp;omega
    have t5:(kd==5)=false:=by simp;omega
    have t6:(kd==6)=false:=by simp;omega
    have m0:leI 0 (k':Int)=true:=bk (by omega)
    have m1:ltI (k':Int) (ss'.length:Int)=true:=dw (by omega)
    have m2:ltN k' ss'.length=true:=eD b1
    have hw2:IntKind.i64.wrap ((k':Int) + 1)=((k' + 1:Nat):Int):=by rw [aM (by omega) (by omega)];omega
    have hv:bX (i:Int) (k':Int) ts stk inp ins vs xs ss'= [tmV ins vs inp xs (kd,nm,num) ar (stAt ss' k')]:=by
     simp only [bX,tmV,q4,q5,q6,q7,q10,q13,t1,t2,t3,t4,t5,t6,cond_false,g0,q15,g2,avI]
    refine⟨hv,?_,?_,?_⟩
    ·simp only [cZ,q4,q5,q6,q7,q10,q13,t1,t2,t3,t4,t5,t6,cond_false,q,cond_true,hw2]
    ·simp only [da,q4,q5,q6,q7,q10,q13,t1,t2,t3,t4,t5,t6,cond_false,q,cond_true,g0,q15,g2,Vu,q9]
    ·simp only [fV,pX,pY,mU,mV,pZ,qa,qb,qc,qd,nW,nX,nY,nZ,oa,oc,od,oe,og,oh,oi,oj,ol,om,oo,lE,lF,lG,oq,ot,ov,lH,cZ,lI,lJ,da,gO,bM,LT.nds,allT,g0,g1,g2,g3,q4,q5,q6,q7,q10,q13,t1,t2,t3,t4,t5,t6,hv,p5,m0,m1,m2,l0,l1,l2,l3,l4,l5,l6,l6b,n29,n30,z00,z01,q9];rfl
  obtain⟨f1,f2,f3,f4⟩:=hfin
  refine⟨f4,?_,?_,fun a' hf=> ?_⟩
  ·have c31:lH (i:Int)=((i + 1:Nat):Int):=hw
   have c0:fV (i:Int) ts=true:=l0
   simp only [bM,gO,LT.each,c0,c31,f2,c,q9]
   simp
  ·have c0:fV (i:Int) ts=true:=l0
   simp only [bM,gO,LT.fn,c0,cond_true,lI,f1,f2,f3,g3,q9,lnS,hA]
  ·simp only [Sum.inr.injEq]at hf
   subst hf;exact hI2
 ·have fB:fV (ts.length:Int) ts=false:=IZ (by omega)
  simp only [bM,gO,LT.out,fB]
  rfl
abbrev dx:=Int×Int×List (avP×(List (Int×(avP×Int))))×avP×avP×Int×List avP×List avP×List avP×List Int×List (Int×(Int×Int))×List Int×List Int
section
variable (a b:Int)(c:afa)(d e:avP)(f:Int)(g i j:List avP)(k:avO)(l:asY)(m n:avO)
def bf:avP×alv:=v5 c[k8 a]? (xS aa8)
def jn:Bool:=ltI a b
def jo:Bool:=leI 0 a
def jp:Bool:=ltI a (↑c.length:Int)
def jq:Bool:=ltN a.toNat c.length
def jr:Bool:=iM ((bf a c).1) d e f ((bf a c).2) g i j c k l m n
def jt:Int:=v6 .i64 (a + (1:Int))
def ju:avP:=nx d e f ((bf a c).2) g i j c k l m n
def jv:avP:=ny d e f ((bf a c).2) g i j c k l m n
def jw:Int:=nz d e f ((bf a c).2) g i j c k l m n
def jx:avO:=nA ((bf a c).1) d e f ((bf a c).2) g i j c k l m n
def iK:asY:=nB d e f ((bf a c).2) g i j c k l m n
def iL:avO:=nC ((bf a c).1) d e f ((bf a c).2) g i j c k l m n
end
def On:dx→List (Nat×SV)
 |(a,b,_,_,_,_,_,_,_,_,_,_,_)=> [(24,(aBC a)),(23,(aBC b)),(22,(aBB (.ref 0))),(8,(aBB (.ptr 1 0)))]
def Ok:dx→List (Nat×Entry)
 |(_,_,a,b,c,d,e,f,g,i,j,k,l)=> [(0,(aBI a)),(1,(.box 165 [.val (.string b),.ref 2,.ref 3,.ref 4,.val (.string c),.ref 0,.ref 5,.ref 6,.ref 7,.ref 8,axb d])),(2,(aBD e)),(3,(aBD f)),(4,(aBD g)),(5,(aBE i)),(6,(aBK j)),(7,(aBF k)),(8,(aBE l))]
def Ow:Nat→dx→List (Nat×SV)
 |_,_=>[]
def iR:dx→LT dx
 |(a,b,c,d,e,f,g,i,j,k,l,m,n)=> .ite (jn a b) (.need [jo a,jp a c,jq a c] (.need [jr a c d e f g i j k l m n] (.nrm ((jt a),b,c,ju a c d e f g i j k l m n,jv a c d e f g i j k l m n,jw a c d e f g i j k l m n,g,i,j,jx a c d e f g i j k l m n,iK a c d e f g i j k l m n,m,(iL a c d e f g i j k l m n)) [(0,0),(1,1),(2,2),(3,3),(4,4),(5,5),(6,6),(7,7),(8,8)]))) (.ext 0 [(0,0),(1,1),(2,2),(3,3),(4,4),(5,5),(6,6),(7,7),(8,8)])
def tR(s:St):Option dx:=do
 let some ⟨none,.one ⟨false,[.val (.int .i64 a)]⟩⟩:=s.look 24|none
 let some ⟨none,.one ⟨false,[.val (.int .i64 b)]⟩⟩:=s.look 23|none
 let some ⟨none,.one ⟨false,[.ref 3]⟩⟩:=s.look 22|none
 let some ⟨none,.one ⟨false,[.ptr 1344 0]⟩⟩:=s.look 8|none
 let some (.row false 142 (.pair .str (.sl 122 (.pair (.int .i64) (.pair .str (.int .i64))))) c):=s.ent 3|none
 let some (.box 165 [.val (.string d),.ref 0,.ref 1,.ref 2,.val (.string e),.ref 3,.ref 896,.ref 897,.ref 6,.ref 1216,.val (.int .i64 f)]):=s.ent 1344|none
 let some (.row false 9 (.str) g):=s.ent 0|none
 let some (.row false 9 (.str) i):=s.ent 1|none
 let some (.row false 9 (.str) j):=s.ent 2|none
 let some (.row true 2 (.int .i64) k):=s.ent 896|none
 let some (.row true 109 (.pair (.int .i64) (.pair (.int .i64) (.int .i64))) l):=s.ent 897|none
 let some (.row false 2 (.int .i64) m):=s.ent 6|none
 let some (.row true 2 (.int .i64) n):=s.ent 1216|none
 some (a,b,c,d,e,f,g,i,j,k,l,m,n)
def aS:Lp dx where
 h:=⟨[25,26,27,10,28,29,30,31,24],[0,1,2,3,4,5,6,7,8],[],[]⟩
 JL:=On
 JE:=Ok
 XL:=Ow
 XE:=fun _=>Ok
 q:=fun j=>match j with | _=> .exit 0
 tags:= [0]
 lt:=iR
 fuel:=fun(a,b,c,d,e,f,g,i,k,l,m,n,o)=>a.natAbs + b.natAbs + c.length + d.size + e.size + f.natAbs + g.length + i.length + k.length + l.length + m.length + n.length + o.length
 fix:=fun(_,b,c,_,_,_,g,i,k,_,_,n,_) (a,_,_,d,e,f,_,_,_,l,m,_,o)=>(a,b,c,d,e,f,g,i,k,l,m,n,o)
 σ:= [(0,3),(1,1344),(2,0),(3,1),(4,2),(5,896),(6,897),(7,6),(8,1216)]
 rd:=tR
theorem Me:LoopOk prog (fun k=>Nat.blt k Tryz.f100.ntmps) aS.F (bj f100 0):=by
 refine Lp.ok (tbl:= [Ed,Ct,BE]) (lf:= []) aT aS (by kernel_rfl) (LOk.nil _) (fun _=>rfl) (fun _ _=>rfl) ?_ ?_ ?_ ?_ (fun _=>rfl) ?_
 ·intro _;kernel_rfl
 ·intro _;kernel_rfl
 ·intro s x h
  have h:tR s=some x:=h
  unfold tR at h
  repeat' split at h
  all_goals cases h
  constructor<;>repeat(first|refine ab ‹_› rfl ?_|refine aa rfl ‹_› rfl ?_|rfl)
 ·intro _;kernel_rfl
 ·intro _ _;exact(And.intro rfl trivial)
section
variable (a b:avP)(c d e:List avP)(f:afZ)(g:avO)(i:asZ)(j:avO)
def eR:Bool:= !ByteArray.toList b==ByteArray.toList (ByteArray.mk #[])
def kw:Int×Int×afZ×avP×avP×Int×List avP×List avP×List avP×avO×asZ×avO×avO:=((0:Int),(↑f.length:Int),f,a,b,(0:Int),c,d,e,g,i,j,v7 (k8 (↑e.length:Int)) (0:Int))
def pw:avO×asZ×avO×avO:=(Lp.res aS (kw a b c d e f g i j)).2.2.2.2.2.2.2.2.2.2
def gB:avO:=(pw a b c d e f g i j).1
def px:asZ×avO×avO:=(pw a b c d e f g i j).2
def vq:avO:=(px a b c d e f g i j).2.2
def py:avO:=bif eR b&&true then tb b c (vq a b c d e f g i j)else vq a b c d e f g i j
def pz:asZ:=(px a b c d e f g i j).1
def wq:avO:=bif bif eR b then my b c d (gB a b c d e f g i j) j==0 else false then abZ (k9 (py a b c d e f g i j))else py a b c d e f g i j
def ws:avO:=bif eR b&&true then sZ b c (gB a b c d e f g i j)else gB a b c d e f g i j
def wu:asY:=bif eR b&&true then ta b c (pz a b c d e f g i j)else pz a b c d e f g i j
def wv:Bool:=allT [pq g i,leI 0 (↑e.length:Int),leI (↑e.length:Int) (↑e.length:Int),leI ((↑(8:Nat):Int) * (↑e.length:Int)) 281474976710656,leI (↑e.length:Int) 9223372036854775807,Lp.fin aS (kw a b c d e f g i j),!(eR b&&true)||mz b c d (gB a b c d e f g i j) j]
end
def EW:awh
 | [.one ⟨true,[.val (.string a),.ref 0,.ref 1,.ref 2,.val (.string b),.ref 3]⟩,.one ⟨true,[.ref 4,.ref 5]⟩,.one ⟨false,[.ref 6]⟩],[.row false 9 (.str) c,.row false 9 (.str) d,.row false 9 (.str) e,.row false 142 (.pair (.str) (.sl 122 (.pair (.int .i64) (.pair (.str) (.int .i64))))) f,.row false 2 (.int .i64) g,.row false 109 (.pair (.int .i64) (.pair (.int .i64) (.int .i64))) i,.row false 2 (.int .i64) j]=>some ⟨.tup [⟨false,[.ref 7]⟩,⟨true,[.ref 8,.ref 9]⟩],[aBD c,aBD d,aBD e,aBH f,aBF g,aBN i,aBF j],[aBE (wq a b c d e f g i j),aBE (ws a b c d e f g i j),aBK (wu a b c d e f g i j)],[wv a b c d e f g i j]⟩
 |_,_=>none
def Sg:PF prog:=PF.ofG prog [Ed,Ct,BE] [aS.F] aT 100 f100 func100 (LOk.fnT (l:= [bj f100 0]) (by kernel_rfl) (.cons Me (.nil _))) EW (by
 intro _ _ _ h;unfold EW at h;split at h<;>cases h;kernel_rfl)
structure ScH (ins vs os:List avP) (inp:avO) (ls:List LN):Prop where
 hi:bitsB ins.length inp=true
 hL:ls.all lineB=true
 hm:ls.all (madeB vs os)=true
 hu:ls.all (fun l=>l.2.all (usedB ins vs))=true
 hn:ls.length≤40
 h1:ins.length≤20
 h2:vs.length≤20
 h3:os.length≤20
theorem atv: ∀ (ls:List LN),ls.all lineB=true→(blL ls).length≤40 * ls.length
 | [],_=>by simp [blL]
 |l::r,h=>by
  simp only [List.all_cons,q8]at h
  have h1:=atv r h.2
  have h2:=(ab5 h.1).2.1
  have h3:(blT l.2).length≤l.2.length:=List.length_filter_le ..
  have h4:blL (l::r)=blT l.2++blL r:=rfl
  rw [h4,j6,List.length_cons]
  omega
theorem ScH.bl{ins vs os:List avP}{inp:avO}{ls:List LN}(h:ScH ins vs os inp ls):(blL ls).length≤1600:=by
 have:=atv ls h.hL
 have:=h.hn
 omega
theorem ScH.line{ins vs os:List avP}{inp:avO}{ls:List LN}(h:ScH ins vs os inp ls){i:Nat}{a:SS4}{l:LN}(hl:ls[i]? =some l)(hI:ScAt vs os ls i a):
  LineH ins vs inp a.1 (blL (ls.take i)) (blL (ls.drop (i + 1))) l.2:=by
 have hm:=List.mem_of_getElem? hl
 obtain⟨q1,q2,q3⟩:=ab5 (List.all_eq_true.1 h.hL l hm)
 have h1:=h.h1
 have h2:=h.h2
 have hb:=h.bl
 rw [(ade hl).1]at hb
 exact⟨h.hi,hI.hx,⟨1,q3⟩,List.all_eq_true.1 h.hu l hm,q2,by omega,bx (by omega),bx (by omega)⟩
theorem awr{ins vs os:List avP}{inp:avO}{ls:List LN}(h:ScH ins vs os inp ls){i:Nat}{a:SS4}{l:LN}(hl:ls[i]? =some l)(hI:ScAt vs os ls i a)(u v:avP):
  (nx u v (a.2.2.2:Int) l.2 ins vs os ls a.1 a.2.2.1 inp a.2.1=u∧
  ny u v (a.2.2.2:Int) l.2 ins vs os ls a.1 a.2.2.1 inp a.2.1=v∧
  nz u v (a.2.2.2:Int) l.2 ins vs os ls a.1 a.2.2.1 inp a.2.1=((scS ins vs os inp l a).2.2.2:Int))∧
  nA l.1 u v (a.2.2.2:Int) l.2 ins vs os ls a.1 a.2.2.1 inp a.2.1=(scS ins vs os inp l a).1∧
  nB u v (a.2.2.2:Int) l.2 ins vs os ls a.1 a.2.2.1 inp a.2.1=(scS ins vs os inp l a).2.2.1∧
  nC l.1 u v (a.2.2.2:Int) l.2 ins vs os ls a.1 a.2.2.1 inp a.2.1=(scS ins vs os inp l a).2.1∧
  iM l.1 u v (a.2.2.2:Int) l.2 ins vs os ls a.1 a.2.2.1 inp a.2.1=true:=by
 obtain⟨w1,w2⟩:=ayQ (h.line hl hI) u v os ls a.2.1 a.2.2.1 a.2.2.2 (akj hl hI)
 have hm:=List.mem_of_getElem? hl
 obtain⟨g1,g2,g3⟩:=ZS (ins:=ins) (inp:=inp) h.hi (List.all_eq_true.1 h.hL l hm) hl hI
 have hmd:(lM vs l.1||lM os l.1)=true:=List.all_eq_true.1 h.hm l hm
 have h2:=h.h2
 have h3:=h.h3
 have hx:=(ct.1 hI.hx).2
 have ho:=(ct.1 hI.ho).2
 rw [show af3 ins vs inp a.1 l.2 ([],a.2.2.1,a.2.2.2)=lnV ins vs inp l a from rfl]at w2
 have e5:ij u v (a.2.2.2:Int) l.2 ins vs os ls a.1 a.2.2.1 inp a.2.1=(lnV ins vs inp l a).1:=by
  simp only [ij,dZ,cV,w2]
 have e6:mt u v (a.2.2.2:Int) l.2 ins vs os ls a.1 a.2.2.1 inp a.2.1=atZ (lnV ins vs inp l a).1 0:=by
  simp only [mt,e5];rfl
 have e7:mu u v (a.2.2.2:Int) l.2 ins vs os ls a.1 a.2.2.1 inp a.2.1=true:=by
  simp only [mu,e5,g1];rfl
 have e8:mv u v (a.2.2.2:Int) l.2 ins vs os ls a.1 a.2.2.1 inp a.2.1=true:=by
  simp only [mv,e5,g1];rfl
 have z0:leI (0:Int) 0=true:=rfl
 refine⟨⟨?_,?_,?_⟩,?_,?_,?_,?_⟩
 ·simp only [nx,ff,dZ,cV,w2]
 ·simp only [ny,ii,ff,dZ,cV,w2]
 ·simp only [nz,mr,ii,ff,dZ,cV,w2,scS]
 ·simp only [nA,e6,Wd,scS]
  cases hv:lM vs l.1 with
  |true=>simp only [cond_true,Gn hv,q9]
  |false=>rfl
 ·simp only [nB,mr,ii,ff,dZ,cV,w2,scS]
 ·simp only [nC,e6,Wd,scS]
  cases hv:lM vs l.1 with
  |true=>rfl
  |false=>
   have ho':lM os l.1=true:=by simpa [hv] using hmd
   simp only [cond_false,Gn ho',q9]
 ·have l1:leN vs.length 9223372036854775807=true:=bx (by omega)
  have l2:leN os.length 9223372036854775807=true:=bx (by omega)
  have hf:Lp.fin au (cV u v (a.2.2.2:Int) l.2 ins vs os ls a.1 a.2.2.1 inp a.2.1)=true:=w1
  cases hv:lM vs l.1 with
  |true=>
   have hp:=Pt hv
   have k1:ltI (EC vs l.1:Int) (a.1.length:Int)=true:=dw (by omega)
   have k2:ltN (EC vs l.1) a.1.length=true:=eD (by omega)
   simp only [iM,hf,Wd,hv,Gn hv,Zj.1,e7,e8,z0,l1,k1,k2,allT,q9,j8,Bool.true_or,cond_true]
  |false=>
   have ho':lM os l.1=true:=by simpa [hv] using hmd
   have hp:=Pt ho'
   have k1:ltI (EC os l.1:Int) (a.2.1.length:Int)=true:=dw (by omega)
   have k2:ltN (EC os l.1) a.2.1.length=true:=eD (by omega)
   simp only [iM,hf,Wd,hv,ho',Gn ho',Zj.1,e7,e8,z0,l1,l2,k1,k2,allT,q9,j8,Bool.true_or,Bool.not_false,cond_true]
theorem ayR{ins vs os:List avP}{inp:avO}{ls:List LN}(h:ScH ins vs os inp ls){i:Nat}{a:SS4}{l:LN}(hl:ls[i]? =some l)(hI:ScAt vs os ls i a)(u v:avP):
  Li u v (a.2.2.2:Int) ins vs os ls a.1 a.2.2.1 inp l.2=atZ (lnV ins vs inp l a).1 0∧
  Lj u v (a.2.2.2:Int) ins vs os ls a.1 a.2.2.1 inp l.2=a.1∧
  Lk u v (a.2.2.2:Int) ins vs os ls a.1 a.2.2.1 inp l.2=(scS ins vs os inp l a).2.2.1∧
  Ll u v (a.2.2.2:Int) ins vs os ls a.1 a.2.2.1 inp l.2=true:=by
 obtain⟨w1,w2⟩:=ayS (h.line hl hI) u v os ls a.2.2.1 a.2.2.2 (akj hl hI)
 have hm:=List.mem_of_getElem? hl
 obtain⟨g1,g2,g3⟩:=ZS (ins:=ins) (inp:=inp) h.hi (List.all_eq_true.1 h.hL l hm) hl hI
 rw [show af3 ins vs inp a.1 l.2 ([],a.2.2.1,a.2.2.2)=lnV ins vs inp l a from rfl]at w2
 have e2:Ep u v (a.2.2.2:Int) ins vs os ls a.1 a.2.2.1 inp l.2=(lnV ins vs inp l a).1:=by
  simp only [Ep,Eo,Av,w2]
 have z0:leI (0:Int) 0=true:=rfl
 have k1:ltI 0 ((lnV ins vs inp l a).1.length:Int)=true:=by rw [g1];rfl
 have k2:ltN (k8 0) (lnV ins vs inp l a).1.length=true:=by rw [g1];rfl
 have hf:Lp.fin bM (Av u v (a.2.2.2:Int) ins vs os ls a.1 a.2.2.1 inp l.2)=true:=w1
 refine⟨?_,?_,?_,?_⟩
 ·simp only [Li,e2];rfl
 ·simp only [Lj,JY,Eo,Av,w2]
 ·simp only [Lk,JY,Eo,Av,w2,scS]
 ·simp only [Ll,hf,e2,z0,k1,k2,allT,cond_true]
def av3(n:Nat)(t:TM):Nat:=bif leI 7 t.1 then n + 1 else n
theorem asW: ∀ (ts:List TM) (n:Nat),ts.foldl av3 n=n + (blT ts).length
 | [],n=>by simp [blT]
 |t::r,n=>by
  rw [List.foldl_cons,asW r]
  simp only [av3,blT,List.filter_cons]
  cases leI 7 t.1 <;> simp <;> omega
theorem aAs(u v:avP)(ins vs os:List avP)(ls:List LN){i k:Nat}{l:LN}(hl:ls[i]? =some l)(hn:l.2.length≤40)(hk:k≤2000):
  iv.fin ((0:Int),(i:Int),(k:Int),u,v,ins,vs,os,ls)=true∧
  iv.res ((0:Int),(i:Int),(k:Int),u,v,ins,vs,os,ls)=(0,((l.2.length:Int),(i:Int),((k + (blT l.2).length:Nat):Int),u,v,ins,vs,os,ls)):=by
 have fC:=(k7.1 hl).1
 have n0:leI 0 (i:Int)=true:=bk (by omega)
 have n1:ltI (i:Int) (ls.length:Int)=true:=dw (by omega)
 have n2:ltN i ls.length=true:=eD fC
 have lP: ∀ d:LN,v5 ls[i]? d=l:=fun d=>by rw [hl];rfl
 have g0:Er (i:Int) ls=l.2:=by simp only [Er,q9];exact congrArg Prod.snd (lP _)
 have nQ:=iv.along2 (fun j (a:Nat)=>((j:Int),(i:Int),(a:Int),u,v,ins,vs,os,ls)) (fun x=>x.2.2.1.toNat)
  (fun(t:TM) a=> .inr (av3 a t)) 0 (fun j a=>a≤k + j) l.2 k (by omega) (by omega) (fun j t a hb hI=> ?_) (fun a hI=> ?_)
 ·rw [TN (g:=av3) (fun b a=>rfl),asW]at nQ
  simpa using nQ
 ·have hjt:=(k7.1 hb).1
  have hw:IntKind.i64.wrap ((j:Int) + 1)=((j + 1:Nat):Int):=by rw [aM (by omega) (by omega)];omega
  have hw2:IntKind.i64.wrap ((a:Int) + 1)=((a + 1:Nat):Int):=by rw [aM (by omega) (by omega)];omega
  have l0:leI 0 (j:Int)=true:=bk (by omega)
  have l1:ltI (j:Int) (l.2.length:Int)=true:=dw (by omega)
  have l2:ltN j l.2.length=true:=eD hjt
  have c7:TL (j:Int) (i:Int) (a:Int) ls=((av3 a t:Nat):Int):=by
   simp only [TL,g0,q9,hb,Option.getD_some,hw2,av3]
   cases leI 7 t.1 <;> rfl
  refine⟨?_,?_,?_,fun a' hf=> ?_⟩
  ·simp only [iv,DZ,Ln,Lo,Lq,Ca,aa0,aa1,LT.nds,allT,g0,n0,n1,n2,l0,l1,l2,q9,cond_true,Bool.and_self]
  ·simp only [iv,DZ,Ca,aa2,LT.each,c7,g0,l1,hw,q9,Bool.and_true,and_self]
  ·simp only [iv,DZ,Ca,LT.fn,c7,g0,l1,q9,cond_true]
  ·simp only [Sum.inr.injEq]at hf
   subst hf
   simp only [av3]
   cases leI 7 t.1 <;> simp <;> omega
 ·have fB:ltI (l.2.length:Int) (l.2.length:Int)=false:=IZ (by omega)
  simp [iv,DZ,Ln,Lo,Lq,Ca,LT.out,g0,n0,n1,n2,fB,allT]
theorem atL(ins vs os:List avP)(inp:avO): ∀ (ls:List LN) (a:SS4),ls.foldl (fun a l=>scS ins vs os inp l a) a=ar0 ins vs os inp ls a
 | [],a=>rfl
 |l::r,a=>by rw [List.foldl_cons,atL ins vs os inp r];rfl
theorem azb{ins vs os:List avP}{inp xs:avO}{ss:List BS3}{ls:List LN}(h:ScH ins vs os inp ls)(hs:sy vs.length (blL ls) xs ss=true)(u v:avP):
  kZ.fin ((0:Int),(0:Int),u,v,inp,v7 os.length 0,ins,vs,os,ls,xs,ss)=true∧
  kZ.res ((0:Int),(0:Int),u,v,inp,v7 os.length 0,ins,vs,os,ls,xs,ss)=
   (0,((ls.length:Int),((scE ins vs os ls inp xs ss).2.2.2:Int),u,v,inp,(scE ins vs os ls inp xs ss).2.1,ins,vs,os,ls,(scE ins vs os ls inp xs ss).1,(scE ins vs os ls inp xs ss).2.2.1)):=by
 obtain⟨s1,s2,s3⟩:=Qx.1 hs
 have h0:ScAt vs os ls 0 (xs,v7 os.length 0,ss,0):=⟨s2,ct.2 ⟨fun z hz=> .inl (List.eq_of_mem_replicate hz),by simp⟩,s1,s3,by simp [blL]⟩
 have hn:=h.hn
 have h2:=h.h2
 have h3:=h.h3
 have nQ:=kZ.along2 (fun i (a:SS4)=>((i:Int),(a.2.2.2:Int),u,v,inp,a.2.1,ins,vs,os,ls,a.1,a.2.2.1)) (fun x=>(x.2.2.2.2.2.2.2.2.2.2.1,x.2.2.2.2.2.1,x.2.2.2.2.2.2.2.2.2.2.2,x.2.1.toNat))
  (fun(l:LN) a=> .inr (scS ins vs os inp l a)) 0 (fun i a=>ScAt vs os ls i a) ls (xs,v7 os.length 0,ss,0) h0 (by omega) (fun i l a hb hI=> ?_) (fun a hI=> ?_)
 ·rw [TN (g:=fun a l=>scS ins vs os inp l a) (fun b a=>rfl),atL]at nQ
  simpa [scE] using nQ
 ·have fC:=(k7.1 hb).1
  have hm:=List.mem_of_getElem? hb
  have hL:=List.all_eq_true.1 h.hL l hm
  have hw:IntKind.i64.wrap ((i:Int) + 1)=((i + 1:Nat):Int):=by rw [aM (by omega) (by omega)];omega
  obtain⟨g1,g2,g3⟩:=ZS (ins:=ins) (inp:=inp) h.hi hL hb hI
  obtain⟨r0,r1,r2,r3⟩:=ayR h hb hI u v
  have hbl:=h.bl
  have hsp:=(ade hb).2
  have hspl:=(ade hb).1
  have hk1:=hI.hk
  have hk2:=g3.hk
  have hkk:a.2.2.2≤2000:=by
   rw [hspl,j6,j6]at hbl
   omega
  obtain⟨c1,c2⟩:=aAs u v ins vs os ls hb (ab5 hL).2.1 hkk
  have hknew:a.2.2.2 + (blT l.2).length=(scS ins vs os inp l a).2.2.2:=by omega
  have hmd:(lM vs l.1||lM os l.1)=true:=List.all_eq_true.1 h.hm l hm
  have hx:=(ct.1 hI.hx).2
  have ho:=(ct.1 hI.ho).2
  have q0:WQ (i:Int) ls=true:=dw (by omega)
  have q1:WR (i:Int) ls=true:=eD (by simpa using fC)
  have lP: ∀ d:LN,v5 ls[i]? d=l:=fun d=>by rw [hb];rfl
  have q2:xM (i:Int) ls=l:=by simp only [xM,q9];exact lP _
  have q3:eY (i:Int) vs ls=eA vs l.1:=by simp only [eY,q2]
  have q5:ER (i:Int) os ls=eA os l.1:=by simp only [ER,q2]
  have q4:EQ (i:Int) (a.2.2.2:Int) u v inp ins vs os ls a.1 a.2.2.1=a.1:=by simp only [EQ,q2,r1]
  have q7:PR (i:Int) (a.2.2.2:Int) u v inp ins vs os ls a.1 a.2.2.1=atZ (lnV ins vs inp l a).1 0:=by simp only [PR,q2,r0]
  have p1:YQ (i:Int)=true:=bk (by omega)
  have p3:YS (i:Int) (a.2.2.2:Int) u v inp ins vs os ls a.1 a.2.2.1=true:=by simp only [YS,q2,r3]
  have p4:aeT vs=true:=bx (by omega)
  have p15:adQ (i:Int) (a.2.2.2:Int) u v ins vs os ls=true:=c1
  have p16:adR (i:Int)=((i + 1:Nat):Int):=hw
  have p17:WM (i:Int) (a.2.2.2:Int) u v ins vs os ls=((scS ins vs os inp l a).2.2.2:Int):=by
   simp only [WM,WS,c2,hknew]
  have p20:WP (i:Int) (a.2.2.2:Int) u v inp ins vs os ls a.1 a.2.2.1=(scS ins vs os inp l a).2.2.1:=by simp only [WP,q2,r2]
  have p18:WN (i:Int) (a.2.2.2:Int) u v inp a.2.1 ins vs os ls a.1 a.2.2.1=(scS ins vs os inp l a).2.1:=by
   simp only [WN,q3,q5,q7,Wd,scS]
   cases hv:lM vs l.1 with
   |true=>rfl
   |false=>
    have ho':lM os l.1=true:=by simpa [hv] using hmd
    simp only [cond_false,Gn ho',q9]
  have p19:WO (i:Int) (a.2.2.2:Int) u v inp ins vs os ls a.1 a.2.2.1=(scS ins vs os inp l a).1:=by
   simp only [WO,q3,q4,q7,Wd,scS]
   cases hv:lM vs l.1 with
   |true=>simp only [cond_true,Gn hv,q9]
   |false=>rfl
  have pm:YT (i:Int) vs ls=true∧YU (i:Int) (a.2.2.2:Int) u v inp ins vs os ls a.1 a.2.2.1=true∧YV (i:Int) (a.2.2.2:Int) u v inp ins vs os ls a.1 a.2.2.1=true∧
    YW (i:Int) vs ls=true∧YX (i:Int) vs ls=true∧WH (i:Int) vs ls=true∧WI (i:Int) vs os ls=true∧
    WJ (i:Int) vs os ls=true∧WK (i:Int) a.2.1 vs os ls=true∧WL (i:Int) a.2.1 vs os ls=true:=by
   simp only [YT,YU,YV,YW,YX,WH,WI,WJ,WK,WL,q0,q1,q3,q4,q5,Wd]
   have m1:leI 0 (i:Int)=true:=p1
   have m2:leN os.length 9223372036854775807=true:=bx (by omega)
   cases hv:lM vs l.1 with
   |true=>
    have hp:=Pt hv
    have k1:ltI (EC vs l.1:Int) (a.1.length:Int)=true:=dw (by omega)
    have k2:ltN (EC vs l.1) a.1.length=true:=eD (by omega)
    simp only [Gn hv,Zj.1,k1,k2,q9,j8,Bool.true_or,and_self]
   |false=>
    have ho':lM os l.1=true:=by simpa [hv] using hmd
    have hp:=Pt ho'
    have k1:ltI (EC os l.1:Int) (a.2.1.length:Int)=true:=dw (by omega)
    have k2:ltN (EC os l.1) a.2.1.length=true:=eD (by omega)
    simp only [ho',Gn ho',Zj.1,k1,k2,m1,m2,q9,j8,Bool.true_or,Bool.not_false,and_self]
  obtain⟨m5,m6,m7,m8,m9,m10,m11,m12,m13,m14⟩:=pm
  have p0:Lm (i:Int) ls=true:=q0
  have p2:YR (i:Int) ls=true:=q1
  refine⟨?_,?_,?_,fun a' hf=> ?_⟩
  ·simp only [kZ,Jc,LT.nds,allT,p0,p1,p2,p3,p4,m5,m6,m7,m8,m9,m10,m11,m12,m13,m14,p15,cond_true,Bool.and_self]
  ·simp only [kZ,Jc,LT.each,p0,p16,p17,p18,p19,p20,q9,Bool.and_true,and_self]
  ·simp only [kZ,Jc,LT.fn,p0,p17,p18,p19,p20,q9,cond_true]
  ·simp only [Sum.inr.injEq]at hf
   subst hf;exact g3
 ·have fB:Lm (ls.length:Int) ls=false:=IZ (by omega)
  simp [kZ,Jc,LT.out,fB]
theorem aza{ins vs os:List avP}{inp xs:avO}{ss:List BS3}{ls:List LN}(h:ScH ins vs os inp ls)(hs:sy vs.length (blL ls) xs ss=true)(u v:avP):
  aS.fin ((0:Int),(ls.length:Int),ls,u,v,(0:Int),ins,vs,os,xs,ss,inp,v7 os.length 0)=true∧
  aS.res ((0:Int),(ls.length:Int),ls,u,v,(0:Int),ins,vs,os,xs,ss,inp,v7 os.length 0)=
   (0,((ls.length:Int),(ls.length:Int),ls,u,v,((scE ins vs os ls inp xs ss).2.2.2:Int),ins,vs,os,(scE ins vs os ls inp xs ss).1,(scE ins vs os ls inp xs ss).2.2.1,inp,(scE ins vs os ls inp xs ss).2.1)):=by
 obtain⟨s1,s2,s3⟩:=Qx.1 hs
 have h0:ScAt vs os ls 0 (xs,v7 os.length 0,ss,0):=⟨s2,ct.2 ⟨fun z hz=> .inl (List.eq_of_mem_replicate hz),by simp⟩,s1,s3,by simp [blL]⟩
 have hn:=h.hn
 have nQ:=aS.along2 (fun i (a:SS4)=>((i:Int),(ls.length:Int),ls,u,v,(a.2.2.2:Int),ins,vs,os,a.1,a.2.2.1,inp,a.2.1)) (fun x=>(x.2.2.2.2.2.2.2.2.2.1,x.2.2.2.2.2.2.2.2.2.2.2.2,x.2.2.2.2.2.2.2.2.2.2.1,x.2.2.2.2.2.1.toNat))
  (fun(l:LN) a=> .inr (scS ins vs os inp l a)) 0 (fun i a=>ScAt vs os ls i a) ls (xs,v7 os.length 0,ss,0) h0 (by omega) (fun i l a hb hI=> ?_) (fun a hI=> ?_)
 ·rw [TN (g:=fun a l=>scS ins vs os inp l a) (fun b a=>rfl),atL]at nQ
  simpa [scE] using nQ
 ·have fC:=(k7.1 hb).1
  have hm:=List.mem_of_getElem? hb
  have hw:IntKind.i64.wrap ((i:Int) + 1)=((i + 1:Nat):Int):=by rw [aM (by omega) (by omega)];omega
  obtain⟨g1,g2,g3⟩:=ZS (ins:=ins) (inp:=inp) h.hi (List.all_eq_true.1 h.hL l hm) hb hI
  obtain⟨⟨r0,r1,r2⟩,r3,r4,r5,r6⟩:=awr h hb hI u v
  have lP: ∀ d:LN,v5 ls[i]? d=l:=fun d=>by rw [hb];rfl
  have q0:bf (i:Int) ls=l:=by simp only [bf,q9];exact lP _
  have p0:ltI (i:Int) (ls.length:Int)=true:=dw (by omega)
  have p1:leI 0 (i:Int)=true:=bk (by omega)
  have p3:ltN i ls.length=true:=eD fC
  refine⟨?_,?_,?_,fun a' hf=> ?_⟩
  ·simp only [jn,jo,jp,jq,jr,jt,ju,jv,jw,jx,iK,iL,iR,aS,LT.nds,allT,q0,r0,r1,r2,r3,r4,r5,r6,p0,p1,p3,q9,cond_true,Bool.and_self]
  ·simp only [jn,jo,jp,jq,jr,jt,ju,jv,jw,jx,iK,iL,iR,aS,LT.each,q0,r0,r1,r2,r3,r4,r5,p0,hw,q9,Bool.and_true,and_self]
  ·simp only [jn,jo,jp,jq,jr,jt,ju,jv,jw,jx,iK,iL,iR,aS,LT.fn,q0,r2,r3,r4,r5,p0,q9,cond_true]
  ·simp only [Sum.inr.injEq]at hf
   subst hf;exact g3
 ·have fB:ltI (ls.length:Int) (ls.length:Int)=false:=IZ (by omega)
  simp [jn,jo,jp,jq,jr,jt,ju,jv,jw,jx,iK,iL,iR,aS,LT.out,fB]
theorem auV: ∀ (ts:List TM) (n e:Int),htT ts n=some e→XK (blT ts)=true
 | [],n,e,_=>rfl
 |t::r,n,e,h=>by
  simp only [htT]at h
  cases hc:(termB t.1 t.2.1 t.2.2&&leI (takesK t.1) n)with
  |false=>rw [hc]at h;cases h
  |true=>
   rw [hc,cond_true]at h
   simp only [q8]at hc
   have h1:=auV r _ e h
   cases h7:leI 7 t.1 with
   |false=>simpa only [blT,List.filter_cons,h7,Bool.false_eq_true,if_false] using h1
   |true=>
    simp only [blT,List.filter_cons,h7,if_true,XK,List.all_cons,q8]
    exact⟨adU hc.1 h7,h1⟩
theorem afW: ∀ (ls:List LN),ls.all lineB=true→XK (blL ls)=true
 | [],_=>rfl
 |l::r,h=>by
  simp only [List.all_cons,q8]at h
  have h1:=afW r h.2
  have h2:=auV _ _ _ (ab5 h.1).2.2
  have h4:blL (l::r)=blT l.2++blL r:=rfl
  simp only [XK]at h1 h2
  simp only [h4,XK,List.all_append,h1,h2,Bool.and_self]
theorem Gy{nm:avP}{ins vs os:List avP}{g:avP}{ls:List LN}(h:dS nm ins vs os g ls=true):
  (g.toList== []||Tz ins vs g)=true∧ls.all lineB=true∧ls.all (madeB vs os)=true∧ls.all (fun l=>l.2.all (usedB ins vs))=true∧ls.length≤40∧ins.length≤20∧vs.length≤20∧os.length≤20:=by
 simp only [dS,ap5,ax1,ao6,q8,ua]at h
 obtain⟨⟨_,⟨_,i1⟩,⟨_,i2⟩,⟨_,i3⟩,_,hL,hn⟩,_,hg,hm,_,_,hu⟩:=h
 exact⟨hg,hL,hm,hu,by omega,by omega,by omega,by omega⟩
theorem amH{nm:avP}{ins vs os:List avP}{g:avP}{ls:List LN}{inp:avO}(h:dS nm ins vs os g ls=true)(hi:bitsB ins.length inp=true):ScH ins vs os inp ls:=by
 obtain⟨_,hL,hm,hu,hn,h1,h2,h3⟩:=Gy h
 exact⟨hi,hL,hm,hu,hn,h1,h2,h3⟩
def scG(nm:avP)(ins vs os:List avP)(g:avP)(ls:List LN)(xs:avO)(ss:List BS3)(inp:avO):Bool:=dS nm ins vs os g ls&&(sy vs.length (blL ls) xs ss&&bitsB ins.length inp)
theorem aca{nm:avP}{ins vs os:List avP}{g:avP}{ls:List LN}{xs:avO}{ss:List BS3}{inp:avO}:
  scG nm ins vs os g ls xs ss inp=true↔dS nm ins vs os g ls=true∧sy vs.length (blL ls) xs ss=true∧bitsB ins.length inp=true:=by
 simp only [scG,q8]
theorem avD(nm:avP)(ins vs os:List avP)(g:avP)(ls:List LN)(xs:avO)(ss:List BS3)(inp:avO)(h:scG nm ins vs os g ls xs ss inp=true):
  adM nm g ins vs os ls xs ss inp=scO ins vs os g ls inp xs ss∧adN nm g ins vs os ls xs ss inp=scV ins vs os ls inp xs ss∧
  adO nm g ins vs os ls xs ss inp=scB ins vs os ls inp xs ss∧adP nm g ins vs os ls xs ss inp=true:=by
 obtain⟨h1,h2,h3⟩:=aca.1 h
 obtain⟨hg,_⟩:=Gy h1
 have hS:=amH h1 h3
 obtain⟨w1,w2⟩:=azb hS h2 nm g
 have hE:=auc (os:=os) h3 hS.hL h2
 obtain⟨s1,s2,s3⟩:=Qx.1 h2
 have hb:=hS.bl
 have b1:=hS.h1
 have b2:=hS.h2
 have b3:=hS.h3
 have hx2:=(ct.1 s2).2
 have a1:VS os=v7 os.length 0:=by simp only [VS,q9]
 have a0:Kv g= !(g.toList== []):=by simp only [Kv,Ua]
 have e3:VT nm g ins vs os ls xs ss inp=((scE ins vs os ls inp xs ss).2.1,ins,vs,os,ls,(scE ins vs os ls inp xs ss).1,(scE ins vs os ls inp xs ss).2.2.1):=by
  simp only [VT,Ql,a1,w2]
 have e5:Kw nm g ins vs os ls xs ss inp=(scE ins vs os ls inp xs ss).1:=by simp only [Kw,VU,e3]
 have e8:VW nm g ins vs os ls xs ss inp=(scE ins vs os ls inp xs ss).2.2.1:=by simp only [VW,VU,e3]
 have e7:VV nm g ins vs os ls xs ss inp=(scE ins vs os ls inp xs ss).1:=by simp only [VV,e5];exact j9 _ _
 have e9:VX nm g ins vs os ls xs ss inp=(scE ins vs os ls inp xs ss).2.2.1:=by simp only [VX,e8];exact j9 _ _
 have hv:(g.toList== [])=false→xQ g ins vs (scE ins vs os ls inp xs ss).1 inp=nmV ins vs inp (scE ins vs os ls inp xs ss).1 g∧xR g ins vs (scE ins vs os ls inp xs ss).1 inp=true:=fun hgg=>by
  rw [hgg,Bool.false_or]at hg
  have q1:=(ct.1 h3).2
  have q2:=(ct.1 hE.hx).2
  exact aoy g ins vs inp _ hg (bx (by omega)) (bx (by omega)) (by omega) (by omega)
 have e6:AM nm g ins vs os ls xs ss inp=(!(g.toList== [])&&nmV ins vs inp (scE ins vs os ls inp xs ss).1 g==0):=by
  simp only [AM,a0,e5]
  cases hgg:g.toList== []with
  |true=>rfl
  |false=>simp only [Bool.not_false,cond_true,(hv hgg).1,Bool.true_and]
 refine⟨?_,?_,?_,?_⟩
 ·simp only [adM,e6,e3,a1,scO]
 ·simp only [adN,e7,scV];exact j9 _ _
 ·simp only [adO,e9,scB];exact j9 _ _
 ·have f1:Lp.fin kZ (Ql nm g ins vs os ls xs ss inp)=true:=by simp only [Ql,a1];exact w1
  have f0:aai xs ss=true:=by
   simp only [aai,allT,bx (show xs.length≤1048576 by omega),bx (show 0 + ss.length≤9223372036854775807 by omega),bx (show (0 + ss.length) * 24≤140737488355328 by omega),cond_true]
  have f2:leI 0 (os.length:Int)=true:=bk (by omega)
  have f3:leI (os.length:Int) (os.length:Int)=true:=bk (by omega)
  have f4:leI (((8:Nat):Int) * (os.length:Int)) 281474976710656=true:=bk (by omega)
  have f5:leI (os.length:Int) 9223372036854775807=true:=bk (by omega)
  have f6:aaa os=true:=f3
  have f7:aab os=true:=f4
  simp only [adP,f0,f1,f2,f5,f6,f7,a0,e5,allT,j8,cond_true,Bool.and_true]
  cases hgg:g.toList== []with
  |true=>rfl
  |false=>simp only [(hv hgg).2];rfl
theorem au0(nm:avP)(ins vs os:List avP)(g:avP)(ls:List LN)(xs:avO)(ss:List BS3)(inp:avO)(h:scG nm ins vs os g ls xs ss inp=true):
  wq nm g ins vs os ls xs ss inp=scO ins vs os g ls inp xs ss∧ws nm g ins vs os ls xs ss inp=scV ins vs os ls inp xs ss∧
  wu nm g ins vs os ls xs ss inp=scB ins vs os ls inp xs ss∧wv nm g ins vs os ls xs ss inp=true:=by
 obtain⟨h1,h2,h3⟩:=aca.1 h
 obtain⟨hg,_⟩:=Gy h1
 have hS:=amH h1 h3
 obtain⟨w1,w2⟩:=aza hS h2 nm g
 have hE:=auc (os:=os) h3 hS.hL h2
 obtain⟨s1,s2,s3⟩:=Qx.1 h2
 have hb:=hS.bl
 have b1:=hS.h1
 have b2:=hS.h2
 have b3:=hS.h3
 have hx2:=(ct.1 s2).2
 have a1:kw nm g ins vs os ls xs ss inp=((0:Int),(ls.length:Int),ls,nm,g,(0:Int),ins,vs,os,xs,ss,inp,v7 os.length 0):=by
  simp only [kw,q9]
 have a0:eR g= !(g.toList== []):=by simp only [eR];rw [Ua]
 have e2:pw nm g ins vs os ls xs ss inp=((scE ins vs os ls inp xs ss).1,(scE ins vs os ls inp xs ss).2.2.1,inp,(scE ins vs os ls inp xs ss).2.1):=by
  simp only [pw,a1,w2]
 have e3:gB nm g ins vs os ls xs ss inp=(scE ins vs os ls inp xs ss).1:=by simp only [gB,e2]
 have e6:py nm g ins vs os ls xs ss inp=(scE ins vs os ls inp xs ss).2.1:=by
  simp only [py,vq,px,e2,tb]
  rw [j9,j9]
 have e7:pz nm g ins vs os ls xs ss inp=(scE ins vs os ls inp xs ss).2.2.1:=by
  simp only [pz,px,e2]
 have hv:(g.toList== [])=false→my g ins vs (scE ins vs os ls inp xs ss).1 inp=nmV ins vs inp (scE ins vs os ls inp xs ss).1 g∧mz g ins vs (scE ins vs os ls inp xs ss).1 inp=true:=fun hgg=>by
  rw [hgg,Bool.false_or]at hg
  have q1:=(ct.1 h3).2
  have q2:=(ct.1 hE.hx).2
  rw [(atn _ _ _ _ _).1,(atn _ _ _ _ _).2]
  exact aoy g ins vs inp _ hg (bx (by omega)) (bx (by omega)) (by omega) (by omega)
 have hol:(scE ins vs os ls inp xs ss).2.1.length=os.length:=by have:=(ct.1 hE.ho).2;omega
 refine⟨?_,?_,?_,?_⟩
 ·simp only [wq,a0,e3,e6,abZ,hol,scO]
  cases hgg:g.toList== []with
  |true=>rfl
  |false=>simp only [Bool.not_false,cond_true,(hv hgg).1,Bool.true_and];rfl
 ·simp only [ws,e3,sZ,scV]
  rw [j9,j9]
 ·simp only [wu,e7,ta,scB]
  rw [j9,j9]
 ·have f1:Lp.fin aS (kw nm g ins vs os ls xs ss inp)=true:=by rw [a1];exact w1
  have f0:pq xs ss=true:=by
   simp only [pq,allT,bx (show xs.length≤1048576 by omega),bx (show ss.length≤1048576 by omega),cond_true]
  have f2:leI 0 (os.length:Int)=true:=bk (by omega)
  have f3:leI (os.length:Int) (os.length:Int)=true:=bk (by omega)
  have f4:leI (((8:Nat):Int) * (os.length:Int)) 281474976710656=true:=bk (by omega)
  have f5:leI (os.length:Int) 9223372036854775807=true:=bk (by omega)
  simp only [wv,f0,f1,f2,f3,f4,f5,a0,e3,allT,j8,cond_true,Bool.and_true]
  cases hgg:g.toList== []with
  |true=>rfl
  |false=>simp only [(hv hgg).2];rfl
def ajc:awh
 | [.one ⟨true,[.val (.string a),.ref 0,.ref 1,.ref 2,.val (.string b),.ref 3]⟩,.one ⟨true,[.ref 4,.ref 5]⟩,.one ⟨false,[.ref 6]⟩],[.row false 9 (.str) c,.row false 9 (.str) d,.row false 9 (.str) e,.row false 142 (.pair (.str) (.sl 122 (.pair (.int .i64) (.pair (.str) (.int .i64))))) f,.row false 2 (.int .i64) g,.row false 109 (.pair (.int .i64) (.pair (.int .i64) (.int .i64))) i,.row false 2 (.int .i64) j]=>some ⟨.tup [⟨false,[.ref 7]⟩,⟨true,[.ref 8,.ref 9]⟩],[aBD c,aBD d,aBD e,aBH f,aBF g,aBN i,aBF j],[aBE (scO c d e b f j g i),aBE (scV c d e f j g i),aBK (scB c d e f j g i)],[scG a c d e b f g i j]⟩
 |_,_=>none
def CE:PF prog:=PF.alt arU ajc (by
 intro args es o h cA;unfold ajc at h;split at h
 ·rename_i a b c d e f g i j
  cases h
  have cA:=jQ cA
  have hh:=avD a c d e b f g i j cA
  obtain⟨e0,e1,e2,en⟩:=hh
  exact pW rfl (ip en) rfl rfl (by simp only [e0,e1,e2] <;> rfl)
 ·cases h)
def Fb:awh
 | [.one ⟨true,[.val (.string a),.ref 0,.ref 1,.ref 2,.val (.string b),.ref 3]⟩,.one ⟨true,[.ref 4,.ref 5]⟩,.one ⟨false,[.ref 6]⟩],[.row false 9 (.str) c,.row false 9 (.str) d,.row false 9 (.str) e,.row false 142 (.pair (.str) (.sl 122 (.pair (.int .i64) (.pair (.str) (.int .i64))))) f,.row false 2 (.int .i64) g,.row false 109 (.pair (.int .i64) (.pair (.int .i64) (.int .i64))) i,.row false 2 (.int .i64) j]=>some ⟨.tup [⟨false,[.ref 7]⟩,⟨true,[.ref 8,.ref 9]⟩],[aBD c,aBD d,aBD e,aBH f,aBF g,aBN i,aBF j],[aBE (scO c d e b f j g i),aBE (scV c d e f j g i),aBK (scB c d e f j g i)],[scG a c d e b f g i j]⟩
 |_,_=>none
def gW:PF prog:=PF.alt Sg Fb (by
 intro args es o h cA;unfold Fb at h;split at h
 ·rename_i a b c d e f g i j
  cases h
  have cA:=jQ cA
  have hh:=au0 a c d e b f g i j cA
  obtain⟨e0,e1,e2,en⟩:=hh
  exact pW rfl (ip en) rfl rfl (by simp only [e0,e1,e2] <;> rfl)
 ·cases h)
def GP(a:ajz)(c:asY)(b:Nat):(Unit)→Nat ⊕ (Unit)
 |_=>(bif(!ed ((v5 a[b]? ((0:Int),ByteArray.empty,(0:Int))).1) ((v5 a[b]? ((0:Int),ByteArray.empty,(0:Int))).2.2) ((v5 c[b]? ((0:Int),(0:Int),(0:Int))).1) (((v5 c[b]? ((0:Int),(0:Int),(0:Int))).2).1) ((v5 c[b]? ((0:Int),(0:Int),(0:Int))).2.2))then(.inl 0)else(.inr ()))
def tV(a:ajz)(b:avO)(c:asY)(i:Nat):(Unit)→qh
 |_=>((i:Int),a,b,c)
def Tv:qh→Unit
 |(_,_,_,_)=>()
theorem ak6(c:ajz)(d:avO)(e:asY) (hn:c.length≤9223372036854775807) (he:e.length=c.length):
  fj.fin ((0:Int),c,d,e)=true∧fj.res ((0:Int),c,d,e)=((br (GP c e) 1 (List.range c.length) 0 ()).1,(tV c d e) (br (GP c e) 1 (List.range c.length) 0 ()).2.1 (br (GP c e) 1 (List.range c.length) 0 ()).2.2):=by
 have nQ:=fj.along (tV c d e) Tv (GP c e) 1 (fun _ _=>True) (List.range c.length) () (by trivial) (by simp only [fj,tV,List.length_range];omega) (fun i b a hb hI=> ?_) (fun a hI=> ?_)
 ·exact nQ
 ·obtain⟨⟩:=a
  obtain⟨rfl,fC⟩:=Xh hb
  have hw:IntKind.i64.wrap ((b:Int) + 1)=((b + 1:Nat):Int):=by rw [aM (by omega) (by omega)];omega
  have fB:ltI (b:Int) (c.length:Int)=true:=dw (by omega)
  have Ly:leI (0:Int) (b:Int)=true:=bk (by omega)
  have sO:ltN b c.length=true:=eD (by omega)
  refine⟨?_,?_,?_,?_⟩
  ·simp [BZ,xL,Dm,Dn,Hx,Hy,Hz,HA,HB,Fz,fj,LT.nds,allT,tV,fB,Ly,sO,he]
  ·simp [BZ,xL,Dm,Dn,Hx,Hy,Hz,HA,HB,Fz,fj,LT.each,tV,Tv,hw,he]
  ·simp only [BZ,xL,Dm,Dn,Hx,Hy,Hz,HA,HB,Fz,fj,LT.fn,tV,Tv,GP,q9,fB,cond_true]
  ·exact fun _ _=>trivial
 ·obtain⟨⟩:=a
  simp [BZ,xL,Dm,Dn,Hx,Hy,Hz,HA,HB,Fz,fj,LT.out,tV,List.length_range]
theorem awY: ∀ (ls:List LN),(∀ l∈ls,l.2.length≤1048576)→(blL ls).length≤1048576 * ls.length
 | [],_=>by simp [blL]
 |l::r,h=>by
  have h1:=awY r (fun x hx=>h x (by simp [hx]))
  have h2:=h l (by simp)
  have h3:(blT l.2).length≤l.2.length:=List.length_filter_le ..
  have h4:blL (l::r)=blT l.2++blL r:=rfl
  rw [h4,j6,List.length_cons]
  omega
theorem at1{ls:List LN}(h:Xc ls=true):(blL ls).length≤1099511627776:=by
 obtain⟨hn,hA⟩:=Xd.1 h
 have:=awY ls (fun l hl=>(Xt.1 (hA l hl).2).1)
 omega
theorem awM(vs:List avP)(ls:List LN)(xs:avO)(ss:List BS3)(h:(Xc ls&&leN xs.length 9223372036854775807)=true):
  Uv vs ls xs ss=sy vs.length (blL ls) xs ss∧Uw vs ls xs ss=true:=by
 simp only [q8]at h
 have hn:=at1 h.1
 generalize hbs:blL ls=bs at hn
 by_cases hl:ss.length=bs.length
 ·obtain⟨w1,w2⟩:=ak6 bs xs ss (by omega) hl
  rw [lN (P:=fun k=> !possAt bs ss k) (j:=0) (fun k=>rfl),ats (g:=possAt bs ss) (h:=possAt bs ss) _ (fun k _=>rfl)]at w2
  have a0:GC ls ss=false:=by simp [GC,hbs,hl]
  have a2:Sc ls xs ss=((0:Int),bs,xs,ss):=by simp only [Sc,hbs]
  have w1':Lp.fin fj ((0:Int),bs,xs,ss)=true:=w1
  simp only [tV]at w2
  simp only [Uv,Uw,Sb,a0,a2,w1,w2,h.1,h.2,allT,sy,hl]
  cases bitsB (vs.length:Int) xs <;> cases (List.range bs.length).all (possAt bs ss) <;> simp [Nat.beq,w1']
 ·have hl2: ¬ ((ss.length:Int)=(bs.length:Int)):=by omega
  have a0:GC ls ss=true:=by simp [GC,hbs,hl2]
  have e:((ss.length:Int)==(bs.length:Int))=false:=by simpa using hl2
  simp [Uv,Uw,Sb,a0,allT,sy,e,h.1]
def ak4(nm:avP)(ins vs os:List avP)(g:avP)(ls:List LN)(xs:avO)(ss:List BS3)(inps:aup):Int:=bif !dS nm ins vs os g ls then 1 else bif !sy vs.length (blL ls) xs ss|| !inps.all (fun l=>bitsB ins.length l)then 2 else 0
theorem ax0{nm:avP}{ins vs os:List avP}{g:avP}{ls:List LN}{xs:avO}{ss:List BS3}{inps:aup}(h:(ak4 nm ins vs os g ls xs ss inps !=0)=false):
  dS nm ins vs os g ls=true∧sy vs.length (blL ls) xs ss=true∧inps.all (fun l=>bitsB ins.length l)=true:=by
 simp only [ak4]at h
 revert h
 cases dS nm ins vs os g ls <;> cases sy vs.length (blL ls) xs ss <;> cases inps.all (fun l=>bitsB ins.length l) <;> simp
def cdG(nm:avP)(ins vs os:List avP)(g:avP)(ls:List LN)(xs:avO)(inps:aup):Bool:=Uc nm ins vs os g ls&&(leN xs.length 9223372036854775807&&(leN inps.length 1048576&&inps.all fun l=>leN l.length 9223372036854775807))
theorem aw1{nm:avP}{ins vs os:List avP}{g:avP}{ls:List LN}{xs:avO}{inps:aup}:
  cdG nm ins vs os g ls xs inps=true↔Uc nm ins vs os g ls=true∧leN xs.length 9223372036854775807=true∧inps.length≤1048576∧ ∀ l∈inps,leN l.length 9223372036854775807=true:=by
 simp only [cdG,q8,gR,List.all_eq_true]
def gV(a:List avP)(b:avO):(Unit)→Nat ⊕ (Unit)
 |_=>(bif(Gr b a)then(.inl 0)else(.inr ()))
def dR(a b:avP)(c:aup)(d e f:List avP)(g:afa)(i:Nat):(Unit)→cw
 |_=>((i:Int),(↑c.length:Int),a,b,c,d,e,f,g)
def vH:cw→Unit
 |(_,_,_,_,_,_,_,_,_)=>()
theorem Sy(c e:avP)(f:aup)(g j k:List avP)(m:afa) (hn:f.length≤9223372036854775807) (hA: ∀ l∈f,leN l.length 9223372036854775807=true):
  aI.fin ((0:Int),(↑f.length:Int),c,e,f,g,j,k,m)=true∧aI.res ((0:Int),(↑f.length:Int),c,e,f,g,j,k,m)=((br (gV g) 1 f 0 ()).1,(dR c e f g j k m) (br (gV g) 1 f 0 ()).2.1 (br (gV g) 1 f 0 ()).2.2):=by
 have nQ:=aI.along (dR c e f g j k m) vH (gV g) 1 (fun _ _=>True) f () (by trivial) (by simp only [aI,dR];omega) (fun i b a hb hI=> ?_) (fun a hI=> ?_)
 ·exact nQ
 ·obtain⟨⟩:=a
  have fC:=(k7.1 hb).1
  have lP: ∀ d,v5 f[i]? d=b:=fun d=>by rw [hb];rfl
  have hw:=Bm fC hn
  have fB:ltI (i:Int) (f.length:Int)=true:=dw (by omega)
  have Ly:leI (0:Int) (i:Int)=true:=bk (by omega)
  have sO:ltN i f.length=true:=eD fC
  refine⟨?_,?_,?_,?_⟩
  ·have hg2:dP (i:Int) f=b:=by simp only [dP,q9];exact lP _
   have h4:li (i:Int) f=true:=by simp only [li,Nn,hg2,hA b (List.mem_of_getElem? hb),allT,cond_true]
   simp only [lh,qE,qF,qG,kH,aI,LT.nds,allT,dR,h4,fB,Ly,sO,q9,cond_true,Bool.and_self]
   cases lj (i:Int) f g <;> simp [LT.nds]
  ·simp [dP,lh,qE,qF,qG,li,lj,wD,kH,aI,LT.each,dR,vH,hw]
  ·have hg2:dP (i:Int) f=b:=by simp only [dP,q9];exact lP _
   simp only [lh,lj,kH,aI,LT.fn,dR,vH,gV,fB,hg2,cond_true]
  ·exact fun _ _=>trivial
 ·obtain⟨⟩:=a
  simp [dP,lh,qE,qF,qG,li,lj,wD,kH,aI,LT.out,dR]
theorem auY(nm:avP)(ins vs os:List avP)(g:avP)(ls:List LN)(xs:avO)(ss:List BS3)(inps:aup)(h:cdG nm ins vs os g ls xs inps=true):
  abl nm g ins vs os ls xs ss inps=ak4 nm ins vs os g ls xs ss inps∧abm nm g ins vs os ls xs ss inps=true:=by
 obtain⟨h1,h2,h3,h4⟩:=aw1.1 h
 obtain⟨w1,w2⟩:=Sy nm g inps ins vs os ls (by omega) h4
 rw [lN (P:=fun l=> !bitsB ins.length l) (j:=0) (fun l=>by simp only [gV,Gr]),aeg]at w2
 have hlk:=(Qg.1 h1).2.2.2.2.2.2
 have hbl:=at1 hlk
 have c0:qv inps nm g ins vs os ls= !inps.all (fun l=>bitsB ins.length l):=by
  simp only [qv,zC,mS,si,w2,dR]
  cases (inps.all fun l=>bitsB ins.length l) <;> simp [Nat.beq,Zj.1,Zj.2]
 have c3:qw inps nm g ins vs os ls=true:=by
  simp only [qw,zD,mS,w1,allT,cond_true]
 have k:dS nm ins vs os g ls=true→XK (blL ls)=true:=fun hs=>afW ls (Gy hs).2.1
 have hbl2:leN (blL ls).length 9223372036854775807=true:=bx (by omega)
 refine⟨?_,?_⟩
 ·simp only [abl,c0,ak4]
  cases sy vs.length (blL ls) xs ss <;> rfl
 ·simp only [abm,h1,c3,h2,hlk,hbl2,allT,j8,cond_true]
  cases hs:dS nm ins vs os g ls with
  |false=>rfl
  |true=>rw [k hs];rfl
def ahD:awh
 | [.one ⟨true,[.val (.string a),.ref 0,.ref 1,.ref 2,.val (.string b),.ref 3]⟩,.one ⟨true,[.ref 4,.ref 5]⟩,.one ⟨false,[.ref 6]⟩],[.row false 9 (.str) c,.row false 9 (.str) d,.row false 9 (.str) e,.row false 142 (.pair (.str) (.sl 122 (.pair (.int .i64) (.pair (.str) (.int .i64))))) f,.row false 2 (.int .i64) g,.row false 109 (.pair (.int .i64) (.pair (.int .i64) (.int .i64))) i,.row false 28 (.sl 2 (.int .i64)) j]=>some ⟨aBC (ak4 a c d e b f g i j),[aBD c,aBD d,aBD e,aBH f,aBF g,aBN i,aBP j],[],[cdG a c d e b f g j]⟩
 |_,_=>none
def AH:PF prog:=PF.alt aqo ahD (by
 intro args es o h cA;unfold ahD at h;split at h
 ·rename_i a b c d e f g i j
  cases h
  have cA:=jQ cA
  have hh:=auY a c d e b f g i j cA
  obtain⟨e0,en⟩:=hh
  exact pW rfl (ip en) (by simp only [e0] <;> rfl) rfl rfl
 ·cases h)
def afR:awh
 | [.one ⟨true,[.val (.string _x0),.ref 0,.ref 1,.ref 2,.val (.string _x1),.ref 3]⟩,.one ⟨true,[.ref 4,.ref 5]⟩],[.row false 9 (.str) a,.row false 9 (.str) b,.row false 9 (.str) c,.row false 142 (.pair (.str) (.sl 122 (.pair (.int .i64) (.pair (.str) (.int .i64))))) d,.row false 2 (.int .i64) e,.row false 109 (.pair (.int .i64) (.pair (.int .i64) (.int .i64))) f]=>some ⟨aBB (.val (.bool (sy b.length (blL d) e f))),[aBD a,aBD b,aBD c,aBH d,aBF e,aBN f],[],[Xc d&&leN e.length 9223372036854775807]⟩
 |_,_=>none
def ZL:PF prog:=PF.alt api afR (by
 intro args es o h cA;unfold afR at h;split at h
 ·rename_i _x0 _x1 a b c d e f
  cases h
  have cA:=jQ cA
  have hh:=awM b d e f cA
  obtain⟨e0,en⟩:=hh
  exact pW rfl (ip en) (by simp only [e0] <;> rfl) rfl rfl
 ·cases h)
end Go.SX
