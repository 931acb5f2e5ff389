/- What functions of the program come to, and what that says in plain words: part 3. -/
import Derived.Test.YtkpedbhebddkdaaGreatDoorMb
import Derived.Test.YtkpedbhebddkdaaGreatDoorTXh
import Derived.Test.YtkpedbhebddkdaaGreatDoorProg
import Derived.Test.YtkpedbhebddkdaaGreatDoorTXi
set_option linter.unusedSimpArgs false
set_option linter.unusedVariables false
open Bool renaming and_eq_true → q9
open Int renaming toNat_natCast → z6
open List renaming length_singleton → z9
open List renaming length_append → j6
open List renaming mem_append → j7
open List renaming length_cons → j8
open List renaming length_nil → j9
open Bool renaming or_true → k7
open Int renaming toNat → k8
open List renaming length → k9
open Option renaming getD → v5
open Go.IntKind renaming wrap → v6
open List renaming mem_singleton → v7
namespace Go.SX
open Go.Proofs Go.Proofs.Tryz
set_option maxRecDepth 100000
def zD(a:aje):Bool:=allT [ltN 0 a.length,false||leN (0 + k9 a) 9223372036854775807,false||leN ((0 + k9 a) * 32) 140737488355328]
def Np:arq
 | [.one ⟨false,[.ref 0]⟩],[.row false 64 (.pair (.int .i64) (.pair (.str) (.int .i64))) a]=>some ⟨art (.ref 1),[arA a],[arE a],[zD a]⟩
 |_,_=>none
def jM:PF prog:=PF.ofG prog [] [] aZ 46 f46 func46 (fun c _=>LOk.nil c) Np (by
 intro _ _ _ h;unfold Np at h;split at h<;>cases h;kernel_rfl)
abbrev bC:=Int×Int×arp×arp×List (Int×(arp×Int))
section
variable (a b:Int)(c:ajd)
def eA:Int×arp×Int:=v5 c[k8 a]? ((0:Int),ByteArray.empty,(0:Int))
def eB:List arp:= [((eA a c).2).1]
def ng:Bool:=ltI a b
def nh:Bool:=leI 0 a
def ni:Bool:=ltI a (↑c.length:Int)
def nj:Bool:=ltN a.toNat c.length
def uP:Bool:=leN (k9 (eB a c)) 1048576
end
def uQ:Bool:=leI 0 0
section
variable (a:Int)(b c:arp)(d:ajd)
def uR:Bool:=ltI 0 (↑(k9 (yw b c (eB a d))):Int)
def uS:Bool:=ltN (k8 0) (k9 (yw b c (eB a d)))
def uT:Int:=v6 .i64 (a + (1:Int))
def uU:ajd:=List.set d a.toNat ((eA a d).1,v5 (yw b c (eB a d))[k8 0]? ByteArray.empty,(eA a d).2.2)
end
def DO:bC→List (Nat×SV)
 |(a,b,c,d,_)=> [(51,(aru a)),(50,(aru b)),(49,(art (.ref 0))),(10,(art (.ref 0))),(1,(art (.val (.string c)))),(2,(art (.val (.string d))))]
def DM:bC→List (Nat×Entry)
 |(_,_,_,_,a)=> [(0,(arE a))]
def DS:Nat→bC→List (Nat×SV)
 |_,(a,_,_,_,_)=> [(51,(aru a))]
def mP:bC→LT bC
 |(a,b,c,d,e)=> .ite (ng a b) (.need [nh a,ni a e,nj a e] (.need [uP a e,uQ,uR a c d e,uS a c d e,nh a,ni a e,nj a e] (.nrm ((uT a),b,c,d,(uU a c d e)) [(0,0)]))) (.ext 0 [(0,0)])
def mS(s:St):Option bC:=do
 let some ⟨none,.one ⟨false,[.val (.int .i64 a)]⟩⟩:=s.look 51|none
 let some ⟨none,.one ⟨false,[.val (.int .i64 b)]⟩⟩:=s.look 50|none
 let some ⟨none,.one ⟨false,[.ref 512]⟩⟩:=s.look 49|none
 let some ⟨none,.one ⟨false,[.ref 512]⟩⟩:=s.look 10|none
 let some ⟨none,.one ⟨false,[.val (.string c)]⟩⟩:=s.look 1|none
 let some ⟨none,.one ⟨false,[.val (.string d)]⟩⟩:=s.look 2|none
 let some (.row true 64 (.pair (.int .i64) (.pair .str (.int .i64))) e):=s.ent 512|none
 some (a,b,c,d,e)
def aD:Lp bC where
 h:=⟨[52,53,54,55,12,11,56,57,58,59,60,61,62,63,64,65,66,67,68,51],[0],[],[]⟩
 JL:=DO
 JE:=DM
 XL:=DS
 XE:=fun _=>DM
 q:=fun j=>match j with | _=> .exit 2
 tags:= [0]
 lt:=mP
 fuel:=fun(a,b,c,d,e)=>a.natAbs + b.natAbs + c.size + d.size + e.length
 fix:=fun(_,b,c,d,_) (a,_,_,_,e)=>(a,b,c,d,e)
 σ:= [(0,512)]
 rd:=mS
theorem CD:LoopOk prog (memN [43,44,45,9,46,47,48,10,49,50,51,52,53,54,55,12,11,56,57,58,59,60,61,62,63,64,65,66,67,68,69,70,71,72,73,74,75,76,77,78,79,80,81,82,83,84,42]) aD.F (SL (bc f26 0) 0):=by
 refine Lp.ok (tbl:= (T3z [xo,jM])) (lf:= []) aZ aD (by kernel_rfl) (LOk.nil _) (fun _=>rfl) (fun _ _=>rfl) ?_ ?_ ?_ ?_ (fun _=>rfl) ?_
 ·intro _;kernel_rfl
 ·intro _;kernel_rfl
 ·intro s x h
  have h:mS s=some x:=h
  unfold mS at h
  repeat' split at h
  all_goals cases h
  constructor<;>repeat(first|refine aa ‹_› rfl ?_|refine ab rfl ‹_› rfl ?_|rfl)
 ·intro _;kernel_rfl
 ·intro _ _;exact(And.intro rfl trivial)
abbrev bU:=Int×Int×arp×arp×List (arp×(List (Int×(arp×Int))))×arp×arp×List arp×List arp×List arp×List (arp×(List (Int×(arp×Int))))
section
variable (a b:Int)(c d:arp)(e:agS)
def dS:arp×aje:=v5 e[k8 a]? (ul aao)
def dU:Int×Int×arp×arp×aje:=((0:Int),(↑(k9 ((dS a e).2)):Int),c,d,(dS a e).2)
def dV:List arp:= [(dS a e).1]
def fO:agT:= [(v5 (yw c d (dV a e))[k8 0]? ByteArray.empty,(Lp.res aD (dU a c d e)).2.2.2.2.2)]
def oX:Bool:=ltI a b
def wq:Bool:=leI 0 a
def ws:Bool:=ltI a (↑e.length:Int)
def wu:Bool:=ltN a.toNat e.length
def wv:Bool:=zD ((dS a e).2)
def ww:Bool:=Lp.fin aD (dU a c d e)
def wx:Bool:=leN (k9 (dV a e)) 1048576
end
def wy:Bool:=leI 0 0
section
variable (a:Int)(b c:arp)(d e:agS)
def wz:Bool:=ltI 0 (↑(k9 (yw b c (dV a d))):Int)
def wA:Bool:=ltN (k8 0) (k9 (yw b c (dV a d)))
def vE:Bool:=leN (k9 e + k9 (fO a b c d)) 9223372036854775807
def vF:Bool:=leN ((k9 e + k9 (fO a b c d)) * 40) 140737488355328
def vG:Int:=v6 .i64 (a + (1:Int))
def vH:agS:=e++fO a b c d
end
def FA:bU→List (Nat×SV)
 |(a,b,c,d,_,_,_,_,_,_,_)=> [(42,(aru a)),(41,(aru b)),(40,(art (.ref 0))),(1,(art (.val (.string c)))),(2,(art (.val (.string d)))),(7,(art (.ptr 1 0)))]
def Fx:bU→List (Nat×Entry)
 |(_,_,_,_,a,b,c,d,e,f,g)=> [(0,(arx a)),(1,(.box 27 [.val (.string b),.ref 2,.ref 3,.ref 4,.val (.string c),.ref 5])),(2,(arw d)),(3,(arw e)),(4,(arw f)),(5,(arD g))]
def FG:Nat→bU→List (Nat×SV)
 |_,_=>[]
def oC:bU→LT bU
 |(a,b,c,d,e,f,g,i,j,k,l)=> .ite (oX a b) (.need [wq a,ws a e,wu a e] (.need [wv a e] (.need [ww a c d e] (.need [wx a e,wy,wz a c d e,wA a c d e,vE a c d e l,vF a c d e l] (.nrm ((vG a),b,c,d,e,f,g,i,j,k,(vH a c d e l)) [(0,0),(1,1),(2,2),(3,3),(4,4),(5,1728)]))))) (.ext 0 [(0,0),(1,1),(2,2),(3,3),(4,4),(5,5)])
def oF(s:St):Option bU:=do
 let some ⟨none,.one ⟨false,[.val (.int .i64 a)]⟩⟩:=s.look 42|none
 let some ⟨none,.one ⟨false,[.val (.int .i64 b)]⟩⟩:=s.look 41|none
 let some ⟨none,.one ⟨false,[.ref 3]⟩⟩:=s.look 40|none
 let some ⟨none,.one ⟨false,[.val (.string c)]⟩⟩:=s.look 1|none
 let some ⟨none,.one ⟨false,[.val (.string d)]⟩⟩:=s.look 2|none
 let some ⟨none,.one ⟨false,[.ptr 2112 0]⟩⟩:=s.look 7|none
 let some (.row false 61 (.pair .str (.sl 64 (.pair (.int .i64) (.pair .str (.int .i64))))) e):=s.ent 3|none
 let some (.box 27 [.val (.string f),.ref 832,.ref 1152,.ref 1472,.val (.string g),.ref 2048]):=s.ent 2112|none
 let some (.row true 9 (.str) i):=s.ent 832|none
 let some (.row true 9 (.str) j):=s.ent 1152|none
 let some (.row true 9 (.str) k):=s.ent 1472|none
 let some (.row true 61 (.pair .str (.sl 64 (.pair (.int .i64) (.pair .str (.int .i64))))) l):=s.ent 2048|none
 some (a,b,c,d,e,f,g,i,j,k,l)
def aN:Lp bU where
 h:=⟨[43,44,45,9,46,47,48,10,49,50,51,52,53,54,55,12,11,56,57,58,59,60,61,62,63,64,65,66,67,68,69,70,71,72,73,74,75,76,77,78,79,80,81,82,83,84,42],[0,1,2,3,4],[5],[]⟩
 JL:=FA
 JE:=Fx
 XL:=FG
 XE:=fun _=>Fx
 q:=fun j=>match j with | _=> .exit 0
 tags:= [0]
 lt:=oC
 fuel:=fun(a,b,c,d,e,f,g,i,k,l,m)=>a.natAbs + b.natAbs + c.size + d.size + e.length + f.size + g.size + i.length + k.length + l.length + m.length
 fix:=fun(_,b,c,d,e,f,g,i,k,l,_) (a,_,_,_,_,_,_,_,_,_,m)=>(a,b,c,d,e,f,g,i,k,l,m)
 σ:= [(0,3),(1,2112),(2,832),(3,1152),(4,1472),(5,2048)]
 rd:=oF
theorem EB:LoopOk prog (fun k=>Nat.blt k Tryz.f26.ntmps) aN.F (bc f26 0):=by
 refine Lp.ok (tbl:= (T3z [xo,jM])) (lf:= [aD.F]) aZ aN (by kernel_rfl) (LOk.allT (l:= [SL (bc f26 0) 0]) (by kernel_rfl) (.cons CD (.nil _))) (fun _=>rfl) (fun _ _=>rfl) ?_ ?_ ?_ ?_ (fun _=>rfl) ?_
 ·intro _;kernel_rfl
 ·intro _;kernel_rfl
 ·intro s x h
  have h:oF s=some x:=h
  unfold oF at h
  repeat' split at h
  all_goals cases h
  constructor<;>repeat(first|refine aa ‹_› rfl ?_|refine ab rfl ‹_› rfl ?_|rfl)
 ·intro _;kernel_rfl
 ·intro _ _;exact(And.intro rfl trivial)
section
variable (a b c d:arp)(e f g:List arp)(i:agT)
def qd:arp:=v5 (yw c d [b])[k8 0]? ByteArray.empty
def lh:Int×Int×arp×arp×agT×arp×arp×List arp×List arp×List arp×agT:=((0:Int),(↑i.length:Int),c,d,i,a,qd b c d,yw c d e,yw c d f,yw c d g,[])
def qC:arp:=qd b c d
def qD:List arp:=yw c d e
def qE:List arp:=yw c d f
def qF:List arp:=yw c d g
def qG:agS:=(Lp.res aN (lh a b c d e f g i)).2.2.2.2.2.2.2.2.2.2.2
def qH:Bool:=allT [leN e.length (1048576:Nat),leN f.length (1048576:Nat),leN g.length (1048576:Nat),leN (k9 [b]) (1048576:Nat),ltI 0 (↑(k9 (yw c d [b])):Int),ltN (k8 0) (k9 (yw c d [b])),Lp.fin aN (lh a b c d e f g i)]
end
def xY:arq
 | [.one ⟨true,[.val (.string a),.ref 0,.ref 1,.ref 2,.val (.string b),.ref 3]⟩,.one ⟨false,[.val (.string c)]⟩,.one ⟨false,[.val (.string d)]⟩],[.row false 9 (.str) e,.row false 9 (.str) f,.row false 9 (.str) g,.row false 61 (.pair (.str) (.sl 64 (.pair (.int .i64) (.pair (.str) (.int .i64))))) i]=>some ⟨.one ⟨true,[.val (.string a),.ref 4,.ref 5,.ref 6,.val (.string (qC b c d)),.ref 7]⟩,[arv e,arv f,arv g,arz i],[arw (qD c d e),arw (qE c d f),arw (qF c d g),arD (qG a b c d e f g i)],[qH a b c d e f g i]⟩
 |_,_=>none
def qL:PF prog:=PF.ofG prog (T3z [xo,jM]) [aN.F] aZ 26 f26 func26 (LOk.fnT (l:= [bc f26 0]) (by kernel_rfl) (.cons EB (.nil _))) xY (by
 intro _ _ _ h;unfold xY at h;split at h<;>cases h;kernel_rfl)
section
variable (a b c d:arp)(e f g:List arp)(i:agT)
def lu:Bool:=sdC a e f g b i !=0
def BK:Bool:= !ByteArray.toList d==ByteArray.toList c
def Gn:List arp:=bif BK c d&&(!!gN d&&true)then ae e f g else []
def qY:Bool:=bif !gN d then true else bif BK c d then hasS (Gn c d e f g) d else false
def Su:arp:=bif lu a b e f g i then ByteArray.mk #[]else bif !hasS (ae e f g) c then ByteArray.mk #[]else bif qY c d e f g then ByteArray.mk #[]else a
def Sv:arp:=bif lu a b e f g i then ByteArray.mk #[]else bif !hasS (ae e f g) c then ByteArray.mk #[]else bif qY c d e f g then ByteArray.mk #[]else qC b c d
def Sw:Int:=bif lu a b e f g i then sdC a e f g b i else bif !hasS (ae e f g) c then(4:Int)else bif qY c d e f g then(2:Int)else(0:Int)
def Sx:List arp:=bif lu a b e f g i then []else bif !hasS (ae e f g) c then []else bif qY c d e f g then []else qD c d e
def Sy:List arp:=bif lu a b e f g i then []else bif !hasS (ae e f g) c then []else bif qY c d e f g then []else qE c d f
def Sz:List arp:=bif lu a b e f g i then []else bif !hasS (ae e f g) c then []else bif qY c d e f g then []else qF c d g
def SA:agS:=bif lu a b e f g i then []else bif !hasS (ae e f g) c then []else bif qY c d e f g then []else qG a b c d e f g i
def SB:Bool:=allT [PK a e f g b i,lu a b e f g i||cJ e f g,lu a b e f g i||leN (k9 (ae e f g)) 9223372036854775807,lu a b e f g i||(!hasS (ae e f g) c||(!(BK c d&&(!!gN d&&true))||cJ e f g)),lu a b e f g i||(!hasS (ae e f g) c||(!(BK c d&&(!!gN d&&true))||leN (k9 (Gn c d e f g)) 9223372036854775807)),lu a b e f g i||(!hasS (ae e f g) c||(qY c d e f g||qH a b c d e f g i))]
end
def Zh:arq
 | [.one ⟨true,[.val (.string a),.ref 0,.ref 1,.ref 2,.val (.string b),.ref 3]⟩,.one ⟨false,[.val (.string c)]⟩,.one ⟨false,[.val (.string d)]⟩],[.row false 9 (.str) e,.row false 9 (.str) f,.row false 9 (.str) g,.row false 61 (.pair (.str) (.sl 64 (.pair (.int .i64) (.pair (.str) (.int .i64))))) i]=>some ⟨.tup [⟨true,[.val (.string (Su a b c d e f g i)),.ref 4,.ref 5,.ref 6,.val (.string (Sv a b c d e f g i)),.ref 7]⟩,⟨false,[ars (Sw a b c d e f g i)]⟩],[arv e,arv f,arv g,arz i],[arw (Sx a b c d e f g i),arw (Sy a b c d e f g i),arw (Sz a b c d e f g i),arD (SA a b c d e f g i)],[SB a b c d e f g i]⟩
 |_,_=>none
def ag1:PF prog:=PF.ofG prog (T3z [te,ao,bT,IY,qL]) [] aZ 6 f6 func6 (fun c _=>LOk.nil c) Zh (by
 intro _ _ _ h;unfold Zh at h;split at h<;>cases h;kernel_rfl)
abbrev oJ:=Int×arp×arp×List (Int×(arp×Int))
section
variable (a:Int)(b:ajd)
def xD:Int×arp×Int:=v5 b[k8 a]? ((0:Int),ByteArray.empty,(0:Int))
def xE:List arp:= [((xD a b).2).1]
def yJ:Bool:=ltI a (↑b.length:Int)
def JQ:Bool:=leI 0 a
def JR:Bool:=ltN a.toNat b.length
def QB:Bool:=leN (k9 (xE a b)) 1048576
end
def QC:Bool:=leI 0 0
section
variable (a:Int)(b c:arp)(d:ajd)
def QD:Bool:=ltI 0 (↑(k9 (yw b c (xE a d))):Int)
def QE:Bool:=ltN (k8 0) (k9 (yw b c (xE a d)))
def QF:Int:=v6 .i64 (a + (1:Int))
def QG:ajd:=List.set d a.toNat ((xD a d).1,v5 (yw b c (xE a d))[k8 0]? ByteArray.empty,(xD a d).2.2)
end
def Yn:oJ→List (Nat×SV)
 |(a,b,c,_)=> [(12,(aru a)),(11,(art (.ref 0))),(1,(art (.val (.string b)))),(2,(art (.val (.string c))))]
def Yj:oJ→List (Nat×Entry)
 |(_,_,_,a)=> [(0,(arE a))]
def Yv:Nat→oJ→List (Nat×SV)
 |_,(a,_,_,_)=> [(12,(aru a))]
def HX:oJ→LT oJ
 |(a,b,c,d)=> .ite (yJ a d) (.need [JQ a,yJ a d,JR a d,QB a d,QC,QD a b c d,QE a b c d,JQ a,yJ a d,JR a d] (.nrm ((QF a),b,c,(QG a b c d)) [(0,0)])) (.ext 0 [(0,0)])
def Ib(s:St):Option oJ:=do
 let some ⟨none,.one ⟨false,[.val (.int .i64 a)]⟩⟩:=s.look 12|none
 let some ⟨none,.one ⟨false,[.ref 832]⟩⟩:=s.look 11|none
 let some ⟨none,.one ⟨false,[.val (.string b)]⟩⟩:=s.look 1|none
 let some ⟨none,.one ⟨false,[.val (.string c)]⟩⟩:=s.look 2|none
 let some (.row true 64 (.pair (.int .i64) (.pair .str (.int .i64))) d):=s.ent 832|none
 some (a,b,c,d)
def fL:Lp oJ where
 h:=⟨[61,62,63,64,67,68,69,70,71,72,73,74,75,76,77,78,79,80,81,65,66,12],[0],[],[]⟩
 JL:=Yn
 JE:=Yj
 XL:=Yv
 XE:=fun _=>Yj
 q:=fun j=>match j with | _=> .exit 3
 tags:= [0]
 lt:=HX
 fuel:=fun(a,b,c,d)=>a.natAbs + b.size + c.size + d.length
 fix:=fun(_,b,c,_) (a,_,_,d)=>(a,b,c,d)
 σ:= [(0,832)]
 rd:=Ib
theorem WW:LoopOk prog (memN [46,47,48,49,50,53,54,55,56,57,58,59,60,11,12,61,62,63,64,67,68,69,70,71,72,73,74,75,76,77,78,79,80,81,65,66,82,83,84,85,86,87,88,89,90,91,92,93,94,95,96,97,98,9,51,52,10]) fL.F (SL (bc f7 0) 0):=by
 refine Lp.ok (tbl:= (T3z [jj,da,eG,zR,xt])) (lf:= []) aZ fL (by kernel_rfl) (LOk.nil _) (fun _=>rfl) (fun _ _=>rfl) ?_ ?_ ?_ ?_ (fun _=>rfl) ?_
 ·intro _;kernel_rfl
 ·intro _;kernel_rfl
 ·intro s x h
  have h:Ib s=some x:=h
  unfold Ib at h
  repeat' split at h
  all_goals cases h
  constructor<;>repeat(first|refine aa ‹_› rfl ?_|refine ab rfl ‹_› rfl ?_|rfl)
 ·intro _;kernel_rfl
 ·intro _ _;exact(And.intro rfl trivial)
abbrev sc:=Int×arp×arp×arp×arp×List (arp×(List (Int×(arp×Int))))×List arp×List arp×List arp×List (arp×(List (Int×(arp×Int))))
section
variable (a:Int)(b c:arp)(d:agS)
def xP:arp×aje:=v5 d[k8 a]? (ul aao)
def xQ:Int×arp×arp×aje:=((0:Int),b,c,(xP a d).2)
def xR:List arp:= [(xP a d).1]
def Bm:agT:= [(v5 (yw b c (xR a d))[k8 0]? ByteArray.empty,(Lp.res fL (xQ a b c d)).2.2.2.2)]
def CS:Bool:=ltI a (↑d.length:Int)
def Oq:Bool:=leI 0 a
def Ot:Bool:=ltN a.toNat d.length
def UF:Bool:=leN (0 + k9 ((xP a d).2)) 9223372036854775807
def UG:Bool:=leN ((0 + k9 ((xP a d).2)) * 32) 140737488355328
def UH:Bool:=Lp.fin fL (xQ a b c d)
def UI:Bool:=leN (k9 (xR a d)) 1048576
end
def UJ:Bool:=leI 0 0
section
variable (a:Int)(b c:arp)(d e:agS)
def UK:Bool:=ltI 0 (↑(k9 (yw b c (xR a e))):Int)
def UL:Bool:=ltN (k8 0) (k9 (yw b c (xR a e)))
def TF:Bool:=leN (k9 d + k9 (Bm a b c e)) 9223372036854775807
def TG:Bool:=leN ((k9 d + k9 (Bm a b c e)) * 40) 140737488355328
def TH:Int:=v6 .i64 (a + (1:Int))
def TI:agS:=d++Bm a b c e
end
def acq:sc→List (Nat×SV)
 |(a,b,c,_,_,_,_,_,_,_)=> [(10,(aru a)),(3,(art (.ptr 0 0))),(1,(art (.val (.string b)))),(2,(art (.val (.string c)))),(9,(art (.ref 1)))]
def ach:sc→List (Nat×Entry)
 |(_,_,_,a,b,c,d,e,f,g)=> [(0,(.box 27 [.val (.string a),.ref 2,.ref 3,.ref 4,.val (.string b),.ref 5])),(2,(arv d)),(3,(arv e)),(4,(arv f)),(5,(arx g)),(1,(arD c))]
def acI:Nat→sc→List (Nat×SV)
 |_,(_,_,_,_,_,_,_,_,_,_)=> [(9,(art (.ref 1)))]
def acz:Nat→sc→List (Nat×Entry)
 |_,(_,_,_,a,b,c,d,e,f,g)=> [(0,(.box 27 [.val (.string a),.ref 2,.ref 3,.ref 4,.val (.string b),.ref 5])),(1,(arD c)),(2,(arv d)),(3,(arv e)),(4,(arv f)),(5,(arx g))]
def MK:sc→LT sc
 |(a,b,c,d,e,f,g,i,j,k)=> .ite (CS a k) (.need [Oq a,CS a k,Ot a k,UF a k,UG a k] (.need [UH a b c k] (.need [Oq a,CS a k,Ot a k,UI a k,UJ,UK a b c k,UL a b c k,TF a b c f k,TG a b c f k] (.nrm ((TH a),b,c,d,e,TI a b c f k,g,i,j,k) [(0,0),(1,2112),(2,2),(3,3),(4,4),(5,5)])))) (.ext 0 [(0,0),(1,1),(2,2),(3,3),(4,4),(5,5)])
def MY(s:St):Option sc:=do
 let some ⟨none,.one ⟨false,[.val (.int .i64 a)]⟩⟩:=s.look 10|none
 let some ⟨none,.one ⟨false,[.ptr 320 0]⟩⟩:=s.look 3|none
 let some ⟨none,.one ⟨false,[.val (.string b)]⟩⟩:=s.look 1|none
 let some ⟨none,.one ⟨false,[.val (.string c)]⟩⟩:=s.look 2|none
 let some ⟨none,.one ⟨false,[.ref 2304]⟩⟩:=s.look 9|none
 let some (.box 27 [.val (.string d),.ref 0,.ref 1,.ref 2,.val (.string e),.ref 3]):=s.ent 320|none
 let some (.row false 9 (.str) g):=s.ent 0|none
 let some (.row false 9 (.str) i):=s.ent 1|none
 let some (.row false 9 (.str) j):=s.ent 2|none
 let some (.row false 61 (.pair .str (.sl 64 (.pair (.int .i64) (.pair .str (.int .i64))))) k):=s.ent 3|none
 let some (.row true 61 (.pair .str (.sl 64 (.pair (.int .i64) (.pair .str (.int .i64))))) f):=s.ent 2304|none
 some (a,b,c,d,e,f,g,i,j,k)
def jB:Lp sc where
 h:=⟨[46,47,48,49,50,53,54,55,56,57,58,59,60,11,12,61,62,63,64,67,68,69,70,71,72,73,74,75,76,77,78,79,80,81,65,66,82,83,84,85,86,87,88,89,90,91,92,93,94,95,96,97,98,9,51,52,10],[0,2,3,4,5],[1],[]⟩
 JL:=acq
 JE:=ach
 XL:=acI
 XE:=acz
 q:=fun j=>match j with | _=> .exit 1
 tags:= [0]
 lt:=MK
 fuel:=fun(a,b,c,d,e,f,g,i,k,l)=>a.natAbs + b.size + c.size + d.size + e.size + f.length + g.length + i.length + k.length + l.length
 fix:=fun(_,b,c,d,e,_,g,i,k,l) (a,_,_,_,_,f,_,_,_,_)=>(a,b,c,d,e,f,g,i,k,l)
 σ:= [(0,320),(2,0),(3,1),(4,2),(5,3),(1,2304)]
 rd:=MY
theorem aat:LoopOk prog (fun k=>Nat.blt k Tryz.f7.ntmps) jB.F (bc f7 0):=by
 refine Lp.ok (tbl:= (T3z [jj,da,eG,zR,xt])) (lf:= [fL.F]) aZ jB (by kernel_rfl) (LOk.allT (l:= [SL (bc f7 0) 0]) (by kernel_rfl) (.cons WW (.nil _))) (fun _=>rfl) (fun _ _=>rfl) ?_ ?_ ?_ ?_ (fun _=>rfl) ?_
 ·intro _;kernel_rfl
 ·intro _;kernel_rfl
 ·intro s x h
  have h:MY s=some x:=h
  unfold MY at h
  repeat' split at h
  all_goals cases h
  constructor<;>repeat(first|refine aa ‹_› rfl ?_|refine ab rfl ‹_› rfl ?_|rfl)
 ·intro _;kernel_rfl
 ·intro _ _;exact(And.intro rfl trivial)
section
variable (a b c d:arp)(e f g:List arp)(i:agT)
def dI:Bool:=sdC a e f g b i !=0
def cS:List arp:=e++f++g
def BO:Bool:= !ByteArray.toList d==ByteArray.toList c
def GU:List arp:=bif BO c d&&(!!iA d&&true)then cS e f g else []
def ge:Bool:=bif !iA d then true else bif BO c d then leI 0 (gh (GU c d e f g) d)else false
def Mu:Int×arp×arp×arp×arp×agT×List arp×List arp×List arp×agT:=((0:Int),c,d,a,b,[],e,f,g,i)
def Rh:Bool:=leN (k9 e + k9 f + k9 g) 2000000
def SU:arp:=bif dI a b e f g i then ByteArray.mk #[]else bif ltI (gh (cS e f g) c) 0 then ByteArray.mk #[]else bif ge c d e f g then ByteArray.mk #[]else a
def SW:arp:=bif dI a b e f g i then ByteArray.mk #[]else bif ltI (gh (cS e f g) c) 0 then ByteArray.mk #[]else bif ge c d e f g then ByteArray.mk #[]else v5 (yw c d [b])[k8 0]? ByteArray.empty
def SY:Int:=bif dI a b e f g i then sdC a e f g b i else bif ltI (gh (cS e f g) c) 0 then(4:Int)else bif ge c d e f g then(2:Int)else(0:Int)
def SZ:List arp:=bif dI a b e f g i then []else bif ltI (gh (cS e f g) c) 0 then []else bif ge c d e f g then []else yw c d e
def Ta:List arp:=bif dI a b e f g i then []else bif ltI (gh (cS e f g) c) 0 then []else bif ge c d e f g then []else yw c d f
def Tb:List arp:=bif dI a b e f g i then []else bif ltI (gh (cS e f g) c) 0 then []else bif ge c d e f g then []else yw c d g
def Tc:agS:=bif dI a b e f g i then []else bif ltI (gh (cS e f g) c) 0 then []else bif ge c d e f g then []else ((Lp.res jB (Mu a b c d e f g i)).2.2.2.2.2.2).1
def Td:Bool:=allT [PK a e f g b i,dI a b e f g i||Rh e f g,dI a b e f g i||leN (k9 (cS e f g)) 9223372036854775807,dI a b e f g i||(ltI (gh (cS e f g) c) 0||sU d),dI a b e f g i||(ltI (gh (cS e f g) c) 0||(!(BO c d&&(!!iA d&&true))||Rh e f g)),dI a b e f g i||(ltI (gh (cS e f g) c) 0||(!(BO c d&&(!!iA d&&true))||leN (k9 (GU c d e f g)) 9223372036854775807)),dI a b e f g i||(ltI (gh (cS e f g) c) 0||(ge c d e f g||Lp.fin jB (Mu a b c d e f g i))),dI a b e f g i||(ltI (gh (cS e f g) c) 0||(ge c d e f g||leN (k9 [b]) (1048576:Nat))),dI a b e f g i||(ltI (gh (cS e f g) c) 0||(ge c d e f g||leI 0 0)),dI a b e f g i||(ltI (gh (cS e f g) c) 0||(ge c d e f g||ltI 0 (↑(k9 (yw c d [b])):Int))),dI a b e f g i||(ltI (gh (cS e f g) c) 0||(ge c d e f g||ltN (k8 0) (k9 (yw c d [b])))),dI a b e f g i||(ltI (gh (cS e f g) c) 0||(ge c d e f g||leN e.length (1048576:Nat))),dI a b e f g i||(ltI (gh (cS e f g) c) 0||(ge c d e f g||leN f.length (1048576:Nat))),dI a b e f g i||(ltI (gh (cS e f g) c) 0||(ge c d e f g||leN g.length (1048576:Nat)))]
end
def Zp:arq
 | [.one ⟨true,[.val (.string a),.ref 0,.ref 1,.ref 2,.val (.string b),.ref 3]⟩,.one ⟨false,[.val (.string c)]⟩,.one ⟨false,[.val (.string d)]⟩],[.row false 9 (.str) e,.row false 9 (.str) f,.row false 9 (.str) g,.row false 61 (.pair (.str) (.sl 64 (.pair (.int .i64) (.pair (.str) (.int .i64))))) i]=>some ⟨.tup [⟨true,[.val (.string (SU a b c d e f g i)),.ref 4,.ref 5,.ref 6,.val (.string (SW a b c d e f g i)),.ref 7]⟩,⟨false,[ars (SY a b c d e f g i)]⟩],[arv e,arv f,arv g,arz i],[arw (SZ a b c d e f g i),arw (Ta a b c d e f g i),arw (Tb a b c d e f g i),arD (Tc a b c d e f g i)],[Td a b c d e f g i]⟩
 |_,_=>none
def ag8:PF prog:=PF.ofG prog (T3z [jj,da,eG,zR,xt]) [jB.F] aZ 7 f7 func7 (LOk.fnT (l:= [bc f7 0]) (by kernel_rfl) (.cons aat (.nil _))) Zp (by
 intro _ _ _ h;unfold Zp at h;split at h<;>cases h;kernel_rfl)
theorem Pm{α:Type}{st l:List α}{i:Nat}{x:α}(h:st.drop i=x::l):st[i]? =some x∧st.drop (i + 1)=l:=by
 refine⟨?_,?_⟩
 ·have:(st.drop i)[0]? =some x:=by rw [h];rfl
  rw [List.getElem?_drop]at this;simpa using this
 ·have e:st.drop (i + 1)=(st.drop i).drop 1:=by rw [List.drop_drop]
  rw [e,h];rfl
theorem afT(f t s:arp):leN [s].length 1048576=true∧ltI 0 ((yw f t [s]).length:Int)=true∧ltN (k8 0) (yw f t [s]).length=true∧v5 (yw f t [s])[k8 0]? ByteArray.empty=rnS f t s:=
 ⟨rfl,ew (by simp [yw]),gM (by simp [yw]),rfl⟩
theorem am5(f t:arp)(n:Nat)(hn:n≤1048576): ∀ (r A:List TM),A.length + r.length=n→
  DK aD.lt (r.length + 1) ((A.length:Int),(n:Int),f,t,A++r)=some (0,((n:Int),(n:Int),f,t,A++r.map (rnT f t)))
 | [],A,hl=>by
  have e:A.length=n:=by simpa using hl
  rw [e]
  have q:ltI (n:Int) (n:Int)=false:=CE (by omega)
  refine rE _ ?_
  simp only [aD,mP,LT.out,ng,q,cond_false,List.map_nil]
 |x::r,A,hl=>by
  simp only [j8]at hl
  have nN:(A++x::r).length=n:=by simp;omega
  have hg:(A++x::r)[A.length]? =some x:=by rw [List.getElem?_append_right (Nat.le_refl _),Nat.sub_self];rfl
  have q0:ltI (A.length:Int) (n:Int)=true:=ew (by omega)
  have q1:leI 0 (A.length:Int)=true:=cG (by omega)
  have q2:ltI (A.length:Int) ((A++x::r).length:Int)=true:=ew (by omega)
  have q3:ltN A.length (A++x::r).length=true:=gM (by omega)
  have q4:v6 .i64 ((A.length:Int) + 1)=((A++ [rnT f t x]).length:Int):=by rw [be (by omega) (by omega),j6,z9];omega
  have a0:eA (A.length:Int) (A++x::r)=x:=by simp only [eA,z6,hg,Option.getD_some]
  obtain⟨z1,z2,z3,z4⟩:=afT f t x.2.1
  have z0:leI (0:Int) 0=true:=rfl
  have q8:(A++x::r).set A.length (x.1,rnS f t x.2.1,x.2.2)=A++ [rnT f t x]++r:=by simp [rnT]
  rw [j8,py (y:=(((A++ [rnT f t x]).length:Int),(n:Int),f,t,A++ [rnT f t x]++r)) _ (by
   simp only [aD,mP,LT.out,ng,nh,ni,nj,uP,uQ,uR,
    uS,uT,uU,eB,a0,z6,q0,q1,q2,q3,q4,z0,z1,z2,z3,z4,q8,allT,cond_true])]
  rw [am5 f t n hn r (A++ [rnT f t x]) (by rw [j6,z9];omega)]
  simp only [List.map_cons,List.append_assoc,List.cons_append,List.nil_append]
theorem anq(f t:arp)(n:Nat)(hn:n≤1048576): ∀ (r A:List TM),A.length + r.length=n→
  DK fL.lt (r.length + 1) ((A.length:Int),f,t,A++r)=some (0,((n:Int),f,t,A++r.map (rnT f t)))
 | [],A,hl=>by
  have e:A.length=n:=by simpa using hl
  have q:ltI (A.length:Int) ((A++ []).length:Int)=false:=CE (by simp)
  rw [← e,List.map_nil]
  refine rE _ ?_
  simp only [fL,HX,LT.out,yJ,q,cond_false]
 |x::r,A,hl=>by
  simp only [j8]at hl
  have nN:(A++x::r).length=n:=by simp;omega
  have hg:(A++x::r)[A.length]? =some x:=by rw [List.getElem?_append_right (Nat.le_refl _),Nat.sub_self];rfl
  have q1:leI 0 (A.length:Int)=true:=cG (by omega)
  have q2:ltI (A.length:Int) ((A++x::r).length:Int)=true:=ew (by omega)
  have q3:ltN A.length (A++x::r).length=true:=gM (by omega)
  have q4:v6 .i64 ((A.length:Int) + 1)=((A++ [rnT f t x]).length:Int):=by rw [be (by omega) (by omega),j6,z9];omega
  have a0:xD (A.length:Int) (A++x::r)=x:=by simp only [xD,z6,hg,Option.getD_some]
  obtain⟨z1,z2,z3,z4⟩:=afT f t x.2.1
  have z0:leI (0:Int) 0=true:=rfl
  have q8:(A++x::r).set A.length (x.1,rnS f t x.2.1,x.2.2)=A++ [rnT f t x]++r:=by simp [rnT]
  rw [j8,py (y:=(((A++ [rnT f t x]).length:Int),f,t,A++ [rnT f t x]++r)) _ (by
   simp only [fL,HX,LT.out,yJ,JQ,JR,QB,QC,QD,QE,QF,QG,xE,a0,z6,q1,q2,q3,q4,z0,z1,z2,z3,z4,q8,allT,cond_true])]
  rw [anq f t n hn r (A++ [rnT f t x]) (by rw [j6,z9];omega)]
  simp only [List.map_cons,List.append_assoc,List.cons_append,List.nil_append]
theorem am3(f t nm g:arp)(a b c:List arp)(ls:List LN)(hn:ls.length≤1048576)(hl: ∀ l∈ls,1≤l.2.length∧l.2.length≤1048576): ∀ (r:List LN) (i:Nat) (acc:List LN),ls.drop i=r→i + r.length=ls.length→acc.length=i→
  DK aN.lt (r.length + 1) ((i:Int),(ls.length:Int),f,t,ls,nm,g,a,b,c,acc)=some (0,((ls.length:Int),(ls.length:Int),f,t,ls,nm,g,a,b,c,acc++r.map (rnL f t)))
 | [],i,acc,_,he,_=>by
  have e:i=ls.length:=by simpa using he
  rw [e]
  have q:ltI (ls.length:Int) (ls.length:Int)=false:=CE (by omega)
  rw [List.map_nil,List.append_nil]
  refine rE _ ?_
  simp only [aN,oC,LT.out,oX,q,cond_false]
 |l::r,i,acc,hd,he,ha=>by
  simp only [j8]at he
  obtain⟨hg,hd'⟩:=Pm hd
  obtain⟨k1,k2⟩:=hl l (List.mem_of_getElem? hg)
  have q0:ltI (i:Int) (ls.length:Int)=true:=ew (by omega)
  have q1:leI 0 (i:Int)=true:=cG (by omega)
  have q2:ltN i ls.length=true:=gM (by omega)
  have q3:v6 .i64 ((i:Int) + 1)=((i + 1:Nat):Int):=by rw [be (by omega) (by omega)];omega
  have a0:dS (i:Int) ls=l:=by simp only [dS,z6,hg];rfl
  obtain⟨p1,p2⟩:=aD.run (am5 f t l.2.length k2 l.2 [] (by simp)) (Fg (by simp only [aD,List.nil_append,j9];omega))
  have p1:aD.fin (dU (i:Int) f t ls)=true:=by simp only [dU,a0];exact p1
  have p2:aD.res (dU (i:Int) f t ls)=(0,((l.2.length:Int),(l.2.length:Int),f,t,l.2.map (rnT f t))):=by simp only [dU,a0];exact p2
  obtain⟨z1,z2,z3,z4⟩:=afT f t l.1
  have z0:leI (0:Int) 0=true:=rfl
  have a3:fO (i:Int) f t ls= [rnL f t l]:=by simp only [fO,dV,a0,p2,z4,rnL]
  have c0:zD l.2=true:=by
   have d:ltN 0 l.2.length=true:=gM (by omega)
   have j:leN (0 + l.2.length) 9223372036854775807=true:=bK (by omega)
   have k:leN ((0 + l.2.length) * 32) 140737488355328=true:=bK (by omega)
   simp only [zD,d,j,k,allT,k7,cond_true]
  have q4:leN (acc.length + [rnL f t l].length) 9223372036854775807=true:=bK (by simp only [j8,j9];omega)
  have q5:leN ((acc.length + [rnL f t l].length) * 40) 140737488355328=true:=bK (by simp only [j8,j9];omega)
  rw [j8,py (y:=(((i + 1:Nat):Int),(ls.length:Int),f,t,ls,nm,g,a,b,c,acc++ [rnL f t l])) _ (by
   simp only [aN,oC,LT.out,oX,wq,ws,wu,wv,ww,wx,wy,
    wz,wA,vE,vF,vG,vH,dV,a0,a3,p1,c0,z6,q0,q1,q2,q3,q4,q5,z0,z1,z2,z3,allT,cond_true])]
  rw [am3 f t nm g a b c ls hn hl r (i + 1) (acc++ [rnL f t l]) hd' (by omega) (by rw [j6,z9];omega)]
  simp only [List.map_cons,List.append_assoc,List.cons_append,List.nil_append]
theorem ano(f t nm g:arp)(a b c:List arp)(ls:List LN)(hn:ls.length≤1048576)(hl: ∀ l∈ls,1≤l.2.length∧l.2.length≤1048576): ∀ (r:List LN) (i:Nat) (acc:List LN),ls.drop i=r→i + r.length=ls.length→acc.length=i→
  DK jB.lt (r.length + 1) ((i:Int),f,t,nm,g,acc,a,b,c,ls)=some (0,((ls.length:Int),f,t,nm,g,acc++r.map (rnL f t),a,b,c,ls))
 | [],i,acc,_,he,_=>by
  have e:i=ls.length:=by simpa using he
  rw [e]
  have q:ltI (ls.length:Int) (ls.length:Int)=false:=CE (by omega)
  rw [List.map_nil,List.append_nil]
  refine rE _ ?_
  simp only [jB,MK,LT.out,CS,q,cond_false]
 |l::r,i,acc,hd,he,ha=>by
  simp only [j8]at he
  obtain⟨hg,hd'⟩:=Pm hd
  obtain⟨k1,k2⟩:=hl l (List.mem_of_getElem? hg)
  have q0:ltI (i:Int) (ls.length:Int)=true:=ew (by omega)
  have q1:leI 0 (i:Int)=true:=cG (by omega)
  have q2:ltN i ls.length=true:=gM (by omega)
  have q3:v6 .i64 ((i:Int) + 1)=((i + 1:Nat):Int):=by rw [be (by omega) (by omega)];omega
  have a0:xP (i:Int) ls=l:=by simp only [xP,z6,hg];rfl
  obtain⟨p1,p2⟩:=fL.run (anq f t l.2.length k2 l.2 [] (by simp)) (Fg (by simp only [fL,List.nil_append,j9];omega))
  have p1:fL.fin (xQ (i:Int) f t ls)=true:=by simp only [xQ,a0];exact p1
  have p2:fL.res (xQ (i:Int) f t ls)=(0,((l.2.length:Int),f,t,l.2.map (rnT f t))):=by simp only [xQ,a0];exact p2
  obtain⟨z1,z2,z3,z4⟩:=afT f t l.1
  have z0:leI (0:Int) 0=true:=rfl
  have a3:Bm (i:Int) f t ls= [rnL f t l]:=by simp only [Bm,xR,a0,p2,z4,rnL]
  have d:leN (0 + l.2.length) 9223372036854775807=true:=bK (by omega)
  have j:leN ((0 + l.2.length) * 32) 140737488355328=true:=bK (by omega)
  have q4:leN (acc.length + [rnL f t l].length) 9223372036854775807=true:=bK (by simp only [j8,j9];omega)
  have q5:leN ((acc.length + [rnL f t l].length) * 40) 140737488355328=true:=bK (by simp only [j8,j9];omega)
  rw [j8,py (y:=(((i + 1:Nat):Int),f,t,nm,g,acc++ [rnL f t l],a,b,c,ls)) _ (by
   simp only [jB,MK,LT.out,CS,Oq,Ot,UF,UG,UH,UI,UJ,UK,UL,TF,TG,TH,TI,xR,a0,a3,p1,d,j,z6,q0,q1,q2,q3,q4,q5,z0,z1,z2,z3,allT,cond_true])]
  rw [ano f t nm g a b c ls hn hl r (i + 1) (acc++ [rnL f t l]) hd' (by omega) (by rw [j6,z9];omega)]
  simp only [List.map_cons,List.append_assoc,List.cons_append,List.nil_append]
def ZL(N:List arp)(f t:arp):Bool:=bif !jP t then true else bif !(t.toList==f.toList)then hasS N t else false
def rnC(nm:arp)(ins vs os:List arp)(g:arp)(ls:List LN)(f t:arp):Int:=bif sdC nm ins vs os g ls !=0 then sdC nm ins vs os g ls else bif !hasS (ins++vs++os) f then 4 else bif ZL (ins++vs++os) f t then 2 else 0
def Fm(c:Int)(s:arp):arp:=bif c==0 then s else⟨#[]⟩
def CJ(c:Int)(f t:arp)(l:List arp):List arp:=bif c==0 then yw f t l else []
def Vx(c:Int)(f t:arp)(ls:List LN):List LN:=bif c==0 then ls.map (rnL f t)else []
def rnN(nm:arp)(ins vs os:List arp)(g:arp)(ls:List LN)(t:arp):Bool:=PK nm ins vs os g ls&&leN t.size 9223372036854775807
theorem alz{nm:arp}{ins vs os:List arp}{g:arp}{ls:List LN}(h:kP nm ins vs os g ls=true):ls.length≤1048576∧ ∀ l∈ls,1≤l.2.length∧l.2.length≤1048576:=by
 obtain⟨_,hL,_,_,hn,_⟩:=Ea h
 refine⟨by omega,fun l hl=> ?_⟩
 obtain⟨_,q2,q3⟩:=VV (List.all_eq_true.1 hL l hl)
 refine⟨?_,by omega⟩
 cases h2:l.2 with
 |nil=>rw [h2]at q3;simp [htT]at q3
 |cons x r=>simp
theorem air(nm:arp)(ins vs os:List arp)(g:arp)(ls:List LN)(f t:arp):
  ((sdC nm ins vs os g ls !=0)=true∧rnC nm ins vs os g ls f t=sdC nm ins vs os g ls∧(rnC nm ins vs os g ls f t==0)=false)∨
  ((sdC nm ins vs os g ls !=0)=false∧hasS (ins++vs++os) f=false∧rnC nm ins vs os g ls f t=4)∨
  ((sdC nm ins vs os g ls !=0)=false∧hasS (ins++vs++os) f=true∧ZL (ins++vs++os) f t=true∧rnC nm ins vs os g ls f t=2)∨
  ((sdC nm ins vs os g ls !=0)=false∧hasS (ins++vs++os) f=true∧ZL (ins++vs++os) f t=false∧rnC nm ins vs os g ls f t=0):=by
 simp only [rnC]
 cases h:sdC nm ins vs os g ls !=0 with
 |true=>exact .inl ⟨rfl,rfl,by simpa [bne] using h⟩
 |false=>cases hasS (ins++vs++os) f <;> cases ZL (ins++vs++os) f t <;> simp
theorem anJ(nm g f t:arp)(ins vs os:List arp)(ls:List LN)(h:rnN nm ins vs os g ls t=true):
  Su nm g f t ins vs os ls=Fm (rnC nm ins vs os g ls f t) nm∧Sv nm g f t ins vs os ls=Fm (rnC nm ins vs os g ls f t) (rnS f t g)∧Sw nm g f t ins vs os ls=rnC nm ins vs os g ls f t∧
  Sx nm g f t ins vs os ls=CJ (rnC nm ins vs os g ls f t) f t ins∧Sy nm g f t ins vs os ls=CJ (rnC nm ins vs os g ls f t) f t vs∧Sz nm g f t ins vs os ls=CJ (rnC nm ins vs os g ls f t) f t os∧
  SA nm g f t ins vs os ls=Vx (rnC nm ins vs os g ls f t) f t ls∧SB nm g f t ins vs os ls=true:=by
 simp only [rnN,q9]at h
 obtain⟨hp,_⟩:=h
 obtain⟨_,_,_,_,_,h6,_⟩:=LB.1 hp
 have n0:ae ins vs os=ins++vs++os:=by simp [ae,bM]
 have n1:cJ ins vs os=true:=by
  have a:leN (bM ins vs os).length 1000=true:=rfl
  have b:leN (Fq (bM ins vs os)) 2000000=true:=bK (by simp [Fq,bM];omega)
  simp only [cJ,a,b,allT,Bool.and_self,cond_true]
 have n2:leN (ins++vs++os).length 9223372036854775807=true:=bK (by rw [j6,j6];omega)
 have n3:leN (Gn f t ins vs os).length 9223372036854775807=true:=by
  simp only [Gn,n0]
  cases BK f t&&(!!gN t&&true)with
  |true=>exact n2
  |false=>rfl
 have a3:qY f t ins vs os=ZL (ins++vs++os) f t:=by
  simp only [qY,Gn,BK,RF,ZL,n0]
  cases jP t with
  |false=>rfl
  |true=>cases t.toList==f.toList <;> rfl
 simp only [Su,Sv,Sw,Sx,Sy,Sz,SA,SB,lu,a3,n0,n1,n2,n3,hp,allT,k7,cond_true]
 rcases air nm ins vs os g ls f t with⟨h1,h2,h3⟩ | ⟨h1,h2,h3⟩ | ⟨h1,h2,h3,h4⟩ | ⟨h1,h2,h3,h4⟩
 ·rw [h1];simp only [Fm,CJ,Vx,h3,cond_true,cond_false,Bool.true_or,and_self,and_true,true_and];exact h2.symm
 ·rw [h1,h2,h3];exact⟨rfl,rfl,rfl,rfl,rfl,rfl,rfl,rfl⟩
 ·rw [h1,h2,h3,h4];exact⟨rfl,rfl,rfl,rfl,rfl,rfl,rfl,rfl⟩
 ·have hS:kP nm ins vs os g ls=true:=by rw [XW]at h1;simpa using h1
  obtain⟨k1,k2⟩:=alz hS
  obtain⟨_,_,_,_,hn,i1,i2,i3⟩:=Ea hS
  obtain⟨z1,z2,z3,z4⟩:=afT f t g
  have e1:leN ins.length 1048576=true:=bK (by omega)
  have e2:leN vs.length 1048576=true:=bK (by omega)
  have e3:leN os.length 1048576=true:=bK (by omega)
  obtain⟨p1,p2⟩:=aN.run (am3 f t nm (rnS f t g) (yw f t ins) (yw f t vs) (yw f t os) ls k1 k2 ls 0 [] (List.drop_zero ..) (by omega) rfl) (Fg (by simp only [aN];omega))
  have p1:aN.fin (lh nm g f t ins vs os ls)=true:=p1
  have p2:aN.res (lh nm g f t ins vs os ls)=_:=p2
  rw [h1,h2,h3,h4]
  simp only [qC,qD,qE,qF,qG,qH,qd,p1,p2,e1,e2,e3,z1,z2,z3,z4,Fm,CJ,Vx,allT,List.nil_append]
  exact⟨rfl,rfl,rfl,rfl,rfl,rfl,rfl,rfl⟩
theorem an4(nm g f t:arp)(ins vs os:List arp)(ls:List LN)(h:rnN nm ins vs os g ls t=true):
  SU nm g f t ins vs os ls=Fm (rnC nm ins vs os g ls f t) nm∧SW nm g f t ins vs os ls=Fm (rnC nm ins vs os g ls f t) (rnS f t g)∧SY nm g f t ins vs os ls=rnC nm ins vs os g ls f t∧
  SZ nm g f t ins vs os ls=CJ (rnC nm ins vs os g ls f t) f t ins∧Ta nm g f t ins vs os ls=CJ (rnC nm ins vs os g ls f t) f t vs∧Tb nm g f t ins vs os ls=CJ (rnC nm ins vs os g ls f t) f t os∧
  Tc nm g f t ins vs os ls=Vx (rnC nm ins vs os g ls f t) f t ls∧Td nm g f t ins vs os ls=true:=by
 simp only [rnN,q9]at h
 obtain⟨hp,ht⟩:=h
 obtain⟨_,_,_,_,_,h6,_⟩:=LB.1 hp
 obtain⟨m1,m2⟩:=LF t (iC.1 ht)
 have n1:Rh ins vs os=true:=bK h6
 have n2:leN (ins++vs++os).length 9223372036854775807=true:=bK (by rw [j6,j6];omega)
 have n3:leN (GU f t ins vs os).length 9223372036854775807=true:=by
  simp only [GU,cS]
  cases BO f t&&(!!iA t&&true)with
  |true=>exact n2
  |false=>rfl
 have a4:ge f t ins vs os=ZL (ins++vs++os) f t:=by
  simp only [ge,GU,BO,cS,m1,ZL,WK]
  cases jP t with
  |false=>rfl
  |true=>cases t.toList==f.toList <;> rfl
 obtain⟨z1,z2,z3,z4⟩:=afT f t g
 have z0:leI (0:Int) 0=true:=rfl
 simp only [SU,SW,SY,SZ,Ta,Tb,Tc,Td,dI,cS,aoG,a4,m2,n1,n2,n3,hp,z0,z1,z2,z3,z4,allT,k7,cond_true]
 rcases air nm ins vs os g ls f t with⟨h1,h2,h3⟩ | ⟨h1,h2,h3⟩ | ⟨h1,h2,h3,h4⟩ | ⟨h1,h2,h3,h4⟩
 ·rw [h1];simp only [Fm,CJ,Vx,h3,cond_true,cond_false,Bool.true_or,and_self,and_true,true_and];exact h2.symm
 ·rw [h1,h2,h3];exact⟨rfl,rfl,rfl,rfl,rfl,rfl,rfl,rfl⟩
 ·rw [h1,h2,h3,h4];exact⟨rfl,rfl,rfl,rfl,rfl,rfl,rfl,rfl⟩
 ·have hS:kP nm ins vs os g ls=true:=by rw [XW]at h1;simpa using h1
  obtain⟨k1,k2⟩:=alz hS
  obtain⟨_,_,_,_,hn,i1,i2,i3⟩:=Ea hS
  have e1:leN ins.length 1048576=true:=bK (by omega)
  have e2:leN vs.length 1048576=true:=bK (by omega)
  have e3:leN os.length 1048576=true:=bK (by omega)
  obtain⟨p1,p2⟩:=jB.run (ano f t nm g ins vs os ls k1 k2 ls 0 [] (List.drop_zero ..) (by omega) rfl) (Fg (by simp only [jB];omega))
  have p1:jB.fin (Mu nm g f t ins vs os ls)=true:=p1
  have p2:jB.res (Mu nm g f t ins vs os ls)=_:=p2
  rw [h1,h2,h3,h4]
  simp only [p1,p2,e1,e2,e3,Fm,CJ,Vx,List.nil_append]
  exact⟨rfl,rfl,rfl,rfl,rfl,rfl,rfl,rfl⟩
def Zx:arq
 | [.one ⟨true,[.val (.string a),.ref 0,.ref 1,.ref 2,.val (.string b),.ref 3]⟩,.one ⟨false,[.val (.string c)]⟩,.one ⟨false,[.val (.string d)]⟩],[.row false 9 (.str) e,.row false 9 (.str) f,.row false 9 (.str) g,.row false 61 (.pair (.str) (.sl 64 (.pair (.int .i64) (.pair (.str) (.int .i64))))) i]=>some ⟨.tup [⟨true,[.val (.string (Fm (rnC a e f g b i c d) a)),.ref 4,.ref 5,.ref 6,.val (.string (Fm (rnC a e f g b i c d) (rnS c d b))),.ref 7]⟩,⟨false,[ars (rnC a e f g b i c d)]⟩],[arv e,arv f,arv g,arz i],[arw (CJ (rnC a e f g b i c d) c d e),arw (CJ (rnC a e f g b i c d) c d f),arw (CJ (rnC a e f g b i c d) c d g),arD (Vx (rnC a e f g b i c d) c d i)],[rnN a e f g b i d]⟩
 |_,_=>none
def vv:PF prog:=PF.alt ag1 Zx (by
 intro args es o h cm;unfold Zx at h;split at h
 ·rename_i a b c d e f g i
  cases h
  have cm:=lv cm
  have hh:=anJ a b c d e f g i cm
  obtain⟨e0,e1,e2,e3,e4,e5,e6,en⟩:=hh
  exact re rfl (la en) (by simp only [e0,e1,e2] <;> rfl) rfl (by simp only [e3,e4,e5,e6] <;> rfl)
 ·cases h)
def ZD:arq
 | [.one ⟨true,[.val (.string a),.ref 0,.ref 1,.ref 2,.val (.string b),.ref 3]⟩,.one ⟨false,[.val (.string c)]⟩,.one ⟨false,[.val (.string d)]⟩],[.row false 9 (.str) e,.row false 9 (.str) f,.row false 9 (.str) g,.row false 61 (.pair (.str) (.sl 64 (.pair (.int .i64) (.pair (.str) (.int .i64))))) i]=>some ⟨.tup [⟨true,[.val (.string (Fm (rnC a e f g b i c d) a)),.ref 4,.ref 5,.ref 6,.val (.string (Fm (rnC a e f g b i c d) (rnS c d b))),.ref 7]⟩,⟨false,[ars (rnC a e f g b i c d)]⟩],[arv e,arv f,arv g,arz i],[arw (CJ (rnC a e f g b i c d) c d e),arw (CJ (rnC a e f g b i c d) c d f),arw (CJ (rnC a e f g b i c d) c d g),arD (Vx (rnC a e f g b i c d) c d i)],[rnN a e f g b i d]⟩
 |_,_=>none
def vB:PF prog:=PF.alt ag8 ZD (by
 intro args es o h cm;unfold ZD at h;split at h
 ·rename_i a b c d e f g i
  cases h
  have cm:=lv cm
  have hh:=an4 a b c d e f g i cm
  obtain⟨e0,e1,e2,e3,e4,e5,e6,en⟩:=hh
  exact re rfl (la en) (by simp only [e0,e1,e2] <;> rfl) rfl (by simp only [e3,e4,e5,e6] <;> rfl)
 ·cases h)
theorem alD{n:Nat}{a:List TM}{k m:Int}{s:arp}(h:Qy n a=true)(hl:a.length + 1≤n)(hs:s.size≤1000):Qy n (a++ [(k,s,m)])=true:=by
 obtain⟨h1,h2⟩:=Dv.1 h
 refine Dv.2 ⟨by rw [j6,z9];omega,fun t ht=> ?_⟩
 rcases j7.1 ht with ht | ht
 ·exact h2 t ht
 ·rw [v7.1 ht];exact hs
theorem aiB{n:Nat}{a:List TM}(i:Nat){k m:Int}{s:arp}(h:Qy n a=true)(hs:s.size≤1000):Qy n (a.set i (k,s,m))=true:=by
 obtain⟨h1,h2⟩:=Dv.1 h
 refine Dv.2 ⟨by rw [List.length_set];omega,fun t ht=> ?_⟩
 rcases List.mem_or_eq_of_mem_set ht with ht | ht
 ·exact h2 t ht
 ·rw [ht];exact hs
theorem aoa{n:Nat}(k:Nat){l:List TM}(h:Qy n l=true):Qy n (l.take k)=true:=by
 obtain⟨h1,h2⟩:=Dv.1 h
 exact Dv.2 ⟨by rw [List.length_take];omega,fun s hs=>h2 s (List.mem_of_mem_take hs)⟩
theorem Ub{n m:Nat}{l:List TM}(h:Qy n l=true)(hm:n≤m):Qy m l=true:=by
 obtain⟨h1,h2⟩:=Dv.1 h;exact Dv.2 ⟨by omega,h2⟩
theorem aqU{n:Nat}{l:List TM}{d:TM}(h:Qy n l=true)(k:Nat)(hd:d.2.1.size≤1000):(v5 l[k]? d).2.1.size≤1000:=by
 cases hk:l[k]? with
 |none=>exact hd
 |some s=>exact(Dv.1 h).2 s (List.mem_of_getElem? hk)
 attribute [local irreducible] nxA nxS nxV pkA pkS pkV
theorem Ri(c:aro)(x:gg)(hx:match x with | (a,b,d,e)=>42≤a.length + (42:Nat)∧aY b d e=true∧a.length + (42:Nat)≤60∧Qy 100 a=true∧e=c):
  cO.fin x=true∧ ∃ j y,cO.res x=(j,y)∧(match y with | (a,b,d,e)=>aY b d c=true∧Qy 100 a=true∧c=e):=by
 refine cO.inv2 (fun k x=>match x with | (a,b,d,e)=>42≤a.length + k∧aY b d e=true∧a.length + k≤60∧Qy 100 a=true∧e=c) (fun y=>match y with | (a,b,d,e)=>aY b d c=true∧Qy 100 a=true∧c=e) (fun k x hx=> ?_) (fun x hx=> ?_) 42 x (by omega) hx
 ·obtain⟨a,b,d,e⟩:=x
  obtain⟨h0,h1,h2,h3,rfl⟩:=hx
  have nn:=Ly (n:=2) h1 (by omega);have hw:IntKind.i64.wrap (40 + nxV 2 b d e)=40 + nxV 2 b d e:=be (by omega) (by omega);have hz:Qy 100 (a++ [((4:Int),ByteArray.mk #[],(0:Int))])=true:=alD h3 (by omega) (Nat.zero_le _)
  simp only [cO,AO,LT.ok,adP,adQ,and_true,Bw,Bx,Bz,BA,BB,om,oo,Bool.or_eq_true,q9]
  repeat' (first | refine And.intro ?_ ?_ | intro _)
  all_goals first
   |omega
   |(repeat (first | assumption | apply mT | apply aeh | apply yx | refine Or.inr ?_ | refine And.intro ?_ ?_ | exact trivial | exact ao2 _ _ | rfl)
     done)
   |((repeat refine Or.inr ?_)
     exact bK (by first | omega | (simp only [S2];omega)))
   |(simp only [S2]
     omega)
   |(repeat' apply aoM
     all_goals first | omega | (simp only [S2];omega))
   |(try simp only [S1]at *
     rw [be (by omega) (by omega)]
     first | omega | (simp only [S2];omega))
   |(simp only [S1]at *
     first | omega | (exfalso;omega))
   |(exfalso;simp_all;done)
 ·obtain⟨a,b,d,e⟩:=x
  obtain⟨h0,h1,h2,h3,rfl⟩:=hx
  have nn:=Ly (n:=2) h1 (by omega);have hw:IntKind.i64.wrap (40 + nxV 2 b d e)=40 + nxV 2 b d e:=be (by omega) (by omega);have hz:Qy 100 (a++ [((4:Int),ByteArray.mk #[],(0:Int))])=true:=alD h3 (by omega) (Nat.zero_le _)
  have e0:ltI (a.length:Int) (IntKind.i64.wrap (40 + nxV 2 b d e))=false:=by rw [hw];exact CE (by omega)
  simp only [cO,AO,LT.ok,adP,adQ,and_true,Bw,Bx,Bz,BA,BB,om,oo,Bool.or_eq_true,q9]
  repeat' (first | refine And.intro ?_ ?_ | intro _)
  all_goals first
   |omega
   |(repeat (first | assumption | apply mT | apply aeh | apply yx | refine Or.inr ?_ | refine And.intro ?_ ?_ | exact trivial | exact ao2 _ _ | rfl)
     done)
   |((repeat refine Or.inr ?_)
     exact bK (by first | omega | (simp only [S2];omega)))
   |(simp only [S2]
     omega)
   |(repeat' apply aoM
     all_goals first | omega | (simp only [S2];omega))
   |(try simp only [S1]at *
     rw [be (by omega) (by omega)]
     first | omega | (simp only [S2];omega))
   |(simp only [S1]at *
     first | omega | (exfalso;omega))
   |(exfalso;simp_all;done)
theorem Kw(a b:Int)(c:aro)(h:aY a b c=true):
  Fp a b c=true∧aY (vr a b c) (vt a b c) c=true∧Qy 100 (vu a b c)=true:=by
 have n4:=Ly (n:=4) h (by omega)
 have s4:aY (nxA 4 a c) (nxS 4 a b c) c=true:=mT h
 have hd:dtN 3 (nxV 4 a b c) (nxA 4 a c) (nxS 4 a b c) [ByteArray.mk #[97],ByteArray.mk #[98],ByteArray.mk #[103,97,116,101]] c=true:=NK.2 ⟨by omega,s4,rfl⟩
 obtain⟨_,s2,t2⟩:=aow _ _ _ _ c hd
 have s2:aY (ja a b c) (yA a b c) c=true:=s2
 have t2:dtL 15 (eD a b c):=t2
 have t0:Qy 100 (eD a b c)=true:=amV t2 (by omega)
 have l1:=t2.1
 have l2:=t2.2.1
 have s3:aY (nxA (ch a b c) (ja a b c) c) (yB a b c) c=true:=mT s2
 obtain⟨i0,i1⟩:0≤bq a b c∧bq a b c < ch a b c:=Ly s2 (by simp only [ch];omega)
 have s7:aY (bL a b c) (cT a b c) c=true:=mT s3
 obtain⟨f0,j0,⟨z0,z1,z2,z3⟩,g0,q1,q2,q3⟩:=Ri c (pz a b c) (by
  simp only [pz]
  exact⟨by omega,s7,by omega,t0,trivial⟩)
 have e1:(lX a b c).1=z1:=by simp only [lX,g0]
 have e2:((lX a b c).2).1=z2:=by simp only [lX,g0]
 have e0:((Lp.res cO (pz a b c)).2).1=z0:=by rw [g0]
 have k17:0≤iu a b c∧iu a b c < 4:=Ly (n:=4) s7 (by omega)
 have d16:(lY a b c).2.1.size≤1000:=aqU t0 _ (Nat.zero_le _)
 have c1:=cG i0
 have c2:=ew i1
 have c3:xF a b c=true:=gM (by simp only [ch]at i1;omega)
 have c4:leI (bq a b c) (ch a b c)=true:=cG (by omega)
 refine⟨?_,?_,?_⟩
 ·have d1:=cG k17.1
  have d2:ltI (iu a b c) (([ByteArray.mk #[],ByteArray.mk #[97,110,100],ByteArray.mk #[120],ByteArray.mk #[89]]:List arp).length:Int)=true:=ew k17.2
  have d3:ltN (iu a b c).toNat ([ByteArray.mk #[],ByteArray.mk #[97,110,100],ByteArray.mk #[120],ByteArray.mk #[89]]:List arp).length=true:=gM (show (iu a b c).toNat < 4 by omega)
  have b1:leN 1 ([(0:Int),4,5,13]:aro).length=true:=rfl
  have b2:leN 1 ([(-1:Int),1,9999,10000]:aro).length=true:=rfl
  have b3:leI 0 0=true:=rfl
  simp only [Fp,h,hd,s2,s3,s7,f0,c1,c2,c3,c4,d1,d2,d3,b1,b2,b3,allT,k7,Bool.and_self,cond_true]
 ·simp only [vr,vt,e1,e2,om,oo]
  exact yx (aeh s7) (yx (mT s7) (yx (aeh s7) (yx s7 (yx (mT q1) s7))))
 ·simp only [vu,e0]
  cases aR a b c <;> simp only [cond_true,cond_false]
  ·cases bn a b c <;> simp only [cond_true,cond_false]
   ·cases eE a b c <;> simp only [cond_true,cond_false]
    ·cases lW a b c <;> simp only [cond_true,cond_false]
     ·cases sK a b c <;> simp only [cond_true,cond_false]
      ·exact Ub t0 (by omega)
      ·exact Ub q2 (by omega)
     ·exact Ub (aoa _ t0) (by omega)
    ·exact Ub (aiB _ t0 d16) (by omega)
   ·exact Ub (aiB _ t0 (ae5 (n:=4) rfl _)) (by omega)
  ·exact Ub (aiB _ t0 d16) (by omega)
def Nr:arq
 | [.one ⟨false,[.ptr 0 0]⟩],[.box 80 [.ref 1,.val (.int .i64 a),.val (.int .i64 b)],.row false 5 (.int .u8) c]=>some ⟨art (.ref 2),[.box 80 [.ref 1,ars (vr a b c),ars (vt a b c)],ary c],[arE (vu a b c)],[aY a b c]⟩
 |_,_=>none
def jL:PF prog:=PF.alt Xe Nr (by
 intro args es o h cm;unfold Nr at h;split at h
 ·rename_i a b c
  cases h
  have cm:=lv cm
  have hh:=(Kw a b c cm).1
  have en:=hh
  exact re rfl (la en) rfl rfl rfl
 ·cases h)
end Go.SX
namespace Go.SX
open Go.Proofs Go.Proofs.Tryz
set_option maxRecDepth 100000
section
variable (a:Int)
def Te:arp:=strOfNums [v6 IntKind.u8 (v6 .i64 ((48:Int) + Int.tmod a 10))]
def Tf:Bool:=ltI a 10||neI 10 0
def GV:arp:=bif ltI a 10 then strOfNums [v6 IntKind.u8 (v6 .i64 ((48:Int) + a))]else ByteArray.mk #[]++Te a
def UM:Bool:=allT [Tf a,ltI a 10||false,Tf a,ltI a 10||leN (ByteArray.size (ByteArray.mk #[]) + ByteArray.size (Te a)) 9223372036854775807]
end
def aaC:arq
 | [.one ⟨false,[.val (.int .i64 a)]⟩],[]=>some ⟨art (.val (.string (GV a))),[],[],[UM a]⟩
 |_,_=>none
def aif:PF prog:=PF.ofG prog [aig] [] aZ 67 f67 func67 (fun c _=>LOk.nil c) aaC (by
 intro _ _ _ h;unfold aaC at h;split at h<;>cases h;kernel_rfl)
theorem apw(x:Int)(h:ltI x 10=true):UM x=true:=by
 simp only [UM,Tf,h,allT,Bool.true_or,cond_true]
def aaX:arq
 | [.one ⟨false,[.val (.int .i64 a)]⟩],[]=>some ⟨art (.val (.string (GV a))),[],[],[ltI a 10]⟩
 |_,_=>none
def ah6:PF prog:=PF.alt aif aaX (by
 intro args es o h cm;unfold aaX at h;split at h
 ·rename_i a
  cases h
  have cm:=lv cm
  have hh:=apw a cm
  have en:=hh
  exact re rfl (la en) rfl rfl rfl
 ·cases h)
section
variable (a:Int)
def UN:arp:=strOfNums [v6 IntKind.u8 (v6 .i64 ((48:Int) + Int.tmod a 10))]
def UO:Bool:=ltI a 10||neI 10 0
def IZ:arp:=bif ltI a 10 then strOfNums [v6 IntKind.u8 (v6 .i64 ((48:Int) + a))]else GV (v6 .i64 (Int.tdiv a 10))++UN a
def Xf:Bool:=allT [UO a,ltI a 10||ltI (v6 .i64 (Int.tdiv a 10)) 10,UO a,ltI a 10||leN (ByteArray.size (GV (v6 .i64 (Int.tdiv a 10))) + ByteArray.size (UN a)) 9223372036854775807]
end
def ac0:arq
 | [.one ⟨false,[.val (.int .i64 a)]⟩],[]=>some ⟨art (.val (.string (IZ a))),[],[],[Xf a]⟩
 |_,_=>none
def aiU:PF prog:=PF.ofG prog [ah6] [] aZ 67 f67 func67 (fun c _=>LOk.nil c) ac0 (by
 intro _ _ _ h;unfold ac0 at h;split at h<;>cases h;kernel_rfl)
theorem ao3(x:Int):(strOfNums [x]).size=1:=rfl
theorem ai7{x:Int}:(GV x).size=1:=by
 simp only [GV,Te]
 cases ltI x 10
 ·rw [cond_false,ByteArray.size_append];rfl
 ·rfl
theorem aot(x:Int)(h:(leI 0 x&&ltI x 100)=true):Xf x=true∧(IZ x).size≤2:=by
 simp only [q9,FN,TU]at h
 have e:Int.tdiv x 10=x / 10:=Int.tdiv_eq_ediv_of_nonneg h.1
 have hw:IntKind.i64.wrap (Int.tdiv x 10)=x / 10:=by rw [e];exact be (by omega) (by omega)
 have h1:ltI (x / 10) 10=true:=ew (by omega)
 have h2:neI 10 0=true:=rfl
 have h3:(UN x).size=1:=rfl
 refine⟨?_,?_⟩
 ·simp only [Xf,UO,hw,h1,h2,h3,ai7,bK (show 1 + 1≤9223372036854775807 by omega),allT,k7,cond_true]
 ·simp only [IZ]
  cases ltI x 10
  ·rw [cond_false,ByteArray.size_append,h3,ai7];omega
  ·rw [cond_true,ao3];omega
def ac4:arq
 | [.one ⟨false,[.val (.int .i64 a)]⟩],[]=>some ⟨art (.val (.string (IZ a))),[],[],[leI 0 a&&ltI a 100]⟩
 |_,_=>none
def WZ:PF prog:=PF.alt aiU ac4 (by
 intro args es o h cm;unfold ac4 at h;split at h
 ·rename_i a
  cases h
  have cm:=lv cm
  have hh:=(aot a cm).1
  have en:=hh
  exact re rfl (la en) rfl rfl rfl
 ·cases h)
abbrev mX:=List arp×Int×Int×List Int
section
variable (a:List arp)(b c:Int)(d:aro)
def DB:List arp:= [ByteArray.mk #[105]++IZ (↑a.length:Int)]
def LI:Bool:=aY b c d
def LJ:Bool:=ltI (↑a.length:Int) (v6 .i64 ((20:Int) + nxV 2 b c d))
def LK:Bool:=leI 0 (↑a.length:Int)&&ltI (↑a.length:Int) 100
def Sd:Bool:=leN (ByteArray.size (ByteArray.mk #[105]) + ByteArray.size (IZ (↑a.length:Int))) 9223372036854775807
def Se:Bool:=leN (k9 a + k9 (DB a)) 9223372036854775807
def Sf:Bool:=leN ((k9 a + k9 (DB a)) * 16) 140737488355328
def ES:List arp:=a++DB a
def Ac:Int:=nxA 2 b d
def Ad:Int:=nxS 2 b c d
end
def ZX:mX→List (Nat×SV)
 |(_,_,_,_)=> [(5,(art (.ref 0))),(0,(art (.ptr 1 0)))]
def ZQ:mX→List (Nat×Entry)
 |(a,b,c,d)=> [(1,(.box 80 [.ref 2,ars b,ars c])),(2,(ary d)),(0,(arw a))]
def aal:Nat→mX→List (Nat×SV)
 |_,(_,_,_,_)=> [(5,(art (.ref 0)))]
def aae:Nat→mX→List (Nat×Entry)
 |_,(a,b,c,d)=> [(0,(arw a)),(1,(.box 80 [.ref 2,ars (Ac b d),ars (Ad b c d)])),(2,(ary d))]
def JD:mX→LT mX
 |(a,b,c,d)=> .need [LI b c d] (.ite (LJ a b c d) (.need [LK a,Sd a,Se a,Sf a] (.nrm ((ES a),Ac b d,Ad b c d,d) [(0,832),(1,1),(2,2)])) (.ext 0 [(0,0),(1,1),(2,2)]))
def JN(s:St):Option mX:=do
 let some ⟨none,.one ⟨false,[.ref 320]⟩⟩:=s.look 5|none
 let some ⟨none,.one ⟨false,[.ptr 0 0]⟩⟩:=s.look 0|none
 let some (.box 80 [.ref 1,.val (.int .i64 b),.val (.int .i64 c)]):=s.ent 0|none
 let some (.row false 5 (.int IntKind.u8) d):=s.ent 1|none
 let some (.row true 9 (.str) a):=s.ent 320|none
 some (a,b,c,d)
def gk:Lp mX where
 h:=⟨[68,69,70,71,72,73,74,75,76,77,78,79,80,5],[1,2],[0],[]⟩
 JL:=ZX
 JE:=ZQ
 XL:=aal
 XE:=aae
 q:=fun j=>match j with | _=> .exit 1
 tags:= [0]
 lt:=JD
 fuel:=fun(a,b,c,d)=>a.length + b.natAbs + c.natAbs + d.length
 fix:=fun(_,_,_,d) (a,b,c,_)=>(a,b,c,d)
 σ:= [(1,0),(2,1),(0,320)]
 rd:=JN
theorem XM:LoopOk prog (fun k=>Nat.blt k Tryz.f40.ntmps) gk.F (bc f40 0):=by
 refine Lp.ok (tbl:= (T3z [aS,qK,jL,WZ])) (lf:= []) aZ gk (by kernel_rfl) (LOk.nil _) (fun _=>rfl) (fun _ _=>rfl) ?_ ?_ ?_ ?_ (fun _=>rfl) ?_
 ·intro _;kernel_rfl
 ·intro _;kernel_rfl
 ·intro s x h
  have h:JN s=some x:=h
  unfold JN at h
  repeat' split at h
  all_goals cases h
  constructor<;>repeat(first|refine aa ‹_› rfl ?_|refine ab rfl ‹_› rfl ?_|rfl)
 ·intro _;kernel_rfl
 ·intro _ _;exact(And.intro rfl trivial)
abbrev mY:=List (arp×(List (Int×(arp×Int))))×Int×Int×List Int
section
variable (a:agS)(b c:Int)(d:aro)
def DC:Int:=(↑a.length:Int)
def DD:arp×aje:=v5 a[k8 0]? (ul aao)
def DE:agT:= [((DD a).1,(DD a).2)]
def LL:Bool:=aY b c d
def LM:Bool:=ltI (DC a) (v6 .i64 ((40:Int) + nxV 2 b c d))
end
def Sg:Bool:=leI 0 0
section
variable (a:agS)(b c:Int)(d:aro)
def Sh:Bool:=ltI 0 (DC a)
def Si:Bool:=ltN (k8 0) a.length
def Sj:Bool:=leN (k9 a + k9 (DE a)) 9223372036854775807
def Sk:Bool:=leN ((k9 a + k9 (DE a)) * 40) 140737488355328
def ET:agS:=a++DE a
def Ae:Int:=nxA 2 b d
def Af:Int:=nxS 2 b c d
end
def ZY:mY→List (Nat×SV)
 |(_,_,_,_)=> [(6,(art (.ref 0))),(0,(art (.ptr 1 0)))]
def ZR:mY→List (Nat×Entry)
 |(a,b,c,d)=> [(1,(.box 80 [.ref 2,ars b,ars c])),(2,(ary d)),(0,(arD a))]
def aam:Nat→mY→List (Nat×SV)
 |_,(_,_,_,_)=> [(6,(art (.ref 0)))]
def aaf:Nat→mY→List (Nat×Entry)
 |_,(a,b,c,d)=> [(0,(arD a)),(1,(.box 80 [.ref 2,ars (Ae b d),ars (Af b c d)])),(2,(ary d))]
def JF:mY→LT mY
 |(a,b,c,d)=> .need [LL b c d] (.ite (LM a b c d) (.need [Sg,Sh a,Si a,Sj a,Sk a] (.nrm ((ET a),Ae b d,Af b c d,d) [(0,768),(1,1),(2,2)])) (.ext 0 [(0,0),(1,1),(2,2)]))
def JO(s:St):Option mY:=do
 let some ⟨none,.one ⟨false,[.ref 323]⟩⟩:=s.look 6|none
 let some ⟨none,.one ⟨false,[.ptr 0 0]⟩⟩:=s.look 0|none
 let some (.box 80 [.ref 1,.val (.int .i64 b),.val (.int .i64 c)]):=s.ent 0|none
 let some (.row false 5 (.int IntKind.u8) d):=s.ent 1|none
 let some (.row true 61 (.pair .str (.sl 64 (.pair (.int .i64) (.pair .str (.int .i64))))) a):=s.ent 323|none
 some (a,b,c,d)
def gm:Lp mY where
 h:=⟨[87,88,89,90,91,92,93,94,95,96,97,98,6],[1,2],[0],[]⟩
 JL:=ZY
 JE:=ZR
 XL:=aam
 XE:=aaf
 q:=fun j=>match j with | _=> .exit 3
 tags:= [0]
 lt:=JF
 fuel:=fun(a,b,c,d)=>a.length + b.natAbs + c.natAbs + d.length
 fix:=fun(_,_,_,d) (a,b,c,_)=>(a,b,c,d)
 σ:= [(1,0),(2,1),(0,323)]
 rd:=JO
theorem XN:LoopOk prog (fun k=>Nat.blt k Tryz.f40.ntmps) gm.F (bc f40 1):=by
 refine Lp.ok (tbl:= (T3z [aS,qK,jL,WZ])) (lf:= []) aZ gm (by kernel_rfl) (LOk.nil _) (fun _=>rfl) (fun _ _=>rfl) ?_ ?_ ?_ ?_ (fun _=>rfl) ?_
 ·intro _;kernel_rfl
 ·intro _;kernel_rfl
 ·intro s x h
  have h:JO s=some x:=h
  unfold JO at h
  repeat' split at h
  all_goals cases h
  constructor<;>repeat(first|refine aa ‹_› rfl ?_|refine ab rfl ‹_› rfl ?_|rfl)
 ·intro _;kernel_rfl
 ·intro _ _;exact(And.intro rfl trivial)
section
variable (a b:Int)(c:aro)
def kQ:Int:=(↑(k9 (gf a b c)):Int)
def Ik:Int:=nxS (kQ a b c) (pB a b c) (Ag a b c) c
def sJ:Int:=nxV 30 (nxA (kQ a b c) (pB a b c) c) (Ik a b c) c
def ay:Bool:=sJ a b c==0
def cw:Int:=nxA 30 (nxA (kQ a b c) (pB a b c) c) c
def ee:Int:=nxS 30 (nxA (kQ a b c) (pB a b c) c) (Ik a b c) c
def nP:Int:=nxV 3 (cw a b c) (ee a b c) c
def aL:Bool:=sJ a b c==1
def aM:Bool:=sJ a b c==2
def aV:Bool:=sJ a b c==3
def bA:Bool:=sJ a b c==4
def cN:Bool:=sJ a b c==5
def dk:Bool:=sJ a b c==6
def dJ:Bool:=sJ a b c==7
def FZ:Int×Int×aro:=(cw a b c,ee a b c,c)
def xS:List arp×Int×Int×aro:=(lZ a b c,FZ a b c)
def uv:Int×Int×aro:=(Lp.res gk (xS a b c)).2.2
def xT:agT×Int×Int×aro:=(gf a b c,FZ a b c)
def uw:Int×Int×aro:=(Lp.res gm (xT a b c)).2.2
def TJ:Int:=nxS 3 (cw a b c) (ee a b c) c
def TK:Int:=nxS 4 (cw a b c) (ee a b c) c
def mu:Int:=nxV 4 (cw a b c) (ee a b c) c
def ux:List arp:= [v5 [ByteArray.mk #[97],ByteArray.mk #[113],ByteArray.mk #[119],ByteArray.mk #[111,110]][k8 (mu a b c)]? ByteArray.empty]
def mv:Int:=nxV (kQ a b c) (pB a b c) (Ag a b c) c
def Ga:arp×aje:=v5 (gf a b c)[k8 (mv a b c)]? (ul aao)
def Ni:Bool:=ltN (k8 (mv a b c)) (k9 (gf a b c))
def EK:arp:=bif ay a b c then v5 [ByteArray.mk #[],ByteArray.mk #[101,110,100],ByteArray.mk #[82,105,100,101]][k8 (nP a b c)]? ByteArray.empty else bif aL a b c then pA a b c else bif aM a b c then pA a b c else bif aV a b c then pA a b c else bif bA a b c then pA a b c else bif cN a b c then pA a b c else bif dk a b c then pA a b c else bif dJ a b c then pA a b c else pA a b c
def EL:arp:=bif ay a b c then qT a b c else bif aL a b c then ByteArray.mk #[]else bif aM a b c then v5 [ByteArray.mk #[97,110,100],ByteArray.mk #[120],ByteArray.mk #[110,111,119,104,101,114,101]][k8 (nP a b c)]? ByteArray.empty else bif aV a b c then qT a b c else bif bA a b c then qT a b c else bif cN a b c then qT a b c else bif dk a b c then qT a b c else bif dJ a b c then qT a b c else qT a b c
def EM:Int:=bif ay a b c then nxA 3 (cw a b c) c else bif aL a b c then cw a b c else bif aM a b c then nxA 3 (cw a b c) c else bif aV a b c then nxA 4 (cw a b c) c else bif bA a b c then vr (cw a b c) (ee a b c) c else bif cN a b c then Ac ((uv a b c).1) c else bif dk a b c then Ae ((uw a b c).1) c else bif dJ a b c then nxA 4 (cw a b c) c else cw a b c
def EN:Int:=bif ay a b c then TJ a b c else bif aL a b c then ee a b c else bif aM a b c then TJ a b c else bif aV a b c then TK a b c else bif bA a b c then vt (cw a b c) (ee a b c) c else bif cN a b c then Ad ((uv a b c).1) (((uv a b c).2).1) c else bif dk a b c then Af ((uw a b c).1) (((uw a b c).2).1) c else bif dJ a b c then TK a b c else ee a b c
def EO:List arp:=bif ay a b c then lZ a b c else bif aL a b c then []else bif aM a b c then lZ a b c else bif aV a b c then lZ a b c else bif bA a b c then lZ a b c else bif cN a b c then ((Lp.res gk (xS a b c)).2).1else bif dk a b c then lZ a b c else bif dJ a b c then lZ a b c else lZ a b c
def EP:List arp:=bif ay a b c then eF a b c else bif aL a b c then eF a b c else bif aM a b c then eF a b c else bif aV a b c then eF a b c else bif bA a b c then eF a b c else bif cN a b c then eF a b c else bif dk a b c then eF a b c else bif dJ a b c then eF a b c++ux a b c else eF a b c
def EQ:List arp:=bif ay a b c then pC a b c else bif aL a b c then pC a b c else bif aM a b c then pC a b c else bif aV a b c then pC a b c else bif bA a b c then pC a b c else bif cN a b c then pC a b c else bif dk a b c then pC a b c else bif dJ a b c then pC a b c else pC a b c
def ER:agS:=bif ay a b c then gf a b c else bif aL a b c then gf a b c else bif aM a b c then gf a b c else bif aV a b c then List.set (gf a b c) (k8 (mv a b c)) (v5 [ByteArray.mk #[],ByteArray.mk #[111,114],ByteArray.mk #[97],ByteArray.mk #[113]][k8 (mu a b c)]? ByteArray.empty,(Ga a b c).2)else bif bA a b c then List.set (gf a b c) (k8 (mv a b c)) ((Ga a b c).1,vu (cw a b c) (ee a b c) c)else bif cN a b c then gf a b c else bif dk a b c then ((Lp.res gm (xT a b c)).2).1else bif dJ a b c then gf a b c else gf a b c
def PZ:Bool:=allT [aY a b c,aY (pB a b c) (Ag a b c) c,aY (nxA (kQ a b c) (pB a b c) c) (Ik a b c) c,!ay a b c||aY (cw a b c) (ee a b c) c,!ay a b c||leI 0 (nP a b c),!ay a b c||ltI (nP a b c) (↑(k9 [ByteArray.mk #[],ByteArray.mk #[101,110,100],ByteArray.mk #[82,105,100,101]]):Int),!ay a b c||ltN (k8 (nP a b c)) (k9 [ByteArray.mk #[],ByteArray.mk #[101,110,100],ByteArray.mk #[82,105,100,101]]),ay a b c||(aL a b c||(!aM a b c||aY (cw a b c) (ee a b c) c)),ay a b c||(aL a b c||(!aM a b c||leI 0 (nP a b c))),ay a b c||(aL a b c||(!aM a b c||ltI (nP a b c) (↑(k9 [ByteArray.mk #[97,110,100],ByteArray.mk #[120],ByteArray.mk #[110,111,119,104,101,114,101]]):Int))),ay a b c||(aL a b c||(!aM a b c||ltN (k8 (nP a b c)) (k9 [ByteArray.mk #[97,110,100],ByteArray.mk #[120],ByteArray.mk #[110,111,119,104,101,114,101]]))),ay a b c||(aL a b c||(aM a b c||(!aV a b c||aY (cw a b c) (ee a b c) c))),ay a b c||(aL a b c||(aM a b c||(!aV a b c||leI 0 (mu a b c)))),ay a b c||(aL a b c||(aM a b c||(!aV a b c||ltI (mu a b c) (↑(k9 [ByteArray.mk #[],ByteArray.mk #[111,114],ByteArray.mk #[97],ByteArray.mk #[113]]):Int)))),ay a b c||(aL a b c||(aM a b c||(!aV a b c||ltN (k8 (mu a b c)) (k9 [ByteArray.mk #[],ByteArray.mk #[111,114],ByteArray.mk #[97],ByteArray.mk #[113]])))),ay a b c||(aL a b c||(aM a b c||(!aV a b c||leI 0 (mv a b c)))),ay a b c||(aL a b c||(aM a b c||(!aV a b c||ltI (mv a b c) (kQ a b c)))),ay a b c||(aL a b c||(aM a b c||(!aV a b c||Ni a b c))),ay a b c||(aL a b c||(aM a b c||(aV a b c||(!bA a b c||aY (cw a b c) (ee a b c) c)))),ay a b c||(aL a b c||(aM a b c||(aV a b c||(!bA a b c||leI 0 (mv a b c))))),ay a b c||(aL a b c||(aM a b c||(aV a b c||(!bA a b c||ltI (mv a b c) (kQ a b c))))),ay a b c||(aL a b c||(aM a b c||(aV a b c||(!bA a b c||Ni a b c)))),ay a b c||(aL a b c||(aM a b c||(aV a b c||(bA a b c||(!cN a b c||Lp.fin gk (xS a b c)))))),ay a b c||(aL a b c||(aM a b c||(aV a b c||(bA a b c||(cN a b c||(!dk a b c||Lp.fin gm (xT a b c))))))),ay a b c||(aL a b c||(aM a b c||(aV a b c||(bA a b c||(cN a b c||(dk a b c||(!dJ a b c||leN (0 + k9 (eF a b c)) 9223372036854775807))))))),ay a b c||(aL a b c||(aM a b c||(aV a b c||(bA a b c||(cN a b c||(dk a b c||(!dJ a b c||leN ((0 + k9 (eF a b c)) * 16) 140737488355328))))))),ay a b c||(aL a b c||(aM a b c||(aV a b c||(bA a b c||(cN a b c||(dk a b c||(!dJ a b c||aY (cw a b c) (ee a b c) c))))))),ay a b c||(aL a b c||(aM a b c||(aV a b c||(bA a b c||(cN a b c||(dk a b c||(!dJ a b c||leI 0 (mu a b c)))))))),ay a b c||(aL a b c||(aM a b c||(aV a b c||(bA a b c||(cN a b c||(dk a b c||(!dJ a b c||ltI (mu a b c) (↑(k9 [ByteArray.mk #[97],ByteArray.mk #[113],ByteArray.mk #[119],ByteArray.mk #[111,110]]):Int)))))))),ay a b c||(aL a b c||(aM a b c||(aV a b c||(bA a b c||(cN a b c||(dk a b c||(!dJ a b c||ltN (k8 (mu a b c)) (k9 [ByteArray.mk #[97],ByteArray.mk #[113],ByteArray.mk #[119],ByteArray.mk #[111,110]])))))))),ay a b c||(aL a b c||(aM a b c||(aV a b c||(bA a b c||(cN a b c||(dk a b c||(!dJ a b c||leN (k9 (eF a b c) + k9 (ux a b c)) 9223372036854775807))))))),ay a b c||(aL a b c||(aM a b c||(aV a b c||(bA a b c||(cN a b c||(dk a b c||(!dJ a b c||leN ((k9 (eF a b c) + k9 (ux a b c)) * 16) 140737488355328)))))))]
end
def VF:arq
 | [.one ⟨false,[.ptr 0 0]⟩],[.box 80 [.ref 1,.val (.int .i64 a),.val (.int .i64 b)],.row false 5 (.int .u8) c]=>some ⟨.one ⟨true,[.val (.string (EK a b c)),.ref 2,.ref 3,.ref 4,.val (.string (EL a b c)),.ref 5]⟩,[.box 80 [.ref 1,ars (EM a b c),ars (EN a b c)],ary c],[arw (EO a b c),arw (EP a b c),arw (EQ a b c),arD (ER a b c)],[PZ a b c]⟩
 |_,_=>none
def ae9:PF prog:=PF.ofG prog (T3z [aS,qK,jL,WZ]) [gk.F,gm.F] aZ 40 f40 func40 (LOk.fnT (l:= [bc f40 0,bc f40 1]) (by kernel_rfl) (.cons XM (.cons XN (.nil _)))) VF (by
 intro _ _ _ h;unfold VF at h;split at h<;>cases h;kernel_rfl)
theorem ak9{m:Nat}{a:List LN}(i:Nat){b:LN}(h:WU m a=true)(h1:b.1.size≤1000)(h2:Qy 100 b.2=true):WU m (a.set i b)=true:=by
 obtain⟨k1,k2⟩:=GE.1 h
 refine GE.2 ⟨by rw [List.length_set];omega,fun x hx=> ?_⟩
 rcases List.mem_or_eq_of_mem_set hx with hx | hx
 ·exact k2 x hx
 ·rw [hx];exact⟨h1,h2⟩
theorem ap6{m:Nat}{l:List LN}{d:LN}(h:WU m l=true)(k:Nat)(hd:d.1.size≤1000∧Qy 100 d.2=true):(v5 l[k]? d).1.size≤1000∧Qy 100 (v5 l[k]? d).2=true:=by
 cases hk:l[k]? with
 |none=>exact hd
 |some s=>exact(GE.1 h).2 s (List.mem_of_getElem? hk)
 attribute [local irreducible] nxA nxS nxV pkA pkS pkV
theorem XY(c:aro)(x:mX)(hx:match x with | (a,b,d,e)=>22≤a.length + (22:Nat)∧aY b d e=true∧a.length + (22:Nat)≤30∧Mb 50 a=true∧e=c):
  gk.fin x=true∧ ∃ j y,gk.res x=(j,y)∧(match y with | (a,b,d,e)=>aY b d c=true∧Mb 50 a=true∧c=e):=by
 refine gk.inv2 (fun k x=>match x with | (a,b,d,e)=>22≤a.length + k∧aY b d e=true∧a.length + k≤30∧Mb 50 a=true∧e=c) (fun y=>match y with | (a,b,d,e)=>aY b d c=true∧Mb 50 a=true∧c=e) (fun k x hx=> ?_) (fun x hx=> ?_) 22 x (by omega) hx
 ·obtain⟨a,b,d,e⟩:=x
  obtain⟨h0,h1,h2,h3,rfl⟩:=hx
  have hd:LK a=true:=by simp only [LK,q9];exact⟨cG (by omega),ew (by omega)⟩
  have ds:=(aot _ hd).2
  have l0:(DB a).length=1:=rfl
  have p0:LI b d e=true:=h1
  have p3:Sd a=true:=bK (by have:(ByteArray.mk #[105]).size=1:=rfl;omega)
  have p4:Se a=true:=bK (by rw [l0];omega)
  have p5:Sf a=true:=bK (by rw [l0];omega)
  have l6:(ES a).length=a.length + 1:=by simp only [ES,j6,l0]
  have m6:Mb 50 (ES a)=true:=by
   refine lU.2 ⟨by omega,fun s hs=> ?_⟩
   rcases j7.1 hs with hs | hs
   ·exact(lU.1 h3).2 s hs
   ·rw [v7.1 hs,ByteArray.size_append]
    have:(ByteArray.mk #[105]).size=1:=rfl
    omega
  have s7:aY (Ac b e) (Ad b d e) e=true:=mT h1
  simp only [gk,JD,LT.ok,adP,adQ,and_true,true_and,p0,hd,p3,p4,p5]
  exact⟨fun _=>⟨by omega,s7,by omega,m6⟩,fun _=>⟨h1,h3⟩⟩
 ·obtain⟨a,b,d,e⟩:=x
  obtain⟨h0,h1,h2,h3,rfl⟩:=hx
  have nn:=Ly (n:=2) h1 (by omega)
  have hw:IntKind.i64.wrap (20 + nxV 2 b d e)=20 + nxV 2 b d e:=be (by omega) (by omega)
  have e1:LJ a b d e=false:=by simp only [LJ,hw];exact CE (by omega)
  have p0:LI b d e=true:=h1
  simp only [gk,JD,LT.ok,adP,adQ,and_true,true_and,p0,e1,Bool.false_eq_true,false_implies,true_implies]
  exact⟨h1,h3⟩
theorem XZ(c:aro)(x:mY)(hx:match x with | (a,b,d,e)=>42≤a.length + (42:Nat)∧aY b d e=true∧a.length + (42:Nat)≤92∧1≤a.length∧WU 100 a=true∧e=c):
  gm.fin x=true∧ ∃ j y,gm.res x=(j,y)∧(match y with | (a,b,d,e)=>aY b d c=true∧WU 100 a=true∧c=e):=by
 refine gm.inv2 (fun k x=>match x with | (a,b,d,e)=>42≤a.length + k∧aY b d e=true∧a.length + k≤92∧1≤a.length∧WU 100 a=true∧e=c) (fun y=>match y with | (a,b,d,e)=>aY b d c=true∧WU 100 a=true∧c=e) (fun k x hx=> ?_) (fun x hx=> ?_) 42 x (by omega) hx
 ·obtain⟨a,b,d,e⟩:=x
  obtain⟨h0,h1,h2,h3,h4,rfl⟩:=hx
  have l2:(DE a).length=1:=rfl
  have p0:LL b d e=true:=h1
  have p2:Sg=true:=rfl
  have p3:Sh a=true:=ew (by simp only [DC];omega)
  have p4:Si a=true:=gM (by simp only [Int.toNat_zero];omega)
  have p5:Sj a=true:=bK (by rw [l2];omega)
  have p6:Sk a=true:=bK (by rw [l2];omega)
  have l7:(ET a).length=a.length + 1:=by simp only [ET,j6,l2]
  have ha:(DD a).1.size≤1000∧Qy 100 (DD a).2=true:=ap6 h4 _ ⟨Nat.zero_le _,rfl⟩
  have m7:WU 100 (ET a)=true:=by
   refine GE.2 ⟨by omega,fun x hx=> ?_⟩
   rcases j7.1 hx with hx | hx
   ·exact(GE.1 h4).2 x hx
   ·rw [v7.1 hx];exact ha
  have s7:aY (Ae b e) (Af b d e) e=true:=mT h1
  simp only [gm,JF,LT.ok,adP,adQ,and_true,true_and,p0,p2,p3,p4,p5,p6]
  exact⟨fun _=>⟨by omega,s7,by omega,by omega,m7⟩,fun _=>⟨h1,h4⟩⟩
 ·obtain⟨a,b,d,e⟩:=x
  obtain⟨h0,h1,h2,h3,h4,rfl⟩:=hx
  have nn:=Ly (n:=2) h1 (by omega)
  have hw:IntKind.i64.wrap (40 + nxV 2 b d e)=40 + nxV 2 b d e:=be (by omega) (by omega)
  have e1:LM a b d e=false:=by simp only [LM,DC,hw];exact CE (by omega)
  have p0:LL b d e=true:=h1
  simp only [gm,JF,LT.ok,adP,adQ,and_true,true_and,p0,e1,Bool.false_eq_true,false_implies,true_implies]
  exact⟨h1,h4⟩
theorem aqO{i:Int}{l:List arp}(h:0≤i∧i < 3)(hl:l.length=3):leI 0 i=true∧ltI i (l.length:Int)=true∧ltN i.toNat l.length=true:=⟨cG h.1,ew (by omega),gM (by omega)⟩
theorem aqP{i:Int}{l:List arp}(h:0≤i∧i < 4)(hl:l.length=4):leI 0 i=true∧ltI i (l.length:Int)=true∧ltN i.toNat l.length=true:=⟨cG h.1,ew (by omega),gM (by omega)⟩
theorem Sc(a b:Int)(c:aro)(h:aY a b c=true):
  PZ a b c=true∧aY (EM a b c) (EN a b c) c=true∧prD (EK a b c) (EO a b c) (EP a b c) (EQ a b c) (EL a b c) (ER a b c)=true:=by
 obtain⟨_,s0,⟨hp,_⟩,l7,l7'⟩:=Qh a b c h
 obtain⟨b1,b2,b3,b4,b5,b6⟩:=FP.1 hp
 have m4:Mb 3 (lZ a b c)=true:=XR _ rfl
 have m5:Mb 3 (eF a b c)=true:=XR _ rfl
 have c4:=(lU.1 m4).1
 have c5:=(lU.1 m5).1
 obtain⟨i0,i1⟩:0≤mv a b c∧mv a b c < kQ a b c:=Ly s0 (by simp only [kQ];omega)
 have s1:aY (nxA (kQ a b c) (pB a b c) c) (Ik a b c) c=true:=mT s0
 have s4:aY (cw a b c) (ee a b c) c=true:=mT s1
 have k6:0≤nP a b c∧nP a b c < 3:=Ly (n:=3) s4 (by omega)
 have k21:0≤mu a b c∧mu a b c < 4:=Ly (n:=4) s4 (by omega)
 obtain⟨d1,d2,d3⟩:=Kw (cw a b c) (ee a b c) c s4
 obtain⟨f0,j0,⟨z0,z1,z2,z3⟩,g0,q1,q2,q3⟩:=XY c (xS a b c) (by
  simp only [xS,FZ]
  exact⟨by omega,s4,by omega,b2,trivial⟩)
 obtain⟨f1,j1,⟨u0,u1,u2,u3⟩,g1,r1,r2,r3⟩:=XZ c (xT a b c) (by
  simp only [xT,FZ]
  exact⟨by omega,s4,by omega,l7,b6,trivial⟩)
 have e1:(uv a b c).1=z1:=by simp only [uv,g0]
 have e2:((uv a b c).2).1=z2:=by simp only [uv,g0]
 have e0:((Lp.res gk (xS a b c)).2).1=z0:=by rw [g0]
 have v1:(uw a b c).1=u1:=by simp only [uw,g1]
 have v2:((uw a b c).2).1=u2:=by simp only [uw,g1]
 have v0:((Lp.res gm (xT a b c)).2).1=u0:=by rw [g1]
 have ha:(Ga a b c).1.size≤1000∧Qy 100 (Ga a b c).2=true:=ap6 b6 _ ⟨Nat.zero_le _,rfl⟩
 have m22:Mb 1 (ux a b c)=true:=lU.2 ⟨Nat.le_refl _,fun s hs=>by rw [v7.1 hs];exact ae5 (n:=4) rfl _⟩
 have c1:=cG i0
 have c2:=ew i1
 have c3:Ni a b c=true:=gM (by simp only [kQ]at i1;omega)
 refine⟨?_,?_,?_⟩
 ·obtain⟨t1,t2,t3⟩:=aqO (l:= [ByteArray.mk #[],ByteArray.mk #[101,110,100],ByteArray.mk #[82,105,100,101]]) k6 rfl
  obtain⟨t4,t5,t6⟩:=aqO (l:= [ByteArray.mk #[97,110,100],ByteArray.mk #[120],ByteArray.mk #[110,111,119,104,101,114,101]]) k6 rfl
  obtain⟨t7,t8,t9⟩:=aqP (l:= [ByteArray.mk #[],ByteArray.mk #[111,114],ByteArray.mk #[97],ByteArray.mk #[113]]) k21 rfl
  obtain⟨w7,w8,w9⟩:=aqP (l:= [ByteArray.mk #[97],ByteArray.mk #[113],ByteArray.mk #[119],ByteArray.mk #[111,110]]) k21 rfl
  have l22:(ux a b c).length=1:=rfl
  have n1:leN ((eF a b c).length + (ux a b c).length) 9223372036854775807=true:=bK (by rw [l22];omega)
  have n2:leN (((eF a b c).length + (ux a b c).length) * 16) 140737488355328=true:=bK (by rw [l22];omega)
  have n3:leN (0 + (eF a b c).length) 9223372036854775807=true:=bK (by omega)
  have n4:leN ((0 + (eF a b c).length) * 16) 140737488355328=true:=bK (by omega)
  simp only [PZ,h,s0,s1,s4,d1,f0,f1,c1,c2,c3,t1,t2,t3,t4,t5,t6,t7,t8,t9,w7,w8,w9,n1,n2,n3,n4,allT,k7,Bool.and_self,cond_true]
 ·simp only [EM,EN,e1,e2,v1,v2,Ac,Ad,Ae,Af]
  exact yx (mT s4) (yx s4 (yx (mT s4) (yx (mT s4) (yx d2 (yx (mT q1) (yx (mT r1) (yx (mT s4) s4)))))))
 ·simp only [EK,EL,EO,EP,EQ,ER,e0,v0]
  cases ay a b c <;> simp only [cond_true,cond_false]
  ·cases aL a b c <;> simp only [cond_true,cond_false]
   ·cases aM a b c <;> simp only [cond_true,cond_false]
    ·cases aV a b c <;> simp only [cond_true,cond_false]
     ·cases bA a b c <;> simp only [cond_true,cond_false]
      ·cases cN a b c <;> simp only [cond_true,cond_false]
       ·cases dk a b c <;> simp only [cond_true,cond_false]
        ·cases dJ a b c <;> simp only [cond_true,cond_false]
         ·exact hp
         ·exact FP.2 ⟨b1,b2,abF m5 m22 (by omega),b4,b5,b6⟩
        ·exact FP.2 ⟨b1,b2,b3,b4,b5,r2⟩
       ·exact FP.2 ⟨b1,q2,b3,b4,b5,b6⟩
      ·exact FP.2 ⟨b1,b2,b3,b4,b5,ak9 _ b6 ha.1 d3⟩
     ·exact FP.2 ⟨b1,b2,b3,b4,b5,ak9 _ b6 (ae5 (n:=4) rfl _) ha.2⟩
    ·exact FP.2 ⟨b1,b2,b3,b4,ae5 (n:=3) rfl _,b6⟩
   ·exact FP.2 ⟨b1,rfl,b3,b4,Nat.zero_le _,b6⟩
  ·exact FP.2 ⟨ae5 (n:=3) rfl _,b2,b3,b4,b5,b6⟩
def VH:arq
 | [.one ⟨false,[.ptr 0 0]⟩],[.box 80 [.ref 1,.val (.int .i64 a),.val (.int .i64 b)],.row false 5 (.int .u8) c]=>some ⟨.one ⟨true,[.val (.string (EK a b c)),.ref 2,.ref 3,.ref 4,.val (.string (EL a b c)),.ref 5]⟩,[.box 80 [.ref 1,ars (EM a b c),ars (EN a b c)],ary c],[arw (EO a b c),arw (EP a b c),arw (EQ a b c),arD (ER a b c)],[aY a b c]⟩
 |_,_=>none
def PE:PF prog:=PF.alt ae9 VH (by
 intro args es o h cm;unfold VH at h;split at h
 ·rename_i a b c
  cases h
  have cm:=lv cm
  have hh:=(Sc a b c cm).1
  have en:=hh
  exact re rfl (la en) rfl rfl rfl
 ·cases h)
end Go.SX
namespace Go.SX
open Go.Proofs Go.Proofs.Tryz
set_option maxRecDepth 100000
section
variable (a b:Int)(c:aro)
def qV:Bool:=nxV 4 a b c==0
def Tk:Bool:=aY (nxA 4 a c) (nxS 4 a b c) c
def Ao:arp:=bif qV a b c then EK (nxA 4 a c) (nxS 4 a b c) c else pA (nxA 4 a c) (nxS 4 a b c) c
def Ap:arp:=bif qV a b c then EL (nxA 4 a c) (nxS 4 a b c) c else qT (nxA 4 a c) (nxS 4 a b c) c
def Aq:Int:=bif qV a b c then EM (nxA 4 a c) (nxS 4 a b c) c else pB (nxA 4 a c) (nxS 4 a b c) c
def Ar:Int:=bif qV a b c then EN (nxA 4 a c) (nxS 4 a b c) c else Ag (nxA 4 a c) (nxS 4 a b c) c
def sV:List arp:=bif qV a b c then EO (nxA 4 a c) (nxS 4 a b c) c else lZ (nxA 4 a c) (nxS 4 a b c) c
def sW:List arp:=bif qV a b c then EP (nxA 4 a c) (nxS 4 a b c) c else eF (nxA 4 a c) (nxS 4 a b c) c
def sX:List arp:=bif qV a b c then EQ (nxA 4 a c) (nxS 4 a b c) c else pC (nxA 4 a c) (nxS 4 a b c) c
def As:agS:=bif qV a b c then ER (nxA 4 a c) (nxS 4 a b c) c else gf (nxA 4 a c) (nxS 4 a b c) c
def Vf:Bool:=allT [aY a b c,!qV a b c||Tk a b c,qV a b c||Tk a b c]
end
def aaN:arq
 | [.one ⟨false,[.ptr 0 0]⟩],[.box 80 [.ref 1,.val (.int .i64 a),.val (.int .i64 b)],.row false 5 (.int .u8) c]=>some ⟨.one ⟨true,[.val (.string (Ao a b c)),.ref 2,.ref 3,.ref 4,.val (.string (Ap a b c)),.ref 5]⟩,[.box 80 [.ref 1,ars (Aq a b c),ars (Ar a b c)],ary c],[arw (sV a b c),arw (sW a b c),arw (sX a b c),arD (As a b c)],[Vf a b c]⟩
 |_,_=>none
def ain:PF prog:=PF.ofG prog (T3z [aS,qK,PE]) [] aZ 19 f19 func19 (fun c _=>LOk.nil c) aaN (by
 intro _ _ _ h;unfold aaN at h;split at h<;>cases h;kernel_rfl)
section
variable (a b:Int)(c d e:List arp)(f:aro)
def jE:List arp:=c++d++e
def xU:Bool:=(↑(k9 (jE c d e)):Int)==0
def fU:Bool:=bif xU c d e then true else nxV 8 a b f==0
def rg:Int:=bif !xU c d e&&true then nxA 8 a f else a
def xV:Int:=bif !xU c d e&&true then nxS 8 a b f else b
def oS:Int:=nxV 5 (rg a c d e f) (xV a b c d e f) f
def uB:Int:=nxV (↑(k9 (jE c d e)):Int) (rg a c d e f) (xV a b c d e f) f
def Nj:Bool:=aY (rg a c d e f) (xV a b c d e f) f
def CY:arp:=bif fU a b c d e f then v5 [ByteArray.mk #[110,111,98,111,100,121],ByteArray.mk #[],ByteArray.mk #[101,110,100],ByteArray.mk #[120],ByteArray.mk #[113]][k8 (oS a b c d e f)]? ByteArray.empty else v5 (jE c d e)[k8 (uB a b c d e f)]? ByteArray.empty
def CZ:Int:=bif fU a b c d e f then nxA 5 (rg a c d e f) f else nxA (↑(k9 (jE c d e)):Int) (rg a c d e f) f
def Da:Int:=bif fU a b c d e f then nxS 5 (rg a c d e f) (xV a b c d e f) f else nxS (↑(k9 (jE c d e)):Int) (rg a c d e f) (xV a b c d e f) f
def Ox:Bool:=allT [leN (k9 c + k9 d + k9 e) 2000000,!(!xU c d e&&true)||aY a b f,!fU a b c d e f||Nj a b c d e f,!fU a b c d e f||leI 0 (oS a b c d e f),!fU a b c d e f||ltI (oS a b c d e f) (↑(k9 [ByteArray.mk #[110,111,98,111,100,121],ByteArray.mk #[],ByteArray.mk #[101,110,100],ByteArray.mk #[120],ByteArray.mk #[113]]):Int),!fU a b c d e f||ltN (k8 (oS a b c d e f)) (k9 [ByteArray.mk #[110,111,98,111,100,121],ByteArray.mk #[],ByteArray.mk #[101,110,100],ByteArray.mk #[120],ByteArray.mk #[113]]),fU a b c d e f||Nj a b c d e f,fU a b c d e f||leI 0 (uB a b c d e f),fU a b c d e f||ltI (uB a b c d e f) (↑(k9 (jE c d e)):Int),fU a b c d e f||ltN (k8 (uB a b c d e f)) (k9 (jE c d e))]
end
def Ug:arq
 | [.one ⟨false,[.ptr 0 0]⟩,.one ⟨true,[.val (.string _x0),.ref 1,.ref 2,.ref 3,.val (.string _x1),.ref 4]⟩],[.box 80 [.ref 5,.val (.int .i64 a),.val (.int .i64 b)],.row false 9 (.str) c,.row false 9 (.str) d,.row false 9 (.str) e,.row false 61 (.pair (.str) (.sl 64 (.pair (.int .i64) (.pair (.str) (.int .i64))))) f,.row false 5 (.int .u8) g]=>some ⟨art (.val (.string (CY a b c d e g))),[.box 80 [.ref 5,ars (CZ a b c d e g),ars (Da a b c d e g)],arv c,arv d,arv e,arz f,ary g],[],[Ox a b c d e g]⟩
 |_,_=>none
def aea:PF prog:=PF.ofG prog (T3z [aS,eG]) [] aZ 20 f20 func20 (fun c _=>LOk.nil c) Ug (by
 intro _ _ _ h;unfold Ug at h;split at h<;>cases h;kernel_rfl)
theorem ao7(nm:arp)(ins vs os:List arp)(g:arp)(ls:List LN)(l:amc):
  (amH (rgO nm ins vs os g ls l)≤4000∧(rgO nm ins vs os g ls l).length≤200∧ ∀ x∈rgO nm ins vs os g ls l,x.length≤20)∧(rgV nm ins vs os g ls l).length≤20∧(rgB nm ins vs os g ls l).length≤1600:=by
 have ht: ∀ (l:amc),(∀ x∈l,x.length≤20)→amH l≤20 * l.length:=by
  intro l
  induction l with
  |nil=>intro _;simp [amH]
  |cons a r ih=>
   intro h
   have h1:=h a (by simp)
   have h2:=ih fun x hx=>h x (by simp [hx])
   simp only [amH,List.map_cons,List.sum_cons,j8]at h2 ⊢
   omega
 simp only [rgO,rgV,rgB]
 rcases alr nm ins vs os g ls l with⟨h1,h2⟩ | ⟨h1,h3,h2⟩ | ⟨h1,h3,h4,h2⟩ | ⟨h1,h3,h4,h2⟩
 ·rw [h2];simp [amH]
 ·rw [h2];simp [amH]
 ·rw [h2];simp [amH]
 ·rw [h2]
  obtain⟨g1,g2,g3⟩:=alx h1 l (zv vs) (Yf (blL ls)) (List.all_eq_true.1 h4) (anr h1)
  obtain⟨s1,s2,_⟩:=Yd.1 g3
  have b2:=(lc.1 s2).2
  have:=aoL h3
  have h5:=ht _ g2
  have hX:=akf (inp:=List.replicate ins.length 0) h1 (lc.2 ⟨fun z hz=> .inl (List.eq_of_mem_replicate hz),by simp⟩)
  have hb:=hX.bl
  have hv:=hX.h2
  simp only [beq_self_eq_true,cond_true]
  exact⟨⟨by omega,by omega,g2⟩,by omega,by omega⟩
 attribute [local irreducible] nxA nxS nxV pkA pkS pkV
theorem Qm(a b:Int)(c:aro)(h:aY a b c=true):
  Vf a b c=true∧aY (Aq a b c) (Ar a b c) c=true∧prD (Ao a b c) (sV a b c) (sW a b c) (sX a b c) (Ap a b c) (As a b c)=true:=by
 have s1:aY (nxA 4 a c) (nxS 4 a b c) c=true:=mT h
 obtain⟨_,a2,a3⟩:=Sc _ _ c s1
 obtain⟨_,b2,⟨b3,_⟩,_⟩:=Qh _ _ c s1
 refine⟨?_,?_,?_⟩
 ·simp only [Vf,Tk,h,s1,allT,k7,cond_true]
 ·simp only [Aq,Ar];exact yx a2 b2
 ·simp only [Ao,Ap,sV,sW,sX,As]
  cases qV a b c
  ·exact b3
  ·exact a3
def aa4:arq
 | [.one ⟨false,[.ptr 0 0]⟩],[.box 80 [.ref 1,.val (.int .i64 a),.val (.int .i64 b)],.row false 5 (.int .u8) c]=>some ⟨.one ⟨true,[.val (.string (Ao a b c)),.ref 2,.ref 3,.ref 4,.val (.string (Ap a b c)),.ref 5]⟩,[.box 80 [.ref 1,ars (Aq a b c),ars (Ar a b c)],ary c],[arw (sV a b c),arw (sW a b c),arw (sX a b c),arD (As a b c)],[aY a b c]⟩
 |_,_=>none
def GO:PF prog:=PF.alt ain aa4 (by
 intro args es o h cm;unfold aa4 at h;split at h
 ·rename_i a b c
  cases h
  have cm:=lv cm
  have hh:=(Qm a b c cm).1
  have en:=hh
  exact re rfl (la en) rfl rfl rfl
 ·cases h)
theorem aos{a s:Int}{c:aro}{nm:arp}{ins vs os:List arp}{g:arp}{ls:List LN}:(aY a s c&&prD nm ins vs os g ls)=true↔aY a s c=true∧prD nm ins vs os g ls=true:=by simp only [q9]
theorem QL(a b:arp)(c d:Int)(e f g:List arp)(i:List LN)(j:aro)(h:aY c d j=true)(hp:prD a e f g b i=true):
  Ox c d e f g j=true∧aY (CZ c d e f g j) (Da c d e f g j) j=true∧(CY c d e f g j).size≤1000:=by
 obtain⟨_,hi,hv,ho,_⟩:=FP.1 hp
 have i0:=(lU.1 hi).1
 have v0:=(lU.1 hv).1
 have o0:=(lU.1 ho).1
 have m0:Mb 150 (jE e f g)=true:=abF (abF hi hv (Nat.le_refl _)) ho (by omega)
 have l0:=(lU.1 m0).1
 have s1:aY (rg c e f g j) (xV c d e f g j) j=true:=yx (mT h) h
 have k5:0≤oS c d e f g j∧oS c d e f g j < 5:=Ly (n:=5) s1 (by omega)
 have c1:=cG k5.1
 have c2:ltI (oS c d e f g j) (([ByteArray.mk #[110,111,98,111,100,121],ByteArray.mk #[],ByteArray.mk #[101,110,100],ByteArray.mk #[120],ByteArray.mk #[113]]:List arp).length:Int)=true:=ew k5.2
 have c3:ltN (oS c d e f g j).toNat ([ByteArray.mk #[110,111,98,111,100,121],ByteArray.mk #[],ByteArray.mk #[101,110,100],ByteArray.mk #[120],ByteArray.mk #[113]]:List arp).length=true:=gM (show (oS c d e f g j).toNat < 5 by omega)
 have s7:Nj c d e f g j=true:=s1
 have b1:leN (e.length + f.length + g.length) 2000000=true:=bK (by omega)
 refine⟨?_,?_,?_⟩
 ·simp only [Ox,b1,h,s7,c1,c2,c3,allT,k7,cond_true]
  cases h2:fU c d e f g j with
  |true=>simp only [Bool.true_or,cond_true]
  |false=>
   have TY:1≤(jE e f g).length:=by
    cases h1:xU e f g with
    |true=>simp only [fU,h1,cond_true]at h2;cases h2
    |false=>
     simp only [xU,beq_eq_false_iff_ne]at h1
     omega
   obtain⟨i0,i1⟩:0≤uB c d e f g j∧uB c d e f g j < ((jE e f g).length:Int):=Ly (n:=((jE e f g).length:Int)) s1 (by omega)
   have d3:ltN (uB c d e f g j).toNat (jE e f g).length=true:=gM (by omega)
   simp only [cG i0,ew i1,d3,k7,cond_true]
 ·simp only [CZ,Da];exact yx (mT s1) (mT s1)
 ·simp only [CY]
  cases fU c d e f g j
  ·exact ae5 m0 _
  ·exact ae5 (n:=5) rfl _
def Uk:arq
 | [.one ⟨false,[.ptr 0 0]⟩,.one ⟨true,[.val (.string a),.ref 1,.ref 2,.ref 3,.val (.string b),.ref 4]⟩],[.box 80 [.ref 5,.val (.int .i64 c),.val (.int .i64 d)],.row false 9 (.str) e,.row false 9 (.str) f,.row false 9 (.str) g,.row false 61 (.pair (.str) (.sl 64 (.pair (.int .i64) (.pair (.str) (.int .i64))))) i,.row false 5 (.int .u8) j]=>some ⟨art (.val (.string (CY c d e f g j))),[.box 80 [.ref 5,ars (CZ c d e f g j),ars (Da c d e f g j)],arv e,arv f,arv g,arz i,ary j],[],[aY c d j&&prD a e f g b i]⟩
 |_,_=>none
def Oh:PF prog:=PF.alt aea Uk (by
 intro args es o h cm;unfold Uk at h;split at h
 ·rename_i a b c d e f g i j
  cases h
  have cm:=lv cm
  have hh:=(QL a b c d e f g i j (aos.1 cm).1 (aos.1 cm).2).1
  have en:=hh
  exact re rfl (la en) rfl rfl rfl
 ·cases h)
end Go.SX
namespace Go.SX
open Go.Proofs Go.Proofs.Tryz
set_option maxRecDepth 100000
abbrev uL:=Int×arp×List (Int×(arp×Int))
section
variable (a:Int)(b:arp)(c:ajd)
def Iw:Int×arp×Int:=v5 c[k8 a]? ((0:Int),ByteArray.empty,(0:Int))
def Du:Bool:=(Iw a c).1==1
def EW:Bool:=ltI a (↑c.length:Int)
def Qn:Bool:=leI 0 a
def Qo:Bool:=ltN a.toNat c.length
def Qp:Bool:= !(Du a c&&true)||leI 0 a
def Qq:Bool:= !(Du a c&&true)||ltI a (↑c.length:Int)
def Qr:Bool:= !(Du a c&&true)||ltN a.toNat c.length
def Qs:Bool:=bif Du a c then ByteArray.toList (((Iw a c).2).1)==ByteArray.toList b else false
def WB:Int:=v6 .i64 (a + (1:Int))
end
def adA:uL→List (Nat×SV)
 |(a,b,_)=> [(5,(aru a)),(0,(art (.ref 0))),(1,(art (.val (.string b))))]
def adu:uL→List (Nat×Entry)
 |(_,_,a)=> [(0,(arA a))]
def adM:Nat→uL→List (Nat×SV)
 |0,(_,_,_)=> [(4,(art (.val (.bool true))))]
 |_,_=>[]
def HZ:uL→LT uL
 |(a,b,c)=> .ite (EW a c) (.need [Qn a,EW a c,Qo a c,Qp a c,Qq a c,Qr a c] (.ite (Qs a b c) (.ext 0 [(0,0)]) (.nrm ((WB a),b,c) [(0,0)]))) (.ext 1 [(0,0)])
def Oo(s:St):Option uL:=do
 let some ⟨none,.one ⟨false,[.val (.int .i64 a)]⟩⟩:=s.look 5|none
 let some ⟨none,.one ⟨false,[.ref 0]⟩⟩:=s.look 0|none
 let some ⟨none,.one ⟨false,[.val (.string b)]⟩⟩:=s.look 1|none
 let some (.row false 64 (.pair (.int .i64) (.pair .str (.int .i64))) c):=s.ent 0|none
 some (a,b,c)
def im:Lp uL where
 h:=⟨[6,7,8,9,12,13,14,15,16,17,18,19,20,21,22,23,24,25,26,4,10,11,5],[0],[],[]⟩
 JL:=adA
 JE:=adu
 XL:=adM
 XE:=fun _=>adu
 q:=fun j=>match j with | 0=> .ret | _=> .exit 0
 tags:= [0,1]
 lt:=HZ
 fuel:=fun(a,b,c)=>a.natAbs + b.size + c.length
 fix:=fun(_,b,c) (a,_,_)=>(a,b,c)
 σ:= [(0,0)]
 rd:=Oo
theorem abB:LoopOk prog (fun k=>Nat.blt k Tryz.f34.ntmps) im.F (bc f34 0):=by
 refine Lp.ok (tbl:= []) (lf:= []) aZ im (by kernel_rfl) (LOk.nil _) (fun _=>rfl) (fun j _=>by unfold im;match j with | 0=>rfl | _ + 1=>rfl) ?_ ?_ ?_ ?_ (fun _=>rfl) ?_
 ·intro _;kernel_rfl
 ·intro _;kernel_rfl
 ·intro s x h
  have h:Oo s=some x:=h
  unfold Oo at h
  repeat' split at h
  all_goals cases h
  constructor<;>repeat(first|refine aa ‹_› rfl ?_|refine ab rfl ‹_› rfl ?_|rfl)
 ·intro _;kernel_rfl
 ·intro _ _;exact(And.intro (And.intro trivial rfl) trivial)
section
variable (a:arp)(b:aje)
def Oc:Int×arp×aje:=((0:Int),a,b)
def Vn:Bool:=bif Nat.beq ((Lp.res im (Oc a b)).1) 0 then true else false
def Vo:Bool:=allT [Lp.fin im (Oc a b)]
end
def aaP:arq
 | [.one ⟨false,[.ref 0]⟩,.one ⟨false,[.val (.string a)]⟩],[.row false 64 (.pair (.int .i64) (.pair (.str) (.int .i64))) b]=>some ⟨art (.val (.bool (Vn a b))),[arA b],[],[Vo a b]⟩
 |_,_=>none
def aip:PF prog:=PF.ofG prog [] [im.F] aZ 34 f34 func34 (LOk.fnT (l:= [bc f34 0]) (by kernel_rfl) (.cons abB (.nil _))) aaP (by
 intro _ _ _ h;unfold aaP at h;split at h<;>cases h;kernel_rfl)
abbrev pV:=Int×List arp×List arp
section
variable (a:Int)(b c:List arp)
def Ey:Bool:=ltI a (↑b.length:Int)
def Lm:Bool:=leI 0 a
def RN:Bool:=ltN a.toNat b.length
def RO:Bool:=ltI a (↑c.length:Int)
def RP:Bool:=ltN a.toNat c.length
def RQ:Bool:= !ByteArray.toList (v5 b[k8 a]? ByteArray.empty)==ByteArray.toList (v5 c[k8 a]? ByteArray.empty)
def RR:Int:=v6 .i64 (a + (1:Int))
end
def ZU:pV→List (Nat×SV)
 |(a,_,_)=> [(5,(aru a)),(0,(art (.ref 0))),(1,(art (.ref 1)))]
def ZN:pV→List (Nat×Entry)
 |(_,a,b)=> [(0,(arv a)),(1,(arv b))]
def aai:Nat→pV→List (Nat×SV)
 |0,(_,_,_)=> [(4,(art (.val (.bool false))))]
 |_,_=>[]
def JB:pV→LT pV
 |(a,b,c)=> .ite (Ey a b) (.need [Lm a,Ey a b,RN a b,Lm a,RO a c,RP a c] (.ite (RQ a b c) (.ext 0 [(0,0),(1,1)]) (.nrm ((RR a),b,c) [(0,0),(1,1)]))) (.ext 1 [(0,0),(1,1)])
def JJ(s:St):Option pV:=do
 let some ⟨none,.one ⟨false,[.val (.int .i64 a)]⟩⟩:=s.look 5|none
 let some ⟨none,.one ⟨false,[.ref 0]⟩⟩:=s.look 0|none
 let some ⟨none,.one ⟨false,[.ref 1]⟩⟩:=s.look 1|none
 let some (.row false 9 (.str) b):=s.ent 0|none
 let some (.row false 9 (.str) c):=s.ent 1|none
 some (a,b,c)
def fw:Lp pV where
 h:=⟨[11,12,13,14,17,18,19,20,21,22,23,24,25,4,15,16,5],[0,1],[],[]⟩
 JL:=ZU
 JE:=ZN
 XL:=aai
 XE:=fun _=>ZN
 q:=fun j=>match j with | 0=> .ret | _=> .exit 0
 tags:= [0,1]
 lt:=JB
 fuel:=fun(a,b,c)=>a.natAbs + b.length + c.length
 fix:=fun(_,b,c) (a,_,_)=>(a,b,c)
 σ:= [(0,0),(1,1)]
 rd:=JJ
theorem XI:LoopOk prog (fun k=>Nat.blt k Tryz.f12.ntmps) fw.F (bc f12 0):=by
 refine Lp.ok (tbl:= []) (lf:= []) aZ fw (by kernel_rfl) (LOk.nil _) (fun _=>rfl) (fun j _=>by unfold fw;match j with | 0=>rfl | _ + 1=>rfl) ?_ ?_ ?_ ?_ (fun _=>rfl) ?_
 ·intro _;kernel_rfl
 ·intro _;kernel_rfl
 ·intro s x h
  have h:JJ s=some x:=h
  unfold JJ at h
  repeat' split at h
  all_goals cases h
  constructor<;>repeat(first|refine aa ‹_› rfl ?_|refine ab rfl ‹_› rfl ?_|rfl)
 ·intro _;kernel_rfl
 ·intro _ _;exact(And.intro (And.intro trivial rfl) trivial)
section
variable (a b:List arp)
def HS:Bool:=(↑a.length:Int)!=(↑b.length:Int)
def HT:Int×List arp×List arp:=((0:Int),a,b)
def gS:Bool:=bif HS a b then false else bif Nat.beq ((Lp.res fw (HT a b)).1) 0 then false else true
def xj:Bool:=allT [HS a b||Lp.fin fw (HT a b)]
end
def VC:arq
 | [.one ⟨false,[.ref 0]⟩,.one ⟨false,[.ref 1]⟩],[.row false 9 (.str) a,.row false 9 (.str) b]=>some ⟨art (.val (.bool (gS a b))),[arv a,arv b],[],[xj a b]⟩
 |_,_=>none
def ir:PF prog:=PF.ofG prog [] [fw.F] aZ 12 f12 func12 (LOk.fnT (l:= [bc f12 0]) (by kernel_rfl) (.cons XI (.nil _))) VC (by
 intro _ _ _ h;unfold VC at h;split at h<;>cases h;kernel_rfl)
abbrev pW:=Int×List (Int×(arp×Int))×List (Int×(arp×Int))
section
variable (a:Int)(b c:ajd)
def Dz:Int×arp×Int:=v5 b[k8 a]? ((0:Int),ByteArray.empty,(0:Int))
def DA:Int×arp×Int:=v5 c[k8 a]? ((0:Int),ByteArray.empty,(0:Int))
def Ez:Bool:=ltI a (↑b.length:Int)
def Ln:Bool:=leI 0 a
def RS:Bool:=ltN a.toNat b.length
def RT:Bool:=ltI a (↑c.length:Int)
def RU:Bool:=ltN a.toNat c.length
def Lo:Bool:= !bif (Dz a b).1==(DA a c).1then bif ((Dz a b).2).1==((DA a c).2).1then bif (Dz a b).2.2==(DA a c).2.2then true else false else false else false
def RW:Int:=v6 .i64 (a + (1:Int))
end
def ZV:pW→List (Nat×SV)
 |(a,_,_)=> [(5,(aru a)),(0,(art (.ref 0))),(1,(art (.ref 1)))]
def ZO:pW→List (Nat×Entry)
 |(_,a,b)=> [(0,(arA a)),(1,(arA b))]
def aaj:Nat→pW→List (Nat×SV)
 |0,(_,_,_)=> [(4,(art (.val (.bool false))))]
 |_,_=>[]
def JC:pW→LT pW
 |(a,b,c)=> .ite (Ez a b) (.need [Ln a,Ez a b,RS a b,Ln a,RT a c,RU a c] (.ite (Lo a b c) (.ext 0 [(0,0),(1,1)]) (.nrm ((RW a),b,c) [(0,0),(1,1)]))) (.ext 1 [(0,0),(1,1)])
def JK(s:St):Option pW:=do
 let some ⟨none,.one ⟨false,[.val (.int .i64 a)]⟩⟩:=s.look 5|none
 let some ⟨none,.one ⟨false,[.ref 0]⟩⟩:=s.look 0|none
 let some ⟨none,.one ⟨false,[.ref 1]⟩⟩:=s.look 1|none
 let some (.row false 64 (.pair (.int .i64) (.pair .str (.int .i64))) b):=s.ent 0|none
 let some (.row false 64 (.pair (.int .i64) (.pair .str (.int .i64))) c):=s.ent 1|none
 some (a,b,c)
def fy:Lp pW where
 h:=⟨[11,12,13,14,17,18,19,20,21,22,23,24,25,4,15,16,5],[0,1],[],[]⟩
 JL:=ZV
 JE:=ZO
 XL:=aaj
 XE:=fun _=>ZO
 q:=fun j=>match j with | 0=> .ret | _=> .exit 0
 tags:= [0,1]
 lt:=JC
 fuel:=fun(a,b,c)=>a.natAbs + b.length + c.length
 fix:=fun(_,b,c) (a,_,_)=>(a,b,c)
 σ:= [(0,0),(1,1)]
 rd:=JK
theorem XJ:LoopOk prog (fun k=>Nat.blt k Tryz.f35.ntmps) fy.F (bc f35 0):=by
 refine Lp.ok (tbl:= []) (lf:= []) aZ fy (by kernel_rfl) (LOk.nil _) (fun _=>rfl) (fun j _=>by unfold fy;match j with | 0=>rfl | _ + 1=>rfl) ?_ ?_ ?_ ?_ (fun _=>rfl) ?_
 ·intro _;kernel_rfl
 ·intro _;kernel_rfl
 ·intro s x h
  have h:JK s=some x:=h
  unfold JK at h
  repeat' split at h
  all_goals cases h
  constructor<;>repeat(first|refine aa ‹_› rfl ?_|refine ab rfl ‹_› rfl ?_|rfl)
 ·intro _;kernel_rfl
 ·intro _ _;exact(And.intro (And.intro trivial rfl) trivial)
section
variable (a b:aje)
def HU:Bool:=(↑a.length:Int)!=(↑b.length:Int)
def HV:Int×aje×aje:=((0:Int),a,b)
def Ko:Bool:=bif HU a b then false else bif Nat.beq ((Lp.res fy (HV a b)).1) 0 then false else true
def Kp:Bool:=allT [HU a b||Lp.fin fy (HV a b)]
end
def VD:arq
 | [.one ⟨false,[.ref 0]⟩,.one ⟨false,[.ref 1]⟩],[.row false 64 (.pair (.int .i64) (.pair (.str) (.int .i64))) a,.row false 64 (.pair (.int .i64) (.pair (.str) (.int .i64))) b]=>some ⟨art (.val (.bool (Ko a b))),[arA a,arA b],[],[Kp a b]⟩
 |_,_=>none
def AJ:PF prog:=PF.ofG prog [] [fy.F] aZ 35 f35 func35 (LOk.fnT (l:= [bc f35 0]) (by kernel_rfl) (.cons XJ (.nil _))) VD (by
 intro _ _ _ h;unfold VD at h;split at h<;>cases h;kernel_rfl)
abbrev mq:=Int×arp×arp×arp×arp×List arp×List arp×List arp×List (arp×(List (Int×(arp×Int))))×List arp×List arp×List arp×List (arp×(List (Int×(arp×Int))))
section
variable (a:Int)(b c:agS)
def zA:Bool:=ltI a (↑b.length:Int)
def Fb:Bool:=ltN a.toNat b.length
def Fc:Bool:=ltI a (↑c.length:Int)
def Fd:Bool:=ltN a.toNat c.length
def zB:arp×aje:=v5 b[k8 a]? (ul aao)
def zC:arp×aje:=v5 c[k8 a]? (ul aao)
def gO:Bool:= !ByteArray.toList ((zB a b).1)==ByteArray.toList ((zC a c).1)
def Fe:aje:=bif !gO a b c&&true then (zB a b).2else []
def Ff:aje:=bif !gO a b c&&true then (zC a c).2else []
def AG:Bool:=zA a b
def GC:Bool:=leI 0 a
def OG:Bool:=Fb a b
def OH:Bool:=Fc a c
def OI:Bool:=Fd a c
def GD:Bool:= !(!gO a b c&&true)||leI 0 a
def OJ:Bool:= !(!gO a b c&&true)||zA a b
def OK:Bool:= !(!gO a b c&&true)||Fb a b
def OL:Bool:= !(!gO a b c&&true)||Fc a c
def OM:Bool:= !(!gO a b c&&true)||Fd a c
def Nu:Bool:= !(!gO a b c&&true)||Kp (Fe a b c) (Ff a b c)
def Nv:Bool:=bif gO a b c then true else !Ko (Fe a b c) (Ff a b c)
def Nw:Int:=v6 .i64 (a + (1:Int))
end
def WE:mq→List (Nat×SV)
 |(a,_,_,_,_,_,_,_,_,_,_,_,_)=> [(5,(aru a)),(2,(art (.ptr 0 0))),(3,(art (.ptr 1 0)))]
def WD:mq→List (Nat×Entry)
 |(_,a,b,c,d,e,f,g,i,j,k,l,m)=> [(0,(.box 27 [.val (.string a),.ref 2,.ref 3,.ref 4,.val (.string b),.ref 5])),(1,(.box 27 [.val (.string c),.ref 6,.ref 7,.ref 8,.val (.string d),.ref 9])),(2,(arv e)),(3,(arv f)),(4,(arv g)),(5,(arx i)),(6,(arv j)),(7,(arv k)),(8,(arv l)),(9,(arx m))]
def WG:Nat→mq→List (Nat×SV)
 |0,(_,_,_,_,_,_,_,_,_,_,_,_,_)=> [(4,(art (.val (.bool false))))]
 |_,_=>[]
def Fk:mq→LT mq
 |(a,b,c,d,e,f,g,i,j,k,l,m,n)=> .ite (AG a j) (.need [GC a,AG a j,OG a j,GC a,OH a n,OI a n,GD a j n,OJ a j n,OK a j n,GD a j n,OL a j n,OM a j n,Nu a j n] (.ite (Nv a j n) (.ext 0 [(0,0),(1,1),(2,2),(3,3),(4,4),(5,5),(6,6),(7,7),(8,8),(9,9)]) (.nrm ((Nw a),b,c,d,e,f,g,i,j,k,l,m,n) [(0,0),(1,1),(2,2),(3,3),(4,4),(5,5),(6,6),(7,7),(8,8),(9,9)]))) (.ext 1 [(0,0),(1,1),(2,2),(3,3),(4,4),(5,5),(6,6),(7,7),(8,8),(9,9)])
def Fl(s:St):Option mq:=do
 let some ⟨none,.one ⟨false,[.val (.int .i64 a)]⟩⟩:=s.look 5|none
 let some ⟨none,.one ⟨false,[.ptr 576 0]⟩⟩:=s.look 2|none
 let some ⟨none,.one ⟨false,[.ptr 640 0]⟩⟩:=s.look 3|none
 let some (.box 27 [.val (.string b),.ref 0,.ref 1,.ref 2,.val (.string c),.ref 3]):=s.ent 576|none
 let some (.box 27 [.val (.string d),.ref 4,.ref 5,.ref 6,.val (.string e),.ref 7]):=s.ent 640|none
 let some (.row false 9 (.str) f):=s.ent 0|none
 let some (.row false 9 (.str) g):=s.ent 1|none
 let some (.row false 9 (.str) i):=s.ent 2|none
 let some (.row false 61 (.pair .str (.sl 64 (.pair (.int .i64) (.pair .str (.int .i64))))) j):=s.ent 3|none
 let some (.row false 9 (.str) k):=s.ent 4|none
 let some (.row false 9 (.str) l):=s.ent 5|none
 let some (.row false 9 (.str) m):=s.ent 6|none
 let some (.row false 61 (.pair .str (.sl 64 (.pair (.int .i64) (.pair .str (.int .i64))))) n):=s.ent 7|none
 some (a,b,c,d,e,f,g,i,j,k,l,m,n)
def dF:Lp mq where
 h:=⟨[51,52,53,54,55,58,59,60,61,62,63,64,65,66,67,68,69,70,71,72,73,74,75,76,77,78,79,80,81,82,83,84,85,86,4,56,57,5],[0,1,2,3,4,5,6,7,8,9],[],[]⟩
 JL:=WE
 JE:=WD
 XL:=WG
 XE:=fun _=>WD
 q:=fun j=>match j with | 0=> .ret | _=> .exit 0
 tags:= [0,1]
 lt:=Fk
 fuel:=fun(a,b,c,d,e,f,g,i,k,l,m,n,o)=>a.natAbs + b.size + c.size + d.size + e.size + f.length + g.length + i.length + k.length + l.length + m.length + n.length + o.length
 fix:=fun(_,b,c,d,e,f,g,i,k,l,m,n,o) (a,_,_,_,_,_,_,_,_,_,_,_,_)=>(a,b,c,d,e,f,g,i,k,l,m,n,o)
 σ:= [(0,576),(1,640),(2,0),(3,1),(4,2),(5,3),(6,4),(7,5),(8,6),(9,7)]
 rd:=Fl
theorem Uy:LoopOk prog (fun k=>Nat.blt k Tryz.f11.ntmps) dF.F (bc f11 0):=by
 refine Lp.ok (tbl:= (T3z [ir,AJ])) (lf:= []) aZ dF (by kernel_rfl) (LOk.nil _) (fun _=>rfl) (fun j _=>by unfold dF;match j with | 0=>rfl | _ + 1=>rfl) ?_ ?_ ?_ ?_ (fun _=>rfl) ?_
 ·intro _;kernel_rfl
 ·intro _;kernel_rfl
 ·intro s x h
  have h:Fl s=some x:=h
  unfold Fl at h
  repeat' split at h
  all_goals cases h
  constructor<;>repeat(first|refine aa ‹_› rfl ?_|refine ab rfl ‹_› rfl ?_|rfl)
 ·intro _;kernel_rfl
 ·intro _ _;exact(And.intro (And.intro trivial rfl) trivial)
section
variable (a b c d:arp)(e f g:List arp)(i:agT)(j k l:List arp)(m:agT)
def Jo:Bool:=bif bif !ByteArray.toList a==ByteArray.toList c then true else !ByteArray.toList b==ByteArray.toList d then true else(↑i.length:Int)!=(↑m.length:Int)
def Jp:Bool:=bif Jo a b c d i m then true else !gS e j
def Jq:Bool:=bif Jp a b c d e i j m then true else !gS f k
def Jr:Bool:=bif Jq a b c d e f i j k m then true else !gS g l
def Dy:Int×arp×arp×arp×arp×List arp×List arp×List arp×agT×List arp×List arp×List arp×agT:=((0:Int),a,b,c,d,e,f,g,i,j,k,l,m)
def zN:Bool:=bif Jr a b c d e f g i j k l m then false else bif Nat.beq ((Lp.res dF (Dy a b c d e f g i j k l m)).1) 0 then false else true
def zO:Bool:=allT [!(!Jo a b c d i m&&true)||xj e j,!(!Jp a b c d e i j m&&true)||xj f k,!(!Jq a b c d e f i j k m&&true)||xj g l,Jr a b c d e f g i j k l m||Lp.fin dF (Dy a b c d e f g i j k l m)]
end
def Rv:arq
 | [.one ⟨true,[.val (.string a),.ref 0,.ref 1,.ref 2,.val (.string b),.ref 3]⟩,.one ⟨true,[.val (.string c),.ref 4,.ref 5,.ref 6,.val (.string d),.ref 7]⟩],[.row false 9 (.str) e,.row false 9 (.str) f,.row false 9 (.str) g,.row false 61 (.pair (.str) (.sl 64 (.pair (.int .i64) (.pair (.str) (.int .i64))))) i,.row false 9 (.str) j,.row false 9 (.str) k,.row false 9 (.str) l,.row false 61 (.pair (.str) (.sl 64 (.pair (.int .i64) (.pair (.str) (.int .i64))))) m]=>some ⟨art (.val (.bool (zN a b c d e f g i j k l m))),[arv e,arv f,arv g,arz i,arv j,arv k,arv l,arz m],[],[zO a b c d e f g i j k l m]⟩
 |_,_=>none
def nq:PF prog:=PF.ofG prog (T3z [ir,AJ]) [dF.F] aZ 11 f11 func11 (LOk.fnT (l:= [bc f11 0]) (by kernel_rfl) (.cons Uy (.nil _))) Rv (by
 intro _ _ _ h;unfold Rv at h;split at h<;>cases h;kernel_rfl)
section
variable (a:aro)
def LG:arp:=CY (Aq 0 (frS a) a) (Ar 0 (frS a) a) (sV 0 (frS a) a) (sW 0 (frS a) a) (sX 0 (frS a) a) a
def pY:List arp:= [ByteArray.mk #[102,114,101,115,104],ByteArray.mk #[110,101,119,95,49],ByteArray.mk #[120],LG a,ByteArray.mk #[97,110,100],ByteArray.mk #[]]
def nz:Int:=CZ (Aq 0 (frS a) a) (Ar 0 (frS a) a) (sV 0 (frS a) a) (sW 0 (frS a) a) (sX 0 (frS a) a) a
def nA:Int:=Da (Aq 0 (frS a) a) (Ar 0 (frS a) a) (sV 0 (frS a) a) (sW 0 (frS a) a) (sX 0 (frS a) a) a
def bk:arp:=Ao 0 (frS a) a
def bv:arp:=Ap 0 (frS a) a
def ag:arp:=LG a
def af:arp:=v5 (pY a)[k8 (nxV 6 (nz a) (nA a) a)]? ByteArray.empty
def dg:List arp:=sV 0 (frS a) a
def dh:List arp:=sW 0 (frS a) a
def di:List arp:=sX 0 (frS a) a
def dj:agS:=As 0 (frS a) a
def Nf:Bool:=allT [aY 0 0 a,aY 0 (frS a) a,aY (Aq 0 (frS a) a) (Ar 0 (frS a) a) a&&prD (Ao 0 (frS a) a) (sV 0 (frS a) a) (sW 0 (frS a) a) (sX 0 (frS a) a) (Ap 0 (frS a) a) (As 0 (frS a) a),aY (nz a) (nA a) a,leI 0 (nxV 6 (nz a) (nA a) a),ltI (nxV 6 (nz a) (nA a) a) (↑(k9 (pY a)):Int),ltN (k8 (nxV 6 (nz a) (nA a) a)) (k9 (pY a))]
end
def To:arq
 | [.one ⟨false,[.ref 0]⟩],[.row false 5 (.int .u8) a]=>some ⟨.tup [⟨true,[.val (.string (bk a)),.ref 1,.ref 2,.ref 3,.val (.string (bv a)),.ref 4]⟩,⟨false,[.val (.string (ag a))]⟩,⟨false,[.val (.string (af a))]⟩],[ary a],[arw (dg a),arw (dh a),arw (di a),arD (dj a)],[Nf a]⟩
 |_,_=>none
def acQ:PF prog:=PF.ofG prog (T3z [GN,GO,Oh,aS]) [] aZ 5 f5 func5 (fun c _=>LOk.nil c) To (by
 intro _ _ _ h;unfold To at h;split at h<;>cases h;kernel_rfl)
section
variable (a:aro)
def qo:arp:=Ao 0 (frS a) a
def qp:arp:=Ap 0 (frS a) a
def qq:List arp:=sV 0 (frS a) a
def qr:List arp:=sW 0 (frS a) a
def qs:List arp:=sX 0 (frS a) a
def qt:agS:=As 0 (frS a) a
def Ie:Bool:=allT [aY 0 0 a,aY 0 (frS a) a]
end
def Pc:arq
 | [.one ⟨false,[.ref 0]⟩],[.row false 5 (.int .u8) a]=>some ⟨.one ⟨true,[.val (.string (qo a)),.ref 1,.ref 2,.ref 3,.val (.string (qp a)),.ref 4]⟩,[ary a],[arw (qq a),arw (qr a),arw (qs a),arD (qt a)],[Ie a]⟩
 |_,_=>none
def Zb:PF prog:=PF.ofG prog (T3z [GN,GO]) [] aZ 8 f8 func8 (fun c _=>LOk.nil c) Pc (by
 intro _ _ _ h;unfold Pc at h;split at h<;>cases h;kernel_rfl)
def nO(a:Int)(b c:arp):Bool:=bif a==1 then ByteArray.toList b==ByteArray.toList c else false
def jI:arq
 | [.one ⟨true,[.val (.int .i64 a),.val (.string b),.val (.int .i64 _x2)]⟩,.one ⟨false,[.ptr 0 0]⟩],[.box 9 [.val (.string c)]]=>some ⟨art (.val (.bool (nO a b c))),[.box 9 [.val (.string c)]],[],[]⟩
 |_,_=>none
def vn:PF prog:=PF.kept (PF.ofG prog [] [] aZ 82 f82 func82 (fun c _=>LOk.nil c) jI (by
 intro _ _ _ h;unfold jI at h;split at h<;>cases h;kernel_rfl)) [0] (by
 intro vs es r h;have h:jI vs es=some r:=h;unfold jI at h;split at h
 ·cases h;exact List.forall_mem_cons.2 ⟨rfl,fun _ h=>(by cases h)⟩
 ·cases h)
abbrev dw:=Int×Int×arp×List (Int×(arp×Int))
section
variable (a b:Int)(c:arp)(d:ajd)
def nx:Int×arp×Int:=v5 d[k8 a]? ((0:Int),ByteArray.empty,(0:Int))
def oj:Bool:=ltI a b
def tH:Bool:=leI 0 a
def tI:Bool:=ltI a (↑d.length:Int)
def tJ:Bool:=ltN a.toNat d.length
def tK:Bool:=nO ((nx a d).1) (((nx a d).2).1) c
def AM:Int:=v6 .i64 (a + (1:Int))
end
def KS:dw→List (Nat×SV)
 |(a,b,_,_)=> [(8,(aru a)),(7,(aru b)),(1,(art (.clo 82 [0]))),(0,(art (.ref 1)))]
def KM:dw→List (Nat×Entry)
 |(_,_,a,b)=> [(0,(.box 9 [.val (.string a)])),(1,(arA b))]
def Lf:Nat→dw→List (Nat×SV)
 |0,(a,_,_,_)=> [(4,(aru a))]
 |_,_=>[]
def nk:dw→LT dw
 |(a,b,c,d)=> .ite (oj a b) (.need [tH a,tI a d,tJ a d] (.ite (tK a c d) (.ext 0 [(0,0),(1,1)]) (.nrm ((AM a),b,c,d) [(0,0),(1,1)]))) (.ext 1 [(0,0),(1,1)])
def sB(s:St):Option dw:=do
 let some ⟨none,.one ⟨false,[.val (.int .i64 a)]⟩⟩:=s.look 8|none
 let some ⟨none,.one ⟨false,[.val (.int .i64 b)]⟩⟩:=s.look 7|none
 let some ⟨none,.one ⟨false,[.clo 82 [1]]⟩⟩:=s.look 1|none
 let some ⟨none,.one ⟨false,[.ref 0]⟩⟩:=s.look 0|none
 let some (.box 9 [.val (.string c)]):=s.ent 1|none
 let some (.row false 64 (.pair (.int .i64) (.pair .str (.int .i64))) d):=s.ent 0|none
 some (a,b,c,d)
def aJ:Lp dw where
 h:=⟨[9,10,5,11,12,13,14,15,16,17,4,18,8],[0,1],[],[]⟩
 JL:=KS
 JE:=KM
 XL:=Lf
 XE:=fun _=>KM
 q:=fun j=>match j with | 0=> .ret | _=> .exit 0
 tags:= [0,1]
 lt:=nk
 fuel:=fun(a,b,c,d)=>a.natAbs + b.natAbs + c.size + d.length
 fix:=fun(_,b,c,d) (a,_,_,_)=>(a,b,c,d)
 σ:= [(0,1),(1,0)]
 rd:=sB
theorem Jz:LoopOk prog (fun k=>Nat.blt k Tryz.f104.ntmps) aJ.F (bc f104 0):=by
 refine Lp.ok (tbl:= [vn]) (lf:= []) aZ aJ (by kernel_rfl) (LOk.nil _) (fun _=>rfl) (fun j _=>by unfold aJ;match j with | 0=>rfl | _ + 1=>rfl) ?_ ?_ ?_ ?_ (fun _=>rfl) ?_
 ·intro _;kernel_rfl
 ·intro _;kernel_rfl
 ·intro s x h
  have h:sB s=some x:=h
  unfold sB at h
  repeat' split at h
  all_goals cases h
  constructor<;>repeat(first|refine aa ‹_› rfl ?_|refine ab rfl ‹_› rfl ?_|rfl)
 ·intro _;kernel_rfl
 ·intro _ _;exact(And.intro (And.intro trivial rfl) trivial)
section
variable (a:aje)(b:arp)
def lr:Int×Int×arp×aje:=((0:Int),(↑a.length:Int),b,a)
def vq:Bool:=Nat.beq ((Lp.res aJ (lr a b)).1) 0
def vY:Int:=bif vq a b then ((Lp.res aJ (lr a b)).2).1else(-1:Int)
def CR:arp:=bif vq a b then b else b
def vZ:Bool:=allT [Lp.fin aJ (lr a b)]
end
def Ca:arq
 | [.one ⟨false,[.ref 0]⟩,.one ⟨false,[.clo 82 [1]]⟩],[.row false 64 (.pair (.int .i64) (.pair .str (.int .i64))) a,.box 9 [.val (.string b)]]=>some ⟨aru (vY a b),[arA a,.box 9 [.val (.string (CR a b))]],[],[vZ a b]⟩
 |_,_=>none
def vP:PF prog:=PF.ofG prog [vn] [aJ.F] aZ 104 f104 func104 (LOk.fnT (l:= [bc f104 0]) (by kernel_rfl) (.cons Jz (.nil _))) Ca (by
 intro _ _ _ h;unfold Ca at h;split at h<;>cases h;kernel_rfl)
section
variable (a:aje)(b:arp)
def tB:Bool:=leI 0 (vY a b)
def Mj:arp:=CR a b
def tC:Bool:=allT [vZ a b]
end
def Az:arq
 | [.one ⟨false,[.ref 0]⟩,.one ⟨false,[.clo 82 [1]]⟩],[.row false 64 (.pair (.int .i64) (.pair .str (.int .i64))) a,.box 9 [.val (.string b)]]=>some ⟨art (.val (.bool (tB a b))),[arA a,.box 9 [.val (.string (Mj a b))]],[],[tC a b]⟩
 |_,_=>none
def tn:PF prog:=PF.ofG prog (T3z [vP]) [] aZ 81 f81 func81 (fun c _=>LOk.nil c) Az (by
 intro _ _ _ h;unfold Az at h;split at h<;>cases h;kernel_rfl)
def sf(a:arp)(b:aje):Bool:=tB b a
def sg(a:arp)(b:aje):Bool:=allT [tC b a]
def zE:arq
 | [.one ⟨true,[.val (.string _x0),.ref 0]⟩,.one ⟨false,[.val (.string a)]⟩],[.row false 64 (.pair (.int .i64) (.pair (.str) (.int .i64))) b]=>some ⟨art (.val (.bool (sf a b))),[arA b],[],[sg a b]⟩
 |_,_=>none
def Lz:PF prog:=PF.ofG prog (T3z [tn]) [] aZ 52 f52 func52 (fun c _=>LOk.nil c) zE (by
 intro _ _ _ h;unfold zE at h;split at h<;>cases h;kernel_rfl)
 attribute [local irreducible] nxA nxS nxV pkA pkS pkV
def usK(s:arp)(x:TM):Bool:=bif x.1==1 then x.2.1.toList==s.toList else false
def usT(s:arp)(ts:List TM):Bool:=ts.any (usK s)
theorem apn(s:arp)(ts:List TM)(hn:ts.length≤1048576): ∀ (r:List TM) (i:Nat),ts.drop i=r→i + r.length=ts.length→
  ∃ j:Nat,DK im.lt (r.length + 1) ((i:Int),s,ts)=some (bif usT s r then 0 else 1,((j:Int),s,ts))
 | [],i,_,he=>by
  have e:i=ts.length:=by simpa using he
  have q:ltI (i:Int) (ts.length:Int)=false:=CE (by omega)
  exact⟨i,rE _ (by simp only [im,HZ,LT.out,EW,q,cond_false];rfl)⟩
 |x::r,i,hd,he=>by
  simp only [j8]at he
  obtain⟨hg,hd'⟩:=Pm hd
  have q0:ltI (i:Int) (ts.length:Int)=true:=ew (by omega)
  have q1:leI 0 (i:Int)=true:=cG (by omega)
  have q2:ltN i ts.length=true:=gM (by omega)
  have q3:v6 .i64 ((i:Int) + 1)=((i + 1:Nat):Int):=by rw [be (by omega) (by omega)];omega
  have a0:Iw (i:Int) ts=x:=by simp only [Iw,z6,hg,Option.getD_some]
  have q6:Qs (i:Int) s ts=usK s x:=by simp only [Qs,Du,a0,usK]
  cases hk:usK s x with
  |true=>
   refine⟨i,?_⟩
   rw [show usT s (x::r)=true by simp [usT,hk]]
   refine rE _ ?_
   simp only [im,HZ,LT.out,EW,Qn,Qo,Qp,Qq,Qr,q6,hk,z6,q0,q1,q2,k7,allT,cond_true]
  |false=>
   obtain⟨j,hj⟩:=apn s ts hn r (i + 1) hd' (by omega)
   refine⟨j,?_⟩
   rw [show usT s (x::r)=usT s r by simp [usT,hk],j8,py (y:=(((i + 1:Nat):Int),s,ts)) _ (by
    simp only [im,HZ,LT.out,EW,Qn,Qo,Qp,Qq,Qr,WB,q6,hk,z6,q0,q1,q2,q3,k7,allT,cond_true,cond_false])]
   exact hj
theorem an8(s:arp)(ts:List TM)(h:leN ts.length 1048576=true):Vn s ts=usT s ts∧Vo s ts=true:=by
 have hn:=iC.1 h
 obtain⟨j,hj⟩:=apn s ts hn ts 0 (List.drop_zero ..) (by omega)
 obtain⟨p1,p2⟩:=im.run hj (Fg (by simp only [im];omega))
 have p1:im.fin (Oc s ts)=true:=p1
 have p2:im.res (Oc s ts)=_:=p2
 simp only [Vn,Vo,p1,p2,allT,cond_true,and_true]
 cases usT s ts <;> rfl
theorem aoJ(s:arp)(ts:List TM)(hn:ts.length≤1048576): ∀ (r:List TM) (i:Nat),ts.drop i=r→i + r.length=ts.length→
  ∃ j:Nat,DK aJ.lt (r.length + 1) ((i:Int),(ts.length:Int),s,ts)=some (bif usT s r then 0 else 1,((j:Int),(ts.length:Int),s,ts))
 | [],i,_,he=>by
  have e:i=ts.length:=by simpa using he
  have q:ltI (i:Int) (ts.length:Int)=false:=CE (by omega)
  exact⟨i,rE _ (by simp only [aJ,nk,LT.out,oj,q,cond_false];rfl)⟩
 |x::r,i,hd,he=>by
  simp only [j8]at he
  obtain⟨hg,hd'⟩:=Pm hd
  have q0:ltI (i:Int) (ts.length:Int)=true:=ew (by omega)
  have q1:leI 0 (i:Int)=true:=cG (by omega)
  have q2:ltN i ts.length=true:=gM (by omega)
  have q3:v6 .i64 ((i:Int) + 1)=((i + 1:Nat):Int):=by rw [be (by omega) (by omega)];omega
  have a0:nx (i:Int) ts=x:=by simp only [nx,z6,hg,Option.getD_some]
  have q6:tK (i:Int) s ts=usK s x:=by simp only [tK,nO,a0,usK]
  cases hk:usK s x with
  |true=>
   refine⟨i,?_⟩
   rw [show usT s (x::r)=true by simp [usT,hk]]
   refine rE _ ?_
   simp only [aJ,nk,LT.out,oj,tH,tI,tJ,q6,hk,z6,q0,q1,q2,allT,cond_true]
  |false=>
   obtain⟨j,hj⟩:=aoJ s ts hn r (i + 1) hd' (by omega)
   refine⟨j,?_⟩
   rw [show usT s (x::r)=usT s r by simp [usT,hk],j8,py (y:=(((i + 1:Nat):Int),(ts.length:Int),s,ts)) _ (by
    simp only [aJ,nk,LT.out,oj,tH,tI,tJ,AM,q6,hk,z6,q0,q1,q2,q3,allT,cond_true,cond_false])]
   exact hj
theorem anP(s:arp)(ts:List TM)(h:leN ts.length 1048576=true):sf s ts=usT s ts∧sg s ts=true:=by
 have hn:=iC.1 h
 obtain⟨j,hj⟩:=aoJ s ts hn ts 0 (List.drop_zero ..) (by omega)
 obtain⟨p1,p2⟩:=aJ.run hj (Fg (by simp only [aJ];omega))
 have p1:aJ.fin (lr ts s)=true:=p1
 have p2:aJ.res (lr ts s)=_:=p2
 have q:leI 0 (-1)=false:=rfl
 have q2:leI 0 (j:Int)=true:=cG (by omega)
 simp only [sf,sg,tB,tC,vY,vZ,vq,p1,p2,allT,cond_true,and_true]
 cases usT s ts
 ·exact q
 ·exact q2
def aa6:arq
 | [.one ⟨false,[.ref 0]⟩,.one ⟨false,[.val (.string a)]⟩],[.row false 64 (.pair (.int .i64) (.pair (.str) (.int .i64))) b]=>some ⟨art (.val (.bool (usT a b))),[arA b],[],[leN b.length 1048576]⟩
 |_,_=>none
def xu:PF prog:=PF.alt aip aa6 (by
 intro args es o h cm;unfold aa6 at h;split at h
 ·rename_i a b
  cases h
  have cm:=lv cm
  have hh:=an8 a b cm
  obtain⟨e0,en⟩:=hh
  exact re rfl (la en) (by simp only [e0] <;> rfl) rfl rfl
 ·cases h)
def zI:arq
 | [.one ⟨true,[.val (.string _x0),.ref 0]⟩,.one ⟨false,[.val (.string a)]⟩],[.row false 64 (.pair (.int .i64) (.pair (.str) (.int .i64))) b]=>some ⟨art (.val (.bool (usT a b))),[arA b],[],[leN b.length 1048576]⟩
 |_,_=>none
def gd:PF prog:=PF.alt Lz zI (by
 intro args es o h cm;unfold zI at h;split at h
 ·rename_i _x0 a b
  cases h
  have cm:=lv cm
  have hh:=anP a b cm
  obtain⟨e0,en⟩:=hh
  exact re rfl (la en) (by simp only [e0] <;> rfl) rfl rfl
 ·cases h)
theorem aoP(x:List arp)(hx:x.length≤1048576): ∀ (r:List arp) (i:Nat),x.drop i=r→i + r.length=x.length→
  DK fw.lt (r.length + 1) ((i:Int),x,x)=some (1,((x.length:Int),x,x))
 | [],i,_,he=>by
  have e:i=x.length:=by simpa using he
  rw [e]
  have q:ltI (x.length:Int) (x.length:Int)=false:=CE (by omega)
  refine rE _ ?_
  simp only [fw,JB,LT.out,Ey,q,cond_false]
 |s::r,i,hd,he=>by
  simp only [j8]at he
  obtain⟨hg,hd'⟩:=Pm hd
  have q0:ltI (i:Int) (x.length:Int)=true:=ew (by omega)
  have q1:leI 0 (i:Int)=true:=cG (by omega)
  have q2:ltN i x.length=true:=gM (by omega)
  have q3:v6 .i64 ((i:Int) + 1)=((i + 1:Nat):Int):=by rw [be (by omega) (by omega)];omega
  rw [j8,py (y:=(((i + 1:Nat):Int),x,x)) _ (by
   simp only [fw,JB,LT.out,Ey,Lm,RN,RO,RP,RQ,RR,z6,q0,q1,q2,q3,beq_self_eq_true,Bool.not_true,allT,cond_true,cond_false])]
  exact aoP x hx r (i + 1) hd' (by omega)
theorem ab1(x:List arp)(hx:x.length≤1048576):gS x x=true∧xj x x=true:=by
 obtain⟨p1,p2⟩:=fw.run (aoP x hx x 0 (List.drop_zero ..) (by omega)) (Fg (by simp only [fw];omega))
 have e0:HS x x=false:=by simp [HS]
 have p1:fw.fin (HT x x)=true:=p1
 have p2:fw.res (HT x x)=_:=p2
 simp only [gS,xj,e0,p1,p2,allT,cond_false,cond_true,k7]
 exact⟨rfl,trivial⟩
theorem aqf(s:arp):(s==s)=true:=by
 show (s.data==s.data)=true
 simp
theorem aoT(x:List TM)(hx:x.length≤1048576): ∀ (r:List TM) (i:Nat),x.drop i=r→i + r.length=x.length→
  DK fy.lt (r.length + 1) ((i:Int),x,x)=some (1,((x.length:Int),x,x))
 | [],i,_,he=>by
  have e:i=x.length:=by simpa using he
  rw [e]
  have q:ltI (x.length:Int) (x.length:Int)=false:=CE (by omega)
  refine rE _ ?_
  simp only [fy,JC,LT.out,Ez,q,cond_false]
 |s::r,i,hd,he=>by
  simp only [j8]at he
  obtain⟨hg,hd'⟩:=Pm hd
  have q0:ltI (i:Int) (x.length:Int)=true:=ew (by omega)
  have q1:leI 0 (i:Int)=true:=cG (by omega)
  have q2:ltN i x.length=true:=gM (by omega)
  have q3:v6 .i64 ((i:Int) + 1)=((i + 1:Nat):Int):=by rw [be (by omega) (by omega)];omega
  have q5:Lo (i:Int) x x=false:=by
   simp only [Lo,Dz,DA,beq_self_eq_true,aqf,cond_true,Bool.not_true]
  rw [j8,py (y:=(((i + 1:Nat):Int),x,x)) _ (by
   simp only [fy,JC,LT.out,Ez,Ln,RS,RT,RU,RW,q5,z6,q0,q1,q2,q3,allT,cond_true,cond_false])]
  exact aoT x hx r (i + 1) hd' (by omega)
theorem anT(x:List TM)(hx:x.length≤1048576):Ko x x=true∧Kp x x=true:=by
 obtain⟨p1,p2⟩:=fy.run (aoT x hx x 0 (List.drop_zero ..) (by omega)) (Fg (by simp only [fy];omega))
 have e0:HU x x=false:=by simp [HU]
 have p1:fy.fin (HV x x)=true:=p1
 have p2:fy.res (HV x x)=_:=p2
 simp only [Ko,Kp,e0,p1,p2,allT,cond_false,cond_true,k7]
 exact⟨rfl,trivial⟩
theorem aoS(nm g:arp)(a b c:List arp)(x:List LN)(hx:x.length≤1048576)(hl: ∀ l∈x,l.2.length≤1048576): ∀ (r:List LN) (i:Nat),x.drop i=r→i + r.length=x.length→
  DK dF.lt (r.length + 1) ((i:Int),nm,g,nm,g,a,b,c,x,a,b,c,x)=some (1,((x.length:Int),nm,g,nm,g,a,b,c,x,a,b,c,x))
 | [],i,_,he=>by
  have e:i=x.length:=by simpa using he
  rw [e]
  have q:ltI (x.length:Int) (x.length:Int)=false:=CE (by omega)
  refine rE _ ?_
  simp only [dF,Fk,LT.out,AG,zA,q,cond_false]
 |s::r,i,hd,he=>by
  simp only [j8]at he
  obtain⟨hg,hd'⟩:=Pm hd
  have q0:ltI (i:Int) (x.length:Int)=true:=ew (by omega)
  have q1:leI 0 (i:Int)=true:=cG (by omega)
  have q2:ltN i x.length=true:=gM (by omega)
  have q3:v6 .i64 ((i:Int) + 1)=((i + 1:Nat):Int):=by rw [be (by omega) (by omega)];omega
  have a4:zB (i:Int) x=s:=by simp only [zB,z6,hg];rfl
  have a5:zC (i:Int) x=s:=by simp only [zC,z6,hg];rfl
  obtain⟨t1,t2⟩:=anT s.2 (hl s (List.mem_of_getElem? hg))
  rw [j8,py (y:=(((i + 1:Nat):Int),nm,g,nm,g,a,b,c,x,a,b,c,x)) _ (by
   simp only [dF,Fk,LT.out,AG,GC,OG,OH,OI,GD,OJ,OK,OL,OM,Nu,Nv,Nw,
    zA,Fb,Fc,Fd,gO,Fe,Ff,a4,a5,t1,t2,z6,q0,q1,q2,q3,beq_self_eq_true,Bool.not_true,Bool.not_false,Bool.and_self,k7,Bool.false_or,allT,cond_true,cond_false])]
  exact aoS nm g a b c x hx hl r (i + 1) hd' (by omega)
theorem ak8(nm g:arp)(a b c:List arp)(x:List LN)(ha:a.length≤1048576)(hb:b.length≤1048576)(hc:c.length≤1048576)(hx:x.length≤1048576)(hl: ∀ l∈x,l.2.length≤1048576):
  zN nm g nm g a b c x a b c x=true∧zO nm g nm g a b c x a b c x=true:=by
 obtain⟨p1,p2⟩:=dF.run (aoS nm g a b c x hx hl x 0 (List.drop_zero ..) (by omega)) (Fg (by simp only [dF];omega))
 have p1:dF.fin (Dy nm g nm g a b c x a b c x)=true:=p1
 have p2:dF.res (Dy nm g nm g a b c x a b c x)=_:=p2
 obtain⟨u1,u2⟩:=ab1 a ha
 obtain⟨v1,v2⟩:=ab1 b hb
 obtain⟨w1,w2⟩:=ab1 c hc
 simp only [zN,zO,Jo,Jp,Jq,Jr,p1,p2,u1,u2,v1,v2,w1,w2,beq_self_eq_true,bne_self_eq_false,Bool.not_true,k7,allT,cond_false,cond_true]
 exact⟨rfl,trivial⟩
theorem akG(c:aro)(h:aY 0 0 c=true):
  Nf c=true∧prD (bk c) (dg c) (dh c) (di c) (bv c) (dj c)=true∧(ag c).size≤1000∧(af c).size≤1000:=by
 have h1:=(ajS c h).2
 obtain⟨_,s2,hp⟩:=Qm 0 (frS c) c h1
 obtain⟨_,s3,m3⟩:=QL _ _ _ _ _ _ _ _ c s2 hp
 have s3:aY (nz c) (nA c) c=true:=s3
 have n6:=Ly (n:=6) s3 (by omega)
 have m3:(LG c).size≤1000:=m3
 have hp':prD (Ao 0 (frS c) c) (sV 0 (frS c) c) (sW 0 (frS c) c) (sX 0 (frS c) c) (Ap 0 (frS c) c) (As 0 (frS c) c)=true:=hp
 have e6:(pY c).length=6:=rfl
 have a:leI 0 (nxV 6 (nz c) (nA c) c)=true:=cG n6.1
 have b:ltI (nxV 6 (nz c) (nA c) c) ((pY c).length:Int)=true:=ew (by rw [e6];have:=n6.2;omega)
 have d:ltN (nxV 6 (nz c) (nA c) c).toNat (pY c).length=true:=gM (by rw [e6];have:=n6.2;omega)
 refine⟨?_,hp,m3,?_⟩
 ·simp only [Nf,h,h1,s2,hp',s3,a,b,d,allT,Bool.and_self,cond_true]
 ·simp only [af]
  have: ∀ s∈pY c,s.size≤1000:=by
   intro s hs
   simp only [pY,List.mem_cons,List.not_mem_nil,or_false]at hs
   rcases hs with rfl | rfl | rfl | rfl | rfl | rfl
   ·decide
   ·decide
   ·decide
   ·exact m3
   ·decide
   ·decide
  rw [List.getElem?_eq_getElem (am9.1 d)]
  exact this _ (List.getElem_mem _)
theorem akH(c:aro)(h:aY 0 0 c=true):
  Ie c=true∧prD (qo c) (qq c) (qr c) (qs c) (qp c) (qt c)=true:=by
 have h1:=(ajS c h).2
 obtain⟨_,s2,hp⟩:=Qm 0 (frS c) c h1
 refine⟨?_,hp⟩
 simp only [Ie,h,h1,allT,cond_true]
def Ts:arq
 | [.one ⟨false,[.ref 0]⟩],[.row false 5 (.int .u8) a]=>some ⟨.tup [⟨true,[.val (.string (bk a)),.ref 1,.ref 2,.ref 3,.val (.string (bv a)),.ref 4]⟩,⟨false,[.val (.string (ag a))]⟩,⟨false,[.val (.string (af a))]⟩],[ary a],[arw (dg a),arw (dh a),arw (di a),arD (dj a)],[aY 0 0 a]⟩
 |_,_=>none
def oQ:PF prog:=PF.alt acQ Ts (by
 intro args es o h cm;unfold Ts at h;split at h
 ·rename_i a
  cases h
  have cm:=lv cm
  have hh:=(akG a cm).1
  have en:=hh
  exact re rfl (la en) rfl rfl rfl
 ·cases h)
def Ph:arq
 | [.one ⟨false,[.ref 0]⟩],[.row false 5 (.int .u8) a]=>some ⟨.one ⟨true,[.val (.string (qo a)),.ref 1,.ref 2,.ref 3,.val (.string (qp a)),.ref 4]⟩,[ary a],[arw (qq a),arw (qr a),arw (qs a),arD (qt a)],[aY 0 0 a]⟩
 |_,_=>none
def lj:PF prog:=PF.alt Zb Ph (by
 intro args es o h cm;unfold Ph at h;split at h
 ·rename_i a
  cases h
  have cm:=lv cm
  have hh:=(akH a cm).1
  have en:=hh
  exact re rfl (la en) rfl rfl rfl
 ·cases h)
end Go.SX
namespace Go.SX
open Go.Proofs Go.Proofs.Tryz
set_option maxRecDepth 100000
abbrev lk:=Int×Bool×Int×arp×arp×List arp×List arp×List arp×List arp×List (arp×(List (Int×(arp×Int))))
section
variable (a:Int)(b:Bool)(c:Int)(d:List arp)(e:agS)
def yy:Bool:=ltI a (↑e.length:Int)
def yz:aje:=bif !b&&true then (v5 e[k8 a]? (ul aao)).2else []
def Fo:Bool:=yy a e
def NB:Bool:= !(!b&&true)||leI 0 a
def NC:Bool:= !(!b&&true)||yy a e
def ND:Bool:= !(!b&&true)||ltN a.toNat e.length
def NE:Bool:= !(!b&&true)||leI 0 c
def NF:Bool:= !(!b&&true)||ltI c (↑d.length:Int)
def NG:Bool:= !(!b&&true)||ltN c.toNat d.length
def NH:Bool:= !(!b&&true)||leN (k9 (yz a b e)) 1048576
def NI:Int:=v6 .i64 (a + (1:Int))
def NJ:Bool:=bif b then true else usT (v5 d[k8 c]? ByteArray.empty) (yz a b e)
end
def Vt:lk→List (Nat×SV)
 |(a,b,c,_,_,_,_,_,_,_)=> [(9,(aru a)),(1,(art (.ptr 0 0))),(8,(art (.val (.bool b)))),(5,(art (.ref 1))),(7,(aru c))]
def Vs:lk→List (Nat×Entry)
 |(_,_,_,a,b,c,d,e,f,g)=> [(0,(.box 27 [.val (.string a),.ref 2,.ref 3,.ref 4,.val (.string b),.ref 5])),(1,(arw c)),(2,(arv d)),(3,(arv e)),(4,(arv f)),(5,(arx g))]
def Vv:Nat→lk→List (Nat×SV)
 |_,(a,b,_,_,_,_,_,_,_,_)=> [(8,(art (.val (.bool b)))),(9,(aru a))]
def DT:lk→LT lk
 |(a,b,c,d,e,f,g,i,j,k)=> .ite (Fo a k) (.need [NB a b,NC a b k,ND a b k,NE b c,NF b c f,NG b c f,NH a b k] (.nrm ((NI a),NJ a b c f k,c,d,e,f,g,i,j,k) [(0,0),(1,1),(2,2),(3,3),(4,4),(5,5)])) (.ext 0 [(0,0),(1,1),(2,2),(3,3),(4,4),(5,5)])
def DU(s:St):Option lk:=do
 let some ⟨none,.one ⟨false,[.val (.int .i64 a)]⟩⟩:=s.look 9|none
 let some ⟨none,.one ⟨false,[.ptr 1 0]⟩⟩:=s.look 1|none
 let some ⟨none,.one ⟨false,[.val (.bool b)]⟩⟩:=s.look 8|none
 let some ⟨none,.one ⟨false,[.ref 0]⟩⟩:=s.look 5|none
 let some ⟨none,.one ⟨false,[.val (.int .i64 c)]⟩⟩:=s.look 7|none
 let some (.box 27 [.val (.string d),.ref 3,.ref 4,.ref 5,.val (.string e),.ref 6]):=s.ent 1|none
 let some (.row true 9 (.str) f):=s.ent 0|none
 let some (.row false 9 (.str) g):=s.ent 3|none
 let some (.row false 9 (.str) i):=s.ent 4|none
 let some (.row false 9 (.str) j):=s.ent 5|none
 let some (.row false 61 (.pair .str (.sl 64 (.pair (.int .i64) (.pair .str (.int .i64))))) k):=s.ent 6|none
 some (a,b,c,d,e,f,g,i,j,k)
def dZ:Lp lk where
 h:=⟨[36,37,38,39,40,43,44,45,46,47,48,49,50,51,52,53,54,55,56,8,41,42,9],[0,1,2,3,4,5],[],[]⟩
 JL:=Vt
 JE:=Vs
 XL:=Vv
 XE:=fun _=>Vs
 q:=fun j=>match j with | _=> .exit 2
 tags:= [0]
 lt:=DT
 fuel:=fun(a,_,c,d,e,f,g,i,k,l)=>a.natAbs + c.natAbs + d.size + e.size + f.length + g.length + i.length + k.length + l.length
 fix:=fun(_,_,c,d,e,f,g,i,k,l) (a,b,_,_,_,_,_,_,_,_)=>(a,b,c,d,e,f,g,i,k,l)
 σ:= [(0,1),(1,0),(2,3),(3,4),(4,5),(5,6)]
 rd:=DU
theorem TT:LoopOk prog (memN [23,24,25,26,29,30,31,32,33,34,35,8,9,36,37,38,39,40,43,44,45,46,47,48,49,50,51,52,53,54,55,56,41,42,57,58,59,60,61,62,63,64,65,6,27,28,7]) dZ.F (SL (bc f10 0) 0):=by
 refine Lp.ok (tbl:= (T3z [jj,xu])) (lf:= []) aZ dZ (by kernel_rfl) (LOk.nil _) (fun _=>rfl) (fun _ _=>rfl) ?_ ?_ ?_ ?_ (fun _=>rfl) ?_
 ·intro _;kernel_rfl
 ·intro _;kernel_rfl
 ·intro s x h
  have h:DU s=some x:=h
  unfold DU at h
  repeat' split at h
  all_goals cases h
  constructor<;>repeat(first|refine aa ‹_› rfl ?_|refine ab rfl ‹_› rfl ?_|rfl)
 ·intro _;kernel_rfl
 ·intro _ _;exact(And.intro rfl trivial)
abbrev oK:=Int×List arp×arp×arp×List arp×List arp×List arp×List arp×List (arp×(List (Int×(arp×Int))))
section
variable (a:Int)(b:List arp)(c d:arp)(e f g i:List arp)(j:agS)
def tN:arp:=v5 b[k8 a]? ByteArray.empty
def tO:Int×Bool×Int×arp×arp×List arp×List arp×List arp×List arp×agT:=((0:Int),ByteArray.toList (tN a b)==ByteArray.toList d,a,c,d,b,f,g,i,j)
def nC:Bool:= !((Lp.res dZ (tO a b c d f g i j)).2.2).1
def yK:Bool:=ltI a (↑b.length:Int)
def JS:Bool:=leI 0 a
def JT:Bool:=ltN a.toNat b.length
def JU:Bool:=Lp.fin dZ (tO a b c d f g i j)
def JV:Bool:= !nC a b c d f g i j||leI 0 a
def JW:Bool:= !nC a b c d f g i j||ltI a (↑b.length:Int)
def JX:Bool:= !nC a b c d f g i j||ltN a.toNat b.length
def JY:Bool:= !nC a b c d f g i j||leN (k9 e + k9 [tN a b]) (9223372036854775807:Nat)
def JZ:Bool:= !nC a b c d f g i j||leN ((k9 e + k9 [tN a b]) * (16:Nat)) 140737488355328
def Ka:Bool:=nC a b c d f g i j
def Bv:Int:=v6 .i64 (a + (1:Int))
def PU:List arp:=e++ [tN a b]
end
def Yo:oK→List (Nat×SV)
 |(a,_,_,_,_,_,_,_,_)=> [(7,(aru a)),(5,(art (.ref 0))),(1,(art (.ptr 1 0))),(6,(art (.ref 2)))]
def Yk:oK→List (Nat×Entry)
 |(_,a,b,c,d,e,f,g,i)=> [(0,(arw a)),(1,(.box 27 [.val (.string b),.ref 3,.ref 4,.ref 5,.val (.string c),.ref 6])),(3,(arv e)),(4,(arv f)),(5,(arv g)),(6,(arx i)),(2,(arw d))]
def Yw:Nat→oK→List (Nat×SV)
 |_,(_,_,_,_,_,_,_,_,_)=> [(6,(art (.ref 2)))]
def Ys:Nat→oK→List (Nat×Entry)
 |_,(_,a,b,c,d,e,f,g,i)=> [(0,(arw a)),(1,(.box 27 [.val (.string b),.ref 3,.ref 4,.ref 5,.val (.string c),.ref 6])),(2,(arw d)),(3,(arv e)),(4,(arv f)),(5,(arv g)),(6,(arx i))]
def Bt:oK→LT oK
 |(a,b,c,d,e,f,g,i,j)=> .ite (yK a b) (.need [JS a,yK a b,JT a b] (.need [JU a b c d f g i j] (.need [JV a b c d f g i j,JW a b c d f g i j,JX a b c d f g i j,JY a b c d e f g i j,JZ a b c d e f g i j] (.ite (Ka a b c d f g i j) (.nrm ((Bv a),b,c,d,PU a b e,f,g,i,j) [(0,0),(1,1),(2,1472),(3,3),(4,4),(5,5),(6,6)]) (.nrm ((Bv a),b,c,d,e,f,g,i,j) [(0,0),(1,1),(2,2),(3,3),(4,4),(5,5),(6,6)]))))) (.ext 0 [(0,0),(1,1),(2,2),(3,3),(4,4),(5,5),(6,6)])
def Ic(s:St):Option oK:=do
 let some ⟨none,.one ⟨false,[.val (.int .i64 a)]⟩⟩:=s.look 7|none
 let some ⟨none,.one ⟨false,[.ref 1216]⟩⟩:=s.look 5|none
 let some ⟨none,.one ⟨false,[.ptr 320 0]⟩⟩:=s.look 1|none
 let some ⟨none,.one ⟨false,[.ref 1344]⟩⟩:=s.look 6|none
 let some (.row true 9 (.str) b):=s.ent 1216|none
 let some (.box 27 [.val (.string c),.ref 0,.ref 1,.ref 2,.val (.string d),.ref 3]):=s.ent 320|none
 let some (.row false 9 (.str) f):=s.ent 0|none
 let some (.row false 9 (.str) g):=s.ent 1|none
 let some (.row false 9 (.str) i):=s.ent 2|none
 let some (.row false 61 (.pair .str (.sl 64 (.pair (.int .i64) (.pair .str (.int .i64))))) j):=s.ent 3|none
 let some (.row true 9 (.str) e):=s.ent 1344|none
 some (a,b,c,d,e,f,g,i,j)
def et:Lp oK where
 h:=⟨[23,24,25,26,29,30,31,32,33,34,35,8,9,36,37,38,39,40,43,44,45,46,47,48,49,50,51,52,53,54,55,56,41,42,57,58,59,60,61,62,63,64,65,6,27,28,7],[0,1,3,4,5,6],[2],[]⟩
 JL:=Yo
 JE:=Yk
 XL:=Yw
 XE:=Ys
 q:=fun j=>match j with | _=> .exit 0
 tags:= [0]
 lt:=Bt
 fuel:=fun(a,b,c,d,e,f,g,i,k)=>a.natAbs + b.length + c.size + d.size + e.length + f.length + g.length + i.length + k.length
 fix:=fun(_,b,c,d,_,f,g,i,k) (a,_,_,_,e,_,_,_,_)=>(a,b,c,d,e,f,g,i,k)
 σ:= [(0,1216),(1,320),(3,0),(4,1),(5,2),(6,3),(2,1344)]
 rd:=Ic
theorem WX:LoopOk prog (fun k=>Nat.blt k Tryz.f10.ntmps) et.F (bc f10 0):=by
 refine Lp.ok (tbl:= (T3z [jj,xu])) (lf:= [dZ.F]) aZ et (by kernel_rfl) (LOk.allT (l:= [SL (bc f10 0) 0]) (by kernel_rfl) (.cons TT (.nil _))) (fun _=>rfl) (fun _ _=>rfl) ?_ ?_ ?_ ?_ (fun _=>rfl) ?_
 ·intro _;kernel_rfl
 ·intro _;kernel_rfl
 ·intro s x h
  have h:Ic s=some x:=h
  unfold Ic at h
  repeat' split at h
  all_goals cases h
  constructor<;>repeat(first|refine aa ‹_› rfl ?_|refine ab rfl ‹_› rfl ?_|rfl)
 ·intro _;kernel_rfl
 ·intro _ _;exact(And.intro (And.intro rfl rfl) trivial)
section
variable (a b:arp)(c d e:List arp)(f:agT)
def oR:Bool:=sdC a c d e b f !=0
def FY:Int×List arp×arp×arp×List arp×List arp×List arp×List arp×agT:=((0:Int),c++d,a,b,[],c,d,e,f)
def Ig:Int:=bif oR a b c d e f then sdC a c d e b f else(0:Int)
def Ih:List arp:=bif oR a b c d e f then []else ((Lp.res et (FY a b c d e f)).2.2.2.2.2).1
def Ii:Bool:=allT [PK a c d e b f,oR a b c d e f||leN (0 + k9 c) 9223372036854775807,oR a b c d e f||leN ((0 + k9 c) * 16) 140737488355328,oR a b c d e f||leN (k9 c + k9 d) 9223372036854775807,oR a b c d e f||leN ((k9 c + k9 d) * 16) 140737488355328,oR a b c d e f||Lp.fin et (FY a b c d e f)]
end
def Ue:arq
 | [.one ⟨true,[.val (.string a),.ref 0,.ref 1,.ref 2,.val (.string b),.ref 3]⟩],[.row false 9 (.str) c,.row false 9 (.str) d,.row false 9 (.str) e,.row false 61 (.pair (.str) (.sl 64 (.pair (.int .i64) (.pair (.str) (.int .i64))))) f]=>some ⟨.tup [⟨false,[.ref 4]⟩,⟨false,[ars (Ig a b c d e f)]⟩],[arv c,arv d,arv e,arz f],[arw (Ih a b c d e f)],[Ii a b c d e f]⟩
 |_,_=>none
def ad9:PF prog:=PF.ofG prog (T3z [jj,xu]) [et.F] aZ 10 f10 func10 (LOk.fnT (l:= [bc f10 0]) (by kernel_rfl) (.cons WX (.nil _))) Ue (by
 intro _ _ _ h;unfold Ue at h;split at h<;>cases h;kernel_rfl)
abbrev bV:=Int×Int×arp×List (arp×(List (Int×(arp×Int))))×List Int
section
variable (a b:Int)(c:arp)(d:agS)(e:aro)
def dW:aje:=(v5 d[k8 a]? (ul aao)).2
def kj:Bool:=ltI a b
def oY:Bool:=leI 0 a
def oZ:Bool:=ltI a (↑d.length:Int)
def pa:Bool:=ltN a.toNat d.length
def pb:Bool:=leN (k9 (dW a d)) 1048576
def pc:Bool:= !usT c (dW a d)||leN (k9 e + k9 [a]) (9223372036854775807:Nat)
def pd:Bool:= !usT c (dW a d)||leN ((k9 e + k9 [a]) * (8:Nat)) (140737488355328:Nat)
def pe:Bool:=usT c (dW a d)
def kk:Int:=v6 .i64 (a + (1:Int))
def wB:aro:=e++ [a]
end
def FB:bV→List (Nat×SV)
 |(a,b,c,_,_)=> [(11,(aru a)),(10,(aru b)),(9,(art (.ref 0))),(1,(art (.val (.string c)))),(5,(art (.ref 1)))]
def Fy:bV→List (Nat×Entry)
 |(_,_,_,a,b)=> [(0,(arx a)),(1,(arC b))]
def FH:Nat→bV→List (Nat×SV)
 |_,(_,_,_,_,_)=> [(5,(art (.ref 1)))]
def ka:bV→LT bV
 |(a,b,c,d,e)=> .ite (kj a b) (.need [oY a,oZ a d,pa a d] (.need [pb a d] (.need [pc a c d e,pd a c d e] (.ite (pe a c d) (.nrm ((kk a),b,c,d,(wB a e)) [(0,0),(1,896)]) (.nrm ((kk a),b,c,d,e) [(0,0),(1,1)]))))) (.ext 0 [(0,0),(1,1)])
def oG(s:St):Option bV:=do
 let some ⟨none,.one ⟨false,[.val (.int .i64 a)]⟩⟩:=s.look 11|none
 let some ⟨none,.one ⟨false,[.val (.int .i64 b)]⟩⟩:=s.look 10|none
 let some ⟨none,.one ⟨false,[.ref 3]⟩⟩:=s.look 9|none
 let some ⟨none,.one ⟨false,[.val (.string c)]⟩⟩:=s.look 1|none
 let some ⟨none,.one ⟨false,[.ref 448]⟩⟩:=s.look 5|none
 let some (.row false 61 (.pair .str (.sl 64 (.pair (.int .i64) (.pair .str (.int .i64))))) d):=s.ent 3|none
 let some (.row true 2 (.int .i64) e):=s.ent 448|none
 some (a,b,c,d,e)
def aC:Lp bV where
 h:=⟨[12,13,14,15,7,6,16,17,18,19,20,21,22,5,23,11],[0],[1],[]⟩
 JL:=FB
 JE:=Fy
 XL:=FH
 XE:=fun _=>Fy
 q:=fun j=>match j with | _=> .exit 0
 tags:= [0]
 lt:=ka
 fuel:=fun(a,b,c,d,e)=>a.natAbs + b.natAbs + c.size + d.length + e.length
 fix:=fun(_,b,c,d,_) (a,_,_,_,e)=>(a,b,c,d,e)
 σ:= [(0,3),(1,448)]
 rd:=oG
theorem EC:LoopOk prog (fun k=>Nat.blt k Tryz.f33.ntmps) aC.F (bc f33 0):=by
 refine Lp.ok (tbl:= (T3z [gd])) (lf:= []) aZ aC (by kernel_rfl) (LOk.nil _) (fun _=>rfl) (fun _ _=>rfl) ?_ ?_ ?_ ?_ (fun _=>rfl) ?_
 ·intro _;kernel_rfl
 ·intro _;kernel_rfl
 ·intro s x h
  have h:oG s=some x:=h
  unfold oG at h
  repeat' split at h
  all_goals cases h
  constructor<;>repeat(first|refine aa ‹_› rfl ?_|refine ab rfl ‹_› rfl ?_|rfl)
 ·intro _;kernel_rfl
 ·intro _ _;exact(And.intro (And.intro rfl rfl) trivial)
section
variable (a:arp)(b:agT)
def li:Int×Int×arp×agT×aro:=((0:Int),(↑b.length:Int),a,b,[])
def lA:aro:=(Lp.res aC (li a b)).2.2.2.2.2
def lB:Bool:=allT [Lp.fin aC (li a b)]
end
def xZ:arq
 | [.one ⟨true,[.val (.string _x0),.ref 0,.ref 1,.ref 2,.val (.string _x1),.ref 3]⟩,.one ⟨false,[.val (.string a)]⟩],[.row false 9 (.str) b,.row false 9 (.str) c,.row false 9 (.str) d,.row false 61 (.pair (.str) (.sl 64 (.pair (.int .i64) (.pair (.str) (.int .i64))))) e]=>some ⟨art (.ref 4),[arv b,arv c,arv d,arz e],[arC (lA a e)],[lB a e]⟩
 |_,_=>none
def eL:PF prog:=PF.ofG prog (T3z [gd]) [aC.F] aZ 33 f33 func33 (LOk.fnT (l:= [bc f33 0]) (by kernel_rfl) (.cons EC (.nil _))) xZ (by
 intro _ _ _ h;unfold xZ at h;split at h<;>cases h;kernel_rfl)
abbrev oI:=Int×Int×List arp×arp×arp×List arp×List arp×List arp×List arp×List (arp×(List (Int×(arp×Int))))
section
variable (a b:Int)(c:List arp)(d:arp)(e:List arp)(f:agS)
def mZ:arp:=v5 c[k8 a]? ByteArray.empty
def Bq:Bool:= !ByteArray.toList (mZ a c)==ByteArray.toList d
def xc:Bool:=bif Bq a c d then(↑(k9 (bif Bq a c d&&true then lA (mZ a c) f else [])):Int)==0 else false
def Dw:Bool:=ltI a b
def Jg:Bool:=leI 0 a
def Jh:Bool:=ltI a (↑c.length:Int)
def Ji:Bool:=ltN a.toNat c.length
def Jj:Bool:= !(Bq a c d&&true)||lB (mZ a c) f
def Jk:Bool:= !xc a c d f||leN (k9 e + k9 [mZ a c]) (9223372036854775807:Nat)
def Jl:Bool:= !xc a c d f||leN ((k9 e + k9 [mZ a c]) * (16:Nat)) 140737488355328
def Jm:Bool:=xc a c d f
def Dx:Int:=v6 .i64 (a + (1:Int))
def QA:List arp:=e++ [mZ a c]
end
def Ym:oI→List (Nat×SV)
 |(a,b,_,_,_,_,_,_,_,_)=> [(20,(aru a)),(19,(aru b)),(18,(art (.ref 0))),(1,(art (.ptr 1 0))),(5,(art (.ref 2)))]
def Yi:oI→List (Nat×Entry)
 |(_,_,a,b,c,d,e,f,g,i)=> [(0,(arw a)),(1,(.box 27 [.val (.string b),.ref 3,.ref 4,.ref 5,.val (.string c),.ref 6])),(3,(arv e)),(4,(arv f)),(5,(arv g)),(6,(arx i)),(2,(arw d))]
def Yu:Nat→oI→List (Nat×SV)
 |_,(_,_,_,_,_,_,_,_,_,_)=> [(5,(art (.ref 2)))]
def Yq:Nat→oI→List (Nat×Entry)
 |_,(_,_,a,b,c,d,e,f,g,i)=> [(0,(arw a)),(1,(.box 27 [.val (.string b),.ref 3,.ref 4,.ref 5,.val (.string c),.ref 6])),(2,(arw d)),(3,(arv e)),(4,(arv f)),(5,(arv g)),(6,(arx i))]
def Bs:oI→LT oI
 |(a,b,c,d,e,f,g,i,j,k)=> .ite (Dw a b) (.need [Jg a,Jh a c,Ji a c] (.need [Jj a c e k] (.need [Jk a c e f k,Jl a c e f k] (.ite (Jm a c e k) (.nrm ((Dx a),b,c,d,e,QA a c f,g,i,j,k) [(0,0),(1,1),(2,1216),(3,3),(4,4),(5,5),(6,6)]) (.nrm ((Dx a),b,c,d,e,f,g,i,j,k) [(0,0),(1,1),(2,2),(3,3),(4,4),(5,5),(6,6)]))))) (.ext 0 [(0,0),(1,1),(2,2),(3,3),(4,4),(5,5),(6,6)])
def Ia(s:St):Option oI:=do
 let some ⟨none,.one ⟨false,[.val (.int .i64 a)]⟩⟩:=s.look 20|none
 let some ⟨none,.one ⟨false,[.val (.int .i64 b)]⟩⟩:=s.look 19|none
 let some ⟨none,.one ⟨false,[.ref 1216]⟩⟩:=s.look 18|none
 let some ⟨none,.one ⟨false,[.ptr 320 0]⟩⟩:=s.look 1|none
 let some ⟨none,.one ⟨false,[.ref 832]⟩⟩:=s.look 5|none
 let some (.row true 9 (.str) c):=s.ent 1216|none
 let some (.box 27 [.val (.string d),.ref 0,.ref 1,.ref 2,.val (.string e),.ref 3]):=s.ent 320|none
 let some (.row false 9 (.str) g):=s.ent 0|none
 let some (.row false 9 (.str) i):=s.ent 1|none
 let some (.row false 9 (.str) j):=s.ent 2|none
 let some (.row false 61 (.pair .str (.sl 64 (.pair (.int .i64) (.pair .str (.int .i64))))) k):=s.ent 3|none
 let some (.row true 9 (.str) f):=s.ent 832|none
 some (a,b,c,d,e,f,g,i,j,k)
def er:Lp oI where
 h:=⟨[21,22,23,7,24,25,26,27,28,29,30,31,32,33,34,35,36,37,38,5,39,20],[0,1,3,4,5,6],[2],[]⟩
 JL:=Ym
 JE:=Yi
 XL:=Yu
 XE:=Yq
 q:=fun j=>match j with | _=> .exit 0
 tags:= [0]
 lt:=Bs
 fuel:=fun(a,b,c,d,e,f,g,i,k,l)=>a.natAbs + b.natAbs + c.length + d.size + e.size + f.length + g.length + i.length + k.length + l.length
 fix:=fun(_,b,c,d,e,_,g,i,k,l) (a,_,_,_,_,f,_,_,_,_)=>(a,b,c,d,e,f,g,i,k,l)
 σ:= [(0,1216),(1,320),(3,0),(4,1),(5,2),(6,3),(2,832)]
 rd:=Ia
theorem WV:LoopOk prog (fun k=>Nat.blt k Tryz.f9.ntmps) er.F (bc f9 0):=by
 refine Lp.ok (tbl:= (T3z [te,aT,eL])) (lf:= []) aZ er (by kernel_rfl) (LOk.nil _) (fun _=>rfl) (fun _ _=>rfl) ?_ ?_ ?_ ?_ (fun _=>rfl) ?_
 ·intro _;kernel_rfl
 ·intro _;kernel_rfl
 ·intro s x h
  have h:Ia s=some x:=h
  unfold Ia at h
  repeat' split at h
  all_goals cases h
  constructor<;>repeat(first|refine aa ‹_› rfl ?_|refine ab rfl ‹_› rfl ?_|rfl)
 ·intro _;kernel_rfl
 ·intro _ _;exact(And.intro (And.intro rfl rfl) trivial)
section
variable (a b:arp)(c d e:List arp)(f:agT)
def xL:Bool:=sdC a c d e b f !=0
def FM:List arp:=List.flatten [c,d]
def xM:Int×Int×List arp×arp×arp×List arp×List arp×List arp×List arp×agT:=((0:Int),(↑(k9 (FM c d)):Int),FM c d,a,b,[],c,d,e,f)
def HE:Int:=bif xL a b c d e f then sdC a c d e b f else(0:Int)
def HF:List arp:=bif xL a b c d e f then []else ((Lp.res er (xM a b c d e f)).2.2.2.2.2.2).1
def HG:Bool:=allT [PK a c d e b f,xL a b c d e f||leN (k9 [c,d]) (1000:Nat)&&leN (Fq [c,d]) 2000000,xL a b c d e f||Lp.fin er (xM a b c d e f)]
end
def Ud:arq
 | [.one ⟨true,[.val (.string a),.ref 0,.ref 1,.ref 2,.val (.string b),.ref 3]⟩],[.row false 9 (.str) c,.row false 9 (.str) d,.row false 9 (.str) e,.row false 61 (.pair (.str) (.sl 64 (.pair (.int .i64) (.pair (.str) (.int .i64))))) f]=>some ⟨.tup [⟨false,[.ref 4]⟩,⟨false,[ars (HE a b c d e f)]⟩],[arv c,arv d,arv e,arz f],[arw (HF a b c d e f)],[HG a b c d e f]⟩
 |_,_=>none
def ad8:PF prog:=PF.ofG prog (T3z [te,aT,eL]) [er.F] aZ 9 f9 func9 (LOk.fnT (l:= [bc f9 0]) (by kernel_rfl) (.cons WV (.nil _))) Ud (by
 intro _ _ _ h;unfold Ud at h;split at h<;>cases h;kernel_rfl)
def usA(s:arp)(ls:List LN):Bool:=ls.any fun l=>usT s l.2
def unK(g:arp)(ls:List LN)(s:arp):Bool:=bif !(s.toList==g.toList)then !usA s ls else false
def unL(g:arp)(ls:List LN)(l:List arp):List arp:=l.filter (unK g ls)
theorem amK(s:arp)(ls:List LN)(hn:ls.length≤1048576)(hl: ∀ l∈ls,l.2.length≤1048576): ∀ (r:List LN) (i:Nat) (acc:aro),ls.drop i=r→i + r.length=ls.length→acc.length≤i→
  ∃ U:aro,DK aC.lt (r.length + 1) ((i:Int),(ls.length:Int),s,ls,acc)=some (0,((ls.length:Int),(ls.length:Int),s,ls,acc++U))∧((U.length:Int)==0)= !usA s r
 | [],i,acc,_,he,_=>by
  have e:i=ls.length:=by simpa using he
  rw [e]
  have q:ltI (ls.length:Int) (ls.length:Int)=false:=CE (by omega)
  refine⟨[],?_,rfl⟩
  rw [List.append_nil]
  refine rE _ ?_
  simp only [aC,ka,LT.out,kj,q,cond_false]
 |l::r,i,acc,hd,he,ha=>by
  simp only [j8]at he
  obtain⟨hg,hd'⟩:=Pm hd
  have q0:ltI (i:Int) (ls.length:Int)=true:=ew (by omega)
  have q1:leI 0 (i:Int)=true:=cG (by omega)
  have q2:ltN i ls.length=true:=gM (by omega)
  have q3:v6 .i64 ((i:Int) + 1)=((i + 1:Nat):Int):=by rw [be (by omega) (by omega)];omega
  have a0:dW (i:Int) ls=l.2:=by simp only [dW,z6,hg];rfl
  have q4:leN l.2.length 1048576=true:=bK (hl l (List.mem_of_getElem? hg))
  have q5:leN (acc.length + [(i:Int)].length) 9223372036854775807=true:=bK (by simp only [j8,j9];omega)
  have q6:leN ((acc.length + [(i:Int)].length) * 8) 140737488355328=true:=bK (by simp only [j8,j9];omega)
  cases hk:usT s l.2 with
  |true=>
   obtain⟨U,h1,h2⟩:=amK s ls hn hl r (i + 1) (acc++ [(i:Int)]) hd' (by omega) (by rw [j6,z9];omega)
   refine⟨(i:Int)::U,?_,?_⟩
   ·rw [j8,py (y:=(((i + 1:Nat):Int),(ls.length:Int),s,ls,acc++ [(i:Int)])) _ (by
     simp only [aC,ka,LT.out,kj,oY,oZ,pa,pb,pc,pd,pe,kk,wB,a0,hk,q4,q5,q6,z6,q0,q1,q2,q3,k7,allT,cond_true])]
    rw [h1];simp only [List.append_assoc,List.cons_append,List.nil_append]
   ·rw [show usA s (l::r)=true by simp [usA,hk]]
    simp
    omega
  |false=>
   obtain⟨U,h1,h2⟩:=amK s ls hn hl r (i + 1) acc hd' (by omega) (by omega)
   refine⟨U,?_,?_⟩
   ·rw [j8,py (y:=(((i + 1:Nat):Int),(ls.length:Int),s,ls,acc)) _ (by
     simp only [aC,ka,LT.out,kj,oY,oZ,pa,pb,pc,pd,pe,kk,a0,hk,q4,z6,q0,q1,q2,q3,Bool.not_false,Bool.true_or,allT,cond_true,cond_false])]
    exact h1
   ·rw [show usA s (l::r)=usA s r by simp [usA,hk]];exact h2
theorem ap1(s:arp)(ls:List LN)(hn:ls.length≤1048576)(hl: ∀ l∈ls,l.2.length≤1048576):
  (((lA s ls).length:Int)==0)= !usA s ls∧lB s ls=true:=by
 obtain⟨U,h1,h2⟩:=amK s ls hn hl ls 0 [] (List.drop_zero ..) (by omega) (Nat.le_refl _)
 obtain⟨p1,p2⟩:=aC.run h1 (Fg (by simp only [aC];omega))
 have p1:aC.fin (li s ls)=true:=p1
 have p2:aC.res (li s ls)=_:=p2
 simp only [lA,lB,p1,p2,allT,cond_true,and_true,List.nil_append,h2]
theorem amI(nm g:arp)(a b c N:List arp)(ls:List LN)(hn:ls.length≤1048576)(hl: ∀ l∈ls,l.2.length≤1048576)(hN:N.length≤1048576): ∀ (r:List arp) (i:Nat) (acc:List arp),N.drop i=r→i + r.length=N.length→acc.length≤i→
  DK er.lt (r.length + 1) ((i:Int),(N.length:Int),N,nm,g,acc,a,b,c,ls)=some (0,((N.length:Int),(N.length:Int),N,nm,g,acc++unL g ls r,a,b,c,ls))
 | [],i,acc,_,he,_=>by
  have e:i=N.length:=by simpa using he
  rw [e]
  have q:ltI (N.length:Int) (N.length:Int)=false:=CE (by omega)
  rw [show unL g ls []= [] from rfl,List.append_nil]
  refine rE _ ?_
  simp only [er,Bs,LT.out,Dw,q,cond_false]
 |s::r,i,acc,hd,he,ha=>by
  simp only [j8]at he
  obtain⟨hg,hd'⟩:=Pm hd
  have q0:ltI (i:Int) (N.length:Int)=true:=ew (by omega)
  have q1:leI 0 (i:Int)=true:=cG (by omega)
  have q2:ltN i N.length=true:=gM (by omega)
  have q3:v6 .i64 ((i:Int) + 1)=((i + 1:Nat):Int):=by rw [be (by omega) (by omega)];omega
  have a0:mZ (i:Int) N=s:=by simp only [mZ,z6,hg,Option.getD_some]
  obtain⟨u1,u2⟩:=ap1 s ls hn hl
  have a2:xc (i:Int) N g ls=unK g ls s:=by
   simp only [xc,Bq,a0,unK]
   cases s.toList==g.toList with
   |true=>rfl
   |false=>exact u1
  have q5:leN (acc.length + [s].length) 9223372036854775807=true:=bK (by simp only [j8,j9];omega)
  have q6:leN ((acc.length + [s].length) * 16) 140737488355328=true:=bK (by simp only [j8,j9];omega)
  cases hk:unK g ls s with
  |true=>
   rw [j8,py (y:=(((i + 1:Nat):Int),(N.length:Int),N,nm,g,acc++ [s],a,b,c,ls)) _ (by
    simp only [er,Bs,LT.out,Dw,Jg,Jh,Ji,Jj,Jk,Jl,Jm,Dx,QA,a0,a2,hk,u2,q5,q6,z6,q0,q1,q2,q3,k7,allT,cond_true])]
   rw [amI nm g a b c N ls hn hl hN r (i + 1) (acc++ [s]) hd' (by omega) (by rw [j6,z9];omega)]
   simp only [unL,List.filter_cons,hk,if_true,List.append_assoc,List.cons_append,List.nil_append]
  |false=>
   rw [j8,py (y:=(((i + 1:Nat):Int),(N.length:Int),N,nm,g,acc,a,b,c,ls)) _ (by
    simp only [er,Bs,LT.out,Dw,Jg,Jh,Ji,Jj,Jk,Jl,Jm,Dx,a0,a2,hk,u2,z6,q0,q1,q2,q3,Bool.not_false,Bool.true_or,k7,allT,cond_true,cond_false])]
   rw [amI nm g a b c N ls hn hl hN r (i + 1) acc hd' (by omega) (by omega)]
   simp only [unL,List.filter_cons,hk,Bool.false_eq_true,if_false]
theorem apf(nm g s:arp)(a b c N:List arp)(ls:List LN)(hn:ls.length≤1048576)(hl: ∀ l∈ls,l.2.length≤1048576)(j:Nat)(hj:N[j]? =some s): ∀ (r:List LN) (i:Nat) (u:Bool),ls.drop i=r→i + r.length=ls.length→
  DK dZ.lt (r.length + 1) ((i:Int),u,(j:Int),nm,g,N,a,b,c,ls)=some (0,((ls.length:Int),(u||usA s r),(j:Int),nm,g,N,a,b,c,ls))
 | [],i,u,_,he=>by
  have e:i=ls.length:=by simpa using he
  rw [e]
  have q:ltI (ls.length:Int) (ls.length:Int)=false:=CE (by omega)
  rw [show usA s []=false from rfl,Bool.or_false]
  refine rE _ ?_
  simp only [dZ,DT,LT.out,Fo,yy,q,cond_false]
 |l::r,i,u,hd,he=>by
  simp only [j8]at he
  obtain⟨hg,hd'⟩:=Pm hd
  have hjl:=(List.getElem?_eq_some_iff.1 hj).1
  have q0:ltI (i:Int) (ls.length:Int)=true:=ew (by omega)
  have q1:leI 0 (i:Int)=true:=cG (by omega)
  have q2:ltN i ls.length=true:=gM (by omega)
  have q3:v6 .i64 ((i:Int) + 1)=((i + 1:Nat):Int):=by rw [be (by omega) (by omega)];omega
  have q4:leI 0 (j:Int)=true:=cG (by omega)
  have q5:ltI (j:Int) (N.length:Int)=true:=ew (by omega)
  have q6:ltN j N.length=true:=gM hjl
  have q7:leN l.2.length 1048576=true:=bK (hl l (List.mem_of_getElem? hg))
  have a1:yz (i:Int) u ls=bif u then []else l.2:=by
   simp only [yz,z6,hg]
   cases u <;> rfl
  rw [j8,py (y:=(((i + 1:Nat):Int),(u||usT s l.2),(j:Int),nm,g,N,a,b,c,ls)) _ (by
   simp only [dZ,DT,LT.out,Fo,NB,NC,ND,NE,NF,NG,NH,NI,NJ,yy,a1,z6,hj,Option.getD_some,q0,q1,q2,q3,q4,q5,q6,k7,allT,cond_true]
   cases u with
   |true=>rfl
   |false=>simp only [cond_false,q7,k7,cond_true,Bool.false_or])]
  rw [apf nm g s a b c N ls hn hl j hj r (i + 1) (u||usT s l.2) hd' (by omega)]
  simp only [usA,List.any_cons,Bool.or_assoc]
theorem amG(nm g:arp)(a b c N:List arp)(ls:List LN)(hn:ls.length≤1048576)(hl: ∀ l∈ls,l.2.length≤1048576)(hN:N.length≤1048576): ∀ (r:List arp) (i:Nat) (acc:List arp),N.drop i=r→i + r.length=N.length→acc.length≤i→
  DK et.lt (r.length + 1) ((i:Int),N,nm,g,acc,a,b,c,ls)=some (0,((N.length:Int),N,nm,g,acc++unL g ls r,a,b,c,ls))
 | [],i,acc,_,he,_=>by
  have e:i=N.length:=by simpa using he
  rw [e]
  have q:ltI (N.length:Int) (N.length:Int)=false:=CE (by omega)
  rw [show unL g ls []= [] from rfl,List.append_nil]
  refine rE _ ?_
  simp only [et,Bt,LT.out,yK,q,cond_false]
 |s::r,i,acc,hd,he,ha=>by
  simp only [j8]at he
  obtain⟨hg,hd'⟩:=Pm hd
  have q0:ltI (i:Int) (N.length:Int)=true:=ew (by omega)
  have q1:leI 0 (i:Int)=true:=cG (by omega)
  have q2:ltN i N.length=true:=gM (by omega)
  have q3:v6 .i64 ((i:Int) + 1)=((i + 1:Nat):Int):=by rw [be (by omega) (by omega)];omega
  have a0:tN (i:Int) N=s:=by simp only [tN,z6,hg,Option.getD_some]
  obtain⟨p1,p2⟩:=dZ.run (apf nm g s a b c N ls hn hl i hg ls 0 (s.toList==g.toList) (List.drop_zero ..) (by omega)) (Fg (by simp only [dZ];omega))
  have p1:dZ.fin (tO (i:Int) N nm g a b c ls)=true:=by simp only [tO,a0];exact p1
  have p2:dZ.res (tO (i:Int) N nm g a b c ls)=(0,((ls.length:Int),(s.toList==g.toList||usA s ls),(i:Int),nm,g,N,a,b,c,ls)):=by simp only [tO,a0];exact p2
  have a2:nC (i:Int) N nm g a b c ls=unK g ls s:=by
   simp only [nC,p2,unK]
   cases s.toList==g.toList <;> rfl
  have q5:leN (acc.length + [s].length) 9223372036854775807=true:=bK (by simp only [j8,j9];omega)
  have q6:leN ((acc.length + [s].length) * 16) 140737488355328=true:=bK (by simp only [j8,j9];omega)
  cases hk:unK g ls s with
  |true=>
   rw [j8,py (y:=(((i + 1:Nat):Int),N,nm,g,acc++ [s],a,b,c,ls)) _ (by
    simp only [et,Bt,LT.out,yK,JS,JT,JU,JV,JW,JX,JY,JZ,Ka,Bv,PU,a0,a2,hk,p1,q5,q6,z6,q0,q1,q2,q3,k7,allT,cond_true])]
   rw [amG nm g a b c N ls hn hl hN r (i + 1) (acc++ [s]) hd' (by omega) (by rw [j6,z9];omega)]
   simp only [unL,List.filter_cons,hk,if_true,List.append_assoc,List.cons_append,List.nil_append]
  |false=>
   rw [j8,py (y:=(((i + 1:Nat):Int),N,nm,g,acc,a,b,c,ls)) _ (by
    simp only [et,Bt,LT.out,yK,JS,JT,JU,JV,JW,JX,JY,JZ,Ka,Bv,a0,a2,hk,p1,z6,q0,q1,q2,q3,Bool.not_false,Bool.true_or,k7,allT,cond_true,cond_false])]
   rw [amG nm g a b c N ls hn hl hN r (i + 1) acc hd' (by omega) (by omega)]
   simp only [unL,List.filter_cons,hk,Bool.false_eq_true,if_false]
def unO(nm:arp)(ins vs os:List arp)(g:arp)(ls:List LN):List arp:=bif sdC nm ins vs os g ls==0 then unL g ls (ins++vs)else []
theorem anO(nm g:arp)(ins vs os:List arp)(ls:List LN)(h:PK nm ins vs os g ls=true):
  HE nm g ins vs os ls=sdC nm ins vs os g ls∧HF nm g ins vs os ls=unO nm ins vs os g ls∧HG nm g ins vs os ls=true:=by
 obtain⟨_,_,_,_,_,h6,h7⟩:=LB.1 h
 obtain⟨hn,hA⟩:=Ma.1 h7
 have hL: ∀ l∈ls,l.2.length≤1048576:=fun l hl=>(MA.1 (hA l hl).2).1
 have a:(leN [ins,vs].length 1000&&leN (Fq [ins,vs]) 2000000)=true:=by
  rw [q9];exact⟨rfl,bK (by simp [Fq];omega)⟩
 cases hz:sdC nm ins vs os g ls !=0 with
 |true=>
  have hz':(sdC nm ins vs os g ls==0)=false:=by simpa [bne] using hz
  simp only [HE,HF,HG,xL,hz,hz',unO,h,allT,Bool.true_or,cond_true,cond_false,and_self]
 |false=>
  have hS:kP nm ins vs os g ls=true:=by rw [XW]at hz;simpa using hz
  have hz':sdC nm ins vs os g ls=0:=by simpa [bne] using hz
  obtain⟨_,_,_,_,_,i1,i2,_⟩:=Ea hS
  have hN:(ins++vs).length≤1048576:=by rw [j6];omega
  have a1:FM ins vs=ins++vs:=by simp [FM]
  obtain⟨p1,p2⟩:=er.run (amI nm g ins vs os (ins++vs) ls hn hL hN (ins++vs) 0 [] (List.drop_zero ..) (by omega) (Nat.le_refl _)) (Fg (by simp only [er];omega))
  have p1:er.fin (xM nm g ins vs os ls)=true:=by simp only [xM,a1];exact p1
  have p2:er.res (xM nm g ins vs os ls)=(0,(((ins++vs).length:Int),((ins++vs).length:Int),ins++vs,nm,g,[]++unL g ls (ins++vs),ins,vs,os,ls)):=by simp only [xM,a1];exact p2
  simp only [HE,HF,HG,xL,hz',p1,p2,unO,h,a,allT,List.nil_append,bne_self_eq_false,beq_self_eq_true,Bool.false_or,cond_true,cond_false,and_self]
theorem an7(nm g:arp)(ins vs os:List arp)(ls:List LN)(h:PK nm ins vs os g ls=true):
  Ig nm g ins vs os ls=sdC nm ins vs os g ls∧Ih nm g ins vs os ls=unO nm ins vs os g ls∧Ii nm g ins vs os ls=true:=by
 obtain⟨_,_,_,_,_,h6,h7⟩:=LB.1 h
 obtain⟨hn,hA⟩:=Ma.1 h7
 have hL: ∀ l∈ls,l.2.length≤1048576:=fun l hl=>(MA.1 (hA l hl).2).1
 have a:leN (0 + ins.length) 9223372036854775807=true:=bK (by omega)
 have b:leN ((0 + ins.length) * 16) 140737488355328=true:=bK (by omega)
 have c:leN (ins.length + vs.length) 9223372036854775807=true:=bK (by omega)
 have d:leN ((ins.length + vs.length) * 16) 140737488355328=true:=bK (by omega)
 cases hz:sdC nm ins vs os g ls !=0 with
 |true=>
  have hz':(sdC nm ins vs os g ls==0)=false:=by simpa [bne] using hz
  simp only [Ig,Ih,Ii,oR,hz,hz',unO,h,allT,Bool.true_or,cond_true,cond_false,and_self]
 |false=>
  have hS:kP nm ins vs os g ls=true:=by rw [XW]at hz;simpa using hz
  have hz':sdC nm ins vs os g ls=0:=by simpa [bne] using hz
  obtain⟨_,_,_,_,_,i1,i2,_⟩:=Ea hS
  have hN:(ins++vs).length≤1048576:=by rw [j6];omega
  obtain⟨p1,p2⟩:=et.run (amG nm g ins vs os (ins++vs) ls hn hL hN (ins++vs) 0 [] (List.drop_zero ..) (by omega) (Nat.le_refl _)) (Fg (by simp only [et];omega))
  have p1:et.fin (FY nm g ins vs os ls)=true:=p1
  have p2:et.res (FY nm g ins vs os ls)=_:=p2
  simp only [Ig,Ih,Ii,oR,hz',p1,p2,unO,h,a,b,c,d,allT,List.nil_append,bne_self_eq_false,beq_self_eq_true,Bool.false_or,cond_true,cond_false,and_self]
def Ui:arq
 | [.one ⟨true,[.val (.string a),.ref 0,.ref 1,.ref 2,.val (.string b),.ref 3]⟩],[.row false 9 (.str) c,.row false 9 (.str) d,.row false 9 (.str) e,.row false 61 (.pair (.str) (.sl 64 (.pair (.int .i64) (.pair (.str) (.int .i64))))) f]=>some ⟨.tup [⟨false,[.ref 4]⟩,⟨false,[ars (sdC a c d e b f)]⟩],[arv c,arv d,arv e,arz f],[arw (unO a c d e b f)],[PK a c d e b f]⟩
 |_,_=>none
def qf:PF prog:=PF.alt ad8 Ui (by
 intro args es o h cm;unfold Ui at h;split at h
 ·rename_i a b c d e f
  cases h
  have cm:=lv cm
  have hh:=anO a b c d e f cm
  obtain⟨e0,e1,en⟩:=hh
  exact re rfl (la en) (by simp only [e0] <;> rfl) rfl (by simp only [e1] <;> rfl)
 ·cases h)
def Uj:arq
 | [.one ⟨true,[.val (.string a),.ref 0,.ref 1,.ref 2,.val (.string b),.ref 3]⟩],[.row false 9 (.str) c,.row false 9 (.str) d,.row false 9 (.str) e,.row false 61 (.pair (.str) (.sl 64 (.pair (.int .i64) (.pair (.str) (.int .i64))))) f]=>some ⟨.tup [⟨false,[.ref 4]⟩,⟨false,[ars (sdC a c d e b f)]⟩],[arv c,arv d,arv e,arz f],[arw (unO a c d e b f)],[PK a c d e b f]⟩
 |_,_=>none
def qg:PF prog:=PF.alt ad9 Uj (by
 intro args es o h cm;unfold Uj at h;split at h
 ·rename_i a b c d e f
  cases h
  have cm:=lv cm
  have hh:=an7 a b c d e f cm
  obtain⟨e0,e1,en⟩:=hh
  exact re rfl (la en) (by simp only [e0] <;> rfl) rfl (by simp only [e1] <;> rfl)
 ·cases h)
abbrev zJ:=Int×List Int×Int×Int
section
variable (a:Int)(b:aro)(c:Int)
def PC:Bool:=ltI a (↑b.length:Int)
def abr:Bool:=leI 0 a
def abs:Bool:=ltN a.toNat b.length
def abt:Int:=v6 .i64 (a + (1:Int))
def abu:Int:=v6 IntKind.u64 (v6 IntKind.u64 (v6 IntKind.u64 (c * (1099511628211:Int)) + v6 IntKind.u64 (v5 b[k8 a]? 0)) + (5:Int))
end
def agN:zJ→List (Nat×SV)
 |(a,_,_,_)=> [(6,(aru a)),(0,(art (.ref 0))),(5,(art (.ptr 1 0)))]
def agM:zJ→List (Nat×Entry)
 |(_,a,b,c)=> [(0,(ary a)),(1,(.box 70 [.ref 0,ars b,.val (.int IntKind.u64 c)]))]
def agP:Nat→zJ→List (Nat×SV)
 |_,_=>[]
def SM:zJ→LT zJ
 |(a,b,c,d)=> .ite (PC a b) (.need [abr a,PC a b,abs a b] (.nrm ((abt a),b,c,(abu a b d)) [(0,0),(1,1)])) (.ext 0 [(0,0),(1,1)])
def ST(s:St):Option zJ:=do
 let some ⟨none,.one ⟨false,[.val (.int .i64 a)]⟩⟩:=s.look 6|none
 let some ⟨none,.one ⟨false,[.ref 0]⟩⟩:=s.look 0|none
 let some ⟨none,.one ⟨false,[.ptr 704 0]⟩⟩:=s.look 5|none
 let some (.row false 5 (.int IntKind.u8) b):=s.ent 0|none
 let some (.box 70 [.ref 0,.val (.int .i64 c),.val (.int IntKind.u64 d)]):=s.ent 704|none
 some (a,b,c,d)
def ta:Lp zJ where
 h:=⟨[16,17,18,19,22,23,24,25,26,27,28,29,30,31,32,33,34,35,36,20,21,6],[0,1],[],[]⟩
 JL:=agN
 JE:=agM
 XL:=agP
 XE:=fun _=>agM
 q:=fun j=>match j with | _=> .exit 0
 tags:= [0]
 lt:=SM
 fuel:=fun(a,b,c,d)=>a.natAbs + b.length + c.natAbs + d.natAbs
 fix:=fun(_,b,c,_) (a,_,_,d)=>(a,b,c,d)
 σ:= [(0,0),(1,704)]
 rd:=ST
theorem aeV:LoopOk prog (fun k=>Nat.blt k Tryz.f13.ntmps) ta.F (bc f13 0):=by
 refine Lp.ok (tbl:= []) (lf:= []) aZ ta (by kernel_rfl) (LOk.nil _) (fun _=>rfl) (fun _ _=>rfl) ?_ ?_ ?_ ?_ (fun _=>rfl) ?_
 ·intro _;kernel_rfl
 ·intro _;kernel_rfl
 ·intro s x h
  have h:ST s=some x:=h
  unfold ST at h
  repeat' split at h
  all_goals cases h
  constructor<;>repeat(first|refine aa ‹_› rfl ?_|refine ab rfl ‹_› rfl ?_|rfl)
 ·intro _;kernel_rfl
 ·intro _ _;exact(And.intro rfl trivial)
section
variable (a:Int)(b:aro)
def YP:Int×aro×Int×Int:=((0:Int),b,(0:Int),v6 IntKind.u64 (v6 IntKind.u64 (a * (6007:Int)) + v6 IntKind.u64 (↑b.length:Int)))
def abq:Int:=(Lp.res ta (YP a b)).2.2.2.2
def VT:Bool:=allT [Lp.fin ta (YP a b)]
end
def agi:arq
 | [.one ⟨false,[.ref 0]⟩,.one ⟨false,[.val (.int .u64 a)]⟩],[.row false 5 (.int .u8) b]=>some ⟨art (.ptr 1 0),[ary b],[.box 70 [.ref 0,ars 0,.val (.int IntKind.u64 (abq a b))]],[VT a b]⟩
 |_,_=>none
def alj:PF prog:=PF.ofG prog [] [ta.F] aZ 13 f13 func13 (LOk.fnT (l:= [bc f13 0]) (by kernel_rfl) (.cons aeV (.nil _))) agi (by
 intro _ _ _ h;unfold agi at h;split at h<;>cases h;kernel_rfl)
section
variable (a b c:Int)(d:aro)
def jR:Int:=v6 IntKind.u64 (v6 IntKind.u64 (c * (6364136223846793005:Int)) + (1442695040888963407:Int))
def si:Int:=v6 .i64 (v6 IntKind.u64 (↑(BitVec.toNat (BitVec.ofInt (IntKind.bits IntKind.u64) (Int.fdiv (jR c) ((2:Int) ^ min (k8 33) (IntKind.bits IntKind.u64)))&&& BitVec.ofInt (IntKind.bits IntKind.u64) 16777215)):Int))
def nQ:Int:=Int.tmod (bif ltI b (↑d.length:Int)then v6 .i64 (si c + v6 .i64 (v5 d[k8 b]? 0))else si c) a
def dy:Int:=bif ltI b (↑d.length:Int)then v6 .i64 (b + (1:Int))else b
def kv:Int:=bif ltI b (↑d.length:Int)then jR c else jR c
def kw:Bool:=allT [!ltI b (↑d.length:Int)||leI 0 b,!ltI b (↑d.length:Int)||ltI b (↑d.length:Int),!ltI b (↑d.length:Int)||ltN b.toNat d.length,neI a 0]
end
def At:arq
 | [.one ⟨false,[.ptr 0 0]⟩,.one ⟨false,[.val (.int .i64 a)]⟩],[.box 70 [.ref 1,.val (.int .i64 b),.val (.int .u64 c)],.row false 5 (.int .u8) d]=>some ⟨aru (nQ a b c d),[.box 70 [.ref 1,ars (dy b d),.val (.int IntKind.u64 (kv b c d))],ary d],[],[kw a b d]⟩
 |_,_=>none
def Me:PF prog:=PF.ofG prog [] [] aZ 14 f14 func14 (fun c _=>LOk.nil c) At (by
 intro _ _ _ h;unfold At at h;split at h<;>cases h;kernel_rfl)
def rlS(x:Int)(c:aro):Int:=abq x c
theorem apQ(code:aro)(hn:leN code.length 4096=true)(x:Int):VT x code=true:=by
 have hn:=iC.1 hn
 have qa:=ta.walk (fun i (h:Int)=>((i:Int),code,(0:Int),h)) (fun b h=> .inr (v6 IntKind.u64 (v6 IntKind.u64 (v6 IntKind.u64 (h * (1099511628211:Int)) + v6 IntKind.u64 b) + (5:Int)))) 0 (fun _ _=>True) code
  (fun i b h he _=>⟨?_,fun _ _=>trivial⟩) (fun h _=> ?_) (v6 IntKind.u64 (v6 IntKind.u64 (x * (6007:Int)) + v6 IntKind.u64 (↑(k9 code):Int))) trivial (by simp only [ta];omega)
 ·have k1:ta.fin ((0:Int),code,(0:Int),v6 IntKind.u64 (v6 IntKind.u64 (x * (6007:Int)) + v6 IntKind.u64 (↑(k9 code):Int)))=true:=qa.1
  simp only [VT,YP,allT,k1,cond_true]
 ·obtain⟨iX,he⟩:=List.getElem?_eq_some_iff.1 he
  subst he
  have hw:=AV iX (by omega)
  have q2:ltI (i:Int) (code.length:Int)=true:=ew (by omega)
  have q3:leI 0 (i:Int)=true:=cG (by omega)
  have q4:ltN i code.length=true:=gM iX
  simp [ta,SM,LT.out,allT,PC,abr,abs,abt,abu,iX,hw,q2,q3,q4]
 ·simp [ta,SM,LT.out,PC]
theorem aj8(a:Int)(b:aro)(h:leN b.length 4096=true):abq a b=rlS a b∧VT a b=true:=⟨rfl,apQ b h a⟩
def agj:arq
 | [.one ⟨false,[.ref 0]⟩,.one ⟨false,[.val (.int .u64 a)]⟩],[.row false 5 (.int .u8) b]=>some ⟨art (.ptr 1 0),[ary b],[.box 70 [.ref 0,ars 0,.val (.int IntKind.u64 (rlS a b))]],[leN b.length 4096]⟩
 |_,_=>none
def EE:PF prog:=PF.alt alj agj (by
 intro args es o h cm;unfold agj at h;split at h
 ·rename_i a b
  cases h
  have cm:=lv cm
  have hh:=aj8 a b cm
  obtain⟨e0,en⟩:=hh
  exact re rfl (la en) rfl rfl (by simp only [e0] <;> rfl)
 ·cases h)
def blV(n a s:Int)(c:aro):Int:=nQ n a s c
theorem aoh{n a:Int}{code:aro}(h:(leI 1 n&&leI 0 a)=true):kw n a code=true:=by
 simp only [q9,FN]at h
 have q1:neI n 0=true:=ap8 (by omega)
 have q2:leI 0 a=true:=cG h.2
 cases hl:ltI a (code.length:Int)with
 |true=>
  have:=TU.1 hl
  have q3:ltN a.toNat code.length=true:=gM (by omega)
  simp [kw,allT,q1,q2,q3,hl]
 |false=>simp [kw,allT,q1,hl]
theorem aog{n a s:Int}{code:aro}(hn:1≤n)(hb: ∀ x∈code,0≤x∧x≤255):0≤blV n a s code∧blV n a s code < n:=by
 have hv: ∀ A:BitVec (IntKind.bits IntKind.u64),(A&&& BitVec.ofInt (IntKind.bits IntKind.u64) (16777215:Int)).toNat≤16777215:=fun A=>by
  rw [BitVec.toNat_and]
  exact Nat.le_trans Nat.and_le_right (by decide)
 have hu: ∀ v:Nat,v≤16777215→IntKind.u64.wrap (v:Int)=v:=fun v h=>by
  have hb:IntKind.u64.bits=64:=rfl
  have hs:IntKind.u64.signed=false:=rfl
  simp only [v6,hb,hs,Bool.false_and,Bool.false_eq_true,if_false]
  omega
 simp only [blV,nQ,si]
 have hA:=hv (BitVec.ofInt (IntKind.bits IntKind.u64) (Int.fdiv (jR s) ((2:Int) ^ min (k8 (33:Int)) (IntKind.bits IntKind.u64))))
 generalize BitVec.toNat (BitVec.ofInt (IntKind.bits IntKind.u64) (Int.fdiv (jR s) ((2:Int) ^ min (k8 (33:Int)) (IntKind.bits IntKind.u64)))&&& BitVec.ofInt (IntKind.bits IntKind.u64) (16777215:Int))=v at hA ⊢
 obtain⟨c0,c1⟩:=akE hb a.toNat
 rw [hu v hA,be (x:=(v:Int)) (by omega) (by omega),be (x:=code[a.toNat]?.getD 0) (by omega) (by omega),be (x:=(v:Int) + code[a.toNat]?.getD 0) (by omega) (by omega)]
 cases ltI a (↑(k9 code):Int)with
 |true=>exact Sm (by simp only [cond_true];omega) (by omega)
 |false=>exact Sm (by simp only [cond_false];omega) (by omega)
theorem Lx(a b c:Int)(d:aro)(h:(leI 1 a&&leI 0 b)=true):nQ a b c d=blV a b c d∧kw a b d=true:=⟨rfl,aoh h⟩
def AB:arq
 | [.one ⟨false,[.ptr 0 0]⟩,.one ⟨false,[.val (.int .i64 a)]⟩],[.box 70 [.ref 1,.val (.int .i64 b),.val (.int .u64 c)],.row false 5 (.int .u8) d]=>some ⟨aru (blV a b c d),[.box 70 [.ref 1,ars (dy b d),.val (.int IntKind.u64 (kv b c d))],ary d],[],[leI 1 a&&leI 0 b]⟩
 |_,_=>none
def cD:PF prog:=PF.alt Me AB (by
 intro args es o h cm;unfold AB at h;split at h
 ·rename_i a b c d
  cases h
  have cm:=lv cm
  have hh:=Lx a b c d cm
  obtain⟨e0,en⟩:=hh
  exact re rfl (la en) (by simp only [e0] <;> rfl) rfl rfl
 ·cases h)
abbrev pU:=Int×List (List Int)×List (List Int)
section
variable (a:Int)(b c:amc)
def Jn:aro:=v5 b[k8 a]? (ul aiL)
def Ew:Bool:=ltI a (↑b.length:Int)
def Ll:Bool:=leI 0 a
def RH:Bool:=ltN a.toNat b.length
def RI:Bool:=ltI a (↑c.length:Int)
def RJ:Bool:=ltN a.toNat c.length
def RK:Bool:=leN (k9 (Jn a b)) 9223372036854775807
def RL:Bool:= !eqL (Jn a b) (v5 c[k8 a]? (ul aiL))
def RM:Int:=v6 .i64 (a + (1:Int))
end
def ZT:pU→List (Nat×SV)
 |(a,_,_)=> [(5,(aru a)),(0,(art (.ref 0))),(1,(art (.ref 1)))]
def ZM:pU→List (Nat×Entry)
 |(_,a,b)=> [(0,(arI a)),(1,(arI b))]
def aah:Nat→pU→List (Nat×SV)
 |0,(_,_,_)=> [(4,(art (.val (.bool false))))]
 |_,_=>[]
def JA:pU→LT pU
 |(a,b,c)=> .ite (Ew a b) (.need [Ll a,Ew a b,RH a b,Ll a,RI a c,RJ a c,RK a b] (.ite (RL a b c) (.ext 0 [(0,0),(1,1)]) (.nrm ((RM a),b,c) [(0,0),(1,1)]))) (.ext 1 [(0,0),(1,1)])
def JI(s:St):Option pU:=do
 let some ⟨none,.one ⟨false,[.val (.int .i64 a)]⟩⟩:=s.look 5|none
 let some ⟨none,.one ⟨false,[.ref 0]⟩⟩:=s.look 0|none
 let some ⟨none,.one ⟨false,[.ref 1]⟩⟩:=s.look 1|none
 let some (.row false 41 (.sl 2 (.int .i64)) b):=s.ent 0|none
 let some (.row false 41 (.sl 2 (.int .i64)) c):=s.ent 1|none
 some (a,b,c)
def fv:Lp pU where
 h:=⟨[11,12,13,14,17,18,19,20,21,22,23,24,25,26,4,15,16,5],[0,1],[],[]⟩
 JL:=ZT
 JE:=ZM
 XL:=aah
 XE:=fun _=>ZM
 q:=fun j=>match j with | 0=> .ret | _=> .exit 0
 tags:= [0,1]
 lt:=JA
 fuel:=fun(a,b,c)=>a.natAbs + b.length + c.length
 fix:=fun(_,b,c) (a,_,_)=>(a,b,c)
 σ:= [(0,0),(1,1)]
 rd:=JI
theorem XH:LoopOk prog (fun k=>Nat.blt k Tryz.f17.ntmps) fv.F (bc f17 0):=by
 refine Lp.ok (tbl:= (T3z [DX])) (lf:= []) aZ fv (by kernel_rfl) (LOk.nil _) (fun _=>rfl) (fun j _=>by unfold fv;match j with | 0=>rfl | _ + 1=>rfl) ?_ ?_ ?_ ?_ (fun _=>rfl) ?_
 ·intro _;kernel_rfl
 ·intro _;kernel_rfl
 ·intro s x h
  have h:JI s=some x:=h
  unfold JI at h
  repeat' split at h
  all_goals cases h
  constructor<;>repeat(first|refine aa ‹_› rfl ?_|refine ab rfl ‹_› rfl ?_|rfl)
 ·intro _;kernel_rfl
 ·intro _ _;exact(And.intro (And.intro trivial rfl) trivial)
section
variable (a b:amc)
def HQ:Bool:=(↑a.length:Int)!=(↑b.length:Int)
def HR:Int×amc×amc:=((0:Int),a,b)
def Km:Bool:=bif HQ a b then false else bif Nat.beq ((Lp.res fv (HR a b)).1) 0 then false else true
def Kn:Bool:=allT [HQ a b||Lp.fin fv (HR a b)]
end
def VB:arq
 | [.one ⟨false,[.ref 0]⟩,.one ⟨false,[.ref 1]⟩],[.row false 41 (.sl 2 (.int .i64)) a,.row false 41 (.sl 2 (.int .i64)) b]=>some ⟨art (.val (.bool (Km a b))),[arH a,arH b],[],[Kn a b]⟩
 |_,_=>none
def rD:PF prog:=PF.ofG prog (T3z [DX]) [fv.F] aZ 17 f17 func17 (LOk.fnT (l:= [bc f17 0]) (by kernel_rfl) (.cons XH (.nil _))) VB (by
 intro _ _ _ h;unfold VB at h;split at h<;>cases h;kernel_rfl)
def fV(a:aro):Bool:=ltI 4096 (↑a.length:Int)
def Xo:arq
 | [.one ⟨false,[.ref 0]⟩],[.row false 5 (.int IntKind.u8) a]=>some ⟨art (.val (.bool (fV a))),[ary a],[],[]⟩
 |_,_=>none
def tf:PF prog:=PF.ofG prog [] [] aZ 4 f4 func4 (fun c _=>LOk.nil c) Xo (by
 intro _ _ _ h;unfold Xo at h;split at h<;>cases h;kernel_rfl)
abbrev mW:=Int×arp×arp×List Int×Int×Int×List arp×List arp×List arp×List (arp×(List (Int×(arp×Int))))×List Int
section
variable (a:Int)(b:aro)(c d:Int)(e:List arp)(f:aro)
def AF:aro:= [blV 2 c d f]
def HP:Bool:=ltI a (↑e.length:Int)
def Pv:Bool:=leI 1 2&&leI 0 c
def Pw:Bool:=leN (k9 b + k9 (AF c d f)) 9223372036854775807
def Px:Bool:=leN ((k9 b + k9 (AF c d f)) * 8) 140737488355328
def Py:Int:=v6 .i64 (a + (1:Int))
def Pz:aro:=b++AF c d f
def PA:Int:=dy c f
def PB:Int:=kv c d f
end
def Xt:mW→List (Nat×SV)
 |(a,_,_,_,_,_,_,_,_,_,_)=> [(21,(aru a)),(3,(art (.ptr 0 0))),(20,(art (.ref 1))),(18,(art (.ptr 2 0)))]
def Xs:mW→List (Nat×Entry)
 |(_,a,b,c,d,e,f,g,i,j,k)=> [(0,(.box 27 [.val (.string a),.ref 3,.ref 4,.ref 5,.val (.string b),.ref 6])),(2,(.box 70 [.ref 7,ars d,.val (.int IntKind.u64 e)])),(3,(arv f)),(4,(arv g)),(5,(arv i)),(6,(arx j)),(7,(ary k)),(1,(arC c))]
def Xx:Nat→mW→List (Nat×SV)
 |_,(a,_,_,_,_,_,_,_,_,_,_)=> [(20,(art (.ref 1))),(21,(aru a))]
def Xw:Nat→mW→List (Nat×Entry)
 |_,(_,a,b,c,d,e,f,g,i,j,k)=> [(0,(.box 27 [.val (.string a),.ref 3,.ref 4,.ref 5,.val (.string b),.ref 6])),(1,(arC c)),(2,(.box 70 [.ref 7,ars d,.val (.int IntKind.u64 e)])),(3,(arv f)),(4,(arv g)),(5,(arv i)),(6,(arx j)),(7,(ary k))]
def GM:mW→LT mW
 |(a,b,c,d,e,f,g,i,j,k,l)=> .ite (HP a g) (.need [Pv e,Pw d e f l,Px d e f l] (.nrm ((Py a),b,c,Pz d e f l,PA e l,PB e f l,g,i,j,k,l) [(0,0),(1,640),(2,2),(3,3),(4,4),(5,5),(6,6),(7,7)])) (.ext 0 [(0,0),(1,1),(2,2),(3,3),(4,4),(5,5),(6,6),(7,7)])
def GR(s:St):Option mW:=do
 let some ⟨none,.one ⟨false,[.val (.int .i64 a)]⟩⟩:=s.look 21|none
 let some ⟨none,.one ⟨false,[.ptr 0 0]⟩⟩:=s.look 3|none
 let some ⟨none,.one ⟨false,[.ref 192]⟩⟩:=s.look 20|none
 let some ⟨none,.one ⟨false,[.ptr 1 0]⟩⟩:=s.look 18|none
 let some (.box 27 [.val (.string b),.ref 3,.ref 4,.ref 5,.val (.string c),.ref 6]):=s.ent 0|none
 let some (.box 70 [.ref 7,.val (.int .i64 e),.val (.int IntKind.u64 f)]):=s.ent 1|none
 let some (.row false 9 (.str) g):=s.ent 3|none
 let some (.row false 9 (.str) i):=s.ent 4|none
 let some (.row false 9 (.str) j):=s.ent 5|none
 let some (.row false 61 (.pair .str (.sl 64 (.pair (.int .i64) (.pair .str (.int .i64))))) k):=s.ent 6|none
 let some (.row false 5 (.int IntKind.u8) l):=s.ent 7|none
 let some (.row true 2 (.int .i64) d):=s.ent 192|none
 some (a,b,c,d,e,f,g,i,j,k,l)
def eJ:Lp mW where
 h:=⟨[97,98,99,100,101,104,105,106,107,108,20,102,103,21],[0,2,3,4,5,6,7],[1],[]⟩
 JL:=Xt
 JE:=Xs
 XL:=Xx
 XE:=Xw
 q:=fun j=>match j with | _=> .exit 2
 tags:= [0]
 lt:=GM
 fuel:=fun(a,b,c,d,e,f,g,i,k,l,m)=>a.natAbs + b.size + c.size + d.length + e.natAbs + f.natAbs + g.length + i.length + k.length + l.length + m.length
 fix:=fun(_,b,c,_,_,_,g,i,k,l,m) (a,_,_,d,e,f,_,_,_,_,_)=>(a,b,c,d,e,f,g,i,k,l,m)
 σ:= [(0,0),(2,1),(3,3),(4,4),(5,5),(6,6),(7,7),(1,192)]
 rd:=GR
theorem Vw:LoopOk prog (memN [92,93,96,20,21,97,98,99,100,101,104,105,106,107,108,102,103,109,110,111,112,17,94,95,19]) eJ.F (SL (bc f3 0) 0):=by
 refine Lp.ok (tbl:= (T3z [qg,nq,ir,EE,cD,vz,jh,rD,oQ,vv,vB,lj,qf,tf])) (lf:= []) aZ eJ (by kernel_rfl) (LOk.nil _) (fun _=>rfl) (fun _ _=>rfl) ?_ ?_ ?_ ?_ (fun _=>rfl) ?_
 ·intro _;kernel_rfl
 ·intro _;kernel_rfl
 ·intro s x h
  have h:GR s=some x:=h
  unfold GR at h
  repeat' split at h
  all_goals cases h
  constructor<;>repeat(first|refine aa ‹_› rfl ?_|refine ab rfl ‹_› rfl ?_|rfl)
 ·intro _;kernel_rfl
 ·intro _ _;exact(And.intro rfl trivial)
abbrev rc:=Int×arp×arp×Int×Int×List (List Int)×List arp×List arp×List arp×List (arp×(List (Int×(arp×Int))))×List Int
section
variable (a:Int)(b c:arp)(d e:Int)(f:amc)(g i j:List arp)(k:agS)(l:aro)
def Et:Int×arp×arp×aro×Int×Int×List arp×List arp×List arp×agT×aro:=((0:Int),b,c,[],d,e,g,i,j,k,l)
def Eu:aro×Int×Int×List arp×List arp×List arp×agT×aro:=(Lp.res eJ (Et b c d e g i j k l)).2.2.2.2
def Ev:amc:= [(Eu b c d e g i j k l).1]
def Lk:Int×Int×List arp×List arp×List arp×agT×aro:=(Eu b c d e g i j k l).2
def MJ:Bool:=ltI a 6
def Tx:Bool:=Lp.fin eJ (Et b c d e g i j k l)
def Ty:Bool:=leN (k9 f + k9 (Ev b c d e g i j k l)) 9223372036854775807
def Tz:Bool:=leN ((k9 f + k9 (Ev b c d e g i j k l)) * 24) 140737488355328
def TA:Int:=v6 .i64 (a + (1:Int))
def TB:Int:=(Lk b c d e g i j k l).1
def TC:Int:=((Lk b c d e g i j k l).2).1
def TD:amc:=f++Ev b c d e g i j k l
end
def aaS:rc→List (Nat×SV)
 |(a,_,_,_,_,_,_,_,_,_,_)=> [(19,(aru a)),(3,(art (.ptr 0 0))),(18,(art (.ptr 1 0))),(17,(art (.ref 2)))]
def aaQ:rc→List (Nat×Entry)
 |(_,a,b,c,d,e,f,g,i,j,k)=> [(0,(.box 27 [.val (.string a),.ref 3,.ref 4,.ref 5,.val (.string b),.ref 6])),(1,(.box 70 [.ref 7,ars c,.val (.int IntKind.u64 d)])),(3,(arv f)),(4,(arv g)),(5,(arv i)),(6,(arx j)),(7,(ary k)),(2,(.row true 41 aiL e))]
def aa9:Nat→rc→List (Nat×SV)
 |_,(_,_,_,_,_,_,_,_,_,_,_)=> [(17,(art (.ref 2)))]
def aa7:Nat→rc→List (Nat×Entry)
 |_,(_,a,b,c,d,e,f,g,i,j,k)=> [(0,(.box 27 [.val (.string a),.ref 3,.ref 4,.ref 5,.val (.string b),.ref 6])),(1,(.box 70 [.ref 7,ars c,.val (.int IntKind.u64 d)])),(2,(.row true 41 aiL e)),(3,(arv f)),(4,(arv g)),(5,(arv i)),(6,(arx j)),(7,(ary k))]
def Lr:rc→LT rc
 |(a,b,c,d,e,f,g,i,j,k,l)=> .ite (MJ a) (.need [Tx b c d e g i j k l] (.need [Ty b c d e f g i j k l,Tz b c d e f g i j k l] (.nrm ((TA a),b,c,TB b c d e g i j k l,TC b c d e g i j k l,TD b c d e f g i j k l,g,i,j,k,l) [(0,0),(1,1),(2,640),(3,3),(4,4),(5,5),(6,6),(7,7)]))) (.ext 0 [(0,0),(1,1),(2,2),(3,3),(4,4),(5,5),(6,6),(7,7)])
def LD(s:St):Option rc:=do
 let some ⟨none,.one ⟨false,[.val (.int .i64 a)]⟩⟩:=s.look 19|none
 let some ⟨none,.one ⟨false,[.ptr 704 0]⟩⟩:=s.look 3|none
 let some ⟨none,.one ⟨false,[.ptr 5632 0]⟩⟩:=s.look 18|none
 let some ⟨none,.one ⟨false,[.ref 5440]⟩⟩:=s.look 17|none
 let some (.box 27 [.val (.string b),.ref 384,.ref 385,.ref 386,.val (.string c),.ref 387]):=s.ent 704|none
 let some (.box 70 [.ref 0,.val (.int .i64 d),.val (.int IntKind.u64 e)]):=s.ent 5632|none
 let some (.row false 9 (.str) g):=s.ent 384|none
 let some (.row false 9 (.str) i):=s.ent 385|none
 let some (.row false 9 (.str) j):=s.ent 386|none
 let some (.row false 61 (.pair .str (.sl 64 (.pair (.int .i64) (.pair .str (.int .i64))))) k):=s.ent 387|none
 let some (.row false 5 (.int IntKind.u8) l):=s.ent 0|none
 let some (.row true 41 (.sl 2 (.int .i64)) f):=s.ent 5440|none
 some (a,b,c,d,e,f,g,i,j,k,l)
def jS:Lp rc where
 h:=⟨[92,93,96,20,21,97,98,99,100,101,104,105,106,107,108,102,103,109,110,111,112,17,94,95,19],[0,1,3,4,5,6,7],[2],[]⟩
 JL:=aaS
 JE:=aaQ
 XL:=aa9
 XE:=aa7
 q:=fun j=>match j with | _=> .exit 0
 tags:= [0]
 lt:=Lr
 fuel:=fun(a,b,c,d,e,f,g,i,k,l,m)=>a.natAbs + b.size + c.size + d.natAbs + e.natAbs + f.length + g.length + i.length + k.length + l.length + m.length
 fix:=fun(_,b,c,_,_,_,g,i,k,l,m) (a,_,_,d,e,f,_,_,_,_,_)=>(a,b,c,d,e,f,g,i,k,l,m)
 σ:= [(0,704),(1,5632),(3,384),(4,385),(5,386),(6,387),(7,0),(2,5440)]
 rd:=LD
theorem YQ:LoopOk prog (fun k=>Nat.blt k Tryz.f3.ntmps) jS.F (bc f3 0):=by
 refine Lp.ok (tbl:= (T3z [qg,nq,ir,EE,cD,vz,jh,rD,oQ,vv,vB,lj,qf,tf])) (lf:= [eJ.F]) aZ jS (by kernel_rfl) (LOk.allT (l:= [SL (bc f3 0) 0]) (by kernel_rfl) (.cons Vw (.nil _))) (fun _=>rfl) (fun _ _=>rfl) ?_ ?_ ?_ ?_ (fun _=>rfl) ?_
 ·intro _;kernel_rfl
 ·intro _;kernel_rfl
 ·intro s x h
  have h:LD s=some x:=h
  unfold LD at h
  repeat' split at h
  all_goals cases h
  constructor<;>repeat(first|refine aa ‹_› rfl ?_|refine ab rfl ‹_› rfl ?_|rfl)
 ·intro _;kernel_rfl
 ·intro _ _;exact(And.intro rfl trivial)
section
variable (a:aro)
def ac:Int:=rnC (bk a) (dg a) (dh a) (di a) (bv a) (dj a) (ag a) (af a)
def Kk:Int:=sdC (qo a) (qq a) (qr a) (qs a) (qp a) (qt a)
def lw:Bool:=bif bif ac a !=ac a then true else !zN (Fm (ac a) (bk a)) (Fm (ac a) (rnS (ag a) (af a) (bv a))) (Fm (ac a) (bk a)) (Fm (ac a) (rnS (ag a) (af a) (bv a))) (CJ (ac a) (ag a) (af a) (dg a)) (CJ (ac a) (ag a) (af a) (dh a)) (CJ (ac a) (ag a) (af a) (di a)) (Vx (ac a) (ag a) (af a) (dj a)) (CJ (ac a) (ag a) (af a) (dg a)) (CJ (ac a) (ag a) (af a) (dh a)) (CJ (ac a) (ag a) (af a) (di a)) (Vx (ac a) (ag a) (af a) (dj a))then true else Kk a !=Kk a
def cF:List arp:=unO (qo a) (qq a) (qr a) (qs a) (qp a) (qt a)
def na:List arp:=bif !ac a !=ac a&&true then CJ (ac a) (ag a) (af a) (dg a)else CJ (ac a) (ag a) (af a) (dg a)
def nb:List arp:=bif !ac a !=ac a&&true then CJ (ac a) (ag a) (af a) (dh a)else CJ (ac a) (ag a) (af a) (dh a)
def nc:List arp:=bif !ac a !=ac a&&true then CJ (ac a) (ag a) (af a) (di a)else CJ (ac a) (ag a) (af a) (di a)
def nf:agT:=bif !ac a !=ac a&&true then Vx (ac a) (ag a) (af a) (dj a)else Vx (ac a) (ag a) (af a) (dj a)
def gR:Int:=rnC (Fm (ac a) (bk a)) (na a) (nb a) (nc a) (Fm (ac a) (rnS (ag a) (af a) (bv a))) (nf a) (af a) (ag a)
def Kl:arp:=Fm (gR a) (rnS (af a) (ag a) (Fm (ac a) (rnS (ag a) (af a) (bv a))))
def HL:Bool:=bif gR a==0 then zN (Fm (gR a) (Fm (ac a) (bk a))) (Kl a) (bk a) (bv a) (CJ (gR a) (af a) (ag a) (na a)) (CJ (gR a) (af a) (ag a) (nb a)) (CJ (gR a) (af a) (ag a) (nc a)) (Vx (gR a) (af a) (ag a) (nf a)) (dg a) (dh a) (di a) (dj a)else false
def Ct:Int×arp×arp×Int×Int×amc×List arp×List arp×List arp×agT×aro:=((0:Int),bk a,bv a,(0:Int),rlS 1401 a,[],dg a,dh a,di a,dj a,a)
def qb:amc:=((Lp.res jS (Ct a)).2.2.2.2.2.2).1
def HM:Bool:=bif bif bif HL a then kP (Fm (ac a) (bk a)) (na a) (nb a) (nc a) (Fm (ac a) (rnS (ag a) (af a) (bv a))) (nf a)else false then rgC (bk a) (dg a) (dh a) (di a) (bv a) (dj a) (qb a)==0 else false then rgC (Fm (ac a) (bk a)) (na a) (nb a) (nc a) (Fm (ac a) (rnS (ag a) (af a) (bv a))) (nf a) (qb a)==0 else false
def HN:amc:=rgO (bk a) (dg a) (dh a) (di a) (bv a) (dj a) (qb a)
def HO:amc:=rgO (Fm (ac a) (bk a)) (na a) (nb a) (nc a) (Fm (ac a) (rnS (ag a) (af a) (bv a))) (nf a) (qb a)
def Cu:Bool:=fV a||aY 0 0 a
def Cv:Bool:=fV a||rnN (bk a) (dg a) (dh a) (di a) (bv a) (dj a) (af a)
def Cw:Bool:=fV a||PK (qo a) (qq a) (qr a) (qs a) (qp a) (qt a)
def Gz:Bool:=bif fV a then true else bif bif lw a then true else !gS (cF a) (cF a)then false else bif ac a !=0 then true else bif HM a then Km (HN a) (HO a)else false
def GA:Bool:=allT [Cu a,Cv a,Cv a,Cu a,Cw a,Cw a,fV a||(!(!ac a !=ac a&&true)||zO (Fm (ac a) (bk a)) (Fm (ac a) (rnS (ag a) (af a) (bv a))) (Fm (ac a) (bk a)) (Fm (ac a) (rnS (ag a) (af a) (bv a))) (CJ (ac a) (ag a) (af a) (dg a)) (CJ (ac a) (ag a) (af a) (dh a)) (CJ (ac a) (ag a) (af a) (di a)) (Vx (ac a) (ag a) (af a) (dj a)) (CJ (ac a) (ag a) (af a) (dg a)) (CJ (ac a) (ag a) (af a) (dh a)) (CJ (ac a) (ag a) (af a) (di a)) (Vx (ac a) (ag a) (af a) (dj a))),fV a||(!(!lw a&&true)||xj (cF a) (cF a)),fV a||((bif lw a then true else !gS (cF a) (cF a))||(ac a !=0||rnN (Fm (ac a) (bk a)) (na a) (nb a) (nc a) (Fm (ac a) (rnS (ag a) (af a) (bv a))) (nf a) (ag a))),fV a||((bif lw a then true else !gS (cF a) (cF a))||(ac a !=0||leN a.length (4096:Nat))),fV a||((bif lw a then true else !gS (cF a) (cF a))||(ac a !=0||Lp.fin jS (Ct a))),fV a||((bif lw a then true else !gS (cF a) (cF a))||(ac a !=0||rgN (bk a) (dg a) (dh a) (di a) (bv a) (dj a) (qb a))),fV a||((bif lw a then true else !gS (cF a) (cF a))||(ac a !=0||rgN (Fm (ac a) (bk a)) (na a) (nb a) (nc a) (Fm (ac a) (rnS (ag a) (af a) (bv a))) (nf a) (qb a))),fV a||((bif lw a then true else !gS (cF a) (cF a))||(ac a !=0||(!(gR a==0&&true)||zO (Fm (gR a) (Fm (ac a) (bk a))) (Kl a) (bk a) (bv a) (CJ (gR a) (af a) (ag a) (na a)) (CJ (gR a) (af a) (ag a) (nb a)) (CJ (gR a) (af a) (ag a) (nc a)) (Vx (gR a) (af a) (ag a) (nf a)) (dg a) (dh a) (di a) (dj a)))),fV a||((bif lw a then true else !gS (cF a) (cF a))||(ac a !=0||(!(HL a&&true)||PK (Fm (ac a) (bk a)) (na a) (nb a) (nc a) (Fm (ac a) (rnS (ag a) (af a) (bv a))) (nf a)))),fV a||((bif lw a then true else !gS (cF a) (cF a))||(ac a !=0||(!(HM a&&true)||Kn (HN a) (HO a))))]
end
def Xn:arq
 | [.one ⟨false,[.ref 0]⟩],[.row false 5 (.int .u8) a]=>some ⟨art (.val (.bool (Gz a))),[ary a],[],[GA a]⟩
 |_,_=>none
def afZ:PF prog:=PF.ofG prog (T3z [qg,nq,ir,EE,cD,vz,jh,rD,oQ,vv,vB,lj,qf,tf]) [jS.F] aZ 3 f3 func3 (LOk.fnT (l:= [bc f3 0]) (by kernel_rfl) (.cons YQ (.nil _))) Xn (by
 intro _ _ _ h;unfold Xn at h;split at h<;>cases h;kernel_rfl)
theorem aoO(x:amc)(hx:x.length≤1048576)(hA: ∀ a∈x,a.length≤9223372036854775807): ∀ (n i:Nat),i + n=x.length→
  DK fv.lt (n + 1) ((i:Int),x,x)=some (1,((x.length:Int),x,x))
 |0,i,h=>by
  have e:i=x.length:=by omega
  rw [e]
  refine rE _ ?_
  have q:ltI (x.length:Int) (x.length:Int)=false:=CE (by omega)
  simp only [fv,JA,LT.out,Ew,q,cond_false]
 |n + 1,i,h=>by
  have iX:i < x.length:=by omega
  have q0:ltI (i:Int) (x.length:Int)=true:=ew (by omega)
  have q1:leI 0 (i:Int)=true:=cG (by omega)
  have q2:ltN i x.length=true:=gM iX
  have g:v5 x[i]? (ul (CTy.sl (2:Nat) akp))=x[i]:=by rw [List.getElem?_eq_getElem iX];rfl
  have q3:leN (x[i]).length 9223372036854775807=true:=bK (hA _ (List.getElem_mem iX))
  have q4:v6 .i64 ((i:Int) + 1)=((i + 1:Nat):Int):=by rw [be (by omega) (by omega)];omega
  rw [py (y:=(((i + 1:Nat):Int),x,x)) _ (by
   simp only [fv,JA,LT.out,Ew,Ll,RH,RI,RJ,RK,RL,RM,Jn,z6,q0,q1,q2,g,q3,q4,aox,allT,cond_true,Bool.not_true,cond_false])]
  exact aoO x hx hA n (i + 1) (by omega)
theorem anS(x:amc)(hx:x.length≤1048576)(hA: ∀ a∈x,a.length≤9223372036854775807):Km x x=true∧Kn x x=true:=by
 obtain⟨p1,p2⟩:=fv.run (aoO x hx hA x.length 0 (by omega)) (Fg (by simp only [fv];omega))
 have e0:HQ x x=false:=by simp [HQ]
 have p1:fv.fin (HR x x)=true:=p1
 have p2:fv.res (HR x x)=_:=p2
 simp only [Km,Kn,e0,p1,p2,allT,cond_false,cond_true,k7]
 exact⟨rfl,trivial⟩
theorem aqB{c:aro}(hb: ∀ (i:Nat) (x:Int),c[i]? =some x→0≤x∧x≤255)(h:fV c=false):aY 0 0 c=true∧c.length≤4096:=by
 have:=YS.1 h
 refine⟨acb.2 ⟨by omega,by omega,by omega,fun x hx=> ?_⟩,by omega⟩
 obtain⟨i,hi⟩:=List.getElem?_of_mem hx
 exact hb i x hi
theorem aoH(nm g:arp)(ins vs os:List arp)(ls:List LN)(c:aro)(hc:c.length≤4096)(hb: ∀ x∈c,0≤x∧x≤255)(hn:ins.length≤20): ∀ (n i:Nat) (acc:aro) (a s:Int),i + n=ins.length→acc.length=i→(∀ z∈acc,z=0∨z=1)→0≤a∧a≤4096→
  ∃ (L:aro) (a' s':Int),DK eJ.lt (n + 1) ((i:Int),nm,g,acc,a,s,ins,vs,os,ls,c)=some (0,((ins.length:Int),nm,g,L,a',s',ins,vs,os,ls,c))∧bitsB ins.length L=true∧0≤a'∧a'≤4096
 |0,i,acc,a,s,he,ha,hz,h0=>by
  have e:i=ins.length:=by omega
  have q:ltI (ins.length:Int) (ins.length:Int)=false:=CE (by omega)
  refine⟨acc,a,s,?_,lc.2 ⟨hz,by omega⟩,h0⟩
  rw [e]
  refine rE _ ?_
  simp only [eJ,GM,LT.out,HP,q,cond_false]
 |n + 1,i,acc,a,s,he,ha,hz,h0=>by
  have q0:ltI (i:Int) (ins.length:Int)=true:=ew (by omega)
  have q3:v6 .i64 ((i:Int) + 1)=((i + 1:Nat):Int):=by rw [be (by omega) (by omega)];omega
  have q1:leI 0 a=true:=cG h0.1
  have q2:leI (1:Int) 2=true:=rfl
  have q4:leN (acc.length + [blV 2 a s c].length) 9223372036854775807=true:=bK (by simp only [j8,j9];omega)
  have q5:leN ((acc.length + [blV 2 a s c].length) * 8) 140737488355328=true:=bK (by simp only [j8,j9];omega)
  obtain⟨v0,v1⟩:=aog (n:=2) (a:=a) (s:=s) (code:=c) (by omega) hb
  have hA:0≤dy a c∧dy a c≤4096:=by
   simp only [dy]
   cases hl:ltI a (c.length:Int)with
   |false=>exact h0
   |true=>
    have:=TU.1 hl
    simp only [cond_true]
    rw [be (by omega) (by omega)];omega
  obtain⟨L,a',s',h1,h2⟩:=aoH nm g ins vs os ls c hc hb hn n (i + 1) (acc++ [blV 2 a s c]) (dy a c) (kv a s c) (by omega) (by rw [j6,z9];omega) (fun z hz'=>by
   rcases j7.1 hz' with h | h
   ·exact hz z h
   ·rw [v7.1 h];omega) hA
  refine⟨L,a',s',?_,h2⟩
  rw [py (y:=(((i + 1:Nat):Int),nm,g,acc++ [blV 2 a s c],dy a c,kv a s c,ins,vs,os,ls,c)) _ (by
   simp only [eJ,GM,LT.out,HP,Pv,Pw,Px,Py,Pz,PA,PB,AF,q0,q1,q2,q3,q4,q5,Bool.and_self,allT,cond_true])]
  exact h1
theorem anf(nm g:arp)(ins vs os:List arp)(ls:List LN)(c:aro)(hc:c.length≤4096)(hb: ∀ x∈c,0≤x∧x≤255)(hn:ins.length≤20): ∀ (n k:Nat) (I:amc) (a s:Int),k + n=6→I.length=k→(∀ x∈I,bitsB ins.length x=true)→0≤a∧a≤4096→
  ∃ (J:amc) (a' s':Int),DK jS.lt (n + 1) ((k:Int),nm,g,a,s,I,ins,vs,os,ls,c)=some (0,((6:Int),nm,g,a',s',J,ins,vs,os,ls,c))∧J.length=6∧(∀ x∈J,bitsB ins.length x=true)
 |0,k,I,a,s,he,hI,hA,h0=>by
  have e:(k:Int)=6:=by omega
  have q:ltI (6:Int) 6=false:=rfl
  refine⟨I,a,s,?_,by omega,hA⟩
  rw [e]
  refine rE _ ?_
  simp only [jS,Lr,LT.out,MJ,q,cond_false]
 |n + 1,k,I,a,s,he,hI,hA,h0=>by
  have q0:ltI (k:Int) 6=true:=ew (by omega)
  have q3:v6 .i64 ((k:Int) + 1)=((k + 1:Nat):Int):=by rw [be (by omega) (by omega)];omega
  obtain⟨L,a',s',h1,h2,h3⟩:=aoH nm g ins vs os ls c hc hb hn ins.length 0 [] a s (by omega) rfl (fun z hz=>(List.not_mem_nil hz).elim) h0
  obtain⟨p1,p2⟩:=eJ.run h1 (Fg (by simp only [eJ];omega))
  have p1:eJ.fin (Et nm g a s ins vs os ls c)=true:=p1
  have p2:eJ.res (Et nm g a s ins vs os ls c)=_:=p2
  have a1:Eu nm g a s ins vs os ls c=(L,a',s',ins,vs,os,ls,c):=by simp only [Eu,p2]
  have q4:leN (I.length + [L].length) 9223372036854775807=true:=bK (by simp only [j8,j9];omega)
  have q5:leN ((I.length + [L].length) * 24) 140737488355328=true:=bK (by simp only [j8,j9];omega)
  obtain⟨J,a2,s2,g1,g2⟩:=anf nm g ins vs os ls c hc hb hn n (k + 1) (I++ [L]) a' s' (by omega) (by rw [j6,z9];omega) (fun x hx=>by
   rcases j7.1 hx with h | h
   ·exact hA x h
   ·rw [v7.1 h];exact h2) h3
  refine⟨J,a2,s2,?_,g2⟩
  rw [py (y:=(((k + 1:Nat):Int),nm,g,a',s',I++ [L],ins,vs,os,ls,c)) _ (by
   simp only [jS,Lr,LT.out,MJ,Tx,Ty,Tz,TA,TB,TC,TD,Ev,Lk,a1,p1,q0,q3,q4,q5,allT,cond_true])]
  exact g1
theorem aqy{nm:arp}{ins vs os:List arp}{g f t:arp}{ls:List LN}(h:prD nm ins vs os g ls=true)(ht:t.size≤1000):prD nm (ins.map (rnS f t)) (vs.map (rnS f t)) (os.map (rnS f t)) (rnS f t g) (ls.map (rnL f t))=true:=by
 obtain⟨h1,h2,h3,h4,h5,h6⟩:=FP.1 h
 have hs: ∀ s:arp,s.size≤1000→(rnS f t s).size≤1000:=fun s hs=>by
  simp only [rnS];cases s.toList==f.toList <;> assumption
 have hl: ∀ l:List arp,Mb 50 l=true→Mb 50 (l.map (rnS f t))=true:=fun l hl=>by
  obtain⟨a,b⟩:=lU.1 hl
  exact lU.2 ⟨by rw [List.length_map];exact a,fun s hs'=>by obtain⟨k,hk,rfl⟩:=List.mem_map.1 hs';exact hs k (b k hk)⟩
 refine FP.2 ⟨h1,hl _ h2,hl _ h3,hl _ h4,hs g h5,?_⟩
 obtain⟨a,b⟩:=GE.1 h6
 refine GE.2 ⟨by rw [List.length_map];exact a,fun x hx=> ?_⟩
 obtain⟨l,hl',rfl⟩:=List.mem_map.1 hx
 obtain⟨c1,c2⟩:=b l hl'
 obtain⟨d1,d2⟩:=Dv.1 c2
 exact⟨hs _ c1,Dv.2 ⟨by show (l.2.map (rnT f t)).length≤100;rw [List.length_map];exact d1,fun y hy=>by
  obtain⟨z,hz,rfl⟩:=List.mem_map.1 (show y∈l.2.map (rnT f t) from hy)
  exact hs _ (d2 z hz)⟩⟩
theorem aqx{nm:arp}{ins vs os:List arp}{g f t:arp}{ls:List LN}(h:rnC nm ins vs os g ls f t=0):
  kP nm ins vs os g ls=true∧kP nm (ins.map (rnS f t)) (vs.map (rnS f t)) (os.map (rnS f t)) (rnS f t g) (ls.map (rnL f t))=true∧rnC nm (ins.map (rnS f t)) (vs.map (rnS f t)) (os.map (rnS f t)) (rnS f t g) (ls.map (rnL f t)) t f=0∧rnS t f (rnS f t g)=g∧yw t f (yw f t ins)=ins∧yw t f (yw f t vs)=vs∧yw t f (yw f t os)=os∧(ls.map (rnL f t)).map (rnL t f)=ls∧
  (∀ l:amc,rgC nm (ins.map (rnS f t)) (vs.map (rnS f t)) (os.map (rnS f t)) (rnS f t g) (ls.map (rnL f t)) l=rgC nm ins vs os g ls l)∧(∀ l:amc,rgO nm (ins.map (rnS f t)) (vs.map (rnS f t)) (os.map (rnS f t)) (rnS f t g) (ls.map (rnL f t)) l=rgO nm ins vs os g ls l):=by
 rcases air nm ins vs os g ls f t with⟨_,_,h3⟩ | ⟨_,_,h3⟩ | ⟨_,_,_,h3⟩ | ⟨h1,h2,h3,_⟩
 ·rw [h]at h3;exact absurd h3 (by decide)
 ·rw [h]at h3;exact absurd h3 (by decide)
 ·rw [h]at h3;exact absurd h3 (by decide)
 ·have hS:kP nm ins vs os g ls=true:=by rw [XW]at h1;simpa using h1
  obtain⟨q1,_,q3⟩:=agH hS
  have htb:jP t=true:=by
   cases hb:jP t with
   |true=>rfl
   |false=>simp [ZL,hb]at h3
  have hfb:jP f=true:=by
   obtain⟨k,hk,he⟩:=List.mem_map.1 (IG.1 h2)
   have:=agJ he
   rw [← this];exact q1 k hk
  have htn:=ahj htb
  have hfn:=ahj hfb
  have hH:RnH (ins++vs++os) f t:=by
   refine⟨h2,?_,hfn⟩
   cases e:t.toList==f.toList with
   |true=>exact .inl (eq_of_beq e)
   |false=>right;simp only [ZL,htb,e,Bool.not_true,Bool.not_false,cond_true,cond_false]at h3;exact h3
  obtain⟨p,hg⟩:=ams hS
  have hX:=aph hS hH htb
  have hB:=ao8 hH htn
  have eN:(ins++vs++os).map (rnS f t)=ins.map (rnS f t)++vs.map (rnS f t)++os.map (rnS f t):=by rw [List.map_append,List.map_append]
  rw [eN]at hB
  have hC:rnC nm (ins.map (rnS f t)) (vs.map (rnS f t)) (os.map (rnS f t)) (rnS f t g) (ls.map (rnL f t)) t f=0:=by
   have z1:(sdC nm (ins.map (rnS f t)) (vs.map (rnS f t)) (os.map (rnS f t)) (rnS f t g) (ls.map (rnL f t))!=0)=false:=by rw [XW,hX];rfl
   have z2:ZL (ins.map (rnS f t)++vs.map (rnS f t)++os.map (rnS f t)) t f=false:=by
    simp only [ZL,hfb,Bool.not_true,cond_false]
    cases e:f.toList==t.toList with
    |true=>rfl
    |false=>
     rcases hB.ht with e2 | e2
     ·rw [e2]at e;simp at e
     ·exact e2
   simp only [rnC,z1,hB.hf,z2];rfl
  have hgb:rnS t f (rnS f t g)=g:=by
   rcases hg with e | e
   ·exact alb hH htn (eq_of_beq e)
   ·exact ahm hH e
  refine⟨hS,hX,hC,hgb,aeW hH ins p.hi,aeW hH vs p.hv,aeW hH os p.ho,apD hH htn p,fun l=> ?_,fun l=> ?_⟩
  ·simp only [rgC,hS,hX,List.length_map]
  ·have hbl:=aqh hS hH
   have hr:rgC nm (ins.map (rnS f t)) (vs.map (rnS f t)) (os.map (rnS f t)) (rnS f t g) (ls.map (rnL f t)) l=rgC nm ins vs os g ls l:=by simp only [rgC,hS,hX,List.length_map]
   simp only [rgO,hr,hbl,zv,List.length_map]
   rw [ape hH p htn hg]
theorem ak2(c:aro)(w:wfD (.sl 5 (.int .u8)) c):Gz c=true∧GA c=true:=by
 have hb: ∀ (i:Nat) (x:Int),c[i]? =some x→0≤x∧x≤255:=fun i x hx=>aqa (w.2 x (List.mem_of_getElem? hx))
 have hbc: ∀ x∈c,0≤x∧x≤255:=fun x hx=>aqa (w.2 x hx)
 cases hbig:fV c with
 |true=>simp [Gz,GA,allT,hbig,Cu,Cv,Cw]
 |false=>
  obtain⟨hsrc,nN⟩:=aqB hb hbig
  have hl4:leN c.length 4096=true:=bK nN
  obtain⟨_,d1,d2,d3⟩:=akG c hsrc
  obtain⟨_,e1⟩:=akH c hsrc
  have r0:=Eq.refl (Gz c)
  have r1:=Eq.refl (GA c)
  have r11:=Eq.refl (Ct c)
  have r12:=Eq.refl (qb c)
  conv at r0=>rhs;simp only [Gz,ac,Kk,lw,cF,na,nb,nc,nf,gR,Kl,HL,HM,HN,HO,Cu,Cv,Cw,S0z,allT,hbig]
  conv at r1=>rhs;simp only [GA,ac,Kk,lw,cF,na,nb,nc,nf,gR,Kl,HL,HM,HN,HO,Cu,Cv,Cw,S0z,allT,hbig,hsrc,hl4]
  conv at r11=>rhs;simp only [Ct]
  conv at r12=>rhs;simp only [qb]
  rw [r0,r1]
  clear r0 r1
  generalize hI12:qb c=I at *
  generalize hI11:Ct c=X at *
  generalize u0:bk c=nm at *
  generalize u1:bv c=g at *
  generalize u2:ag c=f at *
  generalize u3:af c=t at *
  generalize u4:dg c=ins at *
  generalize u5:dh c=vs at *
  generalize u6:di c=os at *
  generalize u7:dj c=ls at *
  generalize u8:qo c=nm1 at *
  generalize u9:qp c=g1 at *
  generalize u10:qq c=ins1 at *
  generalize u11:qr c=vs1 at *
  generalize u12:qs c=os1 at *
  generalize u13:qt c=ls1 at *
  have pk:=amr d1
  have pk1:=amr e1
  obtain⟨a1,a2,a3,a4,a5,a6⟩:=FP.1 d1
  obtain⟨_,b2,b3,_,_,_⟩:=FP.1 e1
  have i1:=(lU.1 a2).1
  have i2:=(lU.1 a3).1
  have i3:=(lU.1 a4).1
  have j1:=(lU.1 b2).1
  have j2:=(lU.1 b3).1
  obtain⟨k1,k2⟩:=GE.1 a6
  have n0:rnN nm ins vs os g ls t=true:=by simp only [rnN,pk,Bool.true_and];exact bK (by omega)
  have lenS: ∀ (x:Int) (l:List arp),l.length≤50→(CJ x f t l).length≤1048576:=fun x l hl=>by
   simp only [CJ,yw];cases x==0 <;> simp <;> omega
  have lenL: ∀ x:Int,(Vx x f t ls).length≤1048576∧ ∀ y∈Vx x f t ls,y.2.length≤1048576:=fun x=>by
   simp only [Vx]
   cases x==0 with
   |false=>exact⟨by simp,fun y hy=>(List.not_mem_nil hy).elim⟩
   |true=>
    simp only [cond_true]
    refine⟨by rw [List.length_map];omega,fun y hy=> ?_⟩
    obtain⟨l,hl,rfl⟩:=List.mem_map.1 hy
    have:=(Dv.1 (k2 l hl).2).1
    show (l.2.map (rnT f t)).length≤1048576
    rw [List.length_map];omega
  obtain⟨e,j⟩:=ak8 (Fm (rnC nm ins vs os g ls f t) nm) (Fm (rnC nm ins vs os g ls f t) (rnS f t g)) (CJ (rnC nm ins vs os g ls f t) f t ins) (CJ (rnC nm ins vs os g ls f t) f t vs) (CJ (rnC nm ins vs os g ls f t) f t os) (Vx (rnC nm ins vs os g ls f t) f t ls) (lenS _ _ i1) (lenS _ _ i2) (lenS _ _ i3) (lenL _).1 (lenL _).2
  have Tv:(unO nm1 ins1 vs1 os1 g1 ls1).length≤1048576:=by
   simp only [unO,unL]
   cases sdC nm1 ins1 vs1 os1 g1 ls1==0 with
   |false=>simp
   |true=>
    simp only [cond_true]
    have:=List.length_filter_le (unK g1 ls1) (ins1++vs1)
    rw [j6]at this;omega
  obtain⟨z0,z1⟩:=ab1 (unO nm1 ins1 vs1 os1 g1 ls1) Tv
  cases hz:rnC nm ins vs os g ls f t !=0 with
  |true=>refine⟨?_,?_⟩ <;> simp only [hz,n0,e,j,z0,z1,pk1,S0z,allT]
  |false=>
   have hz0:rnC nm ins vs os g ls f t=0:=by simpa using hz
   obtain⟨hS,hX,hC,hgb,m1,m2,m3,m4,hrC,hrO⟩:=aqx hz0
   have hpx:=aqy (f:=f) d1 d3
   have pkx:=amr hpx
   have n1:rnN nm (ins.map (rnS f t)) (vs.map (rnS f t)) (os.map (rnS f t)) (rnS f t g) (ls.map (rnL f t)) f=true:=by simp only [rnN,pkx,Bool.true_and];exact bK (by omega)
   obtain⟨_,_,_,_,_,s1,s2,s3⟩:=Ea hS
   obtain⟨J,a',s',g1',g2,g3⟩:=anf nm g ins vs os ls c nN hbc s1 6 0 [] 0 (rlS 1401 c) (by omega) rfl (fun x hx=>(List.not_mem_nil hx).elim) (by omega)
   obtain⟨p1,p2⟩:=jS.run g1' (Fg (by simp only [jS];omega))
   have pf:jS.fin X=true:=by rw [r11];exact p1
   have pr:I=J:=by
    rw [r12,show X=_ from r11]
    have:=congrArg (fun q=>q.2.2.2.2.2.2.1) p2
    exact this
   rw [pr]
   have hbits:J.all (fun x=>bitsB ins.length x)=true:=List.all_eq_true.2 g3
   have h200:ltI 200 (J.length:Int)=false:=CE (by omega)
   have hg0:rgC nm ins vs os g ls J=0:=by simp only [rgC,hS,h200,hbits];rfl
   have hss:apV 9223372036854775807 J=true:=api.2 ⟨by omega,fun x hx=>by have:=(lc.1 (g3 x hx)).2;omega⟩
   have n2:rgN nm ins vs os g ls J=true:=by simp only [rgN,pk,hss,Bool.and_self]
   have n3:rgN nm (ins.map (rnS f t)) (vs.map (rnS f t)) (os.map (rnS f t)) (rnS f t g) (ls.map (rnL f t)) J=true:=by simp only [rgN,pkx,hss,Bool.and_self]
   obtain⟨⟨_,l2,l3⟩,_⟩:=ao7 nm ins vs os g ls J
   obtain⟨w0,w1⟩:=anS (rgO nm ins vs os g ls J) (by omega) (fun a ha=>by have:=l3 a ha;omega)
   obtain⟨b,d⟩:=ak8 nm g ins vs os ls (by omega) (by omega) (by omega) (by omega) (fun l hl=>by have:=(Dv.1 (k2 l hl).2).1;omega)
   have cI: ∀ l,CJ 0 f t l=l.map (rnS f t):=fun l=>rfl
   have cL:Vx 0 f t ls=ls.map (rnL f t):=rfl
   have cB: ∀ s,Fm 0 s=s:=fun s=>rfl
   have cI2: ∀ l,CJ 0 t f l=yw t f l:=fun l=>rfl
   have cL2: ∀ l,Vx 0 t f l=l.map (rnL t f):=fun l=>rfl
   have m1':yw t f (ins.map (rnS f t))=ins:=m1
   have m2':yw t f (vs.map (rnS f t))=vs:=m2
   have m3':yw t f (os.map (rnS f t))=os:=m3
   rw [hz0]at e j
   simp only [cI,cL,cB]at e j
   refine⟨?_,?_⟩ <;> simp only [hz0,cI,cL,cB,hC,cI2,cL2,m1',m2',m3',m4,hgb,hX,hrC,hrO,hg0,n0,n1,n2,n3,e,j,z0,z1,w0,w1,b,d,pf,pk1,pkx,S0z,allT]
end Go.SX
