/- What functions of the program come to, and what that says in plain words: part 3. -/
import Derived.Test.YtbiaajlhigmdhaaGreatDoorMb
import Derived.Test.YtbiaajlhigmdhaaGreatDoorTXh
import Derived.Test.YtbiaajlhigmdhaaGreatDoorProg
set_option linter.unusedSimpArgs false
set_option linter.unusedVariables false
open Bool renaming and_eq_true → q8
open Int renaming toNat_natCast → q9
open List renaming length_singleton → w5
open List renaming length_append → j6
open List renaming length_take → j7
open List renaming mem_append → j8
open List renaming length_cons → j9
open List renaming length_nil → k7
open Bool renaming or_true → k8
open List renaming length_replicate → k9
open List renaming getElem?_eq_some_iff → v5
open Int renaming toNat → v6
open List renaming length → v7
open Option renaming getD → v8
open Go.IntKind renaming wrap → v9
open List renaming replicate → qqq
open List renaming eq_of_mem_replicate → qqw
open List renaming mem_singleton → qqz
namespace Go.SX
open Go.Proofs Go.Proofs.Tryz
set_option maxRecDepth 100000
section
variable (a:List avP)(b:afZ)
def abD:avO:=qqq (v6 (↑a.length:Int)) (0:Int)
def abE:asY:=qqq (v6 (↑(v7 (blL b)):Int)) ((0:Int),(0:Int),(0:Int))
def VR:Bool:=allT [leI 0 (↑a.length:Int),leI (↑a.length:Int) (↑a.length:Int),leI ((↑(8:Nat):Int) * (↑a.length:Int)) 281474976710656,leI (↑a.length:Int) 9223372036854775807,Xc b,leI 0 (↑(v7 (blL b)):Int),leI (↑(v7 (blL b)):Int) (↑(v7 (blL b)):Int),leI ((↑(24:Nat):Int) * (↑(v7 (blL b)):Int)) 281474976710656,leI (↑(v7 (blL b)):Int) 9223372036854775807]
end
def ahw:awh
 | [.one ⟨true,[.val (.string _x0),.ref 0,.ref 1,.ref 2,.val (.string _x1),.ref 3]⟩],[.row false 9 (.str) a,.row false 9 (.str) b,.row false 9 (.str) c,.row false 142 (.pair (.str) (.sl 122 (.pair (.int .i64) (.pair (.str) (.int .i64))))) d]=>some ⟨.one ⟨true,[.ref 4,.ref 5]⟩,[aBD a,aBD b,aBD c,aBH d],[aBE (abD b),aBK (abE d)],[VR b d]⟩
 |_,_=>none
def AL:PF prog:=PF.ofG prog (T3z [xW]) [] aT 101 f101 func101 (fun c _=>LOk.nil c) ahw (by
 intro _ _ _ h;unfold ahw at h;split at h<;>cases h;kernel_rfl)
abbrev uT:=Int×List (List Int)×avP×avP×List avP×List avP×List avP×List (avP×(List (Int×(avP×Int))))×List Int×List (Int×(Int×Int))
section
variable (a:Int)(b:aup)(c:List avP)
def Ad:avO:=v8 b[v6 a]? (xS agV)
def Id:Bool:=ltI a (↑b.length:Int)
def NS:Bool:=leI 0 a
def NT:Bool:=ltN a.toNat b.length
def NU:Bool:=leN (v7 (Ad a b)) 9223372036854775807
def NV:Bool:= !bitsB (↑c.length:Int) (Ad a b)
def NW:Int:=v9 .i64 (a + (1:Int))
end
def anB:uT→List (Nat×SV)
 |(a,_,_,_,_,_,_,_,_,_)=> [(7,(aBC a)),(1,(aBB (.ref 0))),(2,(aBB (.ptr 1 0))),(5,(aBB (.ptr 2 0)))]
def anx:uT→List (Nat×Entry)
 |(_,a,b,c,d,e,f,g,i,j)=> [(0,(aBT a)),(1,(.box 43 [.val (.string b),.ref 3,.ref 4,.ref 5,.val (.string c),.ref 6])),(2,(.box 50 [.ref 7,.ref 8])),(3,(aBD d)),(4,(aBD e)),(5,(aBD f)),(6,(aBI g)),(7,(aBE i)),(8,(aBK j))]
def anH:Nat→uT→List (Nat×SV)
 |0,(_,_,_,_,_,_,_,_,_,_)=> [(4,(aBB (.ref 9))),(6,(aBC 2))]
 |_,_=>[]
def anE:Nat→uT→List (Nat×Entry)
 |0,(_,a,b,c,d,e,f,g,i,j)=> [(0,(aBT a)),(1,(.box 43 [.val (.string b),.ref 3,.ref 4,.ref 5,.val (.string c),.ref 6])),(2,(.box 50 [.ref 10,.ref 11])),(3,(aBD d)),(4,(aBD e)),(5,(aBD f)),(6,(aBI g)),(7,(aBE i)),(8,(aBK j)),(9,(aBQ [])),(10,(aBE [])),(11,(aBK []))]
 |_,(_,a,b,c,d,e,f,g,i,j)=> [(0,(aBT a)),(1,(.box 43 [.val (.string b),.ref 3,.ref 4,.ref 5,.val (.string c),.ref 6])),(2,(.box 50 [.ref 7,.ref 8])),(3,(aBD d)),(4,(aBD e)),(5,(aBD f)),(6,(aBI g)),(7,(aBE i)),(8,(aBK j))]
def KN:uT→LT uT
 |(a,b,c,d,e,f,g,i,j,k)=> .ite (Id a b) (.need [NS a,Id a b,NT a b,NU a b] (.ite (NV a b e) (.ext 0 [(0,0),(1,1),(2,2),(3,3),(4,4),(5,5),(6,6),(7,7),(8,8),(9,960),(10,896),(11,897)]) (.nrm ((NW a),b,c,d,e,f,g,i,j,k) [(0,0),(1,1),(2,2),(3,3),(4,4),(5,5),(6,6),(7,7),(8,8)]))) (.ext 1 [(0,0),(1,1),(2,2),(3,3),(4,4),(5,5),(6,6),(7,7),(8,8)])
def Yj(s:St):Option uT:=do
 let some ⟨none,.one ⟨false,[.val (.int .i64 a)]⟩⟩:=s.look 7|none
 let some ⟨none,.one ⟨false,[.ref 4]⟩⟩:=s.look 1|none
 let some ⟨none,.one ⟨false,[.ptr 384 0]⟩⟩:=s.look 2|none
 let some ⟨none,.one ⟨false,[.ptr 512 0]⟩⟩:=s.look 5|none
 let some (.row false 28 (.sl 2 (.int .i64)) b):=s.ent 4|none
 let some (.box 43 [.val (.string c),.ref 0,.ref 1,.ref 2,.val (.string d),.ref 3]):=s.ent 384|none
 let some (.box 50 [.ref 513,.ref 514]):=s.ent 512|none
 let some (.row false 9 (.str) e):=s.ent 0|none
 let some (.row false 9 (.str) f):=s.ent 1|none
 let some (.row false 9 (.str) g):=s.ent 2|none
 let some (.row false 142 (.pair .str (.sl 122 (.pair (.int .i64) (.pair .str (.int .i64))))) i):=s.ent 3|none
 let some (.row true 2 (.int .i64) j):=s.ent 513|none
 let some (.row true 109 (.pair (.int .i64) (.pair (.int .i64) (.int .i64))) k):=s.ent 514|none
 some (a,b,c,d,e,f,g,i,j,k)
def kX:Lp uT where
 h:=⟨[21,22,23,24,27,28,29,30,31,32,33,34,35,36,4,6,25,26,7],[0,1,2,3,4,5,6,7,8],[],[9,10,11]⟩
 JL:=anB
 JE:=anx
 XL:=anH
 XE:=anE
 q:=fun j=>match j with | 0=> .ret | _=> .exit 0
 tags:= [0,1]
 lt:=KN
 fuel:=fun(a,b,c,d,e,f,g,i,k,l)=>a.natAbs + b.length + c.size + d.size + e.length + f.length + g.length + i.length + k.length + l.length
 fix:=fun(_,b,c,d,e,f,g,i,k,l) (a,_,_,_,_,_,_,_,_,_)=>(a,b,c,d,e,f,g,i,k,l)
 σ:= [(0,4),(1,384),(2,512),(3,0),(4,1),(5,2),(6,3),(7,513),(8,514)]
 rd:=Yj
theorem akZ:LoopOk prog (fun k=>Nat.blt k Tryz.f55.ntmps) kX.F (bj f55 0):=by
 refine Lp.ok (tbl:= (T3z [CE,uC,AL,oU])) (lf:= []) aT kX (by kernel_rfl) (LOk.nil _) (fun _=>rfl) (fun j _=>by unfold kX;match j with | 0=>rfl | _ + 1=>rfl) ?_ ?_ ?_ ?_ (fun _=>rfl) ?_
 ·intro _;kernel_rfl
 ·intro _;kernel_rfl
 ·intro s x h
  have h:Yj s=some x:=h
  unfold Yj at h
  repeat' split at h
  all_goals cases h
  constructor<;>repeat(first|refine ab ‹_› rfl ?_|refine aa rfl ‹_› rfl ?_|rfl)
 ·intro _;kernel_rfl
 ·intro _ _;exact(And.intro (And.intro trivial rfl) trivial)
abbrev uU:=Int×List (List Int)×avP×avP×List (List Int)×List avP×List avP×List avP×List (avP×(List (Int×(avP×Int))))×List Int×List (Int×(Int×Int))
section
variable (a:Int)(b:aup)(c d:avP)(e:aup)(f g i:List avP)(j:afa)(k:avO)(l:asY)
def tB:avO:=v8 b[v6 a]? (xS agV)
def Dc:aup:= [scO f g i d j (tB a b) k l]
def Ie:Bool:=ltI a (↑b.length:Int)
def NX:Bool:=leI 0 a
def NY:Bool:=ltN a.toNat b.length
def NZ:Bool:=scG c f g i d j k l (tB a b)
def Oa:Bool:=leN (v7 e + v7 (Dc a b d f g i j k l)) 9223372036854775807
def Ob:Bool:=leN ((v7 e + v7 (Dc a b d f g i j k l)) * 24) 140737488355328
def Oc:Int:=v9 .i64 (a + (1:Int))
def Od:aup:=e++Dc a b d f g i j k l
def Oe:avO:=scV f g i j (tB a b) k l
def Of:asY:=scB f g i j (tB a b) k l
end
def anC:uU→List (Nat×SV)
 |(a,_,_,_,_,_,_,_,_,_,_)=> [(10,(aBC a)),(1,(aBB (.ref 0))),(2,(aBB (.ptr 1 0))),(9,(aBB (.ptr 2 0))),(8,(aBB (.ref 3)))]
def anz:uU→List (Nat×Entry)
 |(_,a,b,c,d,e,f,g,i,j,k)=> [(0,(aBT a)),(1,(.box 43 [.val (.string b),.ref 4,.ref 5,.ref 6,.val (.string c),.ref 7])),(2,(.box 50 [.ref 8,.ref 9])),(4,(aBD e)),(5,(aBD f)),(6,(aBD g)),(7,(aBI i)),(3,(aBQ d)),(8,(aBE j)),(9,(aBK k))]
def anI:Nat→uU→List (Nat×SV)
 |_,(_,_,_,_,_,_,_,_,_,_,_)=> [(8,(aBB (.ref 3)))]
def anF:Nat→uU→List (Nat×Entry)
 |_,(_,a,b,c,d,e,f,g,i,j,k)=> [(0,(aBT a)),(1,(.box 43 [.val (.string b),.ref 4,.ref 5,.ref 6,.val (.string c),.ref 7])),(2,(.box 50 [.ref 8,.ref 9])),(3,(aBQ d)),(4,(aBD e)),(5,(aBD f)),(6,(aBD g)),(7,(aBI i)),(8,(aBE j)),(9,(aBK k))]
def KO:uU→LT uU
 |(a,b,c,d,e,f,g,i,j,k,l)=> .ite (Ie a b) (.need [NX a,Ie a b,NY a b,NZ a b c d f g i j k l] (.need [Oa a b d e f g i j k l,Ob a b d e f g i j k l] (.nrm ((Oc a),b,c,d,Od a b d e f g i j k l,f,g,i,j,Oe a b f g i j k l,(Of a b f g i j k l)) [(0,0),(1,1),(2,2),(3,1344),(4,4),(5,5),(6,6),(7,7),(8,705),(9,706)]))) (.ext 0 [(0,0),(1,1),(2,2),(3,3),(4,4),(5,5),(6,6),(7,7),(8,8),(9,9)])
def Yk(s:St):Option uU:=do
 let some ⟨none,.one ⟨false,[.val (.int .i64 a)]⟩⟩:=s.look 10|none
 let some ⟨none,.one ⟨false,[.ref 4]⟩⟩:=s.look 1|none
 let some ⟨none,.one ⟨false,[.ptr 384 0]⟩⟩:=s.look 2|none
 let some ⟨none,.one ⟨false,[.ptr 1408 0]⟩⟩:=s.look 9|none
 let some ⟨none,.one ⟨false,[.ref 1152]⟩⟩:=s.look 8|none
 let some (.row false 28 (.sl 2 (.int .i64)) b):=s.ent 4|none
 let some (.box 43 [.val (.string c),.ref 0,.ref 1,.ref 2,.val (.string d),.ref 3]):=s.ent 384|none
 let some (.box 50 [.ref 1344,.ref 1345]):=s.ent 1408|none
 let some (.row false 9 (.str) f):=s.ent 0|none
 let some (.row false 9 (.str) g):=s.ent 1|none
 let some (.row false 9 (.str) i):=s.ent 2|none
 let some (.row false 142 (.pair .str (.sl 122 (.pair (.int .i64) (.pair .str (.int .i64))))) j):=s.ent 3|none
 let some (.row true 28 (.sl 2 (.int .i64)) e):=s.ent 1152|none
 let some (.row true 2 (.int .i64) k):=s.ent 1344|none
 let some (.row true 109 (.pair (.int .i64) (.pair (.int .i64) (.int .i64))) l):=s.ent 1345|none
 some (a,b,c,d,e,f,g,i,j,k,l)
def mA:Lp uU where
 h:=⟨[40,41,42,43,47,48,49,50,51,52,53,46,54,55,12,11,56,57,58,59,8,60,44,45,10],[0,1,2,4,5,6,7],[3,8,9],[]⟩
 JL:=anC
 JE:=anz
 XL:=anI
 XE:=anF
 q:=fun j=>match j with | _=> .exit 2
 tags:= [0]
 lt:=KO
 fuel:=fun(a,b,c,d,e,f,g,i,k,l,m)=>a.natAbs + b.length + c.size + d.size + e.length + f.length + g.length + i.length + k.length + l.length + m.length
 fix:=fun(_,b,c,d,_,f,g,i,k,_,_) (a,_,_,_,e,_,_,_,_,l,m)=>(a,b,c,d,e,f,g,i,k,l,m)
 σ:= [(0,4),(1,384),(2,1408),(4,0),(5,1),(6,2),(7,3),(3,1152),(8,1344),(9,1345)]
 rd:=Yk
theorem ak0:LoopOk prog (fun k=>Nat.blt k Tryz.f55.ntmps) mA.F (bj f55 1):=by
 refine Lp.ok (tbl:= (T3z [CE,uC,AL,oU])) (lf:= []) aT mA (by kernel_rfl) (LOk.nil _) (fun _=>rfl) (fun _ _=>rfl) ?_ ?_ ?_ ?_ (fun _=>rfl) ?_
 ·intro _;kernel_rfl
 ·intro _;kernel_rfl
 ·intro s x h
  have h:Yk s=some x:=h
  unfold Yk at h
  repeat' split at h
  all_goals cases h
  constructor<;>repeat(first|refine ab ‹_› rfl ?_|refine aa rfl ‹_› rfl ?_|rfl)
 ·intro _;kernel_rfl
 ·intro _ _;exact(And.intro rfl trivial)
section
variable (a b:avP)(c d e:List avP)(f:afZ)(g:aup)
def Gd:Bool:=ltI 200 (↑g.length:Int)
def adJ:Int×aup×avP×avP×List avP×List avP×List avP×afZ×avO×asZ:=((0:Int),g,a,b,c,d,e,f,[],[])
def Ge:Bool:=Nat.beq ((Lp.res kX (adJ a b c d e f g)).1) 0
def YP:Int×aup×avP×avP×aup×List avP×List avP×List avP×afZ×avO×asZ:=((0:Int),g,a,b,[],c,d,e,f,abD d,abE f)
def adK:aup×List avP×List avP×List avP×afZ×avO×asZ:=(Lp.res mA (YP a b c d e f g)).2.2.2.2.2
def adL:avO×asZ:=(adK a b c d e f g).2.2.2.2.2
def Vz:Int:=bif !dS a c d e b f then(1:Int)else bif Gd g then(3:Int)else bif Ge a b c d e f g then(2:Int)else(0:Int)
def aaj:aup:=bif !dS a c d e b f then []else bif Gd g then []else bif Ge a b c d e f g then []else (adK a b c d e f g).1
def aak:avO:=bif !dS a c d e b f then []else bif Gd g then []else bif Ge a b c d e f g then []else (adL a b c d e f g).1
def aal:asY:=bif !dS a c d e b f then []else bif Gd g then []else bif Ge a b c d e f g then []else (adL a b c d e f g).2
def VA:Bool:=allT [Uc a c d e b f,!dS a c d e b f||(Gd g||Lp.fin kX (adJ a b c d e f g)),!dS a c d e b f||(Gd g||(Ge a b c d e f g||VR d f)),!dS a c d e b f||(Gd g||(Ge a b c d e f g||Lp.fin mA (YP a b c d e f g)))]
end
def alj:awh
 | [.one ⟨true,[.val (.string a),.ref 0,.ref 1,.ref 2,.val (.string b),.ref 3]⟩,.one ⟨false,[.ref 4]⟩],[.row false 9 (.str) c,.row false 9 (.str) d,.row false 9 (.str) e,.row false 142 (.pair (.str) (.sl 122 (.pair (.int .i64) (.pair (.str) (.int .i64))))) f,.row false 28 (.sl 2 (.int .i64)) g]=>some ⟨.tup [⟨false,[.ref 5]⟩,⟨true,[.ref 6,.ref 7]⟩,⟨false,[axb (Vz a b c d e f g)]⟩],[aBD c,aBD d,aBD e,aBH f,aBP g],[aBQ (aaj a b c d e f g),aBE (aak a b c d e f g),aBK (aal a b c d e f g)],[VA a b c d e f g]⟩
 |_,_=>none
def Qv:PF prog:=PF.ofG prog (T3z [CE,uC,AL,oU]) [kX.F,mA.F] aT 55 f55 func55 (LOk.fnT (l:= [bj f55 0,bj f55 1]) (by kernel_rfl) (.cons akZ (.cons ak0 (.nil _)))) alj (by
 intro _ _ _ h;unfold alj at h;split at h<;>cases h;kernel_rfl)
section
variable (a b:avP)(c d e:List avP)(f:afZ)(g:aup)
def adh:Int:=Vz a b c d e f g
def adi:avO:=aak a b c d e f g
def adj:asY:=aal a b c d e f g
def Wx:Bool:=allT [VA a b c d e f g]
end
def acp:awh
 | [.one ⟨true,[.val (.string a),.ref 0,.ref 1,.ref 2,.val (.string b),.ref 3]⟩,.one ⟨false,[.ref 4]⟩],[.row false 9 (.str) c,.row false 9 (.str) d,.row false 9 (.str) e,.row false 142 (.pair (.str) (.sl 122 (.pair (.int .i64) (.pair (.str) (.int .i64))))) f,.row false 28 (.sl 2 (.int .i64)) g]=>some ⟨.tup [⟨true,[.ref 5,.ref 6]⟩,⟨false,[axb (adh a b c d e f g)]⟩],[aBD c,aBD d,aBD e,aBH f,aBP g],[aBE (adi a b c d e f g),aBK (adj a b c d e f g)],[Wx a b c d e f g]⟩
 |_,_=>none
def amC:PF prog:=PF.ofG prog (T3z [Qv]) [] aT 20 f20 func20 (fun c _=>LOk.nil c) acp (by
 intro _ _ _ h;unfold acp at h;split at h<;>cases h;kernel_rfl)
section
variable (a b:avP)(c d e:List avP)(f:afZ)(g:aup)
def ahN:Int:=Vz a b c d e f g
def ahO:aup:=aaj a b c d e f g
def abt:Bool:=allT [VA a b c d e f g]
end
def aho:awh
 | [.one ⟨true,[.val (.string a),.ref 0,.ref 1,.ref 2,.val (.string b),.ref 3]⟩,.one ⟨false,[.ref 4]⟩],[.row false 9 (.str) c,.row false 9 (.str) d,.row false 9 (.str) e,.row false 142 (.pair (.str) (.sl 122 (.pair (.int .i64) (.pair (.str) (.int .i64))))) f,.row false 28 (.sl 2 (.int .i64)) g]=>some ⟨.tup [⟨false,[.ref 5]⟩,⟨false,[axb (ahN a b c d e f g)]⟩],[aBD c,aBD d,aBD e,aBH f,aBP g],[aBQ (ahO a b c d e f g)],[abt a b c d e f g]⟩
 |_,_=>none
def aqr:PF prog:=PF.ofG prog (T3z [Qv]) [] aT 18 f18 func18 (fun c _=>LOk.nil c) aho (by
 intro _ _ _ h;unfold aho at h;split at h<;>cases h;kernel_rfl)
section
variable (a b:Int)
def Ph:avO:=qqq a.toNat (0:Int)
def Pj:asY:=qqq b.toNat ((0:Int),(0:Int),(0:Int))
def Pk:Bool:=allT [leI 0 a,leI a a,leI ((↑(8:Nat):Int) * a) 281474976710656,leI a 9223372036854775807,leI 0 b,leI b b,leI ((↑(24:Nat):Int) * b) 281474976710656,leI b 9223372036854775807]
end
def XF:awh
 | [.one ⟨false,[.val (.int .i64 a)]⟩,.one ⟨false,[.val (.int .i64 b)]⟩],[]=>some ⟨.one ⟨true,[.ref 0,.ref 1]⟩,[],[aBE (Ph a),aBK (Pj b)],[Pk a b]⟩
 |_,_=>none
def ag8:PF prog:=PF.ofG prog [] [] aT 66 f66 func66 (fun c _=>LOk.nil c) XF (by
 intro _ _ _ h;unfold XF at h;split at h<;>cases h;kernel_rfl)
section
variable (a:List avP)(b:afZ)
def dE:avO:=Ph (↑a.length:Int)
def eL:asY:=Pj (↑(v7 (blL b)):Int)
def ly:Bool:=allT [Xc b,Pk (↑a.length:Int) (↑(v7 (blL b)):Int)]
end
def Aw:awh
 | [.one ⟨true,[.val (.string _x0),.ref 0,.ref 1,.ref 2,.val (.string _x1),.ref 3]⟩],[.row false 9 (.str) a,.row false 9 (.str) b,.row false 9 (.str) c,.row false 142 (.pair (.str) (.sl 122 (.pair (.int .i64) (.pair (.str) (.int .i64))))) d]=>some ⟨.one ⟨true,[.ref 4,.ref 5]⟩,[aBD a,aBD b,aBD c,aBH d],[aBE (dE b),aBK (eL d)],[ly b d]⟩
 |_,_=>none
def eO:PF prog:=PF.ofG prog (T3z [aB,ag8]) [] aT 99 f99 func99 (fun c _=>LOk.nil c) Aw (by
 intro _ _ _ h;unfold Aw at h;split at h<;>cases h;kernel_rfl)
abbrev rA:=Int×Int×List (List Int)×avP×avP×List (List Int)×List avP×List avP×List avP×List (avP×(List (Int×(avP×Int))))×List Int×List (Int×(Int×Int))
section
variable (a b:Int)(c:aup)(d e:avP)(f:aup)(g i j:List avP)(k:afa)(l:avO)(m:asY)
def qk:avO:=v8 c[v6 a]? (xS agV)
def zs:aup:= [scO g i j e k (qk a c) l m]
def IA:Bool:=ltI a b
def IB:Bool:=leI 0 a
def IC:Bool:=ltI a (↑c.length:Int)
def ID:Bool:=ltN a.toNat c.length
def IE:Bool:=scG d g i j e k l m (qk a c)
def IF:Bool:=leN (v7 f + v7 (zs a c e g i j k l m)) 9223372036854775807
def IG:Bool:=leN ((v7 f + v7 (zs a c e g i j k l m)) * 24) 140737488355328
def IH:Int:=v9 .i64 (a + (1:Int))
def II:aup:=f++zs a c e g i j k l m
def IJ:avO:=scV g i j k (qk a c) l m
def GS:asY:=scB g i j k (qk a c) l m
end
def aky:rA→List (Nat×SV)
 |(a,b,_,_,_,_,_,_,_,_,_,_)=> [(36,(aBC a)),(35,(aBC b)),(34,(aBB (.ref 0))),(2,(aBB (.ptr 1 0))),(7,(aBB (.ptr 2 0))),(9,(aBB (.ref 3)))]
def akp:rA→List (Nat×Entry)
 |(_,_,a,b,c,d,e,f,g,i,j,k)=> [(0,(aBT a)),(1,(.box 43 [.val (.string b),.ref 4,.ref 5,.ref 6,.val (.string c),.ref 7])),(2,(.box 50 [.ref 8,.ref 9])),(4,(aBD e)),(5,(aBD f)),(6,(aBD g)),(7,(aBI i)),(3,(.tree 28 agV d none)),(8,(aBE j)),(9,(aBK k))]
def akQ:Nat→rA→List (Nat×SV)
 |_,(_,_,_,_,_,_,_,_,_,_,_,_)=> [(9,(aBB (.ref 3)))]
def akH:Nat→rA→List (Nat×Entry)
 |_,(_,_,a,b,c,d,e,f,g,i,j,k)=> [(0,(aBT a)),(1,(.box 43 [.val (.string b),.ref 4,.ref 5,.ref 6,.val (.string c),.ref 7])),(2,(.box 50 [.ref 8,.ref 9])),(3,(.tree 28 agV d none)),(4,(aBD e)),(5,(aBD f)),(6,(aBD g)),(7,(aBI i)),(8,(aBE j)),(9,(aBK k))]
def GY:rA→LT rA
 |(a,b,c,d,e,f,g,i,j,k,l,m)=> .ite (IA a b) (.need [IB a,IC a c,ID a c] (.need [IE a c d e g i j k l m] (.need [IF a c e f g i j k l m,IG a c e f g i j k l m] (.nrm ((IH a),b,c,d,e,II a c e f g i j k l m,g,i,j,k,IJ a c g i j k l m,(GS a c g i j k l m)) [(0,0),(1,1),(2,2),(3,1152),(4,4),(5,5),(6,6),(7,7),(8,513),(9,514)])))) (.ext 0 [(0,0),(1,1),(2,2),(3,3),(4,4),(5,5),(6,6),(7,7),(8,8),(9,9)])
def UV(s:St):Option rA:=do
 let some ⟨none,.one ⟨false,[.val (.int .i64 a)]⟩⟩:=s.look 36|none
 let some ⟨none,.one ⟨false,[.val (.int .i64 b)]⟩⟩:=s.look 35|none
 let some ⟨none,.one ⟨false,[.ref 4]⟩⟩:=s.look 34|none
 let some ⟨none,.one ⟨false,[.ptr 384 0]⟩⟩:=s.look 2|none
 let some ⟨none,.one ⟨false,[.ptr 1280 0]⟩⟩:=s.look 7|none
 let some ⟨none,.one ⟨false,[.ref 1856]⟩⟩:=s.look 9|none
 let some (.row false 28 (.sl 2 (.int .i64)) c):=s.ent 4|none
 let some (.box 43 [.val (.string d),.ref 0,.ref 1,.ref 2,.val (.string e),.ref 3]):=s.ent 384|none
 let some (.box 50 [.ref 1216,.ref 1217]):=s.ent 1280|none
 let some (.row false 9 (.str) g):=s.ent 0|none
 let some (.row false 9 (.str) i):=s.ent 1|none
 let some (.row false 9 (.str) j):=s.ent 2|none
 let some (.row false 142 (.pair .str (.sl 122 (.pair (.int .i64) (.pair .str (.int .i64))))) k):=s.ent 3|none
 let some (.tree 28 (.sl 2 (.int .i64)) f none):=s.ent 1856|none
 let some (.row true 2 (.int .i64) l):=s.ent 1216|none
 let some (.row true 109 (.pair (.int .i64) (.pair (.int .i64) (.int .i64))) m):=s.ent 1217|none
 some (a,b,c,d,e,f,g,i,j,k,l,m)
def jN:Lp rA where
 h:=⟨[37,38,39,11,41,42,43,44,40,45,46,13,12,47,48,49,50,9,51,52,36],[0,1,2,4,5,6,7],[3,8,9],[]⟩
 JL:=aky
 JE:=akp
 XL:=akQ
 XE:=akH
 q:=fun j=>match j with | _=> .exit 1
 tags:= [0]
 lt:=GY
 fuel:=fun(a,b,c,d,e,f,g,i,k,l,m,n)=>a.natAbs + b.natAbs + c.length + d.size + e.size + f.length + g.length + i.length + k.length + l.length + m.length + n.length
 fix:=fun(_,b,c,d,e,_,g,i,k,l,_,_) (a,_,_,_,_,f,_,_,_,_,m,n)=>(a,b,c,d,e,f,g,i,k,l,m,n)
 σ:= [(0,4),(1,384),(2,1280),(4,0),(5,1),(6,2),(7,3),(3,1856),(8,1216),(9,1217)]
 rd:=UV
theorem aio:LoopOk prog (fun k=>Nat.blt k Tryz.f54.ntmps) jN.F (bj f54 0):=by
 refine Lp.ok (tbl:= (PF.trees prog::T3z [AH,gW,kI,eO])) (lf:= []) aT jN (by kernel_rfl) (LOk.nil _) (fun _=>rfl) (fun _ _=>rfl) ?_ ?_ ?_ ?_ (fun _=>rfl) ?_
 ·intro _;kernel_rfl
 ·intro _;kernel_rfl
 ·intro s x h
  have h:UV s=some x:=h
  unfold UV at h
  repeat' split at h
  all_goals cases h
  constructor<;>repeat(first|refine ab ‹_› rfl ?_|refine aa rfl ‹_› rfl ?_|rfl)
 ·intro _;kernel_rfl
 ·intro _ _;exact(And.intro rfl trivial)
section
variable (a b:avP)(c d e:List avP)(f:afZ)(g:aup)
def Bu:Bool:=ltI 200 (↑g.length:Int)
def HW:Bool:=ak4 a c d e b f (dE d) (eL f) g !=0
def TU:Int×Int×aup×avP×avP×aup×List avP×List avP×List avP×afZ×avO×asZ:=((0:Int),(↑g.length:Int),g,a,b,[],c,d,e,f,dE d,eL f)
def ZG:aup×List avP×List avP×List avP×afZ×avO×asZ:=(Lp.res jN (TU a b c d e f g)).2.2.2.2.2.2
def ZH:avO×asZ:=(ZG a b c d e f g).2.2.2.2.2
def Qb:Int:=bif !dS a c d e b f then(1:Int)else bif Bu g then(3:Int)else bif HW a b c d e f g then ak4 a c d e b f (dE d) (eL f) g else(0:Int)
def VE:aup:=bif !dS a c d e b f then []else bif Bu g then []else bif HW a b c d e f g then []else (ZG a b c d e f g).1
def VF:avO:=bif !dS a c d e b f then []else bif Bu g then []else bif HW a b c d e f g then []else (ZH a b c d e f g).1
def VG:asY:=bif !dS a c d e b f then []else bif Bu g then []else bif HW a b c d e f g then []else (ZH a b c d e f g).2
def Qc:Bool:=allT [Uc a c d e b f,!dS a c d e b f||(Bu g||ly d f),!dS a c d e b f||(Bu g||cdG a c d e b f (dE d) g),!dS a c d e b f||(Bu g||(HW a b c d e f g||Lp.fin jN (TU a b c d e f g)))]
end
def ahk:awh
 | [.one ⟨true,[.val (.string a),.ref 0,.ref 1,.ref 2,.val (.string b),.ref 3]⟩,.one ⟨false,[.ref 4]⟩],[.row false 9 (.str) c,.row false 9 (.str) d,.row false 9 (.str) e,.row false 142 (.pair (.str) (.sl 122 (.pair (.int .i64) (.pair (.str) (.int .i64))))) f,.row false 28 (.sl 2 (.int .i64)) g]=>some ⟨.tup [⟨false,[.ref 5]⟩,⟨true,[.ref 6,.ref 7]⟩,⟨false,[axb (Qb a b c d e f g)]⟩],[aBD c,aBD d,aBD e,aBH f,aBP g],[.tree 28 agV (VE a b c d e f g) none,aBE (VF a b c d e f g),aBK (VG a b c d e f g)],[Qc a b c d e f g]⟩
 |_,_=>none
def Kr:PF prog:=PF.ofG prog (PF.trees prog::T3z [AH,gW,kI,eO]) [jN.F] aT 54 f54 func54 (LOk.fnT (l:= [bj f54 0]) (by kernel_rfl) (.cons aio (.nil _))) ahk (by
 intro _ _ _ h;unfold ahk at h;split at h<;>cases h;kernel_rfl)
section
variable (a b:avP)(c d e:List avP)(f:afZ)(g:aup)
def ahJ:Int:=Qb a b c d e f g
def ahK:aup:=VE a b c d e f g
def abc:Bool:=allT [Qc a b c d e f g]
end
def ahg:awh
 | [.one ⟨true,[.val (.string a),.ref 0,.ref 1,.ref 2,.val (.string b),.ref 3]⟩,.one ⟨false,[.ref 4]⟩],[.row false 9 (.str) c,.row false 9 (.str) d,.row false 9 (.str) e,.row false 142 (.pair (.str) (.sl 122 (.pair (.int .i64) (.pair (.str) (.int .i64))))) f,.row false 28 (.sl 2 (.int .i64)) g]=>some ⟨.tup [⟨false,[.ref 5]⟩,⟨false,[axb (ahJ a b c d e f g)]⟩],[aBD c,aBD d,aBD e,aBH f,aBP g],[.tree 28 agV (ahK a b c d e f g) none],[abc a b c d e f g]⟩
 |_,_=>none
def aqk:PF prog:=PF.ofG prog (PF.trees prog::T3z [Kr]) [] aT 17 f17 func17 (fun c _=>LOk.nil c) ahg (by
 intro _ _ _ h;unfold ahg at h;split at h<;>cases h;kernel_rfl)
section
variable (a b:avP)(c d e:List avP)(f:afZ)(g:aup)
def acH:Int:=Qb a b c d e f g
def acI:avO:=VF a b c d e f g
def acJ:asY:=VG a b c d e f g
def We:Bool:=allT [Qc a b c d e f g]
end
def ack:awh
 | [.one ⟨true,[.val (.string a),.ref 0,.ref 1,.ref 2,.val (.string b),.ref 3]⟩,.one ⟨false,[.ref 4]⟩],[.row false 9 (.str) c,.row false 9 (.str) d,.row false 9 (.str) e,.row false 142 (.pair (.str) (.sl 122 (.pair (.int .i64) (.pair (.str) (.int .i64))))) f,.row false 28 (.sl 2 (.int .i64)) g]=>some ⟨.tup [⟨true,[.ref 5,.ref 6]⟩,⟨false,[axb (acH a b c d e f g)]⟩],[aBD c,aBD d,aBD e,aBH f,aBP g],[aBE (acI a b c d e f g),aBK (acJ a b c d e f g)],[We a b c d e f g]⟩
 |_,_=>none
def amy:PF prog:=PF.ofG prog (PF.trees prog::T3z [Kr]) [] aT 19 f19 func19 (fun c _=>LOk.nil c) ack (by
 intro _ _ _ h;unfold ack at h;split at h<;>cases h;kernel_rfl)
section
variable (a:Int)(b:alv)(c:auQ)(d e f g:avO)(i:asZ)
def ac:Int×Int:=v8 c[v6 a]? ((0:Int),(0:Int))
def bq:Bool:=cG ((ac a c).1)==1
def sP:Int:=v9 .i64 (a + (1:Int))
def ag:Int:=v9 .i64 (UH e - bp ((ac a c).1) ((ac a c).2) b)
def ak:avO:= [bP ((ac a c).1) ((ac a c).2) b (List.drop (v6 (ag a b c e)) e) d f i]
def nq:Int:=bif bq a c then sP a else sP a
def nr:avO:=bif bq a c then f else sQ ((ac a c).1) ((ac a c).2) (List.drop (v6 (ag a b c e)) e) f
def nt:avO:=bif bq a c then g else ml ((ac a c).1) ((ac a c).2) (List.drop (v6 (ag a b c e)) e) d f g
def nu:asY:=bif bq a c then iB ((ac a c).1) ((ac a c).2) b (List.drop (v6 (ag a b c e)) e) i else i
def nv:avO:=bif bq a c then List.take (v6 (ag a b c e)) e++ak a b c d e f i else List.take (v6 (ag a b c e)) e
def aE:Bool:=allT [leI 0 a,ltI a (↑c.length:Int),ltN a.toNat c.length,lQ ((ac a c).1) ((ac a c).2) b,leI 0 (ag a b c e),leI (ag a b c e) (↑e.length:Int),leN (v6 (ag a b c e)) e.length,leN (v7 (List.drop (v6 (ag a b c e)) e)) 1048576,leI 0 (ag a b c e),leI (ag a b c e) (↑e.length:Int),!bq a c||ae ((ac a c).1) ((ac a c).2) b (List.drop (v6 (ag a b c e)) e) d f i,!bq a c||leN (v7 (List.take (v6 (ag a b c e)) e) + v7 (ak a b c d e f i)) 9223372036854775807,!bq a c||leN ((v7 (List.take (v6 (ag a b c e)) e) + v7 (ak a b c d e f i)) * 8) 140737488355328,bq a c||bL ((ac a c).1) ((ac a c).2) (List.drop (v6 (ag a b c e)) e) d f g]
end
def Cg:awh
 | [.one ⟨false,[.ptr 0 0]⟩,.one ⟨true,[.val (.int .i64 _x0),.val (.int .i64 _x1),.val (.int .i64 _x2),.ref 1,.ref 2]⟩,.one ⟨false,[.ref 3]⟩],[.box 31 [.val (.int .i64 a),.ref 4,.ref 5,.ref 6,.ref 7],.row false 122 (.pair (.int .i64) (.pair .str (.int .i64))) b,.row false 83 (.pair (.int .i64) (.int .i64)) c,.row false 2 (.int .i64) d,.row true 2 (.int .i64) e,.row true 2 (.int .i64) f,.row true 2 (.int .i64) g,.row true 109 (.pair (.int .i64) (.pair (.int .i64) (.int .i64))) i]=>some ⟨.tup [],[.box 31 [axb (nq a c),.ref 8,.ref 5,.ref 6,.ref 7],aBG b,aBO c,aBF d,.gone,aBE (nr a b c e f),aBE (nt a b c d e f g),aBK (nu a b c e i)],[aBE (nv a b c d e f i)],[aE a b c d e f g i]⟩
 |_,_=>none
def Cs:PF prog:=PF.ofG prog [PF.views prog,jE,PF.lend jE,PF.lend (PF.view jE),eo,PF.lend eo,abR,PF.lend abR,aAB,NA] [] aT 51 f51 func51 (fun c _=>LOk.nil c) Cg (by
 intro _ _ _ h;unfold Cg at h;split at h<;>cases h;kernel_rfl)
theorem ayb{a b:Int}(ha:a=0∨a=1)(hb:b=0∨b=1):IntKind.i64.wrap ((BitVec.toNat (BitVec.ofInt (IntKind.bits IntKind.i64) a&&& BitVec.ofInt (IntKind.bits IntKind.i64) b):Nat):Int)=atr a b:=by
 rcases ha with rfl | rfl <;> rcases hb with rfl | rfl <;> rfl
theorem azX{a b:Int}(ha:a=0∨a=1)(hb:b=0∨b=1):IntKind.i64.wrap ((BitVec.toNat (BitVec.ofInt (IntKind.bits IntKind.i64) a||| BitVec.ofInt (IntKind.bits IntKind.i64) b):Nat):Int)=orI a b:=by
 rcases ha with rfl | rfl <;> rcases hb with rfl | rfl <;> rfl
theorem azT{a:Int}(ha:a=0∨a=1):IntKind.i64.wrap (1 - a)=1 - a:=by rcases ha with rfl | rfl <;> rfl
theorem azq{bs:List TM}{x:IN}{stk:avO}(h:bitsB (tkI bs x) (AG bs x stk)=true):((AG bs x stk).length:Int)=tkI bs x:=(ct.1 h).2
theorem azg{bs:List TM}{x:IN}:(x.1=4→tkI bs x=1)∧(x.1=5→tkI bs x=2)∧(x.1=6→tkI bs x=2)∧(x.1=8→tkI bs x=1)∧(x.1=9→tkI bs x=1)∧(x.1=7→tkI bs x=takesK (gU bs x.2.toNat).1):=by
 refine⟨fun h=> ?_,fun h=> ?_,fun h=> ?_,fun h=> ?_,fun h=> ?_,fun h=> ?_⟩ <;> simp [tkI,Qm,qT,qU,za,h,takesK,gU]
theorem aAV{x:IN}:((x.1=1∨x.1=2∨x.1=3∨x.1=4∨x.1=5∨x.1=6∨x.1=7)→gvI x=1)∧((x.1=8∨x.1=9∨x.1=10∨x.1=11)→gvI x=0):=by
 refine⟨fun h=> ?_,fun h=> ?_⟩
 ·rcases h with h | h | h | h | h | h | h <;> simp [gvI,VY,qT,qU,za,h]
 ·rcases h with h | h | h | h <;> simp [gvI,VY,qT,qU,za,h]
theorem ayN{i v o:Int}{bs:List TM}{st:List IN}{inp:avO}{k:Int}{stk xs os:avO}{ss:List BS3}(hC:Bt i v o bs st=true)(Kj:bitsB i inp=true)
  (h:OkM i v o bs st k stk xs os ss) (fC:k < st.length) {x:IN} (hx:st[k.toNat]? =some x):
  nq k st=k + 1∧nv k bs st inp stk xs ss=auj bs inp x stk xs ss∧nr k bs st stk xs=awT bs x stk xs∧
  nt k bs st inp stk xs os=awv bs inp x stk xs os∧nu k bs st stk ss=atx bs x stk ss∧aE k bs st inp stk xs os ss=true:=by
 obtain⟨g1,g2,g3,g4,g5,_⟩:=axs hC Kj h fC hx
 simp only [Bt,q8]at hC
 obtain⟨hr,hB,jb⟩:=hC
 obtain⟨ri,rv,ro,rb,rs⟩:=adc.1 hr
 have h0:=h.lo
 have t2:=ang bs x
 have hxl:=(ct.1 h.vl).2
 have hol:=(ct.1 h.ou).2
 have hil:=(ct.1 Kj).2
 have hsl:=h.sl
 have hargb:=(ct.1 g3).1
 have hal:=azq g3
 have ha0:=OT hargb 0
 have ha1:=OT hargb 1
 have e0:ac k st=x:=by simp only [ac,hx,Option.getD_some]
 have w3:sP k=k + 1:=aM (by omega) (by omega)
 have e14:ag k bs st stk=stk.length - tkI bs x:=by
  simp only [ag,e0]
  have q:bp x.1 x.2 bs=tkI bs x:=rfl
  have q2:UH stk=(stk.length:Int):=rfl
  rw [q,q2]
  exact aM (by omega) (by omega)
 have en:((stk.length:Int) - tkI bs x).toNat=stk.length - (tkI bs x).toNat:=by omega
 have e1:bq k st=(gvI x==1):=by
  simp only [bq,e0]
  rfl
 have ear:stk.drop (stk.length - (tkI bs x).toNat)=AG bs x stk:=rfl
 have ers:stk.take (stk.length - (tkI bs x).toNat)=aua bs x stk:=rfl
 have hz: ∀ (l:avO) (z:Int),(bif z==0 then abZ l.length else l)=ayZ l z:=fun l z=>rfl
 have TO:=aoU ri rv ro rb g1
 have hB7:x.1=7→0≤x.2∧x.2 < bs.length→MU (gU bs x.2.toNat).1 (gU bs x.2.toNat).2.1 (gU bs x.2.toNat).2.2=true:=fun _ hq=>by
  have hlt7:x.2.toNat < bs.length:=by omega
  have hg7:gU bs x.2.toNat=bs[x.2.toNat]:=by simp only [gU,List.getElem?_eq_getElem hlt7];rfl
  rw [hg7];exact List.all_eq_true.1 hB _ (List.getElem_mem hlt7)
 obtain⟨tk4,tk5,tk6,tk8,tk9,tk7⟩:=azg (bs:=bs) (x:=x)
 obtain⟨gv1,gv0⟩:=aAV (x:=x)
 have h7:x.1=7→0≤x.2∧x.2 < bs.length→_:=fun e q=>aqG (hB7 e q) (h.sp x.2.toNat (by omega)) (by rw [← tk7 e];exact g3)
 have hga0:mj (AG bs x stk)=atZ (AG bs x stk) 0:=rfl
 have hga1:cU x.2 bs=gU bs x.2.toNat:=rfl
 have hga2:bc x.2 ss=stAt ss x.2.toNat:=rfl
 have hsa0:sC (AG bs x stk)=atZ (AG bs x stk) 0:=rfl
 have hat: ∀ (l:avO) (z:Int),v8 l[v6 z]? (0:Int)=atZ l z:=fun _ _=>rfl
 have hat1: ∀ (l:avO),v8 l[1]? (0:Int)=atZ l 1:=fun _=>rfl
 have hand:=ayb ha0 ha1
 have hor:=azX ha0 ha1
 have hnot:=azT ha0
 refine⟨?_,?_,?_,?_,?_,?_⟩
 ·simp only [nq,w3,Bool.cond_self]
 ·simp only [nv,ak,e0,e1,e14,en,ear,ers,auj]
  rcases TO with⟨e,q⟩ | ⟨e,q⟩ | ⟨e,q⟩ | e | e | e | ⟨e,q⟩ | ⟨e,q⟩ | ⟨e,q⟩ | ⟨e,q⟩ | ⟨e,q⟩
  ·simp [bP,ad3,e,gv1 (by omega)]
  ·simp [bP,ad3,e,gv1 (by omega),hat]
  ·simp [bP,ad3,e,gv1 (by omega),hat]
  ·simp only [bP,ad3,e,hga0,hnot];rfl
  ·simp only [bP,ad3,e,hga0,hat,hand];rfl
  ·simp only [bP,ad3,e,hga0,hat,hor];rfl
  ·have:=(h7 e q).1
   simp only [bP,ad3,e,hga1,hga2]
   simp [this,avI]
  all_goals simp [gv0 (by omega)]
 ·simp only [nr,e0,e1,e14,en,ear,awT]
  rcases TO with⟨e,q⟩ | ⟨e,q⟩ | ⟨e,q⟩ | e | e | e | ⟨e,q⟩ | ⟨e,q⟩ | ⟨e,q⟩ | ⟨e,q⟩ | ⟨e,q⟩
  all_goals first
   |simp [gv1 (by omega),e]
   |simp [gv0 (by omega),e,sQ,hsa0]
 ·simp only [nt,e0,e1,e14,en,ear,awv]
  rcases TO with⟨e,q⟩ | ⟨e,q⟩ | ⟨e,q⟩ | e | e | e | ⟨e,q⟩ | ⟨e,q⟩ | ⟨e,q⟩ | ⟨e,q⟩ | ⟨e,q⟩
  all_goals first
   |(simp [gv1 (by omega),e];done)
   |(simp [gv0 (by omega),e,ml,hsa0,hat];done)
   |(simp [gv0 (by omega),e,ml,hsa0,hat];exact hz _ _)
 ·simp only [nu,e0,e1,e14,en,ear,atx]
  rcases TO with⟨e,q⟩ | ⟨e,q⟩ | ⟨e,q⟩ | e | e | e | ⟨e,q⟩ | ⟨e,q⟩ | ⟨e,q⟩ | ⟨e,q⟩ | ⟨e,q⟩
  all_goals first
   |(have z:=h7 e q
     simp only [iB,e,hga1,hga2,z.2.1,z.2.2.1,z.2.2.2.1,gv1 (by omega)]
     simp [Vu]
     done)
   |simp [gv1 (by omega),e,iB]
   |simp [gv0 (by omega),e]
 ·have n1:leI 0 k=true:=bk h0
  have n2:ltI k (st.length:Int)=true:=dw fC
  have n3:ltN k.toNat st.length=true:=eD (by omega)
  have n4:lQ x.1 x.2 bs=true:=ayC rb g1
  have n5:leI 0 ((stk.length:Int) - tkI bs x)=true:=bk (by omega)
  have n6:leI ((stk.length:Int) - tkI bs x) (stk.length:Int)=true:=bk (by omega)
  have n7:leN (stk.length - (tkI bs x).toNat) stk.length=true:=bx (Nat.sub_le _ _)
  have n8:leN (AG bs x stk).length 1048576=true:=bx (by omega)
  have n9:leN ((aua bs x stk).length + 1) 9223372036854775807=true:=bx (by have:=aub g2;omega)
  have n10:leN (((aua bs x stk).length + 1) * 8) 140737488355328=true:=bx (by have:=aub g2;omega)
  have z0:leI (0:Int) 0=true:=rfl
  have z1:leI (0:Int) 1=true:=rfl
  rcases TO with⟨e,q⟩ | ⟨e,q⟩ | ⟨e,q⟩ | e | e | e | ⟨e,q⟩ | ⟨e,q⟩ | ⟨e,q⟩ | ⟨e,q⟩ | ⟨e,q⟩
  ·have gv:=gv1 (by omega)
   have hd:ae x.1 x.2 bs (AG bs x stk) inp xs ss=true:=by simp [ae,bK,ci,cj,allT,e,z0,z1] <;> omega
   simp only [aE,ak,e0,e1,e14,en,ear,ers,gv,hd,n1,n2,n3,n4,n5,n6,n7,n8,n9,n10,w5,allT,beq_self_eq_true,Bool.not_true,Bool.false_or,Bool.true_or,k8,cond_true,show ((0:Int)==1)=false from rfl,Bool.not_false]
  ·have gv:=gv1 (by omega)
   have r1:leI 0 x.2=true:=bk (by omega)
   have r2:ltI x.2 (inp.length:Int)=true:=dw (by omega)
   have r3:ltN x.2.toNat inp.length=true:=eD (by omega)
   have hd:ae x.1 x.2 bs (AG bs x stk) inp xs ss=true:=by simp [ae,bK,ci,cj,allT,e,z0,z1,r1,r2,r3] <;> omega
   simp only [aE,ak,e0,e1,e14,en,ear,ers,gv,hd,n1,n2,n3,n4,n5,n6,n7,n8,n9,n10,w5,allT,beq_self_eq_true,Bool.not_true,Bool.false_or,Bool.true_or,k8,cond_true,show ((0:Int)==1)=false from rfl,Bool.not_false]
  ·have gv:=gv1 (by omega)
   have r1:leI 0 x.2=true:=bk (by omega)
   have r2:ltI x.2 (xs.length:Int)=true:=dw (by omega)
   have r3:ltN x.2.toNat xs.length=true:=eD (by omega)
   have hd:ae x.1 x.2 bs (AG bs x stk) inp xs ss=true:=by simp [ae,bK,ci,cj,allT,e,z0,z1,r1,r2,r3] <;> omega
   simp only [aE,ak,e0,e1,e14,en,ear,ers,gv,hd,n1,n2,n3,n4,n5,n6,n7,n8,n9,n10,w5,allT,beq_self_eq_true,Bool.not_true,Bool.false_or,Bool.true_or,k8,cond_true,show ((0:Int)==1)=false from rfl,Bool.not_false]
  ·have gv:=gv1 (by omega)
   have tk:=tk4 e
   have s1:ltI 0 ((AG bs x stk).length:Int)=true:=dw (by omega)
   have s2:ltN (v6 0) (AG bs x stk).length=true:=eD (by simp only [Int.toNat_zero];omega)
   have hd:ae x.1 x.2 bs (AG bs x stk) inp xs ss=true:=by simp [ae,bK,ci,cj,allT,e,z0,z1,s1,s2] <;> omega
   simp only [aE,ak,e0,e1,e14,en,ear,ers,gv,hd,n1,n2,n3,n4,n5,n6,n7,n8,n9,n10,w5,allT,beq_self_eq_true,Bool.not_true,Bool.false_or,Bool.true_or,k8,cond_true,show ((0:Int)==1)=false from rfl,Bool.not_false]
  ·have gv:=gv1 (by omega)
   have tk:=tk5 e
   have s1:ltI 0 ((AG bs x stk).length:Int)=true:=dw (by omega)
   have s2:ltN (v6 0) (AG bs x stk).length=true:=eD (by simp only [Int.toNat_zero];omega)
   have s3:ltI 1 ((AG bs x stk).length:Int)=true:=dw (by omega)
   have s4:ltN (v6 1) (AG bs x stk).length=true:=eD (by rw [show v6 1=1 from rfl];omega)
   have hd:ae x.1 x.2 bs (AG bs x stk) inp xs ss=true:=by simp [ae,bK,ci,cj,allT,e,z0,z1,s1,s2,s3,s4] <;> omega
   simp only [aE,ak,e0,e1,e14,en,ear,ers,gv,hd,n1,n2,n3,n4,n5,n6,n7,n8,n9,n10,w5,allT,beq_self_eq_true,Bool.not_true,Bool.false_or,Bool.true_or,k8,cond_true,show ((0:Int)==1)=false from rfl,Bool.not_false]
  ·have gv:=gv1 (by omega)
   have tk:=tk6 e
   have s1:ltI 0 ((AG bs x stk).length:Int)=true:=dw (by omega)
   have s2:ltN (v6 0) (AG bs x stk).length=true:=eD (by simp only [Int.toNat_zero];omega)
   have s3:ltI 1 ((AG bs x stk).length:Int)=true:=dw (by omega)
   have s4:ltN (v6 1) (AG bs x stk).length=true:=eD (by rw [show v6 1=1 from rfl];omega)
   have hd:ae x.1 x.2 bs (AG bs x stk) inp xs ss=true:=by simp [ae,bK,ci,cj,allT,e,z0,z1,s1,s2,s3,s4] <;> omega
   simp only [aE,ak,e0,e1,e14,en,ear,ers,gv,hd,n1,n2,n3,n4,n5,n6,n7,n8,n9,n10,w5,allT,beq_self_eq_true,Bool.not_true,Bool.false_or,Bool.true_or,k8,cond_true,show ((0:Int)==1)=false from rfl,Bool.not_false]
  ·have gv:=gv1 (by omega)
   have r1:leI 0 x.2=true:=bk (by omega)
   have r2:ltI x.2 (bs.length:Int)=true:=dw (by omega)
   have r3:ltN x.2.toNat bs.length=true:=eD (by omega)
   have r4:ltI x.2 (ss.length:Int)=true:=dw (by omega)
   have r5:ltN x.2.toNat ss.length=true:=eD (by omega)
   have r6:=(h7 e q).2.2.2.2.1
   have hd:ae x.1 x.2 bs (AG bs x stk) inp xs ss=true:=by simp [ae,bK,ci,cj,allT,e,z0,z1,r1,r2,r3,r4,r5,r6] <;> omega
   simp only [aE,ak,e0,e1,e14,en,ear,ers,gv,hd,n1,n2,n3,n4,n5,n6,n7,n8,n9,n10,w5,allT,beq_self_eq_true,Bool.not_true,Bool.false_or,Bool.true_or,k8,cond_true,show ((0:Int)==1)=false from rfl,Bool.not_false]
  ·have gv:=gv0 (by omega)
   have tk:=tk8 e
   have s1:ltI 0 ((AG bs x stk).length:Int)=true:=dw (by omega)
   have s2:ltN (v6 0) (AG bs x stk).length=true:=eD (by simp only [Int.toNat_zero];omega)
   have r1:leI 0 x.2=true:=bk (by omega)
   have r2:ltI x.2 (xs.length:Int)=true:=dw (by omega)
   have r3:ltN x.2.toNat xs.length=true:=eD (by omega)
   have hd:bL x.1 x.2 (AG bs x stk) inp xs os=true:=by simp [bL,allT,e,z0,z1,s1,s2,r1,r2,r3] <;> omega
   simp only [aE,ak,e0,e1,e14,en,ear,ers,gv,hd,n1,n2,n3,n4,n5,n6,n7,n8,n9,n10,w5,allT,beq_self_eq_true,Bool.not_true,Bool.false_or,Bool.true_or,k8,cond_true,show ((0:Int)==1)=false from rfl,Bool.not_false]
  ·have gv:=gv0 (by omega)
   have tk:=tk9 e
   have s1:ltI 0 ((AG bs x stk).length:Int)=true:=dw (by omega)
   have s2:ltN (v6 0) (AG bs x stk).length=true:=eD (by simp only [Int.toNat_zero];omega)
   have r1:leI 0 x.2=true:=bk (by omega)
   have r2:ltI x.2 (os.length:Int)=true:=dw (by omega)
   have r3:ltN x.2.toNat os.length=true:=eD (by omega)
   have hd:bL x.1 x.2 (AG bs x stk) inp xs os=true:=by simp [bL,allT,e,z0,z1,s1,s2,r1,r2,r3] <;> omega
   simp only [aE,ak,e0,e1,e14,en,ear,ers,gv,hd,n1,n2,n3,n4,n5,n6,n7,n8,n9,n10,w5,allT,beq_self_eq_true,Bool.not_true,Bool.false_or,Bool.true_or,k8,cond_true,show ((0:Int)==1)=false from rfl,Bool.not_false]
  ·have gv:=gv0 (by omega)
   have r1:leI 0 x.2=true:=bk (by omega)
   have r2:ltI x.2 (inp.length:Int)=true:=dw (by omega)
   have r3:ltN x.2.toNat inp.length=true:=eD (by omega)
   have hd:bL x.1 x.2 (AG bs x stk) inp xs os=true:=by simp [bL,allT,e,z0,z1,r1,r2,r3] <;> omega
   simp only [aE,ak,e0,e1,e14,en,ear,ers,gv,hd,n1,n2,n3,n4,n5,n6,n7,n8,n9,n10,w5,allT,beq_self_eq_true,Bool.not_true,Bool.false_or,Bool.true_or,k8,cond_true,show ((0:Int)==1)=false from rfl,Bool.not_false]
  ·have gv:=gv0 (by omega)
   have r1:leI 0 x.2=true:=bk (by omega)
   have r2:ltI x.2 (xs.length:Int)=true:=dw (by omega)
   have r3:ltN x.2.toNat xs.length=true:=eD (by omega)
   have hd:bL x.1 x.2 (AG bs x stk) inp xs os=true:=by simp [bL,allT,e,z0,z1,r1,r2,r3] <;> omega
   simp only [aE,ak,e0,e1,e14,en,ear,ers,gv,hd,n1,n2,n3,n4,n5,n6,n7,n8,n9,n10,w5,allT,beq_self_eq_true,Bool.not_true,Bool.false_or,Bool.true_or,k8,cond_true,show ((0:Int)==1)=false from rfl,Bool.not_false]
abbrev cq:=Int×Int×Int×Int×List Int×List Int×List Int×List Int×List (Int×(Int×Int))×List (Int×(avP×Int))×List (Int×Int)
section
variable (a:Int)(b c d e:avO)(f:asY)(g:ajz)(i:auQ)
def qL:Bool:=ltI a (xU i)
def ze:Bool:=aE a g i b c d e f
def zf:Int:=nq a i
def zg:avO:=nv a g i b c d f
def zh:avO:=nr a g i c d
def zi:avO:=nt a g i b c d e
def zj:asY:=nu a g i c f
end
def Kb:cq→List (Nat×SV)
 |(_,_,_,_,_,_,_,_,_,_,_)=> [(0,(aBB (.ptr 0 0))),(4,(aBB (.ptr 1 0))),(2,(aBB (.ref 2)))]
def Ka:cq→List (Nat×Entry)
 |(a,b,c,d,e,f,g,i,j,k,l)=> [(0,(.box 31 [axb a,.ref 3,.ref 4,.ref 5,.ref 6])),(1,(.box 27 [axb b,axb c,axb d,.ref 7,.ref 8])),(2,(aBF e)),(4,(aBE g)),(5,(aBE i)),(6,(aBK j)),(7,(aBG k)),(8,(aBO l)),(3,(aBE f))]
def Kd:Nat→cq→List (Nat×SV)
 |_,_=>[]
def Kc:Nat→cq→List (Nat×Entry)
 |_,(a,b,c,d,e,f,g,i,j,k,l)=> [(0,(.box 31 [axb a,.ref 3,.ref 4,.ref 5,.ref 6])),(1,(.box 27 [axb b,axb c,axb d,.ref 7,.ref 8])),(2,(aBF e)),(3,(aBE f)),(4,(aBE g)),(5,(aBE i)),(6,(aBK j)),(7,(aBG k)),(8,(aBO l))]
def qe:cq→LT cq
 |(a,b,c,d,e,f,g,i,j,k,l)=> .ite (qL a l) (.need [ze a e f g i j k l] (.nrm ((zf a l),b,c,d,e,zg a e f g j k l,zh a f g k l,zi a e f g i k l,zj a f j k l,k,l) [(0,0),(1,1),(2,2),(3,768),(4,4),(5,5),(6,6),(7,7),(8,8)])) (.ext 0 [(0,0),(1,1),(2,2),(3,3),(4,4),(5,5),(6,6),(7,7),(8,8)])
def qf(s:St):Option cq:=do
 let some ⟨none,.one ⟨false,[.ptr 0 0]⟩⟩:=s.look 0|none
 let some ⟨none,.one ⟨false,[.ptr 576 0]⟩⟩:=s.look 4|none
 let some ⟨none,.one ⟨false,[.ref 3]⟩⟩:=s.look 2|none
 let some (.box 31 [.val (.int .i64 a),.ref 4,.ref 5,.ref 6,.ref 7]):=s.ent 0|none
 let some (.box 27 [.val (.int .i64 b),.val (.int .i64 c),.val (.int .i64 d),.ref 1,.ref 2]):=s.ent 576|none
 let some (.row false 2 (.int .i64) e):=s.ent 3|none
 let some (.row true 2 (.int .i64) g):=s.ent 5|none
 let some (.row true 2 (.int .i64) i):=s.ent 6|none
 let some (.row true 109 (.pair (.int .i64) (.pair (.int .i64) (.int .i64))) j):=s.ent 7|none
 let some (.row false 122 (.pair (.int .i64) (.pair .str (.int .i64))) k):=s.ent 1|none
 let some (.row false 83 (.pair (.int .i64) (.int .i64)) l):=s.ent 2|none
 let some (.row true 2 (.int .i64) f):=s.ent 4|none
 some (a,b,c,d,e,f,g,i,j,k,l)
def bi:Lp cq where
 h:=⟨[6,7,8,9,10,11,12,13,14,15,16,17],[0,1,2,4,5,6,7,8],[3],[]⟩
 JL:=Kb
 JE:=Ka
 XL:=Kd
 XE:=Kc
 q:=fun j=>match j with | _=> .exit 0
 tags:= [0]
 lt:=qe
 fuel:=fun(a,b,c,d,e,f,g,i,k,l,m)=>a.natAbs + b.natAbs + c.natAbs + d.natAbs + e.length + f.length + g.length + i.length + k.length + l.length + m.length
 fix:=fun(_,b,c,d,e,_,_,_,_,l,m) (a,_,_,_,_,f,g,i,k,_,_)=>(a,b,c,d,e,f,g,i,k,l,m)
 σ:= [(0,0),(1,576),(2,3),(4,5),(5,6),(6,7),(7,1),(8,2),(3,4)]
 rd:=qf
theorem HX:LoopOk prog (fun k=>Nat.blt k Tryz.f45.ntmps) bi.F (bj f45 0):=by
 refine Lp.ok (tbl:= [xX,PF.lend xX,Cs]) (lf:= []) aT bi (by kernel_rfl) (LOk.nil _) (fun _=>rfl) (fun _ _=>rfl) ?_ ?_ ?_ ?_ (fun _=>rfl) ?_
 ·intro _;kernel_rfl
 ·intro _;kernel_rfl
 ·intro s x h
  have h:qf s=some x:=h
  unfold qf at h
  repeat' split at h
  all_goals cases h
  constructor<;>repeat(first|refine ab ‹_› rfl ?_|refine aa rfl ‹_› rfl ?_|rfl)
 ·intro _;kernel_rfl
 ·intro _ _;exact(And.intro rfl trivial)
section
variable (a b c d:Int)(e:alv)(f:auQ)(g i j k:avO)(l:asZ)
def lx:Int×Int×Int×Int×avO×avO×avO×avO×asZ×alv×auQ:=(d,a,b,c,g,i,j,k,l,e,f)
def rI:avO×avO×avO×asZ×alv×auQ:=(Lp.res bi (lx a b c d e f g i j k l)).2.2.2.2.2.2
def rJ:avO×avO×asZ×alv×auQ:=(rI a b c d e f g i j k l).2
def rK:avO×asZ×alv×auQ:=(rJ a b c d e f g i j k l).2
def sA:Int:=((Lp.res bi (lx a b c d e f g i j k l)).2).1
def ma:avO:=(rJ a b c d e f g i j k l).1
def mb:avO:=(rK a b c d e f g i j k l).1
def mc:asY:=((rK a b c d e f g i j k l).2).1
def sB:avO:=(rI a b c d e f g i j k l).1
def md:Bool:=allT [Lp.fin bi (lx a b c d e f g i j k l)]
end
def AO:awh
 | [.one ⟨false,[.ptr 0 0]⟩,.one ⟨true,[.val (.int .i64 a),.val (.int .i64 b),.val (.int .i64 c),.ref 1,.ref 2]⟩,.one ⟨false,[.ref 3]⟩],[.box 31 [.val (.int .i64 d),.ref 4,.ref 5,.ref 6,.ref 7],.row false 122 (.pair (.int .i64) (.pair .str (.int .i64))) e,.row false 83 (.pair (.int .i64) (.int .i64)) f,.row false 2 (.int .i64) g,.row true 2 (.int .i64) i,.row true 2 (.int .i64) j,.row true 2 (.int .i64) k,.row true 109 (.pair (.int .i64) (.pair (.int .i64) (.int .i64))) l]=>some ⟨.tup [],[.box 31 [axb (sA a b c d e f g i j k l),.ref 8,.ref 5,.ref 6,.ref 7],aBG e,aBO f,aBF g,.gone,aBE (ma a b c d e f g i j k l),aBE (mb a b c d e f g i j k l),aBK (mc a b c d e f g i j k l)],[aBE (sB a b c d e f g i j k l)],[md a b c d e f g i j k l]⟩
 |_,_=>none
def Mf:PF prog:=PF.ofG prog [xX,PF.lend xX,Cs] [bi.F] aT 45 f45 func45 (LOk.fnT (l:= [bj f45 0]) (by kernel_rfl) (.cons HX (.nil _))) AO (by
 intro _ _ _ h;unfold AO at h;split at h<;>cases h;kernel_rfl)
def wo(a:avO)(b:asZ):Bool:=allT [leN a.length (1048576:Nat),leN b.length (1048576:Nat)]
def EU:awh
 | [.one ⟨true,[.ref 0,.ref 1]⟩],[.row false 2 (.int .i64) a,.row false 109 (.pair (.int .i64) (.pair (.int .i64) (.int .i64))) b]=>some ⟨.one ⟨true,[.ref 2,.ref 3]⟩,[aBF a,aBN b],[aBE a,aBK b],[wo a b]⟩
 |_,_=>none
def wx:PF prog:=PF.ofG prog (T3z [jE,ow]) [] aT 122 f122 func122 (fun c _=>LOk.nil c) EU (by
 intro _ _ _ h;unfold EU at h;split at h<;>cases h;kernel_rfl)
def TV:avO:= []
def TW(a:Int):avO:=qqq a.toNat (0:Int)
def agX(a:Int)(b:avO)(c:asZ):Bool:=allT [wo b c,leI 0 a,leI a a,leI ((↑(8:Nat):Int) * a) 281474976710656,leI a 9223372036854775807]
def ant:awh
 | [.one ⟨true,[.val (.int .i64 _x0),.val (.int .i64 _x1),.val (.int .i64 a),.ref 0,.ref 1]⟩,.one ⟨true,[.ref 2,.ref 3]⟩],[.row false 122 (.pair (.int .i64) (.pair (.str) (.int .i64))) b,.row false 83 (.pair (.int .i64) (.int .i64)) c,.row false 2 (.int .i64) d,.row false 109 (.pair (.int .i64) (.pair (.int .i64) (.int .i64))) e]=>some ⟨.one ⟨true,[axb 0,.ref 4,.ref 5,.ref 6,.ref 7]⟩,[aBG b,aBO c,aBF d,aBN e],[aBE (TV),aBE d,aBE (TW a),aBK e],[agX a d e]⟩
 |_,_=>none
def ag9:PF prog:=PF.ofG prog (T3z [wx]) [] aT 75 f75 func75 (fun c _=>LOk.nil c) ant (by
 intro _ _ _ h;unfold ant at h;split at h<;>cases h;kernel_rfl)
section
variable (a b c:Int)(d:alv)(e:auQ)(f:avO)(g:asZ)(i:avO)
def abf:avO:=mb a b c 0 d e i TV f (TW c) g
def abg:avO:=ma a b c 0 d e i TV f (TW c) g
def abh:asY:=mc a b c 0 d e i TV f (TW c) g
def abi:Bool:=allT [agX c f g,md a b c 0 d e i TV f (TW c) g]
end
def ahi:awh
 | [.one ⟨true,[.val (.int .i64 a),.val (.int .i64 b),.val (.int .i64 c),.ref 0,.ref 1]⟩,.one ⟨true,[.ref 2,.ref 3]⟩,.one ⟨false,[.ref 4]⟩],[.row false 122 (.pair (.int .i64) (.pair (.str) (.int .i64))) d,.row false 83 (.pair (.int .i64) (.int .i64)) e,.row false 2 (.int .i64) f,.row false 109 (.pair (.int .i64) (.pair (.int .i64) (.int .i64))) g,.row false 2 (.int .i64) i]=>some ⟨.tup [⟨false,[.ref 5]⟩,⟨true,[.ref 6,.ref 7]⟩],[aBG d,aBO e,aBF f,aBN g,aBF i],[aBE (abf a b c d e f g i),aBE (abg a b c d e f g i),aBK (abh a b c d e f g i)],[abi a b c d e f g i]⟩
 |_,_=>none
def aqm:PF prog:=PF.ofG prog (T3z [Mf,ag9]) [] aT 68 f68 func68 (fun c _=>LOk.nil c) ahi (by
 intro _ _ _ h;unfold ahi at h;split at h<;>cases h;kernel_rfl)
abbrev MS:=Int×List Int×List Int×List Int×List BS3
def anZ(st:List IN)(k:Int):IN:=v8 st[k.toNat]? ((0:Int),(0:Int))
def avF(bs:List TM)(st:List IN)(inp:avO):MS→MS
 |(k,stk,xs,os,ss)=>(k + 1,auj bs inp (anZ st k) stk xs ss,awT bs (anZ st k) stk xs,awv bs inp (anZ st k) stk xs os,atx bs (anZ st k) stk ss)
def asl(bs:List TM)(st:List IN)(inp:avO):Nat→MS→MS
 |0,m=>m
 |n + 1,m=>asl bs st inp n (avF bs st inp m)
def OkS(i v o:Int)(bs:List TM)(st:List IN)(m:MS):Prop:=OkM i v o bs st m.1 m.2.1 m.2.2.1 m.2.2.2.1 m.2.2.2.2
theorem awO{i v o:Int}{bs:List TM}{st:List IN}{inp:avO}{m:MS}(hC:Bt i v o bs st=true)(Kj:bitsB i inp=true)(h:OkS i v o bs st m)(fC:m.1 < st.length):
  OkS i v o bs st (avF bs st inp m)∧st[m.1.toNat]? =some (anZ st m.1):=by
 obtain⟨k,stk,xs,os,ss⟩:=m
 have h0:=h.lo
 simp only at h0 fC
 have hk:k.toNat < st.length:=by omega
 have hx:st[k.toNat]? =some (anZ st k):=by simp only [anZ,List.getElem?_eq_getElem hk];rfl
 exact⟨(axs hC Kj h fC hx).2.2.2.2.2,hx⟩
theorem azB{X:Type}(p:Lp X)(enc:MS→X){i v o:Int}{bs:List TM}{st:List IN}{inp:avO}(hC:Bt i v o bs st=true)(Kj:bitsB i inp=true)
  (h1: ∀ m:MS,OkS i v o bs st m→m.1 < st.length→(p.lt (enc m)).out=some (.inr (enc (avF bs st inp m)))) (h2: ∀ m:MS,m.1=st.length→(p.lt (enc m)).out=some (.inl 0))
  (hf: ∀ m,st.length≤p.fuel (enc m)) (m:MS) (hm:OkS i v o bs st m):
  p.fin (enc m)=true∧p.res (enc m)=(0,enc (asl bs st inp (st.length - m.1.toNat) m))∧OkS i v o bs st (asl bs st inp (st.length - m.1.toNat) m):=by
 have nQ: ∀ (n:Nat) (m:MS),OkS i v o bs st m→st.length - m.1.toNat=n→Vy p.lt (n + 1) (enc m)=some (0,enc (asl bs st inp n m))∧OkS i v o bs st (asl bs st inp n m):=by
  intro n
  induction n with
  |zero=>
   intro m hm hn
   have:=hm.lo
   have:=hm.hi
   exact⟨aaO _ (h2 m (by omega)),hm⟩
  |succ n ih=>
   intro m hm hn
   have h0:=hm.lo
   have fC:m.1 < st.length:=by omega
   have hs:=(awO hC Kj hm fC).1
   have he:(avF bs st inp m).1=m.1 + 1:=rfl
   obtain⟨r1,r2⟩:=ih _ hs (by rw [he];omega)
   exact⟨by rw [ach _ (h1 m hm fC)];exact r1,r2⟩
 obtain⟨r1,r2⟩:=nQ _ m hm rfl
 obtain⟨q1,q2⟩:=p.run r1 (ams (by have:=hf m;omega))
 exact⟨q1,q2,r2⟩
def hAt(i v o:Int)(bs:List TM)(st:List IN)(k:Int):Int:=bif ltI 0 k then atZ (ayH i v o bs st) (k - 1)else 0
def azN(i v o:Int)(bs:List TM)(st:List IN)(k:Int)(stk xs os:avO)(ss:List BS3):Bool:=inR k 0 st.length&&(bitsB (hAt i v o bs st k) stk&&(bitsB o os&&sy v bs xs ss))
theorem aj3{v:Int}{bs:List TM}{xs:avO}{ss:List BS3}:sy v bs xs ss=true↔ss.length=bs.length∧bitsB v xs=true∧ ∀ k,k < bs.length→possAt bs ss k=true:=by
 simp only [sy,q8,beq_iff_eq,List.all_eq_true,List.mem_range]
 constructor
 ·rintro⟨h1,h2,h3⟩;exact⟨by omega,h2,h3⟩
 ·rintro⟨h1,h2,h3⟩;exact⟨by omega,h2,h3⟩
theorem ayX{i v o:Int}{bs:List TM}{st:List IN}{k:Int}{stk xs os:avO}{ss:List BS3}(hC:Bt i v o bs st=true)(h:azN i v o bs st k stk xs os ss=true):OkM i v o bs st k stk xs os ss:=by
 simp only [azN,q8,ua]at h
 obtain⟨⟨k0,k1⟩,h2,h3,h4⟩:=h
 obtain⟨s1,s2,s3⟩:=aj3.1 h4
 simp only [Bt,q8]at hC
 obtain⟨b1,b2⟩:=ct.1 h2
 refine⟨k0,k1,?_,b1,s2,h3,s1,s3⟩
 obtain⟨n,L,g1,g2,g3,g4⟩:=aw8 hC.2.2 k.toNat (by omega)
 refine⟨L,?_⟩
 rw [g1,b2]
 by_cases hk:0 < k
 ·have:=g4 (by omega)
  have ht:ltI 0 k=true:=dw hk
  simp only [hAt,ht,cond_true]
  rw [show ((k.toNat:Int) - 1)=k - 1 by omega]at this
  rw [this]
 ·have ht:ltI 0 k=false:=IZ (by omega)
  simp only [hAt,ht,cond_false]
  rw [g3 (by omega)]
theorem aAF{i v o:Int}{bs:List TM}{st:List IN}{m:MS}(hC:Bt i v o bs st=true)(h:OkS i v o bs st m):m.2.1.length≤40∧m.2.2.1.length≤20∧m.2.2.2.1.length≤20∧m.2.2.2.2.length≤2000:=by
 obtain⟨k,stk,xs,os,ss⟩:=m
 simp only [Bt,q8]at hC
 obtain⟨ri,rv,ro,rb,rs⟩:=adc.1 hC.1
 obtain⟨L,hL⟩:=h.hg
 have h2:=aqA _ _ _ _ _ (by omega) hL
 have hxl:=(ct.1 h.vl).2
 have hol:=(ct.1 h.ou).2
 have hsl:=h.sl
 simp only at h2 hxl hol hsl ⊢
 omega
def fnM(bs:List TM)(st:List IN)(inp:avO)(k:Int)(stk xs os:avO)(ss:List BS3):MS:=asl bs st inp (st.length - k.toNat) (k,stk,xs,os,ss)
def atg(i v o:Int)(bs:List TM)(st:List IN)(inp:avO)(k:Int)(stk xs os:avO)(ss:List BS3):Bool:=Bt i v o bs st&&(bitsB i inp&&azN i v o bs st k stk xs os ss)
theorem azG(i v o:Int)(bs:List TM)(st:List IN)(inp:avO)(k:Int)(stk xs os:avO)(ss:List BS3)(h:atg i v o bs st inp k stk xs os ss=true):
  sA i v o k bs st inp stk xs os ss=(fnM bs st inp k stk xs os ss).1∧ma i v o k bs st inp stk xs os ss=(fnM bs st inp k stk xs os ss).2.2.1∧
  mb i v o k bs st inp stk xs os ss=(fnM bs st inp k stk xs os ss).2.2.2.1∧mc i v o k bs st inp stk xs os ss=(fnM bs st inp k stk xs os ss).2.2.2.2∧
  sB i v o k bs st inp stk xs os ss=(fnM bs st inp k stk xs os ss).2.1∧md i v o k bs st inp stk xs os ss=true:=by
 simp only [atg,q8]at h
 obtain⟨hC,Kj,hm⟩:=h
 have hm:=ayX hC hm
 obtain⟨f1,f2,_⟩:=azB bi (fun m=>(m.1,i,v,o,inp,m.2.1,m.2.2.1,m.2.2.2.1,m.2.2.2.2,bs,st)) hC Kj
  (fun m hm fC=>by
   obtain⟨k,stk,xs,os,ss⟩:=m
   obtain⟨_,hx⟩:=awO hC Kj hm fC
   obtain⟨e0,e4,e1,e2,e3,e5⟩:=ayN hC Kj hm fC hx
   simp only at fC e0 e1 e2 e3 e4 e5
   have t1:ltI k (st.length:Int)=true:=dw fC
   simp only [bi,qe,LT.out,qL,ze,zf,zg,zh,zi,zj,xU,t1,e0,e1,e2,e3,e4,e5,avF,allT]
   rfl)
  (fun m hk=>by
   obtain⟨k,stk,xs,os,ss⟩:=m
   simp only at hk
   have t1:ltI k (st.length:Int)=false:=IZ (by omega)
   simp only [bi,qe,LT.out,qL,xU,t1,cond_false])
  (fun m=>by simp only [bi];omega) (k,stk,xs,os,ss) hm
 simp only at f1 f2
 simp only [sA,ma,mb,mc,sB,md,lx,rI,rJ,rK,f1,f2,allT,fnM,and_self,cond_true]
def rnM(o:Int)(bs:List TM)(st:List IN)(inp xs:avO)(ss:List BS3):MS:=fnM bs st inp 0 [] xs (qqq o.toNat 0) ss
def aq7(i v o:Int)(bs:List TM)(st:List IN)(inp xs:avO)(ss:List BS3):Bool:=Bt i v o bs st&&(bitsB i inp&&sy v bs xs ss)
theorem ayA{i v o:Int}{bs:List TM}{st:List IN}{inp xs:avO}{ss:List BS3}(h:aq7 i v o bs st inp xs ss=true):
  atg i v o bs st inp 0 [] xs (qqq o.toNat 0) ss=true∧(0≤o∧o≤20)∧xs.length≤20∧ss.length≤2000:=by
 simp only [aq7,q8]at h
 obtain⟨hC,Kj,hs⟩:=h
 obtain⟨s1,s2,s3⟩:=aj3.1 hs
 have hC2:=hC
 simp only [Bt,q8]at hC2
 obtain⟨ri,rv,ro,rb,rs⟩:=adc.1 hC2.1
 have hxl:=(ct.1 s2).2
 refine⟨?_,ro,by omega,by omega⟩
 simp only [atg,q8,azN,ua]
 refine⟨hC,Kj,by omega,?_,?_,hs⟩
 ·rw [show hAt i v o bs st 0=0 from rfl]
  exact ct.2 ⟨fun z hz=>(List.not_mem_nil hz).elim,rfl⟩
 ·exact ct.2 ⟨fun z hz=> .inl (qqw hz),by rw [k9];omega⟩
theorem aAz(i v o:Int)(bs:List TM)(st:List IN)(xs:avO)(ss:List BS3)(inp:avO)(h:aq7 i v o bs st inp xs ss=true):
  abf i v o bs st xs ss inp=(rnM o bs st inp xs ss).2.2.2.1∧abg i v o bs st xs ss inp=(rnM o bs st inp xs ss).2.2.1∧
  abh i v o bs st xs ss inp=(rnM o bs st inp xs ss).2.2.2.2∧abi i v o bs st xs ss inp=true:=by
 obtain⟨h1,h2,h3,h4⟩:=ayA h
 obtain⟨f0,f1,f2,f3,f4,f5⟩:=azG i v o bs st inp 0 [] xs (qqq o.toNat 0) ss h1
 have t1:leN xs.length 1048576=true:=bx (by omega)
 have t2:leN ss.length 1048576=true:=bx (by omega)
 have u1:leI 0 o=true:=bk h2.1
 have u2:leI o o=true:=bk (by omega)
 have u3:leI (((8:Nat):Int) * o) 281474976710656=true:=bk (by omega)
 have u4:leI o 9223372036854775807=true:=bk (by omega)
 simp only [abf,abg,abh,abi,TV,TW,agX,wo,f0,f1,f2,f3,f4,f5,t1,t2,u1,u2,u3,u4,allT,rnM,and_self,cond_true]
def ahB:awh
 | [.one ⟨true,[.val (.int .i64 a),.val (.int .i64 b),.val (.int .i64 c),.ref 0,.ref 1]⟩,.one ⟨true,[.ref 2,.ref 3]⟩,.one ⟨false,[.ref 4]⟩],[.row false 122 (.pair (.int .i64) (.pair (.str) (.int .i64))) d,.row false 83 (.pair (.int .i64) (.int .i64)) e,.row false 2 (.int .i64) f,.row false 109 (.pair (.int .i64) (.pair (.int .i64) (.int .i64))) g,.row false 2 (.int .i64) i]=>some ⟨.tup [⟨false,[.ref 5]⟩,⟨true,[.ref 6,.ref 7]⟩],[aBG d,aBO e,aBF f,aBN g,aBF i],[aBE ((rnM c d e i f g).2.2.2.1),aBE ((rnM c d e i f g).2.2.1),aBK ((rnM c d e i f g).2.2.2.2)],[aq7 a b c d e i f g]⟩
 |_,_=>none
def Ko:PF prog:=PF.alt aqm ahB (by
 intro args es o h cA;unfold ahB at h;split at h
 ·rename_i a b c d e f g i
  cases h
  have cA:=jQ cA
  have hh:=aAz a b c d e f g i cA
  obtain⟨e0,e1,e2,en⟩:=hh
  exact pW rfl (ip en) rfl rfl (by simp only [e0,e1,e2] <;> rfl)
 ·cases h)
def Kk(a:avO)(b:Int):Bool:= !bitsB b a
def Kl(a:avO):Bool:=allT [leN a.length (9223372036854775807:Nat)]
def UC:awh
 | [.one ⟨false,[.ref 0]⟩,.one ⟨false,[.ptr 1 0]⟩],[.row false 2 (.int .i64) a,.box 27 [.val (.int .i64 b),.val (.int .i64 c),.val (.int .i64 d),.ref 2,.ref 3],.row false 122 (.pair (.int .i64) (.pair .str (.int .i64))) e,.row false 83 (.pair (.int .i64) (.int .i64)) f]=>some ⟨aBB (.val (.bool (Kk a b))),[aBF a,.box 27 [axb b,axb c,axb d,.ref 2,.ref 3],aBG e,aBO f],[],[Kl a]⟩
 |_,_=>none
def tX:PF prog:=PF.ofG prog (T3z [oT]) [] aT 119 f119 func119 (fun c _=>LOk.nil c) UC (by
 intro _ _ _ h;unfold UC at h;split at h<;>cases h;kernel_rfl)
abbrev cv:=Int×Int×Int×Int×Int×List (List Int)×List (Int×(avP×Int))×List (Int×Int)
section
variable (a b c:Int)(d:aup)
def dO:avO:=v8 d[v6 a]? (xS (CTy.sl (2:TypeId) anW))
def le:Bool:=ltI a b
def qz:Bool:=leI 0 a
def qA:Bool:=ltI a (↑d.length:Int)
def qB:Bool:=ltN a.toNat d.length
def qC:Bool:=Kl (dO a d)
def lg:Bool:=Kk (dO a d) c
def qD:Int:=v9 .i64 (a + (1:Int))
end
def QB:cv→List (Nat×SV)
 |(a,b,_,_,_,_,_,_)=> [(8,(aBC a)),(7,(aBC b)),(1,(aBB (.clo 119 [0]))),(0,(aBB (.ref 1)))]
def Qy:cv→List (Nat×Entry)
 |(_,_,a,b,c,d,e,f)=> [(0,(.box 27 [axb a,axb b,axb c,.ref 2,.ref 3])),(1,(aBP d)),(2,(aBG e)),(3,(aBO f))]
def QH:Nat→cv→List (Nat×SV)
 |0,(a,_,_,_,_,_,_,_)=> [(4,(aBC a))]
 |_,_=>[]
def kG:cv→LT cv
 |(a,b,c,d,e,f,g,i)=> .ite (le a b) (.need [qz a,qA a f,qB a f,qC a f] (.ite (lg a c f) (.ext 0 [(0,0),(1,1),(2,2),(3,3)]) (.nrm ((qD a),b,c,d,e,f,g,i) [(0,0),(1,1),(2,2),(3,3)]))) (.ext 1 [(0,0),(1,1),(2,2),(3,3)])
def vI(s:St):Option cv:=do
 let some ⟨none,.one ⟨false,[.val (.int .i64 a)]⟩⟩:=s.look 8|none
 let some ⟨none,.one ⟨false,[.val (.int .i64 b)]⟩⟩:=s.look 7|none
 let some ⟨none,.one ⟨false,[.clo 119 [1]]⟩⟩:=s.look 1|none
 let some ⟨none,.one ⟨false,[.ref 0]⟩⟩:=s.look 0|none
 let some (.box 27 [.val (.int .i64 c),.val (.int .i64 d),.val (.int .i64 e),.ref 2,.ref 3]):=s.ent 1|none
 let some (.row false 28 (.sl 2 (.int .i64)) f):=s.ent 0|none
 let some (.row false 122 (.pair (.int .i64) (.pair .str (.int .i64))) g):=s.ent 2|none
 let some (.row false 83 (.pair (.int .i64) (.int .i64)) i):=s.ent 3|none
 some (a,b,c,d,e,f,g,i)
def aH:Lp cv where
 h:=⟨[9,10,5,11,12,13,14,15,16,17,4,18,8],[0,1,2,3],[],[]⟩
 JL:=QB
 JE:=Qy
 XL:=QH
 XE:=fun _=>Qy
 q:=fun j=>match j with | 0=> .ret | _=> .exit 0
 tags:= [0,1]
 lt:=kG
 fuel:=fun(a,b,c,d,e,f,g,i)=>a.natAbs + b.natAbs + c.natAbs + d.natAbs + e.natAbs + f.length + g.length + i.length
 fix:=fun(_,b,c,d,e,f,g,i) (a,_,_,_,_,_,_,_)=>(a,b,c,d,e,f,g,i)
 σ:= [(0,1),(1,0),(2,2),(3,3)]
 rd:=vI
theorem Pn:LoopOk prog (fun k=>Nat.blt k Tryz.f128.ntmps) aH.F (bj f128 0):=by
 refine Lp.ok (tbl:= (T3z [tX])) (lf:= []) aT aH (by kernel_rfl) (LOk.nil _) (fun _=>rfl) (fun j _=>by unfold aH;match j with | 0=>rfl | _ + 1=>rfl) ?_ ?_ ?_ ?_ (fun _=>rfl) ?_
 ·intro _;kernel_rfl
 ·intro _;kernel_rfl
 ·intro s x h
  have h:vI s=some x:=h
  unfold vI at h
  repeat' split at h
  all_goals cases h
  constructor<;>repeat(first|refine ab ‹_› rfl ?_|refine aa rfl ‹_› rfl ?_|rfl)
 ·intro _;kernel_rfl
 ·intro _ _;exact(And.intro (And.intro trivial rfl) trivial)
section
variable (a:aup)(b c d:Int)(e:alv)(f:auQ)
def sg:Int×Int×Int×Int×Int×aup×alv×auQ:=((0:Int),(↑a.length:Int),b,c,d,a,e,f)
def mR:Bool:=Nat.beq ((Lp.res aH (sg a b c d e f)).1) 0
def zA:Int:=bif mR a b c d e f then ((Lp.res aH (sg a b c d e f)).2).1else(-1:Int)
def Hf:Int:=bif mR a b c d e f then b else b
def Hg:Int:=bif mR a b c d e f then c else c
def Hh:Int:=bif mR a b c d e f then d else d
def zB:Bool:=allT [Lp.fin aH (sg a b c d e f)]
end
def GL:awh
 | [.one ⟨false,[.ref 0]⟩,.one ⟨false,[.clo 119 [1]]⟩],[.row false 28 (.sl 2 (.int .i64)) a,.box 27 [.val (.int .i64 b),.val (.int .i64 c),.val (.int .i64 d),.ref 2,.ref 3],.row false 122 (.pair (.int .i64) (.pair .str (.int .i64))) e,.row false 83 (.pair (.int .i64) (.int .i64)) f]=>some ⟨aBC (zA a b c d e f),[aBP a,.box 27 [axb (Hf a b c d e f),axb (Hg a b c d e f),axb (Hh a b c d e f),.ref 2,.ref 3],aBG e,aBO f],[],[zB a b c d e f]⟩
 |_,_=>none
def zw:PF prog:=PF.ofG prog (T3z [tX]) [aH.F] aT 128 f128 func128 (LOk.fnT (l:= [bj f128 0]) (by kernel_rfl) (.cons Pn (.nil _))) GL (by
 intro _ _ _ h;unfold GL at h;split at h<;>cases h;kernel_rfl)
section
variable (a:aup)(b c d:Int)(e:alv)(f:auQ)
def wB:Bool:=leI 0 (zA a b c d e f)
def Sh:Int:=Hf a b c d e f
def Si:Int:=Hg a b c d e f
def Sj:Int:=Hh a b c d e f
def wC:Bool:=allT [zB a b c d e f]
end
def EX:awh
 | [.one ⟨false,[.ref 0]⟩,.one ⟨false,[.clo 119 [1]]⟩],[.row false 28 (.sl 2 (.int .i64)) a,.box 27 [.val (.int .i64 b),.val (.int .i64 c),.val (.int .i64 d),.ref 2,.ref 3],.row false 122 (.pair (.int .i64) (.pair .str (.int .i64))) e,.row false 83 (.pair (.int .i64) (.int .i64)) f]=>some ⟨aBB (.val (.bool (wB a b c d e f))),[aBP a,.box 27 [axb (Sh a b c d e f),axb (Si a b c d e f),axb (Sj a b c d e f),.ref 2,.ref 3],aBG e,aBO f],[],[wC a b c d e f]⟩
 |_,_=>none
def wy:PF prog:=PF.ofG prog (T3z [zw]) [] aT 85 f85 func85 (fun c _=>LOk.nil c) EX (by
 intro _ _ _ h;unfold EX at h;split at h<;>cases h;kernel_rfl)
def XU(a b c:Int)(d:alv)(e:auQ)(f:avO)(g:asZ)(i:aup):Int:=bif !Bt a b c d e then(1:Int)else bif bif !sy b d f g then true else wB i a b c d e then(2:Int)else(0:Int)
def XV(a b c:Int)(d:alv)(e:auQ)(f:avO)(g:asZ)(i:aup):Bool:=allT [!Bt a b c d e||leN f.length (9223372036854775807:Nat)&&(leN d.length (9223372036854775807:Nat)&&XK d),!Bt a b c d e||(!(!!sy b d f g&&true)||wC i a b c d e)]
def ad8:awh
 | [.one ⟨true,[.val (.int .i64 a),.val (.int .i64 b),.val (.int .i64 c),.ref 0,.ref 1]⟩,.one ⟨true,[.ref 2,.ref 3]⟩,.one ⟨false,[.ref 4]⟩],[.row false 122 (.pair (.int .i64) (.pair (.str) (.int .i64))) d,.row false 83 (.pair (.int .i64) (.int .i64)) e,.row false 2 (.int .i64) f,.row false 109 (.pair (.int .i64) (.pair (.int .i64) (.int .i64))) g,.row false 28 (.sl 2 (.int .i64)) i]=>some ⟨aBC (XU a b c d e f g i),[aBG d,aBO e,aBF f,aBN g,aBP i],[],[XV a b c d e f g i]⟩
 |_,_=>none
def aof:PF prog:=PF.ofG prog (T3z [bz,Fh,wy]) [] aT 67 f67 func67 (fun c _=>LOk.nil c) ad8 (by
 intro _ _ _ h;unfold ad8 at h;split at h<;>cases h;kernel_rfl)
theorem aq1{i v o:Int}{bs:List TM}{st:List IN}(h:Bt i v o bs st=true):((0≤i∧i≤20)∧(0≤v∧v≤20)∧(0≤o∧o≤20)∧bs.length≤2000∧st.length≤2000)∧XK bs=true∧alw i v o bs st=true:=by
 simp only [Bt,q8]at h
 exact⟨adc.1 h.1,h.2.1,h.2.2⟩
def ao3(i v o:Int)(bs:List TM)(st:List IN)(xs:avO)(ss:List BS3)(l:aup):Int:=bif !Bt i v o bs st then 1 else bif !(sy v bs xs ss&&l.all (bitsB i))then 2 else 0
def aws(l:aup):Bool:=leN l.length 9223372036854775807&&l.all fun x=>leN x.length 9223372036854775807
def axR(bs:List TM)(xs:avO)(l:aup):Bool:=leN xs.length 9223372036854775807&&(leN bs.length 9223372036854775807&&aws l)
def lb(a:Int)(b:avO):(Unit)→Nat ⊕ (Unit)
 |_=>(bif(Kk b a)then(.inl 0)else(.inr ()))
def dQ(a b c:Int)(d:aup)(e:ajz)(f:auQ)(i:Nat):(Unit)→cv
 |_=>((i:Int),(↑d.length:Int),a,b,c,d,e,f)
def vG:cv→Unit
 |(_,_,_,_,_,_,_,_)=>()
theorem Sx(c e f:Int)(g:aup)(j:ajz)(k:auQ) (hn:g.length≤9223372036854775807) (hA: ∀ x∈g,x.length≤9223372036854775807):
  aH.fin ((0:Int),(↑g.length:Int),c,e,f,g,j,k)=true∧aH.res ((0:Int),(↑g.length:Int),c,e,f,g,j,k)=((br (lb c) 1 g 0 ()).1,(dQ c e f g j k) (br (lb c) 1 g 0 ()).2.1 (br (lb c) 1 g 0 ()).2.2):=by
 have nQ:=aH.along (dQ c e f g j k) vG (lb c) 1 (fun _ _=>True) g () (by trivial) (by simp only [aH,dQ];omega) (fun i b a hb hI=> ?_) (fun a hI=> ?_)
 ·exact nQ
 ·obtain⟨⟩:=a
  have fC:=(v5.1 hb).1
  have lP: ∀ d,v8 g[i]? d=b:=fun d=>by rw [hb];rfl
  have hw:=Bm fC hn
  have fB:ltI (i:Int) (g.length:Int)=true:=dw (by omega)
  have Ly:leI (0:Int) (i:Int)=true:=bk (by omega)
  have sO:ltN i g.length=true:=eD fC
  refine⟨?_,?_,?_,?_⟩
  ·have hg2:dO (i:Int) g=b:=by simp only [dO,q9];exact lP _
   have h6:leN b.length 9223372036854775807=true:=bx (hA b (List.mem_of_getElem? hb))
   simp [le,qz,qA,qB,qC,lg,qD,kG,aH,LT.nds,allT,dQ,Kl,fB,Ly,sO,hg2,h6]
  ·simp [dO,le,qz,qA,qB,qC,lg,qD,kG,aH,LT.each,dQ,vG,hw]
  ·have hg2:dO (i:Int) g=b:=by simp only [dO,q9];exact lP _
   simp only [le,lg,kG,aH,LT.fn,dQ,vG,lb,q9,fB,hg2,cond_true]
  ·exact fun _ _=>trivial
 ·obtain⟨⟩:=a
  simp [dO,le,qz,qA,qB,qC,lg,qD,kG,aH,LT.out,dQ]
theorem azO(i v o:Int)(bs:List TM)(st:List IN)(xs:avO)(ss:List BS3)(l:aup)(h:axR bs xs l=true):
  XU i v o bs st xs ss l=ao3 i v o bs st xs ss l∧XV i v o bs st xs ss l=true:=by
 simp only [axR,aws,q8,List.all_eq_true,gR]at h
 obtain⟨hx,hb,hl,hA⟩:=h
 have t1:leN xs.length 9223372036854775807=true:=bx hx
 have t2:leN bs.length 9223372036854775807=true:=bx hb
 obtain⟨w1,w2⟩:=Sx i v o l bs st hl hA
 rw [lN (P:=fun x=> !bitsB i x) (j:=0) (fun x=>rfl)]at w2
 have e5:(l.any fun x=> !bitsB i x)= !l.all (bitsB i):=by simp [List.all_eq_not_any_not]
 rw [e5]at w2
 have q: ∀ m:Nat,leI 0 (m:Int)=true:=fun m=>bk (by omega)
 have q2:leI 0 (-1)=false:=rfl
 simp only [XU,XV,wB,wC,zA,zB,mR,sg,w1,w2,t1,t2,ao3,allT]
 cases hc:Bt i v o bs st with
 |false=>exact⟨rfl,rfl⟩
 |true=>
  rw [(aq1 hc).2.1]
  cases sy v bs xs ss <;> cases l.all (bitsB i) <;> simp [Nat.beq,q,q2,dQ]
def aee:awh
 | [.one ⟨true,[.val (.int .i64 a),.val (.int .i64 b),.val (.int .i64 c),.ref 0,.ref 1]⟩,.one ⟨true,[.ref 2,.ref 3]⟩,.one ⟨false,[.ref 4]⟩],[.row false 122 (.pair (.int .i64) (.pair (.str) (.int .i64))) d,.row false 83 (.pair (.int .i64) (.int .i64)) e,.row false 2 (.int .i64) f,.row false 109 (.pair (.int .i64) (.pair (.int .i64) (.int .i64))) g,.row false 28 (.sl 2 (.int .i64)) i]=>some ⟨aBC (ao3 a b c d e f g i),[aBG d,aBO e,aBF f,aBN g,aBP i],[],[axR d f i]⟩
 |_,_=>none
def Gv:PF prog:=PF.alt aof aee (by
 intro args es o h cA;unfold aee at h;split at h
 ·rename_i a b c d e f g i
  cases h
  have cA:=jQ cA
  have hh:=azO a b c d e f g i cA
  obtain⟨e0,en⟩:=hh
  exact pW rfl (ip en) (by simp only [e0] <;> rfl) rfl rfl
 ·cases h)
def m0:MS:=(0,[],[],[],[])
section
variable (a b:Int)
def Nl:avO:=qqq a.toNat (0:Int)
def TT:asY:=qqq b.toNat ((0:Int),(0:Int),(0:Int))
def ZF:Bool:=allT [leI 0 a,leI a a,leI ((↑(8:Nat):Int) * a) 281474976710656,leI a 9223372036854775807,leI 0 b,leI b b,leI ((↑(24:Nat):Int) * b) 281474976710656,leI b 9223372036854775807]
end
def afG:awh
 | [.one ⟨false,[.val (.int .i64 a)]⟩,.one ⟨false,[.val (.int .i64 b)]⟩],[]=>some ⟨.one ⟨true,[.ref 0,.ref 1]⟩,[],[aBE (Nl a),aBK (TT b)],[ZF a b]⟩
 |_,_=>none
def agh:PF prog:=PF.ofG prog [] [] aT 66 f66 func66 (fun c _=>LOk.nil c) afG (by
 intro _ _ _ h;unfold afG at h;split at h<;>cases h;kernel_rfl)
abbrev ry:=Int×Int×List (List Int)×Int×Int×Int×List (List Int)×List (Int×(avP×Int))×List (Int×Int)×List Int×List (Int×(Int×Int))
section
variable (a b:Int)(c:aup)(d e f:Int)(g:aup)(i:ajz)(j:auQ)(k:avO)(l:asY)
def qi:avO:=v8 c[v6 a]? (xS (CTy.sl (2:TypeId) anW))
def zp:aup:= [((rnM f i j (qi a c) k l).2.2.2).1]
def Ip:Bool:=ltI a b
def OW:Bool:=leI 0 a
def OX:Bool:=ltI a (↑c.length:Int)
def OY:Bool:=ltN a.toNat c.length
def OZ:Bool:=aq7 d e f i j (qi a c) k l
def Pa:Bool:=leN (v7 g + v7 (zp a c f i j k l)) 9223372036854775807
def Pb:Bool:=leN ((v7 g + v7 (zp a c f i j k l)) * 24) 140737488355328
def Wf:Int:=v9 .i64 (a + (1:Int))
def Pc:aup:=g++zp a c f i j k l
def Pf:avO:=((rnM f i j (qi a c) k l).2.2).1
def Mi:asY:=(rnM f i j (qi a c) k l).2.2.2.2
end
def akw:ry→List (Nat×SV)
 |(a,b,_,_,_,_,_,_,_,_,_)=> [(36,(aBC a)),(35,(aBC b)),(34,(aBB (.ref 0))),(2,(aBB (.ptr 1 0))),(6,(aBB (.ptr 2 0))),(8,(aBB (.ref 3)))]
def akn:ry→List (Nat×Entry)
 |(_,_,a,b,c,d,e,f,g,i,j)=> [(0,(aBP a)),(1,(.box 27 [axb b,axb c,axb d,.ref 4,.ref 5])),(2,(.box 50 [.ref 6,.ref 7])),(4,(aBG f)),(5,(aBO g)),(3,(.tree 28 agV e none)),(6,(aBE i)),(7,(aBK j))]
def akO:Nat→ry→List (Nat×SV)
 |_,(_,_,_,_,_,_,_,_,_,_,_)=> [(8,(aBB (.ref 3)))]
def akF:Nat→ry→List (Nat×Entry)
 |_,(_,_,a,b,c,d,e,f,g,i,j)=> [(0,(aBP a)),(1,(.box 27 [axb b,axb c,axb d,.ref 4,.ref 5])),(2,(.box 50 [.ref 6,.ref 7])),(3,(.tree 28 agV e none)),(4,(aBG f)),(5,(aBO g)),(6,(aBE i)),(7,(aBK j))]
def GW:ry→LT ry
 |(a,b,c,d,e,f,g,i,j,k,l)=> .ite (Ip a b) (.need [OW a,OX a c,OY a c] (.need [OZ a c d e f i j k l] (.need [Pa a c f g i j k l,Pb a c f g i j k l] (.nrm ((Wf a),b,c,d,e,f,Pc a c f g i j k l,i,j,Pf a c f i j k l,(Mi a c f i j k l)) [(0,0),(1,1),(2,2),(3,1152),(4,4),(5,5),(6,513),(7,514)])))) (.ext 0 [(0,0),(1,1),(2,2),(3,3),(4,4),(5,5),(6,6),(7,7)])
def UT(s:St):Option ry:=do
 let some ⟨none,.one ⟨false,[.val (.int .i64 a)]⟩⟩:=s.look 36|none
 let some ⟨none,.one ⟨false,[.val (.int .i64 b)]⟩⟩:=s.look 35|none
 let some ⟨none,.one ⟨false,[.ref 2]⟩⟩:=s.look 34|none
 let some ⟨none,.one ⟨false,[.ptr 256 0]⟩⟩:=s.look 2|none
 let some ⟨none,.one ⟨false,[.ptr 1344 0]⟩⟩:=s.look 6|none
 let some ⟨none,.one ⟨false,[.ref 1920]⟩⟩:=s.look 8|none
 let some (.row false 28 (.sl 2 (.int .i64)) c):=s.ent 2|none
 let some (.box 27 [.val (.int .i64 d),.val (.int .i64 e),.val (.int .i64 f),.ref 0,.ref 1]):=s.ent 256|none
 let some (.box 50 [.ref 1280,.ref 1281]):=s.ent 1344|none
 let some (.row false 122 (.pair (.int .i64) (.pair .str (.int .i64))) i):=s.ent 0|none
 let some (.row false 83 (.pair (.int .i64) (.int .i64)) j):=s.ent 1|none
 let some (.tree 28 (.sl 2 (.int .i64)) g none):=s.ent 1920|none
 let some (.row true 2 (.int .i64) k):=s.ent 1280|none
 let some (.row true 109 (.pair (.int .i64) (.pair (.int .i64) (.int .i64))) l):=s.ent 1281|none
 some (a,b,c,d,e,f,g,i,j,k,l)
def jM:Lp ry where
 h:=⟨[37,38,39,10,41,42,43,44,40,45,46,12,11,47,48,49,50,8,51,52,36],[0,1,2,4,5],[3,6,7],[]⟩
 JL:=akw
 JE:=akn
 XL:=akO
 XE:=akF
 q:=fun j=>match j with | _=> .exit 1
 tags:= [0]
 lt:=GW
 fuel:=fun(a,b,c,d,e,f,g,i,k,l,m)=>a.natAbs + b.natAbs + c.length + d.natAbs + e.natAbs + f.natAbs + g.length + i.length + k.length + l.length + m.length
 fix:=fun(_,b,c,d,e,f,_,i,k,_,_) (a,_,_,_,_,_,g,_,_,l,m)=>(a,b,c,d,e,f,g,i,k,l,m)
 σ:= [(0,2),(1,256),(2,1344),(4,0),(5,1),(3,1920),(6,1280),(7,1281)]
 rd:=UT
theorem aim:LoopOk prog (fun k=>Nat.blt k Tryz.f27.ntmps) jM.F (bj f27 0):=by
 refine Lp.ok (tbl:= (PF.trees prog::T3z [Fh,agh,Gv,Ko])) (lf:= []) aT jM (by kernel_rfl) (LOk.nil _) (fun _=>rfl) (fun _ _=>rfl) ?_ ?_ ?_ ?_ (fun _=>rfl) ?_
 ·intro _;kernel_rfl
 ·intro _;kernel_rfl
 ·intro s x h
  have h:UT s=some x:=h
  unfold UT at h
  repeat' split at h
  all_goals cases h
  constructor<;>repeat(first|refine ab ‹_› rfl ?_|refine aa rfl ‹_› rfl ?_|rfl)
 ·intro _;kernel_rfl
 ·intro _ _;exact(And.intro rfl trivial)
section
variable (a b c:Int)(d:alv)(e:auQ)(f:aup)
def HV:Bool:=ltI 200 (↑f.length:Int)
def ZC:Int:=ao3 a b c d e (Nl b) (TT (↑d.length:Int)) f
def TS:Bool:=ZC a b c d e f !=0
def ZD:Int×Int×aup×Int×Int×Int×aup×alv×auQ×avO×asZ:=((0:Int),(↑f.length:Int),f,a,b,c,[],d,e,Nl b,TT (↑d.length:Int))
def aa9:Int:=bif !Bt a b c d e then(1:Int)else bif HV f then(3:Int)else bif TS a b c d e f then ZC a b c d e f else(0:Int)
def aba:aup:=bif !Bt a b c d e then []else bif HV f then []else bif TS a b c d e f then []else ((Lp.res jM (ZD a b c d e f)).2.2.2.2.2.2.2).1
def abb:Bool:=allT [!Bt a b c d e||(HV f||ZF b (↑d.length:Int)),!Bt a b c d e||(HV f||axR d (Nl b) f),!Bt a b c d e||(HV f||(TS a b c d e f||Lp.fin jM (ZD a b c d e f)))]
end
def ahf:awh
 | [.one ⟨true,[.val (.int .i64 a),.val (.int .i64 b),.val (.int .i64 c),.ref 0,.ref 1]⟩,.one ⟨false,[.ref 2]⟩],[.row false 122 (.pair (.int .i64) (.pair (.str) (.int .i64))) d,.row false 83 (.pair (.int .i64) (.int .i64)) e,.row false 28 (.sl 2 (.int .i64)) f]=>some ⟨.tup [⟨false,[.ref 3]⟩,⟨false,[axb (aa9 a b c d e f)]⟩],[aBG d,aBO e,aBP f],[.tree 28 agV (aba a b c d e f) none],[abb a b c d e f]⟩
 |_,_=>none
def aqj:PF prog:=PF.ofG prog (PF.trees prog::T3z [Fh,agh,Gv,Ko]) [jM.F] aT 27 f27 func27 (LOk.fnT (l:= [bj f27 0]) (by kernel_rfl) (.cons aim (.nil _))) ahf (by
 intro _ _ _ h;unfold ahf at h;split at h<;>cases h;kernel_rfl)
def awQ(ll:aup):Nat:=(ll.map v7).sum
theorem aw4{i v o:Int}{bs:List TM}{st:List IN}{inp:avO}(hC:Bt i v o bs st=true)(Kj:bitsB i inp=true): ∀ (n:Nat) (m:MS),OkS i v o bs st m→st.length - m.1.toNat=n→
  OkS i v o bs st (asl bs st inp n m)∧(asl bs st inp n m).1=st.length
 |0,m,hm,hn=>⟨hm,by
  have:=hm.lo
  have:=hm.hi
  show m.1=_
  omega⟩
 |n + 1,m,hm,hn=>by
  have h0:=hm.lo
  have fC:m.1 < st.length:=by omega
  have hs:=(awO hC Kj hm fC).1
  have he:(avF bs st inp m).1=m.1 + 1:=rfl
  exact aw4 hC Kj n _ hs (by rw [he];omega)
theorem aAJ{i v o:Int}{bs:List TM}{st:List IN}{inp:avO}{k:Int}{stk xs os:avO}{ss:List BS3}(h:atg i v o bs st inp k stk xs os ss=true):OkS i v o bs st (fnM bs st inp k stk xs os ss)∧(fnM bs st inp k stk xs os ss).1=st.length:=by
 simp only [atg,q8]at h
 exact aw4 h.1 h.2.1 _ _ (ayX h.1 h.2.2) rfl
def goL(o:Int)(bs:List TM)(st:List IN):aup→avO→List BS3→aup
 | [],_,_=> []
 |inp::r,xs,ss=>(rnM o bs st inp xs ss).2.2.2.1::goL o bs st r (rnM o bs st inp xs ss).2.2.1 (rnM o bs st inp xs ss).2.2.2.2
theorem azy{i v o:Int}{bs:List TM}{st:List IN}{inp xs:avO}{ss:List BS3}(h:aq7 i v o bs st inp xs ss=true):
  sy v bs (rnM o bs st inp xs ss).2.2.1 (rnM o bs st inp xs ss).2.2.2.2=true∧(rnM o bs st inp xs ss).2.2.2.1.length≤20:=by
 have hr:=(ayA h).1
 have hk:=(aAJ hr).1
 have hC:Bt i v o bs st=true:=by simp only [aq7,q8]at h;exact h.1
 exact⟨aj3.2 ⟨hk.sl,hk.vl,hk.sp⟩,(aAF hC hk).2.2.1⟩
theorem as8{k:Int}{s:avP}{n:Int}(h:MU k s n=true):possB k n 0 0 0=true:=by
 obtain⟨h1,h2,h3⟩:=agM h
 have t:inR 0 0 n=true:=ua.2 (by omega)
 have t1:inR 0 0 1=true:=rfl
 rcases kinds h1 with rfl | rfl | rfl | rfl | rfl | rfl <;> simp [possB,ed,aw,QU,t,t1] <;> omega
def agp(v:Int):avO:=qqq v.toNat 0
def Sd(bs:List TM):List BS3:=qqq bs.length ((0:Int),(0:Int),(0:Int))
theorem ax7{i v o:Int}{bs:List TM}{st:List IN}(hC:Bt i v o bs st=true):sy v bs (agp v) (Sd bs)=true:=by
 obtain⟨⟨ri,rv,ro,rb,rs⟩,hB,jb⟩:=aq1 hC
 refine aj3.2 ⟨by simp [Sd],ct.2 ⟨fun z hz=> .inl (qqw hz),by rw [agp,k9];omega⟩,fun k hk=> ?_⟩
 simp only [XK,List.all_eq_true]at hB
 have h1:stAt (Sd bs) k=(0,0,0):=by
  simp only [stAt,Sd]
  rw [List.getElem?_replicate,if_pos hk];rfl
 have h2:gU bs k∈bs:=by
  simp only [gU,List.getElem?_eq_getElem hk];exact List.getElem_mem hk
 simp only [possAt,h1]
 exact as8 (hB _ h2)
def abs(i v o:Int)(bs:List TM)(st:List IN)(l:aup):Int:=bif !Bt i v o bs st then 1 else bif ltI 200 (l.length:Int)then 3 else bif !l.all (bitsB i)then 2 else 0
def rsO(i v o:Int)(bs:List TM)(st:List IN)(l:aup):aup:=bif abs i v o bs st l==0 then goL o bs st l (agp v) (Sd bs)else []
def axZ(bs:List TM)(l:aup):Bool:=aAb bs&&aze 9223372036854775807 l
def AP(a:Int)(d:ajz)(e:auQ)(b:avO):(aup×avO×asY)→Nat ⊕ (aup×avO×asY)
 |(c,f,g)=>(.inr ((c++([((rnM a d e b f g).2.2.2).1])),(((rnM a d e b f g).2.2).1),((rnM a d e b f g).2.2.2.2)))
def vg(a:aup)(b c d:Int)(f:ajz)(g:auQ)(i:Nat):(aup×avO×asY)→ry
 |(e,j,k)=>((i:Int),(↑a.length:Int),a,b,c,d,e,f,g,j,k)
def UL:ry→aup×avO×asY
 |(_,_,_,_,_,_,a,_,_,b,c)=>(a,b,c)
theorem ani(c:aup)(e f g:Int)(k:ajz)(l:auQ)(j:aup)(m:avO)(n:asY)(hn:c.length≤9223372036854775807)(hC:Bt e f g k l=true)(hA: ∀ x∈c,bitsB e x=true)(h200:c.length≤200)(hS:sy f k m n=true)(h5:j.length=0):
  jM.fin ((0:Int),(↑c.length:Int),c,e,f,g,j,k,l,m,n)=true∧jM.res ((0:Int),(↑c.length:Int),c,e,f,g,j,k,l,m,n)=((br (AP g k l) 0 c 0 (j,m,n)).1,(vg c e f g k l) (br (AP g k l) 0 c 0 (j,m,n)).2.1 (br (AP g k l) 0 c 0 (j,m,n)).2.2):=by
 have nQ:=jM.along (vg c e f g k l) UL (AP g k l) 0 (fun i a=>sy f k a.2.1 a.2.2=true∧a.1.length=i) c (j,m,n) ⟨hS,h5⟩ (by simp only [jM,vg];omega) (fun i b a hb hI=> ?_) (fun a hI=> ?_)
 ·exact nQ
 ·obtain⟨j,m,n⟩:=a
  have fC:=(v5.1 hb).1
  have lP: ∀ d,v8 c[i]? d=b:=fun d=>by rw [hb];rfl
  have hw:=Bm fC hn
  have fB:ltI (i:Int) (c.length:Int)=true:=dw (by omega)
  have Ly:leI (0:Int) (i:Int)=true:=bk (by omega)
  have sO:ltN i c.length=true:=eD fC
  refine⟨?_,?_,?_,?_⟩
  ·have hg2:qi (i:Int) c=b:=by simp only [qi,q9];exact lP _
   have hl:=hI.2
   have he:aq7 e f g k l b m n=true:=by simp only [aq7,hC,hA b (List.mem_of_getElem? hb),hI.1];rfl
   have h6:leN (j.length + 1) 9223372036854775807=true:=bx (by simp only at hl;omega)
   have h7:leN ((j.length + 1) * 24) 140737488355328=true:=bx (by simp only at hl;omega)
   simp only [Ip,OW,OX,OY,OZ,Pa,Pb,zp,GW,jM,LT.nds,allT,vg,fB,Ly,sO,hg2,he,w5,h6,h7,q9,cond_true]
  ·simp [qi,zp,Ip,OW,OX,OY,OZ,Pa,Pb,Wf,Pc,Pf,Mi,GW,jM,LT.each,vg,UL,hw]
  ·have hg2:qi (i:Int) c=b:=by simp only [qi,q9];exact lP _
   simp only [Ip,Pc,Pf,Mi,zp,GW,jM,LT.fn,vg,UL,AP,q9,fB,hg2,cond_true]
  ·intro a' hf
   simp only [AP,Sum.inr.injEq]at hf
   subst hf
   have he:aq7 e f g k l b m n=true:=by simp only [aq7,hC,hA b (List.mem_of_getElem? hb),hI.1];rfl
   exact⟨(azy he).1,by have hl:=hI.2;simp only at hl;simp [hl]⟩
 ·obtain⟨j,m,n⟩:=a
  simp [qi,zp,Ip,OW,OX,OY,OZ,Pa,Pb,Wf,Pc,Pf,Mi,GW,jM,LT.out,vg]
theorem avK{o:Int}{bs:List TM}{st:List IN}{f:avO→aup×avO×List BS3→Nat ⊕ (aup×avO×List BS3)}
  (hf: ∀ b a,f b a= .inr (a.1++ [(rnM o bs st b a.2.1 a.2.2).2.2.2.1],(rnM o bs st b a.2.1 a.2.2).2.2.1,(rnM o bs st b a.2.1 a.2.2).2.2.2.2)) {e:Nat}:
  ∀ (r:aup) (i:Nat) (acc:aup) (xs:avO) (ss:List BS3),(br f e r i (acc,xs,ss)).2.2.1=acc++goL o bs st r xs ss
 | [],i,acc,xs,ss=>by simp [br,goL]
 |b::r,i,acc,xs,ss=>by
  simp only [br,hf]
  rw [avK hf r]
  simp [goL]
theorem ay8(i v o:Int)(bs:List TM)(st:List IN)(l:aup):(Bt i v o bs st=false∧abs i v o bs st l=1)∨(Bt i v o bs st=true∧ltI 200 (l.length:Int)=true∧abs i v o bs st l=3)∨
  (Bt i v o bs st=true∧ltI 200 (l.length:Int)=false∧l.all (bitsB i)=false∧abs i v o bs st l=2)∨(Bt i v o bs st=true∧ltI 200 (l.length:Int)=false∧l.all (bitsB i)=true∧abs i v o bs st l=0):=by
 simp only [abs]
 cases Bt i v o bs st <;> cases ltI 200 (l.length:Int) <;> cases l.all (bitsB i) <;> simp
theorem aoY{l:aup}(h:ltI 200 (l.length:Int)=false):l.length≤200:=by
 rcases Nat.lt_or_ge 200 l.length with h' | h'
 ·rw [dw (by omega)]at h;cases h
 ·exact h'
theorem aAA(i v o:Int)(bs:List TM)(st:List IN)(l:aup)(h:axZ bs l=true):
  aa9 i v o bs st l=abs i v o bs st l∧aba i v o bs st l=rsO i v o bs st l∧abb i v o bs st l=true:=by
 simp only [axZ,q8]at h
 obtain⟨hT,hl⟩:=h
 obtain⟨hn,hA⟩:=apq.1 hl
 have eb:(↑(v7 bs):Int).toNat=bs.length:=by omega
 have z1:qqq (v6 v) (0:Int)=agp v:=rfl
 have z2:qqq bs.length ((0:Int),(0:Int),(0:Int))=Sd bs:=rfl
 simp only [aa9,aba,abb,HV,ZC,TS,ZD,Nl,TT,ZF,eb,z1,z2,rsO,allT]
 rcases ay8 i v o bs st l with⟨h1,h2⟩ | ⟨h1,h3,h2⟩ | h
 ·rw [h1,h2];simp
 ·rw [h1,h2,h3];simp
 ·have h1:Bt i v o bs st=true:=by rcases h with h | h <;> exact h.1
  have h3:ltI 200 (l.length:Int)=false:=by rcases h with h | h <;> exact h.2.1
  have hS:=ax7 h1
  obtain⟨⟨ri,rv,ro,rb,rs⟩,hB,jb⟩:=aq1 h1
  have u1:leI 0 v=true:=bk (by omega)
  have u2:leI v v=true:=bk (by omega)
  have u3:leI ((↑(8:Nat):Int) * v) 281474976710656=true:=bk (by omega)
  have u4:leI v 9223372036854775807=true:=bk (by omega)
  have u5:leI 0 (bs.length:Int)=true:=bk (by omega)
  have u6:leI (bs.length:Int) (bs.length:Int)=true:=bk (by omega)
  have u7:leI ((↑(24:Nat):Int) * (bs.length:Int)) 281474976710656=true:=bk (by omega)
  have u8:leI (bs.length:Int) 9223372036854775807=true:=bk (by omega)
  have hz:(agp v).length≤20:=by rw [agp,k9];omega
  have m1:axR bs (agp v) l=true:=by
   simp only [axR,aws,bx (show (agp v).length≤9223372036854775807 by omega),bx (show bs.length≤9223372036854775807 by omega),bx hn,Bool.true_and,List.all_eq_true,gR]
   exact hA
  have m2:ao3 i v o bs st (agp v) (Sd bs) l=bif !l.all (bitsB i)then 2 else 0:=by
   simp only [ao3,h1,hS];cases l.all (bitsB i) <;> rfl
  rw [m1,m2,h1,h3,u1,u2,u3,u4,u5,u6,u7,u8]
  rcases h with⟨_,_,h4,h2⟩ | ⟨_,_,h4,h2⟩
  ·rw [h2,h4];simp
  ·have hA2: ∀ x∈l,bitsB i x=true:=List.all_eq_true.1 h4
   obtain⟨v1,v2⟩:=ani l i v o bs st [] (agp v) (Sd bs) (by have:=aoY h3;omega) h1 hA2 (aoY h3) hS rfl
   have v3:=avK (o:=o) (bs:=bs) (st:=st) (f:=AP o bs st) (e:=0) (fun b a=>rfl) l 0 [] (agp v) (Sd bs)
   rw [h2,h4,v1,v2]
   simp [vg,v3,Nat.beq]
def ahy:awh
 | [.one ⟨true,[.val (.int .i64 a),.val (.int .i64 b),.val (.int .i64 c),.ref 0,.ref 1]⟩,.one ⟨false,[.ref 2]⟩],[.row false 122 (.pair (.int .i64) (.pair (.str) (.int .i64))) d,.row false 83 (.pair (.int .i64) (.int .i64)) e,.row false 28 (.sl 2 (.int .i64)) f]=>some ⟨.tup [⟨false,[.ref 3]⟩,⟨false,[axb (abs a b c d e f)]⟩],[aBG d,aBO e,aBP f],[.tree 28 agV (rsO a b c d e f) none],[axZ d f]⟩
 |_,_=>none
def abn:PF prog:=PF.alt aqj ahy (by
 intro args es o h cA;unfold ahy at h;split at h
 ·rename_i a b c d e f
  cases h
  have cA:=jQ cA
  have hh:=aAA a b c d e f cA
  obtain⟨e0,e1,en⟩:=hh
  exact pW rfl (ip en) (by simp only [e0] <;> rfl) rfl (by simp only [e1] <;> rfl)
 ·cases h)
def sgO(ins vs os:List avP)(g:avP)(ls:List LN):aup→avO→List BS3→aup
 | [],_,_=> []
 |inp::r,xs,ss=>scO ins vs os g ls inp xs ss::sgO ins vs os g ls r (scV ins vs os ls inp xs ss) (scB ins vs os ls inp xs ss)
def sgM(ins vs os:List avP)(ls:List LN):aup→avO→List BS3→avO×List BS3
 | [],xs,ss=>(xs,ss)
 |inp::r,xs,ss=>sgM ins vs os ls r (scV ins vs os ls inp xs ss) (scB ins vs os ls inp xs ss)
def zv(vs:List avP):avO:=qqq vs.length 0
theorem aqF{nm:avP}{ins vs os:List avP}{g:avP}{ls:List LN}{xs:avO}{ss:List BS3}{inp:avO}(h:scG nm ins vs os g ls xs ss inp=true):
  sy vs.length (blL ls) (scV ins vs os ls inp xs ss) (scB ins vs os ls inp xs ss)=true∧(scO ins vs os g ls inp xs ss).length≤20:=by
 obtain⟨h1,h2,h3⟩:=aca.1 h
 have hS:=amH h1 h3
 obtain⟨a,b⟩:=az6 (os:=os) (g:=g) h3 hS.hL h2
 have:=(ct.1 b).2
 have:=hS.h3
 exact⟨a,by omega⟩
theorem ar1{nm:avP}{ins vs os:List avP}{g:avP}{ls:List LN}(hS:dS nm ins vs os g ls=true): ∀ (r:aup) (xs:avO) (ss:List BS3),
  (∀ x∈r,bitsB ins.length x=true)→sy vs.length (blL ls) xs ss=true→
  (sgO ins vs os g ls r xs ss).length=r.length∧(∀ x∈sgO ins vs os g ls r xs ss,x.length≤20)∧sy vs.length (blL ls) (sgM ins vs os ls r xs ss).1 (sgM ins vs os ls r xs ss).2=true
 | [],_,_,_,hs=>⟨rfl,fun x hx=>(List.not_mem_nil hx).elim,hs⟩
 |inp::r,xs,ss,hA,hs=>by
  obtain⟨h1,h2⟩:=aqF (aca.2 ⟨hS,hs,hA inp (by simp)⟩)
  obtain⟨g1,g2,g3⟩:=ar1 hS r _ _ (fun x hx=>hA x (by simp [hx])) h1
  refine⟨by simp [sgO,g1],fun x hx=> ?_,g3⟩
  rcases List.mem_cons.1 hx with rfl | hx
  ·exact h2
  ·exact g2 x hx
theorem aqH{nm:avP}{ins vs os:List avP}{g:avP}{ls:List LN}(hS:dS nm ins vs os g ls=true):sy vs.length (blL ls) (zv vs) (Sd (blL ls))=true:=by
 have hB:=afW ls (Gy hS).2.1
 refine aj3.2 ⟨by simp [Sd],ct.2 ⟨fun z hz=> .inl (qqw hz),by rw [zv,k9]⟩,fun k hk=> ?_⟩
 simp only [XK,List.all_eq_true]at hB
 have h1:stAt (Sd (blL ls)) k=(0,0,0):=by
  simp only [stAt,Sd]
  rw [List.getElem?_replicate,if_pos hk];rfl
 have h2:gU (blL ls) k∈blL ls:=by
  simp only [gU,List.getElem?_eq_getElem hk];exact List.getElem_mem hk
 simp only [possAt,h1]
 exact as8 (hB _ h2)
def rgC(nm:avP)(ins vs os:List avP)(g:avP)(ls:List LN)(l:aup):Int:=bif !dS nm ins vs os g ls then 1 else bif ltI 200 (l.length:Int)then 3 else bif !l.all (fun x=>bitsB ins.length x)then 2 else 0
def rgO(nm:avP)(ins vs os:List avP)(g:avP)(ls:List LN)(l:aup):aup:=bif rgC nm ins vs os g ls l==0 then sgO ins vs os g ls l (zv vs) (Sd (blL ls))else []
def rgV(nm:avP)(ins vs os:List avP)(g:avP)(ls:List LN)(l:aup):avO:=bif rgC nm ins vs os g ls l==0 then(sgM ins vs os ls l (zv vs) (Sd (blL ls))).1 else []
def rgB(nm:avP)(ins vs os:List avP)(g:avP)(ls:List LN)(l:aup):List BS3:=bif rgC nm ins vs os g ls l==0 then(sgM ins vs os ls l (zv vs) (Sd (blL ls))).2 else []
def rgN(nm:avP)(ins vs os:List avP)(g:avP)(ls:List LN)(l:aup):Bool:=Uc nm ins vs os g ls&&aze 9223372036854775807 l
theorem aom(nm:avP)(ins vs os:List avP)(g:avP)(ls:List LN)(l:aup):
  (dS nm ins vs os g ls=false∧rgC nm ins vs os g ls l=1)∨(dS nm ins vs os g ls=true∧ltI 200 (l.length:Int)=true∧rgC nm ins vs os g ls l=3)∨
  (dS nm ins vs os g ls=true∧ltI 200 (l.length:Int)=false∧l.all (fun x=>bitsB ins.length x)=false∧rgC nm ins vs os g ls l=2)∨
  (dS nm ins vs os g ls=true∧ltI 200 (l.length:Int)=false∧l.all (fun x=>bitsB ins.length x)=true∧rgC nm ins vs os g ls l=0):=by
 simp only [rgC]
 cases dS nm ins vs os g ls <;> cases ltI 200 (l.length:Int) <;> cases l.all (fun x=>bitsB ins.length x) <;> simp
def MY(a:List avP)(b:avO):(Unit)→Nat ⊕ (Unit)
 |_=>(bif(!bitsB (↑a.length:Int) b)then(.inl 0)else(.inr ()))
def Dd(a:aup)(b c:avP)(d e f:List avP)(g:afa)(j:avO)(k:asY)(i:Nat):(Unit)→uT
 |_=>((i:Int),a,b,c,d,e,f,g,j,k)
def Yg:uT→Unit
 |(_,_,_,_,_,_,_,_,_,_)=>()
theorem apv(c:aup)(e f:avP)(g j k:List avP)(l:afa)(m:avO)(n:asY) (hn:c.length≤9223372036854775807) (hA: ∀ x∈c,x.length≤9223372036854775807):
  kX.fin ((0:Int),c,e,f,g,j,k,l,m,n)=true∧kX.res ((0:Int),c,e,f,g,j,k,l,m,n)=((br (MY g) 1 c 0 ()).1,(Dd c e f g j k l m n) (br (MY g) 1 c 0 ()).2.1 (br (MY g) 1 c 0 ()).2.2):=by
 have nQ:=kX.along (Dd c e f g j k l m n) Yg (MY g) 1 (fun _ _=>True) c () (by trivial) (by simp only [kX,Dd];omega) (fun i b a hb hI=> ?_) (fun a hI=> ?_)
 ·exact nQ
 ·obtain⟨⟩:=a
  have fC:=(v5.1 hb).1
  have lP: ∀ d,v8 c[i]? d=b:=fun d=>by rw [hb];rfl
  have hw:=Bm fC hn
  have fB:ltI (i:Int) (c.length:Int)=true:=dw (by omega)
  have Ly:leI (0:Int) (i:Int)=true:=bk (by omega)
  have sO:ltN i c.length=true:=eD fC
  refine⟨?_,?_,?_,?_⟩
  ·have hg2:Ad (i:Int) c=b:=by simp only [Ad,q9];exact lP _
   have h6:leN b.length 9223372036854775807=true:=bx (hA b (List.mem_of_getElem? hb))
   simp only [Id,NS,NT,NU,NV,NW,KN,kX,LT.nds,allT,Dd,q9,fB,Ly,sO,hg2,h6,cond_true,Bool.and_self]
   cases !bitsB (g.length:Int) b <;> rfl
  ·simp [Ad,Id,NS,NT,NU,NV,NW,KN,kX,LT.each,Dd,Yg,hw]
  ·have hg2:Ad (i:Int) c=b:=by simp only [Ad,q9];exact lP _
   simp only [Id,NS,NT,NU,NV,NW,KN,kX,LT.fn,Dd,Yg,MY,q9,fB,hg2,cond_true]
  ·exact fun _ _=>trivial
 ·obtain⟨⟩:=a
  simp [Ad,Id,NS,NT,NU,NV,NW,KN,kX,LT.out,Dd]
def Ev(a:avP)(d e f:List avP)(g:afa)(b:avO):(aup×avO×asY)→Nat ⊕ (aup×avO×asY)
 |(c,i,j)=>(.inr ((c++([scO d e f a g b i j])),scV d e f g b i j,(scB d e f g b i j)))
def Af(a:aup)(b c:avP)(e f g:List avP)(j:afa)(i:Nat):(aup×avO×asY)→uU
 |(d,k,l)=>((i:Int),a,b,c,d,e,f,g,j,k,l)
def Yh:uU→aup×avO×asY
 |(_,_,_,_,a,_,_,_,_,b,c)=>(a,b,c)
theorem apw(c:aup)(e f:avP)(j k l:List avP)(m:afa)(g:aup)(n:avO)(o:asY)(hn:c.length≤9223372036854775807)(hC:dS e j k l f m=true)(hA: ∀ x∈c,bitsB j.length x=true)(h200:c.length≤200)(hS:sy k.length (blL m) n o=true)(h4:g.length=0):
  mA.fin ((0:Int),c,e,f,g,j,k,l,m,n,o)=true∧mA.res ((0:Int),c,e,f,g,j,k,l,m,n,o)=((br (Ev f j k l m) 0 c 0 (g,n,o)).1,(Af c e f j k l m) (br (Ev f j k l m) 0 c 0 (g,n,o)).2.1 (br (Ev f j k l m) 0 c 0 (g,n,o)).2.2):=by
 have nQ:=mA.along (Af c e f j k l m) Yh (Ev f j k l m) 0 (fun i a=>sy k.length (blL m) a.2.1 a.2.2=true∧a.1.length=i) c (g,n,o) ⟨hS,h4⟩ (by simp only [mA,Af];omega) (fun i b a hb hI=> ?_) (fun a hI=> ?_)
 ·exact nQ
 ·obtain⟨g,n,o⟩:=a
  have fC:=(v5.1 hb).1
  have lP: ∀ d,v8 c[i]? d=b:=fun d=>by rw [hb];rfl
  have hw:=Bm fC hn
  have fB:ltI (i:Int) (c.length:Int)=true:=dw (by omega)
  have Ly:leI (0:Int) (i:Int)=true:=bk (by omega)
  have sO:ltN i c.length=true:=eD fC
  refine⟨?_,?_,?_,?_⟩
  ·have hg2:tB (i:Int) c=b:=by simp only [tB,q9];exact lP _
   have hl:=hI.2
   have he:scG e j k l f m n o b=true:=aca.2 ⟨hC,hI.1,hA b (List.mem_of_getElem? hb)⟩
   have h6:leN (g.length + 1) 9223372036854775807=true:=bx (by simp only at hl;omega)
   have h7:leN ((g.length + 1) * 24) 140737488355328=true:=bx (by simp only at hl;omega)
   simp only [Ie,NX,NY,NZ,Oa,Ob,Oc,Od,Oe,Of,KO,mA,Dc,LT.nds,allT,Af,fB,Ly,sO,hg2,he,w5,h6,h7,q9,cond_true]
  ·simp [tB,Dc,Ie,NX,NY,NZ,Oa,Ob,Oc,Od,Oe,Of,KO,mA,LT.each,Af,Yh,hw]
  ·have hg2:tB (i:Int) c=b:=by simp only [tB,q9];exact lP _
   simp only [Ie,NX,NY,NZ,Oa,Ob,Oc,Od,Oe,Of,KO,mA,Dc,LT.fn,Af,Yh,Ev,q9,fB,hg2,cond_true]
  ·intro a' hf
   simp only [Ev,Sum.inr.injEq]at hf
   subst hf
   have he:scG e j k l f m n o b=true:=aca.2 ⟨hC,hI.1,hA b (List.mem_of_getElem? hb)⟩
   exact⟨(aqF he).1,by have hl:=hI.2;simp only at hl;simp [hl]⟩
 ·obtain⟨g,n,o⟩:=a
  simp [tB,Dc,Ie,NX,NY,NZ,Oa,Ob,Oc,Od,Oe,Of,KO,mA,LT.out,Af]
def AQ(a:avP)(d e f:List avP)(g:afa)(b:avO):(aup×avO×asY)→Nat ⊕ (aup×avO×asY)
 |(c,i,j)=>(.inr ((c++([scO d e f a g b i j])),scV d e f g b i j,(scB d e f g b i j)))
def vh(a:aup)(b c:avP)(e f g:List avP)(j:afa)(i:Nat):(aup×avO×asY)→rA
 |(d,k,l)=>((i:Int),(↑a.length:Int),a,b,c,d,e,f,g,j,k,l)
def UN:rA→aup×avO×asY
 |(_,_,_,_,_,a,_,_,_,_,b,c)=>(a,b,c)
theorem ank(c:aup)(e f:avP)(j k l:List avP)(m:afa)(g:aup)(n:avO)(o:asY)(hn:c.length≤9223372036854775807)(hC:dS e j k l f m=true)(hA: ∀ x∈c,bitsB j.length x=true)(h200:c.length≤200)(hS:sy k.length (blL m) n o=true)(h5:g.length=0):
  jN.fin ((0:Int),(↑c.length:Int),c,e,f,g,j,k,l,m,n,o)=true∧jN.res ((0:Int),(↑c.length:Int),c,e,f,g,j,k,l,m,n,o)=((br (AQ f j k l m) 0 c 0 (g,n,o)).1,(vh c e f j k l m) (br (AQ f j k l m) 0 c 0 (g,n,o)).2.1 (br (AQ f j k l m) 0 c 0 (g,n,o)).2.2):=by
 have nQ:=jN.along (vh c e f j k l m) UN (AQ f j k l m) 0 (fun i a=>sy k.length (blL m) a.2.1 a.2.2=true∧a.1.length=i) c (g,n,o) ⟨hS,h5⟩ (by simp only [jN,vh];omega) (fun i b a hb hI=> ?_) (fun a hI=> ?_)
 ·exact nQ
 ·obtain⟨g,n,o⟩:=a
  have fC:=(v5.1 hb).1
  have lP: ∀ d,v8 c[i]? d=b:=fun d=>by rw [hb];rfl
  have hw:=Bm fC hn
  have fB:ltI (i:Int) (c.length:Int)=true:=dw (by omega)
  have Ly:leI (0:Int) (i:Int)=true:=bk (by omega)
  have sO:ltN i c.length=true:=eD fC
  refine⟨?_,?_,?_,?_⟩
  ·have hg2:qk (i:Int) c=b:=by simp only [qk,q9];exact lP _
   have hl:=hI.2
   have he:scG e j k l f m n o b=true:=aca.2 ⟨hC,hI.1,hA b (List.mem_of_getElem? hb)⟩
   have h6:leN (g.length + 1) 9223372036854775807=true:=bx (by simp only at hl;omega)
   have h7:leN ((g.length + 1) * 24) 140737488355328=true:=bx (by simp only at hl;omega)
   simp only [IA,IB,IC,ID,IE,IF,IG,IH,II,IJ,GS,GY,jN,zs,LT.nds,allT,vh,fB,Ly,sO,hg2,he,w5,h6,h7,q9,cond_true]
  ·simp [qk,zs,IA,IB,IC,ID,IE,IF,IG,IH,II,IJ,GS,GY,jN,LT.each,vh,UN,hw]
  ·have hg2:qk (i:Int) c=b:=by simp only [qk,q9];exact lP _
   simp only [IA,IB,IC,ID,IE,IF,IG,IH,II,IJ,GS,GY,jN,zs,LT.fn,vh,UN,AQ,q9,fB,hg2,cond_true]
  ·intro a' hf
   simp only [AQ,Sum.inr.injEq]at hf
   subst hf
   have he:scG e j k l f m n o b=true:=aca.2 ⟨hC,hI.1,hA b (List.mem_of_getElem? hb)⟩
   exact⟨(aqF he).1,by have hl:=hI.2;simp only at hl;simp [hl]⟩
 ·obtain⟨g,n,o⟩:=a
  simp [qk,zs,IA,IB,IC,ID,IE,IF,IG,IH,II,IJ,GS,GY,jN,LT.out,vh]
theorem auo{ins vs os:List avP}{g:avP}{ls:List LN}{f:avO→aup×avO×List BS3→Nat ⊕ (aup×avO×List BS3)}
  (hf: ∀ b a,f b a= .inr (a.1++ [scO ins vs os g ls b a.2.1 a.2.2],scV ins vs os ls b a.2.1 a.2.2,scB ins vs os ls b a.2.1 a.2.2)) {e:Nat}:
  ∀ (r:aup) (i:Nat) (acc:aup) (xs:avO) (ss:List BS3),br f e r i (acc,xs,ss)=(e,i + r.length,acc++sgO ins vs os g ls r xs ss,sgM ins vs os ls r xs ss)
 | [],i,acc,xs,ss=>by simp [br,sgO,sgM]
 |b::r,i,acc,xs,ss=>by
  simp only [br,hf]
  rw [auo hf r]
  simp only [sgO,sgM,List.append_assoc,List.singleton_append,j9]
  congr 2
  omega
theorem zvs(vs:List avP):qqq (v6 (vs.length:Int)) (0:Int)=zv vs:=by rw [q9];rfl
theorem zbs(ls:List LN):qqq (v6 ((blL ls).length:Int)) ((0:Int),(0:Int),(0:Int))=Sd (blL ls):=by rw [q9];rfl
theorem azd(nm:avP)(ins vs os:List avP)(g:avP)(ls:List LN)(l:aup)(h:rgN nm ins vs os g ls l=true):
  Vz nm g ins vs os ls l=rgC nm ins vs os g ls l∧aaj nm g ins vs os ls l=rgO nm ins vs os g ls l∧aak nm g ins vs os ls l=rgV nm ins vs os g ls l∧
  aal nm g ins vs os ls l=rgB nm ins vs os g ls l∧VA nm g ins vs os ls l=true:=by
 simp only [rgN,q8]at h
 obtain⟨hT,hl⟩:=h
 obtain⟨hn,hA⟩:=apq.1 hl
 obtain⟨w1,w2⟩:=apv l nm g ins vs os ls [] [] hn hA
 rw [lN (P:=fun x=> !bitsB ins.length x) (j:=0) (fun x=>rfl)]at w2
 have e5:(l.any fun x=> !bitsB ins.length x)= !l.all (fun x=>bitsB ins.length x):=by simp [List.all_eq_not_any_not]
 rw [e5]at w2
 have e1:adJ nm g ins vs os ls l=((0:Int),l,nm,g,ins,vs,os,ls,[],[]):=rfl
 have e2:Ge nm g ins vs os ls l= !l.all (fun x=>bitsB ins.length x):=by
  simp only [Ge,e1,w2]
  cases l.all (fun x=>bitsB ins.length x) <;> rfl
 have e3:YP nm g ins vs os ls l=((0:Int),l,nm,g,[],ins,vs,os,ls,zv vs,Sd (blL ls)):=by simp only [YP,abD,abE,zvs,zbs]
 simp only [Vz,aaj,aak,aal,VA,Gd,adK,adL,e1,e2,e3,w1,hT,rgO,rgV,rgB,allT]
 rcases aom nm ins vs os g ls l with⟨h1,h2⟩ | ⟨h1,h3,h2⟩ | ⟨h1,h3,h4,h2⟩ | ⟨h1,h3,h4,h2⟩
 ·rw [h1,h2];simp
 ·rw [h1,h2,h3];simp
 ·rw [h1,h2,h3,h4];simp
 ·have hA2: ∀ x∈l,bitsB ins.length x=true:=List.all_eq_true.1 h4
  have hS:=aqH h1
  obtain⟨v1,v2⟩:=apw l nm g ins vs os ls [] (zv vs) (Sd (blL ls)) (by have:=aoY h3;omega) h1 hA2 (aoY h3) hS rfl
  rw [auo (ins:=ins) (vs:=vs) (os:=os) (g:=g) (ls:=ls) (f:=Ev g ins vs os ls) (fun b a=>rfl)]at v2
  have hX:=amH (inp:=qqq ins.length 0) h1 (ct.2 ⟨fun z hz=> .inl (qqw hz),by simp⟩)
  have hb:=hX.bl
  have hv:=hX.h2
  have u1:leI 0 (vs.length:Int)=true:=bk (by omega)
  have u2:leI (vs.length:Int) (vs.length:Int)=true:=bk (by omega)
  have u3:leI ((↑(8:Nat):Int) * (vs.length:Int)) 281474976710656=true:=bk (by omega)
  have u4:leI (vs.length:Int) 9223372036854775807=true:=bk (by omega)
  have u5:leI 0 ((blL ls).length:Int)=true:=bk (by omega)
  have u6:leI ((blL ls).length:Int) ((blL ls).length:Int)=true:=bk (by omega)
  have u7:leI ((↑(24:Nat):Int) * ((blL ls).length:Int)) 281474976710656=true:=bk (by omega)
  have u8:leI ((blL ls).length:Int) 9223372036854775807=true:=bk (by omega)
  have hLn:=(Qg.1 hT).2.2.2.2.2.2
  have f2:VR vs ls=true:=by simp only [VR,u1,u2,u3,u4,u5,u6,u7,u8,hLn,allT,cond_true]
  rw [h1,h2,h3,h4,v1,v2,f2]
  simp [Af]
theorem ayM(nm:avP)(ins vs os:List avP)(g:avP)(ls:List LN)(l:aup)(h:rgN nm ins vs os g ls l=true):
  Qb nm g ins vs os ls l=rgC nm ins vs os g ls l∧VE nm g ins vs os ls l=rgO nm ins vs os g ls l∧VF nm g ins vs os ls l=rgV nm ins vs os g ls l∧
  VG nm g ins vs os ls l=rgB nm ins vs os g ls l∧Qc nm g ins vs os ls l=true:=by
 simp only [rgN,q8]at h
 obtain⟨hT,hl⟩:=h
 obtain⟨hn,hA⟩:=apq.1 hl
 have d0:dE vs=zv vs:=by simp only [dE,Ph,zvs]
 have d1:eL ls=Sd (blL ls):=by simp only [eL,Pj,zbs]
 have e2:TU nm g ins vs os ls l=((0:Int),(l.length:Int),l,nm,g,[],ins,vs,os,ls,zv vs,Sd (blL ls)):=by simp only [TU,d0,d1]
 simp only [Qb,VE,VF,VG,Qc,Bu,HW,ZG,ZH,d0,d1,e2,hT,rgO,rgV,rgB,allT]
 rcases aom nm ins vs os g ls l with⟨h1,h2⟩ | ⟨h1,h3,h2⟩ | h
 ·rw [h1,h2];simp
 ·rw [h1,h2,h3];simp
 ·have h1:dS nm ins vs os g ls=true:=by rcases h with h | h <;> exact h.1
  have h3:ltI 200 (l.length:Int)=false:=by rcases h with h | h <;> exact h.2.1
  have hS:=aqH h1
  have hX:=amH (inp:=qqq ins.length 0) h1 (ct.2 ⟨fun z hz=> .inl (qqw hz),by simp⟩)
  have hb:=hX.bl
  have hv:=hX.h2
  have u1:leI 0 (vs.length:Int)=true:=bk (by omega)
  have u2:leI (vs.length:Int) (vs.length:Int)=true:=bk (by omega)
  have u3:leI ((↑(8:Nat):Int) * (vs.length:Int)) 281474976710656=true:=bk (by omega)
  have u4:leI (vs.length:Int) 9223372036854775807=true:=bk (by omega)
  have u5:leI 0 ((blL ls).length:Int)=true:=bk (by omega)
  have u6:leI ((blL ls).length:Int) ((blL ls).length:Int)=true:=bk (by omega)
  have u7:leI ((↑(24:Nat):Int) * ((blL ls).length:Int)) 281474976710656=true:=bk (by omega)
  have u8:leI ((blL ls).length:Int) 9223372036854775807=true:=bk (by omega)
  have hLn:=(Qg.1 hT).2.2.2.2.2.2
  have f2:ly vs ls=true:=by simp only [ly,Pk,u1,u2,u3,u4,u5,u6,u7,u8,hLn,allT,cond_true]
  have h200:=aoY h3
  have m1:cdG nm ins vs os g ls (zv vs) l=true:=aw1.2 ⟨hT,bx (by rw [zv,k9];omega),by omega,fun x hx=>bx (hA x hx)⟩
  have m2:ak4 nm ins vs os g ls (zv vs) (Sd (blL ls)) l=bif !l.all (fun x=>bitsB ins.length x)then 2 else 0:=by
   simp only [ak4,h1,hS];cases l.all (fun x=>bitsB ins.length x) <;> rfl
  rw [m1,m2,h1,h3,f2]
  rcases h with⟨_,_,h4,h2⟩ | ⟨_,_,h4,h2⟩
  ·rw [h2,h4];simp
  ·have hA2: ∀ x∈l,bitsB ins.length x=true:=List.all_eq_true.1 h4
   obtain⟨v1,v2⟩:=ank l nm g ins vs os ls [] (zv vs) (Sd (blL ls)) (by omega) h1 hA2 h200 hS rfl
   rw [auo (ins:=ins) (vs:=vs) (os:=os) (g:=g) (ls:=ls) (f:=AQ g ins vs os ls) (fun b a=>rfl)]at v2
   rw [h2,h4,v1,v2]
   simp [vh]
theorem ax4(nm:avP)(ins vs os:List avP)(g:avP)(ls:List LN)(l:aup)(h:rgN nm ins vs os g ls l=true):ahN nm g ins vs os ls l=rgC nm ins vs os g ls l∧ahO nm g ins vs os ls l=rgO nm ins vs os g ls l∧abt nm g ins vs os ls l=true:=by
 obtain⟨s0,s1,s2,s3,s4⟩:=azd nm ins vs os g ls l h
 exact⟨s0,s1,by simp only [abt,s4,allT,cond_true]⟩
theorem ax3(nm:avP)(ins vs os:List avP)(g:avP)(ls:List LN)(l:aup)(h:rgN nm ins vs os g ls l=true):adh nm g ins vs os ls l=rgC nm ins vs os g ls l∧adi nm g ins vs os ls l=rgV nm ins vs os g ls l∧adj nm g ins vs os ls l=rgB nm ins vs os g ls l∧Wx nm g ins vs os ls l=true:=by
 obtain⟨s0,s1,s2,s3,s4⟩:=azd nm ins vs os g ls l h
 exact⟨s0,s2,s3,by simp only [Wx,s4,allT,cond_true]⟩
theorem axK(nm:avP)(ins vs os:List avP)(g:avP)(ls:List LN)(l:aup)(h:rgN nm ins vs os g ls l=true):ahJ nm g ins vs os ls l=rgC nm ins vs os g ls l∧ahK nm g ins vs os ls l=rgO nm ins vs os g ls l∧abc nm g ins vs os ls l=true:=by
 obtain⟨s0,s1,s2,s3,s4⟩:=ayM nm ins vs os g ls l h
 exact⟨s0,s1,by simp only [abc,s4,allT,cond_true]⟩
theorem axJ(nm:avP)(ins vs os:List avP)(g:avP)(ls:List LN)(l:aup)(h:rgN nm ins vs os g ls l=true):acH nm g ins vs os ls l=rgC nm ins vs os g ls l∧acI nm g ins vs os ls l=rgV nm ins vs os g ls l∧acJ nm g ins vs os ls l=rgB nm ins vs os g ls l∧We nm g ins vs os ls l=true:=by
 obtain⟨s0,s1,s2,s3,s4⟩:=ayM nm ins vs os g ls l h
 exact⟨s0,s2,s3,by simp only [We,s4,allT,cond_true]⟩
def ahF:awh
 | [.one ⟨true,[.val (.string a),.ref 0,.ref 1,.ref 2,.val (.string b),.ref 3]⟩,.one ⟨false,[.ref 4]⟩],[.row false 9 (.str) c,.row false 9 (.str) d,.row false 9 (.str) e,.row false 142 (.pair (.str) (.sl 122 (.pair (.int .i64) (.pair (.str) (.int .i64))))) f,.row false 28 (.sl 2 (.int .i64)) g]=>some ⟨.tup [⟨false,[.ref 5]⟩,⟨false,[axb (rgC a c d e b f g)]⟩],[aBD c,aBD d,aBD e,aBH f,aBP g],[aBQ (rgO a c d e b f g)],[rgN a c d e b f g]⟩
 |_,_=>none
def abq:PF prog:=PF.alt aqr ahF (by
 intro args es o h cA;unfold ahF at h;split at h
 ·rename_i a b c d e f g
  cases h
  have cA:=jQ cA
  have hh:=ax4 a c d e b f g cA
  obtain⟨e0,e1,en⟩:=hh
  exact pW rfl (ip en) (by simp only [e0] <;> rfl) rfl (by simp only [e1] <;> rfl)
 ·cases h)
def ahz:awh
 | [.one ⟨true,[.val (.string a),.ref 0,.ref 1,.ref 2,.val (.string b),.ref 3]⟩,.one ⟨false,[.ref 4]⟩],[.row false 9 (.str) c,.row false 9 (.str) d,.row false 9 (.str) e,.row false 142 (.pair (.str) (.sl 122 (.pair (.int .i64) (.pair (.str) (.int .i64))))) f,.row false 28 (.sl 2 (.int .i64)) g]=>some ⟨.tup [⟨false,[.ref 5]⟩,⟨false,[axb (rgC a c d e b f g)]⟩],[aBD c,aBD d,aBD e,aBH f,aBP g],[.tree 28 agV (rgO a c d e b f g) none],[rgN a c d e b f g]⟩
 |_,_=>none
def abo:PF prog:=PF.alt aqk ahz (by
 intro args es o h cA;unfold ahz at h;split at h
 ·rename_i a b c d e f g
  cases h
  have cA:=jQ cA
  have hh:=axK a c d e b f g cA
  obtain⟨e0,e1,en⟩:=hh
  exact pW rfl (ip en) (by simp only [e0] <;> rfl) rfl (by simp only [e1] <;> rfl)
 ·cases h)
def acx:awh
 | [.one ⟨true,[.val (.string a),.ref 0,.ref 1,.ref 2,.val (.string b),.ref 3]⟩,.one ⟨false,[.ref 4]⟩],[.row false 9 (.str) c,.row false 9 (.str) d,.row false 9 (.str) e,.row false 142 (.pair (.str) (.sl 122 (.pair (.int .i64) (.pair (.str) (.int .i64))))) f,.row false 28 (.sl 2 (.int .i64)) g]=>some ⟨.tup [⟨true,[.ref 5,.ref 6]⟩,⟨false,[axb (rgC a c d e b f g)]⟩],[aBD c,aBD d,aBD e,aBH f,aBP g],[aBE (rgV a c d e b f g),aBK (rgB a c d e b f g)],[rgN a c d e b f g]⟩
 |_,_=>none
def uf:PF prog:=PF.alt amC acx (by
 intro args es o h cA;unfold acx at h;split at h
 ·rename_i a b c d e f g
  cases h
  have cA:=jQ cA
  have hh:=ax3 a c d e b f g cA
  obtain⟨e0,e1,e2,en⟩:=hh
  exact pW rfl (ip en) (by simp only [e0] <;> rfl) rfl (by simp only [e1,e2] <;> rfl)
 ·cases h)
def acv:awh
 | [.one ⟨true,[.val (.string a),.ref 0,.ref 1,.ref 2,.val (.string b),.ref 3]⟩,.one ⟨false,[.ref 4]⟩],[.row false 9 (.str) c,.row false 9 (.str) d,.row false 9 (.str) e,.row false 142 (.pair (.str) (.sl 122 (.pair (.int .i64) (.pair (.str) (.int .i64))))) f,.row false 28 (.sl 2 (.int .i64)) g]=>some ⟨.tup [⟨true,[.ref 5,.ref 6]⟩,⟨false,[axb (rgC a c d e b f g)]⟩],[aBD c,aBD d,aBD e,aBH f,aBP g],[aBE (rgV a c d e b f g),aBK (rgB a c d e b f g)],[rgN a c d e b f g]⟩
 |_,_=>none
def Wj:PF prog:=PF.alt amy acv (by
 intro args es o h cA;unfold acv at h;split at h
 ·rename_i a b c d e f g
  cases h
  have cA:=jQ cA
  have hh:=axJ a c d e b f g cA
  obtain⟨e0,e1,e2,en⟩:=hh
  exact pW rfl (ip en) (by simp only [e0] <;> rfl) rfl (by simp only [e1,e2] <;> rfl)
 ·cases h)
abbrev zT:=Int×List Int×Int×Int
section
variable (a:Int)(b:avO)
def RW:Bool:=bif ltI a (↑b.length:Int)then ltI a 64 else false
def aeA:Bool:=leI 0 a
def aeB:Bool:=ltI a (↑b.length:Int)
def aeC:Bool:=ltN a.toNat b.length
end
def aeD:Bool:=neI 2147483647 0
def aeE(a:Int):Int:=v9 .i64 (a + (1:Int))
def aeF(a:Int)(b:avO)(c:Int):Int:=Int.tmod (v9 .i64 (v9 .i64 (c * (59:Int)) + v9 .i64 (v8 b[v6 a]? 0))) 2147483647
def alS:zT→List (Nat×SV)
 |(a,_,_,_)=> [(4,(aBC a)),(0,(aBB (.ref 0))),(3,(aBB (.ptr 1 0)))]
def alL:zT→List (Nat×Entry)
 |(_,a,b,c)=> [(0,(aBL a)),(1,(.box 113 [.ref 0,axb b,axb c]))]
def al6:Nat→zT→List (Nat×SV)
 |_,_=>[]
def Ja:zT→LT zT
 |(a,b,c,d)=> .ite (RW a b) (.need [aeA a,aeB a b,aeC a b,aeD] (.nrm ((aeE a),b,c,(aeF a b d)) [(0,0),(1,1)])) (.ext 0 [(0,0),(1,1)])
def Wq(s:St):Option zT:=do
 let some ⟨none,.one ⟨false,[.val (.int .i64 a)]⟩⟩:=s.look 4|none
 let some ⟨none,.one ⟨false,[.ref 0]⟩⟩:=s.look 0|none
 let some ⟨none,.one ⟨false,[.ptr 320 0]⟩⟩:=s.look 3|none
 let some (.row false 5 (.int IntKind.u8) b):=s.ent 0|none
 let some (.box 113 [.ref 0,.val (.int .i64 c),.val (.int .i64 d)]):=s.ent 320|none
 some (a,b,c,d)
def ue:Lp zT where
 h:=⟨[8,9,10,11,12,13,14,15,18,19,20,21,22,23,24,25,26,27,28,29,30,31,32,16,17,4],[0,1],[],[]⟩
 JL:=alS
 JE:=alL
 XL:=al6
 XE:=fun _=>alL
 q:=fun j=>match j with | _=> .exit 0
 tags:= [0]
 lt:=Ja
 fuel:=fun(a,b,c,d)=>a.natAbs + b.length + c.natAbs + d.natAbs
 fix:=fun(_,b,c,_) (a,_,_,d)=>(a,b,c,d)
 σ:= [(0,0),(1,320)]
 rd:=Wq
theorem ajD:LoopOk prog (fun k=>Nat.blt k Tryz.f42.ntmps) ue.F (bj f42 0):=by
 refine Lp.ok (tbl:= []) (lf:= []) aT ue (by kernel_rfl) (LOk.nil _) (fun _=>rfl) (fun _ _=>rfl) ?_ ?_ ?_ ?_ (fun _=>rfl) ?_
 ·intro _;kernel_rfl
 ·intro _;kernel_rfl
 ·intro s x h
  have h:Wq s=some x:=h
  unfold Wq at h
  repeat' split at h
  all_goals cases h
  constructor<;>repeat(first|refine ab ‹_› rfl ?_|refine aa rfl ‹_› rfl ?_|rfl)
 ·intro _;kernel_rfl
 ·intro _ _;exact(And.intro rfl trivial)
section
variable (a:avO)
def Qi:Int×avO×Int×Int:=((0:Int),a,(0:Int),(52021:Int))
def TA:Int:=(Lp.res ue (Qi a)).2.2.2.2
def Yv:Bool:=allT [Lp.fin ue (Qi a)]
end
def aiG:awh
 | [.one ⟨false,[.ref 0]⟩],[.row false 5 (.int .u8) a]=>some ⟨aBB (.ptr 1 0),[aBL a],[.box 113 [.ref 0,axb 0,axb (TA a)]],[Yv a]⟩
 |_,_=>none
def arN:PF prog:=PF.ofG prog [] [ue.F] aT 42 f42 func42 (LOk.fnT (l:= [bj f42 0]) (by kernel_rfl) (.cons ajD (.nil _))) aiG (by
 intro _ _ _ h;unfold aiG at h;split at h<;>cases h;kernel_rfl)
section
variable (a b c:Int)(d:avO)
def Ks:Int:=v9 .i64 (b + (1:Int))
def Qj:Bool:=bif leI a 256 then Int.tmod (Ks b) 2==0 else false
def Kt:Int:=v9 .i64 (Ks b - (1:Int))
def DB:Int:=Int.tmod (v9 .i64 (v9 .i64 (c * (48271:Int)) + (29:Int))) 2147483647
def pc:Int:=bif leI a 1 then(0:Int)else Int.tmod (bif ltI b (↑d.length:Int)then bif Qj a b then v9 .i64 (v8 d[v6 (Kt b)]? 0)else v9 .i64 (v9 .i64 (Int.tdiv (DB c) 31) + v9 .i64 (v8 d[v6 b]? 0))else v9 .i64 (Int.tdiv (DB c) 31)) a
def Jl:Int:=bif leI a 1 then b else bif ltI b (↑d.length:Int)then Ks b else b
def Jm:Int:=bif leI a 1 then c else bif ltI b (↑d.length:Int)then DB c else DB c
def Jn:Bool:=allT [leI a 1||neI 2147483647 0,leI a 1||neI 31 0,leI a 1||(!ltI b (↑d.length:Int)||leI 0 b),leI a 1||(!ltI b (↑d.length:Int)||ltI b (↑d.length:Int)),leI a 1||(!ltI b (↑d.length:Int)||ltN b.toNat d.length),leI a 1||(!ltI b (↑d.length:Int)||(!(leI a 256&&true)||neI 2 0)),leI a 1||(!ltI b (↑d.length:Int)||(!Qj a b||leI 0 (Kt b))),leI a 1||(!ltI b (↑d.length:Int)||(!Qj a b||ltI (Kt b) (↑d.length:Int))),leI a 1||(!ltI b (↑d.length:Int)||(!Qj a b||ltN (v6 (Kt b)) d.length)),leI a 1||neI a 0]
end
def aiH:awh
 | [.one ⟨false,[.ptr 0 0]⟩,.one ⟨false,[.val (.int .i64 a)]⟩],[.box 113 [.ref 1,.val (.int .i64 b),.val (.int .i64 c)],.row false 5 (.int .u8) d]=>some ⟨aBC (pc a b c d),[.box 113 [.ref 1,axb (Jl a b d),axb (Jm a b c d)],aBL d],[],[Jn a b d]⟩
 |_,_=>none
def Yd:PF prog:=PF.ofG prog [] [] aT 78 f78 func78 (fun c _=>LOk.nil c) aiH (by
 intro _ _ _ h;unfold aiH at h;split at h<;>cases h;kernel_rfl)
section
variable (a b:Int)(c d:avO)
def Yw:Int:=v8 c[v6 (pc (↑c.length:Int) a b d)]? 0
def adn:Int:=Jl (↑c.length:Int) a d
def ado:Int:=Jm (↑c.length:Int) a b d
def Yx:Bool:=allT [Jn (↑c.length:Int) a d,leI 0 (pc (↑c.length:Int) a b d),ltI (pc (↑c.length:Int) a b d) (↑c.length:Int),ltN (v6 (pc (↑c.length:Int) a b d)) c.length]
end
def aiI:awh
 | [.one ⟨false,[.ptr 0 0]⟩,.one ⟨false,[.ref 1]⟩],[.box 113 [.ref 2,.val (.int .i64 a),.val (.int .i64 b)],.row false 2 (.int .i64) c,.row false 5 (.int .u8) d]=>some ⟨aBC (Yw a b c d),[.box 113 [.ref 2,axb (adn a c d),axb (ado a b c d)],aBF c,aBL d],[],[Yx a b c d]⟩
 |_,_=>none
def arO:PF prog:=PF.ofG prog (T3z [Yd]) [] aT 83 f83 func83 (fun c _=>LOk.nil c) aiI (by
 intro _ _ _ h;unfold aiI at h;split at h<;>cases h;kernel_rfl)
def aG(a s:Int)(c:avO):Bool:=(leI 0 a&&leI a 4096)&&((leI 0 s&&ltI s 2147483647)&&(leN c.length 4096&&c.all fun x=>inR x 0 255))
theorem akl{a s:Int}{c:avO}:aG a s c=true↔(0≤a∧a≤4096)∧(0≤s∧s < 2147483647)∧c.length≤4096∧ ∀ x∈c,0≤x∧x≤255:=by
 simp only [aG,q8,Gt,ab7,gR,List.all_eq_true,ua]
theorem ago{x n:Int}(h:0≤x)(hn:0 < n):0≤Int.tmod x n∧Int.tmod x n < n:=by
 rw [Int.tmod_eq_emod_of_nonneg h]
 exact⟨Int.emod_nonneg _ (by omega),Int.emod_lt_of_pos _ hn⟩
theorem ayn{code:avO}(hb: ∀ x∈code,0≤x∧x≤255)(i:Nat):0≤(code[i]?.getD 0)∧(code[i]?.getD 0)≤255:=by
 cases h:code[i]? with
 |none=>simp
 |some x=>exact hb x (List.mem_of_getElem? h)
def nxV(n a s:Int)(c:avO):Int:=pc n a s c
def nxA(n a:Int)(c:avO):Int:=Jl n a c
def nxS(n a s:Int)(c:avO):Int:=Jm n a s c
theorem an9(n:Int){a s:Int}{code:avO}(h:aG a s code=true):
  Jn n a code=true∧aG (nxA n a code) (nxS n a s code) code=true∧0≤nxV n a s code∧(1≤n→nxV n a s code < n):=by
 obtain⟨⟨h0,h1⟩,⟨s0,s1⟩,hn,hb⟩:=akl.1 h
 have hw1:IntKind.i64.wrap (s * 48271)=s * 48271:=aM (by omega) (by omega)
 have hw2:IntKind.i64.wrap (s * 48271 + 29)=s * 48271 + 29:=aM (by omega) (by omega)
 have hw3:IntKind.i64.wrap (a + 1)=a + 1:=aM (by omega) (by omega)
 have hw4:IntKind.i64.wrap (a + 1 - 1)=a:=by rw [aM (by omega) (by omega)];omega
 obtain⟨t0,t1⟩:=ago (x:=s * 48271 + 29) (n:=2147483647) (by omega) (by omega)
 have hd0:0≤Int.tdiv (Int.tmod (s * 48271 + 29) 2147483647) 31:=Int.tdiv_nonneg t0 (by omega)
 have hd1:Int.tdiv (Int.tmod (s * 48271 + 29) 2147483647) 31≤2147483647:=by
  rw [Int.tdiv_eq_ediv_of_nonneg t0];omega
 have hw7:IntKind.i64.wrap (Int.tdiv (Int.tmod (s * 48271 + 29) 2147483647) 31)=Int.tdiv (Int.tmod (s * 48271 + 29) 2147483647) 31:=aM (by omega) (by omega)
 have q1:neI 2147483647 0=true:=by decide
 have q2:neI 31 0=true:=by decide
 have q3:neI 2 0=true:=by decide
 simp only [nxA,nxS,nxV]
 by_cases hq:n≤1
 ·have d:leI n 1=true:=bk hq
  refine⟨by simp [Jn,allT,d],?_,by simp [pc,d],fun h=>by simp [pc,d];omega⟩
  simp only [Jl,Jm,d,cond_true]
  exact h
 ·have d:leI n 1=false:=alC (by omega)
  have q4:neI n 0=true:=aA7 (by omega)
  by_cases hl:a < (code.length:Int)
  ·have dl:ltI a (code.length:Int)=true:=dw hl
   obtain⟨c0,c1⟩:=ayn hb a.toNat
   have hw5:IntKind.i64.wrap (code[a.toNat]?.getD 0)=code[a.toNat]?.getD 0:=aM (by omega) (by omega)
   have hw6:IntKind.i64.wrap (Int.tdiv (Int.tmod (s * 48271 + 29) 2147483647) 31 + code[a.toNat]?.getD 0)=Int.tdiv (Int.tmod (s * 48271 + 29) 2147483647) 31 + code[a.toNat]?.getD 0:=aM (by omega) (by omega)
   have dn:ltN a.toNat code.length=true:=eD (by omega)
   have dz:leI 0 a=true:=bk h0
   have hwa:IntKind.i64.wrap a=a:=aM (by omega) (by omega)
   refine⟨?_,?_,?_⟩
   ·simp [Jn,Ks,Kt,allT,d,dl,dn,hw3,hw4,hwa,dz,q1,q2,q3,q4]
   ·simp only [Jl,Jm,Ks,DB,d,dl,cond_true,cond_false,hw1,hw2,hw3]
    exact akl.2 ⟨⟨by omega,by omega⟩,⟨t0,t1⟩,hn,hb⟩
   ·simp only [pc,Qj,Kt,Ks,DB,d,dl,cond_true,cond_false,hw1,hw2,hw3,hw4,hw5,hw7,hw6]
    cases (bif leI n 256 then Int.tmod (a + 1) 2==0 else false)with
    |true=>
     obtain⟨m0,m1⟩:=ago (x:=code[a.toNat]?.getD 0) (n:=n) c0 (by omega)
     exact⟨m0,fun _=>m1⟩
    |false=>
     obtain⟨m0,m1⟩:=ago (x:=Int.tdiv (Int.tmod (s * 48271 + 29) 2147483647) 31 + code[a.toNat]?.getD 0) (n:=n) (by omega) (by omega)
     exact⟨m0,fun _=>m1⟩
  ·have dl:ltI a (code.length:Int)=false:=IZ (by omega)
   refine⟨?_,?_,?_⟩
   ·simp [Jn,allT,d,dl,q1,q2,q4]
   ·simp only [Jl,Jm,DB,d,dl,cond_false,hw1,hw2]
    exact akl.2 ⟨⟨h0,h1⟩,⟨t0,t1⟩,hn,hb⟩
   ·simp only [pc,DB,d,dl,cond_false,hw1,hw2,hw7]
    obtain⟨m0,m1⟩:=ago (x:=Int.tdiv (Int.tmod (s * 48271 + 29) 2147483647) 31) (n:=n) hd0 (by omega)
    exact⟨m0,fun _=>m1⟩
theorem aqg(a b c:Int)(d:avO)(h:aG b c d=true):pc a b c d=nxV a b c d∧Jl a b d=nxA a b d∧Jm a b c d=nxS a b c d∧Jn a b d=true:=⟨rfl,rfl,rfl,(an9 a h).1⟩
def ai7:awh
 | [.one ⟨false,[.ptr 0 0]⟩,.one ⟨false,[.val (.int .i64 a)]⟩],[.box 113 [.ref 1,.val (.int .i64 b),.val (.int .i64 c)],.row false 5 (.int .u8) d]=>some ⟨aBC (nxV a b c d),[.box 113 [.ref 1,axb (nxA a b d),axb (nxS a b c d)],aBL d],[],[aG b c d]⟩
 |_,_=>none
def ai:PF prog:=PF.alt Yd ai7 (by
 intro args es o h cA;unfold ai7 at h;split at h
 ·rename_i a b c d
  cases h
  have cA:=jQ cA
  have hh:=aqg a b c d cA
  obtain⟨e0,e1,e2,en⟩:=hh
  exact pW rfl (ip en) (by simp only [e0] <;> rfl) (by simp only [e1,e2] <;> rfl) rfl
 ·cases h)
def pkV(a s:Int)(l c:avO):Int:=Yw a s l c
def pkA(a:Int)(l c:avO):Int:=adn a l c
def pkS(a s:Int)(l c:avO):Int:=ado a s l c
theorem axo{a s:Int}{l code:avO}(h:(aG a s code&&leN 1 l.length)=true):
  Yx a s l code=true∧aG (pkA a l code) (pkS a s l code) code=true∧pkV a s l code∈l:=by
 simp only [q8,gR]at h
 obtain⟨n3,n1,n0,nl⟩:=an9 (l.length:Int) h.1
 have nl:=nl (by omega)
 simp only [nxV]at n0 nl
 refine⟨?_,n1,?_⟩
 ·have t1:leI 0 (pc (l.length:Int) a s code)=true:=bk n0
  have t2:ltI (pc (l.length:Int) a s code) (l.length:Int)=true:=dw nl
  have t3:ltN (pc (l.length:Int) a s code).toNat l.length=true:=eD (by omega)
  simp only [Yx,allT,n3,t1,t2,t3,cond_true]
 ·have fC:(pc (l.length:Int) a s code).toNat < l.length:=by omega
  simp only [pkV,Yw,List.getElem?_eq_getElem fC,Option.getD_some]
  exact List.getElem_mem fC
theorem aqh(a b:Int)(c d:avO)(h:(aG a b d&&leN 1 c.length)=true):Yw a b c d=pkV a b c d∧adn a c d=pkA a c d∧ado a b c d=pkS a b c d∧Yx a b c d=true:=⟨rfl,rfl,rfl,(axo h).1⟩
def ai8:awh
 | [.one ⟨false,[.ptr 0 0]⟩,.one ⟨false,[.ref 1]⟩],[.box 113 [.ref 2,.val (.int .i64 a),.val (.int .i64 b)],.row false 2 (.int .i64) c,.row false 5 (.int .u8) d]=>some ⟨aBC (pkV a b c d),[.box 113 [.ref 2,axb (pkA a c d),axb (pkS a b c d)],aBF c,aBL d],[],[aG a b d&&leN 1 c.length]⟩
 |_,_=>none
def db:PF prog:=PF.alt arO ai8 (by
 intro args es o h cA;unfold ai8 at h;split at h
 ·rename_i a b c d
  cases h
  have cA:=jQ cA
  have hh:=aqh a b c d cA
  obtain⟨e0,e1,e2,en⟩:=hh
  exact pW rfl (ip en) (by simp only [e0] <;> rfl) (by simp only [e1,e2] <;> rfl) rfl
 ·cases h)
def axH(b:Int)(a:Nat×Int):Nat ⊕ (Nat×Int):=bif decide (a.1 < 64)then .inr (a.1 + 1,Int.tmod (a.2 * 59 + b) 2147483647)else .inl 0
def frS(c:avO):Int:=TA c
theorem atM(code:avO)(h:aG 0 0 code=true):Yv code=true∧aG 0 (frS code) code=true:=by
 obtain⟨_,_,hn,hb⟩:=akl.1 h
 have nQ:=akg (lt:=Ja) (fun i (a:Nat×Int)=>((i:Int),code,(0:Int),a.2)) axH 0 (fun i a=>a.1=i∧0≤a.2∧a.2 < 2147483647) code (fun i b a he hI=>⟨?_,fun a' hf=> ?_⟩) (fun a hI=> ?_) code 0 (0,52021) rfl (by simp) (by decide)
 ·have hres:=ue.run nQ (ams (by simp only [ue];omega))
  have r1:ue.fin ((0:Int),code,(0:Int),(52021:Int))=true:=hres.1
  have r2:ue.res ((0:Int),code,(0:Int),(52021:Int))=_:=hres.2
  have inv: ∀ (r:avO) (i:Nat) (a:Nat×Int),(∀ x∈r,0≤x∧x≤255)→0≤a.2∧a.2 < 2147483647→0≤(br axH 0 r i a).2.2.2∧(br axH 0 r i a).2.2.2 < 2147483647:=by
   intro r
   induction r with
   |nil=>intro i a _ h;exact h
   |cons b r ih=>
    intro i a hx h
    simp only [br,axH]
    cases decide (a.1 < 64)with
    |false=>exact h
    |true=>
     have hb:=hx b (by simp)
     exact ih _ _ (fun x hm=>hx x (by simp [hm])) (ago (by omega) (by omega))
  obtain⟨q0,q1⟩:=inv code 0 (0,52021) hb (by decide)
  refine⟨by simp [Yv,Qi,allT,r1],akl.2 ⟨by decide,⟨?_,?_⟩,hn,hb⟩⟩
  ·simp only [frS,TA,Qi,r2];exact q0
  ·simp only [frS,TA,Qi,r2];exact q1
 ·obtain⟨fC,he⟩:=v5.1 he
  subst he
  obtain⟨h1,h2,h3⟩:=hI
  have hw:=Bm fC (by omega)
  obtain⟨c0,c1⟩:=hb code[i] (List.getElem_mem fC)
  have hw1:IntKind.i64.wrap (a.2 * 59)=a.2 * 59:=aM (by omega) (by omega)
  have hw2:IntKind.i64.wrap code[i]=code[i]:=aM (by omega) (by omega)
  have hw3:IntKind.i64.wrap (a.2 * 59 + code[i])=a.2 * 59 + code[i]:=aM (by omega) (by omega)
  have q1:neI 2147483647 0=true:=by decide
  have q2:ltI (i:Int) (code.length:Int)=true:=dw (by omega)
  have q3:leI 0 (i:Int)=true:=bk (by omega)
  have q4:ltN i code.length=true:=eD fC
  simp only [axH,h1]
  by_cases h64:i < 64
  ·have d:decide (i < 64)=true:=decide_eq_true h64
   have d':ltI (i:Int) 64=true:=dw (by omega)
   simp [Ja,LT.out,allT,RW,aeA,aeB,aeC,aeD,aeE,aeF,fC,hw,d,d',hw1,hw2,hw3,q1,q2,q3,q4]
  ·have d:decide (i < 64)=false:=decide_eq_false h64
   have d':ltI (i:Int) 64=false:=IZ (by omega)
   simp [Ja,LT.out,RW,d,d']
 ·simp only [axH]at hf
  obtain⟨h1,h2,h3⟩:=hI
  obtain⟨c0,c1⟩:=hb b (List.mem_of_getElem? he)
  cases hd:decide (a.1 < 64)with
  |false=>rw [hd]at hf;cases hf
  |true=>
   rw [hd]at hf
   simp only [cond_true,Sum.inr.injEq]at hf
   subst hf
   obtain⟨m0,m1⟩:=ago (x:=a.2 * 59 + b) (n:=2147483647) (by omega) (by omega)
   exact⟨by simp [h1],m0,m1⟩
 ·simp [Ja,LT.out,RW]
theorem aqf(a:avO)(h:aG 0 0 a=true):TA a=frS a∧Yv a=true:=⟨rfl,(atM a h).1⟩
def ai6:awh
 | [.one ⟨false,[.ref 0]⟩],[.row false 5 (.int .u8) a]=>some ⟨aBB (.ptr 1 0),[aBL a],[.box 113 [.ref 0,axb 0,axb (frS a)]],[aG 0 0 a]⟩
 |_,_=>none
def Nw:PF prog:=PF.alt arN ai6 (by
 intro args es o h cA;unfold ai6 at h;split at h
 ·rename_i a
  cases h
  have cA:=jQ cA
  have hh:=aqf a cA
  obtain⟨e0,en⟩:=hh
  exact pW rfl (ip en) rfl rfl (by simp only [e0] <;> rfl)
 ·cases h)
def PF.never{P:Program}(k:FuncId)(F:awh)(h: ∀ args es o,F args es=some o→false∈o.nd):PF P where
 k:=k
 F:=F
 ok:=fun args es o ho cA=>absurd (cA _ (h args es o ho)) (by simp)
def aas:awh
 | [.one ⟨false,[.ptr 0 0]⟩,.one ⟨false,[.ref 1]⟩,.one ⟨false,[.val (.int .i64 _)]⟩],[.box 113 [.ref 2,.val (.int .i64 a),.val (.int .i64 b)],.row false 9 (.str) c,.row false 5 (.int .u8) d]=>
  some ⟨.one ⟨false,[.ref 3]⟩,[.box 113 [.ref 2,.val (.int .i64 a),.val (.int .i64 b)],.row false 9 (.str) c,.row false 5 (.int .u8) d],[.row true 122 (.pair (.int .i64) (.pair (.str) (.int .i64))) []],[false]⟩
 |_,_=>none
def Ts:PF prog:=PF.never 126 aas (by
 intro args es o h;unfold aas at h;split at h
 ·cases h;exact qqz.2 rfl
 ·cases h)
def aiF:awh
 | [.one ⟨false,[.val (.int .i64 _)]⟩],[]=>some ⟨aBB (.val (.string ⟨#[]⟩)),[],[],[false]⟩
 |_,_=>none
def arM:PF prog:=PF.never 136 aiF (by
 intro args es o h;unfold aiF at h;split at h
 ·cases h;exact qqz.2 rfl
 ·cases h)
section
variable (a b c:Int)(d:List avP)(e:avO)
def cC:Bool:=bif a==0 then true else nxV 4 b c e==0
def JS:Bool:= !a==0&&true
def fv:Int:=bif JS a then nxA 4 b e else b
def vN:Int:=bif JS a then nxS 4 b c e else c
def Zl:Int:=nxV 12 (fv a b e) (vN a b c e) e
def pK:Bool:=Zl a b c e==0
def pL:Bool:=Zl a b c e==1
def pM:Int:=pkV (fv a b e) (vN a b c e) [(4:Int),(5:Int),(6:Int),(5:Int),(6:Int),(7:Int),(8:Int),(9:Int),(10:Int),(11:Int),(12:Int)] e
def iw:Bool:=fT (pM a b c e)==2
def Eg:Int:=pkA (fv a b e) [(4:Int),(5:Int),(6:Int),(5:Int),(6:Int),(7:Int),(8:Int),(9:Int),(10:Int),(11:Int),(12:Int)] e
def YA:Int:=bif al (pM a b c e)then nxA 4 (Eg a b e) e else Eg a b e
def yC:Int:=nxS 12 (fv a b e) (vN a b c e) e
def HM:Int:=pkS (fv a b e) (vN a b c e) [(4:Int),(5:Int),(6:Int),(5:Int),(6:Int),(7:Int),(8:Int),(9:Int),(10:Int),(11:Int),(12:Int)] e
def YB:Int:=bif al (pM a b c e)then nxS 4 (Eg a b e) (HM a b c e) e else HM a b c e
def CQ:Int:=nxV (↑d.length:Int) (nxA 12 (fv a b e) e) (yC a b c e) e
def HN:alv:= [(bif al (pM a b c e)then pM a b c e else pM a b c e,bif al (pM a b c e)then ByteArray.mk #[]else ByteArray.mk #[],bif al (pM a b c e)then nxV 4 (Eg a b e) (HM a b c e) e else(0:Int))]
def YC:Bool:= !al (pM a b c e)||aG (Eg a b e) (HM a b c e) e
def YD:Bool:=leN (0 + v7 (HN a b c e)) 9223372036854775807
def YE:Bool:=leN ((0 + v7 (HN a b c e)) * 32) 140737488355328
def BJ:Int:=bif cC a b c e then bif pK a b c e then nxA 12 (fv a b e) e else bif pL a b c e then nxA 12 (fv a b e) e else nxA (↑d.length:Int) (nxA 12 (fv a b e) e) e else bif iw a b c e then YA a b c e else YA a b c e
def BK:Int:=bif cC a b c e then bif pK a b c e then yC a b c e else bif pL a b c e then yC a b c e else nxS (↑d.length:Int) (nxA 12 (fv a b e) e) (yC a b c e) e else bif iw a b c e then YB a b c e else YB a b c e
def BL:ajz:=bif cC a b c e then bif pK a b c e then [((2:Int),ByteArray.mk #[],(0:Int))]else bif pL a b c e then [((3:Int),ByteArray.mk #[],(0:Int))]else [((1:Int),v8 d[v6 (CQ a b c d e)]? ByteArray.empty,(0:Int))]else bif iw a b c e then HN a b c e else HN a b c e
def TG:Bool:=allT [!JS a||aG b c e,!cC a b c e||aG (fv a b e) (vN a b c e) e,!cC a b c e||(pK a b c e||(pL a b c e||aG (nxA 12 (fv a b e) e) (yC a b c e) e)),!cC a b c e||(pK a b c e||(pL a b c e||leI 0 (CQ a b c d e))),!cC a b c e||(pK a b c e||(pL a b c e||ltI (CQ a b c d e) (↑d.length:Int))),!cC a b c e||(pK a b c e||(pL a b c e||ltN (v6 (CQ a b c d e)) d.length)),cC a b c e||aG (fv a b e) (vN a b c e) e&&leN 1 (v7 [(4:Int),(5:Int),(6:Int),(5:Int),(6:Int),(7:Int),(8:Int),(9:Int),(10:Int),(11:Int),(12:Int)]),cC a b c e||false,cC a b c e||(!iw a b c e||false),cC a b c e||(!iw a b c e||leN (0 + 0) 9223372036854775807),cC a b c e||(!iw a b c e||leN ((0 + 0) * 32) 140737488355328),cC a b c e||(!iw a b c e||YC a b c e),cC a b c e||(!iw a b c e||YD a b c e),cC a b c e||(!iw a b c e||YE a b c e),cC a b c e||(iw a b c e||YC a b c e),cC a b c e||(iw a b c e||YD a b c e),cC a b c e||(iw a b c e||YE a b c e)]
end
def aap:awh
 | [.one ⟨false,[.ptr 0 0]⟩,.one ⟨false,[.ref 1]⟩,.one ⟨false,[.val (.int .i64 a)]⟩],[.box 113 [.ref 2,.val (.int .i64 b),.val (.int .i64 c)],.row false 9 (.str) d,.row false 5 (.int .u8) e]=>some ⟨aBB (.ref 3),[.box 113 [.ref 2,axb (BJ a b c d e),axb (BK a b c d e)],aBD d,aBL e],[aBM (BL a b c d e)],[TG a b c d e]⟩
 |_,_=>none
def ajT:PF prog:=PF.ofG prog (T3z [ai,db,xP,NC,Ts]) [] aT 126 f126 func126 (fun c _=>LOk.nil c) aap (by
 intro _ _ _ h;unfold aap at h;split at h<;>cases h;kernel_rfl)
def avf(ns:List avP):Bool:=leN 1 ns.length&&(leN ns.length 1000&&ns.all fun s=>leN s.size 1000)
def dtN(k d a s:Int)(ns:List avP)(c:avO):Bool:=(leI 0 d&&leI d k)&&(aG a s c&&avf ns)
def dtL(n:Nat)(ts:List TM):Prop:=1≤ts.length∧ts.length≤n∧ ∀ t∈ts,t.2.1.size≤1000
theorem VB{k d a s:Int}{ns:List avP}{c:avO}:dtN k d a s ns c=true↔(0≤d∧d≤k)∧aG a s c=true∧avf ns=true:=by
 simp only [dtN,q8,Gt]
theorem agd{ns:List avP}:avf ns=true↔1≤ns.length∧ns.length≤1000∧ ∀ s∈ns,s.size≤1000:=by
 simp only [avf,q8,gR,List.all_eq_true]
theorem jR{n a s:Int}{c:avO}(h:aG a s c=true):aG (nxA n a c) (nxS n a s c) c=true:=(an9 n h).2.1
theorem WT{a s x:Int}{l c:avO}(h:aG a s c=true):aG (pkA a (x::l) c) (pkS a s (x::l) c) c=true:=(axo (l:=x::l) (by rw [h];rfl)).2.1
theorem ajR{C:Type}(x:C)(l:List C):leN 1 (x::l).length=true:=bx (by simp)
theorem OG{n a s:Int}{c:avO}(h:aG a s c=true)(hn:1≤n):0≤nxV n a s c∧nxV n a s c < n:=⟨(an9 n h).2.2.1,(an9 n h).2.2.2 hn⟩
theorem rt{t:Bool}{a a' s s':Int}{c:avO}(h:aG a s c=true)(h':aG a' s' c=true):aG (bif t then a else a') (bif t then s else s') c=true:=by cases t <;> assumption
theorem at6{ns:List avP}{i:Int}(hn:avf ns=true)(d:avP)(h0:0≤i)(h1:i < ns.length):(v8 ns[i.toNat]? d).size≤1000:=by
 have fC:i.toNat < ns.length:=by omega
 rw [List.getElem?_eq_getElem fC]
 exact(agd.1 hn).2.2 _ (List.getElem_mem fC)
theorem av8(d a s:Int)(ns:List avP)(c:avO)(h:dtN 0 d a s ns c=true):
  TG d a s ns c=true∧aG (BJ d a s ns c) (BK d a s ns c) c=true∧dtL 1 (BL d a s ns c):=by
 obtain⟨⟨h0,h1⟩,hs,hn⟩:=VB.1 h
 have hd:d=0:=by omega
 subst hd
 obtain⟨n1,n2,n3⟩:=agd.1 hn
 have a0:cC 0 a s c=true:=rfl
 have a1:JS 0=false:=rfl
 have a2:fv 0 a c=a:=rfl
 have a3:vN 0 a s c=s:=rfl
 have a11:yC 0 a s c=nxS 12 a s c:=rfl
 have hs2:aG (nxA 12 a c) (nxS 12 a s c) c=true:=jR hs
 have a14:CQ 0 a s ns c=nxV (ns.length:Int) (nxA 12 a c) (nxS 12 a s c) c:=rfl
 obtain⟨i0,i1⟩:=OG (n:=(ns.length:Int)) hs2 (by omega)
 have j0:=bk i0
 have j1:=dw i1
 have j2:ltN (nxV (ns.length:Int) (nxA 12 a c) (nxS 12 a s c) c).toNat ns.length=true:=eD (by omega)
 refine⟨?_,?_,?_⟩
 ·simp only [TG,a0,a1,a2,a3,a11,a14,hs,hs2,j0,j1,j2,allT,Bool.true_or,k8,Bool.not_true,Bool.not_false,Bool.false_or,cond_true]
  all_goals simp
 ·simp only [BJ,BK,a0,a2,a11,cond_true]
  cases pK 0 a s c
  ·cases pL 0 a s c
   ·exact jR hs2
   ·exact hs2
  ·exact hs2
 ·simp only [BL,a0,a14,cond_true]
  cases pK 0 a s c
  ·cases pL 0 a s c
   ·refine⟨by simp,by simp,fun t ht=> ?_⟩
    rw [cond_false,cond_false,qqz]at ht
    subst ht
    exact at6 hn _ i0 i1
   ·exact⟨by simp,by simp,fun t ht=>by rw [cond_false,cond_true,qqz]at ht;subst ht;exact Nat.zero_le _⟩
  ·exact⟨by simp,by simp,fun t ht=>by rw [cond_true,qqz]at ht;subst ht;exact Nat.zero_le _⟩
theorem OU{n:Nat}{k m:Int}{s:avP}(h:s.size≤1000):dtL (n + 1) [(k,s,m)]:=
 ⟨by simp,by simp,fun t ht=>by rw [qqz]at ht;subst ht;exact h⟩
theorem ab3{n m k:Nat}{a b:List TM}(h1:dtL n a)(h2:dtL m b)(h:n + m≤k):dtL k (a++b):=by
 obtain⟨p1,p2,p3⟩:=h1
 obtain⟨q1,q2,q3⟩:=h2
 refine⟨by rw [j6];omega,by rw [j6];omega,fun t ht=> ?_⟩
 rcases j8.1 ht with h | h
 ·exact p3 t h
 ·exact q3 t h
def aax:awh
 | [.one ⟨false,[.ptr 0 0]⟩,.one ⟨false,[.ref 1]⟩,.one ⟨false,[.val (.int .i64 a)]⟩],[.box 113 [.ref 2,.val (.int .i64 b),.val (.int .i64 c)],.row false 9 (.str) d,.row false 5 (.int .u8) e]=>some ⟨aBB (.ref 3),[.box 113 [.ref 2,axb (BJ a b c d e),axb (BK a b c d e)],aBD d,aBL e],[aBM (BL a b c d e)],[dtN 0 a b c d e]⟩
 |_,_=>none
def Tn:PF prog:=PF.alt ajT aax (by
 intro args es o h cA;unfold aax at h;split at h
 ·rename_i a b c d e
  cases h
  have cA:=jQ cA
  have hh:=(av8 a b c d e cA).1
  have en:=hh
  exact pW rfl (ip en) rfl rfl rfl
 ·cases h)
section
variable (a b c:Int)(d:List avP)(e:avO)
def cD:Bool:=bif a==0 then true else nxV 4 b c e==0
def Rt:Bool:= !a==0&&true
def eU:Int:=bif Rt a then nxA 4 b e else b
def vO:Int:=bif Rt a then nxS 4 b c e else c
def Zm:Int:=nxV 12 (eU a b e) (vO a b c e) e
def pN:Bool:=Zm a b c e==0
def pO:Bool:=Zm a b c e==1
def eV:Int:=pkV (eU a b e) (vO a b c e) [(4:Int),(5:Int),(6:Int),(5:Int),(6:Int),(7:Int),(8:Int),(9:Int),(10:Int),(11:Int),(12:Int)] e
def fw:Bool:=fT (eV a b c e)==2
def kP:Int:=v9 .i64 (a - (1:Int))
def yD:Int:=pkA (eU a b e) [(4:Int),(5:Int),(6:Int),(5:Int),(6:Int),(7:Int),(8:Int),(9:Int),(10:Int),(11:Int),(12:Int)] e
def yE:Int:=pkS (eU a b e) (vO a b c e) [(4:Int),(5:Int),(6:Int),(5:Int),(6:Int),(7:Int),(8:Int),(9:Int),(10:Int),(11:Int),(12:Int)] e
def jG:Int:=BJ (kP a) (yD a b e) (yE a b c e) d e
def lB:Int:=BK (kP a) (yD a b e) (yE a b c e) d e
def yF:Int:=BJ (kP a) (jG a b c d e) (lB a b c d e) d e
def yG:Int:=nxS 12 (eU a b e) (vO a b c e) e
def CR:Int:=BK (kP a) (jG a b c d e) (lB a b c d e) d e
def uq:Int:=nxV (↑d.length:Int) (nxA 12 (eU a b e) e) (yG a b c e) e
def jH:alv:=BL (kP a) (yD a b e) (yE a b c e) d e
def yH:alv:=BL (kP a) (jG a b c d e) (lB a b c d e) d e
def yI:alv:=jH a b c d e++yH a b c d e
def YF:Int:=bif al (eV a b c e)then eV a b c e else eV a b c e
def HO:avP:=bif al (eV a b c e)then ByteArray.mk #[]else ByteArray.mk #[]
def yJ:alv:= [(YF a b c e,HO a b c e,bif al (eV a b c e)then nxV 4 (yF a b c d e) (CR a b c d e) e else(0:Int))]
def yK:alv:= [(YF a b c e,HO a b c e,bif al (eV a b c e)then nxV 4 (jG a b c d e) (lB a b c d e) e else(0:Int))]
def xy:Int:=bif cD a b c e then bif pN a b c e then nxA 12 (eU a b e) e else bif pO a b c e then nxA 12 (eU a b e) e else nxA (↑d.length:Int) (nxA 12 (eU a b e) e) e else bif fw a b c e then bif al (eV a b c e)then nxA 4 (yF a b c d e) e else yF a b c d e else bif al (eV a b c e)then nxA 4 (jG a b c d e) e else jG a b c d e
def xz:Int:=bif cD a b c e then bif pN a b c e then yG a b c e else bif pO a b c e then yG a b c e else nxS (↑d.length:Int) (nxA 12 (eU a b e) e) (yG a b c e) e else bif fw a b c e then bif al (eV a b c e)then nxS 4 (yF a b c d e) (CR a b c d e) e else CR a b c d e else bif al (eV a b c e)then nxS 4 (jG a b c d e) (lB a b c d e) e else lB a b c d e
def xA:ajz:=bif cD a b c e then bif pN a b c e then [((2:Int),ByteArray.mk #[],(0:Int))]else bif pO a b c e then [((3:Int),ByteArray.mk #[],(0:Int))]else [((1:Int),v8 d[v6 (uq a b c d e)]? ByteArray.empty,(0:Int))]else bif fw a b c e then yI a b c d e++yJ a b c d e else jH a b c d e++yK a b c d e
def Ld:Bool:=allT [!Rt a||aG b c e,!cD a b c e||aG (eU a b e) (vO a b c e) e,!cD a b c e||(pN a b c e||(pO a b c e||aG (nxA 12 (eU a b e) e) (yG a b c e) e)),!cD a b c e||(pN a b c e||(pO a b c e||leI 0 (uq a b c d e))),!cD a b c e||(pN a b c e||(pO a b c e||ltI (uq a b c d e) (↑d.length:Int))),!cD a b c e||(pN a b c e||(pO a b c e||ltN (v6 (uq a b c d e)) d.length)),cD a b c e||aG (eU a b e) (vO a b c e) e&&leN 1 (v7 [(4:Int),(5:Int),(6:Int),(5:Int),(6:Int),(7:Int),(8:Int),(9:Int),(10:Int),(11:Int),(12:Int)]),cD a b c e||dtN 0 (kP a) (yD a b e) (yE a b c e) d e,cD a b c e||(!fw a b c e||dtN 0 (kP a) (jG a b c d e) (lB a b c d e) d e),cD a b c e||(!fw a b c e||leN (v7 (jH a b c d e) + v7 (yH a b c d e)) 9223372036854775807),cD a b c e||(!fw a b c e||leN ((v7 (jH a b c d e) + v7 (yH a b c d e)) * 32) 140737488355328),cD a b c e||(!fw a b c e||(!al (eV a b c e)||aG (yF a b c d e) (CR a b c d e) e)),cD a b c e||(!fw a b c e||leN (v7 (yI a b c d e) + v7 (yJ a b c d e)) 9223372036854775807),cD a b c e||(!fw a b c e||leN ((v7 (yI a b c d e) + v7 (yJ a b c d e)) * 32) 140737488355328),cD a b c e||(fw a b c e||(!al (eV a b c e)||aG (jG a b c d e) (lB a b c d e) e)),cD a b c e||(fw a b c e||leN (v7 (jH a b c d e) + v7 (yK a b c d e)) 9223372036854775807),cD a b c e||(fw a b c e||leN ((v7 (jH a b c d e) + v7 (yK a b c d e)) * 32) 140737488355328)]
end
def aaq:awh
 | [.one ⟨false,[.ptr 0 0]⟩,.one ⟨false,[.ref 1]⟩,.one ⟨false,[.val (.int .i64 a)]⟩],[.box 113 [.ref 2,.val (.int .i64 b),.val (.int .i64 c)],.row false 9 (.str) d,.row false 5 (.int .u8) e]=>some ⟨aBB (.ref 3),[.box 113 [.ref 2,axb (xy a b c d e),axb (xz a b c d e)],aBD d,aBL e],[aBM (xA a b c d e)],[Ld a b c d e]⟩
 |_,_=>none
def ajU:PF prog:=PF.ofG prog (T3z [ai,db,xP,NC,Tn]) [] aT 126 f126 func126 (fun c _=>LOk.nil c) aaq (by
 intro _ _ _ h;unfold aaq at h;split at h<;>cases h;kernel_rfl)
theorem av9(d a s:Int)(ns:List avP)(c:avO)(h:dtN 1 d a s ns c=true):
  Ld d a s ns c=true∧aG (xy d a s ns c) (xz d a s ns c) c=true∧dtL 3 (xA d a s ns c):=by
 obtain⟨⟨h0,h1⟩,hs,hn⟩:=VB.1 h
 obtain⟨n1,n2,n3⟩:=agd.1 hn
 have s23:aG (eU d a c) (vO d a s c) c=true:=rt (jR hs) hs
 have hs2:aG (nxA 12 (eU d a c) c) (yG d a s c) c=true:=jR s23
 obtain⟨i0,i1⟩:0≤uq d a s ns c∧uq d a s ns c < (ns.length:Int):=OG (n:=(ns.length:Int)) hs2 (by omega)
 have j0:=bk i0
 have j1:=dw i1
 have j2:ltN (uq d a s ns c).toNat ns.length=true:=eD (by omega)
 cases h0:cD d a s c with
 |true=>
  refine⟨?_,?_,?_⟩
  ·simp only [Ld,h0,hs,s23,hs2,j0,j1,j2,allT,Bool.true_or,k8,Bool.not_true,Bool.false_or,cond_true]
  ·simp only [xy,xz,h0,cond_true]
   cases pN d a s c
   ·cases pO d a s c
    ·exact jR hs2
    ·exact hs2
   ·exact hs2
  ·simp only [xA,h0,cond_true]
   cases pN d a s c
   ·cases pO d a s c
    ·exact OU (at6 hn _ i0 i1)
    ·exact OU (Nat.zero_le _)
   ·exact OU (Nat.zero_le _)
 |false=>
  have hd:1≤d:=by
   by_cases hd0:d=0
   ·rw [hd0]at h0;cases h0
   ·omega
  have a9:kP d=d - 1:=aM (by omega) (by omega)
  have s10:aG (yD d a c) (yE d a s c) c=true:=WT s23
  have d1:dtN 0 (kP d) (yD d a c) (yE d a s c) ns c=true:=VB.2 ⟨by omega,s10,hn⟩
  obtain⟨_,s12,q18⟩:=av8 _ _ _ ns c d1
  have s12:aG (jG d a s ns c) (lB d a s ns c) c=true:=s12
  have q18:dtL 1 (jH d a s ns c):=q18
  have d2:dtN 0 (kP d) (jG d a s ns c) (lB d a s ns c) ns c=true:=VB.2 ⟨by omega,s12,hn⟩
  obtain⟨_,s14,q19⟩:=av8 _ _ _ ns c d2
  have s14:aG (yF d a s ns c) (CR d a s ns c) c=true:=s14
  have q19:dtL 1 (yH d a s ns c):=q19
  have q23:dtL 1 (yJ d a s ns c):=OU (by simp only [HO];cases al (eV d a s c) <;> exact Nat.zero_le _)
  have q24:dtL 1 (yK d a s ns c):=OU (by simp only [HO];cases al (eV d a s c) <;> exact Nat.zero_le _)
  have q20:dtL 2 (yI d a s ns c):=ab3 q18 q19 (by omega)
  have l18:=q18.2.1
  have l19:=q19.2.1
  have l20:=q20.2.1
  have l23:=q23.2.1
  have l24:=q24.2.1
  have p10:leN 1 (v7 [(4:Int),5,6,5,6,7,8,9,10,11,12])=true:=rfl
  refine⟨?_,?_,?_⟩
  ·simp only [Ld,h0,hs,s23,s10,d1,d2,s12,s14,p10,bx (show (jH d a s ns c).length + (yH d a s ns c).length≤9223372036854775807 by omega),bx (show ((jH d a s ns c).length + (yH d a s ns c).length) * 32≤140737488355328 by omega),
    bx (show (yI d a s ns c).length + (yJ d a s ns c).length≤9223372036854775807 by omega),bx (show ((yI d a s ns c).length + (yJ d a s ns c).length) * 32≤140737488355328 by omega),
    bx (show (jH d a s ns c).length + (yK d a s ns c).length≤9223372036854775807 by omega),bx (show ((jH d a s ns c).length + (yK d a s ns c).length) * 32≤140737488355328 by omega),
    allT,Bool.true_or,k8,Bool.not_false,Bool.false_or,Bool.and_self,cond_true]
  ·simp only [xy,xz,h0,cond_false]
   cases fw d a s c <;> simp only [cond_true,cond_false]
   ·exact rt (jR s12) s12
   ·exact rt (jR s14) s14
  ·simp only [xA,h0,cond_false]
   cases fw d a s c <;> simp only [cond_true,cond_false]
   ·exact ab3 q18 q24 (by omega)
   ·exact ab3 q20 q23 (by omega)
def aay:awh
 | [.one ⟨false,[.ptr 0 0]⟩,.one ⟨false,[.ref 1]⟩,.one ⟨false,[.val (.int .i64 a)]⟩],[.box 113 [.ref 2,.val (.int .i64 b),.val (.int .i64 c)],.row false 9 (.str) d,.row false 5 (.int .u8) e]=>some ⟨aBB (.ref 3),[.box 113 [.ref 2,axb (xy a b c d e),axb (xz a b c d e)],aBD d,aBL e],[aBM (xA a b c d e)],[dtN 1 a b c d e]⟩
 |_,_=>none
def To:PF prog:=PF.alt ajU aay (by
 intro args es o h cA;unfold aay at h;split at h
 ·rename_i a b c d e
  cases h
  have cA:=jQ cA
  have hh:=(av9 a b c d e cA).1
  have en:=hh
  exact pW rfl (ip en) rfl rfl rfl
 ·cases h)
section
variable (a b c:Int)(d:List avP)(e:avO)
def cE:Bool:=bif a==0 then true else nxV 4 b c e==0
def Ru:Bool:= !a==0&&true
def eW:Int:=bif Ru a then nxA 4 b e else b
def vP:Int:=bif Ru a then nxS 4 b c e else c
def Zn:Int:=nxV 12 (eW a b e) (vP a b c e) e
def pP:Bool:=Zn a b c e==0
def pQ:Bool:=Zn a b c e==1
def eX:Int:=pkV (eW a b e) (vP a b c e) [(4:Int),(5:Int),(6:Int),(5:Int),(6:Int),(7:Int),(8:Int),(9:Int),(10:Int),(11:Int),(12:Int)] e
def fy:Bool:=fT (eX a b c e)==2
def kQ:Int:=v9 .i64 (a - (1:Int))
def yL:Int:=pkA (eW a b e) [(4:Int),(5:Int),(6:Int),(5:Int),(6:Int),(7:Int),(8:Int),(9:Int),(10:Int),(11:Int),(12:Int)] e
def yM:Int:=pkS (eW a b e) (vP a b c e) [(4:Int),(5:Int),(6:Int),(5:Int),(6:Int),(7:Int),(8:Int),(9:Int),(10:Int),(11:Int),(12:Int)] e
def jI:Int:=xy (kQ a) (yL a b e) (yM a b c e) d e
def lC:Int:=xz (kQ a) (yL a b e) (yM a b c e) d e
def yN:Int:=xy (kQ a) (jI a b c d e) (lC a b c d e) d e
def yO:Int:=nxS 12 (eW a b e) (vP a b c e) e
def CS:Int:=xz (kQ a) (jI a b c d e) (lC a b c d e) d e
def ur:Int:=nxV (↑d.length:Int) (nxA 12 (eW a b e) e) (yO a b c e) e
def jJ:alv:=xA (kQ a) (yL a b e) (yM a b c e) d e
def yP:alv:=xA (kQ a) (jI a b c d e) (lC a b c d e) d e
def yQ:alv:=jJ a b c d e++yP a b c d e
def YG:Int:=bif al (eX a b c e)then eX a b c e else eX a b c e
def HP:avP:=bif al (eX a b c e)then ByteArray.mk #[]else ByteArray.mk #[]
def yR:alv:= [(YG a b c e,HP a b c e,bif al (eX a b c e)then nxV 4 (yN a b c d e) (CS a b c d e) e else(0:Int))]
def yS:alv:= [(YG a b c e,HP a b c e,bif al (eX a b c e)then nxV 4 (jI a b c d e) (lC a b c d e) e else(0:Int))]
def xB:Int:=bif cE a b c e then bif pP a b c e then nxA 12 (eW a b e) e else bif pQ a b c e then nxA 12 (eW a b e) e else nxA (↑d.length:Int) (nxA 12 (eW a b e) e) e else bif fy a b c e then bif al (eX a b c e)then nxA 4 (yN a b c d e) e else yN a b c d e else bif al (eX a b c e)then nxA 4 (jI a b c d e) e else jI a b c d e
def xC:Int:=bif cE a b c e then bif pP a b c e then yO a b c e else bif pQ a b c e then yO a b c e else nxS (↑d.length:Int) (nxA 12 (eW a b e) e) (yO a b c e) e else bif fy a b c e then bif al (eX a b c e)then nxS 4 (yN a b c d e) (CS a b c d e) e else CS a b c d e else bif al (eX a b c e)then nxS 4 (jI a b c d e) (lC a b c d e) e else lC a b c d e
def xD:ajz:=bif cE a b c e then bif pP a b c e then [((2:Int),ByteArray.mk #[],(0:Int))]else bif pQ a b c e then [((3:Int),ByteArray.mk #[],(0:Int))]else [((1:Int),v8 d[v6 (ur a b c d e)]? ByteArray.empty,(0:Int))]else bif fy a b c e then yQ a b c d e++yR a b c d e else jJ a b c d e++yS a b c d e
def Le:Bool:=allT [!Ru a||aG b c e,!cE a b c e||aG (eW a b e) (vP a b c e) e,!cE a b c e||(pP a b c e||(pQ a b c e||aG (nxA 12 (eW a b e) e) (yO a b c e) e)),!cE a b c e||(pP a b c e||(pQ a b c e||leI 0 (ur a b c d e))),!cE a b c e||(pP a b c e||(pQ a b c e||ltI (ur a b c d e) (↑d.length:Int))),!cE a b c e||(pP a b c e||(pQ a b c e||ltN (v6 (ur a b c d e)) d.length)),cE a b c e||aG (eW a b e) (vP a b c e) e&&leN 1 (v7 [(4:Int),(5:Int),(6:Int),(5:Int),(6:Int),(7:Int),(8:Int),(9:Int),(10:Int),(11:Int),(12:Int)]),cE a b c e||dtN 1 (kQ a) (yL a b e) (yM a b c e) d e,cE a b c e||(!fy a b c e||dtN 1 (kQ a) (jI a b c d e) (lC a b c d e) d e),cE a b c e||(!fy a b c e||leN (v7 (jJ a b c d e) + v7 (yP a b c d e)) 9223372036854775807),cE a b c e||(!fy a b c e||leN ((v7 (jJ a b c d e) + v7 (yP a b c d e)) * 32) 140737488355328),cE a b c e||(!fy a b c e||(!al (eX a b c e)||aG (yN a b c d e) (CS a b c d e) e)),cE a b c e||(!fy a b c e||leN (v7 (yQ a b c d e) + v7 (yR a b c d e)) 9223372036854775807),cE a b c e||(!fy a b c e||leN ((v7 (yQ a b c d e) + v7 (yR a b c d e)) * 32) 140737488355328),cE a b c e||(fy a b c e||(!al (eX a b c e)||aG (jI a b c d e) (lC a b c d e) e)),cE a b c e||(fy a b c e||leN (v7 (jJ a b c d e) + v7 (yS a b c d e)) 9223372036854775807),cE a b c e||(fy a b c e||leN ((v7 (jJ a b c d e) + v7 (yS a b c d e)) * 32) 140737488355328)]
end
def aar:awh
 | [.one ⟨false,[.ptr 0 0]⟩,.one ⟨false,[.ref 1]⟩,.one ⟨false,[.val (.int .i64 a)]⟩],[.box 113 [.ref 2,.val (.int .i64 b),.val (.int .i64 c)],.row false 9 (.str) d,.row false 5 (.int .u8) e]=>some ⟨aBB (.ref 3),[.box 113 [.ref 2,axb (xB a b c d e),axb (xC a b c d e)],aBD d,aBL e],[aBM (xD a b c d e)],[Le a b c d e]⟩
 |_,_=>none
def ajV:PF prog:=PF.ofG prog (T3z [ai,db,xP,NC,To]) [] aT 126 f126 func126 (fun c _=>LOk.nil c) aar (by
 intro _ _ _ h;unfold aar at h;split at h<;>cases h;kernel_rfl)
theorem awa(d a s:Int)(ns:List avP)(c:avO)(h:dtN 2 d a s ns c=true):
  Le d a s ns c=true∧aG (xB d a s ns c) (xC d a s ns c) c=true∧dtL 7 (xD d a s ns c):=by
 obtain⟨⟨h0,h1⟩,hs,hn⟩:=VB.1 h
 obtain⟨n1,n2,n3⟩:=agd.1 hn
 have s23:aG (eW d a c) (vP d a s c) c=true:=rt (jR hs) hs
 have hs2:aG (nxA 12 (eW d a c) c) (yO d a s c) c=true:=jR s23
 obtain⟨i0,i1⟩:0≤ur d a s ns c∧ur d a s ns c < (ns.length:Int):=OG (n:=(ns.length:Int)) hs2 (by omega)
 have j0:=bk i0
 have j1:=dw i1
 have j2:ltN (ur d a s ns c).toNat ns.length=true:=eD (by omega)
 cases h0:cE d a s c with
 |true=>
  refine⟨?_,?_,?_⟩
  ·simp only [Le,h0,hs,s23,hs2,j0,j1,j2,allT,Bool.true_or,k8,Bool.not_true,Bool.false_or,cond_true]
  ·simp only [xB,xC,h0,cond_true]
   cases pP d a s c
   ·cases pQ d a s c
    ·exact jR hs2
    ·exact hs2
   ·exact hs2
  ·simp only [xD,h0,cond_true]
   cases pP d a s c
   ·cases pQ d a s c
    ·exact OU (at6 hn _ i0 i1)
    ·exact OU (Nat.zero_le _)
   ·exact OU (Nat.zero_le _)
 |false=>
  have hd:1≤d:=by
   by_cases hd0:d=0
   ·rw [hd0]at h0;cases h0
   ·omega
  have a9:kQ d=d - 1:=aM (by omega) (by omega)
  have s10:aG (yL d a c) (yM d a s c) c=true:=WT s23
  have d1:dtN 1 (kQ d) (yL d a c) (yM d a s c) ns c=true:=VB.2 ⟨by omega,s10,hn⟩
  obtain⟨_,s12,q18⟩:=av9 _ _ _ ns c d1
  have s12:aG (jI d a s ns c) (lC d a s ns c) c=true:=s12
  have q18:dtL 3 (jJ d a s ns c):=q18
  have d2:dtN 1 (kQ d) (jI d a s ns c) (lC d a s ns c) ns c=true:=VB.2 ⟨by omega,s12,hn⟩
  obtain⟨_,s14,q19⟩:=av9 _ _ _ ns c d2
  have s14:aG (yN d a s ns c) (CS d a s ns c) c=true:=s14
  have q19:dtL 3 (yP d a s ns c):=q19
  have q23:dtL 1 (yR d a s ns c):=OU (by simp only [HP];cases al (eX d a s c) <;> exact Nat.zero_le _)
  have q24:dtL 1 (yS d a s ns c):=OU (by simp only [HP];cases al (eX d a s c) <;> exact Nat.zero_le _)
  have q20:dtL 6 (yQ d a s ns c):=ab3 q18 q19 (by omega)
  have l18:=q18.2.1
  have l19:=q19.2.1
  have l20:=q20.2.1
  have l23:=q23.2.1
  have l24:=q24.2.1
  have p10:leN 1 (v7 [(4:Int),5,6,5,6,7,8,9,10,11,12])=true:=rfl
  refine⟨?_,?_,?_⟩
  ·simp only [Le,h0,hs,s23,s10,d1,d2,s12,s14,p10,bx (show (jJ d a s ns c).length + (yP d a s ns c).length≤9223372036854775807 by omega),bx (show ((jJ d a s ns c).length + (yP d a s ns c).length) * 32≤140737488355328 by omega),
    bx (show (yQ d a s ns c).length + (yR d a s ns c).length≤9223372036854775807 by omega),bx (show ((yQ d a s ns c).length + (yR d a s ns c).length) * 32≤140737488355328 by omega),
    bx (show (jJ d a s ns c).length + (yS d a s ns c).length≤9223372036854775807 by omega),bx (show ((jJ d a s ns c).length + (yS d a s ns c).length) * 32≤140737488355328 by omega),
    allT,Bool.true_or,k8,Bool.not_false,Bool.false_or,Bool.and_self,cond_true]
  ·simp only [xB,xC,h0,cond_false]
   cases fy d a s c <;> simp only [cond_true,cond_false]
   ·exact rt (jR s12) s12
   ·exact rt (jR s14) s14
  ·simp only [xD,h0,cond_false]
   cases fy d a s c <;> simp only [cond_true,cond_false]
   ·exact ab3 q18 q24 (by omega)
   ·exact ab3 q20 q23 (by omega)
def aaz:awh
 | [.one ⟨false,[.ptr 0 0]⟩,.one ⟨false,[.ref 1]⟩,.one ⟨false,[.val (.int .i64 a)]⟩],[.box 113 [.ref 2,.val (.int .i64 b),.val (.int .i64 c)],.row false 9 (.str) d,.row false 5 (.int .u8) e]=>some ⟨aBB (.ref 3),[.box 113 [.ref 2,axb (xB a b c d e),axb (xC a b c d e)],aBD d,aBL e],[aBM (xD a b c d e)],[dtN 2 a b c d e]⟩
 |_,_=>none
def Tp:PF prog:=PF.alt ajV aaz (by
 intro args es o h cA;unfold aaz at h;split at h
 ·rename_i a b c d e
  cases h
  have cA:=jQ cA
  have hh:=(awa a b c d e cA).1
  have en:=hh
  exact pW rfl (ip en) rfl rfl rfl
 ·cases h)
section
variable (a b c:Int)(d:List avP)(e:avO)
def cW:Bool:=bif a==0 then true else nxV 4 b c e==0
def TH:Bool:= !a==0&&true
def fm:Int:=bif TH a then nxA 4 b e else b
def xE:Int:=bif TH a then nxS 4 b c e else c
def aaZ:Int:=nxV 12 (fm a b e) (xE a b c e) e
def rj:Bool:=aaZ a b c e==0
def rk:Bool:=aaZ a b c e==1
def fo:Int:=pkV (fm a b e) (xE a b c e) [(4:Int),(5:Int),(6:Int),(5:Int),(6:Int),(7:Int),(8:Int),(9:Int),(10:Int),(11:Int),(12:Int)] e
def gx:Bool:=fT (fo a b c e)==2
def lY:Int:=v9 .i64 (a - (1:Int))
def Ak:Int:=pkA (fm a b e) [(4:Int),(5:Int),(6:Int),(5:Int),(6:Int),(7:Int),(8:Int),(9:Int),(10:Int),(11:Int),(12:Int)] e
def Al:Int:=pkS (fm a b e) (xE a b c e) [(4:Int),(5:Int),(6:Int),(5:Int),(6:Int),(7:Int),(8:Int),(9:Int),(10:Int),(11:Int),(12:Int)] e
def kR:Int:=xB (lY a) (Ak a b e) (Al a b c e) d e
def mY:Int:=xC (lY a) (Ak a b e) (Al a b c e) d e
def Am:Int:=xB (lY a) (kR a b c d e) (mY a b c d e) d e
def An:Int:=nxS 12 (fm a b e) (xE a b c e) e
def Eh:Int:=xC (lY a) (kR a b c d e) (mY a b c d e) d e
def vQ:Int:=nxV (↑d.length:Int) (nxA 12 (fm a b e) e) (An a b c e) e
def kS:alv:=xD (lY a) (Ak a b e) (Al a b c e) d e
def Ao:alv:=xD (lY a) (kR a b c d e) (mY a b c d e) d e
def Ap:alv:=kS a b c d e++Ao a b c d e
def Zo:Int:=bif al (fo a b c e)then fo a b c e else fo a b c e
def JT:avP:=bif al (fo a b c e)then ByteArray.mk #[]else ByteArray.mk #[]
def Aq:alv:= [(Zo a b c e,JT a b c e,bif al (fo a b c e)then nxV 4 (Am a b c d e) (Eh a b c d e) e else(0:Int))]
def Ar:alv:= [(Zo a b c e,JT a b c e,bif al (fo a b c e)then nxV 4 (kR a b c d e) (mY a b c d e) e else(0:Int))]
def zJ:Int:=bif cW a b c e then bif rj a b c e then nxA 12 (fm a b e) e else bif rk a b c e then nxA 12 (fm a b e) e else nxA (↑d.length:Int) (nxA 12 (fm a b e) e) e else bif gx a b c e then bif al (fo a b c e)then nxA 4 (Am a b c d e) e else Am a b c d e else bif al (fo a b c e)then nxA 4 (kR a b c d e) e else kR a b c d e
def zK:Int:=bif cW a b c e then bif rj a b c e then An a b c e else bif rk a b c e then An a b c e else nxS (↑d.length:Int) (nxA 12 (fm a b e) e) (An a b c e) e else bif gx a b c e then bif al (fo a b c e)then nxS 4 (Am a b c d e) (Eh a b c d e) e else Eh a b c d e else bif al (fo a b c e)then nxS 4 (kR a b c d e) (mY a b c d e) e else mY a b c d e
def zL:ajz:=bif cW a b c e then bif rj a b c e then [((2:Int),ByteArray.mk #[],(0:Int))]else bif rk a b c e then [((3:Int),ByteArray.mk #[],(0:Int))]else [((1:Int),v8 d[v6 (vQ a b c d e)]? ByteArray.empty,(0:Int))]else bif gx a b c e then Ap a b c d e++Aq a b c d e else kS a b c d e++Ar a b c d e
def MA:Bool:=allT [!TH a||aG b c e,!cW a b c e||aG (fm a b e) (xE a b c e) e,!cW a b c e||(rj a b c e||(rk a b c e||aG (nxA 12 (fm a b e) e) (An a b c e) e)),!cW a b c e||(rj a b c e||(rk a b c e||leI 0 (vQ a b c d e))),!cW a b c e||(rj a b c e||(rk a b c e||ltI (vQ a b c d e) (↑d.length:Int))),!cW a b c e||(rj a b c e||(rk a b c e||ltN (v6 (vQ a b c d e)) d.length)),cW a b c e||aG (fm a b e) (xE a b c e) e&&leN 1 (v7 [(4:Int),(5:Int),(6:Int),(5:Int),(6:Int),(7:Int),(8:Int),(9:Int),(10:Int),(11:Int),(12:Int)]),cW a b c e||dtN 2 (lY a) (Ak a b e) (Al a b c e) d e,cW a b c e||(!gx a b c e||dtN 2 (lY a) (kR a b c d e) (mY a b c d e) d e),cW a b c e||(!gx a b c e||leN (v7 (kS a b c d e) + v7 (Ao a b c d e)) 9223372036854775807),cW a b c e||(!gx a b c e||leN ((v7 (kS a b c d e) + v7 (Ao a b c d e)) * 32) 140737488355328),cW a b c e||(!gx a b c e||(!al (fo a b c e)||aG (Am a b c d e) (Eh a b c d e) e)),cW a b c e||(!gx a b c e||leN (v7 (Ap a b c d e) + v7 (Aq a b c d e)) 9223372036854775807),cW a b c e||(!gx a b c e||leN ((v7 (Ap a b c d e) + v7 (Aq a b c d e)) * 32) 140737488355328),cW a b c e||(gx a b c e||(!al (fo a b c e)||aG (kR a b c d e) (mY a b c d e) e)),cW a b c e||(gx a b c e||leN (v7 (kS a b c d e) + v7 (Ar a b c d e)) 9223372036854775807),cW a b c e||(gx a b c e||leN ((v7 (kS a b c d e) + v7 (Ar a b c d e)) * 32) 140737488355328)]
end
def abL:awh
 | [.one ⟨false,[.ptr 0 0]⟩,.one ⟨false,[.ref 1]⟩,.one ⟨false,[.val (.int .i64 a)]⟩],[.box 113 [.ref 2,.val (.int .i64 b),.val (.int .i64 c)],.row false 9 (.str) d,.row false 5 (.int .u8) e]=>some ⟨aBB (.ref 3),[.box 113 [.ref 2,axb (zJ a b c d e),axb (zK a b c d e)],aBD d,aBL e],[aBM (zL a b c d e)],[MA a b c d e]⟩
 |_,_=>none
def ak3:PF prog:=PF.ofG prog (T3z [ai,db,xP,NC,Tp]) [] aT 126 f126 func126 (fun c _=>LOk.nil c) abL (by
 intro _ _ _ h;unfold abL at h;split at h<;>cases h;kernel_rfl)
theorem ayw(d a s:Int)(ns:List avP)(c:avO)(h:dtN 3 d a s ns c=true):
  MA d a s ns c=true∧aG (zJ d a s ns c) (zK d a s ns c) c=true∧dtL 15 (zL d a s ns c):=by
 obtain⟨⟨h0,h1⟩,hs,hn⟩:=VB.1 h
 obtain⟨n1,n2,n3⟩:=agd.1 hn
 have s23:aG (fm d a c) (xE d a s c) c=true:=rt (jR hs) hs
 have hs2:aG (nxA 12 (fm d a c) c) (An d a s c) c=true:=jR s23
 obtain⟨i0,i1⟩:0≤vQ d a s ns c∧vQ d a s ns c < (ns.length:Int):=OG (n:=(ns.length:Int)) hs2 (by omega)
 have j0:=bk i0
 have j1:=dw i1
 have j2:ltN (vQ d a s ns c).toNat ns.length=true:=eD (by omega)
 cases h0:cW d a s c with
 |true=>
  refine⟨?_,?_,?_⟩
  ·simp only [MA,h0,hs,s23,hs2,j0,j1,j2,allT,Bool.true_or,k8,Bool.not_true,Bool.false_or,cond_true]
  ·simp only [zJ,zK,h0,cond_true]
   cases rj d a s c
   ·cases rk d a s c
    ·exact jR hs2
    ·exact hs2
   ·exact hs2
  ·simp only [zL,h0,cond_true]
   cases rj d a s c
   ·cases rk d a s c
    ·exact OU (at6 hn _ i0 i1)
    ·exact OU (Nat.zero_le _)
   ·exact OU (Nat.zero_le _)
 |false=>
  have hd:1≤d:=by
   by_cases hd0:d=0
   ·rw [hd0]at h0;cases h0
   ·omega
  have a9:lY d=d - 1:=aM (by omega) (by omega)
  have s10:aG (Ak d a c) (Al d a s c) c=true:=WT s23
  have d1:dtN 2 (lY d) (Ak d a c) (Al d a s c) ns c=true:=VB.2 ⟨by omega,s10,hn⟩
  obtain⟨_,s12,q18⟩:=awa _ _ _ ns c d1
  have s12:aG (kR d a s ns c) (mY d a s ns c) c=true:=s12
  have q18:dtL 7 (kS d a s ns c):=q18
  have d2:dtN 2 (lY d) (kR d a s ns c) (mY d a s ns c) ns c=true:=VB.2 ⟨by omega,s12,hn⟩
  obtain⟨_,s14,q19⟩:=awa _ _ _ ns c d2
  have s14:aG (Am d a s ns c) (Eh d a s ns c) c=true:=s14
  have q19:dtL 7 (Ao d a s ns c):=q19
  have q23:dtL 1 (Aq d a s ns c):=OU (by simp only [JT];cases al (fo d a s c) <;> exact Nat.zero_le _)
  have q24:dtL 1 (Ar d a s ns c):=OU (by simp only [JT];cases al (fo d a s c) <;> exact Nat.zero_le _)
  have q20:dtL 14 (Ap d a s ns c):=ab3 q18 q19 (by omega)
  have l18:=q18.2.1
  have l19:=q19.2.1
  have l20:=q20.2.1
  have l23:=q23.2.1
  have l24:=q24.2.1
  have p10:leN 1 (v7 [(4:Int),5,6,5,6,7,8,9,10,11,12])=true:=rfl
  refine⟨?_,?_,?_⟩
  ·simp only [MA,h0,hs,s23,s10,d1,d2,s12,s14,p10,bx (show (kS d a s ns c).length + (Ao d a s ns c).length≤9223372036854775807 by omega),bx (show ((kS d a s ns c).length + (Ao d a s ns c).length) * 32≤140737488355328 by omega),
    bx (show (Ap d a s ns c).length + (Aq d a s ns c).length≤9223372036854775807 by omega),bx (show ((Ap d a s ns c).length + (Aq d a s ns c).length) * 32≤140737488355328 by omega),
    bx (show (kS d a s ns c).length + (Ar d a s ns c).length≤9223372036854775807 by omega),bx (show ((kS d a s ns c).length + (Ar d a s ns c).length) * 32≤140737488355328 by omega),
    allT,Bool.true_or,k8,Bool.not_false,Bool.false_or,Bool.and_self,cond_true]
  ·simp only [zJ,zK,h0,cond_false]
   cases gx d a s c <;> simp only [cond_true,cond_false]
   ·exact rt (jR s12) s12
   ·exact rt (jR s14) s14
  ·simp only [zL,h0,cond_false]
   cases gx d a s c <;> simp only [cond_true,cond_false]
   ·exact ab3 q18 q24 (by omega)
   ·exact ab3 q20 q23 (by omega)
def abP:awh
 | [.one ⟨false,[.ptr 0 0]⟩,.one ⟨false,[.ref 1]⟩,.one ⟨false,[.val (.int .i64 a)]⟩],[.box 113 [.ref 2,.val (.int .i64 b),.val (.int .i64 c)],.row false 9 (.str) d,.row false 5 (.int .u8) e]=>some ⟨aBB (.ref 3),[.box 113 [.ref 2,axb (zJ a b c d e),axb (zK a b c d e)],aBD d,aBL e],[aBM (zL a b c d e)],[dtN 3 a b c d e]⟩
 |_,_=>none
def ln:PF prog:=PF.alt ak3 abP (by
 intro args es o h cA;unfold abP at h;split at h
 ·rename_i a b c d e
  cases h
  have cA:=jQ cA
  have hh:=(ayw a b c d e cA).1
  have en:=hh
  exact pW rfl (ip en) rfl rfl rfl
 ·cases h)
abbrev vV:=List avP×Int×Int×List (avP×(List (Int×(avP×Int))))×List avP×List Int
section
variable (a:List avP)(b c:Int)(d:afa)(e:List avP)(f:avO)
def EG:Int:=nxV 4 (nxA (↑a.length:Int) b f) (nxS (↑a.length:Int) b c f) f
def EH:Int:=nxA 4 (nxA (↑a.length:Int) b f) f
def EI:Int:=nxS 4 (nxA (↑a.length:Int) b f) (nxS (↑a.length:Int) b c f) f
def PD:afZ:= [(v8 a[v6 (nxV (↑a.length:Int) b c f)]? ByteArray.empty,zL (EG a b c f) (EH a b f) (EI a b c f) e f)]
def Bk:List avP:=List.drop (v6 0) (List.take (v6 (nxV (↑a.length:Int) b c f)) a)
def PE:Int:=v9 .i64 (nxV (↑a.length:Int) b c f + (1:Int))
def Jo:List avP:=List.drop (v6 (PE a b c f)) (List.take (v6 (↑a.length:Int)) a)
def Sa:Bool:=ltI 0 (↑a.length:Int)
def aeI:Bool:=aG b c f
def YI:Bool:=leI 0 (nxV (↑a.length:Int) b c f)
def aeJ:Bool:=ltI (nxV (↑a.length:Int) b c f) (↑a.length:Int)
def aeK:Bool:=ltN (v6 (nxV (↑a.length:Int) b c f)) a.length
def aeL:Bool:=aG (nxA (↑a.length:Int) b f) (nxS (↑a.length:Int) b c f) f
def aeM:Bool:=dtN 3 (EG a b c f) (EH a b f) (EI a b c f) e f
def aeN:Bool:=leN (v7 d + v7 (PD a b c e f)) 9223372036854775807
def aeO:Bool:=leN ((v7 d + v7 (PD a b c e f)) * 40) 140737488355328
end
def aeP:Bool:=leI 0 0
section
variable (a:List avP)(b c:Int)(d:afa)(e:List avP)(f:avO)
def ads:Bool:=leI (nxV (↑a.length:Int) b c f) (↑a.length:Int)
def adt:Bool:=leN (0 + v7 (Bk a b c f)) 9223372036854775807
def adu:Bool:=leN ((0 + v7 (Bk a b c f)) * 16) 140737488355328
def adv:Bool:=leI 0 (PE a b c f)
def adw:Bool:=leI (PE a b c f) (↑a.length:Int)
def adx:Bool:=leI (↑a.length:Int) (↑a.length:Int)
def ady:Bool:=leN (v7 (Bk a b c f) + v7 (Jo a b c f)) 9223372036854775807
def adz:Bool:=leN ((v7 (Bk a b c f) + v7 (Jo a b c f)) * 16) 140737488355328
def EF:List avP:=Bk a b c f++Jo a b c f
def amK:Int:=zJ (EG a b c f) (EH a b f) (EI a b c f) e f
def amL:Int:=zK (EG a b c f) (EH a b f) (EI a b c f) e f
def PC:afa:=d++PD a b c e f
end
def alU:vV→List (Nat×SV)
 |(_,_,_,_,_,_)=> [(7,(aBB (.ref 0))),(0,(aBB (.ptr 1 0))),(8,(aBB (.ref 2))),(6,(aBB (.ref 3)))]
def alN:vV→List (Nat×Entry)
 |(a,b,c,d,e,f)=> [(1,(.box 113 [.ref 4,axb b,axb c])),(3,(aBD e)),(4,(aBL f)),(0,(aBD a)),(2,(aBR d))]
def al8:Nat→vV→List (Nat×SV)
 |_,(_,_,_,_,_,_)=> [(8,(aBB (.ref 2)))]
def al1:Nat→vV→List (Nat×Entry)
 |_,(a,b,c,d,e,f)=> [(0,(aBD a)),(1,(.box 113 [.ref 4,axb b,axb c])),(2,(aBR d)),(3,(aBD e)),(4,(aBL f))]
def Pq:vV→LT vV
 |(a,b,c,d,e,f)=> .ite (Sa a) (.need [aeI b c f] (.need [YI a b c f,aeJ a b c f,aeK a b c f,aeL a b c f,aeM a b c e f,aeN a b c d e f,aeO a b c d e f] (.need [aeP,YI a b c f,ads a b c f,adt a b c f,adu a b c f,adv a b c f,adw a b c f,adx a,ady a b c f,adz a b c f] (.nrm ((EF a b c f),amK a b c e f,amL a b c e f,PC a b c d e f,e,f) [(0,2048),(1,1),(2,1344),(3,3),(4,4)])))) (.ext 0 [(0,0),(1,1),(2,2),(3,3),(4,4)])
def Ws(s:St):Option vV:=do
 let some ⟨none,.one ⟨false,[.ref 1984]⟩⟩:=s.look 7|none
 let some ⟨none,.one ⟨false,[.ptr 0 0]⟩⟩:=s.look 0|none
 let some ⟨none,.one ⟨false,[.ref 2112]⟩⟩:=s.look 8|none
 let some ⟨none,.one ⟨false,[.ref 1600]⟩⟩:=s.look 6|none
 let some (.box 113 [.ref 1,.val (.int .i64 b),.val (.int .i64 c)]):=s.ent 0|none
 let some (.row false 9 (.str) e):=s.ent 1600|none
 let some (.row false 5 (.int IntKind.u8) f):=s.ent 1|none
 let some (.row false 9 (.str) a):=s.ent 1984|none
 let some (.row true 142 (.pair .str (.sl 122 (.pair (.int .i64) (.pair .str (.int .i64))))) d):=s.ent 2112|none
 some (a,b,c,d,e,f)
def oR:Lp vV where
 h:=⟨[36,37,38,39,40,41,42,9,43,44,45,46,47,48,49,50,51,52,53,54,55,8,56,57,58,59,60,61,62,63,64,65,7],[1,3,4],[0,2],[]⟩
 JL:=alU
 JE:=alN
 XL:=al8
 XE:=al1
 q:=fun j=>match j with | _=> .exit 0
 tags:= [0]
 lt:=Pq
 fuel:=fun(a,b,c,d,e,f)=>a.length + b.natAbs + c.natAbs + d.length + e.length + f.length
 fix:=fun(_,_,_,_,e,f) (a,b,c,d,_,_)=>(a,b,c,d,e,f)
 σ:= [(1,0),(3,1600),(4,1),(0,1984),(2,2112)]
 rd:=Ws
 fz:= [1000007,1000006]
theorem ajF:LoopOk prog (fun k=>Nat.blt k Tryz.f80.ntmps) oR.F (bj f80 0):=by
 refine Lp.ok (tbl:= (T3z [ai,ln])) (lf:= []) aT oR (by kernel_rfl) (LOk.nil _) (fun _=>rfl) (fun _ _=>rfl) ?_ ?_ ?_ ?_ (fun _=>rfl) ?_
 ·intro _;kernel_rfl
 ·intro _;kernel_rfl
 ·intro s x h
  have h:Ws s=some x:=h
  unfold Ws at h
  repeat' split at h
  all_goals cases h
  constructor<;>repeat(first|refine ab ‹_› rfl ?_|refine aa rfl ‹_› rfl ?_|rfl)
 ·intro _;kernel_rfl
 ·intro _ _;exact(And.intro rfl trivial)
section
variable (a b:Int)(c:avO)
def DC:Int:=nxV 4 (nxA 3 a c) (nxS 3 a b c) c
def lp:List avP:=List.take (v6 (DC a b c)) [ByteArray.mk #[120],ByteArray.mk #[121],ByteArray.mk #[122]]
def DD:Int:=nxA 4 (nxA 3 a c) c
def Ku:Int:=nxS 4 (nxA 3 a c) (nxS 3 a b c) c
def GI:Int:=v9 .i64 ((1:Int) + nxV 2 (DD a c) (Ku a b c) c)
def uN:List avP:=List.take (v6 (GI a b c)) [ByteArray.mk #[113],ByteArray.mk #[108,97,109,112]]
def GJ:Int:=v9 .i64 ((1:Int) + nxV 3 a b c)
def sM:List avP:=List.take (v6 (GJ a b c)) [ByteArray.mk #[97],ByteArray.mk #[98],ByteArray.mk #[107,101,121]]
def oJ:List avP:=sM a b c++lp a b c
def VN:List avP×Int×Int×afZ×List avP×avO:=(lp a b c++uN a b c,nxA 2 (DD a c) c,nxS 2 (DD a c) (Ku a b c) c,[],oJ a b c,c)
def NH:Int×Int×afZ×List avP×avO:=(Lp.res oR (VN a b c)).2.2
def qS:Int:=(NH a b c).1
def Uq:Int×afZ×List avP×avO:=(NH a b c).2
def HZ:Int:=(Uq a b c).1
def uZ:Bool:=ltI 0 (nxV 3 (qS a b c) (HZ a b c) c)
def Ia:Int:=nxS 3 (qS a b c) (HZ a b c) c
def EE:Int:=nxV (↑(v7 (oJ a b c)):Int) (nxA 3 (qS a b c) c) (Ia a b c) c
def ZU:Bool:=leN (0 + v7 (sM a b c)) 9223372036854775807
def ZV:Bool:=leN ((0 + v7 (sM a b c)) * 16) 140737488355328
def ZW:Bool:=leN (0 + v7 (lp a b c)) 9223372036854775807
def ZX:Bool:=leN ((0 + v7 (lp a b c)) * 16) 140737488355328
def tn:avP:=bif uZ a b c then ByteArray.mk #[114,105,100,101]else ByteArray.mk #[114,105,100,101]
def uM:avP:=bif uZ a b c then v8 (oJ a b c)[v6 (EE a b c)]? ByteArray.empty else ByteArray.mk #[]
def tp:Int:=bif uZ a b c then nxA (↑(v7 (oJ a b c)):Int) (nxA 3 (qS a b c) c) c else nxA 3 (qS a b c) c
def FP:Int:=bif uZ a b c then nxS (↑(v7 (oJ a b c)):Int) (nxA 3 (qS a b c) c) (Ia a b c) c else Ia a b c
def pg:List avP:=sM a b c
def fK:List avP:=lp a b c
def tq:List avP:=uN a b c
def il:afa:=((Uq a b c).2).1
def adr:Bool:=allT [aG a b c,leI 0 (GJ a b c),leI (GJ a b c) (↑(v7 [ByteArray.mk #[97],ByteArray.mk #[98],ByteArray.mk #[107,101,121]]):Int),aG (nxA 3 a c) (nxS 3 a b c) c,leI 0 (DC a b c),leI (DC a b c) (↑(v7 [ByteArray.mk #[120],ByteArray.mk #[121],ByteArray.mk #[122]]):Int),aG (DD a c) (Ku a b c) c,leI 0 (GI a b c),leI (GI a b c) (↑(v7 [ByteArray.mk #[113],ByteArray.mk #[108,97,109,112]]):Int),ZU a b c,ZV a b c,leN (v7 (sM a b c) + v7 (lp a b c)) 9223372036854775807,leN ((v7 (sM a b c) + v7 (lp a b c)) * 16) 140737488355328,ZW a b c,ZX a b c,leN (v7 (lp a b c) + v7 (uN a b c)) 9223372036854775807,leN ((v7 (lp a b c) + v7 (uN a b c)) * 16) 140737488355328,Lp.fin oR (VN a b c),ZU a b c,ZV a b c,ZW a b c,ZX a b c,leN (0 + v7 (uN a b c)) 9223372036854775807,leN ((0 + v7 (uN a b c)) * 16) 140737488355328,aG (qS a b c) (HZ a b c) c,!uZ a b c||aG (nxA 3 (qS a b c) c) (Ia a b c) c,!uZ a b c||leI 0 (EE a b c),!uZ a b c||ltI (EE a b c) (↑(v7 (oJ a b c)):Int),!uZ a b c||ltN (v6 (EE a b c)) (v7 (oJ a b c))]
end
def aiK:awh
 | [.one ⟨false,[.ptr 0 0]⟩],[.box 113 [.ref 1,.val (.int .i64 a),.val (.int .i64 b)],.row false 5 (.int .u8) c]=>some ⟨.one ⟨true,[.val (.string (tn a b c)),.ref 2,.ref 3,.ref 4,.val (.string (uM a b c)),.ref 5]⟩,[.box 113 [.ref 1,axb (tp a b c),axb (FP a b c)],aBL c],[aBJ (pg a b c),aBJ (fK a b c),aBJ (tq a b c),aBR (il a b c)],[adr a b c]⟩
 |_,_=>none
def arQ:PF prog:=PF.ofG prog (T3z [ai,ln]) [(fun s=>oR.F (aoF [(1000007,0),(1000006,0)] s))] aT 80 f80 func80 (LOk.fnT (l:= [bj f80 0]) (by kernel_rfl) (.cons (ajF.alias [(1000007,0),(1000006,0)]) (.nil _))) aiK (by
 intro _ _ _ h;unfold aiK at h;split at h<;>cases h;kernel_rfl)
abbrev im:=List (Int×(avP×Int))×Int×Int×List Int
section
variable (a:ajz)(b c:Int)(d:avO)
def HH:Bool:=aG b c d
def HI:Bool:=ltI (↑a.length:Int) (v9 .i64 ((40:Int) + nxV 2 b c d))
def HJ:Bool:=leN (v7 a + v7 [((4:Int),ByteArray.mk #[],(0:Int))]) 9223372036854775807
def HK:Bool:=leN ((v7 a + v7 [((4:Int),ByteArray.mk #[],(0:Int))]) * 32) 140737488355328
def HL:ajz:=a++ [((4:Int),ByteArray.mk #[],(0:Int))]
def sk:Int:=nxA 2 b d
def sm:Int:=nxS 2 b c d
end
def aa4:im→List (Nat×SV)
 |(_,_,_,_)=> [(3,(aBB (.ref 0))),(0,(aBB (.ptr 1 0)))]
def aa3:im→List (Nat×Entry)
 |(a,b,c,d)=> [(1,(.box 113 [.ref 2,axb b,axb c])),(2,(aBL d)),(0,(aBM a))]
def aa7:Nat→im→List (Nat×SV)
 |_,(_,_,_,_)=> [(3,(aBB (.ref 0)))]
def aa6:Nat→im→List (Nat×Entry)
 |_,(a,b,c,d)=> [(0,(aBM a)),(1,(.box 113 [.ref 2,axb (sk b d),axb (sm b c d)])),(2,(aBL d))]
def GF:im→LT im
 |(a,b,c,d)=> .need [HH b c d] (.ite (HI a b c d) (.need [HJ a,HK a] (.nrm ((HL a),sk b d,sm b c d,d) [(0,640),(1,1),(2,2)])) (.ext 0 [(0,0),(1,1),(2,2)]))
def GH(s:St):Option im:=do
 let some ⟨none,.one ⟨false,[.ref 512]⟩⟩:=s.look 3|none
 let some ⟨none,.one ⟨false,[.ptr 0 0]⟩⟩:=s.look 0|none
 let some (.box 113 [.ref 1,.val (.int .i64 b),.val (.int .i64 c)]):=s.ent 0|none
 let some (.row false 5 (.int IntKind.u8) d):=s.ent 1|none
 let some (.row true 122 (.pair (.int .i64) (.pair .str (.int .i64))) a):=s.ent 512|none
 some (a,b,c,d)
def dX:Lp im where
 h:=⟨[52,53,54,55,56,57,58,59,60,61,3],[1,2],[0],[]⟩
 JL:=aa4
 JE:=aa3
 XL:=aa7
 XE:=aa6
 q:=fun j=>match j with | _=> .exit 1
 tags:= [0]
 lt:=GF
 fuel:=fun(a,b,c,d)=>a.length + b.natAbs + c.natAbs + d.length
 fix:=fun(_,_,_,d) (a,b,c,_)=>(a,b,c,d)
 σ:= [(1,0),(2,1),(0,512)]
 rd:=GH
theorem ZI:LoopOk prog (fun k=>Nat.blt k Tryz.f135.ntmps) dX.F (bj f135 0):=by
 refine Lp.ok (tbl:= (T3z [ai,db,ln])) (lf:= []) aT dX (by kernel_rfl) (LOk.nil _) (fun _=>rfl) (fun _ _=>rfl) ?_ ?_ ?_ ?_ (fun _=>rfl) ?_
 ·intro _;kernel_rfl
 ·intro _;kernel_rfl
 ·intro s x h
  have h:GH s=some x:=h
  unfold GH at h
  repeat' split at h
  all_goals cases h
  constructor<;>repeat(first|refine ab ‹_› rfl ?_|refine aa rfl ‹_› rfl ?_|rfl)
 ·intro _;kernel_rfl
 ·intro _ _;exact(And.intro rfl trivial)
section
variable (a b:Int)(c:avO)
def fI:alv:=zL (nxV 4 a b c) (nxA 4 a c) (nxS 4 a b c) [ByteArray.mk #[97],ByteArray.mk #[98],ByteArray.mk #[103,97,116,101]] c
def di:Int:=(↑(v7 (fI a b c)):Int)
def kv:Int:=zJ (nxV 4 a b c) (nxA 4 a c) (nxS 4 a b c) [ByteArray.mk #[97],ByteArray.mk #[98],ByteArray.mk #[103,97,116,101]] c
def DE:Int:=zK (nxV 4 a b c) (nxA 4 a c) (nxS 4 a b c) [ByteArray.mk #[97],ByteArray.mk #[98],ByteArray.mk #[103,97,116,101]] c
def DF:Int:=nxS (di a b c) (kv a b c) (DE a b c) c
def zk:Int:=nxV 24 (nxA (di a b c) (kv a b c) c) (DF a b c) c
def bh:Bool:=zk a b c==0
def cI:Int:=nxA 24 (nxA (di a b c) (kv a b c) c) c
def bW:Bool:=zk a b c==1
def fJ:Bool:=zk a b c==2
def pd:Bool:=zk a b c==3
def xx:Bool:=zk a b c==4
def ec:Int:=nxS 24 (nxA (di a b c) (kv a b c) c) (DF a b c) c
def tj:alv×Int×Int×avO:=(fI a b c,cI a b c,ec a b c,c)
def pe:Int×Int×avO:=(Lp.res dX (tj a b c)).2.2
def cd:Int:=nxV (di a b c) (kv a b c) (DE a b c) c
def pf:Int×avP×Int:=v8 (fI a b c)[v6 (cd a b c)]? ((0:Int),ByteArray.empty,(0:Int))
def jF:Int:=nxV 4 (cI a b c) (ec a b c) c
def CP:Bool:=ltN (v6 (cd a b c)) (v7 (fI a b c))
def AB:Int:=bif bh a b c then pkA (cI a b c) [(0:Int),(4:Int),(5:Int),(13:Int)] c else bif bW a b c then nxA 4 (cI a b c) c else bif fJ a b c then pkA (cI a b c) [(-1:Int),(1:Int),(9999:Int),(10000:Int)] c else bif pd a b c then cI a b c else bif xx a b c then sk ((pe a b c).1) c else cI a b c
def AC:Int:=bif bh a b c then pkS (cI a b c) (ec a b c) [(0:Int),(4:Int),(5:Int),(13:Int)] c else bif bW a b c then nxS 4 (cI a b c) (ec a b c) c else bif fJ a b c then pkS (cI a b c) (ec a b c) [(-1:Int),(1:Int),(9999:Int),(10000:Int)] c else bif pd a b c then ec a b c else bif xx a b c then sm ((pe a b c).1) (((pe a b c).2).1) c else ec a b c
def AD:ajz:=bif bh a b c then List.set (fI a b c) (v6 (cd a b c)) (pkV (cI a b c) (ec a b c) [(0:Int),(4:Int),(5:Int),(13:Int)] c,((pf a b c).2).1,(pf a b c).2.2)else bif bW a b c then List.set (fI a b c) (v6 (cd a b c)) ((pf a b c).1,v8 [ByteArray.mk #[],ByteArray.mk #[97,110,100],ByteArray.mk #[120],ByteArray.mk #[89]][v6 (jF a b c)]? ByteArray.empty,(pf a b c).2.2)else bif fJ a b c then List.set (fI a b c) (v6 (cd a b c)) ((pf a b c).1,((pf a b c).2).1,pkV (cI a b c) (ec a b c) [(-1:Int),(1:Int),(9999:Int),(10000:Int)] c)else bif pd a b c then List.take (v6 (cd a b c)) (fI a b c)else bif xx a b c then ((Lp.res dX (tj a b c)).2).1else fI a b c
def LJ:Bool:=allT [aG a b c,dtN 3 (nxV 4 a b c) (nxA 4 a c) (nxS 4 a b c) [ByteArray.mk #[97],ByteArray.mk #[98],ByteArray.mk #[103,97,116,101]] c,aG (kv a b c) (DE a b c) c,aG (nxA (di a b c) (kv a b c) c) (DF a b c) c,!bh a b c||aG (cI a b c) (ec a b c) c&&leN 1 (v7 [(0:Int),(4:Int),(5:Int),(13:Int)]),!bh a b c||leI 0 (cd a b c),!bh a b c||ltI (cd a b c) (di a b c),!bh a b c||CP a b c,bh a b c||(!bW a b c||aG (cI a b c) (ec a b c) c),bh a b c||(!bW a b c||leI 0 (jF a b c)),bh a b c||(!bW a b c||ltI (jF a b c) (↑(v7 [ByteArray.mk #[],ByteArray.mk #[97,110,100],ByteArray.mk #[120],ByteArray.mk #[89]]):Int)),bh a b c||(!bW a b c||ltN (v6 (jF a b c)) (v7 [ByteArray.mk #[],ByteArray.mk #[97,110,100],ByteArray.mk #[120],ByteArray.mk #[89]])),bh a b c||(!bW a b c||leI 0 (cd a b c)),bh a b c||(!bW a b c||ltI (cd a b c) (di a b c)),bh a b c||(!bW a b c||CP a b c),bh a b c||(bW a b c||(!fJ a b c||aG (cI a b c) (ec a b c) c&&leN 1 (v7 [(-1:Int),(1:Int),(9999:Int),(10000:Int)]))),bh a b c||(bW a b c||(!fJ a b c||leI 0 (cd a b c))),bh a b c||(bW a b c||(!fJ a b c||ltI (cd a b c) (di a b c))),bh a b c||(bW a b c||(!fJ a b c||CP a b c)),bh a b c||(bW a b c||(fJ a b c||(!pd a b c||leI 0 (cd a b c)))),bh a b c||(bW a b c||(fJ a b c||(!pd a b c||leI (cd a b c) (di a b c)))),bh a b c||(bW a b c||(fJ a b c||(pd a b c||(!xx a b c||Lp.fin dX (tj a b c)))))]
end
def Vo:awh
 | [.one ⟨false,[.ptr 0 0]⟩],[.box 113 [.ref 1,.val (.int .i64 a),.val (.int .i64 b)],.row false 5 (.int .u8) c]=>some ⟨aBB (.ref 2),[.box 113 [.ref 1,axb (AB a b c),axb (AC a b c)],aBL c],[aBM (AD a b c)],[LJ a b c]⟩
 |_,_=>none
def afw:PF prog:=PF.ofG prog (T3z [ai,db,ln]) [dX.F] aT 135 f135 func135 (LOk.fnT (l:= [bj f135 0]) (by kernel_rfl) (.cons ZI (.nil _))) Vo (by
 intro _ _ _ h;unfold Vo at h;split at h<;>cases h;kernel_rfl)
abbrev mf:=Int×avP×avP×List Int×Int×Int×List avP×List avP×List avP×List (avP×(List (Int×(avP×Int))))×List Int
section
variable (a:Int)(b:avO)(c d:Int)(e:List avP)(f:avO)
def AF:avO:= [nxV 2 c d f]
def NK:Bool:=ltI a (↑e.length:Int)
def NL:Bool:=aG c d f
def NM:Bool:=leN (v7 b + v7 (AF c d f)) 9223372036854775807
def NN:Bool:=leN ((v7 b + v7 (AF c d f)) * 8) 140737488355328
def NO:Int:=v9 .i64 (a + (1:Int))
def NP:avO:=b++AF c d f
def NQ:Int:=nxA 2 c f
def NR:Int:=nxS 2 c d f
end
def aeY:mf→List (Nat×SV)
 |(a,_,_,_,_,_,_,_,_,_,_)=> [(6,(aBC a)),(3,(aBB (.ptr 0 0))),(5,(aBB (.ref 1))),(0,(aBB (.ptr 2 0)))]
def aeV:mf→List (Nat×Entry)
 |(_,a,b,c,d,e,f,g,i,j,k)=> [(0,(.box 43 [.val (.string a),.ref 3,.ref 4,.ref 5,.val (.string b),.ref 6])),(2,(.box 113 [.ref 7,axb d,axb e])),(3,(aBD f)),(4,(aBD g)),(5,(aBD i)),(6,(aBI j)),(7,(aBL k)),(1,(aBE c))]
def ae4:Nat→mf→List (Nat×SV)
 |_,(_,_,_,_,_,_,_,_,_,_,_)=> [(5,(aBB (.ref 1)))]
def ae1:Nat→mf→List (Nat×Entry)
 |_,(_,a,b,c,d,e,f,g,i,j,k)=> [(0,(.box 43 [.val (.string a),.ref 3,.ref 4,.ref 5,.val (.string b),.ref 6])),(1,(aBE c)),(2,(.box 113 [.ref 7,axb d,axb e])),(3,(aBD f)),(4,(aBD g)),(5,(aBD i)),(6,(aBI j)),(7,(aBL k))]
def LF:mf→LT mf
 |(a,b,c,d,e,f,g,i,j,k,l)=> .ite (NK a g) (.need [NL e f l,NM d e f l,NN d e f l] (.nrm ((NO a),b,c,NP d e f l,NQ e l,NR e f l,g,i,j,k,l) [(0,0),(1,640),(2,2),(3,3),(4,4),(5,5),(6,6),(7,7)])) (.ext 0 [(0,0),(1,1),(2,2),(3,3),(4,4),(5,5),(6,6),(7,7)])
def LG(s:St):Option mf:=do
 let some ⟨none,.one ⟨false,[.val (.int .i64 a)]⟩⟩:=s.look 6|none
 let some ⟨none,.one ⟨false,[.ptr 448 0]⟩⟩:=s.look 3|none
 let some ⟨none,.one ⟨false,[.ref 576]⟩⟩:=s.look 5|none
 let some ⟨none,.one ⟨false,[.ptr 0 0]⟩⟩:=s.look 0|none
 let some (.box 43 [.val (.string b),.ref 1,.ref 2,.ref 3,.val (.string c),.ref 4]):=s.ent 448|none
 let some (.box 113 [.ref 5,.val (.int .i64 e),.val (.int .i64 f)]):=s.ent 0|none
 let some (.row false 9 (.str) g):=s.ent 1|none
 let some (.row false 9 (.str) i):=s.ent 2|none
 let some (.row false 9 (.str) j):=s.ent 3|none
 let some (.row false 142 (.pair .str (.sl 122 (.pair (.int .i64) (.pair .str (.int .i64))))) k):=s.ent 4|none
 let some (.row false 5 (.int IntKind.u8) l):=s.ent 5|none
 let some (.row true 2 (.int .i64) d):=s.ent 576|none
 some (a,b,c,d,e,f,g,i,j,k,l)
def iY:Lp mf where
 h:=⟨[8,9,10,11,12,15,16,17,18,19,5,13,14,6],[0,2,3,4,5,6,7],[1],[]⟩
 JL:=aeY
 JE:=aeV
 XL:=ae4
 XE:=ae1
 q:=fun j=>match j with | _=> .exit 0
 tags:= [0]
 lt:=LF
 fuel:=fun(a,b,c,d,e,f,g,i,k,l,m)=>a.natAbs + b.size + c.size + d.length + e.natAbs + f.natAbs + g.length + i.length + k.length + l.length + m.length
 fix:=fun(_,b,c,_,_,_,g,i,k,l,m) (a,_,_,d,e,f,_,_,_,_,_)=>(a,b,c,d,e,f,g,i,k,l,m)
 σ:= [(0,448),(2,0),(3,1),(4,2),(5,3),(6,4),(7,5),(1,576)]
 rd:=LG
theorem acZ:LoopOk prog (fun k=>Nat.blt k Tryz.f98.ntmps) iY.F (bj f98 0):=by
 refine Lp.ok (tbl:= (T3z [ai,db])) (lf:= []) aT iY (by kernel_rfl) (LOk.nil _) (fun _=>rfl) (fun _ _=>rfl) ?_ ?_ ?_ ?_ (fun _=>rfl) ?_
 ·intro _;kernel_rfl
 ·intro _;kernel_rfl
 ·intro s x h
  have h:LG s=some x:=h
  unfold LG at h
  repeat' split at h
  all_goals cases h
  constructor<;>repeat(first|refine ab ‹_› rfl ?_|refine aa rfl ‹_› rfl ?_|rfl)
 ·intro _;kernel_rfl
 ·intro _ _;exact(And.intro rfl trivial)
section
variable (a b:avP)(c d:Int)(e f g:List avP)(i:afZ)(j:avO)
def JV:Int×avP×avP×avO×Int×Int×List avP×List avP×List avP×afZ×avO:=((0:Int),a,b,[],c,d,e,f,g,i,j)
def El:avO×Int×Int×List avP×List avP×List avP×afZ×avO:=(Lp.res iY (JV a b c d e f g i j)).2.2.2.2
def JW:Int×Int×List avP×List avP×List avP×afZ×avO:=(El a b c d e f g i j).2
def At:Int:=(JW a b c d e f g i j).1
def Em:Int:=((JW a b c d e f g i j).2).1
def Zs:Int:=nxV 40 (At a b c d e f g i j) (Em a b c d e f g i j) j
def pR:Bool:=Zs a b c d e f g i j==0
def pS:Int:=nxA 40 (At a b c d e f g i j) j
def vT:Bool:=Zs a b c d e f g i j==1
def mZ:avO:=(El a b c d e f g i j).1
def jK:Bool:=ltI 0 (↑(v7 (mZ a b c d e f g i j)):Int)
def rr:Int:=nxS 40 (At a b c d e f g i j) (Em a b c d e f g i j) j
def xJ:Int:=bif pR a b c d e f g i j then pS a b c d e f g i j else bif vT a b c d e f g i j then bif jK a b c d e f g i j then pkA (pS a b c d e f g i j) [(-1:Int),(2:Int)] j else pS a b c d e f g i j else pS a b c d e f g i j
def BW:Int:=bif pR a b c d e f g i j then rr a b c d e f g i j else bif vT a b c d e f g i j then bif jK a b c d e f g i j then pkS (pS a b c d e f g i j) (rr a b c d e f g i j) [(-1:Int),(2:Int)] j else rr a b c d e f g i j else rr a b c d e f g i j
def Lf:avO:=bif pR a b c d e f g i j then mZ a b c d e f g i j++ [(0:Int)]else bif vT a b c d e f g i j then bif jK a b c d e f g i j then List.set (mZ a b c d e f g i j) (v6 0) (pkV (pS a b c d e f g i j) (rr a b c d e f g i j) [(-1:Int),(2:Int)] j)else mZ a b c d e f g i j else mZ a b c d e f g i j
def Lg:Bool:=allT [Lp.fin iY (JV a b c d e f g i j),aG (At a b c d e f g i j) (Em a b c d e f g i j) j,!pR a b c d e f g i j||leN (v7 (mZ a b c d e f g i j) + v7 [(0:Int)]) (9223372036854775807:Nat),!pR a b c d e f g i j||leN ((v7 (mZ a b c d e f g i j) + v7 [(0:Int)]) * (8:Nat)) 140737488355328,pR a b c d e f g i j||(!vT a b c d e f g i j||(!jK a b c d e f g i j||aG (pS a b c d e f g i j) (rr a b c d e f g i j) j&&leN 1 (v7 [(-1:Int),(2:Int)]))),pR a b c d e f g i j||(!vT a b c d e f g i j||(!jK a b c d e f g i j||leI 0 0)),pR a b c d e f g i j||(!vT a b c d e f g i j||(!jK a b c d e f g i j||jK a b c d e f g i j)),pR a b c d e f g i j||(!vT a b c d e f g i j||(!jK a b c d e f g i j||ltN (v6 0) (v7 (mZ a b c d e f g i j))))]
end
def aat:awh
 | [.one ⟨false,[.ptr 0 0]⟩,.one ⟨true,[.val (.string a),.ref 1,.ref 2,.ref 3,.val (.string b),.ref 4]⟩],[.box 113 [.ref 5,.val (.int .i64 c),.val (.int .i64 d)],.row false 9 (.str) e,.row false 9 (.str) f,.row false 9 (.str) g,.row false 142 (.pair (.str) (.sl 122 (.pair (.int .i64) (.pair (.str) (.int .i64))))) i,.row false 5 (.int .u8) j]=>some ⟨aBB (.ref 6),[.box 113 [.ref 5,axb (xJ a b c d e f g i j),axb (BW a b c d e f g i j)],aBD e,aBD f,aBD g,aBH i,aBL j],[aBE (Lf a b c d e f g i j)],[Lg a b c d e f g i j]⟩
 |_,_=>none
def jW:PF prog:=PF.ofG prog (T3z [ai,db]) [iY.F] aT 98 f98 func98 (LOk.fnT (l:= [bj f98 0]) (by kernel_rfl) (.cons acZ (.nil _))) aat (by
 intro _ _ _ h;unfold aat at h;split at h<;>cases h;kernel_rfl)
abbrev lw:=Int×List (List Int)×List Int
section
variable (a:Int)(b:aup)(c:avO)
def LK:Bool:=leI 0 a
def LL:Bool:=leN c.length (1048576:Nat)
def LM:Bool:=leN (v7 b + v7 [c]) (9223372036854775807:Nat)
def LO:Bool:=leN ((v7 b + v7 [c]) * (24:Nat)) 140737488355328
def LP:Int:=v9 .i64 (a - (1:Int))
def LQ:aup:=b++ [c]
end
def adZ:lw→List (Nat×SV)
 |(a,_,_)=> [(8,(aBC a)),(5,(aBB (.ref 0))),(7,(aBB (.ref 1)))]
def adY:lw→List (Nat×Entry)
 |(_,a,b)=> [(1,(aBE b)),(0,(aBQ a))]
def ad1:Nat→lw→List (Nat×SV)
 |_,(_,_,_)=> [(5,(aBB (.ref 0)))]
def ad0:Nat→lw→List (Nat×Entry)
 |_,(_,a,b)=> [(0,(aBQ a)),(1,(aBE b))]
def Km:lw→LT lw
 |(a,b,c)=> .ite (LK a) (.need [LL c,LM b c,LO b c] (.nrm ((LP a),LQ b c,c) [(0,448),(1,1)])) (.ext 0 [(0,0),(1,1)])
def Kn(s:St):Option lw:=do
 let some ⟨none,.one ⟨false,[.val (.int .i64 a)]⟩⟩:=s.look 8|none
 let some ⟨none,.one ⟨false,[.ref 2]⟩⟩:=s.look 5|none
 let some ⟨none,.one ⟨false,[.ref 320]⟩⟩:=s.look 7|none
 let some (.row true 2 (.int .i64) c):=s.ent 320|none
 let some (.row true 28 (.sl 2 (.int .i64)) b):=s.ent 2|none
 some (a,b,c)
def ib:Lp lw where
 h:=⟨[21,22,25,26,27,28,29,5,23,24,8],[1],[0],[]⟩
 JL:=adZ
 JE:=adY
 XL:=ad1
 XE:=ad0
 q:=fun j=>match j with | _=> .exit 2
 tags:= [0]
 lt:=Km
 fuel:=fun(a,b,c)=>a.natAbs + b.length + c.length
 fix:=fun(_,_,c) (a,b,_)=>(a,b,c)
 σ:= [(1,320),(0,2)]
 rd:=Kn
theorem ab6:LoopOk prog (memN [12,13,16,17,18,7,19,20,8,21,22,25,26,27,28,29,5,23,24,14,15,6]) ib.F (afn (bj f53 0) 0):=by
 refine Lp.ok (tbl:= (T3z [jW,ai,cY])) (lf:= []) aT ib (by kernel_rfl) (LOk.nil _) (fun _=>rfl) (fun _ _=>rfl) ?_ ?_ ?_ ?_ (fun _=>rfl) ?_
 ·intro _;kernel_rfl
 ·intro _;kernel_rfl
 ·intro s x h
  have h:Kn s=some x:=h
  unfold Kn at h
  repeat' split at h
  all_goals cases h
  constructor<;>repeat(first|refine ab ‹_› rfl ?_|refine aa rfl ‹_› rfl ?_|rfl)
 ·intro _;kernel_rfl
 ·intro _ _;exact(And.intro rfl trivial)
abbrev pj:=Int×Int×Int×avP×avP×List (List Int)×List Int×List avP×List avP×List avP×List (avP×(List (Int×(avP×Int))))
section
variable (a b c:Int)(d e:avP)(f:aup)(g:avO)(i j k:List avP)(l:afa)
def HQ:Int×aup×avO:=(nxV 4 (xJ d e b c i j k l g) (BW d e b c i j k l g) g,f,Lf d e b c i j k l g)
def RB:Bool:=ltI 0 a
def RC:Bool:=Lg d e b c i j k l g
def Zt:Bool:=aG (xJ d e b c i j k l g) (BW d e b c i j k l g) g
def Zu:Bool:=Lp.fin ib (HQ b c d e f g i j k l)
def RD:Int:=v9 .i64 (a - (1:Int))
def Zv:Int:=nxA 4 (xJ d e b c i j k l g) g
def Zw:Int:=nxS 4 (xJ d e b c i j k l g) (BW d e b c i j k l g) g
def RE:aup:=((Lp.res ib (HQ b c d e f g i j k l)).2.2).1
end
def agx:pj→List (Nat×SV)
 |(a,_,_,_,_,_,_,_,_,_,_)=> [(6,(aBC a)),(0,(aBB (.ptr 0 0))),(3,(aBB (.ptr 1 0))),(5,(aBB (.ref 2)))]
def agt:pj→List (Nat×Entry)
 |(_,a,b,c,d,e,f,g,i,j,k)=> [(0,(.box 113 [.ref 3,axb a,axb b])),(1,(.box 43 [.val (.string c),.ref 4,.ref 5,.ref 6,.val (.string d),.ref 7])),(3,(aBL f)),(4,(aBD g)),(5,(aBD i)),(6,(aBD j)),(7,(aBI k)),(2,(aBQ e))]
def agF:Nat→pj→List (Nat×SV)
 |_,(_,_,_,_,_,_,_,_,_,_,_)=> [(5,(aBB (.ref 2)))]
def agB:Nat→pj→List (Nat×Entry)
 |_,(_,a,b,c,d,e,f,g,i,j,k)=> [(0,(.box 113 [.ref 3,axb a,axb b])),(1,(.box 43 [.val (.string c),.ref 4,.ref 5,.ref 6,.val (.string d),.ref 7])),(2,(aBQ e)),(3,(aBL f)),(4,(aBD g)),(5,(aBD i)),(6,(aBD j)),(7,(aBI k))]
def Pr:pj→LT pj
 |(a,b,c,d,e,f,g,i,j,k,l)=> .ite (RB a) (.need [RC b c d e g i j k l] (.need [Zt b c d e g i j k l] (.need [Zu b c d e f g i j k l] (.nrm ((RD a),Zv b c d e g i j k l,Zw b c d e g i j k l,d,e,RE b c d e f g i j k l,g,i,j,k,l) [(0,0),(1,1),(2,640),(3,3),(4,4),(5,5),(6,6),(7,7)])))) (.ext 0 [(0,0),(1,1),(2,2),(3,3),(4,4),(5,5),(6,6),(7,7)])
def Py(s:St):Option pj:=do
 let some ⟨none,.one ⟨false,[.val (.int .i64 a)]⟩⟩:=s.look 6|none
 let some ⟨none,.one ⟨false,[.ptr 0 0]⟩⟩:=s.look 0|none
 let some ⟨none,.one ⟨false,[.ptr 448 0]⟩⟩:=s.look 3|none
 let some ⟨none,.one ⟨false,[.ref 576]⟩⟩:=s.look 5|none
 let some (.box 113 [.ref 5,.val (.int .i64 b),.val (.int .i64 c)]):=s.ent 0|none
 let some (.box 43 [.val (.string d),.ref 1,.ref 2,.ref 3,.val (.string e),.ref 4]):=s.ent 448|none
 let some (.row false 5 (.int IntKind.u8) g):=s.ent 5|none
 let some (.row false 9 (.str) i):=s.ent 1|none
 let some (.row false 9 (.str) j):=s.ent 2|none
 let some (.row false 9 (.str) k):=s.ent 3|none
 let some (.row false 142 (.pair .str (.sl 122 (.pair (.int .i64) (.pair .str (.int .i64))))) l):=s.ent 4|none
 let some (.row true 28 (.sl 2 (.int .i64)) f):=s.ent 576|none
 some (a,b,c,d,e,f,g,i,j,k,l)
def lz:Lp pj where
 h:=⟨[12,13,16,17,18,7,19,20,8,21,22,25,26,27,28,29,5,23,24,14,15,6],[0,1,3,4,5,6,7],[2],[]⟩
 JL:=agx
 JE:=agt
 XL:=agF
 XE:=agB
 q:=fun j=>match j with | _=> .exit 0
 tags:= [0]
 lt:=Pr
 fuel:=fun(a,b,c,d,e,f,g,i,k,l,m)=>a.natAbs + b.natAbs + c.natAbs + d.size + e.size + f.length + g.length + i.length + k.length + l.length + m.length
 fix:=fun(_,_,_,d,e,_,g,i,k,l,m) (a,b,c,_,_,f,_,_,_,_,_)=>(a,b,c,d,e,f,g,i,k,l,m)
 σ:= [(0,0),(1,448),(3,5),(4,1),(5,2),(6,3),(7,4),(2,576)]
 rd:=Py
theorem afq:LoopOk prog (fun k=>Nat.blt k Tryz.f53.ntmps) lz.F (bj f53 0):=by
 refine Lp.ok (tbl:= (T3z [jW,ai,cY])) (lf:= [ib.F]) aT lz (by kernel_rfl) (LOk.allT (l:= [afn (bj f53 0) 0]) (by kernel_rfl) (.cons ab6 (.nil _))) (fun _=>rfl) (fun _ _=>rfl) ?_ ?_ ?_ ?_ (fun _=>rfl) ?_
 ·intro _;kernel_rfl
 ·intro _;kernel_rfl
 ·intro s x h
  have h:Py s=some x:=h
  unfold Py at h
  repeat' split at h
  all_goals cases h
  constructor<;>repeat(first|refine ab ‹_› rfl ?_|refine aa rfl ‹_› rfl ?_|rfl)
 ·intro _;kernel_rfl
 ·intro _ _;exact(And.intro rfl trivial)
abbrev po:=List (List Int)×Int×Int×avP×avP×List Int×List avP×List avP×List avP×List (avP×(List (Int×(avP×Int))))
section
variable (a:aup)(b c:Int)(d:avO)(e:List avP)
def Db:aup:= [qqq (v6 (↑e.length:Int)) (0:Int)]
def RF:Bool:=aG b c d
def RG:Bool:=ltI (↑a.length:Int) (v9 .i64 ((200:Int) + nxV 2 b c d))
def RH:Bool:=leI 0 (↑e.length:Int)
def RI:Bool:=leI (↑e.length:Int) (↑e.length:Int)
def RJ:Bool:=leI ((↑(8:Nat):Int) * (↑e.length:Int)) 281474976710656
def RK:Bool:=leI (↑e.length:Int) 9223372036854775807
def RL:Bool:=leN (v7 a + v7 (Db e)) 9223372036854775807
def RM:Bool:=leN ((v7 a + v7 (Db e)) * 24) 140737488355328
def RN:aup:=a++Db e
def Au:Int:=nxA 2 b d
def yX:Int:=nxS 2 b c d
end
def agy:po→List (Nat×SV)
 |(_,_,_,_,_,_,_,_,_,_)=> [(5,(aBB (.ref 0))),(0,(aBB (.ptr 1 0))),(3,(aBB (.ptr 2 0)))]
def agu:po→List (Nat×Entry)
 |(a,b,c,d,e,f,g,i,j,k)=> [(1,(.box 113 [.ref 3,axb b,axb c])),(2,(.box 43 [.val (.string d),.ref 4,.ref 5,.ref 6,.val (.string e),.ref 7])),(3,(aBL f)),(4,(aBD g)),(5,(aBD i)),(6,(aBD j)),(7,(aBI k)),(0,(aBQ a))]
def agG:Nat→po→List (Nat×SV)
 |_,(_,_,_,_,_,_,_,_,_,_)=> [(5,(aBB (.ref 0)))]
def agC:Nat→po→List (Nat×Entry)
 |_,(a,b,c,d,e,f,g,i,j,k)=> [(0,(aBQ a)),(1,(.box 113 [.ref 3,axb (Au b f),axb (yX b c f)])),(2,(.box 43 [.val (.string d),.ref 4,.ref 5,.ref 6,.val (.string e),.ref 7])),(3,(aBL f)),(4,(aBD g)),(5,(aBD i)),(6,(aBD j)),(7,(aBI k))]
def Ps:po→LT po
 |(a,b,c,d,e,f,g,i,j,k)=> .need [RF b c f] (.ite (RG a b c f) (.need [RH g,RI g,RJ g,RK g,RL a g,RM a g] (.nrm ((RN a g),Au b f,yX b c f,d,e,f,g,i,j,k) [(0,832),(1,1),(2,2),(3,3),(4,4),(5,5),(6,6),(7,7)])) (.ext 0 [(0,0),(1,1),(2,2),(3,3),(4,4),(5,5),(6,6),(7,7)]))
def Pz(s:St):Option po:=do
 let some ⟨none,.one ⟨false,[.ref 896]⟩⟩:=s.look 5|none
 let some ⟨none,.one ⟨false,[.ptr 0 0]⟩⟩:=s.look 0|none
 let some ⟨none,.one ⟨false,[.ptr 448 0]⟩⟩:=s.look 3|none
 let some (.box 113 [.ref 5,.val (.int .i64 b),.val (.int .i64 c)]):=s.ent 0|none
 let some (.box 43 [.val (.string d),.ref 1,.ref 2,.ref 3,.val (.string e),.ref 4]):=s.ent 448|none
 let some (.row false 5 (.int IntKind.u8) f):=s.ent 5|none
 let some (.row false 9 (.str) g):=s.ent 1|none
 let some (.row false 9 (.str) i):=s.ent 2|none
 let some (.row false 9 (.str) j):=s.ent 3|none
 let some (.row false 142 (.pair .str (.sl 122 (.pair (.int .i64) (.pair .str (.int .i64))))) k):=s.ent 4|none
 let some (.row true 28 (.sl 2 (.int .i64)) a):=s.ent 896|none
 some (a,b,c,d,e,f,g,i,j,k)
def gT:Lp po where
 h:=⟨[33,34,35,36,37,38,39,40,41,42,43,44,45,5],[1,2,3,4,5,6,7],[0],[]⟩
 JL:=agy
 JE:=agu
 XL:=agG
 XE:=agC
 q:=fun j=>match j with | _=> .exit 4
 tags:= [0]
 lt:=Ps
 fuel:=fun(a,b,c,d,e,f,g,i,k,l)=>a.length + b.natAbs + c.natAbs + d.size + e.size + f.length + g.length + i.length + k.length + l.length
 fix:=fun(_,_,_,d,e,f,g,i,k,l) (a,b,c,_,_,_,_,_,_,_)=>(a,b,c,d,e,f,g,i,k,l)
 σ:= [(1,0),(2,448),(3,5),(4,1),(5,2),(6,3),(7,4),(0,896)]
 rd:=Pz
theorem afr:LoopOk prog (fun k=>Nat.blt k Tryz.f53.ntmps) gT.F (bj f53 1):=by
 refine Lp.ok (tbl:= (T3z [jW,ai,cY])) (lf:= []) aT gT (by kernel_rfl) (LOk.nil _) (fun _=>rfl) (fun _ _=>rfl) ?_ ?_ ?_ ?_ (fun _=>rfl) ?_
 ·intro _;kernel_rfl
 ·intro _;kernel_rfl
 ·intro s x h
  have h:Pz s=some x:=h
  unfold Pz at h
  repeat' split at h
  all_goals cases h
  constructor<;>repeat(first|refine ab ‹_› rfl ?_|refine aa rfl ‹_› rfl ?_|rfl)
 ·intro _;kernel_rfl
 ·intro _ _;exact(And.intro rfl trivial)
section
variable (a b:avP)(c d:Int)(e f g:List avP)(i:afZ)(j:avO)
def MB:avO×List avP×List avP×List avP×afZ:=(j,e,f,g,i)
def MC:Int×Int×Int×avP×avP×aup×avO×List avP×List avP×List avP×afZ:=(nxV 8 c d j,nxA 8 c j,nxS 8 c d j,a,b,[],MB e f g i j)
def Hu:Int×Int×avP×avP×aup×avO×List avP×List avP×List avP×afZ:=(Lp.res lz (MC a b c d e f g i j)).2.2
def Dk:Int:=(Hu a b c d e f g i j).1
def MD:Int×avP×avP×aup×avO×List avP×List avP×List avP×afZ:=(Hu a b c d e f g i j).2
def Hv:Int:=(MD a b c d e f g i j).1
def Hw:Bool:=nxV 80 (Dk a b c d e f g i j) (Hv a b c d e f g i j) j==0
def ME:aup:=((MD a b c d e f g i j).2.2.2).1
def MF:Int:=nxA 80 (Dk a b c d e f g i j) j
def MG:Int:=nxS 80 (Dk a b c d e f g i j) (Hv a b c d e f g i j) j
def BX:aup×Int×Int×avP×avP×avO×List avP×List avP×List avP×afZ:=(ME a b c d e f g i j,MF a b c d e f g i j,MG a b c d e f g i j,a,b,MB e f g i j)
def FY:Int×Int×avP×avP×avO×List avP×List avP×List avP×afZ:=(Lp.res gT (BX a b c d e f g i j)).2.2
def Lh:Int:=(FY a b c d e f g i j).1
def ut:Int:=bif Hw a b c d e f g i j then Au (Lh a b c d e f g i j) j else MF a b c d e f g i j
def xK:Int:=bif Hw a b c d e f g i j then yX (Lh a b c d e f g i j) (((FY a b c d e f g i j).2).1) j else MG a b c d e f g i j
def bm:aup:=bif Hw a b c d e f g i j then ((Lp.res gT (BX a b c d e f g i j)).2).1else ME a b c d e f g i j
def WE:Bool:=allT [aG c d j,Lp.fin lz (MC a b c d e f g i j),aG (Dk a b c d e f g i j) (Hv a b c d e f g i j) j,!Hw a b c d e f g i j||Lp.fin gT (BX a b c d e f g i j)]
end
def acu:awh
 | [.one ⟨false,[.ptr 0 0]⟩,.one ⟨true,[.val (.string a),.ref 1,.ref 2,.ref 3,.val (.string b),.ref 4]⟩],[.box 113 [.ref 5,.val (.int .i64 c),.val (.int .i64 d)],.row false 9 (.str) e,.row false 9 (.str) f,.row false 9 (.str) g,.row false 142 (.pair (.str) (.sl 122 (.pair (.int .i64) (.pair (.str) (.int .i64))))) i,.row false 5 (.int .u8) j]=>some ⟨aBB (.ref 6),[.box 113 [.ref 5,axb (ut a b c d e f g i j),axb (xK a b c d e f g i j)],aBD e,aBD f,aBD g,aBH i,aBL j],[aBQ (bm a b c d e f g i j)],[WE a b c d e f g i j]⟩
 |_,_=>none
def amE:PF prog:=PF.ofG prog (T3z [jW,ai,cY]) [lz.F,gT.F] aT 53 f53 func53 (LOk.fnT (l:= [bj f53 0,bj f53 1]) (by kernel_rfl) (.cons afq (.cons afr (.nil _)))) acu (by
 intro _ _ _ h;unfold acu at h;split at h<;>cases h;kernel_rfl)
theorem S1:(∀ b:Bool,(b||false)=b)∧((false=true)=False)∧(∀ a b:Bool,((a&&b)=true)=(a=true∧b=true))∧(∀ a b:Int,(ltI a b=true)=(a < b))∧(∀ a b:Int,(leI a b=true)=(a≤b))∧(∀ a b:Int,(ltI a b=false)=(b≤a))∧(∀ a b:Int,(leI a b=false)=(b < a)):=by and_intros <;> intros <;> simp
theorem S2:(∀ (α:Type) (a b:List α),(a++b).length=a.length + b.length)∧(∀ (α:Type) (a:α) (l:List α),(a::l).length=l.length + 1)∧(∀ α:Type,([]:List α).length=0):=by and_intros <;> intros <;> simp
theorem Wa{b:Bool}{l:List Bool}:allT (b::l)=true↔b=true∧allT l=true:=by cases b <;> simp [allT]
theorem Wb:allT []=true↔True:=by simp [allT]
theorem IW{α:Type}{t:Bool}{l l':List α}{n:Nat}(h:l.length≤n)(h':l'.length≤n):(bif t then l else l').length≤n:=by cases t <;> assumption
def LT.ok{X:Type}(J:X→Prop)(Q:Nat→Prop):LT X→Prop
 | .nrm x _=>J x
 | .ext j _=>Q j
 | .need nd t=>allT nd=true∧t.ok J Q
 | .ite b t e=>(b=true→t.ok J Q)∧(b=false→e.ok J Q)
theorem LT.ok_out{X:Type}{J:X→Prop}{Q:Nat→Prop}: ∀ {t:LT X},t.ok J Q→(∃ j,t.out=some (.inl j)∧Q j)∨ ∃ y,t.out=some (.inr y)∧J y
 | .nrm x _,h=> .inr ⟨x,rfl,h⟩
 | .ext j _,h=> .inl ⟨j,rfl,h⟩
 | .need nd t,h=>by
  simp only [LT.ok]at h
  simp only [LT.out,h.1,cond_true]
  exact LT.ok_out (t:=t) h.2
 | .ite b t e,h=>by
  simp only [LT.ok]at h
  simp only [LT.out]
  cases b with
  |true=>exact LT.ok_out (t:=t) (h.1 rfl)
  |false=>exact LT.ok_out (t:=e) (h.2 rfl)
theorem Lp.inv2{X:Type}(p:Lp X)(I:Nat→X→Prop)(Q:X→Prop)(hs: ∀ k x,I (k + 1) x→(p.lt x).ok (I k) (fun _=>Q x))(he: ∀ x,I 0 x→(p.lt x).ok (fun _=>False) (fun _=>Q x))
  (N:Nat) (x:X) (hN:N≤999) (h:I N x):p.fin x=true∧ ∃ j y,p.res x=(j,y)∧Q y:=
 p.inv I (fun _ y=>Q y) (fun k x hx=>LT.ok_out (hs k x hx)) (fun x hx=>by
  rcases LT.ok_out (he x hx)with h | ⟨_,_,h⟩
  ·exact h
  ·exact h.elim) N x hN h
theorem at0{α:Type}{l:List α}(h:ltI 0 (l.length:Int)=true):1≤l.length:=by have:=ab7.1 h;omega
 attribute [local irreducible] nxA nxS nxV pkA pkS pkV
theorem adE(c:avO)(x:mf)(hx:match x with | (a,b,d,e,f,g,i,l,m,n,o)=>(i.length:Int)≤a + (50:Nat)∧0≤a∧a≤(i.length:Int)∧(e.length:Int)=a∧aG f g o=true∧o=c∧i.length≤50):
  iY.fin x=true∧ ∃ j y,iY.res x=(j,y)∧(match y with | (a,b,d,e,f,g,i,l,m,n,o)=>aG f g c=true∧e.length≤50∧c=o):=by
 refine iY.inv2 (fun k x=>match x with | (a,b,d,e,f,g,i,l,m,n,o)=>(i.length:Int)≤a + k∧0≤a∧a≤(i.length:Int)∧(e.length:Int)=a∧aG f g o=true∧o=c∧i.length≤50) (fun y=>match y with | (a,b,d,e,f,g,i,l,m,n,o)=>aG f g c=true∧e.length≤50∧c=o) (fun k x hx=> ?_) (fun x hx=> ?_) 50 x (by omega) hx
 ·obtain⟨a,b,d,e,f,g,i,l,m,n,o⟩:=x
  obtain⟨h0,h1,h2,h3,h4,rfl,h6⟩:=hx
  skip
  simp only [iY,LF,LT.ok,Wa,Wb,and_true,AF,NK,NL,NM,NN,NO,NP,NQ,NR,Bool.or_eq_true,q8]
  repeat' (first | refine And.intro ?_ ?_ | intro _)
  all_goals first
   |omega
   |(repeat (first | assumption | apply jR | apply WT | apply rt | refine Or.inr ?_ | refine And.intro ?_ ?_ | exact trivial | exact ajR _ _ | rfl)
     done)
   |((repeat refine Or.inr ?_)
     exact bx (by first | omega | (simp only [S2];omega)))
   |(simp only [S2]
     omega)
   |(repeat' apply IW
     all_goals first | omega | (simp only [S2];omega))
   |(try simp only [S1]at *
     rw [aM (by omega) (by omega)]
     first | omega | (simp only [S2];omega))
   |(simp only [S1]at *
     first | omega | (exfalso;omega))
   |(exfalso;simp_all;done)
 ·obtain⟨a,b,d,e,f,g,i,l,m,n,o⟩:=x
  obtain⟨h0,h1,h2,h3,h4,rfl,h6⟩:=hx
  skip
  skip
  simp only [iY,LF,LT.ok,Wa,Wb,and_true,AF,NK,NL,NM,NN,NO,NP,NQ,NR,Bool.or_eq_true,q8]
  repeat' (first | refine And.intro ?_ ?_ | intro _)
  all_goals first
   |omega
   |(repeat (first | assumption | apply jR | apply WT | apply rt | refine Or.inr ?_ | refine And.intro ?_ ?_ | exact trivial | exact ajR _ _ | rfl)
     done)
   |((repeat refine Or.inr ?_)
     exact bx (by first | omega | (simp only [S2];omega)))
   |(simp only [S2]
     omega)
   |(repeat' apply IW
     all_goals first | omega | (simp only [S2];omega))
   |(try simp only [S1]at *
     rw [aM (by omega) (by omega)]
     first | omega | (simp only [S2];omega))
   |(simp only [S1]at *
     first | omega | (exfalso;omega))
   |(exfalso;simp_all;done)
theorem agm(a b:avP)(c d:Int)(e f g:List avP)(i:List LN)(j:avO)(h:aG c d j=true)(hi:e.length≤50):
  Lg a b c d e f g i j=true∧aG (xJ a b c d e f g i j) (BW a b c d e f g i j) j=true∧(Lf a b c d e f g i j).length≤60:=by
 obtain⟨f0,j0,⟨z0,z1,z2,z3,z4,z5,z6,z7,z8,z9,z10⟩,g0,q1,q2,q3⟩:=adE j (JV a b c d e f g i j) (by
  simp only [JV]
  exact⟨by omega,by omega,by omega,by simp,h,trivial,hi⟩)
 have e9:mZ a b c d e f g i j=z3:=by simp only [mZ,El,g0]
 have e3:At a b c d e f g i j=z4:=by simp only [At,JW,El,g0]
 have e4:Em a b c d e f g i j=z5:=by simp only [Em,JW,El,g0]
 have s7:aG (pS a b c d e f g i j) (rr a b c d e f g i j) j=true:=by
  simp only [pS,rr,e3,e4];exact jR q1
 have k1:leN (z3.length + [(0:Int)].length) 9223372036854775807=true:=bx (by simp only [w5];omega)
 have k2:leN ((z3.length + [(0:Int)].length) * 8) 140737488355328=true:=bx (by simp only [w5];omega)
 have k3:leN 1 (v7 [(-1:Int),2])=true:=rfl
 have k4:jK a b c d e f g i j=true→ltN (v6 0) z3.length=true:=fun hh=>by
  simp only [jK,e9]at hh;exact eD (by have:=at0 hh;simp only [Int.toNat_zero];omega)
 have k5:leI 0 0=true:=rfl
 refine⟨?_,?_,?_⟩
 ·simp only [Lg,f0,e3,e4,e9,q1,s7,k1,k2,k3,k5,allT,k8,Bool.and_self,cond_true]
  cases h10:jK a b c d e f g i j with
  |true=>simp only [k4 h10,k8,cond_true]
  |false=>simp only [Bool.not_false,Bool.true_or,k8,cond_true]
 ·simp only [xJ,BW]
  exact rt s7 (rt (rt (WT s7) s7) s7)
 ·simp only [Lf,e9]
  refine IW (by rw [j6,w5];omega) (IW (IW (by rw [List.length_set];omega) (by omega)) (by omega))
theorem av4{a s:Int}{c:avO}{l:List avP}:(aG a s c&&leN l.length 50)=true↔aG a s c=true∧l.length≤50:=by simp only [q8,gR]
def ae7(n:Nat)(l:aup):Bool:=l.all fun x=>leN x.length n
theorem ajk{n:Nat}{l:aup}:ae7 n l=true↔ ∀ x∈l,x.length≤n:=by simp only [ae7,List.all_eq_true,gR]
theorem anL{n:Nat}{a:aup}{b:avO}(h:ae7 n a=true)(hb:b.length≤n):ae7 n (a++ [b])=true:=by
 refine ajk.2 fun x hx=> ?_
 rcases j8.1 hx with hx | hx
 ·exact ajk.1 h x hx
 ·rw [qqz.1 hx];exact hb
theorem acb(M:Nat)(x:lw)(hx:match x with | (a,b,c)=>a + 1≤(4:Nat)∧ -1≤a∧c.length≤60∧b.length + (4:Nat)≤M∧M≤1000∧ae7 60 b=true):
  ib.fin x=true∧ ∃ j y,ib.res x=(j,y)∧(match y with | (a,b,c)=>b.length≤M∧ae7 60 b=true):=by
 refine ib.inv2 (fun k x=>match x with | (a,b,c)=>a + 1≤k∧ -1≤a∧c.length≤60∧b.length + k≤M∧M≤1000∧ae7 60 b=true) (fun y=>match y with | (a,b,c)=>b.length≤M∧ae7 60 b=true) (fun k x hx=> ?_) (fun x hx=> ?_) 4 x (by omega) hx
 ·obtain⟨a,b,c⟩:=x
  obtain⟨h0,h1,h2,h3,h4,h5⟩:=hx
  skip
  simp only [ib,Km,LT.ok,Wa,Wb,and_true,LK,LL,LM,LO,LP,LQ,Bool.or_eq_true,q8]
  repeat' (first | refine And.intro ?_ ?_ | intro _)
  all_goals first
   |omega
   |(repeat (first | assumption | apply jR | apply WT | apply rt | refine Or.inr ?_ | refine And.intro ?_ ?_ | exact trivial | exact ajR _ _ | rfl | exact anL ‹_› ‹_›)
     done)
   |((repeat refine Or.inr ?_)
     exact bx (by first | omega | (simp only [S2];omega)))
   |(simp only [S2]
     omega)
   |(repeat' apply IW
     all_goals first | omega | (simp only [S2];omega))
   |(try simp only [S1]at *
     rw [aM (by omega) (by omega)]
     first | omega | (simp only [S2];omega))
   |(simp only [S1]at *
     first | omega | (exfalso;omega))
   |(exfalso;simp_all;done)
 ·obtain⟨a,b,c⟩:=x
  obtain⟨h0,h1,h2,h3,h4,h5⟩:=hx
  skip
  skip
  simp only [ib,Km,LT.ok,Wa,Wb,and_true,LK,LL,LM,LO,LP,LQ,Bool.or_eq_true,q8]
  repeat' (first | refine And.intro ?_ ?_ | intro _)
  all_goals first
   |omega
   |(repeat (first | assumption | apply jR | apply WT | apply rt | refine Or.inr ?_ | refine And.intro ?_ ?_ | exact trivial | exact ajR _ _ | rfl | exact anL ‹_› ‹_›)
     done)
   |((repeat refine Or.inr ?_)
     exact bx (by first | omega | (simp only [S2];omega)))
   |(simp only [S2]
     omega)
   |(repeat' apply IW
     all_goals first | omega | (simp only [S2];omega))
   |(try simp only [S1]at *
     rw [aM (by omega) (by omega)]
     first | omega | (simp only [S2];omega))
   |(simp only [S1]at *
     first | omega | (exfalso;omega))
   |(exfalso;simp_all;done)
theorem afB(c:avO)(x:po)(hx:match x with | (a,b,d,e,f,g,i,l,m,o)=>202≤a.length + (202:Nat)∧aG b d g=true∧i.length≤50∧a.length + (202:Nat)≤432∧ae7 60 a=true∧g=c):
  gT.fin x=true∧ ∃ j y,gT.res x=(j,y)∧(match y with | (a,b,d,e,f,g,i,l,m,o)=>aG b d c=true∧a.length≤432∧ae7 60 a=true∧c=g):=by
 refine gT.inv2 (fun k x=>match x with | (a,b,d,e,f,g,i,l,m,o)=>202≤a.length + k∧aG b d g=true∧i.length≤50∧a.length + k≤432∧ae7 60 a=true∧g=c) (fun y=>match y with | (a,b,d,e,f,g,i,l,m,o)=>aG b d c=true∧a.length≤432∧ae7 60 a=true∧c=g) (fun k x hx=> ?_) (fun x hx=> ?_) 202 x (by omega) hx
 ·obtain⟨a,b,d,e,f,g,i,l,m,o⟩:=x
  obtain⟨h0,h1,h2,h3,h4,rfl⟩:=hx
  have nn:=OG (n:=2) h1 (by omega);have hw:IntKind.i64.wrap (200 + nxV 2 b d g)=200 + nxV 2 b d g:=aM (by omega) (by omega);have hz:ae7 60 (a++ [qqq (v6 (↑i.length:Int)) (0:Int)])=true:=anL h4 (by rw [k9,q9];omega)
  simp only [gT,Ps,LT.ok,Wa,Wb,and_true,Db,RF,RG,RH,RI,RJ,RK,RL,RM,RN,Au,yX,Bool.or_eq_true,q8]
  repeat' (first | refine And.intro ?_ ?_ | intro _)
  all_goals first
   |omega
   |(repeat (first | assumption | apply jR | apply WT | apply rt | refine Or.inr ?_ | refine And.intro ?_ ?_ | exact trivial | exact ajR _ _ | rfl)
     done)
   |((repeat refine Or.inr ?_)
     exact bx (by first | omega | (simp only [S2];omega)))
   |(simp only [S2]
     omega)
   |(repeat' apply IW
     all_goals first | omega | (simp only [S2];omega))
   |(try simp only [S1]at *
     rw [aM (by omega) (by omega)]
     first | omega | (simp only [S2];omega))
   |(simp only [S1]at *
     first | omega | (exfalso;omega))
   |(exfalso;simp_all;done)
 ·obtain⟨a,b,d,e,f,g,i,l,m,o⟩:=x
  obtain⟨h0,h1,h2,h3,h4,rfl⟩:=hx
  have nn:=OG (n:=2) h1 (by omega);have hw:IntKind.i64.wrap (200 + nxV 2 b d g)=200 + nxV 2 b d g:=aM (by omega) (by omega);have hz:ae7 60 (a++ [qqq (v6 (↑i.length:Int)) (0:Int)])=true:=anL h4 (by rw [k9,q9];omega)
  have e0:ltI (a.length:Int) (IntKind.i64.wrap (200 + nxV 2 b d g))=false:=by rw [hw];exact IZ (by omega)
  simp only [gT,Ps,LT.ok,Wa,Wb,and_true,Db,RF,RG,RH,RI,RJ,RK,RL,RM,RN,Au,yX,Bool.or_eq_true,q8]
  repeat' (first | refine And.intro ?_ ?_ | intro _)
  all_goals first
   |omega
   |(repeat (first | assumption | apply jR | apply WT | apply rt | refine Or.inr ?_ | refine And.intro ?_ ?_ | exact trivial | exact ajR _ _ | rfl)
     done)
   |((repeat refine Or.inr ?_)
     exact bx (by first | omega | (simp only [S2];omega)))
   |(simp only [S2]
     omega)
   |(repeat' apply IW
     all_goals first | omega | (simp only [S2];omega))
   |(try simp only [S1]at *
     rw [aM (by omega) (by omega)]
     first | omega | (simp only [S2];omega))
   |(simp only [S1]at *
     first | omega | (exfalso;omega))
   |(exfalso;simp_all;done)
theorem afA(c:avO)(x:pj)(hx:match x with | (a,b,d,e,f,g,i,l,m,o,p)=>a≤((7:Nat):Int)∧aG b d i=true∧l.length≤50∧g.length + 4 * (7:Nat)≤28∧ae7 60 g=true∧i=c):
  lz.fin x=true∧ ∃ j y,lz.res x=(j,y)∧(match y with | (a,b,d,e,f,g,i,l,m,o,p)=>aG b d c=true∧g.length≤28∧ae7 60 g=true∧c=i):=by
 refine lz.inv2 (fun k x=>match x with | (a,b,d,e,f,g,i,l,m,o,p)=>a≤(k:Int)∧aG b d i=true∧l.length≤50∧g.length + 4 * k≤28∧ae7 60 g=true∧i=c) (fun y=>match y with | (a,b,d,e,f,g,i,l,m,o,p)=>aG b d c=true∧g.length≤28∧ae7 60 g=true∧c=i) (fun k x hx=> ?_) (fun x hx=> ?_) 7 x (by omega) hx
 ·obtain⟨a,b,d,e,f,g,i,l,m,o,p⟩:=x
  obtain⟨h0,h1,h2,h3,h4,rfl⟩:=hx
  obtain⟨d1,d2,d3⟩:=agm e f b d l m o p i h1 h2
  have n4:=OG (n:=4) d2 (by omega)
  obtain⟨f0,j0,⟨z0,z1,z2⟩,g0,q1,q2⟩:=acb (g.length + 4) (HQ b d e f g i l m o p) (by
   simp only [HQ]
   exact⟨by omega,by omega,d3,by omega,by omega,h4⟩)
  have p1:RC b d e f i l m o p=true:=by first | exact d1 | (simp only [RC,h1,Bool.true_and];exact bx h2)
  have p2:Zt b d e f i l m o p=true:=d2
  have p3:Zu b d e f g i l m o p=true:=f0
  have p7:RE b d e f g i l m o p=z1:=by simp only [RE,g0]
  have p56:aG (Zv b d e f i l m o p) (Zw b d e f i l m o p) i=true:=jR d2
  have w4:ltI 0 a=true→RD a≤(k:Int):=fun h=>by
   have:=ab7.1 h
   simp only [RD];rw [aM (by omega) (by omega)];omega
  simp only [lz,Pr,LT.ok,Wa,Wb,and_true,true_and,p1,p2,p3,p7,RB]
  exact⟨fun h=>⟨w4 h,p56,h2,by omega,q2⟩,fun _=>⟨h1,by omega,h4⟩⟩
 ·obtain⟨a,b,d,e,f,g,i,l,m,o,p⟩:=x
  obtain⟨h0,h1,h2,h3,h4,rfl⟩:=hx
  have e0:ltI 0 a=false:=IZ (by omega)
  simp only [lz,Pr,LT.ok,RB,e0,Bool.false_eq_true,false_implies,true_implies,true_and,and_true]
  exact⟨h1,by omega,h4⟩
theorem RA(a b:avP)(c d:Int)(e f g:List avP)(i:List LN)(j:avO)(h:aG c d j=true)(hi:e.length≤50):
  WE a b c d e f g i j=true∧aG (ut a b c d e f g i j) (xK a b c d e f g i j) j=true∧(bm a b c d e f g i j).length≤432∧ae7 60 (bm a b c d e f g i j)=true:=by
 have n8:=OG (n:=8) h (by omega)
 obtain⟨f0,j0,⟨z0,z1,z2,z3,z4,z5,z6,z7,z8,z9,z10⟩,g0,q1,q2,q3,q4⟩:=afA j (MC a b c d e f g i j) (by
  simp only [MC,MB]
  exact⟨by omega,jR h,hi,by simp,rfl,trivial⟩)
 have e3:Dk a b c d e f g i j=z1:=by simp only [Dk,Hu,g0]
 have e5:Hv a b c d e f g i j=z2:=by simp only [Hv,MD,Hu,g0]
 have e7:ME a b c d e f g i j=z5:=by simp only [ME,MD,Hu,g0]
 have s8:aG (MF a b c d e f g i j) (MG a b c d e f g i j) j=true:=by simp only [MF,MG,e3,e5];exact jR q1
 obtain⟨f1,j1,⟨u0,u1,u2,u3,u4,u5,u6,u7,u8,u9⟩,g1,r1,r2,r3,r4⟩:=afB j (BX a b c d e f g i j) (by
  simp only [BX,MB,e7]
  exact⟨by omega,s8,hi,by omega,q3,trivial⟩)
 have e12:Lh a b c d e f g i j=u1:=by simp only [Lh,FY,g1]
 have e13:((FY a b c d e f g i j).2).1=u2:=by simp only [FY,g1]
 have e14:((Lp.res gT (BX a b c d e f g i j)).2).1=u0:=by simp only [g1]
 refine⟨?_,?_,?_,?_⟩
 ·simp only [WE,h,f0,f1,e3,e5,q1,allT,k8,cond_true]
 ·simp only [ut,xK,e12,e13,Au,yX]
  exact rt (jR r1) s8
 ·simp only [bm,e7,e14]
  exact IW r2 (by omega)
 ·simp only [bm,e7,e14]
  cases Hw a b c d e f g i j
  ·exact q3
  ·exact r3
def acz:awh
 | [.one ⟨false,[.ptr 0 0]⟩,.one ⟨true,[.val (.string a),.ref 1,.ref 2,.ref 3,.val (.string b),.ref 4]⟩],[.box 113 [.ref 5,.val (.int .i64 c),.val (.int .i64 d)],.row false 9 (.str) e,.row false 9 (.str) f,.row false 9 (.str) g,.row false 142 (.pair (.str) (.sl 122 (.pair (.int .i64) (.pair (.str) (.int .i64))))) i,.row false 5 (.int .u8) j]=>some ⟨aBB (.ref 6),[.box 113 [.ref 5,axb (ut a b c d e f g i j),axb (xK a b c d e f g i j)],aBD e,aBD f,aBD g,aBH i,aBL j],[aBQ (bm a b c d e f g i j)],[aG c d j&&leN e.length 50]⟩
 |_,_=>none
def ug:PF prog:=PF.alt amE acz (by
 intro args es o h cA;unfold acz at h;split at h
 ·rename_i a b c d e f g i j
  cases h
  have cA:=jQ cA
  have hh:=(RA a b c d e f g i j (av4.1 cA).1 (av4.1 cA).2).1
  have en:=hh
  exact pW rfl (ip en) rfl rfl rfl
 ·cases h)
end Go.SX
namespace Go.SX
open Go.Proofs Go.Proofs.Tryz
set_option maxRecDepth 100000
def Vv(n:Nat)(l:List avP):Bool:=leN l.length n&&l.all fun s=>leN s.size 1000
def Zd(n:Nat)(l:List TM):Bool:=leN l.length n&&l.all fun t=>leN t.2.1.size 1000
def afm(n:Nat)(ls:List LN):Bool:=leN ls.length n&&ls.all fun l=>leN l.1.size 1000&&Zd 100 l.2
def prD(nm:avP)(ins vs os:List avP)(g:avP)(ls:List LN):Bool:=leN nm.size 1000&&(Vv 50 ins&&(Vv 50 vs&&(Vv 50 os&&(leN g.size 1000&&afm 100 ls))))
theorem td{n:Nat}{l:List avP}:Vv n l=true↔l.length≤n∧ ∀ s∈l,s.size≤1000:=by simp only [Vv,q8,gR,List.all_eq_true]
theorem Qn{n:Nat}{l:List TM}:Zd n l=true↔l.length≤n∧ ∀ t∈l,t.2.1.size≤1000:=by simp only [Zd,q8,gR,List.all_eq_true]
theorem Tj{n:Nat}{l:List LN}:afm n l=true↔l.length≤n∧ ∀ x∈l,x.1.size≤1000∧Zd 100 x.2=true:=by simp only [afm,q8,gR,List.all_eq_true]
theorem Pu{nm:avP}{ins vs os:List avP}{g:avP}{ls:List LN}:prD nm ins vs os g ls=true↔
  nm.size≤1000∧Vv 50 ins=true∧Vv 50 vs=true∧Vv 50 os=true∧g.size≤1000∧afm 100 ls=true:=by simp only [prD,q8,gR]
theorem ao9{n m:Nat}{l:List avP}(h:Vv n l=true)(hm:n≤m):Vv m l=true:=by
 obtain⟨h1,h2⟩:=td.1 h;exact td.2 ⟨by omega,h2⟩
theorem axQ{n m:Nat}{l:List LN}(h:afm n l=true)(hm:n≤m):afm m l=true:=by
 obtain⟨h1,h2⟩:=Tj.1 h;exact Tj.2 ⟨by omega,h2⟩
theorem ajN{n m k:Nat}{a b:List avP}(ha:Vv n a=true)(hb:Vv m b=true)(h:n + m≤k):Vv k (a++b)=true:=by
 obtain⟨h1,h2⟩:=td.1 ha;obtain⟨h3,h4⟩:=td.1 hb
 exact td.2 ⟨by rw [j6];omega,fun s hs=>(j8.1 hs).elim (h2 s) (h4 s)⟩
theorem agc{n:Nat}(k:Nat){l:List avP}(h:Vv n l=true):Vv n (l.take k)=true:=by
 obtain⟨h1,h2⟩:=td.1 h
 exact td.2 ⟨by rw [j7];omega,fun s hs=>h2 s (List.mem_of_mem_take hs)⟩
theorem ayU{n:Nat}{a:List LN}{b:LN}(ha:afm n a=true)(h1:b.1.size≤1000)(h2:Zd 100 b.2=true):afm (n + 1) (a++ [b])=true:=by
 obtain⟨k1,k2⟩:=Tj.1 ha
 refine Tj.2 ⟨by rw [j6,w5];omega,fun x hx=> ?_⟩
 rcases j8.1 hx with hx | hx
 ·exact k2 x hx
 ·rw [qqz.1 hx];exact⟨h1,h2⟩
theorem aw2{n m:Nat}{l:List TM}(h:dtL n l)(hm:n≤m):Zd m l=true:=Qn.2 ⟨by have:=h.2.1;omega,h.2.2⟩
theorem aob{n:Nat}{l:List avP}(h:Vv n l=true)(k:Nat):(v8 l[k]? ByteArray.empty).size≤1000:=by
 cases hk:l[k]? with
 |none=>exact Nat.zero_le _
 |some s=>exact(td.1 h).2 s (List.mem_of_getElem? hk)
 attribute [local irreducible] nxA nxS nxV pkA pkS pkV
theorem aj2(c:avO)(x:vV)(hx:match x with | (a,b,e,f,g,i)=>a.length≤(5:Nat)∧Vv 50 a=true∧aG b e i=true∧(f.length + a.length≤50∧1≤f.length + a.length)∧afm f.length f=true∧avf g=true∧i=c):
  oR.fin x=true∧ ∃ j y,oR.res x=(j,y)∧(match y with | (a,b,e,f,g,i)=>aG b e c=true∧(1≤f.length∧f.length≤50)∧afm f.length f=true∧c=i):=by
 refine oR.inv2 (fun k x=>match x with | (a,b,e,f,g,i)=>a.length≤k∧Vv 50 a=true∧aG b e i=true∧(f.length + a.length≤50∧1≤f.length + a.length)∧afm f.length f=true∧avf g=true∧i=c) (fun y=>match y with | (a,b,e,f,g,i)=>aG b e c=true∧(1≤f.length∧f.length≤50)∧afm f.length f=true∧c=i) (fun k x hx=> ?_) (fun x hx=> ?_) 5 x (by omega) hx
 ·obtain⟨a,b,e,f,g,i⟩:=x
  obtain⟨h0,h1,h2,⟨h3,h4⟩,h5,h6,rfl⟩:=hx
  cases ht:ltI 0 (a.length:Int)with
  |false=>
   have:=ag1.1 ht
   simp only [oR,Pq,LT.ok,Sa,ht,Bool.false_eq_true,false_implies,true_implies,true_and,and_true]
   exact⟨h2,by omega,h5⟩
  |true=>
   have hp:=at0 ht
   obtain⟨i0,i1⟩:=OG (n:=(a.length:Int)) h2 (by omega)
   have s5:aG (nxA (a.length:Int) b i) (nxS (a.length:Int) b e i) i=true:=jR h2
   have n4:=OG (n:=4) s5 (by omega)
   have s12:aG (EH a b i) (EI a b e i) i=true:=jR s5
   have d:dtN 3 (EG a b e i) (EH a b i) (EI a b e i) g i=true:=VB.2 ⟨by simp only [EG];omega,s12,h6⟩
   obtain⟨_,t01,t2⟩:=ayw _ _ _ g i d
   have hw:PE a b e i=nxV (a.length:Int) b e i + 1:=aM (by omega) (by omega)
   have l3:(PD a b e g i).length=1:=rfl
   have l4:(Bk a b e i).length=(nxV (a.length:Int) b e i).toNat:=by
    simp only [Bk,Int.toNat_zero,List.drop_zero,j7];omega
   have l6:(Jo a b e i).length=a.length - (nxV (a.length:Int) b e i + 1).toNat:=by
    simp only [Jo,hw,q9,List.take_length,List.length_drop]
   have m18:Vv 50 (EF a b e i)=true:=by
    refine td.2 ⟨by simp only [EF,j6,l4,l6];omega,fun s hs=> ?_⟩
    simp only [EF,j8]at hs
    rcases hs with hs | hs
    ·exact(td.1 h1).2 s (List.mem_of_mem_take (List.mem_of_mem_drop hs))
    ·exact(td.1 h1).2 s (List.mem_of_mem_take (List.mem_of_mem_drop hs))
   have p1:aeI b e i=true:=h2
   have p2:YI a b e i=true:=bk i0
   have p3:aeJ a b e i=true:=dw i1
   have p4:aeK a b e i=true:=eD (by omega)
   have p5:aeL a b e i=true:=s5
   have p6:aeM a b e g i=true:=d
   have p7:aeN a b e f g i=true:=bx (by rw [l3];omega)
   have p8:aeO a b e f g i=true:=bx (by rw [l3];omega)
   have p9:aeP=true:=rfl
   have p10:ads a b e i=true:=bk (by omega)
   have p11:adt a b e i=true:=bx (by rw [l4];omega)
   have p12:adu a b e i=true:=bx (by rw [l4];omega)
   have p13:adv a b e i=true:=bk (by rw [hw];omega)
   have p14:adw a b e i=true:=bk (by rw [hw];omega)
   have p15:adx a=true:=bk (by omega)
   have p16:ady a b e i=true:=bx (by rw [l4,l6];omega)
   have p17:adz a b e i=true:=bx (by rw [l4,l6];omega)
   have l18:(EF a b e i).length=a.length - 1:=by simp only [EF,j6,l4,l6];omega
   have l21:(PC a b e f g i).length=f.length + 1:=by simp only [PC,j6,l3]
   have m21:afm (f.length + 1) (PC a b e f g i)=true:=ayU h5 (aob h1 _) (aw2 t2 (by omega))
   simp only [oR,Pq,LT.ok,Sa,ht,Bool.false_eq_true,reduceCtorEq,false_implies,true_implies,true_and,and_true,Wa,Wb,p1,p2,p3,p4,p5,p6,p7,p8,p9,p10,p11,p12,p13,p14,p15,p16,p17]
   exact⟨by omega,m18,t01,by omega,by rw [l21];exact m21,h6⟩
 ·obtain⟨a,b,e,f,g,i⟩:=x
  obtain⟨h0,h1,h2,⟨h3,h4⟩,h5,h6,rfl⟩:=hx
  have ht:ltI 0 (a.length:Int)=false:=IZ (by omega)
  simp only [oR,Pq,LT.ok,Sa,ht,Bool.false_eq_true,false_implies,true_implies,true_and,and_true]
  exact⟨h2,by omega,h5⟩
theorem YH(a c:Int)(d:avO)(h:aG a c d=true):
  adr a c d=true∧aG (tp a c d) (FP a c d) d=true∧(prD (tn a c d) (pg a c d) (fK a c d) (tq a c d) (uM a c d) (il a c d)=true∧1≤(pg a c d).length)∧1≤(il a c d).length∧(il a c d).length≤50:=by
 have n3:=OG (n:=3) h (by omega)
 have s1:aG (nxA 3 a d) (nxS 3 a c d) d=true:=jR h
 have n4:0≤DC a c d∧DC a c d < 4:=OG (n:=4) s1 (by omega)
 have s2:aG (DD a d) (Ku a c d) d=true:=jR s1
 have n2:=OG (n:=2) s2 (by omega)
 have s3:aG (nxA 2 (DD a d) d) (nxS 2 (DD a d) (Ku a c d) d) d=true:=jR s2
 have w6:GJ a c d=1 + nxV 3 a c d:=aM (by omega) (by omega)
 have w4:GI a c d=1 + nxV 2 (DD a d) (Ku a c d) d:=aM (by omega) (by omega)
 have l7:(sM a c d).length=(GJ a c d).toNat:=by simp only [sM,j7,j9,k7];omega
 have l1:(lp a c d).length=(DC a c d).toNat:=by simp only [lp,j7,j9,k7];omega
 have l5:(uN a c d).length=(GI a c d).toNat:=by simp only [uN,j7,j9,k7];omega
 have m7:Vv 3 (sM a c d)=true:=agc _ rfl
 have m1:Vv 3 (lp a c d)=true:=agc _ rfl
 have m5:Vv 2 (uN a c d)=true:=agc _ rfl
 have m8:Vv 6 (oJ a c d)=true:=ajN m7 m1 (by omega)
 have l8:(oJ a c d).length=(sM a c d).length + (lp a c d).length:=by simp only [oJ,j6]
 have d8:avf (oJ a c d)=true:=agd.2 ⟨by omega,by omega,(td.1 m8).2⟩
 obtain⟨f0,j0,⟨z0,z1,z2,z3,z4,z5⟩,g0,q1,q2,q3,q4⟩:=aj2 d (VN a c d) (by
  simp only [VN]
  exact⟨by rw [j6];omega,ajN m1 m5 (by omega),s3,⟨by rw [j6,k7];omega,by rw [j6,k7];omega⟩,rfl,d8,trivial⟩)
 have e11:qS a c d=z1:=by simp only [qS,NH,g0]
 have e13:HZ a c d=z2:=by simp only [HZ,Uq,NH,g0]
 have e7:il a c d=z3:=by simp only [il,Uq,NH,g0]
 have s4:aG (nxA 3 (qS a c d) d) (Ia a c d) d=true:=by simp only [Ia,e11,e13];exact jR q1
 have n8:0≤EE a c d∧EE a c d < ((oJ a c d).length:Int):=OG (n:=((oJ a c d).length:Int)) s4 (by omega)
 have q1':aG (qS a c d) (HZ a c d) d=true:=by rw [e11,e13];exact q1
 have k1:=bk n8.1
 have k2:=dw n8.2
 have k3:ltN (EE a c d).toNat (oJ a c d).length=true:=eD (by omega)
 refine⟨?_,?_,⟨?_,?_⟩,?_,?_⟩
 ·have u1:leI 0 (GJ a c d)=true:=bk (by omega)
  have u2:leI (GJ a c d) (([ByteArray.mk #[97],ByteArray.mk #[98],ByteArray.mk #[107,101,121]]:List avP).length:Int)=true:=bk (by simp only [j9,k7];omega)
  have u3:leI 0 (DC a c d)=true:=bk (by omega)
  have u4:leI (DC a c d) (([ByteArray.mk #[120],ByteArray.mk #[121],ByteArray.mk #[122]]:List avP).length:Int)=true:=bk (by simp only [j9,k7];omega)
  have u5:leI 0 (GI a c d)=true:=bk (by omega)
  have u6:leI (GI a c d) (([ByteArray.mk #[113],ByteArray.mk #[108,97,109,112]]:List avP).length:Int)=true:=bk (by simp only [j9,k7];omega)
  have b: ∀ (i j:Nat),i≤100→j≤100→leN (i + j) 9223372036854775807=true∧leN ((i + j) * 16) 140737488355328=true:=fun i j hi hj=>⟨bx (by omega),bx (by omega)⟩
  obtain⟨b1,b2⟩:=b (sM a c d).length (lp a c d).length (by omega) (by omega)
  obtain⟨b3,b4⟩:=b (lp a c d).length (uN a c d).length (by omega) (by omega)
  obtain⟨b5,b6⟩:=b 0 (sM a c d).length (by omega) (by omega)
  obtain⟨b7,b8⟩:=b 0 (lp a c d).length (by omega) (by omega)
  obtain⟨b9,b10⟩:=b 0 (uN a c d).length (by omega) (by omega)
  have c17:ZU a c d=true:=b5
  have c18:ZV a c d=true:=b6
  have c19:ZW a c d=true:=b7
  have c20:ZX a c d=true:=b8
  simp only [adr,h,s1,s2,q1',s4,f0,u1,u2,u3,u4,u5,u6,b1,b2,b3,b4,b9,b10,c17,c18,c19,c20,k1,k2,k3,allT,k8,cond_true]
 ·simp only [tp,FP];exact rt (jR s4) s4
 ·refine Pu.2 ⟨?_,ao9 m7 (by omega),ao9 m1 (by omega),ao9 m5 (by omega),?_,?_⟩
  ·simp only [tn];cases uZ a c d <;> exact(by decide)
  ·simp only [uM]
   cases uZ a c d
   ·exact Nat.zero_le _
   ·exact aob m8 _
  ·rw [e7];exact axQ q3 (by omega)
 ·simp only [pg,l7];omega
 ·rw [e7];exact q2.1
 ·rw [e7];exact q2.2
def aja:awh
 | [.one ⟨false,[.ptr 0 0]⟩],[.box 113 [.ref 1,.val (.int .i64 a),.val (.int .i64 b)],.row false 5 (.int .u8) c]=>some ⟨.one ⟨true,[.val (.string (tn a b c)),.ref 2,.ref 3,.ref 4,.val (.string (uM a b c)),.ref 5]⟩,[.box 113 [.ref 1,axb (tp a b c),axb (FP a b c)],aBL c],[aBJ (pg a b c),aBJ (fK a b c),aBJ (tq a b c),aBR (il a b c)],[aG a b c]⟩
 |_,_=>none
def uD:PF prog:=PF.alt arQ aja (by
 intro args es o h cA;unfold aja at h;split at h
 ·rename_i a b c
  cases h
  have cA:=jQ cA
  have hh:=(YH a b c cA).1
  have en:=hh
  exact pW rfl (ip en) rfl rfl rfl
 ·cases h)
end Go.SX
namespace Go.SX
open Go.Proofs Go.Proofs.Tryz
set_option maxRecDepth 100000
theorem avG{n:Nat}{a:List TM}{k m:Int}{s:avP}(h:Zd n a=true)(hl:a.length + 1≤n)(hs:s.size≤1000):Zd n (a++ [(k,s,m)])=true:=by
 obtain⟨h1,h2⟩:=Qn.1 h
 refine Qn.2 ⟨by rw [j6,w5];omega,fun t ht=> ?_⟩
 rcases j8.1 ht with ht | ht
 ·exact h2 t ht
 ·rw [qqz.1 ht];exact hs
theorem ase{n:Nat}{a:List TM}(i:Nat){k m:Int}{s:avP}(h:Zd n a=true)(hs:s.size≤1000):Zd n (a.set i (k,s,m))=true:=by
 obtain⟨h1,h2⟩:=Qn.1 h
 refine Qn.2 ⟨by rw [List.length_set];omega,fun t ht=> ?_⟩
 rcases List.mem_or_eq_of_mem_set ht with ht | ht
 ·exact h2 t ht
 ·rw [ht];exact hs
theorem ax8{n:Nat}(k:Nat){l:List TM}(h:Zd n l=true):Zd n (l.take k)=true:=by
 obtain⟨h1,h2⟩:=Qn.1 h
 exact Qn.2 ⟨by rw [j7];omega,fun s hs=>h2 s (List.mem_of_mem_take hs)⟩
theorem aci{n m:Nat}{l:List TM}(h:Zd n l=true)(hm:n≤m):Zd m l=true:=by
 obtain⟨h1,h2⟩:=Qn.1 h;exact Qn.2 ⟨by omega,h2⟩
theorem aA9{n:Nat}{l:List TM}{d:TM}(h:Zd n l=true)(k:Nat)(hd:d.2.1.size≤1000):(v8 l[k]? d).2.1.size≤1000:=by
 cases hk:l[k]? with
 |none=>exact hd
 |some s=>exact(Qn.1 h).2 s (List.mem_of_getElem? hk)
 attribute [local irreducible] nxA nxS nxV pkA pkS pkV
theorem ZT(c:avO)(x:im)(hx:match x with | (a,b,d,e)=>42≤a.length + (42:Nat)∧aG b d e=true∧a.length + (42:Nat)≤60∧Zd 100 a=true∧e=c):
  dX.fin x=true∧ ∃ j y,dX.res x=(j,y)∧(match y with | (a,b,d,e)=>aG b d c=true∧Zd 100 a=true∧c=e):=by
 refine dX.inv2 (fun k x=>match x with | (a,b,d,e)=>42≤a.length + k∧aG b d e=true∧a.length + k≤60∧Zd 100 a=true∧e=c) (fun y=>match y with | (a,b,d,e)=>aG b d c=true∧Zd 100 a=true∧c=e) (fun k x hx=> ?_) (fun x hx=> ?_) 42 x (by omega) hx
 ·obtain⟨a,b,d,e⟩:=x
  obtain⟨h0,h1,h2,h3,rfl⟩:=hx
  have nn:=OG (n:=2) h1 (by omega);have hw:IntKind.i64.wrap (40 + nxV 2 b d e)=40 + nxV 2 b d e:=aM (by omega) (by omega);have hz:Zd 100 (a++ [((4:Int),ByteArray.mk #[],(0:Int))])=true:=avG h3 (by omega) (Nat.zero_le _)
  simp only [dX,GF,LT.ok,Wa,Wb,and_true,HH,HI,HJ,HK,HL,sk,sm,Bool.or_eq_true,q8]
  repeat' (first | refine And.intro ?_ ?_ | intro _)
  all_goals first
   |omega
   |(repeat (first | assumption | apply jR | apply WT | apply rt | refine Or.inr ?_ | refine And.intro ?_ ?_ | exact trivial | exact ajR _ _ | rfl)
     done)
   |((repeat refine Or.inr ?_)
     exact bx (by first | omega | (simp only [S2];omega)))
   |(simp only [S2]
     omega)
   |(repeat' apply IW
     all_goals first | omega | (simp only [S2];omega))
   |(try simp only [S1]at *
     rw [aM (by omega) (by omega)]
     first | omega | (simp only [S2];omega))
   |(simp only [S1]at *
     first | omega | (exfalso;omega))
   |(exfalso;simp_all;done)
 ·obtain⟨a,b,d,e⟩:=x
  obtain⟨h0,h1,h2,h3,rfl⟩:=hx
  have nn:=OG (n:=2) h1 (by omega);have hw:IntKind.i64.wrap (40 + nxV 2 b d e)=40 + nxV 2 b d e:=aM (by omega) (by omega);have hz:Zd 100 (a++ [((4:Int),ByteArray.mk #[],(0:Int))])=true:=avG h3 (by omega) (Nat.zero_le _)
  have e0:ltI (a.length:Int) (IntKind.i64.wrap (40 + nxV 2 b d e))=false:=by rw [hw];exact IZ (by omega)
  simp only [dX,GF,LT.ok,Wa,Wb,and_true,HH,HI,HJ,HK,HL,sk,sm,Bool.or_eq_true,q8]
  repeat' (first | refine And.intro ?_ ?_ | intro _)
  all_goals first
   |omega
   |(repeat (first | assumption | apply jR | apply WT | apply rt | refine Or.inr ?_ | refine And.intro ?_ ?_ | exact trivial | exact ajR _ _ | rfl)
     done)
   |((repeat refine Or.inr ?_)
     exact bx (by first | omega | (simp only [S2];omega)))
   |(simp only [S2]
     omega)
   |(repeat' apply IW
     all_goals first | omega | (simp only [S2];omega))
   |(try simp only [S1]at *
     rw [aM (by omega) (by omega)]
     first | omega | (simp only [S2];omega))
   |(simp only [S1]at *
     first | omega | (exfalso;omega))
   |(exfalso;simp_all;done)
theorem RZ(a b:Int)(c:avO)(h:aG a b c=true):
  LJ a b c=true∧aG (AB a b c) (AC a b c) c=true∧Zd 100 (AD a b c)=true:=by
 have n4:=OG (n:=4) h (by omega)
 have s4:aG (nxA 4 a c) (nxS 4 a b c) c=true:=jR h
 have hd:dtN 3 (nxV 4 a b c) (nxA 4 a c) (nxS 4 a b c) [ByteArray.mk #[97],ByteArray.mk #[98],ByteArray.mk #[103,97,116,101]] c=true:=VB.2 ⟨by omega,s4,rfl⟩
 obtain⟨_,s2,t2⟩:=ayw _ _ _ _ c hd
 have s2:aG (kv a b c) (DE a b c) c=true:=s2
 have t2:dtL 15 (fI a b c):=t2
 have t0:Zd 100 (fI a b c)=true:=aw2 t2 (by omega)
 have l1:=t2.1
 have l2:=t2.2.1
 have s3:aG (nxA (di a b c) (kv a b c) c) (DF a b c) c=true:=jR s2
 obtain⟨i0,i1⟩:0≤cd a b c∧cd a b c < di a b c:=OG s2 (by simp only [di];omega)
 have s7:aG (cI a b c) (ec a b c) c=true:=jR s3
 obtain⟨f0,j0,⟨z0,z1,z2,z3⟩,g0,q1,q2,q3⟩:=ZT c (tj a b c) (by
  simp only [tj]
  exact⟨by omega,s7,by omega,t0,trivial⟩)
 have e1:(pe a b c).1=z1:=by simp only [pe,g0]
 have e2:((pe a b c).2).1=z2:=by simp only [pe,g0]
 have e0:((Lp.res dX (tj a b c)).2).1=z0:=by rw [g0]
 have k17:0≤jF a b c∧jF a b c < 4:=OG (n:=4) s7 (by omega)
 have d16:(pf a b c).2.1.size≤1000:=aA9 t0 _ (Nat.zero_le _)
 have c1:=bk i0
 have c2:=dw i1
 have c3:CP a b c=true:=eD (by simp only [di]at i1;omega)
 have c4:leI (cd a b c) (di a b c)=true:=bk (by omega)
 refine⟨?_,?_,?_⟩
 ·have d1:=bk k17.1
  have d2:ltI (jF a b c) (([ByteArray.mk #[],ByteArray.mk #[97,110,100],ByteArray.mk #[120],ByteArray.mk #[89]]:List avP).length:Int)=true:=dw k17.2
  have d3:ltN (jF a b c).toNat ([ByteArray.mk #[],ByteArray.mk #[97,110,100],ByteArray.mk #[120],ByteArray.mk #[89]]:List avP).length=true:=eD (show (jF a b c).toNat < 4 by omega)
  have b1:leN 1 ([(0:Int),4,5,13]:avO).length=true:=rfl
  have b2:leN 1 ([(-1:Int),1,9999,10000]:avO).length=true:=rfl
  have b3:leI 0 0=true:=rfl
  simp only [LJ,h,hd,s2,s3,s7,f0,c1,c2,c3,c4,d1,d2,d3,b1,b2,b3,allT,k8,Bool.and_self,cond_true]
 ·simp only [AB,AC,e1,e2,sk,sm]
  exact rt (WT s7) (rt (jR s7) (rt (WT s7) (rt s7 (rt (jR q1) s7))))
 ·simp only [AD,e0]
  cases bh a b c <;> simp only [cond_true,cond_false]
  ·cases bW a b c <;> simp only [cond_true,cond_false]
   ·cases fJ a b c <;> simp only [cond_true,cond_false]
    ·cases pd a b c <;> simp only [cond_true,cond_false]
     ·cases xx a b c <;> simp only [cond_true,cond_false]
      ·exact aci t0 (by omega)
      ·exact aci q2 (by omega)
     ·exact aci (ax8 _ t0) (by omega)
    ·exact aci (ase _ t0 d16) (by omega)
   ·exact aci (ase _ t0 (aob (n:=4) rfl _)) (by omega)
  ·exact aci (ase _ t0 d16) (by omega)
def Vp:awh
 | [.one ⟨false,[.ptr 0 0]⟩],[.box 113 [.ref 1,.val (.int .i64 a),.val (.int .i64 b)],.row false 5 (.int .u8) c]=>some ⟨aBB (.ref 2),[.box 113 [.ref 1,axb (AB a b c),axb (AC a b c)],aBL c],[aBM (AD a b c)],[aG a b c]⟩
 |_,_=>none
def lA:PF prog:=PF.alt afw Vp (by
 intro args es o h cA;unfold Vp at h;split at h
 ·rename_i a b c
  cases h
  have cA:=jQ cA
  have hh:=(RZ a b c cA).1
  have en:=hh
  exact pW rfl (ip en) rfl rfl rfl
 ·cases h)
end Go.SX
namespace Go.SX
open Go.Proofs Go.Proofs.Tryz
set_option maxRecDepth 100000
section
variable (a:Int)
def abu:avP:=strOfNums [v9 IntKind.u8 (v9 .i64 ((48:Int) + Int.tmod a 10))]
def abv:Bool:=ltI a 10||neI 10 0
def NF:avP:=bif ltI a 10 then strOfNums [v9 IntKind.u8 (v9 .i64 ((48:Int) + a))]else ByteArray.mk #[]++abu a
def adk:Bool:=allT [abv a,ltI a 10||false,abv a,ltI a 10||leN (ByteArray.size (ByteArray.mk #[]) + ByteArray.size (abu a)) 9223372036854775807]
end
def aiE:awh
 | [.one ⟨false,[.val (.int .i64 a)]⟩],[]=>some ⟨aBB (.val (.string (NF a))),[],[],[adk a]⟩
 |_,_=>none
def arL:PF prog:=PF.ofG prog [arM] [] aT 136 f136 func136 (fun c _=>LOk.nil c) aiE (by
 intro _ _ _ h;unfold aiE at h;split at h<;>cases h;kernel_rfl)
theorem azw(x:Int)(h:ltI x 10=true):adk x=true:=by
 simp only [adk,abv,h,allT,Bool.true_or,cond_true]
def ai5:awh
 | [.one ⟨false,[.val (.int .i64 a)]⟩],[]=>some ⟨aBB (.val (.string (NF a))),[],[],[ltI a 10]⟩
 |_,_=>none
def arz:PF prog:=PF.alt arL ai5 (by
 intro args es o h cA;unfold ai5 at h;split at h
 ·rename_i a
  cases h
  have cA:=jQ cA
  have hh:=azw a cA
  have en:=hh
  exact pW rfl (ip en) rfl rfl rfl
 ·cases h)
section
variable (a:Int)
def adl:avP:=strOfNums [v9 IntKind.u8 (v9 .i64 ((48:Int) + Int.tmod a 10))]
def adm:Bool:=ltI a 10||neI 10 0
def Qw:avP:=bif ltI a 10 then strOfNums [v9 IntKind.u8 (v9 .i64 ((48:Int) + a))]else NF (v9 .i64 (Int.tdiv a 10))++adl a
def afx:Bool:=allT [adm a,ltI a 10||ltI (v9 .i64 (Int.tdiv a 10)) 10,adm a,ltI a 10||leN (ByteArray.size (NF (v9 .i64 (Int.tdiv a 10))) + ByteArray.size (adl a)) 9223372036854775807]
end
def ale:awh
 | [.one ⟨false,[.val (.int .i64 a)]⟩],[]=>some ⟨aBB (.val (.string (Qw a))),[],[],[afx a]⟩
 |_,_=>none
def asB:PF prog:=PF.ofG prog [arz] [] aT 136 f136 func136 (fun c _=>LOk.nil c) ale (by
 intro _ _ _ h;unfold ale at h;split at h<;>cases h;kernel_rfl)
theorem ay3(x:Int):(strOfNums [x]).size=1:=rfl
theorem asQ{x:Int}:(NF x).size=1:=by
 simp only [NF,abu]
 cases ltI x 10
 ·rw [cond_false,ByteArray.size_append];rfl
 ·rfl
theorem ayt(x:Int)(h:(leI 0 x&&ltI x 100)=true):afx x=true∧(Qw x).size≤2:=by
 simp only [q8,Gt,ab7]at h
 have e:Int.tdiv x 10=x / 10:=Int.tdiv_eq_ediv_of_nonneg h.1
 have hw:IntKind.i64.wrap (Int.tdiv x 10)=x / 10:=by rw [e];exact aM (by omega) (by omega)
 have h1:ltI (x / 10) 10=true:=dw (by omega)
 have h2:neI 10 0=true:=rfl
 have h3:(adl x).size=1:=rfl
 refine⟨?_,?_⟩
 ·simp only [afx,adm,hw,h1,h2,h3,asQ,bx (show 1 + 1≤9223372036854775807 by omega),allT,k8,cond_true]
 ·simp only [Qw]
  cases ltI x 10
  ·rw [cond_false,ByteArray.size_append,h3,asQ];omega
  ·rw [cond_true,ay3];omega
def alo:awh
 | [.one ⟨false,[.val (.int .i64 a)]⟩],[]=>some ⟨aBB (.val (.string (Qw a))),[],[],[leI 0 a&&ltI a 100]⟩
 |_,_=>none
def afs:PF prog:=PF.alt asB alo (by
 intro args es o h cA;unfold alo at h;split at h
 ·rename_i a
  cases h
  have cA:=jQ cA
  have hh:=(ayt a cA).1
  have en:=hh
  exact pW rfl (ip en) rfl rfl rfl
 ·cases h)
abbrev qV:=List avP×Int×Int×List Int
section
variable (a:List avP)(b c:Int)(d:avO)
def JO:List avP:= [ByteArray.mk #[105]++Qw (↑a.length:Int)]
def TB:Bool:=aG b c d
def TC:Bool:=ltI (↑a.length:Int) (v9 .i64 ((20:Int) + nxV 2 b c d))
def TD:Bool:=leI 0 (↑a.length:Int)&&ltI (↑a.length:Int) 100
def aaR:Bool:=leN (ByteArray.size (ByteArray.mk #[105]) + ByteArray.size (Qw (↑a.length:Int))) 9223372036854775807
def aaS:Bool:=leN (v7 a + v7 (JO a)) 9223372036854775807
def aaT:Bool:=leN ((v7 a + v7 (JO a)) * 16) 140737488355328
def Lb:List avP:=a++JO a
def FL:Int:=nxA 2 b d
def FM:Int:=nxS 2 b c d
end
def ah5:qV→List (Nat×SV)
 |(_,_,_,_)=> [(5,(aBB (.ref 0))),(0,(aBB (.ptr 1 0)))]
def ahZ:qV→List (Nat×Entry)
 |(a,b,c,d)=> [(1,(.box 113 [.ref 2,axb b,axb c])),(2,(aBL d)),(0,(aBJ a))]
def aih:Nat→qV→List (Nat×SV)
 |_,(_,_,_,_)=> [(5,(aBB (.ref 0)))]
def aib:Nat→qV→List (Nat×Entry)
 |_,(a,b,c,d)=> [(0,(aBJ a)),(1,(.box 113 [.ref 2,axb (FL b d),axb (FM b c d)])),(2,(aBL d))]
def Re:qV→LT qV
 |(a,b,c,d)=> .need [TB b c d] (.ite (TC a b c d) (.need [TD a,aaR a,aaS a,aaT a] (.nrm ((Lb a),FL b d,FM b c d,d) [(0,832),(1,1),(2,2)])) (.ext 0 [(0,0),(1,1),(2,2)]))
def Rp(s:St):Option qV:=do
 let some ⟨none,.one ⟨false,[.ref 320]⟩⟩:=s.look 5|none
 let some ⟨none,.one ⟨false,[.ptr 0 0]⟩⟩:=s.look 0|none
 let some (.box 113 [.ref 1,.val (.int .i64 b),.val (.int .i64 c)]):=s.ent 0|none
 let some (.row false 5 (.int IntKind.u8) d):=s.ent 1|none
 let some (.row true 9 (.str) a):=s.ent 320|none
 some (a,b,c,d)
def ir:Lp qV where
 h:=⟨[68,69,70,71,72,73,74,75,76,77,78,79,80,5],[1,2],[0],[]⟩
 JL:=ah5
 JE:=ahZ
 XL:=aih
 XE:=aib
 q:=fun j=>match j with | _=> .exit 1
 tags:= [0]
 lt:=Re
 fuel:=fun(a,b,c,d)=>a.length + b.natAbs + c.natAbs + d.length
 fix:=fun(_,_,_,d) (a,b,c,_)=>(a,b,c,d)
 σ:= [(1,0),(2,1),(0,320)]
 rd:=Rp
theorem af6:LoopOk prog (fun k=>Nat.blt k Tryz.f97.ntmps) ir.F (bj f97 0):=by
 refine Lp.ok (tbl:= (T3z [ai,uD,lA,afs])) (lf:= []) aT ir (by kernel_rfl) (LOk.nil _) (fun _=>rfl) (fun _ _=>rfl) ?_ ?_ ?_ ?_ (fun _=>rfl) ?_
 ·intro _;kernel_rfl
 ·intro _;kernel_rfl
 ·intro s x h
  have h:Rp s=some x:=h
  unfold Rp at h
  repeat' split at h
  all_goals cases h
  constructor<;>repeat(first|refine ab ‹_› rfl ?_|refine aa rfl ‹_› rfl ?_|rfl)
 ·intro _;kernel_rfl
 ·intro _ _;exact(And.intro rfl trivial)
abbrev qW:=List (avP×(List (Int×(avP×Int))))×Int×Int×List Int
section
variable (a:afa)(b c:Int)(d:avO)
def JP:Int:=(↑a.length:Int)
def JQ:avP×alv:=v8 a[v6 0]? (xS aa8)
def JR:afZ:= [((JQ a).1,(JQ a).2)]
def TE:Bool:=aG b c d
def TF:Bool:=ltI (JP a) (v9 .i64 ((40:Int) + nxV 2 b c d))
end
def aaU:Bool:=leI 0 0
section
variable (a:afa)(b c:Int)(d:avO)
def aaV:Bool:=ltI 0 (JP a)
def aaW:Bool:=ltN (v6 0) a.length
def aaX:Bool:=leN (v7 a + v7 (JR a)) 9223372036854775807
def aaY:Bool:=leN ((v7 a + v7 (JR a)) * 40) 140737488355328
def Lc:afa:=a++JR a
def FN:Int:=nxA 2 b d
def FO:Int:=nxS 2 b c d
end
def ah6:qW→List (Nat×SV)
 |(_,_,_,_)=> [(6,(aBB (.ref 0))),(0,(aBB (.ptr 1 0)))]
def ah0:qW→List (Nat×Entry)
 |(a,b,c,d)=> [(1,(.box 113 [.ref 2,axb b,axb c])),(2,(aBL d)),(0,(aBR a))]
def aii:Nat→qW→List (Nat×SV)
 |_,(_,_,_,_)=> [(6,(aBB (.ref 0)))]
def aic:Nat→qW→List (Nat×Entry)
 |_,(a,b,c,d)=> [(0,(aBR a)),(1,(.box 113 [.ref 2,axb (FN b d),axb (FO b c d)])),(2,(aBL d))]
def Rf:qW→LT qW
 |(a,b,c,d)=> .need [TE b c d] (.ite (TF a b c d) (.need [aaU,aaV a,aaW a,aaX a,aaY a] (.nrm ((Lc a),FN b d,FO b c d,d) [(0,768),(1,1),(2,2)])) (.ext 0 [(0,0),(1,1),(2,2)]))
def Rq(s:St):Option qW:=do
 let some ⟨none,.one ⟨false,[.ref 323]⟩⟩:=s.look 6|none
 let some ⟨none,.one ⟨false,[.ptr 0 0]⟩⟩:=s.look 0|none
 let some (.box 113 [.ref 1,.val (.int .i64 b),.val (.int .i64 c)]):=s.ent 0|none
 let some (.row false 5 (.int IntKind.u8) d):=s.ent 1|none
 let some (.row true 142 (.pair .str (.sl 122 (.pair (.int .i64) (.pair .str (.int .i64))))) a):=s.ent 323|none
 some (a,b,c,d)
def iu:Lp qW where
 h:=⟨[87,88,89,90,91,92,93,94,95,96,97,98,6],[1,2],[0],[]⟩
 JL:=ah6
 JE:=ah0
 XL:=aii
 XE:=aic
 q:=fun j=>match j with | _=> .exit 3
 tags:= [0]
 lt:=Rf
 fuel:=fun(a,b,c,d)=>a.length + b.natAbs + c.natAbs + d.length
 fix:=fun(_,_,_,d) (a,b,c,_)=>(a,b,c,d)
 σ:= [(1,0),(2,1),(0,323)]
 rd:=Rq
theorem af7:LoopOk prog (fun k=>Nat.blt k Tryz.f97.ntmps) iu.F (bj f97 1):=by
 refine Lp.ok (tbl:= (T3z [ai,uD,lA,afs])) (lf:= []) aT iu (by kernel_rfl) (LOk.nil _) (fun _=>rfl) (fun _ _=>rfl) ?_ ?_ ?_ ?_ (fun _=>rfl) ?_
 ·intro _;kernel_rfl
 ·intro _;kernel_rfl
 ·intro s x h
  have h:Rq s=some x:=h
  unfold Rq at h
  repeat' split at h
  all_goals cases h
  constructor<;>repeat(first|refine ab ‹_› rfl ?_|refine aa rfl ‹_› rfl ?_|rfl)
 ·intro _;kernel_rfl
 ·intro _ _;exact(And.intro rfl trivial)
section
variable (a b:Int)(c:avO)
def nf:Int:=(↑(v7 (il a b c)):Int)
def PB:Int:=nxS (nf a b c) (tp a b c) (FP a b c) c
def xw:Int:=nxV 30 (nxA (nf a b c) (tp a b c) c) (PB a b c) c
def aC:Bool:=xw a b c==0
def dF:Int:=nxA 30 (nxA (nf a b c) (tp a b c) c) c
def fl:Int:=nxS 30 (nxA (nf a b c) (tp a b c) c) (PB a b c) c
def rO:Int:=nxV 3 (dF a b c) (fl a b c) c
def aU:Bool:=xw a b c==1
def aV:Bool:=xw a b c==2
def bu:Bool:=xw a b c==3
def cu:Bool:=xw a b c==4
def dV:Bool:=xw a b c==5
def ey:Bool:=xw a b c==6
def eQ:Bool:=xw a b c==7
def My:Int×Int×avO:=(dF a b c,fl a b c,c)
def Dg:List avP×Int×Int×avO:=(pg a b c,My a b c)
def zG:Int×Int×avO:=(Lp.res ir (Dg a b c)).2.2
def Dh:afZ×Int×Int×avO:=(il a b c,My a b c)
def zH:Int×Int×avO:=(Lp.res iu (Dh a b c)).2.2
def abT:Int:=nxS 3 (dF a b c) (fl a b c) c
def abU:Int:=nxS 4 (dF a b c) (fl a b c) c
def ql:Int:=nxV 4 (dF a b c) (fl a b c) c
def zI:List avP:= [v8 [ByteArray.mk #[97],ByteArray.mk #[113],ByteArray.mk #[119],ByteArray.mk #[111,110]][v6 (ql a b c)]? ByteArray.empty]
def qm:Int:=nxV (nf a b c) (tp a b c) (FP a b c) c
def Mz:avP×alv:=v8 (il a b c)[v6 (qm a b c)]? (xS aa8)
def Vi:Bool:=ltN (v6 (qm a b c)) (v7 (il a b c))
def KT:avP:=bif aC a b c then v8 [ByteArray.mk #[],ByteArray.mk #[101,110,100],ByteArray.mk #[82,105,100,101]][v6 (rO a b c)]? ByteArray.empty else bif aU a b c then tn a b c else bif aV a b c then tn a b c else bif bu a b c then tn a b c else bif cu a b c then tn a b c else bif dV a b c then tn a b c else bif ey a b c then tn a b c else bif eQ a b c then tn a b c else tn a b c
def KU:avP:=bif aC a b c then uM a b c else bif aU a b c then ByteArray.mk #[]else bif aV a b c then v8 [ByteArray.mk #[97,110,100],ByteArray.mk #[120],ByteArray.mk #[110,111,119,104,101,114,101]][v6 (rO a b c)]? ByteArray.empty else bif bu a b c then uM a b c else bif cu a b c then uM a b c else bif dV a b c then uM a b c else bif ey a b c then uM a b c else bif eQ a b c then uM a b c else uM a b c
def KV:Int:=bif aC a b c then nxA 3 (dF a b c) c else bif aU a b c then dF a b c else bif aV a b c then nxA 3 (dF a b c) c else bif bu a b c then nxA 4 (dF a b c) c else bif cu a b c then AB (dF a b c) (fl a b c) c else bif dV a b c then FL ((zG a b c).1) c else bif ey a b c then FN ((zH a b c).1) c else bif eQ a b c then nxA 4 (dF a b c) c else dF a b c
def KW:Int:=bif aC a b c then abT a b c else bif aU a b c then fl a b c else bif aV a b c then abT a b c else bif bu a b c then abU a b c else bif cu a b c then AC (dF a b c) (fl a b c) c else bif dV a b c then FM ((zG a b c).1) (((zG a b c).2).1) c else bif ey a b c then FO ((zH a b c).1) (((zH a b c).2).1) c else bif eQ a b c then abU a b c else fl a b c
def KX:List avP:=bif aC a b c then pg a b c else bif aU a b c then []else bif aV a b c then pg a b c else bif bu a b c then pg a b c else bif cu a b c then pg a b c else bif dV a b c then ((Lp.res ir (Dg a b c)).2).1else bif ey a b c then pg a b c else bif eQ a b c then pg a b c else pg a b c
def KY:List avP:=bif aC a b c then fK a b c else bif aU a b c then fK a b c else bif aV a b c then fK a b c else bif bu a b c then fK a b c else bif cu a b c then fK a b c else bif dV a b c then fK a b c else bif ey a b c then fK a b c else bif eQ a b c then fK a b c++zI a b c else fK a b c
def KZ:List avP:=bif aC a b c then tq a b c else bif aU a b c then tq a b c else bif aV a b c then tq a b c else bif bu a b c then tq a b c else bif cu a b c then tq a b c else bif dV a b c then tq a b c else bif ey a b c then tq a b c else bif eQ a b c then tq a b c else tq a b c
def La:afa:=bif aC a b c then il a b c else bif aU a b c then il a b c else bif aV a b c then il a b c else bif bu a b c then List.set (il a b c) (v6 (qm a b c)) (v8 [ByteArray.mk #[],ByteArray.mk #[111,114],ByteArray.mk #[97],ByteArray.mk #[113]][v6 (ql a b c)]? ByteArray.empty,(Mz a b c).2)else bif cu a b c then List.set (il a b c) (v6 (qm a b c)) ((Mz a b c).1,AD (dF a b c) (fl a b c) c)else bif dV a b c then il a b c else bif ey a b c then ((Lp.res iu (Dh a b c)).2).1else bif eQ a b c then il a b c else il a b c
def Yz:Bool:=allT [aG a b c,aG (tp a b c) (FP a b c) c,aG (nxA (nf a b c) (tp a b c) c) (PB a b c) c,!aC a b c||aG (dF a b c) (fl a b c) c,!aC a b c||leI 0 (rO a b c),!aC a b c||ltI (rO a b c) (↑(v7 [ByteArray.mk #[],ByteArray.mk #[101,110,100],ByteArray.mk #[82,105,100,101]]):Int),!aC a b c||ltN (v6 (rO a b c)) (v7 [ByteArray.mk #[],ByteArray.mk #[101,110,100],ByteArray.mk #[82,105,100,101]]),aC a b c||(aU a b c||(!aV a b c||aG (dF a b c) (fl a b c) c)),aC a b c||(aU a b c||(!aV a b c||leI 0 (rO a b c))),aC a b c||(aU a b c||(!aV a b c||ltI (rO a b c) (↑(v7 [ByteArray.mk #[97,110,100],ByteArray.mk #[120],ByteArray.mk #[110,111,119,104,101,114,101]]):Int))),aC a b c||(aU a b c||(!aV a b c||ltN (v6 (rO a b c)) (v7 [ByteArray.mk #[97,110,100],ByteArray.mk #[120],ByteArray.mk #[110,111,119,104,101,114,101]]))),aC a b c||(aU a b c||(aV a b c||(!bu a b c||aG (dF a b c) (fl a b c) c))),aC a b c||(aU a b c||(aV a b c||(!bu a b c||leI 0 (ql a b c)))),aC a b c||(aU a b c||(aV a b c||(!bu a b c||ltI (ql a b c) (↑(v7 [ByteArray.mk #[],ByteArray.mk #[111,114],ByteArray.mk #[97],ByteArray.mk #[113]]):Int)))),aC a b c||(aU a b c||(aV a b c||(!bu a b c||ltN (v6 (ql a b c)) (v7 [ByteArray.mk #[],ByteArray.mk #[111,114],ByteArray.mk #[97],ByteArray.mk #[113]])))),aC a b c||(aU a b c||(aV a b c||(!bu a b c||leI 0 (qm a b c)))),aC a b c||(aU a b c||(aV a b c||(!bu a b c||ltI (qm a b c) (nf a b c)))),aC a b c||(aU a b c||(aV a b c||(!bu a b c||Vi a b c))),aC a b c||(aU a b c||(aV a b c||(bu a b c||(!cu a b c||aG (dF a b c) (fl a b c) c)))),aC a b c||(aU a b c||(aV a b c||(bu a b c||(!cu a b c||leI 0 (qm a b c))))),aC a b c||(aU a b c||(aV a b c||(bu a b c||(!cu a b c||ltI (qm a b c) (nf a b c))))),aC a b c||(aU a b c||(aV a b c||(bu a b c||(!cu a b c||Vi a b c)))),aC a b c||(aU a b c||(aV a b c||(bu a b c||(cu a b c||(!dV a b c||Lp.fin ir (Dg a b c)))))),aC a b c||(aU a b c||(aV a b c||(bu a b c||(cu a b c||(dV a b c||(!ey a b c||Lp.fin iu (Dh a b c))))))),aC a b c||(aU a b c||(aV a b c||(bu a b c||(cu a b c||(dV a b c||(ey a b c||(!eQ a b c||leN (0 + v7 (fK a b c)) 9223372036854775807))))))),aC a b c||(aU a b c||(aV a b c||(bu a b c||(cu a b c||(dV a b c||(ey a b c||(!eQ a b c||leN ((0 + v7 (fK a b c)) * 16) 140737488355328))))))),aC a b c||(aU a b c||(aV a b c||(bu a b c||(cu a b c||(dV a b c||(ey a b c||(!eQ a b c||aG (dF a b c) (fl a b c) c))))))),aC a b c||(aU a b c||(aV a b c||(bu a b c||(cu a b c||(dV a b c||(ey a b c||(!eQ a b c||leI 0 (ql a b c)))))))),aC a b c||(aU a b c||(aV a b c||(bu a b c||(cu a b c||(dV a b c||(ey a b c||(!eQ a b c||ltI (ql a b c) (↑(v7 [ByteArray.mk #[97],ByteArray.mk #[113],ByteArray.mk #[119],ByteArray.mk #[111,110]]):Int)))))))),aC a b c||(aU a b c||(aV a b c||(bu a b c||(cu a b c||(dV a b c||(ey a b c||(!eQ a b c||ltN (v6 (ql a b c)) (v7 [ByteArray.mk #[97],ByteArray.mk #[113],ByteArray.mk #[119],ByteArray.mk #[111,110]])))))))),aC a b c||(aU a b c||(aV a b c||(bu a b c||(cu a b c||(dV a b c||(ey a b c||(!eQ a b c||leN (v7 (fK a b c) + v7 (zI a b c)) 9223372036854775807))))))),aC a b c||(aU a b c||(aV a b c||(bu a b c||(cu a b c||(dV a b c||(ey a b c||(!eQ a b c||leN ((v7 (fK a b c) + v7 (zI a b c)) * 16) 140737488355328)))))))]
end
def aeb:awh
 | [.one ⟨false,[.ptr 0 0]⟩],[.box 113 [.ref 1,.val (.int .i64 a),.val (.int .i64 b)],.row false 5 (.int .u8) c]=>some ⟨.one ⟨true,[.val (.string (KT a b c)),.ref 2,.ref 3,.ref 4,.val (.string (KU a b c)),.ref 5]⟩,[.box 113 [.ref 1,axb (KV a b c),axb (KW a b c)],aBL c],[aBJ (KX a b c),aBJ (KY a b c),aBJ (KZ a b c),aBR (La a b c)],[Yz a b c]⟩
 |_,_=>none
def aoh:PF prog:=PF.ofG prog (T3z [ai,uD,lA,afs]) [ir.F,iu.F] aT 97 f97 func97 (LOk.fnT (l:= [bj f97 0,bj f97 1]) (by kernel_rfl) (.cons af6 (.cons af7 (.nil _)))) aeb (by
 intro _ _ _ h;unfold aeb at h;split at h<;>cases h;kernel_rfl)
end Go.SX
