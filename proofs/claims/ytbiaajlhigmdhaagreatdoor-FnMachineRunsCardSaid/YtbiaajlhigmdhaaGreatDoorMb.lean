/- What functions of the program come to, and what that says in plain words: part 2. -/
import Derived.Test.YtbiaajlhigmdhaaGreatDoorMa
import Derived.Test.YtbiaajlhigmdhaaGreatDoorTXh
import Derived.Test.YtbiaajlhigmdhaaGreatDoorProg
set_option linter.unusedSimpArgs false
set_option linter.unusedVariables false
open Bool renaming and_eq_true → q9
open Int renaming toNat_natCast → w5
open List renaming length_singleton → w7
open Bool renaming or_true → w8
open Bool renaming cond_self → w9
open List renaming getElem?_eq_some_iff → j7
open Int renaming toNat → j8
open List renaming length → j9
open Option renaming getD → v4
open Go.IntKind renaming wrap → v5
open List renaming replicate → v6
namespace Go.SX
open Go.Proofs Go.Proofs.Tryz
set_option maxRecDepth 100000
abbrev mc:=Int×asv×asv×List asv×List asv×List asv×List (asv×(List (Int×(asv×Int))))
section
variable (a:Int)(b:ag4)
def uO:Bool:=ltI a (↑b.length:Int)
def uP:Bool:=ltN a.toNat b.length
def mX:asv×aow:=v4 b[j8 a]? (ub aaZ)
def je:Bool:= !nb ((mX a b).1)
def rh:aow:=bif !je a b&&true then (mX a b).2else []
def ww:Bool:=uO a b
def Fp:Bool:=leI 0 a
def Fq:Bool:=uP a b
def Fr:Bool:=tY ((mX a b).1)
def Fs:Bool:= !(!je a b&&true)||leI 0 a
def Ft:Bool:= !(!je a b&&true)||uO a b
def Fu:Bool:= !(!je a b&&true)||uP a b
def Fv:Bool:= !(!je a b&&true)||ahi (rh a b)
def Az:Bool:=bif je a b then true else !amD (rh a b)
def Fw:Int:=v5 .i64 (a + (1:Int))
end
def ad8:mc→List (Nat×SV)
 |(a,_,_,_,_,_,_)=> [(3,(.one ⟨false,[awF a]⟩)),(1,(.one ⟨false,[.ptr 0 0]⟩))]
def ad5:mc→List (Nat×Entry)
 |(_,a,b,c,d,e,f)=> [(0,(.box 43 [.val (.string a),.ref 1,.ref 2,.ref 3,.val (.string b),.ref 4])),(1,(.row false 9 arE c)),(2,(.row false 9 arE d)),(3,(.row false 9 arE e)),(4,(.row false 142 aaZ f))]
def aeu:Nat→mc→List (Nat×SV)
 |0,(_,_,_,_,_,_,_)=> [(2,(.one ⟨false,[.val (.bool false)]⟩))]
 |_,(_,_,_,_,_,_,_)=> []
def yW:mc→LT mc
 |(a,b,c,d,e,f,g)=> .ite (ww a g) (.need [Fp a,ww a g,Fq a g,Fr a g,Fs a g,Ft a g,Fu a g,Fv a g] (.ite (Az a g) (.ext 0 [(0,0),(1,1),(2,2),(3,3),(4,4)]) (.nrm ((Fw a),b,c,d,e,f,g) [(0,0),(1,1),(2,2),(3,3),(4,4)]))) (.ext 1 [(0,0),(1,1),(2,2),(3,3),(4,4)])
def LB(s:St):Option mc:=do
 let some ⟨none,.one ⟨false,[.val (.int .i64 a)]⟩⟩:=s.look 3|none
 let some ⟨none,.one ⟨false,[.ptr 320 0]⟩⟩:=s.look 1|none
 let some (.box 43 [.val (.string b),.ref 0,.ref 1,.ref 2,.val (.string c),.ref 3]):=s.ent 320|none
 let some (.row false 9 (.str) d):=s.ent 0|none
 let some (.row false 9 (.str) e):=s.ent 1|none
 let some (.row false 9 (.str) f):=s.ent 2|none
 let some (.row false 142 (.pair .str (.sl 122 (.pair (.int .i64) (.pair .str (.int .i64))))) g):=s.ent 3|none
 some (a,b,c,d,e,f,g)
def eD:Lp mc where
 h:=⟨[37,38,39,40,41,44,45,46,47,48,49,50,51,52,53,54,55,56,57,58,59,60,61,2,42,43,3],[0,1,2,3,4],[],[]⟩
 JL:=ad8
 JE:=ad5
 XL:=aeu
 XE:=fun _=>ad5
 q:=fun j=>match j with | 0=> .ret | _=> .exit 0
 tags:= [0,1]
 lt:=yW
 fuel:=fun(a,b,c,d,e,f,g)=>a.natAbs + b.size + c.size + d.length + e.length + f.length + g.length
 fix:=fun(_,b,c,d,e,f,g) (a,_,_,_,_,_,_)=>(a,b,c,d,e,f,g)
 σ:= [(0,320),(1,0),(2,1),(3,2),(4,3)]
 rd:=LB
theorem ab8:LoopOk prog (fun k=>Nat.blt k Tryz.f105.ntmps) eD.F (bB f105 0):=by
 refine Lp.ok (tbl:= (T3z [pp,Lz,Dz,wu])) (lf:= []) bj eD (by kernel_rfl) (LOk.nil _) (fun _=>rfl) (fun j _=>by unfold eD;match j with | 0=>rfl | _ + 1=>rfl) ?_ ?_ ?_ ?_ (fun _=>rfl) ?_
 ·rintro⟨a,b,c,d,e,f,g⟩;kernel_rfl
 ·rintro⟨a,b,c,d,e,f,g⟩;kernel_rfl
 ·intro s x h
  have h:LB s=some x:=h
  unfold LB at h
  repeat' split at h
  all_goals cases h
  constructor<;>repeat(first|refine ab (by assumption) rfl ?_|refine aa rfl (by assumption) rfl ?_|exact rfl)
 ·rintro⟨a,b,c,d,e,f,g⟩;kernel_rfl
 ·rintro⟨a,b,c,d,e,f,g⟩ z;exact(And.intro (And.intro trivial rfl) trivial)
section
variable (a:asv)(b c d:List asv)
def QX:Bool:=bif !nb a then true else !(List.all b wJ&&inR (↑b.length:Int) 1 20)
def QY:Bool:=bif QX a b then true else !(List.all c wJ&&inR (↑c.length:Int) 0 20)
def QZ:Bool:=bif QY a b c then true else !(List.all d wJ&&inR (↑d.length:Int) 1 20)
end
def Ra(a:asv):Bool:=
 !ByteArray.toList a==ByteArray.toList { data:= #[] }
section
variable (a b:asv)(c d e:List asv)(f:ajC)
def Rb:Bool:=bif QZ a c d e then true else bif Ra b then !nb b else false
def Kj:Int×asv×asv×List asv×List asv×List asv×ajC:=((0:Int),a,b,c,d,e,f)
def Gf:Bool:=bif Rb a b c d e then false else bif Nat.beq ((Lp.res eD (Kj a b c d e f)).1) 0 then false else aZ (↑f.length:Int) 1 40
def Md:Bool:=allT [tY a,!(!!nb a&&true)||SR c,!(!QX a c&&true)||SR d,!(!QY a c d&&true)||SR e,!(Ra b&&(!QZ a c d e&&true))||tY b,Rb a b c d e||Lp.fin eD (Kj a b c d e f)]
end
def aaF:awE
 | [.one ⟨true,[.val (.string a),.ref 0,.ref 1,.ref 2,.val (.string b),.ref 3]⟩],[.row false 9 (.str) c,.row false 9 (.str) d,.row false 9 (.str) e,.row false 142 (.pair (.str) (.sl 122 (.pair (.int .i64) (.pair (.str) (.int .i64))))) f]=>some ⟨.one ⟨false,[.val (.bool (Gf a b c d e f))]⟩,[.row false 9 arE c,.row false 9 arE d,.row false 9 arE e,.row false 142 (CTy.pair CTy.str (CTy.sl (122:TypeId) ab5)) f],[],[Md a b c d e f]⟩
 |_,_=>none
def Tf:PF prog:=PF.ofG prog (T3z [pp,Lz,Dz,wu]) [eD.F] bj 105 f105 func105 (LOk.fnT (l:= [bB f105 0]) (by kernel_rfl) (.cons ab8 (.nil _))) aaF (by
 intro _ _ _ h;unfold aaF at h;split at h<;>cases h;kernel_rfl)
def rt(a:asv)(b c:List asv):Bool:=bif leI 0 (wS b a)then true else leI 0 (wS c a)
def CD(a:asv)(b c:List asv):Bool:=allT [leN b.length (9223372036854775807:Nat),!(!leI 0 (wS b a)&&true)||leN c.length (9223372036854775807:Nat)]
def Wn:awE
 | [.one ⟨true,[.val (.string _x0),.ref 0,.ref 1,.ref 2,.val (.string _x1),.ref 3]⟩,.one ⟨false,[.val (.string a)]⟩],[.row false 9 (.str) b,.row false 9 (.str) c,.row false 9 (.str) d,.row false 142 (.pair (.str) (.sl 122 (.pair (.int .i64) (.pair (.str) (.int .i64))))) e]=>some ⟨.one ⟨false,[.val (.bool (rt a b c))]⟩,[.row false 9 arE b,.row false 9 arE c,.row false 9 arE d,.row false 142 (CTy.pair CTy.str (CTy.sl (122:TypeId) ab5)) e],[],[CD a b c]⟩
 |_,_=>none
def jS:PF prog:=PF.ofG prog (T3z [aV]) [] bj 146 f146 func146 (fun c _=>LOk.nil c) Wn (by
 intro _ _ _ h;unfold Wn at h;split at h<;>cases h;kernel_rfl)
abbrev nt:=Int×asv×asv×List asv×List asv×List asv×List asv×List (asv×(List (Int×(asv×Int))))
section
variable (a:Int)(b c d:List asv)(e:ag4)
def iE:asv:=(v4 e[j8 a]? (ub aaZ)).1
def yc:Bool:=ltI a (↑e.length:Int)
def Cq:Bool:=leI 0 a
def Cr:Bool:=ltN a.toNat e.length
def Cs:Bool:=leN c.length (9223372036854775807:Nat)
def Ct:Bool:= !(ltI (wS c (iE a e)) 0&&true)||leN d.length (9223372036854775807:Nat)
def Cu:Bool:=bif ltI (wS c (iE a e)) 0 then ltI (wS d (iE a e)) 0 else false
def Cv:Bool:=leN (j9 b + j9 [iE a e]) (9223372036854775807:Nat)
def Cw:Bool:=leN ((j9 b + j9 [iE a e]) * (16:Nat)) 140737488355328
def Cx:Int:=v5 .i64 (a + (1:Int))
def Cy:List asv:=b++ [iE a e]
end
def af9:nt→List (Nat×SV)
 |(a,_,_,_,_,_,_,_)=> [(4,(.one ⟨false,[awF a]⟩)),(1,(.one ⟨false,[.ptr 0 0]⟩)),(3,(.one ⟨false,[.ref 1]⟩))]
def afZ:nt→List (Nat×Entry)
 |(_,a,b,c,d,e,f,g)=> [(0,(.box 43 [.val (.string a),.ref 2,.ref 3,.ref 4,.val (.string b),.ref 5])),(2,(.row false 9 arE d)),(3,(.row false 9 arE e)),(4,(.row false 9 arE f)),(5,(.row false 142 aaZ g)),(1,(.row true 9 arE c))]
def agu:Nat→nt→List (Nat×SV)
 |0,(_,_,_,_,_,_,_,_)=> [(2,(.one ⟨false,[awF 3]⟩))]
 |_,(_,_,_,_,_,_,_,_)=> [(3,(.one ⟨false,[.ref 1]⟩))]
def agk:Nat→nt→List (Nat×Entry)
 |0,(_,a,b,c,d,e,f,g)=> [(0,(.box 43 [.val (.string a),.ref 2,.ref 3,.ref 4,.val (.string b),.ref 5])),(1,(.row true 9 arE c)),(2,(.row false 9 arE d)),(3,(.row false 9 arE e)),(4,(.row false 9 arE f)),(5,(.row false 142 aaZ g))]
 |_,(_,a,b,c,d,e,f,g)=> [(0,(.box 43 [.val (.string a),.ref 2,.ref 3,.ref 4,.val (.string b),.ref 5])),(1,(.row true 9 arE c)),(2,(.row false 9 arE d)),(3,(.row false 9 arE e)),(4,(.row false 9 arE f)),(5,(.row false 142 aaZ g))]
def Ak:nt→LT nt
 |(a,b,c,d,e,f,g,i)=> .ite (yc a i) (.need [Cq a,yc a i,Cr a i] (.need [Cs f,Ct a f g i] (.ite (Cu a f g i) (.ext 0 [(0,0),(1,1),(2,2),(3,3),(4,4),(5,5)]) (.need [Cv a d i,Cw a d i] (.nrm ((Cx a),b,c,Cy a d i,e,f,g,i) [(0,0),(1,1792),(2,2),(3,3),(4,4),(5,5)]))))) (.ext 1 [(0,0),(1,1),(2,2),(3,3),(4,4),(5,5)])
def Nq(s:St):Option nt:=do
 let some ⟨none,.one ⟨false,[.val (.int .i64 a)]⟩⟩:=s.look 4|none
 let some ⟨none,.one ⟨false,[.ptr 320 0]⟩⟩:=s.look 1|none
 let some ⟨none,.one ⟨false,[.ref 1280]⟩⟩:=s.look 3|none
 let some (.box 43 [.val (.string b),.ref 0,.ref 1,.ref 2,.val (.string c),.ref 3]):=s.ent 320|none
 let some (.row false 9 (.str) e):=s.ent 0|none
 let some (.row false 9 (.str) f):=s.ent 1|none
 let some (.row false 9 (.str) g):=s.ent 2|none
 let some (.row false 142 (.pair .str (.sl 122 (.pair (.int .i64) (.pair .str (.int .i64))))) i):=s.ent 3|none
 let some (.row true 9 (.str) d):=s.ent 1280|none
 some (a,b,c,d,e,f,g,i)
def dK:Lp nt where
 h:=⟨[23,24,25,26,27,30,31,32,33,34,35,5,36,37,38,39,40,41,42,43,44,45,46,47,2,48,49,50,51,3,28,29,4],[0,2,3,4,5],[1],[]⟩
 JL:=af9
 JE:=afZ
 XL:=agu
 XE:=agk
 q:=fun j=>match j with | 0=> .ret | _=> .exit 0
 tags:= [0,1]
 lt:=Ak
 fuel:=fun(a,b,c,d,e,f,g,i)=>a.natAbs + b.size + c.size + d.length + e.length + f.length + g.length + i.length
 fix:=fun(_,b,c,_,e,f,g,i) (a,_,_,d,_,_,_,_)=>(a,b,c,d,e,f,g,i)
 σ:= [(0,320),(2,0),(3,1),(4,2),(5,3),(1,1280)]
 rd:=Nq
theorem adx:LoopOk prog (fun k=>Nat.blt k Tryz.f106.ntmps) dK.F (bB f106 0):=by
 refine Lp.ok (tbl:= (T3z [aV,rB,ov,jS])) (lf:= []) bj dK (by kernel_rfl) (LOk.nil _) (fun _=>rfl) (fun j _=>by unfold dK;match j with | 0=>rfl | _ + 1=>rfl) ?_ ?_ ?_ ?_ (fun _=>rfl) ?_
 ·rintro⟨a,b,c,d,e,f,g,i⟩;kernel_rfl
 ·rintro⟨a,b,c,d,e,f,g,i⟩;kernel_rfl
 ·intro s x h
  have h:Nq s=some x:=h
  unfold Nq at h
  repeat' split at h
  all_goals cases h
  constructor<;>repeat(first|refine ab (by assumption) rfl ?_|refine aa rfl (by assumption) rfl ?_|exact rfl)
 ·rintro⟨a,b,c,d,e,f,g,i⟩;kernel_rfl
 ·rintro⟨a,b,c,d,e,f,g,i⟩ z;exact(And.intro (And.intro trivial rfl) trivial)
abbrev oc:=Int×Int×asv×asv×List asv×List asv×List asv×List (asv×(List (Int×(asv×Int))))
section
variable (a b:Int)(c d:List asv)(e:ag4)
def wh:aow:=(v4 e[j8 b]? (ub aaZ)).2
def wi:Int×asv×Int:=v4 (wh b e)[j8 a]? ((0:Int),ByteArray.empty,(0:Int))
def Im:Bool:=(wi a b e).1==1
def JB:Bool:=leI 0 b
def JC:Bool:=ltI b (↑e.length:Int)
def Dd:Bool:=ltN b.toNat e.length
def tK:Bool:=ltI a (↑(j9 (wh b e)):Int)
def Sv:Bool:=leI 0 a
def JD:Bool:=ltN a.toNat (j9 (wh b e))
def JF:Bool:= !(Im a b e&&true)||CD (((wi a b e).2).1) c d
def JG:Bool:=bif Im a b e then !rt (((wi a b e).2).1) c d else false
def Sw:Int:=v5 .i64 (a + (1:Int))
end
def abE:oc→List (Nat×SV)
 |(a,b,_,_,_,_,_,_)=> [(7,(.one ⟨false,[awF a]⟩)),(1,(.one ⟨false,[.ptr 0 0]⟩)),(6,(.one ⟨false,[awF b]⟩))]
def abz:oc→List (Nat×Entry)
 |(_,_,a,b,c,d,e,f)=> [(0,(.box 43 [.val (.string a),.ref 1,.ref 2,.ref 3,.val (.string b),.ref 4])),(1,(.row false 9 arE c)),(2,(.row false 9 arE d)),(3,(.row false 9 arE e)),(4,(.row false 142 aaZ f))]
def abO:Nat→oc→List (Nat×SV)
 |0,(_,_,_,_,_,_,_,_)=> [(2,(.one ⟨false,[awF 6]⟩))]
 |_,(_,_,_,_,_,_,_,_)=> []
def vL:oc→LT oc
 |(a,b,c,d,e,f,g,i)=> .need [JB b,JC b i,Dd b i] (.ite (tK a b i) (.need [JB b,JC b i,Dd b i,Sv a,tK a b i,JD a b i] (.need [JF a b e f i] (.ite (JG a b e f i) (.ext 0 [(0,0),(1,1),(2,2),(3,3),(4,4)]) (.nrm ((Sw a),b,c,d,e,f,g,i) [(0,0),(1,1),(2,2),(3,3),(4,4)])))) (.ext 1 [(0,0),(1,1),(2,2),(3,3),(4,4)]))
def HM(s:St):Option oc:=do
 let some ⟨none,.one ⟨false,[.val (.int .i64 a)]⟩⟩:=s.look 7|none
 let some ⟨none,.one ⟨false,[.ptr 0 0]⟩⟩:=s.look 1|none
 let some ⟨none,.one ⟨false,[.val (.int .i64 b)]⟩⟩:=s.look 6|none
 let some (.box 43 [.val (.string c),.ref 1,.ref 2,.ref 3,.val (.string d),.ref 4]):=s.ent 0|none
 let some (.row false 9 (.str) e):=s.ent 1|none
 let some (.row false 9 (.str) f):=s.ent 2|none
 let some (.row false 9 (.str) g):=s.ent 3|none
 let some (.row false 142 (.pair .str (.sl 122 (.pair (.int .i64) (.pair .str (.int .i64))))) i):=s.ent 4|none
 some (a,b,c,d,e,f,g,i)
def ec:Lp oc where
 h:=⟨[71,72,73,74,75,76,77,78,79,82,83,84,85,86,87,88,89,90,8,91,92,93,94,95,96,97,98,99,100,2,80,81,7],[0,1,2,3,4],[],[]⟩
 JL:=abE
 JE:=abz
 XL:=abO
 XE:=fun _=>abz
 q:=fun j=>match j with | 0=> .ret | _=> .exit 4
 tags:= [0,1]
 lt:=vL
 fuel:=fun(a,b,c,d,e,f,g,i)=>a.natAbs + b.natAbs + c.size + d.size + e.length + f.length + g.length + i.length
 fix:=fun(_,b,c,d,e,f,g,i) (a,_,_,_,_,_,_,_)=>(a,b,c,d,e,f,g,i)
 σ:= [(0,0),(1,1),(2,2),(3,3),(4,4)]
 rd:=HM
theorem aad:LoopOk prog (memN [64,65,66,67,68,7,71,72,73,74,75,76,77,78,79,82,83,84,85,86,87,88,89,90,8,91,92,93,94,95,96,97,98,99,100,2,80,81,69,70,6]) ec.F (aab (bB f106 1) 0):=by
 refine Lp.ok (tbl:= (T3z [aV,rB,ov,jS])) (lf:= []) bj ec (by kernel_rfl) (LOk.nil _) (fun _=>rfl) (fun j _=>by unfold ec;match j with | 0=>rfl | _ + 1=>rfl) ?_ ?_ ?_ ?_ (fun _=>rfl) ?_
 ·rintro⟨a,b,c,d,e,f,g,i⟩;kernel_rfl
 ·rintro⟨a,b,c,d,e,f,g,i⟩;kernel_rfl
 ·intro s x h
  have h:HM s=some x:=h
  unfold HM at h
  repeat' split at h
  all_goals cases h
  constructor<;>repeat(first|refine ab (by assumption) rfl ?_|refine aa rfl (by assumption) rfl ?_|exact rfl)
 ·rintro⟨a,b,c,d,e,f,g,i⟩;kernel_rfl
 ·rintro⟨a,b,c,d,e,f,g,i⟩ z;exact(And.intro (And.intro trivial rfl) trivial)
abbrev ra:=Int×asv×asv×List asv×List asv×List asv×List (asv×(List (Int×(asv×Int))))
section
variable (a:Int)(b c:asv)(d e f:List asv)(g:ag4)
def Ny:Int×Int×asv×asv×List asv×List asv×List asv×ajC:=((0:Int),a,b,c,d,e,f,g)
def Pt:Bool:=ltI a (↑g.length:Int)
def XK:Bool:=Lp.fin ec (Ny a b c d e f g)
def Pu:Bool:=Nat.beq ((Lp.res ec (Ny a b c d e f g)).1) 0
def XM:Int:=v5 .i64 (a + (1:Int))
end
def aga:ra→List (Nat×SV)
 |(a,_,_,_,_,_,_)=> [(6,(.one ⟨false,[awF a]⟩)),(1,(.one ⟨false,[.ptr 0 0]⟩))]
def af0:ra→List (Nat×Entry)
 |(_,a,b,c,d,e,f)=> [(0,(.box 43 [.val (.string a),.ref 1,.ref 2,.ref 3,.val (.string b),.ref 4])),(1,(.row false 9 arE c)),(2,(.row false 9 arE d)),(3,(.row false 9 arE e)),(4,(.row false 142 aaZ f))]
def agv:Nat→ra→List (Nat×SV)
 |0,(_,_,_,_,_,_,_)=> [(2,(.one ⟨false,[awF 6]⟩))]
 |_,(_,_,_,_,_,_,_)=> []
def Al:ra→LT ra
 |(a,b,c,d,e,f,g)=> .ite (Pt a g) (.need [XK a b c d e f g] (.ite (Pu a b c d e f g) (.ext 0 [(0,0),(1,1),(2,2),(3,3),(4,4)]) (.nrm ((XM a),b,c,d,e,f,g) [(0,0),(1,1),(2,2),(3,3),(4,4)]))) (.ext 1 [(0,0),(1,1),(2,2),(3,3),(4,4)])
def Nr(s:St):Option ra:=do
 let some ⟨none,.one ⟨false,[.val (.int .i64 a)]⟩⟩:=s.look 6|none
 let some ⟨none,.one ⟨false,[.ptr 320 0]⟩⟩:=s.look 1|none
 let some (.box 43 [.val (.string b),.ref 0,.ref 1,.ref 2,.val (.string c),.ref 3]):=s.ent 320|none
 let some (.row false 9 (.str) d):=s.ent 0|none
 let some (.row false 9 (.str) e):=s.ent 1|none
 let some (.row false 9 (.str) f):=s.ent 2|none
 let some (.row false 142 (.pair .str (.sl 122 (.pair (.int .i64) (.pair .str (.int .i64))))) g):=s.ent 3|none
 some (a,b,c,d,e,f,g)
def eA:Lp ra where
 h:=⟨[64,65,66,67,68,7,71,72,73,74,75,76,77,78,79,82,83,84,85,86,87,88,89,90,8,91,92,93,94,95,96,97,98,99,100,2,80,81,69,70,6],[0,1,2,3,4],[],[]⟩
 JL:=aga
 JE:=af0
 XL:=agv
 XE:=fun _=>af0
 q:=fun j=>match j with | 0=> .ret | _=> .exit 2
 tags:= [0,1]
 lt:=Al
 fuel:=fun(a,b,c,d,e,f,g)=>a.natAbs + b.size + c.size + d.length + e.length + f.length + g.length
 fix:=fun(_,b,c,d,e,f,g) (a,_,_,_,_,_,_)=>(a,b,c,d,e,f,g)
 σ:= [(0,320),(1,0),(2,1),(3,2),(4,3)]
 rd:=Nr
theorem ady:LoopOk prog (fun k=>Nat.blt k Tryz.f106.ntmps) eA.F (bB f106 1):=by
 refine Lp.ok (tbl:= (T3z [aV,rB,ov,jS])) (lf:= [ec.F]) bj eA (by kernel_rfl) (LOk.allT (l:= [aab (bB f106 1) 0]) (by kernel_rfl) (.cons aad (.nil _))) (fun _=>rfl) (fun j _=>by unfold eA;match j with | 0=>rfl | _ + 1=>rfl) ?_ ?_ ?_ ?_ (fun _=>rfl) ?_
 ·rintro⟨a,b,c,d,e,f,g⟩;kernel_rfl
 ·rintro⟨a,b,c,d,e,f,g⟩;kernel_rfl
 ·intro s x h
  have h:Nr s=some x:=h
  unfold Nr at h
  repeat' split at h
  all_goals cases h
  constructor<;>repeat(first|refine ab (by assumption) rfl ?_|refine aa rfl (by assumption) rfl ?_|exact rfl)
 ·rintro⟨a,b,c,d,e,f,g⟩;kernel_rfl
 ·rintro⟨a,b,c,d,e,f,g⟩ z;exact(And.intro (And.intro trivial rfl) trivial)
def vc(a b c:List asv):List asv:=a++b++c
def ya(a:asv):Bool:=
 !ByteArray.toList a==ByteArray.toList { data:= #[] }
section
variable (a b:asv)(c d e:List asv)(f:ajC)
def Mf:List asv×List asv×List asv×ajC:=(c,d,e,f)
def Bx:Int×asv×asv×List asv×List asv×List asv×List asv×ajC:=((0:Int),a,b,[],Mf c d e f)
def Gl:Bool:=Nat.beq ((Lp.res dK (Bx a b c d e f)).1) 0
def Bz:List asv:=((Lp.res dK (Bx a b c d e f)).2.2.2.2).1
def Mg:Bool:=ltI (↑(j9 (Bz a b c d e f)):Int) (v5 .i64 ((↑d.length:Int) + (↑e.length:Int)))
def Mh:Int×asv×asv×List asv×List asv×List asv×ajC:=((0:Int),a,b,Mf c d e f)
def Oj:Int:=bif ND (vc c d e)then(1:Int)else bif bif ya b then !rt b c d else false then(2:Int)else bif Gl a b c d e f then(3:Int)else bif ND (Bz a b c d e f)then(4:Int)else bif Mg a b c d e f then(5:Int)else bif Nat.beq ((Lp.res eA (Mh a b c d e f)).1) 0 then(6:Int)else(0:Int)
def Ok:Bool:=allT [leN (j9 c + j9 d + j9 e) 2000000,leN (j9 (vc c d e)) 9223372036854775807,ND (vc c d e)||(!(ya b&&true)||CD b c d),ND (vc c d e)||((bif ya b then !rt b c d else false)||Lp.fin dK (Bx a b c d e f)),ND (vc c d e)||((bif ya b then !rt b c d else false)||(Gl a b c d e f||leN (j9 (Bz a b c d e f)) 9223372036854775807)),ND (vc c d e)||((bif ya b then !rt b c d else false)||(Gl a b c d e f||(ND (Bz a b c d e f)||(Mg a b c d e f||Lp.fin eA (Mh a b c d e f)))))]
end
def acz:awE
 | [.one ⟨true,[.val (.string a),.ref 0,.ref 1,.ref 2,.val (.string b),.ref 3]⟩],[.row false 9 (.str) c,.row false 9 (.str) d,.row false 9 (.str) e,.row false 142 (.pair (.str) (.sl 122 (.pair (.int .i64) (.pair (.str) (.int .i64))))) f]=>some ⟨.one ⟨false,[awF (Oj a b c d e f)]⟩,[.row false 9 arE c,.row false 9 arE d,.row false 9 arE e,.row false 142 (CTy.pair CTy.str (CTy.sl (122:TypeId) ab5)) f],[],[Ok a b c d e f]⟩
 |_,_=>none
def Ve:PF prog:=PF.ofG prog (T3z [aV,rB,ov,jS]) [dK.F,eA.F] bj 106 f106 func106 (LOk.fnT (l:= [bB f106 0,bB f106 1]) (by kernel_rfl) (.cons adx (.cons ady (.nil _)))) acz (by
 intro _ _ _ h;unfold acz at h;split at h<;>cases h;kernel_rfl)
def Xl(a b:asv)(c d e:List asv)(f:ajC):Bool:=bif Gf a b c d e f then Oj a b c d e f==0 else false
def Xm(a b:asv)(c d e:List asv)(f:ajC):Bool:=allT [Md a b c d e f,!(Gf a b c d e f&&true)||Ok a b c d e f]
def adJ:awE
 | [.one ⟨true,[.val (.string a),.ref 0,.ref 1,.ref 2,.val (.string b),.ref 3]⟩],[.row false 9 (.str) c,.row false 9 (.str) d,.row false 9 (.str) e,.row false 142 (.pair (.str) (.sl 122 (.pair (.int .i64) (.pair (.str) (.int .i64))))) f]=>some ⟨.one ⟨false,[.val (.bool (Xl a b c d e f))]⟩,[.row false 9 arE c,.row false 9 arE d,.row false 9 arE e,.row false 142 (CTy.pair CTy.str (CTy.sl (122:TypeId) ab5)) f],[],[Xm a b c d e f]⟩
 |_,_=>none
def ane:PF prog:=PF.ofG prog (T3z [Tf,Ve]) [] bj 60 f60 func60 (fun c _=>LOk.nil c) adJ (by
 intro _ _ _ h;unfold adJ at h;split at h<;>cases h;kernel_rfl)
theorem atW{ins vs os:List asv}(h1:SR ins=true)(h2:SR vs=true)(h3:SR os=true):
  leN ins.length 9223372036854775807=true∧leN vs.length 9223372036854775807=true∧leN os.length 9223372036854775807=true:=by
 simp only [SR,q9]at h1 h2 h3
 exact⟨h1.1,h2.1,h3.1⟩
def apx(nm:asv)(ins vs os:List asv)(g:asv)(ls:List LN):Bool:=leN nm.size 9223372036854775807&&(SR ins&&(SR vs&&(SR os&&(leN g.size 9223372036854775807&&(leN (ins.length + vs.length + os.length) 2000000&&ajI ls)))))
theorem afk{nm:asv}{ins vs os:List asv}{g:asv}{ls:List LN}:apx nm ins vs os g ls=true↔
  nm.size≤9223372036854775807∧SR ins=true∧SR vs=true∧SR os=true∧g.size≤9223372036854775807∧ins.length + vs.length + os.length≤2000000∧ajI ls=true:=by
 simp only [apx,q9,fc]
def sI(b:asv×(aov)):(Unit)→Nat ⊕ (Unit)
 |_=>(bif(bif(!nb b.1)then true else !amD (bif !(!nb b.1)&&true then b.2else []))then(.inl 0)else(.inr ()))
def rA(a b:asv)(c d e:List asv)(f:ag4)(i:Nat):(Unit)→mc
 |_=>((i:Int),a,b,c,d,e,f)
def LA:mc→Unit
 |(_,_,_,_,_,_,_)=>()
theorem agI(c e:asv)(f g j:List asv)(k:ag4) (hn:k.length≤9223372036854775807) (hA: ∀ l∈k,l.1.size≤9223372036854775807∧ahi l.2=true):
  eD.fin ((0:Int),c,e,f,g,j,k)=true∧eD.res ((0:Int),c,e,f,g,j,k)=((ci (sI) 1 k 0 ()).1,(rA c e f g j k) (ci (sI) 1 k 0 ()).2.1 (ci (sI) 1 k 0 ()).2.2):=by
 have mO:=eD.along (rA c e f g j k) LA (sI) 1 (fun _ _=>True) k () (by trivial) (by simp only [eD,rA];omega) (fun i b a hb hI=> ?_) (fun a hI=> ?_)
 ·exact mO
 ·obtain⟨⟩:=a
  have eG:=(j7.1 hb).1
  have px: ∀ d,v4 k[i]? d=b:=fun d=>by rw [hb];rfl
  have hw:=Fc eG hn
  have jY:ltI (i:Int) (k.length:Int)=true:=cI (by omega)
  have PX:leI (0:Int) (i:Int)=true:=aS (by omega)
  have wR:ltN i k.length=true:=dE eG
  refine⟨?_,?_,?_,?_⟩
  ·have hg2:mX (i:Int) k=b:=by simp only [mX,w5];exact px _
   have hm:=hA b (List.mem_of_getElem? hb)
   obtain⟨q1,q2⟩:=Qb b.1 hm.1
   have e0:uO (i:Int) k=true:=jY
   have e1:uP (i:Int) k=true:=by simp only [uP,w5];exact wR
   have e3:je (i:Int) k= !wJ b.1:=by simp only [je,hg2,q1]
   have e4:rh (i:Int) k=bif wJ b.1 then b.2 else []:=by simp only [rh,e3,hg2];cases wJ b.1 <;> rfl
   have h7:ahi b.2=true:=hm.2
   have h8:ahi []=true:=rfl
   simp only [ww,Fp,Fq,Fr,Fs,Ft,Fu,Fv,Az,Fw,yW,eD,LT.nds,allT,rA,e0,e1,e3,e4,hg2,q2,PX,cond_true,w8]
   cases wJ b.1 <;> simp [LT.nds,h7,h8]
  ·simp [uO,uP,mX,je,rh,ww,Fp,Fq,Fr,Fs,Ft,Fu,Fv,Az,Fw,yW,eD,LT.each,rA,LA,hw]
  ·have hg2:mX (i:Int) k=b:=by simp only [mX,w5];exact px _
   have e0:uO (i:Int) k=true:=jY
   simp only [eD,yW,ww,Az,je,rh,LT.fn,rA,LA,sI,e0,hg2,cond_true]
  ·exact fun _ _=>trivial
 ·obtain⟨⟩:=a
  simp [uO,uP,mX,je,rh,ww,Fp,Fq,Fr,Fs,Ft,Fu,Fv,Az,Fw,yW,eD,LT.out,rA]
theorem anz(nm:asv)(ins vs os:List asv)(g:asv)(ls:List LN)(h:apx nm ins vs os g ls=true):
  Gf nm g ins vs os ls=aq2 nm ins vs os g ls∧Md nm g ins vs os ls=true:=by
 obtain⟨h1,h2,h3,h4,h5,h6,h7⟩:=afk.1 h
 obtain⟨hn,hA⟩:=afG.1 h7
 obtain⟨w1,w2⟩:=agI nm g ins vs os ls (by omega) hA
 have e0:(ci sI 1 ls 0 ())=(ci (fun(k:LN) (_:Unit)=>bif !lineB k then(.inl 0:Nat ⊕ Unit)else .inr ()) 1 ls 0 ()):=by
  refine afz fun b hb a=> ?_
  simp only [sI,(Qb b.1 (hA b hb).1).1,lineB]
  cases wJ b.1 <;> simp
 rw [e0,oE (P:=fun k=> !lineB k) (j:=0) (fun k=>rfl)]at w2
 have e5:(ls.any fun k=> !lineB k)= !ls.all lineB:=by simp [List.all_eq_not_any_not]
 rw [e5]at w2
 obtain⟨q1,q2⟩:=Qb nm h1
 obtain⟨q3,q4⟩:=Qb g h5
 have c1:inR (ins.length:Int) 1 20=inR (ins.length:Int) ((1:Nat):Int) 20:=rfl
 have c0:inR (vs.length:Int) 0 20=inR (vs.length:Int) ((0:Nat):Int) 20:=rfl
 have c2:inR (os.length:Int) 1 20=inR (os.length:Int) ((1:Nat):Int) 20:=rfl
 refine⟨?_,?_⟩
 ·simp only [Gf,QX,QY,QZ,Ra,Rb,Kj,w2,q1,q3,aZ,Tb,abd,aq2,am3,c0,c1,c2]
  generalize wJ nm=p1
  generalize ins.all wJ=p2
  generalize inR (ins.length:Int) ((1:Nat):Int) 20=p3
  generalize vs.all wJ=p4
  generalize inR (vs.length:Int) ((0:Nat):Int) 20=p5
  generalize os.all wJ=p6
  generalize inR (os.length:Int) ((1:Nat):Int) 20=p7
  generalize (g.toList== [])=p8
  generalize wJ g=p9
  generalize ls.all lineB=p10
  generalize inR (ls.length:Int) 1 40=p11
  cases p1 <;> cases p2 <;> cases p3 <;> simp <;> cases p4 <;> cases p5 <;> simp <;> cases p6 <;> cases p7 <;> simp <;> cases p8 <;> cases p9 <;> simp <;> cases p10 <;> simp [Nat.beq]
 ·simp only [Md,Kj,w1,q2,q4,h2,h3,h4,allT,w8,cond_true]
theorem au6:(∀ m:Nat,leI 0 (m:Int)=true)∧leI 0 (-1)=false:=⟨fun m=>aS (by omega),rfl⟩
theorem asf{α:Type}(l:List α)(p:α→Bool):(l.any fun k=> !p k)= !l.all p:=by simp [List.all_eq_not_any_not]
theorem avs(l:List asv)(s:asv):ltI (wS l s) 0= !Hn l s:=by rw [alv,ah6]
theorem alF(s:asv)(ins vs:List asv)(h1:leN ins.length 9223372036854775807=true)(h2:leN vs.length 9223372036854775807=true):
  rt s ins vs=ahe ins vs s∧CD s ins vs=true:=by
 simp only [rt,CD,ah6,h1,h2,ahe,allT,w8,cond_true,and_true]
 cases Hn ins s <;> rfl
def madeB(vs os:List asv)(l:LN):Bool:=Hn vs l.1||Hn os l.1
def nz(c d:List asv)(b:asv×(aov)):(List asv)→Nat ⊕ (List asv)
 |a=>(bif(bif ltI (wS c b.1) 0 then ltI (wS d b.1) 0 else false)then(.inl 0)else(.inr (a++ [b.1])))
def qa(a b:asv)(d e f:List asv)(g:ag4)(i:Nat):(List asv)→nt
 |c=>((i:Int),a,b,c,d,e,f,g)
def Nf:nt→List asv
 |(_,_,_,a,_,_,_,_)=>a
theorem ai3(c e:asv)(g j k:List asv)(l:ag4)(f:List asv)(hn:l.length≤9223372036854775807)(hv:leN j.length 9223372036854775807=true)(ho:leN k.length 9223372036854775807=true)(hN:l.length≤1048576)(h3:f.length=0):
  dK.fin ((0:Int),c,e,f,g,j,k,l)=true∧dK.res ((0:Int),c,e,f,g,j,k,l)=((ci (nz j k) 1 l 0 f).1,(qa c e g j k l) (ci (nz j k) 1 l 0 f).2.1 (ci (nz j k) 1 l 0 f).2.2):=by
 have mO:=dK.along (qa c e g j k l) Nf (nz j k) 1 (fun i a=>a.length=i) l f h3 (by simp only [dK,qa];omega) (fun i b a hb hI=> ?_) (fun a hI=> ?_)
 ·exact mO
 ·obtain f:=a
  have eG:=(j7.1 hb).1
  have px: ∀ d,v4 l[i]? d=b:=fun d=>by rw [hb];rfl
  have hw:=Fc eG hn
  have jY:ltI (i:Int) (l.length:Int)=true:=cI (by omega)
  have PX:leI (0:Int) (i:Int)=true:=aS (by omega)
  have wR:ltN i l.length=true:=dE eG
  refine⟨?_,?_,?_,?_⟩
  ·have hg2:iE (i:Int) l=b.1:=by simp only [iE,w5];exact congrArg Prod.fst (px _)
   have l1: ∀ s:asv,leN (a.length + j9 [s]) 9223372036854775807=true:=fun s=>aG (by rw [w7];omega)
   have l2: ∀ s:asv,leN ((a.length + j9 [s]) * 16) 140737488355328=true:=fun s=>aG (by rw [w7];omega)
   simp only [yc,Cq,Cr,Cs,Ct,Cu,Cv,Cw,Cx,Cy,Ak,dK,LT.nds,allT,qa,jY,PX,wR,hg2,hv,ho,l1,l2,w5,cond_true,w8,Bool.and_self]
   generalize (bif ltI (wS j b.1) 0 then ltI (wS k b.1) 0 else false)=q
   cases q <;> simp [LT.nds]
  ·simp [iE,yc,Cq,Cr,Cs,Ct,Cu,Cv,Cw,Cx,Cy,Ak,dK,LT.each,qa,Nf,hw]
  ·have hg2:iE (i:Int) l=b.1:=by simp only [iE,w5];exact congrArg Prod.fst (px _)
   simp only [yc,Cq,Cr,Cs,Ct,Cu,Cv,Cw,Cx,Cy,Ak,dK,LT.fn,qa,Nf,nz,jY,hg2,cond_true]
  ·intro a' hf
   simp only [nz]at hf
   revert hf
   generalize (bif ltI (wS j b.1) 0 then ltI (wS k b.1) 0 else false)=q
   cases q with
   |true=>intro hf;cases hf
   |false=>intro hf;simp only [cond_false,Sum.inr.injEq]at hf;subst hf;simp [hI]
 ·obtain f:=a
  simp [iE,yc,Cq,Cr,Cs,Ct,Cu,Cv,Cw,Cx,Cy,Ak,dK,LT.out,qa]
theorem akg(vs os:List asv): ∀ (ls:List LN) (i:Nat) (acc:List asv),(ci (nz vs os) 1 ls i acc).1=(bif !ls.all (madeB vs os)then 0 else 1)∧
  (ls.all (madeB vs os)=true→(ci (nz vs os) 1 ls i acc).2.2=acc++ls.map Prod.fst)
 | [],i,acc=>by simp [ci]
 |l::r,i,acc=>by
  have hf:nz vs os l acc=bif madeB vs os l then .inr (acc++ [l.1])else .inl 0:=by
   simp only [nz,avs,madeB]
   cases Hn vs l.1 <;> cases Hn os l.1 <;> rfl
  obtain⟨h1,h2⟩:=akg vs os r (i + 1) (acc++ [l.1])
  simp only [ci,hf,List.all_cons]
  cases hm:madeB vs os l with
  |false=>simp
  |true=>
   simp only [cond_true,Bool.true_and]
   refine⟨h1,fun h=> ?_⟩
   rw [h2 h];simp
theorem ar9(k:Nat)(u v:asv)(ins vs os:List asv)(ls:List LN)(l:LN)(hl:ls[k]? =some l)(hn:l.2.length≤1048576)(h1:leN ins.length 9223372036854775807=true)(h2:leN vs.length 9223372036854775807=true):
  ec.fin ((0:Int),(k:Int),u,v,ins,vs,os,ls)=true∧(ec.res ((0:Int),(k:Int),u,v,ins,vs,os,ls)).1=bif !l.2.all (usedB ins vs)then 0 else 1:=by
 have hkl:=(j7.1 hl).1
 have hgl: ∀ d,v4 ls[k]? d=l:=fun d=>by rw [hl];rfl
 have ha2:wh (k:Int) ls=l.2:=by simp only [wh,w5];exact congrArg Prod.snd (hgl _)
 have c0:JB (k:Int)=true:=aS (by omega)
 have c1:JC (k:Int) ls=true:=cI (by omega)
 have c2:Dd (k:Int) ls=true:=by simp only [Dd,w5];exact dE hkl
 have mO:=ec.along2 (fun i (_:Unit)=>((i:Int),(k:Int),u,v,ins,vs,os,ls)) (fun _=>()) (fun(b:TM) (_:Unit)=>bif !usedB ins vs b then .inl 0 else .inr ()) 1 (fun _ _=>True) l.2 () trivial (by omega)
  (fun i b a hb hI=> ?_) (fun a hI=> ?_)
 ·rw [oE (P:=fun b=> !usedB ins vs b) (j:=0) (fun b=>rfl),asf]at mO
  exact⟨mO.1,by rw [show ((0:Int),(k:Int),u,v,ins,vs,os,ls)=(((0:Nat):Int),(k:Int),u,v,ins,vs,os,ls) from rfl,mO.2]⟩
 ·have eG:=(j7.1 hb).1
  have hw:IntKind.i64.wrap ((i:Int) + 1)=((i + 1:Nat):Int):=by rw [aR (by omega) (by omega)];omega
  have PX:leI (0:Int) (i:Int)=true:=aS (by omega)
  have hg2:wi (i:Int) (k:Int) ls=b:=by simp only [wi,ha2,w5,hb,Option.getD_some]
  have hg3:tK (i:Int) (k:Int) ls=true:=by simp only [tK,ha2];exact cI (by omega)
  have c4:Sv (i:Int)=true:=PX
  have c5:JD (i:Int) (k:Int) ls=true:=by simp only [JD,ha2,w5];exact dE eG
  obtain⟨r1,r2⟩:=alF b.2.1 ins vs h1 h2
  have c6:JF (i:Int) (k:Int) ins vs ls=true:=by simp only [JF,hg2,r2,w8]
  have c7:JG (i:Int) (k:Int) ins vs ls= !usedB ins vs b:=by
   simp only [JG,Im,hg2,r1,usedB]
   cases b.1==1 <;> simp
  have c8:Sw (i:Int)=((i + 1:Nat):Int):=hw
  refine⟨?_,?_,?_,fun _ _=>trivial⟩
  ·simp only [ec,vL,LT.nds,allT,c0,c1,c2,c4,c5,c6,c7,hg3,cond_true,Bool.and_self]
   cases usedB ins vs b <;> simp [LT.nds]
  ·simp only [ec,vL,LT.each,c7,c8,hg3]
   cases usedB ins vs b <;> simp [LT.each]
  ·simp only [ec,vL,LT.fn,c7,hg3,cond_true]
 ·have jY:tK (l.2.length:Int) (k:Int) ls=false:=by simp only [tK,ha2];exact yV (by omega)
  simp [ec,vL,LT.out,allT,c0,c1,c2,jY]
theorem aum(u v:asv)(ins vs os:List asv)(ls:List LN)(hN:ls.length≤1048576)(hL: ∀ l∈ls,l.2.length≤1048576)(h1:leN ins.length 9223372036854775807=true)(h2:leN vs.length 9223372036854775807=true):
  eA.fin ((0:Int),u,v,ins,vs,os,ls)=true∧(eA.res ((0:Int),u,v,ins,vs,os,ls)).1=bif !ls.all (fun l=>l.2.all (usedB ins vs))then 0 else 1:=by
 have mO:=eA.along2 (fun i (_:Unit)=>((i:Int),u,v,ins,vs,os,ls)) (fun _=>()) (fun(b:LN) (_:Unit)=>bif !b.2.all (usedB ins vs)then .inl 0 else .inr ()) 1 (fun _ _=>True) ls () trivial (by omega)
  (fun i b a hb hI=> ?_) (fun a hI=> ?_)
 ·rw [oE (P:=fun b:LN=> !b.2.all (usedB ins vs)) (j:=0) (fun b=>rfl),asf]at mO
  exact⟨mO.1,by rw [show ((0:Int),u,v,ins,vs,os,ls)=(((0:Nat):Int),u,v,ins,vs,os,ls) from rfl,mO.2]⟩
 ·have eG:=(j7.1 hb).1
  have hw:IntKind.i64.wrap ((i:Int) + 1)=((i + 1:Nat):Int):=by rw [aR (by omega) (by omega)];omega
  obtain⟨k1,k2⟩:=ar9 i u v ins vs os ls b hb (hL b (List.mem_of_getElem? hb)) h1 h2
  have c0:Pt (i:Int) ls=true:=cI (by omega)
  have c1:XK (i:Int) u v ins vs os ls=true:=k1
  have c2:Pu (i:Int) u v ins vs os ls= !b.2.all (usedB ins vs):=by
   simp only [Pu,Ny,k2]
   cases b.2.all (usedB ins vs) <;> rfl
  have c3:XM (i:Int)=((i + 1:Nat):Int):=hw
  refine⟨?_,?_,?_,fun _ _=>trivial⟩
  ·simp only [eA,Al,LT.nds,allT,c0,c1,c2,cond_true]
   cases b.2.all (usedB ins vs) <;> simp [LT.nds]
  ·simp only [eA,Al,LT.each,c0,c2,c3]
   cases b.2.all (usedB ins vs) <;> simp [LT.each]
  ·simp only [eA,Al,LT.fn,c0,c2,cond_true]
 ·have jY:Pt (ls.length:Int) ls=false:=yV (by omega)
  simp [eA,Al,LT.out,jY]
theorem apC(nm:asv)(ins vs os:List asv)(g:asv)(ls:List LN)(h:apx nm ins vs os g ls=true):
  (Oj nm g ins vs os ls==0)=auY ins vs os g ls∧Ok nm g ins vs os ls=true:=by
 obtain⟨h1,h2,h3,h4,h5,h6,h7⟩:=afk.1 h
 obtain⟨hn,hA⟩:=afG.1 h7
 have hL: ∀ l∈ls,l.2.length≤1048576:=fun l hl=>(afT.1 (hA l hl).2).1
 obtain⟨l1,l2,l3⟩:=atW h2 h3 h4
 obtain⟨w1,w2⟩:=ai3 nm g ins vs os ls [] (by omega) l2 l3 hn rfl
 obtain⟨t1,t2⟩:=akg vs os ls 0 []
 obtain⟨u1,u2⟩:=aum nm g ins vs os ls hn hL l1 l2
 obtain⟨r1,r2⟩:=alF g ins vs l1 l2
 have a4:Gl nm g ins vs os ls= !ls.all (madeB vs os):=by
  simp only [Gl,Bx,Mf,w2,t1]
  cases ls.all (madeB vs os) <;> rfl
 have a5:ls.all (madeB vs os)=true→Bz nm g ins vs os ls=ls.map Prod.fst:=fun hm=>by
  simp only [Bz,Bx,Mf,w2,qa]
  rw [t2 hm];rfl
 have a6:ls.all (madeB vs os)=true→Mg nm g ins vs os ls= !leN (vs.length + os.length) ls.length:=fun hm=>by
  simp only [Mg,a5 hm,List.length_map]
  rw [aR (by omega) (by omega),Bool.eq_iff_iff,Kf,Bool.not_eq_true',← Bool.not_eq_true,fc]
  omega
 have e7:(Lp.res eA (Mh nm g ins vs os ls)).1=bif !ls.all (fun l=>l.2.all (usedB ins vs))then 0 else 1:=u2
 have e8:Lp.fin eA (Mh nm g ins vs os ls)=true:=u1
 have hnil:(g.toList==ByteArray.toList { data:= #[] })=(g.toList== []):=by rw [abd]
 refine⟨?_,?_⟩
 ·simp only [Oj,vc,ya,hnil,r1,a4,e7,auY]
  cases hm:ls.all (madeB vs os)with
  |false=>
   have hm2:(ls.all fun l=>Hn vs l.1||Hn os l.1)=false:=hm
   rw [hm2]
   generalize ND (ins++vs++os)=p1
   generalize (g.toList== [])=p2
   generalize ahe ins vs g=p3
   cases p1 <;> cases p2 <;> cases p3 <;> rfl
  |true=>
   have hm2:(ls.all fun l=>Hn vs l.1||Hn os l.1)=true:=hm
   rw [hm2,a5 hm,a6 hm]
   generalize ND (ins++vs++os)=p1
   generalize (g.toList== [])=p2
   generalize ahe ins vs g=p3
   generalize ND (ls.map Prod.fst)=p4
   generalize leN (vs.length + os.length) ls.length=p5
   generalize (ls.all fun l=>l.2.all (usedB ins vs))=p6
   cases p1 <;> cases p2 <;> cases p3 <;> cases p4 <;> cases p5 <;> cases p6 <;> rfl
 ·have f1:leN (ins.length + vs.length + os.length) 2000000=true:=aG h6
  have f2:leN (ins++vs++os).length 9223372036854775807=true:=aG (by simp;omega)
  have f3:Lp.fin dK (Bx nm g ins vs os ls)=true:=w1
  simp only [Ok,vc,ya,f1,f2,f3,r2,a4,e8,allT,w8,cond_true]
  cases hm:ls.all (madeB vs os)with
  |false=>simp
  |true=>
   have f4:leN (ls.map Prod.fst).length 9223372036854775807=true:=aG (by rw [List.length_map];omega)
   rw [a5 hm,f4]
   simp
def Ba(nm:asv)(ins vs os:List asv)(g:asv)(ls:List LN):Bool:=aq2 nm ins vs os g ls&&auY ins vs os g ls
theorem apE(nm:asv)(ins vs os:List asv)(g:asv)(ls:List LN)(h:apx nm ins vs os g ls=true):
  Xl nm g ins vs os ls=Ba nm ins vs os g ls∧Xm nm g ins vs os ls=true:=by
 obtain⟨a1,a2⟩:=anz nm ins vs os g ls h
 obtain⟨b1,b2⟩:=apC nm ins vs os g ls h
 simp only [Xl,Xm,a1,a2,b1,b2,Ba,allT,w8,cond_true,and_true]
 cases aq2 nm ins vs os g ls <;> rfl
def aef:awE
 | [.one ⟨true,[.val (.string a),.ref 0,.ref 1,.ref 2,.val (.string b),.ref 3]⟩],[.row false 9 (.str) c,.row false 9 (.str) d,.row false 9 (.str) e,.row false 142 (.pair (.str) (.sl 122 (.pair (.int .i64) (.pair (.str) (.int .i64))))) f]=>some ⟨.one ⟨false,[.val (.bool (Ba a c d e b f))]⟩,[.row false 9 arE c,.row false 9 arE d,.row false 9 arE e,.row false 142 (CTy.pair CTy.str (CTy.sl (122:TypeId) ab5)) f],[],[apx a c d e b f]⟩
 |_,_=>none
def vN:PF prog:=PF.alt ane aef (by
 intro args es o h bA;unfold aef at h;split at h
 ·rename_i a b c d e f
  cases h
  have bA:=fv bA
  have hh:=apE a c d e b f bA
  obtain⟨e0,en⟩:=hh
  exact kj rfl (eT en) (by simp only [e0] <;> rfl) rfl rfl
 ·cases h)
section
variable (a b c:Int)(d:aow)(e f g i j:arG)(k:aq5)
def ju:Int:=v4 e[j8 0]? 0
def cg:Int×asv×Int:=v4 d[j8 b]? ((0:Int),ByteArray.empty,(0:Int))
def aQ:Int×Int×Int:=v4 k[j8 b]? ((0:Int),(0:Int),(0:Int))
def bm:Bool:=a==1||(a==2||(a==3||(a==4||(a==5||(a==6||leI 0 b)))))
def bD:Bool:=a==1||(a==2||(a==3||(a==4||(a==5||(a==6||ltI b (↑k.length:Int))))))
def bE:Bool:=a==1||(a==2||(a==3||(a==4||(a==5||(a==6||ltN b.toNat k.length)))))
def br:Int:=bif a==1 then b else bif a==2 then v4 f[j8 b]? 0 else bif a==3 then v4 i[j8 b]? 0 else bif a==4 then v5 .i64 ((1:Int) - ju e)else bif a==5 then v5 .i64 (↑(BitVec.toNat (BitVec.ofInt (IntKind.bits IntKind.i64) (ju e)&&& BitVec.ofInt (IntKind.bits IntKind.i64) (v4 e[j8 1]? 0))):Int)else bif a==6 then v5 .i64 (↑(BitVec.toNat (BitVec.ofInt (IntKind.bits IntKind.i64) (ju e)||| BitVec.ofInt (IntKind.bits IntKind.i64) (v4 e[j8 1]? 0))):Int)else DO ((cg b d).1) ((cg b d).2.2) ((aQ b k).1) (((aQ b k).2).1) ((aQ b k).2.2) e
def oK:Int:=bif a==1 then c else bif a==2 then c else bif a==3 then c else bif a==4 then c else bif a==5 then c else bif a==6 then c else c
def oL:arG:=bif a==1 then e else bif a==2 then e else bif a==3 then e else bif a==4 then e else bif a==5 then e else bif a==6 then e else e
def oM:arG:=bif a==1 then g else bif a==2 then g else bif a==3 then g else bif a==4 then g else bif a==5 then g else bif a==6 then g else g
def oN:arG:=bif a==1 then i else bif a==2 then i else bif a==3 then i else bif a==4 then i else bif a==5 then i else bif a==6 then i else i
def oO:arG:=bif a==1 then j else bif a==2 then j else bif a==3 then j else bif a==4 then j else bif a==5 then j else bif a==6 then j else j
def fF:aqe:=bif a==1 then k else bif a==2 then k else bif a==3 then k else bif a==4 then k else bif a==5 then k else bif a==6 then k else List.set k b.toNat (Bn ((cg b d).1) ((cg b d).2.2) ((aQ b k).1) (((aQ b k).2).1) ((aQ b k).2.2) e,Bo ((cg b d).1) (((aQ b k).2).1) ((aQ b k).2.2) e,Bp ((cg b d).1) ((cg b d).2.2) ((aQ b k).1) (((aQ b k).2).1) ((aQ b k).2.2) e)
def ak:Bool:=allT [a==1||(!a==2||leI 0 b),a==1||(!a==2||ltI b (↑f.length:Int)),a==1||(!a==2||ltN b.toNat f.length),a==1||(a==2||(!a==3||leI 0 b)),a==1||(a==2||(!a==3||ltI b (↑i.length:Int))),a==1||(a==2||(!a==3||ltN b.toNat i.length)),a==1||(a==2||(a==3||(!a==4||leI 0 0))),a==1||(a==2||(a==3||(!a==4||ltI 0 (↑e.length:Int)))),a==1||(a==2||(a==3||(!a==4||ltN (j8 0) e.length))),a==1||(a==2||(a==3||(a==4||(!a==5||leI 0 0)))),a==1||(a==2||(a==3||(a==4||(!a==5||ltI 0 (↑e.length:Int))))),a==1||(a==2||(a==3||(a==4||(!a==5||ltN (j8 0) e.length)))),a==1||(a==2||(a==3||(a==4||(!a==5||leI 0 1)))),a==1||(a==2||(a==3||(a==4||(!a==5||ltI 1 (↑e.length:Int))))),a==1||(a==2||(a==3||(a==4||(!a==5||ltN (j8 1) e.length)))),a==1||(a==2||(a==3||(a==4||(a==5||(!a==6||leI 0 0))))),a==1||(a==2||(a==3||(a==4||(a==5||(!a==6||ltI 0 (↑e.length:Int)))))),a==1||(a==2||(a==3||(a==4||(a==5||(!a==6||ltN (j8 0) e.length))))),a==1||(a==2||(a==3||(a==4||(a==5||(!a==6||leI 0 1))))),a==1||(a==2||(a==3||(a==4||(a==5||(!a==6||ltI 1 (↑e.length:Int)))))),a==1||(a==2||(a==3||(a==4||(a==5||(!a==6||ltN (j8 1) e.length))))),bm a b,a==1||(a==2||(a==3||(a==4||(a==5||(a==6||ltI b (↑d.length:Int)))))),a==1||(a==2||(a==3||(a==4||(a==5||(a==6||ltN b.toNat d.length))))),bm a b,bD a b k,bE a b k,a==1||(a==2||(a==3||(a==4||(a==5||(a==6||DP e))))),bm a b,bD a b k,bE a b k]
end
def vz:awE
 | [.one ⟨false,[.ptr 0 0]⟩,.one ⟨true,[.val (.int .i64 _x0),.val (.int .i64 _x1),.val (.int .i64 _x2),.ref 1,.ref 2]⟩,.one ⟨true,[.val (.int .i64 a),.val (.int .i64 b)]⟩,.one ⟨false,[.ref 3]⟩,.one ⟨false,[.ref 4]⟩],[.box 31 [.val (.int .i64 c),.ref 5,.ref 6,.ref 7,.ref 8],.row false 122 (.pair (.int .i64) (.pair .str (.int .i64))) d,.row false 83 (.pair (.int .i64) (.int .i64)) e,.row true 2 (.int .i64) f,.row false 2 (.int .i64) g,.row true 2 (.int .i64) i,.row true 2 (.int .i64) j,.row true 2 (.int .i64) k,.row true 109 (.pair (.int .i64) (.pair (.int .i64) (.int .i64))) l]=>some ⟨.one ⟨false,[awF (br a b d f g j l)]⟩,[.box 31 [awF (oK a c),.ref 5,.ref 6,.ref 7,.ref 8],.row false 122 ab5 d,.row false 83 aeK e,.row true 2 aox (oL a f),.row false 2 aox g,.row true 2 aox (oM a i),.row true 2 aox (oN a j),.row true 2 aox (oO a k),.row true 109 abx (fF a b d f l)],[],[ak a b d f g j l]⟩
 |_,_=>none
def Hk:PF prog:=PF.ofG prog (T3z [afa]) [] bj 95 f95 func95 (fun c _=>LOk.nil c) vz (by
 intro _ _ _ h;unfold vz at h;split at h<;>cases h;kernel_rfl)
section
variable (a b:Int)(c d e f:arG)
def nZ:Int:=v4 c[j8 0]? 0
def oA:arG:=bif a==8 then List.set e b.toNat (nZ c)else e
def jv:arG:=bif a==8 then f else bif a==9 then List.set f b.toNat (nZ c)else bif a==10 then bif v4 d[j8 b]? 0==0 then ZA f.length else f else bif a==11 then bif v4 e[j8 b]? 0==0 then ZA f.length else f else f
def bn:Bool:=allT [!a==8||leI 0 0,!a==8||ltI 0 (↑c.length:Int),!a==8||ltN (j8 0) c.length,!a==8||leI 0 b,!a==8||ltI b (↑e.length:Int),!a==8||ltN b.toNat e.length,a==8||(!a==9||leI 0 0),a==8||(!a==9||ltI 0 (↑c.length:Int)),a==8||(!a==9||ltN (j8 0) c.length),a==8||(!a==9||leI 0 b),a==8||(!a==9||ltI b (↑f.length:Int)),a==8||(!a==9||ltN b.toNat f.length),a==8||(a==9||(!a==10||leI 0 b)),a==8||(a==9||(!a==10||ltI b (↑d.length:Int))),a==8||(a==9||(!a==10||ltN b.toNat d.length)),a==8||(a==9||(a==10||(!a==11||leI 0 b))),a==8||(a==9||(a==10||(!a==11||ltI b (↑e.length:Int)))),a==8||(a==9||(a==10||(!a==11||ltN b.toNat e.length)))]
end
def uy:awE
 | [.one ⟨false,[.ptr 0 0]⟩,.one ⟨true,[.val (.int .i64 a),.val (.int .i64 b)]⟩,.one ⟨false,[.ref 1]⟩,.one ⟨false,[.ref 2]⟩],[.box 31 [.val (.int .i64 c),.ref 3,.ref 4,.ref 5,.ref 6],.row true 2 (.int .i64) d,.row false 2 (.int .i64) e,.row true 2 (.int .i64) f,.row true 2 (.int .i64) g,.row true 2 (.int .i64) i,.row true 109 (.pair (.int .i64) (.pair (.int .i64) (.int .i64))) j]=>some ⟨.tup [],[.box 31 [awF c,.ref 3,.ref 4,.ref 5,.ref 6],.row true 2 aox d,.row false 2 aox e,.row true 2 aox f,.row true 2 aox (oA a b d g),.row true 2 aox (jv a b d e g i),.row true 109 abx j],[],[bn a b d e g i]⟩
 |_,_=>none
def FX:PF prog:=PF.ofG prog [] [] bj 96 f96 func96 (fun c _=>LOk.nil c) uy (by
 intro _ _ _ h;unfold uy at h;split at h<;>cases h;kernel_rfl)
def ax(a:arD):Int:=(↑a.length:Int)
def FI:awE
 | [.one ⟨false,[.ref 0]⟩],[.row false 83 (.pair (.int .i64) (.int .i64)) a]=>some ⟨.one ⟨false,[awF (ax a)]⟩,[.row false 83 aeK a],[],[]⟩
 |_,_=>none
def du:PF prog:=PF.ofG prog [] [] bj 48 f48 func48 (fun c _=>LOk.nil c) FI (by
 intro _ _ _ h;unfold FI at h;split at h<;>cases h;kernel_rfl)
def MU(a:arG):Int:=(↑a.length:Int)
def Vt:awE
 | [.one ⟨false,[.ref 0]⟩],[.row false 2 (.int .i64) a]=>some ⟨.one ⟨false,[awF (MU a)]⟩,[.row false 2 aox a],[],[]⟩
 |_,_=>none
def VE:PF prog:=PF.ofG prog [] [] bj 94 f94 func94 (fun c _=>LOk.nil c) Vt (by
 intro _ _ _ h;unfold Vt at h;split at h<;>cases h;kernel_rfl)
theorem auB(a b c:Int)(d:List TM)(e f g i j:arG)(k:List BS3)(h:ak a b d e f i k=true):
  oK a c=c∧oL a e=e∧oM a g=g∧oN a i=i∧oO a j=j∧ak a b d e f i k=true:=
 ⟨by simp only [oK,w9],by simp only [oL,w9],by simp only [oM,w9],by simp only [oN,w9],by simp only [oO,w9],h⟩
def jZ:awE
 | [.one ⟨false,[.ptr 0 0]⟩,.one ⟨true,[.val (.int .i64 _x0),.val (.int .i64 _x1),.val (.int .i64 _x2),.ref 1,.ref 2]⟩,.one ⟨true,[.val (.int .i64 a),.val (.int .i64 b)]⟩,.one ⟨false,[.ref 3]⟩,.one ⟨false,[.ref 4]⟩],[.box 31 [.val (.int .i64 c),.ref 5,.ref 6,.ref 7,.ref 8],.row false 122 (.pair (.int .i64) (.pair .str (.int .i64))) d,.row false 83 (.pair (.int .i64) (.int .i64)) e,.row true 2 (.int .i64) f,.row false 2 (.int .i64) g,.row true 2 (.int .i64) i,.row true 2 (.int .i64) j,.row true 2 (.int .i64) k,.row true 109 (.pair (.int .i64) (.pair (.int .i64) (.int .i64))) l]=>some ⟨.one ⟨false,[awF (br a b d f g j l)]⟩,[.box 31 [awF c,.ref 5,.ref 6,.ref 7,.ref 8],.row false 122 ab5 d,.row false 83 aeK e,.row true 2 aox f,.row false 2 aox g,.row true 2 aox i,.row true 2 aox j,.row true 2 aox k,.row true 109 abx (fF a b d f l)],[],[ak a b d f g j l]⟩
 |_,_=>none
def Hi:PF prog:=PF.alt Hk jZ (by
 intro args es o h bA;unfold jZ at h;split at h
 ·rename_i _x0 _x1 _x2 a b c d e f g i j k l
  cases h
  have bA:=fv bA
  have hh:=auB a b c d f g i j k l bA
  obtain⟨e1,e2,e3,e4,e5,en⟩:=hh
  exact kj rfl (eT en) rfl (by simp only [e1,e2,e3,e4,e5] <;> rfl) rfl
 ·cases h)
def avA:PF prog:=PF.kept Hi [0] (by
 intro args es o h
 have h:jZ args es=some o:=h
 unfold jZ at h;split at h
 ·cases h;exact List.forall_mem_cons.2 ⟨rfl,fun _ h=>(by cases h)⟩
 ·cases h)
def TT(a:arG)(b:aq5):Bool:=allT [leN a.length (1048576:Nat),leN (0 + j9 b) 9223372036854775807,leN ((0 + j9 b) * 24) 140737488355328]
def agS:awE
 | [.one ⟨true,[.ref 0,.ref 1]⟩],[.row false 2 (.int .i64) a,.row false 109 (.pair (.int .i64) (.pair (.int .i64) (.int .i64))) b]=>some ⟨.one ⟨true,[.ref 2,.ref 3]⟩,[.row false 2 aox a,.row false 109 abx b],[.row true 2 aox a,.row true 109 abx b],[TT a b]⟩
 |_,_=>none
def yM:PF prog:=PF.ofG prog (T3z [aF]) [] bj 139 f139 func139 (fun c _=>LOk.nil c) agS (by
 intro _ _ _ h;unfold agS at h;split at h<;>cases h;kernel_rfl)
def wN(a:asv)(b c:List asv)(d e:arG):Int:=bif leI 0 (wS b a)then v4 e[j8 (wS b a)]? 0 else v4 d[j8 (wS c a)]? 0
def wO(a:asv)(b c:List asv)(d e:arG):Bool:=allT [leN b.length (9223372036854775807:Nat),!leI 0 (wS b a)||leI 0 (wS b a),!leI 0 (wS b a)||ltI (wS b a) (↑e.length:Int),!leI 0 (wS b a)||ltN (j8 (wS b a)) e.length,leI 0 (wS b a)||leN c.length (9223372036854775807:Nat),leI 0 (wS b a)||leI 0 (wS c a),leI 0 (wS b a)||ltI (wS c a) (↑d.length:Int),leI 0 (wS b a)||ltN (j8 (wS c a)) d.length]
def acD:awE
 | [.one ⟨true,[.val (.string _x0),.ref 0,.ref 1,.ref 2,.val (.string _x1),.ref 3]⟩,.one ⟨true,[.ref 4,.ref 5]⟩,.one ⟨false,[.ref 6]⟩,.one ⟨false,[.val (.string a)]⟩],[.row false 9 (.str) b,.row false 9 (.str) c,.row false 9 (.str) d,.row false 142 (.pair (.str) (.sl 122 (.pair (.int .i64) (.pair (.str) (.int .i64))))) e,.row false 2 (.int .i64) f,.row false 109 (.pair (.int .i64) (.pair (.int .i64) (.int .i64))) g,.row false 2 (.int .i64) i]=>some ⟨.one ⟨false,[awF (wN a b c f i)]⟩,[.row false 9 arE b,.row false 9 arE c,.row false 9 arE d,.row false 142 (CTy.pair CTy.str (CTy.sl (122:TypeId) ab5)) e,.row false 2 aox f,.row false 109 abx g,.row false 2 aox i],[],[wO a b c f i]⟩
 |_,_=>none
def dR:PF prog:=PF.ofG prog (T3z [aV]) [] bj 141 f141 func141 (fun c _=>LOk.nil c) acD (by
 intro _ _ _ h;unfold acD at h;split at h<;>cases h;kernel_rfl)
abbrev th:=Int×Int×List (Int×(asv×Int))×List Int×asv×asv×List Int×List asv×List asv×List asv×List (asv×(List (Int×(asv×Int))))×List Int×List (Int×(Int×Int))
section
variable (a b:Int)(c:aov)(d e:arG)(f g:List asv)(i:arG)(j:aqe)
def eC:Int×asv×Int:=v4 c[j8 a]? ((0:Int),ByteArray.empty,(0:Int))
def Ip:Int:=v5 .i64 ((↑d.length:Int) - ew ((eC a c).1))
def io:arG:=List.drop (j8 (Ip a c d)) (List.take (j8 (↑d.length:Int)) d)
def Iq:arG:=List.drop (j8 0) (List.take (j8 (Ip a c d)) d)
def bi:Bool:=(eC a c).1==1
def cq:Bool:=(eC a c).1==2
def ct:Bool:=(eC a c).1==3
def cu:Bool:=(eC a c).1==4
def Pw:Bool:=ltI 0 (↑(j9 (io a c d)):Int)
def Px:Bool:=ltN (j8 0) (j9 (io a c d))
def cT:Bool:=(eC a c).1==5
def VG:Bool:=ltI 1 (↑(j9 (io a c d)):Int)
def VH:Bool:=ltN (j8 1) (j9 (io a c d))
def gz:Bool:=(eC a c).1==6
def Nz:Int:=v4 (io a c d)[j8 0]? 0
def mg:Int×Int×Int:=v4 j[j8 b]? ((0:Int),(0:Int),(0:Int))
def NA:arG:= [bif bi a c then wN (((eC a c).2).1) f g i e else bif cq a c then(1:Int)else bif ct a c then(0:Int)else bif cu a c then v5 .i64 ((1:Int) - Nz a c d)else bif cT a c then v5 .i64 (↑(BitVec.toNat (BitVec.ofInt (IntKind.bits IntKind.i64) (Nz a c d)&&& BitVec.ofInt (IntKind.bits IntKind.i64) (v4 (io a c d)[j8 1]? 0))):Int)else bif gz a c then v5 .i64 (↑(BitVec.toNat (BitVec.ofInt (IntKind.bits IntKind.i64) (Nz a c d)||| BitVec.ofInt (IntKind.bits IntKind.i64) (v4 (io a c d)[j8 1]? 0))):Int)else em ((eC a c).1) ((eC a c).2.2) ((mg b j).1) (((mg b j).2).1) ((mg b j).2.2) (io a c d)]
def Zk:Bool:=ltI a (↑c.length:Int)
def aj3:Bool:=leI 0 a
def aj4:Bool:=ltN a.toNat c.length
def Zl:Bool:=leI 0 (Ip a c d)
def Zm:Bool:=leI (Ip a c d) (↑d.length:Int)
def aj5:Bool:=leI (↑d.length:Int) (↑d.length:Int)
def aj6:Bool:=leN (j9 (io a c d)) 1048576
end
def aj7:Bool:=leI 0 0
section
variable (a b:Int)(c:aov)(d e:arG)(f g i:List asv)(j:ag4)(k:arG)(l:aqe)
def aj8:Bool:=leN (j9 (Iq a c d)) 1048576
def aj9:Bool:= !bi a c||wO (((eC a c).2).1) f g k e
def ait:Bool:=bi a c||(cq a c||(ct a c||(!cu a c||leI 0 0)))
def aiu:Bool:=bi a c||(cq a c||(ct a c||(!cu a c||Pw a c d)))
def aiv:Bool:=bi a c||(cq a c||(ct a c||(!cu a c||Px a c d)))
def aiw:Bool:=bi a c||(cq a c||(ct a c||(cu a c||(!cT a c||leI 0 0))))
def aix:Bool:=bi a c||(cq a c||(ct a c||(cu a c||(!cT a c||Pw a c d))))
def aiy:Bool:=bi a c||(cq a c||(ct a c||(cu a c||(!cT a c||Px a c d))))
def aiz:Bool:=bi a c||(cq a c||(ct a c||(cu a c||(!cT a c||leI 0 1))))
def aiA:Bool:=bi a c||(cq a c||(ct a c||(cu a c||(!cT a c||VG a c d))))
def aiB:Bool:=bi a c||(cq a c||(ct a c||(cu a c||(!cT a c||VH a c d))))
def aiC:Bool:=bi a c||(cq a c||(ct a c||(cu a c||(cT a c||(!gz a c||leI 0 0)))))
def aiD:Bool:=bi a c||(cq a c||(ct a c||(cu a c||(cT a c||(!gz a c||Pw a c d)))))
def aiE:Bool:=bi a c||(cq a c||(ct a c||(cu a c||(cT a c||(!gz a c||Px a c d)))))
def aiF:Bool:=bi a c||(cq a c||(ct a c||(cu a c||(cT a c||(!gz a c||leI 0 1)))))
def aiG:Bool:=bi a c||(cq a c||(ct a c||(cu a c||(cT a c||(!gz a c||VG a c d)))))
def aiH:Bool:=bi a c||(cq a c||(ct a c||(cu a c||(cT a c||(!gz a c||VH a c d)))))
def XP:Bool:=bi a c||(cq a c||(ct a c||(cu a c||(cT a c||(gz a c||leI 0 b)))))
def XQ:Bool:=bi a c||(cq a c||(ct a c||(cu a c||(cT a c||(gz a c||ltI b (↑l.length:Int))))))
def XR:Bool:=bi a c||(cq a c||(ct a c||(cu a c||(cT a c||(gz a c||ltN b.toNat l.length)))))
def aiI:Bool:=bi a c||(cq a c||(ct a c||(cu a c||(cT a c||(gz a c||jh (io a c d))))))
def aiJ:Bool:=leN (j9 (Iq a c d) + j9 (NA a b c d e f g k l)) 9223372036854775807
def aiK:Bool:=leN ((j9 (Iq a c d) + j9 (NA a b c d e f g k l)) * 8) 140737488355328
def aiL:Int:=v5 .i64 (a + (1:Int))
def aiM:Int:=bif bi a c then b else bif cq a c then b else bif ct a c then b else bif cu a c then b else bif cT a c then b else bif gz a c then b else v5 .i64 (b + (1:Int))
def aiN:arG:=Iq a c d++NA a b c d e f g k l
def aiO:arG:=bif bi a c then e else e
def aiP:List asv:=bif bi a c then f else f
def aiQ:List asv:=bif bi a c then g else g
def aiR:List asv:=bif bi a c then i else i
def aiS:ag4:=bif bi a c then j else j
def aiT:arG:=bif bi a c then k else k
def aiU:aqe:=bif bi a c then l else bif cq a c then l else bif ct a c then l else bif cu a c then l else bif cT a c then l else bif gz a c then l else List.set l b.toNat (gn ((eC a c).1) ((eC a c).2.2) ((mg b l).1) (((mg b l).2).1) ((mg b l).2.2) (io a c d),gp ((eC a c).1) (((mg b l).2).1) ((mg b l).2.2) (io a c d),gq ((eC a c).1) ((eC a c).2.2) ((mg b l).1) ((mg b l).2.2) (io a c d))
end
def ahw:th→List (Nat×SV)
 |(a,b,_,_,_,_,_,_,_,_,_,_,_)=> [(12,(.one ⟨false,[awF a]⟩)),(3,(.one ⟨false,[.ref 0]⟩)),(11,(.one ⟨false,[.ref 1]⟩)),(5,(.one ⟨false,[.ptr 2 0]⟩)),(6,(.one ⟨false,[.ptr 3 0]⟩)),(2,(.one ⟨false,[.ref 4]⟩)),(4,(.one ⟨false,[awF b]⟩))]
def ahn:th→List (Nat×Entry)
 |(_,_,a,b,c,d,e,f,g,i,j,k,l)=> [(0,(.row true 122 ab5 a)),(2,(.box 43 [.val (.string c),.ref 5,.ref 6,.ref 7,.val (.string d),.ref 8])),(3,(.box 50 [.ref 9,.ref 10])),(4,(.row true 2 aox e)),(5,(.row true 9 arE f)),(6,(.row true 9 arE g)),(7,(.row true 9 arE i)),(8,(.row true 142 aaZ j)),(9,(.row true 2 aox k)),(10,(.row true 109 abx l)),(1,(.row true 2 aox b))]
def ahO:Nat→th→List (Nat×SV)
 |_,(_,_,_,_,_,_,_,_,_,_,_,_,_)=> [(11,(.one ⟨false,[.ref 1]⟩))]
def ahF:Nat→th→List (Nat×Entry)
 |_,(_,_,a,b,c,d,e,f,g,i,j,k,l)=> [(0,(.row true 122 ab5 a)),(1,(.row true 2 aox b)),(2,(.box 43 [.val (.string c),.ref 5,.ref 6,.ref 7,.val (.string d),.ref 8])),(3,(.box 50 [.ref 9,.ref 10])),(4,(.row true 2 aox e)),(5,(.row true 9 arE f)),(6,(.row true 9 arE g)),(7,(.row true 9 arE i)),(8,(.row true 142 aaZ j)),(9,(.row true 2 aox k)),(10,(.row true 109 abx l))]
def ah8:th→LT th
 |(a,b,c,d,e,f,g,i,j,k,l,m,n)=> .ite (Zk a c) (.need [aj3 a,Zk a c,aj4 a c] (.need [Zl a c d,Zm a c d,aj5 d,aj6 a c d] (.need [aj7,Zl a c d,Zm a c d,aj8 a c d] (.need [aj9 a c g i j m,ait a c,aiu a c d,aiv a c d,aiw a c,aix a c d,aiy a c d,aiz a c,aiA a c d,aiB a c d,aiC a c,aiD a c d,aiE a c d,aiF a c,aiG a c d,aiH a c d,XP a b c,XQ a b c n,XR a b c n,aiI a c d,XP a b c,XQ a b c n,XR a b c n] (.need [aiJ a b c d g i j m n,aiK a b c d g i j m n] (.nrm ((aiL a),aiM a b c,c,aiN a b c d g i j m n,e,f,aiO a c g,aiP a c i,aiQ a c j,aiR a c k,aiS a c l,aiT a c m,(aiU a b c d n)) [(0,0),(1,4544),(2,2),(3,3),(4,4),(5,5),(6,6),(7,7),(8,8),(9,9),(10,10)])))))) (.ext 0 [(0,0),(1,1),(2,2),(3,3),(4,4),(5,5),(6,6),(7,7),(8,8),(9,9),(10,10)])
def OW(s:St):Option th:=do
 let some ⟨none,.one ⟨false,[.val (.int .i64 a)]⟩⟩:=s.look 12|none
 let some ⟨none,.one ⟨false,[.ref 7]⟩⟩:=s.look 3|none
 let some ⟨none,.one ⟨false,[.ref 768]⟩⟩:=s.look 11|none
 let some ⟨none,.one ⟨false,[.ptr 576 0]⟩⟩:=s.look 5|none
 let some ⟨none,.one ⟨false,[.ptr 640 0]⟩⟩:=s.look 6|none
 let some ⟨none,.one ⟨false,[.ref 6]⟩⟩:=s.look 2|none
 let some ⟨none,.one ⟨false,[.val (.int .i64 b)]⟩⟩:=s.look 4|none
 let some (.row true 122 (.pair (.int .i64) (.pair .str (.int .i64))) c):=s.ent 7|none
 let some (.box 43 [.val (.string e),.ref 0,.ref 1,.ref 2,.val (.string f),.ref 3]):=s.ent 576|none
 let some (.box 50 [.ref 4,.ref 5]):=s.ent 640|none
 let some (.row true 2 (.int .i64) g):=s.ent 6|none
 let some (.row true 9 (.str) i):=s.ent 0|none
 let some (.row true 9 (.str) j):=s.ent 1|none
 let some (.row true 9 (.str) k):=s.ent 2|none
 let some (.row true 142 (.pair .str (.sl 122 (.pair (.int .i64) (.pair .str (.int .i64))))) l):=s.ent 3|none
 let some (.row true 2 (.int .i64) m):=s.ent 4|none
 let some (.row true 109 (.pair (.int .i64) (.pair (.int .i64) (.int .i64))) n):=s.ent 5|none
 let some (.row true 2 (.int .i64) d):=s.ent 768|none
 some (a,b,c,d,e,f,g,i,j,k,l,m,n)
def BW:Lp th where
 h:=⟨[20,21,22,23,26,27,28,29,13,30,31,32,33,34,35,14,36,37,38,39,15,40,41,42,43,11,16,44,45,66,65,67,68,69,70,71,72,74,73,76,75,78,77,79,80,81,82,84,83,85,86,87,88,89,90,91,93,92,94,95,96,97,98,99,100,47,48,49,50,51,52,53,54,46,55,56,18,17,57,58,59,60,61,62,63,64,4,101,102,103,104,24,25,12],[0,2,3,4,5,6,7,8,9,10],[1],[]⟩
 JL:=ahw
 JE:=ahn
 XL:=ahO
 XE:=ahF
 q:=fun j=>match j with | _=> .exit 0
 tags:= [0]
 lt:=ah8
 fuel:=fun(a,b,c,d,e,f,g,i,k,l,m,n,o)=>a.natAbs + b.natAbs + c.length + d.length + e.size + f.size + g.length + i.length + k.length + l.length + m.length + n.length + o.length
 fix:=fun(_,_,c,_,e,f,_,_,_,_,_,_,_) (a,b,_,d,_,_,g,i,k,l,m,n,o)=>(a,b,c,d,e,f,g,i,k,l,m,n,o)
 σ:= [(0,7),(2,576),(3,640),(4,6),(5,0),(6,1),(7,2),(8,3),(9,4),(10,5),(1,768)]
 rd:=OW
theorem aeU:LoopOk prog (fun k=>Nat.blt k Tryz.f140.ntmps) BW.F (bB f140 0):=by
 refine Lp.ok (tbl:= (PF.mark prog::T3z [aF,dR,gW,pA])) (lf:= []) bj BW (by kernel_rfl) (LOk.nil _) (fun _=>rfl) (fun _ _=>rfl) ?_ ?_ ?_ ?_ (fun _=>rfl) ?_
 ·rintro⟨a,b,c,d,e,f,g,i,j,l,m,n,o⟩;kernel_rfl
 ·rintro⟨a,b,c,d,e,f,g,i,j,l,m,n,o⟩;kernel_rfl
 ·intro s x h
  have h:OW s=some x:=h
  unfold OW at h
  repeat' split at h
  all_goals cases h
  constructor<;>repeat(first|refine ab (by assumption) rfl ?_|refine aa rfl (by assumption) rfl ?_|exact rfl)
 ·rintro⟨a,b,c,d,e,f,g,i,j,l,m,n,o⟩;kernel_rfl
 ·rintro⟨a,b,c,d,e,f,g,i,j,l,m,n,o⟩ z;exact(And.intro rfl trivial)
section
variable (a b:asv)(c:Int)(d e f:List asv)(g:ajC)(i:arG)(j:aq5)(k:arG)(l:aow)
def acS:Int×Int×aow×arG×asv×asv×arG×List asv×List asv×List asv×ajC×arG×aq5:=((0:Int),c,l,[],a,b,k,d,e,f,g,i,j)
def acT:arG×asv×asv×arG×List asv×List asv×List asv×ajC×arG×aq5:=(Lp.res BW (acS a b c d e f g i j k l)).2.2.2.2
def Vq:arG:=(acT a b c d e f g i j k l).1
def acU:arG×List asv×List asv×List asv×ajC×arG×aq5:=(acT a b c d e f g i j k l).2.2.2
def acV:List asv×List asv×List asv×ajC×arG×aq5:=(acU a b c d e f g i j k l).2
def acW:List asv×List asv×ajC×arG×aq5:=(acV a b c d e f g i j k l).2
def acX:List asv×ajC×arG×aq5:=(acW a b c d e f g i j k l).2
def acY:ajC×arG×aq5:=(acX a b c d e f g i j k l).2
def acZ:arG×aq5:=(acY a b c d e f g i j k l).2
def anA:Int:=v4 (Vq a b c d e f g i j k l)[j8 0]? 0
def anB:List asv:=(acV a b c d e f g i j k l).1
def anC:List asv:=(acW a b c d e f g i j k l).1
def anD:List asv:=(acX a b c d e f g i j k l).1
def anE:ag4:=(acY a b c d e f g i j k l).1
def anF:arG:=(acZ a b c d e f g i j k l).1
def anG:aqe:=(acZ a b c d e f g i j k l).2
def anH:arG:=(acU a b c d e f g i j k l).1
def anI:Bool:=allT [Lp.fin BW (acS a b c d e f g i j k l),ltI 0 (↑(j9 (Vq a b c d e f g i j k l)):Int),ltN (j8 0) (j9 (Vq a b c d e f g i j k l))]
end
def adV:awE
 | [.one ⟨true,[.val (.string a),.ref 0,.ref 1,.ref 2,.val (.string b),.ref 3]⟩,.one ⟨true,[.ref 4,.ref 5]⟩,.one ⟨false,[.ref 6]⟩,.one ⟨false,[.ref 7]⟩,.one ⟨false,[.val (.int .i64 c)]⟩],[.row true 9 (.str) d,.row true 9 (.str) e,.row true 9 (.str) f,.row true 142 (.pair (.str) (.sl 122 (.pair (.int .i64) (.pair (.str) (.int .i64))))) g,.row true 2 (.int .i64) i,.row true 109 (.pair (.int .i64) (.pair (.int .i64) (.int .i64))) j,.row true 2 (.int .i64) k,.row true 122 (.pair (.int .i64) (.pair (.str) (.int .i64))) l]=>some ⟨.one ⟨false,[awF (anA a b c d e f g i j k l)]⟩,[.row true 9 arE (anB a b c d e f g i j k l),.row true 9 arE (anC a b c d e f g i j k l),.row true 9 arE (anD a b c d e f g i j k l),.row true 142 aaZ (anE a b c d e f g i j k l),.row true 2 aox (anF a b c d e f g i j k l),.row true 109 abx (anG a b c d e f g i j k l),.row true 2 aox (anH a b c d e f g i j k l),.row true 122 ab5 l],[],[anI a b c d e f g i j k l]⟩
 |_,_=>none
def vP:PF prog:=PF.ofG prog (PF.mark prog::T3z [aF,dR,gW,pA]) [BW.F] bj 140 f140 func140 (LOk.fnT (l:= [bB f140 0]) (by kernel_rfl) (.cons aeU (.nil _))) adV (by
 intro _ _ _ h;unfold adV at h;split at h<;>cases h;kernel_rfl)
abbrev lQ:=Int×Int×List (Int×(asv×Int))×List Int×asv×asv×List Int×List asv×List asv×List asv×List (asv×(List (Int×(asv×Int))))×List Int×List (Int×(Int×Int))
section
variable (a b:Int)(c:aov)(d e:arG)(f g:List asv)(i:arG)(j:aqe)
def bL:Int×asv×Int:=v4 c[j8 a]? ((0:Int),ByteArray.empty,(0:Int))
def pN:Int:=v5 .i64 ((↑d.length:Int) - ew ((bL a c).1))
def cC:arG:=List.drop (j8 (pN a c d)) (List.take (j8 (↑d.length:Int)) d)
def pO:arG:=List.drop (j8 0) (List.take (j8 (pN a c d)) d)
def aI:Bool:=(bL a c).1==1
def aM:Bool:=(bL a c).1==2
def aN:Bool:=(bL a c).1==3
def aO:Bool:=(bL a c).1==4
def iU:Bool:=ltI 0 (↑(j9 (cC a c d)):Int)
def iV:Bool:=ltN (j8 0) (j9 (cC a c d))
def bc:Bool:=(bL a c).1==5
def pd:Bool:=ltI 1 (↑(j9 (cC a c d)):Int)
def pe:Bool:=ltN (j8 1) (j9 (cC a c d))
def cv:Bool:=(bL a c).1==6
def sG:Int:=v4 (cC a c d)[j8 0]? 0
def dH:Int×Int×Int:=v4 j[j8 b]? ((0:Int),(0:Int),(0:Int))
def bz:arG:= [bif aI a c then wN (((bL a c).2).1) f g i e else bif aM a c then(1:Int)else bif aN a c then(0:Int)else bif aO a c then v5 .i64 ((1:Int) - sG a c d)else bif bc a c then v5 .i64 (↑(BitVec.toNat (BitVec.ofInt (IntKind.bits IntKind.i64) (sG a c d)&&& BitVec.ofInt (IntKind.bits IntKind.i64) (v4 (cC a c d)[j8 1]? 0))):Int)else bif cv a c then v5 .i64 (↑(BitVec.toNat (BitVec.ofInt (IntKind.bits IntKind.i64) (sG a c d)||| BitVec.ofInt (IntKind.bits IntKind.i64) (v4 (cC a c d)[j8 1]? 0))):Int)else em ((bL a c).1) ((bL a c).2.2) ((dH b j).1) (((dH b j).2).1) ((dH b j).2.2) (cC a c d)]
def ez:Bool:=ltI a (↑c.length:Int)
def lR:Bool:=leI 0 a
def lS:Bool:=ltN a.toNat c.length
def jG:Bool:=leI 0 (pN a c d)
def jH:Bool:=leI (pN a c d) (↑d.length:Int)
def lT:Bool:=leI (↑d.length:Int) (↑d.length:Int)
def lU:Bool:=leN (j9 (cC a c d)) 1048576
end
def lV:Bool:=leI 0 0
section
variable (a b:Int)(c:aov)(d e:arG)(f g:List asv)(i:arG)(j:aqe)
def lW:Bool:=leN (j9 (pO a c d)) 1048576
def lX:Bool:= !aI a c||wO (((bL a c).2).1) f g i e
def kC:Bool:=aI a c||(aM a c||(aN a c||(!aO a c||leI 0 0)))
def kD:Bool:=aI a c||(aM a c||(aN a c||(!aO a c||iU a c d)))
def kE:Bool:=aI a c||(aM a c||(aN a c||(!aO a c||iV a c d)))
def kF:Bool:=aI a c||(aM a c||(aN a c||(aO a c||(!bc a c||leI 0 0))))
def kG:Bool:=aI a c||(aM a c||(aN a c||(aO a c||(!bc a c||iU a c d))))
def kH:Bool:=aI a c||(aM a c||(aN a c||(aO a c||(!bc a c||iV a c d))))
def kI:Bool:=aI a c||(aM a c||(aN a c||(aO a c||(!bc a c||leI 0 1))))
def kJ:Bool:=aI a c||(aM a c||(aN a c||(aO a c||(!bc a c||pd a c d))))
def kK:Bool:=aI a c||(aM a c||(aN a c||(aO a c||(!bc a c||pe a c d))))
def kL:Bool:=aI a c||(aM a c||(aN a c||(aO a c||(bc a c||(!cv a c||leI 0 0)))))
def kM:Bool:=aI a c||(aM a c||(aN a c||(aO a c||(bc a c||(!cv a c||iU a c d)))))
def kN:Bool:=aI a c||(aM a c||(aN a c||(aO a c||(bc a c||(!cv a c||iV a c d)))))
def kO:Bool:=aI a c||(aM a c||(aN a c||(aO a c||(bc a c||(!cv a c||leI 0 1)))))
def kP:Bool:=aI a c||(aM a c||(aN a c||(aO a c||(bc a c||(!cv a c||pd a c d)))))
def kQ:Bool:=aI a c||(aM a c||(aN a c||(aO a c||(bc a c||(!cv a c||pe a c d)))))
def iO:Bool:=aI a c||(aM a c||(aN a c||(aO a c||(bc a c||(cv a c||leI 0 b)))))
def iP:Bool:=aI a c||(aM a c||(aN a c||(aO a c||(bc a c||(cv a c||ltI b (↑j.length:Int))))))
def iQ:Bool:=aI a c||(aM a c||(aN a c||(aO a c||(bc a c||(cv a c||ltN b.toNat j.length)))))
def kR:Bool:=aI a c||(aM a c||(aN a c||(aO a c||(bc a c||(cv a c||jh (cC a c d))))))
def kS:Bool:=leN (j9 (pO a c d) + j9 (bz a b c d e f g i j)) 9223372036854775807
def kT:Bool:=leN ((j9 (pO a c d) + j9 (bz a b c d e f g i j)) * 8) 140737488355328
def iR:Int:=v5 .i64 (a + (1:Int))
def cj:Int:=bif aI a c then b else bif aM a c then b else bif aN a c then b else bif aO a c then b else bif bc a c then b else bif cv a c then b else v5 .i64 (b + (1:Int))
def iS:arG:=pO a c d++bz a b c d e f g i j
def iT:arG:=bif aI a c then i else i
def ck:aqe:=bif aI a c then j else bif aM a c then j else bif aN a c then j else bif aO a c then j else bif bc a c then j else bif cv a c then j else List.set j b.toNat (gn ((bL a c).1) ((bL a c).2.2) ((dH b j).1) (((dH b j).2).1) ((dH b j).2.2) (cC a c d),gp ((bL a c).1) (((dH b j).2).1) ((dH b j).2.2) (cC a c d),gq ((bL a c).1) ((bL a c).2.2) ((dH b j).1) ((dH b j).2.2) (cC a c d))
end
def ZH:lQ→List (Nat×SV)
 |(a,b,_,_,_,_,_,_,_,_,_,_,_)=> [(12,(.one ⟨false,[awF a]⟩)),(3,(.one ⟨false,[.ref 0]⟩)),(11,(.one ⟨false,[.ref 1]⟩)),(5,(.one ⟨false,[.ptr 2 0]⟩)),(6,(.one ⟨false,[.ptr 3 0]⟩)),(2,(.one ⟨false,[.ref 4]⟩)),(4,(.one ⟨false,[awF b]⟩))]
def ZD:lQ→List (Nat×Entry)
 |(_,_,a,b,c,d,e,f,g,i,j,k,l)=> [(0,(.row false 122 ab5 a)),(2,(.box 43 [.val (.string c),.ref 5,.ref 6,.ref 7,.val (.string d),.ref 8])),(3,(.box 50 [.ref 9,.ref 10])),(4,(.row false 2 aox e)),(5,(.row false 9 arE f)),(6,(.row false 9 arE g)),(7,(.row false 9 arE i)),(8,(.row false 142 aaZ j)),(9,(.row true 2 aox k)),(10,(.row true 109 abx l)),(1,(.row true 2 aox b))]
def ZP:Nat→lQ→List (Nat×SV)
 |_,(_,_,_,_,_,_,_,_,_,_,_,_,_)=> [(11,(.one ⟨false,[.ref 1]⟩))]
def ZL:Nat→lQ→List (Nat×Entry)
 |_,(_,_,a,b,c,d,e,f,g,i,j,k,l)=> [(0,(.row false 122 ab5 a)),(1,(.row true 2 aox b)),(2,(.box 43 [.val (.string c),.ref 5,.ref 6,.ref 7,.val (.string d),.ref 8])),(3,(.box 50 [.ref 9,.ref 10])),(4,(.row false 2 aox e)),(5,(.row false 9 arE f)),(6,(.row false 9 arE g)),(7,(.row false 9 arE i)),(8,(.row false 142 aaZ j)),(9,(.row true 2 aox k)),(10,(.row true 109 abx l))]
def eS:lQ→LT lQ
 |(a,b,c,d,e,f,g,i,j,k,l,m,n)=> .ite (ez a c) (.need [lR a,ez a c,lS a c] (.need [jG a c d,jH a c d,lT d,lU a c d] (.need [lV,jG a c d,jH a c d,lW a c d] (.need [lX a c g i j m,kC a c,kD a c d,kE a c d,kF a c,kG a c d,kH a c d,kI a c,kJ a c d,kK a c d,kL a c,kM a c d,kN a c d,kO a c,kP a c d,kQ a c d,iO a b c,iP a b c n,iQ a b c n,kR a c d,iO a b c,iP a b c n,iQ a b c n] (.need [kS a b c d g i j m n,kT a b c d g i j m n] (.nrm ((iR a),cj a b c,c,iS a b c d g i j m n,e,f,g,i,j,k,l,iT a c m,(ck a b c d n)) [(0,0),(1,4544),(2,2),(3,3),(4,4),(5,5),(6,6),(7,7),(8,8),(9,9),(10,10)])))))) (.ext 0 [(0,0),(1,1),(2,2),(3,3),(4,4),(5,5),(6,6),(7,7),(8,8),(9,9),(10,10)])
def EN(s:St):Option lQ:=do
 let some ⟨none,.one ⟨false,[.val (.int .i64 a)]⟩⟩:=s.look 12|none
 let some ⟨none,.one ⟨false,[.ref 7]⟩⟩:=s.look 3|none
 let some ⟨none,.one ⟨false,[.ref 768]⟩⟩:=s.look 11|none
 let some ⟨none,.one ⟨false,[.ptr 576 0]⟩⟩:=s.look 5|none
 let some ⟨none,.one ⟨false,[.ptr 640 0]⟩⟩:=s.look 6|none
 let some ⟨none,.one ⟨false,[.ref 6]⟩⟩:=s.look 2|none
 let some ⟨none,.one ⟨false,[.val (.int .i64 b)]⟩⟩:=s.look 4|none
 let some (.row false 122 (.pair (.int .i64) (.pair .str (.int .i64))) c):=s.ent 7|none
 let some (.box 43 [.val (.string e),.ref 0,.ref 1,.ref 2,.val (.string f),.ref 3]):=s.ent 576|none
 let some (.box 50 [.ref 4,.ref 5]):=s.ent 640|none
 let some (.row false 2 (.int .i64) g):=s.ent 6|none
 let some (.row false 9 (.str) i):=s.ent 0|none
 let some (.row false 9 (.str) j):=s.ent 1|none
 let some (.row false 9 (.str) k):=s.ent 2|none
 let some (.row false 142 (.pair .str (.sl 122 (.pair (.int .i64) (.pair .str (.int .i64))))) l):=s.ent 3|none
 let some (.row true 2 (.int .i64) m):=s.ent 4|none
 let some (.row true 109 (.pair (.int .i64) (.pair (.int .i64) (.int .i64))) n):=s.ent 5|none
 let some (.row true 2 (.int .i64) d):=s.ent 768|none
 some (a,b,c,d,e,f,g,i,j,k,l,m,n)
def bo:Lp lQ where
 h:=⟨[20,21,22,23,26,27,28,29,13,30,31,32,33,34,35,14,36,37,38,39,15,40,41,42,43,11,16,44,45,66,65,67,68,69,70,71,72,74,73,76,75,78,77,79,80,81,82,84,83,85,86,87,88,89,90,91,93,92,94,95,96,97,98,99,100,47,48,49,50,51,52,53,54,46,55,56,18,17,57,58,59,60,61,62,63,64,4,101,102,103,104,24,25,12],[0,2,3,4,5,6,7,8,9,10],[1],[]⟩
 JL:=ZH
 JE:=ZD
 XL:=ZP
 XE:=ZL
 q:=fun j=>match j with | _=> .exit 0
 tags:= [0]
 lt:=eS
 fuel:=fun(a,b,c,d,e,f,g,i,k,l,m,n,o)=>a.natAbs + b.natAbs + c.length + d.length + e.size + f.size + g.length + i.length + k.length + l.length + m.length + n.length + o.length
 fix:=fun(_,_,c,_,e,f,g,i,k,l,m,_,_) (a,b,_,d,_,_,_,_,_,_,_,n,o)=>(a,b,c,d,e,f,g,i,k,l,m,n,o)
 σ:= [(0,7),(2,576),(3,640),(4,6),(5,0),(6,1),(7,2),(8,3),(9,4),(10,5),(1,768)]
 rd:=EN
theorem WP:LoopOk prog (fun k=>Nat.blt k Tryz.f140.ntmps) bo.F (bB f140 0):=by
 refine Lp.ok (tbl:= (PF.mark prog::T3z [aF,dR,gW,pA])) (lf:= []) bj bo (by kernel_rfl) (LOk.nil _) (fun _=>rfl) (fun _ _=>rfl) ?_ ?_ ?_ ?_ (fun _=>rfl) ?_
 ·rintro⟨a,b,c,d,e,f,g,i,j,l,m,n,o⟩;kernel_rfl
 ·rintro⟨a,b,c,d,e,f,g,i,j,l,m,n,o⟩;kernel_rfl
 ·intro s x h
  have h:EN s=some x:=h
  unfold EN at h
  repeat' split at h
  all_goals cases h
  constructor<;>repeat(first|refine ab (by assumption) rfl ?_|refine aa rfl (by assumption) rfl ?_|exact rfl)
 ·rintro⟨a,b,c,d,e,f,g,i,j,l,m,n,o⟩;kernel_rfl
 ·rintro⟨a,b,c,d,e,f,g,i,j,l,m,n,o⟩ z;exact(And.intro rfl trivial)
section
variable (a b:asv)(c:Int)(d e f:List asv)(g:ajC)(i:arG)(j:aq5)(k:arG)(l:aow)
def tN:Int×Int×aow×arG×asv×asv×arG×List asv×List asv×List asv×ajC×arG×aq5:=((0:Int),c,l,[],a,b,k,d,e,f,g,i,j)
def xG:arG×asv×asv×arG×List asv×List asv×List asv×ajC×arG×aq5:=(Lp.res bo (tN a b c d e f g i j k l)).2.2.2.2
def xH:arG:=(xG a b c d e f g i j k l).1
def Dh:arG×aq5:=(xG a b c d e f g i j k l).2.2.2.2.2.2.2.2
def Ej:Int:=v4 (xH a b c d e f g i j k l)[j8 0]? 0
def Ek:arG:=(Dh a b c d e f g i j k l).1
def El:aqe:=(Dh a b c d e f g i j k l).2
def Em:Bool:=allT [Lp.fin bo (tN a b c d e f g i j k l),ltI 0 (↑(j9 (xH a b c d e f g i j k l)):Int),ltN (j8 0) (j9 (xH a b c d e f g i j k l))]
end
def Uj:awE
 | [.one ⟨true,[.val (.string a),.ref 0,.ref 1,.ref 2,.val (.string b),.ref 3]⟩,.one ⟨true,[.ref 4,.ref 5]⟩,.one ⟨false,[.ref 6]⟩,.one ⟨false,[.ref 7]⟩,.one ⟨false,[.val (.int .i64 c)]⟩],[.row false 9 (.str) d,.row false 9 (.str) e,.row false 9 (.str) f,.row false 142 (.pair .str (.sl 122 (.pair (.int .i64) (.pair .str (.int .i64))))) g,.row true 2 (.int .i64) i,.row true 109 (.pair (.int .i64) (.pair (.int .i64) (.int .i64))) j,.row false 2 (.int .i64) k,.row false 122 (.pair (.int .i64) (.pair .str (.int .i64))) l]=>some ⟨.one ⟨false,[awF (Ej a b c d e f g i j k l)]⟩,[.row false 9 arE d,.row false 9 arE e,.row false 9 arE f,.row false 142 aaZ g,.row true 2 aox (Ek a b c d e f g i j k l),.row true 109 abx (El a b c d e f g i j k l),.row false 2 aox k,.row false 122 ab5 l],[],[Em a b c d e f g i j k l]⟩
 |_,_=>none
def mU:PF prog:=PF.ofG prog (PF.mark prog::T3z [aF,dR,gW,pA]) [bo.F] bj 140 f140 func140 (LOk.fnT (l:= [bB f140 0]) (by kernel_rfl) (.cons WP (.nil _))) Uj (by
 intro _ _ _ h;unfold Uj at h;split at h<;>cases h;kernel_rfl)
abbrev oV:=Int×Int×Int×asv×asv×List asv×List asv×List asv×List (asv×(List (Int×(asv×Int))))
section
variable (a b c:Int)(d:ag4)
def xI:aow:=(v4 d[j8 b]? (ub aaZ)).2
def Eo:Bool:=leI 0 b
def Ep:Bool:=ltI b (↑d.length:Int)
def Er:Bool:=ltN b.toNat d.length
def vf:Bool:=ltI a (↑(j9 (xI b d)):Int)
def UF:Bool:=leI 0 a
def UG:Bool:=ltN a.toNat (j9 (xI b d))
def UH:Int:=v5 .i64 (a + (1:Int))
def LI:Int:=bif leI 7 ((v4 (xI b d)[j8 a]? ((0:Int),ByteArray.empty,(0:Int))).1)then v5 .i64 (c + (1:Int))else c
end
def ada:oV→List (Nat×SV)
 |(a,b,c,_,_,_,_,_,_)=> [(14,(.one ⟨false,[awF a]⟩)),(3,(.one ⟨false,[.ptr 0 0]⟩)),(11,(.one ⟨false,[awF b]⟩)),(10,(.one ⟨false,[awF c]⟩))]
def ac4:oV→List (Nat×Entry)
 |(_,_,_,a,b,c,d,e,f)=> [(0,(.box 43 [.val (.string a),.ref 1,.ref 2,.ref 3,.val (.string b),.ref 4])),(1,(.row false 9 arE c)),(2,(.row false 9 arE d)),(3,(.row false 9 arE e)),(4,(.row false 142 aaZ f))]
def adn:Nat→oV→List (Nat×SV)
 |_,(_,_,a,_,_,_,_,_,_)=> [(10,(.one ⟨false,[awF a]⟩))]
def xu:oV→LT oV
 |(a,b,c,d,e,f,g,i,j)=> .need [Eo b,Ep b j,Er b j] (.ite (vf a b j) (.need [Eo b,Ep b j,Er b j,UF a,vf a b j,UG a b j] (.nrm ((UH a),b,LI a b c j,d,e,f,g,i,j) [(0,0),(1,1),(2,2),(3,3),(4,4)])) (.ext 0 [(0,0),(1,1),(2,2),(3,3),(4,4)]))
def Jt(s:St):Option oV:=do
 let some ⟨none,.one ⟨false,[.val (.int .i64 a)]⟩⟩:=s.look 14|none
 let some ⟨none,.one ⟨false,[.ptr 0 0]⟩⟩:=s.look 3|none
 let some ⟨none,.one ⟨false,[.val (.int .i64 b)]⟩⟩:=s.look 11|none
 let some ⟨none,.one ⟨false,[.val (.int .i64 c)]⟩⟩:=s.look 10|none
 let some (.box 43 [.val (.string d),.ref 4,.ref 5,.ref 6,.val (.string e),.ref 7]):=s.ent 0|none
 let some (.row false 9 (.str) f):=s.ent 4|none
 let some (.row false 9 (.str) g):=s.ent 5|none
 let some (.row false 9 (.str) i):=s.ent 6|none
 let some (.row false 142 (.pair .str (.sl 122 (.pair (.int .i64) (.pair .str (.int .i64))))) j):=s.ent 7|none
 some (a,b,c,d,e,f,g,i,j)
def fA:Lp oV where
 h:=⟨[67,68,69,70,71,72,73,74,75,78,79,80,81,82,83,84,85,86,87,88,89,90,10,76,77,14],[0,1,2,3,4],[],[]⟩
 JL:=ada
 JE:=ac4
 XL:=adn
 XE:=fun _=>ac4
 q:=fun j=>match j with | _=> .exit 2
 tags:= [0]
 lt:=xu
 fuel:=fun(a,b,c,d,e,f,g,i,k)=>a.natAbs + b.natAbs + c.natAbs + d.size + e.size + f.length + g.length + i.length + k.length
 fix:=fun(_,b,_,d,e,f,g,i,k) (a,_,c,_,_,_,_,_,_)=>(a,b,c,d,e,f,g,i,k)
 σ:= [(0,0),(1,4),(2,5),(3,6),(4,7)]
 rd:=Jt
theorem aa8:LoopOk prog (memN [21,22,23,24,25,28,29,30,31,32,33,34,35,36,37,38,12,39,40,41,42,43,44,45,46,47,13,48,49,50,51,52,53,54,55,56,57,58,59,60,61,62,63,64,65,66,14,67,68,69,70,71,72,73,74,75,78,79,80,81,82,83,84,85,86,87,88,89,90,10,76,77,26,27,11]) fA.F (aab (bB f102 0) 0):=by
 refine Lp.ok (tbl:= (T3z [aV,yM,vP,dR,mU])) (lf:= []) bj fA (by kernel_rfl) (LOk.nil _) (fun _=>rfl) (fun _ _=>rfl) ?_ ?_ ?_ ?_ (fun _=>rfl) ?_
 ·rintro⟨a,b,c,d,e,f,g,i,j⟩;kernel_rfl
 ·rintro⟨a,b,c,d,e,f,g,i,j⟩;kernel_rfl
 ·intro s x h
  have h:Jt s=some x:=h
  unfold Jt at h
  repeat' split at h
  all_goals cases h
  constructor<;>repeat(first|refine ab (by assumption) rfl ?_|refine aa rfl (by assumption) rfl ?_|exact rfl)
 ·rintro⟨a,b,c,d,e,f,g,i,j⟩;kernel_rfl
 ·rintro⟨a,b,c,d,e,f,g,i,j⟩ z;exact(And.intro rfl trivial)
abbrev ti:=Int×Int×asv×asv×List Int×List Int×List asv×List asv×List asv×List (asv×(List (Int×(asv×Int))))×List Int×List (Int×(Int×Int))
section
variable (a b:Int)(c d:asv)(e f:arG)(g i j:List asv)(k:ag4)(l:arG)(m:aqe)
def PI:Bool:=ltI a (↑k.length:Int)
def PJ:Bool:=ltN a.toNat k.length
def ry:asv×aow:=v4 k[j8 a]? (ub aaZ)
def dD:Int:=wS i ((ry a k).1)
def yk:arG:=Ek c d b g i j k l m e ((ry a k).2)
def ym:Int:=wS j ((ry a k).1)
def PK:Int×Int×Int×asv×asv×List asv×List asv×List asv×ajC:=((0:Int),a,b,c,d,g,i,j,k)
def Ir:Int:=Ej c d b g i j k l m e ((ry a k).2)
def En:Bool:=PI a k
def Rv:Bool:=leI 0 a
def Rw:Bool:=PJ a k
def Rx:Bool:=Em c d b g i j k l m e ((ry a k).2)
def Zn:Bool:=leN i.length (9223372036854775807:Nat)
def Ry:Bool:= !leI 0 (dD a i k)||leI 0 (dD a i k)
def Rz:Bool:= !leI 0 (dD a i k)||ltI (dD a i k) (↑(j9 (yk a b c d e g i j k l m)):Int)
def RA:Bool:= !leI 0 (dD a i k)||ltN (j8 (dD a i k)) (j9 (yk a b c d e g i j k l m))
def RB:Bool:=leI 0 (dD a i k)||leI 0 a
def RC:Bool:=leI 0 (dD a i k)||PI a k
def Py:Bool:=leI 0 (dD a i k)||PJ a k
def Pz:Bool:=leI 0 (dD a i k)||leN j.length (9223372036854775807:Nat)
def PA:Bool:=leI 0 (dD a i k)||leI 0 (ym a j k)
def PB:Bool:=leI 0 (dD a i k)||ltI (ym a j k) (↑f.length:Int)
def PC:Bool:=leI 0 (dD a i k)||ltN (j8 (ym a j k)) f.length
def XZ:Bool:=Lp.fin fA (PK a b c d g i j k)
def Ya:Int:=v5 .i64 (a + (1:Int))
def PD:Int:=((Lp.res fA (PK a b c d g i j k)).2.2.2).1
def PE:arG:=bif leI 0 (dD a i k)then f else List.set f (j8 (ym a j k)) (Ir a b c d e g i j k l m)
def PG:arG:=bif leI 0 (dD a i k)then List.set (yk a b c d e g i j k l m) (j8 (dD a i k)) (Ir a b c d e g i j k l m)else yk a b c d e g i j k l m
def PH:aqe:=El c d b g i j k l m e ((ry a k).2)
end
def ahx:ti→List (Nat×SV)
 |(a,b,_,_,_,_,_,_,_,_,_,_)=> [(11,(.one ⟨false,[awF a]⟩)),(3,(.one ⟨false,[.ptr 0 0]⟩)),(8,(.one ⟨false,[.ptr 1 0]⟩)),(2,(.one ⟨false,[.ref 2]⟩)),(10,(.one ⟨false,[awF b]⟩)),(9,(.one ⟨false,[.ref 3]⟩))]
def aho:ti→List (Nat×Entry)
 |(_,_,a,b,c,d,e,f,g,i,j,k)=> [(0,(.box 43 [.val (.string a),.ref 4,.ref 5,.ref 6,.val (.string b),.ref 7])),(1,(.box 50 [.ref 8,.ref 9])),(2,(.row false 2 aox c)),(3,(.row true 2 aox d)),(4,(.row false 9 arE e)),(5,(.row false 9 arE f)),(6,(.row false 9 arE g)),(7,(.row false 142 aaZ i)),(8,(.row true 2 aox j)),(9,(.row true 109 abx k))]
def ahP:Nat→ti→List (Nat×SV)
 |_,(_,_,_,_,_,_,_,_,_,_,_,_)=> []
def Ca:ti→LT ti
 |(a,b,c,d,e,f,g,i,j,k,l,m)=> .ite (En a k) (.need [Rv a,En a k,Rw a k,Rx a b c d e g i j k l m] (.need [Rv a,En a k,Rw a k,Zn i] (.need [Ry a i k,Rz a b c d e g i j k l m,RA a b c d e g i j k l m,RB a i k,RC a i k,Py a i k,Pz a i j k,PA a i j k,PB a f i j k,PC a f i j k] (.need [XZ a b c d g i j k] (.nrm ((Ya a),PD a b c d g i j k,c,d,e,PE a b c d e f g i j k l m,g,i,j,k,PG a b c d e g i j k l m,(PH a b c d e g i j k l m)) [(0,0),(1,1),(2,2),(3,3),(4,4),(5,5),(6,6),(7,7),(8,8),(9,9)]))))) (.ext 0 [(0,0),(1,1),(2,2),(3,3),(4,4),(5,5),(6,6),(7,7),(8,8),(9,9)])
def OX(s:St):Option ti:=do
 let some ⟨none,.one ⟨false,[.val (.int .i64 a)]⟩⟩:=s.look 11|none
 let some ⟨none,.one ⟨false,[.ptr 512 0]⟩⟩:=s.look 3|none
 let some ⟨none,.one ⟨false,[.ptr 896 0]⟩⟩:=s.look 8|none
 let some ⟨none,.one ⟨false,[.ref 6]⟩⟩:=s.look 2|none
 let some ⟨none,.one ⟨false,[.val (.int .i64 b)]⟩⟩:=s.look 10|none
 let some ⟨none,.one ⟨false,[.ref 1216]⟩⟩:=s.look 9|none
 let some (.box 43 [.val (.string c),.ref 0,.ref 1,.ref 2,.val (.string d),.ref 3]):=s.ent 512|none
 let some (.box 50 [.ref 832,.ref 833]):=s.ent 896|none
 let some (.row false 2 (.int .i64) e):=s.ent 6|none
 let some (.row true 2 (.int .i64) f):=s.ent 1216|none
 let some (.row false 9 (.str) g):=s.ent 0|none
 let some (.row false 9 (.str) i):=s.ent 1|none
 let some (.row false 9 (.str) j):=s.ent 2|none
 let some (.row false 142 (.pair .str (.sl 122 (.pair (.int .i64) (.pair .str (.int .i64))))) k):=s.ent 3|none
 let some (.row true 2 (.int .i64) l):=s.ent 832|none
 let some (.row true 109 (.pair (.int .i64) (.pair (.int .i64) (.int .i64))) m):=s.ent 833|none
 some (a,b,c,d,e,f,g,i,j,k,l,m)
def im:Lp ti where
 h:=⟨[21,22,23,24,25,28,29,30,31,32,33,34,35,36,37,38,12,39,40,41,42,43,44,45,46,47,13,48,49,50,51,52,53,54,55,56,57,58,59,60,61,62,63,64,65,66,14,67,68,69,70,71,72,73,74,75,78,79,80,81,82,83,84,85,86,87,88,89,90,10,76,77,26,27,11],[0,1,2,3,4,5,6,7,8,9],[],[]⟩
 JL:=ahx
 JE:=aho
 XL:=ahP
 XE:=fun _=>aho
 q:=fun j=>match j with | _=> .exit 0
 tags:= [0]
 lt:=Ca
 fuel:=fun(a,b,c,d,e,f,g,i,k,l,m,n)=>a.natAbs + b.natAbs + c.size + d.size + e.length + f.length + g.length + i.length + k.length + l.length + m.length + n.length
 fix:=fun(_,_,c,d,e,_,g,i,k,l,_,_) (a,b,_,_,_,f,_,_,_,_,m,n)=>(a,b,c,d,e,f,g,i,k,l,m,n)
 σ:= [(0,512),(1,896),(2,6),(3,1216),(4,0),(5,1),(6,2),(7,3),(8,832),(9,833)]
 rd:=OX
theorem aeV:LoopOk prog (fun k=>Nat.blt k Tryz.f102.ntmps) im.F (bB f102 0):=by
 refine Lp.ok (tbl:= (T3z [aV,yM,vP,dR,mU])) (lf:= [fA.F]) bj im (by kernel_rfl) (LOk.allT (l:= [aab (bB f102 0) 0]) (by kernel_rfl) (.cons aa8 (.nil _))) (fun _=>rfl) (fun _ _=>rfl) ?_ ?_ ?_ ?_ (fun _=>rfl) ?_
 ·rintro⟨a,b,c,d,e,f,g,i,j,m,n,o⟩;kernel_rfl
 ·rintro⟨a,b,c,d,e,f,g,i,j,m,n,o⟩;kernel_rfl
 ·intro s x h
  have h:OX s=some x:=h
  unfold OX at h
  repeat' split at h
  all_goals cases h
  constructor<;>repeat(first|refine ab (by assumption) rfl ?_|refine aa rfl (by assumption) rfl ?_|exact rfl)
 ·rintro⟨a,b,c,d,e,f,g,i,j,m,n,o⟩;kernel_rfl
 ·rintro⟨a,b,c,d,e,f,g,i,j,m,n,o⟩ z;exact(And.intro rfl trivial)
def DF(a:asv):Bool:=
 !ByteArray.toList a==ByteArray.toList { data:= #[] }
section
variable (a b:asv)(c d e:List asv)(f:ajC)(g:arG)(i:aq5)(j:arG)
def On:arG:=v6 (j8 (↑e.length:Int)) (0:Int)
def IO:Int×Int×asv×asv×arG×arG×List asv×List asv×List asv×ajC×arG×aq5:=((0:Int),(0:Int),a,b,j,On e,c,d,e,f,g,i)
def Oo:arG×List asv×List asv×List asv×ajC×arG×aq5:=(Lp.res im (IO a b c d e f g i j)).2.2.2.2.2.2
def Oq:arG×aq5:=(Oo a b c d e f g i j).2.2.2.2.2
def DG:arG:=(Oq a b c d e f g i j).1
def uf:Bool:=bif DF b then wN b c d (DG a b c d e f g i j) j==0 else false
def Ot:arG:=bif DF b&&true then DG a b c d e f g i j else DG a b c d e f g i j
def Ou:aq5:=(Oq a b c d e f g i j).2
def Ov:aq5:=bif DF b&&true then Ou a b c d e f g i j else Ou a b c d e f g i j
def Tu:Bool:=leI (↑e.length:Int) (↑e.length:Int)
def Tv:Bool:=leI ((↑(8:Nat):Int) * (↑e.length:Int)) 281474976710656
def XV:arG:=bif uf a b c d e f g i j then On e else (Oo a b c d e f g i j).1
def XW:arG:=bif uf a b c d e f g i j then Ot a b c d e f g i j else Ot a b c d e f g i j
def XX:aqe:=bif uf a b c d e f g i j then Ov a b c d e f g i j else Ov a b c d e f g i j
def XY:Bool:=allT [TT g i,leI 0 (↑e.length:Int),Tu e,Tv e,leI (↑e.length:Int) 9223372036854775807,Lp.fin im (IO a b c d e f g i j),!(DF b&&true)||wO b c d (DG a b c d e f g i j) j,!uf a b c d e f g i j||leI 0 (↑e.length:Int),!uf a b c d e f g i j||Tu e,!uf a b c d e f g i j||Tv e,!uf a b c d e f g i j||leI (↑e.length:Int) 9223372036854775807]
end
def adW:awE
 | [.one ⟨true,[.val (.string a),.ref 0,.ref 1,.ref 2,.val (.string b),.ref 3]⟩,.one ⟨true,[.ref 4,.ref 5]⟩,.one ⟨false,[.ref 6]⟩],[.row false 9 (.str) c,.row false 9 (.str) d,.row false 9 (.str) e,.row false 142 (.pair (.str) (.sl 122 (.pair (.int .i64) (.pair (.str) (.int .i64))))) f,.row false 2 (.int .i64) g,.row false 109 (.pair (.int .i64) (.pair (.int .i64) (.int .i64))) i,.row false 2 (.int .i64) j]=>some ⟨.tup [⟨false,[.ref 7]⟩,⟨true,[.ref 8,.ref 9]⟩],[.row false 9 arE c,.row false 9 arE d,.row false 9 arE e,.row false 142 (CTy.pair CTy.str (CTy.sl (122:TypeId) ab5)) f,.row false 2 aox g,.row false 109 abx i,.row false 2 aox j],[.row true 2 aox (XV a b c d e f g i j),.row true 2 aox (XW a b c d e f g i j),.row true 109 abx (XX a b c d e f g i j)],[XY a b c d e f g i j]⟩
 |_,_=>none
def anm:PF prog:=PF.ofG prog (T3z [aV,yM,vP,dR,mU]) [im.F] bj 102 f102 func102 (LOk.fnT (l:= [bB f102 0]) (by kernel_rfl) (.cons aeV (.nil _))) adW (by
 intro _ _ _ h;unfold adW at h;split at h<;>cases h;kernel_rfl)
theorem asW{a b:Int}(ha:a=0∨a=1)(hb:b=0∨b=1):IntKind.i64.wrap ((BitVec.toNat (BitVec.ofInt (IntKind.bits IntKind.i64) a&&& BitVec.ofInt (IntKind.bits IntKind.i64) b):Nat):Int)=anO a b:=by
 rcases ha with rfl | rfl <;> rcases hb with rfl | rfl <;> rfl
theorem at6{a b:Int}(ha:a=0∨a=1)(hb:b=0∨b=1):IntKind.i64.wrap ((BitVec.toNat (BitVec.ofInt (IntKind.bits IntKind.i64) a||| BitVec.ofInt (IntKind.bits IntKind.i64) b):Nat):Int)=orI a b:=by
 rcases ha with rfl | rfl <;> rcases hb with rfl | rfl <;> rfl
theorem at4{a:Int}(ha:a=0∨a=1):IntKind.i64.wrap (1 - a)=1 - a:=by rcases ha with rfl | rfl <;> rfl
theorem afF{l:List asv}{s:asv}(h:Hn l s=true):wS l s=(abk l s:Int):=by simp only [wS,h,cond_true]
theorem aq0(s:asv)(ins vs:List asv)(inp xs:arG)(hr:ahe ins vs s=true)(h1:leN ins.length 9223372036854775807=true)(h2:leN vs.length 9223372036854775807=true)(hi:inp.length=ins.length)(hx:xs.length=vs.length):
  wN s ins vs xs inp=nmV ins vs inp xs s∧wO s ins vs xs inp=true:=by
 cases h:Hn ins s with
 |true=>
  have e:=afF h
  have hp:=ajU h
  have l0:leI 0 (abk ins s:Int)=true:=aS (by omega)
  have l1:ltI (abk ins s:Int) (inp.length:Int)=true:=cI (by omega)
  have l2:ltN (abk ins s) inp.length=true:=dE (by omega)
  refine⟨?_,?_⟩
  ·simp only [wN,nmV,h,e,l0,cond_true];rfl
  ·simp only [wO,e,l0,l1,l2,h1,h2,allT,w5,w8,Bool.true_or,cond_true]
 |false=>
  have hv:Hn vs s=true:=by simpa [ahe,h] using hr
  have e0:leI 0 (wS ins s)=false:=by rw [ah6,h]
  have e:=afF hv
  have hp:=ajU hv
  have l0:leI 0 (abk vs s:Int)=true:=aS (by omega)
  have l1:ltI (abk vs s:Int) (xs.length:Int)=true:=cI (by omega)
  have l2:ltN (abk vs s) xs.length=true:=dE (by omega)
  refine⟨?_,?_⟩
  ·simp only [wN,nmV,h,e0,e,cond_false];rfl
  ·simp only [wO,e0,e,l0,l1,l2,h1,h2,allT,w5,w8,Bool.true_or,Bool.not_false,cond_true]
structure TmOk (ins vs:List asv) (inp xs:arG) (t:TM) (ar:arG) (k:Nat) (ss:List BS3):Prop where
 hT:termB t.1 t.2.1 t.2.2=true
 ha:bitsB (takesK t.1) ar=true
 hu:usedB ins vs t=true
 h1:leN ins.length 9223372036854775807=true
 h2:leN vs.length 9223372036854775807=true
 hi:inp.length=ins.length
 hx:xs.length=vs.length
 hb:leI 7 t.1=true→k < ss.length∧possB t.1 t.2.2 (stAt ss k).1 (stAt ss k).2.1 (stAt ss k).2.2=true
 hs:ss.length≤100000
theorem asr(ins vs:List asv)(inp xs:arG): ∀ (ts:List TM) (a:LS),ts.foldl (fun a t=>lnS ins vs inp xs t a) a=amT ins vs inp xs ts a
 | [],a=>rfl
 |t::r,a=>by rw [List.foldl_cons,asr ins vs inp xs r];rfl
structure LineH (ins vs:List asv) (inp xs:arG) (pre post ts:List TM):Prop where
 hi:bitsB ins.length inp=true
 hx:bitsB vs.length xs=true
 ok: ∃ e,htT ts 0=some e
 hu:ts.all (usedB ins vs)=true
 hn:ts.length≤40
 hbl:(pre++blT ts++post).length≤2000
 h1:leN ins.length 9223372036854775807=true
 h2:leN vs.length 9223372036854775807=true
theorem LineH.tm{ins vs:List asv}{inp xs:arG}{pre post ts:List TM}(h:LineH ins vs inp xs pre post ts){i:Nat}{t:TM}{a:LS}(ht:ts[i]? =some t)(hI:aoW pre post ts i a):
  TmOk ins vs inp xs t (a.1.drop (ltk t a.1)) a.2.2 a.2.1∧a.2.2≤a.2.1.length∧a.2.1.length≤2000∧(0≤takesK t.1∧takesK t.1≤a.1.length)∧a.1.length≤40∧aoW pre post ts (i + 1) (lnS ins vs inp xs t a):=by
 obtain⟨e,ok⟩:=h.ok
 obtain⟨g1,g2,g3,g4,g5,g6,g7,g8,g9⟩:=aoC (ins:=ins) (vs:=vs) h.hi h.hx ok ht hI
 have hi2:=(cz.1 h.hi).2
 have hx2:=(cz.1 h.hx).2
 have hil:=(j7.1 ht).1
 have hn:=h.hn
 have hbl:=h.hbl
 refine⟨⟨g3,g4,List.all_eq_true.1 h.hu t (List.mem_of_getElem? ht),h.h1,h.h2,by omega,by omega,fun h7=> ?_,by omega⟩,by omega,by omega,g1,by omega,g9⟩
 obtain⟨q1,q2⟩:=g6 h7
 exact⟨by omega,q2⟩
theorem atV{ins vs:List asv}{inp xs:arG}{pre post ts:List TM}(h:LineH ins vs inp xs pre post ts)(u v:asv)(os:List asv)(ls:List LN)(ss:List BS3)(k:Nat)(h0:aoW pre post ts 0 ([],ss,k)):
  bo.fin ((0:Int),(k:Int),ts,[],u,v,inp,ins,vs,os,ls,xs,ss)=true∧
  bo.res ((0:Int),(k:Int),ts,[],u,v,inp,ins,vs,os,ls,xs,ss)=
   (0,((ts.length:Int),((amT ins vs inp xs ts ([],ss,k)).2.2:Int),ts,(amT ins vs inp xs ts ([],ss,k)).1,u,v,inp,ins,vs,os,ls,xs,(amT ins vs inp xs ts ([],ss,k)).2.1)):=by
 have mO:=bo.along2 (fun i (a:LS)=>((i:Int),(a.2.2:Int),ts,a.1,u,v,inp,ins,vs,os,ls,xs,a.2.1)) (fun x=>(x.2.2.2.1,x.2.2.2.2.2.2.2.2.2.2.2.2,x.2.1.toNat))
  (fun(t:TM) a=> .inr (lnS ins vs inp xs t a)) 0 (fun i a=>aoW pre post ts i a) ts ([],ss,k) h0 (by have:=h.hn;omega) (fun i t a hb hI=> ?_) (fun a hI=> ?_)
 ·rw [abv (g:=fun a t=>lnS ins vs inp xs t a) (fun b a=>rfl),asr]at mO
  simpa using mO
 ·obtain⟨hm,hk,hs,htk,hst,hI2⟩:=h.tm hb hI
  have eG:=(j7.1 hb).1
  have hn:=h.hn
  have hw:IntKind.i64.wrap ((i:Int) + 1)=((i + 1:Nat):Int):=by rw [aR (by omega) (by omega)];omega
  obtain⟨kd,nm,num⟩:=t
  obtain⟨stk,ss',k'⟩:=a
  simp only at hk hs htk hst hm
  have g0:bL (i:Int) ts=(kd,nm,num):=by simp only [bL,w5,hb,Option.getD_some]
  have g1:pN (i:Int) ts stk=((ltk (kd,nm,num) stk:Nat):Int):=by
   simp only [pN,g0,show ew kd=takesK kd from rfl,ltk]
   rw [aR (by omega) (by omega)];omega
  have g2:cC (i:Int) ts stk=stk.drop (ltk (kd,nm,num) stk):=by
   simp only [cC,g1,w5,List.take_length]
  have g3:pO (i:Int) ts stk=stk.take (ltk (kd,nm,num) stk):=by
   simp only [pO,g1,w5,Int.toNat_zero,List.drop_zero]
  have q4:aI (i:Int) ts=(kd==1):=by simp only [aI,g0]
  have q5:aM (i:Int) ts=(kd==2):=by simp only [aM,g0]
  have q6:aN (i:Int) ts=(kd==3):=by simp only [aN,g0]
  have q7:aO (i:Int) ts=(kd==4):=by simp only [aO,g0]
  have q10:bc (i:Int) ts=(kd==5):=by simp only [bc,g0]
  have q13:cv (i:Int) ts=(kd==6):=by simp only [cv,g0]
  have q15:dH (k':Int) ss'=stAt ss' k':=by simp only [dH,w5,stAt]
  obtain⟨hT,ha,hu,h1,h2,hi,hx,hb7,hss⟩:=hm
  have hkk:=aoU hT
  simp only at hT ha hu hb7 hkk
  have hbits:=(cz.1 ha).1
  have nK:=(cz.1 ha).2
  generalize hA:stk.drop (ltk (kd,nm,num) stk)=ar at g2 ha hbits nK
  have a0:=Hl hbits 0
  have a1:=Hl hbits 1
  have e14:sG (i:Int) ts stk=atZ ar 0:=by simp only [sG,g2];rfl
  have e1:v4 ar[j8 (1:Int)]? (0:Int)=atZ ar 1:=rfl
  have hlk:ltk (kd,nm,num) stk≤stk.length:=Nat.sub_le _ _
  have l0:ltI (i:Int) (ts.length:Int)=true:=cI (by omega)
  have l1:leI 0 (i:Int)=true:=aS (by omega)
  have l2:ltN i ts.length=true:=dE eG
  have l3:leI 0 ((ltk (kd,nm,num) stk:Nat):Int)=true:=aS (by omega)
  have l4:leI ((ltk (kd,nm,num) stk:Nat):Int) (stk.length:Int)=true:=aS (by omega)
  have l5:leI (stk.length:Int) (stk.length:Int)=true:=aS (by omega)
  have hal:ar.length≤40:=by rw [← hA,List.length_drop];omega
  have l6:leN ar.length 1048576=true:=aG (by omega)
  have l6b:leN (List.take (ltk (kd,nm,num) stk) stk).length 1048576=true:=aG (by rw [List.length_take];omega)
  have l7:leN ((List.take (ltk (kd,nm,num) stk) stk).length + 1) 9223372036854775807=true:=aG (by rw [List.length_take];omega)
  have l8:leN (((List.take (ltk (kd,nm,num) stk) stk).length + 1) * 8) 140737488355328=true:=aG (by rw [List.length_take];omega)
  have z00:leI (0:Int) 0=true:=rfl
  have z01:leI (0:Int) 1=true:=rfl
  have c:iT (i:Int) ts xs=xs:=w9 _ _
  have hfin:bz (i:Int) (k':Int) ts stk inp ins vs xs ss'= [tmV ins vs inp xs (kd,nm,num) ar (stAt ss' k')]∧
    cj (i:Int) (k':Int) ts=((bif leI 7 kd then k' + 1 else k':Nat):Int)∧ck (i:Int) (k':Int) ts stk ss'=(bif leI 7 kd then ss'.set k' (QJ kd num ar (stAt ss' k'))else ss')∧
    (bo.lt ((i:Int),(k':Int),ts,stk,u,v,inp,ins,vs,os,ls,xs,ss')).nds=true:=by
   have hc:kd=1∨kd=2∨kd=3∨kd=4∨kd=5∨kd=6∨(7≤kd∧kd≤12):=by omega
   have n29: ∀ z:Int,leN (j9 (List.take (ltk (kd,nm,num) stk) stk) + j9 [z]) 9223372036854775807=true:=fun z=>l7
   have n30: ∀ z:Int,leN ((j9 (List.take (ltk (kd,nm,num) stk) stk) + j9 [z]) * 8) 140737488355328=true:=fun z=>l8
   rcases hc with rfl | rfl | rfl | rfl | rfl | rfl | hc
   ·have hr:ahe ins vs nm=true:=by simpa [usedB] using hu
    obtain⟨v1,v2⟩:=aq0 nm ins vs inp xs hr h1 h2 hi hx
    have hv:bz (i:Int) (k':Int) ts stk inp ins vs xs ss'= [tmV ins vs inp xs (1,nm,num) ar (stAt ss' k')]:=by simp [bz,tmV,q4,g0,v1]
    refine⟨hv,?_,?_,?_⟩
    ·simp [cj,q4,show leI 7 (1:Int)=false from rfl]
    ·simp [ck,q4,show leI 7 (1:Int)=false from rfl]
    ·simp only [ez,lR,lS,jG,jH,lT,lU,lV,lW,lX,kC,kD,kE,kF,kG,kH,kI,kJ,kK,kL,kM,kN,kO,kP,kQ,iO,iP,iQ,kR,kS,kT,iR,cj,iS,iT,ck,eS,bo,LT.nds,allT,g0,g1,g2,g3,q4,q5,q6,q7,q10,q13,hv,v2,l0,l1,l2,l3,l4,l5,l6,l6b,n29,n30,z00,w5];rfl
   ·have hv:bz (i:Int) (k':Int) ts stk inp ins vs xs ss'= [tmV ins vs inp xs (2,nm,num) ar (stAt ss' k')]:=by simp [bz,tmV,q4,q5]
    refine⟨hv,?_,?_,?_⟩
    ·simp [cj,q4,q5,show leI 7 (2:Int)=false from rfl]
    ·simp [ck,q4,q5,show leI 7 (2:Int)=false from rfl]
    ·simp only [ez,lR,lS,jG,jH,lT,lU,lV,lW,lX,kC,kD,kE,kF,kG,kH,kI,kJ,kK,kL,kM,kN,kO,kP,kQ,iO,iP,iQ,kR,kS,kT,iR,cj,iS,iT,ck,eS,bo,LT.nds,allT,g0,g1,g2,g3,q4,q5,q6,q7,q10,q13,hv,l0,l1,l2,l3,l4,l5,l6,l6b,n29,n30,z00,w5];rfl
   ·have hv:bz (i:Int) (k':Int) ts stk inp ins vs xs ss'= [tmV ins vs inp xs (3,nm,num) ar (stAt ss' k')]:=by simp [bz,tmV,q4,q5,q6]
    refine⟨hv,?_,?_,?_⟩
    ·simp [cj,q4,q5,q6,show leI 7 (3:Int)=false from rfl]
    ·simp [ck,q4,q5,q6,show leI 7 (3:Int)=false from rfl]
    ·simp only [ez,lR,lS,jG,jH,lT,lU,lV,lW,lX,kC,kD,kE,kF,kG,kH,kI,kJ,kK,kL,kM,kN,kO,kP,kQ,iO,iP,iQ,kR,kS,kT,iR,cj,iS,iT,ck,eS,bo,LT.nds,allT,g0,g1,g2,g3,q4,q5,q6,q7,q10,q13,hv,l0,l1,l2,l3,l4,l5,l6,l6b,n29,n30,z00,w5];rfl
   ·have t:takesK 4=1:=rfl
    rw [t]at nK
    have s1:iU (i:Int) ts stk=true:=by simp only [iU,g2];exact cI (by omega)
    have s2:iV (i:Int) ts stk=true:=by simp only [iV,g2];exact dE (by simp only [Int.toNat_zero];omega)
    have hv:bz (i:Int) (k':Int) ts stk inp ins vs xs ss'= [tmV ins vs inp xs (4,nm,num) ar (stAt ss' k')]:=by simp [bz,tmV,q4,q5,q6,q7,e14,at4 a0]
    refine⟨hv,?_,?_,?_⟩
    ·simp [cj,q4,q5,q6,q7,show leI 7 (4:Int)=false from rfl]
    ·simp [ck,q4,q5,q6,q7,show leI 7 (4:Int)=false from rfl]
    ·simp only [ez,lR,lS,jG,jH,lT,lU,lV,lW,lX,kC,kD,kE,kF,kG,kH,kI,kJ,kK,kL,kM,kN,kO,kP,kQ,iO,iP,iQ,kR,kS,kT,iR,cj,iS,iT,ck,eS,bo,LT.nds,allT,g0,g1,g2,g3,q4,q5,q6,q7,q10,q13,s1,s2,hv,l0,l1,l2,l3,l4,l5,l6,l6b,n29,n30,z00,w5];rfl
   ·have t:takesK 5=2:=rfl
    rw [t]at nK
    have s1:iU (i:Int) ts stk=true:=by simp only [iU,g2];exact cI (by omega)
    have s2:iV (i:Int) ts stk=true:=by simp only [iV,g2];exact dE (by simp only [Int.toNat_zero];omega)
    have s3:pd (i:Int) ts stk=true:=by simp only [pd,g2];exact cI (by omega)
    have s4:pe (i:Int) ts stk=true:=by simp only [pe,g2];exact dE (by have:(j8 1)=1:=rfl;omega)
    have hv:bz (i:Int) (k':Int) ts stk inp ins vs xs ss'= [tmV ins vs inp xs (5,nm,num) ar (stAt ss' k')]:=by
     have:=asW a0 a1
     simp only [bz,tmV,q4,q5,q6,q7,q10,e14,g2,e1,this];rfl
    refine⟨hv,?_,?_,?_⟩
    ·simp [cj,q4,q5,q6,q7,q10,show leI 7 (5:Int)=false from rfl]
    ·simp [ck,q4,q5,q6,q7,q10,show leI 7 (5:Int)=false from rfl]
    ·simp only [ez,lR,lS,jG,jH,lT,lU,lV,lW,lX,kC,kD,kE,kF,kG,kH,kI,kJ,kK,kL,kM,kN,kO,kP,kQ,iO,iP,iQ,kR,kS,kT,iR,cj,iS,iT,ck,eS,bo,LT.nds,allT,g0,g1,g2,g3,q4,q5,q6,q7,q10,q13,s1,s2,s3,s4,hv,l0,l1,l2,l3,l4,l5,l6,l6b,n29,n30,z00,z01,w5];rfl
   ·have t:takesK 6=2:=rfl
    rw [t]at nK
    have s1:iU (i:Int) ts stk=true:=by simp only [iU,g2];exact cI (by omega)
    have s2:iV (i:Int) ts stk=true:=by simp only [iV,g2];exact dE (by simp only [Int.toNat_zero];omega)
    have s3:pd (i:Int) ts stk=true:=by simp only [pd,g2];exact cI (by omega)
    have s4:pe (i:Int) ts stk=true:=by simp only [pe,g2];exact dE (by have:(j8 1)=1:=rfl;omega)
    have hv:bz (i:Int) (k':Int) ts stk inp ins vs xs ss'= [tmV ins vs inp xs (6,nm,num) ar (stAt ss' k')]:=by
     have:=at6 a0 a1
     simp only [bz,tmV,q4,q5,q6,q7,q10,q13,e14,g2,e1,this];rfl
    refine⟨hv,?_,?_,?_⟩
    ·simp [cj,q4,q5,q6,q7,q10,q13,show leI 7 (6:Int)=false from rfl]
    ·simp [ck,q4,q5,q6,q7,q10,q13,show leI 7 (6:Int)=false from rfl]
    ·simp only [ez,lR,lS,jG,jH,lT,lU,lV,lW,lX,kC,kD,kE,kF,kG,kH,kI,kJ,kK,kL,kM,kN,kO,kP,kQ,iO,iP,iQ,kR,kS,kT,iR,cj,iS,iT,ck,eS,bo,LT.nds,allT,g0,g1,g2,g3,q4,q5,q6,q7,q10,q13,s1,s2,s3,s4,hv,l0,l1,l2,l3,l4,l5,l6,l6b,n29,n30,z00,z01,w5];rfl
   ·have q:leI 7 kd=true:=aS hc.1
    obtain⟨b1,b2⟩:=hb7 q
    have hB:=acl (t:=(kd,nm,num)) hT q
    simp only at hB
    obtain⟨p0,p1,p2,p3,p4,p5,p6⟩:=amd hB b2 ha
    have t1:(kd==1)=false:=by simp;omega
    have t2:(kd==2)=false:=by simp;omega
    have t3:(kd==3)=false:=by simp;omega
    have t4:(kd==4)=false:=by simp;omega
    have t5:(kd==5)=false:=by simp;omega
    have t6:(kd==6)=false:=by simp;omega
    have m0:leI 0 (k':Int)=true:=aS (by omega)
    have m1:ltI (k':Int) (ss'.length:Int)=true:=cI (by omega)
    have m2:ltN k' ss'.length=true:=dE b1
    have hw2:IntKind.i64.wrap ((k':Int) + 1)=((k' + 1:Nat):Int):=by rw [aR (by omega) (by omega)];omega
    have hv:bz (i:Int) (k':Int) ts stk inp ins vs xs ss'= [tmV ins vs inp xs (kd,nm,num) ar (stAt ss' k')]:=by
     simp only [bz,tmV,q4,q5,q6,q7,q10,q13,t1,t2,t3,t4,t5,t6,cond_false,g0,q15,g2,asb]
    refine⟨hv,?_,?_,?_⟩
    ·simp only [cj,q4,q5,q6,q7,q10,q13,t1,t2,t3,t4,t5,t6,cond_false,q,cond_true,hw2]
    ·simp only [ck,q4,q5,q6,q7,q10,q13,t1,t2,t3,t4,t5,t6,cond_false,q,cond_true,g0,q15,g2,QJ,w5]
    ·simp only [ez,lR,lS,jG,jH,lT,lU,lV,lW,lX,kC,kD,kE,kF,kG,kH,kI,kJ,kK,kL,kM,kN,kO,kP,kQ,iO,iP,iQ,kR,kS,kT,iR,cj,iS,iT,ck,eS,bo,LT.nds,allT,g0,g1,g2,g3,q4,q5,q6,q7,q10,q13,t1,t2,t3,t4,t5,t6,hv,p5,m0,m1,m2,l0,l1,l2,l3,l4,l5,l6,l6b,n29,n30,z00,z01,w5];rfl
  obtain⟨f1,f2,f3,f4⟩:=hfin
  refine⟨f4,?_,?_,fun a' hf=> ?_⟩
  ·have c31:iR (i:Int)=((i + 1:Nat):Int):=hw
   have c0:ez (i:Int) ts=true:=l0
   simp only [bo,eS,LT.each,c0,c31,f2,c,w5]
   simp
  ·have c0:ez (i:Int) ts=true:=l0
   simp only [bo,eS,LT.fn,c0,cond_true,iS,f1,f2,f3,g3,w5,lnS,hA]
  ·simp only [Sum.inr.injEq]at hf
   subst hf;exact hI2
 ·have jY:ez (ts.length:Int) ts=false:=yV (by omega)
  simp only [bo,eS,LT.out,jY]
  rfl
structure ScH (ins vs os:List asv) (inp:arG) (ls:List LN):Prop where
 hi:bitsB ins.length inp=true
 hL:ls.all lineB=true
 hm:ls.all (madeB vs os)=true
 hu:ls.all (fun l=>l.2.all (usedB ins vs))=true
 hn:ls.length≤40
 h1:ins.length≤20
 h2:vs.length≤20
 h3:os.length≤20
theorem atv: ∀ (ls:List LN),ls.all lineB=true→(blL ls).length≤40 * ls.length
 | [],_=>by simp [blL]
 |l::r,h=>by
  simp only [List.all_cons,q9]at h
  have h1:=atv r h.2
  have h2:=(ajH h.1).2.1
  have h3:(blT l.2).length≤l.2.length:=List.length_filter_le ..
  have h4:blL (l::r)=blT l.2++blL r:=rfl
  rw [h4,List.length_append,List.length_cons]
  omega
theorem ScH.bl{ins vs os:List asv}{inp:arG}{ls:List LN}(h:ScH ins vs os inp ls):(blL ls).length≤1600:=by
 have:=atv ls h.hL
 have:=h.hn
 omega
theorem ScH.line{ins vs os:List asv}{inp:arG}{ls:List LN}(h:ScH ins vs os inp ls){i:Nat}{a:SS4}{l:LN}(hl:ls[i]? =some l)(hI:ScAt vs os ls i a):
  LineH ins vs inp a.1 (blL (ls.take i)) (blL (ls.drop (i + 1))) l.2:=by
 have hm:=List.mem_of_getElem? hl
 obtain⟨q1,q2,q3⟩:=ajH (List.all_eq_true.1 h.hL l hm)
 have h1:=h.h1
 have h2:=h.h2
 have hb:=h.bl
 rw [(afm hl).1]at hb
 exact⟨h.hi,hI.hx,⟨1,q3⟩,List.all_eq_true.1 h.hu l hm,q2,by omega,aG (by omega),aG (by omega)⟩
theorem atU{ins vs os:List asv}{inp:arG}{ls:List LN}(h:ScH ins vs os inp ls){i:Nat}{a:SS4}{l:LN}(hl:ls[i]? =some l)(hI:ScAt vs os ls i a)(u v:asv):
  Ej u v (a.2.2.2:Int) ins vs os ls a.1 a.2.2.1 inp l.2=atZ (lnV ins vs inp l a).1 0∧
  Ek u v (a.2.2.2:Int) ins vs os ls a.1 a.2.2.1 inp l.2=a.1∧
  El u v (a.2.2.2:Int) ins vs os ls a.1 a.2.2.1 inp l.2=(scS ins vs os inp l a).2.2.1∧
  Em u v (a.2.2.2:Int) ins vs os ls a.1 a.2.2.1 inp l.2=true:=by
 obtain⟨w1,w2⟩:=atV (h.line hl hI) u v os ls a.2.2.1 a.2.2.2 (aoR hl hI)
 have hm:=List.mem_of_getElem? hl
 obtain⟨g1,g2,g3⟩:=ak2 (ins:=ins) (inp:=inp) h.hi (List.all_eq_true.1 h.hL l hm) hl hI
 rw [show amT ins vs inp a.1 l.2 ([],a.2.2.1,a.2.2.2)=lnV ins vs inp l a from rfl]at w2
 have e2:xH u v (a.2.2.2:Int) ins vs os ls a.1 a.2.2.1 inp l.2=(lnV ins vs inp l a).1:=by
  simp only [xH,xG,tN,w2]
 have z0:leI (0:Int) 0=true:=rfl
 have k1:ltI 0 ((lnV ins vs inp l a).1.length:Int)=true:=by rw [g1];rfl
 have k2:ltN (j8 0) (lnV ins vs inp l a).1.length=true:=by rw [g1];rfl
 have hf:Lp.fin bo (tN u v (a.2.2.2:Int) ins vs os ls a.1 a.2.2.1 inp l.2)=true:=w1
 refine⟨?_,?_,?_,?_⟩
 ·simp only [Ej,e2];rfl
 ·simp only [Ek,Dh,xG,tN,w2]
 ·simp only [El,Dh,xG,tN,w2,scS]
 ·simp only [Em,hf,e2,z0,k1,k2,allT,cond_true]
def arp(n:Nat)(t:TM):Nat:=bif leI 7 t.1 then n + 1 else n
theorem aos: ∀ (ts:List TM) (n:Nat),ts.foldl arp n=n + (blT ts).length
 | [],n=>by simp [blT]
 |t::r,n=>by
  rw [List.foldl_cons,aos r]
  simp only [arp,blT,List.filter_cons]
  cases leI 7 t.1 <;> simp <;> omega
theorem avj(u v:asv)(ins vs os:List asv)(ls:List LN){i k:Nat}{l:LN}(hl:ls[i]? =some l)(hn:l.2.length≤40)(hk:k≤2000):
  fA.fin ((0:Int),(i:Int),(k:Int),u,v,ins,vs,os,ls)=true∧
  fA.res ((0:Int),(i:Int),(k:Int),u,v,ins,vs,os,ls)=(0,((l.2.length:Int),(i:Int),((k + (blT l.2).length:Nat):Int),u,v,ins,vs,os,ls)):=by
 have eG:=(j7.1 hl).1
 have n0:leI 0 (i:Int)=true:=aS (by omega)
 have n1:ltI (i:Int) (ls.length:Int)=true:=cI (by omega)
 have n2:ltN i ls.length=true:=dE eG
 have px: ∀ d:LN,v4 ls[i]? d=l:=fun d=>by rw [hl];rfl
 have g0:xI (i:Int) ls=l.2:=by simp only [xI,w5];exact congrArg Prod.snd (px _)
 have mO:=fA.along2 (fun j (a:Nat)=>((j:Int),(i:Int),(a:Int),u,v,ins,vs,os,ls)) (fun x=>x.2.2.1.toNat)
  (fun(t:TM) a=> .inr (arp a t)) 0 (fun j a=>a≤k + j) l.2 k (by omega) (by omega) (fun j t a hb hI=> ?_) (fun a hI=> ?_)
 ·rw [abv (g:=arp) (fun b a=>rfl),aos]at mO
  simpa using mO
 ·have hjt:=(j7.1 hb).1
  have hw:IntKind.i64.wrap ((j:Int) + 1)=((j + 1:Nat):Int):=by rw [aR (by omega) (by omega)];omega
  have hw2:IntKind.i64.wrap ((a:Int) + 1)=((a + 1:Nat):Int):=by rw [aR (by omega) (by omega)];omega
  have l0:leI 0 (j:Int)=true:=aS (by omega)
  have l1:ltI (j:Int) (l.2.length:Int)=true:=cI (by omega)
  have l2:ltN j l.2.length=true:=dE hjt
  have c7:LI (j:Int) (i:Int) (a:Int) ls=((arp a t:Nat):Int):=by
   simp only [LI,g0,w5,hb,Option.getD_some,hw2,arp]
   cases leI 7 t.1 <;> rfl
  refine⟨?_,?_,?_,fun a' hf=> ?_⟩
  ·simp only [fA,xu,Eo,Ep,Er,vf,UF,UG,LT.nds,allT,g0,n0,n1,n2,l0,l1,l2,w5,cond_true,Bool.and_self]
  ·simp only [fA,xu,vf,UH,LT.each,c7,g0,l1,hw,w5,Bool.and_true,and_self]
  ·simp only [fA,xu,vf,LT.fn,c7,g0,l1,w5,cond_true]
  ·simp only [Sum.inr.injEq]at hf
   subst hf
   simp only [arp]
   cases leI 7 t.1 <;> simp <;> omega
 ·have jY:ltI (l.2.length:Int) (l.2.length:Int)=false:=yV (by omega)
  simp [fA,xu,Eo,Ep,Er,vf,LT.out,g0,n0,n1,n2,jY,allT]
theorem ass(ins vs os:List asv)(inp:arG): ∀ (ls:List LN) (a:SS4),ls.foldl (fun a l=>scS ins vs os inp l a) a=ar5 ins vs os inp ls a
 | [],a=>rfl
 |l::r,a=>by rw [List.foldl_cons,ass ins vs os inp r];rfl
theorem aug{ins vs os:List asv}{inp xs:arG}{ss:List BS3}{ls:List LN}(h:ScH ins vs os inp ls)(hs:lB vs.length (blL ls) xs ss=true)(u v:asv):
  im.fin ((0:Int),(0:Int),u,v,inp,v6 os.length 0,ins,vs,os,ls,xs,ss)=true∧
  im.res ((0:Int),(0:Int),u,v,inp,v6 os.length 0,ins,vs,os,ls,xs,ss)=
   (0,((ls.length:Int),((scE ins vs os ls inp xs ss).2.2.2:Int),u,v,inp,(scE ins vs os ls inp xs ss).2.1,ins,vs,os,ls,(scE ins vs os ls inp xs ss).1,(scE ins vs os ls inp xs ss).2.2.1)):=by
 obtain⟨s1,s2,s3⟩:=abs.1 hs
 have h0:ScAt vs os ls 0 (xs,v6 os.length 0,ss,0):=⟨s2,cz.2 ⟨fun z hz=> .inl (List.eq_of_mem_replicate hz),by simp⟩,s1,s3,by simp [blL]⟩
 have hn:=h.hn
 have h2:=h.h2
 have h3:=h.h3
 have mO:=im.along2 (fun i (a:SS4)=>((i:Int),(a.2.2.2:Int),u,v,inp,a.2.1,ins,vs,os,ls,a.1,a.2.2.1)) (fun x=>(x.2.2.2.2.2.2.2.2.2.2.1,x.2.2.2.2.2.1,x.2.2.2.2.2.2.2.2.2.2.2,x.2.1.toNat))
  (fun(l:LN) a=> .inr (scS ins vs os inp l a)) 0 (fun i a=>ScAt vs os ls i a) ls (xs,v6 os.length 0,ss,0) h0 (by omega) (fun i l a hb hI=> ?_) (fun a hI=> ?_)
 ·rw [abv (g:=fun a l=>scS ins vs os inp l a) (fun b a=>rfl),ass]at mO
  simpa [scE] using mO
 ·have eG:=(j7.1 hb).1
  have hm:=List.mem_of_getElem? hb
  have hL:=List.all_eq_true.1 h.hL l hm
  have hw:IntKind.i64.wrap ((i:Int) + 1)=((i + 1:Nat):Int):=by rw [aR (by omega) (by omega)];omega
  obtain⟨g1,g2,g3⟩:=ak2 (ins:=ins) (inp:=inp) h.hi hL hb hI
  obtain⟨r0,r1,r2,r3⟩:=atU h hb hI u v
  have hbl:=h.bl
  have hsp:=(afm hb).2
  have hspl:=(afm hb).1
  have hk1:=hI.hk
  have hk2:=g3.hk
  have hkk:a.2.2.2≤2000:=by
   rw [hspl,List.length_append,List.length_append]at hbl
   omega
  obtain⟨c1,c2⟩:=avj u v ins vs os ls hb (ajH hL).2.1 hkk
  have hknew:a.2.2.2 + (blT l.2).length=(scS ins vs os inp l a).2.2.2:=by omega
  have hmd:(Hn vs l.1||Hn os l.1)=true:=List.all_eq_true.1 h.hm l hm
  have hx:=(cz.1 hI.hx).2
  have ho:=(cz.1 hI.ho).2
  have q0:PI (i:Int) ls=true:=cI (by omega)
  have q1:PJ (i:Int) ls=true:=dE (by simpa using eG)
  have px: ∀ d:LN,v4 ls[i]? d=l:=fun d=>by rw [hb];rfl
  have q2:ry (i:Int) ls=l:=by simp only [ry,w5];exact px _
  have q3:dD (i:Int) vs ls=wS vs l.1:=by simp only [dD,q2]
  have q5:ym (i:Int) os ls=wS os l.1:=by simp only [ym,q2]
  have q4:yk (i:Int) (a.2.2.2:Int) u v inp ins vs os ls a.1 a.2.2.1=a.1:=by simp only [yk,q2,r1]
  have q7:Ir (i:Int) (a.2.2.2:Int) u v inp ins vs os ls a.1 a.2.2.1=atZ (lnV ins vs inp l a).1 0:=by simp only [Ir,q2,r0]
  have p1:Rv (i:Int)=true:=aS (by omega)
  have p3:Rx (i:Int) (a.2.2.2:Int) u v inp ins vs os ls a.1 a.2.2.1=true:=by simp only [Rx,q2,r3]
  have p4:Zn vs=true:=aG (by omega)
  have p15:XZ (i:Int) (a.2.2.2:Int) u v ins vs os ls=true:=c1
  have p16:Ya (i:Int)=((i + 1:Nat):Int):=hw
  have p17:PD (i:Int) (a.2.2.2:Int) u v ins vs os ls=((scS ins vs os inp l a).2.2.2:Int):=by
   simp only [PD,PK,c2,hknew]
  have p20:PH (i:Int) (a.2.2.2:Int) u v inp ins vs os ls a.1 a.2.2.1=(scS ins vs os inp l a).2.2.1:=by simp only [PH,q2,r2]
  have p18:PE (i:Int) (a.2.2.2:Int) u v inp a.2.1 ins vs os ls a.1 a.2.2.1=(scS ins vs os inp l a).2.1:=by
   simp only [PE,q3,q5,q7,ah6,scS]
   cases hv:Hn vs l.1 with
   |true=>rfl
   |false=>
    have ho':Hn os l.1=true:=by simpa [hv] using hmd
    simp only [cond_false,afF ho',w5]
  have p19:PG (i:Int) (a.2.2.2:Int) u v inp ins vs os ls a.1 a.2.2.1=(scS ins vs os inp l a).1:=by
   simp only [PG,q3,q4,q7,ah6,scS]
   cases hv:Hn vs l.1 with
   |true=>simp only [cond_true,afF hv,w5]
   |false=>rfl
  have pm:Ry (i:Int) vs ls=true∧Rz (i:Int) (a.2.2.2:Int) u v inp ins vs os ls a.1 a.2.2.1=true∧RA (i:Int) (a.2.2.2:Int) u v inp ins vs os ls a.1 a.2.2.1=true∧
    RB (i:Int) vs ls=true∧RC (i:Int) vs ls=true∧Py (i:Int) vs ls=true∧Pz (i:Int) vs os ls=true∧
    PA (i:Int) vs os ls=true∧PB (i:Int) a.2.1 vs os ls=true∧PC (i:Int) a.2.1 vs os ls=true:=by
   simp only [Ry,Rz,RA,RB,RC,Py,Pz,PA,PB,PC,q0,q1,q3,q4,q5,ah6]
   have m1:leI 0 (i:Int)=true:=p1
   have m2:leN os.length 9223372036854775807=true:=aG (by omega)
   cases hv:Hn vs l.1 with
   |true=>
    have hp:=ajU hv
    have k1:ltI (abk vs l.1:Int) (a.1.length:Int)=true:=cI (by omega)
    have k2:ltN (abk vs l.1) a.1.length=true:=dE (by omega)
    simp only [afF hv,au6.1,k1,k2,w5,w8,Bool.true_or,and_self]
   |false=>
    have ho':Hn os l.1=true:=by simpa [hv] using hmd
    have hp:=ajU ho'
    have k1:ltI (abk os l.1:Int) (a.2.1.length:Int)=true:=cI (by omega)
    have k2:ltN (abk os l.1) a.2.1.length=true:=dE (by omega)
    simp only [ho',afF ho',au6.1,k1,k2,m1,m2,w5,w8,Bool.true_or,Bool.not_false,and_self]
  obtain⟨m5,m6,m7,m8,m9,m10,m11,m12,m13,m14⟩:=pm
  have p0:En (i:Int) ls=true:=q0
  have p2:Rw (i:Int) ls=true:=q1
  refine⟨?_,?_,?_,fun a' hf=> ?_⟩
  ·simp only [im,Ca,LT.nds,allT,p0,p1,p2,p3,p4,m5,m6,m7,m8,m9,m10,m11,m12,m13,m14,p15,cond_true,Bool.and_self]
  ·simp only [im,Ca,LT.each,p0,p16,p17,p18,p19,p20,w5,Bool.and_true,and_self]
  ·simp only [im,Ca,LT.fn,p0,p17,p18,p19,p20,w5,cond_true]
  ·simp only [Sum.inr.injEq]at hf
   subst hf;exact g3
 ·have jY:En (ls.length:Int) ls=false:=yV (by omega)
  simp [im,Ca,LT.out,jY]
theorem aqf: ∀ (ts:List TM) (n e:Int),htT ts n=some e→Sl (blT ts)=true
 | [],n,e,_=>rfl
 |t::r,n,e,h=>by
  simp only [htT]at h
  cases hc:(termB t.1 t.2.1 t.2.2&&leI (takesK t.1) n)with
  |false=>rw [hc]at h;cases h
  |true=>
   rw [hc,cond_true]at h
   simp only [q9]at hc
   have h1:=aqf r _ e h
   cases h7:leI 7 t.1 with
   |false=>simpa only [blT,List.filter_cons,h7,Bool.false_eq_true,if_false] using h1
   |true=>
    simp only [blT,List.filter_cons,h7,if_true,Sl,List.all_cons,q9]
    exact⟨acl hc.1 h7,h1⟩
theorem apV: ∀ (ls:List LN),ls.all lineB=true→Sl (blL ls)=true
 | [],_=>rfl
 |l::r,h=>by
  simp only [List.all_cons,q9]at h
  have h1:=apV r h.2
  have h2:=aqf _ _ _ (ajH h.1).2.2
  have h4:blL (l::r)=blT l.2++blL r:=rfl
  simp only [Sl]at h1 h2
  simp only [h4,Sl,List.all_append,h1,h2,Bool.and_self]
theorem ak4{nm:asv}{ins vs os:List asv}{g:asv}{ls:List LN}(h:Ba nm ins vs os g ls=true):
  (g.toList== []||ahe ins vs g)=true∧ls.all lineB=true∧ls.all (madeB vs os)=true∧ls.all (fun l=>l.2.all (usedB ins vs))=true∧ls.length≤40∧ins.length≤20∧vs.length≤20∧os.length≤20:=by
 simp only [Ba,aq2,auY,am3,q9,wW]at h
 obtain⟨⟨_,⟨_,i1⟩,⟨_,i2⟩,⟨_,i3⟩,_,hL,hn⟩,_,hg,hm,_,_,hu⟩:=h
 exact⟨hg,hL,hm,hu,by omega,by omega,by omega,by omega⟩
theorem apz{nm:asv}{ins vs os:List asv}{g:asv}{ls:List LN}{inp:arG}(h:Ba nm ins vs os g ls=true)(hi:bitsB ins.length inp=true):ScH ins vs os inp ls:=by
 obtain⟨_,hL,hm,hu,hn,h1,h2,h3⟩:=ak4 h
 exact⟨hi,hL,hm,hu,hn,h1,h2,h3⟩
def scG(nm:asv)(ins vs os:List asv)(g:asv)(ls:List LN)(xs:arG)(ss:List BS3)(inp:arG):Bool:=Ba nm ins vs os g ls&&(lB vs.length (blL ls) xs ss&&bitsB ins.length inp)
theorem aj0{nm:asv}{ins vs os:List asv}{g:asv}{ls:List LN}{xs:arG}{ss:List BS3}{inp:arG}:
  scG nm ins vs os g ls xs ss inp=true↔Ba nm ins vs os g ls=true∧lB vs.length (blL ls) xs ss=true∧bitsB ins.length inp=true:=by
 simp only [scG,q9]
theorem aqW(nm:asv)(ins vs os:List asv)(g:asv)(ls:List LN)(xs:arG)(ss:List BS3)(inp:arG)(h:scG nm ins vs os g ls xs ss inp=true):
  XV nm g ins vs os ls xs ss inp=scO ins vs os g ls inp xs ss∧XW nm g ins vs os ls xs ss inp=scV ins vs os ls inp xs ss∧
  XX nm g ins vs os ls xs ss inp=scB ins vs os ls inp xs ss∧XY nm g ins vs os ls xs ss inp=true:=by
 obtain⟨h1,h2,h3⟩:=aj0.1 h
 obtain⟨hg,_⟩:=ak4 h1
 have hS:=apz h1 h3
 obtain⟨w1,w2⟩:=aug hS h2 nm g
 have hE:=auf (os:=os) h3 hS.hL h2
 obtain⟨s1,s2,s3⟩:=abs.1 h2
 have hb:=hS.bl
 have b1:=hS.h1
 have b2:=hS.h2
 have b3:=hS.h3
 have hx2:=(cz.1 s2).2
 have a1:On os=v6 os.length 0:=by simp only [On,w5]
 have a0:DF g= !(g.toList== []):=by simp only [DF,abd]
 have e3:Oo nm g ins vs os ls xs ss inp=((scE ins vs os ls inp xs ss).2.1,ins,vs,os,ls,(scE ins vs os ls inp xs ss).1,(scE ins vs os ls inp xs ss).2.2.1):=by
  simp only [Oo,IO,a1,w2]
 have e5:DG nm g ins vs os ls xs ss inp=(scE ins vs os ls inp xs ss).1:=by simp only [DG,Oq,e3]
 have e8:Ou nm g ins vs os ls xs ss inp=(scE ins vs os ls inp xs ss).2.2.1:=by simp only [Ou,Oq,e3]
 have e7:Ot nm g ins vs os ls xs ss inp=(scE ins vs os ls inp xs ss).1:=by simp only [Ot,e5];exact w9 _ _
 have e9:Ov nm g ins vs os ls xs ss inp=(scE ins vs os ls inp xs ss).2.2.1:=by simp only [Ov,e8];exact w9 _ _
 have hv:(g.toList== [])=false→wN g ins vs (scE ins vs os ls inp xs ss).1 inp=nmV ins vs inp (scE ins vs os ls inp xs ss).1 g∧wO g ins vs (scE ins vs os ls inp xs ss).1 inp=true:=fun hgg=>by
  rw [hgg,Bool.false_or]at hg
  have q1:=(cz.1 h3).2
  have q2:=(cz.1 hE.hx).2
  exact aq0 g ins vs inp _ hg (aG (by omega)) (aG (by omega)) (by omega) (by omega)
 have e6:uf nm g ins vs os ls xs ss inp=(!(g.toList== [])&&nmV ins vs inp (scE ins vs os ls inp xs ss).1 g==0):=by
  simp only [uf,a0,e5]
  cases hgg:g.toList== []with
  |true=>rfl
  |false=>simp only [Bool.not_false,cond_true,(hv hgg).1,Bool.true_and]
 refine⟨?_,?_,?_,?_⟩
 ·simp only [XV,e6,e3,a1,scO]
 ·simp only [XW,e7,scV];exact w9 _ _
 ·simp only [XX,e9,scB];exact w9 _ _
 ·have f1:Lp.fin im (IO nm g ins vs os ls xs ss inp)=true:=by simp only [IO,a1];exact w1
  have f0:TT xs ss=true:=by
   simp only [TT,allT,aG (show xs.length≤1048576 by omega),aG (show 0 + ss.length≤9223372036854775807 by omega),aG (show (0 + ss.length) * 24≤140737488355328 by omega),cond_true]
  have f2:leI 0 (os.length:Int)=true:=aS (by omega)
  have f3:leI (os.length:Int) (os.length:Int)=true:=aS (by omega)
  have f4:leI (((8:Nat):Int) * (os.length:Int)) 281474976710656=true:=aS (by omega)
  have f5:leI (os.length:Int) 9223372036854775807=true:=aS (by omega)
  have f6:Tu os=true:=f3
  have f7:Tv os=true:=f4
  simp only [XY,f0,f1,f2,f5,f6,f7,a0,e5,allT,w8,cond_true,Bool.and_true]
  cases hgg:g.toList== []with
  |true=>rfl
  |false=>simp only [(hv hgg).2];rfl
def aem:awE
 | [.one ⟨true,[.val (.string a),.ref 0,.ref 1,.ref 2,.val (.string b),.ref 3]⟩,.one ⟨true,[.ref 4,.ref 5]⟩,.one ⟨false,[.ref 6]⟩],[.row false 9 (.str) c,.row false 9 (.str) d,.row false 9 (.str) e,.row false 142 (.pair (.str) (.sl 122 (.pair (.int .i64) (.pair (.str) (.int .i64))))) f,.row false 2 (.int .i64) g,.row false 109 (.pair (.int .i64) (.pair (.int .i64) (.int .i64))) i,.row false 2 (.int .i64) j]=>some ⟨.tup [⟨false,[.ref 7]⟩,⟨true,[.ref 8,.ref 9]⟩],[.row false 9 arE c,.row false 9 arE d,.row false 9 arE e,.row false 142 (CTy.pair CTy.str (CTy.sl (122:TypeId) ab5)) f,.row false 2 aox g,.row false 109 abx i,.row false 2 aox j],[.row true 2 aox (scO c d e b f j g i),.row true 2 aox (scV c d e f j g i),.row true 109 abx (scB c d e f j g i)],[scG a c d e b f g i j]⟩
 |_,_=>none
def vO:PF prog:=PF.alt anm aem (by
 intro args es o h bA;unfold aem at h;split at h
 ·rename_i a b c d e f g i j
  cases h
  have bA:=fv bA
  have hh:=aqW a c d e b f g i j bA
  obtain⟨e0,e1,e2,en⟩:=hh
  exact kj rfl (eT en) rfl rfl (by simp only [e0,e1,e2] <;> rfl)
 ·cases h)
section
variable (a:List asv)(b:ajC)
def Vo:arG:=v6 (j8 (↑a.length:Int)) (0:Int)
def Vp:aqe:=v6 (j8 (↑(j9 (blL b)):Int)) ((0:Int),(0:Int),(0:Int))
def Om:Bool:=allT [leI 0 (↑a.length:Int),leI (↑a.length:Int) (↑a.length:Int),leI ((↑(8:Nat):Int) * (↑a.length:Int)) 281474976710656,leI (↑a.length:Int) 9223372036854775807,ajI b,leI 0 (↑(j9 (blL b)):Int),leI (↑(j9 (blL b)):Int) (↑(j9 (blL b)):Int),leI ((↑(24:Nat):Int) * (↑(j9 (blL b)):Int)) 281474976710656,leI (↑(j9 (blL b)):Int) 9223372036854775807]
end
def acC:awE
 | [.one ⟨true,[.val (.string _x0),.ref 0,.ref 1,.ref 2,.val (.string _x1),.ref 3]⟩],[.row false 9 (.str) a,.row false 9 (.str) b,.row false 9 (.str) c,.row false 142 (.pair (.str) (.sl 122 (.pair (.int .i64) (.pair (.str) (.int .i64))))) d]=>some ⟨.one ⟨true,[.ref 4,.ref 5]⟩,[.row false 9 arE a,.row false 9 arE b,.row false 9 arE c,.row false 142 (CTy.pair CTy.str (CTy.sl (122:TypeId) ab5)) d],[.row true 2 aox (Vo b),.row true 109 abx (Vp d)],[Om b d]⟩
 |_,_=>none
def ue:PF prog:=PF.ofG prog (T3z [mG]) [] bj 101 f101 func101 (fun c _=>LOk.nil c) acC (by
 intro _ _ _ h;unfold acC at h;split at h<;>cases h;kernel_rfl)
abbrev pJ:=Int×List (List Int)×asv×asv×List asv×List asv×List asv×List (asv×(List (Int×(asv×Int))))×List Int×List (Int×(Int×Int))
section
variable (a:Int)(b:aq6)(c:List asv)
def tu:arG:=v4 b[j8 a]? (ub alK)
def BA:Bool:=ltI a (↑b.length:Int)
def Gw:Bool:=leI 0 a
def Gx:Bool:=ltN a.toNat b.length
def Gy:Bool:=leN (j9 (tu a b)) 9223372036854775807
def Gz:Bool:= !bitsB (↑c.length:Int) (tu a b)
def GA:Int:=v5 .i64 (a + (1:Int))
end
def ajh:pJ→List (Nat×SV)
 |(a,_,_,_,_,_,_,_,_,_)=> [(7,(.one ⟨false,[awF a]⟩)),(1,(.one ⟨false,[.ref 0]⟩)),(2,(.one ⟨false,[.ptr 1 0]⟩)),(5,(.one ⟨false,[.ptr 2 0]⟩))]
def aje:pJ→List (Nat×Entry)
 |(_,a,b,c,d,e,f,g,i,j)=> [(0,(.row false 28 alK a)),(1,(.box 43 [.val (.string b),.ref 3,.ref 4,.ref 5,.val (.string c),.ref 6])),(2,(.box 50 [.ref 7,.ref 8])),(3,(.row false 9 arE d)),(4,(.row false 9 arE e)),(5,(.row false 9 arE f)),(6,(.row false 142 aaZ g)),(7,(.row true 2 aox i)),(8,(.row true 109 abx j))]
def ajn:Nat→pJ→List (Nat×SV)
 |0,(_,_,_,_,_,_,_,_,_,_)=> [(4,(.one ⟨false,[.ref 9]⟩)),(6,(.one ⟨false,[awF 2]⟩))]
 |_,(_,_,_,_,_,_,_,_,_,_)=> []
def ajk:Nat→pJ→List (Nat×Entry)
 |0,(_,a,b,c,d,e,f,g,i,j)=> [(0,(.row false 28 alK a)),(1,(.box 43 [.val (.string b),.ref 3,.ref 4,.ref 5,.val (.string c),.ref 6])),(2,(.box 50 [.ref 10,.ref 11])),(3,(.row false 9 arE d)),(4,(.row false 9 arE e)),(5,(.row false 9 arE f)),(6,(.row false 142 aaZ g)),(7,(.row true 2 aox i)),(8,(.row true 109 abx j)),(9,(.row true 28 alK [])),(10,(.row true 2 aox [])),(11,(.row true 109 abx []))]
 |_,(_,a,b,c,d,e,f,g,i,j)=> [(0,(.row false 28 alK a)),(1,(.box 43 [.val (.string b),.ref 3,.ref 4,.ref 5,.val (.string c),.ref 6])),(2,(.box 50 [.ref 7,.ref 8])),(3,(.row false 9 arE d)),(4,(.row false 9 arE e)),(5,(.row false 9 arE f)),(6,(.row false 142 aaZ g)),(7,(.row true 2 aox i)),(8,(.row true 109 abx j))]
def DX:pJ→LT pJ
 |(a,b,c,d,e,f,g,i,j,k)=> .ite (BA a b) (.need [Gw a,BA a b,Gx a b,Gy a b] (.ite (Gz a b e) (.ext 0 [(0,0),(1,1),(2,2),(3,3),(4,4),(5,5),(6,6),(7,7),(8,8),(9,960),(10,896),(11,897)]) (.nrm ((GA a),b,c,d,e,f,g,i,j,k) [(0,0),(1,1),(2,2),(3,3),(4,4),(5,5),(6,6),(7,7),(8,8)]))) (.ext 1 [(0,0),(1,1),(2,2),(3,3),(4,4),(5,5),(6,6),(7,7),(8,8)])
def QU(s:St):Option pJ:=do
 let some ⟨none,.one ⟨false,[.val (.int .i64 a)]⟩⟩:=s.look 7|none
 let some ⟨none,.one ⟨false,[.ref 4]⟩⟩:=s.look 1|none
 let some ⟨none,.one ⟨false,[.ptr 384 0]⟩⟩:=s.look 2|none
 let some ⟨none,.one ⟨false,[.ptr 512 0]⟩⟩:=s.look 5|none
 let some (.row false 28 (.sl 2 (.int .i64)) b):=s.ent 4|none
 let some (.box 43 [.val (.string c),.ref 0,.ref 1,.ref 2,.val (.string d),.ref 3]):=s.ent 384|none
 let some (.box 50 [.ref 513,.ref 514]):=s.ent 512|none
 let some (.row false 9 (.str) e):=s.ent 0|none
 let some (.row false 9 (.str) f):=s.ent 1|none
 let some (.row false 9 (.str) g):=s.ent 2|none
 let some (.row false 142 (.pair .str (.sl 122 (.pair (.int .i64) (.pair .str (.int .i64))))) i):=s.ent 3|none
 let some (.row true 2 (.int .i64) j):=s.ent 513|none
 let some (.row true 109 (.pair (.int .i64) (.pair (.int .i64) (.int .i64))) k):=s.ent 514|none
 some (a,b,c,d,e,f,g,i,j,k)
def ik:Lp pJ where
 h:=⟨[21,22,23,24,27,28,29,30,31,32,33,34,35,36,4,6,25,26,7],[0,1,2,3,4,5,6,7,8],[],[9,10,11]⟩
 JL:=ajh
 JE:=aje
 XL:=ajn
 XE:=ajk
 q:=fun j=>match j with | 0=> .ret | _=> .exit 0
 tags:= [0,1]
 lt:=DX
 fuel:=fun(a,b,c,d,e,f,g,i,k,l)=>a.natAbs + b.length + c.size + d.size + e.length + f.length + g.length + i.length + k.length + l.length
 fix:=fun(_,b,c,d,e,f,g,i,k,l) (a,_,_,_,_,_,_,_,_,_)=>(a,b,c,d,e,f,g,i,k,l)
 σ:= [(0,4),(1,384),(2,512),(3,0),(4,1),(5,2),(6,3),(7,513),(8,514)]
 rd:=QU
theorem agB:LoopOk prog (fun k=>Nat.blt k Tryz.f55.ntmps) ik.F (bB f55 0):=by
 refine Lp.ok (tbl:= (T3z [vO,vN,ue,bh])) (lf:= []) bj ik (by kernel_rfl) (LOk.nil _) (fun _=>rfl) (fun j _=>by unfold ik;match j with | 0=>rfl | _ + 1=>rfl) ?_ ?_ ?_ ?_ (fun _=>rfl) ?_
 ·rintro⟨a,b,c,d,e,f,g,i,l,m⟩;kernel_rfl
 ·rintro⟨a,b,c,d,e,f,g,i,l,m⟩;kernel_rfl
 ·intro s x h
  have h:QU s=some x:=h
  unfold QU at h
  repeat' split at h
  all_goals cases h
  constructor<;>repeat(first|refine ab (by assumption) rfl ?_|refine aa rfl (by assumption) rfl ?_|exact rfl)
 ·rintro⟨a,b,c,d,e,f,g,i,l,m⟩;kernel_rfl
 ·rintro⟨a,b,c,d,e,f,g,i,l,m⟩ z;exact(And.intro (And.intro trivial rfl) trivial)
abbrev pK:=Int×List (List Int)×asv×asv×List (List Int)×List asv×List asv×List asv×List (asv×(List (Int×(asv×Int))))×List Int×List (Int×(Int×Int))
section
variable (a:Int)(b:aq6)(c d:asv)(e:aq6)(f g i:List asv)(j:ag4)(k:arG)(l:aqe)
def oJ:arG:=v4 b[j8 a]? (ub alK)
def wl:aq6:= [scO f g i d j (oJ a b) k l]
def BB:Bool:=ltI a (↑b.length:Int)
def GC:Bool:=leI 0 a
def GD:Bool:=ltN a.toNat b.length
def GE:Bool:=scG c f g i d j k l (oJ a b)
def GF:Bool:=leN (j9 e + j9 (wl a b d f g i j k l)) 9223372036854775807
def GG:Bool:=leN ((j9 e + j9 (wl a b d f g i j k l)) * 24) 140737488355328
def GH:Int:=v5 .i64 (a + (1:Int))
def GI:aq6:=e++wl a b d f g i j k l
def GJ:arG:=scV f g i j (oJ a b) k l
def GK:aqe:=scB f g i j (oJ a b) k l
end
def aji:pK→List (Nat×SV)
 |(a,_,_,_,_,_,_,_,_,_,_)=> [(10,(.one ⟨false,[awF a]⟩)),(1,(.one ⟨false,[.ref 0]⟩)),(2,(.one ⟨false,[.ptr 1 0]⟩)),(9,(.one ⟨false,[.ptr 2 0]⟩)),(8,(.one ⟨false,[.ref 3]⟩))]
def ajf:pK→List (Nat×Entry)
 |(_,a,b,c,d,e,f,g,i,j,k)=> [(0,(.row false 28 alK a)),(1,(.box 43 [.val (.string b),.ref 4,.ref 5,.ref 6,.val (.string c),.ref 7])),(2,(.box 50 [.ref 8,.ref 9])),(4,(.row false 9 arE e)),(5,(.row false 9 arE f)),(6,(.row false 9 arE g)),(7,(.row false 142 aaZ i)),(3,(.row true 28 alK d)),(8,(.row true 2 aox j)),(9,(.row true 109 abx k))]
def ajo:Nat→pK→List (Nat×SV)
 |_,(_,_,_,_,_,_,_,_,_,_,_)=> [(8,(.one ⟨false,[.ref 3]⟩))]
def ajl:Nat→pK→List (Nat×Entry)
 |_,(_,a,b,c,d,e,f,g,i,j,k)=> [(0,(.row false 28 alK a)),(1,(.box 43 [.val (.string b),.ref 4,.ref 5,.ref 6,.val (.string c),.ref 7])),(2,(.box 50 [.ref 8,.ref 9])),(3,(.row true 28 alK d)),(4,(.row false 9 arE e)),(5,(.row false 9 arE f)),(6,(.row false 9 arE g)),(7,(.row false 142 aaZ i)),(8,(.row true 2 aox j)),(9,(.row true 109 abx k))]
def DY:pK→LT pK
 |(a,b,c,d,e,f,g,i,j,k,l)=> .ite (BB a b) (.need [GC a,BB a b,GD a b,GE a b c d f g i j k l] (.need [GF a b d e f g i j k l,GG a b d e f g i j k l] (.nrm ((GH a),b,c,d,GI a b d e f g i j k l,f,g,i,j,GJ a b f g i j k l,(GK a b f g i j k l)) [(0,0),(1,1),(2,2),(3,1344),(4,4),(5,5),(6,6),(7,7),(8,705),(9,706)]))) (.ext 0 [(0,0),(1,1),(2,2),(3,3),(4,4),(5,5),(6,6),(7,7),(8,8),(9,9)])
def QV(s:St):Option pK:=do
 let some ⟨none,.one ⟨false,[.val (.int .i64 a)]⟩⟩:=s.look 10|none
 let some ⟨none,.one ⟨false,[.ref 4]⟩⟩:=s.look 1|none
 let some ⟨none,.one ⟨false,[.ptr 384 0]⟩⟩:=s.look 2|none
 let some ⟨none,.one ⟨false,[.ptr 1408 0]⟩⟩:=s.look 9|none
 let some ⟨none,.one ⟨false,[.ref 1152]⟩⟩:=s.look 8|none
 let some (.row false 28 (.sl 2 (.int .i64)) b):=s.ent 4|none
 let some (.box 43 [.val (.string c),.ref 0,.ref 1,.ref 2,.val (.string d),.ref 3]):=s.ent 384|none
 let some (.box 50 [.ref 1344,.ref 1345]):=s.ent 1408|none
 let some (.row false 9 (.str) f):=s.ent 0|none
 let some (.row false 9 (.str) g):=s.ent 1|none
 let some (.row false 9 (.str) i):=s.ent 2|none
 let some (.row false 142 (.pair .str (.sl 122 (.pair (.int .i64) (.pair .str (.int .i64))))) j):=s.ent 3|none
 let some (.row true 28 (.sl 2 (.int .i64)) e):=s.ent 1152|none
 let some (.row true 2 (.int .i64) k):=s.ent 1344|none
 let some (.row true 109 (.pair (.int .i64) (.pair (.int .i64) (.int .i64))) l):=s.ent 1345|none
 some (a,b,c,d,e,f,g,i,j,k,l)
def jw:Lp pK where
 h:=⟨[40,41,42,43,47,48,49,50,51,52,53,46,54,55,12,11,56,57,58,59,8,60,44,45,10],[0,1,2,4,5,6,7],[3,8,9],[]⟩
 JL:=aji
 JE:=ajf
 XL:=ajo
 XE:=ajl
 q:=fun j=>match j with | _=> .exit 2
 tags:= [0]
 lt:=DY
 fuel:=fun(a,b,c,d,e,f,g,i,k,l,m)=>a.natAbs + b.length + c.size + d.size + e.length + f.length + g.length + i.length + k.length + l.length + m.length
 fix:=fun(_,b,c,d,_,f,g,i,k,_,_) (a,_,_,_,e,_,_,_,_,l,m)=>(a,b,c,d,e,f,g,i,k,l,m)
 σ:= [(0,4),(1,384),(2,1408),(4,0),(5,1),(6,2),(7,3),(3,1152),(8,1344),(9,1345)]
 rd:=QV
theorem agC:LoopOk prog (fun k=>Nat.blt k Tryz.f55.ntmps) jw.F (bB f55 1):=by
 refine Lp.ok (tbl:= (T3z [vO,vN,ue,bh])) (lf:= []) bj jw (by kernel_rfl) (LOk.nil _) (fun _=>rfl) (fun _ _=>rfl) ?_ ?_ ?_ ?_ (fun _=>rfl) ?_
 ·rintro⟨a,b,c,d,e,f,g,i,j,l,m⟩;kernel_rfl
 ·rintro⟨a,b,c,d,e,f,g,i,j,l,m⟩;kernel_rfl
 ·intro s x h
  have h:QV s=some x:=h
  unfold QV at h
  repeat' split at h
  all_goals cases h
  constructor<;>repeat(first|refine ab (by assumption) rfl ?_|refine aa rfl (by assumption) rfl ?_|exact rfl)
 ·rintro⟨a,b,c,d,e,f,g,i,j,l,m⟩;kernel_rfl
 ·rintro⟨a,b,c,d,e,f,g,i,j,l,m⟩ z;exact(And.intro rfl trivial)
section
variable (a b:asv)(c d e:List asv)(f:ajC)(g:aq6)
def zs:Bool:=ltI 200 (↑g.length:Int)
def XS:Int×aq6×asv×asv×List asv×List asv×List asv×ajC×arG×aq5:=((0:Int),g,a,b,c,d,e,f,[],[])
def zt:Bool:=Nat.beq ((Lp.res ik (XS a b c d e f g)).1) 0
def Ru:Int×aq6×asv×asv×aq6×List asv×List asv×List asv×ajC×arG×aq5:=((0:Int),g,a,b,[],c,d,e,f,Vo d,Vp f)
def XT:aq6×List asv×List asv×List asv×ajC×arG×aq5:=(Lp.res jw (Ru a b c d e f g)).2.2.2.2.2
def XU:arG×aq5:=(XT a b c d e f g).2.2.2.2.2
def TU:Int:=bif !Ba a c d e b f then(1:Int)else bif zs g then(3:Int)else bif zt a b c d e f g then(2:Int)else(0:Int)
def aap:aq6:=bif !Ba a c d e b f then []else bif zs g then []else bif zt a b c d e f g then []else (XT a b c d e f g).1
def TV:arG:=bif !Ba a c d e b f then []else bif zs g then []else bif zt a b c d e f g then []else (XU a b c d e f g).1
def TW:aqe:=bif !Ba a c d e b f then []else bif zs g then []else bif zt a b c d e f g then []else (XU a b c d e f g).2
def TX:Bool:=allT [apx a c d e b f,!Ba a c d e b f||(zs g||Lp.fin ik (XS a b c d e f g)),!Ba a c d e b f||(zs g||(zt a b c d e f g||Om d f)),!Ba a c d e b f||(zs g||(zt a b c d e f g||Lp.fin jw (Ru a b c d e f g)))]
end
def agT:awE
 | [.one ⟨true,[.val (.string a),.ref 0,.ref 1,.ref 2,.val (.string b),.ref 3]⟩,.one ⟨false,[.ref 4]⟩],[.row false 9 (.str) c,.row false 9 (.str) d,.row false 9 (.str) e,.row false 142 (.pair (.str) (.sl 122 (.pair (.int .i64) (.pair (.str) (.int .i64))))) f,.row false 28 (.sl 2 (.int .i64)) g]=>some ⟨.tup [⟨false,[.ref 5]⟩,⟨true,[.ref 6,.ref 7]⟩,⟨false,[awF (TU a b c d e f g)]⟩],[.row false 9 arE c,.row false 9 arE d,.row false 9 arE e,.row false 142 (CTy.pair CTy.str (CTy.sl (122:TypeId) ab5)) f,.row false 28 (CTy.sl (2:TypeId) aox) g],[.row true 28 alK (aap a b c d e f g),.row true 2 aox (TV a b c d e f g),.row true 109 abx (TW a b c d e f g)],[TX a b c d e f g]⟩
 |_,_=>none
def aai:PF prog:=PF.ofG prog (T3z [vO,vN,ue,bh]) [ik.F,jw.F] bj 55 f55 func55 (LOk.fnT (l:= [bB f55 0,bB f55 1]) (by kernel_rfl) (.cons agB (.cons agC (.nil _)))) agT (by
 intro _ _ _ h;unfold agT at h;split at h<;>cases h;kernel_rfl)
section
variable (a b:asv)(c d e:List asv)(f:ajC)(g:aq6)
def Xn:Int:=TU a b c d e f g
def Xo:arG:=TV a b c d e f g
def Xp:aqe:=TW a b c d e f g
def Pg:Bool:=allT [TX a b c d e f g]
end
def Wk:awE
 | [.one ⟨true,[.val (.string a),.ref 0,.ref 1,.ref 2,.val (.string b),.ref 3]⟩,.one ⟨false,[.ref 4]⟩],[.row false 9 (.str) c,.row false 9 (.str) d,.row false 9 (.str) e,.row false 142 (.pair (.str) (.sl 122 (.pair (.int .i64) (.pair (.str) (.int .i64))))) f,.row false 28 (.sl 2 (.int .i64)) g]=>some ⟨.tup [⟨true,[.ref 5,.ref 6]⟩,⟨false,[awF (Xn a b c d e f g)]⟩],[.row false 9 arE c,.row false 9 arE d,.row false 9 arE e,.row false 142 (CTy.pair CTy.str (CTy.sl (122:TypeId) ab5)) f,.row false 28 (CTy.sl (2:TypeId) aox) g],[.row true 2 aox (Xo a b c d e f g),.row true 109 abx (Xp a b c d e f g)],[Pg a b c d e f g]⟩
 |_,_=>none
def aii:PF prog:=PF.ofG prog (T3z [aai]) [] bj 20 f20 func20 (fun c _=>LOk.nil c) Wk (by
 intro _ _ _ h;unfold Wk at h;split at h<;>cases h;kernel_rfl)
def zy(a:Int)(b:arG):arG:=bif a==0 then v6 (j8 (↑b.length:Int)) (0:Int)else b
def zA(a:Int)(b:arG):Bool:=allT [!a==0||leI 0 (↑b.length:Int),!a==0||leI (↑b.length:Int) (↑b.length:Int),!a==0||leI ((↑(8:Nat):Int) * (↑b.length:Int)) 281474976710656,!a==0||leI (↑b.length:Int) 9223372036854775807]
def ad2:awE
 | [.one ⟨false,[.ref 0]⟩,.one ⟨false,[.val (.int .i64 a)]⟩],[.row false 2 (.int .i64) b]=>some ⟨.one ⟨false,[.ref 1]⟩,[.row false 2 aox b],[.row false 2 aox (zy a b)],[zA a b]⟩
 |_,_=>none
def Xc:PF prog:=PF.ofG prog [] [] bj 125 f125 func125 (fun c _=>LOk.nil c) ad2 (by
 intro _ _ _ h;unfold ad2 at h;split at h<;>cases h;kernel_rfl)
section
variable (a:Int)(b:aow)(c:arD)(d e f:arG)(g:aq5)(i:arG)
def az:Int×Int:=v4 c[j8 a]? ((0:Int),(0:Int))
def ac:Bool:=(az a c).1==1
def ag:Bool:=jW ((az a c).1)==1
def cV:Int:=v5 .i64 (a + (1:Int))
def af:Bool:=(az a c).1==2
def ah:Bool:=(az a c).1==3
def ai:Bool:=(az a c).1==4
def al:Bool:=(az a c).1==5
def aq:Bool:=(az a c).1==6
def aH:Bool:=(az a c).1==7
def aU:Bool:=(az a c).1==8
def bH:Bool:=(az a c).1==9
def dv:Bool:=(az a c).1==10
def ip:Bool:=(az a c).1==11
def vt:Int:=v5 .i64 ((↑d.length:Int) - fa ((az a c).1) ((az a c).2) b)
def bf:arG:=List.drop (j8 0) (List.take (j8 (vt a b c d)) d)
def vu:Int:=v4 i[j8 ((az a c).2)]? 0
def vv:Int:=v4 e[j8 ((az a c).2)]? 0
def iq:arG:=List.drop (j8 (vt a b c d)) (List.take (j8 (↑d.length:Int)) d)
def yq:Int:=v4 (iq a b c d)[j8 0]? 0
def gA:arG:= [v5 .i64 ((1:Int) - yq a b c d)]
def gB:arG:= [v5 .i64 (↑(BitVec.toNat (BitVec.ofInt (IntKind.bits IntKind.i64) (yq a b c d)&&& BitVec.ofInt (IntKind.bits IntKind.i64) (v4 (iq a b c d)[j8 1]? 0))):Int)]
def gC:arG:= [v5 .i64 (↑(BitVec.toNat (BitVec.ofInt (IntKind.bits IntKind.i64) (yq a b c d)||| BitVec.ofInt (IntKind.bits IntKind.i64) (v4 (iq a b c d)[j8 1]? 0))):Int)]
def sx:Int×asv×Int:=v4 b[j8 ((az a c).2)]? ((0:Int),ByteArray.empty,(0:Int))
def mL:Int×Int×Int:=v4 g[j8 ((az a c).2)]? ((0:Int),(0:Int),(0:Int))
def gD:arG:= [em ((sx a b c).1) ((sx a b c).2.2) ((mL a c g).1) (((mL a c g).2).1) ((mL a c g).2.2) (iq a b c d)]
def yt:arG:=bif ag a c then bf a b c d++ [(0:Int)]else bf a b c d
def Mx:arG:=List.set e (j8 ((az a c).2)) (yq a b c d)
def My:arG:=List.set f (j8 ((az a c).2)) (yq a b c d)
def Mz:aq5:=List.set g (j8 ((az a c).2)) (gn ((sx a b c).1) ((sx a b c).2.2) ((mL a c g).1) (((mL a c g).2).1) ((mL a c g).2.2) (iq a b c d),gp ((sx a b c).1) (((mL a c g).2).1) ((mL a c g).2.2) (iq a b c d),gq ((sx a b c).1) ((sx a b c).2.2) ((mL a c g).1) ((mL a c g).2.2) (iq a b c d))
def kZ:Bool:=ltI ((az a c).2) (↑i.length:Int)
def jJ:Bool:=ltI ((az a c).2) (↑e.length:Int)
def gE:Bool:=ltI 0 (↑(j9 (iq a b c d)):Int)
def gF:Bool:=ltN (j8 0) (j9 (iq a b c d))
def la:Bool:=ltI 1 (↑(j9 (iq a b c d)):Int)
def lb:Bool:=ltN (j8 1) (j9 (iq a b c d))
def jK:Bool:=ac a c||(af a c||(ah a c||(ai a c||(al a c||(aq a c||(!aH a c||leI 0 ((az a c).2)))))))
def lc:Bool:=ac a c||(af a c||(ah a c||(ai a c||(al a c||(aq a c||(!aH a c||ltI ((az a c).2) (↑g.length:Int)))))))
def ld:Bool:=ac a c||(af a c||(ah a c||(ai a c||(al a c||(aq a c||(!aH a c||ltN (j8 ((az a c).2)) g.length))))))
def gG:Bool:= !ag a c||leN (j9 (bf a b c d) + j9 [(0:Int)]) (9223372036854775807:Nat)
def gH:Bool:= !ag a c||leN ((j9 (bf a b c d) + j9 [(0:Int)]) * (8:Nat)) 140737488355328
def CO:Int:=bif ac a c then bif ag a c then cV a else cV a else bif af a c then bif ag a c then cV a else cV a else bif ah a c then bif ag a c then cV a else cV a else bif ai a c then bif ag a c then cV a else cV a else bif al a c then bif ag a c then cV a else cV a else bif aq a c then bif ag a c then cV a else cV a else bif aH a c then bif ag a c then cV a else cV a else bif aU a c then bif ag a c then cV a else cV a else bif bH a c then bif ag a c then cV a else cV a else bif dv a c then bif ag a c then cV a else cV a else bif ip a c then bif ag a c then cV a else cV a else bif ag a c then cV a else cV a
def CP:arG:=bif ac a c then bif ag a c then bf a b c d++ [(az a c).2]else bf a b c d else bif af a c then bif ag a c then bf a b c d++ [vu a c i]else bf a b c d else bif ah a c then bif ag a c then bf a b c d++ [vv a c e]else bf a b c d else bif ai a c then bif ag a c then bf a b c d++gA a b c d else bf a b c d else bif al a c then bif ag a c then bf a b c d++gB a b c d else bf a b c d else bif aq a c then bif ag a c then bf a b c d++gC a b c d else bf a b c d else bif aH a c then bif ag a c then bf a b c d++gD a b c d g else bf a b c d else bif aU a c then yt a b c d else bif bH a c then yt a b c d else bif dv a c then yt a b c d else bif ip a c then yt a b c d else yt a b c d
def GV:arG:=bif ac a c then bif ag a c then e else e else bif af a c then bif ag a c then e else e else bif ah a c then bif ag a c then e else e else bif ai a c then bif ag a c then e else e else bif al a c then bif ag a c then e else e else bif aq a c then bif ag a c then e else e else bif aH a c then bif ag a c then e else e else bif aU a c then bif ag a c then Mx a b c d e else Mx a b c d e else bif bH a c then bif ag a c then e else e else bif dv a c then bif ag a c then e else e else bif ip a c then bif ag a c then e else e else bif ag a c then e else e
def GW:arG:=bif ac a c then bif ag a c then f else f else bif af a c then bif ag a c then f else f else bif ah a c then bif ag a c then f else f else bif ai a c then bif ag a c then f else f else bif al a c then bif ag a c then f else f else bif aq a c then bif ag a c then f else f else bif aH a c then bif ag a c then f else f else bif aU a c then bif ag a c then f else f else bif bH a c then bif ag a c then My a b c d f else My a b c d f else bif dv a c then bif ag a c then zy (vu a c i) f else zy (vu a c i) f else bif ip a c then bif ag a c then zy (vv a c e) f else zy (vv a c e) f else bif ag a c then f else f
def GX:aqe:=bif ac a c then bif ag a c then g else g else bif af a c then bif ag a c then g else g else bif ah a c then bif ag a c then g else g else bif ai a c then bif ag a c then g else g else bif al a c then bif ag a c then g else g else bif aq a c then bif ag a c then g else g else bif aH a c then bif ag a c then Mz a b c d g else Mz a b c d g else bif aU a c then bif ag a c then g else g else bif bH a c then bif ag a c then g else g else bif dv a c then bif ag a c then g else g else bif ip a c then bif ag a c then g else g else bif ag a c then g else g
def ki:Bool:=allT [leI 0 a,ltI a (↑c.length:Int),ltN a.toNat c.length,wP ((az a c).1) ((az a c).2) b,leI 0 (vt a b c d),leI (vt a b c d) (↑d.length:Int),leI (↑d.length:Int) (↑d.length:Int),leN (j9 (iq a b c d)) 1048576,leI 0 (vt a b c d),leI (vt a b c d) (↑d.length:Int),leN (j9 (bf a b c d)) 1048576,leN e.length (1048576:Nat),leN f.length (1048576:Nat),leN (0 + j9 g) 9223372036854775807,leN ((0 + j9 g) * 24) 140737488355328,ac a c||(!af a c||leI 0 ((az a c).2)),ac a c||(!af a c||kZ a c i),ac a c||(!af a c||ltN (j8 ((az a c).2)) i.length),ac a c||(af a c||(!ah a c||leI 0 ((az a c).2))),ac a c||(af a c||(!ah a c||jJ a c e)),ac a c||(af a c||(!ah a c||ltN (j8 ((az a c).2)) e.length)),ac a c||(af a c||(ah a c||(!ai a c||leI 0 0))),ac a c||(af a c||(ah a c||(!ai a c||gE a b c d))),ac a c||(af a c||(ah a c||(!ai a c||gF a b c d))),ac a c||(af a c||(ah a c||(ai a c||(!al a c||leI 0 0)))),ac a c||(af a c||(ah a c||(ai a c||(!al a c||gE a b c d)))),ac a c||(af a c||(ah a c||(ai a c||(!al a c||gF a b c d)))),ac a c||(af a c||(ah a c||(ai a c||(!al a c||leI 0 1)))),ac a c||(af a c||(ah a c||(ai a c||(!al a c||la a b c d)))),ac a c||(af a c||(ah a c||(ai a c||(!al a c||lb a b c d)))),ac a c||(af a c||(ah a c||(ai a c||(al a c||(!aq a c||leI 0 0))))),ac a c||(af a c||(ah a c||(ai a c||(al a c||(!aq a c||gE a b c d))))),ac a c||(af a c||(ah a c||(ai a c||(al a c||(!aq a c||gF a b c d))))),ac a c||(af a c||(ah a c||(ai a c||(al a c||(!aq a c||leI 0 1))))),ac a c||(af a c||(ah a c||(ai a c||(al a c||(!aq a c||la a b c d))))),ac a c||(af a c||(ah a c||(ai a c||(al a c||(!aq a c||lb a b c d))))),jK a c,ac a c||(af a c||(ah a c||(ai a c||(al a c||(aq a c||(!aH a c||ltI ((az a c).2) (↑b.length:Int))))))),ac a c||(af a c||(ah a c||(ai a c||(al a c||(aq a c||(!aH a c||ltN (j8 ((az a c).2)) b.length)))))),jK a c,lc a c g,ld a c g,ac a c||(af a c||(ah a c||(ai a c||(al a c||(aq a c||(!aH a c||jh (iq a b c d))))))),jK a c,lc a c g,ld a c g,ac a c||(af a c||(ah a c||(ai a c||(al a c||(aq a c||(aH a c||(!aU a c||leI 0 0))))))),ac a c||(af a c||(ah a c||(ai a c||(al a c||(aq a c||(aH a c||(!aU a c||gE a b c d))))))),ac a c||(af a c||(ah a c||(ai a c||(al a c||(aq a c||(aH a c||(!aU a c||gF a b c d))))))),ac a c||(af a c||(ah a c||(ai a c||(al a c||(aq a c||(aH a c||(!aU a c||leI 0 ((az a c).2)))))))),ac a c||(af a c||(ah a c||(ai a c||(al a c||(aq a c||(aH a c||(!aU a c||jJ a c e))))))),ac a c||(af a c||(ah a c||(ai a c||(al a c||(aq a c||(aH a c||(!aU a c||ltN (j8 ((az a c).2)) e.length))))))),ac a c||(af a c||(ah a c||(ai a c||(al a c||(aq a c||(aH a c||(aU a c||(!bH a c||leI 0 0)))))))),ac a c||(af a c||(ah a c||(ai a c||(al a c||(aq a c||(aH a c||(aU a c||(!bH a c||gE a b c d)))))))),ac a c||(af a c||(ah a c||(ai a c||(al a c||(aq a c||(aH a c||(aU a c||(!bH a c||gF a b c d)))))))),ac a c||(af a c||(ah a c||(ai a c||(al a c||(aq a c||(aH a c||(aU a c||(!bH a c||leI 0 ((az a c).2))))))))),ac a c||(af a c||(ah a c||(ai a c||(al a c||(aq a c||(aH a c||(aU a c||(!bH a c||ltI ((az a c).2) (↑f.length:Int))))))))),ac a c||(af a c||(ah a c||(ai a c||(al a c||(aq a c||(aH a c||(aU a c||(!bH a c||ltN (j8 ((az a c).2)) f.length)))))))),ac a c||(af a c||(ah a c||(ai a c||(al a c||(aq a c||(aH a c||(aU a c||(bH a c||(!dv a c||leI 0 ((az a c).2)))))))))),ac a c||(af a c||(ah a c||(ai a c||(al a c||(aq a c||(aH a c||(aU a c||(bH a c||(!dv a c||kZ a c i))))))))),ac a c||(af a c||(ah a c||(ai a c||(al a c||(aq a c||(aH a c||(aU a c||(bH a c||(!dv a c||ltN (j8 ((az a c).2)) i.length))))))))),ac a c||(af a c||(ah a c||(ai a c||(al a c||(aq a c||(aH a c||(aU a c||(bH a c||(!dv a c||zA (vu a c i) f))))))))),ac a c||(af a c||(ah a c||(ai a c||(al a c||(aq a c||(aH a c||(aU a c||(bH a c||(dv a c||(!ip a c||leI 0 ((az a c).2))))))))))),ac a c||(af a c||(ah a c||(ai a c||(al a c||(aq a c||(aH a c||(aU a c||(bH a c||(dv a c||(!ip a c||jJ a c e)))))))))),ac a c||(af a c||(ah a c||(ai a c||(al a c||(aq a c||(aH a c||(aU a c||(bH a c||(dv a c||(!ip a c||ltN (j8 ((az a c).2)) e.length)))))))))),ac a c||(af a c||(ah a c||(ai a c||(al a c||(aq a c||(aH a c||(aU a c||(bH a c||(dv a c||(!ip a c||zA (vv a c e) f)))))))))),!ac a c||(!ag a c||leN (j9 (bf a b c d) + j9 [(az a c).2]) (9223372036854775807:Nat)),!ac a c||(!ag a c||leN ((j9 (bf a b c d) + j9 [(az a c).2]) * 8) 140737488355328),ac a c||(!af a c||(!ag a c||leN (j9 (bf a b c d) + j9 [vu a c i]) (9223372036854775807:Nat))),ac a c||(!af a c||(!ag a c||leN ((j9 (bf a b c d) + j9 [vu a c i]) * 8) 140737488355328)),ac a c||(af a c||(!ah a c||(!ag a c||leN (j9 (bf a b c d) + j9 [vv a c e]) (9223372036854775807:Nat)))),ac a c||(af a c||(!ah a c||(!ag a c||leN ((j9 (bf a b c d) + j9 [vv a c e]) * (8:Nat)) 140737488355328))),ac a c||(af a c||(ah a c||(!ai a c||(!ag a c||leN (j9 (bf a b c d) + j9 (gA a b c d)) 9223372036854775807)))),ac a c||(af a c||(ah a c||(!ai a c||(!ag a c||leN ((j9 (bf a b c d) + j9 (gA a b c d)) * 8) 140737488355328)))),ac a c||(af a c||(ah a c||(ai a c||(!al a c||(!ag a c||leN (j9 (bf a b c d) + j9 (gB a b c d)) 9223372036854775807))))),ac a c||(af a c||(ah a c||(ai a c||(!al a c||(!ag a c||leN ((j9 (bf a b c d) + j9 (gB a b c d)) * 8) 140737488355328))))),ac a c||(af a c||(ah a c||(ai a c||(al a c||(!aq a c||(!ag a c||leN (j9 (bf a b c d) + j9 (gC a b c d)) 9223372036854775807)))))),ac a c||(af a c||(ah a c||(ai a c||(al a c||(!aq a c||(!ag a c||leN ((j9 (bf a b c d) + j9 (gC a b c d)) * 8) 140737488355328)))))),ac a c||(af a c||(ah a c||(ai a c||(al a c||(aq a c||(!aH a c||(!ag a c||leN (j9 (bf a b c d) + j9 (gD a b c d g)) 9223372036854775807))))))),ac a c||(af a c||(ah a c||(ai a c||(al a c||(aq a c||(!aH a c||(!ag a c||leN ((j9 (bf a b c d) + j9 (gD a b c d g)) * 8) 140737488355328))))))),ac a c||(af a c||(ah a c||(ai a c||(al a c||(aq a c||(aH a c||(!aU a c||gG a b c d))))))),ac a c||(af a c||(ah a c||(ai a c||(al a c||(aq a c||(aH a c||(!aU a c||gH a b c d))))))),ac a c||(af a c||(ah a c||(ai a c||(al a c||(aq a c||(aH a c||(aU a c||(!bH a c||gG a b c d)))))))),ac a c||(af a c||(ah a c||(ai a c||(al a c||(aq a c||(aH a c||(aU a c||(!bH a c||gH a b c d)))))))),ac a c||(af a c||(ah a c||(ai a c||(al a c||(aq a c||(aH a c||(aU a c||(bH a c||(!dv a c||gG a b c d))))))))),ac a c||(af a c||(ah a c||(ai a c||(al a c||(aq a c||(aH a c||(aU a c||(bH a c||(!dv a c||gH a b c d))))))))),ac a c||(af a c||(ah a c||(ai a c||(al a c||(aq a c||(aH a c||(aU a c||(bH a c||(dv a c||(!ip a c||gG a b c d)))))))))),ac a c||(af a c||(ah a c||(ai a c||(al a c||(aq a c||(aH a c||(aU a c||(bH a c||(dv a c||(!ip a c||gH a b c d)))))))))),ac a c||(af a c||(ah a c||(ai a c||(al a c||(aq a c||(aH a c||(aU a c||(bH a c||(dv a c||(ip a c||gG a b c d)))))))))),ac a c||(af a c||(ah a c||(ai a c||(al a c||(aq a c||(aH a c||(aU a c||(bH a c||(dv a c||(ip a c||gH a b c d))))))))))]
end
def ad3:awE
 | [.one ⟨true,[.val (.int .i64 _x0),.val (.int .i64 _x1),.val (.int .i64 _x2),.ref 0,.ref 1]⟩,.one ⟨true,[.val (.int .i64 a),.ref 2,.ref 3,.ref 4,.ref 5]⟩,.one ⟨false,[.ref 6]⟩],[.row false 122 (.pair (.int .i64) (.pair (.str) (.int .i64))) b,.row false 83 (.pair (.int .i64) (.int .i64)) c,.row false 2 (.int .i64) d,.row false 2 (.int .i64) e,.row false 2 (.int .i64) f,.row false 109 (.pair (.int .i64) (.pair (.int .i64) (.int .i64))) g,.row false 2 (.int .i64) i]=>some ⟨.one ⟨true,[awF (CO a c),.ref 7,.ref 8,.ref 9,.ref 10]⟩,[.row false 122 ab5 b,.row false 83 aeK c,.row false 2 aox d,.row false 2 aox e,.row false 2 aox f,.row false 109 abx g,.row false 2 aox i],[.row false 2 aox (CP a b c d e g i),.row false 2 aox (GV a b c d e),.row false 2 aox (GW a b c d e f i),.row false 109 abx (GX a b c d g)],[ki a b c d e f g i]⟩
 |_,_=>none
def Cd:PF prog:=PF.ofG prog (T3z [aF,ow,gW,Xc]) [] bj 77 f77 func77 (fun c _=>LOk.nil c) ad3 (by
 intro _ _ _ h;unfold ad3 at h;split at h<;>cases h;kernel_rfl)
abbrev pQ:=Int×Int×Int×Int×List Int×List Int×List Int×List Int×List (Int×(Int×Int))×List (Int×(asv×Int))×List (Int×Int)
section
variable (a:Int)(b c d e:arG)(f:aqe)(g:aov)(i:arD)
def NB:Bool:=ltI a (↑i.length:Int)
def VI:Bool:=ki a g i c d e f b
def VJ:Int:=CO a i
def VK:arG:=CP a g i c d f b
def VL:arG:=GV a g i c d
def VM:arG:=GW a g i c d e b
def VN:aqe:=GX a g i c f
end
def aea:pQ→List (Nat×SV)
 |(_,_,_,_,_,_,_,_,_,_,_)=> [(4,(.one ⟨false,[.ptr 0 0]⟩)),(3,(.one ⟨false,[.ptr 1 0]⟩)),(2,(.one ⟨false,[.ref 2]⟩))]
def ad7:pQ→List (Nat×Entry)
 |(a,b,c,d,e,f,g,i,j,k,l)=> [(0,(.box 31 [awF a,.ref 3,.ref 4,.ref 5,.ref 6])),(1,(.box 27 [awF b,awF c,awF d,.ref 7,.ref 8])),(2,(.row false 2 aox e)),(7,(.row false 122 ab5 k)),(8,(.row false 83 aeK l)),(3,(.row false 2 aox f)),(4,(.row false 2 aox g)),(5,(.row false 2 aox i)),(6,(.row false 109 abx j))]
def aew:Nat→pQ→List (Nat×SV)
 |_,(_,_,_,_,_,_,_,_,_,_,_)=> []
def aet:Nat→pQ→List (Nat×Entry)
 |_,(a,b,c,d,e,f,g,i,j,k,l)=> [(0,(.box 31 [awF a,.ref 3,.ref 4,.ref 5,.ref 6])),(1,(.box 27 [awF b,awF c,awF d,.ref 7,.ref 8])),(2,(.row false 2 aox e)),(3,(.row false 2 aox f)),(4,(.row false 2 aox g)),(5,(.row false 2 aox i)),(6,(.row false 109 abx j)),(7,(.row false 122 ab5 k)),(8,(.row false 83 aeK l))]
def Lo:pQ→LT pQ
 |(a,b,c,d,e,f,g,i,j,k,l)=> .ite (NB a l) (.need [VI a e f g i j k l] (.nrm ((VJ a l),b,c,d,e,VK a e f g j k l,VL a f g k l,VM a e f g i k l,VN a f j k l,k,l) [(0,0),(1,1),(2,2),(3,640),(4,641),(5,642),(6,643),(7,7),(8,8)])) (.ext 0 [(0,0),(1,1),(2,2),(3,3),(4,4),(5,5),(6,6),(7,7),(8,8)])
def LD(s:St):Option pQ:=do
 let some ⟨none,.one ⟨false,[.ptr 576 0]⟩⟩:=s.look 4|none
 let some ⟨none,.one ⟨false,[.ptr 512 0]⟩⟩:=s.look 3|none
 let some ⟨none,.one ⟨false,[.ref 6]⟩⟩:=s.look 2|none
 let some (.box 31 [.val (.int .i64 a),.ref 2368,.ref 3008,.ref 3648,.ref 4288]):=s.ent 576|none
 let some (.box 27 [.val (.int .i64 b),.val (.int .i64 c),.val (.int .i64 d),.ref 0,.ref 1]):=s.ent 512|none
 let some (.row false 2 (.int .i64) e):=s.ent 6|none
 let some (.row false 122 (.pair (.int .i64) (.pair .str (.int .i64))) k):=s.ent 0|none
 let some (.row false 83 (.pair (.int .i64) (.int .i64)) l):=s.ent 1|none
 let some (.row false 2 (.int .i64) f):=s.ent 2368|none
 let some (.row false 2 (.int .i64) g):=s.ent 3008|none
 let some (.row false 2 (.int .i64) i):=s.ent 3648|none
 let some (.row false 109 (.pair (.int .i64) (.pair (.int .i64) (.int .i64))) j):=s.ent 4288|none
 some (a,b,c,d,e,f,g,i,j,k,l)
def kB:Lp pQ where
 h:=⟨[23,24,25,26,27,28,29,30,31,32],[0,1,2,7,8],[3,4,5,6],[]⟩
 JL:=aea
 JE:=ad7
 XL:=aew
 XE:=aet
 q:=fun j=>match j with | _=> .exit 0
 tags:= [0]
 lt:=Lo
 fuel:=fun(a,b,c,d,e,f,g,i,k,l,m)=>a.natAbs + b.natAbs + c.natAbs + d.natAbs + e.length + f.length + g.length + i.length + k.length + l.length + m.length
 fix:=fun(_,b,c,d,e,_,_,_,_,l,m) (a,_,_,_,_,f,g,i,k,_,_)=>(a,b,c,d,e,f,g,i,k,l,m)
 σ:= [(0,576),(1,512),(2,6),(7,0),(8,1),(3,2368),(4,3008),(5,3648),(6,4288)]
 rd:=LD
 fz:= [0]
theorem aca:LoopOk prog (fun k=>Nat.blt k Tryz.f47.ntmps) kB.F (bB f47 0):=by
 refine Lp.ok (tbl:= (T3z [Cd,aF])) (lf:= []) bj kB (by kernel_rfl) (LOk.nil _) (fun _=>rfl) (fun _ _=>rfl) ?_ ?_ ?_ ?_ (fun _=>rfl) ?_
 ·rintro⟨a,b,c,d,e,f,g,i,j,l,m⟩;kernel_rfl
 ·rintro⟨a,b,c,d,e,f,g,i,j,l,m⟩;kernel_rfl
 ·intro s x h
  have h:LD s=some x:=h
  unfold LD at h
  repeat' split at h
  all_goals cases h
  constructor<;>repeat(first|refine ab (by assumption) rfl ?_|refine aa rfl (by assumption) rfl ?_|exact rfl)
 ·rintro⟨a,b,c,d,e,f,g,i,j,l,m⟩;kernel_rfl
 ·rintro⟨a,b,c,d,e,f,g,i,j,l,m⟩ z;exact(And.intro rfl trivial)
section
variable (a b c d:Int)(e:aow)(f:arD)(g i j:arG)(k:aq5)(l:arG)
def Kr:Int×Int×Int×Int×arG×arG×arG×arG×aq5×aow×arD:=(d,a,b,c,l,g,i,j,k,e,f)
def Sb:arG×arG×arG×aq5×aow×arD:=(Lp.res kB (Kr a b c d e f g i j k l)).2.2.2.2.2.2
def Sc:arG×arG×aq5×aow×arD:=(Sb a b c d e f g i j k l).2
def Sd:arG×aq5×aow×arD:=(Sc a b c d e f g i j k l).2
def TI:Int:=((Lp.res kB (Kr a b c d e f g i j k l)).2).1
def TJ:arG:=(Sb a b c d e f g i j k l).1
def Mt:arG:=(Sc a b c d e f g i j k l).1
def Mu:arG:=(Sd a b c d e f g i j k l).1
def Mv:aqe:=((Sd a b c d e f g i j k l).2).1
def Mw:Bool:=allT [leN g.length (1048576:Nat),leN i.length (1048576:Nat),leN j.length (1048576:Nat),leN (0 + j9 k) 9223372036854775807,leN ((0 + j9 k) * 24) 140737488355328,Lp.fin kB (Kr a b c d e f g i j k l)]
end
def aaK:awE
 | [.one ⟨true,[.val (.int .i64 a),.val (.int .i64 b),.val (.int .i64 c),.ref 0,.ref 1]⟩,.one ⟨true,[.val (.int .i64 d),.ref 2,.ref 3,.ref 4,.ref 5]⟩,.one ⟨false,[.ref 6]⟩],[.row false 122 (.pair (.int .i64) (.pair (.str) (.int .i64))) e,.row false 83 (.pair (.int .i64) (.int .i64)) f,.row false 2 (.int .i64) g,.row false 2 (.int .i64) i,.row false 2 (.int .i64) j,.row false 109 (.pair (.int .i64) (.pair (.int .i64) (.int .i64))) k,.row false 2 (.int .i64) l]=>some ⟨.one ⟨true,[awF (TI a b c d e f g i j k l),.ref 7,.ref 8,.ref 9,.ref 10]⟩,[.row false 122 ab5 e,.row false 83 aeK f,.row false 2 aox g,.row false 2 aox i,.row false 2 aox j,.row false 109 abx k,.row false 2 aox l],[.row false 2 aox (TJ a b c d e f g i j k l),.row false 2 aox (Mt a b c d e f g i j k l),.row false 2 aox (Mu a b c d e f g i j k l),.row false 109 abx (Mv a b c d e f g i j k l)],[Mw a b c d e f g i j k l]⟩
 |_,_=>none
def Th:PF prog:=PF.ofG prog (T3z [Cd,aF]) [(fun s=>kB.F (aex [(576,1),(576,2),(576,3),(576,4)] s))] bj 47 f47 func47 (LOk.fnT (l:= [bB f47 0]) (by kernel_rfl) (.cons (aca.alias [(576,1),(576,2),(576,3),(576,4)]) (.nil _))) aaK (by
 intro _ _ _ h;unfold aaK at h;split at h<;>cases h;kernel_rfl)
def pG:arG:= []
def pH(a:Int):arG:=v6 a.toNat (0:Int)
def zY(a:Int)(b:arG)(c:aq5):Bool:=allT [leN b.length (1048576:Nat),leI 0 a,leI a a,leI ((↑(8:Nat):Int) * a) 281474976710656,leI a 9223372036854775807,leN (0 + j9 c) 9223372036854775807,leN ((0 + j9 c) * 24) 140737488355328]
def acF:awE
 | [.one ⟨true,[.val (.int .i64 _x0),.val (.int .i64 _x1),.val (.int .i64 a),.ref 0,.ref 1]⟩,.one ⟨true,[.ref 2,.ref 3]⟩],[.row false 122 (.pair (.int .i64) (.pair (.str) (.int .i64))) b,.row false 83 (.pair (.int .i64) (.int .i64)) c,.row false 2 (.int .i64) d,.row false 109 (.pair (.int .i64) (.pair (.int .i64) (.int .i64))) e]=>some ⟨.one ⟨true,[awF 0,.ref 4,.ref 5,.ref 6,.ref 7]⟩,[.row false 122 ab5 b,.row false 83 aeK c,.row false 2 aox d,.row false 109 abx e],[.row true 2 aox (pG),.row true 2 aox d,.row true 2 aox (pH a),.row true 109 abx e],[zY a d e]⟩
 |_,_=>none
def DA:PF prog:=PF.ofG prog (T3z [aF]) [] bj 76 f76 func76 (fun c _=>LOk.nil c) acF (by
 intro _ _ _ h;unfold acF at h;split at h<;>cases h;kernel_rfl)
section
variable (a b c:Int)(d:aow)(e:arD)(f:arG)(g:aq5)(i:arG)
def aav:arG:=Mu a b c 0 d e pG f (pH c) g i
def aaw:arG:=Mt a b c 0 d e pG f (pH c) g i
def aax:aqe:=Mv a b c 0 d e pG f (pH c) g i
def aay:Bool:=allT [zY c f g,Mw a b c 0 d e pG f (pH c) g i]
end
def agU:awE
 | [.one ⟨true,[.val (.int .i64 a),.val (.int .i64 b),.val (.int .i64 c),.ref 0,.ref 1]⟩,.one ⟨true,[.ref 2,.ref 3]⟩,.one ⟨false,[.ref 4]⟩],[.row false 122 (.pair (.int .i64) (.pair (.str) (.int .i64))) d,.row false 83 (.pair (.int .i64) (.int .i64)) e,.row false 2 (.int .i64) f,.row false 109 (.pair (.int .i64) (.pair (.int .i64) (.int .i64))) g,.row false 2 (.int .i64) i]=>some ⟨.tup [⟨false,[.ref 5]⟩,⟨true,[.ref 6,.ref 7]⟩],[.row false 122 ab5 d,.row false 83 aeK e,.row false 2 aox f,.row false 109 abx g,.row false 2 aox i],[.row false 2 aox (aav a b c d e f g i),.row false 2 aox (aaw a b c d e f g i),.row false 109 abx (aax a b c d e f g i)],[aay a b c d e f g i]⟩
 |_,_=>none
def an7:PF prog:=PF.ofG prog (T3z [Th,DA]) [] bj 74 f74 func74 (fun c _=>LOk.nil c) agU (by
 intro _ _ _ h;unfold agU at h;split at h<;>cases h;kernel_rfl)
section
variable (a:Int)(b:aow)(c:arD)(d e f g:arG)(i:aq5)
def aj:Int×Int:=v4 c[j8 a]? ((0:Int),(0:Int))
def be:Bool:=bU ((aj a c).1)==1
def oz:Int:=v5 .i64 (a + (1:Int))
def ao:Int:=v5 .i64 (MU e - bd ((aj a c).1) ((aj a c).2) b)
def au:arG:= [br ((aj a c).1) ((aj a c).2) b (List.drop (j8 (ao a b c e)) e) d f i]
def fG:Int:=bif be a c then oz a else oz a
def fH:arG:=bif be a c then f else oA ((aj a c).1) ((aj a c).2) (List.drop (j8 (ao a b c e)) e) f
def fI:arG:=bif be a c then g else jv ((aj a c).1) ((aj a c).2) (List.drop (j8 (ao a b c e)) e) d f g
def fJ:aqe:=bif be a c then fF ((aj a c).1) ((aj a c).2) b (List.drop (j8 (ao a b c e)) e) i else i
def fK:arG:=bif be a c then List.take (j8 (ao a b c e)) e++au a b c d e f i else List.take (j8 (ao a b c e)) e
def aw:Bool:=allT [leI 0 a,ltI a (↑c.length:Int),ltN a.toNat c.length,iZ ((aj a c).1) ((aj a c).2) b,leI 0 (ao a b c e),leI (ao a b c e) (↑e.length:Int),leN (j8 (ao a b c e)) e.length,leN (j9 (List.drop (j8 (ao a b c e)) e)) 1048576,leI 0 (ao a b c e),leI (ao a b c e) (↑e.length:Int),!be a c||ak ((aj a c).1) ((aj a c).2) b (List.drop (j8 (ao a b c e)) e) d f i,!be a c||leN (j9 (List.take (j8 (ao a b c e)) e) + j9 (au a b c d e f i)) 9223372036854775807,!be a c||leN ((j9 (List.take (j8 (ao a b c e)) e) + j9 (au a b c d e f i)) * 8) 140737488355328,be a c||bn ((aj a c).1) ((aj a c).2) (List.drop (j8 (ao a b c e)) e) d f g]
end
def vA:awE
 | [.one ⟨false,[.ptr 0 0]⟩,.one ⟨true,[.val (.int .i64 _x0),.val (.int .i64 _x1),.val (.int .i64 _x2),.ref 1,.ref 2]⟩,.one ⟨false,[.ref 3]⟩],[.box 31 [.val (.int .i64 a),.ref 4,.ref 5,.ref 6,.ref 7],.row false 122 (.pair (.int .i64) (.pair .str (.int .i64))) b,.row false 83 (.pair (.int .i64) (.int .i64)) c,.row false 2 (.int .i64) d,.row true 2 (.int .i64) e,.row true 2 (.int .i64) f,.row true 2 (.int .i64) g,.row true 109 (.pair (.int .i64) (.pair (.int .i64) (.int .i64))) i]=>some ⟨.tup [],[.box 31 [awF (fG a c),.ref 8,.ref 5,.ref 6,.ref 7],.row false 122 ab5 b,.row false 83 aeK c,.row false 2 aox d,.gone,.row true 2 aox (fH a b c e f),.row true 2 aox (fI a b c d e f g),.row true 109 abx (fJ a b c e i)],[.row true 2 aox (fK a b c d e f i)],[aw a b c d e f g i]⟩
 |_,_=>none
def oP:PF prog:=PF.ofG prog [PF.views prog,gg,PF.lend gg,PF.lend (PF.view gg),dd,PF.lend dd,VE,PF.lend VE,avA,FX] [] bj 51 f51 func51 (fun c _=>LOk.nil c) vA (by
 intro _ _ _ h;unfold vA at h;split at h<;>cases h;kernel_rfl)
theorem apR{a b:Int}(ha:a=0∨a=1)(hb:b=0∨b=1):IntKind.i64.wrap ((BitVec.toNat (BitVec.ofInt (IntKind.bits IntKind.i64) a&&& BitVec.ofInt (IntKind.bits IntKind.i64) b):Nat):Int)=anO a b:=by
 rcases ha with rfl | rfl <;> rcases hb with rfl | rfl <;> rfl
theorem asL{a b:Int}(ha:a=0∨a=1)(hb:b=0∨b=1):IntKind.i64.wrap ((BitVec.toNat (BitVec.ofInt (IntKind.bits IntKind.i64) a||| BitVec.ofInt (IntKind.bits IntKind.i64) b):Nat):Int)=orI a b:=by
 rcases ha with rfl | rfl <;> rcases hb with rfl | rfl <;> rfl
theorem asJ{a:Int}(ha:a=0∨a=1):IntKind.i64.wrap (1 - a)=1 - a:=by rcases ha with rfl | rfl <;> rfl
theorem asg{bs:List TM}{x:IN}{stk:arG}(h:bitsB (tkI bs x) (mF bs x stk)=true):((mF bs x stk).length:Int)=tkI bs x:=(cz.1 h).2
theorem avc{bs:List TM}{x:IN}:(x.1=4→tkI bs x=1)∧(x.1=5→tkI bs x=2)∧(x.1=6→tkI bs x=2)∧(x.1=8→tkI bs x=1)∧(x.1=9→tkI bs x=1)∧(x.1=7→tkI bs x=takesK (ej bs x.2.toNat).1):=by
 refine⟨fun h=> ?_,fun h=> ?_,fun h=> ?_,fun h=> ?_,fun h=> ?_,fun h=> ?_⟩ <;> simp [tkI,fa,mJ,mK,sn,h,takesK,ej]
theorem au5{x:IN}:((x.1=1∨x.1=2∨x.1=3∨x.1=4∨x.1=5∨x.1=6∨x.1=7)→gvI x=1)∧((x.1=8∨x.1=9∨x.1=10∨x.1=11)→gvI x=0):=by
 refine⟨fun h=> ?_,fun h=> ?_⟩
 ·rcases h with h | h | h | h | h | h | h <;> simp [gvI,jW,mJ,mK,sn,h]
 ·rcases h with h | h | h | h <;> simp [gvI,jW,mJ,mK,sn,h]
theorem aqX{i v o:Int}{bs:List TM}{st:List IN}{inp:arG}{k:Int}{stk xs os:arG}{ss:List BS3}(hC:cA i v o bs st=true)(xa:bitsB i inp=true)
  (h:OkM i v o bs st k stk xs os ss) (eG:k < st.length) {x:IN} (hx:st[k.toNat]? =some x):
  CO k st=k + 1∧CP k bs st stk xs ss inp=aob bs inp x stk xs ss∧GV k bs st stk xs=asc bs x stk xs∧
  GW k bs st stk xs os inp=arS bs inp x stk xs os∧GX k bs st stk ss=apW bs x stk ss∧ki k bs st stk xs os ss inp=true:=by
 obtain⟨g1,g2,g3,g4,g5,_⟩:=apI hC xa h eG hx
 simp only [cA,q9]at hC
 obtain⟨hr,hB,gt⟩:=hC
 obtain⟨ri,rv,ro,rb,rs⟩:=II.1 hr
 have h0:=h.lo
 have t2:=aaz bs x
 have hxl:=(cz.1 h.vl).2
 have hol:=(cz.1 h.ou).2
 have hil:=(cz.1 xa).2
 have hsl:=h.sl
 have hargb:=(cz.1 g3).1
 have hal:=asg g3
 have ha0:=Hl hargb 0
 have ha1:=Hl hargb 1
 have e0:az k st=x:=by simp only [az,hx,Option.getD_some]
 have w3:IntKind.i64.wrap (k + 1)=k + 1:=aR (by omega) (by omega)
 have e14:vt k bs st stk=stk.length - tkI bs x:=by
  simp only [vt,e0]
  exact aR (by have:fa x.1 x.2 bs=tkI bs x:=rfl;omega) (by have:fa x.1 x.2 bs=tkI bs x:=rfl;omega)
 have en:((stk.length:Int) - tkI bs x).toNat=stk.length - (tkI bs x).toNat:=by omega
 have e15:bf k bs st stk=akZ bs x stk:=by simp only [bf,e14,en,akZ];rfl
 have e18:iq k bs st stk=mF bs x stk:=by simp only [iq,e14,en,mF,w5,List.take_length]
 have e19:yq k bs st stk=atZ (mF bs x stk) 0:=by simp only [yq,e18,atZ]
 have e20: ∀ d:Int,v4 (mF bs x stk)[j8 (1:Int)]? d=v4 (mF bs x stk)[j8 (1:Int)]? d:=fun _=>rfl
 have hl1:leN (akZ bs x stk).length 1048576=true:=aG (by have:=afN g2;omega)
 have hl2:leN (mF bs x stk).length 1048576=true:=aG (by omega)
 have hl3:leN xs.length 1048576=true:=aG (by omega)
 have hl4:leN os.length 1048576=true:=aG (by omega)
 have hl5:leN (0 + ss.length) 9223372036854775807=true:=aG (by omega)
 have hl6:leN ((0 + ss.length) * 24) 140737488355328=true:=aG (by omega)
 have hl7:leN ((akZ bs x stk).length + 1) 9223372036854775807=true:=aG (by have:=afN g2;omega)
 have hl8:leN (((akZ bs x stk).length + 1) * 8) 140737488355328=true:=aG (by have:=afN g2;omega)
 have n1:leI 0 k=true:=aS h0
 have n2:ltI k (st.length:Int)=true:=cI eG
 have n3:ltN k.toNat st.length=true:=dE (by omega)
 have n4:wP x.1 x.2 bs=true:=apa rb g1
 have n5:leI 0 ((stk.length:Int) - tkI bs x)=true:=aS (by omega)
 have n6:leI ((stk.length:Int) - tkI bs x) (stk.length:Int)=true:=aS (by omega)
 have n7: ∀ n:Nat,leI (n:Int) (n:Int)=true:=fun n=>aS (by omega)
 have mO: ∀ c:Int,x.1=c→ac k st=(c==1)∧af k st=(c==2)∧ah k st=(c==3)∧ai k st=(c==4)∧al k st=(c==5)∧aq k st=(c==6)∧
   aH k st=(c==7)∧aU k st=(c==8)∧bH k st=(c==9)∧dv k st=(c==10)∧ip k st=(c==11)∧ag k st=(gvI x==1):=by
  intro c hc
  have h2:jW c=gvI x:=by rw [← hc];rfl
  refine⟨?_,?_,?_,?_,?_,?_,?_,?_,?_,?_,?_,?_⟩ <;> simp only [ac,ag,af,ah,ai,al,aq,aH,aU,bH,dv,ip,e0,hc,h2]
 obtain⟨tk4,tk5,tk6,tk8,tk9,tk7⟩:=avc (bs:=bs) (x:=x)
 obtain⟨gv1,gv0⟩:=au5 (x:=x)
 have hB7:x.1=7→0≤x.2∧x.2 < bs.length→xK (ej bs x.2.toNat).1 (ej bs x.2.toNat).2.1 (ej bs x.2.toNat).2.2=true:=fun _ hq=>by
  have hlt7:x.2.toNat < bs.length:=by omega
  have hg7:ej bs x.2.toNat=bs[x.2.toNat]:=by simp only [ej,List.getElem?_eq_getElem hlt7];rfl
  rw [hg7];exact List.all_eq_true.1 hB _ (List.getElem_mem hlt7)
 have hs0:CO k st=k + 1:=by simp only [CO,cV,w3,w9]
 have hmask: ∀ (l:arG) (z:Int),zy z l=arR l z:=fun l z=>by simp only [zy,arR,w5]
 have IA:=afD ri rv ro rb g1
 have a16:vu k st inp=atZ inp x.2:=by simp only [vu,e0,atZ]
 have a17:vv k st xs=atZ xs x.2:=by simp only [vv,e0,atZ]
 have a23:sx k bs st=ej bs x.2.toNat:=by simp only [sx,e0,ej]
 have a24:mL k st ss=stAt ss x.2.toNat:=by simp only [mL,e0,stAt]
 have a27:Mx k bs st stk xs=xs.set x.2.toNat (atZ (mF bs x stk) 0):=by simp only [Mx,e0,e19]
 have a28:My k bs st stk os=os.set x.2.toNat (atZ (mF bs x stk) 0):=by simp only [My,e0,e19]
 have a20:gA k bs st stk= [1 - atZ (mF bs x stk) 0]:=by simp only [gA,e19,asJ ha0]
 have a21:gB k bs st stk= [anO (atZ (mF bs x stk) 0) (atZ (mF bs x stk) 1)]:=by
  simp only [gB,e19,e18]
  exact congrArg (fun z=> [z]) (apR ha0 ha1)
 have a22:gC k bs st stk= [orI (atZ (mF bs x stk) 0) (atZ (mF bs x stk) 1)]:=by
  simp only [gC,e19,e18]
  exact congrArg (fun z=> [z]) (asL ha0 ha1)
 have a25:gD k bs st stk ss= [asb (ej bs x.2.toNat).1 (ej bs x.2.toNat).2.2 (mF bs x stk) (stAt ss x.2.toNat)]:=by simp only [gD,a23,a24,e18,asb]
 have a29:Mz k bs st stk ss=ss.set x.2.toNat (QJ (ej bs x.2.toNat).1 (ej bs x.2.toNat).2.2 (mF bs x stk) (stAt ss x.2.toNat)):=by simp only [Mz,a23,a24,e18,e0,QJ]
 refine⟨hs0,?_,?_,?_,?_,?_⟩
 ·rcases IA with⟨e,q⟩ | ⟨e,q⟩ | ⟨e,q⟩ | e | e | e | ⟨e,q⟩ | ⟨e,q⟩ | ⟨e,q⟩ | ⟨e,q⟩ | ⟨e,q⟩ <;> (
   obtain⟨k1,k4,k5,k6,k7,k8,k9,k10,k11,k12,k13,k2⟩:=mO _ e
   first
   |(have gv:gvI x=1:=gv1 (by omega)
     simp [CP,yt,aob,Yw,k1,k2,k4,k5,k6,k7,k8,k9,k10,k11,k12,k13,e0,e15,a16,a17,a20,a21,a22,a25,e,gv])
   |(have gv:gvI x=0:=gv0 (by omega)
     simp [CP,yt,aob,Yw,k1,k2,k4,k5,k6,k7,k8,k9,k10,k11,k12,k13,e0,e15,a16,a17,a20,a21,a22,a25,e,gv]))
 ·rcases IA with⟨e,q⟩ | ⟨e,q⟩ | ⟨e,q⟩ | e | e | e | ⟨e,q⟩ | ⟨e,q⟩ | ⟨e,q⟩ | ⟨e,q⟩ | ⟨e,q⟩ <;> (
   obtain⟨k1,k4,k5,k6,k7,k8,k9,k10,k11,k12,k13,k2⟩:=mO _ e
   simp [GV,asc,w9,k1,k4,k5,k6,k7,k8,k9,k10,k11,k12,k13,a27,e])
 ·rcases IA with⟨e,q⟩ | ⟨e,q⟩ | ⟨e,q⟩ | e | e | e | ⟨e,q⟩ | ⟨e,q⟩ | ⟨e,q⟩ | ⟨e,q⟩ | ⟨e,q⟩ <;> (
   obtain⟨k1,k4,k5,k6,k7,k8,k9,k10,k11,k12,k13,k2⟩:=mO _ e
   simp [GW,arS,w9,k1,k4,k5,k6,k7,k8,k9,k10,k11,k12,k13,a28,a16,a17,hmask,e])
 ·rcases IA with⟨e,q⟩ | ⟨e,q⟩ | ⟨e,q⟩ | e | e | e | ⟨e,q⟩ | ⟨e,q⟩ | ⟨e,q⟩ | ⟨e,q⟩ | ⟨e,q⟩ <;> (
   obtain⟨k1,k4,k5,k6,k7,k8,k9,k10,k11,k12,k13,k2⟩:=mO _ e
   simp [GX,apW,w9,k1,k4,k5,k6,k7,k8,k9,k10,k11,k12,k13,a29,e])
 ·rcases IA with⟨e,q⟩ | ⟨e,q⟩ | ⟨e,q⟩ | e | e | e | ⟨e,q⟩ | ⟨e,q⟩ | ⟨e,q⟩ | ⟨e,q⟩ | ⟨e,q⟩
  ·obtain⟨k1,k4,k5,k6,k7,k8,k9,k10,k11,k12,k13,k2⟩:=mO _ e
   have z0:leI (0:Int) 0=true:=rfl
   have z1:leI (0:Int) 1=true:=rfl
   simp [ki,allT,k1,k2,k4,k5,k6,k7,k8,k9,k10,k11,k12,k13,e0,e14,e15,e18,n1,n2,n3,n4,n5,n6,n7,hl1,hl2,hl3,hl4,hl5,hl6,hl7,hl8,gA,gB,gC,gD,kZ,jJ,gE,gF,la,lb,jK,lc,ld,gG,gH,w7,z0,z1] <;> omega
  ·obtain⟨k1,k4,k5,k6,k7,k8,k9,k10,k11,k12,k13,k2⟩:=mO _ e
   have z0:leI (0:Int) 0=true:=rfl
   have z1:leI (0:Int) 1=true:=rfl
   have r1:leI 0 x.2=true:=aS (by omega)
   have r2:ltI x.2 (inp.length:Int)=true:=cI (by omega)
   have r3:ltN x.2.toNat inp.length=true:=dE (by omega)
   simp [ki,allT,k1,k2,k4,k5,k6,k7,k8,k9,k10,k11,k12,k13,e0,e14,e15,e18,n1,n2,n3,n4,n5,n6,n7,hl1,hl2,hl3,hl4,hl5,hl6,hl7,hl8,gA,gB,gC,gD,kZ,jJ,gE,gF,la,lb,jK,lc,ld,gG,gH,w7,z0,z1,r1,r2,r3] <;> omega
  ·obtain⟨k1,k4,k5,k6,k7,k8,k9,k10,k11,k12,k13,k2⟩:=mO _ e
   have z0:leI (0:Int) 0=true:=rfl
   have z1:leI (0:Int) 1=true:=rfl
   have r1:leI 0 x.2=true:=aS (by omega)
   have r2:ltI x.2 (xs.length:Int)=true:=cI (by omega)
   have r3:ltN x.2.toNat xs.length=true:=dE (by omega)
   simp [ki,allT,k1,k2,k4,k5,k6,k7,k8,k9,k10,k11,k12,k13,e0,e14,e15,e18,n1,n2,n3,n4,n5,n6,n7,hl1,hl2,hl3,hl4,hl5,hl6,hl7,hl8,gA,gB,gC,gD,kZ,jJ,gE,gF,la,lb,jK,lc,ld,gG,gH,w7,z0,z1,r1,r2,r3] <;> omega
  ·obtain⟨k1,k4,k5,k6,k7,k8,k9,k10,k11,k12,k13,k2⟩:=mO _ e
   have z0:leI (0:Int) 0=true:=rfl
   have z1:leI (0:Int) 1=true:=rfl
   have tk:=tk4 e
   have s1:ltI 0 ((mF bs x stk).length:Int)=true:=cI (by omega)
   have s2:ltN (j8 0) (mF bs x stk).length=true:=dE (by simp only [Int.toNat_zero];omega)
   simp [ki,allT,k1,k2,k4,k5,k6,k7,k8,k9,k10,k11,k12,k13,e0,e14,e15,e18,n1,n2,n3,n4,n5,n6,n7,hl1,hl2,hl3,hl4,hl5,hl6,hl7,hl8,gA,gB,gC,gD,kZ,jJ,gE,gF,la,lb,jK,lc,ld,gG,gH,w7,z0,z1,s1,s2] <;> omega
  ·obtain⟨k1,k4,k5,k6,k7,k8,k9,k10,k11,k12,k13,k2⟩:=mO _ e
   have z0:leI (0:Int) 0=true:=rfl
   have z1:leI (0:Int) 1=true:=rfl
   have tk:=tk5 e
   have s1:ltI 0 ((mF bs x stk).length:Int)=true:=cI (by omega)
   have s2:ltN (j8 0) (mF bs x stk).length=true:=dE (by simp only [Int.toNat_zero];omega)
   have s3:ltI 1 ((mF bs x stk).length:Int)=true:=cI (by omega)
   have s4:ltN (j8 1) (mF bs x stk).length=true:=dE (by rw [show j8 1=1 from rfl];omega)
   simp [ki,allT,k1,k2,k4,k5,k6,k7,k8,k9,k10,k11,k12,k13,e0,e14,e15,e18,n1,n2,n3,n4,n5,n6,n7,hl1,hl2,hl3,hl4,hl5,hl6,hl7,hl8,gA,gB,gC,gD,kZ,jJ,gE,gF,la,lb,jK,lc,ld,gG,gH,w7,z0,z1,s1,s2,s3,s4] <;> omega
  ·obtain⟨k1,k4,k5,k6,k7,k8,k9,k10,k11,k12,k13,k2⟩:=mO _ e
   have z0:leI (0:Int) 0=true:=rfl
   have z1:leI (0:Int) 1=true:=rfl
   have tk:=tk6 e
   have s1:ltI 0 ((mF bs x stk).length:Int)=true:=cI (by omega)
   have s2:ltN (j8 0) (mF bs x stk).length=true:=dE (by simp only [Int.toNat_zero];omega)
   have s3:ltI 1 ((mF bs x stk).length:Int)=true:=cI (by omega)
   have s4:ltN (j8 1) (mF bs x stk).length=true:=dE (by rw [show j8 1=1 from rfl];omega)
   simp [ki,allT,k1,k2,k4,k5,k6,k7,k8,k9,k10,k11,k12,k13,e0,e14,e15,e18,n1,n2,n3,n4,n5,n6,n7,hl1,hl2,hl3,hl4,hl5,hl6,hl7,hl8,gA,gB,gC,gD,kZ,jJ,gE,gF,la,lb,jK,lc,ld,gG,gH,w7,z0,z1,s1,s2,s3,s4] <;> omega
  ·obtain⟨k1,k4,k5,k6,k7,k8,k9,k10,k11,k12,k13,k2⟩:=mO _ e
   have z0:leI (0:Int) 0=true:=rfl
   have z1:leI (0:Int) 1=true:=rfl
   have r1:leI 0 x.2=true:=aS (by omega)
   have r2:ltI x.2 (bs.length:Int)=true:=cI (by omega)
   have r3:ltN x.2.toNat bs.length=true:=dE (by omega)
   have r4:ltI x.2 (ss.length:Int)=true:=cI (by omega)
   have r5:ltN x.2.toNat ss.length=true:=dE (by omega)
   have r6:=(amd (hB7 e q) (h.sp x.2.toNat (by omega)) (by rw [← tk7 e];exact g3)).2.2.2.2.2.1
   simp [ki,allT,k1,k2,k4,k5,k6,k7,k8,k9,k10,k11,k12,k13,e0,e14,e15,e18,n1,n2,n3,n4,n5,n6,n7,hl1,hl2,hl3,hl4,hl5,hl6,hl7,hl8,gA,gB,gC,gD,kZ,jJ,gE,gF,la,lb,jK,lc,ld,gG,gH,w7,z0,z1,r1,r2,r3,r4,r5,r6] <;> omega
  ·obtain⟨k1,k4,k5,k6,k7,k8,k9,k10,k11,k12,k13,k2⟩:=mO _ e
   have z0:leI (0:Int) 0=true:=rfl
   have z1:leI (0:Int) 1=true:=rfl
   have tk:=tk8 e
   have s1:ltI 0 ((mF bs x stk).length:Int)=true:=cI (by omega)
   have s2:ltN (j8 0) (mF bs x stk).length=true:=dE (by simp only [Int.toNat_zero];omega)
   have r1:leI 0 x.2=true:=aS (by omega)
   have r2:ltI x.2 (xs.length:Int)=true:=cI (by omega)
   have r3:ltN x.2.toNat xs.length=true:=dE (by omega)
   simp [ki,allT,k1,k2,k4,k5,k6,k7,k8,k9,k10,k11,k12,k13,e0,e14,e15,e18,n1,n2,n3,n4,n5,n6,n7,hl1,hl2,hl3,hl4,hl5,hl6,hl7,hl8,gA,gB,gC,gD,kZ,jJ,gE,gF,la,lb,jK,lc,ld,gG,gH,w7,z0,z1,s1,s2,r1,r2,r3] <;> omega
  ·obtain⟨k1,k4,k5,k6,k7,k8,k9,k10,k11,k12,k13,k2⟩:=mO _ e
   have z0:leI (0:Int) 0=true:=rfl
   have z1:leI (0:Int) 1=true:=rfl
   have tk:=tk9 e
   have s1:ltI 0 ((mF bs x stk).length:Int)=true:=cI (by omega)
   have s2:ltN (j8 0) (mF bs x stk).length=true:=dE (by simp only [Int.toNat_zero];omega)
   have r1:leI 0 x.2=true:=aS (by omega)
   have r2:ltI x.2 (os.length:Int)=true:=cI (by omega)
   have r3:ltN x.2.toNat os.length=true:=dE (by omega)
   simp [ki,allT,k1,k2,k4,k5,k6,k7,k8,k9,k10,k11,k12,k13,e0,e14,e15,e18,n1,n2,n3,n4,n5,n6,n7,hl1,hl2,hl3,hl4,hl5,hl6,hl7,hl8,gA,gB,gC,gD,kZ,jJ,gE,gF,la,lb,jK,lc,ld,gG,gH,w7,z0,z1,s1,s2,r1,r2,r3] <;> omega
  ·obtain⟨k1,k4,k5,k6,k7,k8,k9,k10,k11,k12,k13,k2⟩:=mO _ e
   have z0:leI (0:Int) 0=true:=rfl
   have z1:leI (0:Int) 1=true:=rfl
   have m1: ∀ z:Int,zA z os=true:=fun z=>by
    have q1:leI (0:Int) (os.length:Int)=true:=aS (by omega)
    have q2:leI (((8:Nat):Int) * (os.length:Int)) 281474976710656=true:=aS (by omega)
    have q3:leI (os.length:Int) 9223372036854775807=true:=aS (by omega)
    simp only [zA,q1,q2,q3,n7,allT,w8,cond_true]
   have r1:leI 0 x.2=true:=aS (by omega)
   have r2:ltI x.2 (inp.length:Int)=true:=cI (by omega)
   have r3:ltN x.2.toNat inp.length=true:=dE (by omega)
   simp [ki,allT,k1,k2,k4,k5,k6,k7,k8,k9,k10,k11,k12,k13,e0,e14,e15,e18,n1,n2,n3,n4,n5,n6,n7,hl1,hl2,hl3,hl4,hl5,hl6,hl7,hl8,gA,gB,gC,gD,kZ,jJ,gE,gF,la,lb,jK,lc,ld,gG,gH,w7,z0,z1,m1,r1,r2,r3] <;> omega
  ·obtain⟨k1,k4,k5,k6,k7,k8,k9,k10,k11,k12,k13,k2⟩:=mO _ e
   have z0:leI (0:Int) 0=true:=rfl
   have z1:leI (0:Int) 1=true:=rfl
   have m1: ∀ z:Int,zA z os=true:=fun z=>by
    have q1:leI (0:Int) (os.length:Int)=true:=aS (by omega)
    have q2:leI (((8:Nat):Int) * (os.length:Int)) 281474976710656=true:=aS (by omega)
    have q3:leI (os.length:Int) 9223372036854775807=true:=aS (by omega)
    simp only [zA,q1,q2,q3,n7,allT,w8,cond_true]
   have r1:leI 0 x.2=true:=aS (by omega)
   have r2:ltI x.2 (xs.length:Int)=true:=cI (by omega)
   have r3:ltN x.2.toNat xs.length=true:=dE (by omega)
   simp [ki,allT,k1,k2,k4,k5,k6,k7,k8,k9,k10,k11,k12,k13,e0,e14,e15,e18,n1,n2,n3,n4,n5,n6,n7,hl1,hl2,hl3,hl4,hl5,hl6,hl7,hl8,gA,gB,gC,gD,kZ,jJ,gE,gF,la,lb,jK,lc,ld,gG,gH,w7,z0,z1,m1,r1,r2,r3] <;> omega
theorem aqk{i v o:Int}{bs:List TM}{st:List IN}{inp:arG}{k:Int}{stk xs os:arG}{ss:List BS3}(hC:cA i v o bs st=true)(xa:bitsB i inp=true)
  (h:OkM i v o bs st k stk xs os ss) (eG:k < st.length) {x:IN} (hx:st[k.toNat]? =some x):
  fG k st=k + 1∧fK k bs st inp stk xs ss=aob bs inp x stk xs ss∧fH k bs st stk xs=asc bs x stk xs∧
  fI k bs st inp stk xs os=arS bs inp x stk xs os∧fJ k bs st stk ss=apW bs x stk ss∧aw k bs st inp stk xs os ss=true:=by
 obtain⟨g1,g2,g3,g4,g5,_⟩:=apI hC xa h eG hx
 simp only [cA,q9]at hC
 obtain⟨hr,hB,gt⟩:=hC
 obtain⟨ri,rv,ro,rb,rs⟩:=II.1 hr
 have h0:=h.lo
 have t2:=aaz bs x
 have hxl:=(cz.1 h.vl).2
 have hol:=(cz.1 h.ou).2
 have hil:=(cz.1 xa).2
 have hsl:=h.sl
 have hargb:=(cz.1 g3).1
 have hal:=asg g3
 have ha0:=Hl hargb 0
 have ha1:=Hl hargb 1
 have e0:aj k st=x:=by simp only [aj,hx,Option.getD_some]
 have w3:oz k=k + 1:=aR (by omega) (by omega)
 have e14:ao k bs st stk=stk.length - tkI bs x:=by
  simp only [ao,e0]
  have q:bd x.1 x.2 bs=tkI bs x:=rfl
  have q2:MU stk=(stk.length:Int):=rfl
  rw [q,q2]
  exact aR (by omega) (by omega)
 have en:((stk.length:Int) - tkI bs x).toNat=stk.length - (tkI bs x).toNat:=by omega
 have e1:be k st=(gvI x==1):=by
  simp only [be,e0]
  rfl
 have ear:stk.drop (stk.length - (tkI bs x).toNat)=mF bs x stk:=rfl
 have ers:stk.take (stk.length - (tkI bs x).toNat)=akZ bs x stk:=rfl
 have hz: ∀ (l:arG) (z:Int),(bif z==0 then ZA l.length else l)=arR l z:=fun l z=>rfl
 have IA:=afD ri rv ro rb g1
 have hB7:x.1=7→0≤x.2∧x.2 < bs.length→xK (ej bs x.2.toNat).1 (ej bs x.2.toNat).2.1 (ej bs x.2.toNat).2.2=true:=fun _ hq=>by
  have hlt7:x.2.toNat < bs.length:=by omega
  have hg7:ej bs x.2.toNat=bs[x.2.toNat]:=by simp only [ej,List.getElem?_eq_getElem hlt7];rfl
  rw [hg7];exact List.all_eq_true.1 hB _ (List.getElem_mem hlt7)
 obtain⟨tk4,tk5,tk6,tk8,tk9,tk7⟩:=avc (bs:=bs) (x:=x)
 obtain⟨gv1,gv0⟩:=au5 (x:=x)
 have h7:x.1=7→0≤x.2∧x.2 < bs.length→_:=fun e q=>amd (hB7 e q) (h.sp x.2.toNat (by omega)) (by rw [← tk7 e];exact g3)
 have hga0:ju (mF bs x stk)=atZ (mF bs x stk) 0:=rfl
 have hga1:cg x.2 bs=ej bs x.2.toNat:=rfl
 have hga2:aQ x.2 ss=stAt ss x.2.toNat:=rfl
 have hsa0:nZ (mF bs x stk)=atZ (mF bs x stk) 0:=rfl
 have hat: ∀ (l:arG) (z:Int),v4 l[j8 z]? (0:Int)=atZ l z:=fun _ _=>rfl
 have hat1: ∀ (l:arG),v4 l[1]? (0:Int)=atZ l 1:=fun _=>rfl
 have hand:=apR ha0 ha1
 have hor:=asL ha0 ha1
 have hnot:=asJ ha0
 refine⟨?_,?_,?_,?_,?_,?_⟩
 ·simp only [fG,w3,w9]
 ·simp only [fK,au,e0,e1,e14,en,ear,ers,aob]
  rcases IA with⟨e,q⟩ | ⟨e,q⟩ | ⟨e,q⟩ | e | e | e | ⟨e,q⟩ | ⟨e,q⟩ | ⟨e,q⟩ | ⟨e,q⟩ | ⟨e,q⟩
  ·simp [br,Yw,e,gv1 (by omega)]
  ·simp [br,Yw,e,gv1 (by omega),hat]
  ·simp [br,Yw,e,gv1 (by omega),hat]
  ·simp only [br,Yw,e,hga0,hnot];rfl
  ·simp only [br,Yw,e,hga0,hat,hand];rfl
  ·simp only [br,Yw,e,hga0,hat,hor];rfl
  ·have:=(h7 e q).1
   simp only [br,Yw,e,hga1,hga2]
   simp [this,asb]
  all_goals simp [gv0 (by omega)]
 ·simp only [fH,e0,e1,e14,en,ear,asc]
  rcases IA with⟨e,q⟩ | ⟨e,q⟩ | ⟨e,q⟩ | e | e | e | ⟨e,q⟩ | ⟨e,q⟩ | ⟨e,q⟩ | ⟨e,q⟩ | ⟨e,q⟩
  all_goals first
   |simp [gv1 (by omega),e]
   |simp [gv0 (by omega),e,oA,hsa0]
 ·simp only [fI,e0,e1,e14,en,ear,arS]
  rcases IA with⟨e,q⟩ | ⟨e,q⟩ | ⟨e,q⟩ | e | e | e | ⟨e,q⟩ | ⟨e,q⟩ | ⟨e,q⟩ | ⟨e,q⟩ | ⟨e,q⟩
  all_goals first
   |(simp [gv1 (by omega),e];done)
   |(simp [gv0 (by omega),e,jv,hsa0,hat];done)
   |(simp [gv0 (by omega),e,jv,hsa0,hat];exact hz _ _)
 ·simp only [fJ,e0,e1,e14,en,ear,apW]
  rcases IA with⟨e,q⟩ | ⟨e,q⟩ | ⟨e,q⟩ | e | e | e | ⟨e,q⟩ | ⟨e,q⟩ | ⟨e,q⟩ | ⟨e,q⟩ | ⟨e,q⟩
  all_goals first
   |(have z:=h7 e q
     simp only [fF,e,hga1,hga2,z.2.1,z.2.2.1,z.2.2.2.1,gv1 (by omega)]
     simp [QJ]
     done)
   |simp [gv1 (by omega),e,fF]
   |simp [gv0 (by omega),e]
 ·have n1:leI 0 k=true:=aS h0
  have n2:ltI k (st.length:Int)=true:=cI eG
  have n3:ltN k.toNat st.length=true:=dE (by omega)
  have n4:iZ x.1 x.2 bs=true:=apa rb g1
  have n5:leI 0 ((stk.length:Int) - tkI bs x)=true:=aS (by omega)
  have n6:leI ((stk.length:Int) - tkI bs x) (stk.length:Int)=true:=aS (by omega)
  have n7:leN (stk.length - (tkI bs x).toNat) stk.length=true:=aG (Nat.sub_le _ _)
  have n8:leN (mF bs x stk).length 1048576=true:=aG (by omega)
  have n9:leN ((akZ bs x stk).length + 1) 9223372036854775807=true:=aG (by have:=afN g2;omega)
  have n10:leN (((akZ bs x stk).length + 1) * 8) 140737488355328=true:=aG (by have:=afN g2;omega)
  have z0:leI (0:Int) 0=true:=rfl
  have z1:leI (0:Int) 1=true:=rfl
  rcases IA with⟨e,q⟩ | ⟨e,q⟩ | ⟨e,q⟩ | e | e | e | ⟨e,q⟩ | ⟨e,q⟩ | ⟨e,q⟩ | ⟨e,q⟩ | ⟨e,q⟩
  ·have gv:=gv1 (by omega)
   have hd:ak x.1 x.2 bs (mF bs x stk) inp xs ss=true:=by simp [ak,bm,bD,bE,allT,e,z0,z1] <;> omega
   simp only [aw,au,e0,e1,e14,en,ear,ers,gv,hd,n1,n2,n3,n4,n5,n6,n7,n8,n9,n10,w7,allT,beq_self_eq_true,Bool.not_true,Bool.false_or,Bool.true_or,w8,cond_true,show ((0:Int)==1)=false from rfl,Bool.not_false]
  ·have gv:=gv1 (by omega)
   have r1:leI 0 x.2=true:=aS (by omega)
   have r2:ltI x.2 (inp.length:Int)=true:=cI (by omega)
   have r3:ltN x.2.toNat inp.length=true:=dE (by omega)
   have hd:ak x.1 x.2 bs (mF bs x stk) inp xs ss=true:=by simp [ak,bm,bD,bE,allT,e,z0,z1,r1,r2,r3] <;> omega
   simp only [aw,au,e0,e1,e14,en,ear,ers,gv,hd,n1,n2,n3,n4,n5,n6,n7,n8,n9,n10,w7,allT,beq_self_eq_true,Bool.not_true,Bool.false_or,Bool.true_or,w8,cond_true,show ((0:Int)==1)=false from rfl,Bool.not_false]
  ·have gv:=gv1 (by omega)
   have r1:leI 0 x.2=true:=aS (by omega)
   have r2:ltI x.2 (xs.length:Int)=true:=cI (by omega)
   have r3:ltN x.2.toNat xs.length=true:=dE (by omega)
   have hd:ak x.1 x.2 bs (mF bs x stk) inp xs ss=true:=by simp [ak,bm,bD,bE,allT,e,z0,z1,r1,r2,r3] <;> omega
   simp only [aw,au,e0,e1,e14,en,ear,ers,gv,hd,n1,n2,n3,n4,n5,n6,n7,n8,n9,n10,w7,allT,beq_self_eq_true,Bool.not_true,Bool.false_or,Bool.true_or,w8,cond_true,show ((0:Int)==1)=false from rfl,Bool.not_false]
  ·have gv:=gv1 (by omega)
   have tk:=tk4 e
   have s1:ltI 0 ((mF bs x stk).length:Int)=true:=cI (by omega)
   have s2:ltN (j8 0) (mF bs x stk).length=true:=dE (by simp only [Int.toNat_zero];omega)
   have hd:ak x.1 x.2 bs (mF bs x stk) inp xs ss=true:=by simp [ak,bm,bD,bE,allT,e,z0,z1,s1,s2] <;> omega
   simp only [aw,au,e0,e1,e14,en,ear,ers,gv,hd,n1,n2,n3,n4,n5,n6,n7,n8,n9,n10,w7,allT,beq_self_eq_true,Bool.not_true,Bool.false_or,Bool.true_or,w8,cond_true,show ((0:Int)==1)=false from rfl,Bool.not_false]
  ·have gv:=gv1 (by omega)
   have tk:=tk5 e
   have s1:ltI 0 ((mF bs x stk).length:Int)=true:=cI (by omega)
   have s2:ltN (j8 0) (mF bs x stk).length=true:=dE (by simp only [Int.toNat_zero];omega)
   have s3:ltI 1 ((mF bs x stk).length:Int)=true:=cI (by omega)
   have s4:ltN (j8 1) (mF bs x stk).length=true:=dE (by rw [show j8 1=1 from rfl];omega)
   have hd:ak x.1 x.2 bs (mF bs x stk) inp xs ss=true:=by simp [ak,bm,bD,bE,allT,e,z0,z1,s1,s2,s3,s4] <;> omega
   simp only [aw,au,e0,e1,e14,en,ear,ers,gv,hd,n1,n2,n3,n4,n5,n6,n7,n8,n9,n10,w7,allT,beq_self_eq_true,Bool.not_true,Bool.false_or,Bool.true_or,w8,cond_true,show ((0:Int)==1)=false from rfl,Bool.not_false]
  ·have gv:=gv1 (by omega)
   have tk:=tk6 e
   have s1:ltI 0 ((mF bs x stk).length:Int)=true:=cI (by omega)
   have s2:ltN (j8 0) (mF bs x stk).length=true:=dE (by simp only [Int.toNat_zero];omega)
   have s3:ltI 1 ((mF bs x stk).length:Int)=true:=cI (by omega)
   have s4:ltN (j8 1) (mF bs x stk).length=true:=dE (by rw [show j8 1=1 from rfl];omega)
   have hd:ak x.1 x.2 bs (mF bs x stk) inp xs ss=true:=by simp [ak,bm,bD,bE,allT,e,z0,z1,s1,s2,s3,s4] <;> omega
   simp only [aw,au,e0,e1,e14,en,ear,ers,gv,hd,n1,n2,n3,n4,n5,n6,n7,n8,n9,n10,w7,allT,beq_self_eq_true,Bool.not_true,Bool.false_or,Bool.true_or,w8,cond_true,show ((0:Int)==1)=false from rfl,Bool.not_false]
  ·have gv:=gv1 (by omega)
   have r1:leI 0 x.2=true:=aS (by omega)
   have r2:ltI x.2 (bs.length:Int)=true:=cI (by omega)
   have r3:ltN x.2.toNat bs.length=true:=dE (by omega)
   have r4:ltI x.2 (ss.length:Int)=true:=cI (by omega)
   have r5:ltN x.2.toNat ss.length=true:=dE (by omega)
   have r6:=(h7 e q).2.2.2.2.1
   have hd:ak x.1 x.2 bs (mF bs x stk) inp xs ss=true:=by simp [ak,bm,bD,bE,allT,e,z0,z1,r1,r2,r3,r4,r5,r6] <;> omega
   simp only [aw,au,e0,e1,e14,en,ear,ers,gv,hd,n1,n2,n3,n4,n5,n6,n7,n8,n9,n10,w7,allT,beq_self_eq_true,Bool.not_true,Bool.false_or,Bool.true_or,w8,cond_true,show ((0:Int)==1)=false from rfl,Bool.not_false]
  ·have gv:=gv0 (by omega)
   have tk:=tk8 e
   have s1:ltI 0 ((mF bs x stk).length:Int)=true:=cI (by omega)
   have s2:ltN (j8 0) (mF bs x stk).length=true:=dE (by simp only [Int.toNat_zero];omega)
   have r1:leI 0 x.2=true:=aS (by omega)
   have r2:ltI x.2 (xs.length:Int)=true:=cI (by omega)
   have r3:ltN x.2.toNat xs.length=true:=dE (by omega)
   have hd:bn x.1 x.2 (mF bs x stk) inp xs os=true:=by simp [bn,allT,e,z0,z1,s1,s2,r1,r2,r3] <;> omega
   simp only [aw,au,e0,e1,e14,en,ear,ers,gv,hd,n1,n2,n3,n4,n5,n6,n7,n8,n9,n10,w7,allT,beq_self_eq_true,Bool.not_true,Bool.false_or,Bool.true_or,w8,cond_true,show ((0:Int)==1)=false from rfl,Bool.not_false]
  ·have gv:=gv0 (by omega)
   have tk:=tk9 e
   have s1:ltI 0 ((mF bs x stk).length:Int)=true:=cI (by omega)
   have s2:ltN (j8 0) (mF bs x stk).length=true:=dE (by simp only [Int.toNat_zero];omega)
   have r1:leI 0 x.2=true:=aS (by omega)
   have r2:ltI x.2 (os.length:Int)=true:=cI (by omega)
   have r3:ltN x.2.toNat os.length=true:=dE (by omega)
   have hd:bn x.1 x.2 (mF bs x stk) inp xs os=true:=by simp [bn,allT,e,z0,z1,s1,s2,r1,r2,r3] <;> omega
   simp only [aw,au,e0,e1,e14,en,ear,ers,gv,hd,n1,n2,n3,n4,n5,n6,n7,n8,n9,n10,w7,allT,beq_self_eq_true,Bool.not_true,Bool.false_or,Bool.true_or,w8,cond_true,show ((0:Int)==1)=false from rfl,Bool.not_false]
  ·have gv:=gv0 (by omega)
   have r1:leI 0 x.2=true:=aS (by omega)
   have r2:ltI x.2 (inp.length:Int)=true:=cI (by omega)
   have r3:ltN x.2.toNat inp.length=true:=dE (by omega)
   have hd:bn x.1 x.2 (mF bs x stk) inp xs os=true:=by simp [bn,allT,e,z0,z1,r1,r2,r3] <;> omega
   simp only [aw,au,e0,e1,e14,en,ear,ers,gv,hd,n1,n2,n3,n4,n5,n6,n7,n8,n9,n10,w7,allT,beq_self_eq_true,Bool.not_true,Bool.false_or,Bool.true_or,w8,cond_true,show ((0:Int)==1)=false from rfl,Bool.not_false]
  ·have gv:=gv0 (by omega)
   have r1:leI 0 x.2=true:=aS (by omega)
   have r2:ltI x.2 (xs.length:Int)=true:=cI (by omega)
   have r3:ltN x.2.toNat xs.length=true:=dE (by omega)
   have hd:bn x.1 x.2 (mF bs x stk) inp xs os=true:=by simp [bn,allT,e,z0,z1,r1,r2,r3] <;> omega
   simp only [aw,au,e0,e1,e14,en,ear,ers,gv,hd,n1,n2,n3,n4,n5,n6,n7,n8,n9,n10,w7,allT,beq_self_eq_true,Bool.not_true,Bool.false_or,Bool.true_or,w8,cond_true,show ((0:Int)==1)=false from rfl,Bool.not_false]
abbrev bM:=Int×Int×Int×Int×List Int×List Int×List Int×List Int×List (Int×(Int×Int))×List (Int×(asv×Int))×List (Int×Int)
section
variable (a:Int)(b c d e:arG)(f:aqe)(g:aov)(i:arD)
def mE:Bool:=ltI a (ax i)
def sz:Bool:=aw a g i b c d e f
def sA:Int:=fG a i
def sB:arG:=fK a g i b c d f
def sC:arG:=fH a g i c d
def sD:arG:=fI a g i b c d e
def sE:aqe:=fJ a g i c f
end
def Dp:bM→List (Nat×SV)
 |(_,_,_,_,_,_,_,_,_,_,_)=> [(0,(.one ⟨false,[.ptr 0 0]⟩)),(4,(.one ⟨false,[.ptr 1 0]⟩)),(2,(.one ⟨false,[.ref 2]⟩))]
def Do:bM→List (Nat×Entry)
 |(a,b,c,d,e,f,g,i,j,k,l)=> [(0,(.box 31 [awF a,.ref 3,.ref 4,.ref 5,.ref 6])),(1,(.box 27 [awF b,awF c,awF d,.ref 7,.ref 8])),(2,(.row false 2 aox e)),(4,(.row true 2 aox g)),(5,(.row true 2 aox i)),(6,(.row true 109 abx j)),(7,(.row false 122 ab5 k)),(8,(.row false 83 aeK l)),(3,(.row true 2 aox f))]
def Dr:Nat→bM→List (Nat×SV)
 |_,(_,_,_,_,_,_,_,_,_,_,_)=> []
def Dq:Nat→bM→List (Nat×Entry)
 |_,(a,b,c,d,e,f,g,i,j,k,l)=> [(0,(.box 31 [awF a,.ref 3,.ref 4,.ref 5,.ref 6])),(1,(.box 27 [awF b,awF c,awF d,.ref 7,.ref 8])),(2,(.row false 2 aox e)),(3,(.row true 2 aox f)),(4,(.row true 2 aox g)),(5,(.row true 2 aox i)),(6,(.row true 109 abx j)),(7,(.row false 122 ab5 k)),(8,(.row false 83 aeK l))]
def ma:bM→LT bM
 |(a,b,c,d,e,f,g,i,j,k,l)=> .ite (mE a l) (.need [sz a e f g i j k l] (.nrm ((sA a l),b,c,d,e,sB a e f g j k l,sC a f g k l,sD a e f g i k l,sE a f j k l,k,l) [(0,0),(1,1),(2,2),(3,768),(4,4),(5,5),(6,6),(7,7),(8,8)])) (.ext 0 [(0,0),(1,1),(2,2),(3,3),(4,4),(5,5),(6,6),(7,7),(8,8)])
def mb(s:St):Option bM:=do
 let some ⟨none,.one ⟨false,[.ptr 0 0]⟩⟩:=s.look 0|none
 let some ⟨none,.one ⟨false,[.ptr 576 0]⟩⟩:=s.look 4|none
 let some ⟨none,.one ⟨false,[.ref 3]⟩⟩:=s.look 2|none
 let some (.box 31 [.val (.int .i64 a),.ref 4,.ref 5,.ref 6,.ref 7]):=s.ent 0|none
 let some (.box 27 [.val (.int .i64 b),.val (.int .i64 c),.val (.int .i64 d),.ref 1,.ref 2]):=s.ent 576|none
 let some (.row false 2 (.int .i64) e):=s.ent 3|none
 let some (.row true 2 (.int .i64) g):=s.ent 5|none
 let some (.row true 2 (.int .i64) i):=s.ent 6|none
 let some (.row true 109 (.pair (.int .i64) (.pair (.int .i64) (.int .i64))) j):=s.ent 7|none
 let some (.row false 122 (.pair (.int .i64) (.pair .str (.int .i64))) k):=s.ent 1|none
 let some (.row false 83 (.pair (.int .i64) (.int .i64)) l):=s.ent 2|none
 let some (.row true 2 (.int .i64) f):=s.ent 4|none
 some (a,b,c,d,e,f,g,i,j,k,l)
def aW:Lp bM where
 h:=⟨[6,7,8,9,10,11,12,13,14,15,16,17],[0,1,2,4,5,6,7,8],[3],[]⟩
 JL:=Dp
 JE:=Do
 XL:=Dr
 XE:=Dq
 q:=fun j=>match j with | _=> .exit 0
 tags:= [0]
 lt:=ma
 fuel:=fun(a,b,c,d,e,f,g,i,k,l,m)=>a.natAbs + b.natAbs + c.natAbs + d.natAbs + e.length + f.length + g.length + i.length + k.length + l.length + m.length
 fix:=fun(_,b,c,d,e,_,_,_,_,l,m) (a,_,_,_,_,f,g,i,k,_,_)=>(a,b,c,d,e,f,g,i,k,l,m)
 σ:= [(0,0),(1,576),(2,3),(4,5),(5,6),(6,7),(7,1),(8,2),(3,4)]
 rd:=mb
theorem Br:LoopOk prog (fun k=>Nat.blt k Tryz.f45.ntmps) aW.F (bB f45 0):=by
 refine Lp.ok (tbl:= [du,PF.lend du,oP]) (lf:= []) bj aW (by kernel_rfl) (LOk.nil _) (fun _=>rfl) (fun _ _=>rfl) ?_ ?_ ?_ ?_ (fun _=>rfl) ?_
 ·rintro⟨a,b,c,d,e,f,g,i,j,l,m⟩;kernel_rfl
 ·rintro⟨a,b,c,d,e,f,g,i,j,l,m⟩;kernel_rfl
 ·intro s x h
  have h:mb s=some x:=h
  unfold mb at h
  repeat' split at h
  all_goals cases h
  constructor<;>repeat(first|refine ab (by assumption) rfl ?_|refine aa rfl (by assumption) rfl ?_|exact rfl)
 ·rintro⟨a,b,c,d,e,f,g,i,j,l,m⟩;kernel_rfl
 ·rintro⟨a,b,c,d,e,f,g,i,j,l,m⟩ z;exact(And.intro rfl trivial)
section
variable (a b c d:Int)(e:aow)(f:arD)(g i j k:arG)(l:aq5)
def iI:Int×Int×Int×Int×arG×arG×arG×arG×aq5×aow×arD:=(d,a,b,c,g,i,j,k,l,e,f)
def nA:arG×arG×arG×aq5×aow×arD:=(Lp.res aW (iI a b c d e f g i j k l)).2.2.2.2.2.2
def nB:arG×arG×aq5×aow×arD:=(nA a b c d e f g i j k l).2
def nC:arG×aq5×aow×arD:=(nB a b c d e f g i j k l).2
def nV:Int:=((Lp.res aW (iI a b c d e f g i j k l)).2).1
def jk:arG:=(nB a b c d e f g i j k l).1
def jl:arG:=(nC a b c d e f g i j k l).1
def jm:aqe:=((nC a b c d e f g i j k l).2).1
def nW:arG:=(nA a b c d e f g i j k l).1
def jn:Bool:=allT [Lp.fin aW (iI a b c d e f g i j k l)]
end
def ug:awE
 | [.one ⟨false,[.ptr 0 0]⟩,.one ⟨true,[.val (.int .i64 a),.val (.int .i64 b),.val (.int .i64 c),.ref 1,.ref 2]⟩,.one ⟨false,[.ref 3]⟩],[.box 31 [.val (.int .i64 d),.ref 4,.ref 5,.ref 6,.ref 7],.row false 122 (.pair (.int .i64) (.pair .str (.int .i64))) e,.row false 83 (.pair (.int .i64) (.int .i64)) f,.row false 2 (.int .i64) g,.row true 2 (.int .i64) i,.row true 2 (.int .i64) j,.row true 2 (.int .i64) k,.row true 109 (.pair (.int .i64) (.pair (.int .i64) (.int .i64))) l]=>some ⟨.tup [],[.box 31 [awF (nV a b c d e f g i j k l),.ref 8,.ref 5,.ref 6,.ref 7],.row false 122 ab5 e,.row false 83 aeK f,.row false 2 aox g,.gone,.row true 2 aox (jk a b c d e f g i j k l),.row true 2 aox (jl a b c d e f g i j k l),.row true 109 abx (jm a b c d e f g i j k l)],[.row true 2 aox (nW a b c d e f g i j k l)],[jn a b c d e f g i j k l]⟩
 |_,_=>none
def uk:PF prog:=PF.ofG prog [du,PF.lend du,oP] [aW.F] bj 45 f45 func45 (LOk.fnT (l:= [bB f45 0]) (by kernel_rfl) (.cons Br (.nil _))) ug (by
 intro _ _ _ h;unfold ug at h;split at h<;>cases h;kernel_rfl)
def mm(a:arG)(b:aq5):Bool:=allT [leN a.length (1048576:Nat),leN b.length (1048576:Nat)]
def yz:awE
 | [.one ⟨true,[.ref 0,.ref 1]⟩],[.row false 2 (.int .i64) a,.row false 109 (.pair (.int .i64) (.pair (.int .i64) (.int .i64))) b]=>some ⟨.one ⟨true,[.ref 2,.ref 3]⟩,[.row false 2 aox a,.row false 109 abx b],[.row true 2 aox a,.row true 109 abx b],[mm a b]⟩
 |_,_=>none
def qI:PF prog:=PF.ofG prog (T3z [gg,kV]) [] bj 122 f122 func122 (fun c _=>LOk.nil c) yz (by
 intro _ _ _ h;unfold yz at h;split at h<;>cases h;kernel_rfl)
def DM:arG:= []
def DN(a:Int):arG:=v6 a.toNat (0:Int)
def QF(a:Int)(b:arG)(c:aq5):Bool:=allT [mm b c,leI 0 a,leI a a,leI ((↑(8:Nat):Int) * a) 281474976710656,leI a 9223372036854775807]
def aja:awE
 | [.one ⟨true,[.val (.int .i64 _x0),.val (.int .i64 _x1),.val (.int .i64 a),.ref 0,.ref 1]⟩,.one ⟨true,[.ref 2,.ref 3]⟩],[.row false 122 (.pair (.int .i64) (.pair (.str) (.int .i64))) b,.row false 83 (.pair (.int .i64) (.int .i64)) c,.row false 2 (.int .i64) d,.row false 109 (.pair (.int .i64) (.pair (.int .i64) (.int .i64))) e]=>some ⟨.one ⟨true,[awF 0,.ref 4,.ref 5,.ref 6,.ref 7]⟩,[.row false 122 ab5 b,.row false 83 aeK c,.row false 2 aox d,.row false 109 abx e],[.row true 2 aox (DM),.row true 2 aox d,.row true 2 aox (DN a),.row true 109 abx e],[QF a d e]⟩
 |_,_=>none
def LW:PF prog:=PF.ofG prog (T3z [qI]) [] bj 75 f75 func75 (fun c _=>LOk.nil c) aja (by
 intro _ _ _ h;unfold aja at h;split at h<;>cases h;kernel_rfl)
section
variable (a b c:Int)(d:aow)(e:arD)(f:arG)(g:aq5)(i:arG)
def UY:arG:=jl a b c 0 d e i DM f (DN c) g
def UZ:arG:=jk a b c 0 d e i DM f (DN c) g
def Va:aqe:=jm a b c 0 d e i DM f (DN c) g
def Vb:Bool:=allT [QF c f g,jn a b c 0 d e i DM f (DN c) g]
end
def acr:awE
 | [.one ⟨true,[.val (.int .i64 a),.val (.int .i64 b),.val (.int .i64 c),.ref 0,.ref 1]⟩,.one ⟨true,[.ref 2,.ref 3]⟩,.one ⟨false,[.ref 4]⟩],[.row false 122 (.pair (.int .i64) (.pair (.str) (.int .i64))) d,.row false 83 (.pair (.int .i64) (.int .i64)) e,.row false 2 (.int .i64) f,.row false 109 (.pair (.int .i64) (.pair (.int .i64) (.int .i64))) g,.row false 2 (.int .i64) i]=>some ⟨.tup [⟨false,[.ref 5]⟩,⟨true,[.ref 6,.ref 7]⟩],[.row false 122 ab5 d,.row false 83 aeK e,.row false 2 aox f,.row false 109 abx g,.row false 2 aox i],[.row true 2 aox (UY a b c d e f g i),.row true 2 aox (UZ a b c d e f g i),.row true 109 abx (Va a b c d e f g i)],[Vb a b c d e f g i]⟩
 |_,_=>none
def alW:PF prog:=PF.ofG prog (T3z [uk,LW]) [] bj 68 f68 func68 (fun c _=>LOk.nil c) acr (by
 intro _ _ _ h;unfold acr at h;split at h<;>cases h;kernel_rfl)
abbrev MS:=Int×List Int×List Int×List Int×List BS3
def alq(st:List IN)(k:Int):IN:=v4 st[k.toNat]? ((0:Int),(0:Int))
def akb(bs:List TM)(st:List IN)(inp:arG):MS→MS
 |(k,stk,xs,os,ss)=>(k + 1,aob bs inp (alq st k) stk xs ss,asc bs (alq st k) stk xs,arS bs inp (alq st k) stk xs os,apW bs (alq st k) stk ss)
def ap8(bs:List TM)(st:List IN)(inp:arG):Nat→MS→MS
 |0,m=>m
 |n + 1,m=>ap8 bs st inp n (akb bs st inp m)
def OkS(i v o:Int)(bs:List TM)(st:List IN)(m:MS):Prop:=OkM i v o bs st m.1 m.2.1 m.2.2.1 m.2.2.2.1 m.2.2.2.2
theorem aiW{i v o:Int}{bs:List TM}{st:List IN}{inp:arG}{m:MS}(hC:cA i v o bs st=true)(xa:bitsB i inp=true)(h:OkS i v o bs st m)(eG:m.1 < st.length):
  OkS i v o bs st (akb bs st inp m)∧st[m.1.toNat]? =some (alq st m.1):=by
 obtain⟨k,stk,xs,os,ss⟩:=m
 have h0:=h.lo
 simp only at h0 eG
 have hk:k.toNat < st.length:=by omega
 have hx:st[k.toNat]? =some (alq st k):=by simp only [alq,List.getElem?_eq_getElem hk];rfl
 exact⟨(apI hC xa h eG hx).2.2.2.2.2,hx⟩
theorem asp{X:Type}(p:Lp X)(enc:MS→X){i v o:Int}{bs:List TM}{st:List IN}{inp:arG}(hC:cA i v o bs st=true)(xa:bitsB i inp=true)
  (h1: ∀ m:MS,OkS i v o bs st m→m.1 < st.length→(p.lt (enc m)).out=some (.inr (enc (akb bs st inp m)))) (h2: ∀ m:MS,m.1=st.length→(p.lt (enc m)).out=some (.inl 0))
  (hf: ∀ m,st.length≤p.fuel (enc m)) (m:MS) (hm:OkS i v o bs st m):
  p.fin (enc m)=true∧p.res (enc m)=(0,enc (ap8 bs st inp (st.length - m.1.toNat) m))∧OkS i v o bs st (ap8 bs st inp (st.length - m.1.toNat) m):=by
 have mO: ∀ (n:Nat) (m:MS),OkS i v o bs st m→st.length - m.1.toNat=n→LX p.lt (n + 1) (enc m)=some (0,enc (ap8 bs st inp n m))∧OkS i v o bs st (ap8 bs st inp n m):=by
  intro n
  induction n with
  |zero=>
   intro m hm hn
   have:=hm.lo
   have:=hm.hi
   exact⟨Gb _ (h2 m (by omega)),hm⟩
  |succ n ih=>
   intro m hm hn
   have h0:=hm.lo
   have eG:m.1 < st.length:=by omega
   have hs:=(aiW hC xa hm eG).1
   have he:(akb bs st inp m).1=m.1 + 1:=rfl
   obtain⟨r1,r2⟩:=ih _ hs (by rw [he];omega)
   exact⟨by rw [Tk _ (h1 m hm eG)];exact r1,r2⟩
 obtain⟨r1,r2⟩:=mO _ m hm rfl
 obtain⟨q1,q2⟩:=p.run r1 (aeN (by have:=hf m;omega))
 exact⟨q1,q2,r2⟩
def hAt(i v o:Int)(bs:List TM)(st:List IN)(k:Int):Int:=bif ltI 0 k then atZ (aeL i v o bs st) (k - 1)else 0
def Yv(i v o:Int)(bs:List TM)(st:List IN)(k:Int)(stk xs os:arG)(ss:List BS3):Bool:=inR k 0 st.length&&(bitsB (hAt i v o bs st k) stk&&(bitsB o os&&lB v bs xs ss))
theorem abr{v:Int}{bs:List TM}{xs:arG}{ss:List BS3}:lB v bs xs ss=true↔ss.length=bs.length∧bitsB v xs=true∧ ∀ k,k < bs.length→possAt bs ss k=true:=by
 simp only [lB,q9,beq_iff_eq,List.all_eq_true,List.mem_range]
 constructor
 ·rintro⟨h1,h2,h3⟩;exact⟨by omega,h2,h3⟩
 ·rintro⟨h1,h2,h3⟩;exact⟨by omega,h2,h3⟩
theorem akD{i v o:Int}{bs:List TM}{st:List IN}{k:Int}{stk xs os:arG}{ss:List BS3}(hC:cA i v o bs st=true)(h:Yv i v o bs st k stk xs os ss=true):OkM i v o bs st k stk xs os ss:=by
 simp only [Yv,q9,wW]at h
 obtain⟨⟨k0,k1⟩,h2,h3,h4⟩:=h
 obtain⟨s1,s2,s3⟩:=abr.1 h4
 simp only [cA,q9]at hC
 obtain⟨b1,b2⟩:=cz.1 h2
 refine⟨k0,k1,?_,b1,s2,h3,s1,s3⟩
 obtain⟨n,L,g1,g2,g3,g4⟩:=apg hC.2.2 k.toNat (by omega)
 refine⟨L,?_⟩
 rw [g1,b2]
 by_cases hk:0 < k
 ·have:=g4 (by omega)
  have ht:ltI 0 k=true:=cI hk
  simp only [hAt,ht,cond_true]
  rw [show ((k.toNat:Int) - 1)=k - 1 by omega]at this
  rw [this]
 ·have ht:ltI 0 k=false:=yV (by omega)
  simp only [hAt,ht,cond_false]
  rw [g3 (by omega)]
theorem avE{i v o:Int}{bs:List TM}{st:List IN}{m:MS}(hC:cA i v o bs st=true)(h:OkS i v o bs st m):Yv i v o bs st m.1 m.2.1 m.2.2.1 m.2.2.2.1 m.2.2.2.2=true:=by
 obtain⟨k,stk,xs,os,ss⟩:=m
 simp only [cA,q9]at hC
 obtain⟨L,hL⟩:=h.hg
 have h0:=h.lo
 have h1:=h.hi
 simp only at h0 h1 hL
 obtain⟨n,L',g1,g2,g3,g4⟩:=apg hC.2.2 k.toNat (by omega)
 rw [hL,Option.some.injEq,Prod.mk.injEq]at g1
 simp only [Yv,q9,wW]
 refine⟨⟨h0,h1⟩,cz.2 ⟨h.bt,?_⟩,h.ou,abr.2 ⟨h.sl,h.vl,h.sp⟩⟩
 by_cases hk:0 < k
 ·have:=g4 (by omega)
  have ht:ltI 0 k=true:=cI hk
  simp only [hAt,ht,cond_true]
  rw [show k - 1=((k.toNat:Int) - 1) by omega,this];exact g1.1
 ·have ht:ltI 0 k=false:=yV (by omega)
  simp only [hAt,ht,cond_false]
  rw [← g3 (by omega)];exact g1.1
theorem am6{i v o:Int}{bs:List TM}{st:List IN}{m:MS}(hC:cA i v o bs st=true)(h:OkS i v o bs st m):m.2.1.length≤40∧m.2.2.1.length≤20∧m.2.2.2.1.length≤20∧m.2.2.2.2.length≤2000:=by
 obtain⟨k,stk,xs,os,ss⟩:=m
 simp only [cA,q9]at hC
 obtain⟨ri,rv,ro,rb,rs⟩:=II.1 hC.1
 obtain⟨L,hL⟩:=h.hg
 have h2:=al8 _ _ _ _ _ (by omega) hL
 have hxl:=(cz.1 h.vl).2
 have hol:=(cz.1 h.ou).2
 have hsl:=h.sl
 simp only at h2 hxl hol hsl ⊢
 omega
def fnM(bs:List TM)(st:List IN)(inp:arG)(k:Int)(stk xs os:arG)(ss:List BS3):MS:=ap8 bs st inp (st.length - k.toNat) (k,stk,xs,os,ss)
def Sp(i v o:Int)(bs:List TM)(st:List IN)(inp:arG)(k:Int)(stk xs os:arG)(ss:List BS3):Bool:=cA i v o bs st&&(bitsB i inp&&Yv i v o bs st k stk xs os ss)
theorem asz(i v o:Int)(bs:List TM)(st:List IN)(inp:arG)(k:Int)(stk xs os:arG)(ss:List BS3)(h:Sp i v o bs st inp k stk xs os ss=true):
  nV i v o k bs st inp stk xs os ss=(fnM bs st inp k stk xs os ss).1∧jk i v o k bs st inp stk xs os ss=(fnM bs st inp k stk xs os ss).2.2.1∧
  jl i v o k bs st inp stk xs os ss=(fnM bs st inp k stk xs os ss).2.2.2.1∧jm i v o k bs st inp stk xs os ss=(fnM bs st inp k stk xs os ss).2.2.2.2∧
  nW i v o k bs st inp stk xs os ss=(fnM bs st inp k stk xs os ss).2.1∧jn i v o k bs st inp stk xs os ss=true:=by
 simp only [Sp,q9]at h
 obtain⟨hC,xa,hm⟩:=h
 have hm:=akD hC hm
 obtain⟨f1,f2,_⟩:=asp aW (fun m=>(m.1,i,v,o,inp,m.2.1,m.2.2.1,m.2.2.2.1,m.2.2.2.2,bs,st)) hC xa
  (fun m hm eG=>by
   obtain⟨k,stk,xs,os,ss⟩:=m
   obtain⟨_,hx⟩:=aiW hC xa hm eG
   obtain⟨e0,e4,e1,e2,e3,e5⟩:=aqk hC xa hm eG hx
   simp only at eG e0 e1 e2 e3 e4 e5
   have t1:ltI k (st.length:Int)=true:=cI eG
   simp only [aW,ma,LT.out,mE,sz,sA,sB,sC,sD,sE,ax,t1,e0,e1,e2,e3,e4,e5,akb,allT]
   rfl)
  (fun m hk=>by
   obtain⟨k,stk,xs,os,ss⟩:=m
   simp only at hk
   have t1:ltI k (st.length:Int)=false:=yV (by omega)
   simp only [aW,ma,LT.out,mE,ax,t1,cond_false])
  (fun m=>by simp only [aW];omega) (k,stk,xs,os,ss) hm
 simp only at f1 f2
 simp only [nV,jk,jl,jm,nW,jn,iI,nA,nB,nC,f1,f2,allT,fnM,and_self,cond_true]
theorem auZ(i v o:Int)(bs:List TM)(st:List IN)(inp:arG)(k:Int)(stk xs os:arG)(ss:List BS3)(h:Sp i v o bs st inp k stk xs os ss=true):
  TI i v o k bs st stk xs os ss inp=(fnM bs st inp k stk xs os ss).1∧TJ i v o k bs st stk xs os ss inp=(fnM bs st inp k stk xs os ss).2.1∧
  Mt i v o k bs st stk xs os ss inp=(fnM bs st inp k stk xs os ss).2.2.1∧Mu i v o k bs st stk xs os ss inp=(fnM bs st inp k stk xs os ss).2.2.2.1∧
  Mv i v o k bs st stk xs os ss inp=(fnM bs st inp k stk xs os ss).2.2.2.2∧Mw i v o k bs st stk xs os ss inp=true:=by
 simp only [Sp,q9]at h
 obtain⟨hC,xa,hm⟩:=h
 have hm:=akD hC hm
 obtain⟨l1,l2,l3,l4⟩:=am6 (m:=(k,stk,xs,os,ss)) hC hm
 simp only at l1 l2 l3 l4
 obtain⟨f1,f2,_⟩:=asp kB (fun m=>(m.1,i,v,o,inp,m.2.1,m.2.2.1,m.2.2.2.1,m.2.2.2.2,bs,st)) hC xa
  (fun m hm eG=>by
   obtain⟨k,stk,xs,os,ss⟩:=m
   obtain⟨_,hx⟩:=aiW hC xa hm eG
   obtain⟨e0,e1,e2,e3,e4,e5⟩:=aqX hC xa hm eG hx
   simp only at eG e0 e1 e2 e3 e4 e5
   have t1:ltI k (st.length:Int)=true:=cI eG
   simp only [kB,Lo,LT.out,NB,VI,VJ,VK,VL,VM,VN,t1,e0,e1,e2,e3,e4,e5,akb,allT]
   rfl)
  (fun m hk=>by
   obtain⟨k,stk,xs,os,ss⟩:=m
   simp only at hk
   have t1:ltI k (st.length:Int)=false:=yV (by omega)
   simp only [kB,Lo,LT.out,NB,t1,cond_false])
  (fun m=>by simp only [kB];omega) (k,stk,xs,os,ss) hm
 simp only at f1 f2
 have t1:leN stk.length 1048576=true:=aG (by omega)
 have t2:leN xs.length 1048576=true:=aG (by omega)
 have t3:leN os.length 1048576=true:=aG (by omega)
 have t4:leN (0 + ss.length) 9223372036854775807=true:=aG (by omega)
 have t5:leN ((0 + ss.length) * 24) 140737488355328=true:=aG (by omega)
 simp only [TI,TJ,Mt,Mu,Mv,Mw,Kr,Sb,Sc,Sd,f1,f2,t1,t2,t3,t4,t5,allT,fnM,and_self,cond_true]
def rnM(o:Int)(bs:List TM)(st:List IN)(inp xs:arG)(ss:List BS3):MS:=fnM bs st inp 0 [] xs (v6 o.toNat 0) ss
def VT(i v o:Int)(bs:List TM)(st:List IN)(inp xs:arG)(ss:List BS3):Bool:=cA i v o bs st&&(bitsB i inp&&lB v bs xs ss)
theorem amC{i v o:Int}{bs:List TM}{st:List IN}{inp xs:arG}{ss:List BS3}(h:VT i v o bs st inp xs ss=true):
  Sp i v o bs st inp 0 [] xs (v6 o.toNat 0) ss=true∧(0≤o∧o≤20)∧xs.length≤20∧ss.length≤2000:=by
 simp only [VT,q9]at h
 obtain⟨hC,xa,hs⟩:=h
 obtain⟨s1,s2,s3⟩:=abr.1 hs
 have hC2:=hC
 simp only [cA,q9]at hC2
 obtain⟨ri,rv,ro,rb,rs⟩:=II.1 hC2.1
 have hxl:=(cz.1 s2).2
 refine⟨?_,ro,by omega,by omega⟩
 simp only [Sp,q9,Yv,wW]
 refine⟨hC,xa,by omega,?_,?_,hs⟩
 ·rw [show hAt i v o bs st 0=0 from rfl]
  exact cz.2 ⟨fun z hz=>(List.not_mem_nil hz).elim,rfl⟩
 ·exact cz.2 ⟨fun z hz=> .inl (List.eq_of_mem_replicate hz),by rw [List.length_replicate];omega⟩
theorem avt(i v o:Int)(bs:List TM)(st:List IN)(xs:arG)(ss:List BS3)(inp:arG)(h:VT i v o bs st inp xs ss=true):
  UY i v o bs st xs ss inp=(rnM o bs st inp xs ss).2.2.2.1∧UZ i v o bs st xs ss inp=(rnM o bs st inp xs ss).2.2.1∧
  Va i v o bs st xs ss inp=(rnM o bs st inp xs ss).2.2.2.2∧Vb i v o bs st xs ss inp=true:=by
 obtain⟨h1,h2,h3,h4⟩:=amC h
 obtain⟨f0,f1,f2,f3,f4,f5⟩:=asz i v o bs st inp 0 [] xs (v6 o.toNat 0) ss h1
 have t1:leN xs.length 1048576=true:=aG (by omega)
 have t2:leN ss.length 1048576=true:=aG (by omega)
 have u1:leI 0 o=true:=aS h2.1
 have u2:leI o o=true:=aS (by omega)
 have u3:leI (((8:Nat):Int) * o) 281474976710656=true:=aS (by omega)
 have u4:leI o 9223372036854775807=true:=aS (by omega)
 simp only [UY,UZ,Va,Vb,DM,DN,QF,mm,f0,f1,f2,f3,f4,f5,t1,t2,u1,u2,u3,u4,allT,rnM,and_self,cond_true]
theorem avK(i v o:Int)(bs:List TM)(st:List IN)(xs:arG)(ss:List BS3)(inp:arG)(h:VT i v o bs st inp xs ss=true):
  aav i v o bs st xs ss inp=(rnM o bs st inp xs ss).2.2.2.1∧aaw i v o bs st xs ss inp=(rnM o bs st inp xs ss).2.2.1∧
  aax i v o bs st xs ss inp=(rnM o bs st inp xs ss).2.2.2.2∧aay i v o bs st xs ss inp=true:=by
 obtain⟨h1,h2,h3,h4⟩:=amC h
 obtain⟨f0,f1,f2,f3,f4,f5⟩:=auZ i v o bs st inp 0 [] xs (v6 o.toNat 0) ss h1
 have t1:leN xs.length 1048576=true:=aG (by omega)
 have t4:leN (0 + ss.length) 9223372036854775807=true:=aG (by omega)
 have t5:leN ((0 + ss.length) * 24) 140737488355328=true:=aG (by omega)
 have u1:leI 0 o=true:=aS h2.1
 have u2:leI o o=true:=aS (by omega)
 have u3:leI (((8:Nat):Int) * o) 281474976710656=true:=aS (by omega)
 have u4:leI o 9223372036854775807=true:=aS (by omega)
 simp only [aav,aaw,aax,aay,pG,pH,zY,f0,f1,f2,f3,f4,f5,t1,t4,t5,u1,u2,u3,u4,allT,rnM,and_self,cond_true]
def ui:awE
 | [.one ⟨false,[.ptr 0 0]⟩,.one ⟨true,[.val (.int .i64 a),.val (.int .i64 b),.val (.int .i64 c),.ref 1,.ref 2]⟩,.one ⟨false,[.ref 3]⟩],[.box 31 [.val (.int .i64 d),.ref 4,.ref 5,.ref 6,.ref 7],.row false 122 (.pair (.int .i64) (.pair .str (.int .i64))) e,.row false 83 (.pair (.int .i64) (.int .i64)) f,.row false 2 (.int .i64) g,.row true 2 (.int .i64) i,.row true 2 (.int .i64) j,.row true 2 (.int .i64) k,.row true 109 (.pair (.int .i64) (.pair (.int .i64) (.int .i64))) l]=>some ⟨.tup [],[.box 31 [awF ((fnM e f g d i j k l).1),.ref 8,.ref 5,.ref 6,.ref 7],.row false 122 ab5 e,.row false 83 aeK f,.row false 2 aox g,.gone,.row true 2 aox ((fnM e f g d i j k l).2.2.1),.row true 2 aox ((fnM e f g d i j k l).2.2.2.1),.row true 109 abx ((fnM e f g d i j k l).2.2.2.2)],[.row true 2 aox ((fnM e f g d i j k l).2.1)],[Sp a b c e f g d i j k l]⟩
 |_,_=>none
def Fi:PF prog:=PF.alt uk ui (by
 intro args es o h bA;unfold ui at h;split at h
 ·rename_i a b c d e f g i j k l
  cases h
  have bA:=fv bA
  have hh:=asz a b c e f g d i j k l bA
  obtain⟨e0,e1,e2,e3,e4,en⟩:=hh
  exact kj rfl (eT en) rfl (by simp only [e0,e1,e2,e3] <;> rfl) (by simp only [e4] <;> rfl)
 ·cases h)
def acI:awE
 | [.one ⟨true,[.val (.int .i64 a),.val (.int .i64 b),.val (.int .i64 c),.ref 0,.ref 1]⟩,.one ⟨true,[.ref 2,.ref 3]⟩,.one ⟨false,[.ref 4]⟩],[.row false 122 (.pair (.int .i64) (.pair (.str) (.int .i64))) d,.row false 83 (.pair (.int .i64) (.int .i64)) e,.row false 2 (.int .i64) f,.row false 109 (.pair (.int .i64) (.pair (.int .i64) (.int .i64))) g,.row false 2 (.int .i64) i]=>some ⟨.tup [⟨false,[.ref 5]⟩,⟨true,[.ref 6,.ref 7]⟩],[.row false 122 ab5 d,.row false 83 aeK e,.row false 2 aox f,.row false 109 abx g,.row false 2 aox i],[.row true 2 aox ((rnM c d e i f g).2.2.2.1),.row true 2 aox ((rnM c d e i f g).2.2.1),.row true 109 abx ((rnM c d e i f g).2.2.2.2)],[VT a b c d e i f g]⟩
 |_,_=>none
def uc:PF prog:=PF.alt alW acI (by
 intro args es o h bA;unfold acI at h;split at h
 ·rename_i a b c d e f g i
  cases h
  have bA:=fv bA
  have hh:=avt a b c d e f g i bA
  obtain⟨e0,e1,e2,en⟩:=hh
  exact kj rfl (eT en) rfl rfl (by simp only [e0,e1,e2] <;> rfl)
 ·cases h)
def ag0:awE
 | [.one ⟨true,[.val (.int .i64 a),.val (.int .i64 b),.val (.int .i64 c),.ref 0,.ref 1]⟩,.one ⟨true,[.ref 2,.ref 3]⟩,.one ⟨false,[.ref 4]⟩],[.row false 122 (.pair (.int .i64) (.pair (.str) (.int .i64))) d,.row false 83 (.pair (.int .i64) (.int .i64)) e,.row false 2 (.int .i64) f,.row false 109 (.pair (.int .i64) (.pair (.int .i64) (.int .i64))) g,.row false 2 (.int .i64) i]=>some ⟨.tup [⟨false,[.ref 5]⟩,⟨true,[.ref 6,.ref 7]⟩],[.row false 122 ab5 d,.row false 83 aeK e,.row false 2 aox f,.row false 109 abx g,.row false 2 aox i],[.row false 2 aox ((rnM c d e i f g).2.2.2.1),.row false 2 aox ((rnM c d e i f g).2.2.1),.row false 109 abx ((rnM c d e i f g).2.2.2.2)],[VT a b c d e i f g]⟩
 |_,_=>none
def rC:PF prog:=PF.alt an7 ag0 (by
 intro args es o h bA;unfold ag0 at h;split at h
 ·rename_i a b c d e f g i
  cases h
  have bA:=fv bA
  have hh:=avK a b c d e f g i bA
  obtain⟨e0,e1,e2,en⟩:=hh
  exact kj rfl (eT en) rfl rfl (by simp only [e0,e1,e2] <;> rfl)
 ·cases h)
def Ds(a:arG)(b:Int):Bool:= !bitsB b a
def Dt(a:arG):Bool:=allT [leN a.length (9223372036854775807:Nat)]
def MB:awE
 | [.one ⟨false,[.ref 0]⟩,.one ⟨false,[.ptr 1 0]⟩],[.row false 2 (.int .i64) a,.box 27 [.val (.int .i64 b),.val (.int .i64 c),.val (.int .i64 d),.ref 2,.ref 3],.row false 122 (.pair (.int .i64) (.pair .str (.int .i64))) e,.row false 83 (.pair (.int .i64) (.int .i64)) f]=>some ⟨.one ⟨false,[.val (.bool (Ds a b))]⟩,[.row false 2 aox a,.box 27 [awF b,awF c,awF d,.ref 2,.ref 3],.row false 122 ab5 e,.row false 83 aeK f],[],[Dt a]⟩
 |_,_=>none
def pb:PF prog:=PF.ofG prog (T3z [gU]) [] bj 119 f119 func119 (fun c _=>LOk.nil c) MB (by
 intro _ _ _ h;unfold MB at h;split at h<;>cases h;kernel_rfl)
abbrev bP:=Int×Int×Int×Int×Int×List (List Int)×List (Int×(asv×Int))×List (Int×Int)
section
variable (a b c:Int)(d:aq6)
def cO:arG:=v4 d[j8 a]? (ub (CTy.sl (2:TypeId) aox))
def iy:Bool:=ltI a b
def mr:Bool:=leI 0 a
def mt:Bool:=ltI a (↑d.length:Int)
def mu:Bool:=ltN a.toNat d.length
def mv:Bool:=Dt (cO a d)
def iz:Bool:=Ds (cO a d) c
def mw:Int:=v5 .i64 (a + (1:Int))
end
def IV:bP→List (Nat×SV)
 |(a,b,_,_,_,_,_,_)=> [(8,(.one ⟨false,[awF a]⟩)),(7,(.one ⟨false,[awF b]⟩)),(1,(.one ⟨false,[.clo 119 [0]]⟩)),(0,(.one ⟨false,[.ref 1]⟩))]
def IQ:bP→List (Nat×Entry)
 |(_,_,a,b,c,d,e,f)=> [(0,(.box 27 [awF a,awF b,awF c,.ref 2,.ref 3])),(1,(.row false 28 (CTy.sl (2:TypeId) aox) d)),(2,(.row false 122 ab5 e)),(3,(.row false 83 aeK f))]
def Jb:Nat→bP→List (Nat×SV)
 |0,(a,_,_,_,_,_,_,_)=> [(4,(.one ⟨false,[awF a]⟩))]
 |_,(_,_,_,_,_,_,_,_)=> []
def gS:bP→LT bP
 |(a,b,c,d,e,f,g,i)=> .ite (iy a b) (.need [mr a,mt a f,mu a f,mv a f] (.ite (iz a c f) (.ext 0 [(0,0),(1,1),(2,2),(3,3)]) (.nrm ((mw a),b,c,d,e,f,g,i) [(0,0),(1,1),(2,2),(3,3)]))) (.ext 1 [(0,0),(1,1),(2,2),(3,3)])
def qm(s:St):Option bP:=do
 let some ⟨none,.one ⟨false,[.val (.int .i64 a)]⟩⟩:=s.look 8|none
 let some ⟨none,.one ⟨false,[.val (.int .i64 b)]⟩⟩:=s.look 7|none
 let some ⟨none,.one ⟨false,[.clo 119 [1]]⟩⟩:=s.look 1|none
 let some ⟨none,.one ⟨false,[.ref 0]⟩⟩:=s.look 0|none
 let some (.box 27 [.val (.int .i64 c),.val (.int .i64 d),.val (.int .i64 e),.ref 2,.ref 3]):=s.ent 1|none
 let some (.row false 28 (.sl 2 (.int .i64)) f):=s.ent 0|none
 let some (.row false 122 (.pair (.int .i64) (.pair .str (.int .i64))) g):=s.ent 2|none
 let some (.row false 83 (.pair (.int .i64) (.int .i64)) i):=s.ent 3|none
 some (a,b,c,d,e,f,g,i)
def aD:Lp bP where
 h:=⟨[9,10,5,11,12,13,14,15,16,17,4,18,8],[0,1,2,3],[],[]⟩
 JL:=IV
 JE:=IQ
 XL:=Jb
 XE:=fun _=>IQ
 q:=fun j=>match j with | 0=> .ret | _=> .exit 0
 tags:= [0,1]
 lt:=gS
 fuel:=fun(a,b,c,d,e,f,g,i)=>a.natAbs + b.natAbs + c.natAbs + d.natAbs + e.natAbs + f.length + g.length + i.length
 fix:=fun(_,b,c,d,e,f,g,i) (a,_,_,_,_,_,_,_)=>(a,b,c,d,e,f,g,i)
 σ:= [(0,1),(1,0),(2,2),(3,3)]
 rd:=qm
theorem Hz:LoopOk prog (fun k=>Nat.blt k Tryz.f128.ntmps) aD.F (bB f128 0):=by
 refine Lp.ok (tbl:= (T3z [pb])) (lf:= []) bj aD (by kernel_rfl) (LOk.nil _) (fun _=>rfl) (fun j _=>by unfold aD;match j with | 0=>rfl | _ + 1=>rfl) ?_ ?_ ?_ ?_ (fun _=>rfl) ?_
 ·rintro⟨a,b,c,d,e,f,g,i⟩;kernel_rfl
 ·rintro⟨a,b,c,d,e,f,g,i⟩;kernel_rfl
 ·intro s x h
  have h:qm s=some x:=h
  unfold qm at h
  repeat' split at h
  all_goals cases h
  constructor<;>repeat(first|refine ab (by assumption) rfl ?_|refine aa rfl (by assumption) rfl ?_|exact rfl)
 ·rintro⟨a,b,c,d,e,f,g,i⟩;kernel_rfl
 ·rintro⟨a,b,c,d,e,f,g,i⟩ z;exact(And.intro (And.intro trivial rfl) trivial)
section
variable (a:aq6)(b c d:Int)(e:aow)(f:arD)
def nH:Int×Int×Int×Int×Int×aq6×aow×arD:=((0:Int),(↑a.length:Int),b,c,d,a,e,f)
def jD:Bool:=Nat.beq ((Lp.res aD (nH a b c d e f)).1) 0
def sO:Int:=bif jD a b c d e f then ((Lp.res aD (nH a b c d e f)).2).1else(-1:Int)
def Ap:Int:=bif jD a b c d e f then b else b
def Aq:Int:=bif jD a b c d e f then c else c
def Ar:Int:=bif jD a b c d e f then d else d
def sP:Bool:=allT [Lp.fin aD (nH a b c d e f)]
end
def Aa:awE
 | [.one ⟨false,[.ref 0]⟩,.one ⟨false,[.clo 119 [1]]⟩],[.row false 28 (.sl 2 (.int .i64)) a,.box 27 [.val (.int .i64 b),.val (.int .i64 c),.val (.int .i64 d),.ref 2,.ref 3],.row false 122 (.pair (.int .i64) (.pair .str (.int .i64))) e,.row false 83 (.pair (.int .i64) (.int .i64)) f]=>some ⟨.one ⟨false,[awF (sO a b c d e f)]⟩,[.row false 28 (CTy.sl (2:TypeId) aox) a,.box 27 [awF (Ap a b c d e f),awF (Aq a b c d e f),awF (Ar a b c d e f),.ref 2,.ref 3],.row false 122 ab5 e,.row false 83 aeK f],[],[sP a b c d e f]⟩
 |_,_=>none
def sK:PF prog:=PF.ofG prog (T3z [pb]) [aD.F] bj 128 f128 func128 (LOk.fnT (l:= [bB f128 0]) (by kernel_rfl) (.cons Hz (.nil _))) Aa (by
 intro _ _ _ h;unfold Aa at h;split at h<;>cases h;kernel_rfl)
section
variable (a:aq6)(b c d:Int)(e:aow)(f:arD)
def qM:Bool:=leI 0 (sO a b c d e f)
def Kv:Int:=Ap a b c d e f
def Kw:Int:=Aq a b c d e f
def Kx:Int:=Ar a b c d e f
def qN:Bool:=allT [sP a b c d e f]
end
def yB:awE
 | [.one ⟨false,[.ref 0]⟩,.one ⟨false,[.clo 119 [1]]⟩],[.row false 28 (.sl 2 (.int .i64)) a,.box 27 [.val (.int .i64 b),.val (.int .i64 c),.val (.int .i64 d),.ref 2,.ref 3],.row false 122 (.pair (.int .i64) (.pair .str (.int .i64))) e,.row false 83 (.pair (.int .i64) (.int .i64)) f]=>some ⟨.one ⟨false,[.val (.bool (qM a b c d e f))]⟩,[.row false 28 (CTy.sl (2:TypeId) aox) a,.box 27 [awF (Kv a b c d e f),awF (Kw a b c d e f),awF (Kx a b c d e f),.ref 2,.ref 3],.row false 122 ab5 e,.row false 83 aeK f],[],[qN a b c d e f]⟩
 |_,_=>none
def qJ:PF prog:=PF.ofG prog (T3z [sK]) [] bj 85 f85 func85 (fun c _=>LOk.nil c) yB (by
 intro _ _ _ h;unfold yB at h;split at h<;>cases h;kernel_rfl)
def Kd(a b c:Int)(d:aow)(e:arD)(f:arG)(g:aq5)(i:aq6):Int:=bif !cA a b c d e then(1:Int)else bif bif !lB b d f g then true else qM i a b c d e then(2:Int)else(0:Int)
def Ke(a b c:Int)(d:aow)(e:arD)(f:arG)(g:aq5)(i:aq6):Bool:=allT [!cA a b c d e||leN f.length (9223372036854775807:Nat)&&(leN d.length (9223372036854775807:Nat)&&Sl d),!cA a b c d e||(!(!!lB b d f g&&true)||qN i a b c d e)]
def Yz:awE
 | [.one ⟨true,[.val (.int .i64 a),.val (.int .i64 b),.val (.int .i64 c),.ref 0,.ref 1]⟩,.one ⟨true,[.ref 2,.ref 3]⟩,.one ⟨false,[.ref 4]⟩],[.row false 122 (.pair (.int .i64) (.pair (.str) (.int .i64))) d,.row false 83 (.pair (.int .i64) (.int .i64)) e,.row false 2 (.int .i64) f,.row false 109 (.pair (.int .i64) (.pair (.int .i64) (.int .i64))) g,.row false 28 (.sl 2 (.int .i64)) i]=>some ⟨.one ⟨false,[awF (Kd a b c d e f g i)]⟩,[.row false 122 ab5 d,.row false 83 aeK e,.row false 2 aox f,.row false 109 abx g,.row false 28 (CTy.sl (2:TypeId) aox) i],[],[Ke a b c d e f g i]⟩
 |_,_=>none
def Ki:PF prog:=PF.ofG prog (T3z [cm,nE,qJ]) [] bj 67 f67 func67 (fun c _=>LOk.nil c) Yz (by
 intro _ _ _ h;unfold Yz at h;split at h<;>cases h;kernel_rfl)
section
variable (a b c:Int)(d:aow)(e:arD)(f:arG)(g:aq5)(i:arG)
def DB:Bool:=bif !lB b d f g then true else !bitsB a i
def Xq:Int:=bif !cA a b c d e then(1:Int)else bif DB a b d f g i then(2:Int)else(0:Int)
def Xr:arG:=bif !cA a b c d e then []else bif DB a b d f g i then []else ((rnM c d e i f g).2.2.2).1
def Xs:arG:=bif !cA a b c d e then []else bif DB a b d f g i then []else ((rnM c d e i f g).2.2).1
def Xt:aqe:=bif !cA a b c d e then []else bif DB a b d f g i then []else (rnM c d e i f g).2.2.2.2
def Xu:Bool:=allT [afu d,!cA a b c d e||leN f.length (9223372036854775807:Nat)&&leN d.length (9223372036854775807:Nat),!cA a b c d e||(!(!!lB b d f g&&true)||leN i.length (9223372036854775807:Nat)),!cA a b c d e||(DB a b d f g i||VT a b c d e i f g)]
end
def adK:awE
 | [.one ⟨true,[.val (.int .i64 a),.val (.int .i64 b),.val (.int .i64 c),.ref 0,.ref 1]⟩,.one ⟨true,[.ref 2,.ref 3]⟩,.one ⟨false,[.ref 4]⟩],[.row false 122 (.pair (.int .i64) (.pair (.str) (.int .i64))) d,.row false 83 (.pair (.int .i64) (.int .i64)) e,.row false 2 (.int .i64) f,.row false 109 (.pair (.int .i64) (.pair (.int .i64) (.int .i64))) g,.row false 2 (.int .i64) i]=>some ⟨.tup [⟨false,[.ref 5]⟩,⟨true,[.ref 6,.ref 7]⟩,⟨false,[awF (Xq a b c d e f g i)]⟩],[.row false 122 ab5 d,.row false 83 aeK e,.row false 2 aox f,.row false 109 abx g,.row false 2 aox i],[.row false 2 aox (Xr a b c d e f g i),.row false 2 aox (Xs a b c d e f g i),.row false 109 abx (Xt a b c d e f g i)],[Xu a b c d e f g i]⟩
 |_,_=>none
def anf:PF prog:=PF.ofG prog (T3z [ud,fP,bh,rC]) [] bj 31 f31 func31 (fun c _=>LOk.nil c) adK (by
 intro _ _ _ h;unfold adK at h;split at h<;>cases h;kernel_rfl)
section
variable (a b c:Int)(d:aow)(e:arD)(f:arG)(g:aq5)(i:arG)
def UU:Int:=Kd a b c d e f g [i]
def Dy:Bool:=UU a b c d e f g i !=0
def WF:Int:=bif Dy a b c d e f g i then UU a b c d e f g i else(0:Int)
def WG:arG:=bif Dy a b c d e f g i then []else ((rnM c d e i f g).2.2.2).1
def WH:arG:=bif Dy a b c d e f g i then []else ((rnM c d e i f g).2.2).1
def WI:aqe:=bif Dy a b c d e f g i then []else (rnM c d e i f g).2.2.2.2
def WJ:Bool:=allT [Ke a b c d e f g [i],Dy a b c d e f g i||VT a b c d e i f g]
end
def adG:awE
 | [.one ⟨true,[.val (.int .i64 a),.val (.int .i64 b),.val (.int .i64 c),.ref 0,.ref 1]⟩,.one ⟨true,[.ref 2,.ref 3]⟩,.one ⟨false,[.ref 4]⟩],[.row false 122 (.pair (.int .i64) (.pair (.str) (.int .i64))) d,.row false 83 (.pair (.int .i64) (.int .i64)) e,.row false 2 (.int .i64) f,.row false 109 (.pair (.int .i64) (.pair (.int .i64) (.int .i64))) g,.row false 2 (.int .i64) i]=>some ⟨.tup [⟨false,[.ref 5]⟩,⟨true,[.ref 6,.ref 7]⟩,⟨false,[awF (WF a b c d e f g i)]⟩],[.row false 122 ab5 d,.row false 83 aeK e,.row false 2 aox f,.row false 109 abx g,.row false 2 aox i],[.row true 2 aox (WG a b c d e f g i),.row true 2 aox (WH a b c d e f g i),.row true 109 abx (WI a b c d e f g i)],[WJ a b c d e f g i]⟩
 |_,_=>none
def ana:PF prog:=PF.ofG prog (T3z [Ki,uc]) [] bj 30 f30 func30 (fun c _=>LOk.nil c) adG (by
 intro _ _ _ h;unfold adG at h;split at h<;>cases h;kernel_rfl)
section
variable (a b c d:Int)(e:aow)(f:arD)(g i j:arG)(k:aq5)
def mh:Bool:= !aZ d 0 (↑f.length:Int)
def wC:Int:=v5 .i64 (d - (1:Int))
def FG:Bool:=bitsB (bif ltI 0 d then v4 (aeL a b c e f)[j8 (wC d)]? 0 else(0:Int)) g
def NC:Bool:=bif FG a b c d e f g then bitsB c j else false
def PP:Bool:=bif mh d f then false else bif NC a b c d e f g j then lB b e i k else false
def PQ:Bool:=allT [mh d f||(!ltI 0 d||leN f.length (2000:Nat)&&leN e.length (2000:Nat)),mh d f||(!ltI 0 d||leI 0 (wC d)),mh d f||(!ltI 0 d||ltI (wC d) (↑(j9 (aeL a b c e f)):Int)),mh d f||(!ltI 0 d||ltN (j8 (wC d)) (j9 (aeL a b c e f))),mh d f||leN g.length (9223372036854775807:Nat),mh d f||(!(FG a b c d e f g&&true)||leN j.length (9223372036854775807:Nat)),mh d f||(!(NC a b c d e f g j&&true)||leN i.length (9223372036854775807:Nat)&&leN e.length (9223372036854775807:Nat))]
end
def Wr:awE
 | [.one ⟨true,[.val (.int .i64 a),.val (.int .i64 b),.val (.int .i64 c),.ref 0,.ref 1]⟩,.one ⟨true,[.val (.int .i64 d),.ref 2,.ref 3,.ref 4,.ref 5]⟩],[.row false 122 (.pair (.int .i64) (.pair (.str) (.int .i64))) e,.row false 83 (.pair (.int .i64) (.int .i64)) f,.row false 2 (.int .i64) g,.row false 2 (.int .i64) i,.row false 2 (.int .i64) j,.row false 109 (.pair (.int .i64) (.pair (.int .i64) (.int .i64))) k]=>some ⟨.one ⟨false,[.val (.bool (PP a b c d e f g i j k))]⟩,[.row false 122 ab5 e,.row false 83 aeK f,.row false 2 aox g,.row false 2 aox i,.row false 2 aox j,.row false 109 abx k],[],[PQ a b c d e f g i j]⟩
 |_,_=>none
def aim:PF prog:=PF.ofG prog (T3z [ud,pp,QH,bh]) [] bj 50 f50 func50 (fun c _=>LOk.nil c) Wr (by
 intro _ _ _ h;unfold Wr at h;split at h<;>cases h;kernel_rfl)
section
variable (a b c d:Int)(e f g:arG)(i:aq5)(j:aow)(k:arD)
def dr:Int:=v5 .i64 (a - (1:Int))
def iJ:Bool:=bitsB (bif ltI 0 a then v4 (aeL b c d j k)[j8 (dr a)]? 0 else(0:Int)) e
def nD:Bool:=bif iJ a b c d e j k then bitsB d g else false
def nX:Bool:=bif !dQ a 0 (ax k)then false else bif nD a b c d e g j k then lB c j f i else false
def nY:Bool:=allT [!dQ a 0 (ax k)||apy b c d j k,!dQ a 0 (ax k)||(!ltI 0 a||leI 0 (dr a)),!dQ a 0 (ax k)||(!ltI 0 a||ltI (dr a) (↑(j9 (aeL b c d j k)):Int)),!dQ a 0 (ax k)||(!ltI 0 a||ltN (j8 (dr a)) (j9 (aeL b c d j k))),!dQ a 0 (ax k)||leN e.length (9223372036854775807:Nat),!dQ a 0 (ax k)||(!(iJ a b c d e j k&&true)||leN g.length (9223372036854775807:Nat)),!dQ a 0 (ax k)||(!(nD a b c d e g j k&&true)||leN f.length (9223372036854775807:Nat)&&(leN j.length (9223372036854775807:Nat)&&Sl j))]
end
def uh:awE
 | [.one ⟨true,[.val (.int .i64 a),.ref 0,.ref 1,.ref 2,.ref 3]⟩,.one ⟨true,[.val (.int .i64 b),.val (.int .i64 c),.val (.int .i64 d),.ref 4,.ref 5]⟩],[.row false 2 (.int .i64) e,.row false 2 (.int .i64) f,.row false 2 (.int .i64) g,.row false 109 (.pair (.int .i64) (.pair (.int .i64) (.int .i64))) i,.row false 122 (.pair (.int .i64) (.pair (.str) (.int .i64))) j,.row false 83 (.pair (.int .i64) (.int .i64)) k]=>some ⟨.one ⟨false,[.val (.bool (nX a b c d e f g i j k))]⟩,[.row false 2 aox e,.row false 2 aox f,.row false 2 aox g,.row false 109 abx i,.row false 122 ab5 j,.row false 83 aeK k],[],[nY a b c d e f g j k]⟩
 |_,_=>none
def Fj:PF prog:=PF.ofG prog (T3z [cm,du,NJ,qH,gU]) [] bj 84 f84 func84 (fun c _=>LOk.nil c) uh (by
 intro _ _ _ h;unfold uh at h;split at h<;>cases h;kernel_rfl)
theorem NE{i v o:Int}{bs:List TM}{st:List IN}(h:cA i v o bs st=true):((0≤i∧i≤20)∧(0≤v∧v≤20)∧(0≤o∧o≤20)∧bs.length≤2000∧st.length≤2000)∧Sl bs=true∧YL i v o bs st=true:=by
 simp only [cA,q9]at h
 exact⟨II.1 h.1,h.2.1,h.2.2⟩
def ae1(i v o:Int)(bs:List TM)(st:List IN)(xs:arG)(ss:List BS3)(l:aq6):Int:=bif !cA i v o bs st then 1 else bif !(lB v bs xs ss&&l.all (bitsB i))then 2 else 0
def aeP(l:aq6):Bool:=leN l.length 9223372036854775807&&l.all fun x=>leN x.length 9223372036854775807
def aqw(bs:List TM)(xs:arG)(l:aq6):Bool:=leN xs.length 9223372036854775807&&(leN bs.length 9223372036854775807&&aeP l)
def ir(a:Int)(b:arG):(Unit)→Nat ⊕ (Unit)
 |_=>(bif(Ds b a)then(.inl 0)else(.inr ()))
def cQ(a b c:Int)(d:aq6)(e:aov)(f:arD)(i:Nat):(Unit)→bP
 |_=>((i:Int),(↑d.length:Int),a,b,c,d,e,f)
def qk:bP→Unit
 |(_,_,_,_,_,_,_,_)=>()
theorem KM(c e f:Int)(g:aq6)(j:aov)(k:arD) (hn:g.length≤9223372036854775807) (hA: ∀ x∈g,x.length≤9223372036854775807):
  aD.fin ((0:Int),(↑g.length:Int),c,e,f,g,j,k)=true∧aD.res ((0:Int),(↑g.length:Int),c,e,f,g,j,k)=((ci (ir c) 1 g 0 ()).1,(cQ c e f g j k) (ci (ir c) 1 g 0 ()).2.1 (ci (ir c) 1 g 0 ()).2.2):=by
 have mO:=aD.along (cQ c e f g j k) qk (ir c) 1 (fun _ _=>True) g () (by trivial) (by simp only [aD,cQ];omega) (fun i b a hb hI=> ?_) (fun a hI=> ?_)
 ·exact mO
 ·obtain⟨⟩:=a
  have eG:=(j7.1 hb).1
  have px: ∀ d,v4 g[i]? d=b:=fun d=>by rw [hb];rfl
  have hw:=Fc eG hn
  have jY:ltI (i:Int) (g.length:Int)=true:=cI (by omega)
  have PX:leI (0:Int) (i:Int)=true:=aS (by omega)
  have wR:ltN i g.length=true:=dE eG
  refine⟨?_,?_,?_,?_⟩
  ·have hg2:cO (i:Int) g=b:=by simp only [cO,w5];exact px _
   have h6:leN b.length 9223372036854775807=true:=aG (hA b (List.mem_of_getElem? hb))
   simp [iy,mr,mt,mu,mv,iz,mw,gS,aD,LT.nds,allT,cQ,Dt,jY,PX,wR,hg2,h6]
  ·simp [cO,iy,mr,mt,mu,mv,iz,mw,gS,aD,LT.each,cQ,qk,hw]
  ·have hg2:cO (i:Int) g=b:=by simp only [cO,w5];exact px _
   simp only [iy,iz,gS,aD,LT.fn,cQ,qk,ir,w5,jY,hg2,cond_true]
  ·exact fun _ _=>trivial
 ·obtain⟨⟩:=a
  simp [cO,iy,mr,mt,mu,mv,iz,mw,gS,aD,LT.out,cQ]
theorem asE(i v o:Int)(bs:List TM)(st:List IN)(xs:arG)(ss:List BS3)(l:aq6)(h:aqw bs xs l=true):
  Kd i v o bs st xs ss l=ae1 i v o bs st xs ss l∧Ke i v o bs st xs ss l=true:=by
 simp only [aqw,aeP,q9,List.all_eq_true,fc]at h
 obtain⟨hx,hb,hl,hA⟩:=h
 have t1:leN xs.length 9223372036854775807=true:=aG hx
 have t2:leN bs.length 9223372036854775807=true:=aG hb
 obtain⟨w1,w2⟩:=KM i v o l bs st hl hA
 rw [oE (P:=fun x=> !bitsB i x) (j:=0) (fun x=>rfl)]at w2
 have e5:(l.any fun x=> !bitsB i x)= !l.all (bitsB i):=by simp [List.all_eq_not_any_not]
 rw [e5]at w2
 have q: ∀ m:Nat,leI 0 (m:Int)=true:=fun m=>aS (by omega)
 have q2:leI 0 (-1)=false:=rfl
 simp only [Kd,Ke,qM,qN,sO,sP,jD,nH,w1,w2,t1,t2,ae1,allT]
 cases hc:cA i v o bs st with
 |false=>exact⟨rfl,rfl⟩
 |true=>
  rw [(NE hc).2.1]
  cases lB v bs xs ss <;> cases l.all (bitsB i) <;> simp [Nat.beq,q,q2,cQ]
def QS(i v o:Int)(bs:List TM)(st:List IN)(xs:arG)(ss:List BS3)(inp:arG):Int:=bif !cA i v o bs st then 1 else bif !(lB v bs xs ss&&bitsB i inp)then 2 else 0
def rcO(i v o:Int)(bs:List TM)(st:List IN)(xs:arG)(ss:List BS3)(inp:arG):arG:=bif QS i v o bs st xs ss inp==0 then(rnM o bs st inp xs ss).2.2.2.1 else []
def rcV(i v o:Int)(bs:List TM)(st:List IN)(xs:arG)(ss:List BS3)(inp:arG):arG:=bif QS i v o bs st xs ss inp==0 then(rnM o bs st inp xs ss).2.2.1 else []
def rcS(i v o:Int)(bs:List TM)(st:List IN)(xs:arG)(ss:List BS3)(inp:arG):List BS3:=bif QS i v o bs st xs ss inp==0 then(rnM o bs st inp xs ss).2.2.2.2 else []
def an8(bs:List TM)(xs inp:arG):Bool:=afu bs&&(leN xs.length 1048576&&leN inp.length 1048576)
theorem ajW(i v o:Int)(bs:List TM)(st:List IN)(xs:arG)(ss:List BS3)(inp:arG):(cA i v o bs st=false∧QS i v o bs st xs ss inp=1)∨(cA i v o bs st=true∧(lB v bs xs ss&&bitsB i inp)=false∧QS i v o bs st xs ss inp=2)∨
  (VT i v o bs st inp xs ss=true∧cA i v o bs st=true∧(lB v bs xs ss=true∧bitsB i inp=true)∧QS i v o bs st xs ss inp=0):=by
 simp only [QS,VT]
 cases cA i v o bs st with
 |false=>exact .inl ⟨rfl,rfl⟩
 |true=>
  cases lB v bs xs ss with
  |false=>exact .inr (.inl ⟨rfl,rfl,rfl⟩)
  |true=>
   cases bitsB i inp with
   |false=>exact .inr (.inl ⟨rfl,rfl,rfl⟩)
   |true=>exact .inr (.inr ⟨rfl,rfl,⟨rfl,rfl⟩,rfl⟩)
theorem avL(i v o:Int)(bs:List TM)(st:List IN)(xs:arG)(ss:List BS3)(inp:arG)(h:an8 bs xs inp=true):
  Xq i v o bs st xs ss inp=QS i v o bs st xs ss inp∧Xr i v o bs st xs ss inp=rcO i v o bs st xs ss inp∧Xs i v o bs st xs ss inp=rcV i v o bs st xs ss inp∧
  Xt i v o bs st xs ss inp=rcS i v o bs st xs ss inp∧Xu i v o bs st xs ss inp=true:=by
 simp only [an8,q9]at h
 obtain⟨hT,hx,hi⟩:=h
 have hx:=fc.1 hx
 have hi:=fc.1 hi
 have t1:leN xs.length 9223372036854775807=true:=aG (by omega)
 have t2:leN bs.length 9223372036854775807=true:=aG (UR.1 hT).1
 have t3:leN inp.length 9223372036854775807=true:=aG (by omega)
 simp only [Xq,Xr,Xs,Xt,Xu,DB,rcO,rcV,rcS,hT,t1,t2,t3,allT]
 rcases ajW i v o bs st xs ss inp with⟨h1,h2⟩ | ⟨h1,h3,h2⟩ | ⟨h1,h3,⟨h4,h5⟩,h2⟩
 ·simp [h1,h2]
 ·rw [h1,h2]
  cases hs:lB v bs xs ss with
  |false=>simp
  |true=>rw [hs,Bool.true_and]at h3;simp [h3]
 ·rw [h2,h3,h4,h5,h1];simp
theorem avv(i v o:Int)(bs:List TM)(st:List IN)(xs:arG)(ss:List BS3)(inp:arG)(h:an8 bs xs inp=true):
  WF i v o bs st xs ss inp=QS i v o bs st xs ss inp∧WG i v o bs st xs ss inp=rcO i v o bs st xs ss inp∧WH i v o bs st xs ss inp=rcV i v o bs st xs ss inp∧
  WI i v o bs st xs ss inp=rcS i v o bs st xs ss inp∧WJ i v o bs st xs ss inp=true:=by
 simp only [an8,q9]at h
 obtain⟨hT,hx,hi⟩:=h
 have hx:=fc.1 hx
 have hi:=fc.1 hi
 have t1:leN xs.length 9223372036854775807=true:=aG (by omega)
 have t2:leN bs.length 9223372036854775807=true:=aG (UR.1 hT).1
 have t3:leN inp.length 9223372036854775807=true:=aG (by omega)
 have hm:aqw bs xs [inp]=true:=by
  simp only [aqw,aeP,t1,t2,t3,List.all_cons,List.all_nil,Bool.and_true,Bool.true_and,w7];rfl
 obtain⟨m0,m1⟩:=asE i v o bs st xs ss [inp] hm
 have e:ae1 i v o bs st xs ss [inp]=QS i v o bs st xs ss inp:=by simp only [ae1,QS,List.all_cons,List.all_nil,Bool.and_true]
 rw [e]at m0
 simp only [WF,WG,WH,WI,WJ,UU,Dy,m0,m1,rcO,rcV,rcS,allT]
 rcases ajW i v o bs st xs ss inp with⟨h1,h2⟩ | ⟨h1,h3,h2⟩ | ⟨h1,h3,⟨h4,h5⟩,h2⟩
 ·rw [h2];simp
 ·rw [h2];simp
 ·rw [h2,h1];simp
def pNd(i v o:Int)(bs:List TM)(st:List IN)(stk xs os:arG):Bool:=cA i v o bs st&&(leN stk.length 9223372036854775807&&(leN xs.length 9223372036854775807&&leN os.length 9223372036854775807))
theorem aqd{i v o:Int}{bs:List TM}{st:List IN}(h:YL i v o bs st=true):(aeL i v o bs st).length=st.length:=by
 simp only [YL]at h
 unfold aeL
 cases hh:hgt i v o bs st 0 []with
 |none=>rw [hh]at h;cases h
 |some r=>
  obtain⟨m,out⟩:=r
  have:=aph _ _ _ _ _ hh
  simpa using this
theorem aui(i v o:Int)(bs:List TM)(st:List IN)(k:Int)(stk xs os:arG)(ss:List BS3)(h:pNd i v o bs st stk xs os=true):
  PP i v o k bs st stk xs os ss=Yv i v o bs st k stk xs os ss∧PQ i v o k bs st stk xs os=true:=by
 simp only [pNd,q9]at h
 obtain⟨hC,t1,t2,t3⟩:=h
 obtain⟨⟨ri,rv,ro,rb,rs⟩,hB,gt⟩:=NE hC
 have nK:=aqd gt
 have e1:mh k st= !inR k 0 st.length:=by simp only [mh,aZ,Tb]
 simp only [PP,PQ,e1,Yv,t1,t2,t3,allT,NC]
 cases hr:inR k 0 st.length with
 |false=>simp
 |true=>
  obtain⟨k0,k1⟩:=wW.1 hr
  have e2:FG i v o k bs st stk=bitsB (hAt i v o bs st k) stk:=by
   simp only [FG,hAt]
   by_cases hk:0 < k
   ·have hw:wC k=k - 1:=aR (by omega) (by omega)
    simp only [hw,atZ]
   ·rw [yV (by omega)];rfl
  have n1:leN st.length 2000=true:=aG rs
  have n2:leN bs.length 2000=true:=aG rb
  have n3:leN bs.length 9223372036854775807=true:=aG (by omega)
  rw [e2,n1,n2,n3,nK]
  by_cases hk:0 < k
  ·have hw:wC k=k - 1:=aR (by omega) (by omega)
   have u1:leI 0 (k - 1)=true:=aS (by omega)
   have u2:ltI (k - 1) (st.length:Int)=true:=cI (by omega)
   have u3:ltN (k - 1).toNat st.length=true:=dE (by omega)
   rw [hw,u1,u2,u3]
   cases bitsB (hAt i v o bs st k) stk <;> cases bitsB o os <;> simp
  ·rw [yV (by omega)]
   cases bitsB (hAt i v o bs st k) stk <;> cases bitsB o os <;> simp
theorem atR(i v o:Int)(bs:List TM)(st:List IN)(k:Int)(stk xs os:arG)(ss:List BS3)(h:pNd i v o bs st stk xs os=true):
  nX k i v o stk xs os ss bs st=Yv i v o bs st k stk xs os ss∧nY k i v o stk xs os bs st=true:=by
 simp only [pNd,q9]at h
 obtain⟨hC,t1,t2,t3⟩:=h
 have hC2:=hC
 obtain⟨⟨ri,rv,ro,rb,rs⟩,hB,gt⟩:=NE hC
 simp only [cA,q9]at hC2
 have nK:=aqd gt
 have e1:dQ k 0 (ax st)=inR k 0 st.length:=by simp only [dQ,Tb];rfl
 simp only [nX,nY,e1,Yv,t1,t2,t3,hC2.1,hB,allT,nD]
 cases hr:inR k 0 st.length with
 |false=>simp
 |true=>
  obtain⟨k0,k1⟩:=wW.1 hr
  have e2:iJ k i v o stk bs st=bitsB (hAt i v o bs st k) stk:=by
   simp only [iJ,hAt]
   by_cases hk:0 < k
   ·have hw:dr k=k - 1:=aR (by omega) (by omega)
    simp only [hw,atZ]
   ·rw [yV (by omega)];rfl
  have n3:leN bs.length 9223372036854775807=true:=aG (by omega)
  rw [e2,n3,nK]
  by_cases hk:0 < k
  ·have hw:dr k=k - 1:=aR (by omega) (by omega)
   have u1:leI 0 (k - 1)=true:=aS (by omega)
   have u2:ltI (k - 1) (st.length:Int)=true:=cI (by omega)
   have u3:ltN (k - 1).toNat st.length=true:=dE (by omega)
   rw [hw,u1,u2,u3]
   cases bitsB (hAt i v o bs st k) stk <;> cases bitsB o os <;> simp
  ·rw [yV (by omega)]
   cases bitsB (hAt i v o bs st k) stk <;> cases bitsB o os <;> simp
def YF:awE
 | [.one ⟨true,[.val (.int .i64 a),.val (.int .i64 b),.val (.int .i64 c),.ref 0,.ref 1]⟩,.one ⟨true,[.ref 2,.ref 3]⟩,.one ⟨false,[.ref 4]⟩],[.row false 122 (.pair (.int .i64) (.pair (.str) (.int .i64))) d,.row false 83 (.pair (.int .i64) (.int .i64)) e,.row false 2 (.int .i64) f,.row false 109 (.pair (.int .i64) (.pair (.int .i64) (.int .i64))) g,.row false 28 (.sl 2 (.int .i64)) i]=>some ⟨.one ⟨false,[awF (ae1 a b c d e f g i)]⟩,[.row false 122 ab5 d,.row false 83 aeK e,.row false 2 aox f,.row false 109 abx g,.row false 28 (CTy.sl (2:TypeId) aox) i],[],[aqw d f i]⟩
 |_,_=>none
def qC:PF prog:=PF.alt Ki YF (by
 intro args es o h bA;unfold YF at h;split at h
 ·rename_i a b c d e f g i
  cases h
  have bA:=fv bA
  have hh:=asE a b c d e f g i bA
  obtain⟨e0,en⟩:=hh
  exact kj rfl (eT en) (by simp only [e0] <;> rfl) rfl rfl
 ·cases h)
def aec:awE
 | [.one ⟨true,[.val (.int .i64 a),.val (.int .i64 b),.val (.int .i64 c),.ref 0,.ref 1]⟩,.one ⟨true,[.ref 2,.ref 3]⟩,.one ⟨false,[.ref 4]⟩],[.row false 122 (.pair (.int .i64) (.pair (.str) (.int .i64))) d,.row false 83 (.pair (.int .i64) (.int .i64)) e,.row false 2 (.int .i64) f,.row false 109 (.pair (.int .i64) (.pair (.int .i64) (.int .i64))) g,.row false 2 (.int .i64) i]=>some ⟨.tup [⟨false,[.ref 5]⟩,⟨true,[.ref 6,.ref 7]⟩,⟨false,[awF (QS a b c d e f g i)]⟩],[.row false 122 ab5 d,.row false 83 aeK e,.row false 2 aox f,.row false 109 abx g,.row false 2 aox i],[.row true 2 aox (rcO a b c d e f g i),.row true 2 aox (rcV a b c d e f g i),.row true 109 abx (rcS a b c d e f g i)],[an8 d f i]⟩
 |_,_=>none
def WT:PF prog:=PF.alt ana aec (by
 intro args es o h bA;unfold aec at h;split at h
 ·rename_i a b c d e f g i
  cases h
  have bA:=fv bA
  have hh:=avv a b c d e f g i bA
  obtain⟨e0,e1,e2,e3,en⟩:=hh
  exact kj rfl (eT en) (by simp only [e0] <;> rfl) rfl (by simp only [e1,e2,e3] <;> rfl)
 ·cases h)
def aeg:awE
 | [.one ⟨true,[.val (.int .i64 a),.val (.int .i64 b),.val (.int .i64 c),.ref 0,.ref 1]⟩,.one ⟨true,[.ref 2,.ref 3]⟩,.one ⟨false,[.ref 4]⟩],[.row false 122 (.pair (.int .i64) (.pair (.str) (.int .i64))) d,.row false 83 (.pair (.int .i64) (.int .i64)) e,.row false 2 (.int .i64) f,.row false 109 (.pair (.int .i64) (.pair (.int .i64) (.int .i64))) g,.row false 2 (.int .i64) i]=>some ⟨.tup [⟨false,[.ref 5]⟩,⟨true,[.ref 6,.ref 7]⟩,⟨false,[awF (QS a b c d e f g i)]⟩],[.row false 122 ab5 d,.row false 83 aeK e,.row false 2 aox f,.row false 109 abx g,.row false 2 aox i],[.row false 2 aox (rcO a b c d e f g i),.row false 2 aox (rcV a b c d e f g i),.row false 109 abx (rcS a b c d e f g i)],[an8 d f i]⟩
 |_,_=>none
def WU:PF prog:=PF.alt anf aeg (by
 intro args es o h bA;unfold aeg at h;split at h
 ·rename_i a b c d e f g i
  cases h
  have bA:=fv bA
  have hh:=avL a b c d e f g i bA
  obtain⟨e0,e1,e2,e3,en⟩:=hh
  exact kj rfl (eT en) (by simp only [e0] <;> rfl) rfl (by simp only [e1,e2,e3] <;> rfl)
 ·cases h)
def Wz:awE
 | [.one ⟨true,[.val (.int .i64 a),.val (.int .i64 b),.val (.int .i64 c),.ref 0,.ref 1]⟩,.one ⟨true,[.val (.int .i64 d),.ref 2,.ref 3,.ref 4,.ref 5]⟩],[.row false 122 (.pair (.int .i64) (.pair (.str) (.int .i64))) e,.row false 83 (.pair (.int .i64) (.int .i64)) f,.row false 2 (.int .i64) g,.row false 2 (.int .i64) i,.row false 2 (.int .i64) j,.row false 109 (.pair (.int .i64) (.pair (.int .i64) (.int .i64))) k]=>some ⟨.one ⟨false,[.val (.bool (Yv a b c e f d g i j k))]⟩,[.row false 122 ab5 e,.row false 83 aeK f,.row false 2 aox g,.row false 2 aox i,.row false 2 aox j,.row false 109 abx k],[],[pNd a b c e f g i j]⟩
 |_,_=>none
def OR:PF prog:=PF.alt aim Wz (by
 intro args es o h bA;unfold Wz at h;split at h
 ·rename_i a b c d e f g i j k
  cases h
  have bA:=fv bA
  have hh:=aui a b c e f d g i j k bA
  obtain⟨e0,en⟩:=hh
  exact kj rfl (eT en) (by simp only [e0] <;> rfl) rfl rfl
 ·cases h)
def uj:awE
 | [.one ⟨true,[.val (.int .i64 a),.ref 0,.ref 1,.ref 2,.ref 3]⟩,.one ⟨true,[.val (.int .i64 b),.val (.int .i64 c),.val (.int .i64 d),.ref 4,.ref 5]⟩],[.row false 2 (.int .i64) e,.row false 2 (.int .i64) f,.row false 2 (.int .i64) g,.row false 109 (.pair (.int .i64) (.pair (.int .i64) (.int .i64))) i,.row false 122 (.pair (.int .i64) (.pair (.str) (.int .i64))) j,.row false 83 (.pair (.int .i64) (.int .i64)) k]=>some ⟨.one ⟨false,[.val (.bool (Yv b c d j k a e f g i))]⟩,[.row false 2 aox e,.row false 2 aox f,.row false 2 aox g,.row false 109 abx i,.row false 122 ab5 j,.row false 83 aeK k],[],[pNd b c d j k e f g]⟩
 |_,_=>none
def oa:PF prog:=PF.alt Fj uj (by
 intro args es o h bA;unfold uj at h;split at h
 ·rename_i a b c d e f g i j k
  cases h
  have bA:=fv bA
  have hh:=atR b c d j k a e f g i bA
  obtain⟨e0,en⟩:=hh
  exact kj rfl (eT en) (by simp only [e0] <;> rfl) rfl rfl
 ·cases h)
def stM(bs:List TM)(st:List IN)(inp:arG)(k:Int)(stk xs os:arG)(ss:List BS3):MS:=akb bs st inp (k,stk,xs,os,ss)
def aka(i v o:Int)(bs:List TM)(st:List IN)(inp:arG)(k:Int)(stk xs os:arG)(ss:List BS3):Bool:=ltI k (st.length:Int)&&Sp i v o bs st inp k stk xs os ss
theorem anK{i v o:Int}{bs:List TM}{st:List IN}{inp:arG}{k:Int}{stk xs os:arG}{ss:List BS3}(h:aka i v o bs st inp k stk xs os ss=true):
  cA i v o bs st=true∧bitsB i inp=true∧OkM i v o bs st k stk xs os ss∧k < st.length∧st[k.toNat]? =some (alq st k):=by
 simp only [aka,Sp,q9]at h
 obtain⟨h0,hC,xa,hm⟩:=h
 have hm:=akD hC hm
 have eG:k < st.length:=Kf.1 h0
 exact⟨hC,xa,hm,eG,(aiW (m:=(k,stk,xs,os,ss)) hC xa hm eG).2⟩
theorem avz(i v o:Int)(bs:List TM)(st:List IN)(inp:arG)(k:Int)(stk xs os:arG)(ss:List BS3)(h:aka i v o bs st inp k stk xs os ss=true):
  fG k st=(stM bs st inp k stk xs os ss).1∧fH k bs st stk xs=(stM bs st inp k stk xs os ss).2.2.1∧
  fI k bs st inp stk xs os=(stM bs st inp k stk xs os ss).2.2.2.1∧fJ k bs st stk ss=(stM bs st inp k stk xs os ss).2.2.2.2∧
  fK k bs st inp stk xs ss=(stM bs st inp k stk xs os ss).2.1∧aw k bs st inp stk xs os ss=true:=by
 obtain⟨hC,xa,hm,eG,hx⟩:=anK h
 obtain⟨e0,e4,e1,e2,e3,e5⟩:=aqk hC xa hm eG hx
 exact⟨e0,e1,e2,e3,e4,e5⟩
theorem auj(i v o:Int)(bs:List TM)(st:List IN)(inp:arG)(k:Int)(stk xs os:arG)(ss:List BS3)(h:aka i v o bs st inp k stk xs os ss=true):
  CO k st=(stM bs st inp k stk xs os ss).1∧CP k bs st stk xs ss inp=(stM bs st inp k stk xs os ss).2.1∧GV k bs st stk xs=(stM bs st inp k stk xs os ss).2.2.1∧
  GW k bs st stk xs os inp=(stM bs st inp k stk xs os ss).2.2.2.1∧GX k bs st stk ss=(stM bs st inp k stk xs os ss).2.2.2.2∧ki k bs st stk xs os ss inp=true:=by
 obtain⟨hC,xa,hm,eG,hx⟩:=anK h
 exact aqX hC xa hm eG hx
def vB:awE
 | [.one ⟨false,[.ptr 0 0]⟩,.one ⟨true,[.val (.int .i64 a),.val (.int .i64 b),.val (.int .i64 c),.ref 1,.ref 2]⟩,.one ⟨false,[.ref 3]⟩],[.box 31 [.val (.int .i64 d),.ref 4,.ref 5,.ref 6,.ref 7],.row false 122 (.pair (.int .i64) (.pair .str (.int .i64))) e,.row false 83 (.pair (.int .i64) (.int .i64)) f,.row false 2 (.int .i64) g,.row true 2 (.int .i64) i,.row true 2 (.int .i64) j,.row true 2 (.int .i64) k,.row true 109 (.pair (.int .i64) (.pair (.int .i64) (.int .i64))) l]=>some ⟨.tup [],[.box 31 [awF ((stM e f g d i j k l).1),.ref 8,.ref 5,.ref 6,.ref 7],.row false 122 ab5 e,.row false 83 aeK f,.row false 2 aox g,.gone,.row true 2 aox ((stM e f g d i j k l).2.2.1),.row true 2 aox ((stM e f g d i j k l).2.2.2.1),.row true 109 abx ((stM e f g d i j k l).2.2.2.2)],[.row true 2 aox ((stM e f g d i j k l).2.1)],[aka a b c e f g d i j k l]⟩
 |_,_=>none
def Hj:PF prog:=PF.alt oP vB (by
 intro args es o h bA;unfold vB at h;split at h
 ·rename_i a b c d e f g i j k l
  cases h
  have bA:=fv bA
  have hh:=avz a b c e f g d i j k l bA
  obtain⟨e0,e1,e2,e3,e4,en⟩:=hh
  exact kj rfl (eT en) rfl (by simp only [e0,e1,e2,e3] <;> rfl) (by simp only [e4] <;> rfl)
 ·cases h)
def aep:awE
 | [.one ⟨true,[.val (.int .i64 a),.val (.int .i64 b),.val (.int .i64 c),.ref 0,.ref 1]⟩,.one ⟨true,[.val (.int .i64 d),.ref 2,.ref 3,.ref 4,.ref 5]⟩,.one ⟨false,[.ref 6]⟩],[.row false 122 (.pair (.int .i64) (.pair (.str) (.int .i64))) e,.row false 83 (.pair (.int .i64) (.int .i64)) f,.row false 2 (.int .i64) g,.row false 2 (.int .i64) i,.row false 2 (.int .i64) j,.row false 109 (.pair (.int .i64) (.pair (.int .i64) (.int .i64))) k,.row false 2 (.int .i64) l]=>some ⟨.one ⟨true,[awF ((stM e f l d g i j k).1),.ref 7,.ref 8,.ref 9,.ref 10]⟩,[.row false 122 ab5 e,.row false 83 aeK f,.row false 2 aox g,.row false 2 aox i,.row false 2 aox j,.row false 109 abx k,.row false 2 aox l],[.row false 2 aox ((stM e f l d g i j k).2.1),.row false 2 aox ((stM e f l d g i j k).2.2.1),.row false 2 aox ((stM e f l d g i j k).2.2.2.1),.row false 109 abx ((stM e f l d g i j k).2.2.2.2)],[aka a b c e f l d g i j k]⟩
 |_,_=>none
def WV:PF prog:=PF.alt Cd aep (by
 intro args es o h bA;unfold aep at h;split at h
 ·rename_i a b c d e f g i j k l
  cases h
  have bA:=fv bA
  have hh:=auj a b c e f l d g i j k bA
  obtain⟨e0,e1,e2,e3,e4,en⟩:=hh
  exact kj rfl (eT en) (by simp only [e0] <;> rfl) rfl (by simp only [e1,e2,e3,e4] <;> rfl)
 ·cases h)
end Go.SX
