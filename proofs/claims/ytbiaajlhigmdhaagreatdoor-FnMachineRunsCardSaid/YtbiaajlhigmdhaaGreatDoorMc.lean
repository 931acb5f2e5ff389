/- What functions of the program come to, and what that says in plain words: part 3. -/
import Derived.Test.YtbiaajlhigmdhaaGreatDoorMb
import Derived.Test.YtbiaajlhigmdhaaGreatDoorTXh
import Derived.Test.YtbiaajlhigmdhaaGreatDoorProg
set_option linter.unusedSimpArgs false
set_option linter.unusedVariables false
open Bool renaming and_eq_true → q9
open Int renaming toNat_natCast → w5
open List renaming length_singleton → w7
open List renaming length_append → w8
open List renaming length_take → w9
open List renaming mem_append → j7
open List renaming length_cons → j8
open List renaming length_nil → j9
open Bool renaming or_true → v4
open List renaming length_replicate → v5
open List renaming getElem?_eq_some_iff → v6
open Int renaming toNat → v7
open List renaming length → v8
open Option renaming getD → v9
open Go.IntKind renaming wrap → qqq
open List renaming replicate → qqw
open List renaming eq_of_mem_replicate → qqz
open List renaming mem_singleton → qqj
namespace Go.SX
open Go.Proofs Go.Proofs.Tryz
set_option maxRecDepth 100000
def LL(a b c d:Int)(e:aow)(f:arD)(g i j:arG)(k:aq5)(l:arG):Int:=bif !cA a b c e f then(1:Int)else bif bif !Yv a b c e f d g i j k then true else !bitsB a l then(2:Int)else(0:Int)
def Sa(a b c d:Int)(e:aow)(f:arD)(g i j:arG)(k:aq5)(l:arG):Bool:=allT [afu e,!cA a b c e f||pNd a b c e f g i j,!cA a b c e f||(!(!!Yv a b c e f d g i j k&&true)||leN l.length (9223372036854775807:Nat))]
def ad0:awE
 | [.one ⟨true,[.val (.int .i64 a),.val (.int .i64 b),.val (.int .i64 c),.ref 0,.ref 1]⟩,.one ⟨true,[.val (.int .i64 d),.ref 2,.ref 3,.ref 4,.ref 5]⟩,.one ⟨false,[.ref 6]⟩],[.row false 122 (.pair (.int .i64) (.pair (.str) (.int .i64))) e,.row false 83 (.pair (.int .i64) (.int .i64)) f,.row false 2 (.int .i64) g,.row false 2 (.int .i64) i,.row false 2 (.int .i64) j,.row false 109 (.pair (.int .i64) (.pair (.int .i64) (.int .i64))) k,.row false 2 (.int .i64) l]=>some ⟨.one ⟨false,[awF (LL a b c d e f g i j k l)]⟩,[.row false 122 ab5 e,.row false 83 aeK f,.row false 2 aox g,.row false 2 aox i,.row false 2 aox j,.row false 109 abx k,.row false 2 aox l],[],[Sa a b c d e f g i j k l]⟩
 |_,_=>none
def Xb:PF prog:=PF.ofG prog (T3z [OR,fP,bh]) [] bj 46 f46 func46 (fun c _=>LOk.nil c) ad0 (by
 intro _ _ _ h;unfold ad0 at h;split at h<;>cases h;kernel_rfl)
section
variable (a b c d:Int)(e:aow)(f:arD)(g i j:arG)(k:aq5)(l:arG)
def Fx:Int:=bif bif LL a b c d e f g i j k l==0 then d==(↑f.length:Int)else false then(5:Int)else LL a b c d e f g i j k l
def pW:Bool:=Fx a b c d e f g i j k l !=0
def Pj:Int:=bif pW a b c d e f g i j k l then(0:Int)else (stM e f l d g i j k).1
def Pk:Int:=bif pW a b c d e f g i j k l then Fx a b c d e f g i j k l else(0:Int)
def Pl:arG:=bif pW a b c d e f g i j k l then []else ((stM e f l d g i j k).2).1
def Pm:arG:=bif pW a b c d e f g i j k l then []else ((stM e f l d g i j k).2.2).1
def Pn:arG:=bif pW a b c d e f g i j k l then []else ((stM e f l d g i j k).2.2.2).1
def Po:aqe:=bif pW a b c d e f g i j k l then []else (stM e f l d g i j k).2.2.2.2
def Pp:Bool:=allT [Sa a b c d e f g i j k l,pW a b c d e f g i j k l||aka a b c e f l d g i j k]
end
def Wl:awE
 | [.one ⟨true,[.val (.int .i64 a),.val (.int .i64 b),.val (.int .i64 c),.ref 0,.ref 1]⟩,.one ⟨true,[.val (.int .i64 d),.ref 2,.ref 3,.ref 4,.ref 5]⟩,.one ⟨false,[.ref 6]⟩],[.row false 122 (.pair (.int .i64) (.pair (.str) (.int .i64))) e,.row false 83 (.pair (.int .i64) (.int .i64)) f,.row false 2 (.int .i64) g,.row false 2 (.int .i64) i,.row false 2 (.int .i64) j,.row false 109 (.pair (.int .i64) (.pair (.int .i64) (.int .i64))) k,.row false 2 (.int .i64) l]=>some ⟨.tup [⟨true,[awF (Pj a b c d e f g i j k l),.ref 7,.ref 8,.ref 9,.ref 10]⟩,⟨false,[awF (Pk a b c d e f g i j k l)]⟩],[.row false 122 ab5 e,.row false 83 aeK f,.row false 2 aox g,.row false 2 aox i,.row false 2 aox j,.row false 109 abx k,.row false 2 aox l],[.row false 2 aox (Pl a b c d e f g i j k l),.row false 2 aox (Pm a b c d e f g i j k l),.row false 2 aox (Pn a b c d e f g i j k l),.row false 109 abx (Po a b c d e f g i j k l)],[Pp a b c d e f g i j k l]⟩
 |_,_=>none
def aij:PF prog:=PF.ofG prog (T3z [Xb,WV]) [] bj 36 f36 func36 (fun c _=>LOk.nil c) Wl (by
 intro _ _ _ h;unfold Wl at h;split at h<;>cases h;kernel_rfl)
def BM(a:arG)(b:Int):Bool:= !bitsB b a
def BN(a:arG):Bool:=allT [leN a.length (9223372036854775807:Nat)]
def KO:awE
 | [.one ⟨false,[.ref 0]⟩,.one ⟨false,[.ptr 1 0]⟩],[.row false 2 (.int .i64) a,.box 27 [.val (.int .i64 b),.val (.int .i64 c),.val (.int .i64 d),.ref 2,.ref 3],.row false 122 (.pair (.int .i64) (.pair .str (.int .i64))) e,.row false 83 (.pair (.int .i64) (.int .i64)) f]=>some ⟨.one ⟨false,[.val (.bool (BM a b))]⟩,[.row false 2 aox a,.box 27 [awF b,awF c,awF d,.ref 2,.ref 3],.row false 122 ab5 e,.row false 83 aeK f],[],[BN a]⟩
 |_,_=>none
def oB:PF prog:=PF.ofG prog (T3z [gU]) [] bj 86 f86 func86 (fun c _=>LOk.nil c) KO (by
 intro _ _ _ h;unfold KO at h;split at h<;>cases h;kernel_rfl)
abbrev bQ:=Int×Int×Int×Int×Int×List (List Int)×List (Int×(asv×Int))×List (Int×Int)
section
variable (a b c:Int)(d:aq6)
def cP:arG:=v9 d[v7 a]? (ub (CTy.sl (2:TypeId) aox))
def iA:Bool:=ltI a b
def my:Bool:=leI 0 a
def mz:Bool:=ltI a (↑d.length:Int)
def mA:Bool:=ltN a.toNat d.length
def mB:Bool:=BN (cP a d)
def iB:Bool:=BM (cP a d) c
def mC:Int:=qqq .i64 (a + (1:Int))
end
def IW:bQ→List (Nat×SV)
 |(a,b,_,_,_,_,_,_)=> [(8,(.one ⟨false,[awF a]⟩)),(7,(.one ⟨false,[awF b]⟩)),(1,(.one ⟨false,[.clo 86 [0]]⟩)),(0,(.one ⟨false,[.ref 1]⟩))]
def IR:bQ→List (Nat×Entry)
 |(_,_,a,b,c,d,e,f)=> [(0,(.box 27 [awF a,awF b,awF c,.ref 2,.ref 3])),(1,(.row false 28 (CTy.sl (2:TypeId) aox) d)),(2,(.row false 122 ab5 e)),(3,(.row false 83 aeK f))]
def Jc:Nat→bQ→List (Nat×SV)
 |0,(a,_,_,_,_,_,_,_)=> [(4,(.one ⟨false,[awF a]⟩))]
 |_,(_,_,_,_,_,_,_,_)=> []
def gT:bQ→LT bQ
 |(a,b,c,d,e,f,g,i)=> .ite (iA a b) (.need [my a,mz a f,mA a f,mB a f] (.ite (iB a c f) (.ext 0 [(0,0),(1,1),(2,2),(3,3)]) (.nrm ((mC a),b,c,d,e,f,g,i) [(0,0),(1,1),(2,2),(3,3)]))) (.ext 1 [(0,0),(1,1),(2,2),(3,3)])
def qn(s:St):Option bQ:=do
 let some ⟨none,.one ⟨false,[.val (.int .i64 a)]⟩⟩:=s.look 8|none
 let some ⟨none,.one ⟨false,[.val (.int .i64 b)]⟩⟩:=s.look 7|none
 let some ⟨none,.one ⟨false,[.clo 86 [1]]⟩⟩:=s.look 1|none
 let some ⟨none,.one ⟨false,[.ref 0]⟩⟩:=s.look 0|none
 let some (.box 27 [.val (.int .i64 c),.val (.int .i64 d),.val (.int .i64 e),.ref 2,.ref 3]):=s.ent 1|none
 let some (.row false 28 (.sl 2 (.int .i64)) f):=s.ent 0|none
 let some (.row false 122 (.pair (.int .i64) (.pair .str (.int .i64))) g):=s.ent 2|none
 let some (.row false 83 (.pair (.int .i64) (.int .i64)) i):=s.ent 3|none
 some (a,b,c,d,e,f,g,i)
def aE:Lp bQ where
 h:=⟨[9,10,5,11,12,13,14,15,16,17,4,18,8],[0,1,2,3],[],[]⟩
 JL:=IW
 JE:=IR
 XL:=Jc
 XE:=fun _=>IR
 q:=fun j=>match j with | 0=> .ret | _=> .exit 0
 tags:= [0,1]
 lt:=gT
 fuel:=fun(a,b,c,d,e,f,g,i)=>a.natAbs + b.natAbs + c.natAbs + d.natAbs + e.natAbs + f.length + g.length + i.length
 fix:=fun(_,b,c,d,e,f,g,i) (a,_,_,_,_,_,_,_)=>(a,b,c,d,e,f,g,i)
 σ:= [(0,1),(1,0),(2,2),(3,3)]
 rd:=qn
theorem HA:LoopOk prog (fun k=>Nat.blt k Tryz.f128.ntmps) aE.F (bB f128 0):=by
 refine Lp.ok (tbl:= (T3z [oB])) (lf:= []) bj aE (by kernel_rfl) (LOk.nil _) (fun _=>rfl) (fun j _=>by unfold aE;match j with | 0=>rfl | _ + 1=>rfl) ?_ ?_ ?_ ?_ (fun _=>rfl) ?_
 ·rintro⟨a,b,c,d,e,f,g,i⟩;kernel_rfl
 ·rintro⟨a,b,c,d,e,f,g,i⟩;kernel_rfl
 ·intro s x h
  have h:qn s=some x:=h
  unfold qn at h
  repeat' split at h
  all_goals cases h
  constructor<;>repeat(first|refine ab (by assumption) rfl ?_|refine aa rfl (by assumption) rfl ?_|exact rfl)
 ·rintro⟨a,b,c,d,e,f,g,i⟩;kernel_rfl
 ·rintro⟨a,b,c,d,e,f,g,i⟩ z;exact(And.intro (And.intro trivial rfl) trivial)
section
variable (a:aq6)(b c d:Int)(e:aow)(f:arD)
def nI:Int×Int×Int×Int×Int×aq6×aow×arD:=((0:Int),(↑a.length:Int),b,c,d,a,e,f)
def jE:Bool:=Nat.beq ((Lp.res aE (nI a b c d e f)).1) 0
def sQ:Int:=bif jE a b c d e f then ((Lp.res aE (nI a b c d e f)).2).1else(-1:Int)
def As:Int:=bif jE a b c d e f then b else b
def At:Int:=bif jE a b c d e f then c else c
def Au:Int:=bif jE a b c d e f then d else d
def sR:Bool:=allT [Lp.fin aE (nI a b c d e f)]
end
def Ab:awE
 | [.one ⟨false,[.ref 0]⟩,.one ⟨false,[.clo 86 [1]]⟩],[.row false 28 (.sl 2 (.int .i64)) a,.box 27 [.val (.int .i64 b),.val (.int .i64 c),.val (.int .i64 d),.ref 2,.ref 3],.row false 122 (.pair (.int .i64) (.pair .str (.int .i64))) e,.row false 83 (.pair (.int .i64) (.int .i64)) f]=>some ⟨.one ⟨false,[awF (sQ a b c d e f)]⟩,[.row false 28 (CTy.sl (2:TypeId) aox) a,.box 27 [awF (As a b c d e f),awF (At a b c d e f),awF (Au a b c d e f),.ref 2,.ref 3],.row false 122 ab5 e,.row false 83 aeK f],[],[sR a b c d e f]⟩
 |_,_=>none
def sL:PF prog:=PF.ofG prog (T3z [oB]) [aE.F] bj 128 f128 func128 (LOk.fnT (l:= [bB f128 0]) (by kernel_rfl) (.cons HA (.nil _))) Ab (by
 intro _ _ _ h;unfold Ab at h;split at h<;>cases h;kernel_rfl)
section
variable (a:aq6)(b c d:Int)(e:aow)(f:arD)
def qO:Bool:=leI 0 (sQ a b c d e f)
def Ky:Int:=As a b c d e f
def Kz:Int:=At a b c d e f
def KA:Int:=Au a b c d e f
def qP:Bool:=allT [sR a b c d e f]
end
def yC:awE
 | [.one ⟨false,[.ref 0]⟩,.one ⟨false,[.clo 86 [1]]⟩],[.row false 28 (.sl 2 (.int .i64)) a,.box 27 [.val (.int .i64 b),.val (.int .i64 c),.val (.int .i64 d),.ref 2,.ref 3],.row false 122 (.pair (.int .i64) (.pair .str (.int .i64))) e,.row false 83 (.pair (.int .i64) (.int .i64)) f]=>some ⟨.one ⟨false,[.val (.bool (qO a b c d e f))]⟩,[.row false 28 (CTy.sl (2:TypeId) aox) a,.box 27 [awF (Ky a b c d e f),awF (Kz a b c d e f),awF (KA a b c d e f),.ref 2,.ref 3],.row false 122 ab5 e,.row false 83 aeK f],[],[qP a b c d e f]⟩
 |_,_=>none
def qK:PF prog:=PF.ofG prog (T3z [sL]) [] bj 85 f85 func85 (fun c _=>LOk.nil c) yC (by
 intro _ _ _ h;unfold yC at h;split at h<;>cases h;kernel_rfl)
def BK(a b c d:Int)(e:aow)(f:arD)(g i j:arG)(k:aq5)(l:aq6):Int:=bif !cA a b c e f then(1:Int)else bif bif !Yv a b c e f d g i j k then true else qO l a b c e f then(2:Int)else(0:Int)
def BL(a b c d:Int)(e:aow)(f:arD)(g i j:arG)(k:aq5)(l:aq6):Bool:=allT [!cA a b c e f||pNd a b c e f g i j,!cA a b c e f||(!(!!Yv a b c e f d g i j k&&true)||qP l a b c e f)]
def Wg:awE
 | [.one ⟨true,[.val (.int .i64 a),.val (.int .i64 b),.val (.int .i64 c),.ref 0,.ref 1]⟩,.one ⟨true,[.val (.int .i64 d),.ref 2,.ref 3,.ref 4,.ref 5]⟩,.one ⟨false,[.ref 6]⟩],[.row false 122 (.pair (.int .i64) (.pair (.str) (.int .i64))) e,.row false 83 (.pair (.int .i64) (.int .i64)) f,.row false 2 (.int .i64) g,.row false 2 (.int .i64) i,.row false 2 (.int .i64) j,.row false 109 (.pair (.int .i64) (.pair (.int .i64) (.int .i64))) k,.row false 28 (.sl 2 (.int .i64)) l]=>some ⟨.one ⟨false,[awF (BK a b c d e f g i j k l)]⟩,[.row false 122 ab5 e,.row false 83 aeK f,.row false 2 aox g,.row false 2 aox i,.row false 2 aox j,.row false 109 abx k,.row false 28 (CTy.sl (2:TypeId) aox) l],[],[BL a b c d e f g i j k l]⟩
 |_,_=>none
def xR:PF prog:=PF.ofG prog (T3z [oa,nE,qK]) [] bj 43 f43 func43 (fun c _=>LOk.nil c) Wg (by
 intro _ _ _ h;unfold Wg at h;split at h<;>cases h;kernel_rfl)
def gQ(a b c:arG)(d:aq5):Bool:=allT [leN a.length (1048576:Nat),leN b.length (1048576:Nat),leN c.length (1048576:Nat),leN d.length (1048576:Nat)]
def wY:awE
 | [.one ⟨true,[.val (.int .i64 a),.ref 0,.ref 1,.ref 2,.ref 3]⟩],[.row false 2 (.int .i64) b,.row false 2 (.int .i64) c,.row false 2 (.int .i64) d,.row false 109 (.pair (.int .i64) (.pair (.int .i64) (.int .i64))) e]=>some ⟨.one ⟨true,[awF a,.ref 4,.ref 5,.ref 6,.ref 7]⟩,[.row false 2 aox b,.row false 2 aox c,.row false 2 aox d,.row false 109 abx e],[.row true 2 aox b,.row true 2 aox c,.row true 2 aox d,.row true 109 abx e],[gQ b c d e]⟩
 |_,_=>none
def eL:PF prog:=PF.ofG prog (T3z [gg,kV]) [] bj 44 f44 func44 (fun c _=>LOk.nil c) wY (by
 intro _ _ _ h;unfold wY at h;split at h<;>cases h;kernel_rfl)
section
variable (a b c d:Int)(e:aow)(f:arD)(g i j:arG)(k:aq5)(l:arG)
def MT:Int:=BK a b c d e f g i j k [l]
def ol:Bool:=MT a b c d e f g i j k l !=0
def OC:Int:=bif ol a b c d e f g i j k l then(0:Int)else bif d==ax f then(0:Int)else (stM e f l d g i j k).1
def OD:Int:=bif ol a b c d e f g i j k l then MT a b c d e f g i j k l else bif d==ax f then(5:Int)else(0:Int)
def OE:arG:=bif ol a b c d e f g i j k l then []else bif d==ax f then []else ((stM e f l d g i j k).2).1
def OG:arG:=bif ol a b c d e f g i j k l then []else bif d==ax f then []else ((stM e f l d g i j k).2.2).1
def OH:arG:=bif ol a b c d e f g i j k l then []else bif d==ax f then []else ((stM e f l d g i j k).2.2.2).1
def OI:aqe:=bif ol a b c d e f g i j k l then []else bif d==ax f then []else (stM e f l d g i j k).2.2.2.2
def OJ:Bool:=allT [BL a b c d e f g i j k [l],ol a b c d e f g i j k l||(d==ax f||gQ g i j k),ol a b c d e f g i j k l||(d==ax f||aka a b c e f l d g i j k)]
end
def Wf:awE
 | [.one ⟨true,[.val (.int .i64 a),.val (.int .i64 b),.val (.int .i64 c),.ref 0,.ref 1]⟩,.one ⟨true,[.val (.int .i64 d),.ref 2,.ref 3,.ref 4,.ref 5]⟩,.one ⟨false,[.ref 6]⟩],[.row false 122 (.pair (.int .i64) (.pair (.str) (.int .i64))) e,.row false 83 (.pair (.int .i64) (.int .i64)) f,.row false 2 (.int .i64) g,.row false 2 (.int .i64) i,.row false 2 (.int .i64) j,.row false 109 (.pair (.int .i64) (.pair (.int .i64) (.int .i64))) k,.row false 2 (.int .i64) l]=>some ⟨.tup [⟨true,[awF (OC a b c d e f g i j k l),.ref 7,.ref 8,.ref 9,.ref 10]⟩,⟨false,[awF (OD a b c d e f g i j k l)]⟩],[.row false 122 ab5 e,.row false 83 aeK f,.row false 2 aox g,.row false 2 aox i,.row false 2 aox j,.row false 109 abx k,.row false 2 aox l],[.row true 2 aox (OE a b c d e f g i j k l),.row true 2 aox (OG a b c d e f g i j k l),.row true 2 aox (OH a b c d e f g i j k l),.row true 109 abx (OI a b c d e f g i j k l)],[OJ a b c d e f g i j k l]⟩
 |_,_=>none
def aie:PF prog:=PF.ofG prog (T3z [Hj,xR,du,eL]) [] bj 15 f15 func15 (fun c _=>LOk.nil c) Wf (by
 intro _ _ _ h;unfold Wf at h;split at h<;>cases h;kernel_rfl)
section
variable (a b c d:Int)(e:aow)(f:arD)(g i j:arG)(k:aq5)(l:arG)
def Jg:Int:=BK a b c d e f g i j k [l]
def lE:Bool:=Jg a b c d e f g i j k l !=0
def La:Int:=bif lE a b c d e f g i j k l then(0:Int)else (fnM e f l d g i j k).1
def Lb:Int:=bif lE a b c d e f g i j k l then Jg a b c d e f g i j k l else(0:Int)
def Lc:arG:=bif lE a b c d e f g i j k l then []else ((fnM e f l d g i j k).2).1
def Ld:arG:=bif lE a b c d e f g i j k l then []else ((fnM e f l d g i j k).2.2).1
def Le:arG:=bif lE a b c d e f g i j k l then []else ((fnM e f l d g i j k).2.2.2).1
def Lf:aqe:=bif lE a b c d e f g i j k l then []else (fnM e f l d g i j k).2.2.2.2
def Lg:Bool:=allT [BL a b c d e f g i j k [l],lE a b c d e f g i j k l||gQ g i j k,lE a b c d e f g i j k l||Sp a b c e f l d g i j k]
end
def TZ:awE
 | [.one ⟨true,[.val (.int .i64 a),.val (.int .i64 b),.val (.int .i64 c),.ref 0,.ref 1]⟩,.one ⟨true,[.val (.int .i64 d),.ref 2,.ref 3,.ref 4,.ref 5]⟩,.one ⟨false,[.ref 6]⟩],[.row false 122 (.pair (.int .i64) (.pair (.str) (.int .i64))) e,.row false 83 (.pair (.int .i64) (.int .i64)) f,.row false 2 (.int .i64) g,.row false 2 (.int .i64) i,.row false 2 (.int .i64) j,.row false 109 (.pair (.int .i64) (.pair (.int .i64) (.int .i64))) k,.row false 2 (.int .i64) l]=>some ⟨.tup [⟨true,[awF (La a b c d e f g i j k l),.ref 7,.ref 8,.ref 9,.ref 10]⟩,⟨false,[awF (Lb a b c d e f g i j k l)]⟩],[.row false 122 ab5 e,.row false 83 aeK f,.row false 2 aox g,.row false 2 aox i,.row false 2 aox j,.row false 109 abx k,.row false 2 aox l],[.row true 2 aox (Lc a b c d e f g i j k l),.row true 2 aox (Ld a b c d e f g i j k l),.row true 2 aox (Le a b c d e f g i j k l),.row true 109 abx (Lf a b c d e f g i j k l)],[Lg a b c d e f g i j k l]⟩
 |_,_=>none
def ae9:PF prog:=PF.ofG prog (T3z [Fi,xR,eL]) [] bj 8 f8 func8 (fun c _=>LOk.nil c) TZ (by
 intro _ _ _ h;unfold TZ at h;split at h<;>cases h;kernel_rfl)
def EK(i v o:Int)(bs:List TM)(st:List IN)(k:Int)(stk xs os:arG)(ss:List BS3)(l:aq6):Int:=bif !cA i v o bs st then 1 else bif !(Yv i v o bs st k stk xs os ss&&l.all (bitsB i))then 2 else 0
def agD(bs:List TM)(stk xs os:arG)(l:aq6):Bool:=afu bs&&(leN stk.length 1048576&&(leN xs.length 1048576&&(leN os.length 1048576&&aeP l)))
def iu(a:Int)(b:arG):(Unit)→Nat ⊕ (Unit)
 |_=>(bif(BM b a)then(.inl 0)else(.inr ()))
def cR(a b c:Int)(d:aq6)(e:aov)(f:arD)(i:Nat):(Unit)→bQ
 |_=>((i:Int),(↑d.length:Int),a,b,c,d,e,f)
def ql:bQ→Unit
 |(_,_,_,_,_,_,_,_)=>()
theorem KN(c e f:Int)(g:aq6)(j:aov)(k:arD) (hn:g.length≤9223372036854775807) (hA: ∀ x∈g,x.length≤9223372036854775807):
  aE.fin ((0:Int),(↑g.length:Int),c,e,f,g,j,k)=true∧aE.res ((0:Int),(↑g.length:Int),c,e,f,g,j,k)=((ci (iu c) 1 g 0 ()).1,(cR c e f g j k) (ci (iu c) 1 g 0 ()).2.1 (ci (iu c) 1 g 0 ()).2.2):=by
 have mO:=aE.along (cR c e f g j k) ql (iu c) 1 (fun _ _=>True) g () (by trivial) (by simp only [aE,cR];omega) (fun i b a hb hI=> ?_) (fun a hI=> ?_)
 ·exact mO
 ·obtain⟨⟩:=a
  have eG:=(v6.1 hb).1
  have px: ∀ d,v9 g[i]? d=b:=fun d=>by rw [hb];rfl
  have hw:=Fc eG hn
  have jY:ltI (i:Int) (g.length:Int)=true:=cI (by omega)
  have PX:leI (0:Int) (i:Int)=true:=aS (by omega)
  have wR:ltN i g.length=true:=dE eG
  refine⟨?_,?_,?_,?_⟩
  ·have hg2:cP (i:Int) g=b:=by simp only [cP,w5];exact px _
   have h6:leN b.length 9223372036854775807=true:=aG (hA b (List.mem_of_getElem? hb))
   simp [iA,my,mz,mA,mB,iB,mC,gT,aE,LT.nds,allT,cR,BN,jY,PX,wR,hg2,h6]
  ·simp [cP,iA,my,mz,mA,mB,iB,mC,gT,aE,LT.each,cR,ql,hw]
  ·have hg2:cP (i:Int) g=b:=by simp only [cP,w5];exact px _
   simp only [iA,iB,gT,aE,LT.fn,cR,ql,iu,w5,jY,hg2,cond_true]
  ·exact fun _ _=>trivial
 ·obtain⟨⟩:=a
  simp [cP,iA,my,mz,mA,mB,iB,mC,gT,aE,LT.out,cR]
theorem asF{bs:List TM}{stk xs os:arG}{l:aq6}(h:agD bs stk xs os l=true):afu bs=true∧(stk.length≤1048576∧xs.length≤1048576∧os.length≤1048576)∧l.length≤9223372036854775807∧ ∀ x∈l,x.length≤9223372036854775807:=by
 simp only [agD,aeP,q9,List.all_eq_true,fc]at h
 exact⟨h.1,⟨h.2.1,h.2.2.1,h.2.2.2.1⟩,h.2.2.2.2.1,h.2.2.2.2.2⟩
theorem aqu(i v o:Int)(bs:List TM)(st:List IN)(k:Int)(stk xs os:arG)(ss:List BS3)(l:aq6)(h:agD bs stk xs os l=true):
  BK i v o k bs st stk xs os ss l=EK i v o bs st k stk xs os ss l∧BL i v o k bs st stk xs os ss l=true:=by
 obtain⟨hT,⟨h1,h2,h3⟩,hl,hA⟩:=asF h
 have t1:leN stk.length 9223372036854775807=true:=aG (by omega)
 have t2:leN xs.length 9223372036854775807=true:=aG (by omega)
 have t3:leN os.length 9223372036854775807=true:=aG (by omega)
 obtain⟨w1,w2⟩:=KN i v o l bs st hl hA
 rw [oE (P:=fun x=> !bitsB i x) (j:=0) (fun x=>rfl)]at w2
 have e5:(l.any fun x=> !bitsB i x)= !l.all (bitsB i):=by simp [List.all_eq_not_any_not]
 rw [e5]at w2
 have q: ∀ m:Nat,leI 0 (m:Int)=true:=fun m=>aS (by omega)
 have q2:leI 0 (-1)=false:=rfl
 simp only [BK,BL,qO,qP,sQ,sR,jE,nI,w1,w2,t1,t2,t3,EK,pNd,allT]
 cases hc:cA i v o bs st with
 |false=>exact⟨rfl,rfl⟩
 |true=>cases Yv i v o bs st k stk xs os ss <;> cases l.all (bitsB i) <;> simp [Nat.beq,q,q2,cR]
theorem auh(i v o:Int)(bs:List TM)(st:List IN)(k:Int)(stk xs os:arG)(ss:List BS3)(inp:arG)(h:agD bs stk xs os [inp]=true):
  LL i v o k bs st stk xs os ss inp=EK i v o bs st k stk xs os ss [inp]∧Sa i v o k bs st stk xs os ss inp=true:=by
 obtain⟨hT,⟨h1,h2,h3⟩,hl,hA⟩:=asF h
 have t1:leN stk.length 9223372036854775807=true:=aG (by omega)
 have t2:leN xs.length 9223372036854775807=true:=aG (by omega)
 have t3:leN os.length 9223372036854775807=true:=aG (by omega)
 have t4:leN inp.length 9223372036854775807=true:=aG (hA inp (by simp))
 simp only [LL,Sa,EK,hT,pNd,t1,t2,t3,t4,allT,List.all_cons,List.all_nil,Bool.and_true]
 cases cA i v o bs st <;> cases Yv i v o bs st k stk xs os ss <;> cases bitsB i inp <;> simp
theorem au8{i v o:Int}{bs:List TM}{st:List IN}{k:Int}{stk xs os:arG}{ss:List BS3}{inp:arG}(h:EK i v o bs st k stk xs os ss [inp]=0):Sp i v o bs st inp k stk xs os ss=true:=by
 simp only [EK,List.all_cons,List.all_nil,Bool.and_true]at h
 cases hc:cA i v o bs st with
 |false=>rw [hc]at h;cases h
 |true=>
  rw [hc]at h
  cases hm:Yv i v o bs st k stk xs os ss&&bitsB i inp with
  |false=>rw [hm]at h;cases h
  |true=>
   simp only [q9]at hm
   simp only [Sp,hc,hm.1,hm.2];rfl
theorem avJ{i v o:Int}{bs:List TM}{st:List IN}{inp:arG}{k:Int}{stk xs os:arG}{ss:List BS3}(h:Sp i v o bs st inp k stk xs os ss=true):0≤k∧k≤st.length:=by
 simp only [Sp,q9]at h
 have:=akD h.1 h.2.2
 exact⟨this.lo,this.hi⟩
def Fb(i v o:Int)(bs:List TM)(st:List IN)(k:Int)(stk xs os:arG)(ss:List BS3)(inp:arG):Int:=bif EK i v o bs st k stk xs os ss [inp]==0&&k==(st.length:Int)then 5 else EK i v o bs st k stk xs os ss [inp]
def m0:MS:=(0,[],[],[],[])
def ssM(i v o:Int)(bs:List TM)(st:List IN)(k:Int)(stk xs os:arG)(ss:List BS3)(inp:arG):MS:=bif Fb i v o bs st k stk xs os ss inp==0 then stM bs st inp k stk xs os ss else m0
def sfM(i v o:Int)(bs:List TM)(st:List IN)(k:Int)(stk xs os:arG)(ss:List BS3)(inp:arG):MS:=bif EK i v o bs st k stk xs os ss [inp]==0 then fnM bs st inp k stk xs os ss else m0
theorem apH{i v o:Int}{bs:List TM}{st:List IN}{k:Int}{stk xs os:arG}{ss:List BS3}{inp:arG}(h:Fb i v o bs st k stk xs os ss inp=0):
  EK i v o bs st k stk xs os ss [inp]=0∧(k==(st.length:Int))=false∧aka i v o bs st inp k stk xs os ss=true:=by
 simp only [Fb]at h
 cases hm:EK i v o bs st k stk xs os ss [inp]==0 with
 |false=>
  rw [hm,Bool.false_and,cond_false]at h
  rw [h]at hm;cases hm
 |true=>
  rw [hm,Bool.true_and]at h
  have hm:=by simpa using hm
  have hr:=au8 hm
  obtain⟨k0,k1⟩:=avJ hr
  cases hk:k==(st.length:Int)with
  |true=>rw [hk]at h;cases h
  |false=>
   have hk:=by simpa using hk
   exact⟨hm,rfl,by simp only [aka,hr,cI (show k < (st.length:Int) by omega)];rfl⟩
theorem avO(i v o:Int)(bs:List TM)(st:List IN)(k:Int)(stk xs os:arG)(ss:List BS3)(inp:arG)(h:agD bs stk xs os [inp]=true):
  Pj i v o k bs st stk xs os ss inp=(ssM i v o bs st k stk xs os ss inp).1∧Pk i v o k bs st stk xs os ss inp=Fb i v o bs st k stk xs os ss inp∧
  Pl i v o k bs st stk xs os ss inp=(ssM i v o bs st k stk xs os ss inp).2.1∧Pm i v o k bs st stk xs os ss inp=(ssM i v o bs st k stk xs os ss inp).2.2.1∧
  Pn i v o k bs st stk xs os ss inp=(ssM i v o bs st k stk xs os ss inp).2.2.2.1∧Po i v o k bs st stk xs os ss inp=(ssM i v o bs st k stk xs os ss inp).2.2.2.2∧Pp i v o k bs st stk xs os ss inp=true:=by
 obtain⟨c0,c1⟩:=auh i v o bs st k stk xs os ss inp h
 have e:Fx i v o k bs st stk xs os ss inp=Fb i v o bs st k stk xs os ss inp:=by
  simp only [Fx,c0,Fb]
  cases EK i v o bs st k stk xs os ss [inp]==0 <;> rfl
 simp only [Pj,Pk,Pl,Pm,Pn,Po,Pp,pW,e,c1,ssM,allT]
 by_cases hz:Fb i v o bs st k stk xs os ss inp=0
 ·obtain⟨_,_,h4⟩:=apH hz
  simp [hz,h4]
 ·have:(Fb i v o bs st k stk xs os ss inp==0)=false:=by simpa using hz
  simp [bne,this,m0]
theorem avx(i v o:Int)(bs:List TM)(st:List IN)(k:Int)(stk xs os:arG)(ss:List BS3)(inp:arG)(h:(agD bs stk xs os [inp]&&leN ss.length 1048576)=true):
  OC i v o k bs st stk xs os ss inp=(ssM i v o bs st k stk xs os ss inp).1∧OD i v o k bs st stk xs os ss inp=Fb i v o bs st k stk xs os ss inp∧
  OE i v o k bs st stk xs os ss inp=(ssM i v o bs st k stk xs os ss inp).2.1∧OG i v o k bs st stk xs os ss inp=(ssM i v o bs st k stk xs os ss inp).2.2.1∧
  OH i v o k bs st stk xs os ss inp=(ssM i v o bs st k stk xs os ss inp).2.2.2.1∧OI i v o k bs st stk xs os ss inp=(ssM i v o bs st k stk xs os ss inp).2.2.2.2∧OJ i v o k bs st stk xs os ss inp=true:=by
 simp only [q9]at h
 obtain⟨h,l4⟩:=h
 obtain⟨c0,c1⟩:=aqu i v o bs st k stk xs os ss [inp] h
 obtain⟨_,⟨h1,h2,h3⟩,_⟩:=asF h
 have t1:leN stk.length 1048576=true:=aG h1
 have t2:leN xs.length 1048576=true:=aG h2
 have t3:leN os.length 1048576=true:=aG h3
 have nK:ax st=(st.length:Int):=rfl
 simp only [OC,OD,OE,OG,OH,OI,OJ,ol,MT,gQ,nK,c0,c1,t1,t2,t3,l4,allT]
 by_cases hz:Fb i v o bs st k stk xs os ss inp=0
 ·obtain⟨z1,z2,h4⟩:=apH hz
  simp only [ssM,hz]
  simp [z1,z2,h4]
 ·have hz':(Fb i v o bs st k stk xs os ss inp==0)=false:=by simpa using hz
  have e:ssM i v o bs st k stk xs os ss inp=m0:=by simp only [ssM,hz',cond_false]
  rw [e]
  cases hm:EK i v o bs st k stk xs os ss [inp]==0 with
  |false=>
   have e2:Fb i v o bs st k stk xs os ss inp=EK i v o bs st k stk xs os ss [inp]:=by simp only [Fb,hm,Bool.false_and,cond_false]
   simp [bne,hm,m0,e2]
  |true=>
   cases hk:k==(st.length:Int)with
   |false=>
    simp only [Fb,hm,hk,Bool.and_false,cond_false]at hz'
    cases hz'
   |true=>
    have e2:Fb i v o bs st k stk xs os ss inp=5:=by simp only [Fb,hm,hk,Bool.and_self,cond_true]
    simp [bne,hm,m0,e2]
theorem avu(i v o:Int)(bs:List TM)(st:List IN)(k:Int)(stk xs os:arG)(ss:List BS3)(inp:arG)(h:(agD bs stk xs os [inp]&&leN ss.length 1048576)=true):
  La i v o k bs st stk xs os ss inp=(sfM i v o bs st k stk xs os ss inp).1∧Lb i v o k bs st stk xs os ss inp=EK i v o bs st k stk xs os ss [inp]∧
  Lc i v o k bs st stk xs os ss inp=(sfM i v o bs st k stk xs os ss inp).2.1∧Ld i v o k bs st stk xs os ss inp=(sfM i v o bs st k stk xs os ss inp).2.2.1∧
  Le i v o k bs st stk xs os ss inp=(sfM i v o bs st k stk xs os ss inp).2.2.2.1∧Lf i v o k bs st stk xs os ss inp=(sfM i v o bs st k stk xs os ss inp).2.2.2.2∧Lg i v o k bs st stk xs os ss inp=true:=by
 simp only [q9]at h
 obtain⟨h,l4⟩:=h
 obtain⟨c0,c1⟩:=aqu i v o bs st k stk xs os ss [inp] h
 obtain⟨_,⟨h1,h2,h3⟩,_⟩:=asF h
 have t1:leN stk.length 1048576=true:=aG h1
 have t2:leN xs.length 1048576=true:=aG h2
 have t3:leN os.length 1048576=true:=aG h3
 simp only [La,Lb,Lc,Ld,Le,Lf,Lg,lE,Jg,gQ,c0,c1,sfM,t1,t2,t3,l4,allT]
 by_cases h1:EK i v o bs st k stk xs os ss [inp]=0
 ·simp [h1,au8 h1]
 ·have:(EK i v o bs st k stk xs os ss [inp]==0)=false:=by simpa using h1
  simp [bne,this,m0]
def Wx:awE
 | [.one ⟨true,[.val (.int .i64 a),.val (.int .i64 b),.val (.int .i64 c),.ref 0,.ref 1]⟩,.one ⟨true,[.val (.int .i64 d),.ref 2,.ref 3,.ref 4,.ref 5]⟩,.one ⟨false,[.ref 6]⟩],[.row false 122 (.pair (.int .i64) (.pair (.str) (.int .i64))) e,.row false 83 (.pair (.int .i64) (.int .i64)) f,.row false 2 (.int .i64) g,.row false 2 (.int .i64) i,.row false 2 (.int .i64) j,.row false 109 (.pair (.int .i64) (.pair (.int .i64) (.int .i64))) k,.row false 2 (.int .i64) l]=>some ⟨.tup [⟨true,[awF ((ssM a b c e f d g i j k l).1),.ref 7,.ref 8,.ref 9,.ref 10]⟩,⟨false,[awF (Fb a b c e f d g i j k l)]⟩],[.row false 122 ab5 e,.row false 83 aeK f,.row false 2 aox g,.row false 2 aox i,.row false 2 aox j,.row false 109 abx k,.row false 2 aox l],[.row false 2 aox ((ssM a b c e f d g i j k l).2.1),.row false 2 aox ((ssM a b c e f d g i j k l).2.2.1),.row false 2 aox ((ssM a b c e f d g i j k l).2.2.2.1),.row false 109 abx ((ssM a b c e f d g i j k l).2.2.2.2)],[agD e g i j [l]]⟩
 |_,_=>none
def OQ:PF prog:=PF.alt aij Wx (by
 intro args es o h bA;unfold Wx at h;split at h
 ·rename_i a b c d e f g i j k l
  cases h
  have bA:=fv bA
  have hh:=avO a b c e f d g i j k l bA
  obtain⟨e0,e1,e2,e3,e4,e5,en⟩:=hh
  exact kj rfl (eT en) (by simp only [e0,e1] <;> rfl) rfl (by simp only [e2,e3,e4,e5] <;> rfl)
 ·cases h)
def Ws:awE
 | [.one ⟨true,[.val (.int .i64 a),.val (.int .i64 b),.val (.int .i64 c),.ref 0,.ref 1]⟩,.one ⟨true,[.val (.int .i64 d),.ref 2,.ref 3,.ref 4,.ref 5]⟩,.one ⟨false,[.ref 6]⟩],[.row false 122 (.pair (.int .i64) (.pair (.str) (.int .i64))) e,.row false 83 (.pair (.int .i64) (.int .i64)) f,.row false 2 (.int .i64) g,.row false 2 (.int .i64) i,.row false 2 (.int .i64) j,.row false 109 (.pair (.int .i64) (.pair (.int .i64) (.int .i64))) k,.row false 2 (.int .i64) l]=>some ⟨.tup [⟨true,[awF ((ssM a b c e f d g i j k l).1),.ref 7,.ref 8,.ref 9,.ref 10]⟩,⟨false,[awF (Fb a b c e f d g i j k l)]⟩],[.row false 122 ab5 e,.row false 83 aeK f,.row false 2 aox g,.row false 2 aox i,.row false 2 aox j,.row false 109 abx k,.row false 2 aox l],[.row true 2 aox ((ssM a b c e f d g i j k l).2.1),.row true 2 aox ((ssM a b c e f d g i j k l).2.2.1),.row true 2 aox ((ssM a b c e f d g i j k l).2.2.2.1),.row true 109 abx ((ssM a b c e f d g i j k l).2.2.2.2)],[agD e g i j [l]&&leN k.length 1048576]⟩
 |_,_=>none
def OM:PF prog:=PF.alt aie Ws (by
 intro args es o h bA;unfold Ws at h;split at h
 ·rename_i a b c d e f g i j k l
  cases h
  have bA:=fv bA
  have hh:=avx a b c e f d g i j k l bA
  obtain⟨e0,e1,e2,e3,e4,e5,en⟩:=hh
  exact kj rfl (eT en) (by simp only [e0,e1] <;> rfl) rfl (by simp only [e2,e3,e4,e5] <;> rfl)
 ·cases h)
def Uk:awE
 | [.one ⟨true,[.val (.int .i64 a),.val (.int .i64 b),.val (.int .i64 c),.ref 0,.ref 1]⟩,.one ⟨true,[.val (.int .i64 d),.ref 2,.ref 3,.ref 4,.ref 5]⟩,.one ⟨false,[.ref 6]⟩],[.row false 122 (.pair (.int .i64) (.pair (.str) (.int .i64))) e,.row false 83 (.pair (.int .i64) (.int .i64)) f,.row false 2 (.int .i64) g,.row false 2 (.int .i64) i,.row false 2 (.int .i64) j,.row false 109 (.pair (.int .i64) (.pair (.int .i64) (.int .i64))) k,.row false 2 (.int .i64) l]=>some ⟨.tup [⟨true,[awF ((sfM a b c e f d g i j k l).1),.ref 7,.ref 8,.ref 9,.ref 10]⟩,⟨false,[awF (EK a b c e f d g i j k [l])]⟩],[.row false 122 ab5 e,.row false 83 aeK f,.row false 2 aox g,.row false 2 aox i,.row false 2 aox j,.row false 109 abx k,.row false 2 aox l],[.row true 2 aox ((sfM a b c e f d g i j k l).2.1),.row true 2 aox ((sfM a b c e f d g i j k l).2.2.1),.row true 2 aox ((sfM a b c e f d g i j k l).2.2.2.1),.row true 109 abx ((sfM a b c e f d g i j k l).2.2.2.2)],[agD e g i j [l]&&leN k.length 1048576]⟩
 |_,_=>none
def Lq:PF prog:=PF.alt ae9 Uk (by
 intro args es o h bA;unfold Uk at h;split at h
 ·rename_i a b c d e f g i j k l
  cases h
  have bA:=fv bA
  have hh:=avu a b c e f d g i j k l bA
  obtain⟨e0,e1,e2,e3,e4,e5,en⟩:=hh
  exact kj rfl (eT en) (by simp only [e0,e1] <;> rfl) rfl (by simp only [e2,e3,e4,e5] <;> rfl)
 ·cases h)
abbrev np:=Int×List (List Int)×Int×Int×Int×List (Int×(asv×Int))×List (Int×Int)
section
variable (a:Int)(b:aq6)(c:Int)
def pV:arG:=v9 b[v7 a]? (ub (CTy.sl (2:TypeId) aox))
def xS:Bool:=ltI a (↑b.length:Int)
def HQ:Bool:=leI 0 a
def HR:Bool:=ltN a.toNat b.length
def HS:Bool:=leN (v8 (pV a b)) 9223372036854775807
def Ck:Bool:= !bitsB c (pV a b)
def HT:Int:=qqq .i64 (a + (1:Int))
end
def af6:np→List (Nat×SV)
 |(a,_,_,_,_,_,_)=> [(6,(.one ⟨false,[awF a]⟩)),(1,(.one ⟨false,[.ref 0]⟩)),(2,(.one ⟨false,[.ptr 1 0]⟩))]
def afW:np→List (Nat×Entry)
 |(_,a,b,c,d,e,f)=> [(0,(.row false 28 (CTy.sl (2:TypeId) aox) a)),(1,(.box 27 [awF b,awF c,awF d,.ref 2,.ref 3])),(2,(.row false 122 ab5 e)),(3,(.row false 83 aeK f))]
def agr:Nat→np→List (Nat×SV)
 |0,(_,_,_,_,_,_,_)=> [(4,(.one ⟨false,[.ref 4]⟩)),(5,(.one ⟨false,[awF 2]⟩))]
 |_,(_,_,_,_,_,_,_)=> []
def agh:Nat→np→List (Nat×Entry)
 |0,(_,a,b,c,d,e,f)=> [(0,(.row false 28 (CTy.sl (2:TypeId) aox) a)),(1,(.box 27 [awF b,awF c,awF d,.ref 2,.ref 3])),(2,(.row false 122 ab5 e)),(3,(.row false 83 aeK f)),(4,(.row true 28 alK []))]
 |_,(_,a,b,c,d,e,f)=> [(0,(.row false 28 (CTy.sl (2:TypeId) aox) a)),(1,(.box 27 [awF b,awF c,awF d,.ref 2,.ref 3])),(2,(.row false 122 ab5 e)),(3,(.row false 83 aeK f))]
def Ah:np→LT np
 |(a,b,c,d,e,f,g)=> .ite (xS a b) (.need [HQ a,xS a b,HR a b,HS a b] (.ite (Ck a b c) (.ext 0 [(0,0),(1,1),(2,2),(3,3),(4,832)]) (.nrm ((HT a),b,c,d,e,f,g) [(0,0),(1,1),(2,2),(3,3)]))) (.ext 1 [(0,0),(1,1),(2,2),(3,3)])
def Nl(s:St):Option np:=do
 let some ⟨none,.one ⟨false,[.val (.int .i64 a)]⟩⟩:=s.look 6|none
 let some ⟨none,.one ⟨false,[.ref 2]⟩⟩:=s.look 1|none
 let some ⟨none,.one ⟨false,[.ptr 256 0]⟩⟩:=s.look 2|none
 let some (.row false 28 (.sl 2 (.int .i64)) b):=s.ent 2|none
 let some (.box 27 [.val (.int .i64 c),.val (.int .i64 d),.val (.int .i64 e),.ref 0,.ref 1]):=s.ent 256|none
 let some (.row false 122 (.pair (.int .i64) (.pair .str (.int .i64))) f):=s.ent 0|none
 let some (.row false 83 (.pair (.int .i64) (.int .i64)) g):=s.ent 1|none
 some (a,b,c,d,e,f,g)
def fg:Lp np where
 h:=⟨[18,19,20,21,24,25,26,27,28,29,30,31,4,5,22,23,6],[0,1,2,3],[],[4]⟩
 JL:=af6
 JE:=afW
 XL:=agr
 XE:=agh
 q:=fun j=>match j with | 0=> .ret | _=> .exit 0
 tags:= [0,1]
 lt:=Ah
 fuel:=fun(a,b,c,d,e,f,g)=>a.natAbs + b.length + c.natAbs + d.natAbs + e.natAbs + f.length + g.length
 fix:=fun(_,b,c,d,e,f,g) (a,_,_,_,_,_,_)=>(a,b,c,d,e,f,g)
 σ:= [(0,2),(1,256),(2,0),(3,1)]
 rd:=Nl
theorem adu:LoopOk prog (fun k=>Nat.blt k Tryz.f38.ntmps) fg.F (bB f38 0):=by
 refine Lp.ok (tbl:= (T3z [fP,bh,rC])) (lf:= []) bj fg (by kernel_rfl) (LOk.nil _) (fun _=>rfl) (fun j _=>by unfold fg;match j with | 0=>rfl | _ + 1=>rfl) ?_ ?_ ?_ ?_ (fun _=>rfl) ?_
 ·rintro⟨a,b,c,d,e,f,g⟩;kernel_rfl
 ·rintro⟨a,b,c,d,e,f,g⟩;kernel_rfl
 ·intro s x h
  have h:Nl s=some x:=h
  unfold Nl at h
  repeat' split at h
  all_goals cases h
  constructor<;>repeat(first|refine ab (by assumption) rfl ?_|refine aa rfl (by assumption) rfl ?_|exact rfl)
 ·rintro⟨a,b,c,d,e,f,g⟩;kernel_rfl
 ·rintro⟨a,b,c,d,e,f,g⟩ z;exact(And.intro (And.intro trivial rfl) trivial)
abbrev nq:=Int×List (List Int)×Int×Int×Int×List (List Int)×List (Int×(asv×Int))×List (Int×Int)×List Int×List (Int×(Int×Int))
section
variable (a:Int)(b:aq6)(c d e:Int)(f:aq6)(g:aov)(i:arD)(j:arG)(k:aqe)
def mf:arG:=v9 b[v7 a]? (ub (CTy.sl (2:TypeId) aox))
def sS:aq6:= [((rnM e g i (mf a b) j k).2.2.2).1]
def xT:Bool:=ltI a (↑b.length:Int)
def HU:Bool:=leI 0 a
def HV:Bool:=ltN a.toNat b.length
def HW:Bool:=VT c d e g i (mf a b) j k
def HX:Bool:=leN (v8 f + v8 (sS a b e g i j k)) 9223372036854775807
def HY:Bool:=leN ((v8 f + v8 (sS a b e g i j k)) * 24) 140737488355328
def Ph:Int:=qqq .i64 (a + (1:Int))
def HZ:aq6:=f++sS a b e g i j k
def Ia:arG:=((rnM e g i (mf a b) j k).2.2).1
def Ib:aqe:=(rnM e g i (mf a b) j k).2.2.2.2
end
def af7:nq→List (Nat×SV)
 |(a,_,_,_,_,_,_,_,_,_)=> [(9,(.one ⟨false,[awF a]⟩)),(1,(.one ⟨false,[.ref 0]⟩)),(2,(.one ⟨false,[.ptr 1 0]⟩)),(7,(.one ⟨false,[.ptr 2 0]⟩)),(8,(.one ⟨false,[.ref 3]⟩))]
def afX:nq→List (Nat×Entry)
 |(_,a,b,c,d,e,f,g,i,j)=> [(0,(.row false 28 (CTy.sl (2:TypeId) aox) a)),(1,(.box 27 [awF b,awF c,awF d,.ref 4,.ref 5])),(2,(.box 50 [.ref 6,.ref 7])),(4,(.row false 122 ab5 f)),(5,(.row false 83 aeK g)),(3,(.row true 28 alK e)),(6,(.row false 2 aox i)),(7,(.row false 109 abx j))]
def ags:Nat→nq→List (Nat×SV)
 |_,(_,_,_,_,_,_,_,_,_,_)=> [(8,(.one ⟨false,[.ref 3]⟩))]
def agi:Nat→nq→List (Nat×Entry)
 |_,(_,a,b,c,d,e,f,g,i,j)=> [(0,(.row false 28 (CTy.sl (2:TypeId) aox) a)),(1,(.box 27 [awF b,awF c,awF d,.ref 4,.ref 5])),(2,(.box 50 [.ref 6,.ref 7])),(3,(.row true 28 alK e)),(4,(.row false 122 ab5 f)),(5,(.row false 83 aeK g)),(6,(.row false 2 aox i)),(7,(.row false 109 abx j))]
def Ai:nq→LT nq
 |(a,b,c,d,e,f,g,i,j,k)=> .ite (xT a b) (.need [HU a,xT a b,HV a b,HW a b c d e g i j k] (.need [HX a b e f g i j k,HY a b e f g i j k] (.nrm ((Ph a),b,c,d,e,HZ a b e f g i j k,g,i,Ia a b e g i j k,(Ib a b e g i j k)) [(0,0),(1,1),(2,2),(3,1344),(4,4),(5,5),(6,705),(7,706)]))) (.ext 0 [(0,0),(1,1),(2,2),(3,3),(4,4),(5,5),(6,6),(7,7)])
def Nn(s:St):Option nq:=do
 let some ⟨none,.one ⟨false,[.val (.int .i64 a)]⟩⟩:=s.look 9|none
 let some ⟨none,.one ⟨false,[.ref 2]⟩⟩:=s.look 1|none
 let some ⟨none,.one ⟨false,[.ptr 256 0]⟩⟩:=s.look 2|none
 let some ⟨none,.one ⟨false,[.ptr 1472 0]⟩⟩:=s.look 7|none
 let some ⟨none,.one ⟨false,[.ref 1600]⟩⟩:=s.look 8|none
 let some (.row false 28 (.sl 2 (.int .i64)) b):=s.ent 2|none
 let some (.box 27 [.val (.int .i64 c),.val (.int .i64 d),.val (.int .i64 e),.ref 0,.ref 1]):=s.ent 256|none
 let some (.box 50 [.ref 2368,.ref 3008]):=s.ent 1472|none
 let some (.row false 122 (.pair (.int .i64) (.pair .str (.int .i64))) g):=s.ent 0|none
 let some (.row false 83 (.pair (.int .i64) (.int .i64)) i):=s.ent 1|none
 let some (.row true 28 (.sl 2 (.int .i64)) f):=s.ent 1600|none
 let some (.row false 2 (.int .i64) j):=s.ent 2368|none
 let some (.row false 109 (.pair (.int .i64) (.pair (.int .i64) (.int .i64))) k):=s.ent 3008|none
 some (a,b,c,d,e,f,g,i,j,k)
def gx:Lp nq where
 h:=⟨[41,42,43,44,48,49,50,51,52,53,54,47,55,56,11,10,57,58,59,60,8,61,45,46,9],[0,1,2,4,5],[3,6,7],[]⟩
 JL:=af7
 JE:=afX
 XL:=ags
 XE:=agi
 q:=fun j=>match j with | _=> .exit 2
 tags:= [0]
 lt:=Ai
 fuel:=fun(a,b,c,d,e,f,g,i,k,l)=>a.natAbs + b.length + c.natAbs + d.natAbs + e.natAbs + f.length + g.length + i.length + k.length + l.length
 fix:=fun(_,b,c,d,e,_,g,i,_,_) (a,_,_,_,_,f,_,_,k,l)=>(a,b,c,d,e,f,g,i,k,l)
 σ:= [(0,2),(1,256),(2,1472),(4,0),(5,1),(3,1600),(6,2368),(7,3008)]
 rd:=Nn
 fz:= [2]
theorem adv:LoopOk prog (fun k=>Nat.blt k Tryz.f38.ntmps) gx.F (bB f38 1):=by
 refine Lp.ok (tbl:= (T3z [fP,bh,rC])) (lf:= []) bj gx (by kernel_rfl) (LOk.nil _) (fun _=>rfl) (fun _ _=>rfl) ?_ ?_ ?_ ?_ (fun _=>rfl) ?_
 ·rintro⟨a,b,c,d,e,f,g,i,j,l⟩;kernel_rfl
 ·rintro⟨a,b,c,d,e,f,g,i,j,l⟩;kernel_rfl
 ·intro s x h
  have h:Nn s=some x:=h
  unfold Nn at h
  repeat' split at h
  all_goals cases h
  constructor<;>repeat(first|refine ab (by assumption) rfl ?_|refine aa rfl (by assumption) rfl ?_|exact rfl)
 ·rintro⟨a,b,c,d,e,f,g,i,j,l⟩;kernel_rfl
 ·rintro⟨a,b,c,d,e,f,g,i,j,l⟩ z;exact(And.intro rfl trivial)
section
variable (a b c:Int)(d:aow)(e:arD)(f:aq6)
def kW:Bool:=ltI 200 (↑f.length:Int)
def Tm:Int×aq6×Int×Int×Int×aow×arD:=((0:Int),f,a,b,c,d,e)
def mH:Bool:=Nat.beq ((Lp.res fg (Tm a b c d e f)).1) 0
def Tn:Int×aq6×Int×Int×Int×aq6×aow×arD×arG×aq5:=((0:Int),f,a,b,c,[],d,e,qqw b.toNat (0:Int),qqw (v7 (↑d.length:Int)) ((0:Int),(0:Int),(0:Int)))
def Vf:Int:=bif !cA a b c d e then(1:Int)else bif kW f then(3:Int)else bif mH a b c d e f then(2:Int)else(0:Int)
def Vg:aq6:=bif !cA a b c d e then []else bif kW f then []else bif mH a b c d e f then []else ((Lp.res gx (Tn a b c d e f)).2.2.2.2.2.2).1
def Vh:Bool:=allT [afu d,!cA a b c d e||(kW f||Lp.fin fg (Tm a b c d e f)),!cA a b c d e||(kW f||(mH a b c d e f||leI 0 b)),!cA a b c d e||(kW f||(mH a b c d e f||leI b b)),!cA a b c d e||(kW f||(mH a b c d e f||leI ((↑(8:Nat):Int) * b) 281474976710656)),!cA a b c d e||(kW f||(mH a b c d e f||leI b 9223372036854775807)),!cA a b c d e||(kW f||(mH a b c d e f||leI 0 (↑d.length:Int))),!cA a b c d e||(kW f||(mH a b c d e f||leI (↑d.length:Int) (↑d.length:Int))),!cA a b c d e||(kW f||(mH a b c d e f||leI ((↑(24:Nat):Int) * (↑d.length:Int)) 281474976710656)),!cA a b c d e||(kW f||(mH a b c d e f||leI (↑d.length:Int) 9223372036854775807)),!cA a b c d e||(kW f||(mH a b c d e f||Lp.fin gx (Tn a b c d e f)))]
end
def acu:awE
 | [.one ⟨true,[.val (.int .i64 a),.val (.int .i64 b),.val (.int .i64 c),.ref 0,.ref 1]⟩,.one ⟨false,[.ref 2]⟩],[.row false 122 (.pair (.int .i64) (.pair (.str) (.int .i64))) d,.row false 83 (.pair (.int .i64) (.int .i64)) e,.row false 28 (.sl 2 (.int .i64)) f]=>some ⟨.tup [⟨false,[.ref 3]⟩,⟨false,[awF (Vf a b c d e f)]⟩],[.row false 122 ab5 d,.row false 83 aeK e,.row false 28 (CTy.sl (2:TypeId) aox) f],[.row true 28 alK (Vg a b c d e f)],[Vh a b c d e f]⟩
 |_,_=>none
def alZ:PF prog:=PF.ofG prog (T3z [fP,bh,rC]) [fg.F,(fun s=>gx.F (aex [(1472,0),(1472,1)] s))] bj 38 f38 func38 (LOk.fnT (l:= [bB f38 0,bB f38 1]) (by kernel_rfl) (.cons adu (.cons (adv.alias [(1472,0),(1472,1)]) (.nil _)))) acu (by
 intro _ _ _ h;unfold acu at h;split at h<;>cases h;kernel_rfl)
section
variable (a b:Int)
def FS:arG:=qqw a.toNat (0:Int)
def LP:aqe:=qqw b.toNat ((0:Int),(0:Int),(0:Int))
def Ta:Bool:=allT [leI 0 a,leI a a,leI ((↑(8:Nat):Int) * a) 281474976710656,leI a 9223372036854775807,leI 0 b,leI b b,leI ((↑(24:Nat):Int) * b) 281474976710656,leI b 9223372036854775807]
end
def aaD:awE
 | [.one ⟨false,[.val (.int .i64 a)]⟩,.one ⟨false,[.val (.int .i64 b)]⟩],[]=>some ⟨.one ⟨true,[.ref 0,.ref 1]⟩,[],[.row true 2 aox (FS a),.row true 109 abx (LP b)],[Ta a b]⟩
 |_,_=>none
def abh:PF prog:=PF.ofG prog [] [] bj 66 f66 func66 (fun c _=>LOk.nil c) aaD (by
 intro _ _ _ h;unfold aaD at h;split at h<;>cases h;kernel_rfl)
abbrev nj:=Int×Int×List (List Int)×Int×Int×Int×List (List Int)×List (Int×(asv×Int))×List (Int×Int)×List Int×List (Int×(Int×Int))
section
variable (a b:Int)(c:aq6)(d e f:Int)(g:aq6)(i:aov)(j:arD)(k:arG)(l:aqe)
def md:arG:=v9 c[v7 a]? (ub (CTy.sl (2:TypeId) aox))
def sJ:aq6:= [((rnM f i j (md a c) k l).2.2.2).1]
def BJ:Bool:=ltI a b
def Ho:Bool:=leI 0 a
def Hq:Bool:=ltI a (↑c.length:Int)
def Hr:Bool:=ltN a.toNat c.length
def Hs:Bool:=VT d e f i j (md a c) k l
def Ht:Bool:=leN (v8 g + v8 (sJ a c f i j k l)) 9223372036854775807
def Hu:Bool:=leN ((v8 g + v8 (sJ a c f i j k l)) * 24) 140737488355328
def OB:Int:=qqq .i64 (a + (1:Int))
def Hv:aq6:=g++sJ a c f i j k l
def Hw:arG:=((rnM f i j (md a c) k l).2.2).1
def Fk:aqe:=(rnM f i j (md a c) k l).2.2.2.2
end
def af4:nj→List (Nat×SV)
 |(a,b,_,_,_,_,_,_,_,_,_)=> [(36,(.one ⟨false,[awF a]⟩)),(35,(.one ⟨false,[awF b]⟩)),(34,(.one ⟨false,[.ref 0]⟩)),(2,(.one ⟨false,[.ptr 1 0]⟩)),(6,(.one ⟨false,[.ptr 2 0]⟩)),(8,(.one ⟨false,[.ref 3]⟩))]
def afU:nj→List (Nat×Entry)
 |(_,_,a,b,c,d,e,f,g,i,j)=> [(0,(.row false 28 (CTy.sl (2:TypeId) aox) a)),(1,(.box 27 [awF b,awF c,awF d,.ref 4,.ref 5])),(2,(.box 50 [.ref 6,.ref 7])),(4,(.row false 122 ab5 f)),(5,(.row false 83 aeK g)),(3,(.tree 28 alK e none)),(6,(.row true 2 aox i)),(7,(.row true 109 abx j))]
def agp:Nat→nj→List (Nat×SV)
 |_,(_,_,_,_,_,_,_,_,_,_,_)=> [(8,(.one ⟨false,[.ref 3]⟩))]
def age:Nat→nj→List (Nat×Entry)
 |_,(_,_,a,b,c,d,e,f,g,i,j)=> [(0,(.row false 28 (CTy.sl (2:TypeId) aox) a)),(1,(.box 27 [awF b,awF c,awF d,.ref 4,.ref 5])),(2,(.box 50 [.ref 6,.ref 7])),(3,(.tree 28 alK e none)),(4,(.row false 122 ab5 f)),(5,(.row false 83 aeK g)),(6,(.row true 2 aox i)),(7,(.row true 109 abx j))]
def Af:nj→LT nj
 |(a,b,c,d,e,f,g,i,j,k,l)=> .ite (BJ a b) (.need [Ho a,Hq a c,Hr a c] (.need [Hs a c d e f i j k l] (.need [Ht a c f g i j k l,Hu a c f g i j k l] (.nrm ((OB a),b,c,d,e,f,Hv a c f g i j k l,i,j,Hw a c f i j k l,(Fk a c f i j k l)) [(0,0),(1,1),(2,2),(3,1152),(4,4),(5,5),(6,513),(7,514)])))) (.ext 0 [(0,0),(1,1),(2,2),(3,3),(4,4),(5,5),(6,6),(7,7)])
def Nj(s:St):Option nj:=do
 let some ⟨none,.one ⟨false,[.val (.int .i64 a)]⟩⟩:=s.look 36|none
 let some ⟨none,.one ⟨false,[.val (.int .i64 b)]⟩⟩:=s.look 35|none
 let some ⟨none,.one ⟨false,[.ref 2]⟩⟩:=s.look 34|none
 let some ⟨none,.one ⟨false,[.ptr 256 0]⟩⟩:=s.look 2|none
 let some ⟨none,.one ⟨false,[.ptr 1344 0]⟩⟩:=s.look 6|none
 let some ⟨none,.one ⟨false,[.ref 1920]⟩⟩:=s.look 8|none
 let some (.row false 28 (.sl 2 (.int .i64)) c):=s.ent 2|none
 let some (.box 27 [.val (.int .i64 d),.val (.int .i64 e),.val (.int .i64 f),.ref 0,.ref 1]):=s.ent 256|none
 let some (.box 50 [.ref 1280,.ref 1281]):=s.ent 1344|none
 let some (.row false 122 (.pair (.int .i64) (.pair .str (.int .i64))) i):=s.ent 0|none
 let some (.row false 83 (.pair (.int .i64) (.int .i64)) j):=s.ent 1|none
 let some (.tree 28 (.sl 2 (.int .i64)) g none):=s.ent 1920|none
 let some (.row true 2 (.int .i64) k):=s.ent 1280|none
 let some (.row true 109 (.pair (.int .i64) (.pair (.int .i64) (.int .i64))) l):=s.ent 1281|none
 some (a,b,c,d,e,f,g,i,j,k,l)
def gw:Lp nj where
 h:=⟨[37,38,39,10,41,42,43,44,40,45,46,12,11,47,48,49,50,8,51,52,36],[0,1,2,4,5],[3,6,7],[]⟩
 JL:=af4
 JE:=afU
 XL:=agp
 XE:=age
 q:=fun j=>match j with | _=> .exit 1
 tags:= [0]
 lt:=Af
 fuel:=fun(a,b,c,d,e,f,g,i,k,l,m)=>a.natAbs + b.natAbs + c.length + d.natAbs + e.natAbs + f.natAbs + g.length + i.length + k.length + l.length + m.length
 fix:=fun(_,b,c,d,e,f,_,i,k,_,_) (a,_,_,_,_,_,g,_,_,l,m)=>(a,b,c,d,e,f,g,i,k,l,m)
 σ:= [(0,2),(1,256),(2,1344),(4,0),(5,1),(3,1920),(6,1280),(7,1281)]
 rd:=Nj
theorem ads:LoopOk prog (fun k=>Nat.blt k Tryz.f27.ntmps) gw.F (bB f27 0):=by
 refine Lp.ok (tbl:= (PF.trees prog::T3z [nE,abh,qC,uc])) (lf:= []) bj gw (by kernel_rfl) (LOk.nil _) (fun _=>rfl) (fun _ _=>rfl) ?_ ?_ ?_ ?_ (fun _=>rfl) ?_
 ·rintro⟨a,b,c,d,e,f,g,i,j,l,m⟩;kernel_rfl
 ·rintro⟨a,b,c,d,e,f,g,i,j,l,m⟩;kernel_rfl
 ·intro s x h
  have h:Nj s=some x:=h
  unfold Nj at h
  repeat' split at h
  all_goals cases h
  constructor<;>repeat(first|refine ab (by assumption) rfl ?_|refine aa rfl (by assumption) rfl ?_|exact rfl)
 ·rintro⟨a,b,c,d,e,f,g,i,j,l,m⟩;kernel_rfl
 ·rintro⟨a,b,c,d,e,f,g,i,j,l,m⟩ z;exact(And.intro rfl trivial)
section
variable (a b c:Int)(d:aow)(e:arD)(f:aq6)
def Bq:Bool:=ltI 200 (↑f.length:Int)
def SY:Int:=ae1 a b c d e (FS b) (LP (↑d.length:Int)) f
def LO:Bool:=SY a b c d e f !=0
def SZ:Int×Int×aq6×Int×Int×Int×aq6×aow×arD×arG×aq5:=((0:Int),(↑f.length:Int),f,a,b,c,[],d,e,FS b,LP (↑d.length:Int))
def UV:Int:=bif !cA a b c d e then(1:Int)else bif Bq f then(3:Int)else bif LO a b c d e f then SY a b c d e f else(0:Int)
def UW:aq6:=bif !cA a b c d e then []else bif Bq f then []else bif LO a b c d e f then []else ((Lp.res gw (SZ a b c d e f)).2.2.2.2.2.2.2).1
def UX:Bool:=allT [!cA a b c d e||(Bq f||Ta b (↑d.length:Int)),!cA a b c d e||(Bq f||aqw d (FS b) f),!cA a b c d e||(Bq f||(LO a b c d e f||Lp.fin gw (SZ a b c d e f)))]
end
def acq:awE
 | [.one ⟨true,[.val (.int .i64 a),.val (.int .i64 b),.val (.int .i64 c),.ref 0,.ref 1]⟩,.one ⟨false,[.ref 2]⟩],[.row false 122 (.pair (.int .i64) (.pair (.str) (.int .i64))) d,.row false 83 (.pair (.int .i64) (.int .i64)) e,.row false 28 (.sl 2 (.int .i64)) f]=>some ⟨.tup [⟨false,[.ref 3]⟩,⟨false,[awF (UV a b c d e f)]⟩],[.row false 122 ab5 d,.row false 83 aeK e,.row false 28 (CTy.sl (2:TypeId) aox) f],[.tree 28 alK (UW a b c d e f) none],[UX a b c d e f]⟩
 |_,_=>none
def alV:PF prog:=PF.ofG prog (PF.trees prog::T3z [nE,abh,qC,uc]) [gw.F] bj 27 f27 func27 (LOk.fnT (l:= [bB f27 0]) (by kernel_rfl) (.cons ads (.nil _))) acq (by
 intro _ _ _ h;unfold acq at h;split at h<;>cases h;kernel_rfl)
def akd(ll:aq6):Nat:=(ll.map v8).sum
theorem aso{i v o:Int}{bs:List TM}{st:List IN}{inp:arG}(hC:cA i v o bs st=true)(xa:bitsB i inp=true): ∀ (n:Nat) (m:MS),OkS i v o bs st m→st.length - m.1.toNat=n→
  OkS i v o bs st (ap8 bs st inp n m)∧(ap8 bs st inp n m).1=st.length
 |0,m,hm,hn=>⟨hm,by
  have:=hm.lo
  have:=hm.hi
  show m.1=_
  omega⟩
 |n + 1,m,hm,hn=>by
  have h0:=hm.lo
  have eG:m.1 < st.length:=by omega
  have hs:=(aiW hC xa hm eG).1
  have he:(akb bs st inp m).1=m.1 + 1:=rfl
  exact aso hC xa n _ hs (by rw [he];omega)
theorem aud{i v o:Int}{bs:List TM}{st:List IN}{inp:arG}{k:Int}{stk xs os:arG}{ss:List BS3}(h:Sp i v o bs st inp k stk xs os ss=true):OkS i v o bs st (fnM bs st inp k stk xs os ss)∧(fnM bs st inp k stk xs os ss).1=st.length:=by
 simp only [Sp,q9]at h
 exact aso h.1 h.2.1 _ _ (akD h.1 h.2.2) rfl
theorem avI(i v o:Int)(bs:List TM)(st:List IN)(xs:arG)(ss:List BS3)(inp:arG):(rcO i v o bs st xs ss inp).length≤20∧(rcV i v o bs st xs ss inp).length≤20∧(rcS i v o bs st xs ss inp).length≤2000:=by
 simp only [rcO,rcV,rcS]
 rcases ajW i v o bs st xs ss inp with⟨h1,h2⟩ | ⟨h1,h3,h2⟩ | ⟨h1,h3,h4,h2⟩
 ·rw [h2];simp
 ·rw [h2];simp
 ·rw [h2]
  have:=aud (amC h1).1
  have:=am6 h3 this.1
  simp only [beq_self_eq_true,cond_true,rnM]
  omega
def goL(o:Int)(bs:List TM)(st:List IN):aq6→arG→List BS3→aq6
 | [],_,_=> []
 |inp::r,xs,ss=>(rnM o bs st inp xs ss).2.2.2.1::goL o bs st r (rnM o bs st inp xs ss).2.2.1 (rnM o bs st inp xs ss).2.2.2.2
theorem ao8{i v o:Int}{bs:List TM}{st:List IN}{inp xs:arG}{ss:List BS3}(h:VT i v o bs st inp xs ss=true):
  lB v bs (rnM o bs st inp xs ss).2.2.1 (rnM o bs st inp xs ss).2.2.2.2=true∧(rnM o bs st inp xs ss).2.2.2.1.length≤20:=by
 have hr:=(amC h).1
 have hk:=(aud hr).1
 have hC:cA i v o bs st=true:=by simp only [VT,q9]at h;exact h.1
 exact⟨abr.2 ⟨hk.sl,hk.vl,hk.sp⟩,(am6 hC hk).2.2.1⟩
theorem aou{i v o:Int}{bs:List TM}{st:List IN}(hC:cA i v o bs st=true): ∀ (r:aq6) (xs:arG) (ss:List BS3),(∀ x∈r,bitsB i x=true)→lB v bs xs ss=true→
  (goL o bs st r xs ss).length=r.length∧ ∀ x∈goL o bs st r xs ss,x.length≤20
 | [],_,_,_,_=>⟨rfl,fun x hx=>(List.not_mem_nil hx).elim⟩
 |inp::r,xs,ss,hA,hs=>by
  have he:VT i v o bs st inp xs ss=true:=by simp only [VT,hC,hA inp (by simp),hs];rfl
  obtain⟨h1,h2⟩:=ao8 he
  obtain⟨g1,g2⟩:=aou hC r _ _ (fun x hx=>hA x (by simp [hx])) h1
  refine⟨by simp [goL,g1],fun x hx=> ?_⟩
  rcases List.mem_cons.1 hx with rfl | hx
  ·exact h2
  ·exact g2 x hx
theorem aoI{k:Int}{s:asv}{n:Int}(h:xK k s n=true):possB k n 0 0 0=true:=by
 obtain⟨h1,h2,h3⟩:=abX h
 have t:inR 0 0 n=true:=wW.2 (by omega)
 have t1:inR 0 0 1=true:=rfl
 rcases kinds h1 with rfl | rfl | rfl | rfl | rfl | rfl <;> simp [possB,cX,aZ,Tb,t,t1] <;> omega
def Yl(v:Int):arG:=qqw v.toNat 0
def Ks(bs:List TM):List BS3:=qqw bs.length ((0:Int),(0:Int),(0:Int))
theorem ak7{i v o:Int}{bs:List TM}{st:List IN}(hC:cA i v o bs st=true):lB v bs (Yl v) (Ks bs)=true:=by
 obtain⟨⟨ri,rv,ro,rb,rs⟩,hB,gt⟩:=NE hC
 refine abr.2 ⟨by simp [Ks],cz.2 ⟨fun z hz=> .inl (qqz hz),by rw [Yl,v5];omega⟩,fun k hk=> ?_⟩
 simp only [Sl,List.all_eq_true]at hB
 have h1:stAt (Ks bs) k=(0,0,0):=by
  simp only [stAt,Ks]
  rw [List.getElem?_replicate,if_pos hk];rfl
 have h2:ej bs k∈bs:=by
  simp only [ej,List.getElem?_eq_getElem hk];exact List.getElem_mem hk
 simp only [possAt,h1]
 exact aoI (hB _ h2)
def Xf(i v o:Int)(bs:List TM)(st:List IN)(l:aq6):Int:=bif !cA i v o bs st then 1 else bif ltI 200 (l.length:Int)then 3 else bif !l.all (bitsB i)then 2 else 0
def rsO(i v o:Int)(bs:List TM)(st:List IN)(l:aq6):aq6:=bif Xf i v o bs st l==0 then goL o bs st l (Yl v) (Ks bs)else []
def an9(bs:List TM)(l:aq6):Bool:=afu bs&&auk 9223372036854775807 l
def BG(a:Int)(b:arG):(Unit)→Nat ⊕ (Unit)
 |_=>(bif(!bitsB a b)then(.inl 0)else(.inr ()))
def sX(a:aq6)(b c d:Int)(e:aov)(f:arD)(i:Nat):(Unit)→np
 |_=>((i:Int),a,b,c,d,e,f)
def Nb:np→Unit
 |(_,_,_,_,_,_,_)=>()
theorem ai0(c:aq6)(e f g:Int)(j:aov)(k:arD) (hn:c.length≤9223372036854775807) (hA: ∀ x∈c,x.length≤9223372036854775807):
  fg.fin ((0:Int),c,e,f,g,j,k)=true∧fg.res ((0:Int),c,e,f,g,j,k)=((ci (BG e) 1 c 0 ()).1,(sX c e f g j k) (ci (BG e) 1 c 0 ()).2.1 (ci (BG e) 1 c 0 ()).2.2):=by
 have mO:=fg.along (sX c e f g j k) Nb (BG e) 1 (fun _ _=>True) c () (by trivial) (by simp only [fg,sX];omega) (fun i b a hb hI=> ?_) (fun a hI=> ?_)
 ·exact mO
 ·obtain⟨⟩:=a
  have eG:=(v6.1 hb).1
  have px: ∀ d,v9 c[i]? d=b:=fun d=>by rw [hb];rfl
  have hw:=Fc eG hn
  have jY:ltI (i:Int) (c.length:Int)=true:=cI (by omega)
  have PX:leI (0:Int) (i:Int)=true:=aS (by omega)
  have wR:ltN i c.length=true:=dE eG
  refine⟨?_,?_,?_,?_⟩
  ·have hg2:pV (i:Int) c=b:=by simp only [pV,w5];exact px _
   have h6:leN b.length 9223372036854775807=true:=aG (hA b (List.mem_of_getElem? hb))
   simp [xS,HQ,HR,HS,Ck,HT,Ah,fg,LT.nds,allT,sX,jY,PX,wR,hg2,h6]
  ·simp [pV,xS,HQ,HR,HS,Ck,HT,Ah,fg,LT.each,sX,Nb,hw]
  ·have hg2:pV (i:Int) c=b:=by simp only [pV,w5];exact px _
   simp only [xS,Ck,Ah,fg,LT.fn,sX,Nb,BG,w5,jY,hg2,cond_true]
  ·exact fun _ _=>trivial
 ·obtain⟨⟩:=a
  simp [pV,xS,HQ,HR,HS,Ck,HT,Ah,fg,LT.out,sX]
def um(a:Int)(d:aov)(e:arD)(b:arG):(aq6×arG×aqe)→Nat ⊕ (aq6×arG×aqe)
 |(c,f,g)=>(.inr ((c++([((rnM a d e b f g).2.2.2).1])),(((rnM a d e b f g).2.2).1),((rnM a d e b f g).2.2.2.2)))
def pZ(a:aq6)(b c d:Int)(f:aov)(g:arD)(i:Nat):(aq6×arG×aqe)→nq
 |(e,j,k)=>((i:Int),a,b,c,d,e,f,g,j,k)
def Nc:nq→aq6×arG×aqe
 |(_,_,_,_,_,a,_,_,b,c)=>(a,b,c)
theorem ai1(c:aq6)(e f g:Int)(k:aov)(l:arD)(j:aq6)(m:arG)(n:aqe)(hn:c.length≤9223372036854775807)(hC:cA e f g k l=true)(hA: ∀ x∈c,bitsB e x=true)(h200:c.length≤200)(hS:lB f k m n=true)(h5:j.length=0):
  gx.fin ((0:Int),c,e,f,g,j,k,l,m,n)=true∧gx.res ((0:Int),c,e,f,g,j,k,l,m,n)=((ci (um g k l) 0 c 0 (j,m,n)).1,(pZ c e f g k l) (ci (um g k l) 0 c 0 (j,m,n)).2.1 (ci (um g k l) 0 c 0 (j,m,n)).2.2):=by
 have mO:=gx.along (pZ c e f g k l) Nc (um g k l) 0 (fun i a=>lB f k a.2.1 a.2.2=true∧a.1.length=i) c (j,m,n) ⟨hS,h5⟩ (by simp only [gx,pZ];omega) (fun i b a hb hI=> ?_) (fun a hI=> ?_)
 ·exact mO
 ·obtain⟨j,m,n⟩:=a
  have eG:=(v6.1 hb).1
  have px: ∀ d,v9 c[i]? d=b:=fun d=>by rw [hb];rfl
  have hw:=Fc eG hn
  have jY:ltI (i:Int) (c.length:Int)=true:=cI (by omega)
  have PX:leI (0:Int) (i:Int)=true:=aS (by omega)
  have wR:ltN i c.length=true:=dE eG
  refine⟨?_,?_,?_,?_⟩
  ·have hg2:mf (i:Int) c=b:=by simp only [mf,w5];exact px _
   have hl:=hI.2
   have he:VT e f g k l b m n=true:=by simp only [VT,hC,hA b (List.mem_of_getElem? hb),hI.1];rfl
   have h6:leN (j.length + 1) 9223372036854775807=true:=aG (by simp only at hl;omega)
   have h7:leN ((j.length + 1) * 24) 140737488355328=true:=aG (by simp only at hl;omega)
   simp only [xT,HU,HV,HW,HX,HY,sS,Ai,gx,LT.nds,allT,pZ,jY,PX,wR,hg2,he,w7,h6,h7,w5,cond_true]
  ·simp [mf,sS,xT,HU,HV,HW,HX,HY,Ph,HZ,Ia,Ib,Ai,gx,LT.each,pZ,Nc,hw]
  ·have hg2:mf (i:Int) c=b:=by simp only [mf,w5];exact px _
   simp only [xT,HZ,Ia,Ib,sS,Ai,gx,LT.fn,pZ,Nc,um,w5,jY,hg2,cond_true]
  ·intro a' hf
   simp only [um,Sum.inr.injEq]at hf
   subst hf
   have he:VT e f g k l b m n=true:=by simp only [VT,hC,hA b (List.mem_of_getElem? hb),hI.1];rfl
   exact⟨(ao8 he).1,by have hl:=hI.2;simp only at hl;simp [hl]⟩
 ·obtain⟨j,m,n⟩:=a
  simp [mf,sS,xT,HU,HV,HW,HX,HY,Ph,HZ,Ia,Ib,Ai,gx,LT.out,pZ]
def ul(a:Int)(d:aov)(e:arD)(b:arG):(aq6×arG×aqe)→Nat ⊕ (aq6×arG×aqe)
 |(c,f,g)=>(.inr ((c++([((rnM a d e b f g).2.2.2).1])),(((rnM a d e b f g).2.2).1),((rnM a d e b f g).2.2.2.2)))
def pY(a:aq6)(b c d:Int)(f:aov)(g:arD)(i:Nat):(aq6×arG×aqe)→nj
 |(e,j,k)=>((i:Int),(↑a.length:Int),a,b,c,d,e,f,g,j,k)
def MZ:nj→aq6×arG×aqe
 |(_,_,_,_,_,_,a,_,_,b,c)=>(a,b,c)
theorem aiY(c:aq6)(e f g:Int)(k:aov)(l:arD)(j:aq6)(m:arG)(n:aqe)(hn:c.length≤9223372036854775807)(hC:cA e f g k l=true)(hA: ∀ x∈c,bitsB e x=true)(h200:c.length≤200)(hS:lB f k m n=true)(h5:j.length=0):
  gw.fin ((0:Int),(↑c.length:Int),c,e,f,g,j,k,l,m,n)=true∧gw.res ((0:Int),(↑c.length:Int),c,e,f,g,j,k,l,m,n)=((ci (ul g k l) 0 c 0 (j,m,n)).1,(pY c e f g k l) (ci (ul g k l) 0 c 0 (j,m,n)).2.1 (ci (ul g k l) 0 c 0 (j,m,n)).2.2):=by
 have mO:=gw.along (pY c e f g k l) MZ (ul g k l) 0 (fun i a=>lB f k a.2.1 a.2.2=true∧a.1.length=i) c (j,m,n) ⟨hS,h5⟩ (by simp only [gw,pY];omega) (fun i b a hb hI=> ?_) (fun a hI=> ?_)
 ·exact mO
 ·obtain⟨j,m,n⟩:=a
  have eG:=(v6.1 hb).1
  have px: ∀ d,v9 c[i]? d=b:=fun d=>by rw [hb];rfl
  have hw:=Fc eG hn
  have jY:ltI (i:Int) (c.length:Int)=true:=cI (by omega)
  have PX:leI (0:Int) (i:Int)=true:=aS (by omega)
  have wR:ltN i c.length=true:=dE eG
  refine⟨?_,?_,?_,?_⟩
  ·have hg2:md (i:Int) c=b:=by simp only [md,w5];exact px _
   have hl:=hI.2
   have he:VT e f g k l b m n=true:=by simp only [VT,hC,hA b (List.mem_of_getElem? hb),hI.1];rfl
   have h6:leN (j.length + 1) 9223372036854775807=true:=aG (by simp only at hl;omega)
   have h7:leN ((j.length + 1) * 24) 140737488355328=true:=aG (by simp only at hl;omega)
   simp only [BJ,Ho,Hq,Hr,Hs,Ht,Hu,sJ,Af,gw,LT.nds,allT,pY,jY,PX,wR,hg2,he,w7,h6,h7,w5,cond_true]
  ·simp [md,sJ,BJ,Ho,Hq,Hr,Hs,Ht,Hu,OB,Hv,Hw,Fk,Af,gw,LT.each,pY,MZ,hw]
  ·have hg2:md (i:Int) c=b:=by simp only [md,w5];exact px _
   simp only [BJ,Hv,Hw,Fk,sJ,Af,gw,LT.fn,pY,MZ,ul,w5,jY,hg2,cond_true]
  ·intro a' hf
   simp only [ul,Sum.inr.injEq]at hf
   subst hf
   have he:VT e f g k l b m n=true:=by simp only [VT,hC,hA b (List.mem_of_getElem? hb),hI.1];rfl
   exact⟨(ao8 he).1,by have hl:=hI.2;simp only at hl;simp [hl]⟩
 ·obtain⟨j,m,n⟩:=a
  simp [md,sJ,BJ,Ho,Hq,Hr,Hs,Ht,Hu,OB,Hv,Hw,Fk,Af,gw,LT.out,pY]
theorem anM{o:Int}{bs:List TM}{st:List IN}{f:arG→aq6×arG×List BS3→Nat ⊕ (aq6×arG×List BS3)}
  (hf: ∀ b a,f b a= .inr (a.1++ [(rnM o bs st b a.2.1 a.2.2).2.2.2.1],(rnM o bs st b a.2.1 a.2.2).2.2.1,(rnM o bs st b a.2.1 a.2.2).2.2.2.2)) {e:Nat}:
  ∀ (r:aq6) (i:Nat) (acc:aq6) (xs:arG) (ss:List BS3),(ci f e r i (acc,xs,ss)).2.2.1=acc++goL o bs st r xs ss
 | [],i,acc,xs,ss=>by simp [ci,goL]
 |b::r,i,acc,xs,ss=>by
  simp only [ci,hf]
  rw [anM hf r]
  simp [goL]
theorem ans(i v o:Int)(bs:List TM)(st:List IN)(l:aq6):(cA i v o bs st=false∧Xf i v o bs st l=1)∨(cA i v o bs st=true∧ltI 200 (l.length:Int)=true∧Xf i v o bs st l=3)∨
  (cA i v o bs st=true∧ltI 200 (l.length:Int)=false∧l.all (bitsB i)=false∧Xf i v o bs st l=2)∨(cA i v o bs st=true∧ltI 200 (l.length:Int)=false∧l.all (bitsB i)=true∧Xf i v o bs st l=0):=by
 simp only [Xf]
 cases cA i v o bs st <;> cases ltI 200 (l.length:Int) <;> cases l.all (bitsB i) <;> simp
theorem aeO{l:aq6}(h:ltI 200 (l.length:Int)=false):l.length≤200:=by
 rcases Nat.lt_or_ge 200 l.length with h' | h'
 ·rw [cI (by omega)]at h;cases h
 ·exact h'
theorem avN(i v o:Int)(bs:List TM)(st:List IN)(l:aq6)(h:an9 bs l=true):
  Vf i v o bs st l=Xf i v o bs st l∧Vg i v o bs st l=rsO i v o bs st l∧Vh i v o bs st l=true:=by
 simp only [an9,q9]at h
 obtain⟨hT,hl⟩:=h
 obtain⟨hn,hA⟩:=anJ.1 hl
 obtain⟨w1,w2⟩:=ai0 l i v o bs st hn hA
 rw [oE (P:=fun x=> !bitsB i x) (j:=0) (fun x=>rfl)]at w2
 have e5:(l.any fun x=> !bitsB i x)= !l.all (bitsB i):=by simp [List.all_eq_not_any_not]
 rw [e5]at w2
 have eb:(↑(v8 bs):Int).toNat=bs.length:=by omega
 simp only [Vf,Vg,Vh,kW,Tm,mH,Tn,eb,hT,rsO,w1,w2,allT]
 rcases ans i v o bs st l with⟨h1,h2⟩ | ⟨h1,h3,h2⟩ | ⟨h1,h3,h4,h2⟩ | ⟨h1,h3,h4,h2⟩
 ·rw [h1,h2];simp
 ·rw [h1,h2,h3];simp
 ·rw [h1,h2,h3,h4];simp
 ·have hA2: ∀ x∈l,bitsB i x=true:=List.all_eq_true.1 h4
  have hS:=ak7 h1
  obtain⟨⟨ri,rv,ro,rb,rs⟩,hB,gt⟩:=NE h1
  obtain⟨v1,v2⟩:=ai1 l i v o bs st [] (Yl v) (Ks bs) (by have:=aeO h3;omega) h1 hA2 (aeO h3) hS rfl
  have v3:=anM (o:=o) (bs:=bs) (st:=st) (f:=um o bs st) (e:=0) (fun b a=>rfl) l 0 [] (Yl v) (Ks bs)
  have z1:qqw (v7 v) (0:Int)=Yl v:=rfl
  have z2:qqw bs.length ((0:Int),(0:Int),(0:Int))=Ks bs:=rfl
  have u1:leI 0 v=true:=aS (by omega)
  have u2:leI v v=true:=aS (by omega)
  have u3:leI ((↑(8:Nat):Int) * v) 281474976710656=true:=aS (by omega)
  have u4:leI v 9223372036854775807=true:=aS (by omega)
  have u5:leI 0 (bs.length:Int)=true:=aS (by omega)
  have u6:leI (bs.length:Int) (bs.length:Int)=true:=aS (by omega)
  have u7:leI ((↑(24:Nat):Int) * (bs.length:Int)) 281474976710656=true:=aS (by omega)
  have u8:leI (bs.length:Int) 9223372036854775807=true:=aS (by omega)
  rw [h1,h2,h3,h4,z1,z2,v1,v2,u1,u2,u3,u4,u5,u6,u7,u8]
  simp [pZ,v3,Nat.beq]
theorem avw(i v o:Int)(bs:List TM)(st:List IN)(l:aq6)(h:an9 bs l=true):
  UV i v o bs st l=Xf i v o bs st l∧UW i v o bs st l=rsO i v o bs st l∧UX i v o bs st l=true:=by
 simp only [an9,q9]at h
 obtain⟨hT,hl⟩:=h
 obtain⟨hn,hA⟩:=anJ.1 hl
 have eb:(↑(v8 bs):Int).toNat=bs.length:=by omega
 have z1:qqw (v7 v) (0:Int)=Yl v:=rfl
 have z2:qqw bs.length ((0:Int),(0:Int),(0:Int))=Ks bs:=rfl
 simp only [UV,UW,UX,Bq,SY,LO,SZ,FS,LP,Ta,eb,z1,z2,rsO,allT]
 rcases ans i v o bs st l with⟨h1,h2⟩ | ⟨h1,h3,h2⟩ | h
 ·rw [h1,h2];simp
 ·rw [h1,h2,h3];simp
 ·have h1:cA i v o bs st=true:=by rcases h with h | h <;> exact h.1
  have h3:ltI 200 (l.length:Int)=false:=by rcases h with h | h <;> exact h.2.1
  have hS:=ak7 h1
  obtain⟨⟨ri,rv,ro,rb,rs⟩,hB,gt⟩:=NE h1
  have u1:leI 0 v=true:=aS (by omega)
  have u2:leI v v=true:=aS (by omega)
  have u3:leI ((↑(8:Nat):Int) * v) 281474976710656=true:=aS (by omega)
  have u4:leI v 9223372036854775807=true:=aS (by omega)
  have u5:leI 0 (bs.length:Int)=true:=aS (by omega)
  have u6:leI (bs.length:Int) (bs.length:Int)=true:=aS (by omega)
  have u7:leI ((↑(24:Nat):Int) * (bs.length:Int)) 281474976710656=true:=aS (by omega)
  have u8:leI (bs.length:Int) 9223372036854775807=true:=aS (by omega)
  have hz:(Yl v).length≤20:=by rw [Yl,v5];omega
  have m1:aqw bs (Yl v) l=true:=by
   simp only [aqw,aeP,aG (show (Yl v).length≤9223372036854775807 by omega),aG (show bs.length≤9223372036854775807 by omega),aG hn,Bool.true_and,List.all_eq_true,fc]
   exact hA
  have m2:ae1 i v o bs st (Yl v) (Ks bs) l=bif !l.all (bitsB i)then 2 else 0:=by
   simp only [ae1,h1,hS];cases l.all (bitsB i) <;> rfl
  rw [m1,m2,h1,h3,u1,u2,u3,u4,u5,u6,u7,u8]
  rcases h with⟨_,_,h4,h2⟩ | ⟨_,_,h4,h2⟩
  ·rw [h2,h4];simp
  ·have hA2: ∀ x∈l,bitsB i x=true:=List.all_eq_true.1 h4
   obtain⟨v1,v2⟩:=aiY l i v o bs st [] (Yl v) (Ks bs) (by have:=aeO h3;omega) h1 hA2 (aeO h3) hS rfl
   have v3:=anM (o:=o) (bs:=bs) (st:=st) (f:=ul o bs st) (e:=0) (fun b a=>rfl) l 0 [] (Yl v) (Ks bs)
   rw [h2,h4,v1,v2]
   simp [pY,v3,Nat.beq]
def acK:awE
 | [.one ⟨true,[.val (.int .i64 a),.val (.int .i64 b),.val (.int .i64 c),.ref 0,.ref 1]⟩,.one ⟨false,[.ref 2]⟩],[.row false 122 (.pair (.int .i64) (.pair (.str) (.int .i64))) d,.row false 83 (.pair (.int .i64) (.int .i64)) e,.row false 28 (.sl 2 (.int .i64)) f]=>some ⟨.tup [⟨false,[.ref 3]⟩,⟨false,[awF (Xf a b c d e f)]⟩],[.row false 122 ab5 d,.row false 83 aeK e,.row false 28 (CTy.sl (2:TypeId) aox) f],[.row true 28 alK (rsO a b c d e f)],[an9 d f]⟩
 |_,_=>none
def Vd:PF prog:=PF.alt alZ acK (by
 intro args es o h bA;unfold acK at h;split at h
 ·rename_i a b c d e f
  cases h
  have bA:=fv bA
  have hh:=avN a b c d e f bA
  obtain⟨e0,e1,en⟩:=hh
  exact kj rfl (eT en) (by simp only [e0] <;> rfl) rfl (by simp only [e1] <;> rfl)
 ·cases h)
def acH:awE
 | [.one ⟨true,[.val (.int .i64 a),.val (.int .i64 b),.val (.int .i64 c),.ref 0,.ref 1]⟩,.one ⟨false,[.ref 2]⟩],[.row false 122 (.pair (.int .i64) (.pair (.str) (.int .i64))) d,.row false 83 (.pair (.int .i64) (.int .i64)) e,.row false 28 (.sl 2 (.int .i64)) f]=>some ⟨.tup [⟨false,[.ref 3]⟩,⟨false,[awF (Xf a b c d e f)]⟩],[.row false 122 ab5 d,.row false 83 aeK e,.row false 28 (CTy.sl (2:TypeId) aox) f],[.tree 28 alK (rsO a b c d e f) none],[an9 d f]⟩
 |_,_=>none
def Vc:PF prog:=PF.alt alV acH (by
 intro args es o h bA;unfold acH at h;split at h
 ·rename_i a b c d e f
  cases h
  have bA:=fv bA
  have hh:=avw a b c d e f bA
  obtain⟨e0,e1,en⟩:=hh
  exact kj rfl (eT en) (by simp only [e0] <;> rfl) rfl (by simp only [e1] <;> rfl)
 ·cases h)
def sgO(ins vs os:List asv)(g:asv)(ls:List LN):aq6→arG→List BS3→aq6
 | [],_,_=> []
 |inp::r,xs,ss=>scO ins vs os g ls inp xs ss::sgO ins vs os g ls r (scV ins vs os ls inp xs ss) (scB ins vs os ls inp xs ss)
def sgM(ins vs os:List asv)(ls:List LN):aq6→arG→List BS3→arG×List BS3
 | [],xs,ss=>(xs,ss)
 |inp::r,xs,ss=>sgM ins vs os ls r (scV ins vs os ls inp xs ss) (scB ins vs os ls inp xs ss)
def zv(vs:List asv):arG:=qqw vs.length 0
theorem asP{nm:asv}{ins vs os:List asv}{g:asv}{ls:List LN}{xs:arG}{ss:List BS3}{inp:arG}(h:scG nm ins vs os g ls xs ss inp=true):
  lB vs.length (blL ls) (scV ins vs os ls inp xs ss) (scB ins vs os ls inp xs ss)=true∧(scO ins vs os g ls inp xs ss).length≤20:=by
 obtain⟨h1,h2,h3⟩:=aj0.1 h
 have hS:=apz h1 h3
 obtain⟨a,b⟩:=auX (os:=os) (g:=g) h3 hS.hL h2
 have:=(cz.1 b).2
 have:=hS.h3
 exact⟨a,by omega⟩
theorem aqR{nm:asv}{ins vs os:List asv}{g:asv}{ls:List LN}(hS:Ba nm ins vs os g ls=true): ∀ (r:aq6) (xs:arG) (ss:List BS3),
  (∀ x∈r,bitsB ins.length x=true)→lB vs.length (blL ls) xs ss=true→
  (sgO ins vs os g ls r xs ss).length=r.length∧(∀ x∈sgO ins vs os g ls r xs ss,x.length≤20)∧lB vs.length (blL ls) (sgM ins vs os ls r xs ss).1 (sgM ins vs os ls r xs ss).2=true
 | [],_,_,_,hs=>⟨rfl,fun x hx=>(List.not_mem_nil hx).elim,hs⟩
 |inp::r,xs,ss,hA,hs=>by
  obtain⟨h1,h2⟩:=asP (aj0.2 ⟨hS,hs,hA inp (by simp)⟩)
  obtain⟨g1,g2,g3⟩:=aqR hS r _ _ (fun x hx=>hA x (by simp [hx])) h1
  refine⟨by simp [sgO,g1],fun x hx=> ?_,g3⟩
  rcases List.mem_cons.1 hx with rfl | hx
  ·exact h2
  ·exact g2 x hx
theorem asS{nm:asv}{ins vs os:List asv}{g:asv}{ls:List LN}(hS:Ba nm ins vs os g ls=true):lB vs.length (blL ls) (zv vs) (Ks (blL ls))=true:=by
 have hB:=apV ls (ak4 hS).2.1
 refine abr.2 ⟨by simp [Ks],cz.2 ⟨fun z hz=> .inl (qqz hz),by rw [zv,v5]⟩,fun k hk=> ?_⟩
 simp only [Sl,List.all_eq_true]at hB
 have h1:stAt (Ks (blL ls)) k=(0,0,0):=by
  simp only [stAt,Ks]
  rw [List.getElem?_replicate,if_pos hk];rfl
 have h2:ej (blL ls) k∈blL ls:=by
  simp only [ej,List.getElem?_eq_getElem hk];exact List.getElem_mem hk
 simp only [possAt,h1]
 exact aoI (hB _ h2)
def rgC(nm:asv)(ins vs os:List asv)(g:asv)(ls:List LN)(l:aq6):Int:=bif !Ba nm ins vs os g ls then 1 else bif ltI 200 (l.length:Int)then 3 else bif !l.all (fun x=>bitsB ins.length x)then 2 else 0
def rgO(nm:asv)(ins vs os:List asv)(g:asv)(ls:List LN)(l:aq6):aq6:=bif rgC nm ins vs os g ls l==0 then sgO ins vs os g ls l (zv vs) (Ks (blL ls))else []
def rgV(nm:asv)(ins vs os:List asv)(g:asv)(ls:List LN)(l:aq6):arG:=bif rgC nm ins vs os g ls l==0 then(sgM ins vs os ls l (zv vs) (Ks (blL ls))).1 else []
def rgB(nm:asv)(ins vs os:List asv)(g:asv)(ls:List LN)(l:aq6):List BS3:=bif rgC nm ins vs os g ls l==0 then(sgM ins vs os ls l (zv vs) (Ks (blL ls))).2 else []
def rgN(nm:asv)(ins vs os:List asv)(g:asv)(ls:List LN)(l:aq6):Bool:=apx nm ins vs os g ls&&auk 9223372036854775807 l
theorem aqL(nm:asv)(ins vs os:List asv)(g:asv)(ls:List LN)(l:aq6):
  (Ba nm ins vs os g ls=false∧rgC nm ins vs os g ls l=1)∨(Ba nm ins vs os g ls=true∧ltI 200 (l.length:Int)=true∧rgC nm ins vs os g ls l=3)∨
  (Ba nm ins vs os g ls=true∧ltI 200 (l.length:Int)=false∧l.all (fun x=>bitsB ins.length x)=false∧rgC nm ins vs os g ls l=2)∨
  (Ba nm ins vs os g ls=true∧ltI 200 (l.length:Int)=false∧l.all (fun x=>bitsB ins.length x)=true∧rgC nm ins vs os g ls l=0):=by
 simp only [rgC]
 cases Ba nm ins vs os g ls <;> cases ltI 200 (l.length:Int) <;> cases l.all (fun x=>bitsB ins.length x) <;> simp
def FP(a:List asv)(b:arG):(Unit)→Nat ⊕ (Unit)
 |_=>(bif(!bitsB (↑a.length:Int) b)then(.inl 0)else(.inr ()))
def ws(a:aq6)(b c:asv)(d e f:List asv)(g:ag4)(j:arG)(k:aqe)(i:Nat):(Unit)→pJ
 |_=>((i:Int),a,b,c,d,e,f,g,j,k)
def QQ:pJ→Unit
 |(_,_,_,_,_,_,_,_,_,_)=>()
theorem ala(c:aq6)(e f:asv)(g j k:List asv)(l:ag4)(m:arG)(n:aqe) (hn:c.length≤9223372036854775807) (hA: ∀ x∈c,x.length≤9223372036854775807):
  ik.fin ((0:Int),c,e,f,g,j,k,l,m,n)=true∧ik.res ((0:Int),c,e,f,g,j,k,l,m,n)=((ci (FP g) 1 c 0 ()).1,(ws c e f g j k l m n) (ci (FP g) 1 c 0 ()).2.1 (ci (FP g) 1 c 0 ()).2.2):=by
 have mO:=ik.along (ws c e f g j k l m n) QQ (FP g) 1 (fun _ _=>True) c () (by trivial) (by simp only [ik,ws];omega) (fun i b a hb hI=> ?_) (fun a hI=> ?_)
 ·exact mO
 ·obtain⟨⟩:=a
  have eG:=(v6.1 hb).1
  have px: ∀ d,v9 c[i]? d=b:=fun d=>by rw [hb];rfl
  have hw:=Fc eG hn
  have jY:ltI (i:Int) (c.length:Int)=true:=cI (by omega)
  have PX:leI (0:Int) (i:Int)=true:=aS (by omega)
  have wR:ltN i c.length=true:=dE eG
  refine⟨?_,?_,?_,?_⟩
  ·have hg2:tu (i:Int) c=b:=by simp only [tu,w5];exact px _
   have h6:leN b.length 9223372036854775807=true:=aG (hA b (List.mem_of_getElem? hb))
   simp only [BA,Gw,Gx,Gy,Gz,GA,DX,ik,LT.nds,allT,ws,w5,jY,PX,wR,hg2,h6,cond_true,Bool.and_self]
   cases !bitsB (g.length:Int) b <;> rfl
  ·simp [tu,BA,Gw,Gx,Gy,Gz,GA,DX,ik,LT.each,ws,QQ,hw]
  ·have hg2:tu (i:Int) c=b:=by simp only [tu,w5];exact px _
   simp only [BA,Gw,Gx,Gy,Gz,GA,DX,ik,LT.fn,ws,QQ,FP,w5,jY,hg2,cond_true]
  ·exact fun _ _=>trivial
 ·obtain⟨⟩:=a
  simp [tu,BA,Gw,Gx,Gy,Gz,GA,DX,ik,LT.out,ws]
def xN(a:asv)(d e f:List asv)(g:ag4)(b:arG):(aq6×arG×aqe)→Nat ⊕ (aq6×arG×aqe)
 |(c,i,j)=>(.inr ((c++([scO d e f a g b i j])),scV d e f g b i j,(scB d e f g b i j)))
def tv(a:aq6)(b c:asv)(e f g:List asv)(j:ag4)(i:Nat):(aq6×arG×aqe)→pK
 |(d,k,l)=>((i:Int),a,b,c,d,e,f,g,j,k,l)
def QR:pK→aq6×arG×aqe
 |(_,_,_,_,a,_,_,_,_,b,c)=>(a,b,c)
theorem alb(c:aq6)(e f:asv)(j k l:List asv)(m:ag4)(g:aq6)(n:arG)(o:aqe)(hn:c.length≤9223372036854775807)(hC:Ba e j k l f m=true)(hA: ∀ x∈c,bitsB j.length x=true)(h200:c.length≤200)(hS:lB k.length (blL m) n o=true)(h4:g.length=0):
  jw.fin ((0:Int),c,e,f,g,j,k,l,m,n,o)=true∧jw.res ((0:Int),c,e,f,g,j,k,l,m,n,o)=((ci (xN f j k l m) 0 c 0 (g,n,o)).1,(tv c e f j k l m) (ci (xN f j k l m) 0 c 0 (g,n,o)).2.1 (ci (xN f j k l m) 0 c 0 (g,n,o)).2.2):=by
 have mO:=jw.along (tv c e f j k l m) QR (xN f j k l m) 0 (fun i a=>lB k.length (blL m) a.2.1 a.2.2=true∧a.1.length=i) c (g,n,o) ⟨hS,h4⟩ (by simp only [jw,tv];omega) (fun i b a hb hI=> ?_) (fun a hI=> ?_)
 ·exact mO
 ·obtain⟨g,n,o⟩:=a
  have eG:=(v6.1 hb).1
  have px: ∀ d,v9 c[i]? d=b:=fun d=>by rw [hb];rfl
  have hw:=Fc eG hn
  have jY:ltI (i:Int) (c.length:Int)=true:=cI (by omega)
  have PX:leI (0:Int) (i:Int)=true:=aS (by omega)
  have wR:ltN i c.length=true:=dE eG
  refine⟨?_,?_,?_,?_⟩
  ·have hg2:oJ (i:Int) c=b:=by simp only [oJ,w5];exact px _
   have hl:=hI.2
   have he:scG e j k l f m n o b=true:=aj0.2 ⟨hC,hI.1,hA b (List.mem_of_getElem? hb)⟩
   have h6:leN (g.length + 1) 9223372036854775807=true:=aG (by simp only at hl;omega)
   have h7:leN ((g.length + 1) * 24) 140737488355328=true:=aG (by simp only at hl;omega)
   simp only [BB,GC,GD,GE,GF,GG,GH,GI,GJ,GK,DY,jw,wl,LT.nds,allT,tv,jY,PX,wR,hg2,he,w7,h6,h7,w5,cond_true]
  ·simp [oJ,wl,BB,GC,GD,GE,GF,GG,GH,GI,GJ,GK,DY,jw,LT.each,tv,QR,hw]
  ·have hg2:oJ (i:Int) c=b:=by simp only [oJ,w5];exact px _
   simp only [BB,GC,GD,GE,GF,GG,GH,GI,GJ,GK,DY,jw,wl,LT.fn,tv,QR,xN,w5,jY,hg2,cond_true]
  ·intro a' hf
   simp only [xN,Sum.inr.injEq]at hf
   subst hf
   have he:scG e j k l f m n o b=true:=aj0.2 ⟨hC,hI.1,hA b (List.mem_of_getElem? hb)⟩
   exact⟨(asP he).1,by have hl:=hI.2;simp only at hl;simp [hl]⟩
 ·obtain⟨g,n,o⟩:=a
  simp [oJ,wl,BB,GC,GD,GE,GF,GG,GH,GI,GJ,GK,DY,jw,LT.out,tv]
theorem asU{ins vs os:List asv}{g:asv}{ls:List LN}{f:arG→aq6×arG×List BS3→Nat ⊕ (aq6×arG×List BS3)}
  (hf: ∀ b a,f b a= .inr (a.1++ [scO ins vs os g ls b a.2.1 a.2.2],scV ins vs os ls b a.2.1 a.2.2,scB ins vs os ls b a.2.1 a.2.2)) {e:Nat}:
  ∀ (r:aq6) (i:Nat) (acc:aq6) (xs:arG) (ss:List BS3),ci f e r i (acc,xs,ss)=(e,i + r.length,acc++sgO ins vs os g ls r xs ss,sgM ins vs os ls r xs ss)
 | [],i,acc,xs,ss=>by simp [ci,sgO,sgM]
 |b::r,i,acc,xs,ss=>by
  simp only [ci,hf]
  rw [asU hf r]
  simp only [sgO,sgM,List.append_assoc,List.singleton_append,j8]
  congr 2
  omega
theorem zvs(vs:List asv):qqw (v7 (vs.length:Int)) (0:Int)=zv vs:=by rw [w5];rfl
theorem zbs(ls:List LN):qqw (v7 ((blL ls).length:Int)) ((0:Int),(0:Int),(0:Int))=Ks (blL ls):=by rw [w5];rfl
theorem avM(nm:asv)(ins vs os:List asv)(g:asv)(ls:List LN)(l:aq6)(h:rgN nm ins vs os g ls l=true):
  TU nm g ins vs os ls l=rgC nm ins vs os g ls l∧aap nm g ins vs os ls l=rgO nm ins vs os g ls l∧TV nm g ins vs os ls l=rgV nm ins vs os g ls l∧
  TW nm g ins vs os ls l=rgB nm ins vs os g ls l∧TX nm g ins vs os ls l=true:=by
 simp only [rgN,q9]at h
 obtain⟨hT,hl⟩:=h
 obtain⟨hn,hA⟩:=anJ.1 hl
 obtain⟨w1,w2⟩:=ala l nm g ins vs os ls [] [] hn hA
 rw [oE (P:=fun x=> !bitsB ins.length x) (j:=0) (fun x=>rfl)]at w2
 have e5:(l.any fun x=> !bitsB ins.length x)= !l.all (fun x=>bitsB ins.length x):=by simp [List.all_eq_not_any_not]
 rw [e5]at w2
 have e1:XS nm g ins vs os ls l=((0:Int),l,nm,g,ins,vs,os,ls,[],[]):=rfl
 have e2:zt nm g ins vs os ls l= !l.all (fun x=>bitsB ins.length x):=by
  simp only [zt,e1,w2]
  cases l.all (fun x=>bitsB ins.length x) <;> rfl
 have e3:Ru nm g ins vs os ls l=((0:Int),l,nm,g,[],ins,vs,os,ls,zv vs,Ks (blL ls)):=by simp only [Ru,Vo,Vp,zvs,zbs]
 simp only [TU,aap,TV,TW,TX,zs,XT,XU,e1,e2,e3,w1,hT,rgO,rgV,rgB,allT]
 rcases aqL nm ins vs os g ls l with⟨h1,h2⟩ | ⟨h1,h3,h2⟩ | ⟨h1,h3,h4,h2⟩ | ⟨h1,h3,h4,h2⟩
 ·rw [h1,h2];simp
 ·rw [h1,h2,h3];simp
 ·rw [h1,h2,h3,h4];simp
 ·have hA2: ∀ x∈l,bitsB ins.length x=true:=List.all_eq_true.1 h4
  have hS:=asS h1
  obtain⟨v1,v2⟩:=alb l nm g ins vs os ls [] (zv vs) (Ks (blL ls)) (by have:=aeO h3;omega) h1 hA2 (aeO h3) hS rfl
  rw [asU (ins:=ins) (vs:=vs) (os:=os) (g:=g) (ls:=ls) (f:=xN g ins vs os ls) (fun b a=>rfl)]at v2
  have hX:=apz (inp:=qqw ins.length 0) h1 (cz.2 ⟨fun z hz=> .inl (qqz hz),by simp⟩)
  have hb:=hX.bl
  have hv:=hX.h2
  have u1:leI 0 (vs.length:Int)=true:=aS (by omega)
  have u2:leI (vs.length:Int) (vs.length:Int)=true:=aS (by omega)
  have u3:leI ((↑(8:Nat):Int) * (vs.length:Int)) 281474976710656=true:=aS (by omega)
  have u4:leI (vs.length:Int) 9223372036854775807=true:=aS (by omega)
  have u5:leI 0 ((blL ls).length:Int)=true:=aS (by omega)
  have u6:leI ((blL ls).length:Int) ((blL ls).length:Int)=true:=aS (by omega)
  have u7:leI ((↑(24:Nat):Int) * ((blL ls).length:Int)) 281474976710656=true:=aS (by omega)
  have u8:leI ((blL ls).length:Int) 9223372036854775807=true:=aS (by omega)
  have hLn:=(afk.1 hT).2.2.2.2.2.2
  have f2:Om vs ls=true:=by simp only [Om,u1,u2,u3,u4,u5,u6,u7,u8,hLn,allT,cond_true]
  rw [h1,h2,h3,h4,v1,v2,f2]
  simp [tv]
theorem atn(nm:asv)(ins vs os:List asv)(g:asv)(ls:List LN)(l:aq6)(h:rgN nm ins vs os g ls l=true):Xn nm g ins vs os ls l=rgC nm ins vs os g ls l∧Xo nm g ins vs os ls l=rgV nm ins vs os g ls l∧Xp nm g ins vs os ls l=rgB nm ins vs os g ls l∧Pg nm g ins vs os ls l=true:=by
 obtain⟨s0,s1,s2,s3,s4⟩:=avM nm ins vs os g ls l h
 exact⟨s0,s2,s3,by simp only [Pg,s4,allT,cond_true]⟩
def Ww:awE
 | [.one ⟨true,[.val (.string a),.ref 0,.ref 1,.ref 2,.val (.string b),.ref 3]⟩,.one ⟨false,[.ref 4]⟩],[.row false 9 (.str) c,.row false 9 (.str) d,.row false 9 (.str) e,.row false 142 (.pair (.str) (.sl 122 (.pair (.int .i64) (.pair (.str) (.int .i64))))) f,.row false 28 (.sl 2 (.int .i64)) g]=>some ⟨.tup [⟨true,[.ref 5,.ref 6]⟩,⟨false,[awF (rgC a c d e b f g)]⟩],[.row false 9 arE c,.row false 9 arE d,.row false 9 arE e,.row false 142 (CTy.pair CTy.str (CTy.sl (122:TypeId) ab5)) f,.row false 28 (CTy.sl (2:TypeId) aox) g],[.row true 2 aox (rgV a c d e b f g),.row true 109 abx (rgB a c d e b f g)],[rgN a c d e b f g]⟩
 |_,_=>none
def xQ:PF prog:=PF.alt aii Ww (by
 intro args es o h bA;unfold Ww at h;split at h
 ·rename_i a b c d e f g
  cases h
  have bA:=fv bA
  have hh:=atn a c d e b f g bA
  obtain⟨e0,e1,e2,en⟩:=hh
  exact kj rfl (eT en) (by simp only [e0] <;> rfl) rfl (by simp only [e1,e2] <;> rfl)
 ·cases h)
abbrev tf:=Int×List Int×Int×Int
section
variable (a:Int)(b:arG)
def Kk:Bool:=bif ltI a (↑b.length:Int)then ltI a 64 else false
def YU:Bool:=leI 0 a
def YV:Bool:=ltI a (↑b.length:Int)
def YW:Bool:=ltN a.toNat b.length
end
def YX:Bool:=neI 2147483647 0
def YY(a:Int):Int:=qqq .i64 (a + (1:Int))
def YZ(a:Int)(b:arG)(c:Int):Int:=Int.tmod (qqq .i64 (qqq .i64 (c * (59:Int)) + qqq .i64 (v9 b[v7 a]? 0))) 2147483647
def aht:tf→List (Nat×SV)
 |(a,_,_,_)=> [(4,(.one ⟨false,[awF a]⟩)),(0,(.one ⟨false,[.ref 0]⟩)),(3,(.one ⟨false,[.ptr 1 0]⟩))]
def ahk:tf→List (Nat×Entry)
 |(_,a,b,c)=> [(0,(.row false 5 apN a)),(1,(.box 113 [.ref 0,awF b,awF c]))]
def ahL:Nat→tf→List (Nat×SV)
 |_,(_,_,_,_)=> []
def BX:tf→LT tf
 |(a,b,c,d)=> .ite (Kk a b) (.need [YU a,YV a b,YW a b,YX] (.nrm ((YY a),b,c,(YZ a b d)) [(0,0),(1,1)])) (.ext 0 [(0,0),(1,1)])
def OT(s:St):Option tf:=do
 let some ⟨none,.one ⟨false,[.val (.int .i64 a)]⟩⟩:=s.look 4|none
 let some ⟨none,.one ⟨false,[.ref 0]⟩⟩:=s.look 0|none
 let some ⟨none,.one ⟨false,[.ptr 320 0]⟩⟩:=s.look 3|none
 let some (.row false 5 (.int IntKind.u8) b):=s.ent 0|none
 let some (.box 113 [.ref 0,.val (.int .i64 c),.val (.int .i64 d)]):=s.ent 320|none
 some (a,b,c,d)
def pk:Lp tf where
 h:=⟨[8,9,10,11,12,13,14,15,18,19,20,21,22,23,24,25,26,27,28,29,30,31,32,16,17,4],[0,1],[],[]⟩
 JL:=aht
 JE:=ahk
 XL:=ahL
 XE:=fun _=>ahk
 q:=fun j=>match j with | _=> .exit 0
 tags:= [0]
 lt:=BX
 fuel:=fun(a,b,c,d)=>a.natAbs + b.length + c.natAbs + d.natAbs
 fix:=fun(_,b,c,_) (a,_,_,d)=>(a,b,c,d)
 σ:= [(0,0),(1,320)]
 rd:=OT
theorem aeR:LoopOk prog (fun k=>Nat.blt k Tryz.f42.ntmps) pk.F (bB f42 0):=by
 refine Lp.ok (tbl:= []) (lf:= []) bj pk (by kernel_rfl) (LOk.nil _) (fun _=>rfl) (fun _ _=>rfl) ?_ ?_ ?_ ?_ (fun _=>rfl) ?_
 ·rintro⟨a,b,c,d⟩;kernel_rfl
 ·rintro⟨a,b,c,d⟩;kernel_rfl
 ·intro s x h
  have h:OT s=some x:=h
  unfold OT at h
  repeat' split at h
  all_goals cases h
  constructor<;>repeat(first|refine ab (by assumption) rfl ?_|refine aa rfl (by assumption) rfl ?_|exact rfl)
 ·rintro⟨a,b,c,d⟩;kernel_rfl
 ·rintro⟨a,b,c,d⟩ z;exact(And.intro rfl trivial)
section
variable (a:arG)
def IK:Int×arG×Int×Int:=((0:Int),a,(0:Int),(52021:Int))
def LE:Int:=(Lp.res pk (IK a)).2.2.2.2
def Rc:Bool:=allT [Lp.fin pk (IK a)]
end
def adL:awE
 | [.one ⟨false,[.ref 0]⟩],[.row false 5 (.int .u8) a]=>some ⟨.one ⟨false,[.ptr 1 0]⟩,[.row false 5 apN a],[.box 113 [.ref 0,awF 0,awF (LE a)]],[Rc a]⟩
 |_,_=>none
def ang:PF prog:=PF.ofG prog [] [pk.F] bj 42 f42 func42 (LOk.fnT (l:= [bB f42 0]) (by kernel_rfl) (.cons aeR (.nil _))) adL (by
 intro _ _ _ h;unfold adL at h;split at h<;>cases h;kernel_rfl)
section
variable (a b c:Int)(d:arG)
def DC:Int:=qqq .i64 (b + (1:Int))
def IL:Bool:=bif leI a 256 then Int.tmod (DC b) 2==0 else false
def DD:Int:=qqq .i64 (DC b - (1:Int))
def wK:Int:=Int.tmod (qqq .i64 (qqq .i64 (c * (48271:Int)) + (29:Int))) 2147483647
def lz:Int:=bif leI a 1 then(0:Int)else Int.tmod (bif ltI b (↑d.length:Int)then bif IL a b then qqq .i64 (v9 d[v7 (DD b)]? 0)else qqq .i64 (qqq .i64 (Int.tdiv (wK c) 31) + qqq .i64 (v9 d[v7 b]? 0))else qqq .i64 (Int.tdiv (wK c) 31)) a
def Cl:Int:=bif leI a 1 then b else bif ltI b (↑d.length:Int)then DC b else b
def Cm:Int:=bif leI a 1 then c else bif ltI b (↑d.length:Int)then wK c else wK c
def Cn:Bool:=allT [leI a 1||neI 2147483647 0,leI a 1||neI 31 0,leI a 1||(!ltI b (↑d.length:Int)||leI 0 b),leI a 1||(!ltI b (↑d.length:Int)||ltI b (↑d.length:Int)),leI a 1||(!ltI b (↑d.length:Int)||ltN b.toNat d.length),leI a 1||(!ltI b (↑d.length:Int)||(!(leI a 256&&true)||neI 2 0)),leI a 1||(!ltI b (↑d.length:Int)||(!IL a b||leI 0 (DD b))),leI a 1||(!ltI b (↑d.length:Int)||(!IL a b||ltI (DD b) (↑d.length:Int))),leI a 1||(!ltI b (↑d.length:Int)||(!IL a b||ltN (v7 (DD b)) d.length)),leI a 1||neI a 0]
end
def adM:awE
 | [.one ⟨false,[.ptr 0 0]⟩,.one ⟨false,[.val (.int .i64 a)]⟩],[.box 113 [.ref 1,.val (.int .i64 b),.val (.int .i64 c)],.row false 5 (.int .u8) d]=>some ⟨.one ⟨false,[awF (lz a b c d)]⟩,[.box 113 [.ref 1,awF (Cl a b d),awF (Cm a b c d)],.row false 5 apN d],[],[Cn a b d]⟩
 |_,_=>none
def QN:PF prog:=PF.ofG prog [] [] bj 78 f78 func78 (fun c _=>LOk.nil c) adM (by
 intro _ _ _ h;unfold adM at h;split at h<;>cases h;kernel_rfl)
section
variable (a b:Int)(c d:arG)
def Rd:Int:=v9 c[v7 (lz (↑c.length:Int) a b d)]? 0
def Xv:Int:=Cl (↑c.length:Int) a d
def Xw:Int:=Cm (↑c.length:Int) a b d
def Re:Bool:=allT [Cn (↑c.length:Int) a d,leI 0 (lz (↑c.length:Int) a b d),ltI (lz (↑c.length:Int) a b d) (↑c.length:Int),ltN (v7 (lz (↑c.length:Int) a b d)) c.length]
end
def adN:awE
 | [.one ⟨false,[.ptr 0 0]⟩,.one ⟨false,[.ref 1]⟩],[.box 113 [.ref 2,.val (.int .i64 a),.val (.int .i64 b)],.row false 2 (.int .i64) c,.row false 5 (.int .u8) d]=>some ⟨.one ⟨false,[awF (Rd a b c d)]⟩,[.box 113 [.ref 2,awF (Xv a c d),awF (Xw a b c d)],.row false 2 aox c,.row false 5 apN d],[],[Re a b c d]⟩
 |_,_=>none
def anh:PF prog:=PF.ofG prog (T3z [QN]) [] bj 83 f83 func83 (fun c _=>LOk.nil c) adN (by
 intro _ _ _ h;unfold adN at h;split at h<;>cases h;kernel_rfl)
def aJ(a s:Int)(c:arG):Bool:=(leI 0 a&&leI a 4096)&&((leI 0 s&&ltI s 2147483647)&&(leN c.length 4096&&c.all fun x=>inR x 0 255))
theorem afS{a s:Int}{c:arG}:aJ a s c=true↔(0≤a∧a≤4096)∧(0≤s∧s < 2147483647)∧c.length≤4096∧ ∀ x∈c,0≤x∧x≤255:=by
 simp only [aJ,q9,CZ,Kf,fc,List.all_eq_true,wW]
theorem abt{x n:Int}(h:0≤x)(hn:0 < n):0≤Int.tmod x n∧Int.tmod x n < n:=by
 rw [Int.tmod_eq_emod_of_nonneg h]
 exact⟨Int.emod_nonneg _ (by omega),Int.emod_lt_of_pos _ hn⟩
theorem atB{code:arG}(hb: ∀ x∈code,0≤x∧x≤255)(i:Nat):0≤(code[i]?.getD 0)∧(code[i]?.getD 0)≤255:=by
 cases h:code[i]? with
 |none=>simp
 |some x=>exact hb x (List.mem_of_getElem? h)
def nxV(n a s:Int)(c:arG):Int:=lz n a s c
def nxA(n a:Int)(c:arG):Int:=Cl n a c
def nxS(n a s:Int)(c:arG):Int:=Cm n a s c
theorem ajO(n:Int){a s:Int}{code:arG}(h:aJ a s code=true):
  Cn n a code=true∧aJ (nxA n a code) (nxS n a s code) code=true∧0≤nxV n a s code∧(1≤n→nxV n a s code < n):=by
 obtain⟨⟨h0,h1⟩,⟨s0,s1⟩,hn,hb⟩:=afS.1 h
 have hw1:IntKind.i64.wrap (s * 48271)=s * 48271:=aR (by omega) (by omega)
 have hw2:IntKind.i64.wrap (s * 48271 + 29)=s * 48271 + 29:=aR (by omega) (by omega)
 have hw3:IntKind.i64.wrap (a + 1)=a + 1:=aR (by omega) (by omega)
 have hw4:IntKind.i64.wrap (a + 1 - 1)=a:=by rw [aR (by omega) (by omega)];omega
 obtain⟨t0,t1⟩:=abt (x:=s * 48271 + 29) (n:=2147483647) (by omega) (by omega)
 have hd0:0≤Int.tdiv (Int.tmod (s * 48271 + 29) 2147483647) 31:=Int.tdiv_nonneg t0 (by omega)
 have hd1:Int.tdiv (Int.tmod (s * 48271 + 29) 2147483647) 31≤2147483647:=by
  rw [Int.tdiv_eq_ediv_of_nonneg t0];omega
 have hw7:IntKind.i64.wrap (Int.tdiv (Int.tmod (s * 48271 + 29) 2147483647) 31)=Int.tdiv (Int.tmod (s * 48271 + 29) 2147483647) 31:=aR (by omega) (by omega)
 have q1:neI 2147483647 0=true:=by decide
 have q2:neI 31 0=true:=by decide
 have q3:neI 2 0=true:=by decide
 simp only [nxA,nxS,nxV]
 by_cases hq:n≤1
 ·have d:leI n 1=true:=aS hq
  refine⟨by simp [Cn,allT,d],?_,by simp [lz,d],fun h=>by simp [lz,d];omega⟩
  simp only [Cl,Cm,d,cond_true]
  exact h
 ·have d:leI n 1=false:=acQ (by omega)
  have q4:neI n 0=true:=awa (by omega)
  by_cases hl:a < (code.length:Int)
  ·have dl:ltI a (code.length:Int)=true:=cI hl
   obtain⟨c0,c1⟩:=atB hb a.toNat
   have hw5:IntKind.i64.wrap (code[a.toNat]?.getD 0)=code[a.toNat]?.getD 0:=aR (by omega) (by omega)
   have hw6:IntKind.i64.wrap (Int.tdiv (Int.tmod (s * 48271 + 29) 2147483647) 31 + code[a.toNat]?.getD 0)=Int.tdiv (Int.tmod (s * 48271 + 29) 2147483647) 31 + code[a.toNat]?.getD 0:=aR (by omega) (by omega)
   have dn:ltN a.toNat code.length=true:=dE (by omega)
   have dz:leI 0 a=true:=aS h0
   have hwa:IntKind.i64.wrap a=a:=aR (by omega) (by omega)
   refine⟨?_,?_,?_⟩
   ·simp [Cn,DC,DD,allT,d,dl,dn,hw3,hw4,hwa,dz,q1,q2,q3,q4]
   ·simp only [Cl,Cm,DC,wK,d,dl,cond_true,cond_false,hw1,hw2,hw3]
    exact afS.2 ⟨⟨by omega,by omega⟩,⟨t0,t1⟩,hn,hb⟩
   ·simp only [lz,IL,DD,DC,wK,d,dl,cond_true,cond_false,hw1,hw2,hw3,hw4,hw5,hw7,hw6]
    cases (bif leI n 256 then Int.tmod (a + 1) 2==0 else false)with
    |true=>
     obtain⟨m0,m1⟩:=abt (x:=code[a.toNat]?.getD 0) (n:=n) c0 (by omega)
     exact⟨m0,fun _=>m1⟩
    |false=>
     obtain⟨m0,m1⟩:=abt (x:=Int.tdiv (Int.tmod (s * 48271 + 29) 2147483647) 31 + code[a.toNat]?.getD 0) (n:=n) (by omega) (by omega)
     exact⟨m0,fun _=>m1⟩
  ·have dl:ltI a (code.length:Int)=false:=yV (by omega)
   refine⟨?_,?_,?_⟩
   ·simp [Cn,allT,d,dl,q1,q2,q4]
   ·simp only [Cl,Cm,wK,d,dl,cond_false,hw1,hw2]
    exact afS.2 ⟨⟨h0,h1⟩,⟨t0,t1⟩,hn,hb⟩
   ·simp only [lz,wK,d,dl,cond_false,hw1,hw2,hw7]
    obtain⟨m0,m1⟩:=abt (x:=Int.tdiv (Int.tmod (s * 48271 + 29) 2147483647) 31) (n:=n) hd0 (by omega)
    exact⟨m0,fun _=>m1⟩
theorem alS(a b c:Int)(d:arG)(h:aJ b c d=true):lz a b c d=nxV a b c d∧Cl a b d=nxA a b d∧Cm a b c d=nxS a b c d∧Cn a b d=true:=⟨rfl,rfl,rfl,(ajO a h).1⟩
def aei:awE
 | [.one ⟨false,[.ptr 0 0]⟩,.one ⟨false,[.val (.int .i64 a)]⟩],[.box 113 [.ref 1,.val (.int .i64 b),.val (.int .i64 c)],.row false 5 (.int .u8) d]=>some ⟨.one ⟨false,[awF (nxV a b c d)]⟩,[.box 113 [.ref 1,awF (nxA a b d),awF (nxS a b c d)],.row false 5 apN d],[],[aJ b c d]⟩
 |_,_=>none
def am:PF prog:=PF.alt QN aei (by
 intro args es o h bA;unfold aei at h;split at h
 ·rename_i a b c d
  cases h
  have bA:=fv bA
  have hh:=alS a b c d bA
  obtain⟨e0,e1,e2,en⟩:=hh
  exact kj rfl (eT en) (by simp only [e0] <;> rfl) (by simp only [e1,e2] <;> rfl) rfl
 ·cases h)
def pkV(a s:Int)(l c:arG):Int:=Rd a s l c
def pkA(a:Int)(l c:arG):Int:=Xv a l c
def pkS(a s:Int)(l c:arG):Int:=Xw a s l c
theorem apw{a s:Int}{l code:arG}(h:(aJ a s code&&leN 1 l.length)=true):
  Re a s l code=true∧aJ (pkA a l code) (pkS a s l code) code=true∧pkV a s l code∈l:=by
 simp only [q9,fc]at h
 obtain⟨n3,n1,n0,nl⟩:=ajO (l.length:Int) h.1
 have nl:=nl (by omega)
 simp only [nxV]at n0 nl
 refine⟨?_,n1,?_⟩
 ·have t1:leI 0 (lz (l.length:Int) a s code)=true:=aS n0
  have t2:ltI (lz (l.length:Int) a s code) (l.length:Int)=true:=cI nl
  have t3:ltN (lz (l.length:Int) a s code).toNat l.length=true:=dE (by omega)
  simp only [Re,allT,n3,t1,t2,t3,cond_true]
 ·have eG:(lz (l.length:Int) a s code).toNat < l.length:=by omega
  simp only [pkV,Rd,List.getElem?_eq_getElem eG,Option.getD_some]
  exact List.getElem_mem eG
theorem alT(a b:Int)(c d:arG)(h:(aJ a b d&&leN 1 c.length)=true):Rd a b c d=pkV a b c d∧Xv a c d=pkA a c d∧Xw a b c d=pkS a b c d∧Re a b c d=true:=⟨rfl,rfl,rfl,(apw h).1⟩
def aej:awE
 | [.one ⟨false,[.ptr 0 0]⟩,.one ⟨false,[.ref 1]⟩],[.box 113 [.ref 2,.val (.int .i64 a),.val (.int .i64 b)],.row false 2 (.int .i64) c,.row false 5 (.int .u8) d]=>some ⟨.one ⟨false,[awF (pkV a b c d)]⟩,[.box 113 [.ref 2,awF (pkA a c d),awF (pkS a b c d)],.row false 2 aox c,.row false 5 apN d],[],[aJ a b d&&leN 1 c.length]⟩
 |_,_=>none
def aX:PF prog:=PF.alt anh aej (by
 intro args es o h bA;unfold aej at h;split at h
 ·rename_i a b c d
  cases h
  have bA:=fv bA
  have hh:=alT a b c d bA
  obtain⟨e0,e1,e2,en⟩:=hh
  exact kj rfl (eT en) (by simp only [e0] <;> rfl) (by simp only [e1,e2] <;> rfl) rfl
 ·cases h)
def as7(b:Int)(a:Nat×Int):Nat ⊕ (Nat×Int):=bif decide (a.1 < 64)then .inr (a.1 + 1,Int.tmod (a.2 * 59 + b) 2147483647)else .inl 0
def frS(c:arG):Int:=LE c
theorem afE(code:arG)(h:aJ 0 0 code=true):Rc code=true∧aJ 0 (frS code) code=true:=by
 obtain⟨_,_,hn,hb⟩:=afS.1 h
 have mO:=afO (lt:=BX) (fun i (a:Nat×Int)=>((i:Int),code,(0:Int),a.2)) as7 0 (fun i a=>a.1=i∧0≤a.2∧a.2 < 2147483647) code (fun i b a he hI=>⟨?_,fun a' hf=> ?_⟩) (fun a hI=> ?_) code 0 (0,52021) rfl (by simp) (by decide)
 ·have hres:=pk.run mO (aeN (by simp only [pk];omega))
  have r1:pk.fin ((0:Int),code,(0:Int),(52021:Int))=true:=hres.1
  have r2:pk.res ((0:Int),code,(0:Int),(52021:Int))=_:=hres.2
  have inv: ∀ (r:arG) (i:Nat) (a:Nat×Int),(∀ x∈r,0≤x∧x≤255)→0≤a.2∧a.2 < 2147483647→0≤(ci as7 0 r i a).2.2.2∧(ci as7 0 r i a).2.2.2 < 2147483647:=by
   intro r
   induction r with
   |nil=>intro i a _ h;exact h
   |cons b r ih=>
    intro i a hx h
    simp only [ci,as7]
    cases decide (a.1 < 64)with
    |false=>exact h
    |true=>
     have hb:=hx b (by simp)
     exact ih _ _ (fun x hm=>hx x (by simp [hm])) (abt (by omega) (by omega))
  obtain⟨q0,q1⟩:=inv code 0 (0,52021) hb (by decide)
  refine⟨by simp [Rc,IK,allT,r1],afS.2 ⟨by decide,⟨?_,?_⟩,hn,hb⟩⟩
  ·simp only [frS,LE,IK,r2];exact q0
  ·simp only [frS,LE,IK,r2];exact q1
 ·obtain⟨eG,he⟩:=v6.1 he
  subst he
  obtain⟨h1,h2,h3⟩:=hI
  have hw:=Fc eG (by omega)
  obtain⟨c0,c1⟩:=hb code[i] (List.getElem_mem eG)
  have hw1:IntKind.i64.wrap (a.2 * 59)=a.2 * 59:=aR (by omega) (by omega)
  have hw2:IntKind.i64.wrap code[i]=code[i]:=aR (by omega) (by omega)
  have hw3:IntKind.i64.wrap (a.2 * 59 + code[i])=a.2 * 59 + code[i]:=aR (by omega) (by omega)
  have q1:neI 2147483647 0=true:=by decide
  have q2:ltI (i:Int) (code.length:Int)=true:=cI (by omega)
  have q3:leI 0 (i:Int)=true:=aS (by omega)
  have q4:ltN i code.length=true:=dE eG
  simp only [as7,h1]
  by_cases h64:i < 64
  ·have d:decide (i < 64)=true:=decide_eq_true h64
   have d':ltI (i:Int) 64=true:=cI (by omega)
   simp [BX,LT.out,allT,Kk,YU,YV,YW,YX,YY,YZ,eG,hw,d,d',hw1,hw2,hw3,q1,q2,q3,q4]
  ·have d:decide (i < 64)=false:=decide_eq_false h64
   have d':ltI (i:Int) 64=false:=yV (by omega)
   simp [BX,LT.out,Kk,d,d']
 ·simp only [as7]at hf
  obtain⟨h1,h2,h3⟩:=hI
  obtain⟨c0,c1⟩:=hb b (List.mem_of_getElem? he)
  cases hd:decide (a.1 < 64)with
  |false=>rw [hd]at hf;cases hf
  |true=>
   rw [hd]at hf
   simp only [cond_true,Sum.inr.injEq]at hf
   subst hf
   obtain⟨m0,m1⟩:=abt (x:=a.2 * 59 + b) (n:=2147483647) (by omega) (by omega)
   exact⟨by simp [h1],m0,m1⟩
 ·simp [BX,LT.out,Kk]
theorem alR(a:arG)(h:aJ 0 0 a=true):LE a=frS a∧Rc a=true:=⟨rfl,(afE a h).1⟩
def aeh:awE
 | [.one ⟨false,[.ref 0]⟩],[.row false 5 (.int .u8) a]=>some ⟨.one ⟨false,[.ptr 1 0]⟩,[.row false 5 apN a],[.box 113 [.ref 0,awF 0,awF (frS a)]],[aJ 0 0 a]⟩
 |_,_=>none
def py:PF prog:=PF.alt ang aeh (by
 intro args es o h bA;unfold aeh at h;split at h
 ·rename_i a
  cases h
  have bA:=fv bA
  have hh:=alR a bA
  obtain⟨e0,en⟩:=hh
  exact kj rfl (eT en) rfl rfl (by simp only [e0] <;> rfl)
 ·cases h)
def PF.never{P:Program}(k:FuncId)(F:awE)(h: ∀ args es o,F args es=some o→false∈o.nd):PF P where
 k:=k
 F:=F
 ok:=fun args es o ho bA=>absurd (bA _ (h args es o ho)) (by simp)
def Ug:awE
 | [.one ⟨false,[.ptr 0 0]⟩,.one ⟨false,[.ref 1]⟩,.one ⟨false,[.val (.int .i64 _)]⟩],[.box 113 [.ref 2,.val (.int .i64 a),.val (.int .i64 b)],.row false 9 (.str) c,.row false 5 (.int .u8) d]=>
  some ⟨.one ⟨false,[.ref 3]⟩,[.box 113 [.ref 2,.val (.int .i64 a),.val (.int .i64 b)],.row false 9 (.str) c,.row false 5 (.int .u8) d],[.row true 122 (.pair (.int .i64) (.pair (.str) (.int .i64))) []],[false]⟩
 |_,_=>none
def Ly:PF prog:=PF.never 126 Ug (by
 intro args es o h;unfold Ug at h;split at h
 ·cases h;exact qqj.2 rfl
 ·cases h)
section
variable (a b c:Int)(d:List asv)(e:arG)
def bR:Bool:=bif a==0 then true else nxV 4 b c e==0
def Db:Bool:= !a==0&&true
def dW:Int:=bif Db a then nxA 4 b e else b
def qr:Int:=bif Db a then nxS 4 b c e else c
def Sq:Int:=nxV 12 (dW a b e) (qr a b c e) e
def lF:Bool:=Sq a b c e==0
def lG:Bool:=Sq a b c e==1
def lH:Int:=pkV (dW a b e) (qr a b c e) [(4:Int),(5:Int),(6:Int),(5:Int),(6:Int),(7:Int),(8:Int),(9:Int),(10:Int),(11:Int),(12:Int)] e
def fB:Bool:=ew (lH a b c e)==2
def xy:Int:=pkA (dW a b e) [(4:Int),(5:Int),(6:Int),(5:Int),(6:Int),(7:Int),(8:Int),(9:Int),(10:Int),(11:Int),(12:Int)] e
def Rg:Int:=bif ay (lH a b c e)then nxA 4 (xy a b e) e else xy a b e
def rL:Int:=nxS 12 (dW a b e) (qr a b c e) e
def Bb:Int:=pkS (dW a b e) (qr a b c e) [(4:Int),(5:Int),(6:Int),(5:Int),(6:Int),(7:Int),(8:Int),(9:Int),(10:Int),(11:Int),(12:Int)] e
def Rh:Int:=bif ay (lH a b c e)then nxS 4 (xy a b e) (Bb a b c e) e else Bb a b c e
def vX:Int:=nxV (↑d.length:Int) (nxA 12 (dW a b e) e) (rL a b c e) e
def Bc:aow:= [(bif ay (lH a b c e)then lH a b c e else lH a b c e,bif ay (lH a b c e)then ByteArray.mk #[]else ByteArray.mk #[],bif ay (lH a b c e)then nxV 4 (xy a b e) (Bb a b c e) e else(0:Int))]
def Ri:Bool:= !ay (lH a b c e)||aJ (xy a b e) (Bb a b c e) e
def Rj:Bool:=leN (0 + v8 (Bc a b c e)) 9223372036854775807
def Rk:Bool:=leN ((0 + v8 (Bc a b c e)) * 32) 140737488355328
def uR:Int:=bif bR a b c e then bif lF a b c e then nxA 12 (dW a b e) e else bif lG a b c e then nxA 12 (dW a b e) e else nxA (↑d.length:Int) (nxA 12 (dW a b e) e) e else bif fB a b c e then Rg a b c e else Rg a b c e
def uS:Int:=bif bR a b c e then bif lF a b c e then rL a b c e else bif lG a b c e then rL a b c e else nxS (↑d.length:Int) (nxA 12 (dW a b e) e) (rL a b c e) e else bif fB a b c e then Rh a b c e else Rh a b c e
def uT:aov:=bif bR a b c e then bif lF a b c e then [((2:Int),ByteArray.mk #[],(0:Int))]else bif lG a b c e then [((3:Int),ByteArray.mk #[],(0:Int))]else [((1:Int),v9 d[v7 (vX a b c d e)]? ByteArray.empty,(0:Int))]else bif fB a b c e then Bc a b c e else Bc a b c e
def LF:Bool:=allT [!Db a||aJ b c e,!bR a b c e||aJ (dW a b e) (qr a b c e) e,!bR a b c e||(lF a b c e||(lG a b c e||aJ (nxA 12 (dW a b e) e) (rL a b c e) e)),!bR a b c e||(lF a b c e||(lG a b c e||leI 0 (vX a b c d e))),!bR a b c e||(lF a b c e||(lG a b c e||ltI (vX a b c d e) (↑d.length:Int))),!bR a b c e||(lF a b c e||(lG a b c e||ltN (v7 (vX a b c d e)) d.length)),bR a b c e||aJ (dW a b e) (qr a b c e) e&&leN 1 (v8 [(4:Int),(5:Int),(6:Int),(5:Int),(6:Int),(7:Int),(8:Int),(9:Int),(10:Int),(11:Int),(12:Int)]),bR a b c e||false,bR a b c e||(!fB a b c e||false),bR a b c e||(!fB a b c e||leN (0 + 0) 9223372036854775807),bR a b c e||(!fB a b c e||leN ((0 + 0) * 32) 140737488355328),bR a b c e||(!fB a b c e||Ri a b c e),bR a b c e||(!fB a b c e||Rj a b c e),bR a b c e||(!fB a b c e||Rk a b c e),bR a b c e||(fB a b c e||Ri a b c e),bR a b c e||(fB a b c e||Rj a b c e),bR a b c e||(fB a b c e||Rk a b c e)]
end
def Ud:awE
 | [.one ⟨false,[.ptr 0 0]⟩,.one ⟨false,[.ref 1]⟩,.one ⟨false,[.val (.int .i64 a)]⟩],[.box 113 [.ref 2,.val (.int .i64 b),.val (.int .i64 c)],.row false 9 (.str) d,.row false 5 (.int .u8) e]=>some ⟨.one ⟨false,[.ref 3]⟩,[.box 113 [.ref 2,awF (uR a b c d e),awF (uS a b c d e)],.row false 9 arE d,.row false 5 apN e],[.row true 122 ab5 (uT a b c d e)],[LF a b c d e]⟩
 |_,_=>none
def afe:PF prog:=PF.ofG prog (T3z [am,aX,pA,FY,Ly]) [] bj 126 f126 func126 (fun c _=>LOk.nil c) Ud (by
 intro _ _ _ h;unfold Ud at h;split at h<;>cases h;kernel_rfl)
def aqz(ns:List asv):Bool:=leN 1 ns.length&&(leN ns.length 1000&&ns.all fun s=>leN s.size 1000)
def dtN(k d a s:Int)(ns:List asv)(c:arG):Bool:=(leI 0 d&&leI d k)&&(aJ a s c&&aqz ns)
def dtL(n:Nat)(ts:List TM):Prop:=1≤ts.length∧ts.length≤n∧ ∀ t∈ts,t.2.1.size≤1000
theorem QB{k d a s:Int}{ns:List asv}{c:arG}:dtN k d a s ns c=true↔(0≤d∧d≤k)∧aJ a s c=true∧aqz ns=true:=by
 simp only [dtN,q9,CZ]
theorem abe{ns:List asv}:aqz ns=true↔1≤ns.length∧ns.length≤1000∧ ∀ s∈ns,s.size≤1000:=by
 simp only [aqz,q9,fc,List.all_eq_true]
theorem le{n a s:Int}{c:arG}(h:aJ a s c=true):aJ (nxA n a c) (nxS n a s c) c=true:=(ajO n h).2.1
theorem Se{a s x:Int}{l c:arG}(h:aJ a s c=true):aJ (pkA a (x::l) c) (pkS a s (x::l) c) c=true:=(apw (l:=x::l) (by rw [h];rfl)).2.1
theorem aid{C:Type}(x:C)(l:List C):leN 1 (x::l).length=true:=aG (by simp)
theorem Sn{n a s:Int}{c:arG}(h:aJ a s c=true)(hn:1≤n):0≤nxV n a s c∧nxV n a s c < n:=⟨(ajO n h).2.2.1,(ajO n h).2.2.2 hn⟩
theorem qS{t:Bool}{a a' s s':Int}{c:arG}(h:aJ a s c=true)(h':aJ a' s' c=true):aJ (bif t then a else a') (bif t then s else s') c=true:=by cases t <;> assumption
theorem aps{ns:List asv}{i:Int}(hn:aqz ns=true)(d:asv)(h0:0≤i)(h1:i < ns.length):(v9 ns[i.toNat]? d).size≤1000:=by
 have eG:i.toNat < ns.length:=by omega
 rw [List.getElem?_eq_getElem eG]
 exact(abe.1 hn).2.2 _ (List.getElem_mem eG)
theorem aru(d a s:Int)(ns:List asv)(c:arG)(h:dtN 0 d a s ns c=true):
  LF d a s ns c=true∧aJ (uR d a s ns c) (uS d a s ns c) c=true∧dtL 1 (uT d a s ns c):=by
 obtain⟨⟨h0,h1⟩,hs,hn⟩:=QB.1 h
 have hd:d=0:=by omega
 subst hd
 obtain⟨n1,n2,n3⟩:=abe.1 hn
 have a0:bR 0 a s c=true:=rfl
 have a1:Db 0=false:=rfl
 have a2:dW 0 a c=a:=rfl
 have a3:qr 0 a s c=s:=rfl
 have a11:rL 0 a s c=nxS 12 a s c:=rfl
 have hs2:aJ (nxA 12 a c) (nxS 12 a s c) c=true:=le hs
 have a14:vX 0 a s ns c=nxV (ns.length:Int) (nxA 12 a c) (nxS 12 a s c) c:=rfl
 obtain⟨i0,i1⟩:=Sn (n:=(ns.length:Int)) hs2 (by omega)
 have j0:=aS i0
 have j1:=cI i1
 have j2:ltN (nxV (ns.length:Int) (nxA 12 a c) (nxS 12 a s c) c).toNat ns.length=true:=dE (by omega)
 refine⟨?_,?_,?_⟩
 ·simp only [LF,a0,a1,a2,a3,a11,a14,hs,hs2,j0,j1,j2,allT,Bool.true_or,v4,Bool.not_true,Bool.not_false,Bool.false_or,cond_true]
  all_goals simp
 ·simp only [uR,uS,a0,a2,a11,cond_true]
  cases lF 0 a s c
  ·cases lG 0 a s c
   ·exact le hs2
   ·exact hs2
  ·exact hs2
 ·simp only [uT,a0,a14,cond_true]
  cases lF 0 a s c
  ·cases lG 0 a s c
   ·refine⟨by simp,by simp,fun t ht=> ?_⟩
    rw [cond_false,cond_false,qqj]at ht
    subst ht
    exact aps hn _ i0 i1
   ·exact⟨by simp,by simp,fun t ht=>by rw [cond_false,cond_true,qqj]at ht;subst ht;exact Nat.zero_le _⟩
  ·exact⟨by simp,by simp,fun t ht=>by rw [cond_true,qqj]at ht;subst ht;exact Nat.zero_le _⟩
theorem Hm{n:Nat}{k m:Int}{s:asv}(h:s.size≤1000):dtL (n + 1) [(k,s,m)]:=
 ⟨by simp,by simp,fun t ht=>by rw [qqj]at ht;subst ht;exact h⟩
theorem VS{n m k:Nat}{a b:List TM}(h1:dtL n a)(h2:dtL m b)(h:n + m≤k):dtL k (a++b):=by
 obtain⟨p1,p2,p3⟩:=h1
 obtain⟨q1,q2,q3⟩:=h2
 refine⟨by rw [w8];omega,by rw [w8];omega,fun t ht=> ?_⟩
 rcases j7.1 ht with h | h
 ·exact p3 t h
 ·exact q3 t h
def Un:awE
 | [.one ⟨false,[.ptr 0 0]⟩,.one ⟨false,[.ref 1]⟩,.one ⟨false,[.val (.int .i64 a)]⟩],[.box 113 [.ref 2,.val (.int .i64 b),.val (.int .i64 c)],.row false 9 (.str) d,.row false 5 (.int .u8) e]=>some ⟨.one ⟨false,[.ref 3]⟩,[.box 113 [.ref 2,awF (uR a b c d e),awF (uS a b c d e)],.row false 9 arE d,.row false 5 apN e],[.row true 122 ab5 (uT a b c d e)],[dtN 0 a b c d e]⟩
 |_,_=>none
def Lt:PF prog:=PF.alt afe Un (by
 intro args es o h bA;unfold Un at h;split at h
 ·rename_i a b c d e
  cases h
  have bA:=fv bA
  have hh:=(aru a b c d e bA).1
  have en:=hh
  exact kj rfl (eT en) rfl rfl rfl
 ·cases h)
section
variable (a b c:Int)(d:List asv)(e:arG)
def bS:Bool:=bif a==0 then true else nxV 4 b c e==0
def Jz:Bool:= !a==0&&true
def dy:Int:=bif Jz a then nxA 4 b e else b
def qs:Int:=bif Jz a then nxS 4 b c e else c
def Sr:Int:=nxV 12 (dy a b e) (qs a b c e) e
def lI:Bool:=Sr a b c e==0
def lJ:Bool:=Sr a b c e==1
def dA:Int:=pkV (dy a b e) (qs a b c e) [(4:Int),(5:Int),(6:Int),(5:Int),(6:Int),(7:Int),(8:Int),(9:Int),(10:Int),(11:Int),(12:Int)] e
def dX:Bool:=ew (dA a b c e)==2
def ia:Int:=qqq .i64 (a - (1:Int))
def rM:Int:=pkA (dy a b e) [(4:Int),(5:Int),(6:Int),(5:Int),(6:Int),(7:Int),(8:Int),(9:Int),(10:Int),(11:Int),(12:Int)] e
def rN:Int:=pkS (dy a b e) (qs a b c e) [(4:Int),(5:Int),(6:Int),(5:Int),(6:Int),(7:Int),(8:Int),(9:Int),(10:Int),(11:Int),(12:Int)] e
def gi:Int:=uR (ia a) (rM a b e) (rN a b c e) d e
def iL:Int:=uS (ia a) (rM a b e) (rN a b c e) d e
def rO:Int:=uR (ia a) (gi a b c d e) (iL a b c d e) d e
def rP:Int:=nxS 12 (dy a b e) (qs a b c e) e
def vY:Int:=uS (ia a) (gi a b c d e) (iL a b c d e) d e
def pq:Int:=nxV (↑d.length:Int) (nxA 12 (dy a b e) e) (rP a b c e) e
def gj:aow:=uT (ia a) (rM a b e) (rN a b c e) d e
def rQ:aow:=uT (ia a) (gi a b c d e) (iL a b c d e) d e
def rR:aow:=gj a b c d e++rQ a b c d e
def Rl:Int:=bif ay (dA a b c e)then dA a b c e else dA a b c e
def Bd:asv:=bif ay (dA a b c e)then ByteArray.mk #[]else ByteArray.mk #[]
def rS:aow:= [(Rl a b c e,Bd a b c e,bif ay (dA a b c e)then nxV 4 (rO a b c d e) (vY a b c d e) e else(0:Int))]
def rT:aow:= [(Rl a b c e,Bd a b c e,bif ay (dA a b c e)then nxV 4 (gi a b c d e) (iL a b c d e) e else(0:Int))]
def rj:Int:=bif bS a b c e then bif lI a b c e then nxA 12 (dy a b e) e else bif lJ a b c e then nxA 12 (dy a b e) e else nxA (↑d.length:Int) (nxA 12 (dy a b e) e) e else bif dX a b c e then bif ay (dA a b c e)then nxA 4 (rO a b c d e) e else rO a b c d e else bif ay (dA a b c e)then nxA 4 (gi a b c d e) e else gi a b c d e
def rk:Int:=bif bS a b c e then bif lI a b c e then rP a b c e else bif lJ a b c e then rP a b c e else nxS (↑d.length:Int) (nxA 12 (dy a b e) e) (rP a b c e) e else bif dX a b c e then bif ay (dA a b c e)then nxS 4 (rO a b c d e) (vY a b c d e) e else vY a b c d e else bif ay (dA a b c e)then nxS 4 (gi a b c d e) (iL a b c d e) e else iL a b c d e
def rl:aov:=bif bS a b c e then bif lI a b c e then [((2:Int),ByteArray.mk #[],(0:Int))]else bif lJ a b c e then [((3:Int),ByteArray.mk #[],(0:Int))]else [((1:Int),v9 d[v7 (pq a b c d e)]? ByteArray.empty,(0:Int))]else bif dX a b c e then rR a b c d e++rS a b c d e else gj a b c d e++rT a b c d e
def Ef:Bool:=allT [!Jz a||aJ b c e,!bS a b c e||aJ (dy a b e) (qs a b c e) e,!bS a b c e||(lI a b c e||(lJ a b c e||aJ (nxA 12 (dy a b e) e) (rP a b c e) e)),!bS a b c e||(lI a b c e||(lJ a b c e||leI 0 (pq a b c d e))),!bS a b c e||(lI a b c e||(lJ a b c e||ltI (pq a b c d e) (↑d.length:Int))),!bS a b c e||(lI a b c e||(lJ a b c e||ltN (v7 (pq a b c d e)) d.length)),bS a b c e||aJ (dy a b e) (qs a b c e) e&&leN 1 (v8 [(4:Int),(5:Int),(6:Int),(5:Int),(6:Int),(7:Int),(8:Int),(9:Int),(10:Int),(11:Int),(12:Int)]),bS a b c e||dtN 0 (ia a) (rM a b e) (rN a b c e) d e,bS a b c e||(!dX a b c e||dtN 0 (ia a) (gi a b c d e) (iL a b c d e) d e),bS a b c e||(!dX a b c e||leN (v8 (gj a b c d e) + v8 (rQ a b c d e)) 9223372036854775807),bS a b c e||(!dX a b c e||leN ((v8 (gj a b c d e) + v8 (rQ a b c d e)) * 32) 140737488355328),bS a b c e||(!dX a b c e||(!ay (dA a b c e)||aJ (rO a b c d e) (vY a b c d e) e)),bS a b c e||(!dX a b c e||leN (v8 (rR a b c d e) + v8 (rS a b c d e)) 9223372036854775807),bS a b c e||(!dX a b c e||leN ((v8 (rR a b c d e) + v8 (rS a b c d e)) * 32) 140737488355328),bS a b c e||(dX a b c e||(!ay (dA a b c e)||aJ (gi a b c d e) (iL a b c d e) e)),bS a b c e||(dX a b c e||leN (v8 (gj a b c d e) + v8 (rT a b c d e)) 9223372036854775807),bS a b c e||(dX a b c e||leN ((v8 (gj a b c d e) + v8 (rT a b c d e)) * 32) 140737488355328)]
end
def Ue:awE
 | [.one ⟨false,[.ptr 0 0]⟩,.one ⟨false,[.ref 1]⟩,.one ⟨false,[.val (.int .i64 a)]⟩],[.box 113 [.ref 2,.val (.int .i64 b),.val (.int .i64 c)],.row false 9 (.str) d,.row false 5 (.int .u8) e]=>some ⟨.one ⟨false,[.ref 3]⟩,[.box 113 [.ref 2,awF (rj a b c d e),awF (rk a b c d e)],.row false 9 arE d,.row false 5 apN e],[.row true 122 ab5 (rl a b c d e)],[Ef a b c d e]⟩
 |_,_=>none
def aff:PF prog:=PF.ofG prog (T3z [am,aX,pA,FY,Lt]) [] bj 126 f126 func126 (fun c _=>LOk.nil c) Ue (by
 intro _ _ _ h;unfold Ue at h;split at h<;>cases h;kernel_rfl)
theorem arv(d a s:Int)(ns:List asv)(c:arG)(h:dtN 1 d a s ns c=true):
  Ef d a s ns c=true∧aJ (rj d a s ns c) (rk d a s ns c) c=true∧dtL 3 (rl d a s ns c):=by
 obtain⟨⟨h0,h1⟩,hs,hn⟩:=QB.1 h
 obtain⟨n1,n2,n3⟩:=abe.1 hn
 have s23:aJ (dy d a c) (qs d a s c) c=true:=qS (le hs) hs
 have hs2:aJ (nxA 12 (dy d a c) c) (rP d a s c) c=true:=le s23
 obtain⟨i0,i1⟩:0≤pq d a s ns c∧pq d a s ns c < (ns.length:Int):=Sn (n:=(ns.length:Int)) hs2 (by omega)
 have j0:=aS i0
 have j1:=cI i1
 have j2:ltN (pq d a s ns c).toNat ns.length=true:=dE (by omega)
 cases h0:bS d a s c with
 |true=>
  refine⟨?_,?_,?_⟩
  ·simp only [Ef,h0,hs,s23,hs2,j0,j1,j2,allT,Bool.true_or,v4,Bool.not_true,Bool.false_or,cond_true]
  ·simp only [rj,rk,h0,cond_true]
   cases lI d a s c
   ·cases lJ d a s c
    ·exact le hs2
    ·exact hs2
   ·exact hs2
  ·simp only [rl,h0,cond_true]
   cases lI d a s c
   ·cases lJ d a s c
    ·exact Hm (aps hn _ i0 i1)
    ·exact Hm (Nat.zero_le _)
   ·exact Hm (Nat.zero_le _)
 |false=>
  have hd:1≤d:=by
   by_cases hd0:d=0
   ·rw [hd0]at h0;cases h0
   ·omega
  have a9:ia d=d - 1:=aR (by omega) (by omega)
  have s10:aJ (rM d a c) (rN d a s c) c=true:=Se s23
  have d1:dtN 0 (ia d) (rM d a c) (rN d a s c) ns c=true:=QB.2 ⟨by omega,s10,hn⟩
  obtain⟨_,s12,q18⟩:=aru _ _ _ ns c d1
  have s12:aJ (gi d a s ns c) (iL d a s ns c) c=true:=s12
  have q18:dtL 1 (gj d a s ns c):=q18
  have d2:dtN 0 (ia d) (gi d a s ns c) (iL d a s ns c) ns c=true:=QB.2 ⟨by omega,s12,hn⟩
  obtain⟨_,s14,q19⟩:=aru _ _ _ ns c d2
  have s14:aJ (rO d a s ns c) (vY d a s ns c) c=true:=s14
  have q19:dtL 1 (rQ d a s ns c):=q19
  have q23:dtL 1 (rS d a s ns c):=Hm (by simp only [Bd];cases ay (dA d a s c) <;> exact Nat.zero_le _)
  have q24:dtL 1 (rT d a s ns c):=Hm (by simp only [Bd];cases ay (dA d a s c) <;> exact Nat.zero_le _)
  have q20:dtL 2 (rR d a s ns c):=VS q18 q19 (by omega)
  have l18:=q18.2.1
  have l19:=q19.2.1
  have l20:=q20.2.1
  have l23:=q23.2.1
  have l24:=q24.2.1
  have p10:leN 1 (v8 [(4:Int),5,6,5,6,7,8,9,10,11,12])=true:=rfl
  refine⟨?_,?_,?_⟩
  ·simp only [Ef,h0,hs,s23,s10,d1,d2,s12,s14,p10,aG (show (gj d a s ns c).length + (rQ d a s ns c).length≤9223372036854775807 by omega),aG (show ((gj d a s ns c).length + (rQ d a s ns c).length) * 32≤140737488355328 by omega),
    aG (show (rR d a s ns c).length + (rS d a s ns c).length≤9223372036854775807 by omega),aG (show ((rR d a s ns c).length + (rS d a s ns c).length) * 32≤140737488355328 by omega),
    aG (show (gj d a s ns c).length + (rT d a s ns c).length≤9223372036854775807 by omega),aG (show ((gj d a s ns c).length + (rT d a s ns c).length) * 32≤140737488355328 by omega),
    allT,Bool.true_or,v4,Bool.not_false,Bool.false_or,Bool.and_self,cond_true]
  ·simp only [rj,rk,h0,cond_false]
   cases dX d a s c <;> simp only [cond_true,cond_false]
   ·exact qS (le s12) s12
   ·exact qS (le s14) s14
  ·simp only [rl,h0,cond_false]
   cases dX d a s c <;> simp only [cond_true,cond_false]
   ·exact VS q18 q24 (by omega)
   ·exact VS q20 q23 (by omega)
def Uo:awE
 | [.one ⟨false,[.ptr 0 0]⟩,.one ⟨false,[.ref 1]⟩,.one ⟨false,[.val (.int .i64 a)]⟩],[.box 113 [.ref 2,.val (.int .i64 b),.val (.int .i64 c)],.row false 9 (.str) d,.row false 5 (.int .u8) e]=>some ⟨.one ⟨false,[.ref 3]⟩,[.box 113 [.ref 2,awF (rj a b c d e),awF (rk a b c d e)],.row false 9 arE d,.row false 5 apN e],[.row true 122 ab5 (rl a b c d e)],[dtN 1 a b c d e]⟩
 |_,_=>none
def Lu:PF prog:=PF.alt aff Uo (by
 intro args es o h bA;unfold Uo at h;split at h
 ·rename_i a b c d e
  cases h
  have bA:=fv bA
  have hh:=(arv a b c d e bA).1
  have en:=hh
  exact kj rfl (eT en) rfl rfl rfl
 ·cases h)
section
variable (a b c:Int)(d:List asv)(e:arG)
def bT:Bool:=bif a==0 then true else nxV 4 b c e==0
def JA:Bool:= !a==0&&true
def dB:Int:=bif JA a then nxA 4 b e else b
def qt:Int:=bif JA a then nxS 4 b c e else c
def Ss:Int:=nxV 12 (dB a b e) (qt a b c e) e
def lK:Bool:=Ss a b c e==0
def lL:Bool:=Ss a b c e==1
def dC:Int:=pkV (dB a b e) (qt a b c e) [(4:Int),(5:Int),(6:Int),(5:Int),(6:Int),(7:Int),(8:Int),(9:Int),(10:Int),(11:Int),(12:Int)] e
def dY:Bool:=ew (dC a b c e)==2
def ib:Int:=qqq .i64 (a - (1:Int))
def rU:Int:=pkA (dB a b e) [(4:Int),(5:Int),(6:Int),(5:Int),(6:Int),(7:Int),(8:Int),(9:Int),(10:Int),(11:Int),(12:Int)] e
def rV:Int:=pkS (dB a b e) (qt a b c e) [(4:Int),(5:Int),(6:Int),(5:Int),(6:Int),(7:Int),(8:Int),(9:Int),(10:Int),(11:Int),(12:Int)] e
def gk:Int:=rj (ib a) (rU a b e) (rV a b c e) d e
def iM:Int:=rk (ib a) (rU a b e) (rV a b c e) d e
def rW:Int:=rj (ib a) (gk a b c d e) (iM a b c d e) d e
def rX:Int:=nxS 12 (dB a b e) (qt a b c e) e
def vZ:Int:=rk (ib a) (gk a b c d e) (iM a b c d e) d e
def pt:Int:=nxV (↑d.length:Int) (nxA 12 (dB a b e) e) (rX a b c e) e
def gm:aow:=rl (ib a) (rU a b e) (rV a b c e) d e
def rY:aow:=rl (ib a) (gk a b c d e) (iM a b c d e) d e
def rZ:aow:=gm a b c d e++rY a b c d e
def Rm:Int:=bif ay (dC a b c e)then dC a b c e else dC a b c e
def Be:asv:=bif ay (dC a b c e)then ByteArray.mk #[]else ByteArray.mk #[]
def sa:aow:= [(Rm a b c e,Be a b c e,bif ay (dC a b c e)then nxV 4 (rW a b c d e) (vZ a b c d e) e else(0:Int))]
def sb:aow:= [(Rm a b c e,Be a b c e,bif ay (dC a b c e)then nxV 4 (gk a b c d e) (iM a b c d e) e else(0:Int))]
def rm:Int:=bif bT a b c e then bif lK a b c e then nxA 12 (dB a b e) e else bif lL a b c e then nxA 12 (dB a b e) e else nxA (↑d.length:Int) (nxA 12 (dB a b e) e) e else bif dY a b c e then bif ay (dC a b c e)then nxA 4 (rW a b c d e) e else rW a b c d e else bif ay (dC a b c e)then nxA 4 (gk a b c d e) e else gk a b c d e
def rn:Int:=bif bT a b c e then bif lK a b c e then rX a b c e else bif lL a b c e then rX a b c e else nxS (↑d.length:Int) (nxA 12 (dB a b e) e) (rX a b c e) e else bif dY a b c e then bif ay (dC a b c e)then nxS 4 (rW a b c d e) (vZ a b c d e) e else vZ a b c d e else bif ay (dC a b c e)then nxS 4 (gk a b c d e) (iM a b c d e) e else iM a b c d e
def rp:aov:=bif bT a b c e then bif lK a b c e then [((2:Int),ByteArray.mk #[],(0:Int))]else bif lL a b c e then [((3:Int),ByteArray.mk #[],(0:Int))]else [((1:Int),v9 d[v7 (pt a b c d e)]? ByteArray.empty,(0:Int))]else bif dY a b c e then rZ a b c d e++sa a b c d e else gm a b c d e++sb a b c d e
def Eg:Bool:=allT [!JA a||aJ b c e,!bT a b c e||aJ (dB a b e) (qt a b c e) e,!bT a b c e||(lK a b c e||(lL a b c e||aJ (nxA 12 (dB a b e) e) (rX a b c e) e)),!bT a b c e||(lK a b c e||(lL a b c e||leI 0 (pt a b c d e))),!bT a b c e||(lK a b c e||(lL a b c e||ltI (pt a b c d e) (↑d.length:Int))),!bT a b c e||(lK a b c e||(lL a b c e||ltN (v7 (pt a b c d e)) d.length)),bT a b c e||aJ (dB a b e) (qt a b c e) e&&leN 1 (v8 [(4:Int),(5:Int),(6:Int),(5:Int),(6:Int),(7:Int),(8:Int),(9:Int),(10:Int),(11:Int),(12:Int)]),bT a b c e||dtN 1 (ib a) (rU a b e) (rV a b c e) d e,bT a b c e||(!dY a b c e||dtN 1 (ib a) (gk a b c d e) (iM a b c d e) d e),bT a b c e||(!dY a b c e||leN (v8 (gm a b c d e) + v8 (rY a b c d e)) 9223372036854775807),bT a b c e||(!dY a b c e||leN ((v8 (gm a b c d e) + v8 (rY a b c d e)) * 32) 140737488355328),bT a b c e||(!dY a b c e||(!ay (dC a b c e)||aJ (rW a b c d e) (vZ a b c d e) e)),bT a b c e||(!dY a b c e||leN (v8 (rZ a b c d e) + v8 (sa a b c d e)) 9223372036854775807),bT a b c e||(!dY a b c e||leN ((v8 (rZ a b c d e) + v8 (sa a b c d e)) * 32) 140737488355328),bT a b c e||(dY a b c e||(!ay (dC a b c e)||aJ (gk a b c d e) (iM a b c d e) e)),bT a b c e||(dY a b c e||leN (v8 (gm a b c d e) + v8 (sb a b c d e)) 9223372036854775807),bT a b c e||(dY a b c e||leN ((v8 (gm a b c d e) + v8 (sb a b c d e)) * 32) 140737488355328)]
end
def Uf:awE
 | [.one ⟨false,[.ptr 0 0]⟩,.one ⟨false,[.ref 1]⟩,.one ⟨false,[.val (.int .i64 a)]⟩],[.box 113 [.ref 2,.val (.int .i64 b),.val (.int .i64 c)],.row false 9 (.str) d,.row false 5 (.int .u8) e]=>some ⟨.one ⟨false,[.ref 3]⟩,[.box 113 [.ref 2,awF (rm a b c d e),awF (rn a b c d e)],.row false 9 arE d,.row false 5 apN e],[.row true 122 ab5 (rp a b c d e)],[Eg a b c d e]⟩
 |_,_=>none
def afg:PF prog:=PF.ofG prog (T3z [am,aX,pA,FY,Lu]) [] bj 126 f126 func126 (fun c _=>LOk.nil c) Uf (by
 intro _ _ _ h;unfold Uf at h;split at h<;>cases h;kernel_rfl)
theorem arw(d a s:Int)(ns:List asv)(c:arG)(h:dtN 2 d a s ns c=true):
  Eg d a s ns c=true∧aJ (rm d a s ns c) (rn d a s ns c) c=true∧dtL 7 (rp d a s ns c):=by
 obtain⟨⟨h0,h1⟩,hs,hn⟩:=QB.1 h
 obtain⟨n1,n2,n3⟩:=abe.1 hn
 have s23:aJ (dB d a c) (qt d a s c) c=true:=qS (le hs) hs
 have hs2:aJ (nxA 12 (dB d a c) c) (rX d a s c) c=true:=le s23
 obtain⟨i0,i1⟩:0≤pt d a s ns c∧pt d a s ns c < (ns.length:Int):=Sn (n:=(ns.length:Int)) hs2 (by omega)
 have j0:=aS i0
 have j1:=cI i1
 have j2:ltN (pt d a s ns c).toNat ns.length=true:=dE (by omega)
 cases h0:bT d a s c with
 |true=>
  refine⟨?_,?_,?_⟩
  ·simp only [Eg,h0,hs,s23,hs2,j0,j1,j2,allT,Bool.true_or,v4,Bool.not_true,Bool.false_or,cond_true]
  ·simp only [rm,rn,h0,cond_true]
   cases lK d a s c
   ·cases lL d a s c
    ·exact le hs2
    ·exact hs2
   ·exact hs2
  ·simp only [rp,h0,cond_true]
   cases lK d a s c
   ·cases lL d a s c
    ·exact Hm (aps hn _ i0 i1)
    ·exact Hm (Nat.zero_le _)
   ·exact Hm (Nat.zero_le _)
 |false=>
  have hd:1≤d:=by
   by_cases hd0:d=0
   ·rw [hd0]at h0;cases h0
   ·omega
  have a9:ib d=d - 1:=aR (by omega) (by omega)
  have s10:aJ (rU d a c) (rV d a s c) c=true:=Se s23
  have d1:dtN 1 (ib d) (rU d a c) (rV d a s c) ns c=true:=QB.2 ⟨by omega,s10,hn⟩
  obtain⟨_,s12,q18⟩:=arv _ _ _ ns c d1
  have s12:aJ (gk d a s ns c) (iM d a s ns c) c=true:=s12
  have q18:dtL 3 (gm d a s ns c):=q18
  have d2:dtN 1 (ib d) (gk d a s ns c) (iM d a s ns c) ns c=true:=QB.2 ⟨by omega,s12,hn⟩
  obtain⟨_,s14,q19⟩:=arv _ _ _ ns c d2
  have s14:aJ (rW d a s ns c) (vZ d a s ns c) c=true:=s14
  have q19:dtL 3 (rY d a s ns c):=q19
  have q23:dtL 1 (sa d a s ns c):=Hm (by simp only [Be];cases ay (dC d a s c) <;> exact Nat.zero_le _)
  have q24:dtL 1 (sb d a s ns c):=Hm (by simp only [Be];cases ay (dC d a s c) <;> exact Nat.zero_le _)
  have q20:dtL 6 (rZ d a s ns c):=VS q18 q19 (by omega)
  have l18:=q18.2.1
  have l19:=q19.2.1
  have l20:=q20.2.1
  have l23:=q23.2.1
  have l24:=q24.2.1
  have p10:leN 1 (v8 [(4:Int),5,6,5,6,7,8,9,10,11,12])=true:=rfl
  refine⟨?_,?_,?_⟩
  ·simp only [Eg,h0,hs,s23,s10,d1,d2,s12,s14,p10,aG (show (gm d a s ns c).length + (rY d a s ns c).length≤9223372036854775807 by omega),aG (show ((gm d a s ns c).length + (rY d a s ns c).length) * 32≤140737488355328 by omega),
    aG (show (rZ d a s ns c).length + (sa d a s ns c).length≤9223372036854775807 by omega),aG (show ((rZ d a s ns c).length + (sa d a s ns c).length) * 32≤140737488355328 by omega),
    aG (show (gm d a s ns c).length + (sb d a s ns c).length≤9223372036854775807 by omega),aG (show ((gm d a s ns c).length + (sb d a s ns c).length) * 32≤140737488355328 by omega),
    allT,Bool.true_or,v4,Bool.not_false,Bool.false_or,Bool.and_self,cond_true]
  ·simp only [rm,rn,h0,cond_false]
   cases dY d a s c <;> simp only [cond_true,cond_false]
   ·exact qS (le s12) s12
   ·exact qS (le s14) s14
  ·simp only [rp,h0,cond_false]
   cases dY d a s c <;> simp only [cond_true,cond_false]
   ·exact VS q18 q24 (by omega)
   ·exact VS q20 q23 (by omega)
def Up:awE
 | [.one ⟨false,[.ptr 0 0]⟩,.one ⟨false,[.ref 1]⟩,.one ⟨false,[.val (.int .i64 a)]⟩],[.box 113 [.ref 2,.val (.int .i64 b),.val (.int .i64 c)],.row false 9 (.str) d,.row false 5 (.int .u8) e]=>some ⟨.one ⟨false,[.ref 3]⟩,[.box 113 [.ref 2,awF (rm a b c d e),awF (rn a b c d e)],.row false 9 arE d,.row false 5 apN e],[.row true 122 ab5 (rp a b c d e)],[dtN 2 a b c d e]⟩
 |_,_=>none
def Lv:PF prog:=PF.alt afg Up (by
 intro args es o h bA;unfold Up at h;split at h
 ·rename_i a b c d e
  cases h
  have bA:=fv bA
  have hh:=(arw a b c d e bA).1
  have en:=hh
  exact kj rfl (eT en) rfl rfl rfl
 ·cases h)
section
variable (a b c:Int)(d:List asv)(e:arG)
def ch:Bool:=bif a==0 then true else nxV 4 b c e==0
def LG:Bool:= !a==0&&true
def dN:Int:=bif LG a then nxA 4 b e else b
def rq:Int:=bif LG a then nxS 4 b c e else c
def UE:Int:=nxV 12 (dN a b e) (rq a b c e) e
def mY:Bool:=UE a b c e==0
def mZ:Bool:=UE a b c e==1
def dO:Int:=pkV (dN a b e) (rq a b c e) [(4:Int),(5:Int),(6:Int),(5:Int),(6:Int),(7:Int),(8:Int),(9:Int),(10:Int),(11:Int),(12:Int)] e
def eE:Bool:=ew (dO a b c e)==2
def jf:Int:=qqq .i64 (a - (1:Int))
def tC:Int:=pkA (dN a b e) [(4:Int),(5:Int),(6:Int),(5:Int),(6:Int),(7:Int),(8:Int),(9:Int),(10:Int),(11:Int),(12:Int)] e
def tD:Int:=pkS (dN a b e) (rq a b c e) [(4:Int),(5:Int),(6:Int),(5:Int),(6:Int),(7:Int),(8:Int),(9:Int),(10:Int),(11:Int),(12:Int)] e
def ic:Int:=rm (jf a) (tC a b e) (tD a b c e) d e
def jN:Int:=rn (jf a) (tC a b e) (tD a b c e) d e
def tE:Int:=rm (jf a) (ic a b c d e) (jN a b c d e) d e
def tF:Int:=nxS 12 (dN a b e) (rq a b c e) e
def xz:Int:=rn (jf a) (ic a b c d e) (jN a b c d e) d e
def qu:Int:=nxV (↑d.length:Int) (nxA 12 (dN a b e) e) (tF a b c e) e
def ie:aow:=rp (jf a) (tC a b e) (tD a b c e) d e
def tG:aow:=rp (jf a) (ic a b c d e) (jN a b c d e) d e
def tH:aow:=ie a b c d e++tG a b c d e
def Su:Int:=bif ay (dO a b c e)then dO a b c e else dO a b c e
def Dc:asv:=bif ay (dO a b c e)then ByteArray.mk #[]else ByteArray.mk #[]
def tI:aow:= [(Su a b c e,Dc a b c e,bif ay (dO a b c e)then nxV 4 (tE a b c d e) (xz a b c d e) e else(0:Int))]
def tJ:aow:= [(Su a b c e,Dc a b c e,bif ay (dO a b c e)then nxV 4 (ic a b c d e) (jN a b c d e) e else(0:Int))]
def wy:Int:=bif ch a b c e then bif mY a b c e then nxA 12 (dN a b e) e else bif mZ a b c e then nxA 12 (dN a b e) e else nxA (↑d.length:Int) (nxA 12 (dN a b e) e) e else bif eE a b c e then bif ay (dO a b c e)then nxA 4 (tE a b c d e) e else tE a b c d e else bif ay (dO a b c e)then nxA 4 (ic a b c d e) e else ic a b c d e
def wz:Int:=bif ch a b c e then bif mY a b c e then tF a b c e else bif mZ a b c e then tF a b c e else nxS (↑d.length:Int) (nxA 12 (dN a b e) e) (tF a b c e) e else bif eE a b c e then bif ay (dO a b c e)then nxS 4 (tE a b c d e) (xz a b c d e) e else xz a b c d e else bif ay (dO a b c e)then nxS 4 (ic a b c d e) (jN a b c d e) e else jN a b c d e
def wA:aov:=bif ch a b c e then bif mY a b c e then [((2:Int),ByteArray.mk #[],(0:Int))]else bif mZ a b c e then [((3:Int),ByteArray.mk #[],(0:Int))]else [((1:Int),v9 d[v7 (qu a b c d e)]? ByteArray.empty,(0:Int))]else bif eE a b c e then tH a b c d e++tI a b c d e else ie a b c d e++tJ a b c d e
def Fy:Bool:=allT [!LG a||aJ b c e,!ch a b c e||aJ (dN a b e) (rq a b c e) e,!ch a b c e||(mY a b c e||(mZ a b c e||aJ (nxA 12 (dN a b e) e) (tF a b c e) e)),!ch a b c e||(mY a b c e||(mZ a b c e||leI 0 (qu a b c d e))),!ch a b c e||(mY a b c e||(mZ a b c e||ltI (qu a b c d e) (↑d.length:Int))),!ch a b c e||(mY a b c e||(mZ a b c e||ltN (v7 (qu a b c d e)) d.length)),ch a b c e||aJ (dN a b e) (rq a b c e) e&&leN 1 (v8 [(4:Int),(5:Int),(6:Int),(5:Int),(6:Int),(7:Int),(8:Int),(9:Int),(10:Int),(11:Int),(12:Int)]),ch a b c e||dtN 2 (jf a) (tC a b e) (tD a b c e) d e,ch a b c e||(!eE a b c e||dtN 2 (jf a) (ic a b c d e) (jN a b c d e) d e),ch a b c e||(!eE a b c e||leN (v8 (ie a b c d e) + v8 (tG a b c d e)) 9223372036854775807),ch a b c e||(!eE a b c e||leN ((v8 (ie a b c d e) + v8 (tG a b c d e)) * 32) 140737488355328),ch a b c e||(!eE a b c e||(!ay (dO a b c e)||aJ (tE a b c d e) (xz a b c d e) e)),ch a b c e||(!eE a b c e||leN (v8 (tH a b c d e) + v8 (tI a b c d e)) 9223372036854775807),ch a b c e||(!eE a b c e||leN ((v8 (tH a b c d e) + v8 (tI a b c d e)) * 32) 140737488355328),ch a b c e||(eE a b c e||(!ay (dO a b c e)||aJ (ic a b c d e) (jN a b c d e) e)),ch a b c e||(eE a b c e||leN (v8 (ie a b c d e) + v8 (tJ a b c d e)) 9223372036854775807),ch a b c e||(eE a b c e||leN ((v8 (ie a b c d e) + v8 (tJ a b c d e)) * 32) 140737488355328)]
end
def Vx:awE
 | [.one ⟨false,[.ptr 0 0]⟩,.one ⟨false,[.ref 1]⟩,.one ⟨false,[.val (.int .i64 a)]⟩],[.box 113 [.ref 2,.val (.int .i64 b),.val (.int .i64 c)],.row false 9 (.str) d,.row false 5 (.int .u8) e]=>some ⟨.one ⟨false,[.ref 3]⟩,[.box 113 [.ref 2,awF (wy a b c d e),awF (wz a b c d e)],.row false 9 arE d,.row false 5 apN e],[.row true 122 ab5 (wA a b c d e)],[Fy a b c d e]⟩
 |_,_=>none
def agH:PF prog:=PF.ofG prog (T3z [am,aX,pA,FY,Lv]) [] bj 126 f126 func126 (fun c _=>LOk.nil c) Vx (by
 intro _ _ _ h;unfold Vx at h;split at h<;>cases h;kernel_rfl)
theorem au4(d a s:Int)(ns:List asv)(c:arG)(h:dtN 3 d a s ns c=true):
  Fy d a s ns c=true∧aJ (wy d a s ns c) (wz d a s ns c) c=true∧dtL 15 (wA d a s ns c):=by
 obtain⟨⟨h0,h1⟩,hs,hn⟩:=QB.1 h
 obtain⟨n1,n2,n3⟩:=abe.1 hn
 have s23:aJ (dN d a c) (rq d a s c) c=true:=qS (le hs) hs
 have hs2:aJ (nxA 12 (dN d a c) c) (tF d a s c) c=true:=le s23
 obtain⟨i0,i1⟩:0≤qu d a s ns c∧qu d a s ns c < (ns.length:Int):=Sn (n:=(ns.length:Int)) hs2 (by omega)
 have j0:=aS i0
 have j1:=cI i1
 have j2:ltN (qu d a s ns c).toNat ns.length=true:=dE (by omega)
 cases h0:ch d a s c with
 |true=>
  refine⟨?_,?_,?_⟩
  ·simp only [Fy,h0,hs,s23,hs2,j0,j1,j2,allT,Bool.true_or,v4,Bool.not_true,Bool.false_or,cond_true]
  ·simp only [wy,wz,h0,cond_true]
   cases mY d a s c
   ·cases mZ d a s c
    ·exact le hs2
    ·exact hs2
   ·exact hs2
  ·simp only [wA,h0,cond_true]
   cases mY d a s c
   ·cases mZ d a s c
    ·exact Hm (aps hn _ i0 i1)
    ·exact Hm (Nat.zero_le _)
   ·exact Hm (Nat.zero_le _)
 |false=>
  have hd:1≤d:=by
   by_cases hd0:d=0
   ·rw [hd0]at h0;cases h0
   ·omega
  have a9:jf d=d - 1:=aR (by omega) (by omega)
  have s10:aJ (tC d a c) (tD d a s c) c=true:=Se s23
  have d1:dtN 2 (jf d) (tC d a c) (tD d a s c) ns c=true:=QB.2 ⟨by omega,s10,hn⟩
  obtain⟨_,s12,q18⟩:=arw _ _ _ ns c d1
  have s12:aJ (ic d a s ns c) (jN d a s ns c) c=true:=s12
  have q18:dtL 7 (ie d a s ns c):=q18
  have d2:dtN 2 (jf d) (ic d a s ns c) (jN d a s ns c) ns c=true:=QB.2 ⟨by omega,s12,hn⟩
  obtain⟨_,s14,q19⟩:=arw _ _ _ ns c d2
  have s14:aJ (tE d a s ns c) (xz d a s ns c) c=true:=s14
  have q19:dtL 7 (tG d a s ns c):=q19
  have q23:dtL 1 (tI d a s ns c):=Hm (by simp only [Dc];cases ay (dO d a s c) <;> exact Nat.zero_le _)
  have q24:dtL 1 (tJ d a s ns c):=Hm (by simp only [Dc];cases ay (dO d a s c) <;> exact Nat.zero_le _)
  have q20:dtL 14 (tH d a s ns c):=VS q18 q19 (by omega)
  have l18:=q18.2.1
  have l19:=q19.2.1
  have l20:=q20.2.1
  have l23:=q23.2.1
  have l24:=q24.2.1
  have p10:leN 1 (v8 [(4:Int),5,6,5,6,7,8,9,10,11,12])=true:=rfl
  refine⟨?_,?_,?_⟩
  ·simp only [Fy,h0,hs,s23,s10,d1,d2,s12,s14,p10,aG (show (ie d a s ns c).length + (tG d a s ns c).length≤9223372036854775807 by omega),aG (show ((ie d a s ns c).length + (tG d a s ns c).length) * 32≤140737488355328 by omega),
    aG (show (tH d a s ns c).length + (tI d a s ns c).length≤9223372036854775807 by omega),aG (show ((tH d a s ns c).length + (tI d a s ns c).length) * 32≤140737488355328 by omega),
    aG (show (ie d a s ns c).length + (tJ d a s ns c).length≤9223372036854775807 by omega),aG (show ((ie d a s ns c).length + (tJ d a s ns c).length) * 32≤140737488355328 by omega),
    allT,Bool.true_or,v4,Bool.not_false,Bool.false_or,Bool.and_self,cond_true]
  ·simp only [wy,wz,h0,cond_false]
   cases eE d a s c <;> simp only [cond_true,cond_false]
   ·exact qS (le s12) s12
   ·exact qS (le s14) s14
  ·simp only [wA,h0,cond_false]
   cases eE d a s c <;> simp only [cond_true,cond_false]
   ·exact VS q18 q24 (by omega)
   ·exact VS q20 q23 (by omega)
def VD:awE
 | [.one ⟨false,[.ptr 0 0]⟩,.one ⟨false,[.ref 1]⟩,.one ⟨false,[.val (.int .i64 a)]⟩],[.box 113 [.ref 2,.val (.int .i64 b),.val (.int .i64 c)],.row false 9 (.str) d,.row false 5 (.int .u8) e]=>some ⟨.one ⟨false,[.ref 3]⟩,[.box 113 [.ref 2,awF (wy a b c d e),awF (wz a b c d e)],.row false 9 arE d,.row false 5 apN e],[.row true 122 ab5 (wA a b c d e)],[dtN 3 a b c d e]⟩
 |_,_=>none
def wv:PF prog:=PF.alt agH VD (by
 intro args es o h bA;unfold VD at h;split at h
 ·rename_i a b c d e
  cases h
  have bA:=fv bA
  have hh:=(au4 a b c d e bA).1
  have en:=hh
  exact kj rfl (eT en) rfl rfl rfl
 ·cases h)
abbrev qy:=List asv×Int×Int×List (asv×(List (Int×(asv×Int))))×List asv×List Int
section
variable (a:List asv)(b c:Int)(d:ag4)(e:List asv)(f:arG)
def xW:Int:=nxV 4 (nxA (↑a.length:Int) b f) (nxS (↑a.length:Int) b c f) f
def xX:Int:=nxA 4 (nxA (↑a.length:Int) b f) f
def xY:Int:=nxS 4 (nxA (↑a.length:Int) b f) (nxS (↑a.length:Int) b c f) f
def Ie:ajC:= [(v9 a[v7 (nxV (↑a.length:Int) b c f)]? ByteArray.empty,wA (xW a b c f) (xX a b f) (xY a b c f) e f)]
def uv:List asv:=List.drop (v7 0) (List.take (v7 (nxV (↑a.length:Int) b c f)) a)
def Ig:Int:=qqq .i64 (nxV (↑a.length:Int) b c f + (1:Int))
def Co:List asv:=List.drop (v7 (Ig a b c f)) (List.take (v7 (↑a.length:Int)) a)
def Ko:Bool:=ltI 0 (↑a.length:Int)
def Zc:Bool:=aJ b c f
def Rn:Bool:=leI 0 (nxV (↑a.length:Int) b c f)
def Zd:Bool:=ltI (nxV (↑a.length:Int) b c f) (↑a.length:Int)
def Ze:Bool:=ltN (v7 (nxV (↑a.length:Int) b c f)) a.length
def Zf:Bool:=aJ (nxA (↑a.length:Int) b f) (nxS (↑a.length:Int) b c f) f
def Zg:Bool:=dtN 3 (xW a b c f) (xX a b f) (xY a b c f) e f
def Zh:Bool:=leN (v8 d + v8 (Ie a b c e f)) 9223372036854775807
def Zi:Bool:=leN ((v8 d + v8 (Ie a b c e f)) * 40) 140737488355328
end
def Zj:Bool:=leI 0 0
section
variable (a:List asv)(b c:Int)(d:ag4)(e:List asv)(f:arG)
def XA:Bool:=leI (nxV (↑a.length:Int) b c f) (↑a.length:Int)
def XB:Bool:=leN (0 + v8 (uv a b c f)) 9223372036854775807
def XC:Bool:=leN ((0 + v8 (uv a b c f)) * 16) 140737488355328
def XD:Bool:=leI 0 (Ig a b c f)
def XF:Bool:=leI (Ig a b c f) (↑a.length:Int)
def XG:Bool:=leI (↑a.length:Int) (↑a.length:Int)
def XH:Bool:=leN (v8 (uv a b c f) + v8 (Co a b c f)) 9223372036854775807
def XI:Bool:=leN ((v8 (uv a b c f) + v8 (Co a b c f)) * 16) 140737488355328
def xV:List asv:=uv a b c f++Co a b c f
def air:Int:=wy (xW a b c f) (xX a b f) (xY a b c f) e f
def ais:Int:=wz (xW a b c f) (xX a b f) (xY a b c f) e f
def Id:ag4:=d++Ie a b c e f
end
def ahv:qy→List (Nat×SV)
 |(_,_,_,_,_,_)=> [(7,(.one ⟨false,[.ref 0]⟩)),(0,(.one ⟨false,[.ptr 1 0]⟩)),(8,(.one ⟨false,[.ref 2]⟩)),(6,(.one ⟨false,[.ref 3]⟩))]
def ahm:qy→List (Nat×Entry)
 |(a,b,c,d,e,f)=> [(1,(.box 113 [.ref 4,awF b,awF c])),(3,(.row false 9 arE e)),(4,(.row false 5 apN f)),(0,(.row false 9 arE a)),(2,(.row true 142 aaZ d))]
def ahN:Nat→qy→List (Nat×SV)
 |_,(_,_,_,_,_,_)=> [(8,(.one ⟨false,[.ref 2]⟩))]
def ahE:Nat→qy→List (Nat×Entry)
 |_,(a,b,c,d,e,f)=> [(0,(.row false 9 arE a)),(1,(.box 113 [.ref 4,awF b,awF c])),(2,(.row true 142 aaZ d)),(3,(.row false 9 arE e)),(4,(.row false 5 apN f))]
def HC:qy→LT qy
 |(a,b,c,d,e,f)=> .ite (Ko a) (.need [Zc b c f] (.need [Rn a b c f,Zd a b c f,Ze a b c f,Zf a b c f,Zg a b c e f,Zh a b c d e f,Zi a b c d e f] (.need [Zj,Rn a b c f,XA a b c f,XB a b c f,XC a b c f,XD a b c f,XF a b c f,XG a,XH a b c f,XI a b c f] (.nrm ((xV a b c f),air a b c e f,ais a b c e f,Id a b c d e f,e,f) [(0,2048),(1,1),(2,1344),(3,3),(4,4)])))) (.ext 0 [(0,0),(1,1),(2,2),(3,3),(4,4)])
def OV(s:St):Option qy:=do
 let some ⟨none,.one ⟨false,[.ref 1984]⟩⟩:=s.look 7|none
 let some ⟨none,.one ⟨false,[.ptr 0 0]⟩⟩:=s.look 0|none
 let some ⟨none,.one ⟨false,[.ref 2112]⟩⟩:=s.look 8|none
 let some ⟨none,.one ⟨false,[.ref 1600]⟩⟩:=s.look 6|none
 let some (.box 113 [.ref 1,.val (.int .i64 b),.val (.int .i64 c)]):=s.ent 0|none
 let some (.row false 9 (.str) e):=s.ent 1600|none
 let some (.row false 5 (.int IntKind.u8) f):=s.ent 1|none
 let some (.row false 9 (.str) a):=s.ent 1984|none
 let some (.row true 142 (.pair .str (.sl 122 (.pair (.int .i64) (.pair .str (.int .i64))))) d):=s.ent 2112|none
 some (a,b,c,d,e,f)
def lv:Lp qy where
 h:=⟨[36,37,38,39,40,41,42,9,43,44,45,46,47,48,49,50,51,52,53,54,55,8,56,57,58,59,60,61,62,63,64,65,7],[1,3,4],[0,2],[]⟩
 JL:=ahv
 JE:=ahm
 XL:=ahN
 XE:=ahE
 q:=fun j=>match j with | _=> .exit 0
 tags:= [0]
 lt:=HC
 fuel:=fun(a,b,c,d,e,f)=>a.length + b.natAbs + c.natAbs + d.length + e.length + f.length
 fix:=fun(_,_,_,_,e,f) (a,b,c,d,_,_)=>(a,b,c,d,e,f)
 σ:= [(1,0),(3,1600),(4,1),(0,1984),(2,2112)]
 rd:=OV
 fz:= [1000007,1000006]
theorem aeT:LoopOk prog (fun k=>Nat.blt k Tryz.f80.ntmps) lv.F (bB f80 0):=by
 refine Lp.ok (tbl:= (T3z [am,wv])) (lf:= []) bj lv (by kernel_rfl) (LOk.nil _) (fun _=>rfl) (fun _ _=>rfl) ?_ ?_ ?_ ?_ (fun _=>rfl) ?_
 ·rintro⟨a,b,c,d,e,f⟩;kernel_rfl
 ·rintro⟨a,b,c,d,e,f⟩;kernel_rfl
 ·intro s x h
  have h:OV s=some x:=h
  unfold OV at h
  repeat' split at h
  all_goals cases h
  constructor<;>repeat(first|refine ab (by assumption) rfl ?_|refine aa rfl (by assumption) rfl ?_|exact rfl)
 ·rintro⟨a,b,c,d,e,f⟩;kernel_rfl
 ·rintro⟨a,b,c,d,e,f⟩ z;exact(And.intro rfl trivial)
section
variable (a b:Int)(c:arG)
def wL:Int:=nxV 4 (nxA 3 a c) (nxS 3 a b c) c
def iD:List asv:=List.take (v7 (wL a b c)) [ByteArray.mk #[120],ByteArray.mk #[121],ByteArray.mk #[122]]
def wM:Int:=nxA 4 (nxA 3 a c) c
def DE:Int:=nxS 4 (nxA 3 a c) (nxS 3 a b c) c
def zV:Int:=qqq .i64 ((1:Int) + nxV 2 (wM a c) (DE a b c) c)
def pD:List asv:=List.take (v7 (zV a b c)) [ByteArray.mk #[113],ByteArray.mk #[108,97,109,112]]
def zW:Int:=qqq .i64 ((1:Int) + nxV 3 a b c)
def ox:List asv:=List.take (v7 (zW a b c)) [ByteArray.mk #[97],ByteArray.mk #[98],ByteArray.mk #[107,101,121]]
def lg:List asv:=ox a b c++iD a b c
def Oi:List asv×Int×Int×ajC×List asv×arG:=(iD a b c++pD a b c,nxA 2 (wM a c) c,nxS 2 (wM a c) (DE a b c) c,[],lg a b c,c)
def Gh:Int×Int×ajC×List asv×arG:=(Lp.res lv (Oi a b c)).2.2
def mI:Int:=(Gh a b c).1
def Me:Int×ajC×List asv×arG:=(Gh a b c).2
def Bv:Int:=(Me a b c).1
def pM:Bool:=ltI 0 (nxV 3 (mI a b c) (Bv a b c) c)
def Bw:Int:=nxS 3 (mI a b c) (Bv a b c) c
def xU:Int:=nxV (↑(v8 (lg a b c)):Int) (nxA 3 (mI a b c) c) (Bw a b c) c
def To:Bool:=leN (0 + v8 (ox a b c)) 9223372036854775807
def Tp:Bool:=leN ((0 + v8 (ox a b c)) * 16) 140737488355328
def Tq:Bool:=leN (0 + v8 (iD a b c)) 9223372036854775807
def Tr:Bool:=leN ((0 + v8 (iD a b c)) * 16) 140737488355328
def jg:asv:=bif pM a b c then ByteArray.mk #[114,105,100,101]else ByteArray.mk #[114,105,100,101]
def ae:asv:=bif pM a b c then v9 (lg a b c)[v7 (xU a b c)]? ByteArray.empty else ByteArray.mk #[]
def na:Int:=bif pM a b c then nxA (↑(v8 (lg a b c)):Int) (nxA 3 (mI a b c) c) c else nxA 3 (mI a b c) c
def oC:Int:=bif pM a b c then nxS (↑(v8 (lg a b c)):Int) (nxA 3 (mI a b c) c) (Bw a b c) c else Bw a b c
def bF:List asv:=ox a b c
def bN:List asv:=iD a b c
def bO:List asv:=pD a b c
def bp:ag4:=((Me a b c).2).1
def Xz:Bool:=allT [aJ a b c,leI 0 (zW a b c),leI (zW a b c) (↑(v8 [ByteArray.mk #[97],ByteArray.mk #[98],ByteArray.mk #[107,101,121]]):Int),aJ (nxA 3 a c) (nxS 3 a b c) c,leI 0 (wL a b c),leI (wL a b c) (↑(v8 [ByteArray.mk #[120],ByteArray.mk #[121],ByteArray.mk #[122]]):Int),aJ (wM a c) (DE a b c) c,leI 0 (zV a b c),leI (zV a b c) (↑(v8 [ByteArray.mk #[113],ByteArray.mk #[108,97,109,112]]):Int),To a b c,Tp a b c,leN (v8 (ox a b c) + v8 (iD a b c)) 9223372036854775807,leN ((v8 (ox a b c) + v8 (iD a b c)) * 16) 140737488355328,Tq a b c,Tr a b c,leN (v8 (iD a b c) + v8 (pD a b c)) 9223372036854775807,leN ((v8 (iD a b c) + v8 (pD a b c)) * 16) 140737488355328,Lp.fin lv (Oi a b c),To a b c,Tp a b c,Tq a b c,Tr a b c,leN (0 + v8 (pD a b c)) 9223372036854775807,leN ((0 + v8 (pD a b c)) * 16) 140737488355328,aJ (mI a b c) (Bv a b c) c,!pM a b c||aJ (nxA 3 (mI a b c) c) (Bw a b c) c,!pM a b c||leI 0 (xU a b c),!pM a b c||ltI (xU a b c) (↑(v8 (lg a b c)):Int),!pM a b c||ltN (v7 (xU a b c)) (v8 (lg a b c))]
end
def adP:awE
 | [.one ⟨false,[.ptr 0 0]⟩],[.box 113 [.ref 1,.val (.int .i64 a),.val (.int .i64 b)],.row false 5 (.int .u8) c]=>some ⟨.one ⟨true,[.val (.string (jg a b c)),.ref 2,.ref 3,.ref 4,.val (.string (ae a b c)),.ref 5]⟩,[.box 113 [.ref 1,awF (na a b c),awF (oC a b c)],.row false 5 apN c],[.row true 9 arE (bF a b c),.row true 9 arE (bN a b c),.row true 9 arE (bO a b c),.row true 142 aaZ (bp a b c)],[Xz a b c]⟩
 |_,_=>none
def anj:PF prog:=PF.ofG prog (T3z [am,wv]) [(fun s=>lv.F (aex [(1000007,0),(1000006,0)] s))] bj 80 f80 func80 (LOk.fnT (l:= [bB f80 0]) (by kernel_rfl) (.cons (aeT.alias [(1000007,0),(1000006,0)]) (.nil _))) adP (by
 intro _ _ _ h;unfold adP at h;split at h<;>cases h;kernel_rfl)
abbrev jo:=Int×asv×asv×List Int×Int×Int×List asv×List asv×List asv×List (asv×(List (Int×(asv×Int))))×List Int
section
variable (a:Int)(b:arG)(c d:Int)(e:List asv)(f:arG)
def tZ:arG:= [nxV 2 c d f]
def Gn:Bool:=ltI a (↑e.length:Int)
def Gp:Bool:=aJ c d f
def Gq:Bool:=leN (v8 b + v8 (tZ c d f)) 9223372036854775807
def Gr:Bool:=leN ((v8 b + v8 (tZ c d f)) * 8) 140737488355328
def Gs:Int:=qqq .i64 (a + (1:Int))
def Gt:arG:=b++tZ c d f
def Gu:Int:=nxA 2 c f
def Gv:Int:=nxS 2 c d f
end
def ZF:jo→List (Nat×SV)
 |(a,_,_,_,_,_,_,_,_,_,_)=> [(6,(.one ⟨false,[awF a]⟩)),(3,(.one ⟨false,[.ptr 0 0]⟩)),(5,(.one ⟨false,[.ref 1]⟩)),(0,(.one ⟨false,[.ptr 2 0]⟩))]
def ZB:jo→List (Nat×Entry)
 |(_,a,b,c,d,e,f,g,i,j,k)=> [(0,(.box 43 [.val (.string a),.ref 3,.ref 4,.ref 5,.val (.string b),.ref 6])),(2,(.box 113 [.ref 7,awF d,awF e])),(3,(.row false 9 arE f)),(4,(.row false 9 arE g)),(5,(.row false 9 arE i)),(6,(.row false 142 aaZ j)),(7,(.row false 5 apN k)),(1,(.row true 2 aox c))]
def ZN:Nat→jo→List (Nat×SV)
 |_,(_,_,_,_,_,_,_,_,_,_,_)=> [(5,(.one ⟨false,[.ref 1]⟩))]
def ZJ:Nat→jo→List (Nat×Entry)
 |_,(_,a,b,c,d,e,f,g,i,j,k)=> [(0,(.box 43 [.val (.string a),.ref 3,.ref 4,.ref 5,.val (.string b),.ref 6])),(1,(.row true 2 aox c)),(2,(.box 113 [.ref 7,awF d,awF e])),(3,(.row false 9 arE f)),(4,(.row false 9 arE g)),(5,(.row false 9 arE i)),(6,(.row false 142 aaZ j)),(7,(.row false 5 apN k))]
def EJ:jo→LT jo
 |(a,b,c,d,e,f,g,i,j,k,l)=> .ite (Gn a g) (.need [Gp e f l,Gq d e f l,Gr d e f l] (.nrm ((Gs a),b,c,Gt d e f l,Gu e l,Gv e f l,g,i,j,k,l) [(0,0),(1,640),(2,2),(3,3),(4,4),(5,5),(6,6),(7,7)])) (.ext 0 [(0,0),(1,1),(2,2),(3,3),(4,4),(5,5),(6,6),(7,7)])
def EL(s:St):Option jo:=do
 let some ⟨none,.one ⟨false,[.val (.int .i64 a)]⟩⟩:=s.look 6|none
 let some ⟨none,.one ⟨false,[.ptr 448 0]⟩⟩:=s.look 3|none
 let some ⟨none,.one ⟨false,[.ref 576]⟩⟩:=s.look 5|none
 let some ⟨none,.one ⟨false,[.ptr 0 0]⟩⟩:=s.look 0|none
 let some (.box 43 [.val (.string b),.ref 1,.ref 2,.ref 3,.val (.string c),.ref 4]):=s.ent 448|none
 let some (.box 113 [.ref 5,.val (.int .i64 e),.val (.int .i64 f)]):=s.ent 0|none
 let some (.row false 9 (.str) g):=s.ent 1|none
 let some (.row false 9 (.str) i):=s.ent 2|none
 let some (.row false 9 (.str) j):=s.ent 3|none
 let some (.row false 142 (.pair .str (.sl 122 (.pair (.int .i64) (.pair .str (.int .i64))))) k):=s.ent 4|none
 let some (.row false 5 (.int IntKind.u8) l):=s.ent 5|none
 let some (.row true 2 (.int .i64) d):=s.ent 576|none
 some (a,b,c,d,e,f,g,i,j,k,l)
def fO:Lp jo where
 h:=⟨[8,9,10,11,12,15,16,17,18,19,5,13,14,6],[0,2,3,4,5,6,7],[1],[]⟩
 JL:=ZF
 JE:=ZB
 XL:=ZN
 XE:=ZJ
 q:=fun j=>match j with | _=> .exit 0
 tags:= [0]
 lt:=EJ
 fuel:=fun(a,b,c,d,e,f,g,i,k,l,m)=>a.natAbs + b.size + c.size + d.length + e.natAbs + f.natAbs + g.length + i.length + k.length + l.length + m.length
 fix:=fun(_,b,c,_,_,_,g,i,k,l,m) (a,_,_,d,e,f,_,_,_,_,_)=>(a,b,c,d,e,f,g,i,k,l,m)
 σ:= [(0,448),(2,0),(3,1),(4,2),(5,3),(6,4),(7,5),(1,576)]
 rd:=EL
theorem WN:LoopOk prog (fun k=>Nat.blt k Tryz.f98.ntmps) fO.F (bB f98 0):=by
 refine Lp.ok (tbl:= (T3z [am,aX])) (lf:= []) bj fO (by kernel_rfl) (LOk.nil _) (fun _=>rfl) (fun _ _=>rfl) ?_ ?_ ?_ ?_ (fun _=>rfl) ?_
 ·rintro⟨a,b,c,d,e,f,g,i,j,l,m⟩;kernel_rfl
 ·rintro⟨a,b,c,d,e,f,g,i,j,l,m⟩;kernel_rfl
 ·intro s x h
  have h:EL s=some x:=h
  unfold EL at h
  repeat' split at h
  all_goals cases h
  constructor<;>repeat(first|refine ab (by assumption) rfl ?_|refine aa rfl (by assumption) rfl ?_|exact rfl)
 ·rintro⟨a,b,c,d,e,f,g,i,j,l,m⟩;kernel_rfl
 ·rintro⟨a,b,c,d,e,f,g,i,j,l,m⟩ z;exact(And.intro rfl trivial)
section
variable (a b:asv)(c d:Int)(e f g:List asv)(i:ajC)(j:arG)
def De:Int×asv×asv×arG×Int×Int×List asv×List asv×List asv×ajC×arG:=((0:Int),a,b,[],c,d,e,f,g,i,j)
def xD:arG×Int×Int×List asv×List asv×List asv×ajC×arG:=(Lp.res fO (De a b c d e f g i j)).2.2.2.2
def Df:Int×Int×List asv×List asv×List asv×ajC×arG:=(xD a b c d e f g i j).2
def tL:Int:=(Df a b c d e f g i j).1
def xE:Int:=((Df a b c d e f g i j).2).1
def Sx:Int:=nxV 40 (tL a b c d e f g i j) (xE a b c d e f g i j) j
def lM:Bool:=Sx a b c d e f g i j==0
def lN:Int:=nxA 40 (tL a b c d e f g i j) j
def qx:Bool:=Sx a b c d e f g i j==1
def jO:arG:=(xD a b c d e f g i j).1
def gr:Bool:=ltI 0 (↑(v8 (jO a b c d e f g i j)):Int)
def ni:Int:=nxS 40 (tL a b c d e f g i j) (xE a b c d e f g i j) j
def nh:Int:=bif lM a b c d e f g i j then lN a b c d e f g i j else bif qx a b c d e f g i j then bif gr a b c d e f g i j then pkA (lN a b c d e f g i j) [(-1:Int),(2:Int)] j else lN a b c d e f g i j else lN a b c d e f g i j
def oZ:Int:=bif lM a b c d e f g i j then ni a b c d e f g i j else bif qx a b c d e f g i j then bif gr a b c d e f g i j then pkS (lN a b c d e f g i j) (ni a b c d e f g i j) [(-1:Int),(2:Int)] j else ni a b c d e f g i j else ni a b c d e f g i j
def vd:arG:=bif lM a b c d e f g i j then jO a b c d e f g i j++ [(0:Int)]else bif qx a b c d e f g i j then bif gr a b c d e f g i j then List.set (jO a b c d e f g i j) (v7 0) (pkV (lN a b c d e f g i j) (ni a b c d e f g i j) [(-1:Int),(2:Int)] j)else jO a b c d e f g i j else jO a b c d e f g i j
def Eh:Bool:=allT [Lp.fin fO (De a b c d e f g i j),aJ (tL a b c d e f g i j) (xE a b c d e f g i j) j,!lM a b c d e f g i j||leN (v8 (jO a b c d e f g i j) + v8 [(0:Int)]) (9223372036854775807:Nat),!lM a b c d e f g i j||leN ((v8 (jO a b c d e f g i j) + v8 [(0:Int)]) * (8:Nat)) 140737488355328,lM a b c d e f g i j||(!qx a b c d e f g i j||(!gr a b c d e f g i j||aJ (lN a b c d e f g i j) (ni a b c d e f g i j) j&&leN 1 (v8 [(-1:Int),(2:Int)]))),lM a b c d e f g i j||(!qx a b c d e f g i j||(!gr a b c d e f g i j||leI 0 0)),lM a b c d e f g i j||(!qx a b c d e f g i j||(!gr a b c d e f g i j||gr a b c d e f g i j)),lM a b c d e f g i j||(!qx a b c d e f g i j||(!gr a b c d e f g i j||ltN (v7 0) (v8 (jO a b c d e f g i j))))]
end
def Uh:awE
 | [.one ⟨false,[.ptr 0 0]⟩,.one ⟨true,[.val (.string a),.ref 1,.ref 2,.ref 3,.val (.string b),.ref 4]⟩],[.box 113 [.ref 5,.val (.int .i64 c),.val (.int .i64 d)],.row false 9 (.str) e,.row false 9 (.str) f,.row false 9 (.str) g,.row false 142 (.pair (.str) (.sl 122 (.pair (.int .i64) (.pair (.str) (.int .i64))))) i,.row false 5 (.int .u8) j]=>some ⟨.one ⟨false,[.ref 6]⟩,[.box 113 [.ref 5,awF (nh a b c d e f g i j),awF (oZ a b c d e f g i j)],.row false 9 arE e,.row false 9 arE f,.row false 9 arE g,.row false 142 (CTy.pair CTy.str (CTy.sl (122:TypeId) ab5)) i,.row false 5 apN j],[.row true 2 aox (vd a b c d e f g i j)],[Eh a b c d e f g i j]⟩
 |_,_=>none
def fw:PF prog:=PF.ofG prog (T3z [am,aX]) [fO.F] bj 98 f98 func98 (LOk.fnT (l:= [bB f98 0]) (by kernel_rfl) (.cons WN (.nil _))) Uh (by
 intro _ _ _ h;unfold Uh at h;split at h<;>cases h;kernel_rfl)
abbrev iH:=Int×List (List Int)×List Int
section
variable (a:Int)(b:aq6)(c:arG)
def EP:Bool:=leI 0 a
def EQ:Bool:=leN c.length (1048576:Nat)
def ER:Bool:=leN (v8 b + v8 [c]) (9223372036854775807:Nat)
def ES:Bool:=leN ((v8 b + v8 [c]) * (24:Nat)) 140737488355328
def ET:Int:=qqq .i64 (a - (1:Int))
def EU:aq6:=b++ [c]
end
def Yo:iH→List (Nat×SV)
 |(a,_,_)=> [(8,(.one ⟨false,[awF a]⟩)),(5,(.one ⟨false,[.ref 0]⟩)),(7,(.one ⟨false,[.ref 1]⟩))]
def Ym:iH→List (Nat×Entry)
 |(_,a,b)=> [(1,(.row true 2 aox b)),(0,(.row true 28 alK a))]
def Ys:Nat→iH→List (Nat×SV)
 |_,(_,_,_)=> [(5,(.one ⟨false,[.ref 0]⟩))]
def Yq:Nat→iH→List (Nat×Entry)
 |_,(_,a,b)=> [(0,(.row true 28 alK a)),(1,(.row true 2 aox b))]
def Du:iH→LT iH
 |(a,b,c)=> .ite (EP a) (.need [EQ c,ER b c,ES b c] (.nrm ((ET a),EU b c,c) [(0,448),(1,1)])) (.ext 0 [(0,0),(1,1)])
def Dw(s:St):Option iH:=do
 let some ⟨none,.one ⟨false,[.val (.int .i64 a)]⟩⟩:=s.look 8|none
 let some ⟨none,.one ⟨false,[.ref 2]⟩⟩:=s.look 5|none
 let some ⟨none,.one ⟨false,[.ref 320]⟩⟩:=s.look 7|none
 let some (.row true 2 (.int .i64) c):=s.ent 320|none
 let some (.row true 28 (.sl 2 (.int .i64)) b):=s.ent 2|none
 some (a,b,c)
def fu:Lp iH where
 h:=⟨[21,22,25,26,27,28,29,5,23,24,8],[1],[0],[]⟩
 JL:=Yo
 JE:=Ym
 XL:=Ys
 XE:=Yq
 q:=fun j=>match j with | _=> .exit 2
 tags:= [0]
 lt:=Du
 fuel:=fun(a,b,c)=>a.natAbs + b.length + c.length
 fix:=fun(_,_,c) (a,b,_)=>(a,b,c)
 σ:= [(1,320),(0,2)]
 rd:=Dw
theorem VW:LoopOk prog (memN [12,13,16,17,18,7,19,20,8,21,22,25,26,27,28,29,5,23,24,14,15,6]) fu.F (aab (bB f53 0) 0):=by
 refine Lp.ok (tbl:= (T3z [fw,am,aF])) (lf:= []) bj fu (by kernel_rfl) (LOk.nil _) (fun _=>rfl) (fun _ _=>rfl) ?_ ?_ ?_ ?_ (fun _=>rfl) ?_
 ·rintro⟨a,b,c⟩;kernel_rfl
 ·rintro⟨a,b,c⟩;kernel_rfl
 ·intro s x h
  have h:Dw s=some x:=h
  unfold Dw at h
  repeat' split at h
  all_goals cases h
  constructor<;>repeat(first|refine ab (by assumption) rfl ?_|refine aa rfl (by assumption) rfl ?_|exact rfl)
 ·rintro⟨a,b,c⟩;kernel_rfl
 ·rintro⟨a,b,c⟩ z;exact(And.intro rfl trivial)
abbrev lC:=Int×Int×Int×asv×asv×List (List Int)×List Int×List asv×List asv×List asv×List (asv×(List (Int×(asv×Int))))
section
variable (a b c:Int)(d e:asv)(f:aq6)(g:arG)(i j k:List asv)(l:ag4)
def Bf:Int×aq6×arG:=(nxV 4 (nh d e b c i j k l g) (oZ d e b c i j k l g) g,f,vd d e b c i j k l g)
def JI:Bool:=ltI 0 a
def JJ:Bool:=Eh d e b c i j k l g
def Sy:Bool:=aJ (nh d e b c i j k l g) (oZ d e b c i j k l g) g
def Sz:Bool:=Lp.fin fu (Bf b c d e f g i j k l)
def JK:Int:=qqq .i64 (a - (1:Int))
def SA:Int:=nxA 4 (nh d e b c i j k l g) g
def SB:Int:=nxS 4 (nh d e b c i j k l g) (oZ d e b c i j k l g) g
def JM:aq6:=((Lp.res fu (Bf b c d e f g i j k l)).2.2).1
end
def abF:lC→List (Nat×SV)
 |(a,_,_,_,_,_,_,_,_,_,_)=> [(6,(.one ⟨false,[awF a]⟩)),(0,(.one ⟨false,[.ptr 0 0]⟩)),(3,(.one ⟨false,[.ptr 1 0]⟩)),(5,(.one ⟨false,[.ref 2]⟩))]
def abA:lC→List (Nat×Entry)
 |(_,a,b,c,d,e,f,g,i,j,k)=> [(0,(.box 113 [.ref 3,awF a,awF b])),(1,(.box 43 [.val (.string c),.ref 4,.ref 5,.ref 6,.val (.string d),.ref 7])),(3,(.row false 5 apN f)),(4,(.row false 9 arE g)),(5,(.row false 9 arE i)),(6,(.row false 9 arE j)),(7,(.row false 142 aaZ k)),(2,(.row true 28 alK e))]
def abP:Nat→lC→List (Nat×SV)
 |_,(_,_,_,_,_,_,_,_,_,_,_)=> [(5,(.one ⟨false,[.ref 2]⟩))]
def abK:Nat→lC→List (Nat×Entry)
 |_,(_,a,b,c,d,e,f,g,i,j,k)=> [(0,(.box 113 [.ref 3,awF a,awF b])),(1,(.box 43 [.val (.string c),.ref 4,.ref 5,.ref 6,.val (.string d),.ref 7])),(2,(.row true 28 alK e)),(3,(.row false 5 apN f)),(4,(.row false 9 arE g)),(5,(.row false 9 arE i)),(6,(.row false 9 arE j)),(7,(.row false 142 aaZ k))]
def HD:lC→LT lC
 |(a,b,c,d,e,f,g,i,j,k,l)=> .ite (JI a) (.need [JJ b c d e g i j k l] (.need [Sy b c d e g i j k l] (.need [Sz b c d e f g i j k l] (.nrm ((JK a),SA b c d e g i j k l,SB b c d e g i j k l,d,e,JM b c d e f g i j k l,g,i,j,k,l) [(0,0),(1,1),(2,640),(3,3),(4,4),(5,5),(6,6),(7,7)])))) (.ext 0 [(0,0),(1,1),(2,2),(3,3),(4,4),(5,5),(6,6),(7,7)])
def HN(s:St):Option lC:=do
 let some ⟨none,.one ⟨false,[.val (.int .i64 a)]⟩⟩:=s.look 6|none
 let some ⟨none,.one ⟨false,[.ptr 0 0]⟩⟩:=s.look 0|none
 let some ⟨none,.one ⟨false,[.ptr 448 0]⟩⟩:=s.look 3|none
 let some ⟨none,.one ⟨false,[.ref 576]⟩⟩:=s.look 5|none
 let some (.box 113 [.ref 5,.val (.int .i64 b),.val (.int .i64 c)]):=s.ent 0|none
 let some (.box 43 [.val (.string d),.ref 1,.ref 2,.ref 3,.val (.string e),.ref 4]):=s.ent 448|none
 let some (.row false 5 (.int IntKind.u8) g):=s.ent 5|none
 let some (.row false 9 (.str) i):=s.ent 1|none
 let some (.row false 9 (.str) j):=s.ent 2|none
 let some (.row false 9 (.str) k):=s.ent 3|none
 let some (.row false 142 (.pair .str (.sl 122 (.pair (.int .i64) (.pair .str (.int .i64))))) l):=s.ent 4|none
 let some (.row true 28 (.sl 2 (.int .i64)) f):=s.ent 576|none
 some (a,b,c,d,e,f,g,i,j,k,l)
def iK:Lp lC where
 h:=⟨[12,13,16,17,18,7,19,20,8,21,22,25,26,27,28,29,5,23,24,14,15,6],[0,1,3,4,5,6,7],[2],[]⟩
 JL:=abF
 JE:=abA
 XL:=abP
 XE:=abK
 q:=fun j=>match j with | _=> .exit 0
 tags:= [0]
 lt:=HD
 fuel:=fun(a,b,c,d,e,f,g,i,k,l,m)=>a.natAbs + b.natAbs + c.natAbs + d.size + e.size + f.length + g.length + i.length + k.length + l.length + m.length
 fix:=fun(_,_,_,d,e,_,g,i,k,l,m) (a,b,c,_,_,f,_,_,_,_,_)=>(a,b,c,d,e,f,g,i,k,l,m)
 σ:= [(0,0),(1,448),(3,5),(4,1),(5,2),(6,3),(7,4),(2,576)]
 rd:=HN
theorem aae:LoopOk prog (fun k=>Nat.blt k Tryz.f53.ntmps) iK.F (bB f53 0):=by
 refine Lp.ok (tbl:= (T3z [fw,am,aF])) (lf:= [fu.F]) bj iK (by kernel_rfl) (LOk.allT (l:= [aab (bB f53 0) 0]) (by kernel_rfl) (.cons VW (.nil _))) (fun _=>rfl) (fun _ _=>rfl) ?_ ?_ ?_ ?_ (fun _=>rfl) ?_
 ·rintro⟨a,b,c,d,e,f,g,i,j,m,n⟩;kernel_rfl
 ·rintro⟨a,b,c,d,e,f,g,i,j,m,n⟩;kernel_rfl
 ·intro s x h
  have h:HN s=some x:=h
  unfold HN at h
  repeat' split at h
  all_goals cases h
  constructor<;>repeat(first|refine ab (by assumption) rfl ?_|refine aa rfl (by assumption) rfl ?_|exact rfl)
 ·rintro⟨a,b,c,d,e,f,g,i,j,m,n⟩;kernel_rfl
 ·rintro⟨a,b,c,d,e,f,g,i,j,m,n⟩ z;exact(And.intro rfl trivial)
abbrev lD:=List (List Int)×Int×Int×asv×asv×List Int×List asv×List asv×List asv×List (asv×(List (Int×(asv×Int))))
section
variable (a:aq6)(b c:Int)(d:arG)(e:List asv)
def wj:aq6:= [qqw (v7 (↑e.length:Int)) (0:Int)]
def JN:Bool:=aJ b c d
def JO:Bool:=ltI (↑a.length:Int) (qqq .i64 ((200:Int) + nxV 2 b c d))
def JP:Bool:=leI 0 (↑e.length:Int)
def JQ:Bool:=leI (↑e.length:Int) (↑e.length:Int)
def JR:Bool:=leI ((↑(8:Nat):Int) * (↑e.length:Int)) 281474976710656
def JS:Bool:=leI (↑e.length:Int) 9223372036854775807
def JT:Bool:=leN (v8 a + v8 (wj e)) 9223372036854775807
def JU:Bool:=leN ((v8 a + v8 (wj e)) * 24) 140737488355328
def JV:aq6:=a++wj e
def tM:Int:=nxA 2 b d
def sg:Int:=nxS 2 b c d
end
def abG:lD→List (Nat×SV)
 |(_,_,_,_,_,_,_,_,_,_)=> [(5,(.one ⟨false,[.ref 0]⟩)),(0,(.one ⟨false,[.ptr 1 0]⟩)),(3,(.one ⟨false,[.ptr 2 0]⟩))]
def abB:lD→List (Nat×Entry)
 |(a,b,c,d,e,f,g,i,j,k)=> [(1,(.box 113 [.ref 3,awF b,awF c])),(2,(.box 43 [.val (.string d),.ref 4,.ref 5,.ref 6,.val (.string e),.ref 7])),(3,(.row false 5 apN f)),(4,(.row false 9 arE g)),(5,(.row false 9 arE i)),(6,(.row false 9 arE j)),(7,(.row false 142 aaZ k)),(0,(.row true 28 alK a))]
def abQ:Nat→lD→List (Nat×SV)
 |_,(_,_,_,_,_,_,_,_,_,_)=> [(5,(.one ⟨false,[.ref 0]⟩))]
def abL:Nat→lD→List (Nat×Entry)
 |_,(a,b,c,d,e,f,g,i,j,k)=> [(0,(.row true 28 alK a)),(1,(.box 113 [.ref 3,awF (tM b f),awF (sg b c f)])),(2,(.box 43 [.val (.string d),.ref 4,.ref 5,.ref 6,.val (.string e),.ref 7])),(3,(.row false 5 apN f)),(4,(.row false 9 arE g)),(5,(.row false 9 arE i)),(6,(.row false 9 arE j)),(7,(.row false 142 aaZ k))]
def HE:lD→LT lD
 |(a,b,c,d,e,f,g,i,j,k)=> .need [JN b c f] (.ite (JO a b c f) (.need [JP g,JQ g,JR g,JS g,JT a g,JU a g] (.nrm ((JV a g),tM b f,sg b c f,d,e,f,g,i,j,k) [(0,832),(1,1),(2,2),(3,3),(4,4),(5,5),(6,6),(7,7)])) (.ext 0 [(0,0),(1,1),(2,2),(3,3),(4,4),(5,5),(6,6),(7,7)]))
def HO(s:St):Option lD:=do
 let some ⟨none,.one ⟨false,[.ref 896]⟩⟩:=s.look 5|none
 let some ⟨none,.one ⟨false,[.ptr 0 0]⟩⟩:=s.look 0|none
 let some ⟨none,.one ⟨false,[.ptr 448 0]⟩⟩:=s.look 3|none
 let some (.box 113 [.ref 5,.val (.int .i64 b),.val (.int .i64 c)]):=s.ent 0|none
 let some (.box 43 [.val (.string d),.ref 1,.ref 2,.ref 3,.val (.string e),.ref 4]):=s.ent 448|none
 let some (.row false 5 (.int IntKind.u8) f):=s.ent 5|none
 let some (.row false 9 (.str) g):=s.ent 1|none
 let some (.row false 9 (.str) i):=s.ent 2|none
 let some (.row false 9 (.str) j):=s.ent 3|none
 let some (.row false 142 (.pair .str (.sl 122 (.pair (.int .i64) (.pair .str (.int .i64))))) k):=s.ent 4|none
 let some (.row true 28 (.sl 2 (.int .i64)) a):=s.ent 896|none
 some (a,b,c,d,e,f,g,i,j,k)
def eV:Lp lD where
 h:=⟨[33,34,35,36,37,38,39,40,41,42,43,44,45,5],[1,2,3,4,5,6,7],[0],[]⟩
 JL:=abG
 JE:=abB
 XL:=abQ
 XE:=abL
 q:=fun j=>match j with | _=> .exit 4
 tags:= [0]
 lt:=HE
 fuel:=fun(a,b,c,d,e,f,g,i,k,l)=>a.length + b.natAbs + c.natAbs + d.size + e.size + f.length + g.length + i.length + k.length + l.length
 fix:=fun(_,_,_,d,e,f,g,i,k,l) (a,b,c,_,_,_,_,_,_,_)=>(a,b,c,d,e,f,g,i,k,l)
 σ:= [(1,0),(2,448),(3,5),(4,1),(5,2),(6,3),(7,4),(0,896)]
 rd:=HO
theorem aaf:LoopOk prog (fun k=>Nat.blt k Tryz.f53.ntmps) eV.F (bB f53 1):=by
 refine Lp.ok (tbl:= (T3z [fw,am,aF])) (lf:= []) bj eV (by kernel_rfl) (LOk.nil _) (fun _=>rfl) (fun _ _=>rfl) ?_ ?_ ?_ ?_ (fun _=>rfl) ?_
 ·rintro⟨a,b,c,d,e,f,g,i,j,l⟩;kernel_rfl
 ·rintro⟨a,b,c,d,e,f,g,i,j,l⟩;kernel_rfl
 ·intro s x h
  have h:HO s=some x:=h
  unfold HO at h
  repeat' split at h
  all_goals cases h
  constructor<;>repeat(first|refine ab (by assumption) rfl ?_|refine aa rfl (by assumption) rfl ?_|exact rfl)
 ·rintro⟨a,b,c,d,e,f,g,i,j,l⟩;kernel_rfl
 ·rintro⟨a,b,c,d,e,f,g,i,j,l⟩ z;exact(And.intro rfl trivial)
section
variable (a b:asv)(c d:Int)(e f g:List asv)(i:ajC)(j:arG)
def Fz:arG×List asv×List asv×List asv×ajC:=(j,e,f,g,i)
def FA:Int×Int×Int×asv×asv×aq6×arG×List asv×List asv×List asv×ajC:=(nxV 8 c d j,nxA 8 c j,nxS 8 c d j,a,b,[],Fz e f g i j)
def AF:Int×Int×asv×asv×aq6×arG×List asv×List asv×List asv×ajC:=(Lp.res iK (FA a b c d e f g i j)).2.2
def wB:Int:=(AF a b c d e f g i j).1
def FB:Int×asv×asv×aq6×arG×List asv×List asv×List asv×ajC:=(AF a b c d e f g i j).2
def AG:Int:=(FB a b c d e f g i j).1
def AH:Bool:=nxV 80 (wB a b c d e f g i j) (AG a b c d e f g i j) j==0
def FC:aq6:=((FB a b c d e f g i j).2.2.2).1
def FD:Int:=nxA 80 (wB a b c d e f g i j) j
def FE:Int:=nxS 80 (wB a b c d e f g i j) (AG a b c d e f g i j) j
def ve:aq6×Int×Int×asv×asv×arG×List asv×List asv×List asv×ajC:=(FC a b c d e f g i j,FD a b c d e f g i j,FE a b c d e f g i j,a,b,Fz e f g i j)
def zl:Int×Int×asv×asv×arG×List asv×List asv×List asv×ajC:=(Lp.res eV (ve a b c d e f g i j)).2.2
def Ei:Int:=(zl a b c d e f g i j).1
def pu:Int:=bif AH a b c d e f g i j then tM (Ei a b c d e f g i j) j else FD a b c d e f g i j
def ru:Int:=bif AH a b c d e f g i j then sg (Ei a b c d e f g i j) (((zl a b c d e f g i j).2).1) j else FE a b c d e f g i j
def aY:aq6:=bif AH a b c d e f g i j then ((Lp.res eV (ve a b c d e f g i j)).2).1else FC a b c d e f g i j
def Pv:Bool:=allT [aJ c d j,Lp.fin iK (FA a b c d e f g i j),aJ (wB a b c d e f g i j) (AG a b c d e f g i j) j,!AH a b c d e f g i j||Lp.fin eV (ve a b c d e f g i j)]
end
def Wp:awE
 | [.one ⟨false,[.ptr 0 0]⟩,.one ⟨true,[.val (.string a),.ref 1,.ref 2,.ref 3,.val (.string b),.ref 4]⟩],[.box 113 [.ref 5,.val (.int .i64 c),.val (.int .i64 d)],.row false 9 (.str) e,.row false 9 (.str) f,.row false 9 (.str) g,.row false 142 (.pair (.str) (.sl 122 (.pair (.int .i64) (.pair (.str) (.int .i64))))) i,.row false 5 (.int .u8) j]=>some ⟨.one ⟨false,[.ref 6]⟩,[.box 113 [.ref 5,awF (pu a b c d e f g i j),awF (ru a b c d e f g i j)],.row false 9 arE e,.row false 9 arE f,.row false 9 arE g,.row false 142 (CTy.pair CTy.str (CTy.sl (122:TypeId) ab5)) i,.row false 5 apN j],[.row true 28 alK (aY a b c d e f g i j)],[Pv a b c d e f g i j]⟩
 |_,_=>none
def aik:PF prog:=PF.ofG prog (T3z [fw,am,aF]) [iK.F,eV.F] bj 53 f53 func53 (LOk.fnT (l:= [bB f53 0,bB f53 1]) (by kernel_rfl) (.cons aae (.cons aaf (.nil _)))) Wp (by
 intro _ _ _ h;unfold Wp at h;split at h<;>cases h;kernel_rfl)
theorem S1:(∀ b:Bool,(b||false)=b)∧((false=true)=False)∧(∀ a b:Bool,((a&&b)=true)=(a=true∧b=true))∧(∀ a b:Int,(ltI a b=true)=(a < b))∧(∀ a b:Int,(leI a b=true)=(a≤b))∧(∀ a b:Int,(ltI a b=false)=(b≤a))∧(∀ a b:Int,(leI a b=false)=(b < a)):=by and_intros <;> intros <;> simp
theorem S2:(∀ (α:Type) (a b:List α),(a++b).length=a.length + b.length)∧(∀ (α:Type) (a:α) (l:List α),(a::l).length=l.length + 1)∧(∀ α:Type,([]:List α).length=0):=by and_intros <;> intros <;> simp
theorem uq{a b:Bool}(h:b=true):(a||b)=true:=by rw [h,v4]
theorem KV{b:Bool}{l:List Bool}:allT (b::l)=true↔b=true∧allT l=true:=by cases b <;> simp [allT]
theorem KW:allT []=true↔True:=by simp [allT]
theorem fS{α:Type}{t:Bool}{l l':List α}{n:Nat}(h:l.length≤n)(h':l'.length≤n):(bif t then l else l').length≤n:=by cases t <;> assumption
def LT.ok{X:Type}(J:X→Prop)(Q:Nat→Prop):LT X→Prop
 | .nrm x _=>J x
 | .ext j _=>Q j
 | .need nd t=>allT nd=true∧t.ok J Q
 | .ite b t e=>(b=true→t.ok J Q)∧(b=false→e.ok J Q)
theorem LT.ok_out{X:Type}{J:X→Prop}{Q:Nat→Prop}: ∀ {t:LT X},t.ok J Q→(∃ j,t.out=some (.inl j)∧Q j)∨ ∃ y,t.out=some (.inr y)∧J y
 | .nrm x _,h=> .inr ⟨x,rfl,h⟩
 | .ext j _,h=> .inl ⟨j,rfl,h⟩
 | .need nd t,h=>by
  simp only [LT.ok]at h
  simp only [LT.out,h.1,cond_true]
  exact LT.ok_out (t:=t) h.2
 | .ite b t e,h=>by
  simp only [LT.ok]at h
  simp only [LT.out]
  cases b with
  |true=>exact LT.ok_out (t:=t) (h.1 rfl)
  |false=>exact LT.ok_out (t:=e) (h.2 rfl)
theorem Lp.inv2{X:Type}(p:Lp X)(I:Nat→X→Prop)(Q:X→Prop)(hs: ∀ k x,I (k + 1) x→(p.lt x).ok (I k) (fun _=>Q x))(he: ∀ x,I 0 x→(p.lt x).ok (fun _=>False) (fun _=>Q x))
  (N:Nat) (x:X) (hN:N≤999) (h:I N x):p.fin x=true∧ ∃ j y,p.res x=(j,y)∧Q y:=
 p.inv I (fun _ y=>Q y) (fun k x hx=>LT.ok_out (hs k x hx)) (fun x hx=>by
  rcases LT.ok_out (he x hx)with h | ⟨_,_,h⟩
  ·exact h
  ·exact h.elim) N x hN h
theorem apn{α:Type}{l:List α}(h:ltI 0 (l.length:Int)=true):1≤l.length:=by have:=Kf.1 h;omega
 attribute [local irreducible] nxA nxS nxV pkA pkS pkV
theorem XN(c:arG)(x:jo)(hx:match x with | (a,b,d,e,f,g,i,l,m,n,o)=>(i.length:Int)≤a + (50:Nat)∧0≤a∧a≤(i.length:Int)∧(e.length:Int)=a∧aJ f g o=true∧o=c∧i.length≤50):
  fO.fin x=true∧ ∃ j y,fO.res x=(j,y)∧(match y with | (a,b,d,e,f,g,i,l,m,n,o)=>aJ f g c=true∧e.length≤50∧c=o):=by
 refine fO.inv2 (fun k x=>match x with | (a,b,d,e,f,g,i,l,m,n,o)=>(i.length:Int)≤a + k∧0≤a∧a≤(i.length:Int)∧(e.length:Int)=a∧aJ f g o=true∧o=c∧i.length≤50) (fun y=>match y with | (a,b,d,e,f,g,i,l,m,n,o)=>aJ f g c=true∧e.length≤50∧c=o) (fun k x hx=> ?_) (fun x hx=> ?_) 50 x (by omega) hx
 ·obtain⟨a,b,d,e,f,g,i,l,m,n,o⟩:=x
  obtain⟨h0,h1,h2,h3,h4,rfl,h6⟩:=hx
  skip
  simp only [fO,EJ,LT.ok,KV,KW,and_true,tZ,Gn,Gp,Gq,Gr,Gs,Gt,Gu,Gv,Bool.or_eq_true,q9]
  repeat' (first | refine And.intro ?_ ?_ | intro _)
  all_goals first
   |omega
   |(repeat (first | assumption | apply le | apply Se | apply qS | refine Or.inr ?_ | refine And.intro ?_ ?_ | exact trivial | exact aid _ _ | rfl)
     done)
   |((repeat refine Or.inr ?_)
     exact aG (by first | omega | (simp only [S2];omega)))
   |(simp only [S2]
     omega)
   |(repeat' apply fS
     all_goals first | omega | (simp only [S2];omega))
   |(try simp only [S1]at *
     rw [aR (by omega) (by omega)]
     first | omega | (simp only [S2];omega))
   |(simp only [S1]at *
     first | omega | (exfalso;omega))
   |(exfalso;simp_all;done)
 ·obtain⟨a,b,d,e,f,g,i,l,m,n,o⟩:=x
  obtain⟨h0,h1,h2,h3,h4,rfl,h6⟩:=hx
  skip
  skip
  simp only [fO,EJ,LT.ok,KV,KW,and_true,tZ,Gn,Gp,Gq,Gr,Gs,Gt,Gu,Gv,Bool.or_eq_true,q9]
  repeat' (first | refine And.intro ?_ ?_ | intro _)
  all_goals first
   |omega
   |(repeat (first | assumption | apply le | apply Se | apply qS | refine Or.inr ?_ | refine And.intro ?_ ?_ | exact trivial | exact aid _ _ | rfl)
     done)
   |((repeat refine Or.inr ?_)
     exact aG (by first | omega | (simp only [S2];omega)))
   |(simp only [S2]
     omega)
   |(repeat' apply fS
     all_goals first | omega | (simp only [S2];omega))
   |(try simp only [S1]at *
     rw [aR (by omega) (by omega)]
     first | omega | (simp only [S2];omega))
   |(simp only [S1]at *
     first | omega | (exfalso;omega))
   |(exfalso;simp_all;done)
theorem Gm(a b:asv)(c d:Int)(e f g:List asv)(i:List LN)(j:arG)(h:aJ c d j=true)(hi:e.length≤50):
  Eh a b c d e f g i j=true∧aJ (nh a b c d e f g i j) (oZ a b c d e f g i j) j=true∧(vd a b c d e f g i j).length≤60:=by
 obtain⟨f0,j0,⟨z0,z1,z2,z3,z4,z5,z6,z7,z8,z9,z10⟩,g0,q1,q2,q3⟩:=XN j (De a b c d e f g i j) (by
  simp only [De]
  exact⟨by omega,by omega,by omega,by simp,h,trivial,hi⟩)
 have e9:jO a b c d e f g i j=z3:=by simp only [jO,xD,g0]
 have e3:tL a b c d e f g i j=z4:=by simp only [tL,Df,xD,g0]
 have e4:xE a b c d e f g i j=z5:=by simp only [xE,Df,xD,g0]
 have s7:aJ (lN a b c d e f g i j) (ni a b c d e f g i j) j=true:=by
  simp only [lN,ni,e3,e4];exact le q1
 have k1:leN (z3.length + [(0:Int)].length) 9223372036854775807=true:=aG (by simp only [w7];omega)
 have k2:leN ((z3.length + [(0:Int)].length) * 8) 140737488355328=true:=aG (by simp only [w7];omega)
 have k3:leN 1 (v8 [(-1:Int),2])=true:=rfl
 have k4:gr a b c d e f g i j=true→ltN (v7 0) z3.length=true:=fun hh=>by
  simp only [gr,e9]at hh;exact dE (by have:=apn hh;simp only [Int.toNat_zero];omega)
 have k5:leI 0 0=true:=rfl
 refine⟨?_,?_,?_⟩
 ·simp only [Eh,f0,e3,e4,e9,q1,s7,k1,k2,k3,k5,allT,v4,Bool.and_self,cond_true]
  cases h10:gr a b c d e f g i j with
  |true=>simp only [k4 h10,v4,cond_true]
  |false=>simp only [Bool.not_false,Bool.true_or,v4,cond_true]
 ·simp only [nh,oZ]
  exact qS s7 (qS (qS (Se s7) s7) s7)
 ·simp only [vd,e9]
  refine fS (by rw [w8,w7];omega) (fS (fS (by rw [List.length_set];omega) (by omega)) (by omega))
theorem amz{a s:Int}{c:arG}{l:List asv}:(aJ a s c&&leN l.length 50)=true↔aJ a s c=true∧l.length≤50:=by simp only [q9,fc]
def Uq:awE
 | [.one ⟨false,[.ptr 0 0]⟩,.one ⟨true,[.val (.string a),.ref 1,.ref 2,.ref 3,.val (.string b),.ref 4]⟩],[.box 113 [.ref 5,.val (.int .i64 c),.val (.int .i64 d)],.row false 9 (.str) e,.row false 9 (.str) f,.row false 9 (.str) g,.row false 142 (.pair (.str) (.sl 122 (.pair (.int .i64) (.pair (.str) (.int .i64))))) i,.row false 5 (.int .u8) j]=>some ⟨.one ⟨false,[.ref 6]⟩,[.box 113 [.ref 5,awF (nh a b c d e f g i j),awF (oZ a b c d e f g i j)],.row false 9 arE e,.row false 9 arE f,.row false 9 arE g,.row false 142 (CTy.pair CTy.str (CTy.sl (122:TypeId) ab5)) i,.row false 5 apN j],[.row true 2 aox (vd a b c d e f g i j)],[aJ c d j&&leN e.length 50]⟩
 |_,_=>none
def Lw:PF prog:=PF.alt fw Uq (by
 intro args es o h bA;unfold Uq at h;split at h
 ·rename_i a b c d e f g i j
  cases h
  have bA:=fv bA
  have hh:=(Gm a b c d e f g i j (amz.1 bA).1 (amz.1 bA).2).1
  have en:=hh
  exact kj rfl (eT en) rfl rfl rfl
 ·cases h)
def ZR(n:Nat)(l:aq6):Bool:=l.all fun x=>leN x.length n
theorem ajs{n:Nat}{l:aq6}:ZR n l=true↔ ∀ x∈l,x.length≤n:=by simp only [ZR,List.all_eq_true,fc]
theorem ajr{n:Nat}{a:aq6}{b:arG}(h:ZR n a=true)(hb:b.length≤n):ZR n (a++ [b])=true:=by
 refine ajs.2 fun x hx=> ?_
 rcases j7.1 hx with hx | hx
 ·exact ajs.1 h x hx
 ·rw [qqj.1 hx];exact hb
theorem VZ(M:Nat)(x:iH)(hx:match x with | (a,b,c)=>a + 1≤(4:Nat)∧ -1≤a∧c.length≤60∧b.length + (4:Nat)≤M∧M≤1000∧ZR 60 b=true):
  fu.fin x=true∧ ∃ j y,fu.res x=(j,y)∧(match y with | (a,b,c)=>b.length≤M∧ZR 60 b=true):=by
 refine fu.inv2 (fun k x=>match x with | (a,b,c)=>a + 1≤k∧ -1≤a∧c.length≤60∧b.length + k≤M∧M≤1000∧ZR 60 b=true) (fun y=>match y with | (a,b,c)=>b.length≤M∧ZR 60 b=true) (fun k x hx=> ?_) (fun x hx=> ?_) 4 x (by omega) hx
 ·obtain⟨a,b,c⟩:=x
  obtain⟨h0,h1,h2,h3,h4,h5⟩:=hx
  skip
  simp only [fu,Du,LT.ok,KV,KW,and_true,EP,EQ,ER,ES,ET,EU,Bool.or_eq_true,q9]
  repeat' (first | refine And.intro ?_ ?_ | intro _)
  all_goals first
   |omega
   |(repeat (first | assumption | apply le | apply Se | apply qS | refine Or.inr ?_ | refine And.intro ?_ ?_ | exact trivial | exact aid _ _ | rfl | exact ajr ‹_› ‹_›)
     done)
   |((repeat refine Or.inr ?_)
     exact aG (by first | omega | (simp only [S2];omega)))
   |(simp only [S2]
     omega)
   |(repeat' apply fS
     all_goals first | omega | (simp only [S2];omega))
   |(try simp only [S1]at *
     rw [aR (by omega) (by omega)]
     first | omega | (simp only [S2];omega))
   |(simp only [S1]at *
     first | omega | (exfalso;omega))
   |(exfalso;simp_all;done)
 ·obtain⟨a,b,c⟩:=x
  obtain⟨h0,h1,h2,h3,h4,h5⟩:=hx
  skip
  skip
  simp only [fu,Du,LT.ok,KV,KW,and_true,EP,EQ,ER,ES,ET,EU,Bool.or_eq_true,q9]
  repeat' (first | refine And.intro ?_ ?_ | intro _)
  all_goals first
   |omega
   |(repeat (first | assumption | apply le | apply Se | apply qS | refine Or.inr ?_ | refine And.intro ?_ ?_ | exact trivial | exact aid _ _ | rfl | exact ajr ‹_› ‹_›)
     done)
   |((repeat refine Or.inr ?_)
     exact aG (by first | omega | (simp only [S2];omega)))
   |(simp only [S2]
     omega)
   |(repeat' apply fS
     all_goals first | omega | (simp only [S2];omega))
   |(try simp only [S1]at *
     rw [aR (by omega) (by omega)]
     first | omega | (simp only [S2];omega))
   |(simp only [S1]at *
     first | omega | (exfalso;omega))
   |(exfalso;simp_all;done)
theorem aao(c:arG)(x:lD)(hx:match x with | (a,b,d,e,f,g,i,l,m,o)=>202≤a.length + (202:Nat)∧aJ b d g=true∧i.length≤50∧a.length + (202:Nat)≤432∧ZR 60 a=true∧g=c):
  eV.fin x=true∧ ∃ j y,eV.res x=(j,y)∧(match y with | (a,b,d,e,f,g,i,l,m,o)=>aJ b d c=true∧a.length≤432∧ZR 60 a=true∧c=g):=by
 refine eV.inv2 (fun k x=>match x with | (a,b,d,e,f,g,i,l,m,o)=>202≤a.length + k∧aJ b d g=true∧i.length≤50∧a.length + k≤432∧ZR 60 a=true∧g=c) (fun y=>match y with | (a,b,d,e,f,g,i,l,m,o)=>aJ b d c=true∧a.length≤432∧ZR 60 a=true∧c=g) (fun k x hx=> ?_) (fun x hx=> ?_) 202 x (by omega) hx
 ·obtain⟨a,b,d,e,f,g,i,l,m,o⟩:=x
  obtain⟨h0,h1,h2,h3,h4,rfl⟩:=hx
  have nn:=Sn (n:=2) h1 (by omega);have hw:IntKind.i64.wrap (200 + nxV 2 b d g)=200 + nxV 2 b d g:=aR (by omega) (by omega);have hz:ZR 60 (a++ [qqw (v7 (↑i.length:Int)) (0:Int)])=true:=ajr h4 (by rw [v5,w5];omega)
  simp only [eV,HE,LT.ok,KV,KW,and_true,wj,JN,JO,JP,JQ,JR,JS,JT,JU,JV,tM,sg,Bool.or_eq_true,q9]
  repeat' (first | refine And.intro ?_ ?_ | intro _)
  all_goals first
   |omega
   |(repeat (first | assumption | apply le | apply Se | apply qS | refine Or.inr ?_ | refine And.intro ?_ ?_ | exact trivial | exact aid _ _ | rfl)
     done)
   |((repeat refine Or.inr ?_)
     exact aG (by first | omega | (simp only [S2];omega)))
   |(simp only [S2]
     omega)
   |(repeat' apply fS
     all_goals first | omega | (simp only [S2];omega))
   |(try simp only [S1]at *
     rw [aR (by omega) (by omega)]
     first | omega | (simp only [S2];omega))
   |(simp only [S1]at *
     first | omega | (exfalso;omega))
   |(exfalso;simp_all;done)
 ·obtain⟨a,b,d,e,f,g,i,l,m,o⟩:=x
  obtain⟨h0,h1,h2,h3,h4,rfl⟩:=hx
  have nn:=Sn (n:=2) h1 (by omega);have hw:IntKind.i64.wrap (200 + nxV 2 b d g)=200 + nxV 2 b d g:=aR (by omega) (by omega);have hz:ZR 60 (a++ [qqw (v7 (↑i.length:Int)) (0:Int)])=true:=ajr h4 (by rw [v5,w5];omega)
  have e0:ltI (a.length:Int) (IntKind.i64.wrap (200 + nxV 2 b d g))=false:=by rw [hw];exact yV (by omega)
  simp only [eV,HE,LT.ok,KV,KW,and_true,wj,JN,JO,JP,JQ,JR,JS,JT,JU,JV,tM,sg,Bool.or_eq_true,q9]
  repeat' (first | refine And.intro ?_ ?_ | intro _)
  all_goals first
   |omega
   |(repeat (first | assumption | apply le | apply Se | apply qS | refine Or.inr ?_ | refine And.intro ?_ ?_ | exact trivial | exact aid _ _ | rfl)
     done)
   |((repeat refine Or.inr ?_)
     exact aG (by first | omega | (simp only [S2];omega)))
   |(simp only [S2]
     omega)
   |(repeat' apply fS
     all_goals first | omega | (simp only [S2];omega))
   |(try simp only [S1]at *
     rw [aR (by omega) (by omega)]
     first | omega | (simp only [S2];omega))
   |(simp only [S1]at *
     first | omega | (exfalso;omega))
   |(exfalso;simp_all;done)
theorem aan(c:arG)(x:lC)(hx:match x with | (a,b,d,e,f,g,i,l,m,o,p)=>a≤((7:Nat):Int)∧aJ b d i=true∧l.length≤50∧g.length + 4 * (7:Nat)≤28∧ZR 60 g=true∧i=c):
  iK.fin x=true∧ ∃ j y,iK.res x=(j,y)∧(match y with | (a,b,d,e,f,g,i,l,m,o,p)=>aJ b d c=true∧g.length≤28∧ZR 60 g=true∧c=i):=by
 refine iK.inv2 (fun k x=>match x with | (a,b,d,e,f,g,i,l,m,o,p)=>a≤(k:Int)∧aJ b d i=true∧l.length≤50∧g.length + 4 * k≤28∧ZR 60 g=true∧i=c) (fun y=>match y with | (a,b,d,e,f,g,i,l,m,o,p)=>aJ b d c=true∧g.length≤28∧ZR 60 g=true∧c=i) (fun k x hx=> ?_) (fun x hx=> ?_) 7 x (by omega) hx
 ·obtain⟨a,b,d,e,f,g,i,l,m,o,p⟩:=x
  obtain⟨h0,h1,h2,h3,h4,rfl⟩:=hx
  obtain⟨d1,d2,d3⟩:=Gm e f b d l m o p i h1 h2
  have n4:=Sn (n:=4) d2 (by omega)
  obtain⟨f0,j0,⟨z0,z1,z2⟩,g0,q1,q2⟩:=VZ (g.length + 4) (Bf b d e f g i l m o p) (by
   simp only [Bf]
   exact⟨by omega,by omega,d3,by omega,by omega,h4⟩)
  have p1:JJ b d e f i l m o p=true:=by first | exact d1 | (simp only [JJ,h1,Bool.true_and];exact aG h2)
  have p2:Sy b d e f i l m o p=true:=d2
  have p3:Sz b d e f g i l m o p=true:=f0
  have p7:JM b d e f g i l m o p=z1:=by simp only [JM,g0]
  have p56:aJ (SA b d e f i l m o p) (SB b d e f i l m o p) i=true:=le d2
  have w4:ltI 0 a=true→JK a≤(k:Int):=fun h=>by
   have:=Kf.1 h
   simp only [JK];rw [aR (by omega) (by omega)];omega
  simp only [iK,HD,LT.ok,KV,KW,and_true,true_and,p1,p2,p3,p7,JI]
  exact⟨fun h=>⟨w4 h,p56,h2,by omega,q2⟩,fun _=>⟨h1,by omega,h4⟩⟩
 ·obtain⟨a,b,d,e,f,g,i,l,m,o,p⟩:=x
  obtain⟨h0,h1,h2,h3,h4,rfl⟩:=hx
  have e0:ltI 0 a=false:=yV (by omega)
  simp only [iK,HD,LT.ok,JI,e0,Bool.false_eq_true,false_implies,true_implies,true_and,and_true]
  exact⟨h1,by omega,h4⟩
theorem JH(a b:asv)(c d:Int)(e f g:List asv)(i:List LN)(j:arG)(h:aJ c d j=true)(hi:e.length≤50):
  Pv a b c d e f g i j=true∧aJ (pu a b c d e f g i j) (ru a b c d e f g i j) j=true∧(aY a b c d e f g i j).length≤432∧ZR 60 (aY a b c d e f g i j)=true:=by
 have n8:=Sn (n:=8) h (by omega)
 obtain⟨f0,j0,⟨z0,z1,z2,z3,z4,z5,z6,z7,z8,z9,z10⟩,g0,q1,q2,q3,q4⟩:=aan j (FA a b c d e f g i j) (by
  simp only [FA,Fz]
  exact⟨by omega,le h,hi,by simp,rfl,trivial⟩)
 have e3:wB a b c d e f g i j=z1:=by simp only [wB,AF,g0]
 have e5:AG a b c d e f g i j=z2:=by simp only [AG,FB,AF,g0]
 have e7:FC a b c d e f g i j=z5:=by simp only [FC,FB,AF,g0]
 have s8:aJ (FD a b c d e f g i j) (FE a b c d e f g i j) j=true:=by simp only [FD,FE,e3,e5];exact le q1
 obtain⟨f1,j1,⟨u0,u1,u2,u3,u4,u5,u6,u7,u8,u9⟩,g1,r1,r2,r3,r4⟩:=aao j (ve a b c d e f g i j) (by
  simp only [ve,Fz,e7]
  exact⟨by omega,s8,hi,by omega,q3,trivial⟩)
 have e12:Ei a b c d e f g i j=u1:=by simp only [Ei,zl,g1]
 have e13:((zl a b c d e f g i j).2).1=u2:=by simp only [zl,g1]
 have e14:((Lp.res eV (ve a b c d e f g i j)).2).1=u0:=by simp only [g1]
 refine⟨?_,?_,?_,?_⟩
 ·simp only [Pv,h,f0,f1,e3,e5,q1,allT,v4,cond_true]
 ·simp only [pu,ru,e12,e13,tM,sg]
  exact qS (le r1) s8
 ·simp only [aY,e7,e14]
  exact fS r2 (by omega)
 ·simp only [aY,e7,e14]
  cases AH a b c d e f g i j
  ·exact q3
  ·exact r3
def Wy:awE
 | [.one ⟨false,[.ptr 0 0]⟩,.one ⟨true,[.val (.string a),.ref 1,.ref 2,.ref 3,.val (.string b),.ref 4]⟩],[.box 113 [.ref 5,.val (.int .i64 c),.val (.int .i64 d)],.row false 9 (.str) e,.row false 9 (.str) f,.row false 9 (.str) g,.row false 142 (.pair (.str) (.sl 122 (.pair (.int .i64) (.pair (.str) (.int .i64))))) i,.row false 5 (.int .u8) j]=>some ⟨.one ⟨false,[.ref 6]⟩,[.box 113 [.ref 5,awF (pu a b c d e f g i j),awF (ru a b c d e f g i j)],.row false 9 arE e,.row false 9 arE f,.row false 9 arE g,.row false 142 (CTy.pair CTy.str (CTy.sl (122:TypeId) ab5)) i,.row false 5 apN j],[.row true 28 alK (aY a b c d e f g i j)],[aJ c d j&&leN e.length 50]⟩
 |_,_=>none
def po:PF prog:=PF.alt aik Wy (by
 intro args es o h bA;unfold Wy at h;split at h
 ·rename_i a b c d e f g i j
  cases h
  have bA:=fv bA
  have hh:=(JH a b c d e f g i j (amz.1 bA).1 (amz.1 bA).2).1
  have en:=hh
  exact kj rfl (eT en) rfl rfl rfl
 ·cases h)
end Go.SX
namespace Go.SX
open Go.Proofs Go.Proofs.Tryz
set_option maxRecDepth 100000
def WW(n:Nat)(l:List asv):Bool:=leN l.length n&&l.all fun s=>leN s.size 1000
def atq(n:Nat)(l:List TM):Bool:=leN l.length n&&l.all fun t=>leN t.2.1.size 1000
def aa4(n:Nat)(ls:List LN):Bool:=leN ls.length n&&ls.all fun l=>leN l.1.size 1000&&atq 100 l.2
def prD(nm:asv)(ins vs os:List asv)(g:asv)(ls:List LN):Bool:=leN nm.size 1000&&(WW 50 ins&&(WW 50 vs&&(WW 50 os&&(leN g.size 1000&&aa4 100 ls))))
theorem sF{n:Nat}{l:List asv}:WW n l=true↔l.length≤n∧ ∀ s∈l,s.size≤1000:=by simp only [WW,q9,fc,List.all_eq_true]
theorem abu{n:Nat}{l:List TM}:atq n l=true↔l.length≤n∧ ∀ t∈l,t.2.1.size≤1000:=by simp only [atq,q9,fc,List.all_eq_true]
theorem NG{n:Nat}{l:List LN}:aa4 n l=true↔l.length≤n∧ ∀ x∈l,x.1.size≤1000∧atq 100 x.2=true:=by simp only [aa4,q9,fc,List.all_eq_true]
theorem afM{nm:asv}{ins vs os:List asv}{g:asv}{ls:List LN}:prD nm ins vs os g ls=true↔
  nm.size≤1000∧WW 50 ins=true∧WW 50 vs=true∧WW 50 os=true∧g.size≤1000∧aa4 100 ls=true:=by simp only [prD,q9,fc]
theorem akI{n m:Nat}{l:List asv}(h:WW n l=true)(hm:n≤m):WW m l=true:=by
 obtain⟨h1,h2⟩:=sF.1 h;exact sF.2 ⟨by omega,h2⟩
theorem atd{n m:Nat}{l:List LN}(h:aa4 n l=true)(hm:n≤m):aa4 m l=true:=by
 obtain⟨h1,h2⟩:=NG.1 h;exact NG.2 ⟨by omega,h2⟩
theorem aqy{n m k:Nat}{a b:List asv}(ha:WW n a=true)(hb:WW m b=true)(h:n + m≤k):WW k (a++b)=true:=by
 obtain⟨h1,h2⟩:=sF.1 ha;obtain⟨h3,h4⟩:=sF.1 hb
 exact sF.2 ⟨by rw [w8];omega,fun s hs=>(j7.1 hs).elim (h2 s) (h4 s)⟩
theorem akJ{n:Nat}(k:Nat){l:List asv}(h:WW n l=true):WW n (l.take k)=true:=by
 obtain⟨h1,h2⟩:=sF.1 h
 exact sF.2 ⟨by rw [w9];omega,fun s hs=>h2 s (List.mem_of_mem_take hs)⟩
theorem atY{n:Nat}{a:List LN}{b:LN}(ha:aa4 n a=true)(h1:b.1.size≤1000)(h2:atq 100 b.2=true):aa4 (n + 1) (a++ [b])=true:=by
 obtain⟨k1,k2⟩:=NG.1 ha
 refine NG.2 ⟨by rw [w8,w7];omega,fun x hx=> ?_⟩
 rcases j7.1 hx with hx | hx
 ·exact k2 x hx
 ·rw [qqj.1 hx];exact⟨h1,h2⟩
theorem auy{n m:Nat}{l:List TM}(h:dtL n l)(hm:n≤m):atq m l=true:=abu.2 ⟨by have:=h.2.1;omega,h.2.2⟩
theorem ava{n:Nat}{l:List asv}(h:WW n l=true)(k:Nat):(v9 l[k]? ByteArray.empty).size≤1000:=by
 cases hk:l[k]? with
 |none=>exact Nat.zero_le _
 |some s=>exact(sF.1 h).2 s (List.mem_of_getElem? hk)
 attribute [local irreducible] nxA nxS nxV pkA pkS pkV
theorem afp(c:arG)(x:qy)(hx:match x with | (a,b,e,f,g,i)=>a.length≤(5:Nat)∧WW 50 a=true∧aJ b e i=true∧(f.length + a.length≤50∧1≤f.length + a.length)∧aa4 f.length f=true∧aqz g=true∧i=c):
  lv.fin x=true∧ ∃ j y,lv.res x=(j,y)∧(match y with | (a,b,e,f,g,i)=>aJ b e c=true∧(1≤f.length∧f.length≤50)∧aa4 f.length f=true∧c=i):=by
 refine lv.inv2 (fun k x=>match x with | (a,b,e,f,g,i)=>a.length≤k∧WW 50 a=true∧aJ b e i=true∧(f.length + a.length≤50∧1≤f.length + a.length)∧aa4 f.length f=true∧aqz g=true∧i=c) (fun y=>match y with | (a,b,e,f,g,i)=>aJ b e c=true∧(1≤f.length∧f.length≤50)∧aa4 f.length f=true∧c=i) (fun k x hx=> ?_) (fun x hx=> ?_) 5 x (by omega) hx
 ·obtain⟨a,b,e,f,g,i⟩:=x
  obtain⟨h0,h1,h2,⟨h3,h4⟩,h5,h6,rfl⟩:=hx
  cases ht:ltI 0 (a.length:Int)with
  |false=>
   have:=YO.1 ht
   simp only [lv,HC,LT.ok,Ko,ht,Bool.false_eq_true,false_implies,true_implies,true_and,and_true]
   exact⟨h2,by omega,h5⟩
  |true=>
   have hp:=apn ht
   obtain⟨i0,i1⟩:=Sn (n:=(a.length:Int)) h2 (by omega)
   have s5:aJ (nxA (a.length:Int) b i) (nxS (a.length:Int) b e i) i=true:=le h2
   have n4:=Sn (n:=4) s5 (by omega)
   have s12:aJ (xX a b i) (xY a b e i) i=true:=le s5
   have d:dtN 3 (xW a b e i) (xX a b i) (xY a b e i) g i=true:=QB.2 ⟨by simp only [xW];omega,s12,h6⟩
   obtain⟨_,t01,t2⟩:=au4 _ _ _ g i d
   have hw:Ig a b e i=nxV (a.length:Int) b e i + 1:=aR (by omega) (by omega)
   have l3:(Ie a b e g i).length=1:=rfl
   have l4:(uv a b e i).length=(nxV (a.length:Int) b e i).toNat:=by
    simp only [uv,Int.toNat_zero,List.drop_zero,w9];omega
   have l6:(Co a b e i).length=a.length - (nxV (a.length:Int) b e i + 1).toNat:=by
    simp only [Co,hw,w5,List.take_length,List.length_drop]
   have m18:WW 50 (xV a b e i)=true:=by
    refine sF.2 ⟨by simp only [xV,w8,l4,l6];omega,fun s hs=> ?_⟩
    simp only [xV,j7]at hs
    rcases hs with hs | hs
    ·exact(sF.1 h1).2 s (List.mem_of_mem_take (List.mem_of_mem_drop hs))
    ·exact(sF.1 h1).2 s (List.mem_of_mem_take (List.mem_of_mem_drop hs))
   have p1:Zc b e i=true:=h2
   have p2:Rn a b e i=true:=aS i0
   have p3:Zd a b e i=true:=cI i1
   have p4:Ze a b e i=true:=dE (by omega)
   have p5:Zf a b e i=true:=s5
   have p6:Zg a b e g i=true:=d
   have p7:Zh a b e f g i=true:=aG (by rw [l3];omega)
   have p8:Zi a b e f g i=true:=aG (by rw [l3];omega)
   have p9:Zj=true:=rfl
   have p10:XA a b e i=true:=aS (by omega)
   have p11:XB a b e i=true:=aG (by rw [l4];omega)
   have p12:XC a b e i=true:=aG (by rw [l4];omega)
   have p13:XD a b e i=true:=aS (by rw [hw];omega)
   have p14:XF a b e i=true:=aS (by rw [hw];omega)
   have p15:XG a=true:=aS (by omega)
   have p16:XH a b e i=true:=aG (by rw [l4,l6];omega)
   have p17:XI a b e i=true:=aG (by rw [l4,l6];omega)
   have l18:(xV a b e i).length=a.length - 1:=by simp only [xV,w8,l4,l6];omega
   have l21:(Id a b e f g i).length=f.length + 1:=by simp only [Id,w8,l3]
   have m21:aa4 (f.length + 1) (Id a b e f g i)=true:=atY h5 (ava h1 _) (auy t2 (by omega))
   simp only [lv,HC,LT.ok,Ko,ht,Bool.false_eq_true,reduceCtorEq,false_implies,true_implies,true_and,and_true,KV,KW,p1,p2,p3,p4,p5,p6,p7,p8,p9,p10,p11,p12,p13,p14,p15,p16,p17]
   exact⟨by omega,m18,t01,by omega,by rw [l21];exact m21,h6⟩
 ·obtain⟨a,b,e,f,g,i⟩:=x
  obtain⟨h0,h1,h2,⟨h3,h4⟩,h5,h6,rfl⟩:=hx
  have ht:ltI 0 (a.length:Int)=false:=yV (by omega)
  simp only [lv,HC,LT.ok,Ko,ht,Bool.false_eq_true,false_implies,true_implies,true_and,and_true]
  exact⟨h2,by omega,h5⟩
theorem Kn(a c:Int)(d:arG)(h:aJ a c d=true):
  Xz a c d=true∧aJ (na a c d) (oC a c d) d=true∧(prD (jg a c d) (bF a c d) (bN a c d) (bO a c d) (ae a c d) (bp a c d)=true∧1≤(bF a c d).length)∧1≤(bp a c d).length∧(bp a c d).length≤50:=by
 have n3:=Sn (n:=3) h (by omega)
 have s1:aJ (nxA 3 a d) (nxS 3 a c d) d=true:=le h
 have n4:0≤wL a c d∧wL a c d < 4:=Sn (n:=4) s1 (by omega)
 have s2:aJ (wM a d) (DE a c d) d=true:=le s1
 have n2:=Sn (n:=2) s2 (by omega)
 have s3:aJ (nxA 2 (wM a d) d) (nxS 2 (wM a d) (DE a c d) d) d=true:=le s2
 have w6:zW a c d=1 + nxV 3 a c d:=aR (by omega) (by omega)
 have w4:zV a c d=1 + nxV 2 (wM a d) (DE a c d) d:=aR (by omega) (by omega)
 have l7:(ox a c d).length=(zW a c d).toNat:=by simp only [ox,w9,j8,j9];omega
 have l1:(iD a c d).length=(wL a c d).toNat:=by simp only [iD,w9,j8,j9];omega
 have l5:(pD a c d).length=(zV a c d).toNat:=by simp only [pD,w9,j8,j9];omega
 have m7:WW 3 (ox a c d)=true:=akJ _ rfl
 have m1:WW 3 (iD a c d)=true:=akJ _ rfl
 have m5:WW 2 (pD a c d)=true:=akJ _ rfl
 have m8:WW 6 (lg a c d)=true:=aqy m7 m1 (by omega)
 have l8:(lg a c d).length=(ox a c d).length + (iD a c d).length:=by simp only [lg,w8]
 have d8:aqz (lg a c d)=true:=abe.2 ⟨by omega,by omega,(sF.1 m8).2⟩
 obtain⟨f0,j0,⟨z0,z1,z2,z3,z4,z5⟩,g0,q1,q2,q3,q4⟩:=afp d (Oi a c d) (by
  simp only [Oi]
  exact⟨by rw [w8];omega,aqy m1 m5 (by omega),s3,⟨by rw [w8,j9];omega,by rw [w8,j9];omega⟩,rfl,d8,trivial⟩)
 have e11:mI a c d=z1:=by simp only [mI,Gh,g0]
 have e13:Bv a c d=z2:=by simp only [Bv,Me,Gh,g0]
 have e7:bp a c d=z3:=by simp only [bp,Me,Gh,g0]
 have s4:aJ (nxA 3 (mI a c d) d) (Bw a c d) d=true:=by simp only [Bw,e11,e13];exact le q1
 have n8:0≤xU a c d∧xU a c d < ((lg a c d).length:Int):=Sn (n:=((lg a c d).length:Int)) s4 (by omega)
 have q1':aJ (mI a c d) (Bv a c d) d=true:=by rw [e11,e13];exact q1
 have k1:=aS n8.1
 have k2:=cI n8.2
 have k3:ltN (xU a c d).toNat (lg a c d).length=true:=dE (by omega)
 refine⟨?_,?_,⟨?_,?_⟩,?_,?_⟩
 ·have u1:leI 0 (zW a c d)=true:=aS (by omega)
  have u2:leI (zW a c d) (([ByteArray.mk #[97],ByteArray.mk #[98],ByteArray.mk #[107,101,121]]:List asv).length:Int)=true:=aS (by simp only [j8,j9];omega)
  have u3:leI 0 (wL a c d)=true:=aS (by omega)
  have u4:leI (wL a c d) (([ByteArray.mk #[120],ByteArray.mk #[121],ByteArray.mk #[122]]:List asv).length:Int)=true:=aS (by simp only [j8,j9];omega)
  have u5:leI 0 (zV a c d)=true:=aS (by omega)
  have u6:leI (zV a c d) (([ByteArray.mk #[113],ByteArray.mk #[108,97,109,112]]:List asv).length:Int)=true:=aS (by simp only [j8,j9];omega)
  have b: ∀ (i j:Nat),i≤100→j≤100→leN (i + j) 9223372036854775807=true∧leN ((i + j) * 16) 140737488355328=true:=fun i j hi hj=>⟨aG (by omega),aG (by omega)⟩
  obtain⟨b1,b2⟩:=b (ox a c d).length (iD a c d).length (by omega) (by omega)
  obtain⟨b3,b4⟩:=b (iD a c d).length (pD a c d).length (by omega) (by omega)
  obtain⟨b5,b6⟩:=b 0 (ox a c d).length (by omega) (by omega)
  obtain⟨b7,b8⟩:=b 0 (iD a c d).length (by omega) (by omega)
  obtain⟨b9,b10⟩:=b 0 (pD a c d).length (by omega) (by omega)
  have c17:To a c d=true:=b5
  have c18:Tp a c d=true:=b6
  have c19:Tq a c d=true:=b7
  have c20:Tr a c d=true:=b8
  simp only [Xz,h,s1,s2,q1',s4,f0,u1,u2,u3,u4,u5,u6,b1,b2,b3,b4,b9,b10,c17,c18,c19,c20,k1,k2,k3,allT,v4,cond_true]
 ·simp only [na,oC];exact qS (le s4) s4
 ·refine afM.2 ⟨?_,akI m7 (by omega),akI m1 (by omega),akI m5 (by omega),?_,?_⟩
  ·simp only [jg];cases pM a c d <;> exact(by decide)
  ·simp only [ae]
   cases pM a c d
   ·exact Nat.zero_le _
   ·exact ava m8 _
  ·rw [e7];exact atd q3 (by omega)
 ·simp only [bF,l7];omega
 ·rw [e7];exact q2.1
 ·rw [e7];exact q2.2
def ael:awE
 | [.one ⟨false,[.ptr 0 0]⟩],[.box 113 [.ref 1,.val (.int .i64 a),.val (.int .i64 b)],.row false 5 (.int .u8) c]=>some ⟨.one ⟨true,[.val (.string (jg a b c)),.ref 2,.ref 3,.ref 4,.val (.string (ae a b c)),.ref 5]⟩,[.box 113 [.ref 1,awF (na a b c),awF (oC a b c)],.row false 5 apN c],[.row true 9 arE (bF a b c),.row true 9 arE (bN a b c),.row true 9 arE (bO a b c),.row true 142 aaZ (bp a b c)],[aJ a b c]⟩
 |_,_=>none
def gV:PF prog:=PF.alt anj ael (by
 intro args es o h bA;unfold ael at h;split at h
 ·rename_i a b c
  cases h
  have bA:=fv bA
  have hh:=(Kn a b c bA).1
  have en:=hh
  exact kj rfl (eT en) rfl rfl rfl
 ·cases h)
end Go.SX
namespace Go.SX
open Go.Proofs Go.Proofs.Tryz
set_option maxRecDepth 100000
abbrev jp:=Int×Int×Int×List Int×List (Int×(Int×Int))×List Int
section
variable (a b c:Int)(d e:arG)
def zI:Bool:=ltI a (↑d.length:Int)
def Qd:Bool:=aJ b c e
def Qe:Bool:=leI 0 a
def Qf:Bool:=ltN a.toNat d.length
def Qg:Int:=qqq .i64 (a + (1:Int))
def Qh:Int:=nxA 2 b e
def Qi:Int:=nxS 2 b c e
def Qj:arG:=List.set d a.toNat (nxV 2 b c e)
end
def ZG:jp→List (Nat×SV)
 |(a,_,_,_,_,_)=> [(7,(.one ⟨false,[awF a]⟩)),(5,(.one ⟨false,[.ptr 0 0]⟩)),(0,(.one ⟨false,[.ptr 1 0]⟩))]
def ZC:jp→List (Nat×Entry)
 |(_,a,b,c,d,e)=> [(0,(.box 50 [.ref 2,.ref 3])),(1,(.box 113 [.ref 4,awF a,awF b])),(2,(.row true 2 aox c)),(3,(.row true 109 abx d)),(4,(.row false 5 apN e))]
def ZO:Nat→jp→List (Nat×SV)
 |_,(_,_,_,_,_,_)=> []
def yK:jp→LT jp
 |(a,b,c,d,e,f)=> .ite (zI a d) (.need [Qd b c f,Qe a,zI a d,Qf a d] (.nrm ((Qg a),Qh b f,Qi b c f,Qj a b c d f,e,f) [(0,0),(1,1),(2,2),(3,3),(4,4)])) (.ext 0 [(0,0),(1,1),(2,2),(3,3),(4,4)])
def EM(s:St):Option jp:=do
 let some ⟨none,.one ⟨false,[.val (.int .i64 a)]⟩⟩:=s.look 7|none
 let some ⟨none,.one ⟨false,[.ptr 1088 0]⟩⟩:=s.look 5|none
 let some ⟨none,.one ⟨false,[.ptr 0 0]⟩⟩:=s.look 0|none
 let some (.box 50 [.ref 832,.ref 833]):=s.ent 1088|none
 let some (.box 113 [.ref 5,.val (.int .i64 b),.val (.int .i64 c)]):=s.ent 0|none
 let some (.row true 2 (.int .i64) d):=s.ent 832|none
 let some (.row true 109 (.pair (.int .i64) (.pair (.int .i64) (.int .i64))) e):=s.ent 833|none
 let some (.row false 5 (.int IntKind.u8) f):=s.ent 5|none
 some (a,b,c,d,e,f)
def eQ:Lp jp where
 h:=⟨[62,63,64,65,66,69,70,71,72,73,74,67,68,7],[0,1,2,3,4],[],[]⟩
 JL:=ZG
 JE:=ZC
 XL:=ZO
 XE:=fun _=>ZC
 q:=fun j=>match j with | _=> .exit 1
 tags:= [0]
 lt:=yK
 fuel:=fun(a,b,c,d,e,f)=>a.natAbs + b.natAbs + c.natAbs + d.length + e.length + f.length
 fix:=fun(_,_,_,_,e,f) (a,b,c,d,_,_)=>(a,b,c,d,e,f)
 σ:= [(0,1088),(1,0),(2,832),(3,833),(4,5)]
 rd:=EM
theorem WO:LoopOk prog (fun k=>Nat.blt k Tryz.f56.ntmps) eQ.F (bB f56 0):=by
 refine Lp.ok (tbl:= (T3z [po,am,aF,aX,xQ])) (lf:= []) bj eQ (by kernel_rfl) (LOk.nil _) (fun _=>rfl) (fun _ _=>rfl) ?_ ?_ ?_ ?_ (fun _=>rfl) ?_
 ·rintro⟨a,b,c,d,e,f⟩;kernel_rfl
 ·rintro⟨a,b,c,d,e,f⟩;kernel_rfl
 ·intro s x h
  have h:EM s=some x:=h
  unfold EM at h
  repeat' split at h
  all_goals cases h
  constructor<;>repeat(first|refine ab (by assumption) rfl ?_|refine aa rfl (by assumption) rfl ?_|exact rfl)
 ·rintro⟨a,b,c,d,e,f⟩;kernel_rfl
 ·rintro⟨a,b,c,d,e,f⟩ z;exact(And.intro rfl trivial)
section
variable (a b:asv)(c d:Int)(e f g:List asv)(i:ajC)(j:arG)
def bK:Bool:=rgC a e f g b i (aY a b c d e f g i j)!=0
def Dg:Int:=nxV 30 (pu a b c d e f g i j) (ru a b c d e f g i j) j
def dh:Bool:=Dg a b c d e f g i j==0
def jP:Int:=nxA 30 (pu a b c d e f g i j) j
def eM:Bool:=Dg a b c d e f g i j==1
def lO:Bool:=Dg a b c d e f g i j==2
def ig:Bool:=ltI 0 (↑(v8 (rgB a e f g b i (aY a b c d e f g i j))):Int)
def xF:Bool:=Dg a b c d e f g i j==3
def lP:Int:=nxS 30 (pu a b c d e f g i j) (ru a b c d e f g i j) j
def fD:arG:=rgV a e f g b i (aY a b c d e f g i j)
def Bg:Int×Int×Int×arG×aq5×arG:=((0:Int),jP a b c d e f g i j,lP a b c d e f g i j,fD a b c d e f g i j,rgB a e f g b i (aY a b c d e f g i j),j)
def si:Int×Int×arG×aq5×arG:=(Lp.res eQ (Bg a b c d e f g i j)).2.2
def sj:Int×arG×aq5×arG:=(si a b c d e f g i j).2
def Rt:Int×Int:=(v9 (rgB a e f g b i (aY a b c d e f g i j))[v7 0]? ((0:Int),(0:Int),(0:Int))).2
def zm:Int:=bif bK a b c d e f g i j then pu a b c d e f g i j else bif dh a b c d e f g i j then jP a b c d e f g i j else bif eM a b c d e f g i j then jP a b c d e f g i j else bif lO a b c d e f g i j then bif ig a b c d e f g i j then pkA (jP a b c d e f g i j) [(-1:Int),(1:Int),(9:Int)] j else jP a b c d e f g i j else bif xF a b c d e f g i j then (si a b c d e f g i j).1else jP a b c d e f g i j
def zo:Int:=bif bK a b c d e f g i j then ru a b c d e f g i j else bif dh a b c d e f g i j then lP a b c d e f g i j else bif eM a b c d e f g i j then lP a b c d e f g i j else bif lO a b c d e f g i j then bif ig a b c d e f g i j then pkS (jP a b c d e f g i j) (lP a b c d e f g i j) [(-1:Int),(1:Int),(9:Int)] j else lP a b c d e f g i j else bif xF a b c d e f g i j then (sj a b c d e f g i j).1else lP a b c d e f g i j
def zp:arG:=bif bK a b c d e f g i j then qqw (v7 (↑f.length:Int)) (0:Int)else bif dh a b c d e f g i j then fD a b c d e f g i j++ [(0:Int)]else bif eM a b c d e f g i j then fD a b c d e f g i j else bif lO a b c d e f g i j then fD a b c d e f g i j else bif xF a b c d e f g i j then ((sj a b c d e f g i j).2).1else fD a b c d e f g i j
def zq:aqe:=bif bK a b c d e f g i j then []else bif dh a b c d e f g i j then rgB a e f g b i (aY a b c d e f g i j)else bif eM a b c d e f g i j then rgB a e f g b i (aY a b c d e f g i j)++ [((0:Int),(0:Int),(0:Int))]else bif lO a b c d e f g i j then bif ig a b c d e f g i j then List.set (rgB a e f g b i (aY a b c d e f g i j)) (v7 0) (pkV (jP a b c d e f g i j) (lP a b c d e f g i j) [(-1:Int),(1:Int),(9:Int)] j,(Rt a b c d e f g i j).1,(Rt a b c d e f g i j).2)else rgB a e f g b i (aY a b c d e f g i j)else bif xF a b c d e f g i j then rgB a e f g b i (aY a b c d e f g i j)else rgB a e f g b i (aY a b c d e f g i j)
def LH:Bool:=allT [aJ c d j&&leN e.length (50:Nat),rgN a e f g b i (aY a b c d e f g i j),!bK a b c d e f g i j||leI 0 (↑f.length:Int),!bK a b c d e f g i j||leI (↑f.length:Int) (↑f.length:Int),!bK a b c d e f g i j||leI ((↑(8:Nat):Int) * (↑f.length:Int)) 281474976710656,!bK a b c d e f g i j||leI (↑f.length:Int) 9223372036854775807,bK a b c d e f g i j||aJ (pu a b c d e f g i j) (ru a b c d e f g i j) j,bK a b c d e f g i j||(!dh a b c d e f g i j||leN (v8 (fD a b c d e f g i j)) 1048576),bK a b c d e f g i j||(!dh a b c d e f g i j||leN (v8 (fD a b c d e f g i j) + v8 [(0:Int)]) (9223372036854775807:Nat)),bK a b c d e f g i j||(!dh a b c d e f g i j||leN ((v8 (fD a b c d e f g i j) + v8 [(0:Int)]) * (8:Nat)) 140737488355328),bK a b c d e f g i j||(dh a b c d e f g i j||(!eM a b c d e f g i j||leN (0 + v8 (rgB a e f g b i (aY a b c d e f g i j))) 9223372036854775807)),bK a b c d e f g i j||(dh a b c d e f g i j||(!eM a b c d e f g i j||leN ((0 + v8 (rgB a e f g b i (aY a b c d e f g i j))) * 24) 140737488355328)),bK a b c d e f g i j||(dh a b c d e f g i j||(!eM a b c d e f g i j||leN (v8 (rgB a e f g b i (aY a b c d e f g i j)) + v8 [((0:Int),(0:Int),(0:Int))]) 9223372036854775807)),bK a b c d e f g i j||(dh a b c d e f g i j||(!eM a b c d e f g i j||leN ((v8 (rgB a e f g b i (aY a b c d e f g i j)) + v8 [((0:Int),(0:Int),(0:Int))]) * 24) 140737488355328)),bK a b c d e f g i j||(dh a b c d e f g i j||(eM a b c d e f g i j||(!lO a b c d e f g i j||(!ig a b c d e f g i j||aJ (jP a b c d e f g i j) (lP a b c d e f g i j) j&&leN 1 (v8 [(-1:Int),(1:Int),(9:Int)]))))),bK a b c d e f g i j||(dh a b c d e f g i j||(eM a b c d e f g i j||(!lO a b c d e f g i j||(!ig a b c d e f g i j||leI 0 0)))),bK a b c d e f g i j||(dh a b c d e f g i j||(eM a b c d e f g i j||(!lO a b c d e f g i j||(!ig a b c d e f g i j||ig a b c d e f g i j)))),bK a b c d e f g i j||(dh a b c d e f g i j||(eM a b c d e f g i j||(!lO a b c d e f g i j||(!ig a b c d e f g i j||ltN (v7 0) (v8 (rgB a e f g b i (aY a b c d e f g i j))))))),bK a b c d e f g i j||(dh a b c d e f g i j||(eM a b c d e f g i j||(lO a b c d e f g i j||(!xF a b c d e f g i j||Lp.fin eQ (Bg a b c d e f g i j)))))]
end
def Ui:awE
 | [.one ⟨false,[.ptr 0 0]⟩,.one ⟨true,[.val (.string a),.ref 1,.ref 2,.ref 3,.val (.string b),.ref 4]⟩],[.box 113 [.ref 5,.val (.int .i64 c),.val (.int .i64 d)],.row false 9 (.str) e,.row false 9 (.str) f,.row false 9 (.str) g,.row false 142 (.pair (.str) (.sl 122 (.pair (.int .i64) (.pair (.str) (.int .i64))))) i,.row false 5 (.int .u8) j]=>some ⟨.one ⟨true,[.ref 6,.ref 7]⟩,[.box 113 [.ref 5,awF (zm a b c d e f g i j),awF (zo a b c d e f g i j)],.row false 9 arE e,.row false 9 arE f,.row false 9 arE g,.row false 142 (CTy.pair CTy.str (CTy.sl (122:TypeId) ab5)) i,.row false 5 apN j],[.row true 2 aox (zp a b c d e f g i j),.row true 109 abx (zq a b c d e f g i j)],[LH a b c d e f g i j]⟩
 |_,_=>none
def afh:PF prog:=PF.ofG prog (T3z [po,am,aF,aX,xQ]) [eQ.F] bj 56 f56 func56 (LOk.fnT (l:= [bB f56 0]) (by kernel_rfl) (.cons WO (.nil _))) Ui (by
 intro _ _ _ h;unfold Ui at h;split at h<;>cases h;kernel_rfl)
theorem at9{nm:asv}{ins vs os:List asv}{g:asv}{ls:List LN}(h:prD nm ins vs os g ls=true):apx nm ins vs os g ls=true:=by
 obtain⟨h1,h2,h3,h4,h5,h6⟩:=afM.1 h
 obtain⟨i0,i1⟩:=sF.1 h2
 obtain⟨v0,v1⟩:=sF.1 h3
 obtain⟨o0,o1⟩:=sF.1 h4
 obtain⟨l0,l1⟩:=NG.1 h6
 have mO: ∀ {l:List asv},l.length≤50→(∀ s∈l,s.size≤1000)→SR l=true:=fun {l} a b=>by
  simp only [SR,q9,List.all_eq_true]
  exact⟨aG (by omega),fun t ht=>aG (by have:=b t ht;omega)⟩
 refine afk.2 ⟨by omega,mO i0 i1,mO v0 v1,mO o0 o1,by omega,by omega,afG.2 ⟨by omega,fun l hl=> ?_⟩⟩
 obtain⟨a,b⟩:=l1 l hl
 obtain⟨b0,b1⟩:=abu.1 b
 exact⟨by omega,afT.2 ⟨by omega,fun t ht=>by have:=b1 t ht;omega⟩⟩
theorem aut{n:Nat}{l:aq6}(h:ZR n l=true)(hl:l.length≤9223372036854775807)(hn:n≤9223372036854775807):auk 9223372036854775807 l=true:=
 anJ.2 ⟨hl,fun x hx=>by have:=ajs.1 h x hx;omega⟩
theorem aua(nm:asv)(ins vs os:List asv)(g:asv)(ls:List LN)(l:aq6):
  (akd (rgO nm ins vs os g ls l)≤4000∧(rgO nm ins vs os g ls l).length≤200∧ ∀ x∈rgO nm ins vs os g ls l,x.length≤20)∧(rgV nm ins vs os g ls l).length≤20∧(rgB nm ins vs os g ls l).length≤1600:=by
 have ht: ∀ (l:aq6),(∀ x∈l,x.length≤20)→akd l≤20 * l.length:=by
  intro l
  induction l with
  |nil=>intro _;simp [akd]
  |cons a r ih=>
   intro h
   have h1:=h a (by simp)
   have h2:=ih fun x hx=>h x (by simp [hx])
   simp only [akd,List.map_cons,List.sum_cons,j8]at h2 ⊢
   omega
 simp only [rgO,rgV,rgB]
 rcases aqL nm ins vs os g ls l with⟨h1,h2⟩ | ⟨h1,h3,h2⟩ | ⟨h1,h3,h4,h2⟩ | ⟨h1,h3,h4,h2⟩
 ·rw [h2];simp [akd]
 ·rw [h2];simp [akd]
 ·rw [h2];simp [akd]
 ·rw [h2]
  obtain⟨g1,g2,g3⟩:=aqR h1 l (zv vs) (Ks (blL ls)) (List.all_eq_true.1 h4) (asS h1)
  obtain⟨s1,s2,_⟩:=abs.1 g3
  have b2:=(cz.1 s2).2
  have:=aeO h3
  have h5:=ht _ g2
  have hX:=apz (inp:=qqw ins.length 0) h1 (cz.2 ⟨fun z hz=> .inl (qqz hz),by simp⟩)
  have hb:=hX.bl
  have hv:=hX.h2
  simp only [beq_self_eq_true,cond_true]
  exact⟨⟨by omega,by omega,g2⟩,by omega,by omega⟩
 attribute [local irreducible] nxA nxS nxV pkA pkS pkV
theorem XO(c:arG)(x:jp)(hx:match x with | (a,b,d,e,f,g)=>(e.length:Int)≤a + (20:Nat)∧0≤a∧aJ b d g=true∧e.length≤20∧g=c):
  eQ.fin x=true∧ ∃ j y,eQ.res x=(j,y)∧(match y with | (a,b,d,e,f,g)=>aJ b d c=true∧e.length≤20∧c=g):=by
 refine eQ.inv2 (fun k x=>match x with | (a,b,d,e,f,g)=>(e.length:Int)≤a + k∧0≤a∧aJ b d g=true∧e.length≤20∧g=c) (fun y=>match y with | (a,b,d,e,f,g)=>aJ b d c=true∧e.length≤20∧c=g) (fun k x hx=> ?_) (fun x hx=> ?_) 20 x (by omega) hx
 ·obtain⟨a,b,d,e,f,g⟩:=x
  obtain⟨h0,h1,h2,h3,rfl⟩:=hx
  cases ht:zI a e with
  |false=>
   simp only [eQ,yK,LT.ok,ht,Bool.false_eq_true,false_implies,true_implies,true_and,and_true]
   exact⟨h2,h3⟩
  |true=>
   have eG:a < (e.length:Int):=Kf.1 ht
   have p1:Qd b d g=true:=h2
   have p2:Qe a=true:=aS h1
   have p3:Qf a e=true:=dE (by omega)
   have p4:Qg a=a + 1:=aR (by omega) (by omega)
   have s5:aJ (Qh b g) (Qi b d g) g=true:=le h2
   have l7:(Qj a b d e g).length=e.length:=List.length_set
   simp only [eQ,yK,LT.ok,KV,KW,and_true,true_and,ht,p1,p2,p3,Bool.false_eq_true,reduceCtorEq,false_implies,true_implies]
   exact⟨by omega,by omega,s5,by omega⟩
 ·obtain⟨a,b,d,e,f,g⟩:=x
  obtain⟨h0,h1,h2,h3,rfl⟩:=hx
  have ht:zI a e=false:=yV (by omega)
  simp only [eQ,yK,LT.ok,ht,Bool.false_eq_true,false_implies,true_implies,true_and,and_true]
  exact⟨h2,h3⟩
theorem atG{a s:Int}{c:arG}{nm:asv}{ins vs os:List asv}{g:asv}{ls:List LN}:(aJ a s c&&prD nm ins vs os g ls)=true↔aJ a s c=true∧prD nm ins vs os g ls=true:=by simp only [q9]
theorem Qc(a b:asv)(c d:Int)(e f g:List asv)(i:List LN)(j:arG)(h:aJ c d j=true)(hp:prD a e f g b i=true):
  LH a b c d e f g i j=true∧aJ (zm a b c d e f g i j) (zo a b c d e f g i j) j=true∧(zp a b c d e f g i j).length≤60∧(zq a b c d e f g i j).length≤2000:=by
 obtain⟨_,hi,hv,_⟩:=afM.1 hp
 have i0:=(sF.1 hi).1
 have v0:=(sF.1 hv).1
 obtain⟨_,t2,t3,t4⟩:=JH a b c d e f g i j h i0
 have hrg:rgN a e f g b i (aY a b c d e f g i j)=true:=by
  simp only [rgN,at9 hp,aut t4 (by omega) (by omega),Bool.and_self]
 obtain⟨_,w1,w2⟩:=aua a e f g b i (aY a b c d e f g i j)
 have w1:(fD a b c d e f g i j).length≤20:=w1
 have s3:aJ (jP a b c d e f g i j) (lP a b c d e f g i j) j=true:=le t2
 obtain⟨f0,j0,⟨z0,z1,z2,z3,z4,z5⟩,g0,q1,q2,q3⟩:=XO j (Bg a b c d e f g i j) (by
  simp only [Bg]
  exact⟨by omega,by omega,s3,w1,trivial⟩)
 have e1:(si a b c d e f g i j).1=z1:=by simp only [si,g0]
 have e2:(sj a b c d e f g i j).1=z2:=by simp only [sj,si,g0]
 have e3:((sj a b c d e f g i j).2).1=z3:=by simp only [sj,si,g0]
 have hd:(aJ c d j&&leN e.length 50)=true:=amz.2 ⟨h,i0⟩
 refine⟨?_,?_,?_,?_⟩
 ·have u1:leI 0 (f.length:Int)=true:=aS (by omega)
  have u2:leI (f.length:Int) (f.length:Int)=true:=aS (by omega)
  have u3:leI ((↑(8:Nat):Int) * (f.length:Int)) 281474976710656=true:=aS (by omega)
  have u4:leI (f.length:Int) 9223372036854775807=true:=aS (by omega)
  have o1: [(0:Int)].length=1:=rfl
  have o2: [((0:Int),(0:Int),(0:Int))].length=1:=rfl
  have b1:leN (fD a b c d e f g i j).length 1048576=true:=aG (by omega)
  have b2:leN ((fD a b c d e f g i j).length + [(0:Int)].length) 9223372036854775807=true:=aG (by rw [o1];omega)
  have b3:leN (((fD a b c d e f g i j).length + [(0:Int)].length) * 8) 140737488355328=true:=aG (by rw [o1];omega)
  have b4:leN (0 + (rgB a e f g b i (aY a b c d e f g i j)).length) 9223372036854775807=true:=aG (by omega)
  have b5:leN ((0 + (rgB a e f g b i (aY a b c d e f g i j)).length) * 24) 140737488355328=true:=aG (by omega)
  have b6:leN ((rgB a e f g b i (aY a b c d e f g i j)).length + [((0:Int),(0:Int),(0:Int))].length) 9223372036854775807=true:=aG (by rw [o2];omega)
  have b7:leN (((rgB a e f g b i (aY a b c d e f g i j)).length + [((0:Int),(0:Int),(0:Int))].length) * 24) 140737488355328=true:=aG (by rw [o2];omega)
  have b8:leN 1 (v8 [(-1:Int),1,9])=true:=rfl
  have b9:leI 0 0=true:=rfl
  have k6:ig a b c d e f g i j=true→ltN (v7 0) (rgB a e f g b i (aY a b c d e f g i j)).length=true:=fun hh=>by
   simp only [ig]at hh
   have:=apn hh
   exact dE (by simp only [Int.toNat_zero];omega)
  simp only [LH,hd,hrg,u1,u2,u3,u4,t2,s3,b1,b2,b3,b4,b5,b6,b7,b8,b9,f0,allT,v4,Bool.and_self,cond_true]
  cases h6:ig a b c d e f g i j with
  |true=>simp only [k6 h6,v4,cond_true]
  |false=>simp only [Bool.not_false,Bool.true_or,v4,cond_true]
 ·simp only [zm,zo,e1,e2]
  exact qS t2 (qS s3 (qS s3 (qS (qS (Se s3) s3) (qS q1 s3))))
 ·simp only [zp,e3]
  exact fS (by rw [v5,w5];omega) (fS (by rw [w8,w7];omega) (fS (by omega) (fS (by omega) (fS (by omega) (by omega)))))
 ·simp only [zq]
  exact fS (by simp) (fS (by omega) (fS (by rw [w8,w7];omega) (fS (fS (by rw [List.length_set];omega) (by omega)) (fS (by omega) (by omega)))))
def Ur:awE
 | [.one ⟨false,[.ptr 0 0]⟩,.one ⟨true,[.val (.string a),.ref 1,.ref 2,.ref 3,.val (.string b),.ref 4]⟩],[.box 113 [.ref 5,.val (.int .i64 c),.val (.int .i64 d)],.row false 9 (.str) e,.row false 9 (.str) f,.row false 9 (.str) g,.row false 142 (.pair (.str) (.sl 122 (.pair (.int .i64) (.pair (.str) (.int .i64))))) i,.row false 5 (.int .u8) j]=>some ⟨.one ⟨true,[.ref 6,.ref 7]⟩,[.box 113 [.ref 5,awF (zm a b c d e f g i j),awF (zo a b c d e f g i j)],.row false 9 arE e,.row false 9 arE f,.row false 9 arE g,.row false 142 (CTy.pair CTy.str (CTy.sl (122:TypeId) ab5)) i,.row false 5 apN j],[.row true 2 aox (zp a b c d e f g i j),.row true 109 abx (zq a b c d e f g i j)],[aJ c d j&&prD a e f g b i]⟩
 |_,_=>none
def Lx:PF prog:=PF.alt afh Ur (by
 intro args es o h bA;unfold Ur at h;split at h
 ·rename_i a b c d e f g i j
  cases h
  have bA:=fv bA
  have hh:=(Qc a b c d e f g i j (atG.1 bA).1 (atG.1 bA).2).1
  have en:=hh
  exact kj rfl (eT en) rfl rfl rfl
 ·cases h)
end Go.SX
namespace Go.SX
open Go.Proofs Go.Proofs.Tryz
set_option maxRecDepth 100000
def lu(a:arG):Bool:=ltI 4096 (↑a.length:Int)
def amf:awE
 | [.one ⟨false,[.ref 0]⟩],[.row false 5 (.int .u8) a]=>some ⟨.one ⟨false,[.val (.bool (lu a))]⟩,[.row false 5 apN a],[],[]⟩
 |_,_=>none
def aif:PF prog:=PF.ofG prog [] [] bj 6 f6 func6 (fun c _=>LOk.nil c) amf (by
 intro _ _ _ h;unfold amf at h;split at h<;>cases h;kernel_rfl)
abbrev jL:=Int×List (Int×(Int×Int))×List (Int×(Int×Int))
section
variable (a:Int)(b c:aqe)
def ph:Int×Int×Int:=v9 b[v7 a]? ((0:Int),(0:Int),(0:Int))
def pj:Int×Int×Int:=v9 c[v7 a]? ((0:Int),(0:Int),(0:Int))
def tA:Bool:=ltI a (↑b.length:Int)
def tB:Bool:=leI 0 a
def xh:Bool:=ltN a.toNat b.length
def xj:Bool:=ltI a (↑c.length:Int)
def xk:Bool:=ltN a.toNat c.length
def xl:Bool:= !bif (ph a b).1==(pj a c).1then bif ((ph a b).2).1==((pj a c).2).1then bif (ph a b).2.2==(pj a c).2.2then true else false else false else false
def xm:Int:=qqq .i64 (a + (1:Int))
end
def abD:jL→List (Nat×SV)
 |(a,_,_)=> [(5,(.one ⟨false,[awF a]⟩)),(0,(.one ⟨false,[.ref 0]⟩)),(1,(.one ⟨false,[.ref 1]⟩))]
def aby:jL→List (Nat×Entry)
 |(_,a,b)=> [(0,(.row false 109 abx a)),(1,(.row false 109 abx b))]
def abN:Nat→jL→List (Nat×SV)
 |0,(_,_,_)=> [(4,(.one ⟨false,[.val (.bool false)]⟩))]
 |_,(_,_,_)=> []
def vK:jL→LT jL
 |(a,b,c)=> .ite (tA a b) (.need [tB a,tA a b,xh a b,tB a,xj a c,xk a c] (.ite (xl a b c) (.ext 0 [(0,0),(1,1)]) (.nrm ((xm a),b,c) [(0,0),(1,1)]))) (.ext 1 [(0,0),(1,1)])
def HL(s:St):Option jL:=do
 let some ⟨none,.one ⟨false,[.val (.int .i64 a)]⟩⟩:=s.look 5|none
 let some ⟨none,.one ⟨false,[.ref 0]⟩⟩:=s.look 0|none
 let some ⟨none,.one ⟨false,[.ref 1]⟩⟩:=s.look 1|none
 let some (.row false 109 (.pair (.int .i64) (.pair (.int .i64) (.int .i64))) b):=s.ent 0|none
 let some (.row false 109 (.pair (.int .i64) (.pair (.int .i64) (.int .i64))) c):=s.ent 1|none
 some (a,b,c)
def dF:Lp jL where
 h:=⟨[11,12,13,14,17,18,19,20,21,22,23,24,25,4,15,16,5],[0,1],[],[]⟩
 JL:=abD
 JE:=aby
 XL:=abN
 XE:=fun _=>aby
 q:=fun j=>match j with | 0=> .ret | _=> .exit 0
 tags:= [0,1]
 lt:=vK
 fuel:=fun(a,b,c)=>a.natAbs + b.length + c.length
 fix:=fun(_,b,c) (a,_,_)=>(a,b,c)
 σ:= [(0,0),(1,1)]
 rd:=HL
theorem aac:LoopOk prog (fun k=>Nat.blt k Tryz.f40.ntmps) dF.F (bB f40 0):=by
 refine Lp.ok (tbl:= []) (lf:= []) bj dF (by kernel_rfl) (LOk.nil _) (fun _=>rfl) (fun j _=>by unfold dF;match j with | 0=>rfl | _ + 1=>rfl) ?_ ?_ ?_ ?_ (fun _=>rfl) ?_
 ·rintro⟨a,b,c⟩;kernel_rfl
 ·rintro⟨a,b,c⟩;kernel_rfl
 ·intro s x h
  have h:HL s=some x:=h
  unfold HL at h
  repeat' split at h
  all_goals cases h
  constructor<;>repeat(first|refine ab (by assumption) rfl ?_|refine aa rfl (by assumption) rfl ?_|exact rfl)
 ·rintro⟨a,b,c⟩;kernel_rfl
 ·rintro⟨a,b,c⟩ z;exact(And.intro (And.intro trivial rfl) trivial)
section
variable (a b:aq5)
def Fl:Bool:=(↑a.length:Int)!=(↑b.length:Int)
def Fm:Int×aq5×aq5:=((0:Int),a,b)
def BU:Bool:=bif Fl a b then false else bif Nat.beq ((Lp.res dF (Fm a b)).1) 0 then false else true
def BV:Bool:=allT [Fl a b||Lp.fin dF (Fm a b)]
end
def Wh:awE
 | [.one ⟨false,[.ref 0]⟩,.one ⟨false,[.ref 1]⟩],[.row false 109 (.pair (.int .i64) (.pair (.int .i64) (.int .i64))) a,.row false 109 (.pair (.int .i64) (.pair (.int .i64) (.int .i64))) b]=>some ⟨.one ⟨false,[.val (.bool (BU a b))]⟩,[.row false 109 abx a,.row false 109 abx b],[],[BV a b]⟩
 |_,_=>none
def HJ:PF prog:=PF.ofG prog [] [dF.F] bj 40 f40 func40 (LOk.fnT (l:= [bB f40 0]) (by kernel_rfl) (.cons aac (.nil _))) Wh (by
 intro _ _ _ h;unfold Wh at h;split at h<;>cases h;kernel_rfl)
def Ll(a:arG)(b:aq5)(c:arG)(d:aq5):Bool:=bif eqL a c then BU b d else false
def Lm(a:arG)(b:aq5)(c:arG)(d:aq5):Bool:=allT [leN a.length (9223372036854775807:Nat),!(eqL a c&&true)||BV b d]
def Uc:awE
 | [.one ⟨true,[.ref 0,.ref 1]⟩,.one ⟨true,[.ref 2,.ref 3]⟩],[.row false 2 (.int .i64) a,.row false 109 (.pair (.int .i64) (.pair (.int .i64) (.int .i64))) b,.row false 2 (.int .i64) c,.row false 109 (.pair (.int .i64) (.pair (.int .i64) (.int .i64))) d]=>some ⟨.one ⟨false,[.val (.bool (Ll a b c d))]⟩,[.row false 2 aox a,.row false 109 abx b,.row false 2 aox c,.row false 109 abx d],[],[Lm a b c d]⟩
 |_,_=>none
def afd:PF prog:=PF.ofG prog (T3z [jR,HJ]) [] bj 25 f25 func25 (fun c _=>LOk.nil c) Uc (by
 intro _ _ _ h;unfold Uc at h;split at h<;>cases h;kernel_rfl)
def tx(a c:aqe)(b:Nat):(Unit)→Nat ⊕ (Unit)
 |_=>(bif(!bif (v9 a[b]? ((0:Int),(0:Int),(0:Int))).1==(v9 c[b]? ((0:Int),(0:Int),(0:Int))).1then bif ((v9 a[b]? ((0:Int),(0:Int),(0:Int))).2).1==((v9 c[b]? ((0:Int),(0:Int),(0:Int))).2).1then bif (v9 a[b]? ((0:Int),(0:Int),(0:Int))).2.2==(v9 c[b]? ((0:Int),(0:Int),(0:Int))).2.2then true else false else false else false)then(.inl 0)else(.inr ()))
def pw(a b:aqe)(i:Nat):(Unit)→jL
 |_=>((i:Int),a,b)
def HK:jL→Unit
 |(_,_,_)=>()
theorem adE(c d:aqe) (hn:c.length≤9223372036854775807) (he:d.length=c.length):
  dF.fin ((0:Int),c,d)=true∧dF.res ((0:Int),c,d)=((ci (tx c d) 1 (List.range c.length) 0 ()).1,(pw c d) (ci (tx c d) 1 (List.range c.length) 0 ()).2.1 (ci (tx c d) 1 (List.range c.length) 0 ()).2.2):=by
 have mO:=dF.along (pw c d) HK (tx c d) 1 (fun _ _=>True) (List.range c.length) () (by trivial) (by simp only [dF,pw,List.length_range];omega) (fun i b a hb hI=> ?_) (fun a hI=> ?_)
 ·exact mO
 ·obtain⟨⟩:=a
  obtain⟨rfl,eG⟩:=Ti hb
  have hw:IntKind.i64.wrap ((b:Int) + 1)=((b + 1:Nat):Int):=by rw [aR (by omega) (by omega)];omega
  have jY:ltI (b:Int) (c.length:Int)=true:=cI (by omega)
  have PX:leI (0:Int) (b:Int)=true:=aS (by omega)
  have wR:ltN b c.length=true:=dE (by omega)
  refine⟨?_,?_,?_,?_⟩
  ·simp [ph,pj,tA,tB,xh,xj,xk,xl,xm,vK,dF,LT.nds,allT,pw,jY,PX,wR,he]
  ·simp [ph,pj,tA,tB,xh,xj,xk,xl,xm,vK,dF,LT.each,pw,HK,hw,he]
  ·simp only [ph,pj,tA,tB,xh,xj,xk,xl,xm,vK,dF,LT.fn,pw,HK,tx,w5,jY,cond_true]
  ·exact fun _ _=>trivial
 ·obtain⟨⟩:=a
  simp [ph,pj,tA,tB,xh,xj,xk,xl,xm,vK,dF,LT.out,pw,List.length_range]
theorem aha(xs ys:List BS3)(hn:leN xs.length 9223372036854775807=true):BU xs ys=arx xs ys∧BV xs ys=true:=by
 have hn:=fc.1 hn
 unfold arx
 have h3: ∀ a b:BS3,(!bif a.1==b.1 then bif a.2.1==b.2.1 then bif a.2.2==b.2.2 then true else false else false else false)= !decide (a=b):=fun a b=>by
  obtain⟨a1,a2,a3⟩:=a;obtain⟨b1,b2,b3⟩:=b
  simp only [Prod.mk.injEq]
  by_cases h1:a1=b1 <;> by_cases h2:a2=b2 <;> by_cases h3:a3=b3 <;> simp [h1,h2,h3]
 by_cases hl:ys.length=xs.length
 ·obtain⟨w1,w2⟩:=adE xs ys hn hl
  have ha:=att (d:=((0:Int),(0:Int),(0:Int))) hl (P:=fun b=> !decide (v9 xs[b]? ((0:Int),(0:Int),(0:Int))=v9 ys[b]? ((0:Int),(0:Int),(0:Int)))) (fun b=>rfl)
  rw [oE (P:=fun b=> !decide (v9 xs[b]? ((0:Int),(0:Int),(0:Int))=v9 ys[b]? ((0:Int),(0:Int),(0:Int)))) (j:=0) (fun b=>by simp only [tx,h3]),ha]at w2
  simp only [Fl,Fm,BU,BV,w1,w2,allT]
  by_cases he:xs=ys
  ·subst he;simp;decide
  ·simp [he,hl]
 ·have VU:xs≠ys:=fun h=>hl (by rw [h])
  simp [Fl,Fm,BU,BV,allT,VU]
  omega
def Wt:awE
 | [.one ⟨false,[.ref 0]⟩,.one ⟨false,[.ref 1]⟩],[.row false 109 (.pair (.int .i64) (.pair (.int .i64) (.int .i64))) a,.row false 109 (.pair (.int .i64) (.pair (.int .i64) (.int .i64))) b]=>some ⟨.one ⟨false,[.val (.bool (arx a b))]⟩,[.row false 109 abx a,.row false 109 abx b],[],[leN a.length 9223372036854775807]⟩
 |_,_=>none
def ON:PF prog:=PF.alt HJ Wt (by
 intro args es o h bA;unfold Wt at h;split at h
 ·rename_i a b
  cases h
  have bA:=fv bA
  have hh:=aha a b bA
  obtain⟨e0,en⟩:=hh
  exact kj rfl (eT en) (by simp only [e0] <;> rfl) rfl rfl
 ·cases h)
def lkM(xs:arG)(ss:List BS3)(ys:arG)(us:List BS3):Bool:=eqL xs ys&&arx ss us
theorem amS(xs:arG)(ss:List BS3):lkM xs ss xs ss=true:=by simp only [lkM,aaW,aoo,Bool.and_self]
theorem arO(xs:arG)(ss:List BS3)(ys:arG)(us:List BS3)(h:(leN xs.length 9223372036854775807&&leN ss.length 9223372036854775807)=true):
  Ll xs ss ys us=lkM xs ss ys us∧Lm xs ss ys us=true:=by
 simp only [q9]at h
 obtain⟨a,b⟩:=aha ss us h.2
 simp only [Ll,Lm,a,b,h.1,lkM,allT,v4,cond_true,and_true]
 cases eqL xs ys <;> rfl
def Um:awE
 | [.one ⟨true,[.ref 0,.ref 1]⟩,.one ⟨true,[.ref 2,.ref 3]⟩],[.row false 2 (.int .i64) a,.row false 109 (.pair (.int .i64) (.pair (.int .i64) (.int .i64))) b,.row false 2 (.int .i64) c,.row false 109 (.pair (.int .i64) (.pair (.int .i64) (.int .i64))) d]=>some ⟨.one ⟨false,[.val (.bool (lkM a b c d))]⟩,[.row false 2 aox a,.row false 109 abx b,.row false 2 aox c,.row false 109 abx d],[],[leN a.length 9223372036854775807&&leN b.length 9223372036854775807]⟩
 |_,_=>none
def uJ:PF prog:=PF.alt afd Um (by
 intro args es o h bA;unfold Um at h;split at h
 ·rename_i a b c d
  cases h
  have bA:=fv bA
  have hh:=arO a b c d bA
  obtain⟨e0,en⟩:=hh
  exact kj rfl (eT en) (by simp only [e0] <;> rfl) rfl rfl
 ·cases h)
section
variable (a:asv)(b c:Int)(d e:List asv)
def Yd:Int:=bif leI 0 (wS d a)then b else c
def Ye:Int:=bif leI 0 (wS d a)then wS d a else wS e a
def GR:Bool:=allT [leN d.length (9223372036854775807:Nat),leI 0 (wS d a)||leN e.length (9223372036854775807:Nat)]
end
def adZ:awE
 | [.one ⟨true,[.val (.string _x0),.ref 0,.ref 1,.ref 2,.val (.string _x1),.ref 3]⟩,.one ⟨false,[.val (.string a)]⟩,.one ⟨false,[.val (.int .i64 b)]⟩,.one ⟨false,[.val (.int .i64 c)]⟩],[.row false 9 (.str) d,.row false 9 (.str) e,.row false 9 (.str) f,.row false 142 (.pair (.str) (.sl 122 (.pair (.int .i64) (.pair (.str) (.int .i64))))) g]=>some ⟨.one ⟨true,[awF (Yd a b c d),awF (Ye a d e)]⟩,[.row false 9 arE d,.row false 9 arE e,.row false 9 arE f,.row false 142 (CTy.pair CTy.str (CTy.sl (122:TypeId) ab5)) g],[],[GR a d e]⟩
 |_,_=>none
def vR:PF prog:=PF.ofG prog (T3z [aV]) [] bj 127 f127 func127 (fun c _=>LOk.nil c) adZ (by
 intro _ _ _ h;unfold adZ at h;split at h<;>cases h;kernel_rfl)
abbrev jq:=Int×Int×Int×asv×asv×List (Int×Int)×List asv×List asv×List asv×List (asv×(List (Int×(asv×Int))))
section
variable (a b c:Int)(d:arD)(e f:List asv)(g:ag4)
def iW:aow:=(v9 g[v7 b]? (ub aaZ)).2
def fQ:Int×asv×Int:=v9 (iW b g)[v7 a]? ((0:Int),ByteArray.empty,(0:Int))
def dS:Bool:=(fQ a b g).1==1
def yN:arD:= [(Yd (((fQ a b g).2).1) 2 3 e,Ye (((fQ a b g).2).1) e f)]
def iX:Bool:=(fQ a b g).1==2
def nF:Bool:=(fQ a b g).1==3
def NR:Bool:=(fQ a b g).1==4
def NS:Bool:=(fQ a b g).1==5
def ua:Bool:=bif NR a b g then NR a b g else bif NS a b g then NS a b g else (fQ a b g).1==6
def yO:arD:= [(qqq .i64 (qqq .i64 ((fQ a b g).1 - (4:Int)) + (4:Int)),(0:Int))]
def wX:arD:= [((7:Int),c)]
def zJ:Bool:=leI 0 b
def zK:Bool:=ltI b (↑g.length:Int)
def zL:Bool:=ltN b.toNat g.length
def zM:Bool:=ltI a (↑(v8 (iW b g)):Int)
def Qk:Bool:=leI 0 a
def Ql:Bool:=ltN a.toNat (v8 (iW b g))
def Qm:Bool:= !dS a b g||GR (((fQ a b g).2).1) e f
def Qn:Bool:= !dS a b g||leN (v8 d + v8 (yN a b e f g)) 9223372036854775807
def Qo:Bool:= !dS a b g||leN ((v8 d + v8 (yN a b e f g)) * 16) 140737488355328
def Qp:Bool:=dS a b g||(!iX a b g||leN (v8 d + v8 [((1:Int),(1:Int))]) 9223372036854775807)
def NK:Bool:=dS a b g||(!iX a b g||leN ((v8 d + v8 [((1:Int),(1:Int))]) * 16) 140737488355328)
def NL:Bool:=dS a b g||(iX a b g||(!nF a b g||leN (v8 d + v8 [((1:Int),(0:Int))]) 9223372036854775807))
def NM:Bool:=dS a b g||(iX a b g||(!nF a b g||leN ((v8 d + v8 [((1:Int),(0:Int))]) * 16) 140737488355328))
def NN:Bool:=dS a b g||(iX a b g||(nF a b g||(!ua a b g||leN (v8 d + v8 (yO a b g)) 9223372036854775807)))
def NO:Bool:=dS a b g||(iX a b g||(nF a b g||(!ua a b g||leN ((v8 d + v8 (yO a b g)) * 16) 140737488355328)))
def NP:Bool:=dS a b g||(iX a b g||(nF a b g||(ua a b g||leN (v8 d + v8 (wX c)) 9223372036854775807)))
def NQ:Bool:=dS a b g||(iX a b g||(nF a b g||(ua a b g||leN ((v8 d + v8 (wX c)) * 16) 140737488355328)))
def aaq:Bool:=dS a b g
def kU:Int:=qqq .i64 (a + (1:Int))
def EV:arD:=d++yN a b e f g
def aar:Bool:=iX a b g
def EW:arD:=d++ [((1:Int),(1:Int))]
def aas:Bool:=nF a b g
def EX:arD:=d++ [((1:Int),(0:Int))]
def aat:Bool:=ua a b g
def EY:arD:=d++yO a b g
def aau:Int:=qqq .i64 (c + (1:Int))
def EZ:arD:=d++wX c
end
def ZI:jq→List (Nat×SV)
 |(a,b,c,_,_,_,_,_,_,_)=> [(6,(.one ⟨false,[awF a]⟩)),(1,(.one ⟨false,[.ptr 0 0]⟩)),(5,(.one ⟨false,[awF b]⟩)),(3,(.one ⟨false,[.ref 1]⟩)),(4,(.one ⟨false,[awF c]⟩))]
def ZE:jq→List (Nat×Entry)
 |(_,_,_,a,b,c,d,e,f,g)=> [(0,(.box 43 [.val (.string a),.ref 2,.ref 3,.ref 4,.val (.string b),.ref 5])),(2,(.row false 9 arE d)),(3,(.row false 9 arE e)),(4,(.row false 9 arE f)),(5,(.row false 142 aaZ g)),(1,(.row true 83 aeK c))]
def ZQ:Nat→jq→List (Nat×SV)
 |_,(a,_,b,_,_,_,_,_,_,_)=> [(3,(.one ⟨false,[.ref 1]⟩)),(4,(.one ⟨false,[awF b]⟩)),(6,(.one ⟨false,[awF a]⟩))]
def ZM:Nat→jq→List (Nat×Entry)
 |_,(_,_,_,a,b,c,d,e,f,g)=> [(0,(.box 43 [.val (.string a),.ref 2,.ref 3,.ref 4,.val (.string b),.ref 5])),(1,(.row true 83 aeK c)),(2,(.row false 9 arE d)),(3,(.row false 9 arE e)),(4,(.row false 9 arE f)),(5,(.row false 142 aaZ g))]
def yL:jq→LT jq
 |(a,b,c,d,e,f,g,i,j,k)=> .need [zJ b,zK b k,zL b k] (.ite (zM a b k) (.need [zJ b,zK b k,zL b k,Qk a,zM a b k,Ql a b k] (.need [Qm a b g i k,Qn a b f g i k,Qo a b f g i k,Qp a b f k,NK a b f k,NL a b f k,NM a b f k,NN a b f k,NO a b f k,NP a b c f k,NQ a b c f k] (.ite (aaq a b k) (.nrm ((kU a),b,c,d,e,EV a b f g i k,g,i,j,k) [(0,0),(1,1984),(2,2),(3,3),(4,4),(5,5)]) (.ite (aar a b k) (.nrm ((kU a),b,c,d,e,EW f,g,i,j,k) [(0,0),(1,1920),(2,2),(3,3),(4,4),(5,5)]) (.ite (aas a b k) (.nrm ((kU a),b,c,d,e,EX f,g,i,j,k) [(0,0),(1,2048),(2,2),(3,3),(4,4),(5,5)]) (.ite (aat a b k) (.nrm ((kU a),b,c,d,e,EY a b f k,g,i,j,k) [(0,0),(1,2688),(2,2),(3,3),(4,4),(5,5)]) (.nrm ((kU a),b,aau c,d,e,EZ c f,g,i,j,k) [(0,0),(1,2496),(2,2),(3,3),(4,4),(5,5)]))))))) (.ext 0 [(0,0),(1,1),(2,2),(3,3),(4,4),(5,5)]))
def EO(s:St):Option jq:=do
 let some ⟨none,.one ⟨false,[.val (.int .i64 a)]⟩⟩:=s.look 6|none
 let some ⟨none,.one ⟨false,[.ptr 0 0]⟩⟩:=s.look 1|none
 let some ⟨none,.one ⟨false,[.val (.int .i64 b)]⟩⟩:=s.look 5|none
 let some ⟨none,.one ⟨false,[.ref 1]⟩⟩:=s.look 3|none
 let some ⟨none,.one ⟨false,[.val (.int .i64 c)]⟩⟩:=s.look 4|none
 let some (.box 43 [.val (.string d),.ref 2,.ref 3,.ref 4,.val (.string e),.ref 5]):=s.ent 0|none
 let some (.row false 9 (.str) g):=s.ent 2|none
 let some (.row false 9 (.str) i):=s.ent 3|none
 let some (.row false 9 (.str) j):=s.ent 4|none
 let some (.row false 142 (.pair .str (.sl 122 (.pair (.int .i64) (.pair .str (.int .i64))))) k):=s.ent 5|none
 let some (.row true 83 (.pair (.int .i64) (.int .i64)) f):=s.ent 1|none
 some (a,b,c,d,e,f,g,i,j,k)
def eR:Lp jq where
 h:=⟨[17,18,19,20,21,22,23,24,25,28,29,30,31,32,33,34,35,36,7,37,38,47,46,48,49,50,51,52,53,54,3,56,55,57,58,59,60,62,61,63,64,65,66,68,67,69,70,71,72,73,74,75,76,77,78,39,40,41,42,43,44,45,4,26,27,6],[0,2,3,4,5],[1],[]⟩
 JL:=ZI
 JE:=ZE
 XL:=ZQ
 XE:=ZM
 q:=fun j=>match j with | _=> .exit 2
 tags:= [0]
 lt:=yL
 fuel:=fun(a,b,c,d,e,f,g,i,k,l)=>a.natAbs + b.natAbs + c.natAbs + d.size + e.size + f.length + g.length + i.length + k.length + l.length
 fix:=fun(_,b,_,d,e,_,g,i,k,l) (a,_,c,_,_,f,_,_,_,_)=>(a,b,c,d,e,f,g,i,k,l)
 σ:= [(0,0),(2,2),(3,3),(4,4),(5,5),(1,1)]
 rd:=EO
theorem WQ:LoopOk prog (memN [10,11,12,13,14,6,17,18,19,20,21,22,23,24,25,28,29,30,31,32,33,34,35,36,7,37,38,47,46,48,49,50,51,52,53,54,3,56,55,57,58,59,60,62,61,63,64,65,66,68,67,69,70,71,72,73,74,75,76,77,78,39,40,41,42,43,44,45,4,26,27,79,80,81,82,83,84,85,86,87,8,88,89,90,91,92,93,94,95,96,97,98,99,100,101,102,103,104,105,106,107,15,16,5]) eR.F (aab (bB f81 0) 0):=by
 refine Lp.ok (tbl:= (T3z [aV,mG,vR])) (lf:= []) bj eR (by kernel_rfl) (LOk.nil _) (fun _=>rfl) (fun _ _=>rfl) ?_ ?_ ?_ ?_ (fun _=>rfl) ?_
 ·rintro⟨a,b,c,d,e,f,g,i,j,k⟩;kernel_rfl
 ·rintro⟨a,b,c,d,e,f,g,i,j,k⟩;kernel_rfl
 ·intro s x h
  have h:EO s=some x:=h
  unfold EO at h
  repeat' split at h
  all_goals cases h
  constructor<;>repeat(first|refine ab (by assumption) rfl ?_|refine aa rfl (by assumption) rfl ?_|exact rfl)
 ·rintro⟨a,b,c,d,e,f,g,i,j,k⟩;kernel_rfl
 ·rintro⟨a,b,c,d,e,f,g,i,j,k⟩ z;exact(And.intro (And.intro rfl (And.intro rfl (And.intro rfl (And.intro rfl rfl)))) trivial)
abbrev mN:=Int×Int×asv×asv×List (Int×Int)×List asv×List asv×List asv×List (asv×(List (Int×(asv×Int))))
section
variable (a b:Int)(c d:asv)(e:arD)(f g i:List asv)(j:ag4)
def SG:Bool:=ltI a (↑j.length:Int)
def Di:Int×Int×Int×asv×asv×arD×List asv×List asv×List asv×ajC:=((0:Int),a,b,c,d,e,f,g,i,j)
def SH:Bool:=ltN a.toNat j.length
def ii:asv:=(v9 j[v7 a]? (ub aaZ)).1
def JY:Int×asv×asv×arD×List asv×List asv×List asv×ajC:=(Lp.res eR (Di a b c d e f g i j)).2.2.2
def oe:arD:=((JY a b c d e f g i j).2.2.2).1
def Dj:arD:= [((8:Int),wS g (ii a j))]
def Dk:arD:= [((9:Int),wS i (ii a j))]
def Et:Bool:=SG a j
def UI:Bool:=Lp.fin eR (Di a b c d e f g i j)
def UJ:Bool:=leI 0 a
def UK:Bool:=SH a j
def UL:Bool:=leN g.length (9223372036854775807:Nat)
def UM:Bool:= !leI 0 (wS g (ii a j))||leN (v8 (oe a b c d e f g i j) + v8 (Dj a g j)) 9223372036854775807
def UN:Bool:= !leI 0 (wS g (ii a j))||leN ((v8 (oe a b c d e f g i j) + v8 (Dj a g j)) * 16) 140737488355328
def UO:Bool:=leI 0 (wS g (ii a j))||leI 0 a
def UP:Bool:=leI 0 (wS g (ii a j))||SG a j
def UQ:Bool:=leI 0 (wS g (ii a j))||SH a j
def SC:Bool:=leI 0 (wS g (ii a j))||leN i.length (9223372036854775807:Nat)
def SD:Bool:=leI 0 (wS g (ii a j))||leN (v8 (oe a b c d e f g i j) + v8 (Dk a i j)) 9223372036854775807
def SE:Bool:=leI 0 (wS g (ii a j))||leN ((v8 (oe a b c d e f g i j) + v8 (Dk a i j)) * 16) 140737488355328
def adD:Bool:=leI 0 (wS g (ii a j))
def tO:Int:=qqq .i64 (a + (1:Int))
def SF:Int:=(JY a b c d e f g i j).1
def JW:arD:=oe a b c d e f g i j++Dj a g j
def JX:arD:=oe a b c d e f g i j++Dk a i j
end
def adb:mN→List (Nat×SV)
 |(a,b,_,_,_,_,_,_,_)=> [(5,(.one ⟨false,[awF a]⟩)),(1,(.one ⟨false,[.ptr 0 0]⟩)),(3,(.one ⟨false,[.ref 1]⟩)),(4,(.one ⟨false,[awF b]⟩))]
def ac5:mN→List (Nat×Entry)
 |(_,_,a,b,c,d,e,f,g)=> [(0,(.box 43 [.val (.string a),.ref 2,.ref 3,.ref 4,.val (.string b),.ref 5])),(2,(.row false 9 arE d)),(3,(.row false 9 arE e)),(4,(.row false 9 arE f)),(5,(.row false 142 aaZ g)),(1,(.row true 83 aeK c))]
def ado:Nat→mN→List (Nat×SV)
 |_,(_,_,_,_,_,_,_,_,_)=> [(3,(.one ⟨false,[.ref 1]⟩))]
def adi:Nat→mN→List (Nat×Entry)
 |_,(_,_,a,b,c,d,e,f,g)=> [(0,(.box 43 [.val (.string a),.ref 2,.ref 3,.ref 4,.val (.string b),.ref 5])),(1,(.row true 83 aeK c)),(2,(.row false 9 arE d)),(3,(.row false 9 arE e)),(4,(.row false 9 arE f)),(5,(.row false 142 aaZ g))]
def Da:mN→LT mN
 |(a,b,c,d,e,f,g,i,j)=> .ite (Et a j) (.need [UI a b c d e f g i j] (.need [UJ a,Et a j,UK a j,UL g] (.need [UM a b c d e f g i j,UN a b c d e f g i j,UO a g j,UP a g j,UQ a g j,SC a g i j,SD a b c d e f g i j,SE a b c d e f g i j] (.ite (adD a g j) (.nrm ((tO a),SF a b c d e f g i j,c,d,JW a b c d e f g i j,f,g,i,j) [(0,0),(1,1536),(2,2),(3,3),(4,4),(5,5)]) (.nrm ((tO a),SF a b c d e f g i j,c,d,JX a b c d e f g i j,f,g,i,j) [(0,0),(1,2048),(2,2),(3,3),(4,4),(5,5)]))))) (.ext 0 [(0,0),(1,1),(2,2),(3,3),(4,4),(5,5)])
def Ju(s:St):Option mN:=do
 let some ⟨none,.one ⟨false,[.val (.int .i64 a)]⟩⟩:=s.look 5|none
 let some ⟨none,.one ⟨false,[.ptr 320 0]⟩⟩:=s.look 1|none
 let some ⟨none,.one ⟨false,[.ref 448]⟩⟩:=s.look 3|none
 let some ⟨none,.one ⟨false,[.val (.int .i64 b)]⟩⟩:=s.look 4|none
 let some (.box 43 [.val (.string c),.ref 0,.ref 1,.ref 2,.val (.string d),.ref 3]):=s.ent 320|none
 let some (.row false 9 (.str) f):=s.ent 0|none
 let some (.row false 9 (.str) g):=s.ent 1|none
 let some (.row false 9 (.str) i):=s.ent 2|none
 let some (.row false 142 (.pair .str (.sl 122 (.pair (.int .i64) (.pair .str (.int .i64))))) j):=s.ent 3|none
 let some (.row true 83 (.pair (.int .i64) (.int .i64)) e):=s.ent 448|none
 some (a,b,c,d,e,f,g,i,j)
def gR:Lp mN where
 h:=⟨[10,11,12,13,14,6,17,18,19,20,21,22,23,24,25,28,29,30,31,32,33,34,35,36,7,37,38,47,46,48,49,50,51,52,53,54,3,56,55,57,58,59,60,62,61,63,64,65,66,68,67,69,70,71,72,73,74,75,76,77,78,39,40,41,42,43,44,45,4,26,27,79,80,81,82,83,84,85,86,87,8,88,89,90,91,92,93,94,95,96,97,98,99,100,101,102,103,104,105,106,107,15,16,5],[0,2,3,4,5],[1],[]⟩
 JL:=adb
 JE:=ac5
 XL:=ado
 XE:=adi
 q:=fun j=>match j with | _=> .exit 0
 tags:= [0]
 lt:=Da
 fuel:=fun(a,b,c,d,e,f,g,i,k)=>a.natAbs + b.natAbs + c.size + d.size + e.length + f.length + g.length + i.length + k.length
 fix:=fun(_,_,c,d,_,f,g,i,k) (a,b,_,_,e,_,_,_,_)=>(a,b,c,d,e,f,g,i,k)
 σ:= [(0,320),(2,0),(3,1),(4,2),(5,3),(1,448)]
 rd:=Ju
theorem aa9:LoopOk prog (fun k=>Nat.blt k Tryz.f81.ntmps) gR.F (bB f81 0):=by
 refine Lp.ok (tbl:= (T3z [aV,mG,vR])) (lf:= [eR.F]) bj gR (by kernel_rfl) (LOk.allT (l:= [aab (bB f81 0) 0]) (by kernel_rfl) (.cons WQ (.nil _))) (fun _=>rfl) (fun _ _=>rfl) ?_ ?_ ?_ ?_ (fun _=>rfl) ?_
 ·rintro⟨a,b,c,d,e,f,g,i,j⟩;kernel_rfl
 ·rintro⟨a,b,c,d,e,f,g,i,j⟩;kernel_rfl
 ·intro s x h
  have h:Ju s=some x:=h
  unfold Ju at h
  repeat' split at h
  all_goals cases h
  constructor<;>repeat(first|refine ab (by assumption) rfl ?_|refine aa rfl (by assumption) rfl ?_|exact rfl)
 ·rintro⟨a,b,c,d,e,f,g,i,j⟩;kernel_rfl
 ·rintro⟨a,b,c,d,e,f,g,i,j⟩ z;exact(And.intro (And.intro rfl rfl) trivial)
section
variable (a b:asv)(c d e:List asv)(f:ajC)
def lA:Bool:= !ByteArray.toList b==ByteArray.toList (ByteArray.mk #[])
def Is:Int×Int×asv×asv×arD×List asv×List asv×List asv×ajC:=((0:Int),(0:Int),a,b,[],c,d,e,f)
def yo:arD:=((Lp.res gR (Is a b c d e f)).2.2.2.2.2).1
def It:arD:= [(Yd b 10 11 c,Ye b c d)]
def cJ:Int:=bif lA b then(↑c.length:Int)else(↑c.length:Int)
def cK:Int:=bif lA b then(↑d.length:Int)else(↑d.length:Int)
def cL:Int:=bif lA b then(↑e.length:Int)else(↑e.length:Int)
def cM:aov:=bif lA b then blL f else blL f
def lq:arD:=bif lA b then yo a b c d e f++It b c d else yo a b c d e f
def RD:Bool:=allT [Lp.fin gR (Is a b c d e f),!lA b||GR b c d,!lA b||leN (v8 (yo a b c d e f) + v8 (It b c d)) 9223372036854775807,!lA b||leN ((v8 (yo a b c d e f) + v8 (It b c d)) * 16) 140737488355328,!lA b||ajI f,lA b||ajI f]
end
def YD:awE
 | [.one ⟨true,[.val (.string a),.ref 0,.ref 1,.ref 2,.val (.string b),.ref 3]⟩],[.row false 9 (.str) c,.row false 9 (.str) d,.row false 9 (.str) e,.row false 142 (.pair (.str) (.sl 122 (.pair (.int .i64) (.pair (.str) (.int .i64))))) f]=>some ⟨.one ⟨true,[awF (cJ b c),awF (cK b d),awF (cL b e),.ref 4,.ref 5]⟩,[.row false 9 arE c,.row false 9 arE d,.row false 9 arE e,.row false 142 (CTy.pair CTy.str (CTy.sl (122:TypeId) ab5)) f],[.row true 122 ab5 (cM b f),.row true 83 aeK (lq a b c d e f)],[RD a b c d e f]⟩
 |_,_=>none
def ajS:PF prog:=PF.ofG prog (T3z [aV,mG,vR]) [gR.F] bj 81 f81 func81 (LOk.fnT (l:= [bB f81 0]) (by kernel_rfl) (.cons aa9 (.nil _))) YD (by
 intro _ _ _ h;unfold YD at h;split at h<;>cases h;kernel_rfl)
section
variable (a b c:Int)
def Zo:Bool:=bif a==1 then c==4 else false
def Zp:Bool:=bif a==4 then c==4 else false
def Zq:Bool:=bif bif a==1 then b==1 else false then c==5 else false
def Zr:Bool:=bif bif a==1 then b==0 else false then c==6 else false
def abn:Bool:=bif Zo a c then true else bif Zp a c then true else bif Zq a b c then true else bif Zr a b c then true else false
def Mj:arD:=bif Zo a c then [((1:Int),qqq .i64 ((1:Int) - b))]else bif Zp a c then []else bif Zq a b c then []else bif Zr a b c then []else []
end
def aaJ:awE
 | [.one ⟨true,[.val (.int .i64 a),.val (.int .i64 b)]⟩,.one ⟨true,[.val (.int .i64 c),.val (.int .i64 _x3)]⟩],[]=>some ⟨.tup [⟨false,[.ref 0]⟩,⟨false,[.val (.bool (abn a b c))]⟩],[],[.row true 83 aeK (Mj a b c)],[]⟩
 |_,_=>none
def abj:PF prog:=PF.ofG prog [] [] bj 192 f192 func192 (fun c _=>LOk.nil c) aaJ (by
 intro _ _ _ h;unfold aaJ at h;split at h<;>cases h;kernel_rfl)
section
variable (a b:Int)(c d e:arG)(f:aq5)(g i j:arG)(k:aq5)
def CY:Bool:=bif a==b then eqL c g else false
def Lj:Bool:=bif bif CY a b c g then eqL e j else false then lkM d f i k else false
def Lk:Bool:=allT [!(a==b&&true)||leN c.length (9223372036854775807:Nat),!(CY a b c g&&true)||leN e.length (9223372036854775807:Nat),!((bif CY a b c g then eqL e j else false)&&true)||leN d.length (9223372036854775807:Nat)&&leN f.length (9223372036854775807:Nat)]
end
def Ub:awE
 | [.one ⟨true,[.val (.int .i64 a),.ref 0,.ref 1,.ref 2,.ref 3]⟩,.one ⟨true,[.val (.int .i64 b),.ref 4,.ref 5,.ref 6,.ref 7]⟩],[.row false 2 (.int .i64) c,.row false 2 (.int .i64) d,.row false 2 (.int .i64) e,.row false 109 (.pair (.int .i64) (.pair (.int .i64) (.int .i64))) f,.row false 2 (.int .i64) g,.row false 2 (.int .i64) i,.row false 2 (.int .i64) j,.row false 109 (.pair (.int .i64) (.pair (.int .i64) (.int .i64))) k]=>some ⟨.one ⟨false,[.val (.bool (Lj a b c d e f g i j k))]⟩,[.row false 2 aox c,.row false 2 aox d,.row false 2 aox e,.row false 109 abx f,.row false 2 aox g,.row false 2 aox i,.row false 2 aox j,.row false 109 abx k],[],[Lk a b c d e f g j]⟩
 |_,_=>none
def afc:PF prog:=PF.ofG prog (T3z [jR,uJ]) [] bj 12 f12 func12 (fun c _=>LOk.nil c) Ub (by
 intro _ _ _ h;unfold Ub at h;split at h<;>cases h;kernel_rfl)
def apO(v:arD→arD)(n:Nat):awE
 | [.one ⟨false,[.ref 0]⟩],[.row false 83 (.pair (.int .i64) (.int .i64)) a]=>
  some ⟨.one ⟨false,[.ref 1]⟩,[.row false 83 (.pair (.int .i64) (.int .i64)) a],[.row true 83 (.pair (.int .i64) (.int .i64)) (v a)],[leN (a.length + 1) n,leN a.length 1000000]⟩
 |_,_=>none
def aur(v:arD→arD)(n:Nat):Prop:=
 ∀ args es o,apO v n args es=some o→(∀ b∈o.nd,b=true)→ ∀ (mem:Nat→Option Obj) (ρ:Nm) (w:World),HpL w mem es ρ w→
  Calls prog 167 (args.map (SV.conc ρ)).toArray w fun e w'=> ∃ ρ':Nm,Ext (memB w mem) (fun i=>Nat.blt i es.length) ρ ρ'∧e= .returned (o.res.conc ρ')∧o.es.length=es.length∧
   o.res.inU (fun i=>Nat.blt i (o.es++o.new).length)∧HpL w mem (o.es++o.new) ρ' w'
def PF.imp(v:arD→arD)(n:Nat)(hk:aur v n):PF prog where
 k:=167
 F:=apO v n
 ok:=hk
abbrev od:=Int×List (Int×Int)
section
variable (a:Int)(b:arD)
def sk:Int:=qqq .i64 (a + (1:Int))
def sm:Int×Int:=v9 b[v7 a]? ((0:Int),(0:Int))
def Iv:Int:=(v9 b[v7 (sk a)]? ((0:Int),(0:Int))).1
def cf:Bool:=abn ((sm a b).1) ((sm a b).2) (Iv a b)
def pv:arD:=List.drop (v7 0) (List.take a.toNat b)
def Bh:arD:=Mj ((sm a b).1) ((sm a b).2) (Iv a b)
def Bi:Int:=qqq .i64 (a + (2:Int))
def wn:arD:=pv a b++Bh a b
def wo:arD:=List.drop (v7 (Bi a)) (List.take (v7 (↑b.length:Int)) b)
def kw:arD:=wn a b++wo a b
def tP:Bool:=ltI (sk a) (↑b.length:Int)
def SI:Bool:=leI 0 a
def SJ:Bool:=ltI a (↑b.length:Int)
def SK:Bool:=ltN a.toNat b.length
def JZ:Bool:=leI 0 (sk a)
def Ka:Bool:=ltN (v7 (sk a)) b.length
def SL:Bool:= !cf a b||leI 0 0
def SM:Bool:= !cf a b||leI 0 a
def SN:Bool:= !cf a b||leI a (↑b.length:Int)
def SO:Bool:= !cf a b||leN (0 + v8 (pv a b)) 9223372036854775807
def RN:Bool:= !cf a b||leN ((0 + v8 (pv a b)) * 16) 140737488355328
def RO:Bool:= !cf a b||leN (v8 (pv a b) + v8 (Bh a b)) 9223372036854775807
def RP:Bool:= !cf a b||leN ((v8 (pv a b) + v8 (Bh a b)) * 16) 140737488355328
def RQ:Bool:= !cf a b||leI 0 (Bi a)
def RR:Bool:= !cf a b||leI (Bi a) (↑b.length:Int)
def RS:Bool:= !cf a b||leI (↑b.length:Int) (↑b.length:Int)
def RT:Bool:= !cf a b||leN (v8 (wn a b) + v8 (wo a b)) 9223372036854775807
def RU:Bool:= !cf a b||leN ((v8 (wn a b) + v8 (wo a b)) * 16) 140737488355328
end
def RW(n0:Nat)(a:Int)(b:arD):Bool:= !cf a b||leN (v8 (kw a b) + 1) n0
def RX(a:Int)(b:arD):Bool:= !cf a b||leN (v8 (kw a b)) 1000000
def RY(a:Int)(b:arD):Bool:=cf a b
def RZ(v0:arD→arD)(a:Int)(b:arD):arD:=v0 (kw a b)
def Iu(a:Int):Int:=sk a
def abH:od→List (Nat×SV)
 |(a,_)=> [(3,(.one ⟨false,[awF a]⟩)),(0,(.one ⟨false,[.ref 0]⟩))]
def abC:od→List (Nat×Entry)
 |(_,a)=> [(0,(.row false 83 aeK a))]
def abR:Nat→od→List (Nat×SV)
 |0,(_,_)=> [(2,(.one ⟨false,[.ref 1]⟩))]
 |_,(_,_)=> []
def abM(v0:arD→arD):Nat→od→List (Nat×Entry)
 |0,(a,b)=> [(0,(.row false 83 aeK b)),(1,(.row true 83 aeK (RZ v0 a b)))]
 |_,(_,b)=> [(0,(.row false 83 aeK b))]
def HH(n0:Nat):od→LT od
 |(a,b)=> .ite (tP a b) (.need [SI a,SJ a b,SK a b,JZ a,tP a b,Ka a b] (.need [SL a b,SM a b,SN a b,SO a b,RN a b,RO a b,RP a b,RQ a b,RR a b,RS a b,RT a b,RU a b,RW n0 a b,RX a b] (.ite (RY a b) (.ext 0 [(0,0),(1,2304)]) (.nrm ((Iu a),b) [(0,0)])))) (.ext 1 [(0,0)])
def HP(s:St):Option od:=do
 let some ⟨none,.one ⟨false,[.val (.int .i64 a)]⟩⟩:=s.look 3|none
 let some ⟨none,.one ⟨false,[.ref 0]⟩⟩:=s.look 0|none
 let some (.row false 83 (.pair (.int .i64) (.int .i64)) b):=s.ent 0|none
 some (a,b)
def dj(v0:arD→arD)(n0:Nat):Lp od where
 h:=⟨[7,8,9,10,11,15,16,17,18,19,20,21,22,23,24,14,25,26,4,5,27,28,29,30,31,32,33,34,6,35,36,37,38,39,40,41,2,12,13,3],[0],[],[1]⟩
 JL:=abH
 JE:=abC
 XL:=abR
 XE:=(abM v0)
 q:=fun j=>match j with | 0=> .ret | _=> .exit 0
 tags:= [0,1]
 lt:=(HH n0)
 fuel:=fun(a,b)=>a.natAbs + b.length
 fix:=fun(_,b) (a,_)=>(a,b)
 σ:= [(0,0)]
 rd:=HP
theorem aag(v0:arD→arD)(n0:Nat)(hk0:aur v0 n0):LoopOk prog (fun k=>Nat.blt k Tryz.f167.ntmps) (dj v0 n0).F (bB f167 0):=by
 refine Lp.ok (tbl:= [abj,PF.imp v0 n0 hk0,PF.lend (PF.imp v0 n0 hk0),PF.fz (PF.imp v0 n0 hk0)]) (lf:= []) bj (dj v0 n0) (by kernel_rfl) (LOk.nil _) (fun _=>rfl) (fun j _=>by unfold dj;match j with | 0=>rfl | _ + 1=>rfl) ?_ ?_ ?_ ?_ (fun _=>rfl) ?_
 ·rintro⟨a,b⟩;kernel_rfl
 ·rintro⟨a,b⟩;kernel_rfl
 ·intro s x h
  have h:HP s=some x:=h
  unfold HP at h
  repeat' split at h
  all_goals cases h
  constructor<;>repeat(first|refine ab (by assumption) rfl ?_|refine aa rfl (by assumption) rfl ?_|exact rfl)
 ·rintro⟨a,b⟩;kernel_rfl
 ·rintro⟨a,b⟩ z;exact(And.intro (And.intro trivial rfl) trivial)
def FF(v0:arD→arD)(n0:Nat)(a:arD):Bool:=Nat.beq ((Lp.res (dj v0 n0) ((0:Int),a)).1) 0
def CN(v0:arD→arD)(n0:Nat)(a:arD):arD:=bif(FF v0 n0) a then(RZ v0) (((Lp.res (dj v0 n0) ((0:Int),a)).2).1) a else a
def PO(v0:arD→arD)(n0:Nat)(a:arD):Bool:=allT [Lp.fin (dj v0 n0) ((0:Int),a),(FF v0 n0) a||leN (0 + v8 a) 9223372036854775807,(FF v0 n0) a||leN ((0 + v8 a) * 16) 140737488355328]
def Wq(v0:arD→arD)(n0:Nat):awE
 | [.one ⟨false,[.ref 0]⟩],[.row false 83 (.pair (.int .i64) (.int .i64)) a]=>some ⟨.one ⟨false,[.ref 1]⟩,[.row false 83 aeK a],[.row true 83 aeK (CN v0 n0 a)],[PO v0 n0 a]⟩
 |_,_=>none
def ail(v0:arD→arD)(n0:Nat)(hk0:aur v0 n0):PF prog:=PF.ofG prog [abj,PF.imp v0 n0 hk0,PF.lend (PF.imp v0 n0 hk0),PF.fz (PF.imp v0 n0 hk0)] [(dj v0 n0).F] bj 167 f167 func167 (LOk.fnT (l:= [bB f167 0]) (by kernel_rfl) (.cons (aag v0 n0 hk0) (.nil _))) (Wq v0 n0) (by
 intro _ _ _ h;unfold Wq at h;split at h<;>cases h;kernel_rfl)
theorem arc(a b c:Int):(Mj a b c).length≤1:=by
 simp only [Mj]
 exact fS (by simp) (fS (by simp) (fS (by simp) (fS (by simp) (by simp))))
theorem arH(v:List IN→List IN)(n:Nat)(l:List IN)(hn:l.length≤n)(hl:l.length≤1000000)(i:Nat)(hi:i≤l.length):
  ((dj v n).lt ((i:Int),l)).out=some (bif ltI ((i:Int) + 1) (l.length:Int)then(bif cf (i:Int) l then .inl 0 else .inr (((i + 1:Nat):Int),l))else .inl 1)∧
  (ltI ((i:Int) + 1) (l.length:Int)=true→(kw (i:Int) l).length + 1≤l.length):=by
 have w1:sk (i:Int)=(i:Int) + 1:=aR (by omega) (by omega)
 have w2:Bi (i:Int)=(i:Int) + 2:=aR (by omega) (by omega)
 have hb:=arc (sm (i:Int) l).1 (sm (i:Int) l).2 (Iv (i:Int) l)
 have l4:(pv (i:Int) l).length=i:=by simp only [pv,Int.toNat_zero,List.drop_zero,w5,w9];omega
 have l5:(Bh (i:Int) l).length≤1:=hb
 have l7:(wn (i:Int) l).length≤i + 1:=by simp only [wn,w8];omega
 have l8:(wo (i:Int) l).length=l.length - (i + 2):=by
  simp only [wo,w2,w5,List.take_length,List.length_drop];omega
 have l9:ltI ((i:Int) + 1) (l.length:Int)=true→(kw (i:Int) l).length + 1≤l.length:=fun ht=>by
  have:=Kf.1 ht
  simp only [kw,w8];omega
 refine⟨?_,l9⟩
 cases ht:ltI ((i:Int) + 1) (l.length:Int)with
 |false=>
  have p0:tP (i:Int) l=false:=by simp only [tP,w1,ht]
  simp only [dj,HH,LT.out,p0,cond_false]
 |true=>
  have eG:=Kf.1 ht
  have l9:=l9 ht
  have p0:tP (i:Int) l=true:=by simp only [tP,w1,ht]
  have p1:SI (i:Int)=true:=aS (by omega)
  have p2:SJ (i:Int) l=true:=cI (by omega)
  have p3:SK (i:Int) l=true:=dE (by simp only [w5];omega)
  have p4:JZ (i:Int)=true:=by simp only [JZ,w1];exact aS (by omega)
  have p5:Ka (i:Int) l=true:=by simp only [Ka,w1];exact dE (by omega)
  have p6:SL (i:Int) l=true:=uq rfl
  have p7:SM (i:Int) l=true:=uq (aS (by omega))
  have p8:SN (i:Int) l=true:=uq (aS (by omega))
  have p9:SO (i:Int) l=true:=uq (aG (by omega))
  have p10:RN (i:Int) l=true:=uq (aG (by omega))
  have p11:RO (i:Int) l=true:=uq (aG (by omega))
  have p12:RP (i:Int) l=true:=uq (aG (by omega))
  have p13:RQ (i:Int) l=true:=uq (by rw [w2];exact aS (by omega))
  have p14:RR (i:Int) l=true:=uq (by rw [w2];exact aS (by omega))
  have p15:RS (i:Int) l=true:=uq (aS (by omega))
  have p16:RT (i:Int) l=true:=uq (aG (by omega))
  have p17:RU (i:Int) l=true:=uq (aG (by omega))
  have p18:RW n (i:Int) l=true:=uq (aG (by omega))
  have p19:RX (i:Int) l=true:=uq (aG (by omega))
  have e21:Iu (i:Int)=((i + 1:Nat):Int):=by simp only [Iu,w1];omega
  simp only [dj,HH,LT.out,allT,p0,p1,p2,p3,p4,p5,p6,p7,p8,p9,p10,p11,p12,p13,p14,p15,p16,p17,p18,p19,e21,RY,cond_true]
  cases cf (i:Int) l <;> rfl
theorem aqh(v:List IN→List IN)(n:Nat)(l:List IN)(hn:l.length≤n)(hl:l.length≤1000000): ∀ (k i:Nat),i + k=l.length→
  ∃ (j m:Nat),LX (dj v n).lt (k + 1) ((i:Int),l)=some (j,((m:Int),l))∧(j=0∧ltI ((m:Int) + 1) (l.length:Int)=true∧m≤l.length∨j=1)
 |0,i,h=>by
  obtain⟨h1,_⟩:=arH v n l hn hl i (by omega)
  rw [show ltI ((i:Int) + 1) (l.length:Int)=false from yV (by omega),cond_false]at h1
  exact⟨1,i,Gb _ h1,.inr rfl⟩
 |k + 1,i,h=>by
  obtain⟨h1,_⟩:=arH v n l hn hl i (by omega)
  cases ht:ltI ((i:Int) + 1) (l.length:Int)with
  |false=>
   rw [ht,cond_false]at h1
   exact⟨1,i,Gb _ h1,.inr rfl⟩
  |true=>
   cases h3:cf (i:Int) l with
   |true=>
    rw [ht,h3,cond_true,cond_true]at h1
    exact⟨0,i,Gb _ h1,.inl ⟨rfl,ht,by omega⟩⟩
   |false=>
    rw [ht,h3,cond_true,cond_false]at h1
    obtain⟨j,m,g1,g2⟩:=aqh v n l hn hl k (i + 1) (by omega)
    exact⟨j,m,by rw [Tk _ h1];exact g1,g2⟩
theorem aqi(v:List IN→List IN)(n:Nat)(l:List IN)(hn:l.length≤n)(hl:l.length≤1000000):
  PO v n l=true∧(CN v n l=l∨ ∃ i:Nat,CN v n l=v (kw (i:Int) l)∧(kw (i:Int) l).length + 1≤l.length):=by
 obtain⟨j,m,g1,g2⟩:=aqh v n l hn hl l.length 0 (by omega)
 obtain⟨f,g⟩:=(dj v n).run g1 (aeN (by simp only [dj];omega))
 have f:Lp.fin (dj v n) ((0:Int),l)=true:=f
 have g:Lp.res (dj v n) ((0:Int),l)=(j,((m:Int),l)):=g
 have b1:leN (0 + l.length) 9223372036854775807=true:=aG (by omega)
 have b2:leN ((0 + l.length) * 16) 140737488355328=true:=aG (by omega)
 refine⟨by simp only [PO,f,b1,b2,allT,v4,cond_true],?_⟩
 simp only [CN,FF,g]
 rcases g2 with⟨rfl,ht,hm⟩ | rfl
 ·exact .inr ⟨m,rfl,(arH v n l hn hl m hm).2 ht⟩
 ·exact .inl rfl
def imV:Nat→List IN→List IN
 |0,l=>l
 |n + 1,l=>CN (imV n) n l
theorem asy: ∀ (n:Nat) (l:List IN),l.length + 1≤n→l.length≤1000000→(imV n l).length≤l.length
 |0,l,h,_=>by omega
 |n + 1,l,h,hl=>by
  rcases(aqi (imV n) n l (by omega) hl).2 with e | ⟨i,e,eG⟩
  ·simp only [imV,e];exact Nat.le_refl _
  ·simp only [imV,e]
   have:=asy n _ (show (kw (i:Int) l).length + 1≤n by omega) (by omega)
   omega
theorem av1: ∀ n:Nat,aur (imV n) n
 |0=>by
  intro args es o h bA
  unfold apO at h
  split at h
  ·cases h
   have:=bA _ (List.mem_cons_self ..)
   rw [fc]at this
   omega
  ·cases h
 |n + 1=>by
  refine(PF.alt (ail (imV n) n (av1 n)) (apO (imV (n + 1)) (n + 1)) ?_).ok
  intro args es o h bA
  unfold apO at h
  split at h
  ·rename_i a
   cases h
   have h1:=fc.1 (bA _ (List.mem_cons_self ..))
   have h2:=fc.1 (bA (leN a.length 1000000) (by simp))
   have h3:=(aqi (imV n) n a (Nat.le_of_succ_le_succ h1) h2).1
   exact⟨_,rfl,fun b hb=>by rw [qqj.1 hb];exact h3,rfl,rfl,rfl⟩
  ·cases h
def YI:awE
 | [.one ⟨false,[.ref 0]⟩],[.row false 83 (.pair (.int .i64) (.int .i64)) a]=>
  some ⟨.one ⟨false,[.ref 1]⟩,[.row false 83 (.pair (.int .i64) (.int .i64)) a],[.row true 83 (.pair (.int .i64) (.int .i64)) (imV (a.length + 1) a)],[leN a.length 1000000]⟩
 |_,_=>none
def QI:PF prog where
 k:=167
 F:=YI
 ok:=by
  intro args es o h bA
  unfold YI at h
  split at h
  ·rename_i a
   cases h
   refine av1 (a.length + 1) _ _ ⟨_,_,_,[leN (a.length + 1) (a.length + 1),leN a.length 1000000]⟩ rfl fun b hb=> ?_
   rcases List.mem_cons.1 hb with rfl | hb
   ·exact aG (Nat.le_refl _)
   ·exact bA b hb
  ·cases h
end Go.SX
