/- What functions of the program come to, and what that says in plain words: part 1. -/
import Derived.Test.YtaplpbmnedpkfaaGreatDoorTXh
import Derived.Test.YtaplpbmnedpkfaaGreatDoorProg
import Derived.Test.YtaplpbmnedpkfaaGreatDoorSh
import Derived.Test.YtaplpbmnedpkfaaGreatDoorTXs
import Derived.Test.YtaplpbmnedpkfaaGreatDoorTXq
import Derived.Lib.ItoaLen
import Derived.Test.YtaplpbmnedpkfaaGreatDoorTXi
set_option linter.unusedSimpArgs false
set_option linter.unusedVariables false
open Bool renaming and_eq_true → q8
open Int renaming toNat_natCast → q9
open List renaming length_append → w5
open List renaming length_cons → w6
open Bool renaming cond_self → w7
open List renaming length_replicate → w8
open List renaming getElem?_eq_some_iff → w9
open Int renaming toNat → z1
open List renaming length → z6
open Option renaming getD → z7
open Go.IntKind renaming wrap → z8
open List renaming replicate → j6
namespace Go.SX
open Go.Proofs
def T3z {P : Program} (l : List (PF P)) : List (PF P) :=l.flatMap fun p=>[p,PF.lend p,PF.fz p]
abbrev ael:Type:=ByteArray
abbrev ad1:CTy:=(CTy.pair (CTy.pair CTy.str (CTy.pair (CTy.sl 100 (CTy.pair (CTy.int IntKind.i64) (CTy.pair (CTy.int IntKind.i64) CTy.bool))) (CTy.sl 103 (CTy.pair (CTy.int IntKind.i64) (CTy.int IntKind.i64))))) (CTy.pair (CTy.int IntKind.i64) (CTy.pair (CTy.int IntKind.i64) (CTy.int IntKind.i64))))
abbrev ad2:CTy:=(CTy.pair CTy.str (CTy.pair (CTy.sl 100 (CTy.pair (CTy.int IntKind.i64) (CTy.pair (CTy.int IntKind.i64) CTy.bool))) (CTy.sl 103 (CTy.pair (CTy.int IntKind.i64) (CTy.int IntKind.i64)))))
abbrev ad3:CTy:=(CTy.pair (CTy.int IntKind.i64) (CTy.pair (CTy.int IntKind.i64) (CTy.int IntKind.i64)))
abbrev ad4:CTy:=(CTy.pair (CTy.int IntKind.i64) (CTy.pair (CTy.int IntKind.i64) CTy.bool))
abbrev ad5:CTy:=(CTy.pair (CTy.int IntKind.i64) (CTy.sl 2 (CTy.int IntKind.i64)))
abbrev ad6:Type:=List ((ByteArray×List (Int×Int×Bool)×List (Int×Int))×Int×Int×Int)
abbrev ad7:Type:=List (ByteArray×((List (Int×(Int×Bool)))×(List (Int×Int))))
abbrev ad8:CTy:=(CTy.pair (CTy.int IntKind.i64) (CTy.int IntKind.i64))
abbrev ad9:Type:=List (ByteArray×List (Int×Int×Bool)×List (Int×Int))
abbrev aea:CTy:=(CTy.sl 2 (CTy.int IntKind.i64))
abbrev aeb:CTy:=(CTy.int IntKind.i64)
abbrev aec:Type:=List (Int×(Int×Bool))
abbrev aed:CTy:=(CTy.int IntKind.u8)
abbrev aee:Type:=List (Int×(Int×Int))
abbrev aef:Type:=List (Int×List Int)
abbrev aeg:Type:=List (Int×Int×Bool)
abbrev aeh:Type:=List (Int×Int×Int)
abbrev aei:Type:=List (List Int)
abbrev aej:Type:=List (Int×Int)
abbrev aek:Type:=List Int
abbrev aeq:=Entry.row false 2 aeb
abbrev aer:=Entry.row true 2 aeb
abbrev aes:=Entry.row false 60 ad2
abbrev aet:=Entry.row false 5 aed
abbrev aeu:=Entry.row false 100 ad4
abbrev aev:=Entry.row false 64 ad3
abbrev aew:=Entry.row true 62 ad1
abbrev aex:=Entry.row true 69 ad3
abbrev aey:=Entry.row true 60 ad2
abbrev aez:=Entry.row true 64 ad3
abbrev aeA:=Entry.row false 103 ad8
abbrev aeB:=Entry.row true 100 ad4
abbrev aeC:=Entry.row false 60 (CTy.pair CTy.str (CTy.pair (CTy.sl (100:TypeId) ad4) (CTy.sl (103:TypeId) ad8)))
abbrev aeD:=Entry.row true 26 ad5
abbrev aeE:=Entry.row true 24 aea
abbrev aeo(c:Cell):SV:=.one ⟨false,[c]⟩
abbrev aep(a:Int):SV:=.one ⟨false,[.val (.int .i64 a)]⟩
abbrev aem:Type:=List SV→List Entry→Option Out
abbrev aen(a:Int):Cell:=.val (.int .i64 a)
end Go.SX
namespace Go.SX
open Go.Proofs Go.Proofs.Tryz
set_option maxRecDepth 100000
theorem bB:Tryz.prog.follows .mixedOrders=true:=by kernel_rfl
def fD(a b c:Int):Bool:=bif leI b a then leI a c else false
def QI:aem
 | [.one ⟨false,[.val (.int .i64 a)]⟩,.one ⟨false,[.val (.int .i64 b)]⟩,.one ⟨false,[.val (.int .i64 c)]⟩],[]=>some ⟨aeo (.val (.bool (fD a b c))),[],[],[]⟩
 |_,_=>none
def Fz:PF prog:=PF.ofG prog [] [] bB 24 f24 func24 (fun c _=>LOk.nil c) QI (by
 intro _ _ _ h;unfold QI at h;split at h<;>cases h;kernel_rfl)
abbrev jX:=Int×Int×List Int
section
variable (a b:Int)(c:aek)
def rK:Bool:=ltI a (↑c.length:Int)
def ul:Bool:=leI 0 a
def um:Bool:=ltN a.toNat c.length
def uo:Bool:= !fD (z7 c[z1 a]? 0) 0 (z8 .i64 (z8 .i64 ((3:Int) * b) - (1:Int)))
def uq:Int:=z8 .i64 (a + (1:Int))
end
def Ni:jX→List (Nat×SV)
 |(a,_,_)=> [(3,(aep a)),(1,(aeo (.ptr 0 0)))]
def Ng:jX→List (Nat×Entry)
 |(_,a,b)=> [(0,(.box 26 [aen a,.ref 1])),(1,(aeq b))]
def Nt:Nat→jX→List (Nat×SV)
 |0,(_,_,_)=> [(2,(aeo (.val (.bool false))))]
 |_,_=>[]
def tv:jX→LT jX
 |(a,b,c)=> .ite (rK a c) (.need [ul a,rK a c,um a c] (.ite (uo a b c) (.ext 0 [(0,0),(1,1)]) (.nrm ((uq a),b,c) [(0,0),(1,1)]))) (.ext 1 [(0,0),(1,1)])
def Ct(s:St):Option jX:=do
 let some ⟨none,.one ⟨false,[.val (.int .i64 a)]⟩⟩:=s.look 3|none
 let some ⟨none,.one ⟨false,[.ptr 128 0]⟩⟩:=s.look 1|none
 let some (.box 26 [.val (.int .i64 b),.ref 0]):=s.ent 128|none
 let some (.row false 2 (.int .i64) c):=s.ent 0|none
 some (a,b,c)
def di:Lp jX where
 h:=⟨[15,16,17,18,19,22,23,24,25,26,27,28,29,30,31,32,2,20,21,3],[0,1],[],[]⟩
 JL:=Ni
 JE:=Ng
 XL:=Nt
 XE:=fun _=>Ng
 q:=fun j=>match j with | 0=> .ret | _=> .exit 0
 tags:= [0,1]
 lt:=tv
 fuel:=fun(a,b,c)=>a.natAbs + b.natAbs + c.length
 fix:=fun(_,b,c) (a,_,_)=>(a,b,c)
 σ:= [(0,128),(1,0)]
 rd:=Ct
theorem LW:LoopOk prog (fun k=>Nat.blt k Tryz.f47.ntmps) di.F (bf f47 0):=by
 refine Lp.ok (tbl:= [Fz]) (lf:= []) bB di (by kernel_rfl) (LOk.nil _) (fun _=>rfl) (fun j _=>by unfold di;match j with | 0=>rfl | _ + 1=>rfl) ?_ ?_ ?_ ?_ (fun _=>rfl) ?_
 ·intro _;kernel_rfl
 ·intro _;kernel_rfl
 ·intro s x h
  have h:Ct s=some x:=h
  unfold Ct at h
  repeat' split at h
  all_goals cases h
  constructor<;>repeat(first|refine aa ‹_› rfl ?_|refine ab rfl ‹_› rfl ?_|rfl)
 ·intro _;kernel_rfl
 ·intro _ _;exact(And.intro (And.intro trivial rfl) trivial)
section
variable (a:Int)(b:aek)
def FE:Bool:=bif !fD a 2 8 then true else !fD (↑b.length:Int) 1 4
def FF:Int×Int×aek:=((0:Int),a,b)
def GP:Bool:=bif FE a b then false else bif Nat.beq ((Lp.res di (FF a b)).1) 0 then false else true
def GQ:Bool:=allT [FE a b||Lp.fin di (FF a b)]
end
def KC:aem
 | [.one ⟨true,[.val (.int .i64 a),.ref 0]⟩],[.row false 2 (.int .i64) b]=>some ⟨aeo (.val (.bool (GP a b))),[aeq b],[],[GQ a b]⟩
 |_,_=>none
def Su:PF prog:=PF.ofG prog [Fz] [di.F] bB 47 f47 func47 (LOk.fnT (l:= [bf f47 0]) (by kernel_rfl) (.cons LW (.nil _))) KC (by
 intro _ _ _ h;unfold KC at h;split at h<;>cases h;kernel_rfl)
def Kt(a:aek):Bool:=allT [leN (0 + z6 a) 9223372036854775807,leN ((0 + z6 a) * 8) 140737488355328]
def Py:aem
 | [.one ⟨false,[.ref 0]⟩],[.row false 2 (.int .i64) a]=>some ⟨aeo (.ref 1),[aeq a],[aer a],[Kt a]⟩
 |_,_=>none
def Vn:PF prog:=PF.ofG prog [] [] bB 38 f38 func38 (fun c _=>LOk.nil c) Py (by
 intro _ _ _ h;unfold Py at h;split at h<;>cases h;kernel_rfl)
def ax(a:aek):Int:=(↑a.length:Int)
def HW:aem
 | [.one ⟨false,[.ref 0]⟩],[.row false 2 (.int .i64) a]=>some ⟨aep (ax a),[aeq a],[],[]⟩
 |_,_=>none
def ae:PF prog:=PF.ofG prog [] [] bB 44 f44 func44 (fun c _=>LOk.nil c) HW (by
 intro _ _ _ h;unfold HW at h;split at h<;>cases h;kernel_rfl)
def aP(a b c:Int):Bool:=bif leI b a then leI a c else false
def Px:aem
 | [.one ⟨false,[.val (.int .i64 a)]⟩,.one ⟨false,[.val (.int .i64 b)]⟩,.one ⟨false,[.val (.int .i64 c)]⟩],[]=>some ⟨aeo (.val (.bool (aP a b c))),[],[],[]⟩
 |_,_=>none
def kb:PF prog:=PF.ofG prog [] [] bB 19 f19 func19 (fun c _=>LOk.nil c) Px (by
 intro _ _ _ h;unfold Px at h;split at h<;>cases h;kernel_rfl)
def Dn(a:Int):Bool:=aP a 2 8
def HV:aem
 | [.one ⟨false,[.val (.int .i64 a)]⟩],[]=>some ⟨aeo (.val (.bool (Dn a))),[],[],[]⟩
 |_,_=>none
def Pq:PF prog:=PF.ofG prog [kb] [] bB 64 f64 func64 (fun c _=>LOk.nil c) HV (by
 intro _ _ _ h;unfold HV at h;split at h<;>cases h;kernel_rfl)
def wd(a b:Int):Bool:= !aP a 0 (z8 .i64 (z8 .i64 ((3:Int) * b) - (1:Int)))
def FZ:aem
 | [.one ⟨false,[.val (.int .i64 a)]⟩,.one ⟨false,[.ptr 0 0]⟩],[.box 26 [.val (.int .i64 b),.ref 1],.row false 2 (.int .i64) c]=>some ⟨aeo (.val (.bool (wd a b))),[.box 26 [aen b,.ref 1],aeq c],[],[]⟩
 |_,_=>none
def qh:PF prog:=PF.ofG prog [kb] [] bB 65 f65 func65 (fun c _=>LOk.nil c) FZ (by
 intro _ _ _ h;unfold FZ at h;split at h<;>cases h;kernel_rfl)
abbrev bp:=Int×Int×Int×List Int
section
variable (a b c:Int)(d:aek)
def ik:Bool:=ltI a b
def il:Bool:=leI 0 a
def im:Bool:=ltI a (↑d.length:Int)
def io:Bool:=ltN a.toNat d.length
def ip:Bool:=wd (z7 d[z1 a]? 0) c
def iq:Int:=z8 .i64 (a + (1:Int))
end
def CD:bp→List (Nat×SV)
 |(a,b,_,_)=> [(8,(aep a)),(7,(aep b)),(1,(aeo (.clo 65 [0]))),(0,(aeo (.ref 1)))]
def CC:bp→List (Nat×Entry)
 |(_,_,a,b)=> [(0,(.box 26 [aen a,.ref 1])),(1,(aeq b))]
def CF:Nat→bp→List (Nat×SV)
 |0,(a,_,_,_)=> [(4,(aep a))]
 |_,_=>[]
def gv:bp→LT bp
 |(a,b,c,d)=> .ite (ik a b) (.need [il a,im a d,io a d] (.ite (ip a c d) (.ext 0 [(0,0),(1,1)]) (.nrm ((iq a),b,c,d) [(0,0),(1,1)]))) (.ext 1 [(0,0),(1,1)])
def pm(s:St):Option bp:=do
 let some ⟨none,.one ⟨false,[.val (.int .i64 a)]⟩⟩:=s.look 8|none
 let some ⟨none,.one ⟨false,[.val (.int .i64 b)]⟩⟩:=s.look 7|none
 let some ⟨none,.one ⟨false,[.clo 65 [1]]⟩⟩:=s.look 1|none
 let some ⟨none,.one ⟨false,[.ref 0]⟩⟩:=s.look 0|none
 let some (.box 26 [.val (.int .i64 c),.ref 0]):=s.ent 1|none
 let some (.row false 2 (.int .i64) d):=s.ent 0|none
 some (a,b,c,d)
def ay:Lp bp where
 h:=⟨[9,10,5,11,12,13,14,15,16,17,4,18,8],[0,1],[],[]⟩
 JL:=CD
 JE:=CC
 XL:=CF
 XE:=fun _=>CC
 q:=fun j=>match j with | 0=> .ret | _=> .exit 0
 tags:= [0,1]
 lt:=gv
 fuel:=fun(a,b,c,d)=>a.natAbs + b.natAbs + c.natAbs + d.length
 fix:=fun(_,b,c,d) (a,_,_,_)=>(a,b,c,d)
 σ:= [(0,1),(1,0)]
 rd:=pm
theorem BE:LoopOk prog (fun k=>Nat.blt k Tryz.f53.ntmps) ay.F (bf f53 0):=by
 refine Lp.ok (tbl:= (T3z [qh])) (lf:= []) bB ay (by kernel_rfl) (LOk.nil _) (fun _=>rfl) (fun j _=>by unfold ay;match j with | 0=>rfl | _ + 1=>rfl) ?_ ?_ ?_ ?_ (fun _=>rfl) ?_
 ·intro _;kernel_rfl
 ·intro _;kernel_rfl
 ·intro s x h
  have h:pm s=some x:=h
  unfold pm at h
  repeat' split at h
  all_goals cases h
  constructor<;>repeat(first|refine aa ‹_› rfl ?_|refine ab rfl ‹_› rfl ?_|rfl)
 ·intro _;kernel_rfl
 ·intro _ _;exact(And.intro (And.intro trivial rfl) trivial)
section
variable (a:aek)(b:Int)
def mp:Int×Int×Int×aek:=((0:Int),(↑a.length:Int),b,a)
def qH:Bool:=Nat.beq ((Lp.res ay (mp a b)).1) 0
def rg:Int:=bif qH a b then ((Lp.res ay (mp a b)).2).1else(-1:Int)
def rh:Int:=bif qH a b then b else b
def ri:Bool:=allT [Lp.fin ay (mp a b)]
end
def wA:aem
 | [.one ⟨false,[.ref 0]⟩,.one ⟨false,[.clo 65 [1]]⟩],[.row false 2 (.int .i64) a,.box 26 [.val (.int .i64 b),.ref 0]]=>some ⟨aep (rg a b),[aeq a,.box 26 [aen (rh a b),.ref 0]],[],[ri a b]⟩
 |_,_=>none
def rf:PF prog:=PF.ofG prog (T3z [qh]) [ay.F] bB 53 f53 func53 (LOk.fnT (l:= [bf f53 0]) (by kernel_rfl) (.cons BE (.nil _))) wA (by
 intro _ _ _ h;unfold wA at h;split at h<;>cases h;kernel_rfl)
section
variable (a:aek)(b:Int)
def lk:Bool:=leI 0 (rg a b)
def uk:Int:=rh a b
def ll:Bool:=allT [ri a b]
end
def tY:aem
 | [.one ⟨false,[.ref 0]⟩,.one ⟨false,[.clo 65 [1]]⟩],[.row false 2 (.int .i64) a,.box 26 [.val (.int .i64 b),.ref 0]]=>some ⟨aeo (.val (.bool (lk a b))),[aeq a,.box 26 [aen (uk a b),.ref 0]],[],[ll a b]⟩
 |_,_=>none
def pQ:PF prog:=PF.ofG prog (T3z [rf]) [] bB 27 f27 func27 (fun c _=>LOk.nil c) tY (by
 intro _ _ _ h;unfold tY at h;split at h<;>cases h;kernel_rfl)
section
variable (a:Int)(b:aek)
def Fo:Bool:=bif Dn a then aP (ax b) 1 4 else false
def Gl:Bool:=bif Fo a b then !lk b a else false
def Gm:Bool:=allT [!(Fo a b&&true)||ll b a]
end
def Kx:aem
 | [.one ⟨true,[.val (.int .i64 a),.ref 0]⟩],[.row false 2 (.int .i64) b]=>some ⟨aeo (.val (.bool (Gl a b))),[aeq b],[],[Gm a b]⟩
 |_,_=>none
def So:PF prog:=PF.ofG prog (T3z [ae,Pq,kb,pQ]) [] bB 43 f43 func43 (fun c _=>LOk.nil c) Kx (by
 intro _ _ _ h;unfold Kx at h;split at h<;>cases h;kernel_rfl)
def lW(a:Int)(b:aek):Bool:=aP a 0 (z8 .i64 (ax b - (1:Int)))
def rk:aem
 | [.one ⟨true,[.val (.int .i64 _x0),.ref 0]⟩,.one ⟨false,[.val (.int .i64 a)]⟩],[.row false 2 (.int .i64) b]=>some ⟨aeo (.val (.bool (lW a b))),[aeq b],[],[]⟩
 |_,_=>none
def zn:PF prog:=PF.ofG prog (T3z [ae,kb]) [] bB 88 f88 func88 (fun c _=>LOk.nil c) rk (by
 intro _ _ _ h;unfold rk at h;split at h<;>cases h;kernel_rfl)
def vF(a:aek):Bool:=allT [ltN 0 a.length,false||leN (0 + z6 a) 9223372036854775807,false||leN ((0 + z6 a) * 8) 140737488355328]
def BI:aem
 | [.one ⟨false,[.ref 0]⟩],[.row false 2 (.int .i64) a]=>some ⟨aeo (.ref 1),[aeq a],[aer a],[vF a]⟩
 |_,_=>none
def IQ:PF prog:=PF.ofG prog [] [] bB 30 f30 func30 (fun c _=>LOk.nil c) BI (by
 intro _ _ _ h;unfold BI at h;split at h<;>cases h;kernel_rfl)
abbrev kz:=Int×List Int×List Int
section
variable (a:Int)(b c:aek)
def sJ:Bool:=ltI a (↑b.length:Int)
def sK:Bool:=leI 0 a
def vt:Bool:=ltN a.toNat b.length
def vu:Bool:=ltI a (↑c.length:Int)
def vv:Bool:=ltN a.toNat c.length
def vz:Bool:=z7 b[z1 a]? 0!=z7 c[z1 a]? 0
def vA:Int:=z8 .i64 (a + (1:Int))
end
def OG:kz→List (Nat×SV)
 |(a,_,_)=> [(5,(aep a)),(0,(aeo (.ref 0))),(1,(aeo (.ref 1)))]
def Ou:kz→List (Nat×Entry)
 |(_,a,b)=> [(0,(aeq a)),(1,(aeq b))]
def Pc:Nat→kz→List (Nat×SV)
 |0,(_,_,_)=> [(4,(aeo (.val (.bool false))))]
 |_,_=>[]
def uh:kz→LT kz
 |(a,b,c)=> .ite (sJ a b) (.need [sK a,sJ a b,vt a b,sK a,vu a c,vv a c] (.ite (vz a b c) (.ext 0 [(0,0),(1,1)]) (.nrm ((vA a),b,c) [(0,0),(1,1)]))) (.ext 1 [(0,0),(1,1)])
def DH(s:St):Option kz:=do
 let some ⟨none,.one ⟨false,[.val (.int .i64 a)]⟩⟩:=s.look 5|none
 let some ⟨none,.one ⟨false,[.ref 0]⟩⟩:=s.look 0|none
 let some ⟨none,.one ⟨false,[.ref 1]⟩⟩:=s.look 1|none
 let some (.row false 2 (.int .i64) b):=s.ent 0|none
 let some (.row false 2 (.int .i64) c):=s.ent 1|none
 some (a,b,c)
def dS:Lp kz where
 h:=⟨[11,12,13,14,17,18,19,20,21,22,23,24,25,4,15,16,5],[0,1],[],[]⟩
 JL:=OG
 JE:=Ou
 XL:=Pc
 XE:=fun _=>Ou
 q:=fun j=>match j with | 0=> .ret | _=> .exit 0
 tags:= [0,1]
 lt:=uh
 fuel:=fun(a,b,c)=>a.natAbs + b.length + c.length
 fix:=fun(_,b,c) (a,_,_)=>(a,b,c)
 σ:= [(0,0),(1,1)]
 rd:=DH
theorem ML:LoopOk prog (fun k=>Nat.blt k Tryz.f14.ntmps) dS.F (bf f14 0):=by
 refine Lp.ok (tbl:= []) (lf:= []) bB dS (by kernel_rfl) (LOk.nil _) (fun _=>rfl) (fun j _=>by unfold dS;match j with | 0=>rfl | _ + 1=>rfl) ?_ ?_ ?_ ?_ (fun _=>rfl) ?_
 ·intro _;kernel_rfl
 ·intro _;kernel_rfl
 ·intro s x h
  have h:DH s=some x:=h
  unfold DH at h
  repeat' split at h
  all_goals cases h
  constructor<;>repeat(first|refine aa ‹_› rfl ?_|refine ab rfl ‹_› rfl ?_|rfl)
 ·intro _;kernel_rfl
 ·intro _ _;exact(And.intro (And.intro trivial rfl) trivial)
section
variable (a b:aek)
def CQ:Bool:=(↑a.length:Int)!=(↑b.length:Int)
def CR:Int×aek×aek:=((0:Int),a,b)
def DY:Bool:=bif CQ a b then false else bif Nat.beq ((Lp.res dS (CR a b)).1) 0 then false else true
def DZ:Bool:=allT [CQ a b||Lp.fin dS (CR a b)]
end
def Mm:aem
 | [.one ⟨false,[.ref 0]⟩,.one ⟨false,[.ref 1]⟩],[.row false 2 (.int .i64) a,.row false 2 (.int .i64) b]=>some ⟨aeo (.val (.bool (DY a b))),[aeq a,aeq b],[],[DZ a b]⟩
 |_,_=>none
def Tw:PF prog:=PF.ofG prog [] [dS.F] bB 14 f14 func14 (LOk.fnT (l:= [bf f14 0]) (by kernel_rfl) (.cons ML (.nil _))) Mm (by
 intro _ _ _ h;unfold Mm at h;split at h<;>cases h;kernel_rfl)
def blk(p:Int):Int:=Int.tdiv p 3
def phs(p:Int):Int:=Int.tmod p 3
def inR(a lo hi:Int):Bool:=leI lo a&&leI a hi
def isT(n:Int)(ps:aek):Bool:=inR n 2 8&&inR ps.length 1 4&&ps.all fun p=>inR p 0 (3 * n - 1)
def Wh(n p b:Int):Bool:=blk p==b||(phs p==2&&Int.tmod (blk p + 1) n==b)
def Vb(n:Int)(ps:aek)(b:Int):Nat:=ps.countP fun p=>Wh n p b
def eqL(xs ys:aek):Bool:=decide (xs=ys)
theorem aaW(xs:aek):eqL xs xs=true:=by simp [eqL]
theorem pa{a lo hi:Int}:inR a lo hi=true↔lo≤a∧a≤hi:=by simp [inR]
theorem tu(a lo hi:Int):(bif leI lo a then leI a hi else false)=inR a lo hi:=by
 unfold inR;cases leI lo a <;> rfl
theorem gt{n:Int}{ps:aek}:isT n ps=true↔(2≤n∧n≤8)∧(1≤ps.length∧ps.length≤4)∧ ∀ p∈ps,0≤p∧p≤3 * n - 1:=by
 simp only [isT,q8,pa,List.all_eq_true]
 constructor
 ·rintro⟨⟨h1,h2⟩,h3⟩;exact⟨h1,by omega,h3⟩
 ·rintro⟨h1,h2,h3⟩;exact⟨⟨h1,by omega⟩,h3⟩
def rF(a b:Int):(Unit)→Nat ⊕ (Unit)
 |_=>(bif(!fD b 0 (z8 .i64 (z8 .i64 ((3:Int) * a) - (1:Int))))then(.inl 0)else(.inr ()))
def oV(a:Int)(b:aek)(i:Nat):(Unit)→jX
 |_=>((i:Int),a,b)
def Cr:jX→Unit
 |(_,_,_)=>()
theorem Pv(c:Int)(e:aek) (hn:e.length≤9223372036854775807):
  di.fin ((0:Int),c,e)=true∧di.res ((0:Int),c,e)=((eE (rF c) 1 e 0 ()).1,(oV c e) (eE (rF c) 1 e 0 ()).2.1 (eE (rF c) 1 e 0 ()).2.2):=by
 have kn:=di.along (oV c e) Cr (rF c) 1 (fun _ _=>True) e () (by trivial) (by simp only [di,oV];omega) (fun i b a hb hI=> ?_) (fun a hI=> ?_)
 ·exact kn
 ·obtain⟨⟩:=a
  have iM:=(w9.1 hb).1
  have lV: ∀ d,z7 e[i]? d=b:=fun d=>by rw [hb];rfl
  have hw:=mO iM hn
  have Cb:ltI (i:Int) (e.length:Int)=true:=eV (by omega)
  have Sb:leI (0:Int) (i:Int)=true:=du (by omega)
  have HK:ltN i e.length=true:=lR iM
  refine⟨?_,?_,?_,?_⟩
  ·simp [rK,ul,um,uo,uq,tv,di,LT.nds,allT,oV,Cb,Sb,HK,lV]
  ·simp [rK,ul,um,uo,uq,tv,di,LT.each,oV,Cr,hw]
  ·simp only [rK,ul,um,uo,uq,tv,di,LT.fn,oV,Cr,rF,q9,Cb,Sb,HK,lV,cond_true]
  ·exact fun _ _=>trivial
 ·obtain⟨⟩:=a
  simp [rK,ul,um,uo,uq,tv,di,LT.out,oV]
def eY(a b:Int):(Unit)→Nat ⊕ (Unit)
 |_=>(bif(wd b a)then(.inl 0)else(.inr ()))
def cp(a:Int)(b:aek)(i:Nat):(Unit)→bp
 |_=>((i:Int),(↑b.length:Int),a,b)
def pk:bp→Unit
 |(_,_,_,_)=>()
theorem DP(c:Int)(e:aek) (hn:e.length≤9223372036854775807):
  ay.fin ((0:Int),(↑e.length:Int),c,e)=true∧ay.res ((0:Int),(↑e.length:Int),c,e)=((eE (eY c) 1 e 0 ()).1,(cp c e) (eE (eY c) 1 e 0 ()).2.1 (eE (eY c) 1 e 0 ()).2.2):=by
 have kn:=ay.along (cp c e) pk (eY c) 1 (fun _ _=>True) e () (by trivial) (by simp only [ay,cp];omega) (fun i b a hb hI=> ?_) (fun a hI=> ?_)
 ·exact kn
 ·obtain⟨⟩:=a
  have iM:=(w9.1 hb).1
  have lV: ∀ d,z7 e[i]? d=b:=fun d=>by rw [hb];rfl
  have hw:=mO iM hn
  have Cb:ltI (i:Int) (e.length:Int)=true:=eV (by omega)
  have Sb:leI (0:Int) (i:Int)=true:=du (by omega)
  have HK:ltN i e.length=true:=lR iM
  refine⟨?_,?_,?_,?_⟩
  ·simp [ik,il,im,io,ip,iq,gv,ay,LT.nds,allT,cp,Cb,Sb,HK,lV]
  ·simp [ik,il,im,io,ip,iq,gv,ay,LT.each,cp,pk,hw]
  ·simp only [ik,il,im,io,ip,iq,gv,ay,LT.fn,cp,pk,eY,q9,Cb,Sb,HK,lV,cond_true]
  ·exact fun _ _=>trivial
 ·obtain⟨⟩:=a
  simp [ik,il,im,io,ip,iq,gv,ay,LT.out,cp]
def uX(a c:aek)(b:Nat):(Unit)→Nat ⊕ (Unit)
 |_=>(bif(z7 a[b]? 0!=z7 c[b]? 0)then(.inl 0)else(.inr ()))
def pY(a b:aek)(i:Nat):(Unit)→kz
 |_=>((i:Int),a,b)
def DD:kz→Unit
 |(_,_,_)=>()
theorem QE(c d:aek) (hn:c.length≤9223372036854775807) (he:d.length=c.length):
  dS.fin ((0:Int),c,d)=true∧dS.res ((0:Int),c,d)=((eE (uX c d) 1 (List.range c.length) 0 ()).1,(pY c d) (eE (uX c d) 1 (List.range c.length) 0 ()).2.1 (eE (uX c d) 1 (List.range c.length) 0 ()).2.2):=by
 have kn:=dS.along (pY c d) DD (uX c d) 1 (fun _ _=>True) (List.range c.length) () (by trivial) (by simp only [dS,pY,List.length_range];omega) (fun i b a hb hI=> ?_) (fun a hI=> ?_)
 ·exact kn
 ·obtain⟨⟩:=a
  obtain⟨rfl,iM⟩:=Ld hb
  have hw:IntKind.i64.wrap ((b:Int) + 1)=((b + 1:Nat):Int):=by rw [aC (by omega) (by omega)];omega
  have Cb:ltI (b:Int) (c.length:Int)=true:=eV (by omega)
  have Sb:leI (0:Int) (b:Int)=true:=du (by omega)
  have HK:ltN b c.length=true:=lR (by omega)
  refine⟨?_,?_,?_,?_⟩
  ·simp [sJ,sK,vt,vu,vv,vz,vA,uh,dS,LT.nds,allT,pY,Cb,Sb,HK,he]
  ·simp [sJ,sK,vt,vu,vv,vz,vA,uh,dS,LT.each,pY,DD,hw,he]
  ·simp only [sJ,sK,vt,vu,vv,vz,vA,uh,dS,LT.fn,pY,DD,uX,q9,Cb,cond_true]
  ·exact fun _ _=>trivial
 ·obtain⟨⟩:=a
  simp [sJ,sK,vt,vu,vv,vz,vA,uh,dS,LT.out,pY,List.length_range]
theorem XK(xs ys:aek)(hn:leN xs.length 9223372036854775807=true):DY xs ys=eqL xs ys∧DZ xs ys=true:=by
 have hn:=sj.1 hn
 unfold eqL
 by_cases hl:ys.length=xs.length
 ·obtain⟨w1,w2⟩:=QE xs ys hn hl
  have ha:=acx (d:=(0:Int)) hl (P:=fun b=>z7 xs[b]? 0 !=z7 ys[b]? 0) (fun b=>by simp [bne,BEq.beq])
  rw [Iv (P:=fun b=>z7 xs[b]? 0 !=z7 ys[b]? 0) (j:=0) (fun b=>rfl),ha]at w2
  simp only [CQ,CR,DY,DZ,w1,w2,allT]
  by_cases he:xs=ys
  ·subst he;simp;decide
  ·simp [he,hl]
 ·have Hy:xs≠ys:=fun h=>hl (by rw [h])
  simp [CQ,CR,DY,DZ,allT,Hy]
  omega
def Mw:aem
 | [.one ⟨false,[.ref 0]⟩,.one ⟨false,[.ref 1]⟩],[.row false 2 (.int .i64) a,.row false 2 (.int .i64) b]=>some ⟨aeo (.val (.bool (eqL a b))),[aeq a,aeq b],[],[leN a.length 9223372036854775807]⟩
 |_,_=>none
def wN:PF prog:=PF.alt Tw Mw (by
 intro args es o h ec;unfold Mw at h;split at h
 ·rename_i a b
  cases h
  have ec:=Bq ec
  have hh:=XK a b ec
  obtain⟨e0,en⟩:=hh
  exact yF rfl (tw en) (by simp only [e0] <;> rfl) rfl rfl
 ·cases h)
theorem Td{n:Int}(h:2≤n∧n≤8):IntKind.i64.wrap (IntKind.i64.wrap (3 * n) - 1)=3 * n - 1:=by
 rw [aC (x:=3 * n) (by omega) (by omega),aC (by omega) (by omega)]
theorem Zo(n:Int)(ps:aek):GP n ps=isT n ps∧GQ n ps=true:=by
 simp only [FE,FF,GP,GQ,fD,tu,isT]
 cases h1:inR n 2 8 with
 |false=>simp [allT]
 |true=>
  cases h2:inR (ps.length:Int) 1 4 with
  |false=>simp [allT]
  |true=>
   have h2':=pa.1 h2
   obtain⟨w1,w2⟩:=Pv n ps (by omega)
   rw [Iv (P:=fun b=> !inR b 0 (3 * n - 1)) (j:=0) (fun b=>by simp only [rF,Td (pa.1 h1),fD,tu])]at w2
   have e5:(ps.any fun b=> !inR b 0 (3 * n - 1))= !(ps.all fun b=>inR b 0 (3 * n - 1)):=by simp [List.all_eq_not_any_not]
   rw [e5]at w2
   simp only [w1,w2,allT]
   cases (ps.all fun b=>inR b 0 (3 * n - 1)) <;> simp <;> rfl
def KI:aem
 | [.one ⟨true,[.val (.int .i64 a),.ref 0]⟩],[.row false 2 (.int .i64) b]=>some ⟨aeo (.val (.bool (isT a b))),[aeq b],[],[]⟩
 |_,_=>none
def GL:PF prog:=PF.alt Su KI (by
 intro args es o h ec;unfold KI at h;split at h
 ·rename_i a b
  cases h
  have hh:=Zo a b
  obtain⟨e0,en⟩:=hh
  exact yF rfl (tw en) (by simp only [e0] <;> rfl) rfl rfl
 ·cases h)
theorem Xn(n:Int)(h:2≤n∧n≤8)(ps:aek)(hn:ps.length≤9223372036854775807):
  lk ps n=(ps.any fun b=> !inR b 0 (3 * n - 1))∧ll ps n=true:=by
 obtain⟨w1,w2⟩:=DP n ps hn
 rw [Iv (P:=fun b=> !inR b 0 (3 * n - 1)) (j:=0) (fun b=>by simp only [eY,wd,Td h,aP,tu])]at w2
 simp only [lk,uk,ll,mp,qH,rg,rh,ri,w1,w2,allT,cond_true,and_true,cp]
 cases (ps.any fun b=> !inR b 0 (3 * n - 1))with
 |true=>exact du (Int.natCast_nonneg _)
 |false=>rfl
theorem YP(n:Int)(ps:aek):Gl n ps=isT n ps∧Gm n ps=true:=by
 simp only [Fo,Gl,Gm,Dn,aP,ax,tu,isT]
 cases h1:inR n 2 8 with
 |false=>simp [allT]
 |true=>
  cases h2:inR (ps.length:Int) 1 4 with
  |false=>simp [allT]
  |true=>
   have h2':=pa.1 h2
   obtain⟨c1,c2⟩:=Xn n (pa.1 h1) ps (by omega)
   simp only [c1,c2,allT]
   simp [List.all_eq_not_any_not]
def KF:aem
 | [.one ⟨true,[.val (.int .i64 a),.ref 0]⟩],[.row false 2 (.int .i64) b]=>some ⟨aeo (.val (.bool (isT a b))),[aeq b],[],[]⟩
 |_,_=>none
def pd:PF prog:=PF.alt So KF (by
 intro args es o h ec;unfold KF at h;split at h
 ·rename_i a b
  cases h
  have hh:=YP a b
  obtain⟨e0,en⟩:=hh
  exact yF rfl (tw en) (by simp only [e0] <;> rfl) rfl rfl
 ·cases h)
def Pl(ps:aek)(t:Int):Bool:=inR t 0 ((ps.length:Int) - 1)
theorem IC{ps:aek}{t:Int}:Pl ps t=true↔0≤t∧t < ps.length:=by
 rw [Pl,pa];omega
theorem Xv(t:Int)(ps:aek)(h:leN ps.length 9223372036854775807=true):lW t ps=Pl ps t:=by
 have h:=sj.1 h
 simp only [lW,aP,ax,Pl,tu]
 rw [aC (x:=(ps.length:Int) - 1) (by omega) (by omega)]
def rl:aem
 | [.one ⟨true,[.val (.int .i64 _x0),.ref 0]⟩,.one ⟨false,[.val (.int .i64 a)]⟩],[.row false 2 (.int .i64) b]=>some ⟨aeo (.val (.bool (Pl b a))),[aeq b],[],[leN b.length 9223372036854775807]⟩
 |_,_=>none
def lX:PF prog:=PF.alt zn rl (by
 intro args es o h ec;unfold rl at h;split at h
 ·rename_i _x0 a b
  cases h
  have ec:=Bq ec
  have hh:=Xv a b ec
  have e0:=hh
  exact yF rfl (fun _ h=>by cases h) (by simp only [e0] <;> rfl) rfl rfl
 ·cases h)
theorem aaM(xs:aek)(h:(leN 1 xs.length&&leN xs.length 1048576)=true):vF xs=true:=by
 simp only [q8,sj]at h
 simp [vF,allT]
 omega
def BP:aem
 | [.one ⟨false,[.ref 0]⟩],[.row false 2 (.int .i64) a]=>some ⟨aeo (.ref 1),[aeq a],[aer a],[leN 1 a.length&&leN a.length 1048576]⟩
 |_,_=>none
def ac:PF prog:=PF.alt IQ BP (by
 intro args es o h ec;unfold BP at h;split at h
 ·rename_i a
  cases h
  have ec:=Bq ec
  have hh:=aaM a ec
  have en:=hh
  exact yF rfl (tw en) rfl rfl rfl
 ·cases h)
theorem acO(xs:aek)(h:leN xs.length 1048576=true):Kt xs=true:=by
 have h:=sj.1 h
 simp [Kt,allT]
 omega
def PA:aem
 | [.one ⟨false,[.ref 0]⟩],[.row false 2 (.int .i64) a]=>some ⟨aeo (.ref 1),[aeq a],[aer a],[leN a.length 1048576]⟩
 |_,_=>none
def cX:PF prog:=PF.alt Vn PA (by
 intro args es o h ec;unfold PA at h;split at h
 ·rename_i a
  cases h
  have ec:=Bq ec
  have hh:=acO a ec
  have en:=hh
  exact yF rfl (tw en) rfl rfl rfl
 ·cases h)
def okP(n p:Int):Bool:=inR n 2 8&&inR p 0 (3 * n - 1)
theorem WM{n p:Int}:okP n p=true↔(2≤n∧n≤8)∧0≤p∧p≤3 * n - 1:=by simp [okP,pa]
theorem WE{n:Int}{ps:aek}(h:isT n ps=true){p:Int}(hp:p∈ps):okP n p=true:=by
 obtain⟨h1,_,h3⟩:=gt.1 h
 exact WM.2 ⟨h1,h3 p hp⟩
theorem Wl{p:Int}(h:0≤p):blk p=p / 3:=by rw [blk,Int.tdiv_eq_ediv_of_nonneg h]
def dj(a:aek):Bool:=allT [leN 1 a.length&&leN a.length (1048576:Nat)]
def so:aem
 | [.one ⟨true,[.val (.int .i64 a),.ref 0]⟩],[.row false 2 (.int .i64) b]=>some ⟨.one ⟨true,[aen a,.ref 1]⟩,[aeq b],[aer b],[dj b]⟩
 |_,_=>none
def bk:PF prog:=PF.ofG prog (T3z [ac]) [] bB 57 f57 func57 (fun c _=>LOk.nil c) so (by
 intro _ _ _ h;unfold so at h;split at h<;>cases h;kernel_rfl)
section
variable (a b:Int)(c:aek)
def iN:Int:=z8 .i64 ((3:Int) * a)
def jp:aek:=List.set c b.toNat (Int.tmod (z8 .i64 (z7 c[z1 b]? 0 + (1:Int))) (iN a))
def jq:Bool:=allT [dj c,leI 0 b,ltI b (↑c.length:Int),ltN b.toNat c.length,neI (iN a) 0,leI 0 b,ltI b (↑c.length:Int),ltN b.toNat c.length]
end
def sq:aem
 | [.one ⟨true,[.val (.int .i64 a),.ref 0]⟩,.one ⟨false,[.val (.int .i64 b)]⟩],[.row false 2 (.int .i64) c]=>some ⟨.one ⟨true,[aen a,.ref 1]⟩,[aeq c],[aer (jp a b c)],[jq a b c]⟩
 |_,_=>none
def Br:PF prog:=PF.ofG prog (T3z [bk]) [] bB 81 f81 func81 (fun c _=>LOk.nil c) sq (by
 intro _ _ _ h;unfold sq at h;split at h<;>cases h;kernel_rfl)
def Tp(n:Int)(ps:aek)(t:Int):aek:=ps.set t.toNat (Int.tmod (ps[t.toNat]?.getD 0 + 1) (3 * n))
theorem Ta(n:Int)(ps:aek)(t:Int):(Tp n ps t).length=ps.length:=by simp [Tp]
theorem ZL{n:Int}{ps:aek}(h:isT n ps=true)(t:Int):isT n (Tp n ps t)=true:=by
 obtain⟨h1,h2,h3⟩:=gt.1 h
 refine gt.2 ⟨h1,by rw [Ta];exact h2,fun p hp=> ?_⟩
 rcases List.mem_or_eq_of_mem_set hp with hp | rfl
 ·exact h3 p hp
 ·have h0:0≤ps[t.toNat]?.getD 0:=by
   cases hg:ps[t.toNat]? with
   |none=>simp
   |some q=>exact(h3 q (List.mem_of_getElem? hg)).1
  have:=Int.emod_lt_of_pos (ps[t.toNat]?.getD 0 + 1) (show 0 < 3 * n by omega)
  have:=Int.emod_nonneg (ps[t.toNat]?.getD 0 + 1) (show 3 * n≠0 by omega)
  rw [Int.tmod_eq_emod_of_nonneg (by omega)]
  omega
def Sh(n:Int)(ps:aek)(t:Int):Bool:=isT n ps&&Pl ps t
theorem KZ{n:Int}{ps:aek}{t:Int}:Sh n ps t=true↔isT n ps=true∧Pl ps t=true:=by simp [Sh]
theorem VQ{n:Int}{ps:aek}{t:Int}(h:Sh n ps t=true):IntKind.i64.wrap (3 * n)=3 * n∧IntKind.i64.wrap (ps[t.toNat]?.getD 0 + 1)=ps[t.toNat]?.getD 0 + 1∧neI (3 * n) 0=true∧
  leI 0 t=true∧ltI t ps.length=true∧ltN t.toNat ps.length=true∧leN ps.length 1048576=true∧leN 1 ps.length=true:=by
 obtain⟨hT,ht⟩:=KZ.1 h
 obtain⟨h1,h2,h3⟩:=gt.1 hT
 have h4:=IC.1 ht
 have iM:t.toNat < ps.length:=by omega
 have hg:ps[t.toNat]?.getD 0=ps[t.toNat]:=by rw [List.getElem?_eq_getElem iM];rfl
 have h5:=h3 _ (List.getElem_mem iM)
 rw [hg]
 exact⟨aC (by omega) (by omega),aC (by omega) (by omega),UF (by omega),du h4.1,eV h4.2,lR iM,qf (by omega),qf h2.1⟩
theorem Xy(n t:Int)(ps:aek)(h:Sh n ps t=true):jp n t ps=Tp n ps t∧jq n t ps=true:=by
 obtain⟨e1,e2,e3,e4,e5,e6,e7,e8⟩:=VQ h
 refine⟨?_,?_⟩
 ·simp only [iN,jp,jq,e1,e2,Tp]
 ·simp only [iN,jp,jq,dj,e1,e3,e4,e5,e6,e7,e8,allT,cond_true,Bool.and_self]
def sr:aem
 | [.one ⟨true,[.val (.int .i64 a),.ref 0]⟩,.one ⟨false,[.val (.int .i64 b)]⟩],[.row false 2 (.int .i64) c]=>some ⟨.one ⟨true,[aen a,.ref 1]⟩,[aeq c],[aer (Tp a c b)],[Sh a c b]⟩
 |_,_=>none
def dm:PF prog:=PF.alt Br sr (by
 intro args es o h ec;unfold sr at h;split at h
 ·rename_i a b c
  cases h
  have ec:=Bq ec
  have hh:=Xy a b c ec
  obtain⟨e0,en⟩:=hh
  exact yF rfl (tw en) rfl rfl (by simp only [e0] <;> rfl)
 ·cases h)
def eqT(n m:Int)(ps qs:aek):Bool:=n==m&&eqL ps qs
theorem aaY(n:Int)(ps:aek):eqT n n ps ps=true:=by simp [eqT,eqL]
end Go.SX
namespace Go.SX
open Go.Proofs Go.Proofs.Tryz
def wH:PF prog:=PF.sort 97 2 (fun blk off cap zs w h1 h2 h3=>AnyM.slices_Sort_int Tryz.laysSort blk off cap zs w h1 h2 h3)
theorem ac5:Tryz.prog.globalNamed "internal/strconv.uint64pow10" =some 1:=by kernel_rfl
theorem ack:(⟨1,153,143,.int .u64,Lib.pow10Tab⟩:GEnt)∈GT:=by
 have e:Lib.pow10Tab=adc:=by decide +kernel
 rw [e]
 exact List.mem_cons_of_mem _ (List.mem_singleton.2 rfl)
theorem Yu(w:World)(k:Nat)(os:Array Obj):RowKit.Below w.heap.size w (Sort.grow (w.drewN k) os):=by
 refine⟨rfl,rfl,rfl,?_,fun b hb=> ?_⟩
 ·simp [Sort.grow,World.drewN]
 ·simp [Sort.grow,World.drewN,Array.getElem?_append_left hb]
def Po:PF prog:=PF.itoa 92 (fun n w h0 h1 hg=>(Tryz.strconv_FormatInt_10 n h0 h1 w (acJ hg ack ac5)).mono fun e w' ⟨he,k,os,hw⟩=>⟨he,hw ▸ Yu w k os⟩)
end Go.SX
namespace Go.SX
open Go.Proofs Go.Proofs.Tryz
set_option maxRecDepth 100000
section
variable (a b:Int)(c:aek)
def dk:Int:=z7 c[z1 b]? 0
def fE:Bool:=Int.tmod (dk b c) 3!=2
def jr:aek:= [z8 .i64 (Int.tdiv (dk b c) 3),Int.tmod (z8 .i64 (z8 .i64 (Int.tdiv (dk b c) 3) + (1:Int))) a]
def ke:aek:=bif fE b c then [z8 .i64 (Int.tdiv (dk b c) 3)]else RE (jr a b c)
def kf:Bool:=allT [leI 0 b,ltI b (↑c.length:Int),ltN b.toNat c.length,leI 0 b,ltI b (↑c.length:Int),ltN b.toNat c.length,fE b c||neI a 0,fE b c||leN (z6 (jr a b c)) 4611686018427387903]
end
def sX:aem
 | [.one ⟨true,[.val (.int .i64 a),.ref 0]⟩,.one ⟨false,[.val (.int .i64 b)]⟩],[.row false 2 (.int .i64) c]=>some ⟨aeo (.ref 1),[aeq c],[aer (ke a b c)],[kf a b c]⟩
 |_,_=>none
def BF:PF prog:=PF.ofG prog (T3z [wH]) [] bB 94 f94 func94 (fun c _=>LOk.nil c) sX (by
 intro _ _ _ h;unfold sX at h;split at h<;>cases h;kernel_rfl)
def HH(n p:Int):aek:=bif phs p !=2 then [blk p]else RE [blk p,Int.tmod (blk p + 1) n]
theorem abx(a b:Int):RE [a,b]=bif leI a b then [a,b]else [b,a]:=by
 unfold RE
 have hp:=List.mergeSort_perm [a,b] (fun x y=>decide (x≤y))
 have hs:=List.pairwise_mergeSort (le:=fun(x y:Int)=>decide (x≤y)) (fun x y z h1 h2=>by simp at h1 h2 ⊢;omega) (fun x y=>by simp;omega) [a,b]
 generalize hm:List.mergeSort [a,b] (fun x y=>decide (x≤y))=l at hp hs
 have hl:=hp.length_eq
 match l,hl with
 | [x,y],_=>
  simp at hs
  have hx:x∈ [a,b]:=hp.subset (by simp)
  simp at hx
  rcases hx with rfl | rfl
  ·have:=(List.perm_cons x).1 hp
   rw [List.perm_singleton]at this
   simp at this;subst this
   rw [du hs];rfl
  ·have h2:=hp.trans (List.Perm.swap x a [])
   have:=(List.perm_cons x).1 h2
   rw [List.perm_singleton]at this
   simp at this;subst this
   cases hq:leI y x with
   |false=>rfl
   |true=>
    have:=Hk.1 hq;have:x=y:=by omega
    subst this;rfl
def atI(xs:aek)(t:Int):Int:=xs[t.toNat]?.getD 0
theorem acl(n t:Int)(ps:aek)(h:Sh n ps t=true):ke n t ps=HH n (atI ps t)∧kf n t ps=true:=by
 obtain⟨e1,e2,e3,e4,e5,e6,e7,e8⟩:=VQ h
 obtain⟨hT,ht⟩:=KZ.1 h
 obtain⟨h1,h2,h3⟩:=gt.1 hT
 have h4:=IC.1 ht
 have iM:t.toNat < ps.length:=by omega
 have hg:ps[t.toNat]?.getD 0=ps[t.toNat]:=by rw [List.getElem?_eq_getElem iM];rfl
 have h5:=h3 _ (List.getElem_mem iM)
 rw [← hg]at h5
 have f1:IntKind.i64.wrap (Int.tdiv (ps[t.toNat]?.getD 0) 3)=blk (ps[t.toNat]?.getD 0):=by
  rw [Int.tdiv_eq_ediv_of_nonneg h5.1,Wl h5.1,aC (by omega) (by omega)]
 have f2:IntKind.i64.wrap (blk (ps[t.toNat]?.getD 0) + 1)=blk (ps[t.toNat]?.getD 0) + 1:=by rw [Wl h5.1,aC (by omega) (by omega)]
 have f3:neI n 0=true:=UF (by omega)
 refine⟨?_,?_⟩
 ·simp only [dk,fE,jr,ke,kf,f1,f2,HH,phs,atI]
 ·simp [dk,fE,jr,ke,kf,e4,e5,e6,f3,allT]
def tb:aem
 | [.one ⟨true,[.val (.int .i64 a),.ref 0]⟩,.one ⟨false,[.val (.int .i64 b)]⟩],[.row false 2 (.int .i64) c]=>some ⟨aeo (.ref 1),[aeq c],[aer (HH a (atI c b))],[Sh a c b]⟩
 |_,_=>none
def br:PF prog:=PF.alt BF tb (by
 intro args es o h ec;unfold tb at h;split at h
 ·rename_i a b c
  cases h
  have ec:=Bq ec
  have hh:=acl a b c ec
  obtain⟨e0,en⟩:=hh
  exact yF rfl (tw en) rfl rfl (by simp only [e0] <;> rfl)
 ·cases h)
theorem Zw{n p:Int}(h:okP n p=true):(∀ u∈HH n p,0≤u∧u < n)∧(HH n p).length≤2∧ ∀ b:Nat,(HH n p).count (b:Int)=bif Wh n p (b:Int)then 1 else 0:=by
 obtain⟨⟨h1,h2⟩,h3,h4⟩:=WM.1 h
 have hb:=Wl h3
 have hm:Int.tmod (blk p + 1) n=(blk p + 1) % n:=Int.tmod_eq_emod_of_nonneg (by rw [hb];omega)
 have hb0:0≤blk p∧blk p < n:=by rw [hb];omega
 have hm0:=Int.emod_nonneg (blk p + 1) (show n≠0 by omega)
 have hm1:=Int.emod_lt_of_pos (blk p + 1) (show 0 < n by omega)
 have Hy:(blk p + 1) % n≠blk p:=by
  by_cases hq:blk p + 1=n
  ·rw [hq,Int.emod_self];omega
  ·rw [Int.emod_eq_of_lt (by omega) (by omega)];omega
 unfold HH Wh
 rw [hm,abx]
 generalize (blk p + 1) % n=q at *
 generalize blk p=a at *
 cases hp:phs p==2 with
 |false=>
  simp only [bne,hp,Bool.not_false,cond_true,Bool.false_and,Bool.or_false]
  refine⟨fun u hu=>by simp at hu;omega,by simp,fun b=> ?_⟩
  simp only [List.count_cons,List.count_nil]
  cases hab:a==(b:Int) <;> simp [hab]
 |true=>
  simp only [bne,hp,Bool.not_true,cond_false,Bool.true_and]
  have kn: ∀ b:Nat,(if (a==(b:Int))=true then 1 else 0) + (if (q==(b:Int))=true then 1 else 0)=(bif a==(b:Int)||q==(b:Int)then 1 else 0:Nat):=by
   intro b
   cases hab:a==(b:Int) <;> cases hqb:q==(b:Int) <;> simp
   have:=eq_of_beq hab;have:=eq_of_beq hqb;omega
  cases leI a q with
  |true=>
   refine⟨fun u hu=>by simp at hu;omega,by simp,fun b=> ?_⟩
   rw [← kn b];simp [List.count_cons];omega
  |false=>
   refine⟨fun u hu=>by simp at hu;omega,by simp,fun b=> ?_⟩
   rw [← kn b];simp [List.count_cons]
abbrev aL:=Int×Int×List Int×List Int
section
variable (a b:Int)(c d:aek)
def aR:Int:=z7 c[z1 a]? 0
def dA:Bool:=ltI a b
def dB:Bool:=leI 0 a
def dC:Bool:=ltI a (↑c.length:Int)
def dD:Bool:=ltN a.toNat c.length
def cD:Bool:=leI 0 (aR a c)
def cE:Bool:=ltI (aR a c) (↑d.length:Int)
def cF:Bool:=ltN (z1 (aR a c)) d.length
def dE:Int:=z8 .i64 (a + (1:Int))
def dF:aek:=List.set d (z1 (aR a c)) (z8 .i64 (z7 d[z1 (aR a c)]? 0 + (1:Int)))
end
def xD:aL→List (Nat×SV)
 |(a,b,_,_)=> [(20,(aep a)),(19,(aep b)),(18,(aeo (.ref 0))),(3,(aeo (.ref 1)))]
def xB:aL→List (Nat×Entry)
 |(_,_,a,b)=> [(0,(aer a)),(1,(aer b))]
def xH:Nat→aL→List (Nat×SV)
 |_,_=>[]
def dq:aL→LT aL
 |(a,b,c,d)=> .ite (dA a b) (.need [dB a,dC a c,dD a c] (.need [cD a c,cE a c d,cF a c d,cD a c,cE a c d,cF a c d] (.nrm ((dE a),b,c,(dF a c d)) [(0,0),(1,1)]))) (.ext 0 [(0,0),(1,1)])
def kJ(s:St):Option aL:=do
 let some ⟨none,.one ⟨false,[.val (.int .i64 a)]⟩⟩:=s.look 20|none
 let some ⟨none,.one ⟨false,[.val (.int .i64 b)]⟩⟩:=s.look 19|none
 let some ⟨none,.one ⟨false,[.ref 384]⟩⟩:=s.look 18|none
 let some ⟨none,.one ⟨false,[.ref 1]⟩⟩:=s.look 3|none
 let some (.row true 2 (.int .i64) c):=s.ent 384|none
 let some (.row true 2 (.int .i64) d):=s.ent 1|none
 some (a,b,c,d)
def ah:Lp aL where
 h:=⟨[21,22,23,6,24,25,26,27,28,29,30,20],[0,1],[],[]⟩
 JL:=xD
 JE:=xB
 XL:=xH
 XE:=fun _=>xB
 q:=fun j=>match j with | _=> .exit 2
 tags:= [0]
 lt:=dq
 fuel:=fun(a,b,c,d)=>a.natAbs + b.natAbs + c.length + d.length
 fix:=fun(_,b,c,_) (a,_,_,d)=>(a,b,c,d)
 σ:= [(0,384),(1,1)]
 rd:=kJ
theorem wF:LoopOk prog (memN [14,15,4,16,17,18,19,20,21,22,23,6,24,25,26,27,28,29,30,31,13]) ah.F (Bk (bf f89 0) 0):=by
 refine Lp.ok (tbl:= (T3z [br,ae])) (lf:= []) bB ah (by kernel_rfl) (LOk.nil _) (fun _=>rfl) (fun _ _=>rfl) ?_ ?_ ?_ ?_ (fun _=>rfl) ?_
 ·intro _;kernel_rfl
 ·intro _;kernel_rfl
 ·intro s x h
  have h:kJ s=some x:=h
  unfold kJ at h
  repeat' split at h
  all_goals cases h
  constructor<;>repeat(first|refine aa ‹_› rfl ?_|refine ab rfl ‹_› rfl ?_|rfl)
 ·intro _;kernel_rfl
 ·intro _ _;exact(And.intro rfl trivial)
abbrev aQ:=Int×Int×Int×List Int×List Int
section
variable (a b c:Int)(d e:aek)
def cN:Int×Int×aek×aek:=((0:Int),(↑(z6 (HH c (atI e a))):Int),HH c (atI e a),d)
def eO:Bool:=ltI a b
def eP:Bool:=Sh c e a
def eQ:Bool:=Lp.fin ah (cN a c d e)
def eR:Int:=z8 .i64 (a + (1:Int))
def eS:aek:=(Lp.res ah (cN a c d e)).2.2.2.2
end
def yX:aQ→List (Nat×SV)
 |(a,b,_,_,_)=> [(13,(aep a)),(12,(aep b)),(1,(aeo (.ptr 0 0))),(3,(aeo (.ref 1)))]
def yW:aQ→List (Nat×Entry)
 |(_,_,a,b,c)=> [(0,(.box 26 [aen a,.ref 2])),(1,(aer b)),(2,(aeq c))]
def yZ:Nat→aQ→List (Nat×SV)
 |_,_=>[]
def eC:aQ→LT aQ
 |(a,b,c,d,e)=> .ite (eO a b) (.need [eP a c e] (.need [eQ a c d e] (.nrm ((eR a),b,c,eS a c d e,e) [(0,0),(1,1),(2,2)]))) (.ext 0 [(0,0),(1,1),(2,2)])
def lZ(s:St):Option aQ:=do
 let some ⟨none,.one ⟨false,[.val (.int .i64 a)]⟩⟩:=s.look 13|none
 let some ⟨none,.one ⟨false,[.val (.int .i64 b)]⟩⟩:=s.look 12|none
 let some ⟨none,.one ⟨false,[.ptr 128 0]⟩⟩:=s.look 1|none
 let some ⟨none,.one ⟨false,[.ref 384]⟩⟩:=s.look 3|none
 let some (.box 26 [.val (.int .i64 c),.ref 0]):=s.ent 128|none
 let some (.row true 2 (.int .i64) d):=s.ent 384|none
 let some (.row false 2 (.int .i64) e):=s.ent 0|none
 some (a,b,c,d,e)
def au:Lp aQ where
 h:=⟨[14,15,4,16,17,18,19,20,21,22,23,6,24,25,26,27,28,29,30,31,13],[0,1,2],[],[]⟩
 JL:=yX
 JE:=yW
 XL:=yZ
 XE:=fun _=>yW
 q:=fun j=>match j with | _=> .exit 0
 tags:= [0]
 lt:=eC
 fuel:=fun(a,b,c,d,e)=>a.natAbs + b.natAbs + c.natAbs + d.length + e.length
 fix:=fun(_,b,c,_,e) (a,_,_,d,_)=>(a,b,c,d,e)
 σ:= [(0,128),(1,384),(2,0)]
 rd:=lZ
theorem xY:LoopOk prog (fun k=>Nat.blt k Tryz.f89.ntmps) au.F (bf f89 0):=by
 refine Lp.ok (tbl:= (T3z [br,ae])) (lf:= [ah.F]) bB au (by kernel_rfl) (LOk.allT (l:= [Bk (bf f89 0) 0]) (by kernel_rfl) (.cons wF (.nil _))) (fun _=>rfl) (fun _ _=>rfl) ?_ ?_ ?_ ?_ (fun _=>rfl) ?_
 ·intro _;kernel_rfl
 ·intro _;kernel_rfl
 ·intro s x h
  have h:lZ s=some x:=h
  unfold lZ at h
  repeat' split at h
  all_goals cases h
  constructor<;>repeat(first|refine aa ‹_› rfl ?_|refine ab rfl ‹_› rfl ?_|rfl)
 ·intro _;kernel_rfl
 ·intro _ _;exact(And.intro rfl trivial)
section
variable (a:Int)(b:aek)
def jt:Int×Int×Int×aek×aek:=((0:Int),ax b,a,j6 a.toNat (0:Int),b)
def nR:aek:=((Lp.res au (jt a b)).2.2.2.2).1
def nS:Bool:=allT [leI 0 a,leI a a,leI ((↑(8:Nat):Int) * a) 281474976710656,leI a 9223372036854775807,Lp.fin au (jt a b)]
end
def sY:aem
 | [.one ⟨true,[.val (.int .i64 a),.ref 0]⟩],[.row false 2 (.int .i64) b]=>some ⟨aeo (.ref 1),[aeq b],[aer (nR a b)],[nS a b]⟩
 |_,_=>none
def BG:PF prog:=PF.ofG prog (T3z [br,ae]) [au.F] bB 89 f89 func89 (LOk.fnT (l:= [bf f89 0]) (by kernel_rfl) (.cons xY (.nil _))) sY (by
 intro _ _ _ h;unfold sY at h;split at h<;>cases h;kernel_rfl)
def rj(n:Int)(ps:aek):aek:=(List.range n.toNat).map fun(b:Nat)=>(Vb n ps (b:Int):Int)
theorem Kv(n:Int)(ps:aek):(rj n ps).length=n.toNat:=by simp [rj]
def bI(b:Int):(aek)→Nat ⊕ (aek)
 |a=>(.inr (List.set a (z1 b) (z8 .i64 (z7 a[z1 (b)]? 0 + (1:Int)))))
def bg(a:aek)(i:Nat):(aek)→aL
 |b=>((i:Int),(↑a.length:Int),a,b)
def kI:aL→aek
 |(_,_,_,a)=>a
theorem ya(c e:aek)(hn:c.length≤9223372036854775807)(hU: ∀ u∈c,0≤u∧u < (e.length:Int)):
  ah.fin ((0:Int),(↑c.length:Int),c,e)=true∧ah.res ((0:Int),(↑c.length:Int),c,e)=((eE (bI) 0 c 0 e).1,(bg c) (eE (bI) 0 c 0 e).2.1 (eE (bI) 0 c 0 e).2.2):=by
 have kn:=ah.along (bg c) kI (bI) 0 (fun _ a=>a.length=e.length) c e rfl (by simp only [ah,bg];omega) (fun i b a hb hI=> ?_) (fun a hI=> ?_)
 ·exact kn
 ·obtain e:=a
  have iM:=(w9.1 hb).1
  have lV: ∀ d,z7 c[i]? d=b:=fun d=>by rw [hb];rfl
  have hw:=mO iM hn
  have Cb:ltI (i:Int) (c.length:Int)=true:=eV (by omega)
  have Sb:leI (0:Int) (i:Int)=true:=du (by omega)
  have HK:ltN i c.length=true:=lR iM
  refine⟨?_,?_,?_,?_⟩
  ·have hu:=hU b (List.mem_of_getElem? hb)
   have e1:leI 0 b=true:=du hu.1
   have e2:ltI b (a.length:Int)=true:=eV (by omega)
   have e3:ltN b.toNat a.length=true:=lR (by omega)
   simp only [aR,dA,dB,dC,dD,cD,cE,cF,dE,dF,dq,ah,LT.nds,allT,bg,q9,Cb,Sb,HK,lV,e1,e2,e3,cond_true]
  ·simp [aR,dA,dB,dC,dD,cD,cE,cF,dE,dF,dq,ah,LT.each,bg,kI,hw]
  ·simp only [aR,dA,dB,dC,dD,cD,cE,cF,dE,dF,dq,ah,LT.fn,bg,kI,bI,q9,Cb,Sb,HK,lV,cond_true,w7]
  ·intro a' hf;simp only [bI,Sum.inr.injEq]at hf;subst hf;simpa using hI
 ·obtain e:=a
  simp [aR,dA,dB,dC,dD,cD,cE,cF,dE,dF,dq,ah,LT.out,bg]
def abU(a:aek)(u:Int):aek:=a.set u.toNat (z8 .i64 (z7 a[u.toNat]? 0 + 1))
theorem ac8(N:Nat): ∀ (us:aek) (c:Nat→Int),(∀ u∈us,0≤u∧u < (N:Int))→(∀ b,0≤c b∧c b + us.length≤1000000)→
  us.foldl abU ((List.range N).map c)=(List.range N).map fun(b:Nat)=>c b + (us.count (b:Int):Int)
 | [],c,_,_=>by simp
 |u::us,c,hu,hc=>by
  have hu0:=hu u (by simp)
  have iM:u.toNat < N:=by omega
  have h1:abU ((List.range N).map c) u=(List.range N).map fun(b:Nat)=>if (b:Int)=u then c b + 1 else c b:=by
   unfold abU
   have hg:z7 ((List.range N).map c)[u.toNat]? 0=c u.toNat:=by simp [List.getElem?_map,List.getElem?_range iM]
   have hcu:=hc u.toNat
   simp only [w6]at hcu
   rw [hg,aC (by omega) (by omega)]
   refine List.ext_getElem? fun i=> ?_
   rw [List.getElem?_set]
   by_cases hi:u.toNat=i
   ·rw [if_pos hi,if_pos (by simpa using iM)]
    subst hi
    rw [List.getElem?_map,List.getElem?_range iM,Option.map_some,if_pos (by omega)]
   ·rw [if_neg hi,List.getElem?_map,List.getElem?_map]
    by_cases hiN:i < N
    ·rw [List.getElem?_range hiN,Option.map_some,Option.map_some,if_neg (by omega)]
    ·rw [List.getElem?_eq_none (by simp;omega)];rfl
  rw [List.foldl_cons,h1,ac8 N us _ (fun v hv=>hu v (by simp [hv])) (fun b=>by
   have:=hc b
   simp only [w6]at this
   split <;> omega)]
  refine List.map_congr_left fun b _=> ?_
  rw [List.count_cons]
  by_cases hb:(b:Int)=u
  ·rw [if_pos hb,if_pos (by simp [hb])];omega
  ·rw [if_neg hb,if_neg (by simp;omega)];omega
theorem Um{n p:Int}{qs:aek}(h:okP n p=true)(hq:qs.length≤50):
  ah.fin ((0:Int),((HH n p).length:Int),HH n p,rj n qs)=true∧
   (ah.res ((0:Int),((HH n p).length:Int),HH n p,rj n qs)).2.2.2.2=rj n (qs++ [p]):=by
 obtain⟨hu,hl,hc⟩:=Zw h
 have hn:=(WM.1 h).1
 obtain⟨w1,w2⟩:=ya (HH n p) (rj n qs) (by omega) (fun u hm=>by rw [Kv];have:=hu u hm;omega)
 refine⟨w1,?_⟩
 rw [w2,CB (f:=bI) (g:=abU) (fun b a=>rfl)]
 simp only [bg]
 unfold rj
 rw [ac8 n.toNat (HH n p) _ (fun u hm=>by have:=hu u hm;omega) (fun b=>by
  have:Vb n qs (b:Int)≤qs.length:=List.countP_le_length
  omega)]
 refine List.map_congr_left fun b _=> ?_
 rw [hc b]
 simp only [Vb,List.countP_append,List.countP_cons,List.countP_nil]
 cases Wh n p (b:Int) <;> simp
theorem We{ps:aek}{b:Nat}(h:b < ps.length):ps.take (b + 1)=ps.take b++ [ps[b]?.getD 0]:=by
 rw [List.take_add_one,List.getElem?_eq_getElem h];rfl
def aD(a:Int)(d:aek)(b:Nat):(aek)→Nat ⊕ (aek)
 |c=>(.inr ((Lp.res ah ((0:Int),(↑(z6 (HH a (atI d (↑b:Int)))):Int),HH a (atI d (↑b:Int)),c)).2.2.2.2))
def bz(a b:Int)(d:aek)(i:Nat):(aek)→aQ
 |c=>((i:Int),a,b,c,d)
def lY:aQ→aek
 |(_,_,_,a,_)=>a
theorem Aa(c d:Int)(f e:aek)(hn:c≤9223372036854775807)(hl:c=(f.length:Int))(hT:isT d f=true)(h3:e=rj d []):
  au.fin ((0:Int),c,d,e,f)=true∧au.res ((0:Int),c,d,e,f)=((eE (aD d f) 0 (List.range c.toNat) 0 e).1,(bz c d f) (eE (aD d f) 0 (List.range c.toNat) 0 e).2.1 (eE (aD d f) 0 (List.range c.toNat) 0 e).2.2):=by
 have kn:=au.along (bz c d f) lY (aD d f) 0 (fun i a=>a=rj d (f.take i)) (List.range c.toNat) e (by subst h3;simp) (by simp only [au,bz,List.length_range];omega) (fun i b a hb hI=> ?_) (fun a hI=> ?_)
 ·exact kn
 ·obtain e:=a
  obtain⟨rfl,iM⟩:=Ld hb
  have hw:IntKind.i64.wrap ((b:Int) + 1)=((b + 1:Nat):Int):=by rw [aC (by omega) (by omega)];omega
  have Cb:ltI (b:Int) c=true:=eV (by omega)
  have Sb:leI (0:Int) (b:Int)=true:=du (by omega)
  refine⟨?_,?_,?_,?_⟩
  ·have h4:=(gt.1 hT).2.1
   have MF:b < f.length:=by omega
   have hm:Sh d f (b:Int)=true:=KZ.2 ⟨hT,IC.2 (by omega)⟩
   have hp:okP d (atI f (b:Int))=true:=WE hT (by unfold atI;rw [q9,List.getElem?_eq_getElem MF];exact List.getElem_mem MF)
   obtain⟨i1,i2⟩:=Um (qs:=f.take b) hp (by rw [List.length_take];omega)
   subst hI
   simp only [cN,eO,eP,eQ,eR,eS,eC,au,LT.nds,allT,bz,Cb,hm,i1,cond_true]
  ·simp [cN,eO,eP,eQ,eR,eS,eC,au,LT.each,bz,lY,hw]
  ·simp only [cN,eO,eP,eQ,eR,eS,eC,au,LT.fn,bz,lY,aD,q9,Cb,Sb,cond_true,w7]
  ·intro a' hf
   have h4:=(gt.1 hT).2.1
   have MF:b < f.length:=by omega
   have hp:okP d (atI f (b:Int))=true:=WE hT (by unfold atI;rw [q9,List.getElem?_eq_getElem MF];exact List.getElem_mem MF)
   obtain⟨i1,i2⟩:=Um (qs:=f.take b) hp (by rw [List.length_take];omega)
   subst hI
   simp only [aD,i2,Sum.inr.injEq]at hf
   rw [← hf,We MF]
   rfl
 ·obtain e:=a
  simp only [cN,eO,eP,eQ,eR,eS,eC,au,LT.out,bz,List.length_range,aaq,abj,cond_false]
theorem acm(n:Int)(ps:aek): ∀ (m:Nat),m≤ps.length→(∀ b,b < m→ ∀ a,a=rj n (ps.take b)→aD n ps b a= .inr (rj n (ps.take (b + 1))))→
  (eE (aD n ps) 0 (List.range m) 0 (rj n [])).2.2=rj n (ps.take m):=by
 have kn: ∀ (k i s:Nat),(∀ b,b < s + k→ ∀ a,a=rj n (ps.take b)→aD n ps b a= .inr (rj n (ps.take (b + 1))))→
   (eE (aD n ps) 0 ((List.range k).map (· + s)) i (rj n (ps.take s))).2.2=rj n (ps.take (s + k)):=by
  intro k
  induction k with
  |zero=>intro i s _;rfl
  |succ k ih=>
   intro i s hb
   rw [List.range_succ_eq_map,List.map_cons,List.map_map]
   simp only [eE,Nat.zero_add]
   rw [hb s (by omega) _ rfl]
   have:=ih (i + 1) (s + 1) (fun b iM=>hb b (by omega))
   have he:List.map ((fun x=>x + s) ∘ Nat.succ) (List.range k)=(List.range k).map (· + (s + 1)):=List.map_congr_left fun x _=>by simp only [Function.comp];omega
   rw [he]
   show (eE (aD n ps) 0 ((List.range k).map (· + (s + 1))) (i + 1) (rj n (ps.take (s + 1)))).2.2=_
   rw [this]
   congr 2;omega
 intro m hm hb
 have:=kn m 0 0 (by simpa using hb)
 simpa using this
theorem abB(n:Int)(ps:aek)(hT:isT n ps=true):nR n ps=rj n ps∧nS n ps=true:=by
 have h1:=(gt.1 hT).1
 have h4:=(gt.1 hT).2.1
 have hr:j6 (z1 n) (0:Int)=rj n []:=by
  unfold rj
  refine List.ext_getElem (by simp) fun i h1 h2=>by simp [Vb]
 obtain⟨w1,w2⟩:=Aa (ps.length:Int) n ps (rj n []) (by omega) rfl hT rfl
 have hw:=acm n ps ps.length (Nat.le_refl _) (fun b hb a ha=>by
  have hp:okP n (atI ps (b:Int))=true:=WE hT (by unfold atI;rw [q9,List.getElem?_eq_getElem hb];exact List.getElem_mem hb)
  obtain⟨i1,i2⟩:=Um (qs:=ps.take b) hp (by rw [List.length_take];omega)
  subst ha
  simp only [aD,i2,We hb]
  rfl)
 have e1:(ps.length:Int).toNat=ps.length:=by omega
 rw [e1]at w2
 refine⟨?_,?_⟩
 ·simp only [nR,jt,ax,hr,w2,bz,hw,List.take_length]
 ·simp only [nS,jt,ax,hr,w1,allT]
  simp;omega
def tc:aem
 | [.one ⟨true,[.val (.int .i64 a),.ref 0]⟩],[.row false 2 (.int .i64) b]=>some ⟨aeo (.ref 1),[aeq b],[aer (rj a b)],[isT a b]⟩
 |_,_=>none
def bt:PF prog:=PF.alt BG tc (by
 intro args es o h ec;unfold tc at h;split at h
 ·rename_i a b
  cases h
  have ec:=Bq ec
  have hh:=abB a b ec
  obtain⟨e0,en⟩:=hh
  exact yF rfl (tw en) rfl rfl (by simp only [e0] <;> rfl)
 ·cases h)
def fIn(n:Int)(f:Int×Int×Int):Bool:=inR f.1 0 (IntKind.i64.wrap (n - 1))&&(inR f.2.1 0 1&&inR f.2.2 0 1)
def ac4(f g:Int×Int×Int):Bool:=g.1==f.1&&g.2.1==f.2.1
def fAt(fs:aeh)(b:Nat):Int×Int×Int:=fs[b]?.getD (0,0,0)
def adH(n:Int)(fs:aeh)(b:Nat):Bool:= !fIn n (fAt fs b)
def adI(fs:aeh)(b:Nat):Bool:=(fs.take b).any (ac4 (fAt fs b))
def okFs(n:Int)(fs:aeh):Bool:=leN fs.length 8&&(List.range fs.length).all fun b=> !(adH n fs b||adI fs b)
abbrev kx:=Int×Int×List Int×List Int
section
variable (a b:Int)(c d:aek)
def rI:Int:=z7 c[z1 a]? 0
def vb:Bool:=ltI a b
def sI:Bool:=leI 0 a
def vc:Bool:=ltI a (↑c.length:Int)
def vd:Bool:=ltN a.toNat c.length
def ve:Bool:=ltI a (↑d.length:Int)
def vf:Bool:=ltN a.toNat d.length
def vg:Int:=z8 .i64 (a + (1:Int))
def vh:aek:=List.set d a.toNat (aaj 1 (rI a c) 1 (rI a c))
end
def OD:kx→List (Nat×SV)
 |(a,b,_,_)=> [(17,(aep a)),(16,(aep b)),(15,(aeo (.ref 0))),(5,(aeo (.ref 1)))]
def Oq:kx→List (Nat×Entry)
 |(_,_,a,b)=> [(0,(aer a)),(1,(aer b))]
def Pa:Nat→kx→List (Nat×SV)
 |_,_=>[]
def uf:kx→LT kx
 |(a,b,c,d)=> .ite (vb a b) (.need [sI a,vc a c,vd a c] (.need [sI a,ve a d,vf a d] (.nrm ((vg a),b,c,(vh a c d)) [(0,0),(1,1)]))) (.ext 0 [(0,0),(1,1)])
def DF(s:St):Option kx:=do
 let some ⟨none,.one ⟨false,[.val (.int .i64 a)]⟩⟩:=s.look 17|none
 let some ⟨none,.one ⟨false,[.val (.int .i64 b)]⟩⟩:=s.look 16|none
 let some ⟨none,.one ⟨false,[.ref 640]⟩⟩:=s.look 15|none
 let some ⟨none,.one ⟨false,[.ref 448]⟩⟩:=s.look 5|none
 let some (.row true 2 (.int .i64) c):=s.ent 640|none
 let some (.row true 2 (.int .i64) d):=s.ent 448|none
 some (a,b,c,d)
def dQ:Lp kx where
 h:=⟨[18,19,20,21,6,7,22,23,24,25,26,27,17],[0,1],[],[]⟩
 JL:=OD
 JE:=Oq
 XL:=Pa
 XE:=fun _=>Oq
 q:=fun j=>match j with | _=> .exit 0
 tags:= [0]
 lt:=uf
 fuel:=fun(a,b,c,d)=>a.natAbs + b.natAbs + c.length + d.length
 fix:=fun(_,b,c,_) (a,_,_,d)=>(a,b,c,d)
 σ:= [(0,640),(1,448)]
 rd:=DF
theorem MJ:LoopOk prog (fun k=>Nat.blt k Tryz.f78.ntmps) dQ.F (bf f78 0):=by
 refine Lp.ok (tbl:= (T3z [bt,ac])) (lf:= []) bB dQ (by kernel_rfl) (LOk.nil _) (fun _=>rfl) (fun _ _=>rfl) ?_ ?_ ?_ ?_ (fun _=>rfl) ?_
 ·intro _;kernel_rfl
 ·intro _;kernel_rfl
 ·intro s x h
  have h:DF s=some x:=h
  unfold DF at h
  repeat' split at h
  all_goals cases h
  constructor<;>repeat(first|refine aa ‹_› rfl ?_|refine ab rfl ‹_› rfl ?_|rfl)
 ·intro _;kernel_rfl
 ·intro _ _;exact(And.intro rfl trivial)
abbrev ky:=Int×Int×List (Int×(Int×Int))×List Int×List Int
section
variable (a b:Int)(c:aee)(d e:aek)
def dP:Int×Int×Int:=z7 c[z1 a]? ((0:Int),(0:Int),(0:Int))
def fS:Bool:=((dP a c).2).1==0
def rJ:Bool:=leI 0 ((dP a c).1)
def vi:Bool:=ltI a b
def vj:Bool:=leI 0 a
def vk:Bool:=ltI a (↑c.length:Int)
def vl:Bool:=ltN a.toNat c.length
def vm:Bool:= !fS a c||rJ a c
def vn:Bool:= !fS a c||ltI ((dP a c).1) (↑d.length:Int)
def vo:Bool:= !fS a c||ltN (z1 ((dP a c).1)) d.length
def vp:Bool:=fS a c||rJ a c
def vq:Bool:=fS a c||ltI ((dP a c).1) (↑e.length:Int)
def vr:Bool:=fS a c||ltN (z1 ((dP a c).1)) e.length
def uc:Int:=z8 .i64 (a + (1:Int))
def ud:aek:=bif fS a c then List.set d (z1 ((dP a c).1)) ((dP a c).2.2)else d
def ue:aek:=bif fS a c then e else List.set e (z1 ((dP a c).1)) ((dP a c).2.2)
end
def OE:ky→List (Nat×SV)
 |(a,b,_,_,_)=> [(34,(aep a)),(33,(aep b)),(32,(aeo (.ref 0))),(8,(aeo (.ptr 1 0)))]
def Ot:ky→List (Nat×Entry)
 |(_,_,a,b,c)=> [(0,(.row false 135 ad3 a)),(1,(.box 121 [.ref 2,.ref 3])),(2,(aer b)),(3,(aer c))]
def Pb:Nat→ky→List (Nat×SV)
 |_,_=>[]
def ug:ky→LT ky
 |(a,b,c,d,e)=> .ite (vi a b) (.need [vj a,vk a c,vl a c] (.need [vm a c,vn a c d,vo a c d,vp a c,vq a c e,vr a c e] (.nrm ((uc a),b,c,ud a c d,(ue a c e)) [(0,0),(1,1),(2,2),(3,3)]))) (.ext 0 [(0,0),(1,1),(2,2),(3,3)])
def DG(s:St):Option ky:=do
 let some ⟨none,.one ⟨false,[.val (.int .i64 a)]⟩⟩:=s.look 34|none
 let some ⟨none,.one ⟨false,[.val (.int .i64 b)]⟩⟩:=s.look 33|none
 let some ⟨none,.one ⟨false,[.ref 1]⟩⟩:=s.look 32|none
 let some ⟨none,.one ⟨false,[.ptr 1152 0]⟩⟩:=s.look 8|none
 let some (.row false 135 (.pair (.int .i64) (.pair (.int .i64) (.int .i64))) c):=s.ent 1|none
 let some (.box 121 [.ref 448,.ref 1024]):=s.ent 1152|none
 let some (.row true 2 (.int .i64) d):=s.ent 448|none
 let some (.row true 2 (.int .i64) e):=s.ent 1024|none
 some (a,b,c,d,e)
def dR:Lp ky where
 h:=⟨[35,36,37,10,38,39,40,41,42,43,44,45,46,47,48,49,50,51,52,53,54,55,34],[0,1,2,3],[],[]⟩
 JL:=OE
 JE:=Ot
 XL:=Pb
 XE:=fun _=>Ot
 q:=fun j=>match j with | _=> .exit 2
 tags:= [0]
 lt:=ug
 fuel:=fun(a,b,c,d,e)=>a.natAbs + b.natAbs + c.length + d.length + e.length
 fix:=fun(_,b,c,_,_) (a,_,_,d,e)=>(a,b,c,d,e)
 σ:= [(0,1),(1,1152),(2,448),(3,1024)]
 rd:=DG
theorem MK:LoopOk prog (fun k=>Nat.blt k Tryz.f78.ntmps) dR.F (bf f78 1):=by
 refine Lp.ok (tbl:= (T3z [bt,ac])) (lf:= []) bB dR (by kernel_rfl) (LOk.nil _) (fun _=>rfl) (fun _ _=>rfl) ?_ ?_ ?_ ?_ (fun _=>rfl) ?_
 ·intro _;kernel_rfl
 ·intro _;kernel_rfl
 ·intro s x h
  have h:DG s=some x:=h
  unfold DG at h
  repeat' split at h
  all_goals cases h
  constructor<;>repeat(first|refine aa ‹_› rfl ?_|refine ab rfl ‹_› rfl ?_|rfl)
 ·intro _;kernel_rfl
 ·intro _ _;exact(And.intro rfl trivial)
section
variable (a:Int)(b:aek)(c:aeh)
def CN:Int×Int×aek×aek:=((0:Int),(↑(z6 (rj a b)):Int),rj a b,j6 a.toNat (0:Int))
def uD:aek:=(Lp.res dQ (CN a b)).2.2.2.2
def yI:Int×Int×aeh×aek×aek:=((0:Int),(↑c.length:Int),c,uD a b,uD a b)
def CO:aek×aek:=(Lp.res dR (yI a b c)).2.2.2.2
def HO:aek:=(CO a b c).1
def HP:aek:=(CO a b c).2
def HQ:Bool:=allT [leI 0 a,leI a a,leI ((↑(8:Nat):Int) * a) 281474976710656,leI a 9223372036854775807,isT a b,Lp.fin dQ (CN a b),leN 1 (z6 (uD a b))&&leN (z6 (uD a b)) 1048576,Lp.fin dR (yI a b c)]
end
def Mk:aem
 | [.one ⟨true,[.val (.int .i64 a),.ref 0]⟩,.one ⟨false,[.ref 1]⟩],[.row false 2 (.int .i64) b,.row false 135 (.pair (.int .i64) (.pair (.int .i64) (.int .i64))) c]=>some ⟨.one ⟨true,[.ref 2,.ref 3]⟩,[aeq b,.row false 135 ad3 c],[aer (HO a b c),aer (HP a b c)],[HQ a b c]⟩
 |_,_=>none
def Tv:PF prog:=PF.ofG prog (T3z [bt,ac]) [dQ.F,dR.F] bB 78 f78 func78 (LOk.fnT (l:= [bf f78 0,bf f78 1]) (by kernel_rfl) (.cons MJ (.cons MK (.nil _)))) Mk (by
 intro _ _ _ h;unfold Mk at h;split at h<;>cases h;kernel_rfl)
section
variable (a:Int)(b c:aek)
def eM:Bool:=z7 b[z1 a]? 0==0
def mr:Bool:=bif eM a b then z7 c[z1 a]? 0==0 else false
def mt:Bool:=allT [leI 0 a,ltI a (↑b.length:Int),ltN a.toNat b.length,!(eM a b&&true)||leI 0 a,!(eM a b&&true)||ltI a (↑c.length:Int),!(eM a b&&true)||ltN a.toNat c.length]
end
def rS:aem
 | [.one ⟨true,[.ref 0,.ref 1]⟩,.one ⟨false,[.val (.int .i64 a)]⟩],[.row false 2 (.int .i64) b,.row false 2 (.int .i64) c]=>some ⟨aeo (.val (.bool (mr a b c))),[aeq b,aeq c],[],[mt a b c]⟩
 |_,_=>none
def mB:PF prog:=PF.ofG prog [] [] bB 90 f90 func90 (fun c _=>LOk.nil c) rS (by
 intro _ _ _ h;unfold rS at h;split at h<;>cases h;kernel_rfl)
section
variable (a b:Int)(c d e:aek)
def iv:Int:=z7 e[z1 b]? 0
def eN:Bool:=Int.tmod (iv b e) 3!=1
def iw:Int:=Int.tmod (z8 .i64 (z8 .i64 (Int.tdiv (iv b e) 3) + (1:Int))) a
def mu:Bool:=bif eN b e then true else mr (iw a b e) c d
def mv:Bool:=allT [leI 0 b,ltI b (↑e.length:Int),ltN b.toNat e.length,!(!eN b e&&true)||neI 3 0,!(!eN b e&&true)||neI a 0,!(!eN b e&&true)||mt (iw a b e) c d]
end
def rT:aem
 | [.one ⟨true,[.ref 0,.ref 1]⟩,.one ⟨true,[.val (.int .i64 a),.ref 2]⟩,.one ⟨false,[.val (.int .i64 b)]⟩],[.row false 2 (.int .i64) c,.row false 2 (.int .i64) d,.row false 2 (.int .i64) e]=>some ⟨aeo (.val (.bool (mu a b c d e))),[aeq c,aeq d,aeq e],[],[mv a b c d e]⟩
 |_,_=>none
def AD:PF prog:=PF.ofG prog (T3z [mB]) [] bB 80 f80 func80 (fun c _=>LOk.nil c) rT (by
 intro _ _ _ h;unfold rT at h;split at h<;>cases h;kernel_rfl)
def occ(c:Int):Int:=bif ltI c 1 then c else 1
def Qz(ch:Int)(l:aek)(f:Int×Int×Int):aek:=bif f.2.1==ch then l.set f.1.toNat f.2.2 else l
def QP(n:Int)(ps:aek):aek:=(List.range n.toNat).map fun(b:Nat)=>occ (Vb n ps (b:Int):Int)
def xS(n:Int)(ps:aek)(fs:aeh)(ch:Int):aek:=fs.foldl (Qz ch) (QP n ps)
def XX(n:Int)(a:aek):Bool:=eqI (a.length:Int) n&&a.all fun v=>inR v 0 1
theorem Ye(ch:Int)(l:aek)(f:Int×Int×Int):(Qz ch l f).length=l.length:=by
 unfold Qz;cases f.2.1==ch <;> simp
theorem Ih(n:Int)(ps:aek):(QP n ps).length=n.toNat:=by simp [QP]
theorem KN(ch:Int): ∀ (fs:aeh) (l:aek),(fs.foldl (Qz ch) l).length=l.length
 | [],l=>rfl
 |f::fs,l=>by rw [List.foldl_cons,KN ch fs,Ye]
theorem Wn(n:Int)(ps:aek)(fs:aeh)(ch:Int):(xS n ps fs ch).length=n.toNat:=by
 rw [xS,KN,Ih]
def fV(n:Int)(f:Int×Int×Int):Bool:=(leI 0 f.1&&ltI f.1 n)&&((f.2.1==0||f.2.1==1)&&inR f.2.2 0 1)
def Ul(n:Int)(fs:aeh):Bool:=leN fs.length 1000&&fs.all (fV n)
theorem ZJ{n:Int}{fs:aeh}(h:Ul n fs=true):fs.length≤1000∧ ∀ f∈fs,(0≤f.1∧f.1 < n)∧(f.2.1=0∨f.2.1=1)∧(0≤f.2.2∧f.2.2≤1):=by
 simp only [Ul,q8,sj,List.all_eq_true]at h
 refine⟨h.1,fun f hf=> ?_⟩
 have h3:=h.2 f hf
 simp only [fV,q8,Bool.or_eq_true,beq_iff_eq,pa,Hk,Ip]at h3
 exact h3
theorem adJ(c:Int):aaj 1 c 1 c=occ c:=by
 simp only [ZI,occ]
 cases h:ltI 1 c <;> cases h':ltI c 1 <;> simp at h h' ⊢ <;> omega
def oA(a:aek)(b:Nat):(aek)→Nat ⊕ (aek)
 |c=>(.inr (List.set c b (aaj 1 (z7 a[b]? 0) 1 (z7 a[b]? 0))))
def mV(a:aek)(i:Nat):(aek)→kx
 |b=>((i:Int),(↑a.length:Int),a,b)
def DB:kx→aek
 |(_,_,_,a)=>a
theorem QC(c d:aek)(hn:c.length≤9223372036854775807)(hl:d.length=c.length):
  dQ.fin ((0:Int),(↑c.length:Int),c,d)=true∧dQ.res ((0:Int),(↑c.length:Int),c,d)=((eE (oA c) 0 (List.range c.length) 0 d).1,(mV c) (eE (oA c) 0 (List.range c.length) 0 d).2.1 (eE (oA c) 0 (List.range c.length) 0 d).2.2):=by
 have kn:=dQ.along (mV c) DB (oA c) 0 (fun _ a=>a.length=c.length) (List.range c.length) d hl (by simp only [dQ,mV,List.length_range];omega) (fun i b a hb hI=> ?_) (fun a hI=> ?_)
 ·exact kn
 ·obtain d:=a
  obtain⟨rfl,iM⟩:=Ld hb
  have hw:IntKind.i64.wrap ((b:Int) + 1)=((b + 1:Nat):Int):=by rw [aC (by omega) (by omega)];omega
  have Cb:ltI (b:Int) (c.length:Int)=true:=eV (by omega)
  have Sb:leI (0:Int) (b:Int)=true:=du (by omega)
  have HK:ltN b c.length=true:=lR (by omega)
  refine⟨?_,?_,?_,?_⟩
  ·simp [rI,vb,sI,vc,vd,ve,vf,vg,vh,uf,dQ,LT.nds,allT,mV,Cb,Sb,HK,hI]
  ·simp [rI,vb,sI,vc,vd,ve,vf,vg,vh,uf,dQ,LT.each,mV,DB,hw,hI]
  ·simp only [rI,vb,sI,vc,vd,ve,vf,vg,vh,uf,dQ,LT.fn,mV,DB,oA,q9,Cb,cond_true]
  ·intro a' hf;simp only [oA,Sum.inr.injEq]at hf;subst hf;simpa using hI
 ·obtain d:=a
  simp [rI,vb,sI,vc,vd,ve,vf,vg,vh,uf,dQ,LT.out,mV,List.length_range]
def qv(b:Int×(Int×Int)):(aek×aek)→Nat ⊕ (aek×aek)
 |(a,c)=>(.inr ((bif(b.2.1==0)then List.set a (z1 b.1) b.2.2else a),(bif(b.2.1==0)then c else List.set c (z1 b.1) b.2.2)))
def mW(a:aee)(i:Nat):(aek×aek)→ky
 |(b,c)=>((i:Int),(↑a.length:Int),a,b,c)
def DC:ky→aek×aek
 |(_,_,_,a,b)=>(a,b)
theorem QD(c:aee)(e g:aek)(hn:c.length≤9223372036854775807)(n:Nat)(h3:e.length=n)(h4:g.length=n)(hf: ∀ f∈c,0≤f.1∧f.1 < (n:Int)):
  dR.fin ((0:Int),(↑c.length:Int),c,e,g)=true∧dR.res ((0:Int),(↑c.length:Int),c,e,g)=((eE (qv) 0 c 0 (e,g)).1,(mW c) (eE (qv) 0 c 0 (e,g)).2.1 (eE (qv) 0 c 0 (e,g)).2.2):=by
 have kn:=dR.along (mW c) DC (qv) 0 (fun _ a=>a.1.length=n∧a.2.length=n) c (e,g) ⟨h3,h4⟩ (by simp only [dR,mW];omega) (fun i b a hb hI=> ?_) (fun a hI=> ?_)
 ·exact kn
 ·obtain⟨e,g⟩:=a
  have iM:=(w9.1 hb).1
  have lV: ∀ d,z7 c[i]? d=b:=fun d=>by rw [hb];rfl
  have hw:=mO iM hn
  have Cb:ltI (i:Int) (c.length:Int)=true:=eV (by omega)
  have Sb:leI (0:Int) (i:Int)=true:=du (by omega)
  have HK:ltN i c.length=true:=lR iM
  refine⟨?_,?_,?_,?_⟩
  ·have h5:=hf b (List.mem_of_getElem? hb)
   have hI1:=hI.1
   have hI2:=hI.2
   have h6:leI 0 b.1=true:=du h5.1
   have h7:ltI b.1 (n:Int)=true:=eV (by omega)
   have h8:ltN b.1.toNat n=true:=lR (by omega)
   simp only at hI1 hI2
   simp [dP,fS,rJ,vi,vj,vk,vl,vm,vn,vo,vp,vq,vr,uc,ud,ue,ug,dR,LT.nds,allT,mW,Cb,Sb,HK,lV,h6,h7,h8,hI1,hI2]
  ·simp [dP,fS,rJ,vi,vj,vk,vl,vm,vn,vo,vp,vq,vr,uc,ud,ue,ug,dR,LT.each,mW,DC,hw]
  ·simp only [dP,fS,rJ,vi,vj,vk,vl,vm,vn,vo,vp,vq,vr,uc,ud,ue,ug,dR,LT.fn,mW,DC,qv,q9,Cb,Sb,HK,lV,cond_true,w7]
  ·intro a' hf;simp only [qv,Sum.inr.injEq]at hf;subst hf;have hI1:=hI.1;have hI2:=hI.2;cases b.2.1==0 <;> simpa using ⟨hI1,hI2⟩
 ·obtain⟨e,g⟩:=a
  simp [dP,fS,rJ,vi,vj,vk,vl,vm,vn,vo,vp,vq,vr,uc,ud,ue,ug,dR,LT.out,mW]
theorem VH: ∀ (fs:aeh) (a:aek×aek),(∀ f∈fs,f.2.1=0∨f.2.1=1)→
  fs.foldl (fun a f=>(bif f.2.1==0 then a.1.set f.1.toNat f.2.2 else a.1,bif f.2.1==0 then a.2 else a.2.set f.1.toNat f.2.2)) a=(fs.foldl (Qz 0) a.1,fs.foldl (Qz 1) a.2)
 | [],a,_=>rfl
 |f::fs,a,h=>by
  simp only [List.foldl_cons]
  rw [VH fs _ (fun g hg=>h g (by simp [hg]))]
  rcases h f (by simp)with e | e <;> simp [Qz,e]
theorem Vg(n:Int)(ps:aek)(fs:aeh)(h:(isT n ps&&Ul n fs)=true):
  HO n ps fs=xS n ps fs 0∧HP n ps fs=xS n ps fs 1∧HQ n ps fs=true:=by
 simp only [q8]at h
 have h2:=(gt.1 h.1).1
 obtain⟨hl,hf⟩:=ZJ h.2
 have hr:(j6 n.toNat (0:Int)).length=(rj n ps).length:=by rw [Kv];simp
 obtain⟨w1,w2⟩:=QC (rj n ps) (j6 n.toNat (0:Int)) (by rw [Kv];omega) hr
 rw [aaH (xs:=rj n ps) (d:=(0:Int)) (g:=occ) (f:=oA (rj n ps)) (e:=0) (fun b a=>by simp only [oA,adJ]) hr]at w2
 have e1:uD n ps=QP n ps:=by
  rw [uD,CN,w2]
  simp only [mV,rj,QP,List.map_map];rfl
 obtain⟨v1,v2⟩:=QD fs (QP n ps) (QP n ps) (by omega) n.toNat (Ih n ps) (Ih n ps) (fun f hm=>by have:=(hf f hm).1;omega)
 rw [CB (f:=qv) (g:=fun a f=>(bif f.2.1==0 then a.1.set f.1.toNat f.2.2 else a.1,bif f.2.1==0 then a.2 else a.2.set f.1.toNat f.2.2)) (fun b a=>rfl),VH _ _ (fun f hm=>(hf f hm).2.1)]at v2
 have e3:CO n ps fs=(xS n ps fs 0,xS n ps fs 1):=by
  simp only [CO,yI,e1,v2,mW];rfl
 refine⟨by rw [HO,e3],by rw [HP,e3],?_⟩
 have e4:Lp.fin dR (yI n ps fs)=true:=by simp only [yI,e1];exact v1
 have e5:Lp.fin dQ (CN n ps)=true:=w1
 simp only [HQ,e4,e5,e1,h.1,Ih,allT]
 simp;omega
def Mv:aem
 | [.one ⟨true,[.val (.int .i64 a),.ref 0]⟩,.one ⟨false,[.ref 1]⟩],[.row false 2 (.int .i64) b,.row false 135 (.pair (.int .i64) (.pair (.int .i64) (.int .i64))) c]=>some ⟨.one ⟨true,[.ref 2,.ref 3]⟩,[aeq b,.row false 135 ad3 c],[aer (xS a b c 0),aer (xS a b c 1)],[isT a b&&Ul a c]⟩
 |_,_=>none
def wM:PF prog:=PF.alt Tv Mv (by
 intro args es o h ec;unfold Mv at h;split at h
 ·rename_i a b c
  cases h
  have ec:=Bq ec
  have hh:=Vg a b c ec
  obtain⟨e0,e1,en⟩:=hh
  exact yF rfl (tw en) rfl rfl (by simp only [e0,e1] <;> rfl)
 ·cases h)
def Gc(n:Int)(ps:aek)(t:Int):Int:=Int.tmod (blk (ps[t.toNat]?.getD 0) + 1) n
def Mz(n:Int)(ps a b:aek)(t:Int):Bool:=phs (ps[t.toNat]?.getD 0)!=1||(a[(Gc n ps t).toNat]?.getD 0==0&&b[(Gc n ps t).toNat]?.getD 0==0)
def NX(n:Int)(ps a b:aek)(t:Int):Bool:=Sh n ps t&&(XX n a&&XX n b)
theorem YZ{n t:Int}{ps a b:aek}(h:NX n ps a b t=true):
  (0≤t∧t < ps.length)∧(2≤n∧n≤8)∧(0≤Gc n ps t∧Gc n ps t < n)∧((a.length:Int)=n∧(b.length:Int)=n)∧
   IntKind.i64.wrap (IntKind.i64.wrap (Int.tdiv (ps[t.toNat]?.getD 0) 3) + 1)=blk (ps[t.toNat]?.getD 0) + 1∧
   (0≤a[(Gc n ps t).toNat]?.getD 0∧a[(Gc n ps t).toNat]?.getD 0≤1)∧(0≤b[(Gc n ps t).toNat]?.getD 0∧b[(Gc n ps t).toNat]?.getD 0≤1):=by
 simp only [NX,q8,KZ,XX,TC,List.all_eq_true,pa,IC]at h
 obtain⟨⟨hT,ht⟩,⟨ha,ha2⟩,hb,hb2⟩:=h
 have h1:=gt.1 hT
 have iM:t.toNat < ps.length:=by omega
 have hp:=h1.2.2 (ps[t.toNat]) (List.getElem_mem iM)
 have e0:ps[t.toNat]?.getD 0=ps[t.toNat]:=by rw [List.getElem?_eq_getElem iM];rfl
 rw [Gc,e0]
 have hb3:blk ps[t.toNat]=ps[t.toNat] / 3:=Wl hp.1
 have hb4:Int.tdiv ps[t.toNat] 3=ps[t.toNat] / 3:=Int.tdiv_eq_ediv_of_nonneg hp.1
 have hq:Int.tmod (blk ps[t.toNat] + 1) n=(ps[t.toNat] / 3 + 1) % n:=by rw [hb3,Int.tmod_eq_emod_of_nonneg (by omega)]
 have hm0:0≤(ps[t.toNat] / 3 + 1) % n:=Int.emod_nonneg _ (by omega)
 have hm1:(ps[t.toNat] / 3 + 1) % n < n:=Int.emod_lt_of_pos _ (by omega)
 rw [hq]
 have la:((ps[t.toNat] / 3 + 1) % n).toNat < a.length:=by omega
 have lb:((ps[t.toNat] / 3 + 1) % n).toNat < b.length:=by omega
 rw [List.getElem?_eq_getElem la,List.getElem?_eq_getElem lb]
 refine⟨ht,h1.1,⟨hm0,hm1⟩,⟨ha,hb⟩,?_,ha2 _ (List.getElem_mem la),hb2 _ (List.getElem_mem lb)⟩
 rw [hb4,aC (x:=ps[t.toNat] / 3) (by omega) (by omega),aC (by omega) (by omega),hb3]
theorem Xz(n t:Int)(a b ps:aek)(h:NX n ps a b t=true):mu n t a b ps=Mz n ps a b t∧mv n t a b ps=true:=by
 obtain⟨ht,hn,hx,hl,hw,ha,hb⟩:=YZ h
 have e2:iw n t ps=Gc n ps t:=by
  simp only [iw,iv,hw];rfl
 refine⟨?_,?_⟩
 ·simp only [mu,e2,eN,iv,mr,eM,Mz,phs]
  cases Int.tmod (ps[t.toNat]?.getD 0) 3 !=1 with
  |true=>rfl
  |false=>
   rw [cond_false,Bool.false_or]
   cases a[(Gc n ps t).toNat]?.getD 0==0 <;> rfl
 ·have t1:leI 0 t=true:=du ht.1
  have t2:ltI t (ps.length:Int)=true:=eV ht.2
  have t3:ltN t.toNat ps.length=true:=lR (by omega)
  have t4:neI n 0=true:=UF (by omega)
  have t4':neI (3:Int) 0=true:=UF (by omega)
  have t5:leI 0 (Gc n ps t)=true:=du hx.1
  have t6:ltI (Gc n ps t) (a.length:Int)=true:=eV (by omega)
  have t7:ltN (Gc n ps t).toNat a.length=true:=lR (by omega)
  have t8:ltI (Gc n ps t) (b.length:Int)=true:=eV (by omega)
  have t9:ltN (Gc n ps t).toNat b.length=true:=lR (by omega)
  simp only [mv,mt,e2,t1,t2,t3,t4,t4',t5,t6,t7,t8,t9,allT,cond_true,Bool.or_true]
def rW:aem
 | [.one ⟨true,[.ref 0,.ref 1]⟩,.one ⟨true,[.val (.int .i64 a),.ref 2]⟩,.one ⟨false,[.val (.int .i64 b)]⟩],[.row false 2 (.int .i64) c,.row false 2 (.int .i64) d,.row false 2 (.int .i64) e]=>some ⟨aeo (.val (.bool (Mz a e c d b))),[aeq c,aeq d,aeq e],[],[NX a e c d b]⟩
 |_,_=>none
def db:PF prog:=PF.alt AD rW (by
 intro args es o h ec;unfold rW at h;split at h
 ·rename_i a b c d e
  cases h
  have ec:=Bq ec
  have hh:=Xz a b c d e ec
  obtain⟨e0,en⟩:=hh
  exact yF rfl (tw en) (by simp only [e0] <;> rfl) rfl rfl
 ·cases h)
theorem abL(n:Int)(ps:aek)(b:Int):inR (occ (Vb n ps b:Int)) 0 1=true:=by
 rw [pa,occ];cases h:ltI (Vb n ps b:Int) 1 <;> simp at h ⊢;omega
theorem Xj(n:Int)(ps:aek)(fs:aeh)(ch:Int)(hT:isT n ps=true)(hF:Ul n fs=true):XX n (xS n ps fs ch)=true:=by
 have h2:=(gt.1 hT).1
 obtain⟨hl,hf⟩:=ZJ hF
 simp only [XX,q8,TC,Wn]
 refine⟨by omega,?_⟩
 have kn: ∀ (fs:aeh) (l:aek),(∀ f∈fs,0≤f.2.2∧f.2.2≤1)→(l.all fun v=>inR v 0 1)=true→((fs.foldl (Qz ch) l).all fun v=>inR v 0 1)=true:=by
  intro fs
  induction fs with
  |nil=>intro l _ h;exact h
  |cons f fs ih=>
   intro l hv h
   rw [List.foldl_cons]
   refine ih _ (fun g hg=>hv g (by simp [hg])) ?_
   unfold Qz
   cases f.2.1==ch with
   |false=>exact h
   |true=>
    simp only [cond_true,List.all_eq_true]at h ⊢
    intro v hm
    rcases List.mem_or_eq_of_mem_set hm with h3 | rfl
    ·exact h v h3
    ·exact pa.2 (hv f (by simp))
 refine kn fs _ (fun f hm=>(hf f hm).2.2) ?_
 simp only [QP,List.all_map,List.all_eq_true,Function.comp]
 intro b _;exact abL n ps b
def ab5(n:Int)(fs:aeh)(ps:aek)(t:Int):Bool:=Mz n ps (xS n ps fs 0) (xS n ps fs 1) t
def okL(n:Int)(fs:aeh):aek→aek→Bool
 | [],_=>true
 |t::ts,ps=>ab5 n fs ps t&&okL n fs ts (Tp n ps t)
theorem aav{n t:Int}{ps:aek}{fs:aeh}(hT:isT n ps=true)(hF:Ul n fs=true)(ht:Pl ps t=true):
  NX n ps (xS n ps fs 0) (xS n ps fs 1) t=true:=by
 simp only [NX,q8]
 exact⟨KZ.2 ⟨hT,ht⟩,Xj n ps fs 0 hT hF,Xj n ps fs 1 hT hF⟩
def fB(a b c d:Int)(e:aek):Bool:=bif b==0 then bif Pl e c then d==0 else false else bif b==1 then bif aP c 0 (z8 .i64 (a - (1:Int)))then aP d 1 3 else false else false
def fC(a:Int)(b:aek):Bool:=allT [!a==0||leN b.length (9223372036854775807:Nat)]
def pM:aem
 | [.one ⟨true,[.val (.int .i64 a),.ref 0]⟩,.one ⟨true,[.val (.int .i64 b),.val (.int .i64 c),.val (.int .i64 d)]⟩],[.row false 2 (.int .i64) e]=>some ⟨aeo (.val (.bool (fB a b c d e))),[aeq e],[],[fC b e]⟩
 |_,_=>none
def kj:PF prog:=PF.ofG prog (T3z [lX,kb]) [] bB 77 f77 func77 (fun c _=>LOk.nil c) pM (by
 intro _ _ _ h;unfold pM at h;split at h<;>cases h;kernel_rfl)
def sg(a b c d:Int)(e:aek):Bool:= !fB d a b c e
def wE(a:Int)(b:aek):Bool:=allT [fC a b]
def Df:aem
 | [.one ⟨true,[.val (.int .i64 a),.val (.int .i64 b),.val (.int .i64 c)]⟩,.one ⟨false,[.ptr 0 0]⟩],[.box 26 [.val (.int .i64 d),.ref 1],.row false 2 (.int .i64) e]=>some ⟨aeo (.val (.bool (sg a b c d e))),[.box 26 [aen d,.ref 1],aeq e],[],[wE a e]⟩
 |_,_=>none
def mc:PF prog:=PF.ofG prog (T3z [kj]) [] bB 76 f76 func76 (fun c _=>LOk.nil c) Df (by
 intro _ _ _ h;unfold Df at h;split at h<;>cases h;kernel_rfl)
abbrev aO:=Int×Int×Int×List (Int×(Int×Int))×List Int
section
variable (a b c:Int)(d:aee)(e:aek)
def aU:Int×Int×Int:=z7 d[z1 a]? ((0:Int),(0:Int),(0:Int))
def dW:Bool:=ltI a b
def dX:Bool:=leI 0 a
def dY:Bool:=ltI a (↑d.length:Int)
def dZ:Bool:=ltN a.toNat d.length
def eb:Bool:=wE ((aU a d).1) e
def gw:Bool:=sg ((aU a d).1) (((aU a d).2).1) ((aU a d).2.2) c e
def gx:Int:=z8 .i64 (a + (1:Int))
end
def xV:aO→List (Nat×SV)
 |(a,b,_,_,_)=> [(8,(aep a)),(7,(aep b)),(1,(aeo (.clo 76 [0]))),(0,(aeo (.ref 1)))]
def xU:aO→List (Nat×Entry)
 |(_,_,a,b,c)=> [(0,(.box 26 [aen a,.ref 2])),(1,(aev b)),(2,(aeq c))]
def xX:Nat→aO→List (Nat×SV)
 |0,(a,_,_,_,_)=> [(4,(aep a))]
 |_,_=>[]
def dL:aO→LT aO
 |(a,b,c,d,e)=> .ite (dW a b) (.need [dX a,dY a d,dZ a d,eb a d e] (.ite (gw a c d e) (.ext 0 [(0,0),(1,1),(2,2)]) (.nrm ((gx a),b,c,d,e) [(0,0),(1,1),(2,2)]))) (.ext 1 [(0,0),(1,1),(2,2)])
def lc(s:St):Option aO:=do
 let some ⟨none,.one ⟨false,[.val (.int .i64 a)]⟩⟩:=s.look 8|none
 let some ⟨none,.one ⟨false,[.val (.int .i64 b)]⟩⟩:=s.look 7|none
 let some ⟨none,.one ⟨false,[.clo 76 [1]]⟩⟩:=s.look 1|none
 let some ⟨none,.one ⟨false,[.ref 0]⟩⟩:=s.look 0|none
 let some (.box 26 [.val (.int .i64 c),.ref 2]):=s.ent 1|none
 let some (.row false 64 (.pair (.int .i64) (.pair (.int .i64) (.int .i64))) d):=s.ent 0|none
 let some (.row false 2 (.int .i64) e):=s.ent 2|none
 some (a,b,c,d,e)
def ag:Lp aO where
 h:=⟨[9,10,5,11,12,13,14,15,16,17,4,18,8],[0,1,2],[],[]⟩
 JL:=xV
 JE:=xU
 XL:=xX
 XE:=fun _=>xU
 q:=fun j=>match j with | 0=> .ret | _=> .exit 0
 tags:= [0,1]
 lt:=dL
 fuel:=fun(a,b,c,d,e)=>a.natAbs + b.natAbs + c.natAbs + d.length + e.length
 fix:=fun(_,b,c,d,e) (a,_,_,_,_)=>(a,b,c,d,e)
 σ:= [(0,1),(1,0),(2,2)]
 rd:=lc
theorem xc:LoopOk prog (fun k=>Nat.blt k Tryz.f87.ntmps) ag.F (bf f87 0):=by
 refine Lp.ok (tbl:= (T3z [mc])) (lf:= []) bB ag (by kernel_rfl) (LOk.nil _) (fun _=>rfl) (fun j _=>by unfold ag;match j with | 0=>rfl | _ + 1=>rfl) ?_ ?_ ?_ ?_ (fun _=>rfl) ?_
 ·intro _;kernel_rfl
 ·intro _;kernel_rfl
 ·intro s x h
  have h:lc s=some x:=h
  unfold lc at h
  repeat' split at h
  all_goals cases h
  constructor<;>repeat(first|refine aa ‹_› rfl ?_|refine ab rfl ‹_› rfl ?_|rfl)
 ·intro _;kernel_rfl
 ·intro _ _;exact(And.intro (And.intro trivial rfl) trivial)
section
variable (a:aeh)(b:Int)(c:aek)
def eW:Int×Int×Int×aeh×aek:=((0:Int),(↑a.length:Int),b,a,c)
def mo:Bool:=Nat.beq ((Lp.res ag (eW a b c)).1) 0
def mK:Int:=bif mo a b c then ((Lp.res ag (eW a b c)).2).1else(-1:Int)
def rZ:Int:=bif mo a b c then b else b
def mL:Bool:=allT [Lp.fin ag (eW a b c)]
end
def rV:aem
 | [.one ⟨false,[.ref 0]⟩,.one ⟨false,[.clo 76 [1]]⟩],[.row false 64 (.pair (.int .i64) (.pair (.int .i64) (.int .i64))) a,.box 26 [.val (.int .i64 b),.ref 2],.row false 2 (.int .i64) c]=>some ⟨aep (mK a b c),[aev a,.box 26 [aen (rZ a b c),.ref 2],aeq c],[],[mL a b c]⟩
 |_,_=>none
def mC:PF prog:=PF.ofG prog (T3z [mc]) [ag.F] bB 87 f87 func87 (LOk.fnT (l:= [bf f87 0]) (by kernel_rfl) (.cons xc (.nil _))) rV (by
 intro _ _ _ h;unfold rV at h;split at h<;>cases h;kernel_rfl)
section
variable (a:aeh)(b:Int)(c:aek)
def lL:Bool:=leI 0 (mK a b c)
def yN:Int:=rZ a b c
def lM:Bool:=allT [mL a b c]
end
def qM:aem
 | [.one ⟨false,[.ref 0]⟩,.one ⟨false,[.clo 76 [1]]⟩],[.row false 64 (.pair (.int .i64) (.pair (.int .i64) (.int .i64))) a,.box 26 [.val (.int .i64 b),.ref 2],.row false 2 (.int .i64) c]=>some ⟨aeo (.val (.bool (lL a b c))),[aev a,.box 26 [aen (yN a b c),.ref 2],aeq c],[],[lM a b c]⟩
 |_,_=>none
def lH:PF prog:=PF.ofG prog (T3z [mC]) [] bB 75 f75 func75 (fun c _=>LOk.nil c) qM (by
 intro _ _ _ h;unfold qM at h;split at h<;>cases h;kernel_rfl)
section
variable (a:Int)(b:aek)(c:aeh)
def Eu:Bool:=ltI 200 (↑c.length:Int)
def Fq:Int:=bif !isT a b then(1:Int)else bif Eu c then(3:Int)else bif lL c a b then(2:Int)else(0:Int)
def Fr:Bool:=allT [!isT a b||(Eu c||lM c a b)]
end
def Jq:aem
 | [.one ⟨true,[.val (.int .i64 a),.ref 0]⟩,.one ⟨false,[.ref 1]⟩],[.row false 2 (.int .i64) b,.row false 64 (.pair (.int .i64) (.pair (.int .i64) (.int .i64))) c]=>some ⟨aep (Fq a b c),[aeq b,aev c],[],[Fr a b c]⟩
 |_,_=>none
def Ru:PF prog:=PF.ofG prog (T3z [pd,lH]) [] bB 56 f56 func56 (fun c _=>LOk.nil c) Jq (by
 intro _ _ _ h;unfold Jq at h;split at h<;>cases h;kernel_rfl)
abbrev oq:=Int×Int×List Int×List (Int×(Int×Int))
section
variable (a b:Int)(c:aek)(d:aee)
def eZ:Int:=z7 c[z1 a]? 0
def bC:Bool:=eZ a c==3
def fa:Bool:=bif eZ a c==1 then true else bC a c
def fb:aeh:= [(a,(0:Int),(0:Int))]
def dd:Bool:=eZ a c==2
def cC:aeh:=d++fb a
def cJ:aeh:= [(a,(1:Int),(1:Int))]
def dN:aeh:=cC a d++cJ a
def bh:aeh:= [(a,(1:Int),(0:Int))]
def dO:aeh:=d++cJ a
def iV:Bool:=ltI a b
def iW:Bool:=leI 0 a
def iX:Bool:=ltI a (↑c.length:Int)
def iY:Bool:=ltN a.toNat c.length
def iZ:Bool:= !fa a c||leN (z6 d + z6 (fb a)) 9223372036854775807
def ja:Bool:= !fa a c||leN ((z6 d + z6 (fb a)) * 24) 140737488355328
def jb:Bool:=fa a c
def je:Bool:= !dd a c||leN (z6 (cC a d) + z6 (cJ a)) 9223372036854775807
def jf:Bool:= !dd a c||leN ((z6 (cC a d) + z6 (cJ a)) * 24) 140737488355328
def gH:Bool:=dd a c
def gR:Bool:= !bC a c||leN (z6 (dN a d) + z6 (bh a)) 9223372036854775807
def gS:Bool:= !bC a c||leN ((z6 (dN a d) + z6 (bh a)) * 24) 140737488355328
def dM:Bool:=bC a c
def cg:Int:=z8 .i64 (a + (1:Int))
def gT:aee:=dN a d++bh a
def gU:aee:=dN a d
def gV:Bool:= !bC a c||leN (z6 (cC a d) + z6 (bh a)) 9223372036854775807
def gW:Bool:= !bC a c||leN ((z6 (cC a d) + z6 (bh a)) * 24) 140737488355328
def gX:aee:=cC a d++bh a
def gY:aee:=cC a d
def gZ:Bool:= !dd a c||leN (z6 d + z6 (cJ a)) 9223372036854775807
def hO:Bool:= !dd a c||leN ((z6 d + z6 (cJ a)) * 24) 140737488355328
def hY:Bool:= !bC a c||leN (z6 (dO a d) + z6 (bh a)) 9223372036854775807
def hZ:Bool:= !bC a c||leN ((z6 (dO a d) + z6 (bh a)) * 24) 140737488355328
def ia:aee:=dO a d++bh a
def ib:aee:=dO a d
def ic:Bool:= !bC a c||leN (z6 d + z6 (bh a)) 9223372036854775807
def ie:Bool:= !bC a c||leN ((z6 d + z6 (bh a)) * 24) 140737488355328
def ig:aee:=d++bh a
end
def OC:oq→List (Nat×SV)
 |(a,b,_,_)=> [(8,(aep a)),(7,(aep b)),(6,(aeo (.ref 0))),(3,(aeo (.ref 1)))]
def Oo:oq→List (Nat×Entry)
 |(_,_,a,b)=> [(0,(aeq a)),(1,(.row true 135 ad3 b))]
def OZ:Nat→oq→List (Nat×SV)
 |_,(_,_,_,_)=> [(3,(aeo (.ref 1)))]
def ij:oq→LT oq
 |(a,b,c,d)=> .ite (iV a b) (.need [iW a,iX a c,iY a c] (.need [iZ a c d,ja a c d] (.ite (jb a c) (.need [je a c d,jf a c d] (.ite (gH a c) (.need [gR a c d,gS a c d] (.ite (dM a c) (.nrm ((cg a),b,c,(gT a d)) [(0,0),(1,2112)]) (.nrm ((cg a),b,c,(gU a d)) [(0,0),(1,1600)]))) (.need [gV a c d,gW a c d] (.ite (dM a c) (.nrm ((cg a),b,c,(gX a d)) [(0,0),(1,1728)]) (.nrm ((cg a),b,c,(gY a d)) [(0,0),(1,1088)]))))) (.need [gZ a c d,hO a c d] (.ite (gH a c) (.need [hY a c d,hZ a c d] (.ite (dM a c) (.nrm ((cg a),b,c,(ia a d)) [(0,0),(1,1728)]) (.nrm ((cg a),b,c,(ib a d)) [(0,0),(1,1216)]))) (.need [ic a c d,ie a c d] (.ite (dM a c) (.nrm ((cg a),b,c,(ig a d)) [(0,0),(1,1344)]) (.nrm ((cg a),b,c,d) [(0,0),(1,1)])))))))) (.ext 0 [(0,0),(1,1)])
def DE(s:St):Option oq:=do
 let some ⟨none,.one ⟨false,[.val (.int .i64 a)]⟩⟩:=s.look 8|none
 let some ⟨none,.one ⟨false,[.val (.int .i64 b)]⟩⟩:=s.look 7|none
 let some ⟨none,.one ⟨false,[.ref 0]⟩⟩:=s.look 6|none
 let some ⟨none,.one ⟨false,[.ref 192]⟩⟩:=s.look 3|none
 let some (.row false 2 (.int .i64) c):=s.ent 0|none
 let some (.row true 135 (.pair (.int .i64) (.pair (.int .i64) (.int .i64))) d):=s.ent 192|none
 some (a,b,c,d)
def bQ:Lp oq where
 h:=⟨[9,10,11,12,4,5,13,14,15,16,17,18,19,20,21,22,23,3,24,25,26,27,28,29,30,31,32,33,34,35,36,37,38,8],[0],[1],[]⟩
 JL:=OC
 JE:=Oo
 XL:=OZ
 XE:=fun _=>Oo
 q:=fun j=>match j with | _=> .exit 0
 tags:= [0]
 lt:=ij
 fuel:=fun(a,b,c,d)=>a.natAbs + b.natAbs + c.length + d.length
 fix:=fun(_,b,c,_) (a,_,_,d)=>(a,b,c,d)
 σ:= [(0,0),(1,192)]
 rd:=DE
theorem MI:LoopOk prog (fun k=>Nat.blt k Tryz.f79.ntmps) bQ.F (bf f79 0):=by
 refine Lp.ok (tbl:= []) (lf:= []) bB bQ (by kernel_rfl) (LOk.nil _) (fun _=>rfl) (fun _ _=>rfl) ?_ ?_ ?_ ?_ (fun _=>rfl) ?_
 ·intro _;kernel_rfl
 ·intro _;kernel_rfl
 ·intro s x h
  have h:DE s=some x:=h
  unfold DE at h
  repeat' split at h
  all_goals cases h
  constructor<;>repeat(first|refine aa ‹_› rfl ?_|refine ab rfl ‹_› rfl ?_|rfl)
 ·intro _;kernel_rfl
 ·intro _ _;exact(And.intro (And.intro (And.intro (And.intro rfl rfl) (And.intro rfl rfl)) (And.intro (And.intro rfl rfl) (And.intro rfl rfl))) trivial)
section
variable (a:aek)
def Gy:Int×Int×aek×aeh:=((0:Int),(↑a.length:Int),a,[])
def HM:aee:=(Lp.res bQ (Gy a)).2.2.2.2
def HN:Bool:=allT [Lp.fin bQ (Gy a)]
end
def Mj:aem
 | [.one ⟨false,[.ref 0]⟩],[.row false 2 (.int .i64) a]=>some ⟨aeo (.ref 1),[aeq a],[.row true 135 ad3 (HM a)],[HN a]⟩
 |_,_=>none
def Tu:PF prog:=PF.ofG prog [] [bQ.F] bB 79 f79 func79 (LOk.fnT (l:= [bf f79 0]) (by kernel_rfl) (.cons MI (.nil _))) Mj (by
 intro _ _ _ h;unfold Mj at h;split at h<;>cases h;kernel_rfl)
def KL(n:Int)(ps:aek)(e:Int×Int×Int):Bool:=bif e.1==0 then Pl ps e.2.1&&e.2.2==0 else bif e.1==1 then inR e.2.1 0 (n - 1)&&inR e.2.2 1 3 else false
def JH(n:Int)(ps:aek)(es:aeh):Int:=bif isT n ps then(bif leN es.length 200 then(bif es.all (KL n ps)then 0 else 2)else 3)else 1
def stF(b s:Int):aeh:=bif s==1 then [(b,0,0)]else bif s==2 then [(b,1,1)]else bif s==3 then [(b,0,0),(b,1,0)]else []
def flA:Int→aek→aeh
 |_,[]=> []
 |b,s::r=>stF b s++flA (b + 1) r
def flS(sts:aek):aeh:=flA 0 sts
theorem abi(es:aeh):ltI 200 (es.length:Int)= !leN es.length 200:=by
 cases h:leN es.length 200 with
 |true=>have:=sj.1 h;exact qW (by omega)
 |false=>have:=ZN.1 h;exact eV (by omega)
theorem VK(n k i v:Int)(ps:aek)(hT:isT n ps=true):fB n k i v ps=KL n ps (k,i,v)∧fC k ps=true:=by
 have h1:=gt.1 hT
 have hl:leN ps.length 9223372036854775807=true:=qf (by omega)
 refine⟨?_,by simp [fC,allT,hl]⟩
 simp only [fB,aP,tu,KL]
 rw [aC (x:=n - 1) (by omega) (by omega)]
 cases k==0 <;> cases k==1 <;> cases Pl ps i <;> cases inR i 0 (n - 1) <;> rfl
def cH(a:Int)(c:aek)(b:Int×(Int×Int)):(Unit)→Nat ⊕ (Unit)
 |_=>(bif(sg b.1 (b.2.1) b.2.2 a c)then(.inl 0)else(.inr ()))
def bj(a:Int)(b:aee)(c:aek)(i:Nat):(Unit)→aO
 |_=>((i:Int),(↑b.length:Int),a,b,c)
def kZ:aO→Unit
 |(_,_,_,_,_)=>()
theorem yV(c:Int)(e:aee)(f:aek) (hn:e.length≤9223372036854775807) (hT:isT c f=true):
  ag.fin ((0:Int),(↑e.length:Int),c,e,f)=true∧ag.res ((0:Int),(↑e.length:Int),c,e,f)=((eE (cH c f) 1 e 0 ()).1,(bj c e f) (eE (cH c f) 1 e 0 ()).2.1 (eE (cH c f) 1 e 0 ()).2.2):=by
 have kn:=ag.along (bj c e f) kZ (cH c f) 1 (fun _ _=>True) e () (by trivial) (by simp only [ag,bj];omega) (fun i b a hb hI=> ?_) (fun a hI=> ?_)
 ·exact kn
 ·obtain⟨⟩:=a
  have iM:=(w9.1 hb).1
  have lV: ∀ d,z7 e[i]? d=b:=fun d=>by rw [hb];rfl
  have hw:=mO iM hn
  have Cb:ltI (i:Int) (e.length:Int)=true:=eV (by omega)
  have Sb:leI (0:Int) (i:Int)=true:=du (by omega)
  have HK:ltN i e.length=true:=lR iM
  refine⟨?_,?_,?_,?_⟩
  ·have hg2:aU (i:Int) e=b:=by simp only [aU,q9];exact lV _
   have h5:=(VK c b.1 b.2.1 b.2.2 f hT).2
   simp [dW,dX,dY,dZ,eb,dL,ag,LT.nds,allT,bj,wE,hg2,Cb,Sb,HK,h5]
  ·simp [aU,dW,dX,dY,dZ,eb,gw,gx,dL,ag,LT.each,bj,kZ,hw]
  ·simp only [aU,dW,dX,dY,dZ,eb,gw,gx,dL,ag,LT.fn,bj,kZ,cH,q9,Cb,Sb,HK,lV,cond_true,w7]
  ·exact fun _ _=>trivial
 ·obtain⟨⟩:=a
  simp [aU,dW,dX,dY,dZ,eb,gw,gx,dL,ag,LT.out,bj]
theorem Xx(n:Int)(ps:aek)(es:aeh):Fq n ps es=JH n ps es∧Fr n ps es=true:=by
 simp only [Fq,Fr,Eu,abi,JH]
 cases hT:isT n ps with
 |false=>simp [allT]
 |true=>
  cases hl:leN es.length 200 with
  |false=>simp [allT]
  |true=>
   have hl':=sj.1 hl
   obtain⟨w1,w2⟩:=yV n es ps (by omega) hT
   rw [Iv (P:=fun e=> !KL n ps e) (j:=0) (fun e=>by simp only [cH,sg,(VK n e.1 e.2.1 e.2.2 ps hT).1])]at w2
   have e5:(es.any fun e=> !KL n ps e)= !es.all (KL n ps):=by simp [List.all_eq_not_any_not]
   rw [e5]at w2
   have e1:Lp.fin ag (eW es n ps)=true:=w1
   have e2:ag.res (eW es n ps)=_:=w2
   simp only [lL,lM,mK,mL,mo,e2,e1,bj]
   cases es.all (KL n ps)with
   |true=>
    have q:leI 0 (-1)=false:=rfl
    simp [allT,Nat.beq,q]
   |false=>
    simp only [Bool.not_false,cond_true,Nat.beq,allT]
    rw [du (by omega)];simp
def Jt:aem
 | [.one ⟨true,[.val (.int .i64 a),.ref 0]⟩,.one ⟨false,[.ref 1]⟩],[.row false 2 (.int .i64) b,.row false 64 (.pair (.int .i64) (.pair (.int .i64) (.int .i64))) c]=>some ⟨aep (JH a b c),[aeq b,aev c],[],[]⟩
 |_,_=>none
def tO:PF prog:=PF.alt Ru Jt (by
 intro args es o h ec;unfold Jt at h;split at h
 ·rename_i a b c
  cases h
  have hh:=Xx a b c
  obtain⟨e0,en⟩:=hh
  exact yF rfl (tw en) (by simp only [e0] <;> rfl) rfl rfl
 ·cases h)
theorem UW(b s:Int):(stF b s).length≤2:=by
 unfold stF;cases s==1 <;> cases s==2 <;> cases s==3 <;> simp
def fFl(s:Int)(a:Int×aeh):Nat ⊕ (Int×aeh):= .inr (a.1 + 1,a.2++stF a.1 s)
theorem ZF: ∀ (r:aek) (a:Int×aeh),r.foldl (fun a s=>(a.1 + 1,a.2++stF a.1 s)) a=(a.1 + r.length,a.2++flA a.1 r)
 | [],a=>by simp [flA]
 |s::r,a=>by
  rw [List.foldl_cons,ZF r]
  simp only [flA,w6,List.append_assoc,Prod.mk.injEq,and_true]
  omega
theorem abH(sts:aek)(hl:sts.length≤1000):bQ.fin ((0:Int),(sts.length:Int),sts,[])=true∧bQ.res ((0:Int),(sts.length:Int),sts,[])=(0,((sts.length:Nat):Int),(sts.length:Int),sts,flS sts):=by
 have kn:=bQ.along (fun i a=>((i:Int),(sts.length:Int),sts,a.2)) (fun x=>(x.1,x.2.2.2)) fFl 0 (fun i a=>a.1=(i:Int)∧a.2.length≤2 * i) sts ((0:Int),[]) ⟨rfl,by simp⟩ (by simp only [bQ];omega) (fun i s a hb hI=> ?_) (fun a hI=> ?_)
 ·rw [CB (f:=fFl) (g:=fun a s=>(a.1 + 1,a.2++stF a.1 s)) (fun b a=>rfl),ZF]at kn
  simpa [flS] using kn
 ·obtain⟨j,acc⟩:=a
  obtain⟨rfl,hA⟩:=hI
  simp only at hA
  have iM:=(w9.1 hb).1
  have lV: ∀ d,z7 sts[i]? d=s:=fun d=>by rw [hb];rfl
  have hw:=mO iM (by omega)
  have Cb:ltI (i:Int) (sts.length:Int)=true:=eV (by omega)
  have Sb:leI (0:Int) (i:Int)=true:=du (by omega)
  have HK:ltN i sts.length=true:=lR iM
  have hA':acc.length≤2000:=by omega
  have hs:s=1∨s=2∨s=3∨((s==1)=false∧(s==2)=false∧(s==3)=false):=by simp;omega
  refine⟨?_,?_,?_,?_⟩
  ·rcases hs with rfl | rfl | rfl | ⟨h1,h2,h3⟩
   ·simp [eZ,bC,fa,fb,dd,cC,cJ,dN,bh,dO,iV,iW,iX,iY,iZ,ja,jb,je,jf,gH,gR,gS,dM,cg,gT,gU,gV,gW,gX,gY,gZ,hO,hY,hZ,ia,ib,ic,ie,ig,ij,bQ,LT.nds,allT,Cb,Sb,HK,lV];omega
   ·simp [eZ,bC,fa,fb,dd,cC,cJ,dN,bh,dO,iV,iW,iX,iY,iZ,ja,jb,je,jf,gH,gR,gS,dM,cg,gT,gU,gV,gW,gX,gY,gZ,hO,hY,hZ,ia,ib,ic,ie,ig,ij,bQ,LT.nds,allT,Cb,Sb,HK,lV];omega
   ·simp [eZ,bC,fa,fb,dd,cC,cJ,dN,bh,dO,iV,iW,iX,iY,iZ,ja,jb,je,jf,gH,gR,gS,dM,cg,gT,gU,gV,gW,gX,gY,gZ,hO,hY,hZ,ia,ib,ic,ie,ig,ij,bQ,LT.nds,allT,Cb,Sb,HK,lV];omega
   ·simp [eZ,bC,fa,fb,dd,cC,cJ,dN,bh,dO,iV,iW,iX,iY,iZ,ja,jb,je,jf,gH,gR,gS,dM,cg,gT,gU,gV,gW,gX,gY,gZ,hO,hY,hZ,ia,ib,ic,ie,ig,ij,bQ,LT.nds,allT,Cb,Sb,HK,lV,h1,h2,h3]
  ·simp [eZ,bC,fa,fb,dd,cC,cJ,dN,bh,dO,iV,iW,iX,iY,iZ,ja,jb,je,jf,gH,gR,gS,dM,cg,gT,gU,gV,gW,gX,gY,gZ,hO,hY,hZ,ia,ib,ic,ie,ig,ij,bQ,LT.each,hw]
  ·rcases hs with rfl | rfl | rfl | ⟨h1,h2,h3⟩
   ·simp [eZ,bC,fa,fb,dd,cC,cJ,dN,bh,dO,iV,iW,iX,iY,iZ,ja,jb,je,jf,gH,gR,gS,dM,cg,gT,gU,gV,gW,gX,gY,gZ,hO,hY,hZ,ia,ib,ic,ie,ig,ij,bQ,LT.fn,Cb,hw,lV,fFl,stF]
   ·simp [eZ,bC,fa,fb,dd,cC,cJ,dN,bh,dO,iV,iW,iX,iY,iZ,ja,jb,je,jf,gH,gR,gS,dM,cg,gT,gU,gV,gW,gX,gY,gZ,hO,hY,hZ,ia,ib,ic,ie,ig,ij,bQ,LT.fn,Cb,hw,lV,fFl,stF]
   ·simp [eZ,bC,fa,fb,dd,cC,cJ,dN,bh,dO,iV,iW,iX,iY,iZ,ja,jb,je,jf,gH,gR,gS,dM,cg,gT,gU,gV,gW,gX,gY,gZ,hO,hY,hZ,ia,ib,ic,ie,ig,ij,bQ,LT.fn,Cb,hw,lV,fFl,stF]
   ·simp [eZ,bC,fa,fb,dd,cC,cJ,dN,bh,dO,iV,iW,iX,iY,iZ,ja,jb,je,jf,gH,gR,gS,dM,cg,gT,gU,gV,gW,gX,gY,gZ,hO,hY,hZ,ia,ib,ic,ie,ig,ij,bQ,LT.fn,Cb,hw,lV,fFl,stF,h1,h2,h3]
  ·intro a' hf
   simp only [fFl,Sum.inr.injEq]at hf
   subst hf
   have h2:=UW (i:Int) s
   refine⟨by simp,?_⟩
   simp only [w5];omega
 ·obtain⟨j,acc⟩:=a
  simp [eZ,bC,fa,fb,dd,cC,cJ,dN,bh,dO,iV,iW,iX,iY,iZ,ja,jb,je,jf,gH,gR,gS,dM,cg,gT,gU,gV,gW,gX,gY,gZ,hO,hY,hZ,ia,ib,ic,ie,ig,ij,bQ,LT.out]
theorem aak(sts:aek)(h:leN sts.length 1000=true):HM sts=flS sts∧HN sts=true:=by
 obtain⟨w1,w2⟩:=abH sts (sj.1 h)
 simp only [HM,HN,Gy,w1,w2,allT,cond_true,and_self]
def Mu:aem
 | [.one ⟨false,[.ref 0]⟩],[.row false 2 (.int .i64) a]=>some ⟨aeo (.ref 1),[aeq a],[.row true 135 ad3 (flS a)],[leN a.length 1000]⟩
 |_,_=>none
def wL:PF prog:=PF.alt Tu Mu (by
 intro args es o h ec;unfold Mu at h;split at h
 ·rename_i a
  cases h
  have ec:=Bq ec
  have hh:=aak a ec
  obtain⟨e0,en⟩:=hh
  exact yF rfl (tw en) rfl rfl (by simp only [e0] <;> rfl)
 ·cases h)
theorem aa5(n:Int): ∀ (sts:aek) (b:Int),0≤b→b + sts.length≤n→(flA b sts).length≤2 * sts.length∧ ∀ f∈flA b sts,fV n f=true
 | [],b,_,_=>by simp [flA]
 |s::r,b,h0,h1=>by
  simp only [w6]at h1
  obtain⟨a1,a2⟩:=aa5 n r (b + 1) (by omega) (by omega)
  have h2:=UW b s
  refine⟨by simp only [flA,w5,w6];omega,fun f hf=> ?_⟩
  simp only [flA,List.mem_append]at hf
  rcases hf with hf | hf
  ·have hb0:leI 0 b=true:=du h0
   have hb1:ltI b n=true:=eV (by omega)
   simp only [stF]at hf
   have q:inR 0 0 1=true:=by decide
   have q1:inR 1 0 1=true:=by decide
   cases h1:s==1 <;> cases h2:s==2 <;> cases h3:s==3 <;> rw [h1]at hf <;> (try rw [h2]at hf) <;> (try rw [h3]at hf) <;> simp at hf <;> (try rcases hf with rfl | rfl) <;> simp [fV,hb0,hb1,q,q1]
  ·exact a2 f hf
theorem acH{n:Int}{sts:aek}(hn:n≤8)(h:(sts.length:Int)≤n):Ul n (flS sts)=true:=by
 obtain⟨a1,a2⟩:=aa5 n sts 0 (by omega) (by omega)
 simp only [Ul,q8,sj,List.all_eq_true]
 exact⟨by show (flA 0 sts).length≤1000;omega,a2⟩
section
variable (a b c d:Int)(e f:aek)
def va:Bool:= !Mz d f (xS d f (flS e) 0) (xS d f (flS e) 1) b
def qx:Bool:=z7 e[z1 b]? 0!=bif c==3 then(1:Int)else(0:Int)
def QZ:Bool:=bif a==0 then bif va b d e f then false else true else bif qx b c e then false else true
def Ra:Int:=bif a==0 then bif va b d e f then d else d else bif qx b c e then d else d
def Rb:aek:=bif a==0 then bif va b d e f then e else e else bif qx b c e then e else List.set e b.toNat c
def Rc:aek:=bif a==0 then bif va b d e f then f else Tp d f b else bif qx b c e then f else f
def Rd:Bool:=allT [!a==0||leN e.length (1000:Nat),!a==0||isT d f&&Ul d (flS e),!a==0||NX d f (xS d f (flS e) 0) (xS d f (flS e) 1) b,!a==0||(va b d e f||Sh d f b),a==0||leI 0 b,a==0||ltI b (↑e.length:Int),a==0||ltN b.toNat e.length,a==0||(qx b c e||leI 0 b),a==0||(qx b c e||ltI b (↑e.length:Int)),a==0||(qx b c e||ltN b.toNat e.length)]
end
def Jr:aem
 | [.one ⟨false,[.ptr 0 0]⟩,.one ⟨false,[.ref 1]⟩,.one ⟨true,[.val (.int .i64 a),.val (.int .i64 b),.val (.int .i64 c)]⟩],[.box 26 [.val (.int .i64 d),.ref 2],.row true 2 (.int .i64) e,.row true 2 (.int .i64) f]=>some ⟨aeo (.val (.bool (QZ a b c d e f))),[.box 26 [aen (Ra a b c d e f),.ref 3],aer (Rb a b c d e f),.gone],[aer (Rc a b c d e f)],[Rd a b c d e f]⟩
 |_,_=>none
def tP:PF prog:=PF.ofG prog (T3z [wM,db,wL,dm]) [] bB 58 f58 func58 (fun c _=>LOk.nil c) Jr (by
 intro _ _ _ h;unfold Jr at h;split at h<;>cases h;kernel_rfl)
section
variable (a b c d:Int)(e f:aek)
def mP:Bool:= !Mz d f (xS d f (flS e) 0) (xS d f (flS e) 1) b
def iC:Bool:=z7 e[z1 b]? 0!=bif c==3 then(1:Int)else(0:Int)
def qQ:Bool:=bif a==0 then bif mP b d e f then false else true else bif iC b c e then false else true
def qR:Int:=bif a==0 then bif mP b d e f then d else d else bif iC b c e then d else d
def qS:aek:=bif a==0 then bif mP b d e f then e else e else bif iC b c e then e else List.set e b.toNat c
def qT:aek:=bif a==0 then bif mP b d e f then f else Tp d f b else bif iC b c e then f else f
def qU:Bool:=allT [!a==0||leN e.length (1000:Nat),!a==0||isT d f&&Ul d (flS e),!a==0||NX d f (xS d f (flS e) 0) (xS d f (flS e) 1) b,!a==0||(mP b d e f||Sh d f b),a==0||leI 0 b,a==0||ltI b (↑e.length:Int),a==0||ltN b.toNat e.length,a==0||(iC b c e||leI 0 b),a==0||(iC b c e||ltI b (↑e.length:Int)),a==0||(iC b c e||ltN b.toNat e.length)]
end
def EW:aem
 | [.one ⟨false,[.ptr 0 0]⟩,.one ⟨false,[.ref 1]⟩,.one ⟨true,[.val (.int .i64 a),.val (.int .i64 b),.val (.int .i64 c)]⟩],[.box 26 [.val (.int .i64 d),.ref 2],.row true 2 (.int .i64) e,.row false 2 (.int .i64) f]=>some ⟨aeo (.val (.bool (qQ a b c d e f))),[.box 26 [aen (qR a b c d e f),.ref 3],aer (qS a b c d e f),aeq f],[aeq (qT a b c d e f)],[qU a b c d e f]⟩
 |_,_=>none
def om:PF prog:=PF.ofG prog (T3z [wM,db,wL,dm]) [] bB 58 f58 func58 (fun c _=>LOk.nil c) EW (by
 intro _ _ _ h;unfold EW at h;split at h<;>cases h;kernel_rfl)
abbrev qN:=Int×Int×List (Int×(Int×Int))×List Int×Int×List (Int×(List Int))×List Int
section
variable (a b:Int)(c:aee)(d:aek)(e:Int)(f:List (Int×(aek)))(g:aek)
def dg:Int×Int×Int:=z7 c[z1 a]? ((0:Int),(0:Int),(0:Int))
def Bx:Int:=qR ((dg a c).1) (((dg a c).2).1) ((dg a c).2.2) e d g
def Ft:aek:=qT ((dg a c).1) (((dg a c).2).1) ((dg a c).2.2) e d g
def wZ:aef:= [(Bx a c d e g,Ft a c d e g)]
def CM:Bool:=ltI a b
def KP:Bool:=leI 0 a
def KQ:Bool:=ltI a (↑c.length:Int)
def KR:Bool:=ltN a.toNat c.length
def KS:Bool:=qU ((dg a c).1) (((dg a c).2).1) ((dg a c).2.2) e d g
def Gz:Bool:= !qQ ((dg a c).1) (((dg a c).2).1) ((dg a c).2.2) e d g
def GA:aek:=qS ((dg a c).1) (((dg a c).2).1) ((dg a c).2.2) e d g
def GB:Int:=Bx a c d e g
def GC:aek:=Ft a c d e g
def KT:Bool:=leN (z6 f + z6 (wZ a c d e g)) 9223372036854775807
def JA:Bool:=leN ((z6 f + z6 (wZ a c d e g)) * 32) 140737488355328
def JB:Int:=z8 .i64 (a + (1:Int))
def JC:List (Int×(aek)):=f++wZ a c d e g
end
def QK:qN→List (Nat×SV)
 |(a,b,_,_,_,_,_)=> [(27,(aep a)),(26,(aep b)),(25,(aeo (.ref 0))),(9,(aeo (.ref 1))),(2,(aeo (.ptr 2 0))),(8,(aeo (.ref 3)))]
def QJ:qN→List (Nat×Entry)
 |(_,_,a,b,c,d,e)=> [(0,(aev a)),(1,(aer b)),(2,(.box 26 [aen c,.ref 4])),(3,(aeD d)),(4,(aeq e))]
def QM:Nat→qN→List (Nat×SV)
 |0,(_,_,_,_,_,_,_)=> [(4,(aeo (.ref 5))),(5,(aeo (.ref 6))),(6,(aep 5))]
 |_,(_,_,_,_,_,_,_)=> [(8,(aeo (.ref 3)))]
def QL:Nat→qN→List (Nat×Entry)
 |0,(a,_,b,c,d,e,f)=> [(0,(aev b)),(1,(aer (GA a b c d f))),(2,(.box 26 [aen (GB a b c d f),.ref 7])),(3,(aeD e)),(4,(aeq f)),(5,(aeD [])),(6,(aer [])),(7,(aeq (GC a b c d f)))]
 |_,(_,_,b,c,d,e,f)=> [(0,(aev b)),(1,(aer c)),(2,(.box 26 [aen d,.ref 4])),(3,(aeD e)),(4,(aeq f))]
def xf:qN→LT qN
 |(a,b,c,d,e,f,g)=> .ite (CM a b) (.need [KP a,KQ a c,KR a c] (.need [KS a c d e g] (.ite (Gz a c d e g) (.ext 0 [(0,0),(1,1),(2,2),(3,3),(4,4),(5,640),(6,704),(7,512)]) (.need [KT a c d e f g,JA a c d e f g] (.nrm ((JB a),b,c,GA a c d e g,GB a c d e g,JC a c d e f g,(GC a c d e g)) [(0,0),(1,1),(2,2),(3,832),(4,512)]))))) (.ext 1 [(0,0),(1,1),(2,2),(3,3),(4,4)])
def FB(s:St):Option qN:=do
 let some ⟨none,.one ⟨false,[.val (.int .i64 a)]⟩⟩:=s.look 27|none
 let some ⟨none,.one ⟨false,[.val (.int .i64 b)]⟩⟩:=s.look 26|none
 let some ⟨none,.one ⟨false,[.ref 1]⟩⟩:=s.look 25|none
 let some ⟨none,.one ⟨false,[.ref 1344]⟩⟩:=s.look 9|none
 let some ⟨none,.one ⟨false,[.ptr 192 0]⟩⟩:=s.look 2|none
 let some ⟨none,.one ⟨false,[.ref 1088]⟩⟩:=s.look 8|none
 let some (.row false 64 (.pair (.int .i64) (.pair (.int .i64) (.int .i64))) c):=s.ent 1|none
 let some (.row true 2 (.int .i64) d):=s.ent 1344|none
 let some (.box 26 [.val (.int .i64 e),.ref 896]):=s.ent 192|none
 let some (.row true 26 (.pair (.int .i64) (.sl 2 (.int .i64))) f):=s.ent 1088|none
 let some (.row false 2 (.int .i64) g):=s.ent 896|none
 some (a,b,c,d,e,f,g)
def dh:Lp qN where
 h:=⟨[28,29,30,11,31,32,33,34,4,5,6,35,36,37,38,8,39,27],[0,1,2],[3,4],[5,6,7]⟩
 JL:=QK
 JE:=QJ
 XL:=QM
 XE:=QL
 q:=fun j=>match j with | 0=> .ret | _=> .exit 0
 tags:= [0,1]
 lt:=xf
 fuel:=fun(a,b,c,d,e,f,g)=>a.natAbs + b.natAbs + c.length + d.length + e.natAbs + f.length + g.length
 fix:=fun(_,b,c,_,_,_,_) (a,_,_,d,e,f,g)=>(a,b,c,d,e,f,g)
 σ:= [(0,1),(1,1344),(2,192),(3,1088),(4,896)]
 rd:=FB
theorem Pn:LoopOk prog (fun k=>Nat.blt k Tryz.f33.ntmps) dh.F (bf f33 0):=by
 refine Lp.ok (tbl:= (T3z [tO,tP,bk,om])) (lf:= []) bB dh (by kernel_rfl) (LOk.nil _) (fun _=>rfl) (fun j _=>by unfold dh;match j with | 0=>rfl | _ + 1=>rfl) ?_ ?_ ?_ ?_ (fun _=>rfl) ?_
 ·intro _;kernel_rfl
 ·intro _;kernel_rfl
 ·intro s x h
  have h:FB s=some x:=h
  unfold FB at h
  repeat' split at h
  all_goals cases h
  constructor<;>repeat(first|refine aa ‹_› rfl ?_|refine ab rfl ‹_› rfl ?_|rfl)
 ·intro _;kernel_rfl
 ·intro _ _;exact(And.intro (And.intro trivial rfl) trivial)
section
variable (a:Int)(b:aek)(c:aeh)
def ql:Bool:=JH a b c !=0
def Cj:Int×Int×aeh×aek×Int×aef×aek:=((0:Int),(↑c.length:Int),c,j6 a.toNat (0:Int),a,[(a,b)],b)
def Fs:Bool:=Nat.beq ((Lp.res dh (Cj a b c)).1) 0
def IE:aek×Int×aef×aek:=(Lp.res dh (Cj a b c)).2.2.2.2
def Kh:Int:=bif ql a b c then JH a b c else bif Fs a b c then(5:Int)else(0:Int)
def Ki:List (Int×(aek)):=bif ql a b c then []else bif Fs a b c then []else ((IE a b c).2.2).1
def Kj:aek:=bif ql a b c then []else bif Fs a b c then []else (IE a b c).1
def Kk:Bool:=allT [ql a b c||dj b,ql a b c||leI 0 a,ql a b c||leI a a,ql a b c||leI ((↑(8:Nat):Int) * a) 281474976710656,ql a b c||leI a 9223372036854775807,ql a b c||Lp.fin dh (Cj a b c)]
end
def Pw:aem
 | [.one ⟨true,[.val (.int .i64 a),.ref 0]⟩,.one ⟨false,[.ref 1]⟩],[.row false 2 (.int .i64) b,.row false 64 (.pair (.int .i64) (.pair (.int .i64) (.int .i64))) c]=>some ⟨.tup [⟨false,[.ref 2]⟩,⟨false,[.ref 3]⟩,⟨false,[aen (Kh a b c)]⟩],[aeq b,aev c],[aeD (Ki a b c),aer (Kj a b c)],[Kk a b c]⟩
 |_,_=>none
def Vm:PF prog:=PF.ofG prog (T3z [tO,tP,bk,om]) [dh.F] bB 33 f33 func33 (LOk.fnT (l:= [bf f33 0]) (by kernel_rfl) (.cons Pn (.nil _))) Pw (by
 intro _ _ _ h;unfold Pw at h;split at h<;>cases h;kernel_rfl)
def rvB(n:Int)(s:aek×aek)(e:Int×Int×Int):Bool:=bif e.1==0 then ab5 n (flS s.2) s.1 e.2.1 else(s.2[e.2.1.toNat]?.getD 0)==(bif e.2.2==3 then 1 else 0)
def rvN(n:Int)(s:aek×aek)(e:Int×Int×Int):aek×aek:=bif e.1==0 then(Tp n s.1 e.2.1,s.2)else(s.1,s.2.set e.2.1.toNat e.2.2)
def SB(n:Int):aeh→aek×aek→Bool
 | [],_=>true
 |e::r,s=>rvB n s e&&SB n r (rvN n s e)
def Vo(n:Int):aeh→aek×aek→aei
 | [],s=> [s.1]
 |e::r,s=>s.1::Vo n r (rvN n s e)
def UU(n:Int)(es:aeh)(s:aek×aek):aek×aek:=es.foldl (rvN n) s
def rv0(n:Int)(ps:aek):aek×aek:=(ps,j6 n.toNat 0)
def FC(n:Int)(ps:aek)(es:aeh):Int:=bif eqI (JH n ps es) 0 then(bif SB n es (rv0 n ps)then 0 else 5)else JH n ps es
def HR(n:Int)(ps:aek)(es:aeh):Bool:=eqI (FC n ps es) 0
def aay(n:Int)(ps:aek)(es:aeh):Int:=bif HR n ps es then n else 0
def rvP(n:Int)(ps:aek)(es:aeh):aek:=bif HR n ps es then(UU n es (rv0 n ps)).1 else []
def rvS(n:Int)(ps:aek)(es:aeh):aek:=bif HR n ps es then(UU n es (rv0 n ps)).2 else []
def rvL(n:Int)(ps:aek)(es:aeh):aef:=bif HR n ps es then(Vo n es (rv0 n ps)).map fun p=>(n,p)else []
theorem YG{n:Int}{ps:aek}{k i v:Int}(h:KL n ps (k,i,v)=true):(k=0∧Pl ps i=true∧v=0)∨(k=1∧(0≤i∧i≤n - 1)∧(1≤v∧v≤3)):=by
 simp only [KL]at h
 cases h0:k==0 with
 |true=>
  rw [h0]at h
  simp only [cond_true,q8,beq_iff_eq]at h
  exact .inl ⟨by simpa using h0,h.1,h.2⟩
 |false=>
  rw [h0]at h
  cases h1:k==1 with
  |true=>
   rw [h1]at h
   simp only [cond_true,cond_false,q8,pa]at h
   exact .inr ⟨by simpa using h1,h.1,h.2⟩
  |false=>rw [h1]at h;simp at h
theorem abv{n:Int}{ps:aek}{es:aeh}(h:eqI (JH n ps es) 0=true):isT n ps=true∧es.length≤200∧ ∀ e∈es,KL n ps e=true:=by
 simp only [JH]at h
 cases hT:isT n ps with
 |false=>rw [hT]at h;simp [eqI]at h
 |true=>
  cases hl:leN es.length 200 with
  |false=>rw [hT,hl]at h;simp [eqI]at h
  |true=>
   cases ha:es.all (KL n ps)with
   |false=>rw [hT,hl,ha]at h;simp [eqI]at h
   |true=>exact⟨rfl,sj.1 hl,List.all_eq_true.1 ha⟩
theorem aa8{ps qs:aek}{t:Int}(h:Pl ps t=true)(hl:qs.length=ps.length):Pl qs t=true:=by
 have:=IC.1 h;exact IC.2 (by omega)
theorem acQ(n k t v:Int)(ps sts:aek)(h:k=0∨k=1):
  qQ k t v n sts ps=rvB n (ps,sts) (k,t,v)∧qR k t v n sts ps=n∧
  (rvB n (ps,sts) (k,t,v)=true→qS k t v n sts ps=(rvN n (ps,sts) (k,t,v)).2∧qT k t v n sts ps=(rvN n (ps,sts) (k,t,v)).1):=by
 rcases h with rfl | rfl
 ·simp only [qQ,qR,qS,qT,mP,rvB,rvN,ab5,beq_self_eq_true,cond_true]
  cases Mz n ps (xS n ps (flS sts) 0) (xS n ps (flS sts) 1) t <;> simp
 ·simp only [qQ,qR,qS,qT,iC,rvB,rvN,Int.reduceBEq,cond_false,bne]
  cases (sts[t.toNat]?.getD 0==bif v==3 then(1:Int)else 0) <;> simp
def fI(n:Int)(e:Int×Int×Int)(a:aef×aek×aek):Nat ⊕ (aef×aek×aek):=bif rvB n a.2 e then .inr (a.1++ [(n,(rvN n a.2 e).1)],rvN n a.2 e)else .inl 0
theorem abI(n:Int)(ps:aek)(es:aeh)(sts:aek)(hT:isT n ps=true)(hl:es.length≤200)(he: ∀ e∈es,KL n ps e=true)(hs:(sts.length:Int)=n)(l0:aef)(h0:l0.length=1):
  dh.fin ((0:Int),(es.length:Int),es,sts,n,l0,ps)=true∧dh.res ((0:Int),(es.length:Int),es,sts,n,l0,ps)=
   ((eE (fI n) 1 es 0 (l0,ps,sts)).1,(((eE (fI n) 1 es 0 (l0,ps,sts)).2.1:Int),(es.length:Int),es,(eE (fI n) 1 es 0 (l0,ps,sts)).2.2.2.2,n,(eE (fI n) 1 es 0 (l0,ps,sts)).2.2.1,(eE (fI n) 1 es 0 (l0,ps,sts)).2.2.2.1)):=by
 have kn:=dh.along (fun i a=>((i:Int),(es.length:Int),es,a.2.2,n,a.1,a.2.1)) (fun x=>(x.2.2.2.2.2.1,x.2.2.2.2.2.2,x.2.2.2.1)) (fI n) 1 (fun i a=>a.1.length=i + 1∧isT n a.2.1=true∧a.2.1.length=ps.length∧(a.2.2.length:Int)=n) es (l0,ps,sts) ⟨h0,hT,rfl,hs⟩ (by simp only [dh];omega) (fun i t a hb hI=> ?_) (fun a hI=> ?_)
 ·exact kn
 ·obtain⟨l,qs,ss⟩:=a
  obtain⟨hL,hQ,hq,hS⟩:=hI
  simp only at hL hQ hq hS
  have hn8:=(gt.1 hQ).1
  have iM:=(w9.1 hb).1
  have lV: ∀ d,z7 es[i]? d=t:=fun d=>by rw [hb];rfl
  have hg2:dg (i:Int) es=t:=by simp only [dg,q9];exact lV _
  have hw:=mO iM (by omega)
  have Cb:ltI (i:Int) (es.length:Int)=true:=eV (by omega)
  have Sb:leI (0:Int) (i:Int)=true:=du (by omega)
  have HK:ltN i es.length=true:=lR iM
  have hF:Ul n (flS ss)=true:=acH (by omega) (by omega)
  have hsl:leN ss.length 1000=true:=qf (by omega)
  have m1:leN (l.length + 1) 9223372036854775807=true:=qf (by omega)
  have m2:leN ((l.length + 1) * 32) 140737488355328=true:=qf (by omega)
  obtain⟨k,t,v⟩:=t
  have YM:=YG (he _ (List.mem_of_getElem? hb))
  obtain⟨c0,c1,c2⟩:=acQ n k t v qs ss (YM.imp (fun h=>h.1) (fun h=>h.1))
  have ec:qU k t v n ss qs=true:=by
   rcases YM with⟨rfl,ht,rfl⟩ | ⟨rfl,ht,hv⟩
   ·have hh:=aa8 ht hq
    have hp:=aav (fs:=flS ss) hQ hF hh
    have hm:Sh n qs t=true:=KZ.2 ⟨hQ,hh⟩
    simp [qU,allT,hsl,hQ,hF,hp,hm]
   ·have t1:leI 0 t=true:=du ht.1
    have t2:ltI t (ss.length:Int)=true:=eV (by omega)
    have t3:ltN t.toNat ss.length=true:=lR (by omega)
    simp [qU,allT,t1,t2,t3]
  refine⟨?_,?_,?_,?_⟩
  ·simp only [CM,KP,KQ,KR,KS,KT,JA,wZ,dh,xf,LT.nds,allT,List.length_singleton,q9,Cb,Sb,HK,hg2,ec,m1,m2,cond_true,w7]
  ·simp only [dh,xf,LT.each,Gz,GB,Bx,JB,hg2,c1,hw,and_self,implies_true,and_true,true_and]
  ·simp only [dh,xf,LT.fn,CM,Gz,GA,GC,JC,Bx,Ft,wZ,hg2,c0,c1,Cb,cond_true,fI]
   cases hk:rvB n (qs,ss) (k,t,v)with
   |false=>rfl
   |true=>
    obtain⟨d1,d2⟩:=c2 hk
    simp only [Bool.not_true,cond_false,cond_true,d1,d2]
  ·intro a' hf
   simp only [fI]at hf
   cases hk:rvB n (qs,ss) (k,t,v) <;> rw [hk]at hf <;> simp at hf
   subst hf
   rcases YM with⟨rfl,ht,rfl⟩ | ⟨rfl,ht,hv⟩
   ·exact⟨by simp [hL],ZL hQ t,by simp only [rvN,beq_self_eq_true,cond_true,Ta];exact hq,hS⟩
   ·exact⟨by simp [hL],hQ,hq,by simp only [rvN,Int.reduceBEq,cond_false,List.length_set];exact hS⟩
 ·obtain⟨l,qs,ss⟩:=a
  simp [CM,dh,xf,LT.out]
theorem ZY(n:Int): ∀ (es:aeh) (s:aek×aek) (i:Nat) (l:aef),
  ∃ m a,eE (fI n) 1 es i (l++ [(n,s.1)],s)=(bif SB n es s then 1 else 0,m,a)∧(SB n es s=true→a.1=l++(Vo n es s).map (fun p=>(n,p))∧a.2=UU n es s)
 | [],s,i,l=>⟨i,(l++ [(n,s.1)],s),rfl,fun _=>⟨rfl,rfl⟩⟩
 |e::es,s,i,l=>by
  cases hk:rvB n s e with
  |false=>exact⟨i,(l++ [(n,s.1)],s),by simp only [eE,fI,hk,SB,Bool.false_and,cond_false],fun h=>by simp [SB,hk]at h⟩
  |true=>
   obtain⟨m,a,e1,h⟩:=ZY n es (rvN n s e) (i + 1) (l++ [(n,s.1)])
   refine⟨m,a,?_,?_⟩
   ·simp only [eE,fI,hk,SB,Bool.true_and,cond_true];exact e1
   ·intro gr
    simp only [SB,hk,Bool.true_and]at gr
    obtain⟨h1,h2⟩:=h gr
    exact⟨by rw [h1];simp [Vo],h2⟩
theorem aal(n:Int)(ps:aek)(es:aeh):
  Kh n ps es=FC n ps es∧Ki n ps es=rvL n ps es∧Kj n ps es=rvS n ps es∧Kk n ps es=true:=by
 simp only [Kh,Ki,Kj,Kk,ql,rvL,rvS,HR,FC]
 cases hp:eqI (JH n ps es) 0 with
 |false=>
  have h1:(JH n ps es !=0)=true:=by simpa using Ws.1 hp
  simp [h1,hp,allT]
 |true=>
  have h1:(JH n ps es !=0)=false:=by simpa using TC.1 hp
  obtain⟨hT,hl,he⟩:=abv hp
  have hn:=gt.1 hT
  have hr:((j6 n.toNat (0:Int)).length:Int)=n:=by rw [w8];omega
  obtain⟨v1,v2⟩:=abI n ps es (j6 n.toNat 0) hT hl he hr [(n,ps)] rfl
  obtain⟨m,a,e,h2⟩:=ZY n es (rv0 n ps) 0 []
  simp only [rv0,List.nil_append]at e
  rw [e]at v2
  have g1:Lp.fin dh (Cj n ps es)=true:=v1
  have g2:dh.res (Cj n ps es)=_:=v2
  have e4:dj ps=true:=by
   simp [dj,allT];omega
  have l2:leI 0 n=true:=du (by omega)
  have l3:leI ((8:Nat) * n) 281474976710656=true:=du (by omega)
  have l4:leI n 9223372036854775807=true:=du (by omega)
  have l5:leI n n=true:=du (by omega)
  simp only [Fs,IE,g2,h1,g1,e4,l2,l3,l4,l5,allT]
  change _∧_∧_∧_
  cases hk:SB n es (rv0 n ps)with
  |false=>
   have hk':SB n es (ps,j6 n.toNat 0)=false:=hk
   simp [hk',Nat.beq,eqI]
  |true=>
   have hk':SB n es (ps,j6 n.toNat 0)=true:=hk
   obtain⟨h5,h6⟩:=h2 hk
   rw [List.nil_append]at h5
   simp [hk',Nat.beq,eqI,h5,h6]
def Pz:aem
 | [.one ⟨true,[.val (.int .i64 a),.ref 0]⟩,.one ⟨false,[.ref 1]⟩],[.row false 2 (.int .i64) b,.row false 64 (.pair (.int .i64) (.pair (.int .i64) (.int .i64))) c]=>some ⟨.tup [⟨false,[.ref 2]⟩,⟨false,[.ref 3]⟩,⟨false,[aen (FC a b c)]⟩],[aeq b,aev c],[aeD (rvL a b c),aer (rvS a b c)],[]⟩
 |_,_=>none
def Kq:PF prog:=PF.alt Vm Pz (by
 intro args es o h ec;unfold Pz at h;split at h
 ·rename_i a b c
  cases h
  have hh:=aal a b c
  obtain⟨e0,e1,e2,en⟩:=hh
  exact yF rfl (tw en) (by simp only [e0] <;> rfl) rfl (by simp only [e1,e2] <;> rfl)
 ·cases h)
def pP(a:aek):Bool:=ltI 4096 (↑a.length:Int)
def TM:aem
 | [.one ⟨false,[.ref 0]⟩],[.row false 5 (.int .u8) a]=>some ⟨aeo (.val (.bool (pP a))),[aet a],[],[]⟩
 |_,_=>none
def Qv:PF prog:=PF.ofG prog [] [] bB 4 f4 func4 (fun c _=>LOk.nil c) TM (by
 intro _ _ _ h;unfold TM at h;split at h<;>cases h;kernel_rfl)
def Du(a b:Int)(c d:aek):Bool:=bif a==b then eqL c d else false
def Dv(a b:Int)(c:aek):Bool:=allT [!(a==b&&true)||leN c.length (9223372036854775807:Nat)]
def HX:aem
 | [.one ⟨true,[.val (.int .i64 a),.ref 0]⟩,.one ⟨true,[.val (.int .i64 b),.ref 1]⟩],[.row false 2 (.int .i64) c,.row false 2 (.int .i64) d]=>some ⟨aeo (.val (.bool (Du a b c d))),[aeq c,aeq d],[],[Dv a b c]⟩
 |_,_=>none
def Pr:PF prog:=PF.ofG prog (T3z [wN]) [] bB 13 f13 func13 (fun c _=>LOk.nil c) HX (by
 intro _ _ _ h;unfold HX at h;split at h<;>cases h;kernel_rfl)
section
variable (a:Int)(b:aek)(c:aeh)
def qd:Bool:=FC a b c !=0
def Fp:Int×aek:=z7 (rvL a b c)[z1 (↑c.length:Int)]? (tC ad5)
def Gt:Int:=bif qd a b c then(0:Int)else (Fp a b c).1
def Gu:Int:=bif qd a b c then FC a b c else(0:Int)
def Gv:aek:=bif qd a b c then []else (Fp a b c).2
def Gw:aek:=bif qd a b c then []else rvS a b c
def Gx:Bool:=allT [qd a b c||leI 0 (↑c.length:Int),qd a b c||ltI (↑c.length:Int) (↑(z6 (rvL a b c)):Int),qd a b c||ltN (z1 (↑c.length:Int)) (z6 (rvL a b c))]
end
def Kz:aem
 | [.one ⟨true,[.val (.int .i64 a),.ref 0]⟩,.one ⟨false,[.ref 1]⟩],[.row false 2 (.int .i64) b,.row false 64 (.pair (.int .i64) (.pair (.int .i64) (.int .i64))) c]=>some ⟨.tup [⟨true,[aen (Gt a b c),.ref 2]⟩,⟨false,[.ref 3]⟩,⟨false,[aen (Gu a b c)]⟩],[aeq b,aev c],[aeq (Gv a b c),aeq (Gw a b c)],[Gx a b c]⟩
 |_,_=>none
def Sq:PF prog:=PF.ofG prog (T3z [Kq]) [] bB 11 f11 func11 (fun c _=>LOk.nil c) Kz (by
 intro _ _ _ h;unfold Kz at h;split at h<;>cases h;kernel_rfl)
theorem Th(n:Int): ∀ (es:aeh) (s:aek×aek),(Vo n es s).length=es.length + 1
 | [],s=>rfl
 |e::es,s=>by simp [Vo,Th n es]
theorem Wc(n:Int): ∀ (es:aeh) (s:aek×aek),(Vo n es s)[es.length]? =some (UU n es s).1
 | [],s=>rfl
 |e::es,s=>by simp only [Vo,w6,List.getElem?_cons_succ];exact Wc n es _
theorem WB(n:Int)(ps:aek)(es:aeh):Gt n ps es=aay n ps es∧Gu n ps es=FC n ps es∧Gv n ps es=rvP n ps es∧Gw n ps es=rvS n ps es∧Gx n ps es=true:=by
 simp only [Gt,Gu,Gv,Gw,Gx,qd,Fp]
 cases hg:HR n ps es with
 |false=>
  have h1:(FC n ps es !=0)=true:=by simp only [HR]at hg;simpa using Ws.1 hg
  simp [h1,aay,rvP,rvS,hg,allT]
 |true=>
  have h1:(FC n ps es !=0)=false:=by simp only [HR]at hg;simpa using TC.1 hg
  have h0:FC n ps es=0:=by simpa using h1
  have h2:=Th n es (rv0 n ps)
  have h3:=Wc n es (rv0 n ps)
  have l1:leI 0 (es.length:Int)=true:=du (by omega)
  have l2:ltI (es.length:Int) (((Vo n es (rv0 n ps)).length:Nat):Int)=true:=eV (by omega)
  have l3:ltN es.length (Vo n es (rv0 n ps)).length=true:=lR (by omega)
  simp [h1,h0,aay,rvP,rvS,rvL,hg,allT,h3,l1,l2,l3]
  try exact⟨rfl,rfl⟩
def KH:aem
 | [.one ⟨true,[.val (.int .i64 a),.ref 0]⟩,.one ⟨false,[.ref 1]⟩],[.row false 2 (.int .i64) b,.row false 64 (.pair (.int .i64) (.pair (.int .i64) (.int .i64))) c]=>some ⟨.tup [⟨true,[aen (aay a b c),.ref 2]⟩,⟨false,[.ref 3]⟩,⟨false,[aen (FC a b c)]⟩],[aeq b,aev c],[aeq (rvP a b c),aeq (rvS a b c)],[]⟩
 |_,_=>none
def GK:PF prog:=PF.alt Sq KH (by
 intro args es o h ec;unfold KH at h;split at h
 ·rename_i a b c
  cases h
  have hh:=WB a b c
  obtain⟨e0,e1,e2,e3,en⟩:=hh
  exact yF rfl (tw en) (by simp only [e0,e1] <;> rfl) rfl (by simp only [e2,e3] <;> rfl)
 ·cases h)
theorem abg(n m:Int)(ps qs:aek)(hn:leN ps.length 9223372036854775807=true):Du n m ps qs=eqT n m ps qs∧Dv n m ps=true:=by
 simp only [Du,Dv,eqT,hn,allT,Bool.or_true,cond_true,and_true]
 cases n==m <;> rfl
def HZ:aem
 | [.one ⟨true,[.val (.int .i64 a),.ref 0]⟩,.one ⟨true,[.val (.int .i64 b),.ref 1]⟩],[.row false 2 (.int .i64) c,.row false 2 (.int .i64) d]=>some ⟨aeo (.val (.bool (eqT a b c d))),[aeq c,aeq d],[],[leN c.length 9223372036854775807]⟩
 |_,_=>none
def Dz:PF prog:=PF.alt Pr HZ (by
 intro args es o h ec;unfold HZ at h;split at h
 ·rename_i a b c d
  cases h
  have ec:=Bq ec
  have hh:=abg a b c d ec
  obtain⟨e0,en⟩:=hh
  exact yF rfl (tw en) (by simp only [e0] <;> rfl) rfl rfl
 ·cases h)
def trK(s:Bool)(i b:Int):aeh:=(0,i,b)::(1,i,b)::((bif s then [(2,i,b)]else [])++ [(3,i,b)])
def ftK(s:Bool)(b k:Int):aeh:=(4,b,k)::(5,b,k)::(bif s then [(6,b,k)]else [])
def tkL(s:Bool)(B i:Nat):aeh:=(List.range B).flatMap fun(b:Nat)=>trK s (i:Int) (b:Int)
def fkL(s:Bool)(d b:Nat):aeh:=(List.range d).flatMap fun(j:Nat)=>ftK s (b:Int) ((d:Int) - (j:Int))
def kL(T B d:Nat)(s:Bool):aeh:=(List.range T).flatMap (tkL s B)++(List.range B).flatMap (fkL s d)
def kOk(T B d:Nat)(x:Int×Int×Int):Prop:=((0≤x.1∧x.1≤3)∧(0≤x.2.1∧x.2.1 < T)∧(0≤x.2.2∧x.2.2 < B))∨((4≤x.1∧x.1≤6)∧(0≤x.2.1∧x.2.1 < B)∧(1≤x.2.2∧x.2.2≤d))
theorem UA{T B d:Nat}{s:Bool}{x:Int×Int×Int}(h:x∈kL T B d s):kOk T B d x:=by
 simp only [kL,List.mem_append,List.mem_flatMap,tkL,fkL,List.mem_range]at h
 rcases h with⟨i,hi,b,hb,h⟩ | ⟨b,hb,j,hj,h⟩
 ·refine .inl ?_
  cases s <;> simp [trK]at h <;> (rcases h with rfl | rfl | rfl | rfl) <;> simp <;> omega
 ·refine .inr ?_
  cases s <;> simp [ftK]at h <;> (rcases h with rfl | rfl | rfl) <;> simp <;> omega
theorem BZ{C:Type}(f:Nat→List C)(m:Nat)(h: ∀ i,(f i).length≤m): ∀ n:Nat,((List.range n).flatMap f).length≤n * m
 |0=>by simp
 |n + 1=>by
  rw [List.range_succ,List.flatMap_append,w5,Nat.succ_mul]
  have:=BZ f m h n
  have h1:(List.flatMap f [n]).length≤m:=by simpa using h n
  omega
theorem acK{T B d:Nat}{s:Bool}(hT:T≤4)(hB:B≤8)(hd:d≤2):(kL T B d s).length≤176:=by
 have h1:=BZ (tkL s B) (B * 4) (fun i=>BZ (fun(b:Nat)=>trK s (i:Int) (b:Int)) 4 (fun b=>by cases s <;> simp [trK]) B) T
 have h2:=BZ (fkL s d) (d * 3) (fun b=>BZ (fun(j:Nat)=>ftK s (b:Int) ((d:Int) - (j:Int))) 3 (fun j=>by cases s <;> simp [ftK]) d) B
 have e1:T * (B * 4)≤4 * (8 * 4):=Nat.mul_le_mul hT (Nat.mul_le_mul hB (Nat.le_refl _))
 have e2:B * (d * 3)≤8 * (2 * 3):=Nat.mul_le_mul hB (Nat.mul_le_mul hd (Nat.le_refl _))
 rw [kL,w5]
 omega
def oth(b c o:Int):aeg:= [(o,3 * b + 2,false),(o,3 * c,false),(o,3 * c + 1,false),(o,3 * c + 2,false)]
def Rs(T:Nat)(a b c:Int):aeg:=(List.range T).flatMap fun(o:Nat)=>bif(o:Int)==a then []else oth b c (o:Int)
def gK(T:Nat)(n:Int)(x:Int×Int×Int):aeg:=
 let a:=x.2.1
 let b:=x.2.2
 let c:=Int.tmod (b + 1) n
 bif x.1==0 then [(a,3 * b,true)]else
 bif x.1==1 then(a,3 * b + 1,true)::(T + c,2,false)::(T + c,3,false)::Rs T a b c else
 bif x.1==2 then [(a,3 * b + 1,true),(T + c,3,true)]else
 bif x.1==3 then [(a,3 * b + 2,true)]else
 bif x.1==6 then [(T + a,1,true),(T + n,b,true)]else [(T + a,0,true),(T + n,b,true)]
def eK(T:Nat)(n:Int)(x:Int×Int×Int):aej:=
 let a:=x.2.1
 let b:=x.2.2
 bif x.1==0 then [(a,3 * b + 1)]else bif x.1==1 then [(a,3 * b + 2)]else bif x.1==2 then [(a,3 * b + 2)]else
 bif x.1==3 then [(a,3 * Int.tmod (b + 1) n)]else
 bif x.1==4 then [(T + a,1),(T + n,b - 1)]else bif x.1==5 then [(T + a,2),(T + n,b - 1)]else [(T + a,3),(T + n,b - 1)]
def evK(x:Int×Int×Int):Int×Int×Int:=bif x.1==4 then(1,x.2.1,1)else bif x.1==5 then(1,x.2.1,2)else bif x.1==6 then(1,x.2.1,3)else(0,x.2.1,0)
def hoB(v:aek)(g:aeg):Bool:=g.all fun t=>(v[t.1.toNat]?.getD 0==t.2.1)==t.2.2
def apE(v:aek)(e:aej):aek:=e.foldl (fun v t=>v.set t.1.toNat t.2) v
theorem ZE(ch:Int)(b:Nat): ∀ (fs:aeh) (l:aek),(∀ f∈fs,f.2.1=ch→f.1.toNat=b→f.2.2=0)→
  (l[b]?.getD 0=0∨ ∃ f∈fs,f.2.1=ch∧f.1.toNat=b)→(fs.foldl (Qz ch) l)[b]?.getD 0=0
 | [],l,_,h=>by
  rcases h with h | ⟨f,hf,_⟩
  ·exact h
  ·cases hf
 |f::fs,l,h0,h=>by
  refine ZE ch b fs (Qz ch l f) (fun g hg=>h0 g (List.mem_cons_of_mem _ hg)) ?_
  by_cases hc:f.2.1=ch
  ·have e:Qz ch l f=l.set f.1.toNat f.2.2:=by simp [Qz,hc]
   rw [e]
   by_cases hb:f.1.toNat=b
   ·left
    have:=h0 f List.mem_cons_self hc hb
    rw [hb,this,List.getElem?_set]
    by_cases hl:b < l.length <;> simp [hl]
   ·rw [List.getElem?_set_ne hb]
    rcases h with h | ⟨g,hg,h1,h2⟩
    ·exact .inl h
    ·rcases List.mem_cons.1 hg with rfl | hg
     ·exact absurd h2 hb
     ·exact .inr ⟨g,hg,h1,h2⟩
  ·have e:Qz ch l f=l:=by
    have:(f.2.1==ch)=false:=by simpa using hc
    simp [Qz,this]
   rw [e]
   rcases h with h | ⟨g,hg,h1,h2⟩
   ·exact .inl h
   ·rcases List.mem_cons.1 hg with rfl | hg
    ·exact absurd h1 hc
    ·exact .inr ⟨g,hg,h1,h2⟩
theorem WH{f:Int×Int×Int}: ∀ (ss:aek) (b:Int),f∈flA b ss↔ ∃ j:Nat,j < ss.length∧f∈stF (b + j) (ss[j]?.getD 0)
 | [],b=>by simp [flA]
 |s::r,b=>by
  rw [flA,List.mem_append,WH r (b + 1)]
  constructor
  ·rintro(h | ⟨j,hj,h⟩)
   ·exact⟨0,by simp,by simpa using h⟩
   ·refine⟨j + 1,by simpa using hj,?_⟩
    have e:b + ((j + 1:Nat):Int)=b + 1 + (j:Int):=by omega
    rw [e];simpa using h
  ·rintro⟨j,hj,h⟩
   cases j with
   |zero=>exact .inl (by simpa using h)
   |succ j=>
    refine .inr ⟨j,by simpa using hj,?_⟩
    have e:b + ((j + 1:Nat):Int)=b + 1 + (j:Int):=by omega
    rw [e]at h;simpa using h
theorem ab0{ss:aek}{f:Int×Int×Int}{c:Nat}(h:f∈flS ss)(hc:f.1.toNat=c):f∈stF (c:Int) (ss[c]?.getD 0):=by
 obtain⟨j,hj,h⟩:=(WH ss 0).1 h
 have:f.1=0 + (j:Int):=by
  simp only [stF]at h
  cases h1:ss[j]?.getD 0==1 <;> cases h2:ss[j]?.getD 0==2 <;> cases h3:ss[j]?.getD 0==3 <;> simp only [h1,h2,h3,cond_true,cond_false]at h <;> simp at h <;>
   first | (rcases h with rfl | rfl <;> simp) | (subst h;simp)
 have e:j=c:=by omega
 rw [e]at h;simpa using h
theorem VA{n:Int}{qs ss:aek}{c:Nat}{ch:Int}(WX:ch=0∨ch=1)(hc:(c:Int) < n)(hl:c < ss.length)
  (h:(ss[c]?.getD 0=3)∨((ss[c]?.getD 0≠2)∧Vb n qs (c:Int)=0)):(xS n qs (flS ss) ch)[c]?.getD 0=0:=by
 refine ZE ch c _ _ (fun f hf h1 h2=> ?_) ?_
 ·have hm:=ab0 hf h2
  have n2:(ss[c]?.getD 0==2)=false:=by rcases h with h | h <;> simp <;> omega
  simp only [stF,n2,cond_false]at hm
  cases h4:ss[c]?.getD 0==1 <;> cases h3:ss[c]?.getD 0==3 <;> simp only [h4,h3,cond_true,cond_false]at hm <;> simp at hm <;>
   first | (rcases hm with rfl | rfl <;> rfl) | (subst hm;rfl)
 ·rcases h with h | ⟨_,h⟩
  ·refine .inr ⟨((c:Int),ch,0),(WH ss 0).2 ⟨c,hl,?_⟩,rfl,by simp⟩
   have:stF (0 + (c:Int)) (ss[c]?.getD 0)= [((c:Int),0,0),((c:Int),1,0)]:=by rw [h];simp [stF]
   rw [this]
   rcases WX with rfl | rfl <;> simp
  ·refine .inl ?_
   have hr:c < n.toNat:=by omega
   simp [QP,hr,h,occ,ltI]
theorem Mf{a n:Int}(h:0≤a):Int.tmod a n=a % n:=Int.tmod_eq_emod_of_nonneg h
theorem ZX{a n:Int}(h:0≤a):Int.tdiv a n=a / n:=Int.tdiv_eq_ediv_of_nonneg h
theorem HC{b n:Int}(hn:2≤n)(hb:0≤b∧b < n):(Int.tmod (b + 1) n=b + 1∧b + 1 < n)∨(Int.tmod (b + 1) n=0∧b + 1=n):=by
 rw [Mf (by omega)]
 by_cases h:b + 1 < n
 ·exact .inl ⟨Int.emod_eq_of_lt (by omega) h,h⟩
 ·have:b + 1=n:=by omega
  rw [this];exact .inr ⟨Int.emod_self,rfl⟩
theorem abm{b n:Int}(hn:2≤n)(hb:0≤b∧b < n):Int.tmod (3 * b + 1) (3 * n)=3 * b + 1∧Int.tmod (3 * b + 1 + 1) (3 * n)=3 * b + 2∧Int.tmod (3 * b + 2 + 1) (3 * n)=3 * Int.tmod (b + 1) n:=by
 refine⟨?_,?_,?_⟩
 ·rw [Mf (by omega)];exact Int.emod_eq_of_lt (by omega) (by omega)
 ·rw [Mf (by omega),Int.emod_eq_of_lt (by omega) (by omega)];omega
 ·rcases HC hn hb with⟨h,h1⟩ | ⟨h,h1⟩
  ·rw [h,Mf (by omega),Int.emod_eq_of_lt (by omega) (by omega)];omega
  ·have:3 * b + 2 + 1=3 * n:=by omega
   rw [h,this,Mf (by omega),Int.emod_self];rfl
theorem TB{b r:Int}(hb:0≤b)(hr:0≤r∧r < 3):blk (3 * b + r)=b∧phs (3 * b + r)=r:=by
 unfold blk phs
 rw [ZX (by omega),Mf (by omega)]
 constructor <;> omega
def stV(s:aek×aek)(k:Int):aek:=s.1++(s.2++ [k])
theorem On{s:aek×aek}{k:Int}{i:Nat}(h:i < s.1.length):(stV s k)[i]?.getD 0=s.1[i]?.getD 0:=by
 simp [stV,List.getElem?_append_left h]
theorem Jd{s:aek×aek}{k:Int}{i:Nat}(h:i < s.2.length):(stV s k)[s.1.length + i]?.getD 0=s.2[i]?.getD 0:=by
 rw [stV,List.getElem?_append_right (by omega),List.getElem?_append_left (by omega)]
 congr 2;omega
theorem Hf{s:aek×aek}{k:Int}:(stV s k)[s.1.length + s.2.length]?.getD 0=k:=by
 rw [stV,List.getElem?_append_right (by omega),List.getElem?_append_right (by omega)]
 have:s.1.length + s.2.length - s.1.length - s.2.length=0:=by omega
 simp [this]
theorem aaD{s:aek×aek}{k x:Int}{i:Nat}(h:i < s.1.length):(stV s k).set i x=stV (s.1.set i x,s.2) k:=by
 simp [stV,List.set_append_left _ _ h]
theorem Zm{s:aek×aek}{k x:Int}{i:Nat}(h:i < s.2.length):(stV s k).set (s.1.length + i) x=stV (s.1,s.2.set i x) k:=by
 rw [stV,List.set_append_right _ _ (by omega),List.set_append_left _ _ (by omega)]
 have:s.1.length + i - s.1.length=i:=by omega
 rw [this];rfl
theorem Zl{s:aek×aek}{k x:Int}:(stV s k).set (s.1.length + s.2.length) x=stV s x:=by
 rw [stV,List.set_append_right _ _ (by omega),List.set_append_right _ _ (by omega)]
 have:s.1.length + s.2.length - s.1.length - s.2.length=0:=by omega
 rw [this];rfl
def WD(n:Int)(T d:Nat)(s:aek×aek)(k:Int):Prop:=isT n s.1=true∧s.1.length=T∧(s.2.length:Int)=n∧(∀ x∈s.2,0≤x∧x≤3)∧(0≤k∧k≤d)
theorem abp{n a b:Int}{v qs:aek}(hn:2≤n)(hb:0≤b∧b < n)(ha:0≤a)(hT:isT n qs=true)(hv: ∀ i:Nat,i < qs.length→v[i]?.getD 0=qs[i]?.getD 0)
  (hq:qs[a.toNat]?.getD 0=3 * b + 1) (h:hoB v (Rs qs.length a b (Int.tmod (b + 1) n))=true):Vb n qs (Int.tmod (b + 1) n)=0:=by
 refine List.countP_eq_zero.2 fun p hp=> ?_
 obtain⟨i,hi,rfl⟩:=List.mem_iff_getElem.1 hp
 have hr:=(gt.1 hT).2.2 _ hp
 have lV:qs[i]?.getD 0=qs[i]:=by simp [hi]
 by_cases hia:i=a.toNat
 ·have e:qs[i]=3 * b + 1:=by rw [← lV,hia];exact hq
  rw [e]
  obtain⟨e1,e2⟩:=TB (b:=b) (r:=1) hb.1 (by omega)
  simp only [Wh,e1,e2]
  rcases HC hn hb with⟨h1,h2⟩ | ⟨h1,h2⟩ <;> rw [h1] <;> simp <;> omega
 ·have hm: ∀ t∈oth b (Int.tmod (b + 1) n) (i:Int),(v[t.1.toNat]?.getD 0==t.2.1)==t.2.2:=by
   intro t ht
   refine List.all_eq_true.1 h t (List.mem_flatMap.2 ⟨i,List.mem_range.2 hi,?_⟩)
   have:((i:Int)==a)=false:=by simp;omega
   rw [this];exact ht
  simp only [oth,List.forall_mem_cons,List.not_mem_nil,false_implies,implies_true,and_true,q9,hv i hi,lV]at hm
  obtain⟨m1,m2,m3,m4⟩:=hm
  simp only [beq_iff_eq,beq_eq_false_iff_ne,ne_eq]at m1 m2 m3 m4
  simp only [Wh,Bool.or_eq_true,q8,beq_iff_eq,blk,phs]
  rw [ZX hr.1,Mf hr.1]
  rintro(hu | ⟨hu1,hu2⟩)
  ·have:=hu
   omega
  ·have hb':0≤qs[i] / 3∧qs[i] / 3 < n:=by omega
   rcases HC hn hb with⟨h1,h2⟩ | ⟨h1,h2⟩ <;> rcases HC hn hb' with⟨g1,g2⟩ | ⟨g1,g2⟩ <;> rw [h1,g1]at hu2 <;> omega
theorem yH{v:aek}{t:Int×Int×Bool}{g:aeg}(h:hoB v (t::g)=true):(v[t.1.toNat]?.getD 0==t.2.1)=t.2.2∧hoB v g=true:=by
 simp only [hoB,List.all_cons,q8,beq_iff_eq]at h
 exact⟨h.1,by simpa [hoB] using h.2⟩
theorem aci{n:Int}{T d:Nat}{s:aek×aek}{k:Int}{x:Int×Int×Int}(hi:WD n T d s k)(hx:kOk T n.toNat d x)
  (h:hoB (stV s k) (gK T n x)=true):
  KL n s.1 (evK x)=true∧rvB n s (evK x)=true∧ ∃ k',apE (stV s k) (eK T n x)=stV (rvN n s (evK x)) k'∧WD n T d (rvN n s (evK x)) k':=by
 obtain⟨hT,rfl,hl,hs,hk⟩:=hi
 obtain⟨kd,a,b⟩:=x
 have hn:=(gt.1 hT).1
 simp only [kOk]at hx
 have sb:n.toNat=s.2.length:=by omega
 rcases hx with⟨⟨k0,k3⟩,⟨a0,a1⟩,⟨b0,b1⟩⟩ | ⟨⟨k4,k6⟩,⟨a0,a1⟩,⟨b0,b1⟩⟩
 ·have hb:0≤b∧b < n:=by omega
  have ha:a.toNat < s.1.length:=by omega
  have hh:Pl s.1 a=true:=IC.2 ⟨a0,a1⟩
  have YM:evK (kd,a,b)=(0,a,0):=by
   have e4:(kd==4)=false:=by simp;omega
   have e5:(kd==5)=false:=by simp;omega
   have e6:(kd==6)=false:=by simp;omega
   simp [evK,e4,e5,e6]
  obtain⟨p1,p2,p3⟩:=abm hn.1 hb
  obtain⟨q0,r0⟩:=TB (b:=b) (r:=0) hb.1 (by omega)
  obtain⟨q1,r1⟩:=TB (b:=b) (r:=1) hb.1 (by omega)
  obtain⟨q2,r2⟩:=TB (b:=b) (r:=2) hb.1 (by omega)
  have hpl:=On (k:=k) ha
  have hc:0≤Int.tmod (b + 1) n∧Int.tmod (b + 1) n < n:=by
   rcases HC hn.1 hb with⟨h1,h2⟩ | ⟨h1,h2⟩ <;> rw [h1] <;> omega
  have WY:=Jd (s:=s) (k:=k) (i:=(Int.tmod (b + 1) n).toNat) (by omega)
  have e1:((s.1.length:Int) + Int.tmod (b + 1) n).toNat=s.1.length + (Int.tmod (b + 1) n).toNat:=by omega
  have fin: ∀ y z:Int,s.1[a.toNat]?.getD 0=y→Int.tmod (y + 1) (3 * n)=z→Mz n s.1 (xS n s.1 (flS s.2) 0) (xS n s.1 (flS s.2) 1) a=true→eK s.1.length n (kd,a,b)= [(a,z)]→
    KL n s.1 (evK (kd,a,b))=true∧rvB n s (evK (kd,a,b))=true∧ ∃ k',apE (stV s k) (eK s.1.length n (kd,a,b))=stV (rvN n s (evK (kd,a,b))) k'∧WD n s.1.length d (rvN n s (evK (kd,a,b))) k':=by
   intro y z hy hz hp he
   rw [YM]
   refine⟨by simp [KL,hh],by simpa [rvB,ab5] using hp,k,?_,?_⟩
   ·rw [he];simp only [apE,List.foldl_cons,List.foldl_nil,rvN,beq_self_eq_true,cond_true,Tp,hy,hz]
    exact aaD ha
   ·simp only [rvN,beq_self_eq_true,cond_true]
    exact⟨ZL hT a,by simp [Tp],hl,hs,hk⟩
  have kc:kd=0∨kd=1∨kd=2∨kd=3:=by omega
  rcases kc with rfl | rfl | rfl | rfl
  ·have hq:s.1[a.toNat]?.getD 0=3 * b:=by
    have:=(yH h).1
    simpa [hpl] using this
   refine fin (3 * b) (3 * b + 1) hq p1 ?_ (by simp [eK])
   have:phs (3 * b)=0:=by simpa using r0
   simp [Mz,hq,this]
  ·have h0:hoB (stV s k) ((a,3 * b + 1,true)::((s.1.length:Int) + Int.tmod (b + 1) n,2,false)::((s.1.length:Int) + Int.tmod (b + 1) n,3,false)::Rs s.1.length a b (Int.tmod (b + 1) n))=true:=by
    simpa [gK] using h
   obtain⟨g1,h0⟩:=yH h0
   obtain⟨g2,h0⟩:=yH h0
   obtain⟨g3,h0⟩:=yH h0
   have hq:s.1[a.toNat]?.getD 0=3 * b + 1:=by simpa [hpl] using g1
   simp only [e1,WY,beq_eq_false_iff_ne,ne_eq]at g2 g3
   have hcn:Vb n s.1 (Int.tmod (b + 1) n)=0:=abp hn.1 hb a0 hT (fun i hi=>On hi) hq h0
   have LR:(((Int.tmod (b + 1) n).toNat:Nat):Int)=Int.tmod (b + 1) n:=by omega
   have z: ∀ ch,ch=0∨ch=1→(xS n s.1 (flS s.2) ch)[(Int.tmod (b + 1) n).toNat]?.getD 0=0:=fun ch WX=>
    VA WX (by omega) (by omega) (.inr ⟨g2,by rw [LR];exact hcn⟩)
   refine fin (3 * b + 1) (3 * b + 2) hq p2 ?_ (by simp [eK])
   simp [Mz,Gc,hq,q1,z 0 (.inl rfl),z 1 (.inr rfl)]
  ·have h0:hoB (stV s k) [(a,3 * b + 1,true),((s.1.length:Int) + Int.tmod (b + 1) n,3,true)]=true:=by
    simpa [gK] using h
   obtain⟨g1,h0⟩:=yH h0
   obtain⟨g2,_⟩:=yH h0
   have hq:s.1[a.toNat]?.getD 0=3 * b + 1:=by simpa [hpl] using g1
   simp only [e1,WY,beq_iff_eq]at g2
   have z: ∀ ch,ch=0∨ch=1→(xS n s.1 (flS s.2) ch)[(Int.tmod (b + 1) n).toNat]?.getD 0=0:=fun ch WX=>
    VA WX (by omega) (by omega) (.inl g2)
   refine fin (3 * b + 1) (3 * b + 2) hq p2 ?_ (by simp [eK])
   simp [Mz,Gc,hq,q1,z 0 (.inl rfl),z 1 (.inr rfl)]
  ·have hq:s.1[a.toNat]?.getD 0=3 * b + 2:=by
    have:=(yH h).1
    simpa [hpl] using this
   refine fin (3 * b + 2) (3 * Int.tmod (b + 1) n) hq p3 ?_ (by simp [eK])
   simp [Mz,hq,r2]
 ·have ha:a.toNat < s.2.length:=by omega
  have WY:=Jd (s:=s) (k:=k) ha
  have e1:((s.1.length:Int) + a).toNat=s.1.length + a.toNat:=by omega
  have e2:((s.1.length:Int) + n).toNat=s.1.length + s.2.length:=by omega
  have fin: ∀ y z:Int,s.2[a.toNat]?.getD 0=y→(1≤z∧z≤3)→y=(bif z==3 then 1 else 0)→k=b→evK (kd,a,b)=(1,a,z)→eK s.1.length n (kd,a,b)= [((s.1.length:Int) + a,z),((s.1.length:Int) + n,b - 1)]→
    KL n s.1 (evK (kd,a,b))=true∧rvB n s (evK (kd,a,b))=true∧ ∃ k',apE (stV s k) (eK s.1.length n (kd,a,b))=stV (rvN n s (evK (kd,a,b))) k'∧WD n s.1.length d (rvN n s (evK (kd,a,b))) k':=by
   intro y z hy hz hyz hkb YM he
   rw [YM]
   refine⟨?_,?_,b - 1,?_,?_⟩
   ·simp only [KL]
    have q1:inR a 0 (n - 1)=true:=pa.2 (by omega)
    have q2:inR z 1 3=true:=pa.2 hz
    simp [q1,q2]
   ·simp [rvB,hy,hyz]
   ·rw [he]
    simp only [apE,List.foldl_cons,List.foldl_nil,rvN,e1,e2,Zm ha]
    have:=Zl (s:=(s.1,s.2.set a.toNat z)) (k:=k) (x:=b - 1)
    simp only [List.length_set]at this
    exact this
   ·simp only [rvN]
    refine⟨hT,rfl,by simpa using hl,fun x hx=> ?_,by omega⟩
    rcases List.mem_or_eq_of_mem_set hx with hx | rfl
    ·exact hs x hx
    ·omega
  have kc:kd=4∨kd=5∨kd=6:=by omega
  rcases kc with rfl | rfl | rfl
  ·have h0:hoB (stV s k) [((s.1.length:Int) + a,0,true),((s.1.length:Int) + n,b,true)]=true:=by simpa [gK] using h
   obtain⟨g1,h0⟩:=yH h0
   obtain⟨g2,_⟩:=yH h0
   simp only [e1,e2,WY,Hf,beq_iff_eq]at g1 g2
   exact fin 0 1 g1 (by omega) rfl g2 rfl rfl
  ·have h0:hoB (stV s k) [((s.1.length:Int) + a,0,true),((s.1.length:Int) + n,b,true)]=true:=by simpa [gK] using h
   obtain⟨g1,h0⟩:=yH h0
   obtain⟨g2,_⟩:=yH h0
   simp only [e1,e2,WY,Hf,beq_iff_eq]at g1 g2
   exact fin 0 2 g1 (by omega) rfl g2 rfl rfl
  ·have h0:hoB (stV s k) [((s.1.length:Int) + a,1,true),((s.1.length:Int) + n,b,true)]=true:=by simpa [gK] using h
   obtain⟨g1,h0⟩:=yH h0
   obtain⟨g2,_⟩:=yH h0
   simp only [e1,e2,WY,Hf,beq_iff_eq]at g1 g2
   exact fin 1 3 g1 (by omega) rfl g2 rfl rfl
def Vq(T:Nat)(n:Int):aeh→aek→Bool
 | [],_=>true
 |x::r,v=>hoB v (gK T n x)&&Vq T n r (apE v (eK T n x))
def Wf(T:Nat)(n:Int)(xs:aeh)(v:aek):aek:=xs.foldl (fun v x=>apE v (eK T n x)) v
theorem Yh{n:Int}{T d:Nat}: ∀ (xs:aeh) (s:aek×aek) (k:Int),WD n T d s k→(∀ x∈xs,kOk T n.toNat d x)→Vq T n xs (stV s k)=true→
  (∀ e∈xs.map evK,KL n s.1 e=true)∧SB n (xs.map evK) s=true∧ ∃ k',Wf T n xs (stV s k)=stV (UU n (xs.map evK) s) k'∧WD n T d (UU n (xs.map evK) s) k'
 | [],s,k,hi,_,_=>⟨by simp,rfl,k,rfl,hi⟩
 |x::r,s,k,hi,hx,h=>by
  simp only [Vq,q8]at h
  obtain⟨h1,h2,k1,h3,h4⟩:=aci hi (hx x List.mem_cons_self) h.1
  rw [h3]at h
  obtain⟨g1,g2,k2,g3,g4⟩:=Yh r _ k1 h4 (fun y hy=>hx y (List.mem_cons_of_mem _ hy)) h.2
  have kg:(rvN n s (evK x)).1.length=s.1.length:=by rw [h4.2.1,hi.2.1]
  refine⟨fun e he=> ?_,by simp only [List.map_cons,SB,h2,g2,Bool.and_self],k2,?_,g4⟩
  ·rcases List.mem_cons.1 he with rfl | he
   ·exact h1
   ·have:=g1 e he
    simpa only [KL,Pl,kg] using this
  ·simp only [Wf,List.foldl_cons,h3];exact g3
def szM(T:Nat)(n:Int)(d:Nat):aek:=stV (j6 T (3 * n),j6 n.toNat 4) ((d:Int) + 1)
def ME(sz:aek)(x v:Int):Bool:=inR x 0 ((sz.length:Int) - 1)&&inR v 0 (sz[x.toNat]?.getD 0 - 1)
def Rr(sz:aek)(g:aeg):Bool:=leN g.length 24&&g.all fun t=>ME sz t.1 t.2.1
def Pp(sz:aek):aej→Int→Bool
 | [],_=>true
 |e::r,p=>(ME sz e.1 e.2&&ltI p e.1)&&Pp sz r e.1
theorem aaG{T:Nat}{n:Int}{d i:Nat}(h:i < T):(szM T n d)[i]?.getD 0=3 * n:=by
 have:=On (s:=(j6 T (3 * n),j6 n.toNat 4)) (k:=(d:Int) + 1) (i:=i) (by simpa using h)
 rw [szM,this];simp [h]
theorem Zt{T:Nat}{n:Int}{d i:Nat}(h:i < n.toNat):(szM T n d)[T + i]?.getD 0=4:=by
 have:=Jd (s:=(j6 T (3 * n),j6 n.toNat (4:Int))) (k:=(d:Int) + 1) (i:=i) (by simpa using h)
 simp only [w8]at this
 rw [szM,this];simp [h]
theorem Zs{T:Nat}{n:Int}{d:Nat}:(szM T n d)[T + n.toNat]?.getD 0=(d:Int) + 1:=by
 have:=Hf (s:=(j6 T (3 * n),j6 n.toNat (4:Int))) (k:=(d:Int) + 1)
 simp only [w8]at this
 exact this
theorem Me{T:Nat}{n:Int}{d:Nat}:(szM T n d).length=T + n.toNat + 1:=by simp [szM,stV];omega
theorem NH{sz:aek}{x v:Int}:ME sz x v=true↔(0≤x∧x < sz.length)∧0≤v∧v < sz[x.toNat]?.getD 0:=by
 rw [ME,q8,pa,pa];omega
theorem RZ{T:Nat}{n:Int}{d:Nat}{x v:Int}(hx:0≤x∧x < T)(hv:0≤v∧v < 3 * n):ME (szM T n d) x v=true:=by
 rw [NH,Me,aaG (by omega)];omega
theorem Qm{T:Nat}{n:Int}{d:Nat}{x v:Int}(hx:0≤x∧x < n)(hv:0≤v∧v < 4):ME (szM T n d) ((T:Int) + x) v=true:=by
 have e:((T:Int) + x).toNat=T + x.toNat:=by omega
 rw [NH,Me,e,Zt (by omega)];omega
theorem Uk{T:Nat}{n:Int}{d:Nat}{v:Int}(hn:0≤n)(hv:0≤v∧v≤d):ME (szM T n d) ((T:Int) + n) v=true:=by
 have e:((T:Int) + n).toNat=T + n.toNat:=by omega
 rw [NH,Me,e,Zs];omega
theorem WQ{T:Nat}{n:Int}{d:Nat}{x:Int×Int×Int}(hT:T≤4)(hn:2≤n)(hx:kOk T n.toNat d x):
  Rr (szM T n d) (gK T n x)=true∧Pp (szM T n d) (eK T n x) (-1)=true∧(eK T n x).length≤4:=by
 obtain⟨kd,a,b⟩:=x
 simp only [kOk]at hx
 rcases hx with⟨⟨k0,k3⟩,⟨a0,a1⟩,⟨b0,b1⟩⟩ | ⟨⟨k4,k6⟩,⟨a0,a1⟩,⟨b0,b1⟩⟩
 ·have hb:0≤b∧b < n:=by omega
  have hc:0≤Int.tmod (b + 1) n∧Int.tmod (b + 1) n < n:=by
   rcases HC hn hb with⟨h1,h2⟩ | ⟨h1,h2⟩ <;> rw [h1] <;> omega
  have hp: ∀ v,(0≤v∧v < 3 * n)→ME (szM T n d) a v=true:=fun v hv=>RZ ⟨a0,a1⟩ hv
  have hs: ∀ v,(0≤v∧v < 4)→ME (szM T n d) ((T:Int) + Int.tmod (b + 1) n) v=true:=fun v hv=>Qm hc hv
  have ha1:ltI (-1) a=true:=by simp [ltI];omega
  have kc:kd=0∨kd=1∨kd=2∨kd=3:=by omega
  rcases kc with rfl | rfl | rfl | rfl
  ·refine⟨?_,?_,by simp [eK]⟩
   ·simp [gK,Rr,hp (3 * b) (by omega)]
   ·simp [eK,Pp,hp (3 * b + 1) (by omega),ha1]
  ·refine⟨?_,?_,by simp [eK]⟩
   ·have ho: ∀ t∈Rs T a b (Int.tmod (b + 1) n),ME (szM T n d) t.1 t.2.1=true:=by
     intro t ht
     obtain⟨o,ho,ht⟩:=List.mem_flatMap.1 ht
     have ho':(0:Int)≤(o:Int)∧(o:Int) < T:=by have:=List.mem_range.1 ho;omega
     cases hoa:(o:Int)==a with
     |true=>rw [hoa]at ht;cases ht
     |false=>
      rw [hoa]at ht
      simp only [cond_false,oth,List.mem_cons,List.not_mem_nil,or_false]at ht
      rcases ht with rfl | rfl | rfl | rfl <;> exact RZ ho' (by simp only;omega)
    have hl:(Rs T a b (Int.tmod (b + 1) n)).length≤T * 4:=BZ _ 4 (fun o=>by cases (o:Int)==a <;> simp [oth]) T
    have e:gK T n (1,a,b)=(a,3 * b + 1,true)::((T:Int) + Int.tmod (b + 1) n,2,false)::((T:Int) + Int.tmod (b + 1) n,3,false)::Rs T a b (Int.tmod (b + 1) n):=by simp [gK]
    rw [e,Rr,q8]
    refine⟨qf (by simp only [w6];omega),?_⟩
    simp only [List.all_cons,hp (3 * b + 1) (by omega),hs 2 (by omega),hs 3 (by omega),Bool.true_and]
    exact List.all_eq_true.2 ho
   ·simp [eK,Pp,hp (3 * b + 2) (by omega),ha1]
  ·refine⟨?_,?_,by simp [eK]⟩
   ·simp [gK,Rr,hp (3 * b + 1) (by omega),hs 3 (by omega)]
   ·simp [eK,Pp,hp (3 * b + 2) (by omega),ha1]
  ·refine⟨?_,?_,by simp [eK]⟩
   ·simp [gK,Rr,hp (3 * b + 2) (by omega)]
   ·simp [eK,Pp,hp (3 * Int.tmod (b + 1) n) (by omega),ha1]
 ·have ha:0≤a∧a < n:=by omega
  have hs: ∀ v,(0≤v∧v < 4)→ME (szM T n d) ((T:Int) + a) v=true:=fun v hv=>Qm ha hv
  have hb: ∀ v,(0≤v∧v≤(d:Int))→ME (szM T n d) ((T:Int) + n) v=true:=fun v hv=>Uk (by omega) hv
  have l1:ltI (-1) ((T:Int) + a)=true:=by simp [ltI];omega
  have l2:ltI ((T:Int) + a) ((T:Int) + n)=true:=by simp [ltI];omega
  have kc:kd=4∨kd=5∨kd=6:=by omega
  rcases kc with rfl | rfl | rfl
  ·exact⟨by simp [gK,Rr,hs 0 (by omega),hb b (by omega)],by simp [eK,Pp,hs 1 (by omega),hb (b - 1) (by omega),l1,l2],by simp [eK]⟩
  ·exact⟨by simp [gK,Rr,hs 0 (by omega),hb b (by omega)],by simp [eK,Pp,hs 2 (by omega),hb (b - 1) (by omega),l1,l2],by simp [eK]⟩
  ·exact⟨by simp [gK,Rr,hs 1 (by omega),hb b (by omega)],by simp [eK,Pp,hs 3 (by omega),hb (b - 1) (by omega),l1,l2],by simp [eK]⟩
abbrev qa:=Int×List Int×Int×Int
section
variable (a:Int)(b:aek)
def BC:Bool:=bif ltI a (↑b.length:Int)then ltI a 64 else false
def JJ:Bool:=leI 0 a
def JK:Bool:=ltI a (↑b.length:Int)
def JM:Bool:=ltN a.toNat b.length
end
def JN:Bool:=neI 2147483647 0
def JO(a:Int):Int:=z8 .i64 (a + (1:Int))
def JP(a:Int)(b:aek)(c:Int):Int:=Int.tmod (z8 .i64 (z8 .i64 (c * (59:Int)) + z8 .i64 (z7 b[z1 a]? 0))) 2147483647
def PU:qa→List (Nat×SV)
 |(a,_,_,_)=> [(4,(aep a)),(0,(aeo (.ref 0))),(3,(aeo (.ptr 1 0)))]
def PR:qa→List (Nat×Entry)
 |(_,a,b,c)=> [(0,(aet a)),(1,(.box 90 [.ref 0,aen b,aen c]))]
def Qa:Nat→qa→List (Nat×SV)
 |_,_=>[]
def vB:qa→LT qa
 |(a,b,c,d)=> .ite (BC a b) (.need [JJ a,JK a b,JM a b,JN] (.nrm ((JO a),b,c,(JP a b d)) [(0,0),(1,1)])) (.ext 0 [(0,0),(1,1)])
def Ez(s:St):Option qa:=do
 let some ⟨none,.one ⟨false,[.val (.int .i64 a)]⟩⟩:=s.look 4|none
 let some ⟨none,.one ⟨false,[.ref 0]⟩⟩:=s.look 0|none
 let some ⟨none,.one ⟨false,[.ptr 320 0]⟩⟩:=s.look 3|none
 let some (.row false 5 (.int IntKind.u8) b):=s.ent 0|none
 let some (.box 90 [.ref 0,.val (.int .i64 c),.val (.int .i64 d)]):=s.ent 320|none
 some (a,b,c,d)
def mm:Lp qa where
 h:=⟨[8,9,10,11,12,13,14,15,18,19,20,21,22,23,24,25,26,27,28,29,30,31,32,16,17,4],[0,1],[],[]⟩
 JL:=PU
 JE:=PR
 XL:=Qa
 XE:=fun _=>PR
 q:=fun j=>match j with | _=> .exit 0
 tags:= [0]
 lt:=vB
 fuel:=fun(a,b,c,d)=>a.natAbs + b.length + c.natAbs + d.natAbs
 fix:=fun(_,b,c,_) (a,_,_,d)=>(a,b,c,d)
 σ:= [(0,0),(1,320)]
 rd:=Ez
theorem NK:LoopOk prog (fun k=>Nat.blt k Tryz.f16.ntmps) mm.F (bf f16 0):=by
 refine Lp.ok (tbl:= []) (lf:= []) bB mm (by kernel_rfl) (LOk.nil _) (fun _=>rfl) (fun _ _=>rfl) ?_ ?_ ?_ ?_ (fun _=>rfl) ?_
 ·intro _;kernel_rfl
 ·intro _;kernel_rfl
 ·intro s x h
  have h:Ez s=some x:=h
  unfold Ez at h
  repeat' split at h
  all_goals cases h
  constructor<;>repeat(first|refine aa ‹_› rfl ?_|refine ab rfl ‹_› rfl ?_|rfl)
 ·intro _;kernel_rfl
 ·intro _ _;exact(And.intro rfl trivial)
section
variable (a:aek)
def AF:Int×aek×Int×Int:=((0:Int),a,(0:Int),(52021:Int))
def Cx:Int:=(Lp.res mm (AF a)).2.2.2.2
def FI:Bool:=allT [Lp.fin mm (AF a)]
end
def MW:aem
 | [.one ⟨false,[.ref 0]⟩],[.row false 5 (.int .u8) a]=>some ⟨aeo (.ptr 1 0),[aet a],[.box 90 [.ref 0,aen 0,aen (Cx a)]],[FI a]⟩
 |_,_=>none
def UN:PF prog:=PF.ofG prog [] [mm.F] bB 16 f16 func16 (LOk.fnT (l:= [bf f16 0]) (by kernel_rfl) (.cons NK (.nil _))) MW (by
 intro _ _ _ h;unfold MW at h;split at h<;>cases h;kernel_rfl)
section
variable (a b c:Int)(d:aek)
def wR:Int:=z8 .i64 (b + (1:Int))
def AG:Bool:=bif leI a 256 then Int.tmod (wR b) 2==0 else false
def wS:Int:=z8 .i64 (wR b - (1:Int))
def sa:Int:=Int.tmod (z8 .i64 (z8 .i64 (c * (48271:Int)) + (29:Int))) 2147483647
def jo:Int:=bif leI a 1 then(0:Int)else Int.tmod (bif ltI b (↑d.length:Int)then bif AG a b then z8 .i64 (z7 d[z1 (wS b)]? 0)else z8 .i64 (z8 .i64 (Int.tdiv (sa c) 31) + z8 .i64 (z7 d[z1 b]? 0))else z8 .i64 (Int.tdiv (sa c) 31)) a
def vG:Int:=bif leI a 1 then b else bif ltI b (↑d.length:Int)then wR b else b
def vH:Int:=bif leI a 1 then c else bif ltI b (↑d.length:Int)then sa c else sa c
def vI:Bool:=allT [leI a 1||neI 2147483647 0,leI a 1||neI 31 0,leI a 1||(!ltI b (↑d.length:Int)||leI 0 b),leI a 1||(!ltI b (↑d.length:Int)||ltI b (↑d.length:Int)),leI a 1||(!ltI b (↑d.length:Int)||ltN b.toNat d.length),leI a 1||(!ltI b (↑d.length:Int)||(!(leI a 256&&true)||neI 2 0)),leI a 1||(!ltI b (↑d.length:Int)||(!AG a b||leI 0 (wS b))),leI a 1||(!ltI b (↑d.length:Int)||(!AG a b||ltI (wS b) (↑d.length:Int))),leI a 1||(!ltI b (↑d.length:Int)||(!AG a b||ltN (z1 (wS b)) d.length)),leI a 1||neI a 0]
end
def MX:aem
 | [.one ⟨false,[.ptr 0 0]⟩,.one ⟨false,[.val (.int .i64 a)]⟩],[.box 90 [.ref 1,.val (.int .i64 b),.val (.int .i64 c)],.row false 5 (.int .u8) d]=>some ⟨aep (jo a b c d),[.box 90 [.ref 1,aen (vG a b d),aen (vH a b c d)],aet d],[],[vI a b d]⟩
 |_,_=>none
def FA:PF prog:=PF.ofG prog [] [] bB 39 f39 func39 (fun c _=>LOk.nil c) MX (by
 intro _ _ _ h;unfold MX at h;split at h<;>cases h;kernel_rfl)
section
variable (a b:Int)(c d:aek)
def FJ:Int:=z7 c[z1 (jo (↑c.length:Int) a b d)]? 0
def IW:Int:=vG (↑c.length:Int) a d
def IX:Int:=vH (↑c.length:Int) a b d
def FK:Bool:=allT [vI (↑c.length:Int) a d,leI 0 (jo (↑c.length:Int) a b d),ltI (jo (↑c.length:Int) a b d) (↑c.length:Int),ltN (z1 (jo (↑c.length:Int) a b d)) c.length]
end
def MY:aem
 | [.one ⟨false,[.ptr 0 0]⟩,.one ⟨false,[.ref 1]⟩],[.box 90 [.ref 2,.val (.int .i64 a),.val (.int .i64 b)],.row false 2 (.int .i64) c,.row false 5 (.int .u8) d]=>some ⟨aep (FJ a b c d),[.box 90 [.ref 2,aen (IW a c d),aen (IX a b c d)],aeq c,aet d],[],[FK a b c d]⟩
 |_,_=>none
def UO:PF prog:=PF.ofG prog (T3z [FA]) [] bB 42 f42 func42 (fun c _=>LOk.nil c) MY (by
 intro _ _ _ h;unfold MY at h;split at h<;>cases h;kernel_rfl)
def fY(a s:Int)(c:aek):Bool:=(leI 0 a&&leI a 4096)&&((leI 0 s&&ltI s 2147483647)&&(leN c.length 4096&&c.all fun x=>inR x 0 255))
theorem Om{a s:Int}{c:aek}:fY a s c=true↔(0≤a∧a≤4096)∧(0≤s∧s < 2147483647)∧c.length≤4096∧ ∀ x∈c,0≤x∧x≤255:=by
 simp only [fY,q8,Hk,Ip,sj,List.all_eq_true,pa]
theorem Ll{x n:Int}(h:0≤x)(hn:0 < n):0≤Int.tmod x n∧Int.tmod x n < n:=by
 rw [Int.tmod_eq_emod_of_nonneg h]
 exact⟨Int.emod_nonneg _ (by omega),Int.emod_lt_of_pos _ hn⟩
theorem aaN{code:aek}(hb: ∀ x∈code,0≤x∧x≤255)(i:Nat):0≤(code[i]?.getD 0)∧(code[i]?.getD 0)≤255:=by
 cases h:code[i]? with
 |none=>simp
 |some x=>exact hb x (List.mem_of_getElem? h)
def nxV(n a s:Int)(c:aek):Int:=jo n a s c
def nxA(n a:Int)(c:aek):Int:=vG n a c
def nxS(n a s:Int)(c:aek):Int:=vH n a s c
theorem Rp(n:Int){a s:Int}{code:aek}(h:fY a s code=true):
  vI n a code=true∧fY (nxA n a code) (nxS n a s code) code=true∧0≤nxV n a s code∧(1≤n→nxV n a s code < n):=by
 obtain⟨⟨h0,h1⟩,⟨s0,s1⟩,hn,hb⟩:=Om.1 h
 have hw1:IntKind.i64.wrap (s * 48271)=s * 48271:=aC (by omega) (by omega)
 have hw2:IntKind.i64.wrap (s * 48271 + 29)=s * 48271 + 29:=aC (by omega) (by omega)
 have hw3:IntKind.i64.wrap (a + 1)=a + 1:=aC (by omega) (by omega)
 have hw4:IntKind.i64.wrap (a + 1 - 1)=a:=by rw [aC (by omega) (by omega)];omega
 obtain⟨t0,t1⟩:=Ll (x:=s * 48271 + 29) (n:=2147483647) (by omega) (by omega)
 have hd0:0≤Int.tdiv (Int.tmod (s * 48271 + 29) 2147483647) 31:=Int.tdiv_nonneg t0 (by omega)
 have hd1:Int.tdiv (Int.tmod (s * 48271 + 29) 2147483647) 31≤2147483647:=by
  rw [Int.tdiv_eq_ediv_of_nonneg t0];omega
 have hw7:IntKind.i64.wrap (Int.tdiv (Int.tmod (s * 48271 + 29) 2147483647) 31)=Int.tdiv (Int.tmod (s * 48271 + 29) 2147483647) 31:=aC (by omega) (by omega)
 have q1:neI 2147483647 0=true:=by decide
 have q2:neI 31 0=true:=by decide
 have q3:neI 2 0=true:=by decide
 simp only [nxA,nxS,nxV]
 by_cases hq:n≤1
 ·have d:leI n 1=true:=du hq
  refine⟨by simp [vI,allT,d],?_,by simp [jo,d],fun h=>by simp [jo,d];omega⟩
  simp only [vG,vH,d,cond_true]
  exact h
 ·have d:leI n 1=false:=abe (by omega)
  have q4:neI n 0=true:=UF (by omega)
  by_cases hl:a < (code.length:Int)
  ·have dl:ltI a (code.length:Int)=true:=eV hl
   obtain⟨c0,c1⟩:=aaN hb a.toNat
   have hw5:IntKind.i64.wrap (code[a.toNat]?.getD 0)=code[a.toNat]?.getD 0:=aC (by omega) (by omega)
   have hw6:IntKind.i64.wrap (Int.tdiv (Int.tmod (s * 48271 + 29) 2147483647) 31 + code[a.toNat]?.getD 0)=Int.tdiv (Int.tmod (s * 48271 + 29) 2147483647) 31 + code[a.toNat]?.getD 0:=aC (by omega) (by omega)
   have dn:ltN a.toNat code.length=true:=lR (by omega)
   have dz:leI 0 a=true:=du h0
   have hwa:IntKind.i64.wrap a=a:=aC (by omega) (by omega)
   refine⟨?_,?_,?_⟩
   ·simp [vI,wR,wS,allT,d,dl,dn,hw3,hw4,hwa,dz,q1,q2,q3,q4]
   ·simp only [vG,vH,wR,sa,d,dl,cond_true,cond_false,hw1,hw2,hw3]
    exact Om.2 ⟨⟨by omega,by omega⟩,⟨t0,t1⟩,hn,hb⟩
   ·simp only [jo,AG,wS,wR,sa,d,dl,cond_true,cond_false,hw1,hw2,hw3,hw4,hw5,hw7,hw6]
    cases (bif leI n 256 then Int.tmod (a + 1) 2==0 else false)with
    |true=>
     obtain⟨m0,m1⟩:=Ll (x:=code[a.toNat]?.getD 0) (n:=n) c0 (by omega)
     exact⟨m0,fun _=>m1⟩
    |false=>
     obtain⟨m0,m1⟩:=Ll (x:=Int.tdiv (Int.tmod (s * 48271 + 29) 2147483647) 31 + code[a.toNat]?.getD 0) (n:=n) (by omega) (by omega)
     exact⟨m0,fun _=>m1⟩
  ·have dl:ltI a (code.length:Int)=false:=qW (by omega)
   refine⟨?_,?_,?_⟩
   ·simp [vI,allT,d,dl,q1,q2,q4]
   ·simp only [vG,vH,sa,d,dl,cond_false,hw1,hw2]
    exact Om.2 ⟨⟨h0,h1⟩,⟨t0,t1⟩,hn,hb⟩
   ·simp only [jo,sa,d,dl,cond_false,hw1,hw2,hw7]
    obtain⟨m0,m1⟩:=Ll (x:=Int.tdiv (Int.tmod (s * 48271 + 29) 2147483647) 31) (n:=n) hd0 (by omega)
    exact⟨m0,fun _=>m1⟩
theorem Ts(a b c:Int)(d:aek)(h:fY b c d=true):jo a b c d=nxV a b c d∧vG a b d=nxA a b d∧vH a b c d=nxS a b c d∧vI a b d=true:=⟨rfl,rfl,rfl,(Rp a h).1⟩
def Nl:aem
 | [.one ⟨false,[.ptr 0 0]⟩,.one ⟨false,[.val (.int .i64 a)]⟩],[.box 90 [.ref 1,.val (.int .i64 b),.val (.int .i64 c)],.row false 5 (.int .u8) d]=>some ⟨aep (nxV a b c d),[.box 90 [.ref 1,aen (nxA a b d),aen (nxS a b c d)],aet d],[],[fY b c d]⟩
 |_,_=>none
def jk:PF prog:=PF.alt FA Nl (by
 intro args es o h ec;unfold Nl at h;split at h
 ·rename_i a b c d
  cases h
  have ec:=Bq ec
  have hh:=Ts a b c d ec
  obtain⟨e0,e1,e2,en⟩:=hh
  exact yF rfl (tw en) (by simp only [e0] <;> rfl) (by simp only [e1,e2] <;> rfl) rfl
 ·cases h)
def pkV(a s:Int)(l c:aek):Int:=FJ a s l c
def pkA(a:Int)(l c:aek):Int:=IW a l c
def pkS(a s:Int)(l c:aek):Int:=IX a s l c
theorem ZU{a s:Int}{l code:aek}(h:(fY a s code&&leN 1 l.length)=true):
  FK a s l code=true∧fY (pkA a l code) (pkS a s l code) code=true∧pkV a s l code∈l:=by
 simp only [q8,sj]at h
 obtain⟨n3,n1,n0,nl⟩:=Rp (l.length:Int) h.1
 have nl:=nl (by omega)
 simp only [nxV]at n0 nl
 refine⟨?_,n1,?_⟩
 ·have t1:leI 0 (jo (l.length:Int) a s code)=true:=du n0
  have t2:ltI (jo (l.length:Int) a s code) (l.length:Int)=true:=eV nl
  have t3:ltN (jo (l.length:Int) a s code).toNat l.length=true:=lR (by omega)
  simp only [FK,allT,n3,t1,t2,t3,cond_true]
 ·have iM:(jo (l.length:Int) a s code).toNat < l.length:=by omega
  simp only [pkV,FJ,List.getElem?_eq_getElem iM,Option.getD_some]
  exact List.getElem_mem iM
theorem Tt(a b:Int)(c d:aek)(h:(fY a b d&&leN 1 c.length)=true):FJ a b c d=pkV a b c d∧IW a c d=pkA a c d∧IX a b c d=pkS a b c d∧FK a b c d=true:=⟨rfl,rfl,rfl,(ZU h).1⟩
def Nn:aem
 | [.one ⟨false,[.ptr 0 0]⟩,.one ⟨false,[.ref 1]⟩],[.box 90 [.ref 2,.val (.int .i64 a),.val (.int .i64 b)],.row false 2 (.int .i64) c,.row false 5 (.int .u8) d]=>some ⟨aep (pkV a b c d),[.box 90 [.ref 2,aen (pkA a c d),aen (pkS a b c d)],aeq c,aet d],[],[fY a b d&&leN 1 c.length]⟩
 |_,_=>none
def jl:PF prog:=PF.alt UO Nn (by
 intro args es o h ec;unfold Nn at h;split at h
 ·rename_i a b c d
  cases h
  have ec:=Bq ec
  have hh:=Tt a b c d ec
  obtain⟨e0,e1,e2,en⟩:=hh
  exact yF rfl (tw en) (by simp only [e0] <;> rfl) (by simp only [e1,e2] <;> rfl) rfl
 ·cases h)
def aah(b:Int)(a:Nat×Int):Nat ⊕ (Nat×Int):=bif decide (a.1 < 64)then .inr (a.1 + 1,Int.tmod (a.2 * 59 + b) 2147483647)else .inl 0
def frS(c:aek):Int:=Cx c
theorem ZG(code:aek)(h:fY 0 0 code=true):FI code=true∧fY 0 (frS code) code=true:=by
 obtain⟨_,_,hn,hb⟩:=Om.1 h
 have kn:=Lf (lt:=vB) (fun i (a:Nat×Int)=>((i:Int),code,(0:Int),a.2)) aah 0 (fun i a=>a.1=i∧0≤a.2∧a.2 < 2147483647) code (fun i b a he hI=>⟨?_,fun a' hf=> ?_⟩) (fun a hI=> ?_) code 0 (0,52021) rfl (by simp) (by decide)
 ·have hres:=mm.run kn (Uq (by simp only [mm];omega))
  have r1:mm.fin ((0:Int),code,(0:Int),(52021:Int))=true:=hres.1
  have r2:mm.res ((0:Int),code,(0:Int),(52021:Int))=_:=hres.2
  have inv: ∀ (r:aek) (i:Nat) (a:Nat×Int),(∀ x∈r,0≤x∧x≤255)→0≤a.2∧a.2 < 2147483647→0≤(eE aah 0 r i a).2.2.2∧(eE aah 0 r i a).2.2.2 < 2147483647:=by
   intro r
   induction r with
   |nil=>intro i a _ h;exact h
   |cons b r ih=>
    intro i a hx h
    simp only [eE,aah]
    cases decide (a.1 < 64)with
    |false=>exact h
    |true=>
     have hb:=hx b (by simp)
     exact ih _ _ (fun x hm=>hx x (by simp [hm])) (Ll (by omega) (by omega))
  obtain⟨q0,q1⟩:=inv code 0 (0,52021) hb (by decide)
  refine⟨by simp [FI,AF,allT,r1],Om.2 ⟨by decide,⟨?_,?_⟩,hn,hb⟩⟩
  ·simp only [frS,Cx,AF,r2];exact q0
  ·simp only [frS,Cx,AF,r2];exact q1
 ·obtain⟨iM,he⟩:=w9.1 he
  subst he
  obtain⟨h1,h2,h3⟩:=hI
  have hw:=mO iM (by omega)
  obtain⟨c0,c1⟩:=hb code[i] (List.getElem_mem iM)
  have hw1:IntKind.i64.wrap (a.2 * 59)=a.2 * 59:=aC (by omega) (by omega)
  have hw2:IntKind.i64.wrap code[i]=code[i]:=aC (by omega) (by omega)
  have hw3:IntKind.i64.wrap (a.2 * 59 + code[i])=a.2 * 59 + code[i]:=aC (by omega) (by omega)
  have q1:neI 2147483647 0=true:=by decide
  have q2:ltI (i:Int) (code.length:Int)=true:=eV (by omega)
  have q3:leI 0 (i:Int)=true:=du (by omega)
  have q4:ltN i code.length=true:=lR iM
  simp only [aah,h1]
  by_cases h64:i < 64
  ·have d:decide (i < 64)=true:=decide_eq_true h64
   have d':ltI (i:Int) 64=true:=eV (by omega)
   simp [vB,LT.out,allT,BC,JJ,JK,JM,JN,JO,JP,iM,hw,d,d',hw1,hw2,hw3,q1,q2,q3,q4]
  ·have d:decide (i < 64)=false:=decide_eq_false h64
   have d':ltI (i:Int) 64=false:=qW (by omega)
   simp [vB,LT.out,BC,d,d']
 ·simp only [aah]at hf
  obtain⟨h1,h2,h3⟩:=hI
  obtain⟨c0,c1⟩:=hb b (List.mem_of_getElem? he)
  cases hd:decide (a.1 < 64)with
  |false=>rw [hd]at hf;cases hf
  |true=>
   rw [hd]at hf
   simp only [cond_true,Sum.inr.injEq]at hf
   subst hf
   obtain⟨m0,m1⟩:=Ll (x:=a.2 * 59 + b) (n:=2147483647) (by omega) (by omega)
   exact⟨by simp [h1],m0,m1⟩
 ·simp [vB,LT.out,BC]
theorem Tr(a:aek)(h:fY 0 0 a=true):Cx a=frS a∧FI a=true:=⟨rfl,(ZG a h).1⟩
def Nk:aem
 | [.one ⟨false,[.ref 0]⟩],[.row false 5 (.int .u8) a]=>some ⟨aeo (.ptr 1 0),[aet a],[.box 90 [.ref 0,aen 0,aen (frS a)]],[fY 0 0 a]⟩
 |_,_=>none
def IM:PF prog:=PF.alt UN Nk (by
 intro args es o h ec;unfold Nk at h;split at h
 ·rename_i a
  cases h
  have ec:=Bq ec
  have hh:=Tr a ec
  obtain⟨e0,en⟩:=hh
  exact yF rfl (tw en) rfl rfl (by simp only [e0] <;> rfl)
 ·cases h)
abbrev qb:=Int×Int×Int×Int×Int×List Int×List Int
section
variable (a b c d e:Int)(f g:aek)
def Jc:Int:=pkV d e [(0:Int),(1:Int),(1:Int),(2:Int)] g
def vJ:aek:= [z8 .i64 (z8 .i64 ((3:Int) * Int.tmod b c) + Jc d e g)]
def vK:Int:=pkA d [(0:Int),(1:Int),(1:Int),(2:Int)] g
def zL:Int:=pkS d e [(0:Int),(1:Int),(1:Int),(2:Int)] g
def FL:Bool:=ltI 0 a
def JQ:Bool:=fY d e g&&leN 1 (z6 [(0:Int),(1:Int),(1:Int),(2:Int)])
def JR:Bool:=neI c 0
def JS:Bool:=leN (z6 f + z6 (vJ b c d e g)) 9223372036854775807
def JT:Bool:=leN ((z6 f + z6 (vJ b c d e g)) * 8) 140737488355328
end
def FM:Bool:=neI 2 0
section
variable (a b c d e:Int)(f g:aek)
def JU:Bool:=fY (vK d g) (zL d e g) g
def JV:Int:=z8 .i64 (a - (1:Int))
def RG:Int:=z8 .i64 (z8 .i64 (z8 .i64 (b + (1:Int)) + z8 .i64 (Int.tdiv (Jc d e g) 2)) + z8 .i64 (Int.tdiv (nxV 3 (vK d g) (zL d e g) g) 2))
def JW:Int:=nxA 3 (vK d g) g
def Ja:Int:=nxS 3 (vK d g) (zL d e g) g
def Jb:aek:=f++vJ b c d e g
end
def PV:qb→List (Nat×SV)
 |(a,b,c,_,_,_,_)=> [(6,(aep a)),(0,(aeo (.ptr 0 0))),(4,(aeo (.ref 1))),(5,(aep b)),(3,(aep c))]
def PS:qb→List (Nat×Entry)
 |(_,_,_,a,b,c,d)=> [(0,(.box 90 [.ref 2,aen a,aen b])),(2,(aet d)),(1,(aer c))]
def Qb:Nat→qb→List (Nat×SV)
 |_,(_,_,_,_,_,_,_)=> [(4,(aeo (.ref 1)))]
def PY:Nat→qb→List (Nat×Entry)
 |_,(_,_,_,a,b,c,d)=> [(0,(.box 90 [.ref 2,aen a,aen b])),(1,(aer c)),(2,(aet d))]
def Ev:qb→LT qb
 |(a,b,c,d,e,f,g)=> .ite (FL a) (.need [JQ d e g] (.need [JR c,JS b c d e f g,JT b c d e f g] (.need [FM,JU d e g,FM] (.nrm ((JV a),RG b d e g,c,JW d g,Ja d e g,Jb b c d e f g,g) [(0,0),(1,960),(2,2)])))) (.ext 0 [(0,0),(1,1),(2,2)])
def EA(s:St):Option qb:=do
 let some ⟨none,.one ⟨false,[.val (.int .i64 a)]⟩⟩:=s.look 6|none
 let some ⟨none,.one ⟨false,[.ptr 0 0]⟩⟩:=s.look 0|none
 let some ⟨none,.one ⟨false,[.ref 512]⟩⟩:=s.look 4|none
 let some ⟨none,.one ⟨false,[.val (.int .i64 b)]⟩⟩:=s.look 5|none
 let some ⟨none,.one ⟨false,[.val (.int .i64 c)]⟩⟩:=s.look 3|none
 let some (.box 90 [.ref 1,.val (.int .i64 d),.val (.int .i64 e)]):=s.ent 0|none
 let some (.row false 5 (.int IntKind.u8) g):=s.ent 1|none
 let some (.row true 2 (.int .i64) f):=s.ent 512|none
 some (a,b,c,d,e,f,g)
def gI:Lp qb where
 h:=⟨[20,21,24,25,26,7,27,28,29,30,31,32,33,34,35,4,36,37,38,39,40,41,42,43,44,5,22,23,6],[0,2],[1],[]⟩
 JL:=PV
 JE:=PS
 XL:=Qb
 XE:=PY
 q:=fun j=>match j with | _=> .exit 0
 tags:= [0]
 lt:=Ev
 fuel:=fun(a,b,c,d,e,f,g)=>a.natAbs + b.natAbs + c.natAbs + d.natAbs + e.natAbs + f.length + g.length
 fix:=fun(_,_,c,_,_,_,g) (a,b,_,d,e,f,_)=>(a,b,c,d,e,f,g)
 σ:= [(0,0),(2,1),(1,512)]
 rd:=EA
theorem NL:LoopOk prog (fun k=>Nat.blt k Tryz.f60.ntmps) gI.F (bf f60 0):=by
 refine Lp.ok (tbl:= (T3z [jk,jl])) (lf:= []) bB gI (by kernel_rfl) (LOk.nil _) (fun _=>rfl) (fun _ _=>rfl) ?_ ?_ ?_ ?_ (fun _=>rfl) ?_
 ·intro _;kernel_rfl
 ·intro _;kernel_rfl
 ·intro s x h
  have h:EA s=some x:=h
  unfold EA at h
  repeat' split at h
  all_goals cases h
  constructor<;>repeat(first|refine aa ‹_› rfl ?_|refine ab rfl ‹_› rfl ?_|rfl)
 ·intro _;kernel_rfl
 ·intro _ _;exact(And.intro rfl trivial)
section
variable (a b:Int)(c:aek)
def ct:Int:=z8 .i64 ((2:Int) + nxV 5 a b c)
def iS:Int:=aaj (ct a b c) 4 (ct a b c) 4
def lq:Int:=nxA (ct a b c) (nxA 5 a c) c
def oW:Int:=nxS (ct a b c) (nxA 5 a c) (nxS 5 a b c) c
def wT:Int×Int×Int×Int×Int×aek×aek:=(z8 .i64 ((1:Int) + nxV (iS a b c) (lq a b c) (oW a b c) c),nxV (ct a b c) (nxA 5 a c) (nxS 5 a b c) c,ct a b c,nxA (iS a b c) (lq a b c) c,nxS (iS a b c) (lq a b c) (oW a b c) c,[],c)
def AH:Int×Int×aek×aek:=(Lp.res gI (wT a b c)).2.2.2.2
def cu:Int:=(AH a b c).1
def sc:Int×aek×aek:=(AH a b c).2
def Ed:Int:=nxV 40 (cu a b c) ((sc a b c).1) c
def fW:Bool:=Ed a b c==0
def iL:Int:=nxS 40 (cu a b c) ((sc a b c).1) c
def fQ:Bool:=Ed a b c==1
def lN:Bool:=Ed a b c==2
def uG:Bool:=Ed a b c==3
def Lh:Int:=z8 .i64 ((3:Int) * ct a b c)
def uH:aek:= [(-1:Int),z8 .i64 (Lh a b c - (1:Int)),Lh a b c]
def lO:aek:=((sc a b c).2).1
def kk:Int:=z8 .i64 ((4:Int) + nxV 2 (nxA 40 (cu a b c) c) (iL a b c) c)
def CW:Bool:=fY (nxA 40 (cu a b c) c) (iL a b c) c
def IY:Int:=bif fW a b c then pkV (nxA 40 (cu a b c) c) (iL a b c) [(1:Int),(8:Int),(9:Int)] c else bif fQ a b c then ct a b c else bif lN a b c then ct a b c else bif uG a b c then ct a b c else ct a b c
def Cy:Int:=bif fW a b c then pkA (nxA 40 (cu a b c) c) [(1:Int),(8:Int),(9:Int)] c else bif fQ a b c then pkA (nxA 40 (cu a b c) c) (uH a b c) c else bif lN a b c then nxA 2 (nxA 40 (cu a b c) c) c else bif uG a b c then nxA 40 (cu a b c) c else nxA 40 (cu a b c) c
def Cz:Int:=bif fW a b c then pkS (nxA 40 (cu a b c) c) (iL a b c) [(1:Int),(8:Int),(9:Int)] c else bif fQ a b c then pkS (nxA 40 (cu a b c) c) (iL a b c) (uH a b c) c else bif lN a b c then nxS 2 (nxA 40 (cu a b c) c) (iL a b c) c else bif uG a b c then iL a b c else iL a b c
def CA:aek:=bif fW a b c then lO a b c else bif fQ a b c then List.set (lO a b c) (z1 0) (pkV (nxA 40 (cu a b c) c) (iL a b c) (uH a b c) c)else bif lN a b c then j6 (z1 (kk a b c)) (0:Int)else bif uG a b c then []else lO a b c
def IZ:Bool:=allT [fY a b c,fY (nxA 5 a c) (nxS 5 a b c) c,fY (lq a b c) (oW a b c) c,Lp.fin gI (wT a b c),fY (cu a b c) ((sc a b c).1) c,!fW a b c||CW a b c&&leN 1 (z6 [(1:Int),(8:Int),(9:Int)]),fW a b c||(!fQ a b c||CW a b c&&leN 1 (z6 (uH a b c))),fW a b c||(!fQ a b c||leI 0 0),fW a b c||(!fQ a b c||ltI 0 (↑(z6 (lO a b c)):Int)),fW a b c||(!fQ a b c||ltN (z1 0) (z6 (lO a b c))),fW a b c||(fQ a b c||(!lN a b c||CW a b c)),fW a b c||(fQ a b c||(!lN a b c||leI 0 (kk a b c))),fW a b c||(fQ a b c||(!lN a b c||leI (kk a b c) (kk a b c))),fW a b c||(fQ a b c||(!lN a b c||leI ((↑(8:Nat):Int) * kk a b c) 281474976710656)),fW a b c||(fQ a b c||(!lN a b c||leI (kk a b c) 9223372036854775807))]
end
def MZ:aem
 | [.one ⟨false,[.ptr 0 0]⟩],[.box 90 [.ref 1,.val (.int .i64 a),.val (.int .i64 b)],.row false 5 (.int .u8) c]=>some ⟨.one ⟨true,[aen (IY a b c),.ref 2]⟩,[.box 90 [.ref 1,aen (Cy a b c),aen (Cz a b c)],aet c],[aer (CA a b c)],[IZ a b c]⟩
 |_,_=>none
def UP:PF prog:=PF.ofG prog (T3z [jk,jl]) [gI.F] bB 60 f60 func60 (LOk.fnT (l:= [bf f60 0]) (by kernel_rfl) (.cons NL (.nil _))) MZ (by
 intro _ _ _ h;unfold MZ at h;split at h<;>cases h;kernel_rfl)
theorem Lp.inv{X:Type}(p:Lp X)(I Q:Nat→X→Prop)
  (hs: ∀ k x,I (k + 1) x→(∃ j,(p.lt x).out=some (.inl j)∧Q j x)∨ ∃ y,(p.lt x).out=some (.inr y)∧I k y)
  (he: ∀ x,I 0 x→ ∃ j,(p.lt x).out=some (.inl j)∧Q j x) (N:Nat) (x:X) (hN:N≤999) (h:I N x):
  p.fin x=true∧ ∃ j y,p.res x=(j,y)∧Q j y:=by
 have kn: ∀ (k:Nat) (x:X),I k x→ ∃ j y,FY p.lt (k + 1) x=some (j,y)∧Q j y:=by
  intro k
  induction k with
  |zero=>
   intro x h
   obtain⟨j,h1,h2⟩:=he x h
   exact⟨j,x,RB _ h1,h2⟩
  |succ k ih=>
   intro x h
   rcases hs k x h with⟨j,h1,h2⟩ | ⟨y,h1,h2⟩
   ·exact⟨j,x,RB _ h1,h2⟩
   ·obtain⟨j,z,h3,h4⟩:=ih y h2
    exact⟨j,z,by rw [VY _ h1];exact h3,h4⟩
 obtain⟨j,y,h1,h2⟩:=kn N x h
 obtain⟨r1,r2⟩:=p.run h1 (Uq (by omega))
 exact⟨r1,j,y,r2,h2⟩
theorem He{n a s:Int}{c:aek}(h:fY a s c=true):fY (nxA n a c) (nxS n a s c) c=true:=(Rp n h).2.1
theorem Zp{a s x:Int}{l c:aek}(h:fY a s c=true):fY (pkA a (x::l) c) (pkS a s (x::l) c) c=true:=(ZU (l:=x::l) (by rw [h];rfl)).2.1
theorem UH{n a s:Int}{c:aek}(h:fY a s c=true)(hn:1≤n):0≤nxV n a s c∧nxV n a s c < n:=⟨(Rp n h).2.2.1,(Rp n h).2.2.2 hn⟩
theorem WN{C:Type}(x:C)(l:List C):leN 1 (x::l).length=true:=qf (by simp)
theorem abd(c:aek)(bl:Int)(MF:bl≠0)(K:Nat)(hK:K≤100)(p a s:Int)(h:fY a s c=true):
  gI.fin ((K:Int),p,bl,a,s,[],c)=true∧ ∃ j y,gI.res ((K:Int),p,bl,a,s,[],c)=(j,y)∧fY y.2.2.2.1 y.2.2.2.2.1 c=true∧y.2.2.2.2.2.1.length=K:=by
 refine gI.inv (fun k x=>x.1=(k:Int)∧x.2.2.1=bl∧fY x.2.2.2.1 x.2.2.2.2.1 c=true∧x.2.2.2.2.2.1.length + k=K∧x.2.2.2.2.2.2=c) (fun _ y=>fY y.2.2.2.1 y.2.2.2.2.1 c=true∧y.2.2.2.2.2.1.length=K)
  (fun k x hx=> .inr ?_) (fun x hx=> ?_) K _ (by omega) ⟨rfl,rfl,h,by simp,rfl⟩
 ·obtain⟨b,d,e,f,g,i,m⟩:=x
  obtain⟨h0,h1,h2,h3,h4⟩:=hx
  simp only at h0 h1 h2 h3 h4
  subst h0 h1 h4
  have t1:ltI 0 ((k + 1:Nat):Int)=true:=eV (by omega)
  have t2:neI e 0=true:=UF MF
  have t3:neI 2 0=true:=by decide
  have t4:=Zp (x:=0) (l:= [1,1,2]) h2
  have t5:leN (i.length + 1) 9223372036854775807=true:=qf (by omega)
  have t6:leN ((i.length + 1) * 8) 140737488355328=true:=qf (by omega)
  have t7:=WN (0:Int) [1,1,2]
  refine⟨?_,?_,?_⟩
  rotate_left
  ·simp only [gI,Ev,LT.out,allT,FL,JQ,JR,JS,JT,FM,JU,vJ,vK,zL,List.length_singleton,t1,t2,t3,t4,t5,t6,t7,h2,cond_true,Bool.and_self]
   rfl
  ·have s9:fY (JW f m) (Ja f g m) m=true:=He (n:=3) t4
   refine⟨?_,rfl,s9,?_,rfl⟩
   ·simp only [JV];rw [aC (by omega) (by omega)];omega
   ·simp only [Jb,vJ,w5,List.length_singleton];omega
 ·obtain⟨b,d,e,f,g,i,m⟩:=x
  obtain⟨h0,h1,h2,h3,h4⟩:=hx
  simp only at h0 h1 h2 h3 h4
  subst h0 h1 h4
  exact⟨0,by simp [gI,Ev,LT.out,FL],h2,by simpa using h3⟩
theorem Qo(a s:Int)(c:aek)(h:fY a s c=true):
  IZ a s c=true∧fY (Cy a s c) (Cz a s c) c=true∧(CA a s c).length≤9:=by
 have n1:=UH (n:=5) h (by omega)
 have s1:=He (n:=5) h
 have a0:ct a s c=2 + nxV 5 a s c:=by simp only [ct];rw [aC (by omega) (by omega)]
 have s2:=He (n:=ct a s c) s1
 have a1:2≤iS a s c∧iS a s c≤4:=by
  simp only [iS,ZI]
  cases hl:ltI (ct a s c) 4 with
  |true=>have:=Ip.1 hl;simp only [cond_true];omega
  |false=>simp
 have n2:=UH (n:=iS a s c) s2 (by omega)
 have s3:=He (n:=iS a s c) s2
 obtain⟨r1,j,y,r2,r3,r4⟩:=abd c (ct a s c) (by omega) (1 + nxV (iS a s c) (lq a s c) (oW a s c) c).toNat
  (by simp only [lq,oW];omega) (nxV (ct a s c) (nxA 5 a c) (nxS 5 a s c) c) _ _ s3
 have e4:wT a s c=(((1 + nxV (iS a s c) (lq a s c) (oW a s c) c).toNat:Int),nxV (ct a s c) (nxA 5 a c) (nxS 5 a s c) c,ct a s c,
   nxA (iS a s c) (lq a s c) c,nxS (iS a s c) (lq a s c) (oW a s c) c,[],c):=by
  simp only [wT,lq,oW]
  rw [aC (by omega) (by omega)]
  rw [show (((1 + nxV (iS a s c) (nxA (ct a s c) (nxA 5 a c) c) (nxS (ct a s c) (nxA 5 a c) (nxS 5 a s c) c) c).toNat:Nat):Int)=1 + nxV (iS a s c) (nxA (ct a s c) (nxA 5 a c) c) (nxS (ct a s c) (nxA 5 a c) (nxS 5 a s c) c) c by omega]
 have f1:Lp.fin gI (wT a s c)=true:=by rw [e4];exact r1
 have f2:Lp.res gI (wT a s c)=(j,y):=by rw [e4];exact r2
 have g6:cu a s c=y.2.2.2.1:=by simp only [cu,AH,f2]
 have g7:(sc a s c).1=y.2.2.2.2.1:=by simp only [sc,AH,f2]
 have g16:lO a s c=y.2.2.2.2.2.1:=by simp only [lO,sc,AH,f2]
 have s4:fY (cu a s c) ((sc a s c).1) c=true:=by rw [g6,g7];exact r3
 have s5:=He (n:=40) s4
 have n5:=UH (n:=2) s5 (by omega)
 have hK:1≤(lO a s c).length∧(lO a s c).length≤4:=by
  rw [g16,r4];simp only [lq,oW];omega
 have a17:4≤kk a s c∧kk a s c≤5:=by
  simp only [kk,iL];rw [aC (by omega) (by omega)];omega
 have t1:ltI 0 (((lO a s c).length:Nat):Int)=true:=eV (by omega)
 have t2:ltN 0 (lO a s c).length=true:=lR (by omega)
 have t3:leI 0 (kk a s c)=true:=du (by omega)
 have t4:leI ((8:Nat) * kk a s c) 281474976710656=true:=du (by omega)
 have t5:leI (kk a s c) 9223372036854775807=true:=du (by omega)
 have a18:CW a s c=true:=s5
 have s2':fY (lq a s c) (oW a s c) c=true:=s2
 refine⟨?_,?_,?_⟩
 ·simp only [IZ,allT,h,s1,s2',f1,s4,a18,uH,WN,t1,t2,t3,t4,t5,abf,Int.toNat_zero,Bool.or_true,Bool.and_self,cond_true]
 ·have s5':fY (nxA 40 (cu a s c) c) (iL a s c) c=true:=s5
  have hnx: ∀ n,fY (nxA n (nxA 40 (cu a s c) c) c) (nxS n (nxA 40 (cu a s c) c) (iL a s c) c) c=true:=fun n=>He s5'
  have hpk: ∀ x l,fY (pkA (nxA 40 (cu a s c) c) (x::l) c) (pkS (nxA 40 (cu a s c) c) (iL a s c) (x::l) c) c=true:=fun x l=>Zp s5'
  simp only [Cy,Cz,uH]
  cases fW a s c <;> cases fQ a s c <;> cases lN a s c <;> cases uG a s c <;> simp only [cond_true,cond_false,s5',hnx,hpk]
 ·simp only [CA]
  cases fW a s c <;> cases fQ a s c <;> cases lN a s c <;> cases uG a s c <;> simp only [cond_true,cond_false,List.length_set,w8,List.length_nil] <;> omega
def Np:aem
 | [.one ⟨false,[.ptr 0 0]⟩],[.box 90 [.ref 1,.val (.int .i64 a),.val (.int .i64 b)],.row false 5 (.int .u8) c]=>some ⟨.one ⟨true,[aen (IY a b c),.ref 2]⟩,[.box 90 [.ref 1,aen (Cy a b c),aen (Cz a b c)],aet c],[aer (CA a b c)],[fY a b c]⟩
 |_,_=>none
def IP:PF prog:=PF.alt UP Np (by
 intro args es o h ec;unfold Np at h;split at h
 ·rename_i a b c
  cases h
  have ec:=Bq ec
  have hh:=(Qo a b c ec).1
  have en:=hh
  exact yF rfl (tw en) rfl rfl rfl
 ·cases h)
def Xa(m:Int):aem
 | [.one ⟨false,[.val (.int .i64 x)]⟩],[]=>some ⟨aeo (.val (.string (Bz x))),[],[],[leI 0 x&&ltI x m]⟩
 |_,_=>none
def Vt(m:Int):Prop:=
 ∀ args es o,Xa m args es=some o→(∀ b∈o.nd,b=true)→ ∀ (mem:Nat→Option Obj) (ρ:Nm) (w:World),HpL w mem es ρ w→
  Calls prog 91 (args.map (SV.conc ρ)).toArray w fun e w'=> ∃ ρ':Nm,Ext (memB w mem) (fun i=>Nat.blt i es.length) ρ ρ'∧e= .returned (o.res.conc ρ')∧o.es.length=es.length∧
   o.res.inU (fun i=>Nat.blt i (o.es++o.new).length)∧HpL w mem (o.es++o.new) ρ' w'
def PF.dec(m:Int)(hk:Vt m):PF prog where
 k:=91
 F:=Xa m
 ok:=hk
section
variable (a:Int)
def Eb:ael:=strOfNums [z8 IntKind.u8 (z8 .i64 ((48:Int) + Int.tmod a 10))]
def Ec:Bool:=ltI a 10||neI 10 0
def FG:ael:=bif ltI a 10 then strOfNums [z8 IntKind.u8 (z8 .i64 ((48:Int) + a))]else Bz (z8 .i64 (Int.tdiv a 10))++Eb a
end
def FH(m0 a:Int):Bool:=allT [Ec a,ltI a 10||leI 0 (z8 .i64 (Int.tdiv a 10))&&ltI (z8 .i64 (Int.tdiv a 10)) m0,Ec a,ltI a 10||leN (ByteArray.size (Bz (z8 .i64 (Int.tdiv a 10))) + ByteArray.size (Eb a)) 9223372036854775807]
def MV(m0:Int):aem
 | [.one ⟨false,[.val (.int .i64 a)]⟩],[]=>some ⟨aeo (.val (.string (FG a))),[],[],[FH m0 a]⟩
 |_,_=>none
def UM(m0:Int)(hk0:Vt m0):PF prog:=PF.ofG prog [PF.dec m0 hk0] [] bB 91 f91 func91 (fun c _=>LOk.nil c) (MV m0) (by
 intro _ _ _ h;unfold MV at h;split at h<;>cases h;kernel_rfl)
theorem Yk{x:Int}(h:0≤x)(h1:x < 256):IntKind.u8.wrap x=x:=by
 have e:IntKind.u8.wrap x=x % 256:=rfl
 rw [e];omega
theorem Un{x:Int}(h:0≤x):Bz x=⟨(Lib.decDigits x.toNat).toArray⟩:=by
 obtain⟨u,rfl⟩: ∃ u:Nat,x=u:=⟨x.toNat,by omega⟩
 simp only [Bz,Lib.itoa_nonneg,q9]
theorem SO{x:Int}(h:0≤x)(h1:x < 10):Bz x=strOfNums [x + 48]:=by
 rw [Un h,Lib.decDigits_one (by omega)]
 have e:(x + 48).toNat=48 + x.toNat:=by omega
 simp only [strOfNums,List.map_cons,List.map_nil,e]
theorem aao{x:Int}(h:0≤x)(h1: ¬ x < 10):Bz x=Bz (x / 10)++strOfNums [x % 10 + 48]:=by
 rw [Un h,Un (show 0≤x / 10 by omega),Lib.decDigits,dif_neg (by omega)]
 have e1:(x / 10).toNat=x.toNat / 10:=by omega
 have e2:(x % 10 + 48).toNat=48 + x.toNat % 10:=by omega
 apply ByteArray.ext
 apply Array.ext'
 simp [strOfNums,e1,e2,ByteArray.data_append]
theorem LU{x:Int}(h:0≤x)(h1:x≤9223372036854775807):(Bz x).size≤21:=by
 have:=Lib.itoa_length_le x (by omega) h1
 simpa [Bz,ByteArray.size] using this
theorem abN{m m' x:Int}(hx:0≤x)(h9:x≤9223372036854775807)(hm:x < 10∨x / 10 < m):FH m x=true∧FG x=Bz x:=by
 have e:Int.tdiv x 10=x / 10:=Int.tdiv_eq_ediv_of_nonneg hx
 have e':Int.tmod x 10=x % 10:=Int.tmod_eq_emod_of_nonneg hx
 have hw:IntKind.i64.wrap (Int.tdiv x 10)=x / 10:=by rw [e];exact aC (by omega) (by omega)
 have h2:neI 10 0=true:=rfl
 have h3:Eb x=strOfNums [x % 10 + 48]:=by
  have w1:IntKind.i64.wrap (48 + x % 10)=x % 10 + 48:=by rw [aC (by omega) (by omega)];omega
  have w2:IntKind.u8.wrap (x % 10 + 48)=x % 10 + 48:=Yk (by omega) (by omega)
  simp only [Eb,e',w1,w2]
 have hs:=LU (x:=x / 10) (by omega) (by omega)
 have hl:leN ((Bz (x / 10)).size + (strOfNums [x % 10 + 48]).size) 9223372036854775807=true:=by
  rw [strOfNums_size]
  exact qf (by simp;omega)
 cases hc:ltI x 10 with
 |true=>
  have hc':=Ip.1 hc
  have w1:IntKind.i64.wrap (48 + x)=x + 48:=by rw [aC (by omega) (by omega)];omega
  have w2:IntKind.u8.wrap (x + 48)=x + 48:=Yk (by omega) (by omega)
  refine⟨by simp [FH,Ec,hc,h2,allT],?_⟩
  simp only [FG,hc,cond_true,w1,w2,SO hx hc']
 |false=>
  have hc':=Of.1 hc
  have q1:leI 0 (x / 10)=true:=du (by omega)
  have q2:ltI (x / 10) m=true:=eV (by omega)
  refine⟨by simp only [FH,Ec,hc,h2,h3,hw,hl,q1,q2,allT,Bool.or_true,Bool.and_self,Bool.false_or];rfl,?_⟩
  simp only [FG,hc,cond_false,hw,h3]
  exact(aao hx (by omega)).symm
theorem Az{m m':Int}(hk:Vt m)(h:m'≤10∨m'≤10 * m)(hm:m'≤1000000000000):Vt m':=by
 refine(PF.alt (UM m hk) (Xa m') ?_).ok
 intro args es o h ec
 unfold Xa at h
 split at h
 ·rename_i x0
  cases h
  have h1:=ec _ (List.mem_cons_self ..)
  simp only [q8,Hk,Ip]at h1
  obtain⟨h2,h3⟩:=abN (m:=m) (m':=m') h1.1 (by omega) (by omega)
  exact yF rfl (tw h2) (by simp only [h3] <;> rfl) rfl rfl
 ·cases h
theorem aaS:Vt 0:=by
 intro args es o h ec
 unfold Xa at h
 split at h
 ·cases h
  have h1:=ec _ (List.mem_cons_self ..)
  simp only [q8,Hk,Ip]at h1
  omega
 ·cases h
theorem ac3:Vt 1000000000000:=Az (m:=100000000000) (m':=1000000000000) (Az (m:=10000000000) (m':=100000000000) (Az (m:=1000000000) (m':=10000000000) (Az (m:=100000000) (m':=1000000000) (Az (m:=10000000) (m':=100000000) (Az (m:=1000000) (m':=10000000) (Az (m:=100000) (m':=1000000) (Az (m:=10000) (m':=100000) (Az (m:=1000) (m':=10000) (Az (m:=100) (m':=1000) (Az (m:=10) (m':=100) (Az (m:=0) (m':=10) aaS (.inl (by decide)) (by decide)) (.inr (by decide)) (by decide)) (.inr (by decide)) (by decide)) (.inr (by decide)) (by decide)) (.inr (by decide)) (by decide)) (.inr (by decide)) (by decide)) (.inr (by decide)) (by decide)) (.inr (by decide)) (by decide)) (.inr (by decide)) (by decide)) (.inr (by decide)) (by decide)) (.inr (by decide)) (by decide)) (.inr (by decide)) (by decide)
def Vl:PF prog:=PF.dec 1000000000000 ac3
def yO(a b:Int)(c:aek):Int:=bif !isT a c then(1:Int)else bif !fD b 0 2 then(2:Int)else(0:Int)
def Na:aem
 | [.one ⟨true,[.val (.int .i64 a),.ref 0]⟩,.one ⟨false,[.val (.int .i64 b)]⟩],[.row false 2 (.int .i64) c]=>some ⟨aep (yO a b c),[aeq c],[],[]⟩
 |_,_=>none
def mD:PF prog:=PF.ofG prog (T3z [Fz,GL]) [] bB 22 f22 func22 (fun c _=>LOk.nil c) Na (by
 intro _ _ _ h;unfold Na at h;split at h<;>cases h;kernel_rfl)
abbrev iz:=Int×Bool×Int×Int×List (Int×(Int×Int))
section
variable (a:Int)(b:Bool)(c d:Int)(e:aee)
def md:Bool:=bif a !=2 then true else b
def me:aeh:= [(a,c,d)]
def te:Bool:=leI a 3
def tf:Bool:= !md a b||leN (z6 e + z6 (me a c d)) 9223372036854775807
def tg:Bool:= !md a b||leN ((z6 e + z6 (me a c d)) * 24) 140737488355328
def th:Bool:=md a b
def qp:Int:=z8 .i64 (a + (1:Int))
def ti:aee:=e++me a c d
end
def Jj:iz→List (Nat×SV)
 |(a,b,c,d,_)=> [(10,(aep a)),(2,(aeo (.val (.bool b)))),(7,(aeo (.ref 0))),(8,(aep c)),(9,(aep d))]
def Jh:iz→List (Nat×Entry)
 |(_,_,_,_,a)=> [(0,(aex a))]
def Jn:Nat→iz→List (Nat×SV)
 |_,(a,_,_,_,_)=> [(7,(aeo (.ref 0))),(10,(aep a))]
def sk:iz→LT iz
 |(a,b,c,d,e)=> .ite (te a) (.need [tf a b c d e,tg a b c d e] (.ite (th a b) (.nrm ((qp a),b,c,d,(ti a c d e)) [(0,896)]) (.nrm ((qp a),b,c,d,e) [(0,0)]))) (.ext 0 [(0,0)])
def wI(s:St):Option iz:=do
 let some ⟨none,.one ⟨false,[.val (.int .i64 a)]⟩⟩:=s.look 10|none
 let some ⟨none,.one ⟨false,[.val (.bool b)]⟩⟩:=s.look 2|none
 let some ⟨none,.one ⟨false,[.ref 1]⟩⟩:=s.look 7|none
 let some ⟨none,.one ⟨false,[.val (.int .i64 c)]⟩⟩:=s.look 8|none
 let some ⟨none,.one ⟨false,[.val (.int .i64 d)]⟩⟩:=s.look 9|none
 let some (.row true 69 (.pair (.int .i64) (.pair (.int .i64) (.int .i64))) e):=s.ent 1|none
 some (a,b,c,d,e)
def cV:Lp iz where
 h:=⟨[28,29,32,33,34,35,36,37,38,39,40,41,42,43,7,30,31,10],[],[0],[]⟩
 JL:=Jj
 JE:=Jh
 XL:=Jn
 XE:=fun _=>Jh
 q:=fun j=>match j with | _=> .exit 4
 tags:= [0]
 lt:=sk
 fuel:=fun(a,_,c,d,e)=>a.natAbs + c.natAbs + d.natAbs + e.length
 fix:=fun(_,b,c,d,_) (a,_,_,_,e)=>(a,b,c,d,e)
 σ:= [(0,1)]
 rd:=wI
theorem Im:LoopOk prog (memN [22,23,24,25,10,28,29,32,33,34,35,36,37,38,39,40,41,42,43,7,30,31,26,27,9]) cV.F (Bk (Bk (bf f23 0) 0) 0):=by
 refine Lp.ok (tbl:= []) (lf:= []) bB cV (by kernel_rfl) (LOk.nil _) (fun _=>rfl) (fun _ _=>rfl) ?_ ?_ ?_ ?_ (fun _=>rfl) ?_
 ·intro _;kernel_rfl
 ·intro _;kernel_rfl
 ·intro s x h
  have h:wI s=some x:=h
  unfold wI at h
  repeat' split at h
  all_goals cases h
  constructor<;>repeat(first|refine aa ‹_› rfl ?_|refine ab rfl ‹_› rfl ?_|rfl)
 ·intro _;kernel_rfl
 ·intro _ _;exact(And.intro (And.intro rfl rfl) trivial)
abbrev lh:=Int×Bool×Int×Int×List (Int×(Int×Int))×List Int
section
variable (a:Int)(b:Bool)(c d:Int)(e:aee)
def pH:Int×Bool×Int×Int×aeh:=((0:Int),b,c,a,e)
def sx:Bool:=ltI a d
def sy:Bool:=Lp.fin cV (pH a b c e)
def sA:Int:=z8 .i64 (a + (1:Int))
def sB:aee:=(Lp.res cV (pH a b c e)).2.2.2.2.2
end
def Lv:lh→List (Nat×SV)
 |(a,b,c,_,_,_)=> [(9,(aep a)),(3,(aeo (.ptr 0 0))),(2,(aeo (.val (.bool b)))),(7,(aeo (.ref 1))),(8,(aep c))]
def Lq:lh→List (Nat×Entry)
 |(_,_,_,a,b,c)=> [(0,(.box 26 [aen a,.ref 2])),(2,(aeq c)),(1,(aex b))]
def LD:Nat→lh→List (Nat×SV)
 |_,(a,_,_,_,_,_)=> [(7,(aeo (.ref 1))),(9,(aep a))]
def Lz:Nat→lh→List (Nat×Entry)
 |_,(_,_,_,a,b,c)=> [(0,(.box 26 [aen a,.ref 2])),(1,(aex b)),(2,(aeq c))]
def rz:lh→LT lh
 |(a,b,c,d,e,f)=> .ite (sx a d) (.need [sy a b c e] (.nrm ((sA a),b,c,d,sB a b c e,f) [(0,0),(1,384),(2,2)])) (.ext 0 [(0,0),(1,1),(2,2)])
def zJ(s:St):Option lh:=do
 let some ⟨none,.one ⟨false,[.val (.int .i64 a)]⟩⟩:=s.look 9|none
 let some ⟨none,.one ⟨false,[.ptr 0 0]⟩⟩:=s.look 3|none
 let some ⟨none,.one ⟨false,[.val (.bool b)]⟩⟩:=s.look 2|none
 let some ⟨none,.one ⟨false,[.ref 1]⟩⟩:=s.look 7|none
 let some ⟨none,.one ⟨false,[.val (.int .i64 c)]⟩⟩:=s.look 8|none
 let some (.box 26 [.val (.int .i64 d),.ref 2]):=s.ent 0|none
 let some (.row false 2 (.int .i64) f):=s.ent 2|none
 let some (.row true 69 (.pair (.int .i64) (.pair (.int .i64) (.int .i64))) e):=s.ent 1|none
 some (a,b,c,d,e,f)
def dv:Lp lh where
 h:=⟨[22,23,24,25,10,28,29,32,33,34,35,36,37,38,39,40,41,42,43,7,30,31,26,27,9],[0,2],[1],[]⟩
 JL:=Lv
 JE:=Lq
 XL:=LD
 XE:=Lz
 q:=fun j=>match j with | _=> .exit 2
 tags:= [0]
 lt:=rz
 fuel:=fun(a,_,c,d,e,f)=>a.natAbs + c.natAbs + d.natAbs + e.length + f.length
 fix:=fun(_,b,c,d,_,f) (a,_,_,_,e,_)=>(a,b,c,d,e,f)
 σ:= [(0,0),(2,2),(1,1)]
 rd:=zJ
theorem Ko:LoopOk prog (memN [15,16,17,18,19,9,22,23,24,25,10,28,29,32,33,34,35,36,37,38,39,40,41,42,43,7,30,31,26,27,20,21,8]) dv.F (Bk (bf f23 0) 0):=by
 refine Lp.ok (tbl:= []) (lf:= [cV.F]) bB dv (by kernel_rfl) (LOk.allT (l:= [Bk (Bk (bf f23 0) 0) 0]) (by kernel_rfl) (.cons Im (.nil _))) (fun _=>rfl) (fun _ _=>rfl) ?_ ?_ ?_ ?_ (fun _=>rfl) ?_
 ·intro _;kernel_rfl
 ·intro _;kernel_rfl
 ·intro s x h
  have h:zJ s=some x:=h
  unfold zJ at h
  repeat' split at h
  all_goals cases h
  constructor<;>repeat(first|refine aa ‹_› rfl ?_|refine ab rfl ‹_› rfl ?_|rfl)
 ·intro _;kernel_rfl
 ·intro _ _;exact(And.intro rfl trivial)
abbrev ov:=Int×Bool×Int×List (Int×(Int×Int))×List Int
section
variable (a:Int)(b:Bool)(c:Int)(d:aee)(e:aek)
def rL:Int×Bool×Int×Int×aeh×aek:=((0:Int),b,a,c,d,e)
def vM:Bool:=ltI a (↑e.length:Int)
def vN:Bool:=Lp.fin dv (rL a b c d e)
def vO:Int:=z8 .i64 (a + (1:Int))
def vP:aee:=((Lp.res dv (rL a b c d e)).2.2.2.2.2).1
end
def OJ:ov→List (Nat×SV)
 |(a,b,_,_,_)=> [(8,(aep a)),(3,(aeo (.ptr 0 0))),(2,(aeo (.val (.bool b)))),(7,(aeo (.ref 1)))]
def Ox:ov→List (Nat×Entry)
 |(_,_,a,b,c)=> [(0,(.box 26 [aen a,.ref 2])),(2,(aeq c)),(1,(aex b))]
def Pf:Nat→ov→List (Nat×SV)
 |_,(_,_,_,_,_)=> [(7,(aeo (.ref 1)))]
def OU:Nat→ov→List (Nat×Entry)
 |_,(_,_,a,b,c)=> [(0,(.box 26 [aen a,.ref 2])),(1,(aex b)),(2,(aeq c))]
def ui:ov→LT ov
 |(a,b,c,d,e)=> .ite (vM a e) (.need [vN a b c d e] (.nrm ((vO a),b,c,vP a b c d e,e) [(0,0),(1,448),(2,2)])) (.ext 0 [(0,0),(1,1),(2,2)])
def DK(s:St):Option ov:=do
 let some ⟨none,.one ⟨false,[.val (.int .i64 a)]⟩⟩:=s.look 8|none
 let some ⟨none,.one ⟨false,[.ptr 128 0]⟩⟩:=s.look 3|none
 let some ⟨none,.one ⟨false,[.val (.bool b)]⟩⟩:=s.look 2|none
 let some ⟨none,.one ⟨false,[.ref 256]⟩⟩:=s.look 7|none
 let some (.box 26 [.val (.int .i64 c),.ref 0]):=s.ent 128|none
 let some (.row false 2 (.int .i64) e):=s.ent 0|none
 let some (.row true 69 (.pair (.int .i64) (.pair (.int .i64) (.int .i64))) d):=s.ent 256|none
 some (a,b,c,d,e)
def fT:Lp ov where
 h:=⟨[15,16,17,18,19,9,22,23,24,25,10,28,29,32,33,34,35,36,37,38,39,40,41,42,43,7,30,31,26,27,20,21,8],[0,2],[1],[]⟩
 JL:=OJ
 JE:=Ox
 XL:=Pf
 XE:=OU
 q:=fun j=>match j with | _=> .exit 0
 tags:= [0]
 lt:=ui
 fuel:=fun(a,_,c,d,e)=>a.natAbs + c.natAbs + d.length + e.length
 fix:=fun(_,b,c,_,e) (a,_,_,d,_)=>(a,b,c,d,e)
 σ:= [(0,128),(2,0),(1,256)]
 rd:=DK
theorem MO:LoopOk prog (fun k=>Nat.blt k Tryz.f23.ntmps) fT.F (bf f23 0):=by
 refine Lp.ok (tbl:= []) (lf:= [dv.F]) bB fT (by kernel_rfl) (LOk.allT (l:= [Bk (bf f23 0) 0]) (by kernel_rfl) (.cons Ko (.nil _))) (fun _=>rfl) (fun _ _=>rfl) ?_ ?_ ?_ ?_ (fun _=>rfl) ?_
 ·intro _;kernel_rfl
 ·intro _;kernel_rfl
 ·intro s x h
  have h:DK s=some x:=h
  unfold DK at h
  repeat' split at h
  all_goals cases h
  constructor<;>repeat(first|refine aa ‹_› rfl ?_|refine ab rfl ‹_› rfl ?_|rfl)
 ·intro _;kernel_rfl
 ·intro _ _;exact(And.intro rfl trivial)
abbrev iA:=Int×Bool×Int×Int×List (Int×(Int×Int))
section
variable (a:Int)(b:Bool)(c d:Int)(e:aee)
def mf:Bool:=bif a !=6 then true else b
def mg:aeh:= [(a,c,d)]
def tj:Bool:=leI a 6
def tm:Bool:= !mf a b||leN (z6 e + z6 (mg a c d)) 9223372036854775807
def tn:Bool:= !mf a b||leN ((z6 e + z6 (mg a c d)) * 24) 140737488355328
def tp:Bool:=mf a b
def qq:Int:=z8 .i64 (a + (1:Int))
def tq:aee:=e++mg a c d
end
def Jk:iA→List (Nat×SV)
 |(a,b,c,d,_)=> [(13,(aep a)),(2,(aeo (.val (.bool b)))),(7,(aeo (.ref 0))),(11,(aep c)),(12,(aep d))]
def Ji:iA→List (Nat×Entry)
 |(_,_,_,_,a)=> [(0,(aex a))]
def Jo:Nat→iA→List (Nat×SV)
 |_,(a,_,_,_,_)=> [(7,(aeo (.ref 0))),(13,(aep a))]
def sm:iA→LT iA
 |(a,b,c,d,e)=> .ite (tj a) (.need [tm a b c d e,tn a b c d e] (.ite (tp a b) (.nrm ((qq a),b,c,d,(tq a c d e)) [(0,896)]) (.nrm ((qq a),b,c,d,e) [(0,0)]))) (.ext 0 [(0,0)])
def wJ(s:St):Option iA:=do
 let some ⟨none,.one ⟨false,[.val (.int .i64 a)]⟩⟩:=s.look 13|none
 let some ⟨none,.one ⟨false,[.val (.bool b)]⟩⟩:=s.look 2|none
 let some ⟨none,.one ⟨false,[.ref 0]⟩⟩:=s.look 7|none
 let some ⟨none,.one ⟨false,[.val (.int .i64 c)]⟩⟩:=s.look 11|none
 let some ⟨none,.one ⟨false,[.val (.int .i64 d)]⟩⟩:=s.look 12|none
 let some (.row true 69 (.pair (.int .i64) (.pair (.int .i64) (.int .i64))) e):=s.ent 0|none
 some (a,b,c,d,e)
def cW:Lp iA where
 h:=⟨[55,56,59,60,61,62,63,64,65,66,67,68,69,70,7,57,58,13],[],[0],[]⟩
 JL:=Jk
 JE:=Ji
 XL:=Jo
 XE:=fun _=>Ji
 q:=fun j=>match j with | _=> .exit 10
 tags:= [0]
 lt:=sm
 fuel:=fun(a,_,c,d,e)=>a.natAbs + c.natAbs + d.natAbs + e.length
 fix:=fun(_,b,c,d,_) (a,_,_,_,e)=>(a,b,c,d,e)
 σ:= [(0,0)]
 rd:=wJ
theorem Io:LoopOk prog (memN [51,52,13,55,56,59,60,61,62,63,64,65,66,67,68,69,70,7,57,58,53,54,12]) cW.F (Bk (Bk (bf f23 1) 0) 0):=by
 refine Lp.ok (tbl:= []) (lf:= []) bB cW (by kernel_rfl) (LOk.nil _) (fun _=>rfl) (fun _ _=>rfl) ?_ ?_ ?_ ?_ (fun _=>rfl) ?_
 ·intro _;kernel_rfl
 ·intro _;kernel_rfl
 ·intro s x h
  have h:wJ s=some x:=h
  unfold wJ at h
  repeat' split at h
  all_goals cases h
  constructor<;>repeat(first|refine aa ‹_› rfl ?_|refine ab rfl ‹_› rfl ?_|rfl)
 ·intro _;kernel_rfl
 ·intro _ _;exact(And.intro (And.intro rfl rfl) trivial)
abbrev li:=Int×Bool×Int×List (Int×(Int×Int))
section
variable (a:Int)(b:Bool)(c:Int)(d:aee)
def pI:Int×Bool×Int×Int×aeh:=((4:Int),b,c,a,d)
def sC:Bool:=ltI 0 a
def sD:Bool:=Lp.fin cW (pI a b c d)
def sE:Int:=z8 .i64 (a - (1:Int))
def sF:aee:=(Lp.res cW (pI a b c d)).2.2.2.2.2
end
def Lw:li→List (Nat×SV)
 |(a,b,c,_)=> [(12,(aep a)),(2,(aeo (.val (.bool b)))),(7,(aeo (.ref 0))),(11,(aep c))]
def Lr:li→List (Nat×Entry)
 |(_,_,_,a)=> [(0,(aex a))]
def LF:Nat→li→List (Nat×SV)
 |_,(a,_,_,_)=> [(7,(aeo (.ref 0))),(12,(aep a))]
def rA:li→LT li
 |(a,b,c,d)=> .ite (sC a) (.need [sD a b c d] (.nrm ((sE a),b,c,(sF a b c d)) [(0,256)])) (.ext 0 [(0,0)])
def zK(s:St):Option li:=do
 let some ⟨none,.one ⟨false,[.val (.int .i64 a)]⟩⟩:=s.look 12|none
 let some ⟨none,.one ⟨false,[.val (.bool b)]⟩⟩:=s.look 2|none
 let some ⟨none,.one ⟨false,[.ref 1]⟩⟩:=s.look 7|none
 let some ⟨none,.one ⟨false,[.val (.int .i64 c)]⟩⟩:=s.look 11|none
 let some (.row true 69 (.pair (.int .i64) (.pair (.int .i64) (.int .i64))) d):=s.ent 1|none
 some (a,b,c,d)
def dw:Lp li where
 h:=⟨[51,52,13,55,56,59,60,61,62,63,64,65,66,67,68,69,70,7,57,58,53,54,12],[],[0],[]⟩
 JL:=Lw
 JE:=Lr
 XL:=LF
 XE:=fun _=>Lr
 q:=fun j=>match j with | _=> .exit 8
 tags:= [0]
 lt:=rA
 fuel:=fun(a,_,c,d)=>a.natAbs + c.natAbs + d.length
 fix:=fun(_,b,c,_) (a,_,_,d)=>(a,b,c,d)
 σ:= [(0,1)]
 rd:=zK
theorem Kp:LoopOk prog (memN [44,45,46,47,50,12,51,52,13,55,56,59,60,61,62,63,64,65,66,67,68,69,70,7,57,58,53,54,48,49,11]) dw.F (Bk (bf f23 1) 0):=by
 refine Lp.ok (tbl:= []) (lf:= [cW.F]) bB dw (by kernel_rfl) (LOk.allT (l:= [Bk (Bk (bf f23 1) 0) 0]) (by kernel_rfl) (.cons Io (.nil _))) (fun _=>rfl) (fun _ _=>rfl) ?_ ?_ ?_ ?_ (fun _=>rfl) ?_
 ·intro _;kernel_rfl
 ·intro _;kernel_rfl
 ·intro s x h
  have h:zK s=some x:=h
  unfold zK at h
  repeat' split at h
  all_goals cases h
  constructor<;>repeat(first|refine aa ‹_› rfl ?_|refine ab rfl ‹_› rfl ?_|rfl)
 ·intro _;kernel_rfl
 ·intro _ _;exact(And.intro rfl trivial)
abbrev ow:=Int×Int×Bool×Int×List (Int×(Int×Int))×List Int
section
variable (a b:Int)(c:Bool)(d:Int)(e:aee)
def rM:Int×Bool×Int×aeh:=(b,c,a,e)
def vQ:Bool:=ltI a d
def vR:Bool:=Lp.fin dw (rM a b c e)
def vS:Int:=z8 .i64 (a + (1:Int))
def vT:aee:=(Lp.res dw (rM a b c e)).2.2.2.2
end
def OK:ow→List (Nat×SV)
 |(a,b,c,_,_,_)=> [(11,(aep a)),(3,(aeo (.ptr 0 0))),(1,(aep b)),(2,(aeo (.val (.bool c)))),(7,(aeo (.ref 1)))]
def Oy:ow→List (Nat×Entry)
 |(_,_,_,a,b,c)=> [(0,(.box 26 [aen a,.ref 2])),(2,(aeq c)),(1,(aex b))]
def Pg:Nat→ow→List (Nat×SV)
 |_,(_,_,_,_,_,_)=> [(7,(aeo (.ref 1)))]
def OV:Nat→ow→List (Nat×Entry)
 |_,(_,_,_,a,b,c)=> [(0,(.box 26 [aen a,.ref 2])),(1,(aex b)),(2,(aeq c))]
def uj:ow→LT ow
 |(a,b,c,d,e,f)=> .ite (vQ a d) (.need [vR a b c e] (.nrm ((vS a),b,c,d,vT a b c e,f) [(0,0),(1,448),(2,2)])) (.ext 0 [(0,0),(1,1),(2,2)])
def DL(s:St):Option ow:=do
 let some ⟨none,.one ⟨false,[.val (.int .i64 a)]⟩⟩:=s.look 11|none
 let some ⟨none,.one ⟨false,[.ptr 128 0]⟩⟩:=s.look 3|none
 let some ⟨none,.one ⟨false,[.val (.int .i64 b)]⟩⟩:=s.look 1|none
 let some ⟨none,.one ⟨false,[.val (.bool c)]⟩⟩:=s.look 2|none
 let some ⟨none,.one ⟨false,[.ref 448]⟩⟩:=s.look 7|none
 let some (.box 26 [.val (.int .i64 d),.ref 0]):=s.ent 128|none
 let some (.row false 2 (.int .i64) f):=s.ent 0|none
 let some (.row true 69 (.pair (.int .i64) (.pair (.int .i64) (.int .i64))) e):=s.ent 448|none
 some (a,b,c,d,e,f)
def fU:Lp ow where
 h:=⟨[44,45,46,47,50,12,51,52,13,55,56,59,60,61,62,63,64,65,66,67,68,69,70,7,57,58,53,54,48,49,11],[0,2],[1],[]⟩
 JL:=OK
 JE:=Oy
 XL:=Pg
 XE:=OV
 q:=fun j=>match j with | _=> .exit 6
 tags:= [0]
 lt:=uj
 fuel:=fun(a,b,_,d,e,f)=>a.natAbs + b.natAbs + d.natAbs + e.length + f.length
 fix:=fun(_,b,c,d,_,f) (a,_,_,_,e,_)=>(a,b,c,d,e,f)
 σ:= [(0,128),(2,0),(1,448)]
 rd:=DL
theorem MP:LoopOk prog (fun k=>Nat.blt k Tryz.f23.ntmps) fU.F (bf f23 1):=by
 refine Lp.ok (tbl:= []) (lf:= [dw.F]) bB fU (by kernel_rfl) (LOk.allT (l:= [Bk (bf f23 1) 0]) (by kernel_rfl) (.cons Kp (.nil _))) (fun _=>rfl) (fun _ _=>rfl) ?_ ?_ ?_ ?_ (fun _=>rfl) ?_
 ·intro _;kernel_rfl
 ·intro _;kernel_rfl
 ·intro s x h
  have h:DL s=some x:=h
  unfold DL at h
  repeat' split at h
  all_goals cases h
  constructor<;>repeat(first|refine aa ‹_› rfl ?_|refine ab rfl ‹_› rfl ?_|rfl)
 ·intro _;kernel_rfl
 ·intro _ _;exact(And.intro rfl trivial)
section
variable (a b:Int)(c:Bool)(d:aek)
def GZ:Int×Bool×Int×aeh×aek:=((0:Int),c,a,[],d)
def Ha:Int×Int×Bool×Int×aeh×aek:=((0:Int),b,c,a,((Lp.res fT (GZ a c d)).2.2.2.2).1,d)
def HS:aee:=((Lp.res fU (Ha a b c d)).2.2.2.2.2).1
def HT:Bool:=allT [Lp.fin fT (GZ a c d),Lp.fin fU (Ha a b c d)]
end
def Mq:aem
 | [.one ⟨true,[.val (.int .i64 a),.ref 0]⟩,.one ⟨false,[.val (.int .i64 b)]⟩,.one ⟨false,[.val (.bool c)]⟩],[.row false 2 (.int .i64) d]=>some ⟨aeo (.ref 1),[aeq d],[aex (HS a b c d)],[HT a b c d]⟩
 |_,_=>none
def Tx:PF prog:=PF.ofG prog [] [fT.F,fU.F] bB 23 f23 func23 (LOk.fnT (l:= [bf f23 0,bf f23 1]) (by kernel_rfl) (.cons MO (.cons MP (.nil _)))) Mq (by
 intro _ _ _ h;unfold Mq at h;split at h<;>cases h;kernel_rfl)
abbrev qc:=Int×Int×Int×Int×Int×List (Int×(Int×Bool))×List Int
section
variable (a b c d:Int)(e:aec)(f:aek)
def qJ:Int:=z8 .i64 ((3:Int) * d)
def qK:aeg:= [(a,z8 .i64 (z8 .i64 ((3:Int) * c) + (2:Int)),false),(a,qJ d,false),(a,z8 .i64 (qJ d + (1:Int)),false),(a,z8 .i64 (qJ d + (2:Int)),false)]
def xu:Bool:=ltI a (↑f.length:Int)
def xw:Bool:=a==b
def tR:Int:=z8 .i64 (a + (1:Int))
def xx:Bool:=leN (z6 e + z6 (qK a c d)) 9223372036854775807
def xy:Bool:=leN ((z6 e + z6 (qK a c d)) * 24) 140737488355328
def xz:aec:=e++qK a c d
end
def PW:qc→List (Nat×SV)
 |(a,b,c,d,_,_,_)=> [(10,(aep a)),(4,(aeo (.ptr 0 0))),(1,(aep b)),(9,(aeo (.ref 1))),(2,(aep c)),(3,(aep d))]
def PT:qc→List (Nat×Entry)
 |(_,_,_,_,a,b,c)=> [(0,(.box 26 [aen a,.ref 2])),(2,(aeq c)),(1,(aeB b))]
def Qc:Nat→qc→List (Nat×SV)
 |_,(_,_,_,_,_,_,_)=> [(9,(aeo (.ref 1)))]
def PZ:Nat→qc→List (Nat×Entry)
 |_,(_,_,_,_,a,b,c)=> [(0,(.box 26 [aen a,.ref 2])),(1,(aeB b)),(2,(aeq c))]
def vC:qc→LT qc
 |(a,b,c,d,e,f,g)=> .ite (xu a g) (.ite (xw a b) (.nrm ((tR a),b,c,d,e,f,g) [(0,0),(1,1),(2,2)]) (.need [xx a c d f,xy a c d f] (.nrm ((tR a),b,c,d,e,xz a c d f,g) [(0,0),(1,1920),(2,2)]))) (.ext 0 [(0,0),(1,1),(2,2)])
def EB(s:St):Option qc:=do
 let some ⟨none,.one ⟨false,[.val (.int .i64 a)]⟩⟩:=s.look 10|none
 let some ⟨none,.one ⟨false,[.ptr 128 0]⟩⟩:=s.look 4|none
 let some ⟨none,.one ⟨false,[.val (.int .i64 b)]⟩⟩:=s.look 1|none
 let some ⟨none,.one ⟨false,[.ref 256]⟩⟩:=s.look 9|none
 let some ⟨none,.one ⟨false,[.val (.int .i64 c)]⟩⟩:=s.look 2|none
 let some ⟨none,.one ⟨false,[.val (.int .i64 d)]⟩⟩:=s.look 3|none
 let some (.box 26 [.val (.int .i64 e),.ref 0]):=s.ent 128|none
 let some (.row false 2 (.int .i64) g):=s.ent 0|none
 let some (.row true 100 (.pair (.int .i64) (.pair (.int .i64) .bool)) f):=s.ent 256|none
 some (a,b,c,d,e,f,g)
def gJ:Lp qc where
 h:=⟨[12,13,14,15,16,19,20,21,22,23,24,25,26,27,28,29,30,31,32,33,34,35,36,37,38,39,40,41,42,43,9,17,18,10],[0,2],[1],[]⟩
 JL:=PW
 JE:=PT
 XL:=Qc
 XE:=PZ
 q:=fun j=>match j with | _=> .exit 0
 tags:= [0]
 lt:=vC
 fuel:=fun(a,b,c,d,e,f,g)=>a.natAbs + b.natAbs + c.natAbs + d.natAbs + e.natAbs + f.length + g.length
 fix:=fun(_,b,c,d,e,_,g) (a,_,_,_,_,f,_)=>(a,b,c,d,e,f,g)
 σ:= [(0,128),(2,0),(1,256)]
 rd:=EB
theorem NM:LoopOk prog (fun k=>Nat.blt k Tryz.f82.ntmps) gJ.F (bf f82 0):=by
 refine Lp.ok (tbl:= []) (lf:= []) bB gJ (by kernel_rfl) (LOk.nil _) (fun _=>rfl) (fun _ _=>rfl) ?_ ?_ ?_ ?_ (fun _=>rfl) ?_
 ·intro _;kernel_rfl
 ·intro _;kernel_rfl
 ·intro s x h
  have h:EB s=some x:=h
  unfold EB at h
  repeat' split at h
  all_goals cases h
  constructor<;>repeat(first|refine aa ‹_› rfl ?_|refine ab rfl ‹_› rfl ?_|rfl)
 ·intro _;kernel_rfl
 ·intro _ _;exact(And.intro (And.intro rfl rfl) trivial)
section
variable (a b c d:Int)(e:aek)
def Eo:Int×Int×Int×Int×Int×aeg×aek:=((0:Int),b,c,d,a,[],e)
def yS:aec:=((Lp.res gJ (Eo a b c d e)).2.2.2.2.2.2).1
def FO:Bool:=allT [Lp.fin gJ (Eo a b c d e)]
end
def Nc:aem
 | [.one ⟨true,[.val (.int .i64 a),.ref 0]⟩,.one ⟨false,[.val (.int .i64 b)]⟩,.one ⟨false,[.val (.int .i64 c)]⟩,.one ⟨false,[.val (.int .i64 d)]⟩],[.row false 2 (.int .i64) e]=>some ⟨aeo (.ref 1),[aeq e],[aeB (yS a b c d e)],[FO a b c d e]⟩
 |_,_=>none
def IU:PF prog:=PF.ofG prog [] [gJ.F] bB 82 f82 func82 (LOk.fnT (l:= [bf f82 0]) (by kernel_rfl) (.cons NM (.nil _))) Nc (by
 intro _ _ _ h;unfold Nc at h;split at h<;>cases h;kernel_rfl)
section
variable (a b c:Int)
def HU:ael:=z7 [ByteArray.mk #[97,114,114,105,118,101],ByteArray.mk #[114,101,108,101,97,115,101],ByteArray.mk #[98,108,105,110,100],ByteArray.mk #[101,110,116,101,114],ByteArray.mk #[99,108,101,97,114],ByteArray.mk #[111,99,99,117,112,105,101,100],ByteArray.mk #[115,101,99,111,110,100]][z1 a]? ByteArray.empty
def wU:ael:=HU a++ByteArray.mk #[95]
def Et:ael:=wU a++Bz b++ByteArray.mk #[95]
def yU:ael:=Et a b++Bz c
def vV:Bool:=allT [leI 0 a,ltI a (↑(z6 [ByteArray.mk #[97,114,114,105,118,101],ByteArray.mk #[114,101,108,101,97,115,101],ByteArray.mk #[98,108,105,110,100],ByteArray.mk #[101,110,116,101,114],ByteArray.mk #[99,108,101,97,114],ByteArray.mk #[111,99,99,117,112,105,101,100],ByteArray.mk #[115,101,99,111,110,100]]):Int),ltN a.toNat (z6 [ByteArray.mk #[97,114,114,105,118,101],ByteArray.mk #[114,101,108,101,97,115,101],ByteArray.mk #[98,108,105,110,100],ByteArray.mk #[101,110,116,101,114],ByteArray.mk #[99,108,101,97,114],ByteArray.mk #[111,99,99,117,112,105,101,100],ByteArray.mk #[115,101,99,111,110,100]]),leN (ByteArray.size (HU a) + ByteArray.size (ByteArray.mk #[95])) 9223372036854775807,leI 0 b&&ltI b 1000000000000,leN (ByteArray.size (wU a) + ByteArray.size (Bz b)) 9223372036854775807,leN (ByteArray.size (wU a++Bz b) + ByteArray.size (ByteArray.mk #[95])) 9223372036854775807,leI 0 c&&ltI c 1000000000000,leN (ByteArray.size (Et a b) + ByteArray.size (Bz c)) 9223372036854775807]
end
def Nd:aem
 | [.one ⟨false,[.val (.int .i64 a)]⟩,.one ⟨false,[.val (.int .i64 b)]⟩,.one ⟨false,[.val (.int .i64 c)]⟩],[]=>some ⟨aeo (.val (.string (yU a b c))),[],[],[vV a b c]⟩
 |_,_=>none
def NV:PF prog:=PF.ofG prog [Vl] [] bB 83 f83 func83 (fun c _=>LOk.nil c) Nd (by
 intro _ _ _ h;unfold Nd at h;split at h<;>cases h;kernel_rfl)
abbrev ou:=Int×List (Int×(Int×Bool))×List Int
section
variable (a:Int)(b:aec)(c:aek)
def lm:Int×Int×Bool:=z7 b[z1 a]? ((0:Int),(0:Int),false)
def qI:Bool:=ltI a (↑b.length:Int)
def sL:Bool:=leI 0 a
def sM:Bool:=ltN a.toNat b.length
def zO:Bool:=leI 0 ((lm a b).1)
def zP:Bool:=ltI ((lm a b).1) (↑c.length:Int)
def zQ:Bool:=ltN (z1 ((lm a b).1)) c.length
def zR:Bool:= !(z7 c[z1 ((lm a b).1)]? 0==((lm a b).2).1)==(lm a b).2.2
def zS:Int:=z8 .i64 (a + (1:Int))
end
def OI:ou→List (Nat×SV)
 |(a,_,_)=> [(5,(aep a)),(1,(aeo (.ref 0))),(0,(aeo (.ref 1)))]
def Ow:ou→List (Nat×Entry)
 |(_,a,b)=> [(0,(aeu a)),(1,(aeq b))]
def Pe:Nat→ou→List (Nat×SV)
 |0,(_,_,_)=> [(4,(aeo (.val (.bool false))))]
 |_,_=>[]
def yf:ou→LT ou
 |(a,b,c)=> .ite (qI a b) (.need [sL a,qI a b,sM a b,zO a b,zP a b c,zQ a b c,sL a,qI a b,sM a b,sL a,qI a b,sM a b] (.ite (zR a b c) (.ext 0 [(0,0),(1,1)]) (.nrm ((zS a),b,c) [(0,0),(1,1)]))) (.ext 1 [(0,0),(1,1)])
def DJ(s:St):Option ou:=do
 let some ⟨none,.one ⟨false,[.val (.int .i64 a)]⟩⟩:=s.look 5|none
 let some ⟨none,.one ⟨false,[.ref 1]⟩⟩:=s.look 1|none
 let some ⟨none,.one ⟨false,[.ref 0]⟩⟩:=s.look 0|none
 let some (.row false 100 (.pair (.int .i64) (.pair (.int .i64) .bool)) b):=s.ent 1|none
 let some (.row false 2 (.int .i64) c):=s.ent 0|none
 some (a,b,c)
def jY:Lp ou where
 h:=⟨[6,7,8,9,12,13,14,15,16,17,18,19,20,21,22,23,24,25,26,27,28,29,30,31,4,10,11,5],[0,1],[],[]⟩
 JL:=OI
 JE:=Ow
 XL:=Pe
 XE:=fun _=>Ow
 q:=fun j=>match j with | 0=> .ret | _=> .exit 0
 tags:= [0,1]
 lt:=yf
 fuel:=fun(a,b,c)=>a.natAbs + b.length + c.length
 fix:=fun(_,b,c) (a,_,_)=>(a,b,c)
 σ:= [(0,1),(1,0)]
 rd:=DJ
theorem MN:LoopOk prog (fun k=>Nat.blt k Tryz.f63.ntmps) jY.F (bf f63 0):=by
 refine Lp.ok (tbl:= []) (lf:= []) bB jY (by kernel_rfl) (LOk.nil _) (fun _=>rfl) (fun j _=>by unfold jY;match j with | 0=>rfl | _ + 1=>rfl) ?_ ?_ ?_ ?_ (fun _=>rfl) ?_
 ·intro _;kernel_rfl
 ·intro _;kernel_rfl
 ·intro s x h
  have h:DJ s=some x:=h
  unfold DJ at h
  repeat' split at h
  all_goals cases h
  constructor<;>repeat(first|refine aa ‹_› rfl ?_|refine ab rfl ‹_› rfl ?_|rfl)
 ·intro _;kernel_rfl
 ·intro _ _;exact(And.intro (And.intro trivial rfl) trivial)
section
variable (a:aek)(b:aeg)
def GR:Int×aeg×aek:=((0:Int),b,a)
def AJ:Bool:=bif Nat.beq ((Lp.res jY (GR a b)).1) 0 then false else true
def Eg:Bool:=allT [Lp.fin jY (GR a b)]
end
def Mo:aem
 | [.one ⟨false,[.ref 0]⟩,.one ⟨false,[.ref 1]⟩],[.row false 2 (.int .i64) a,.row false 100 (.pair (.int .i64) (.pair (.int .i64) (.bool))) b]=>some ⟨aeo (.val (.bool (AJ a b))),[aeq a,aeu b],[],[Eg a b]⟩
 |_,_=>none
def wP:PF prog:=PF.ofG prog [] [jY.F] bB 63 f63 func63 (LOk.fnT (l:= [bf f63 0]) (by kernel_rfl) (.cons MN (.nil _))) Mo (by
 intro _ _ _ h;unfold Mo at h;split at h<;>cases h;kernel_rfl)
abbrev ma:=Int×List Int×List Int×List Int×List Int×List (ael×((List (Int×(Int×Bool)))×(List (Int×Int))))
section
variable (a:Int)(b c:aek)(d:ad7)
def nM:aeg:=((z7 d[z1 a]? (tC ad2)).2).1
def tz:Bool:=ltI a (↑d.length:Int)
def xh:Bool:=leI 0 a
def xj:Bool:=ltN a.toNat d.length
def xk:Bool:=Eg b (nM a d)
def xl:Bool:= !AJ b (nM a d)||leN (z6 c + z6 [a]) (9223372036854775807:Nat)
def xm:Bool:= !AJ b (nM a d)||leN ((z6 c + z6 [a]) * (8:Nat)) (140737488355328:Nat)
def xo:Bool:=AJ b (nM a d)
def tA:Int:=z8 .i64 (a + (1:Int))
def xt:aek:=c++ [a]
end
def MB:ma→List (Nat×SV)
 |(a,_,_,_,_,_)=> [(6,(aep a)),(2,(aeo (.ptr 0 0))),(1,(aeo (.ref 1))),(5,(aeo (.ref 2)))]
def MA:ma→List (Nat×Entry)
 |(_,a,b,c,d,e)=> [(0,(.box 35 [.ref 3,.ref 4,.ref 5])),(1,(aeq a)),(3,(aeq c)),(4,(aeq d)),(5,(aes e)),(2,(aer b))]
def MD:Nat→ma→List (Nat×SV)
 |_,(_,_,_,_,_,_)=> [(5,(aeo (.ref 2)))]
def MC:Nat→ma→List (Nat×Entry)
 |_,(_,a,b,c,d,e)=> [(0,(.box 35 [.ref 3,.ref 4,.ref 5])),(1,(aeq a)),(2,(aer b)),(3,(aeq c)),(4,(aeq d)),(5,(aes e))]
def wh:ma→LT ma
 |(a,b,c,d,e,f)=> .ite (tz a f) (.need [xh a,tz a f,xj a f,xk a b f] (.need [xl a b c f,xm a b c f] (.ite (xo a b f) (.nrm ((tA a),b,xt a c,d,e,f) [(0,0),(1,1),(2,1088),(3,3),(4,4),(5,5)]) (.nrm ((tA a),b,c,d,e,f) [(0,0),(1,1),(2,2),(3,3),(4,4),(5,5)])))) (.ext 0 [(0,0),(1,1),(2,2),(3,3),(4,4),(5,5)])
def Bs(s:St):Option ma:=do
 let some ⟨none,.one ⟨false,[.val (.int .i64 a)]⟩⟩:=s.look 6|none
 let some ⟨none,.one ⟨false,[.ptr 320 0]⟩⟩:=s.look 2|none
 let some ⟨none,.one ⟨false,[.ref 3]⟩⟩:=s.look 1|none
 let some ⟨none,.one ⟨false,[.ref 448]⟩⟩:=s.look 5|none
 let some (.box 35 [.ref 0,.ref 1,.ref 2]):=s.ent 320|none
 let some (.row false 2 (.int .i64) b):=s.ent 3|none
 let some (.row false 2 (.int .i64) d):=s.ent 0|none
 let some (.row false 2 (.int .i64) e):=s.ent 1|none
 let some (.row false 60 (.pair .str (.pair (.sl 100 (.pair (.int .i64) (.pair (.int .i64) .bool))) (.sl 103 (.pair (.int .i64) (.int .i64))))) f):=s.ent 2|none
 let some (.row true 2 (.int .i64) c):=s.ent 448|none
 some (a,b,c,d,e,f)
def ju:Lp ma where
 h:=⟨[8,9,10,11,12,15,16,17,18,19,20,21,22,23,24,25,26,5,13,14,6],[0,1,3,4,5],[2],[]⟩
 JL:=MB
 JE:=MA
 XL:=MD
 XE:=MC
 q:=fun j=>match j with | _=> .exit 0
 tags:= [0]
 lt:=wh
 fuel:=fun(a,b,c,d,e,f)=>a.natAbs + b.length + c.length + d.length + e.length + f.length
 fix:=fun(_,b,_,d,e,f) (a,_,c,_,_,_)=>(a,b,c,d,e,f)
 σ:= [(0,320),(1,3),(3,0),(4,1),(5,2),(2,448)]
 rd:=Bs
theorem KW:LoopOk prog (fun k=>Nat.blt k Tryz.f40.ntmps) ju.F (bf f40 0):=by
 refine Lp.ok (tbl:= (T3z [wP])) (lf:= []) bB ju (by kernel_rfl) (LOk.nil _) (fun _=>rfl) (fun _ _=>rfl) ?_ ?_ ?_ ?_ (fun _=>rfl) ?_
 ·intro _;kernel_rfl
 ·intro _;kernel_rfl
 ·intro s x h
  have h:Bs s=some x:=h
  unfold Bs at h
  repeat' split at h
  all_goals cases h
  constructor<;>repeat(first|refine aa ‹_› rfl ?_|refine ab rfl ‹_› rfl ?_|rfl)
 ·intro _;kernel_rfl
 ·intro _ _;exact(And.intro (And.intro rfl rfl) trivial)
section
variable (a b:aek)(c:ad9)(d:aek)
def EH:Int×aek×aek×aek×aek×ad9:=((0:Int),d,[],a,b,c)
def bH:aek:=((Lp.res ju (EH a b c d)).2.2.2).1
def BD:Bool:=allT [Lp.fin ju (EH a b c d)]
end
def Js:aem
 | [.one ⟨true,[.ref 0,.ref 1,.ref 2]⟩,.one ⟨false,[.ref 3]⟩],[.row false 2 (.int .i64) a,.row false 2 (.int .i64) b,.row false 60 (.pair (.str) (.pair (.sl 100 (.pair (.int .i64) (.pair (.int .i64) (.bool)))) (.sl 103 (.pair (.int .i64) (.int .i64))))) c,.row false 2 (.int .i64) d]=>some ⟨aeo (.ref 4),[aeq a,aeq b,aeC c,aeq d],[aer (bH a b c d)],[BD a b c d]⟩
 |_,_=>none
def tQ:PF prog:=PF.ofG prog (T3z [wP]) [ju.F] bB 40 f40 func40 (LOk.fnT (l:= [bf f40 0]) (by kernel_rfl) (.cons KW (.nil _))) Js (by
 intro _ _ _ h;unfold Js at h;split at h<;>cases h;kernel_rfl)
abbrev ot:=Int×List (Int×Int)×List Int
section
variable (a:Int)(b:aej)(c:aek)
def pX:Int×Int:=z7 b[z1 a]? ((0:Int),(0:Int))
def vL:Bool:=ltI a (↑b.length:Int)
def zM:Bool:=leI 0 a
def zN:Bool:=ltN a.toNat b.length
def EC:Bool:=leI 0 ((pX a b).1)
def ED:Bool:=ltI ((pX a b).1) (↑c.length:Int)
def EE:Bool:=ltN (z1 ((pX a b).1)) c.length
def EF:Int:=z8 .i64 (a + (1:Int))
def EG:aek:=List.set c (z1 ((pX a b).1)) ((pX a b).2)
end
def OH:ot→List (Nat×SV)
 |(a,_,_)=> [(9,(aep a)),(8,(aeo (.ref 0))),(7,(aeo (.ref 1)))]
def Ov:ot→List (Nat×Entry)
 |(_,a,b)=> [(0,(aeA a)),(1,(aer b))]
def Pd:Nat→ot→List (Nat×SV)
 |_,_=>[]
def Dw:ot→LT ot
 |(a,b,c)=> .ite (vL a b) (.need [zM a,vL a b,zN a b,zM a,vL a b,zN a b,EC a b,ED a b c,EE a b c] (.nrm ((EF a),b,(EG a b c)) [(0,0),(1,1)])) (.ext 0 [(0,0),(1,1)])
def DI(s:St):Option ot:=do
 let some ⟨none,.one ⟨false,[.val (.int .i64 a)]⟩⟩:=s.look 9|none
 let some ⟨none,.one ⟨false,[.ref 961]⟩⟩:=s.look 8|none
 let some ⟨none,.one ⟨false,[.ref 512]⟩⟩:=s.look 7|none
 let some (.row false 103 (.pair (.int .i64) (.int .i64)) b):=s.ent 961|none
 let some (.row true 2 (.int .i64) c):=s.ent 512|none
 some (a,b,c)
def mT:Lp ot where
 h:=⟨[18,19,20,21,24,25,26,27,28,29,30,31,32,33,34,35,22,23,9],[0,1],[],[]⟩
 JL:=OH
 JE:=Ov
 XL:=Pd
 XE:=fun _=>Ov
 q:=fun j=>match j with | _=> .exit 0
 tags:= [0]
 lt:=Dw
 fuel:=fun(a,b,c)=>a.natAbs + b.length + c.length
 fix:=fun(_,b,_) (a,_,c)=>(a,b,c)
 σ:= [(0,961),(1,512)]
 rd:=DI
theorem MM:LoopOk prog (fun k=>Nat.blt k Tryz.f41.ntmps) mT.F (bf f41 0):=by
 refine Lp.ok (tbl:= (T3z [cX])) (lf:= []) bB mT (by kernel_rfl) (LOk.nil _) (fun _=>rfl) (fun _ _=>rfl) ?_ ?_ ?_ ?_ (fun _=>rfl) ?_
 ·intro _;kernel_rfl
 ·intro _;kernel_rfl
 ·intro s x h
  have h:DI s=some x:=h
  unfold DI at h
  repeat' split at h
  all_goals cases h
  constructor<;>repeat(first|refine aa ‹_› rfl ?_|refine ab rfl ‹_› rfl ?_|rfl)
 ·intro _;kernel_rfl
 ·intro _ _;exact(And.intro rfl trivial)
section
variable (a:Int)(b:ad9)(c:aek)
def CX:Int×aej×aek:=((0:Int),(z7 b[z1 a]? (tC (CTy.pair CTy.str (CTy.pair (CTy.sl (100:TypeId) ad4) (CTy.sl (103:TypeId) ad8))))).2.2,c)
def Ee:aek:=(Lp.res mT (CX a b c)).2.2.2
def Ef:Bool:=allT [leN c.length (1048576:Nat),leI 0 a,ltI a (↑b.length:Int),ltN a.toNat b.length,Lp.fin mT (CX a b c)]
end
def Mn:aem
 | [.one ⟨true,[.ref 0,.ref 1,.ref 2]⟩,.one ⟨false,[.ref 3]⟩,.one ⟨false,[.val (.int .i64 a)]⟩],[.row false 2 (.int .i64) b,.row false 2 (.int .i64) c,.row false 60 (.pair (.str) (.pair (.sl 100 (.pair (.int .i64) (.pair (.int .i64) (.bool)))) (.sl 103 (.pair (.int .i64) (.int .i64))))) d,.row false 2 (.int .i64) e]=>some ⟨aeo (.ref 4),[aeq b,aeq c,aeC d,aeq e],[aer (Ee a d e)],[Ef a d e]⟩
 |_,_=>none
def wO:PF prog:=PF.ofG prog (T3z [cX]) [mT.F] bB 41 f41 func41 (LOk.fnT (l:= [bf f41 0]) (by kernel_rfl) (.cons MM (.nil _))) Mn (by
 intro _ _ _ h;unfold Mn at h;split at h<;>cases h;kernel_rfl)
abbrev lg:=Int×List (Int×(Int×Int))×List (Int×(Int×Int))
section
variable (a:Int)(b c:aee)
def rv:Int×Int×Int:=z7 b[z1 a]? ((0:Int),(0:Int),(0:Int))
def rx:Int×Int×Int:=z7 c[z1 a]? ((0:Int),(0:Int),(0:Int))
def we:Bool:=ltI a (↑b.length:Int)
def wg:Bool:=leI 0 a
def Bf:Bool:=ltN a.toNat b.length
def Bg:Bool:=ltI a (↑c.length:Int)
def Bh:Bool:=ltN a.toNat c.length
def Bi:Bool:= !bif (rv a b).1==(rx a c).1then bif ((rv a b).2).1==((rx a c).2).1then bif (rv a b).2.2==(rx a c).2.2then true else false else false else false
def Bj:Int:=z8 .i64 (a + (1:Int))
end
def Lu:lg→List (Nat×SV)
 |(a,_,_)=> [(5,(aep a)),(0,(aeo (.ref 0))),(1,(aeo (.ref 1)))]
def Lo:lg→List (Nat×Entry)
 |(_,a,b)=> [(0,(aev a)),(1,(aev b))]
def LC:Nat→lg→List (Nat×SV)
 |0,(_,_,_)=> [(4,(aeo (.val (.bool false))))]
 |_,_=>[]
def zG:lg→LT lg
 |(a,b,c)=> .ite (we a b) (.need [wg a,we a b,Bf a b,wg a,Bg a c,Bh a c] (.ite (Bi a b c) (.ext 0 [(0,0),(1,1)]) (.nrm ((Bj a),b,c) [(0,0),(1,1)]))) (.ext 1 [(0,0),(1,1)])
def zI(s:St):Option lg:=do
 let some ⟨none,.one ⟨false,[.val (.int .i64 a)]⟩⟩:=s.look 5|none
 let some ⟨none,.one ⟨false,[.ref 0]⟩⟩:=s.look 0|none
 let some ⟨none,.one ⟨false,[.ref 1]⟩⟩:=s.look 1|none
 let some (.row false 64 (.pair (.int .i64) (.pair (.int .i64) (.int .i64))) b):=s.ent 0|none
 let some (.row false 64 (.pair (.int .i64) (.pair (.int .i64) (.int .i64))) c):=s.ent 1|none
 some (a,b,c)
def iy:Lp lg where
 h:=⟨[11,12,13,14,17,18,19,20,21,22,23,24,25,4,15,16,5],[0,1],[],[]⟩
 JL:=Lu
 JE:=Lo
 XL:=LC
 XE:=fun _=>Lo
 q:=fun j=>match j with | 0=> .ret | _=> .exit 0
 tags:= [0,1]
 lt:=zG
 fuel:=fun(a,b,c)=>a.natAbs + b.length + c.length
 fix:=fun(_,b,c) (a,_,_)=>(a,b,c)
 σ:= [(0,0),(1,1)]
 rd:=zI
theorem Kn:LoopOk prog (fun k=>Nat.blt k Tryz.f8.ntmps) iy.F (bf f8 0):=by
 refine Lp.ok (tbl:= []) (lf:= []) bB iy (by kernel_rfl) (LOk.nil _) (fun _=>rfl) (fun j _=>by unfold iy;match j with | 0=>rfl | _ + 1=>rfl) ?_ ?_ ?_ ?_ (fun _=>rfl) ?_
 ·intro _;kernel_rfl
 ·intro _;kernel_rfl
 ·intro s x h
  have h:zI s=some x:=h
  unfold zI at h
  repeat' split at h
  all_goals cases h
  constructor<;>repeat(first|refine aa ‹_› rfl ?_|refine ab rfl ‹_› rfl ?_|rfl)
 ·intro _;kernel_rfl
 ·intro _ _;exact(And.intro (And.intro trivial rfl) trivial)
section
variable (a b:aeh)
def Ds:Bool:=(↑a.length:Int)!=(↑b.length:Int)
def Dt:Int×aeh×aeh:=((0:Int),a,b)
def zC:Bool:=bif Ds a b then false else bif Nat.beq ((Lp.res iy (Dt a b)).1) 0 then false else true
def zD:Bool:=allT [Ds a b||Lp.fin iy (Dt a b)]
end
def Iy:aem
 | [.one ⟨false,[.ref 0]⟩,.one ⟨false,[.ref 1]⟩],[.row false 64 (.pair (.int .i64) (.pair (.int .i64) (.int .i64))) a,.row false 64 (.pair (.int .i64) (.pair (.int .i64) (.int .i64))) b]=>some ⟨aeo (.val (.bool (zC a b))),[aev a,aev b],[],[zD a b]⟩
 |_,_=>none
def Ey:PF prog:=PF.ofG prog [] [iy.F] bB 8 f8 func8 (LOk.fnT (l:= [bf f8 0]) (by kernel_rfl) (.cons Kn (.nil _))) Iy (by
 intro _ _ _ h;unfold Iy at h;split at h<;>cases h;kernel_rfl)
def Vu:aem
 | [.one ⟨false,[.val (.int .i64 a)]⟩,.one ⟨false,[.val (.int .i64 b)]⟩],[]=>some ⟨.one ⟨true,[aen a,aen b,.val (.bool true)]⟩,[],[],[]⟩
 |_,_=>none
def Sr:PF prog:=PF.ofG prog [] [] bB 66 f66 func66 (fun c _=>LOk.nil c) Vu (by
 intro _ _ _ h;unfold Vu at h;split at h<;>cases h;kernel_rfl)
def QH:aem
 | [.one ⟨false,[.val (.int .i64 a)]⟩,.one ⟨false,[.val (.int .i64 b)]⟩],[]=>some ⟨.one ⟨true,[aen a,aen b,.val (.bool false)]⟩,[],[],[]⟩
 |_,_=>none
def Rt:PF prog:=PF.ofG prog [] [] bB 67 f67 func67 (fun c _=>LOk.nil c) QH (by
 intro _ _ _ h;unfold QH at h;split at h<;>cases h;kernel_rfl)
def mq(a:Int):ael:=Bz a
def Ci(a:Int):Bool:=allT [leI (-9223372036854775808:Int) a,leI a 9223372036854775807]
def MU:aem
 | [.one ⟨false,[.val (.int .i64 a)]⟩],[]=>some ⟨aeo (.val (.string (mq a))),[],[],[Ci a]⟩
 |_,_=>none
def UL:PF prog:=PF.ofG prog [Po] [] bB 84 f84 func84 (fun c _=>LOk.nil c) MU (by
 intro _ _ _ h;unfold MU at h;split at h<;>cases h;kernel_rfl)
section
variable (a b c:Int)
def rG:ael:=z7 Yf[z1 a]? ByteArray.empty
def lj:ael:=rG a++ByteArray.mk #[95]
def rH:ael:=lj a++mq b++ByteArray.mk #[95]
def jg:ael:=rH a b++mq c
def ml:Bool:=allT [leI 0 a,ltI a (↑(z6 Yf):Int),ltN a.toNat (z6 Yf),leN (ByteArray.size (rG a) + ByteArray.size (ByteArray.mk #[95])) 9223372036854775807,Ci b,leN (ByteArray.size (lj a) + ByteArray.size (mq b)) 9223372036854775807,leN (ByteArray.size (lj a++mq b) + ByteArray.size (ByteArray.mk #[95])) 9223372036854775807,Ci c,leN (ByteArray.size (rH a b) + ByteArray.size (mq c)) 9223372036854775807]
end
def Ix:aem
 | [.one ⟨false,[.val (.int .i64 a)]⟩,.one ⟨false,[.val (.int .i64 b)]⟩,.one ⟨false,[.val (.int .i64 c)]⟩,.one ⟨false,[.ref 0]⟩,.one ⟨false,[.ref 1]⟩],[.row false 100 (.pair (.int .i64) (.pair (.int .i64) (.bool))) d,.row false 103 (.pair (.int .i64) (.int .i64)) e]=>some ⟨.one ⟨true,[.val (.string (jg a b c)),.ref 0,.ref 1,aen a,aen b,aen c]⟩,[aeu d,aeA e],[],[ml a b c]⟩
 |_,_=>none
def mn:PF prog:=PF.ofG prog [UL] [] bB 68 f68 func68 (fun c _=>LOk.nil c) Ix (by
 intro _ _ _ h;unfold Ix at h;split at h<;>cases h;kernel_rfl)
abbrev bi:=Int×Int×Int×Int×Int×List (Int×(Int×Bool))
section
variable (a b c d e:Int)(f:aec)
def bD:Int:=z8 .i64 ((3:Int) * e)
def bE:aeg:= [(a,z8 .i64 (z8 .i64 ((3:Int) * d) + (2:Int)),false),(a,bD e,false),(a,z8 .i64 (bD e + (1:Int)),false),(a,z8 .i64 (bD e + (2:Int)),false)]
def dG:Bool:=ltI a b
def dH:Bool:= !a !=c||leN (z6 f + z6 (bE a d e)) 9223372036854775807
def dI:Bool:= !a !=c||leN ((z6 f + z6 (bE a d e)) * 24) 140737488355328
def dJ:Bool:=a !=c
def cG:Int:=z8 .i64 (a + (1:Int))
def dK:aec:=f++bE a d e
end
def xE:bi→List (Nat×SV)
 |(a,b,c,d,e,_)=> [(37,(aep a)),(36,(aep b)),(1,(aep c)),(9,(aeo (.ref 0))),(2,(aep d)),(8,(aep e))]
def xC:bi→List (Nat×Entry)
 |(_,_,_,_,_,a)=> [(0,(aeB a))]
def xI:Nat→bi→List (Nat×SV)
 |_,(_,_,_,_,_,_)=> [(9,(aeo (.ref 0)))]
def dr:bi→LT bi
 |(a,b,c,d,e,f)=> .ite (dG a b) (.need [dH a c d e f,dI a c d e f] (.ite (dJ a c) (.nrm ((cG a),b,c,d,e,(dK a d e f)) [(0,1792)]) (.nrm ((cG a),b,c,d,e,f) [(0,0)]))) (.ext 0 [(0,0)])
def kK(s:St):Option bi:=do
 let some ⟨none,.one ⟨false,[.val (.int .i64 a)]⟩⟩:=s.look 37|none
 let some ⟨none,.one ⟨false,[.val (.int .i64 b)]⟩⟩:=s.look 36|none
 let some ⟨none,.one ⟨false,[.val (.int .i64 c)]⟩⟩:=s.look 1|none
 let some ⟨none,.one ⟨false,[.ref 1856]⟩⟩:=s.look 9|none
 let some ⟨none,.one ⟨false,[.val (.int .i64 d)]⟩⟩:=s.look 2|none
 let some ⟨none,.one ⟨false,[.val (.int .i64 e)]⟩⟩:=s.look 8|none
 let some (.row true 100 (.pair (.int .i64) (.pair (.int .i64) .bool)) f):=s.ent 1856|none
 some (a,b,c,d,e,f)
def aw:Lp bi where
 h:=⟨[38,39,10,40,41,42,43,44,45,46,47,48,49,50,51,52,53,54,55,56,57,58,59,60,61,62,63,64,9,65,37],[],[0],[]⟩
 JL:=xE
 JE:=xC
 XL:=xI
 XE:=fun _=>xC
 q:=fun j=>match j with | _=> .exit 0
 tags:= [0]
 lt:=dr
 fuel:=fun(a,b,c,d,e,f)=>a.natAbs + b.natAbs + c.natAbs + d.natAbs + e.natAbs + f.length
 fix:=fun(_,b,c,d,e,_) (a,_,_,_,_,f)=>(a,b,c,d,e,f)
 σ:= [(0,1856)]
 rd:=kK
theorem wG:LoopOk prog (fun k=>Nat.blt k Tryz.f45.ntmps) aw.F (bf f45 0):=by
 refine Lp.ok (tbl:= (T3z [ae,Sr,Rt,mn])) (lf:= []) bB aw (by kernel_rfl) (LOk.nil _) (fun _=>rfl) (fun _ _=>rfl) ?_ ?_ ?_ ?_ (fun _=>rfl) ?_
 ·intro _;kernel_rfl
 ·intro _;kernel_rfl
 ·intro s x h
  have h:kK s=some x:=h
  unfold kK at h
  repeat' split at h
  all_goals cases h
  constructor<;>repeat(first|refine aa ‹_› rfl ?_|refine ab rfl ‹_› rfl ?_|rfl)
 ·intro _;kernel_rfl
 ·intro _ _;exact(And.intro (And.intro rfl rfl) trivial)
section
variable (a:Int)(b:Bool)(c d:Int)(e:aek)
def ew:Int:=z8 .i64 ((3:Int) * d)
def ex:Int:=z8 .i64 (ew d + (1:Int))
def ey:Int:=Int.tmod (z8 .i64 (d + (1:Int))) a
def ez:Int:=z8 .i64 (ax e + ey a d)
def gO:Int×Int×Int×Int×Int×aeg:=((0:Int),ax e,c,d,ey a d,[(c,ex d,true),(ez a d e,(2:Int),false),(ez a d e,(3:Int),false)])
def gP:Int:=z8 .i64 (ew d + (2:Int))
def gQ:aej:= [(c,gP d)]
def bx:ad6:= [((jg 0 c d,[(c,ew d,true)],[(c,ex d)]),(0:Int),c,d),((jg 1 c d,(Lp.res aw (gO a c d e)).2.2.2.2.2.2,gQ c d),(1:Int),c,d)]
def eA:ad6:= [((jg 2 c d,[(c,ex d,true),(ez a d e,(3:Int),true)],gQ c d),(2:Int),c,d)]
def eB:ad6:=bx a c d e++eA a c d e
def bm:ad6:= [((jg 3 c d,[(c,gP d,true)],[(c,z8 .i64 ((3:Int) * ey a d))]),(3:Int),c,d)]
def cj:List ((ael×((aec)×(aej)))×(Int×(Int×Int))):=bif b then eB a c d e++bm a c d else bx a c d e++bm a c d
def eU:Bool:=allT [neI a 0,Lp.fin aw (gO a c d e),ml 0 c d,ml 1 c d,!b||ml 2 c d,!b||leN (z6 (bx a c d e) + z6 (eA a c d e)) 9223372036854775807,!b||leN ((z6 (bx a c d e) + z6 (eA a c d e)) * 88) 140737488355328,!b||ml 3 c d,!b||leN (z6 (eB a c d e) + z6 (bm a c d)) 9223372036854775807,!b||leN ((z6 (eB a c d e) + z6 (bm a c d)) * 88) 140737488355328,b||ml 3 c d,b||leN (z6 (bx a c d e) + z6 (bm a c d)) 9223372036854775807,b||leN ((z6 (bx a c d e) + z6 (bm a c d)) * 88) 140737488355328]
end
def ro:aem
 | [.one ⟨true,[.val (.int .i64 a),.ref 0,.val (.int .i64 _x1),.val (.bool b)]⟩,.one ⟨false,[.val (.int .i64 c)]⟩,.one ⟨false,[.val (.int .i64 d)]⟩],[.row false 2 (.int .i64) e]=>some ⟨aeo (.ref 1),[aeq e],[aew (cj a b c d e)],[eU a b c d e]⟩
 |_,_=>none
def am:PF prog:=PF.ofG prog (T3z [ae,Sr,Rt,mn]) [aw.F] bB 45 f45 func45 (LOk.fnT (l:= [bf f45 0]) (by kernel_rfl) (.cons wG (.nil _))) ro (by
 intro _ _ _ h;unfold ro at h;split at h<;>cases h;kernel_rfl)
section
variable (a b c d e f g:Int)
def bR:ael:=jg a d e
def cL:aec:= [(f,b,true),(g,e,true)]
def bS:aej:= [(f,c),(g,z8 .i64 (e - (1:Int)))]
def bT:Bool:=allT [ml a d e]
end
def eL:aem
 | [.one ⟨false,[.val (.int .i64 a)]⟩,.one ⟨false,[.val (.int .i64 b)]⟩,.one ⟨false,[.val (.int .i64 c)]⟩,.one ⟨false,[.ptr 0 0]⟩,.one ⟨false,[.ptr 1 0]⟩,.one ⟨false,[.ptr 2 0]⟩,.one ⟨false,[.ptr 3 0]⟩],[.box 2 [.val (.int .i64 d)],.box 2 [.val (.int .i64 e)],.box 2 [.val (.int .i64 f)],.box 2 [.val (.int .i64 g)]]=>some ⟨.one ⟨true,[.val (.string (bR a d e)),.ref 4,.ref 5,aen a,aen d,aen e]⟩,[.box 2 [aen d],.box 2 [aen e],.box 2 [aen f],.box 2 [aen g]],[aeB (cL b e f g),.row true 103 ad8 (bS c e f g)],[bT a d e]⟩
 |_,_=>none
def vE:PF prog:=PF.kept (PF.ofG prog (T3z [Sr,mn]) [] bB 69 f69 func69 (fun c _=>LOk.nil c) eL (by
 intro _ _ _ h;unfold eL at h;split at h<;>cases h;kernel_rfl)) [0,1,2,3] (by
 intro vs es r h;have h:eL vs es=some r:=h;unfold eL at h;split at h
 ·cases h;exact List.forall_mem_cons.2 ⟨rfl,List.forall_mem_cons.2 ⟨rfl,List.forall_mem_cons.2 ⟨rfl,List.forall_mem_cons.2 ⟨rfl,fun _ h=>(by cases h)⟩⟩⟩⟩
 ·cases h)
section
variable (a:Int)(b:Bool)(c d:Int)(e:aek)
def gN:aeg:=cL 0 d (z8 .i64 (ax e + c)) (z8 .i64 (ax e + a))
def cO:ad6:= [((bR 4 c d,gN a c d e,bS 1 d (z8 .i64 (ax e + c)) (z8 .i64 (ax e + a))),(4:Int),c,d),((bR 5 c d,gN a c d e,bS 2 d (z8 .i64 (ax e + c)) (z8 .i64 (ax e + a))),(5:Int),c,d)]
def ee:ad6:= [((bR 6 c d,cL 1 d (z8 .i64 (ax e + c)) (z8 .i64 (ax e + a)),bS 3 d (z8 .i64 (ax e + c)) (z8 .i64 (ax e + a))),(6:Int),c,d)]
def ci:List ((ael×((aec)×(aej)))×(Int×(Int×Int))):=bif b then cO a c d e++ee a c d e else cO a c d e
def eT:Bool:=allT [bT 4 c d,bT 5 c d,!b||bT 6 c d,!b||leN (z6 (cO a c d e) + z6 (ee a c d e)) 9223372036854775807,!b||leN ((z6 (cO a c d e) + z6 (ee a c d e)) * 88) 140737488355328]
end
def rn:aem
 | [.one ⟨true,[.val (.int .i64 a),.ref 0,.val (.int .i64 _x1),.val (.bool b)]⟩,.one ⟨false,[.val (.int .i64 c)]⟩,.one ⟨false,[.val (.int .i64 d)]⟩],[.row false 2 (.int .i64) e]=>some ⟨aeo (.ref 1),[aeq e],[aew (ci a b c d e)],[eT a b c d e]⟩
 |_,_=>none
def al:PF prog:=PF.ofG prog (T3z [ae,vE]) [] bB 46 f46 func46 (fun c _=>LOk.nil c) rn (by
 intro _ _ _ h;unfold rn at h;split at h<;>cases h;kernel_rfl)
abbrev bv:=Int×Int×Int×List ((ael×((List (Int×(Int×Bool)))×(List (Int×Int))))×(Int×(Int×Int)))×Int×Int×Bool×List Int
def ef(a b:Int):Bool:=ltI a b
def eg(a b c:Int)(d:Bool)(e:aek):Bool:=eU c d b a e
def ei(a b:Int)(c:List ((ael×((aec)×(aej)))×(Int×(Int×Int))))(d:Int)(e:Bool)(f:aek):Bool:=leN (z6 c + z6 (cj d e b a f)) 9223372036854775807
def ej(a b:Int)(c:List ((ael×((aec)×(aej)))×(Int×(Int×Int))))(d:Int)(e:Bool)(f:aek):Bool:=leN ((z6 c + z6 (cj d e b a f)) * 88) 140737488355328
def ek(a:Int):Int:=z8 .i64 (a + (1:Int))
def em(a b:Int)(c:List ((ael×((aec)×(aej)))×(Int×(Int×Int))))(d:Int)(e:Bool)(f:aek):List ((ael×((aec)×(aej)))×(Int×(Int×Int))):=c++cj d e b a f
def yx:bv→List (Nat×SV)
 |(a,b,c,_,_,_,_,_)=> [(18,(aep a)),(17,(aep b)),(3,(aeo (.ref 0))),(1,(aeo (.ptr 1 0))),(4,(aep c))]
def yt:bv→List (Nat×Entry)
 |(_,_,_,a,b,c,d,e)=> [(1,(.box 53 [aen b,.ref 2,aen c,.val (.bool d)])),(2,(aeq e)),(0,(aew a))]
def yD:Nat→bv→List (Nat×SV)
 |_,(a,_,_,_,_,_,_,_)=> [(3,(aeo (.ref 0))),(18,(aep a))]
def yA:Nat→bv→List (Nat×Entry)
 |_,(_,_,_,a,b,c,d,e)=> [(0,(aew a)),(1,(.box 53 [aen b,.ref 2,aen c,.val (.bool d)])),(2,(aeq e))]
def dU:bv→LT bv
 |(a,b,c,d,e,f,g,i)=> .ite (ef a b) (.need [eg a c e g i,ei a c d e g i,ej a c d e g i] (.nrm ((ek a),b,c,em a c d e g i,e,f,g,i) [(0,576),(1,1),(2,2)])) (.ext 0 [(0,0),(1,1),(2,2)])
def lJ(s:St):Option bv:=do
 let some ⟨none,.one ⟨false,[.val (.int .i64 a)]⟩⟩:=s.look 18|none
 let some ⟨none,.one ⟨false,[.val (.int .i64 b)]⟩⟩:=s.look 17|none
 let some ⟨none,.one ⟨false,[.ref 1]⟩⟩:=s.look 3|none
 let some ⟨none,.one ⟨false,[.ptr 0 0]⟩⟩:=s.look 1|none
 let some ⟨none,.one ⟨false,[.val (.int .i64 c)]⟩⟩:=s.look 4|none
 let some (.box 53 [.val (.int .i64 e),.ref 2,.val (.int .i64 f),.val (.bool g)]):=s.ent 0|none
 let some (.row false 2 (.int .i64) i):=s.ent 2|none
 let some (.row true 62 (.pair (.pair .str (.pair (.sl 100 (.pair (.int .i64) (.pair (.int .i64) .bool))) (.sl 103 (.pair (.int .i64) (.int .i64))))) (.pair (.int .i64) (.pair (.int .i64) (.int .i64)))) d):=s.ent 1|none
 some (a,b,c,d,e,f,g,i)
def aA:Lp bv where
 h:=⟨[19,20,5,21,22,23,24,25,26,3,27,18],[1,2],[0],[]⟩
 JL:=yx
 JE:=yt
 XL:=yD
 XE:=yA
 q:=fun j=>match j with | _=> .exit 2
 tags:= [0]
 lt:=dU
 fuel:=fun(a,b,c,d,e,f,_,i)=>a.natAbs + b.natAbs + c.natAbs + d.length + e.natAbs + f.natAbs + i.length
 fix:=fun(_,b,c,_,e,f,g,i) (a,_,_,d,_,_,_,_)=>(a,b,c,d,e,f,g,i)
 σ:= [(1,0),(2,2),(0,1)]
 rd:=lJ
theorem xM:LoopOk prog (memN [13,14,4,15,16,17,18,19,20,5,21,22,23,24,25,26,3,27,28,12]) aA.F (Bk (bf f18 0) 0):=by
 refine Lp.ok (tbl:= (T3z [ae,am,al])) (lf:= []) bB aA (by kernel_rfl) (LOk.nil _) (fun _=>rfl) (fun _ _=>rfl) ?_ ?_ ?_ ?_ (fun _=>rfl) ?_
 ·intro _;kernel_rfl
 ·intro _;kernel_rfl
 ·intro s x h
  have h:lJ s=some x:=h
  unfold lJ at h
  repeat' split at h
  all_goals cases h
  constructor<;>repeat(first|refine aa ‹_› rfl ?_|refine ab rfl ‹_› rfl ?_|rfl)
 ·intro _;kernel_rfl
 ·intro _ _;exact(And.intro rfl trivial)
abbrev bN:=Int×Int×Int×Int×Bool×List ((ael×((List (Int×(Int×Bool)))×(List (Int×Int))))×(Int×(Int×Int)))×List Int
def cZ(a b c:Int)(d:Bool)(e:List ((ael×((aec)×(aej)))×(Int×(Int×Int))))(f:aek):Int×Int×Int×ad6×Int×Int×Bool×aek:=((0:Int),b,a,e,b,c,d,f)
def fF(a b:Int):Bool:=ltI a b
def fG(a b c:Int)(d:Bool)(e:List ((ael×((aec)×(aej)))×(Int×(Int×Int))))(f:aek):Bool:=Lp.fin aA (cZ a b c d e f)
def fH(a:Int):Int:=z8 .i64 (a + (1:Int))
def fJ(a b c:Int)(d:Bool)(e:List ((ael×((aec)×(aej)))×(Int×(Int×Int))))(f:aek):List ((ael×((aec)×(aej)))×(Int×(Int×Int))):=((Lp.res aA (cZ a b c d e f)).2.2.2.2).1
def Al:bN→List (Nat×SV)
 |(a,b,_,_,_,_,_)=> [(12,(aep a)),(11,(aep b)),(1,(aeo (.ptr 0 0))),(3,(aeo (.ref 1)))]
def Af:bN→List (Nat×Entry)
 |(_,_,a,b,c,d,e)=> [(0,(.box 53 [aen a,.ref 2,aen b,.val (.bool c)])),(2,(aeq e)),(1,(aew d))]
def Ax:Nat→bN→List (Nat×SV)
 |_,(_,_,_,_,_,_,_)=> [(3,(aeo (.ref 1)))]
def Ar:Nat→bN→List (Nat×Entry)
 |_,(_,_,a,b,c,d,e)=> [(0,(.box 53 [aen a,.ref 2,aen b,.val (.bool c)])),(1,(aew d)),(2,(aeq e))]
def fg:bN→LT bN
 |(a,b,c,d,e,f,g)=> .ite (fF a b) (.need [fG a c d e f g] (.nrm ((fH a),b,c,d,e,fJ a c d e f g,g) [(0,0),(1,512),(2,2)])) (.ext 0 [(0,0),(1,1),(2,2)])
def mI(s:St):Option bN:=do
 let some ⟨none,.one ⟨false,[.val (.int .i64 a)]⟩⟩:=s.look 12|none
 let some ⟨none,.one ⟨false,[.val (.int .i64 b)]⟩⟩:=s.look 11|none
 let some ⟨none,.one ⟨false,[.ptr 128 0]⟩⟩:=s.look 1|none
 let some ⟨none,.one ⟨false,[.ref 256]⟩⟩:=s.look 3|none
 let some (.box 53 [.val (.int .i64 c),.ref 0,.val (.int .i64 d),.val (.bool e)]):=s.ent 128|none
 let some (.row false 2 (.int .i64) g):=s.ent 0|none
 let some (.row true 62 (.pair (.pair .str (.pair (.sl 100 (.pair (.int .i64) (.pair (.int .i64) .bool))) (.sl 103 (.pair (.int .i64) (.int .i64))))) (.pair (.int .i64) (.pair (.int .i64) (.int .i64)))) f):=s.ent 256|none
 some (a,b,c,d,e,f,g)
def aE:Lp bN where
 h:=⟨[13,14,4,15,16,17,18,19,20,5,21,22,23,24,25,26,3,27,28,12],[0,2],[1],[]⟩
 JL:=Al
 JE:=Af
 XL:=Ax
 XE:=Ar
 q:=fun j=>match j with | _=> .exit 0
 tags:= [0]
 lt:=fg
 fuel:=fun(a,b,c,d,_,f,g)=>a.natAbs + b.natAbs + c.natAbs + d.natAbs + f.length + g.length
 fix:=fun(_,b,c,d,e,_,g) (a,_,_,_,_,f,_)=>(a,b,c,d,e,f,g)
 σ:= [(0,128),(2,0),(1,256)]
 rd:=mI
theorem zl:LoopOk prog (fun k=>Nat.blt k Tryz.f18.ntmps) aE.F (bf f18 0):=by
 refine Lp.ok (tbl:= (T3z [ae,am,al])) (lf:= [aA.F]) bB aE (by kernel_rfl) (LOk.allT (l:= [Bk (bf f18 0) 0]) (by kernel_rfl) (.cons xM (.nil _))) (fun _=>rfl) (fun _ _=>rfl) ?_ ?_ ?_ ?_ (fun _=>rfl) ?_
 ·intro _;kernel_rfl
 ·intro _;kernel_rfl
 ·intro s x h
  have h:mI s=some x:=h
  unfold mI at h
  repeat' split at h
  all_goals cases h
  constructor<;>repeat(first|refine aa ‹_› rfl ?_|refine ab rfl ‹_› rfl ?_|rfl)
 ·intro _;kernel_rfl
 ·intro _ _;exact(And.intro rfl trivial)
abbrev bw:=Int×Int×List ((ael×((List (Int×(Int×Bool)))×(List (Int×Int))))×(Int×(Int×Int)))×Int×Int×Bool×List Int
def eo(a:Int):Bool:=ltI 0 a
def ep(a b c:Int)(d:Bool)(e:aek):Bool:=eT c d b a e
def eq(a b:Int)(c:List ((ael×((aec)×(aej)))×(Int×(Int×Int))))(d:Int)(e:Bool)(f:aek):Bool:=leN (z6 c + z6 (ci d e b a f)) 9223372036854775807
def er(a b:Int)(c:List ((ael×((aec)×(aej)))×(Int×(Int×Int))))(d:Int)(e:Bool)(f:aek):Bool:=leN ((z6 c + z6 (ci d e b a f)) * 88) 140737488355328
def et(a:Int):Int:=z8 .i64 (a - (1:Int))
def eu(a b:Int)(c:List ((ael×((aec)×(aej)))×(Int×(Int×Int))))(d:Int)(e:Bool)(f:aek):List ((ael×((aec)×(aej)))×(Int×(Int×Int))):=c++ci d e b a f
def yy:bw→List (Nat×SV)
 |(a,b,_,_,_,_,_)=> [(7,(aep a)),(3,(aeo (.ref 0))),(1,(aeo (.ptr 1 0))),(6,(aep b))]
def yu:bw→List (Nat×Entry)
 |(_,_,a,b,c,d,e)=> [(1,(.box 53 [aen b,.ref 2,aen c,.val (.bool d)])),(2,(aeq e)),(0,(aew a))]
def yE:Nat→bw→List (Nat×SV)
 |_,(a,_,_,_,_,_,_)=> [(3,(aeo (.ref 0))),(7,(aep a))]
def yB:Nat→bw→List (Nat×Entry)
 |_,(_,_,a,b,c,d,e)=> [(0,(aew a)),(1,(.box 53 [aen b,.ref 2,aen c,.val (.bool d)])),(2,(aeq e))]
def dV:bw→LT bw
 |(a,b,c,d,e,f,g)=> .ite (eo a) (.need [ep a b d f g,eq a b c d f g,er a b c d f g] (.nrm ((et a),b,eu a b c d f g,d,e,f,g) [(0,512),(1,1),(2,2)])) (.ext 0 [(0,0),(1,1),(2,2)])
def lK(s:St):Option bw:=do
 let some ⟨none,.one ⟨false,[.val (.int .i64 a)]⟩⟩:=s.look 7|none
 let some ⟨none,.one ⟨false,[.ref 1]⟩⟩:=s.look 3|none
 let some ⟨none,.one ⟨false,[.ptr 0 0]⟩⟩:=s.look 1|none
 let some ⟨none,.one ⟨false,[.val (.int .i64 b)]⟩⟩:=s.look 6|none
 let some (.box 53 [.val (.int .i64 d),.ref 2,.val (.int .i64 e),.val (.bool f)]):=s.ent 0|none
 let some (.row false 2 (.int .i64) g):=s.ent 2|none
 let some (.row true 62 (.pair (.pair .str (.pair (.sl 100 (.pair (.int .i64) (.pair (.int .i64) .bool))) (.sl 103 (.pair (.int .i64) (.int .i64))))) (.pair (.int .i64) (.pair (.int .i64) (.int .i64)))) c):=s.ent 1|none
 some (a,b,c,d,e,f,g)
def aB:Lp bw where
 h:=⟨[37,38,41,42,43,44,45,46,3,39,40,7],[1,2],[0],[]⟩
 JL:=yy
 JE:=yu
 XL:=yE
 XE:=yB
 q:=fun j=>match j with | _=> .exit 6
 tags:= [0]
 lt:=dV
 fuel:=fun(a,b,c,d,e,_,g)=>a.natAbs + b.natAbs + c.length + d.natAbs + e.natAbs + g.length
 fix:=fun(_,b,_,d,e,f,g) (a,_,c,_,_,_,_)=>(a,b,c,d,e,f,g)
 σ:= [(1,0),(2,2),(0,1)]
 rd:=lK
theorem xN:LoopOk prog (memN [33,34,6,35,36,7,37,38,41,42,43,44,45,46,3,39,40,47,32]) aB.F (Bk (bf f18 1) 0):=by
 refine Lp.ok (tbl:= (T3z [ae,am,al])) (lf:= []) bB aB (by kernel_rfl) (LOk.nil _) (fun _=>rfl) (fun _ _=>rfl) ?_ ?_ ?_ ?_ (fun _=>rfl) ?_
 ·intro _;kernel_rfl
 ·intro _;kernel_rfl
 ·intro s x h
  have h:lK s=some x:=h
  unfold lK at h
  repeat' split at h
  all_goals cases h
  constructor<;>repeat(first|refine aa ‹_› rfl ?_|refine ab rfl ‹_› rfl ?_|rfl)
 ·intro _;kernel_rfl
 ·intro _ _;exact(And.intro rfl trivial)
abbrev bO:=Int×Int×Int×Int×Bool×List ((ael×((List (Int×(Int×Bool)))×(List (Int×Int))))×(Int×(Int×Int)))×List Int
def da(a b c:Int)(d:Bool)(e:List ((ael×((aec)×(aej)))×(Int×(Int×Int))))(f:aek):Int×Int×ad6×Int×Int×Bool×aek:=(c,a,e,b,c,d,f)
def fK(a b:Int):Bool:=ltI a b
def fL(a b c:Int)(d:Bool)(e:List ((ael×((aec)×(aej)))×(Int×(Int×Int))))(f:aek):Bool:=Lp.fin aB (da a b c d e f)
def fM(a:Int):Int:=z8 .i64 (a + (1:Int))
def fN(a b c:Int)(d:Bool)(e:List ((ael×((aec)×(aej)))×(Int×(Int×Int))))(f:aek):List ((ael×((aec)×(aej)))×(Int×(Int×Int))):=((Lp.res aB (da a b c d e f)).2.2.2).1
def Am:bO→List (Nat×SV)
 |(a,b,_,_,_,_,_)=> [(32,(aep a)),(31,(aep b)),(1,(aeo (.ptr 0 0))),(3,(aeo (.ref 1)))]
def Ag:bO→List (Nat×Entry)
 |(_,_,a,b,c,d,e)=> [(0,(.box 53 [aen a,.ref 2,aen b,.val (.bool c)])),(2,(aeq e)),(1,(aew d))]
def Ay:Nat→bO→List (Nat×SV)
 |_,(_,_,_,_,_,_,_)=> [(3,(aeo (.ref 1)))]
def As:Nat→bO→List (Nat×Entry)
 |_,(_,_,a,b,c,d,e)=> [(0,(.box 53 [aen a,.ref 2,aen b,.val (.bool c)])),(1,(aew d)),(2,(aeq e))]
def fh:bO→LT bO
 |(a,b,c,d,e,f,g)=> .ite (fK a b) (.need [fL a c d e f g] (.nrm ((fM a),b,c,d,e,fN a c d e f g,g) [(0,0),(1,448),(2,2)])) (.ext 0 [(0,0),(1,1),(2,2)])
def mJ(s:St):Option bO:=do
 let some ⟨none,.one ⟨false,[.val (.int .i64 a)]⟩⟩:=s.look 32|none
 let some ⟨none,.one ⟨false,[.val (.int .i64 b)]⟩⟩:=s.look 31|none
 let some ⟨none,.one ⟨false,[.ptr 128 0]⟩⟩:=s.look 1|none
 let some ⟨none,.one ⟨false,[.ref 640]⟩⟩:=s.look 3|none
 let some (.box 53 [.val (.int .i64 c),.ref 0,.val (.int .i64 d),.val (.bool e)]):=s.ent 128|none
 let some (.row false 2 (.int .i64) g):=s.ent 0|none
 let some (.row true 62 (.pair (.pair .str (.pair (.sl 100 (.pair (.int .i64) (.pair (.int .i64) .bool))) (.sl 103 (.pair (.int .i64) (.int .i64))))) (.pair (.int .i64) (.pair (.int .i64) (.int .i64)))) f):=s.ent 640|none
 some (a,b,c,d,e,f,g)
def aF:Lp bO where
 h:=⟨[33,34,6,35,36,7,37,38,41,42,43,44,45,46,3,39,40,47,32],[0,2],[1],[]⟩
 JL:=Am
 JE:=Ag
 XL:=Ay
 XE:=As
 q:=fun j=>match j with | _=> .exit 4
 tags:= [0]
 lt:=fh
 fuel:=fun(a,b,c,d,_,f,g)=>a.natAbs + b.natAbs + c.natAbs + d.natAbs + f.length + g.length
 fix:=fun(_,b,c,d,e,_,g) (a,_,_,_,_,f,_)=>(a,b,c,d,e,f,g)
 σ:= [(0,128),(2,0),(1,640)]
 rd:=mJ
theorem zm:LoopOk prog (fun k=>Nat.blt k Tryz.f18.ntmps) aF.F (bf f18 1):=by
 refine Lp.ok (tbl:= (T3z [ae,am,al])) (lf:= [aB.F]) bB aF (by kernel_rfl) (LOk.allT (l:= [Bk (bf f18 1) 0]) (by kernel_rfl) (.cons xN (.nil _))) (fun _=>rfl) (fun _ _=>rfl) ?_ ?_ ?_ ?_ (fun _=>rfl) ?_
 ·intro _;kernel_rfl
 ·intro _;kernel_rfl
 ·intro s x h
  have h:mJ s=some x:=h
  unfold mJ at h
  repeat' split at h
  all_goals cases h
  constructor<;>repeat(first|refine aa ‹_› rfl ?_|refine ab rfl ‹_› rfl ?_|rfl)
 ·intro _;kernel_rfl
 ·intro _ _;exact(And.intro rfl trivial)
section
variable (a b:Int)(c:Bool)(d:aek)
def oL:Int×Int×Int×Int×Bool×ad6×aek:=((0:Int),ax d,a,b,c,[],d)
def oM:Int×Int×Int×Int×Bool×ad6×aek:=((0:Int),a,a,b,c,((Lp.res aE (oL a b c d)).2.2.2.2.2.2).1,d)
def pb:List ((ael×((aec)×(aej)))×(Int×(Int×Int))):=((Lp.res aF (oM a b c d)).2.2.2.2.2.2).1
def pc:Bool:=allT [Lp.fin aE (oL a b c d),Lp.fin aF (oM a b c d)]
end
def tF:aem
 | [.one ⟨true,[.val (.int .i64 a),.ref 0,.val (.int .i64 b),.val (.bool c)]⟩],[.row false 2 (.int .i64) d]=>some ⟨aeo (.ref 1),[aeq d],[aew (pb a b c d)],[pc a b c d]⟩
 |_,_=>none
def CT:PF prog:=PF.ofG prog (T3z [ae,am,al]) [aE.F,aF.F] bB 18 f18 func18 (LOk.fnT (l:= [bf f18 0,bf f18 1]) (by kernel_rfl) (.cons zl (.cons zm (.nil _)))) tF (by
 intro _ _ _ h;unfold tF at h;split at h<;>cases h;kernel_rfl)
section
variable (a b:Int)
def iO:Int:=bif a==4 then(1:Int)else bif a==5 then(1:Int)else bif a==6 then(1:Int)else(0:Int)
def iP:Int:=bif a==4 then b else bif a==5 then b else bif a==6 then b else b
def iQ:Int:=bif a==4 then(1:Int)else bif a==5 then(2:Int)else bif a==6 then(3:Int)else(0:Int)
end
def rU:aem
 | [.one ⟨true,[.val (.string _x0),.ref 0,.ref 1,.val (.int .i64 a),.val (.int .i64 b),.val (.int .i64 _x3)]⟩],[.row false 100 (.pair (.int .i64) (.pair (.int .i64) (.bool))) c,.row false 103 (.pair (.int .i64) (.int .i64)) d]=>some ⟨.one ⟨true,[aen (iO a),aen (iP a b),aen (iQ a)]⟩,[aeu c,aeA d],[],[]⟩
 |_,_=>none
def dc:PF prog:=PF.ofG prog [] [] bB 21 f21 func21 (fun c _=>LOk.nil c) rU (by
 intro _ _ _ h;unfold rU at h;split at h<;>cases h;kernel_rfl)
end Go.SX
