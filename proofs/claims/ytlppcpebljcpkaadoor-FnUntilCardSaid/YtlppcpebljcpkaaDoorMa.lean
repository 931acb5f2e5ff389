/- What functions of the program come to, and what that says in plain words: part 1. -/
import Derived.Test.YtlppcpebljcpkaaDoorSh
import Derived.Test.YtlppcpebljcpkaaDoorTXq
import Derived.Lib.ItoaLen
import Derived.Test.YtlppcpebljcpkaaDoorTXh
import Derived.Test.YtlppcpebljcpkaaDoorProg
import Derived.Test.YtlppcpebljcpkaaDoorTXi
set_option linter.unusedSimpArgs false
set_option linter.unusedVariables false
open Bool renaming and_eq_true → q8
open Int renaming toNat_natCast → q9
open Bool renaming or_true → w4
open List renaming getElem?_eq_some_iff → w5
open Int renaming toNat → w6
open List renaming length → w7
open Option renaming getD → w8
open Go.IntKind renaming wrap → w9
namespace Go.SX
open Go.Proofs
def T3z {P : Program} (l : List (PF P)) : List (PF P) :=l.flatMap fun p=>[p,PF.lend p,PF.fz p]
abbrev Kg:Type:=ByteArray
abbrev Ka:CTy:=(CTy.sl 2 (CTy.int IntKind.i64))
abbrev Kb:CTy:=(CTy.int IntKind.i64)
abbrev Kc:CTy:=(CTy.int IntKind.u8)
abbrev Kd:Type:=List (List Int)
abbrev Kf:Type:=List Int
abbrev Kl:=Entry.row false 2 Kb
abbrev Km:=Entry.row false 5 Kc
abbrev Kn:=Entry.row false 28 (CTy.sl (2:TypeId) Kb)
abbrev Kj(c:Cell):SV:=.one ⟨false,[c]⟩
abbrev Kk(a:Int):SV:=.one ⟨false,[.val (.int .i64 a)]⟩
abbrev Kh:Type:=List SV→List Entry→Option Out
abbrev Ki(a:Int):Cell:=.val (.int .i64 a)
end Go.SX
namespace Go.SX
open Go.Proofs Go.Proofs.Tryd
theorem Ji:Tryd.prog.globalNamed "internal/strconv.uint64pow10" =some 1:=by kernel_rfl
theorem Iu:(⟨1,99,90,.int .u64,Lib.pow10Tab⟩:GEnt)∈GT:=by
 have e:Lib.pow10Tab=Jt:=by decide +kernel
 rw [e]
 exact List.mem_cons_of_mem _ (List.mem_singleton.2 rfl)
theorem Fm(w:World)(k:Nat)(os:Array Obj):RowKit.Below w.heap.size w (Sort.grow (w.drewN k) os):=by
 refine⟨rfl,rfl,rfl,?_,fun b hb=> ?_⟩
 ·simp [Sort.grow,World.drewN]
 ·simp [Sort.grow,World.drewN,Array.getElem?_append_left hb]
def vY:PF prog:=PF.itoa 47 (fun n w h0 h1 hg=>(Tryd.strconv_FormatInt_10 n h0 h1 w (IW hg Iu Ji)).mono fun e w' ⟨he,k,os,hw⟩=>⟨he,hw ▸ Fm w k os⟩)
def jM:PF prog:=PF.join 48 9 (fun bk o c xs sep w h1 h2 h3 h4 h5=>Tryd.strings_Join bk o c xs sep w h1 h2 h3 h4 h5)
def DX(m:Int):Kh
 | [.one ⟨false,[.val (.int .i64 x)]⟩],[]=>some ⟨Kj (.val (.string (aV x))),[],[],[leI 0 x&&ltI x m]⟩
 |_,_=>none
def CB(m:Int):Prop:=
 ∀ args es o,DX m args es=some o→(∀ b∈o.nd,b=true)→ ∀ (mem:Nat→Option Obj) (ρ:Nm) (w:World),HpL w mem es ρ w→
  Calls prog 26 (args.map (SV.conc ρ)).toArray w fun e w'=> ∃ ρ':Nm,Ext (memB w mem) (fun i=>Nat.blt i es.length) ρ ρ'∧e= .returned (o.res.conc ρ')∧o.es.length=es.length∧
   o.res.inU (fun i=>Nat.blt i (o.es++o.new).length)∧HpL w mem (o.es++o.new) ρ' w'
def PF.dec(m:Int)(hk:CB m):PF prog where
 k:=26
 F:=DX m
 ok:=hk
end Go.SX
namespace Go.SX
open Go.Proofs Go.Proofs.Tryd
set_option maxRecDepth 100000
theorem aU:Tryd.prog.follows .mixedOrders=true:=by kernel_rfl
def ar(a b c:Int):Bool:=bif leI b a then leI a c else false
def xB:Kh
 | [.one ⟨false,[.val (.int .i64 a)]⟩,.one ⟨false,[.val (.int .i64 b)]⟩,.one ⟨false,[.val (.int .i64 c)]⟩],[]=>some ⟨Kj (.val (.bool (ar a b c))),[],[],[]⟩
 |_,_=>none
def ka:PF prog:=PF.ofG prog [] [] aU 50 f50 func50 (fun c _=>LOk.nil c) xB (by
 intro _ _ _ h;unfold xB at h;split at h<;>cases h;kernel_rfl)
def eD(a b c:Int):Bool:=bif leI b a then leI a c else false
def wc:Kh
 | [.one ⟨false,[.val (.int .i64 a)]⟩,.one ⟨false,[.val (.int .i64 b)]⟩,.one ⟨false,[.val (.int .i64 c)]⟩],[]=>some ⟨Kj (.val (.bool (eD a b c))),[],[],[]⟩
 |_,_=>none
def si:PF prog:=PF.ofG prog [] [] aU 52 f52 func52 (fun c _=>LOk.nil c) wc (by
 intro _ _ _ h;unfold wc at h;split at h<;>cases h;kernel_rfl)
def blk(p:Int):Int:=Int.tdiv p 3
def inR(a lo hi:Int):Bool:=leI lo a&&leI a hi
theorem mW{a lo hi:Int}:inR a lo hi=true↔lo≤a∧a≤hi:=by simp [inR]
theorem xg(a lo hi:Int):(bif leI lo a then leI a hi else false)=inR a lo hi:=by
 unfold inR;cases leI lo a <;> rfl
def jS(a:Int):Bool:=bif leI 97 a then leI a 122 else false
def sw:Kh
 | [.one ⟨false,[.val (.int .u8 a)]⟩],[]=>some ⟨Kj (.val (.bool (jS a))),[],[],[]⟩
 |_,_=>none
def pq:PF prog:=PF.ofG prog [] [] aU 84 f84 func84 (fun c _=>LOk.nil c) sw (by
 intro _ _ _ h;unfold sw at h;split at h<;>cases h;kernel_rfl)
def qi(a:Int):Bool:=bif leI 48 a then leI a 57 else false
def tR:Kh
 | [.one ⟨false,[.val (.int .u8 a)]⟩],[]=>some ⟨Kj (.val (.bool (qi a))),[],[],[]⟩
 |_,_=>none
def At:PF prog:=PF.ofG prog [] [] aU 90 f90 func90 (fun c _=>LOk.nil c) tR (by
 intro _ _ _ h;unfold tR at h;split at h<;>cases h;kernel_rfl)
def ni(a:Int):Bool:=bif bif jS a then true else qi a then true else a==95
def tS:Kh
 | [.one ⟨false,[.val (.int .u8 a)]⟩],[]=>some ⟨Kj (.val (.bool (ni a))),[],[],[]⟩
 |_,_=>none
def tY:PF prog:=PF.ofG prog [pq,At] [] aU 83 f83 func83 (fun c _=>LOk.nil c) tS (by
 intro _ _ _ h;unfold tS at h;split at h<;>cases h;kernel_rfl)
abbrev eo:=Int×Kg
section
variable (a:Int)(b:Kg)
def jl:Bool:=ltI a (↑(ByteArray.size b):Int)
def rU:Bool:=leI 0 a
def oJ:Bool:= !ni (↑(UInt8.toNat (w8 b[w6 a]? (0:UInt8))):Int)
def rV:Int:=w9 .i64 (a + (1:Int))
end
def wG:eo→List (Nat×SV)
 |(a,b)=> [(3,(Kk a)),(0,(Kj (.val (.string b))))]
def wB:eo→List (Nat×Entry)
 |(_,_)=> []
def wQ:Nat→eo→List (Nat×SV)
 |0,(_,_)=> [(2,(Kj (.val (.bool false))))]
 |_,_=>[]
def iE:eo→LT eo
 |(a,b)=> .ite (jl a b) (.need [rU a,jl a b] (.ite (oJ a b) (.ext 0 []) (.nrm ((rV a),b) []))) (.ext 1 [])
def ny(s:St):Option eo:=do
 let some ⟨none,.one ⟨false,[.val (.int .i64 a)]⟩⟩:=s.look 3|none
 let some ⟨none,.one ⟨false,[.val (.string b)]⟩⟩:=s.look 0|none
 some (a,b)
def aR:Lp eo where
 h:=⟨[4,5,6,7,10,11,12,13,14,2,8,9,3],[],[],[]⟩
 JL:=wG
 JE:=wB
 XL:=wQ
 XE:=fun _=>wB
 q:=fun j=>match j with | 0=> .ret | _=> .exit 0
 tags:= [0,1]
 lt:=iE
 fuel:=fun(a,b)=>a.natAbs + b.size
 fix:=fun(_,b) (a,_)=>(a,b)
 σ:= []
 rd:=ny
theorem vq:LoopOk prog (fun k=>Nat.blt k Tryd.f72.ntmps) aR.F (eZ f72 0):=by
 refine Lp.ok (tbl:= [ka,tY,pq]) (lf:= []) aU aR (by kernel_rfl) (LOk.nil _) (fun _=>rfl) (fun j _=>by unfold aR;match j with | 0=>rfl | _ + 1=>rfl) ?_ ?_ ?_ ?_ (fun _=>rfl) ?_
 ·intro _;kernel_rfl
 ·intro _;kernel_rfl
 ·intro s x h
  have h:ny s=some x:=h
  unfold ny at h
  repeat' split at h
  all_goals cases h
  exact⟨al ‹_› rfl (al ‹_› rfl (rfl)),rfl⟩
 ·intro _;kernel_rfl
 ·intro _ _;exact(And.intro (And.intro trivial rfl) trivial)
section
variable (a:Kg)
def nj:Bool:=Nat.beq ((Lp.res aR ((0:Int),a)).1) 0
def nk:Bool:=ar (↑(ByteArray.size a):Int) 1 12
def qX:Bool:=bif nj a then false else bif nk a then jS (↑(UInt8.toNat (w8 a[w6 0]? (0:UInt8))):Int)else false
def qY:Bool:=allT [Lp.fin aR ((0:Int),a),nj a||(!(nk a&&true)||leI 0 0),nj a||(!(nk a&&true)||ltI 0 (↑(ByteArray.size a):Int))]
end
def uC:Kh
 | [.one ⟨false,[.val (.string a)]⟩],[]=>some ⟨Kj (.val (.bool (qX a))),[],[],[qY a]⟩
 |_,_=>none
def BR:PF prog:=PF.ofG prog [ka,tY,pq] [aR.F] aU 72 f72 func72 (LOk.fnT (l:= [eZ f72 0]) (by kernel_rfl) (.cons vq (.nil _))) uC (by
 intro _ _ _ h;unfold uC at h;split at h<;>cases h;kernel_rfl)
def dR:List Kg:=
 [{ data:= #[(112:UInt8),(114:UInt8),(111:UInt8),(103:UInt8),(114:UInt8),(97:UInt8),(109:UInt8)] },
 {data:= #[(105:UInt8),(110:UInt8)] },{ data:= #[(118:UInt8),(97:UInt8),(114:UInt8)] },
 {data:= #[(111:UInt8),(117:UInt8),(116:UInt8)] },{ data:= #[(103:UInt8),(117:UInt8),(97:UInt8),(114:UInt8),(100:UInt8)] },
 {data:= #[(101:UInt8),(110:UInt8),(100:UInt8)] },{ data:= #[(97:UInt8),(110:UInt8),(100:UInt8)] },
 {data:= #[(111:UInt8),(114:UInt8)] },{ data:= #[(110:UInt8),(111:UInt8),(116:UInt8)] },
 {data:= #[(116:UInt8),(114:UInt8),(117:UInt8),(101:UInt8)] },
 {data:= #[(102:UInt8),(97:UInt8),(108:UInt8),(115:UInt8),(101:UInt8)] },{ data:= #[(111:UInt8),(110:UInt8)] },
 {data:= #[(111:UInt8),(102:UInt8),(102:UInt8)] },{ data:= #[(114:UInt8),(105:UInt8),(115:UInt8),(101:UInt8)] },
 {data:= #[(108:UInt8),(97:UInt8),(116:UInt8),(99:UInt8),(104:UInt8)] },
 {data:= #[(99:UInt8),(111:UInt8),(117:UInt8),(110:UInt8),(116:UInt8)] },
 {data:= #[(112:UInt8),(97:UInt8),(105:UInt8),(114:UInt8)] }]
def qy:Kh
 | [],[]=>some ⟨Kj (.ref 0),[],[.row true 9 (CTy.str) (dR)],[]⟩
 |_,_=>none
def nr:PF prog:=PF.ofG prog [] [] aU 25 f25 func25 (fun c _=>LOk.nil c) qy (by
 intro _ _ _ h;unfold qy at h;split at h<;>cases h;kernel_rfl)
abbrev bH:=Int×Kg×List Kg
section
variable (a:Int)(b:Kg)(c:List Kg)
def eX:Bool:=ltI a (↑c.length:Int)
def gF:Bool:=leI 0 a
def gG:Bool:=ltN a.toNat c.length
def gH:Bool:=ByteArray.toList (w8 c[w6 a]? ByteArray.empty)==ByteArray.toList b
def gI:Int:=w9 .i64 (a + (1:Int))
end
def uf:bH→List (Nat×SV)
 |(a,b,_)=> [(4,(Kk a)),(3,(Kj (.ref 0))),(0,(Kj (.val (.string b))))]
def uc:bH→List (Nat×Entry)
 |(_,_,a)=> [(0,(.row true 9 (CTy.str) a))]
def ul:Nat→bH→List (Nat×SV)
 |0,(a,_,_)=> [(2,(Kk a))]
 |_,_=>[]
def fM:bH→LT bH
 |(a,b,c)=> .ite (eX a c) (.need [gF a,eX a c,gG a c] (.ite (gH a b c) (.ext 0 [(0,0)]) (.nrm ((gI a),b,c) [(0,0)]))) (.ext 1 [(0,0)])
def kQ(s:St):Option bH:=do
 let some ⟨none,.one ⟨false,[.val (.int .i64 a)]⟩⟩:=s.look 4|none
 let some ⟨none,.one ⟨false,[.ref 128]⟩⟩:=s.look 3|none
 let some ⟨none,.one ⟨false,[.val (.string b)]⟩⟩:=s.look 0|none
 let some (.row true 9 (.str) c):=s.ent 128|none
 some (a,b,c)
def ay:Lp bH where
 h:=⟨[6,7,8,9,12,13,14,15,16,17,18,2,10,11,4],[0],[],[]⟩
 JL:=uf
 JE:=uc
 XL:=ul
 XE:=fun _=>uc
 q:=fun j=>match j with | 0=> .ret | _=> .exit 0
 tags:= [0,1]
 lt:=fM
 fuel:=fun(a,b,c)=>a.natAbs + b.size + c.length
 fix:=fun(_,b,c) (a,_,_)=>(a,b,c)
 σ:= [(0,128)]
 rd:=kQ
theorem sP:LoopOk prog (fun k=>Nat.blt k Tryd.f73.ntmps) ay.F (eZ f73 0):=by
 refine Lp.ok (tbl:= [nr]) (lf:= []) aU ay (by kernel_rfl) (LOk.nil _) (fun _=>rfl) (fun j _=>by unfold ay;match j with | 0=>rfl | _ + 1=>rfl) ?_ ?_ ?_ ?_ (fun _=>rfl) ?_
 ·intro _;kernel_rfl
 ·intro _;kernel_rfl
 ·intro s x h
  have h:kQ s=some x:=h
  unfold kQ at h
  repeat' split at h
  all_goals cases h
  constructor<;>repeat(first|refine al ‹_› rfl ?_|refine bW rfl ‹_› rfl ?_|rfl)
 ·intro _;kernel_rfl
 ·intro _ _;exact(And.intro (And.intro trivial rfl) trivial)
section
variable (a:Kg)
def ke:Int×Kg×List Kg:=((0:Int),a,dR)
def ln:Int:=bif Nat.beq ((Lp.res ay (ke a)).1) 0 then ((Lp.res ay (ke a)).2).1else(-1:Int)
def lp:Bool:=allT [Lp.fin ay (ke a)]
end
def rr:Kh
 | [.one ⟨false,[.val (.string a)]⟩],[]=>some ⟨Kk (ln a),[],[],[lp a]⟩
 |_,_=>none
def yj:PF prog:=PF.ofG prog [nr] [ay.F] aU 73 f73 func73 (LOk.fnT (l:= [eZ f73 0]) (by kernel_rfl) (.cons sP (.nil _))) rr (by
 intro _ _ _ h;unfold rr at h;split at h<;>cases h;kernel_rfl)
def fe(a:Kg)(b:Int):Int:=ibs a b
def iZ:Kh
 | [.one ⟨false,[.val (.string a)]⟩,.one ⟨false,[.val (.int .u8 b)]⟩],[]=>some ⟨Kk (fe a b),[],[],[]⟩
 |_,_=>none
def ox:PF prog:=PF.ofG prog [] [] aU 91 f91 func91 (fun c _=>LOk.nil c) iZ (by
 intro _ _ _ h;unfold iZ at h;split at h<;>cases h;kernel_rfl)
def jC(a:Kg)(b:Int):Int:=fe a b
def qm:Kh
 | [.one ⟨false,[.val (.string a)]⟩,.one ⟨false,[.val (.int .u8 b)]⟩],[]=>some ⟨Kk (jC a b),[],[],[]⟩
 |_,_=>none
def mJ:PF prog:=PF.ofG prog [ox] [] aU 85 f85 func85 (fun c _=>LOk.nil c) qm (by
 intro _ _ _ h;unfold qm at h;split at h<;>cases h;kernel_rfl)
abbrev iq:=Int×Int×Kg×Kg
section
variable (a b:Int)(c d:Kg)
def gw:Bool:=ltI (w9 .i64 (a + b)) (↑(ByteArray.size c):Int)
def sc:Bool:= !(gw a b c&&true)||leI 0 (w9 .i64 (a + b))
def sd:Bool:= !(gw a b c&&true)||gw a b c
def pD:Bool:=bif gw a b c then leI 0 (jC d (↑(UInt8.toNat (w8 c[w6 (w9 .i64 (a + b))]? (0:UInt8))):Int))else false
def wl:Int:=w9 .i64 (b + (1:Int))
end
def AH:iq→List (Nat×SV)
 |(a,b,c,d)=> [(1,(Kk a)),(7,(Kk b)),(0,(Kj (.val (.string c)))),(2,(Kj (.val (.string d))))]
def AG:iq→List (Nat×Entry)
 |(_,_,_,_)=> []
def AL:Nat→iq→List (Nat×SV)
 |_,(_,a,_,_)=> [(7,(Kk a))]
def lZ:iq→LT iq
 |(a,b,c,d)=> .need [sc a b c,sd a b c] (.ite (pD a b c d) (.nrm (a,wl b,c,d) []) (.ext 0 []))
def qS(s:St):Option iq:=do
 let some ⟨none,.one ⟨false,[.val (.int .i64 a)]⟩⟩:=s.look 1|none
 let some ⟨none,.one ⟨false,[.val (.int .i64 b)]⟩⟩:=s.look 7|none
 let some ⟨none,.one ⟨false,[.val (.string c)]⟩⟩:=s.look 0|none
 let some ⟨none,.one ⟨false,[.val (.string d)]⟩⟩:=s.look 2|none
 some (a,b,c,d)
def bE:Lp iq where
 h:=⟨[8,9,10,11,12,13,14,15,16,17,18,19,20,21,22,23,24,25,7],[],[],[]⟩
 JL:=AH
 JE:=AG
 XL:=AL
 XE:=fun _=>AG
 q:=fun j=>match j with | _=> .exit 0
 tags:= [0]
 lt:=lZ
 fuel:=fun(a,b,c,d)=>a.natAbs + b.natAbs + c.size + d.size
 fix:=fun(a,_,c,d) (_,b,_,_)=>(a,b,c,d)
 σ:= []
 rd:=qS
theorem yS:LoopOk prog (fun k=>Nat.blt k Tryd.f86.ntmps) bE.F (eZ f86 0):=by
 refine Lp.ok (tbl:= [mJ]) (lf:= []) aU bE (by kernel_rfl) (LOk.nil _) (fun _=>rfl) (fun _ _=>rfl) ?_ ?_ ?_ ?_ (fun _=>rfl) ?_
 ·intro _;kernel_rfl
 ·intro _;kernel_rfl
 ·intro s x h
  have h:qS s=some x:=h
  unfold qS at h
  repeat' split at h
  all_goals cases h
  exact⟨al ‹_› rfl (al ‹_› rfl (al ‹_› rfl (al ‹_› rfl (rfl)))),rfl⟩
 ·intro _;kernel_rfl
 ·intro _ _;exact(And.intro rfl trivial)
section
variable (a:Kg)(b:Int)(c:Kg)
def zO:Int×Int×Kg×Kg:=(b,(0:Int),a,c)
def Bl:Int:=((Lp.res bE (zO a b c)).2.2).1
def Bm:Bool:=allT [Lp.fin bE (zO a b c)]
end
def AF:Kh
 | [.one ⟨false,[.val (.string a)]⟩,.one ⟨false,[.val (.int .i64 b)]⟩,.one ⟨false,[.val (.string c)]⟩],[]=>some ⟨Kk (Bl a b c),[],[],[Bm a b c]⟩
 |_,_=>none
def FR:PF prog:=PF.ofG prog [mJ] [bE.F] aU 86 f86 func86 (LOk.fnT (l:= [eZ f86 0]) (by kernel_rfl) (.cons yS (.nil _))) AF (by
 intro _ _ _ h;unfold AF at h;split at h<;>cases h;kernel_rfl)
def gv(a:Kg):Bool:=eD (↑(ByteArray.size a):Int) 1 12
def jG(a:Kg):Bool:=
 bif gv a then
 leI (0:Int)
  (jC
   {
    data:=
     #[(97:UInt8),(98:UInt8),(99:UInt8),(100:UInt8),(101:UInt8),(102:UInt8),(103:UInt8),(104:UInt8),(105:UInt8),
      (106:UInt8),(107:UInt8),(108:UInt8),(109:UInt8),(110:UInt8),(111:UInt8),(112:UInt8),(113:UInt8),(114:UInt8),
      (115:UInt8),(116:UInt8),(117:UInt8),(118:UInt8),(119:UInt8),(120:UInt8),(121:UInt8),(122:UInt8)] }
   (↑(UInt8.toNat (w8 a[w6 (0:Int)]? (0:UInt8))):Int))
 else false
def sa(a:Kg):Bool:=
 bif jG a then
 Bl a (0:Int)
   {
    data:=
     #[(97:UInt8),(98:UInt8),(99:UInt8),(100:UInt8),(101:UInt8),(102:UInt8),(103:UInt8),(104:UInt8),(105:UInt8),
      (106:UInt8),(107:UInt8),(108:UInt8),(109:UInt8),(110:UInt8),(111:UInt8),(112:UInt8),(113:UInt8),(114:UInt8),
      (115:UInt8),(116:UInt8),(117:UInt8),(118:UInt8),(119:UInt8),(120:UInt8),(121:UInt8),(122:UInt8),(48:UInt8),
      (49:UInt8),(50:UInt8),(51:UInt8),(52:UInt8),(53:UInt8),(54:UInt8),(55:UInt8),(56:UInt8),(57:UInt8),
      (95:UInt8)] } ==
  (↑(ByteArray.size a):Int)
 else false
def sb(a:Kg):Bool:=
 allT
 [!(gv a&&true)||leI (0:Int) (0:Int),!(gv a&&true)||ltI (0:Int) (↑(ByteArray.size a):Int),
  !(jG a&&true)||
   Bm a (0:Int)
    {
     data:=
      #[(97:UInt8),(98:UInt8),(99:UInt8),(100:UInt8),(101:UInt8),(102:UInt8),(103:UInt8),(104:UInt8),(105:UInt8),
       (106:UInt8),(107:UInt8),(108:UInt8),(109:UInt8),(110:UInt8),(111:UInt8),(112:UInt8),(113:UInt8),(114:UInt8),
       (115:UInt8),(116:UInt8),(117:UInt8),(118:UInt8),(119:UInt8),(120:UInt8),(121:UInt8),(122:UInt8),(48:UInt8),
       (49:UInt8),(50:UInt8),(51:UInt8),(52:UInt8),(53:UInt8),(54:UInt8),(55:UInt8),(56:UInt8),(57:UInt8),
       (95:UInt8)] }]
def wb:Kh
 | [.one ⟨false,[.val (.string a)]⟩],[]=>some ⟨Kj (.val (.bool (sa a))),[],[],[sb a]⟩
 |_,_=>none
def Cx:PF prog:=PF.ofG prog [si,mJ,FR] [] aU 74 f74 func74 (fun c _=>LOk.nil c) wb (by
 intro _ _ _ h;unfold wb at h;split at h<;>cases h;kernel_rfl)
abbrev ax:=Int×Int×Kg×List Kg
section
variable (a b:Int)(c:Kg)(d:List Kg)
def cD:Bool:=ltI a b
def cE:Bool:=leI 0 a
def cF:Bool:=ltI a (↑d.length:Int)
def cG:Bool:=ltN a.toNat d.length
def cH:Bool:=ByteArray.toList c==ByteArray.toList (w8 d[w6 a]? ByteArray.empty)
def cI:Int:=w9 .i64 (a + (1:Int))
end
def nR:ax→List (Nat×SV)
 |(a,b,c,_)=> [(8,(Kk a)),(7,(Kk b)),(1,(Kj (.val (.string c)))),(0,(Kj (.ref 0)))]
def nQ:ax→List (Nat×Entry)
 |(_,_,_,a)=> [(0,(.row false 9 (CTy.str) a))]
def nT:Nat→ax→List (Nat×SV)
 |0,(a,_,_,_)=> [(4,(Kk a))]
 |_,_=>[]
def cn:ax→LT ax
 |(a,b,c,d)=> .ite (cD a b) (.need [cE a,cF a d,cG a d] (.ite (cH a c d) (.ext 0 [(0,0)]) (.nrm ((cI a),b,c,d) [(0,0)]))) (.ext 1 [(0,0)])
def fk(s:St):Option ax:=do
 let some ⟨none,.one ⟨false,[.val (.int .i64 a)]⟩⟩:=s.look 8|none
 let some ⟨none,.one ⟨false,[.val (.int .i64 b)]⟩⟩:=s.look 7|none
 let some ⟨none,.one ⟨false,[.val (.string c)]⟩⟩:=s.look 1|none
 let some ⟨none,.one ⟨false,[.ref 0]⟩⟩:=s.look 0|none
 let some (.row false 9 (.str) d):=s.ent 0|none
 some (a,b,c,d)
def ag:Lp ax where
 h:=⟨[9,10,5,11,12,13,14,15,16,17,4,18,8],[0],[],[]⟩
 JL:=nR
 JE:=nQ
 XL:=nT
 XE:=fun _=>nQ
 q:=fun j=>match j with | 0=> .ret | _=> .exit 0
 tags:= [0,1]
 lt:=cn
 fuel:=fun(a,b,c,d)=>a.natAbs + b.natAbs + c.size + d.length
 fix:=fun(_,b,c,d) (a,_,_,_)=>(a,b,c,d)
 σ:= [(0,0)]
 rd:=fk
theorem np:LoopOk prog (fun k=>Nat.blt k Tryd.f92.ntmps) ag.F (eZ f92 0):=by
 refine Lp.ok (tbl:= []) (lf:= []) aU ag (by kernel_rfl) (LOk.nil _) (fun _=>rfl) (fun j _=>by unfold ag;match j with | 0=>rfl | _ + 1=>rfl) ?_ ?_ ?_ ?_ (fun _=>rfl) ?_
 ·intro _;kernel_rfl
 ·intro _;kernel_rfl
 ·intro s x h
  have h:fk s=some x:=h
  unfold fk at h
  repeat' split at h
  all_goals cases h
  constructor<;>repeat(first|refine al ‹_› rfl ?_|refine bW rfl ‹_› rfl ?_|rfl)
 ·intro _;kernel_rfl
 ·intro _ _;exact(And.intro (And.intro trivial rfl) trivial)
section
variable (a:Kg)(b:List Kg)
def ex:Int×Int×Kg×List Kg:=((0:Int),(↑b.length:Int),a,b)
def gV:Int:=bif Nat.beq ((Lp.res ag (ex a b)).1) 0 then ((Lp.res ag (ex a b)).2).1else(-1:Int)
def gW:Bool:=allT [Lp.fin ag (ex a b)]
end
def kg:Kh
 | [.one ⟨false,[.ref 0]⟩,.one ⟨false,[.val (.string a)]⟩],[.row false 9 (.str) b]=>some ⟨Kk (gV a b),[.row false 9 (CTy.str) b],[],[gW a b]⟩
 |_,_=>none
def gU:PF prog:=PF.ofG prog [] [ag.F] aU 92 f92 func92 (LOk.fnT (l:= [eZ f92 0]) (by kernel_rfl) (.cons np (.nil _))) kg (by
 intro _ _ _ h;unfold kg at h;split at h<;>cases h;kernel_rfl)
def fI(a:Kg)(b:List Kg):Bool:=leI 0 (gV a b)
def fJ(a:Kg)(b:List Kg):Bool:=allT [gW a b]
def ju:Kh
 | [.one ⟨false,[.ref 0]⟩,.one ⟨false,[.val (.string a)]⟩],[.row false 9 (.str) b]=>some ⟨Kj (.val (.bool (fI a b))),[.row false 9 (CTy.str) b],[],[fJ a b]⟩
 |_,_=>none
def fH:PF prog:=PF.ofG prog (T3z [gU]) [] aU 87 f87 func87 (fun c _=>LOk.nil c) ju (by
 intro _ _ _ h;unfold ju at h;split at h<;>cases h;kernel_rfl)
def pk(a:Kg):Bool:=fI a (List.drop (w6 0) (List.take (w6 (↑(w7 ur):Int)) ur))
def pm(a:Kg):Bool:=allT [fJ a (List.drop (w6 0) (List.take (w6 (↑(w7 ur):Int)) ur))]
def sn:Kh
 | [.one ⟨false,[.val (.string a)]⟩],[]=>some ⟨Kj (.val (.bool (pk a))),[],[],[pm a]⟩
 |_,_=>none
def zd:PF prog:=PF.ofG prog (T3z [fH]) [] aU 75 f75 func75 (fun c _=>LOk.nil c) sn (by
 intro _ _ _ h;unfold sn at h;split at h<;>cases h;kernel_rfl)
theorem Lp.scan{X:Type}(p:Lp X)(st:Nat→X)(N:Nat)(P:Nat→Bool)(e:Nat)(hN:N≤p.fuel (st 0))
  (hs: ∀ b,b < N→(p.lt (st b)).nds=true∧(p.lt (st b)).each (fun y=>y=st (b + 1))∧(p.lt (st b)).fn (fun _=>())=(bif P b then .inl 0 else .inr ()))
  (he:(p.lt (st N)).out=some (.inl e)):p.fin (st 0)=true∧(p.res (st 0)).1=bif(List.range N).any P then 0 else e:=by
 have jU:=p.along (fun i (_:Unit)=>st i) (fun _=>()) (fun(b:Nat) (_:Unit)=>bif P b then .inl 0 else .inr ()) e (fun _ _=>True) (List.range N) () trivial (by rw [List.length_range];exact hN)
  (fun i b a hb _=>by
   obtain⟨rfl,dj⟩:=Da hb
   obtain⟨h1,h2,h3⟩:=hs b dj
   exact⟨h1,h2,h3,fun _ _=>trivial⟩) (fun a _=>by rw [List.length_range];exact he)
 rw [nK (P:=P) (j:=0) (fun b=>rfl)]at jU
 exact⟨jU.1,by rw [jU.2]⟩
def bAt(s:Kg)(b:Nat):Int:=((s[b]?.getD 0).toNat:Int)
def ED(c:Int):Bool:=inR c 97 122
def uo(c:Int):Bool:=ED c||(inR c 48 57||c==95)
def rW(s:Kg):Bool:=inR (s.size:Int) 1 12&&(ED (bAt s 0)&&(List.range s.size).all fun b=>uo (bAt s b))
def FL(s:Kg):Bool:=ur.any fun k=>k.toList==s.toList
def vA(s:Kg):Bool:=rW s&& !FL s
def IG:Kg:=⟨#[97,98,99,100,101,102,103,104,105,106,107,108,109,110,111,112,113,114,115,116,117,118,119,120,121,122]⟩
def wbS:Kg:=⟨#[97,98,99,100,101,102,103,104,105,106,107,108,109,110,111,112,113,114,115,116,117,118,119,120,121,122,48,49,50,51,52,53,54,55,56,57,95]⟩
theorem HK: ∀ n:Nat,n < 256→leI 0 (ibs IG (n:Int))=ED (n:Int):=by decide +kernel
theorem Jd: ∀ n:Nat,n < 256→leI 0 (ibs wbS (n:Int))=uo (n:Int):=by decide +kernel
theorem IH(s:Kg)(b:Nat):leI 0 (ibs IG (bAt s b))=ED (bAt s b):=HK _ (UInt8.toNat_lt _)
theorem Jv(s:Kg)(b:Nat):leI 0 (ibs wbS (bAt s b))=uo (bAt s b):=Jd _ (UInt8.toNat_lt _)
theorem GV(c:Int):ni c=uo c:=by
 simp only [ni,jS,qi,xg,uo,ED]
 cases inR c 97 122 <;> cases inR c 48 57 <;> rfl
theorem Gj(s:Kg)(hn:s.size≤9223372036854775807):
  aR.fin ((0:Int),s)=true∧(aR.res ((0:Int),s)).1=bif(List.range s.size).any (fun b=> !uo (bAt s b))then 0 else 1:=by
 refine Lp.scan aR (fun b=>((b:Int),s)) s.size (fun b=> !uo (bAt s b)) 1 (by simp only [aR];omega) (fun b hb=> ?_) ?_
 ·have rZ:ltI (b:Int) (s.size:Int)=true:=pT (by omega)
  have hw:IntKind.i64.wrap ((b:Int) + 1)=((b + 1:Nat):Int):=by rw [bG (by omega) (by omega)];omega
  have Fh:leI (0:Int) (b:Int)=true:=ld (by omega)
  have i2:oJ (b:Int) s= !uo (bAt s b):=by simp only [oJ,GV,q9,bAt]
  refine⟨?_,?_,?_⟩
  ·simp [aR,iE,LT.nds,allT,jl,rU,rZ,Fh]
  ·simp [aR,iE,LT.each,rV,hw]
  ·simp only [aR,iE,LT.fn,jl,rZ,i2,cond_true]
 ·simp [aR,iE,LT.out,jl]
theorem EY(s:Kg)(h:leN s.size 9223372036854775807=true):qX s=rW s∧qY s=true:=by
 obtain⟨w1,w2⟩:=Gj s (jX.1 h)
 have e5:((List.range s.size).any fun b=> !uo (bAt s b))= !(List.range s.size).all fun b=>uo (bAt s b):=by simp [List.all_eq_not_any_not]
 rw [e5]at w2
 have eb:((UInt8.toNat (w8 s[w6 (0:Int)]? (0:UInt8)):Nat):Int)=bAt s 0:=rfl
 have h0:leI 0 0=true:=rfl
 simp only [qX,qY,nj,nk,w1,w2,eb,h0,jS,ar,xg,rW,ED,allT,w4,cond_true]
 cases hr:inR (s.size:Int) 1 12 with
 |false=>cases (List.range s.size).all fun b=>uo (bAt s b) <;> simp [Nat.beq]
 |true=>
  have:=mW.1 hr
  rw [pT (by omega)]
  cases inR (bAt s 0) 97 122 <;> cases (List.range s.size).all fun b=>uo (bAt s b) <;> simp [Nat.beq]
theorem Ju(s:Kg)(hn:s.size≤9223372036854775806):
  bE.fin ((0:Int),(0:Int),s,wbS)=true∧((bE.res ((0:Int),(0:Int),s,wbS)).2.2.1==(s.size:Int))=(List.range s.size).all fun b=>uo (bAt s b):=by
 have hz: ∀ i:Nat,i≤s.size→IntKind.i64.wrap ((0:Int) + (i:Int))=(i:Int):=fun i hi=>by rw [bG (by omega) (by omega)];omega
 have jU:=bE.along (fun i (_:Unit)=>((0:Int),(i:Int),s,wbS)) (fun _=>()) (fun(b:Nat) (_:Unit)=>bif !uo (bAt s b)then .inl 0 else .inr ()) 0 (fun _ _=>True) (List.range s.size) () trivial (by simp only [bE,List.length_range];omega)
  (fun i b a hb _=>by
   obtain⟨rfl,dj⟩:=Da hb
   have rZ:ltI (b:Int) (s.size:Int)=true:=pT (by omega)
   have Fh:leI (0:Int) (b:Int)=true:=ld (by omega)
   have hw:IntKind.i64.wrap ((b:Int) + 1)=((b + 1:Nat):Int):=by rw [bG (by omega) (by omega)];omega
   have ha:gw 0 (b:Int) s=true:=by simp only [gw,hz b (by omega),rZ]
   have hb2:pD 0 (b:Int) s wbS=uo (bAt s b):=by
    simp only [pD,ha,cond_true,hz b (by omega),q9,jC,fe]
    exact Jv s b
   refine⟨?_,?_,?_,fun _ _=>trivial⟩
   ·have hz2:=hz b (by omega)
    rw [Int.zero_add]at hz2
    simp [bE,lZ,LT.nds,allT,sc,sd,ha,hz2]
   ·simp [bE,lZ,LT.each,wl,hw]
   ·simp only [bE,lZ,LT.fn,hb2]
    cases uo (bAt s b) <;> rfl)
  (fun a _=>by
   have rZ:ltI (s.size:Int) (s.size:Int)=false:=by simp
   have ha:gw 0 (s.size:Int) s=false:=by simp only [gw,hz s.size (by omega),rZ]
   rw [List.length_range]
   simp [bE,lZ,LT.out,pD,sc,sd,allT,ha])
 rw [nK (P:=fun b=> !uo (bAt s b)) (j:=0) (fun b=>rfl)]at jU
 refine⟨jU.1,?_⟩
 have k2:bE.res ((0:Int),(0:Int),s,wbS)=_:=jU.2
 rw [k2]
 simp only [Nat.zero_add]
 rw [Bool.eq_iff_iff,beq_iff_eq,List.all_eq_true]
 have hl: ∀ (l:List Nat) (P:Nat→Bool),(l.takeWhile P).length=l.length↔ ∀ x∈l,P x=true:=by
  intro l P
  induction l with
  |nil=>simp
  |cons a r ih=>
   rw [List.takeWhile_cons]
   cases h:P a with
   |false=>simp [h]
   |true=>simp [h,ih]
 have h2:=hl (List.range s.size) (fun b=> !!uo (bAt s b))
 rw [List.length_range]at h2
 constructor
 ·intro h x hx;have:=h2.1 (by exact_mod_cast h) x hx;simpa using this
 ·intro h;exact_mod_cast h2.2 (fun x hx=>by simpa using h x hx)
theorem Ev(s:Kg):sa s=rW s∧sb s=true:=by
 have eb:((UInt8.toNat (w8 s[w6 (0:Int)]? (0:UInt8)):Nat):Int)=bAt s 0:=rfl
 have e0:gv s=inR (s.size:Int) 1 12:=by simp only [gv,eD,xg]
 have e1:jG s=(inR (s.size:Int) 1 12&&ED (bAt s 0)):=by
  have:jG s=bif gv s then leI 0 (ibs IG (bAt s 0))else false:=rfl
  rw [this,e0,IH]
  cases inR (s.size:Int) 1 12 <;> rfl
 have e2:sa s=bif jG s then(bE.res ((0:Int),(0:Int),s,wbS)).2.2.1==(s.size:Int)else false:=rfl
 have e3:sb s=allT [!(gv s&&true)||leI (0) (0),!(gv s&&true)||ltI (0) (↑(ByteArray.size s)),!(jG s&&true)||allT [bE.fin ((0:Int),(0:Int),s,wbS)]]:=rfl
 have h0:leI 0 0=true:=rfl
 rw [e2,e3,e1,e0,h0]
 cases hr:inR (s.size:Int) 1 12 with
 |false=>simp [rW,hr,allT]
 |true=>
  have:=mW.1 hr
  obtain⟨w1,w2⟩:=Ju s (by omega)
  rw [w1,w2,pT (by omega)]
  simp only [rW,hr,allT,Bool.true_and,Bool.and_true,w4,cond_true]
  cases ED (bAt s 0) <;> simp
def gu(a b:Kg):(Unit)→Nat ⊕ (Unit)
 |_=>(bif(ByteArray.toList (b)==ByteArray.toList a)then(.inl 0)else(.inr ()))
def cM(a:Kg)(b:List Kg)(i:Nat):(Unit)→bH
 |_=>((i:Int),a,b)
def kN:bH→Unit
 |(_,_,_)=>()
theorem vL(c:Kg)(e:List Kg) (hn:e.length≤9223372036854775807):
  ay.fin ((0:Int),c,e)=true∧ay.res ((0:Int),c,e)=((iv (gu c) 1 e 0 ()).1,(cM c e) (iv (gu c) 1 e 0 ()).2.1 (iv (gu c) 1 e 0 ()).2.2):=by
 have jU:=ay.along (cM c e) kN (gu c) 1 (fun _ _=>True) e () (by trivial) (by simp only [ay,cM];omega) (fun i b a hb hI=> ?_) (fun a hI=> ?_)
 ·exact jU
 ·obtain⟨⟩:=a
  have dj:=(w5.1 hb).1
  have nX: ∀ d,w8 e[i]? d=b:=fun d=>by rw [hb];rfl
  have hw:=zB dj hn
  have rZ:ltI (i:Int) (e.length:Int)=true:=pT (by omega)
  have Fh:leI (0:Int) (i:Int)=true:=ld (by omega)
  have hltd:ltN i e.length=true:=wq dj
  refine⟨?_,?_,?_,?_⟩
  ·simp [eX,gF,gG,gH,gI,fM,ay,LT.nds,allT,cM,rZ,Fh,hltd,nX]
  ·simp [eX,gF,gG,gH,gI,fM,ay,LT.each,cM,kN,hw]
  ·simp only [eX,gF,gG,gH,gI,fM,ay,LT.fn,cM,kN,gu,q9,rZ,Fh,hltd,nX,cond_true,Bool.cond_self]
  ·exact fun _ _=>trivial
 ·obtain⟨⟩:=a
  simp [eX,gF,gG,gH,gI,fM,ay,LT.out,cM]
def cC(a b:Kg):(Unit)→Nat ⊕ (Unit)
 |_=>(bif(ByteArray.toList a==ByteArray.toList b)then(.inl 0)else(.inr ()))
def aF(a:Kg)(b:List Kg)(i:Nat):(Unit)→ax
 |_=>((i:Int),(↑b.length:Int),a,b)
def fj:ax→Unit
 |(_,_,_,_)=>()
theorem oU(c:Kg)(e:List Kg) (hn:e.length≤9223372036854775807):
  ag.fin ((0:Int),(↑e.length:Int),c,e)=true∧ag.res ((0:Int),(↑e.length:Int),c,e)=((iv (cC c) 1 e 0 ()).1,(aF c e) (iv (cC c) 1 e 0 ()).2.1 (iv (cC c) 1 e 0 ()).2.2):=by
 have jU:=ag.along (aF c e) fj (cC c) 1 (fun _ _=>True) e () (by trivial) (by simp only [ag,aF];omega) (fun i b a hb hI=> ?_) (fun a hI=> ?_)
 ·exact jU
 ·obtain⟨⟩:=a
  have dj:=(w5.1 hb).1
  have nX: ∀ d,w8 e[i]? d=b:=fun d=>by rw [hb];rfl
  have hw:=zB dj hn
  have rZ:ltI (i:Int) (e.length:Int)=true:=pT (by omega)
  have Fh:leI (0:Int) (i:Int)=true:=ld (by omega)
  have hltd:ltN i e.length=true:=wq dj
  refine⟨?_,?_,?_,?_⟩
  ·simp [cD,cE,cF,cG,cH,cI,cn,ag,LT.nds,allT,aF,rZ,Fh,hltd,nX]
  ·simp [cD,cE,cF,cG,cH,cI,cn,ag,LT.each,aF,fj,hw]
  ·simp only [cD,cE,cF,cG,cH,cI,cn,ag,LT.fn,aF,fj,cC,q9,rZ,Fh,hltd,nX,cond_true,Bool.cond_self]
  ·exact fun _ _=>trivial
 ·obtain⟨⟩:=a
  simp [cD,cE,cF,cG,cH,cI,cn,ag,LT.out,aF]
theorem IA:ur.length≤9223372036854775807:=by decide
theorem Ge(s:Kg):ltI (ln s) 0= !FL s∧lp s=true:=by
 have e0:dR=ur:=rfl
 obtain⟨w1,w2⟩:=vL s ur IA
 rw [nK (P:=fun k=>k.toList==s.toList) (j:=0) (fun k=>rfl)]at w2
 simp only [ln,lp,ke,e0,w1,w2,allT,FL,cM]
 cases ur.any fun k=>k.toList==s.toList with
 |false=>exact⟨rfl,rfl⟩
 |true=>
  simp only [cond_true,Nat.beq]
  refine⟨?_,trivial⟩
  exact tv.2 (by omega)
theorem FI(s:Kg):pk s=FL s∧pm s=true:=by
 have e0:List.drop (w6 (0)) (List.take (w6 (↑(w7 ur))) ur)=ur:=rfl
 obtain⟨w1,w2⟩:=oU s ur IA
 rw [nK (P:=fun k=>s.toList==k.toList) (j:=0) (fun k=>rfl)]at w2
 have e1:(fun k:Kg=>s.toList==k.toList)=fun k=>k.toList==s.toList:=funext fun k=>BEq.comm
 rw [e1]at w2
 simp only [pk,pm,e0,fI,fJ,gV,gW,ex,w1,w2,allT,FL,aF]
 cases ur.any fun k=>k.toList==s.toList with
 |false=>exact⟨rfl,rfl⟩
 |true=>
  simp only [cond_true,Nat.beq]
  rw [ld (by omega)];simp
def uR:Kh
 | [.one ⟨false,[.val (.string a)]⟩],[]=>some ⟨Kj (.val (.bool (rW a))),[],[],[leN a.size 9223372036854775807]⟩
 |_,_=>none
def BF:PF prog:=PF.alt BR uR (by
 intro args es o h aP;unfold uR at h;split at h
 ·rename_i a
  cases h
  have aP:=md aP
  have hh:=EY a aP
  obtain⟨e0,en⟩:=hh
  exact la rfl (iW en) (by simp only [e0] <;> rfl) rfl rfl
 ·cases h)
def we:Kh
 | [.one ⟨false,[.val (.string a)]⟩],[]=>some ⟨Kj (.val (.bool (rW a))),[],[],[]⟩
 |_,_=>none
def Cu:PF prog:=PF.alt Cx we (by
 intro args es o h aP;unfold we at h;split at h
 ·rename_i a
  cases h
  have hh:=Ev a
  obtain⟨e0,en⟩:=hh
  exact la rfl (iW en) (by simp only [e0] <;> rfl) rfl rfl
 ·cases h)
def sB:Kh
 | [.one ⟨false,[.val (.string a)]⟩],[]=>some ⟨Kj (.val (.bool (FL a))),[],[],[]⟩
 |_,_=>none
def yW:PF prog:=PF.alt zd sB (by
 intro args es o h aP;unfold sB at h;split at h
 ·rename_i a
  cases h
  have hh:=FI a
  obtain⟨e0,en⟩:=hh
  exact la rfl (iW en) (by simp only [e0] <;> rfl) rfl rfl
 ·cases h)
def cU(a:Int):Bool:=bif bif bif a==7 then true else a==8 then true else a==11 then true else a==12
def sx:Kh
 | [.one ⟨false,[.val (.int .i64 a)]⟩],[]=>some ⟨Kj (.val (.bool (cU a))),[],[],[]⟩
 |_,_=>none
def sX:PF prog:=PF.ofG prog [] [] aU 53 f53 func53 (fun c _=>LOk.nil c) sx (by
 intro _ _ _ h;unfold sx at h;split at h<;>cases h;kernel_rfl)
def qZ(a:Int):Bool:=ar a 1 12
def uD:Kh
 | [.one ⟨false,[.val (.int .i64 a)]⟩],[]=>some ⟨Kj (.val (.bool (qZ a))),[],[],[]⟩
 |_,_=>none
def BT:PF prog:=PF.ofG prog [ka] [] aU 61 f61 func61 (fun c _=>LOk.nil c) uD (by
 intro _ _ _ h;unfold uD at h;split at h<;>cases h;kernel_rfl)
def oK(a:Kg):Bool:=bif rW a then ltI (ln a) 0 else false
def oL(a:Kg):Bool:=allT [leN (ByteArray.size a) 9223372036854775807,!(rW a&&true)||lp a]
def uE:Kh
 | [.one ⟨false,[.val (.string a)]⟩],[]=>some ⟨Kj (.val (.bool (oK a))),[],[],[oL a]⟩
 |_,_=>none
def BU:PF prog:=PF.ofG prog [BF,yj] [] aU 62 f62 func62 (fun c _=>LOk.nil c) uE (by
 intro _ _ _ h;unfold uE at h;split at h<;>cases h;kernel_rfl)
def qj(a b:Int):Bool:=bif bif !qZ a then true else !ar b 0 9999 then true else bif !cU a then b !=0 else false
def oM(a:Int)(b:Kg)(c:Int):Bool:=
 bif qj a c then false else bif a==(1:Int)then oK b else ByteArray.toList b==ByteArray.toList { data:= #[] }
def oN(a:Int)(b:Kg)(c:Int):Bool:=allT [qj a c||(!a==1||oL b)]
def uF:Kh
 | [.one ⟨true,[.val (.int .i64 a),.val (.string b),.val (.int .i64 c)]⟩],[]=>some ⟨Kj (.val (.bool (oM a b c))),[],[],[oN a b c]⟩
 |_,_=>none
def BV:PF prog:=PF.ofG prog [sX,ka,BT,BU] [] aU 49 f49 func49 (fun c _=>LOk.nil c) uF (by
 intro _ _ _ h;unfold uF at h;split at h<;>cases h;kernel_rfl)
def qT(a:Int)(b:Kg)(c:Int):Bool:=bif oM a b c then leI 7 a else false
def qU(a:Int)(b:Kg)(c:Int):Bool:=allT [oN a b c]
def ux:Kh
 | [.one ⟨true,[.val (.int .i64 a),.val (.string b),.val (.int .i64 c)]⟩],[]=>some ⟨Kj (.val (.bool (qT a b c))),[],[],[qU a b c]⟩
 |_,_=>none
def BN:PF prog:=PF.ofG prog [BV] [] aU 23 f23 func23 (fun c _=>LOk.nil c) ux (by
 intro _ _ _ h;unfold ux at h;split at h<;>cases h;kernel_rfl)
def ac(a b c d e:Int):Bool:=bif bif a==9 then a==9 else a==10 then bif bif ar c 0 1 then d==0 else false then e==0 else false else bif a==11 then bif bif ar c 0 b then ar d 0 1 else false then e==0 else false else bif a==12 then bif d==0 then bif bif ar c 0 b then e==0 else false then true else bif c==w9 .i64 (b + (1:Int))then e==1 else false else false else bif bif ar c 0 b then d==0 else false then e==0 else false
def qB:Kh
 | [.one ⟨true,[.val (.int .i64 a),.val (.string _x1),.val (.int .i64 b)]⟩,.one ⟨true,[.val (.int .i64 c),.val (.int .i64 d),.val (.int .i64 e)]⟩],[]=>some ⟨Kj (.val (.bool (ac a b c d e))),[],[],[]⟩
 |_,_=>none
def nt:PF prog:=PF.ofG prog [ka] [] aU 24 f24 func24 (fun c _=>LOk.nil c) qB (by
 intro _ _ _ h;unfold qB at h;split at h<;>cases h;kernel_rfl)
def oa(a:Int):Bool:=bif bif bif a==7 then true else a==8 then true else a==11 then true else a==12
def rn:Kh
 | [.one ⟨false,[.val (.int .i64 a)]⟩],[]=>some ⟨Kj (.val (.bool (oa a))),[],[],[]⟩
 |_,_=>none
def yf:PF prog:=PF.ofG prog [] [] aU 63 f63 func63 (fun c _=>LOk.nil c) rn (by
 intro _ _ _ h;unfold rn at h;split at h<;>cases h;kernel_rfl)
def pB(a:Kg):Bool:=bif rW a then !FL a else false
def vZ:Kh
 | [.one ⟨false,[.val (.string a)]⟩],[]=>some ⟨Kj (.val (.bool (pB a))),[],[],[]⟩
 |_,_=>none
def Cv:PF prog:=PF.ofG prog [Cu,yW] [] aU 64 f64 func64 (fun c _=>LOk.nil c) vZ (by
 intro _ _ _ h;unfold vZ at h;split at h<;>cases h;kernel_rfl)
def pC(a:Int)(b:Kg)(c:Int):Bool:=
 bif bif !eD a (1:Int) (12:Int)then true else !(a==(1:Int))== !ByteArray.toList b==ByteArray.toList { data:= #[] } then
 false
 else
 bif oa a then eD c (0:Int) (9999:Int)
 else bif c==(0:Int)then bif a !=(1:Int)then true else pB b else false
def wa:Kh
 | [.one ⟨true,[.val (.int .i64 a),.val (.string b),.val (.int .i64 c)]⟩],[]=>some ⟨Kj (.val (.bool (pC a b c))),[],[],[]⟩
 |_,_=>none
def Cw:PF prog:=PF.ofG prog [si,yf,Cv] [] aU 51 f51 func51 (fun c _=>LOk.nil c) wa (by
 intro _ _ _ h;unfold wa at h;split at h<;>cases h;kernel_rfl)
def qH(a:Int)(b:Kg)(c:Int):Bool:=bif pC a b c then leI 7 a else false
def ut:Kh
 | [.one ⟨true,[.val (.int .i64 a),.val (.string b),.val (.int .i64 c)]⟩],[]=>some ⟨Kj (.val (.bool (qH a b c))),[],[],[]⟩
 |_,_=>none
def BK:PF prog:=PF.ofG prog [Cw] [] aU 28 f28 func28 (fun c _=>LOk.nil c) ut (by
 intro _ _ _ h;unfold ut at h;split at h<;>cases h;kernel_rfl)
def dB(a b c d e:Int):Bool:=bif bif a==7 then a==7 else a==8 then bif bif eD c 0 b then d==0 else false then e==0 else false else bif a==11 then bif bif eD c 0 b then eD d 0 1 else false then e==0 else false else bif a==12 then bif d==0 then bif bif eD c 0 b then e==0 else false then true else bif c==w9 .i64 (b + (1:Int))then e==1 else false else false else bif bif eD c 0 1 then d==0 else false then e==0 else false
def ro:Kh
 | [.one ⟨true,[.val (.int .i64 a),.val (.string _x1),.val (.int .i64 b)]⟩,.one ⟨true,[.val (.int .i64 c),.val (.int .i64 d),.val (.int .i64 e)]⟩],[]=>some ⟨Kj (.val (.bool (dB a b c d e))),[],[],[]⟩
 |_,_=>none
def ow:PF prog:=PF.ofG prog [si] [] aU 29 f29 func29 (fun c _=>LOk.nil c) ro (by
 intro _ _ _ h;unfold ro at h;split at h<;>cases h;kernel_rfl)
def Dt(k:Int):Bool:=k==7||(k==8||(k==11||k==12))
def Ab(k:Int)(s:Kg)(n:Int):Bool:=inR k 1 12&&(inR n 0 9999&&((Dt k||n==0)&&(bif k==1 then vA s else s.toList== [])))
def aB(k:Int)(s:Kg)(n:Int):Bool:=Ab k s n&&leI 7 k
def dQ(k n a b c:Int):Bool:=ac k n a b c
theorem CV:ByteArray.toList { data:= #[] } = []:=by rw [Go.Lib.toList_data]
theorem Ia{s:Kg}(h:vA s=true):(s.toList== [])=false:=by
 simp only [vA,rW,q8,mW]at h
 have h1:s.size=s.toList.length:=by rw [Go.Lib.size_eq,Go.Lib.toList_data]
 cases hs:s.toList with
 |nil=>
  rw [hs]at h1
  have h2:s.size=0:=h1
  omega
 |cons a l=>rfl
theorem IE{n:Int}(h:(n==0)=true):inR n 0 9999=true:=by
 have:n=0:=by simpa using h
 rw [this];rfl
theorem EX(k:Int)(s:Kg)(n:Int)(h:leN s.size 9223372036854775807=true):oM k s n=Ab k s n∧oN k s n=true:=by
 obtain⟨e1,e2⟩:=Ge s
 have e3:oK s=vA s:=by simp only [oK,e1,vA];cases rW s <;> rfl
 have e4:oL s=true:=by simp only [oL,e2,h,allT,w4,cond_true]
 simp only [oM,oN,qj,e3,e4,qZ,ar,xg,CV,cU,Ab,Dt,allT,w4,cond_true]
 refine⟨?_,trivial⟩
 simp only [bne]
 generalize (bif k==1 then vA s else s.toList== [])=q
 generalize inR k 1 12=q1
 generalize inR n 0 9999=q2
 generalize (k==7)=q3
 generalize (k==8)=q4
 generalize (k==11)=q5
 generalize (k==12)=q6
 generalize (n==0)=q7
 revert q q1 q2 q3 q4 q5 q6 q7
 decide
theorem Eu(k:Int)(s:Kg)(n:Int):pC k s n=Ab k s n:=by
 have e3:pB s=vA s:=by simp only [pB,vA];cases rW s <;> rfl
 simp only [pC,e3,eD,xg,CV,oa,Ab,Dt]
 by_cases h1:k=1
 ·subst h1
  have z7:((1:Int)==7)=false:=rfl
  have z8:((1:Int)==8)=false:=rfl
  have z11:((1:Int)==11)=false:=rfl
  have z12:((1:Int)==12)=false:=rfl
  have z1:((1:Int)==1)=true:=rfl
  have zn:((1:Int)!=1)=false:=rfl
  have zr:inR (1:Int) 1 12=true:=rfl
  rw [z7,z8,z11,z12,z1,zn,zr]
  have hs:vA s=true→(s.toList== [])=false:=Ia
  have h0:(n==0)=true→inR n 0 9999=true:=IE
  generalize (s.toList== [])=q at hs ⊢
  generalize (n==0)=q2 at h0 ⊢
  generalize inR n 0 9999=q3 at h0 ⊢
  generalize vA s=q4 at hs ⊢
  revert q q2 q3 q4
  decide
 ·have z1:(k==1)=false:=by simpa using h1
  have zn:(k !=1)=true:=by simpa using h1
  rw [z1,zn]
  have h0:(n==0)=true→inR n 0 9999=true:=IE
  generalize (s.toList== [])=q
  generalize (n==0)=q2 at h0 ⊢
  generalize inR n 0 9999=q3 at h0 ⊢
  generalize inR k 1 12=q1
  generalize (k==7)=p3
  generalize (k==8)=p4
  generalize (k==11)=p5
  generalize (k==12)=p6
  generalize vA s=p7
  revert q q1 q2 q3 p3 p4 p5 p6 p7
  decide
theorem DQ(k:Int)(s:Kg)(n:Int)(h:leN s.size 9223372036854775807=true):qT k s n=aB k s n∧qU k s n=true:=by
 obtain⟨e1,e2⟩:=EX k s n h
 simp only [qT,qU,e1,e2,aB,allT,cond_true]
 refine⟨?_,trivial⟩
 cases Ab k s n <;> rfl
theorem DE(k:Int)(s:Kg)(n:Int):qH k s n=aB k s n:=by
 simp only [qH,Eu,aB]
 cases Ab k s n <;> rfl
theorem lQ{k:Int}{s:Kg}{n:Int}(h:aB k s n=true):(7≤k∧k≤12)∧(0≤n∧n≤9999)∧(Dt k=true∨n=0):=by
 simp only [aB,Ab,q8,mW,qs,Bool.or_eq_true,beq_iff_eq]at h
 obtain⟨⟨h1,h2,h3,_⟩,h4⟩:=h
 exact⟨⟨h4,h1.2⟩,h2,h3⟩
theorem kinds{k:Int}(h:7≤k∧k≤12):k=7∨k=8∨k=9∨k=10∨k=11∨k=12:=by omega
theorem DO{k n a b c:Int}(h:7≤k∧k≤12):dB k n a b c=dQ k n a b c:=by
 rcases kinds h with rfl | rfl | rfl | rfl | rfl | rfl <;> rfl
theorem oz{k n a b c:Int}(h:dQ k n a b c=true)(hn:0≤n∧n≤9999):(0≤a∧a≤10000)∧(b=0∨b=1)∧(c=0∨c=1):=by
 have hw:IntKind.i64.wrap (n + 1)=n + 1:=bG (by omega) (by omega)
 simp only [dQ,ac,ar,xg,hw]at h
 cases h1:(bif k==9 then k==9 else k==10)with
 |true=>
  rw [h1]at h
  cases h2:inR a 0 1 <;> rw [h2]at h <;> simp at h
  have:=mW.1 h2
  omega
 |false=>
  rw [h1]at h
  cases h3:k==11 with
  |true=>
   rw [h3]at h
   cases h2:inR a 0 n <;> cases h4:inR b 0 1 <;> rw [h2]at h <;> simp [h4]at h
   have:=mW.1 h2
   have:=mW.1 h4
   omega
  |false=>
   rw [h3]at h
   cases h5:k==12 with
   |true=>
    rw [h5]at h
    cases h2:inR a 0 n <;> rw [h2]at h <;> simp at h
    ·omega
    ·have:=mW.1 h2
     omega
   |false=>
    rw [h5]at h
    cases h2:inR a 0 n <;> rw [h2]at h <;> simp at h
    have:=mW.1 h2
    omega
def uN:Kh
 | [.one ⟨true,[.val (.int .i64 a),.val (.string b),.val (.int .i64 c)]⟩],[]=>some ⟨Kj (.val (.bool (aB a b c))),[],[],[leN b.size 9223372036854775807]⟩
 |_,_=>none
def mc:PF prog:=PF.alt BN uN (by
 intro args es o h aP;unfold uN at h;split at h
 ·rename_i a b c
  cases h
  have aP:=md aP
  have hh:=DQ a b c aP
  obtain⟨e0,en⟩:=hh
  exact la rfl (iW en) (by simp only [e0] <;> rfl) rfl rfl
 ·cases h)
def uL:Kh
 | [.one ⟨true,[.val (.int .i64 a),.val (.string b),.val (.int .i64 c)]⟩],[]=>some ⟨Kj (.val (.bool (aB a b c))),[],[],[]⟩
 |_,_=>none
def qN:PF prog:=PF.alt BK uL (by
 intro args es o h aP;unfold uL at h;split at h
 ·rename_i a b c
  cases h
  have hh:=DE a b c
  have e0:=hh
  exact la rfl (fun _ h=>by cases h) (by simp only [e0] <;> rfl) rfl rfl
 ·cases h)
abbrev cV:=Int×List Int
section
variable (a:Int)(b:Kf)
def gT:Bool:=ltI a (↑b.length:Int)
def jn:Bool:=leI 0 a
def jo:Bool:=ltN a.toNat b.length
def jp:Bool:= !ar (w8 b[w6 a]? 0) 0 1
def jq:Int:=w9 .i64 (a + (1:Int))
end
def wI:cV→List (Nat×SV)
 |(a,_)=> [(5,(Kk a)),(0,(Kj (.ref 0)))]
def wD:cV→List (Nat×Entry)
 |(_,a)=> [(0,(Kl a))]
def wS:Nat→cV→List (Nat×SV)
 |0,(_,_)=> [(4,(Kj (.val (.bool false))))]
 |_,_=>[]
def iF:cV→LT cV
 |(a,b)=> .ite (gT a b) (.need [jn a,gT a b,jo a b] (.ite (jp a b) (.ext 0 [(0,0)]) (.nrm ((jq a),b) [(0,0)]))) (.ext 1 [(0,0)])
def nA(s:St):Option cV:=do
 let some ⟨none,.one ⟨false,[.val (.int .i64 a)]⟩⟩:=s.look 5|none
 let some ⟨none,.one ⟨false,[.ref 0]⟩⟩:=s.look 0|none
 let some (.row false 2 (.int .i64) b):=s.ent 0|none
 some (a,b)
def aS:Lp cV where
 h:=⟨[6,7,8,9,12,13,14,15,16,17,4,10,11,5],[0],[],[]⟩
 JL:=wI
 JE:=wD
 XL:=wS
 XE:=fun _=>wD
 q:=fun j=>match j with | 0=> .ret | _=> .exit 0
 tags:= [0,1]
 lt:=iF
 fuel:=fun(a,b)=>a.natAbs + b.length
 fix:=fun(_,b) (a,_)=>(a,b)
 σ:= [(0,0)]
 rd:=nA
theorem vt:LoopOk prog (fun k=>Nat.blt k Tryd.f43.ntmps) aS.F (eZ f43 0):=by
 refine Lp.ok (tbl:= [ka]) (lf:= []) aU aS (by kernel_rfl) (LOk.nil _) (fun _=>rfl) (fun j _=>by unfold aS;match j with | 0=>rfl | _ + 1=>rfl) ?_ ?_ ?_ ?_ (fun _=>rfl) ?_
 ·intro _;kernel_rfl
 ·intro _;kernel_rfl
 ·intro s x h
  have h:nA s=some x:=h
  unfold nA at h
  repeat' split at h
  all_goals cases h
  constructor<;>repeat(first|refine al ‹_› rfl ?_|refine bW rfl ‹_› rfl ?_|rfl)
 ·intro _;kernel_rfl
 ·intro _ _;exact(And.intro (And.intro trivial rfl) trivial)
def rf(a:Int)(b:Kf):Bool:=bif Nat.beq ((Lp.res aS ((0:Int),b)).1) 0 then false else(↑b.length:Int)==a
def rg(a:Kf):Bool:=allT [Lp.fin aS ((0:Int),a)]
def uK:Kh
 | [.one ⟨false,[.ref 0]⟩,.one ⟨false,[.val (.int .i64 a)]⟩],[.row false 2 (.int .i64) b]=>some ⟨Kj (.val (.bool (rf a b))),[Kl b],[],[rg b]⟩
 |_,_=>none
def Ca:PF prog:=PF.ofG prog [ka] [aS.F] aU 43 f43 func43 (LOk.fnT (l:= [eZ f43 0]) (by kernel_rfl) (.cons vt (.nil _))) uK (by
 intro _ _ _ h;unfold uK at h;split at h<;>cases h;kernel_rfl)
def dU(a:Int):Int:=bif bif a==1 then a==1 else bif a==2 then a==2 else a==3 then(0:Int)else bif bif a==4 then a==4 else bif a==7 then a==7 else bif a==8 then a==8 else a==9 then(1:Int)else(2:Int)
def tT:Kh
 | [.one ⟨false,[.val (.int .i64 a)]⟩],[]=>some ⟨Kk (dU a),[],[],[]⟩
 |_,_=>none
def tZ:PF prog:=PF.ofG prog [] [] aU 44 f44 func44 (fun c _=>LOk.nil c) tT (by
 intro _ _ _ h;unfold tT at h;split at h<;>cases h;kernel_rfl)
def bu(a:Bool):Int:=bif a then(1:Int)else(0:Int)
def wd:Kh
 | [.one ⟨false,[.val (.bool a)]⟩],[]=>some ⟨Kk (bu a),[],[],[]⟩
 |_,_=>none
def wu:PF prog:=PF.ofG prog [] [] aU 45 f45 func45 (fun c _=>LOk.nil c) wd (by
 intro _ _ _ h;unfold wd at h;split at h<;>cases h;kernel_rfl)
section
variable (a b c d e f:Int)
def aY:Bool:=bif bif d==1 then e==0 else false then f==0 else false
def bq:Bool:=(bif aY d e f then(0:Int)else d)==0
def bC:Bool:=bif bq d e f then e !=f else false
def bI:Int:=w9 .i64 ((bif aY d e f then(0:Int)else b) + (1:Int))
def bJ:Int:=bif bC d e f then bu (ltI a (bI b d e f))else bif bq d e f then(0:Int)else bif aY d e f then(0:Int)else d
def cu:Int:=bu (bif bif e==1 then f==1 else false then bJ a b d e f==0 else false)
def cv:Int:=bif bC d e f then bI b d e f else bif bq d e f then(0:Int)else bif aY d e f then(0:Int)else b
def cw:Int:=bif bC d e f then(0:Int)else bif bq d e f then(0:Int)else bif aY d e f then(0:Int)else c
def cz:Int:=bJ a b d e f
end
def uH:Kh
 | [.one ⟨false,[.val (.int .i64 a)]⟩,.one ⟨true,[.val (.int .i64 b),.val (.int .i64 c),.val (.int .i64 d)]⟩,.one ⟨false,[.val (.int .i64 e)]⟩,.one ⟨false,[.val (.int .i64 f)]⟩],[]=>some ⟨.tup [⟨false,[Ki (cu a b d e f)]⟩,⟨true,[Ki (cv b d e f),Ki (cw c d e f),Ki (cz a b d e f)]⟩],[],[],[]⟩
 |_,_=>none
def BX:PF prog:=PF.ofG prog [wu] [] aU 46 f46 func46 (fun c _=>LOk.nil c) uH (by
 intro _ _ _ h;unfold uH at h;split at h<;>cases h;kernel_rfl)
section
variable (a b c d e:Int)(f:Kf)
def an:Int:=w8 f[w6 0]? 0
def br:Int:=w9 .i64 (c + (1:Int))
def bK:Int:=w9 .i64 (Cp (br c) b (br c) b * an f)
def aO:Int:=bif ltI 1 (↑f.length:Int)then w8 f[w6 1]? 0 else(0:Int)
def bL:Int:=bif aO f==1 then(0:Int)else bif an f==1 then(1:Int)else c
def bM:Int:=bif aO f==1 then(0:Int)else bif bif an f==1 then d==0 else false then Cp (br c) b (br c) b else c
def bN:Int:=w9 .i64 (c - (1:Int))
def bO:Int:=bif an f==1 then(0:Int)else(0:Int)
def bt:Bool:= !ltI 1 (↑f.length:Int)
def bj:Int:=bif a==7 then bu (bif an f==1 then bK b c f==b else false)else bif a==8 then bif an f==1 then(1:Int)else bu (ltI 0 c)else bif a==9 then bu (bif an f==1 then c==0 else false)else bif a==10 then bL c f else bif a==11 then bu (bM b c d f==b)else cu b c e (an f) (aO f)
def aK:Int:=bif a==7 then bK b c f else bif a==8 then bif an f==1 then b else Cp 0 (bN c) (bN c) 0 else bif a==9 then an f else bif a==10 then bL c f else bif a==11 then bM b c d f else cv c e (an f) (aO f)
def aL:Int:=bif a==7 then(0:Int)else bif a==8 then bO f else bif a==9 then(0:Int)else bif a==10 then(0:Int)else bif a==11 then an f else cw d e (an f) (aO f)
def aM:Int:=bif a==7 then(0:Int)else bif a==8 then bO f else bif a==9 then(0:Int)else bif a==10 then(0:Int)else bif a==11 then(0:Int)else cz b c e (an f) (aO f)
def aT:Bool:=allT [ltI 0 (↑f.length:Int),ltN (w6 0) f.length,bt f||leI 0 1,bt f||ltI 1 (↑f.length:Int),bt f||ltN (w6 1) f.length]
end
def uI:Kh
 | [.one ⟨true,[.val (.int .i64 a),.val (.string _x1),.val (.int .i64 b)]⟩,.one ⟨true,[.val (.int .i64 c),.val (.int .i64 d),.val (.int .i64 e)]⟩,.one ⟨false,[.ref 0]⟩],[.row false 2 (.int .i64) f]=>some ⟨.tup [⟨false,[Ki (bj a b c d e f)]⟩,⟨true,[Ki (aK a b c d e f),Ki (aL a d e f),Ki (aM a b c e f)]⟩],[Kl f],[],[aT f]⟩
 |_,_=>none
def dg:PF prog:=PF.ofG prog [wu,BX] [] aU 18 f18 func18 (fun c _=>LOk.nil c) uI (by
 intro _ _ _ h;unfold uI at h;split at h<;>cases h;kernel_rfl)
def cO(a:Bool):Int:=bif a then(1:Int)else(0:Int)
def xA:Kh
 | [.one ⟨false,[.val (.bool a)]⟩],[]=>some ⟨Kk (cO a),[],[],[]⟩
 |_,_=>none
def tF:PF prog:=PF.ofG prog [] [] aU 40 f40 func40 (fun c _=>LOk.nil c) xA (by
 intro _ _ _ h;unfold xA at h;split at h<;>cases h;kernel_rfl)
section
variable (a b c d:Int)(e f:Bool)
def er:Bool:=bif e then c==0 else false
def et:Int:=w9 .i64 (b + (1:Int))
def eu:Int:=bif f then(0:Int)else bif er c e then Cp a (et b) a (et b)else b
def eN:Int:=cO (eu a b c e f==a)
def eO:Int:=eu a b c e f
def eP:Int:=cO e
def eQ:Int:=bif f then d else bif er c e then d else d
end
def ss:Kh
 | [.one ⟨false,[.val (.int .i64 a)]⟩,.one ⟨true,[.val (.int .i64 b),.val (.int .i64 c),.val (.int .i64 d)]⟩,.one ⟨false,[.val (.bool e)]⟩,.one ⟨false,[.val (.bool f)]⟩],[]=>some ⟨.tup [⟨false,[Ki (eN a b c e f)]⟩,⟨true,[Ki (eO a b c e f),Ki (eP e),Ki (eQ c d e f)]⟩],[],[],[]⟩
 |_,_=>none
def zh:PF prog:=PF.ofG prog [tF] [] aU 41 f41 func41 (fun c _=>LOk.nil c) ss (by
 intro _ _ _ h;unfold ss at h;split at h<;>cases h;kernel_rfl)
section
variable (a b c d:Int)(e f:Bool)
def bz:Bool:=bif bif d==1 then !e else false then !f else false
def dk:Bool:=(bif bz d e f then(0:Int)else d)==0
def dW:Bool:=bif dk d e f then !e==f else false
def eR:Int:=w9 .i64 ((bif bz d e f then(0:Int)else b) + (1:Int))
def eS:Int:=bif dW d e f then cO (ltI a (eR b d e f))else bif dk d e f then bif bz d e f then(0:Int)else d else bif bz d e f then(0:Int)else d
def fw:Int:=cO (bif bif e then f else false then eS a b d e f==0 else false)
def fy:Int:=bif dW d e f then eR b d e f else bif dk d e f then(0:Int)else bif bz d e f then(0:Int)else b
def fA:Int:=bif dW d e f then bif bz d e f then c else c else bif dk d e f then bif bz d e f then c else c else bif bz d e f then c else c
def fB:Int:=eS a b d e f
end
def tQ:Kh
 | [.one ⟨false,[.val (.int .i64 a)]⟩,.one ⟨true,[.val (.int .i64 b),.val (.int .i64 c),.val (.int .i64 d)]⟩,.one ⟨false,[.val (.bool e)]⟩,.one ⟨false,[.val (.bool f)]⟩],[]=>some ⟨.tup [⟨false,[Ki (fw a b d e f)]⟩,⟨true,[Ki (fy b d e f),Ki (fA c d e f),Ki (fB a b d e f)]⟩],[],[],[]⟩
 |_,_=>none
def As:PF prog:=PF.ofG prog [tF] [] aU 42 f42 func42 (fun c _=>LOk.nil c) tQ (by
 intro _ _ _ h;unfold tQ at h;split at h<;>cases h;kernel_rfl)
section
variable (a b c d e:Int)(f:Kf)
def aI:Bool:=w8 f[w6 0]? 0==1
def jb:Int:=w9 .i64 (c + (1:Int))
def je:Int:=w9 .i64 (cO (aI f) * Cp b (jb c) b (jb c))
def gr:Int:=w9 .i64 ((↑f.length:Int) - (1:Int))
def cN:Bool:=w8 f[w6 (gr f)]? 0==1
def jf:Int:=bif cN f then(0:Int)else bif aI f then(1:Int)else c
def jg:Int:=w9 .i64 (c - (1:Int))
def ir:Int:=bif a==7 then cO (bif aI f then je b c f==b else false)else bif a==8 then bif aI f then(1:Int)else cO (ltI 0 c)else bif a==9 then cO (bif aI f then c==0 else false)else bif a==10 then jf c f else bif a==11 then eN b c d (aI f) (cN f)else fw b c e (aI f) (cN f)
def fC:Int:=bif a==7 then je b c f else bif a==8 then bif aI f then b else Cp (jg c) 0 0 (jg c)else bif a==9 then cO (aI f)else bif a==10 then jf c f else bif a==11 then eO b c d (aI f) (cN f)else fy c e (aI f) (cN f)
def fD:Int:=bif a==7 then d else bif a==8 then bif aI f then d else d else bif a==9 then d else bif a==10 then bif cN f then d else bif aI f then d else d else bif a==11 then eP (aI f)else fA d e (aI f) (cN f)
def fE:Int:=bif a==7 then e else bif a==8 then bif aI f then e else e else bif a==9 then e else bif a==10 then bif cN f then e else bif aI f then e else e else bif a==11 then eQ d e (aI f) (cN f)else fB b c e (aI f) (cN f)
def iu:Bool:=allT [ltI 0 (↑f.length:Int),ltN (w6 0) f.length,leI 0 (gr f),ltI (gr f) (↑f.length:Int),ltN (w6 (gr f)) f.length]
end
def zE:Kh
 | [.one ⟨true,[.val (.int .i64 a),.val (.string _x1),.val (.int .i64 b)]⟩,.one ⟨true,[.val (.int .i64 c),.val (.int .i64 d),.val (.int .i64 e)]⟩,.one ⟨false,[.ref 0]⟩],[.row false 2 (.int .i64) f]=>some ⟨.tup [⟨false,[Ki (ir a b c d e f)]⟩,⟨true,[Ki (fC a b c d e f),Ki (fD a d e f),Ki (fE a b c d e f)]⟩],[Kl f],[],[iu f]⟩
 |_,_=>none
def jh:PF prog:=PF.ofG prog [tF,zh,As] [] aU 16 f16 func16 (fun c _=>LOk.nil c) zE (by
 intro _ _ _ h;unfold zE at h;split at h<;>cases h;kernel_rfl)
def yP(a:Int):Bool:=bif a !=0 then a !=1 else false
def sq:Kh
 | [.one ⟨false,[.val (.int .i64 a)]⟩],[]=>some ⟨Kj (.val (.bool (yP a))),[],[],[]⟩
 |_,_=>none
def zf:PF prog:=PF.ofG prog [] [] aU 56 f56 func56 (fun c _=>LOk.nil c) sq (by
 intro _ _ _ h;unfold sq at h;split at h<;>cases h;kernel_rfl)
def im(a:Int):Bool:=bif a !=0 then a !=1 else false
def nN:Kh
 | [.one ⟨false,[.val (.int .i64 a)]⟩],[]=>some ⟨Kj (.val (.bool (im a))),[],[],[]⟩
 |_,_=>none
def ov:PF prog:=PF.ofG prog [] [] aU 56 f56 func56 (fun c _=>LOk.nil c) nN (by
 intro _ _ _ h;unfold nN at h;split at h<;>cases h;kernel_rfl)
abbrev ai:=Int×Int×List Int
section
variable (a b:Int)(c:Kf)
def bd:Bool:=ltI a b
def be:Bool:=leI 0 a
def bf:Bool:=ltI a (↑c.length:Int)
def bg:Bool:=ltN a.toNat c.length
def bh:Bool:=im (w8 c[w6 a]? 0)
def bi:Int:=w9 .i64 (a + (1:Int))
end
def ki:ai→List (Nat×SV)
 |(a,b,_)=> [(8,(Kk a)),(7,(Kk b)),(1,(Kj (.val (.func (.func 56) ⟨[]⟩ ⟨[]⟩)))),(0,(Kj (.ref 0)))]
def kh:ai→List (Nat×Entry)
 |(_,_,a)=> [(0,(Kl a))]
def kk:Nat→ai→List (Nat×SV)
 |0,(a,_,_)=> [(4,(Kk a))]
 |_,_=>[]
def aW:ai→LT ai
 |(a,b,c)=> .ite (bd a b) (.need [be a,bf a c,bg a c] (.ite (bh a c) (.ext 0 [(0,0)]) (.nrm ((bi a),b,c) [(0,0)]))) (.ext 1 [(0,0)])
def di(s:St):Option ai:=do
 let some ⟨none,.one ⟨false,[.val (.int .i64 a)]⟩⟩:=s.look 8|none
 let some ⟨none,.one ⟨false,[.val (.int .i64 b)]⟩⟩:=s.look 7|none
 let some ⟨none,.one ⟨false,[.val (.func (.func 56) ⟨[]⟩ ⟨[]⟩)]⟩⟩:=s.look 1|none
 let some ⟨none,.one ⟨false,[.ref 0]⟩⟩:=s.look 0|none
 let some (.row false 2 (.int .i64) c):=s.ent 0|none
 some (a,b,c)
def aa:Lp ai where
 h:=⟨[9,10,5,11,12,13,14,15,16,17,4,18,8],[0],[],[]⟩
 JL:=ki
 JE:=kh
 XL:=kk
 XE:=fun _=>kh
 q:=fun j=>match j with | 0=> .ret | _=> .exit 0
 tags:= [0,1]
 lt:=aW
 fuel:=fun(a,b,c)=>a.natAbs + b.natAbs + c.length
 fix:=fun(_,b,c) (a,_,_)=>(a,b,c)
 σ:= [(0,0)]
 rd:=di
theorem jV:LoopOk prog (fun k=>Nat.blt k Tryd.f65.ntmps) aa.F (eZ f65 0):=by
 refine Lp.ok (tbl:= [ov]) (lf:= []) aU aa (by kernel_rfl) (LOk.nil _) (fun _=>rfl) (fun j _=>by unfold aa;match j with | 0=>rfl | _ + 1=>rfl) ?_ ?_ ?_ ?_ (fun _=>rfl) ?_
 ·intro _;kernel_rfl
 ·intro _;kernel_rfl
 ·intro s x h
  have h:di s=some x:=h
  unfold di at h
  repeat' split at h
  all_goals cases h
  constructor<;>repeat(first|refine al ‹_› rfl ?_|refine bW rfl ‹_› rfl ?_|rfl)
 ·intro _;kernel_rfl
 ·intro _ _;exact(And.intro (And.intro trivial rfl) trivial)
section
variable (a:Kf)
def co:Int×Int×Kf:=((0:Int),(↑a.length:Int),a)
def dZ:Int:=bif Nat.beq ((Lp.res aa (co a)).1) 0 then ((Lp.res aa (co a)).2).1else(-1:Int)
def ec:Bool:=allT [Lp.fin aa (co a)]
end
def gK:Kh
 | [.one ⟨false,[.ref 0]⟩,.one ⟨false,[.val (.func (.func 56) ⟨[]⟩ ⟨[]⟩)]⟩],[.row false 2 (.int .i64) a]=>some ⟨Kk (dZ a),[Kl a],[],[ec a]⟩
 |_,_=>none
def dY:PF prog:=PF.ofG prog [ov] [aa.F] aU 65 f65 func65 (LOk.fnT (l:= [eZ f65 0]) (by kernel_rfl) (.cons jV (.nil _))) gK (by
 intro _ _ _ h;unfold gK at h;split at h<;>cases h;kernel_rfl)
def dx(a:Kf):Bool:=leI 0 (dZ a)
def dy(a:Kf):Bool:=allT [ec a]
def fK:Kh
 | [.one ⟨false,[.ref 0]⟩,.one ⟨false,[.val (.func (.func 56) ⟨[]⟩ ⟨[]⟩)]⟩],[.row false 2 (.int .i64) a]=>some ⟨Kj (.val (.bool (dx a))),[Kl a],[],[dy a]⟩
 |_,_=>none
def dr:PF prog:=PF.ofG prog (T3z [dY]) [] aU 55 f55 func55 (fun c _=>LOk.nil c) fK (by
 intro _ _ _ h;unfold fK at h;split at h<;>cases h;kernel_rfl)
def qI(a:Int)(b:Kf):Bool:=bif(↑b.length:Int)==a then !dx b else false
def qJ(a:Int)(b:Kf):Bool:=allT [!((↑b.length:Int)==a&&true)||dy b]
def uu:Kh
 | [.one ⟨false,[.ref 0]⟩,.one ⟨false,[.val (.int .i64 a)]⟩],[.row false 2 (.int .i64) b]=>some ⟨Kj (.val (.bool (qI a b))),[Kl b],[],[qJ a b]⟩
 |_,_=>none
def BL:PF prog:=PF.ofG prog (T3z [zf,dr]) [] aU 38 f38 func38 (fun c _=>LOk.nil c) uu (by
 intro _ _ _ h;unfold uu at h;split at h<;>cases h;kernel_rfl)
def iA(n:Int)(l:Kf):Bool:=l.all (fun v=>inR v 0 1)&&((l.length:Int)==n)
def jT(k:Int):Int:=dU k
theorem CF{n:Int}{l:Kf}:iA n l=true↔(∀ v∈l,v=0∨v=1)∧(l.length:Int)=n:=by
 simp only [iA,q8,List.all_eq_true,mW,beq_iff_eq]
 constructor
 ·rintro⟨h1,h2⟩;exact⟨fun v hv=>by have:=h1 v hv;omega,h2⟩
 ·rintro⟨h1,h2⟩;exact⟨fun v hv=>by have:=h1 v hv;omega,h2⟩
def gL(b:Int):(Unit)→Nat ⊕ (Unit)
 |_=>(bif(!ar b 0 1)then(.inl 0)else(.inr ()))
def eJ(a:Kf)(i:Nat):(Unit)→cV
 |_=>((i:Int),a)
def nu:cV→Unit
 |(_,_)=>()
theorem yx(c:Kf) (hn:c.length≤9223372036854775807):
  aS.fin ((0:Int),c)=true∧aS.res ((0:Int),c)=((iv (gL) 1 c 0 ()).1,(eJ c) (iv (gL) 1 c 0 ()).2.1 (iv (gL) 1 c 0 ()).2.2):=by
 have jU:=aS.along (eJ c) nu (gL) 1 (fun _ _=>True) c () (by trivial) (by simp only [aS,eJ];omega) (fun i b a hb hI=> ?_) (fun a hI=> ?_)
 ·exact jU
 ·obtain⟨⟩:=a
  have dj:=(w5.1 hb).1
  have nX: ∀ d,w8 c[i]? d=b:=fun d=>by rw [hb];rfl
  have hw:=zB dj hn
  have rZ:ltI (i:Int) (c.length:Int)=true:=pT (by omega)
  have Fh:leI (0:Int) (i:Int)=true:=ld (by omega)
  have hltd:ltN i c.length=true:=wq dj
  refine⟨?_,?_,?_,?_⟩
  ·simp [gT,jn,jo,jp,jq,iF,aS,LT.nds,allT,eJ,rZ,Fh,hltd,nX]
  ·simp [gT,jn,jo,jp,jq,iF,aS,LT.each,eJ,nu,hw]
  ·simp only [gT,jn,jo,jp,jq,iF,aS,LT.fn,eJ,nu,gL,q9,rZ,Fh,hltd,nX,cond_true,Bool.cond_self]
  ·exact fun _ _=>trivial
 ·obtain⟨⟩:=a
  simp [gT,jn,jo,jp,jq,iF,aS,LT.out,eJ]
def aG(b:Int):(Unit)→Nat ⊕ (Unit)
 |_=>(bif(im b)then(.inl 0)else(.inr ()))
def ao(a:Kf)(i:Nat):(Unit)→ai
 |_=>((i:Int),(↑a.length:Int),a)
def dh:ai→Unit
 |(_,_,_)=>()
theorem kZ(c:Kf) (hn:c.length≤9223372036854775807):
  aa.fin ((0:Int),(↑c.length:Int),c)=true∧aa.res ((0:Int),(↑c.length:Int),c)=((iv (aG) 1 c 0 ()).1,(ao c) (iv (aG) 1 c 0 ()).2.1 (iv (aG) 1 c 0 ()).2.2):=by
 have jU:=aa.along (ao c) dh (aG) 1 (fun _ _=>True) c () (by trivial) (by simp only [aa,ao];omega) (fun i b a hb hI=> ?_) (fun a hI=> ?_)
 ·exact jU
 ·obtain⟨⟩:=a
  have dj:=(w5.1 hb).1
  have nX: ∀ d,w8 c[i]? d=b:=fun d=>by rw [hb];rfl
  have hw:=zB dj hn
  have rZ:ltI (i:Int) (c.length:Int)=true:=pT (by omega)
  have Fh:leI (0:Int) (i:Int)=true:=ld (by omega)
  have hltd:ltN i c.length=true:=wq dj
  refine⟨?_,?_,?_,?_⟩
  ·simp [bd,be,bf,bg,bh,bi,aW,aa,LT.nds,allT,ao,rZ,Fh,hltd,nX]
  ·simp [bd,be,bf,bg,bh,bi,aW,aa,LT.each,ao,dh,hw]
  ·simp only [bd,be,bf,bg,bh,bi,aW,aa,LT.fn,ao,dh,aG,q9,rZ,Fh,hltd,nX,cond_true,Bool.cond_self]
  ·exact fun _ _=>trivial
 ·obtain⟨⟩:=a
  simp [bd,be,bf,bg,bh,bi,aW,aa,LT.out,ao]
theorem EV(n:Int)(l:Kf)(h:leN l.length 9223372036854775807=true):rf n l=iA n l∧rg l=true:=by
 obtain⟨w1,w2⟩:=yx l (jX.1 h)
 rw [nK (P:=fun v=> !inR v 0 1) (j:=0) (fun v=>by simp only [gL,ar,xg])]at w2
 have e5:(l.any fun v=> !inR v 0 1)= !l.all fun v=>inR v 0 1:=by simp [List.all_eq_not_any_not]
 rw [e5]at w2
 simp only [rf,rg,w1,w2,allT,iA]
 cases (l.all fun v=>inR v 0 1) <;> simp [Nat.beq]
theorem II(v:Int):(bif v !=0 then v !=1 else false)= !inR v 0 1:=by
 have:inR v 0 1=(v==0||v==1):=by rw [Bool.eq_iff_iff,mW];simp;omega
 rw [this]
 cases h0:v==0 <;> simp [bne,h0]
theorem Es(n:Int)(l:Kf)(h:leN l.length 9223372036854775807=true):qI n l=iA n l∧qJ n l=true:=by
 obtain⟨w1,w2⟩:=kZ l (jX.1 h)
 rw [nK (P:=fun v=> !inR v 0 1) (j:=0) (fun v=>by simp only [aG,im,II])]at w2
 have e5:(l.any fun v=> !inR v 0 1)= !l.all fun v=>inR v 0 1:=by simp [List.all_eq_not_any_not]
 rw [e5]at w2
 have q: ∀ m:Nat,leI 0 (m:Int)=true:=fun m=>ld (by omega)
 have q2:leI 0 (-1)=false:=rfl
 simp only [qI,qJ,dx,dy,dZ,ec,co,w1,w2,allT,iA,ao]
 cases (l.all fun v=>inR v 0 1) <;> cases ((l.length:Int)==n) <;> simp [Nat.beq,q,q2]
theorem nf(p q:Int):Cp p q p q=min p q:=by rw [Gq];cases h:ltI p q <;> simp <;> simp at h <;> omega
theorem nc(p q:Int):Cp p q q p=max p q:=by rw [Gq];cases h:ltI p q <;> simp <;> simp at h <;> omega
theorem sG{l:Kf}(h:iA 1 l=true): ∃ x,l= [x]∧(x=0∨x=1):=by
 obtain⟨h1,h2⟩:=CF.1 h
 match l,h1,h2 with
 | [x],h1,_=>exact⟨x,rfl,h1 x (by simp)⟩
 | [],_,h2=>simp at h2
 |_::_::_,_,h2=>simp at h2;omega
theorem sH{l:Kf}(h:iA 2 l=true): ∃ x y,l= [x,y]∧(x=0∨x=1)∧(y=0∨y=1):=by
 obtain⟨h1,h2⟩:=CF.1 h
 match l,h1,h2 with
 | [x,y],h1,_=>exact⟨x,y,rfl,h1 x (by simp),h1 y (by simp)⟩
 | [],_,h2=>simp at h2
 | [_],_,h2=>simp at h2
 |_::_::_::_,_,h2=>simp at h2;omega
theorem yu{k n a b c:Int}{s:Kg}{l:Kf}(hB:aB k s n=true)(hP:dQ k n a b c=true)(hA:iA (jT k) l=true):
  ir k n a b c l=bj k n a b c l∧fC k n a b c l=aK k n a b c l∧
  fD k b c l=aL k b c l∧fE k n a b c l=aM k n a c l∧iu l=true∧aT l=true∧
  dQ k n (aK k n a b c l) (aL k b c l) (aM k n a c l)=true:=by
 obtain⟨hk,hn,_⟩:=lQ hB
 have hw:IntKind.i64.wrap (n + 1)=n + 1:=bG (by omega) (by omega)
 have hwa:=(oz hP hn).1
 have hwa1:IntKind.i64.wrap (a + 1)=a + 1:=bG (by omega) (by omega)
 have hwa2:IntKind.i64.wrap (a - 1)=a - 1:=bG (by omega) (by omega)
 have hm:IntKind.i64.wrap (min (a + 1) n)=min (a + 1) n:=bG (by omega) (by omega)
 have hm2:IntKind.i64.wrap (min n (a + 1))=min n (a + 1):=bG (by omega) (by omega)
 have h01:IntKind.i64.wrap (0 + 1)=1:=rfl
 have n0:IntKind.i64.wrap 0=0:=rfl
 have w1:IntKind.i64.wrap 1=1:=rfl
 have l12:ltI 1 2=true:=rfl
 have hb:=(oz hP hn).2.1
 have hc:=(oz hP hn).2.2
 rcases kinds hk with rfl | rfl | rfl | rfl | rfl | rfl
 ·obtain⟨x,rfl,hx⟩:=sG hA
  have hp:=hP
  simp [dQ,ac,ar]at hp
  rcases hx with rfl | rfl <;> simp only [aI,jb,je,gr,cN,jf,jg,ir,fC,fD,fE,iu,er,et,eu,eN,eO,eP,eQ,bz,dk,dW,eR,eS,fw,fy,fA,fB,cO,an,br,bK,aO,bL,bM,bN,bO,bt,bj,aK,aL,aM,aT,aY,bq,bC,bI,bJ,cu,cv,cw,cz,bu,dQ,ac,ar,allT,nf,nc] <;> simp [hw,hwa1,hwa2,hm,hm2,h01,n0,w1,l12,hp,Bool.cond_eq_ite] <;> (repeat' split) <;> omega
 ·obtain⟨x,rfl,hx⟩:=sG hA
  have hp:=hP
  simp [dQ,ac,ar]at hp
  rcases hx with rfl | rfl <;> simp only [aI,jb,je,gr,cN,jf,jg,ir,fC,fD,fE,iu,er,et,eu,eN,eO,eP,eQ,bz,dk,dW,eR,eS,fw,fy,fA,fB,cO,an,br,bK,aO,bL,bM,bN,bO,bt,bj,aK,aL,aM,aT,aY,bq,bC,bI,bJ,cu,cv,cw,cz,bu,dQ,ac,ar,allT,nf,nc] <;> simp [hw,hwa1,hwa2,hm,hm2,h01,n0,w1,l12,hp,Bool.cond_eq_ite] <;> (repeat' split) <;> omega
 ·obtain⟨x,rfl,hx⟩:=sG hA
  have hp:=hP
  simp [dQ,ac,ar]at hp
  rcases hx with rfl | rfl <;> simp only [aI,jb,je,gr,cN,jf,jg,ir,fC,fD,fE,iu,er,et,eu,eN,eO,eP,eQ,bz,dk,dW,eR,eS,fw,fy,fA,fB,cO,an,br,bK,aO,bL,bM,bN,bO,bt,bj,aK,aL,aM,aT,aY,bq,bC,bI,bJ,cu,cv,cw,cz,bu,dQ,ac,ar,allT,nf,nc] <;> simp [hw,hwa1,hwa2,hm,hm2,h01,n0,w1,l12,hp,Bool.cond_eq_ite] <;> (repeat' split) <;> omega
 ·obtain⟨x,y,rfl,hx,hy⟩:=sH hA
  have hp:=hP
  simp [dQ,ac,ar]at hp
  rcases hx with rfl | rfl <;> rcases hy with rfl | rfl <;> simp only [aI,jb,je,gr,cN,jf,jg,ir,fC,fD,fE,iu,er,et,eu,eN,eO,eP,eQ,bz,dk,dW,eR,eS,fw,fy,fA,fB,cO,an,br,bK,aO,bL,bM,bN,bO,bt,bj,aK,aL,aM,aT,aY,bq,bC,bI,bJ,cu,cv,cw,cz,bu,dQ,ac,ar,allT,nf,nc] <;> simp [hw,hwa1,hwa2,hm,hm2,h01,n0,w1,l12,hp,Bool.cond_eq_ite] <;> (repeat' split) <;> omega
 ·obtain⟨x,y,rfl,hx,hy⟩:=sH hA
  have hp:=hP
  rcases hb with rfl | rfl <;> rcases hc with rfl | rfl <;> rcases hx with rfl | rfl <;> rcases hy with rfl | rfl <;> simp [dQ,ac,ar,hw]at hp <;> simp only [aI,jb,je,gr,cN,jf,jg,ir,fC,fD,fE,iu,er,et,eu,eN,eO,eP,eQ,bz,dk,dW,eR,eS,fw,fy,fA,fB,cO,an,br,bK,aO,bL,bM,bN,bO,bt,bj,aK,aL,aM,aT,aY,bq,bC,bI,bJ,cu,cv,cw,cz,bu,dQ,ac,ar,allT,nf,nc] <;> simp [hw,hwa1,hwa2,hm,hm2,h01,n0,w1,l12,hp,Bool.cond_eq_ite] <;> (repeat' split) <;> omega
 ·obtain⟨x,y,rfl,hx,hy⟩:=sH hA
  have hp:=hP
  rcases hb with rfl | rfl <;> rcases hc with rfl | rfl <;> rcases hx with rfl | rfl <;> rcases hy with rfl | rfl <;> simp [dQ,ac,ar,hw]at hp <;> simp only [aI,jb,je,gr,cN,jf,jg,ir,fC,fD,fE,iu,er,et,eu,eN,eO,eP,eQ,bz,dk,dW,eR,eS,fw,fy,fA,fB,cO,an,br,bK,aO,bL,bM,bN,bO,bt,bj,aK,aL,aM,aT,aY,bq,bC,bI,bJ,cu,cv,cw,cz,bu,dQ,ac,ar,allT,nf,nc] <;> simp [hw,hwa1,hwa2,hm,hm2,h01,n0,w1,l12,hp,Bool.cond_eq_ite] <;> (repeat' split) <;> omega
def uU:Kh
 | [.one ⟨false,[.ref 0]⟩,.one ⟨false,[.val (.int .i64 a)]⟩],[.row false 2 (.int .i64) b]=>some ⟨Kj (.val (.bool (iA a b))),[Kl b],[],[leN b.length 9223372036854775807]⟩
 |_,_=>none
def qP:PF prog:=PF.alt Ca uU (by
 intro args es o h aP;unfold uU at h;split at h
 ·rename_i a b
  cases h
  have aP:=md aP
  have hh:=EV a b aP
  obtain⟨e0,en⟩:=hh
  exact la rfl (iW en) (by simp only [e0] <;> rfl) rfl rfl
 ·cases h)
def uM:Kh
 | [.one ⟨false,[.ref 0]⟩,.one ⟨false,[.val (.int .i64 a)]⟩],[.row false 2 (.int .i64) b]=>some ⟨Kj (.val (.bool (iA a b))),[Kl b],[],[leN b.length 9223372036854775807]⟩
 |_,_=>none
def jJ:PF prog:=PF.alt BL uM (by
 intro args es o h aP;unfold uM at h;split at h
 ·rename_i a b
  cases h
  have aP:=md aP
  have hh:=Es a b aP
  obtain⟨e0,en⟩:=hh
  exact la rfl (iW en) (by simp only [e0] <;> rfl) rfl rfl
 ·cases h)
def ra(a:Int)(b:Kg)(c d e f:Int)(g:Kf):Int:=bif !aB a b c then(1:Int)else bif bif !ac a c d e f then true else !iA (dU a) g then(2:Int)else(0:Int)
def rb(a:Int)(b:Kg)(c d e f:Int)(g:Kf):Bool:=allT [leN (ByteArray.size b) 9223372036854775807,!aB a b c||(!(!!ac a c d e f&&true)||leN g.length (9223372036854775807:Nat))]
def uG:Kh
 | [.one ⟨true,[.val (.int .i64 a),.val (.string b),.val (.int .i64 c)]⟩,.one ⟨true,[.val (.int .i64 d),.val (.int .i64 e),.val (.int .i64 f)]⟩,.one ⟨false,[.ref 0]⟩],[.row false 2 (.int .i64) g]=>some ⟨Kk (ra a b c d e f g),[Kl g],[],[rb a b c d e f g]⟩
 |_,_=>none
def BW:PF prog:=PF.ofG prog (T3z [mc,qP,tZ,nt]) [] aU 17 f17 func17 (fun c _=>LOk.nil c) uG (by
 intro _ _ _ h;unfold uG at h;split at h<;>cases h;kernel_rfl)
def jW(a:Int):Int:=bif bif a==1 then a==1 else bif a==2 then a==2 else a==3 then(0:Int)else bif bif a==4 then a==4 else bif a==7 then a==7 else bif a==8 then a==8 else a==9 then(1:Int)else(2:Int)
def nO:Kh
 | [.one ⟨false,[.val (.int .i64 a)]⟩],[]=>some ⟨Kk (jW a),[],[],[]⟩
 |_,_=>none
def tD:PF prog:=PF.ofG prog [] [] aU 39 f39 func39 (fun c _=>LOk.nil c) nO (by
 intro _ _ _ h;unfold nO at h;split at h<;>cases h;kernel_rfl)
def gO(a:Kf)(b:Int):Bool:= !iA (jW b) a
def jH(a:Kf):Bool:=allT [leN a.length (9223372036854775807:Nat)]
def nB:Kh
 | [.one ⟨false,[.ref 0]⟩,.one ⟨false,[.ptr 1 0]⟩],[.row false 2 (.int .i64) a,.box 25 [.val (.int .i64 b),.val (.string c),.val (.int .i64 d)]]=>some ⟨Kj (.val (.bool (gO a b))),[Kl a,.box 25 [Ki b,.val (.string c),Ki d]],[],[jH a]⟩
 |_,_=>none
def dJ:PF prog:=PF.ofG prog (T3z [jJ,tD]) [] aU 37 f37 func37 (fun c _=>LOk.nil c) nB (by
 intro _ _ _ h;unfold nB at h;split at h<;>cases h;kernel_rfl)
abbrev aj:=Int×Int×Int×Kg×Int×List (List Int)
section
variable (a b c:Int)(d:Kd)
def ap:Kf:=w8 d[w6 a]? (iV (CTy.sl (2:TypeId) Kb))
def bp:Bool:=ltI a b
def ce:Bool:=leI 0 a
def cf:Bool:=ltI a (↑d.length:Int)
def cg:Bool:=ltN a.toNat d.length
def ch:Bool:=jH (ap a d)
def ci:Bool:=gO (ap a d) c
def dH:Int:=w9 .i64 (a + (1:Int))
end
def kA:aj→List (Nat×SV)
 |(a,b,_,_,_,_)=> [(8,(Kk a)),(7,(Kk b)),(1,(Kj (.clo 37 [0]))),(0,(Kj (.ref 1)))]
def ky:aj→List (Nat×Entry)
 |(_,_,a,b,c,d)=> [(0,(.box 25 [Ki a,.val (.string b),Ki c])),(1,(Kn d))]
def kE:Nat→aj→List (Nat×SV)
 |0,(a,_,_,_,_,_)=> [(4,(Kk a))]
 |_,_=>[]
def bc:aj→LT aj
 |(a,b,c,d,e,f)=> .ite (bp a b) (.need [ce a,cf a f,cg a f,ch a f] (.ite (ci a c f) (.ext 0 [(0,0),(1,1)]) (.nrm ((dH a),b,c,d,e,f) [(0,0),(1,1)]))) (.ext 1 [(0,0),(1,1)])
def dv(s:St):Option aj:=do
 let some ⟨none,.one ⟨false,[.val (.int .i64 a)]⟩⟩:=s.look 8|none
 let some ⟨none,.one ⟨false,[.val (.int .i64 b)]⟩⟩:=s.look 7|none
 let some ⟨none,.one ⟨false,[.clo 37 [1]]⟩⟩:=s.look 1|none
 let some ⟨none,.one ⟨false,[.ref 0]⟩⟩:=s.look 0|none
 let some (.box 25 [.val (.int .i64 c),.val (.string d),.val (.int .i64 e)]):=s.ent 1|none
 let some (.row false 28 (.sl 2 (.int .i64)) f):=s.ent 0|none
 some (a,b,c,d,e,f)
def ab:Lp aj where
 h:=⟨[9,10,5,11,12,13,14,15,16,17,4,18,8],[0,1],[],[]⟩
 JL:=kA
 JE:=ky
 XL:=kE
 XE:=fun _=>ky
 q:=fun j=>match j with | 0=> .ret | _=> .exit 0
 tags:= [0,1]
 lt:=bc
 fuel:=fun(a,b,c,d,e,f)=>a.natAbs + b.natAbs + c.natAbs + d.size + e.natAbs + f.length
 fix:=fun(_,b,c,d,e,f) (a,_,_,_,_,_)=>(a,b,c,d,e,f)
 σ:= [(0,1),(1,0)]
 rd:=dv
theorem jY:LoopOk prog (fun k=>Nat.blt k Tryd.f54.ntmps) ab.F (eZ f54 0):=by
 refine Lp.ok (tbl:= (T3z [dJ])) (lf:= []) aU ab (by kernel_rfl) (LOk.nil _) (fun _=>rfl) (fun j _=>by unfold ab;match j with | 0=>rfl | _ + 1=>rfl) ?_ ?_ ?_ ?_ (fun _=>rfl) ?_
 ·intro _;kernel_rfl
 ·intro _;kernel_rfl
 ·intro s x h
  have h:dv s=some x:=h
  unfold dv at h
  repeat' split at h
  all_goals cases h
  constructor<;>repeat(first|refine al ‹_› rfl ?_|refine bW rfl ‹_› rfl ?_|rfl)
 ·intro _;kernel_rfl
 ·intro _ _;exact(And.intro (And.intro trivial rfl) trivial)
section
variable (a:Kd)(b:Int)(c:Kg)(d:Int)
def cB:Int×Int×Int×Kg×Int×Kd:=((0:Int),(↑a.length:Int),b,c,d,a)
def bA:Bool:=Nat.beq ((Lp.res ab (cB a b c d)).1) 0
def ei:Int:=bif bA a b c d then ((Lp.res ab (cB a b c d)).2).1else(-1:Int)
def hO:Int:=bif bA a b c d then b else b
def hY:Kg:=bif bA a b c d then c else c
def hZ:Int:=bif bA a b c d then d else d
def ej:Bool:=allT [Lp.fin ab (cB a b c d)]
end
def gX:Kh
 | [.one ⟨false,[.ref 0]⟩,.one ⟨false,[.clo 37 [1]]⟩],[.row false 28 (.sl 2 (.int .i64)) a,.box 25 [.val (.int .i64 b),.val (.string c),.val (.int .i64 d)]]=>some ⟨Kk (ei a b c d),[Kn a,.box 25 [Ki (hO a b c d),.val (.string (hY a b c d)),Ki (hZ a b c d)]],[],[ej a b c d]⟩
 |_,_=>none
def ef:PF prog:=PF.ofG prog (T3z [dJ]) [ab.F] aU 54 f54 func54 (LOk.fnT (l:= [eZ f54 0]) (by kernel_rfl) (.cons jY (.nil _))) gX (by
 intro _ _ _ h;unfold gX at h;split at h<;>cases h;kernel_rfl)
section
variable (a:Kd)(b:Int)(c:Kg)(d:Int)
def dF:Bool:=leI 0 (ei a b c d)
def lB:Int:=hO a b c d
def lC:Kg:=hY a b c d
def lD:Int:=hZ a b c d
def dG:Bool:=allT [ej a b c d]
end
def gn:Kh
 | [.one ⟨false,[.ref 0]⟩,.one ⟨false,[.clo 37 [1]]⟩],[.row false 28 (.sl 2 (.int .i64)) a,.box 25 [.val (.int .i64 b),.val (.string c),.val (.int .i64 d)]]=>some ⟨Kj (.val (.bool (dF a b c d))),[Kn a,.box 25 [Ki (lB a b c d),.val (.string (lC a b c d)),Ki (lD a b c d)]],[],[dG a b c d]⟩
 |_,_=>none
def dD:PF prog:=PF.ofG prog (T3z [ef]) [] aU 36 f36 func36 (fun c _=>LOk.nil c) gn (by
 intro _ _ _ h;unfold gn at h;split at h<;>cases h;kernel_rfl)
def qf(a:Int)(b:Kg)(c d e f:Int)(g:Kd):Int:=bif !aB a b c then(1:Int)else bif bif !dB a c d e f then true else dF g a b c then(2:Int)else(0:Int)
def qg(a:Int)(b:Kg)(c d e f:Int)(g:Kd):Bool:=allT [!aB a b c||(!(!!dB a c d e f&&true)||dG g a b c)]
def tP:Kh
 | [.one ⟨true,[.val (.int .i64 a),.val (.string b),.val (.int .i64 c)]⟩,.one ⟨true,[.val (.int .i64 d),.val (.int .i64 e),.val (.int .i64 f)]⟩,.one ⟨false,[.ref 0]⟩],[.row false 28 (.sl 2 (.int .i64)) g]=>some ⟨Kk (qf a b c d e f g),[Kn g],[],[qg a b c d e f g]⟩
 |_,_=>none
def Ar:PF prog:=PF.ofG prog (T3z [qN,ow,dD]) [] aU 15 f15 func15 (fun c _=>LOk.nil c) tP (by
 intro _ _ _ h;unfold tP at h;split at h<;>cases h;kernel_rfl)
def EZ(m:Nat)(rs:Kd):Bool:=leN rs.length m&&rs.all fun x=>leN x.length m
theorem Gf{m:Nat}{rs:Kd}:EZ m rs=true↔rs.length≤m∧ ∀ x∈rs,x.length≤m:=by
 simp only [EZ,q8,jX,List.all_eq_true]
def iU(k:Int)(s:Kg)(n a b c:Int)(ll:Kd):Int:=bif !aB k s n then 1 else bif dQ k n a b c&&ll.all (iA (jT k))then 0 else 2
def aJ(a:Int)(b:Kf):(Unit)→Nat ⊕ (Unit)
 |_=>(bif(gO b a)then(.inl 0)else(.inr ()))
def aq(a:Int)(b:Kg)(c:Int)(d:Kd)(i:Nat):(Unit)→aj
 |_=>((i:Int),(↑d.length:Int),a,b,c,d)
def du:aj→Unit
 |(_,_,_,_,_,_)=>()
theorem lP(c:Int)(e:Kg)(f:Int)(g:Kd) (hn:g.length≤9223372036854775807) (hA: ∀ x∈g,x.length≤9223372036854775807):
  ab.fin ((0:Int),(↑g.length:Int),c,e,f,g)=true∧ab.res ((0:Int),(↑g.length:Int),c,e,f,g)=((iv (aJ c) 1 g 0 ()).1,(aq c e f g) (iv (aJ c) 1 g 0 ()).2.1 (iv (aJ c) 1 g 0 ()).2.2):=by
 have jU:=ab.along (aq c e f g) du (aJ c) 1 (fun _ _=>True) g () (by trivial) (by simp only [ab,aq];omega) (fun i b a hb hI=> ?_) (fun a hI=> ?_)
 ·exact jU
 ·obtain⟨⟩:=a
  have dj:=(w5.1 hb).1
  have nX: ∀ d,w8 g[i]? d=b:=fun d=>by rw [hb];rfl
  have hw:=zB dj hn
  have rZ:ltI (i:Int) (g.length:Int)=true:=pT (by omega)
  have Fh:leI (0:Int) (i:Int)=true:=ld (by omega)
  have hltd:ltN i g.length=true:=wq dj
  refine⟨?_,?_,?_,?_⟩
  ·have hg2:ap (i:Int) g=b:=by simp only [ap,q9];exact nX _
   have h6:leN b.length 9223372036854775807=true:=iC (hA b (List.mem_of_getElem? hb))
   simp [bp,ce,cf,cg,ch,jH,bc,ab,LT.nds,allT,aq,rZ,Fh,hltd,hg2,h6]
  ·simp [ap,bp,ce,cf,cg,ch,ci,dH,bc,ab,LT.each,aq,du,hw]
  ·have hg2:ap (i:Int) g=b:=by simp only [ap,q9];exact nX _
   simp only [bp,ci,bc,ab,LT.fn,aq,du,aJ,q9,rZ,hg2,cond_true]
  ·exact fun _ _=>trivial
 ·obtain⟨⟩:=a
  simp [ap,bp,ce,cf,cg,ch,ci,dH,bc,ab,LT.out,aq]
theorem EW(k:Int)(s:Kg)(n a b c:Int)(l:Kf)(h:(leN s.size 9223372036854775807&&leN l.length 9223372036854775807)=true):ra k s n a b c l=iU k s n a b c [l]∧rb k s n a b c l=true:=by
 simp only [q8]at h
 have e1:ac k n a b c=dQ k n a b c:=rfl
 have e2:dU k=jT k:=rfl
 simp only [ra,rb,iU,e1,e2,h.1,h.2,allT,w4,cond_true,List.all_cons,List.all_nil,Bool.and_true]
 refine⟨?_,trivial⟩
 cases aB k s n <;> cases dQ k n a b c <;> cases iA (jT k) l <;> rfl
theorem Et(k:Int)(s:Kg)(n a b c:Int)(ll:Kd)(h:EZ 9223372036854775807 ll=true):qf k s n a b c ll=iU k s n a b c ll∧qg k s n a b c ll=true:=by
 obtain⟨hn,hA⟩:=Gf.1 h
 obtain⟨w1,w2⟩:=lP k s n ll hn hA
 have e2: ∀ k,jW k=jT k:=fun _=>rfl
 rw [nK (P:=fun l=> !iA (jT k) l) (j:=0) (fun l=>by simp only [aJ,gO,e2])]at w2
 have e5:(ll.any fun l=> !iA (jT k) l)= !ll.all (iA (jT k)):=by simp [List.all_eq_not_any_not]
 rw [e5]at w2
 have q: ∀ m:Nat,leI 0 (m:Int)=true:=fun m=>ld (by omega)
 have q2:leI 0 (-1)=false:=rfl
 simp only [qf,qg,dF,dG,ei,ej,cB,bA,w1,w2,allT,iU,w4,cond_true]
 refine⟨?_,trivial⟩
 cases hB:aB k s n with
 |false=>rfl
 |true=>
  rw [DO (lQ hB).1]
  cases dQ k n a b c <;> cases ll.all (iA (jT k)) <;> simp [Nat.beq,q,q2,aq]
def uS:Kh
 | [.one ⟨true,[.val (.int .i64 a),.val (.string b),.val (.int .i64 c)]⟩,.one ⟨true,[.val (.int .i64 d),.val (.int .i64 e),.val (.int .i64 f)]⟩,.one ⟨false,[.ref 0]⟩],[.row false 2 (.int .i64) g]=>some ⟨Kk (iU a b c d e f [g]),[Kl g],[],[leN b.size 9223372036854775807&&leN g.length 9223372036854775807]⟩
 |_,_=>none
def jL:PF prog:=PF.alt BW uS (by
 intro args es o h aP;unfold uS at h;split at h
 ·rename_i a b c d e f g
  cases h
  have aP:=md aP
  have hh:=EW a b c d e f g aP
  obtain⟨e0,en⟩:=hh
  exact la rfl (iW en) (by simp only [e0] <;> rfl) rfl rfl
 ·cases h)
def tU:Kh
 | [.one ⟨true,[.val (.int .i64 a),.val (.string b),.val (.int .i64 c)]⟩,.one ⟨true,[.val (.int .i64 d),.val (.int .i64 e),.val (.int .i64 f)]⟩,.one ⟨false,[.ref 0]⟩],[.row false 28 (.sl 2 (.int .i64)) g]=>some ⟨Kk (iU a b c d e f g),[Kn g],[],[EZ 9223372036854775807 g]⟩
 |_,_=>none
def cS:PF prog:=PF.alt Ar tU (by
 intro args es o h aP;unfold tU at h;split at h
 ·rename_i a b c d e f g
  cases h
  have aP:=md aP
  have hh:=Et a b c d e f g aP
  obtain⟨e0,en⟩:=hh
  exact la rfl (iW en) (by simp only [e0] <;> rfl) rfl rfl
 ·cases h)
section
variable (a:Int)(b:Kg)(c d e f:Int)(g:Kf)
def fq:Int:=iU a b c d e f [g]
def cq:Bool:=fq a b c d e f g !=0
def gf:Int:=bif cq a b c d e f g then(0:Int)else bj a c d e f g
def gg:Int:=bif cq a b c d e f g then(0:Int)else aK a c d e f g
def gh:Int:=bif cq a b c d e f g then(0:Int)else aL a e f g
def gi:Int:=bif cq a b c d e f g then(0:Int)else aM a c d f g
def gj:Int:=bif cq a b c d e f g then fq a b c d e f g else(0:Int)
def gk:Bool:=allT [leN (ByteArray.size b) 9223372036854775807&&leN g.length (9223372036854775807:Nat),cq a b c d e f g||aT g]
def gN:Int:=iU a b c d e f [g]
def cX:Bool:=gN a b c d e f g !=0
def fW:Int:=bif cX a b c d e f g then(0:Int)else ir a c d e f g
def fX:Int:=bif cX a b c d e f g then(0:Int)else fC a c d e f g
def fY:Int:=bif cX a b c d e f g then(0:Int)else fD a e f g
def fZ:Int:=bif cX a b c d e f g then(0:Int)else fE a c d e f g
def gc:Int:=bif cX a b c d e f g then gN a b c d e f g else(0:Int)
def gd:Bool:=allT [EZ 9223372036854775807 [g],cX a b c d e f g||iu g]
end
def so:Kh
 | [.one ⟨true,[.val (.int .i64 a),.val (.string b),.val (.int .i64 c)]⟩,.one ⟨true,[.val (.int .i64 d),.val (.int .i64 e),.val (.int .i64 f)]⟩,.one ⟨false,[.ref 0]⟩],[.row false 2 (.int .i64) g]=>some ⟨.tup [⟨false,[Ki (fW a b c d e f g)]⟩,⟨true,[Ki (fX a b c d e f g),Ki (fY a b c d e f g),Ki (fZ a b c d e f g)]⟩,⟨false,[Ki (gc a b c d e f g)]⟩],[Kl g],[],[gd a b c d e f g]⟩
 |_,_=>none
def ze:PF prog:=PF.ofG prog (T3z [cS,jh]) [] aU 13 f13 func13 (fun c _=>LOk.nil c) so (by
 intro _ _ _ h;unfold so at h;split at h<;>cases h;kernel_rfl)
abbrev da:=Int×Int×Kg×Int×Int×Int×Int×List Int
section
variable (a b c d e f:Int)(g:Kf)
def ml:Bool:=leI a 10002
def pY:Bool:=aT g
def pZ:Bool:=bj b c d e f g==1
def qa:Int:=w9 .i64 (a + (1:Int))
def qb:Int:=aK b c d e f g
def qc:Int:=aL b e f g
def qd:Int:=aM b c d f g
end
def ue:da→List (Nat×SV)
 |(a,_,_,_,_,_,_,_)=> [(9,(Kk a)),(3,(Kj (.ptr 0 0))),(4,(Kj (.ptr 1 0))),(2,(Kj (.ref 2)))]
def ub:da→List (Nat×Entry)
 |(_,a,b,c,d,e,f,g)=> [(0,(.box 25 [Ki a,.val (.string b),Ki c])),(1,(.box 27 [Ki d,Ki e,Ki f])),(2,(Kl g))]
def uk:Nat→da→List (Nat×SV)
 |0,(a,_,_,_,_,_,_,_)=> [(6,(Kk a)),(7,(Kk 0))]
 |_,_=>[]
def fL:da→LT da
 |(a,b,c,d,e,f,g,i)=> .ite (ml a) (.need [pY i] (.ite (pZ b d e f g i) (.ext 0 [(0,0),(1,1),(2,2)]) (.nrm ((qa a),b,c,d,qb b d e f g i,qc b f g i,qd b d e g i,i) [(0,0),(1,1),(2,2)]))) (.ext 1 [(0,0),(1,1),(2,2)])
def kP(s:St):Option da:=do
 let some ⟨none,.one ⟨false,[.val (.int .i64 a)]⟩⟩:=s.look 9|none
 let some ⟨none,.one ⟨false,[.ptr 128 0]⟩⟩:=s.look 3|none
 let some ⟨none,.one ⟨false,[.ptr 192 0]⟩⟩:=s.look 4|none
 let some ⟨none,.one ⟨false,[.ref 0]⟩⟩:=s.look 2|none
 let some (.box 25 [.val (.int .i64 b),.val (.string c),.val (.int .i64 d)]):=s.ent 128|none
 let some (.box 27 [.val (.int .i64 e),.val (.int .i64 f),.val (.int .i64 g)]):=s.ent 192|none
 let some (.row false 2 (.int .i64) i):=s.ent 0|none
 some (a,b,c,d,e,f,g,i)
def ba:Lp da where
 h:=⟨[19,20,24,25,26,27,23,28,29,11,10,30,31,32,6,7,33,21,22,9],[0,1,2],[],[]⟩
 JL:=ue
 JE:=ub
 XL:=uk
 XE:=fun _=>ub
 q:=fun j=>match j with | 0=> .ret | _=> .exit 0
 tags:= [0,1]
 lt:=fL
 fuel:=fun(a,b,c,d,e,f,g,i)=>a.natAbs + b.natAbs + c.size + d.natAbs + e.natAbs + f.natAbs + g.natAbs + i.length
 fix:=fun(_,b,c,d,_,_,_,i) (a,_,_,_,e,f,g,_)=>(a,b,c,d,e,f,g,i)
 σ:= [(0,128),(1,192),(2,0)]
 rd:=kP
theorem sO:LoopOk prog (fun k=>Nat.blt k Tryd.f7.ntmps) ba.F (eZ f7 0):=by
 refine Lp.ok (tbl:= (T3z [jL,dg])) (lf:= []) aU ba (by kernel_rfl) (LOk.nil _) (fun _=>rfl) (fun j _=>by unfold ba;match j with | 0=>rfl | _ + 1=>rfl) ?_ ?_ ?_ ?_ (fun _=>rfl) ?_
 ·intro _;kernel_rfl
 ·intro _;kernel_rfl
 ·intro s x h
  have h:kP s=some x:=h
  unfold kP at h
  repeat' split at h
  all_goals cases h
  constructor<;>repeat(first|refine al ‹_› rfl ?_|refine bW rfl ‹_› rfl ?_|rfl)
 ·intro _;kernel_rfl
 ·intro _ _;exact(And.intro (And.intro trivial rfl) trivial)
section
variable (a:Int)(b:Kg)(c d e f:Int)(g:Kf)
def kb:Int:=iU a b c d e f [g]
def iH:Bool:=kb a b c d e f g !=0
def iI:Int×Int×Kg×Int×Int×Int×Int×Kf:=((1:Int),a,b,c,d,e,f,g)
def kd:Bool:=Nat.beq ((Lp.res ba (iI a b c d e f g)).1) 0
def li:Int:=bif iH a b c d e f g then(0:Int)else bif kd a b c d e f g then ((Lp.res ba (iI a b c d e f g)).2).1else(0:Int)
def lj:Int:=bif iH a b c d e f g then kb a b c d e f g else bif kd a b c d e f g then(0:Int)else(4:Int)
def lk:Bool:=allT [leN (ByteArray.size b) 9223372036854775807&&leN g.length (9223372036854775807:Nat),iH a b c d e f g||Lp.fin ba (iI a b c d e f g)]
end
def rq:Kh
 | [.one ⟨true,[.val (.int .i64 a),.val (.string b),.val (.int .i64 c)]⟩,.one ⟨true,[.val (.int .i64 d),.val (.int .i64 e),.val (.int .i64 f)]⟩,.one ⟨false,[.ref 0]⟩],[.row false 2 (.int .i64) g]=>some ⟨.tup [⟨false,[Ki (li a b c d e f g)]⟩,⟨false,[Ki (lj a b c d e f g)]⟩],[Kl g],[],[lk a b c d e f g]⟩
 |_,_=>none
def yh:PF prog:=PF.ofG prog (T3z [jL,dg]) [ba.F] aU 7 f7 func7 (LOk.fnT (l:= [eZ f7 0]) (by kernel_rfl) (.cons sO (.nil _))) rq (by
 intro _ _ _ h;unfold rq at h;split at h<;>cases h;kernel_rfl)
abbrev cZ:=Int×Int×Kg×Int×Int×Int×Int×List Int
section
variable (a b c d e f:Int)(g:Kf)
def pM:Bool:=iu g
def pN:Bool:=ir b c d e f g==1
def lU:Bool:=bif fC b c d e f g==d then bif fD b e f g==e then bif fE b c d e f g==f then true else false else false else false
def pO:Int:=w9 .i64 (a + (1:Int))
def pP:Int:=fC b c d e f g
def pQ:Int:=fD b e f g
def pR:Int:=fE b c d e f g
end
def ud:cZ→List (Nat×SV)
 |(a,_,_,_,_,_,_,_)=> [(3,(Kj (.ptr 0 0))),(4,(Kj (.ptr 1 0))),(2,(Kj (.ref 2))),(9,(Kk a))]
def ua:cZ→List (Nat×Entry)
 |(_,a,b,c,d,e,f,g)=> [(0,(.box 25 [Ki a,.val (.string b),Ki c])),(1,(.box 27 [Ki d,Ki e,Ki f])),(2,(Kl g))]
def uj:Nat→cZ→List (Nat×SV)
 |0,(a,_,_,_,_,_,_,_)=> [(6,(Kk a)),(7,(Kk 0))]
 |_,(_,_,_,_,_,_,_,_)=> [(6,(Kk 0)),(7,(Kk 4))]
def kK:cZ→LT cZ
 |(a,b,c,d,e,f,g,i)=> .need [pM i] (.ite (pN b d e f g i) (.ext 0 [(0,0),(1,1),(2,2)]) (.ite (lU b d e f g i) (.ext 1 [(0,0),(1,1),(2,2)]) (.nrm ((pO a),b,c,d,pP b d e f g i,pQ b f g i,pR b d e f g i,i) [(0,0),(1,1),(2,2)])))
def kO(s:St):Option cZ:=do
 let some ⟨none,.one ⟨false,[.ptr 128 0]⟩⟩:=s.look 3|none
 let some ⟨none,.one ⟨false,[.ptr 192 0]⟩⟩:=s.look 4|none
 let some ⟨none,.one ⟨false,[.ref 0]⟩⟩:=s.look 2|none
 let some ⟨none,.one ⟨false,[.val (.int .i64 a)]⟩⟩:=s.look 9|none
 let some (.box 25 [.val (.int .i64 b),.val (.string c),.val (.int .i64 d)]):=s.ent 128|none
 let some (.box 27 [.val (.int .i64 e),.val (.int .i64 f),.val (.int .i64 g)]):=s.ent 192|none
 let some (.row false 2 (.int .i64) i):=s.ent 0|none
 some (a,b,c,d,e,f,g,i)
def aN:Lp cZ where
 h:=⟨[23,24,25,26,22,27,28,11,10,30,31,29,32,6,7,34,35,36,33,37,20,21,9],[0,1,2],[],[]⟩
 JL:=ud
 JE:=ua
 XL:=uj
 XE:=fun _=>ua
 q:=fun j=>match j with | 0=> .ret | _=> .ret
 tags:= [0,1]
 lt:=kK
 fuel:=fun(a,b,c,d,e,f,g,i)=>a.natAbs + b.natAbs + c.size + d.natAbs + e.natAbs + f.natAbs + g.natAbs + i.length
 fix:=fun(_,b,c,d,_,_,_,i) (a,_,_,_,e,f,g,_)=>(a,b,c,d,e,f,g,i)
 σ:= [(0,128),(1,192),(2,0)]
 rd:=kO
theorem sN:LoopOk prog (fun k=>Nat.blt k Tryd.f6.ntmps) aN.F (eZ f6 0):=by
 refine Lp.ok (tbl:= (T3z [cS,jh])) (lf:= []) aU aN (by kernel_rfl) (LOk.nil _) (fun _=>rfl) (fun j _=>by unfold aN;match j with | 0=>rfl | _ + 1=>rfl) ?_ ?_ ?_ ?_ (fun _=>rfl) ?_
 ·intro _;kernel_rfl
 ·intro _;kernel_rfl
 ·intro s x h
  have h:kO s=some x:=h
  unfold kO at h
  repeat' split at h
  all_goals cases h
  constructor<;>repeat(first|refine al ‹_› rfl ?_|refine bW rfl ‹_› rfl ?_|rfl)
 ·intro _;kernel_rfl
 ·intro _ _;exact(And.intro trivial (And.intro trivial rfl))
section
variable (a:Int)(b:Kg)(c d e f:Int)(g:Kf)
def eG:Int:=iU a b c d e f [g]
def dN:Bool:=eG a b c d e f g !=0
def eH:Int×Int×Kg×Int×Int×Int×Int×Kf:=((1:Int),a,b,c,d,e,f,g)
def fV:Bool:=Nat.beq ((Lp.res aN (eH a b c d e f g)).1) 0
def gM:Int:=bif dN a b c d e f g then(0:Int)else bif fV a b c d e f g then ((Lp.res aN (eH a b c d e f g)).2).1else(0:Int)
def fc:Int:=bif dN a b c d e f g then eG a b c d e f g else bif fV a b c d e f g then(0:Int)else(4:Int)
def lb:Bool:=allT [EZ 9223372036854775807 [g],dN a b c d e f g||Lp.fin aN (eH a b c d e f g)]
end
def rm:Kh
 | [.one ⟨true,[.val (.int .i64 a),.val (.string b),.val (.int .i64 c)]⟩,.one ⟨true,[.val (.int .i64 d),.val (.int .i64 e),.val (.int .i64 f)]⟩,.one ⟨false,[.ref 0]⟩],[.row false 2 (.int .i64) g]=>some ⟨.tup [⟨false,[Ki (gM a b c d e f g)]⟩,⟨false,[Ki (fc a b c d e f g)]⟩],[Kl g],[],[lb a b c d e f g]⟩
 |_,_=>none
def yc:PF prog:=PF.ofG prog (T3z [cS,jh]) [aN.F] aU 6 f6 func6 (LOk.fnT (l:= [eZ f6 0]) (by kernel_rfl) (.cons sN (.nil _))) rm (by
 intro _ _ _ h;unfold rm at h;split at h<;>cases h;kernel_rfl)
abbrev em:=Int×List Int×Int×Int
section
variable (a:Int)(b:Kf)
def lm:Bool:=bif ltI a (↑b.length:Int)then ltI a 64 else false
def rO:Bool:=leI 0 a
def rP:Bool:=ltI a (↑b.length:Int)
def rQ:Bool:=ltN a.toNat b.length
end
def rR:Bool:=neI 2147483647 0
def rS(a:Int):Int:=w9 .i64 (a + (1:Int))
def rT(a:Int)(b:Kf)(c:Int):Int:=Int.tmod (w9 .i64 (w9 .i64 (c * (59:Int)) + w9 .i64 (w8 b[w6 a]? 0))) 2147483647
def wF:em→List (Nat×SV)
 |(a,_,_,_)=> [(4,(Kk a)),(0,(Kj (.ref 0))),(3,(Kj (.ptr 1 0)))]
def wA:em→List (Nat×Entry)
 |(_,a,b,c)=> [(0,(Km a)),(1,(.box 73 [.ref 0,Ki b,Ki c]))]
def wP:Nat→em→List (Nat×SV)
 |_,_=>[]
def iD:em→LT em
 |(a,b,c,d)=> .ite (lm a b) (.need [rO a,rP a b,rQ a b,rR] (.nrm ((rS a),b,c,(rT a b d)) [(0,0),(1,1)])) (.ext 0 [(0,0),(1,1)])
def nx(s:St):Option em:=do
 let some ⟨none,.one ⟨false,[.val (.int .i64 a)]⟩⟩:=s.look 4|none
 let some ⟨none,.one ⟨false,[.ref 0]⟩⟩:=s.look 0|none
 let some ⟨none,.one ⟨false,[.ptr 320 0]⟩⟩:=s.look 3|none
 let some (.row false 5 (.int IntKind.u8) b):=s.ent 0|none
 let some (.box 73 [.ref 0,.val (.int .i64 c),.val (.int .i64 d)]):=s.ent 320|none
 some (a,b,c,d)
def dc:Lp em where
 h:=⟨[8,9,10,11,12,13,14,15,18,19,20,21,22,23,24,25,26,27,28,29,30,31,32,16,17,4],[0,1],[],[]⟩
 JL:=wF
 JE:=wA
 XL:=wP
 XE:=fun _=>wA
 q:=fun j=>match j with | _=> .exit 0
 tags:= [0]
 lt:=iD
 fuel:=fun(a,b,c,d)=>a.natAbs + b.length + c.natAbs + d.natAbs
 fix:=fun(_,b,c,_) (a,_,_,d)=>(a,b,c,d)
 σ:= [(0,0),(1,320)]
 rd:=nx
theorem vp:LoopOk prog (fun k=>Nat.blt k Tryd.f30.ntmps) dc.F (eZ f30 0):=by
 refine Lp.ok (tbl:= []) (lf:= []) aU dc (by kernel_rfl) (LOk.nil _) (fun _=>rfl) (fun _ _=>rfl) ?_ ?_ ?_ ?_ (fun _=>rfl) ?_
 ·intro _;kernel_rfl
 ·intro _;kernel_rfl
 ·intro s x h
  have h:nx s=some x:=h
  unfold nx at h
  repeat' split at h
  all_goals cases h
  constructor<;>repeat(first|refine al ‹_› rfl ?_|refine bW rfl ‹_› rfl ?_|rfl)
 ·intro _;kernel_rfl
 ·intro _ _;exact(And.intro rfl trivial)
section
variable (a:Kf)
def ku:Int×Kf×Int×Int:=((0:Int),a,(0:Int),(52021:Int))
def mm:Int:=(Lp.res dc (ku a)).2.2.2.2
def oG:Bool:=allT [Lp.fin dc (ku a)]
end
def uz:Kh
 | [.one ⟨false,[.ref 0]⟩],[.row false 5 (.int .u8) a]=>some ⟨Kj (.ptr 1 0),[Km a],[.box 73 [.ref 0,Ki 0,Ki (mm a)]],[oG a]⟩
 |_,_=>none
def BP:PF prog:=PF.ofG prog [] [dc.F] aU 30 f30 func30 (LOk.fnT (l:= [eZ f30 0]) (by kernel_rfl) (.cons vp (.nil _))) uz (by
 intro _ _ _ h;unfold uz at h;split at h<;>cases h;kernel_rfl)
section
variable (a b c:Int)(d:Kf)
def iX:Int:=w9 .i64 (b + (1:Int))
def kv:Bool:=bif leI a 256 then Int.tmod (iX b) 2==0 else false
def iY:Int:=w9 .i64 (iX b - (1:Int))
def fG:Int:=Int.tmod (w9 .i64 (w9 .i64 (c * (48271:Int)) + (29:Int))) 2147483647
def bS:Int:=bif leI a 1 then(0:Int)else Int.tmod (bif ltI b (↑d.length:Int)then bif kv a b then w9 .i64 (w8 d[w6 (iY b)]? 0)else w9 .i64 (w9 .i64 (Int.tdiv (fG c) 31) + w9 .i64 (w8 d[w6 b]? 0))else w9 .i64 (Int.tdiv (fG c) 31)) a
def iJ:Int:=bif leI a 1 then b else bif ltI b (↑d.length:Int)then iX b else b
def iK:Int:=bif leI a 1 then c else bif ltI b (↑d.length:Int)then fG c else fG c
def iL:Bool:=allT [leI a 1||neI 2147483647 0,leI a 1||neI 31 0,leI a 1||(!ltI b (↑d.length:Int)||leI 0 b),leI a 1||(!ltI b (↑d.length:Int)||ltI b (↑d.length:Int)),leI a 1||(!ltI b (↑d.length:Int)||ltN b.toNat d.length),leI a 1||(!ltI b (↑d.length:Int)||(!(leI a 256&&true)||neI 2 0)),leI a 1||(!ltI b (↑d.length:Int)||(!kv a b||leI 0 (iY b))),leI a 1||(!ltI b (↑d.length:Int)||(!kv a b||ltI (iY b) (↑d.length:Int))),leI a 1||(!ltI b (↑d.length:Int)||(!kv a b||ltN (w6 (iY b)) d.length)),leI a 1||neI a 0]
end
def uA:Kh
 | [.one ⟨false,[.ptr 0 0]⟩,.one ⟨false,[.val (.int .i64 a)]⟩],[.box 73 [.ref 1,.val (.int .i64 b),.val (.int .i64 c)],.row false 5 (.int .u8) d]=>some ⟨Kk (bS a b c d),[.box 73 [.ref 1,Ki (iJ a b d),Ki (iK a b c d)],Km d],[],[iL a b d]⟩
 |_,_=>none
def oy:PF prog:=PF.ofG prog [] [] aU 34 f34 func34 (fun c _=>LOk.nil c) uA (by
 intro _ _ _ h;unfold uA at h;split at h<;>cases h;kernel_rfl)
section
variable (a b:Int)(c d:Kf)
def oH:Int:=w8 c[w6 (bS (↑c.length:Int) a b d)]? 0
def qV:Int:=iJ (↑c.length:Int) a d
def qW:Int:=iK (↑c.length:Int) a b d
def oI:Bool:=allT [iL (↑c.length:Int) a d,leI 0 (bS (↑c.length:Int) a b d),ltI (bS (↑c.length:Int) a b d) (↑c.length:Int),ltN (w6 (bS (↑c.length:Int) a b d)) c.length]
end
def uB:Kh
 | [.one ⟨false,[.ptr 0 0]⟩,.one ⟨false,[.ref 1]⟩],[.box 73 [.ref 2,.val (.int .i64 a),.val (.int .i64 b)],.row false 2 (.int .i64) c,.row false 5 (.int .u8) d]=>some ⟨Kk (oH a b c d),[.box 73 [.ref 2,Ki (qV a c d),Ki (qW a b c d)],Kl c,Km d],[],[oI a b c d]⟩
 |_,_=>none
def BQ:PF prog:=PF.ofG prog (T3z [oy]) [] aU 35 f35 func35 (fun c _=>LOk.nil c) uB (by
 intro _ _ _ h;unfold uB at h;split at h<;>cases h;kernel_rfl)
def cY(a s:Int)(c:Kf):Bool:=(leI 0 a&&leI a 4096)&&((leI 0 s&&ltI s 2147483647)&&(leN c.length 4096&&c.all fun x=>inR x 0 255))
theorem vW{a s:Int}{c:Kf}:cY a s c=true↔(0≤a∧a≤4096)∧(0≤s∧s < 2147483647)∧c.length≤4096∧ ∀ x∈c,0≤x∧x≤255:=by
 simp only [cY,q8,qs,vP,jX,List.all_eq_true,mW]
theorem ta{x n:Int}(h:0≤x)(hn:0 < n):0≤Int.tmod x n∧Int.tmod x n < n:=by
 rw [Int.tmod_eq_emod_of_nonneg h]
 exact⟨Int.emod_nonneg _ (by omega),Int.emod_lt_of_pos _ hn⟩
theorem Ha{code:Kf}(hb: ∀ x∈code,0≤x∧x≤255)(i:Nat):0≤(code[i]?.getD 0)∧(code[i]?.getD 0)≤255:=by
 cases h:code[i]? with
 |none=>simp
 |some x=>exact hb x (List.mem_of_getElem? h)
def nxV(n a s:Int)(c:Kf):Int:=bS n a s c
def nxA(n a:Int)(c:Kf):Int:=iJ n a c
def nxS(n a s:Int)(c:Kf):Int:=iK n a s c
theorem xY(n:Int){a s:Int}{code:Kf}(h:cY a s code=true):
  iL n a code=true∧cY (nxA n a code) (nxS n a s code) code=true∧0≤nxV n a s code∧(1≤n→nxV n a s code < n):=by
 obtain⟨⟨h0,h1⟩,⟨s0,s1⟩,hn,hb⟩:=vW.1 h
 have hw1:IntKind.i64.wrap (s * 48271)=s * 48271:=bG (by omega) (by omega)
 have hw2:IntKind.i64.wrap (s * 48271 + 29)=s * 48271 + 29:=bG (by omega) (by omega)
 have hw3:IntKind.i64.wrap (a + 1)=a + 1:=bG (by omega) (by omega)
 have hw4:IntKind.i64.wrap (a + 1 - 1)=a:=by rw [bG (by omega) (by omega)];omega
 obtain⟨t0,t1⟩:=ta (x:=s * 48271 + 29) (n:=2147483647) (by omega) (by omega)
 have hd0:0≤Int.tdiv (Int.tmod (s * 48271 + 29) 2147483647) 31:=Int.tdiv_nonneg t0 (by omega)
 have hd1:Int.tdiv (Int.tmod (s * 48271 + 29) 2147483647) 31≤2147483647:=by
  rw [Int.tdiv_eq_ediv_of_nonneg t0];omega
 have hw7:IntKind.i64.wrap (Int.tdiv (Int.tmod (s * 48271 + 29) 2147483647) 31)=Int.tdiv (Int.tmod (s * 48271 + 29) 2147483647) 31:=bG (by omega) (by omega)
 have q1:neI 2147483647 0=true:=by decide
 have q2:neI 31 0=true:=by decide
 have q3:neI 2 0=true:=by decide
 simp only [nxA,nxS,nxV]
 by_cases hq:n≤1
 ·have d:leI n 1=true:=ld hq
  refine⟨by simp [iL,allT,d],?_,by simp [bS,d],fun h=>by simp [bS,d];omega⟩
  simp only [iJ,iK,d,cond_true]
  exact h
 ·have d:leI n 1=false:=IB (by omega)
  have q4:neI n 0=true:=Jp (by omega)
  by_cases hl:a < (code.length:Int)
  ·have dl:ltI a (code.length:Int)=true:=pT hl
   obtain⟨c0,c1⟩:=Ha hb a.toNat
   have hw5:IntKind.i64.wrap (code[a.toNat]?.getD 0)=code[a.toNat]?.getD 0:=bG (by omega) (by omega)
   have hw6:IntKind.i64.wrap (Int.tdiv (Int.tmod (s * 48271 + 29) 2147483647) 31 + code[a.toNat]?.getD 0)=Int.tdiv (Int.tmod (s * 48271 + 29) 2147483647) 31 + code[a.toNat]?.getD 0:=bG (by omega) (by omega)
   have dn:ltN a.toNat code.length=true:=wq (by omega)
   have dz:leI 0 a=true:=ld h0
   have hwa:IntKind.i64.wrap a=a:=bG (by omega) (by omega)
   refine⟨?_,?_,?_⟩
   ·simp [iL,iX,iY,allT,d,dl,dn,hw3,hw4,hwa,dz,q1,q2,q3,q4]
   ·simp only [iJ,iK,iX,fG,d,dl,cond_true,cond_false,hw1,hw2,hw3]
    exact vW.2 ⟨⟨by omega,by omega⟩,⟨t0,t1⟩,hn,hb⟩
   ·simp only [bS,kv,iY,iX,fG,d,dl,cond_true,cond_false,hw1,hw2,hw3,hw4,hw5,hw7,hw6]
    cases (bif leI n 256 then Int.tmod (a + 1) 2==0 else false)with
    |true=>
     obtain⟨m0,m1⟩:=ta (x:=code[a.toNat]?.getD 0) (n:=n) c0 (by omega)
     exact⟨m0,fun _=>m1⟩
    |false=>
     obtain⟨m0,m1⟩:=ta (x:=Int.tdiv (Int.tmod (s * 48271 + 29) 2147483647) 31 + code[a.toNat]?.getD 0) (n:=n) (by omega) (by omega)
     exact⟨m0,fun _=>m1⟩
  ·have dl:ltI a (code.length:Int)=false:=IC (by omega)
   refine⟨?_,?_,?_⟩
   ·simp [iL,allT,d,dl,q1,q2,q4]
   ·simp only [iJ,iK,fG,d,dl,cond_false,hw1,hw2]
    exact vW.2 ⟨⟨h0,h1⟩,⟨t0,t1⟩,hn,hb⟩
   ·simp only [bS,fG,d,dl,cond_false,hw1,hw2,hw7]
    obtain⟨m0,m1⟩:=ta (x:=Int.tdiv (Int.tmod (s * 48271 + 29) 2147483647) 31) (n:=n) hd0 (by omega)
    exact⟨m0,fun _=>m1⟩
theorem Ap(a b c:Int)(d:Kf)(h:cY b c d=true):bS a b c d=nxV a b c d∧iJ a b d=nxA a b d∧iK a b c d=nxS a b c d∧iL a b d=true:=⟨rfl,rfl,rfl,(xY a h).1⟩
def uP:Kh
 | [.one ⟨false,[.ptr 0 0]⟩,.one ⟨false,[.val (.int .i64 a)]⟩],[.box 73 [.ref 1,.val (.int .i64 b),.val (.int .i64 c)],.row false 5 (.int .u8) d]=>some ⟨Kk (nxV a b c d),[.box 73 [.ref 1,Ki (nxA a b d),Ki (nxS a b c d)],Km d],[],[cY b c d]⟩
 |_,_=>none
def bR:PF prog:=PF.alt oy uP (by
 intro args es o h aP;unfold uP at h;split at h
 ·rename_i a b c d
  cases h
  have aP:=md aP
  have hh:=Ap a b c d aP
  obtain⟨e0,e1,e2,en⟩:=hh
  exact la rfl (iW en) (by simp only [e0] <;> rfl) (by simp only [e1,e2] <;> rfl) rfl
 ·cases h)
def pkV(a s:Int)(l c:Kf):Int:=oH a s l c
def pkA(a:Int)(l c:Kf):Int:=qV a l c
def pkS(a s:Int)(l c:Kf):Int:=qW a s l c
theorem Gz{a s:Int}{l code:Kf}(h:(cY a s code&&leN 1 l.length)=true):
  oI a s l code=true∧cY (pkA a l code) (pkS a s l code) code=true∧pkV a s l code∈l:=by
 simp only [q8,jX]at h
 obtain⟨n3,n1,n0,nl⟩:=xY (l.length:Int) h.1
 have nl:=nl (by omega)
 simp only [nxV]at n0 nl
 refine⟨?_,n1,?_⟩
 ·have t1:leI 0 (bS (l.length:Int) a s code)=true:=ld n0
  have t2:ltI (bS (l.length:Int) a s code) (l.length:Int)=true:=pT nl
  have t3:ltN (bS (l.length:Int) a s code).toNat l.length=true:=wq (by omega)
  simp only [oI,allT,n3,t1,t2,t3,cond_true]
 ·have dj:(bS (l.length:Int) a s code).toNat < l.length:=by omega
  simp only [pkV,oH,List.getElem?_eq_getElem dj,Option.getD_some]
  exact List.getElem_mem dj
theorem Aq(a b:Int)(c d:Kf)(h:(cY a b d&&leN 1 c.length)=true):oH a b c d=pkV a b c d∧qV a c d=pkA a c d∧qW a b c d=pkS a b c d∧oI a b c d=true:=⟨rfl,rfl,rfl,(Gz h).1⟩
def uQ:Kh
 | [.one ⟨false,[.ptr 0 0]⟩,.one ⟨false,[.ref 1]⟩],[.box 73 [.ref 2,.val (.int .i64 a),.val (.int .i64 b)],.row false 2 (.int .i64) c,.row false 5 (.int .u8) d]=>some ⟨Kk (pkV a b c d),[.box 73 [.ref 2,Ki (pkA a c d),Ki (pkS a b c d)],Kl c,Km d],[],[cY a b d&&leN 1 c.length]⟩
 |_,_=>none
def df:PF prog:=PF.alt BQ uQ (by
 intro args es o h aP;unfold uQ at h;split at h
 ·rename_i a b c d
  cases h
  have aP:=md aP
  have hh:=Aq a b c d aP
  obtain⟨e0,e1,e2,en⟩:=hh
  exact la rfl (iW en) (by simp only [e0] <;> rfl) (by simp only [e1,e2] <;> rfl) rfl
 ·cases h)
def GK(b:Int)(a:Nat×Int):Nat ⊕ (Nat×Int):=bif decide (a.1 < 64)then .inr (a.1 + 1,Int.tmod (a.2 * 59 + b) 2147483647)else .inl 0
def frS(c:Kf):Int:=mm c
theorem Dy(code:Kf)(h:cY 0 0 code=true):oG code=true∧cY 0 (frS code) code=true:=by
 obtain⟨_,_,hn,hb⟩:=vW.1 h
 have jU:=zp (lt:=iD) (fun i (a:Nat×Int)=>((i:Int),code,(0:Int),a.2)) GK 0 (fun i a=>a.1=i∧0≤a.2∧a.2 < 2147483647) code (fun i b a he hI=>⟨?_,fun a' hf=> ?_⟩) (fun a hI=> ?_) code 0 (0,52021) rfl (by simp) (by decide)
 ·have hres:=dc.run jU (yR (by simp only [dc];omega))
  have r1:dc.fin ((0:Int),code,(0:Int),(52021:Int))=true:=hres.1
  have r2:dc.res ((0:Int),code,(0:Int),(52021:Int))=_:=hres.2
  have inv: ∀ (r:Kf) (i:Nat) (a:Nat×Int),(∀ x∈r,0≤x∧x≤255)→0≤a.2∧a.2 < 2147483647→0≤(iv GK 0 r i a).2.2.2∧(iv GK 0 r i a).2.2.2 < 2147483647:=by
   intro r
   induction r with
   |nil=>intro i a _ h;exact h
   |cons b r ih=>
    intro i a hx h
    simp only [iv,GK]
    cases decide (a.1 < 64)with
    |false=>exact h
    |true=>
     have hb:=hx b (by simp)
     exact ih _ _ (fun x hm=>hx x (by simp [hm])) (ta (by omega) (by omega))
  obtain⟨q0,q1⟩:=inv code 0 (0,52021) hb (by decide)
  refine⟨by simp [oG,ku,allT,r1],vW.2 ⟨by decide,⟨?_,?_⟩,hn,hb⟩⟩
  ·simp only [frS,mm,ku,r2];exact q0
  ·simp only [frS,mm,ku,r2];exact q1
 ·obtain⟨dj,he⟩:=w5.1 he
  subst he
  obtain⟨h1,h2,h3⟩:=hI
  have hw:=zB dj (by omega)
  obtain⟨c0,c1⟩:=hb code[i] (List.getElem_mem dj)
  have hw1:IntKind.i64.wrap (a.2 * 59)=a.2 * 59:=bG (by omega) (by omega)
  have hw2:IntKind.i64.wrap code[i]=code[i]:=bG (by omega) (by omega)
  have hw3:IntKind.i64.wrap (a.2 * 59 + code[i])=a.2 * 59 + code[i]:=bG (by omega) (by omega)
  have q1:neI 2147483647 0=true:=by decide
  have q2:ltI (i:Int) (code.length:Int)=true:=pT (by omega)
  have q3:leI 0 (i:Int)=true:=ld (by omega)
  have q4:ltN i code.length=true:=wq dj
  simp only [GK,h1]
  by_cases h64:i < 64
  ·have d:decide (i < 64)=true:=decide_eq_true h64
   have d':ltI (i:Int) 64=true:=pT (by omega)
   simp [iD,LT.out,allT,lm,rO,rP,rQ,rR,rS,rT,dj,hw,d,d',hw1,hw2,hw3,q1,q2,q3,q4]
  ·have d:decide (i < 64)=false:=decide_eq_false h64
   have d':ltI (i:Int) 64=false:=IC (by omega)
   simp [iD,LT.out,lm,d,d']
 ·simp only [GK]at hf
  obtain⟨h1,h2,h3⟩:=hI
  obtain⟨c0,c1⟩:=hb b (List.mem_of_getElem? he)
  cases hd:decide (a.1 < 64)with
  |false=>rw [hd]at hf;cases hf
  |true=>
   rw [hd]at hf
   simp only [cond_true,Sum.inr.injEq]at hf
   subst hf
   obtain⟨m0,m1⟩:=ta (x:=a.2 * 59 + b) (n:=2147483647) (by omega) (by omega)
   exact⟨by simp [h1],m0,m1⟩
 ·simp [iD,LT.out,lm]
theorem Ao(a:Kf)(h:cY 0 0 a=true):mm a=frS a∧oG a=true:=⟨rfl,(Dy a h).1⟩
def uO:Kh
 | [.one ⟨false,[.ref 0]⟩],[.row false 5 (.int .u8) a]=>some ⟨Kj (.ptr 1 0),[Km a],[.box 73 [.ref 0,Ki 0,Ki (frS a)]],[cY 0 0 a]⟩
 |_,_=>none
def jK:PF prog:=PF.alt BP uO (by
 intro args es o h aP;unfold uO at h;split at h
 ·rename_i a
  cases h
  have aP:=md aP
  have hh:=Ao a aP
  obtain⟨e0,en⟩:=hh
  exact la rfl (iW en) rfl rfl (by simp only [e0] <;> rfl)
 ·cases h)
theorem rN(k:Int)(s:Kg)(n a b c:Int)(l:Kf):iU k s n a b c [l]=0→aB k s n=true∧dQ k n a b c=true∧iA (jT k) l=true:=by
 intro h
 simp only [iU,List.all_cons,List.all_nil,Bool.and_true]at h
 cases h1:aB k s n <;> cases h2:dQ k n a b c <;> cases h3:iA (jT k) l <;> simp [h1,h2,h3]at h ⊢
theorem HE(k:Int)(s:Kg)(n a b c:Int)(l:Kf):
  fW k s n a b c l=gf k s n a b c l∧fX k s n a b c l=gg k s n a b c l∧fY k s n a b c l=gh k s n a b c l∧
  fZ k s n a b c l=gi k s n a b c l∧gc k s n a b c l=gj k s n a b c l:=by
 cases h:(iU k s n a b c [l]!=0)with
 |true=>simp [gN,cX,fW,fX,fY,fZ,gc,gd,fq,cq,gf,gg,gh,gi,gj,gk,h]
 |false=>
  have h0:iU k s n a b c [l]=0:=by simpa using h
  obtain⟨h1,h2,h3⟩:=rN _ _ _ _ _ _ _ h0
  obtain⟨e0,e1,e2,e3,_⟩:=yu h1 h2 h3
  simp [gN,cX,fW,fX,fY,fZ,gc,gd,fq,cq,gf,gg,gh,gi,gj,gk,h,e0,e1,e2,e3]
theorem Fa(k:Int)(s:Kg)(n a b c:Int)(l:Kf)(hs:s.size≤9223372036854775807)(hl:l.length≤9223372036854775807):
  gd k s n a b c l=true∧gk k s n a b c l=true:=by
 have l1:leN s.size 9223372036854775807=true:=iC hs
 have l2:leN l.length 9223372036854775807=true:=iC hl
 have l3:EZ 9223372036854775807 [l]=true:=Gf.2 ⟨by simp,by simpa using hl⟩
 cases h:(iU k s n a b c [l]!=0)with
 |true=>simp [gN,cX,fW,fX,fY,fZ,gc,gd,fq,cq,gf,gg,gh,gi,gj,gk,h,allT,l1,l2,l3]
 |false=>
  have h0:iU k s n a b c [l]=0:=by simpa using h
  obtain⟨h1,h2,h3⟩:=rN _ _ _ _ _ _ _ h0
  obtain⟨_,_,_,_,e4,e5,_⟩:=yu h1 h2 h3
  simp [gN,cX,fW,fX,fY,fZ,gc,gd,fq,cq,gf,gg,gh,gi,gj,gk,h,allT,l1,l2,l3,e4,e5]
abbrev BS:=Int×Int×Int
def eU(k n:Int)(l:Kf)(s:BS):BS:=(aK k n s.1 s.2.1 s.2.2 l,aL k s.2.1 s.2.2 l,aM k n s.1 s.2.2 l)
def sk(k n:Int)(l:Kf)(s:BS):Int:=bj k n s.1 s.2.1 s.2.2 l
def mu(k n:Int)(l:Kf)(s:BS):Nat:=bif k==7&&l== [1]then(n - s.1).toNat + 1 else bif k==12&&(s.2.2==0&&(l== [1,0]||l== [0,1]))then(n + 1 - s.1).toNat else bif decide (eU k n l s=s)then 0 else 1
theorem ID{k n:Int}{l:Kf}{s:BS}(hn:0≤n∧n≤9999)(hs:0≤s.1):mu k n l s≤10000:=by
 unfold mu
 cases (k==7&&l== [1])with
 |true=>simp;omega
 |false=>
  cases (k==12&&(s.2.2==0&&(l== [1,0]||l== [0,1])))with
  |true=>simp;omega
  |false=>cases decide (eU k n l s=s) <;> simp
theorem Gv{k n a b c:Int}{s:Kg}{l:Kf}(hB:aB k s n=true)(hP:dQ k n a b c=true)(hA:iA (jT k) l=true)(hv:sk k n l (a,b,c)≠1)(pA:eU k n l (a,b,c)≠(a,b,c)):
  mu k n l (eU k n l (a,b,c)) < mu k n l (a,b,c):=by
 obtain⟨hk,hn,_⟩:=lQ hB
 have hwa:=(oz hP hn).1
 have hb:=(oz hP hn).2.1
 have hc:=(oz hP hn).2.2
 have hw:IntKind.i64.wrap (n + 1)=n + 1:=bG (by omega) (by omega)
 have hwa1:IntKind.i64.wrap (a + 1)=a + 1:=bG (by omega) (by omega)
 have hwa2:IntKind.i64.wrap (a - 1)=a - 1:=bG (by omega) (by omega)
 have hm:IntKind.i64.wrap (min (a + 1) n)=min (a + 1) n:=bG (by omega) (by omega)
 have hm2:IntKind.i64.wrap (min n (a + 1))=min n (a + 1):=bG (by omega) (by omega)
 have h01:IntKind.i64.wrap (0 + 1)=1:=rfl
 have n0:IntKind.i64.wrap 0=0:=rfl
 have w1:IntKind.i64.wrap 1=1:=rfl
 have l12:ltI 1 2=true:=rfl
 have hp:=hP
 rcases kinds hk with rfl | rfl | rfl | rfl | rfl | rfl
 ·obtain⟨x,rfl,hx⟩:=sG hA
  simp [dQ,ac,ar]at hp
  rcases hx with rfl | rfl <;> revert hv pA <;> simp only [mu,eU,sk,an,br,bK,aO,bL,bM,bN,bO,bt,bj,aK,aL,aM,aT,aY,bq,bC,bI,bJ,cu,cv,cw,cz,bu,nf,nc] <;> simp [hw,hwa1,hwa2,hm,hm2,h01,n0,w1,l12,hp,Bool.cond_eq_ite] <;> (repeat' split) <;> omega
 ·obtain⟨x,rfl,hx⟩:=sG hA
  simp [dQ,ac,ar]at hp
  rcases hx with rfl | rfl <;> revert hv pA <;> simp only [mu,eU,sk,an,br,bK,aO,bL,bM,bN,bO,bt,bj,aK,aL,aM,aT,aY,bq,bC,bI,bJ,cu,cv,cw,cz,bu,nf,nc] <;> simp [hw,hwa1,hwa2,hm,hm2,h01,n0,w1,l12,hp,Bool.cond_eq_ite] <;> (repeat' split) <;> omega
 ·obtain⟨x,rfl,hx⟩:=sG hA
  simp [dQ,ac,ar]at hp
  rcases hx with rfl | rfl <;> revert hv pA <;> simp only [mu,eU,sk,an,br,bK,aO,bL,bM,bN,bO,bt,bj,aK,aL,aM,aT,aY,bq,bC,bI,bJ,cu,cv,cw,cz,bu,nf,nc] <;> simp [hw,hwa1,hwa2,hm,hm2,h01,n0,w1,l12,hp,Bool.cond_eq_ite] <;> (repeat' split) <;> omega
 ·obtain⟨x,y,rfl,hx,hy⟩:=sH hA
  simp [dQ,ac,ar]at hp
  rcases hx with rfl | rfl <;> rcases hy with rfl | rfl <;> revert hv pA <;> simp only [mu,eU,sk,an,br,bK,aO,bL,bM,bN,bO,bt,bj,aK,aL,aM,aT,aY,bq,bC,bI,bJ,cu,cv,cw,cz,bu,nf,nc] <;> simp [hw,hwa1,hwa2,hm,hm2,h01,n0,w1,l12,hp,Bool.cond_eq_ite] <;> (repeat' split) <;> omega
 ·obtain⟨x,y,rfl,hx,hy⟩:=sH hA
  rcases hb with rfl | rfl <;> rcases hc with rfl | rfl <;> rcases hx with rfl | rfl <;> rcases hy with rfl | rfl <;> simp [dQ,ac,ar,hw]at hp <;> revert hv pA <;> simp only [mu,eU,sk,an,br,bK,aO,bL,bM,bN,bO,bt,bj,aK,aL,aM,aT,aY,bq,bC,bI,bJ,cu,cv,cw,cz,bu,nf,nc] <;> simp [hw,hwa1,hwa2,hm,hm2,h01,n0,w1,l12,hp,Bool.cond_eq_ite] <;> (repeat' split) <;> omega
 ·obtain⟨x,y,rfl,hx,hy⟩:=sH hA
  rcases hb with rfl | rfl <;> rcases hc with rfl | rfl <;> rcases hx with rfl | rfl <;> rcases hy with rfl | rfl <;> simp [dQ,ac,ar,hw]at hp <;> revert hv pA <;> simp only [mu,eU,sk,an,br,bK,aO,bL,bM,bN,bO,bt,bj,aK,aL,aM,aT,aY,bq,bC,bI,bJ,cu,cv,cw,cz,bu,nf,nc] <;> simp [hw,hwa1,hwa2,hm,hm2,h01,n0,w1,l12,hp,Bool.cond_eq_ite] <;> (repeat' split) <;> omega
abbrev SX0:=Int×Int×Kg×Int×Int×Int×Int×List Int
theorem xX{k n a b c:Int}{s:Kg}{l:Kf}(hB:aB k s n=true)(hP:dQ k n a b c=true)(hA:iA (jT k) l=true):
  (fC k n a b c l,fD k b c l,fE k n a b c l)=eU k n l (a,b,c)∧dQ k n (eU k n l (a,b,c)).1 (eU k n l (a,b,c)).2.1 (eU k n l (a,b,c)).2.2=true:=by
 obtain⟨_,e1,e2,e3,_,_,e6⟩:=yu hB hP hA
 exact⟨by rw [e1,e2,e3];rfl,e6⟩
theorem Ch{k n a b c d:Int}{s:Kg}{l:Kf}(hB:aB k s n=true)(hP:dQ k n a b c=true)(hA:iA (jT k) l=true)(h0:1≤d)(h1:d≤10002):
  (ba.lt (d,k,s,n,a,b,c,l)).out=some (bif sk k n l (a,b,c)==1 then .inl 0 else .inr (d + 1,k,s,n,(eU k n l (a,b,c)).1,(eU k n l (a,b,c)).2.1,(eU k n l (a,b,c)).2.2,l)):=by
 obtain⟨_,_,_,_,_,e5,_⟩:=yu hB hP hA
 have hw:IntKind.i64.wrap (d + 1)=d + 1:=bG (by omega) (by omega)
 have hl:leI d 10002=true:=ld h1
 show (fL (d,k,s,n,a,b,c,l)).out=_
 simp only [fL,LT.out,ml,pY,pZ,qa,qb,qc,qd,hl,e5,hw,allT,cond_true,sk,eU]
 cases bj k n a b c l==1 <;> rfl
theorem Bk{k n a b c f:Int}{s:Kg}{l:Kf}(hB:aB k s n=true)(hP:dQ k n a b c=true)(hA:iA (jT k) l=true)(h0:1≤f)(h1:f≤10002):
  (aN.lt (f,k,s,n,a,b,c,l)).out=some (bif sk k n l (a,b,c)==1 then .inl 0 else bif decide (eU k n l (a,b,c)=(a,b,c))then .inl 1 else .inr (f + 1,k,s,n,(eU k n l (a,b,c)).1,(eU k n l (a,b,c)).2.1,(eU k n l (a,b,c)).2.2,l)):=by
 obtain⟨e0,e1,e2,e3,e4,_,_⟩:=yu hB hP hA
 have hw:IntKind.i64.wrap (f + 1)=f + 1:=bG (by omega) (by omega)
 show (kK (f,k,s,n,a,b,c,l)).out=_
 have hd:lU k n a b c l=decide (eU k n l (a,b,c)=(a,b,c)):=by
  simp only [lU,e1,e2,e3,eU,Prod.mk.injEq]
  rw [Bool.eq_iff_iff]
  cases h1:aK k n a b c l==a <;> cases h2:aL k b c l==b <;> cases h3:aM k n a c l==c <;> simp_all
 simp only [kK,LT.out,pM,pN,pO,pP,pQ,pR,hd,e0,e1,e2,e3,e4,hw,allT,cond_true,sk,eU]
 have hap: ∀ (d e:Bool) (u v w:Nat ⊕ SX0),(bif d then some u else bif e then some v else some w)=some (bif d then u else bif e then v else w):=fun d e u v w=>by cases d <;> cases e <;> rfl
 exact hap _ _ _ _ _
theorem xw{k n a b c:Int}{s:Kg}{l:Kf}(hB:aB k s n=true)(hP:dQ k n a b c=true)(hA:iA (jT k) l=true)(hv:(sk k n l (a,b,c)==1)=false)(hn:eU k n l (a,b,c)=(a,b,c)):
  ∀ (m:Nat) (d:Int),1≤d→d + m=10003→lA ba.lt (m + 1) (d,k,s,n,a,b,c,l)=some (1,(10003,k,s,n,a,b,c,l))
 |0,d,h0,h1=>by
  have:d=10003:=by omega
  subst this
  refine gx _ ?_
  show (fL (10003,k,s,n,a,b,c,l)).out=_
  simp only [fL,LT.out,ml,show leI 10003 10002=false from rfl,cond_false]
 |m + 1,d,h0,h1=>by
  have ho:=Ch hB hP hA h0 (by omega)
  rw [hv,cond_false,hn]at ho
  rw [gS _ ho]
  exact xw hB hP hA hv hn m (d + 1) (by omega) (by omega)
theorem Di{k n:Int}{s:Kg}{l:Kf}(hB:aB k s n=true)(hA:iA (jT k) l=true): ∀ (m:Nat) (a b c d:Int),dQ k n a b c=true→mu k n l (a,b,c)≤m→1≤d→d + m≤10002→
  ∃ j y x x',j≤1∧lA aN.lt (m + 1) (d,k,s,n,a,b,c,l)=some (j,(y,x))∧(∃ M:Nat,M + d≤10004∧lA ba.lt M (d,k,s,n,a,b,c,l)=some (j,x'))∧(j=0→x'.1=y∧d≤y∧y≤d + m):=by
 intro m
 induction m with
 |zero=>
  intro a b c d hP hm h0 h1
  have ho:=Bk hB hP hA h0 (by omega)
  have hs:=Ch hB hP hA h0 (by omega)
  cases hv:(sk k n l (a,b,c)==1)with
  |true=>
   rw [hv,cond_true]at ho hs
   exact⟨0,d,_,_,by omega,gx _ ho,⟨1,by omega,gx _ hs⟩,fun _=>⟨rfl,by omega,by omega⟩⟩
  |false=>
   by_cases hn:eU k n l (a,b,c)=(a,b,c)
   ·rw [hv,cond_false,decide_eq_true hn,cond_true]at ho
    obtain⟨M,hM⟩: ∃ M:Nat,d + M=10003:=⟨(10003 - d).toNat,by omega⟩
    exact⟨1,d,_,_,by omega,gx _ ho,⟨M + 1,by omega,xw hB hP hA hv hn M d h0 hM⟩,fun h=>by cases h⟩
   ·have:=Gv hB hP hA (by simpa using hv) hn
    omega
 |succ m ih=>
  intro a b c d hP hm h0 h1
  have ho:=Bk hB hP hA h0 (by omega)
  have hs:=Ch hB hP hA h0 (by omega)
  cases hv:(sk k n l (a,b,c)==1)with
  |true=>
   rw [hv,cond_true]at ho hs
   exact⟨0,d,_,_,by omega,gx _ ho,⟨1,by omega,gx _ hs⟩,fun _=>⟨rfl,by omega,by omega⟩⟩
  |false=>
   by_cases hn:eU k n l (a,b,c)=(a,b,c)
   ·rw [hv,cond_false,decide_eq_true hn,cond_true]at ho
    obtain⟨M,hM⟩: ∃ M:Nat,d + M=10003:=⟨(10003 - d).toNat,by omega⟩
    exact⟨1,d,_,_,by omega,gx _ ho,⟨M + 1,by omega,xw hB hP hA hv hn M d h0 hM⟩,fun h=>by cases h⟩
   ·rw [hv,cond_false,decide_eq_false hn,cond_false]at ho
    rw [hv,cond_false]at hs
    have dj:mu k n l ((eU k n l (a,b,c)).1,(eU k n l (a,b,c)).2.1,(eU k n l (a,b,c)).2.2) < mu k n l (a,b,c):=Gv hB hP hA (by simpa using hv) hn
    obtain⟨j,y,x,x',q1,q2,⟨M,q3,q4⟩,q5⟩:=ih _ _ _ (d + 1) (xX hB hP hA).2 (by omega) (by omega) (by omega)
    refine⟨j,y,x,x',q1,by rw [gS _ ho];exact q2,?_,fun hj=> ?_⟩
    ·exact⟨M + 1,by omega,by rw [gS _ hs];exact q4⟩
    ·obtain⟨u1,u2,u3⟩:=q5 hj;exact⟨u1,by omega,by omega⟩
theorem ET(k:Int)(s:Kg)(n a b c:Int)(l:Kf)(hs:s.size≤9223372036854775807)(hl:l.length≤9223372036854775807):
  gM k s n a b c l=li k s n a b c l∧fc k s n a b c l=lj k s n a b c l∧lb k s n a b c l=true∧lk k s n a b c l=true:=by
 have l1:leN s.size 9223372036854775807=true:=iC hs
 have l2:leN l.length 9223372036854775807=true:=iC hl
 have l3:EZ 9223372036854775807 [l]=true:=Gf.2 ⟨by simp,by simpa using hl⟩
 cases h:(iU k s n a b c [l]!=0)with
 |true=>simp [eG,dN,eH,fV,gM,fc,lb,kb,iH,iI,kd,li,lj,lk,h,allT,l1,l2,l3]
 |false=>
  have h0:iU k s n a b c [l]=0:=by simpa using h
  obtain⟨h1,h2,h3⟩:=rN _ _ _ _ _ _ _ h0
  have hn:=(lQ h1).2.1
  have hm:=ID (k:=k) (l:=l) (s:=(a,b,c)) hn (oz h2 hn).1.1
  obtain⟨j,y,x,x',q1,q2,⟨M,q3,q4⟩,q5⟩:=Di h1 h3 10000 a b c 1 h2 hm (by omega) (by omega)
  obtain⟨i1,i2⟩:=aN.run q2 (by rw [AV];exact Nat.le_trans (show 10001≤1000 ^ 4 by decide) (Nat.pow_le_pow_left (by omega) 4))
  obtain⟨j1,j2⟩:=ba.run q4 (by rw [AV];exact Nat.le_trans (Nat.le_trans (show M≤10004 by omega) (show 10004≤1000 ^ 4 by decide)) (Nat.pow_le_pow_left (by omega) 4))
  simp only [eG,dN,eH,fV,gM,fc,lb,kb,iH,iI,kd,li,lj,lk,h,allT,l1,l2,l3,i1,i2,j1,j2,cond_false,cond_true,Bool.and_self,Bool.false_or]
  match j,q1,q5 with
  |0,_,q5=>
   obtain⟨u1,_,_⟩:=q5 rfl
   simp [Nat.beq,u1]
  |1,_,_=>simp [Nat.beq]
def sj(k:Int)(s:Kg)(n a b c:Int)(l:Kf):Int:=iU k s n a b c [l]
def sbV(k:Int)(s:Kg)(n a b c:Int)(l:Kf):Int:=bif sj k s n a b c l==0 then sk k n l (a,b,c)else 0
def sbS(k:Int)(s:Kg)(n a b c:Int)(l:Kf):BS:=bif sj k s n a b c l==0 then eU k n l (a,b,c)else(0,0,0)
theorem DR(k:Int)(s:Kg)(n a b c:Int)(l:Kf)(h:(leN s.size 9223372036854775807&&leN l.length 9223372036854775807)=true):
  gf k s n a b c l=sbV k s n a b c l∧gg k s n a b c l=(sbS k s n a b c l).1∧gh k s n a b c l=(sbS k s n a b c l).2.1∧gi k s n a b c l=(sbS k s n a b c l).2.2∧
  gj k s n a b c l=sj k s n a b c l∧gk k s n a b c l=true:=by
 simp only [q8,jX]at h
 refine⟨?_,?_,?_,?_,?_,(Fa k s n a b c l h.1 h.2).2⟩ <;> simp only [fq,cq,gf,gg,gh,gi,gj,gk,sbV,sbS,sj,sk,eU] <;> (cases h0:iU k s n a b c [l]==0 <;> simp [bne,h0] <;> simp_all)
theorem DF(k:Int)(s:Kg)(n a b c:Int)(l:Kf)(h:(leN s.size 9223372036854775807&&leN l.length 9223372036854775807)=true):
  fW k s n a b c l=sbV k s n a b c l∧fX k s n a b c l=(sbS k s n a b c l).1∧fY k s n a b c l=(sbS k s n a b c l).2.1∧fZ k s n a b c l=(sbS k s n a b c l).2.2∧
  gc k s n a b c l=sj k s n a b c l∧gd k s n a b c l=true:=by
 obtain⟨e0,e1,e2,e3,e4,_⟩:=DR k s n a b c l h
 obtain⟨f0,f1,f2,f3,f4⟩:=HE k s n a b c l
 simp only [q8,jX]at h
 exact⟨f0.trans e0,f1.trans e1,f2.trans e2,f3.trans e3,f4.trans e4,(Fa k s n a b c l h.1 h.2).1⟩
def sC:Kh
 | [.one ⟨true,[.val (.int .i64 a),.val (.string b),.val (.int .i64 c)]⟩,.one ⟨true,[.val (.int .i64 d),.val (.int .i64 e),.val (.int .i64 f)]⟩,.one ⟨false,[.ref 0]⟩],[.row false 2 (.int .i64) g]=>some ⟨.tup [⟨false,[Ki (sbV a b c d e f g)]⟩,⟨true,[Ki ((sbS a b c d e f g).1),Ki ((sbS a b c d e f g).2.1),Ki ((sbS a b c d e f g).2.2)]⟩,⟨false,[Ki (sj a b c d e f g)]⟩],[Kl g],[],[leN b.size 9223372036854775807&&leN g.length 9223372036854775807]⟩
 |_,_=>none
def iy:PF prog:=PF.alt ze sC (by
 intro args es o h aP;unfold sC at h;split at h
 ·rename_i a b c d e f g
  cases h
  have aP:=md aP
  have hh:=DF a b c d e f g aP
  obtain⟨e0,e1,e2,e3,e4,en⟩:=hh
  exact la rfl (iW en) (by simp only [e0,e1,e2,e3,e4] <;> rfl) rfl rfl
 ·cases h)
section
variable (a b:Int)(c:Kf)
def bX:Int:=w9 .i64 ((7:Int) + nxV 6 a b c)
def aC:Int:=bif cU (bX a b c)then nxA 5 (nxA 6 a c) c else nxA 6 a c
def ij:Int:=bif cU (bX a b c)then nxS 5 (nxA 6 a c) (nxS 6 a b c) c else nxS 6 a b c
def mO:Int:=nxV 30 (aC a b c) (ij a b c) c
def cR:Bool:=mO a b c==0
def dm:Int:=nxS 30 (aC a b c) (ij a b c) c
def dq:Bool:=mO a b c==1
def mP:Int:=bif cU (bX a b c)then bX a b c else bX a b c
def jA:Bool:=mO a b c==2
end
def jB(a b:Int)(c:Kf):Kg:=
 bif cU (bX a b c)then { data:= #[] } else { data:= #[] }
section
variable (a b:Int)(c:Kf)
def mv:Int:=bif cU (bX a b c)then nxV 5 (nxA 6 a c) (nxS 6 a b c) c else(0:Int)
def mw:Bool:=cY (nxA 30 (aC a b c) c) (dm a b c) c
def am:Int:=bif cR a b c then pkV (nxA 30 (aC a b c) c) (dm a b c) [(0:Int),(6:Int),(13:Int)] c else bif dq a b c then mP a b c else bif jA a b c then mP a b c else mP a b c
end
def aA(a b:Int)(c:Kf):Kg:=
 bif cR a b c then jB a b c
 else
 bif dq a b c then jB a b c
 else bif jA a b c then { data:= #[(97:UInt8)] } else jB a b c
section
variable (a b:Int)(c:Kf)
def aE:Int:=bif cR a b c then mv a b c else bif dq a b c then pkV (nxA 30 (aC a b c) c) (dm a b c) [(-1:Int),(1:Int),(9999:Int),(10000:Int)] c else bif jA a b c then mv a b c else mv a b c
def bn:Int:=bif cR a b c then pkA (nxA 30 (aC a b c) c) [(0:Int),(6:Int),(13:Int)] c else bif dq a b c then pkA (nxA 30 (aC a b c) c) [(-1:Int),(1:Int),(9999:Int),(10000:Int)] c else nxA 30 (aC a b c) c
def bo:Int:=bif cR a b c then pkS (nxA 30 (aC a b c) c) (dm a b c) [(0:Int),(6:Int),(13:Int)] c else bif dq a b c then pkS (nxA 30 (aC a b c) c) (dm a b c) [(-1:Int),(1:Int),(9999:Int),(10000:Int)] c else dm a b c
def iO:Bool:=allT [cY a b c,!cU (bX a b c)||cY (nxA 6 a c) (nxS 6 a b c) c,cY (aC a b c) (ij a b c) c,!cR a b c||mw a b c&&leN 1 (w7 [(0:Int),(6:Int),(13:Int)]),cR a b c||(!dq a b c||mw a b c&&leN 1 (w7 [(-1:Int),(1:Int),(9999:Int),(10000:Int)]))]
end
def qA:Kh
 | [.one ⟨false,[.ptr 0 0]⟩],[.box 73 [.ref 1,.val (.int .i64 a),.val (.int .i64 b)],.row false 5 (.int .u8) c]=>some ⟨.one ⟨true,[Ki (am a b c),.val (.string (aA a b c)),Ki (aE a b c)]⟩,[.box 73 [.ref 1,Ki (bn a b c),Ki (bo a b c)],Km c],[],[iO a b c]⟩
 |_,_=>none
def ge:PF prog:=PF.ofG prog (T3z [sX,bR,df]) [] aU 31 f31 func31 (fun c _=>LOk.nil c) qA (by
 intro _ _ _ h;unfold qA at h;split at h<;>cases h;kernel_rfl)
section
variable (a b c:Int)(d:Kf)
def fu:Kf:= [nxV 2 b c d]
def ig:Kf:= [nxV 2 (nxA 2 b d) (nxS 2 b c d) d]
def mK:Bool:= !dU a==2
def iM:Int:=bif dU a==2 then nxA 2 (nxA 2 b d) d else nxA 2 b d
def iN:Int:=bif dU a==2 then nxS 2 (nxA 2 b d) (nxS 2 b c d) d else nxS 2 b c d
def de:Kf:=bif dU a==2 then fu b c d++ig b c d else fu b c d
def gm:Bool:=allT [cY b c d,mK a||cY (nxA 2 b d) (nxS 2 b c d) d,mK a||leN (w7 (fu b c d) + w7 (ig b c d)) 9223372036854775807,mK a||leN ((w7 (fu b c d) + w7 (ig b c d)) * 8) 140737488355328]
end
def qz:Kh
 | [.one ⟨false,[.ptr 0 0]⟩,.one ⟨true,[.val (.int .i64 a),.val (.string _x1),.val (.int .i64 _x2)]⟩],[.box 73 [.ref 1,.val (.int .i64 b),.val (.int .i64 c)],.row false 5 (.int .u8) d]=>some ⟨Kj (.ref 2),[.box 73 [.ref 1,Ki (iM a b d),Ki (iN a b c d)],Km d],[.row true 2 Kb (de a b c d)],[gm a b c d]⟩
 |_,_=>none
def dd:PF prog:=PF.ofG prog (T3z [bR,tZ]) [] aU 33 f33 func33 (fun c _=>LOk.nil c) qz (by
 intro _ _ _ h;unfold qz at h;split at h<;>cases h;kernel_rfl)
def nY(a:Int)(b:Kg)(c d e f:Int):Bool:=bif aB a b c then dB a c d e f else false
def rl:Kh
 | [.one ⟨true,[.val (.int .i64 a),.val (.string b),.val (.int .i64 c)]⟩,.one ⟨true,[.val (.int .i64 d),.val (.int .i64 e),.val (.int .i64 f)]⟩],[]=>some ⟨Kj (.val (.bool (nY a b c d e f))),[],[],[]⟩
 |_,_=>none
def ya:PF prog:=PF.ofG prog [qN,ow] [] aU 11 f11 func11 (fun c _=>LOk.nil c) rl (by
 intro _ _ _ h;unfold rl at h;split at h<;>cases h;kernel_rfl)
abbrev cm:=Int×Int×Kg×Int×Int×Int×Int×Int×Int×List Int
section
variable (a b c d e f g i:Int)(j:Kf)
def kf:Bool:=ltI 0 a
def oO:Bool:=gm b g i j
def oP:Bool:=aT (de b g i j)
def oQ:Int:=w9 .i64 (a - (1:Int))
def tH:Int:=aK b c d e f (de b g i j)
def tI:Int:=aL b e f (de b g i j)
def tJ:Int:=aM b c d f (de b g i j)
def tK:Int:=iM b g j
def tL:Int:=iN b g i j
end
def sz:cm→List (Nat×SV)
 |(a,_,_,_,_,_,_,_,_,_)=> [(6,(Kk a)),(3,(Kj (.ptr 0 0))),(5,(Kj (.ptr 1 0))),(0,(Kj (.ptr 2 0)))]
def sy:cm→List (Nat×Entry)
 |(_,a,b,c,d,e,f,g,i,j)=> [(0,(.box 25 [Ki a,.val (.string b),Ki c])),(1,(.box 27 [Ki d,Ki e,Ki f])),(2,(.box 73 [.ref 3,Ki g,Ki i])),(3,(Km j))]
def sF:Nat→cm→List (Nat×SV)
 |_,_=>[]
def jI:cm→LT cm
 |(a,b,c,d,e,f,g,i,j,k)=> .ite (kf a) (.need [oO b i j k,oP b i j k] (.nrm ((oQ a),b,c,d,tH b d e f g i j k,tI b f g i j k,tJ b d e g i j k,tK b i k,tL b i j k,k) [(0,0),(1,1),(2,2),(3,3)])) (.ext 0 [(0,0),(1,1),(2,2),(3,3)])
def jO(s:St):Option cm:=do
 let some ⟨none,.one ⟨false,[.val (.int .i64 a)]⟩⟩:=s.look 6|none
 let some ⟨none,.one ⟨false,[.ptr 192 0]⟩⟩:=s.look 3|none
 let some ⟨none,.one ⟨false,[.ptr 384 0]⟩⟩:=s.look 5|none
 let some ⟨none,.one ⟨false,[.ptr 0 0]⟩⟩:=s.look 0|none
 let some (.box 25 [.val (.int .i64 b),.val (.string c),.val (.int .i64 d)]):=s.ent 192|none
 let some (.box 27 [.val (.int .i64 e),.val (.int .i64 f),.val (.int .i64 g)]):=s.ent 384|none
 let some (.box 73 [.ref 1,.val (.int .i64 i),.val (.int .i64 j)]):=s.ent 0|none
 let some (.row false 5 (.int IntKind.u8) k):=s.ent 1|none
 some (a,b,c,d,e,f,g,i,j,k)
def aZ:Lp cm where
 h:=⟨[12,13,17,18,19,20,21,22,16,23,24,14,15,6],[0,1,2,3],[],[]⟩
 JL:=sz
 JE:=sy
 XL:=sF
 XE:=fun _=>sy
 q:=fun j=>match j with | _=> .exit 0
 tags:= [0]
 lt:=jI
 fuel:=fun(a,b,c,d,e,f,g,i,k,l)=>a.natAbs + b.natAbs + c.size + d.natAbs + e.natAbs + f.natAbs + g.natAbs + i.natAbs + k.natAbs + l.length
 fix:=fun(_,b,c,d,_,_,_,_,_,l) (a,_,_,_,e,f,g,i,k,_)=>(a,b,c,d,e,f,g,i,k,l)
 σ:= [(0,192),(1,384),(2,0),(3,1)]
 rd:=jO
theorem rj:LoopOk prog (fun k=>Nat.blt k Tryd.f32.ntmps) aZ.F (eZ f32 0):=by
 refine Lp.ok (tbl:= (T3z [mc,dg,bR,dd,df])) (lf:= []) aU aZ (by kernel_rfl) (LOk.nil _) (fun _=>rfl) (fun _ _=>rfl) ?_ ?_ ?_ ?_ (fun _=>rfl) ?_
 ·intro _;kernel_rfl
 ·intro _;kernel_rfl
 ·intro s x h
  have h:jO s=some x:=h
  unfold jO at h
  repeat' split at h
  all_goals cases h
  constructor<;>repeat(first|refine al ‹_› rfl ?_|refine bW rfl ‹_› rfl ?_|rfl)
 ·intro _;kernel_rfl
 ·intro _ _;exact(And.intro rfl trivial)
section
variable (a:Int)(b:Kg)(c d e:Int)(f:Kf)
def mn:Int×Int×Kg×Int×Int×Int×Int×Int×Int×Kf:=(nxV 9 d e f,a,b,c,(0:Int),(0:Int),(0:Int),nxA 9 d f,nxS 9 d e f,f)
def mo:Int×Int×Int×Int×Int×Kf:=(Lp.res aZ (mn a b c d e f)).2.2.2.2.2
def mp:Int×Int×Int×Int×Kf:=(mo a b c d e f).2
def mq:Int×Int×Int×Kf:=(mp a b c d e f).2
def mr:Int×Int×Kf:=(mq a b c d e f).2
def eY:Int:=bif aB a b c then (mr a b c d e f).1else d
def gJ:Int:=bif aB a b c then ((mr a b c d e f).2).1else e
def mt:Int:=nxV 24 (eY a b c d e f) (gJ a b c d e f) (bif aB a b c then f else f)
def ct:Bool:=mt a b c d e f==0
def aX:Int:=nxA 24 (eY a b c d e f) (bif aB a b c then f else f)
def bV:Int:=nxS 24 (eY a b c d e f) (gJ a b c d e f) (bif aB a b c then f else f)
def eC:Kf:= [(-1:Int),(1:Int),bif aB a b c then c else c,w9 .i64 ((bif aB a b c then c else c) + (1:Int)),w9 .i64 ((bif aB a b c then c else c) + (2:Int))]
def cL:Bool:=mt a b c d e f==1
def kS:Int:=bif aB a b c then (mo a b c d e f).1else(0:Int)
def dA:Bool:=mt a b c d e f==2
def kT:Int:=bif aB a b c then (mp a b c d e f).1else(0:Int)
def ph:Int:=pkV (aX a b c d e f) (bV a b c d e f) [(-1:Int),(1:Int),(2:Int)] (bif aB a b c then f else f)
def kU:Int:=bif aB a b c then (mq a b c d e f).1else(0:Int)
def kV:Int:=pkA (aX a b c d e f) [(-1:Int),(1:Int),(2:Int)] (bif aB a b c then f else f)
def kW:Int:=pkS (aX a b c d e f) (bV a b c d e f) [(-1:Int),(1:Int),(2:Int)] (bif aB a b c then f else f)
def kX:Bool:=cY (aX a b c d e f) (bV a b c d e f) (bif aB a b c then f else f)
def kY:Bool:=kX a b c d e f&&leN 1 (w7 [(-1:Int),(1:Int),(2:Int)])
def mL:Int:=bif ct a b c d e f then pkV (aX a b c d e f) (bV a b c d e f) (eC a b c) (bif aB a b c then f else f)else bif cL a b c d e f then kS a b c d e f else bif dA a b c d e f then kS a b c d e f else kS a b c d e f
def mM:Int:=bif ct a b c d e f then kT a b c d e f else bif cL a b c d e f then ph a b c d e f else bif dA a b c d e f then kT a b c d e f else kT a b c d e f
def mN:Int:=bif ct a b c d e f then kU a b c d e f else bif cL a b c d e f then kU a b c d e f else bif dA a b c d e f then ph a b c d e f else kU a b c d e f
def jy:Int:=bif ct a b c d e f then pkA (aX a b c d e f) (eC a b c) (bif aB a b c then f else f)else bif cL a b c d e f then kV a b c d e f else bif dA a b c d e f then kV a b c d e f else aX a b c d e f
def jz:Int:=bif ct a b c d e f then pkS (aX a b c d e f) (bV a b c d e f) (eC a b c) (bif aB a b c then f else f)else bif cL a b c d e f then kW a b c d e f else bif dA a b c d e f then kW a b c d e f else bV a b c d e f
def ii:Bool:=allT [leN (ByteArray.size b) 9223372036854775807,!aB a b c||cY d e f,!aB a b c||Lp.fin aZ (mn a b c d e f),cY (eY a b c d e f) (gJ a b c d e f) (bif aB a b c then f else f),!ct a b c d e f||kX a b c d e f&&leN 1 (w7 (eC a b c)),ct a b c d e f||(!cL a b c d e f||kY a b c d e f),ct a b c d e f||(cL a b c d e f||(!dA a b c d e f||kY a b c d e f))]
end
def ql:Kh
 | [.one ⟨false,[.ptr 0 0]⟩,.one ⟨true,[.val (.int .i64 a),.val (.string b),.val (.int .i64 c)]⟩],[.box 73 [.ref 1,.val (.int .i64 d),.val (.int .i64 e)],.row false 5 (.int .u8) f]=>some ⟨.one ⟨true,[Ki (mL a b c d e f),Ki (mM a b c d e f),Ki (mN a b c d e f)]⟩,[.box 73 [.ref 1,Ki (jy a b c d e f),Ki (jz a b c d e f)],Km f],[],[ii a b c d e f]⟩
 |_,_=>none
def ft:PF prog:=PF.ofG prog (T3z [mc,dg,bR,dd,df]) [aZ.F] aU 32 f32 func32 (LOk.fnT (l:= [eZ f32 0]) (by kernel_rfl) (.cons rj (.nil _))) ql (by
 intro _ _ _ h;unfold ql at h;split at h<;>cases h;kernel_rfl)
section
variable (a:Kf)
def fT:Int:=jy (am 0 (frS a) a) (aA 0 (frS a) a) (aE 0 (frS a) a) (bn 0 (frS a) a) (bo 0 (frS a) a) a
def cK:Int:=iM (am 0 (frS a) a) (fT a) a
def iS:Int:=jz (am 0 (frS a) a) (aA 0 (frS a) a) (aE 0 (frS a) a) (bn 0 (frS a) a) (bo 0 (frS a) a) a
def eA:Int:=iN (am 0 (frS a) a) (fT a) (iS a) a
def az:Bool:=nxV 24 (cK a) (eA a) a==0
def pe:Int:=mL (am 0 (frS a) a) (aA 0 (frS a) a) (aE 0 (frS a) a) (bn 0 (frS a) a) (bo 0 (frS a) a) a
def pf:Int:=mM (am 0 (frS a) a) (aA 0 (frS a) a) (aE 0 (frS a) a) (bn 0 (frS a) a) (bo 0 (frS a) a) a
def pg:Int:=mN (am 0 (frS a) a) (aA 0 (frS a) a) (aE 0 (frS a) a) (bn 0 (frS a) a) (bo 0 (frS a) a) a
def aH:Kf:=de (am 0 (frS a) a) (fT a) (iS a) a
def eB:Bool:=nxV 24 (cK a) (eA a) a==1
def me:Int:=bif az a then am 0 (frS a) a else am 0 (frS a) a
def gD:Kg:=bif az a then aA 0 (frS a) a else aA 0 (frS a) a
def mf:Int:=bif az a then aE 0 (frS a) a else aE 0 (frS a) a
def mg:Int:=bif az a then pe a else pe a
def mh:Int:=bif az a then pf a else pf a
def mi:Int:=bif az a then pg a else pg a
def gE:Kf:=bif az a then aH a++ [(0:Int)]else bif eB a then List.set (aH a) (w6 0) (pkV (nxA 24 (cK a) a) (nxS 24 (cK a) (eA a) a) [(-1:Int),(2:Int)] a)else aH a
def mj:Bool:=allT [cY 0 0 a,iO 0 (frS a) a,ii (am 0 (frS a) a) (aA 0 (frS a) a) (aE 0 (frS a) a) (bn 0 (frS a) a) (bo 0 (frS a) a) a,gm (am 0 (frS a) a) (fT a) (iS a) a,cY (cK a) (eA a) a,!az a||leN (w7 (aH a) + w7 [(0:Int)]) (9223372036854775807:Nat),!az a||leN ((w7 (aH a) + w7 [(0:Int)]) * (8:Nat)) 140737488355328,az a||(!eB a||cY (nxA 24 (cK a) a) (nxS 24 (cK a) (eA a) a) a&&leN 1 (w7 [(-1:Int),(2:Int)])),az a||(!eB a||leI 0 0),az a||(!eB a||ltI 0 (↑(w7 (aH a)):Int)),az a||(!eB a||ltN (w6 0) (w7 (aH a)))]
end
def pH:Kh
 | [.one ⟨false,[.ref 0]⟩],[.row false 5 (.int .u8) a]=>some ⟨.tup [⟨true,[Ki (me a),.val (.string (gD a)),Ki (mf a)]⟩,⟨true,[Ki (mg a),Ki (mh a),Ki (mi a)]⟩,⟨false,[.ref 1]⟩],[Km a],[.row true 2 Kb (gE a)],[mj a]⟩
 |_,_=>none
def vF:PF prog:=PF.ofG prog (T3z [jK,ge,bR,dd,ft,df]) [] aU 14 f14 func14 (fun c _=>LOk.nil c) pH (by
 intro _ _ _ h;unfold pH at h;split at h<;>cases h;kernel_rfl)
def nZ(a:Int):Int:=bif bif a==1 then a==1 else bif a==2 then a==2 else a==3 then(0:Int)else bif bif a==4 then a==4 else bif a==7 then a==7 else bif a==8 then a==8 else a==9 then(1:Int)else(2:Int)
def nP:Kh
 | [.one ⟨false,[.val (.int .i64 a)]⟩],[]=>some ⟨Kk (nZ a),[],[],[]⟩
 |_,_=>none
def tE:PF prog:=PF.ofG prog [] [] aU 39 f39 func39 (fun c _=>LOk.nil c) nP (by
 intro _ _ _ h;unfold nP at h;split at h<;>cases h;kernel_rfl)
def nF(a:Kf)(b:Int):Bool:= !iA (nZ b) a
def nG(a:Kf):Bool:=allT [leN a.length (9223372036854775807:Nat)]
def nC:Kh
 | [.one ⟨false,[.ref 0]⟩,.one ⟨false,[.ptr 1 0]⟩],[.row false 2 (.int .i64) a,.box 25 [.val (.int .i64 b),.val (.string c),.val (.int .i64 d)]]=>some ⟨Kj (.val (.bool (nF a b))),[Kl a,.box 25 [Ki b,.val (.string c),Ki d]],[],[nG a]⟩
 |_,_=>none
def dK:PF prog:=PF.ofG prog (T3z [jJ,tE]) [] aU 37 f37 func37 (fun c _=>LOk.nil c) nC (by
 intro _ _ _ h;unfold nC at h;split at h<;>cases h;kernel_rfl)
abbrev aw:=Int×Int×Int×Kg×Int×List (List Int)
section
variable (a b c:Int)(d:Kd)
def fN:Kf:=w8 d[w6 a]? (iV Ka)
def lI:Bool:=ltI a b
def lJ:Bool:=leI 0 a
def lK:Bool:=ltI a (↑d.length:Int)
def lL:Bool:=ltN a.toNat d.length
def lM:Bool:=nG (fN a d)
def lN:Bool:=nF (fN a d) c
def lO:Int:=w9 .i64 (a + (1:Int))
end
def kB:aw→List (Nat×SV)
 |(a,b,_,_,_,_)=> [(8,(Kk a)),(7,(Kk b)),(1,(Kj (.clo 37 [0]))),(0,(Kj (.ref 1)))]
def kz:aw→List (Nat×Entry)
 |(_,_,a,b,c,d)=> [(0,(.box 25 [Ki a,.val (.string b),Ki c])),(1,(.row true 28 Ka d))]
def kF:Nat→aw→List (Nat×SV)
 |0,(a,_,_,_,_,_)=> [(4,(Kk a))]
 |_,_=>[]
def kL:aw→LT aw
 |(a,b,c,d,e,f)=> .ite (lI a b) (.need [lJ a,lK a f,lL a f,lM a f] (.ite (lN a c f) (.ext 0 [(0,0),(1,1)]) (.nrm ((lO a),b,c,d,e,f) [(0,0),(1,1)]))) (.ext 1 [(0,0),(1,1)])
def dw(s:St):Option aw:=do
 let some ⟨none,.one ⟨false,[.val (.int .i64 a)]⟩⟩:=s.look 8|none
 let some ⟨none,.one ⟨false,[.val (.int .i64 b)]⟩⟩:=s.look 7|none
 let some ⟨none,.one ⟨false,[.clo 37 [1]]⟩⟩:=s.look 1|none
 let some ⟨none,.one ⟨false,[.ref 0]⟩⟩:=s.look 0|none
 let some (.box 25 [.val (.int .i64 c),.val (.string d),.val (.int .i64 e)]):=s.ent 1|none
 let some (.row true 28 (.sl 2 (.int .i64)) f):=s.ent 0|none
 some (a,b,c,d,e,f)
def af:Lp aw where
 h:=⟨[9,10,5,11,12,13,14,15,16,17,4,18,8],[0,1],[],[]⟩
 JL:=kB
 JE:=kz
 XL:=kF
 XE:=fun _=>kz
 q:=fun j=>match j with | 0=> .ret | _=> .exit 0
 tags:= [0,1]
 lt:=kL
 fuel:=fun(a,b,c,d,e,f)=>a.natAbs + b.natAbs + c.natAbs + d.size + e.natAbs + f.length
 fix:=fun(_,b,c,d,e,f) (a,_,_,_,_,_)=>(a,b,c,d,e,f)
 σ:= [(0,1),(1,0)]
 rd:=dw
theorem jZ:LoopOk prog (fun k=>Nat.blt k Tryd.f54.ntmps) af.F (eZ f54 0):=by
 refine Lp.ok (tbl:= (T3z [dK])) (lf:= []) aU af (by kernel_rfl) (LOk.nil _) (fun _=>rfl) (fun j _=>by unfold af;match j with | 0=>rfl | _ + 1=>rfl) ?_ ?_ ?_ ?_ (fun _=>rfl) ?_
 ·intro _;kernel_rfl
 ·intro _;kernel_rfl
 ·intro s x h
  have h:dw s=some x:=h
  unfold dw at h
  repeat' split at h
  all_goals cases h
  constructor<;>repeat(first|refine al ‹_› rfl ?_|refine bW rfl ‹_› rfl ?_|rfl)
 ·intro _;kernel_rfl
 ·intro _ _;exact(And.intro (And.intro trivial rfl) trivial)
section
variable (a:Kd)(b:Int)(c:Kg)(d:Int)
def bB:Int×Int×Int×Kg×Int×Kd:=((0:Int),(↑a.length:Int),b,c,d,a)
def aD:Bool:=Nat.beq ((Lp.res af (bB a b c d)).1) 0
def cP:Int:=bif aD a b c d then ((Lp.res af (bB a b c d)).2).1else(-1:Int)
def ia:Kd:=bif aD a b c d then a else a
def ib:Int:=bif aD a b c d then b else b
def ic:Kg:=bif aD a b c d then c else c
def ie:Int:=bif aD a b c d then d else d
def cQ:Bool:=allT [Lp.fin af (bB a b c d)]
end
def gY:Kh
 | [.one ⟨false,[.ref 0]⟩,.one ⟨false,[.clo 37 [1]]⟩],[.row true 28 (.sl 2 (.int .i64)) a,.box 25 [.val (.int .i64 b),.val (.string c),.val (.int .i64 d)]]=>some ⟨Kk (cP a b c d),[.row true 28 Ka (ia a b c d),.box 25 [Ki (ib a b c d),.val (.string (ic a b c d)),Ki (ie a b c d)]],[],[cQ a b c d]⟩
 |_,_=>none
def eg:PF prog:=PF.ofG prog (T3z [dK]) [af.F] aU 54 f54 func54 (LOk.fnT (l:= [eZ f54 0]) (by kernel_rfl) (.cons jZ (.nil _))) gY (by
 intro _ _ _ h;unfold gY at h;split at h<;>cases h;kernel_rfl)
section
variable (a:Kd)(b:Int)(c:Kg)(d:Int)
def bZ:Bool:=leI 0 (cP a b c d)
def lE:Kd:=ia a b c d
def lF:Int:=ib a b c d
def lG:Kg:=ic a b c d
def lH:Int:=ie a b c d
def cd:Bool:=allT [cQ a b c d]
end
def gp:Kh
 | [.one ⟨false,[.ref 0]⟩,.one ⟨false,[.clo 37 [1]]⟩],[.row true 28 (.sl 2 (.int .i64)) a,.box 25 [.val (.int .i64 b),.val (.string c),.val (.int .i64 d)]]=>some ⟨Kj (.val (.bool (bZ a b c d))),[.row true 28 Ka (lE a b c d),.box 25 [Ki (lF a b c d),.val (.string (lG a b c d)),Ki (lH a b c d)]],[],[cd a b c d]⟩
 |_,_=>none
def dE:PF prog:=PF.ofG prog (T3z [eg]) [] aU 36 f36 func36 (fun c _=>LOk.nil c) gp (by
 intro _ _ _ h;unfold gp at h;split at h<;>cases h;kernel_rfl)
section
variable (a:Int)(b:Kg)(c d e f:Int)
def io:Kd:=bif !!dB a c d e f&&true then []else []
def kI:Int:=bif !aB a b c then(1:Int)else bif bif !dB a c d e f then true else bZ (io a c d e f) a b c then(2:Int)else(0:Int)
def kJ:Bool:=allT [!aB a b c||(!(!!dB a c d e f&&true)||cd (io a c d e f) a b c)]
end
def oV:Kh
 | [.one ⟨true,[.val (.int .i64 a),.val (.string b),.val (.int .i64 c)]⟩,.one ⟨true,[.val (.int .i64 d),.val (.int .i64 e),.val (.int .i64 f)]⟩,.one ⟨false,[.val (.slice none 0 0)]⟩],[]=>some ⟨Kk (kI a b c d e f),[],[],[kJ a b c d e f]⟩
 |_,_=>none
def uq:PF prog:=PF.ofG prog (T3z [qN,ow,dE]) [] aU 15 f15 func15 (fun c _=>LOk.nil c) oV (by
 intro _ _ _ h;unfold oV at h;split at h<;>cases h;kernel_rfl)
def oC(a:Int)(b:Kg)(c d e f:Int):Bool:=bif aB a b c then ac a c d e f else false
def oD(a:Kg):Bool:=allT [leN (ByteArray.size a) 9223372036854775807]
def rp:Kh
 | [.one ⟨true,[.val (.int .i64 a),.val (.string b),.val (.int .i64 c)]⟩,.one ⟨true,[.val (.int .i64 d),.val (.int .i64 e),.val (.int .i64 f)]⟩],[]=>some ⟨Kj (.val (.bool (oC a b c d e f))),[],[],[oD b]⟩
 |_,_=>none
def yg:PF prog:=PF.ofG prog [mc,nt] [] aU 12 f12 func12 (fun c _=>LOk.nil c) rp (by
 intro _ _ _ h;unfold rp at h;split at h<;>cases h;kernel_rfl)
theorem Lp.inv{X:Type}(p:Lp X)(I Q:Nat→X→Prop)
  (hs: ∀ k x,I (k + 1) x→(∃ j,(p.lt x).out=some (.inl j)∧Q j x)∨ ∃ y,(p.lt x).out=some (.inr y)∧I k y)
  (he: ∀ x,I 0 x→ ∃ j,(p.lt x).out=some (.inl j)∧Q j x) (N:Nat) (x:X) (hN:N≤999) (h:I N x):
  p.fin x=true∧ ∃ j y,p.res x=(j,y)∧Q j y:=by
 have jU: ∀ (k:Nat) (x:X),I k x→ ∃ j y,lA p.lt (k + 1) x=some (j,y)∧Q j y:=by
  intro k
  induction k with
  |zero=>
   intro x h
   obtain⟨j,h1,h2⟩:=he x h
   exact⟨j,x,gx _ h1,h2⟩
  |succ k ih=>
   intro x h
   rcases hs k x h with⟨j,h1,h2⟩ | ⟨y,h1,h2⟩
   ·exact⟨j,x,gx _ h1,h2⟩
   ·obtain⟨j,z,h3,h4⟩:=ih y h2
    exact⟨j,z,by rw [gS _ h1];exact h3,h4⟩
 obtain⟨j,y,h1,h2⟩:=jU N x h
 obtain⟨r1,r2⟩:=p.run h1 (yR (by omega))
 exact⟨r1,j,y,r2,h2⟩
theorem vJ{n a s:Int}{c:Kf}(h:cY a s c=true):cY (nxA n a c) (nxS n a s c) c=true:=(xY n h).2.1
theorem HC{a s x:Int}{l c:Kf}(h:cY a s c=true):cY (pkA a (x::l) c) (pkS a s (x::l) c) c=true:=(Gz (l:=x::l) (by rw [h];rfl)).2.1
theorem Jq{n a s:Int}{c:Kf}(h:cY a s c=true)(hn:1≤n):0≤nxV n a s c∧nxV n a s c < n:=⟨(xY n h).2.2.1,(xY n h).2.2.2 hn⟩
theorem FQ{C:Type}(x:C)(l:List C):leN 1 (x::l).length=true:=iC (by simp)
theorem zJ{a s:Int}{c:Kf}(h:cY a s c=true):iO a s c=true∧cY (bn a s c) (bo a s c) c=true∧(aA a s c).size≤1:=by
 have h1:=vJ (n:=6) h
 have h2:cY (aC a s c) (ij a s c) c=true:=by
  simp only [aC,ij]
  have p0:=vJ (n:=5) h1
  cases cU (bX a s c) <;> simp only [cond_true,cond_false,p0,h1]
 have h3:cY (nxA 30 (aC a s c) c) (dm a s c) c=true:=vJ h2
 refine⟨?_,?_,?_⟩
 ·simp [iO,allT,h,h1,h2,h3,mw,FQ]
 ·have p1: ∀ x l,cY (pkA (nxA 30 (aC a s c) c) (x::l) c) (pkS (nxA 30 (aC a s c) c) (dm a s c) (x::l) c) c=true:=fun x l=>HC h3
  simp only [bn,bo]
  cases cR a s c <;> cases dq a s c <;> simp only [cond_true,cond_false,p1,h3]
 ·simp only [aA,jB]
  cases cR a s c <;> cases dq a s c <;> cases jA a s c <;> cases cU (bX a s c) <;> decide
theorem zH{a s:Int}{c:Kf}(k:Int)(h:cY a s c=true):gm k a s c=true∧cY (iM k a c) (iN k a s c) c=true∧
  (1≤(de k a s c).length∧(de k a s c).length≤2):=by
 have h1:=vJ (n:=2) h
 refine⟨?_,?_,?_⟩
 ·simp [gm,allT,h,h1,fu,ig]
 ·simp only [iM,iN]
  have p0:=vJ (n:=2) h1
  cases dU k==2 <;> simp only [cond_true,cond_false,p0,h1]
 ·simp only [de,fu,ig]
  cases dU k==2 <;> simp
theorem HD{l:Kf}(h:1≤l.length):aT l=true:=by
 have h0:ltI 0 (l.length:Int)=true:=pT (by omega)
 have h1:ltN 0 l.length=true:=wq (by omega)
 simp [aT,bt,allT,h0,h1]
 by_cases hq:1 < l.length
 ·exact .inr (by omega)
 ·exact .inl (by omega)
theorem Ht(c:Kf)(k:Int)(nm:Kg)(n:Int)(K:Nat)(hK:K≤100)(x y z a s:Int)(h:cY a s c=true):
  aZ.fin ((K:Int),k,nm,n,x,y,z,a,s,c)=true∧ ∃ j r,aZ.res ((K:Int),k,nm,n,x,y,z,a,s,c)=(j,r)∧cY r.2.2.2.2.2.2.2.1 r.2.2.2.2.2.2.2.2.1 c=true:=by
 refine aZ.inv (fun m x=>(x.1=(m:Int)∧m≤100)∧cY x.2.2.2.2.2.2.2.1 x.2.2.2.2.2.2.2.2.1 c=true∧x.2.2.2.2.2.2.2.2.2=c) (fun _ r=>cY r.2.2.2.2.2.2.2.1 r.2.2.2.2.2.2.2.2.1 c=true)
  (fun m x hx=> .inr ?_) (fun x hx=> ?_) K _ (by omega) ⟨⟨rfl,hK⟩,h,rfl⟩
 ·obtain⟨b,d,e,f,g,i,l,o,p,q⟩:=x
  obtain⟨⟨h0,hm⟩,h1,h2⟩:=hx
  simp only at h0 h1 h2
  subst h0 h2
  obtain⟨q1,q2,q3⟩:=zH d h1
  have t1:ltI 0 ((m + 1:Nat):Int)=true:=pT (by omega)
  have t2:=HD q3.1
  refine⟨?_,?_,?_⟩
  rotate_left
  ·simp only [aZ,jI,LT.out,kf,oO,oP,t1,q1,t2,allT,cond_true]
   rfl
  ·refine⟨⟨?_,by omega⟩,q2,rfl⟩
   simp only [oQ];rw [bG (by omega) (by omega)];omega
 ·obtain⟨b,d,e,f,g,i,l,o,p,q⟩:=x
  obtain⟨⟨h0,_⟩,h1,h2⟩:=hx
  simp only at h0 h1 h2
  subst h0 h2
  exact⟨0,by simp [aZ,jI,LT.out,kf],h1⟩
theorem xI{a s:Int}{c:Kf}(k:Int)(nm:Kg)(n:Int)(hs:nm.size≤1)(h:cY a s c=true):ii k nm n a s c=true∧cY (jy k nm n a s c) (jz k nm n a s c) c=true:=by
 have s1:=vJ (n:=9) h
 have n1:=Jq (n:=9) h (by omega)
 obtain⟨f1,j,r,f2,f3⟩:=Ht c k nm n (nxV 9 a s c).toNat (by omega) 0 0 0 _ _ s1
 have e:(((nxV 9 a s c).toNat:Nat):Int)=nxV 9 a s c:=by omega
 rw [e]at f1 f2
 have hx:(bif aB k nm n then c else c)=c:=by cases aB k nm n <;> rfl
 have e0:mn k nm n a s c=(nxV 9 a s c,k,nm,n,0,0,0,nxA 9 a c,nxS 9 a s c,c):=rfl
 have s2:cY (eY k nm n a s c) (gJ k nm n a s c) c=true:=by
  simp only [eY,gJ,mr,mq,mp,mo,e0,f2]
  cases aB k nm n <;> simp only [cond_true,cond_false,h,f3]
 have s3:cY (aX k nm n a s c) (bV k nm n a s c) c=true:=by
  simp only [aX,bV,hx];exact vJ s2
 have p3: ∀ x l,cY (pkA (aX k nm n a s c) (x::l) c) (pkS (aX k nm n a s c) (bV k nm n a s c) (x::l) c) c=true:=fun x l=>HC s3
 have l1:leN nm.size 9223372036854775807=true:=iC (by omega)
 refine⟨?_,?_⟩
 ·simp [ii,allT,h,l1,e0,f1,hx,s2,kX,kY,s3,eC,FQ]
 ·simp only [jy,jz,kV,kW,eC,hx]
  cases ct k nm n a s c <;> cases cL k nm n a s c <;> cases dA k nm n a s c <;> simp only [cond_true,cond_false,p3,s3]
theorem zI{c:Kf}(h:cY 0 0 c=true):mj c=true∧(gD c).size≤1∧(gE c).length≤3:=by
 have h0:=(Dy c h).2
 obtain⟨t1,t2,t3⟩:=zJ h0
 obtain⟨u1,u2⟩:=xI (am 0 (frS c) c) (aA 0 (frS c) c) (aE 0 (frS c) c) t3 t2
 obtain⟨v1,v2,v3⟩:=zH (am 0 (frS c) c) u2
 have w2:cY (cK c) (eA c) c=true:=v2
 have w3:=vJ (n:=24) w2
 have a:gm (am 0 (frS c) c) (fT c) (iS c) c=true:=v1
 have b:1≤(aH c).length∧(aH c).length≤2:=v3
 have d:leN ((aH c).length + 1) 9223372036854775807=true:=iC (by omega)
 have e:leN (((aH c).length + 1) * 8) 140737488355328=true:=iC (by omega)
 have f:ltI 0 ((aH c).length:Int)=true:=pT (by omega)
 have g:ltN 0 (aH c).length=true:=wq (by omega)
 refine⟨?_,?_,?_⟩
 ·simp only [mj,allT,h,t1,u1,a,w2,w3,List.length_singleton,d,e,f,g,FQ,Hu,Int.toNat_zero,w4,Bool.and_self,cond_true]
 ·simp only [gD];cases az c <;> exact t3
 ·simp only [gE]
  cases az c <;> cases eB c <;> simp <;> omega
def pJ:Kh
 | [.one ⟨false,[.ref 0]⟩],[.row false 5 (.int .u8) a]=>some ⟨.tup [⟨true,[Ki (me a),.val (.string (gD a)),Ki (mf a)]⟩,⟨true,[Ki (mg a),Ki (mh a),Ki (mi a)]⟩,⟨false,[.ref 1]⟩],[Km a],[.row true 2 Kb (gE a)],[cY 0 0 a]⟩
 |_,_=>none
def mb:PF prog:=PF.alt vF pJ (by
 intro args es o h aP;unfold pJ at h;split at h
 ·rename_i x0
  cases h
  have aP:=md aP
  have hh:=(zI aP).1
  have en:=hh
  exact la rfl (iW en) rfl rfl rfl
 ·cases h)
def Bn(k:Int)(s:Kg)(n a b c:Int):Bool:=aB k s n&&dQ k n a b c
def jt(k:Int)(s:Kg)(n a b c:Int):Int:=iU k s n a b c []
theorem Im(k:Int)(s:Kg)(n a b c:Int)(h:leN s.size 9223372036854775807=true):oC k s n a b c=Bn k s n a b c∧oD s=true:=by
 refine⟨?_,by simp only [oD,allT,h];rfl⟩
 simp only [oC,Bn,dQ]
 cases aB k s n <;> rfl
theorem Il(k:Int)(s:Kg)(n a b c:Int):nY k s n a b c=Bn k s n a b c:=by
 simp only [nY,Bn]
 cases h:aB k s n with
 |false=>rfl
 |true=>rw [DO (lQ h).1];rfl
theorem Jr(k:Int)(s:Kg)(n:Int):af.fin (0,0,k,s,n,[])=true∧af.res (0,0,k,s,n,[])=(1,0,0,k,s,n,[]):=
 by
 have h1:lA af.lt (0 + 1) (0,0,k,s,n,[])=some (1,(0,0,k,s,n,[])):=gx _ rfl
 exact af.run h1 (yR (by omega))
def rv:Kh
 | [.one ⟨true,[.val (.int .i64 a),.val (.string b),.val (.int .i64 c)]⟩,.one ⟨true,[.val (.int .i64 d),.val (.int .i64 e),.val (.int .i64 f)]⟩],[]=>some ⟨Kj (.val (.bool (Bn a b c d e f))),[],[],[leN b.size 9223372036854775807]⟩
 |_,_=>none
def rI:PF prog:=PF.alt yg rv (by
 intro args es o h aP;unfold rv at h;split at h
 ·rename_i a b c d e f
  cases h
  have aP:=md aP
  have hh:=Im a b c d e f aP
  obtain⟨e0,en⟩:=hh
  exact la rfl (iW en) (by simp only [e0] <;> rfl) rfl rfl
 ·cases h)
def rt:Kh
 | [.one ⟨true,[.val (.int .i64 a),.val (.string b),.val (.int .i64 c)]⟩,.one ⟨true,[.val (.int .i64 d),.val (.int .i64 e),.val (.int .i64 f)]⟩],[]=>some ⟨Kj (.val (.bool (Bn a b c d e f))),[],[],[]⟩
 |_,_=>none
def rH:PF prog:=PF.alt ya rt (by
 intro args es o h aP;unfold rt at h;split at h
 ·rename_i a b c d e f
  cases h
  have hh:=Il a b c d e f
  have e0:=hh
  exact la rfl (fun _ h=>by cases h) (by simp only [e0] <;> rfl) rfl rfl
 ·cases h)
theorem Hb(k:Int)(s:Kg)(n a b c:Int):kI k s n a b c=jt k s n a b c∧kJ k s n a b c=true:=by
 obtain⟨w1,w2⟩:=Jr k s n
 have w1:af.fin (bB [] k s n)=true:=w1
 have w2:af.res (bB [] k s n)=_:=w2
 have ea:io k n a b c= []:=by simp only [io];cases (!!dB k n a b c&&true) <;> rfl
 refine⟨?_,?_⟩
 ·simp only [kI,bZ,cd,cP,cQ,aD,ea,w1,w2,jt,iU]
  cases h:aB k s n with
  |false=>rfl
  |true=>
   rw [DO (lQ h).1]
   cases dQ k n a b c <;> rfl
 ·simp only [kJ,bZ,cd,cP,cQ,aD,ea,w1,w2,allT]
  simp
def pI:Kh
 | [.one ⟨true,[.val (.int .i64 a),.val (.string b),.val (.int .i64 c)]⟩,.one ⟨true,[.val (.int .i64 d),.val (.int .i64 e),.val (.int .i64 f)]⟩,.one ⟨false,[.val (.slice none 0 0)]⟩],[]=>some ⟨Kk (jt a b c d e f),[],[],[]⟩
 |_,_=>none
def ma:PF prog:=PF.alt uq pI (by
 intro args es o h aP;unfold pI at h;split at h
 ·rename_i a b c d e f
  cases h
  obtain⟨e0,en⟩:=Hb a b c d e f
  exact la rfl (iW en) (by simp only [e0] <;> rfl) rfl rfl
 ·cases h)
section
variable (a:Int)
def lc:Int:=w9 .i64 (w9 .i64 ((11:Int) + a) - (7:Int))
def eM:Kg:=w8 ur[w6 (lc a)]? ByteArray.empty
def pn:Bool:=allT [leI 0 (lc a),ltI (lc a) (↑(w7 ur):Int),ltN (w6 (lc a)) (w7 ur)]
end
def sr:Kh
 | [.one ⟨true,[.val (.int .i64 a),.val (.string b),.val (.int .i64 c)]⟩],[]=>some ⟨Kj (.val (.string (eM a))),[],[],[pn a]⟩
 |_,_=>none
def zg:PF prog:=PF.ofG prog [] [] aU 20 f20 func20 (fun c _=>LOk.nil c) sr (by
 intro _ _ _ h;unfold sr at h;split at h<;>cases h;kernel_rfl)
def bP(a:Int):Kg:=aV a
def lV(a:Int):Bool:=allT [leI (-9223372036854775808:Int) a,leI a 9223372036854775807]
def uv:Kh
 | [.one ⟨false,[.val (.int .i64 a)]⟩],[]=>some ⟨Kj (.val (.string (bP a))),[],[],[lV a]⟩
 |_,_=>none
def qQ:PF prog:=PF.ofG prog [vY] [] aU 21 f21 func21 (fun c _=>LOk.nil c) uv (by
 intro _ _ _ h;unfold uv at h;split at h<;>cases h;kernel_rfl)
section
variable (a:Int)
def ng:Kg:=strOfNums [w9 IntKind.u8 (w9 .i64 ((48:Int) + Int.tmod a 10))]
def nh:Bool:=ltI a 10||neI 10 0
def oE:Kg:=bif ltI a 10 then strOfNums [w9 IntKind.u8 (w9 .i64 ((48:Int) + a))]else aV (w9 .i64 (Int.tdiv a 10))++ng a
end
def oF(m0 a:Int):Bool:=allT [nh a,ltI a 10||leI 0 (w9 .i64 (Int.tdiv a 10))&&ltI (w9 .i64 (Int.tdiv a 10)) m0,nh a,ltI a 10||leN (ByteArray.size (aV (w9 .i64 (Int.tdiv a 10))) + ByteArray.size (ng a)) 9223372036854775807]
def uy(m0:Int):Kh
 | [.one ⟨false,[.val (.int .i64 a)]⟩],[]=>some ⟨Kj (.val (.string (oE a))),[],[],[oF m0 a]⟩
 |_,_=>none
def BO(m0:Int)(hk0:CB m0):PF prog:=PF.ofG prog [PF.dec m0 hk0] [] aU 26 f26 func26 (fun c _=>LOk.nil c) (uy m0) (by
 intro _ _ _ h;unfold uy at h;split at h<;>cases h;kernel_rfl)
theorem Fd{x:Int}(h:0≤x)(h1:x < 256):IntKind.u8.wrap x=x:=by
 have e:IntKind.u8.wrap x=x % 256:=rfl
 rw [e];omega
theorem Bo{x:Int}(h:0≤x):aV x=⟨(Lib.decDigits x.toNat).toArray⟩:=by
 obtain⟨u,rfl⟩: ∃ u:Nat,x=u:=⟨x.toNat,by omega⟩
 simp only [aV,Lib.itoa_nonneg,q9]
theorem Ey{x:Int}(h:0≤x)(h1:x < 10):aV x=strOfNums [x + 48]:=by
 rw [Bo h,Lib.decDigits_one (by omega)]
 have e:(x + 48).toNat=48 + x.toNat:=by omega
 simp only [strOfNums,List.map_cons,List.map_nil,e]
theorem GM{x:Int}(h:0≤x)(h1: ¬ x < 10):aV x=aV (x / 10)++strOfNums [x % 10 + 48]:=by
 rw [Bo h,Bo (show 0≤x / 10 by omega),Lib.decDigits,dif_neg (by omega)]
 have e1:(x / 10).toNat=x.toNat / 10:=by omega
 have e2:(x % 10 + 48).toNat=48 + x.toNat % 10:=by omega
 apply ByteArray.ext
 apply Array.ext'
 simp [strOfNums,e1,e2,ByteArray.data_append]
theorem Bp{x:Int}(h:0≤x)(h1:x≤9223372036854775807):(aV x).size≤21:=by
 have:=Lib.itoa_length_le x (by omega) h1
 simpa [aV,ByteArray.size] using this
theorem HN{m m' x:Int}(hx:0≤x)(h9:x≤9223372036854775807)(hm:x < 10∨x / 10 < m):oF m x=true∧oE x=aV x:=by
 have e:Int.tdiv x 10=x / 10:=Int.tdiv_eq_ediv_of_nonneg hx
 have e':Int.tmod x 10=x % 10:=Int.tmod_eq_emod_of_nonneg hx
 have hw:IntKind.i64.wrap (Int.tdiv x 10)=x / 10:=by rw [e];exact bG (by omega) (by omega)
 have h2:neI 10 0=true:=rfl
 have h3:ng x=strOfNums [x % 10 + 48]:=by
  have w1:IntKind.i64.wrap (48 + x % 10)=x % 10 + 48:=by rw [bG (by omega) (by omega)];omega
  have w2:IntKind.u8.wrap (x % 10 + 48)=x % 10 + 48:=Fd (by omega) (by omega)
  simp only [ng,e',w1,w2]
 have hs:=Bp (x:=x / 10) (by omega) (by omega)
 have hl:leN ((aV (x / 10)).size + (strOfNums [x % 10 + 48]).size) 9223372036854775807=true:=by
  rw [strOfNums_size]
  exact iC (by simp;omega)
 cases hc:ltI x 10 with
 |true=>
  have hc':=vP.1 hc
  have w1:IntKind.i64.wrap (48 + x)=x + 48:=by rw [bG (by omega) (by omega)];omega
  have w2:IntKind.u8.wrap (x + 48)=x + 48:=Fd (by omega) (by omega)
  refine⟨by simp [oF,nh,hc,h2,allT],?_⟩
  simp only [oE,hc,cond_true,w1,w2,Ey hx hc']
 |false=>
  have hc':=tv.1 hc
  have q1:leI 0 (x / 10)=true:=ld (by omega)
  have q2:ltI (x / 10) m=true:=pT (by omega)
  refine⟨by simp only [oF,nh,hc,h2,h3,hw,hl,q1,q2,allT,w4,Bool.and_self,Bool.false_or];rfl,?_⟩
  simp only [oE,hc,cond_false,hw,h3]
  exact(GM hx (by omega)).symm
theorem vd{m m':Int}(hk:CB m)(h:m'≤10∨m'≤10 * m)(hm:m'≤1000000):CB m':=by
 refine(PF.alt (BO m hk) (DX m') ?_).ok
 intro args es o h aP
 unfold DX at h
 split at h
 ·rename_i x0
  cases h
  have h1:=aP _ (List.mem_cons_self ..)
  simp only [q8,qs,vP]at h1
  obtain⟨h2,h3⟩:=HN (m:=m) (m':=m') h1.1 (by omega) (by omega)
  exact la rfl (iW h2) (by simp only [h3] <;> rfl) rfl rfl
 ·cases h
theorem Hg:CB 0:=by
 intro args es o h aP
 unfold DX at h
 split at h
 ·cases h
  have h1:=aP _ (List.mem_cons_self ..)
  simp only [q8,qs,vP]at h1
  omega
 ·cases h
theorem JH:CB 100000:=
 vd (m:=10000) (vd (m:=1000) (vd (m:=100) (vd (m:=10) (vd (m:=0) Hg (.inl (by omega)) (by omega)) (.inr (by omega)) (by omega)) (.inr (by omega)) (by omega)) (.inr (by omega)) (by omega)) (.inr (by omega)) (by omega)
def sf:PF prog:=PF.dec 100000 JH
abbrev eq:=Int×Kg×List Int
section
variable (a:Int)(b:Kg)(c:Kf)
def eI:Int:=w8 c[w6 a]? 0
def iP:Kg:=bif ltI 0 a then b++ByteArray.mk #[44]else b
def jm:Bool:=ltI a (↑c.length:Int)
def lq:Bool:= !ltI 0 a||leN (ByteArray.size b + ByteArray.size (ByteArray.mk #[44])) 9223372036854775807
def lr:Bool:=leI 0 a
def ls:Bool:=ltN a.toNat c.length
def lu:Bool:=leI 0 (eI a c)&&ltI (eI a c) 100000
def lv:Bool:=leN (ByteArray.size (iP a b) + ByteArray.size (aV (eI a c))) 9223372036854775807
def lw:Int:=w9 .i64 (a + (1:Int))
def lx:Kg:=iP a b++aV (eI a c)
end
def wH:eq→List (Nat×SV)
 |(a,b,_)=> [(4,(Kk a)),(0,(Kj (.ref 0))),(3,(Kj (.val (.string b))))]
def wC:eq→List (Nat×Entry)
 |(_,_,a)=> [(0,(Kl a))]
def wR:Nat→eq→List (Nat×SV)
 |_,(_,a,_)=> [(3,(Kj (.val (.string a))))]
def dO:eq→LT eq
 |(a,b,c)=> .ite (jm a c) (.need [lq a b] (.need [lr a,jm a c,ls a c,lu a c,lv a b c] (.nrm ((lw a),lx a b c,c) [(0,0)]))) (.ext 0 [(0,0)])
def nz(s:St):Option eq:=do
 let some ⟨none,.one ⟨false,[.val (.int .i64 a)]⟩⟩:=s.look 4|none
 let some ⟨none,.one ⟨false,[.ref 0]⟩⟩:=s.look 0|none
 let some ⟨none,.one ⟨false,[.val (.string b)]⟩⟩:=s.look 3|none
 let some (.row false 2 (.int .i64) c):=s.ent 0|none
 some (a,b,c)
def cA:Lp eq where
 h:=⟨[5,6,7,8,11,12,13,14,3,15,16,17,18,19,20,21,9,10,4],[0],[],[]⟩
 JL:=wH
 JE:=wC
 XL:=wR
 XE:=fun _=>wC
 q:=fun j=>match j with | _=> .exit 0
 tags:= [0]
 lt:=dO
 fuel:=fun(a,b,c)=>a.natAbs + b.size + c.length
 fix:=fun(_,_,c) (a,b,_)=>(a,b,c)
 σ:= [(0,0)]
 rd:=nz
theorem vr:LoopOk prog (fun k=>Nat.blt k Tryd.f27.ntmps) cA.F (eZ f27 0):=by
 refine Lp.ok (tbl:= [sf]) (lf:= []) aU cA (by kernel_rfl) (LOk.nil _) (fun _=>rfl) (fun _ _=>rfl) ?_ ?_ ?_ ?_ (fun _=>rfl) ?_
 ·intro _;kernel_rfl
 ·intro _;kernel_rfl
 ·intro s x h
  have h:nz s=some x:=h
  unfold nz at h
  repeat' split at h
  all_goals cases h
  constructor<;>repeat(first|refine al ‹_› rfl ?_|refine bW rfl ‹_› rfl ?_|rfl)
 ·intro _;kernel_rfl
 ·intro _ _;exact(And.intro rfl trivial)
section
variable (a:Kf)
def qk:Int×Kg×Kf:=((0:Int),ByteArray.mk #[],a)
def rc:Kg:=((Lp.res cA (qk a)).2.2).1
def re:Bool:=allT [Lp.fin cA (qk a)]
end
def uJ:Kh
 | [.one ⟨false,[.ref 0]⟩],[.row false 2 (.int .i64) a]=>some ⟨Kj (.val (.string (rc a))),[Kl a],[],[re a]⟩
 |_,_=>none
def BZ:PF prog:=PF.ofG prog [sf] [cA.F] aU 27 f27 func27 (LOk.fnT (l:= [eZ f27 0]) (by kernel_rfl) (.cons vr (.nil _))) uJ (by
 intro _ _ _ h;unfold uJ at h;split at h<;>cases h;kernel_rfl)
abbrev gt:=Int×Int×List Int×List Kg
section
variable (a b:Int)(c:Kf)(d:List Kg)
def km:Int:=w8 c[w6 a]? 0
def od:Bool:=ltI a b
def lW:Bool:=leI 0 a
def oe:Bool:=ltI a (↑c.length:Int)
def og:Bool:=ltN a.toNat c.length
def oh:Bool:=lV (km a c)
def oi:Bool:=ltI a (↑d.length:Int)
def oj:Bool:=ltN a.toNat d.length
def ol:Int:=w9 .i64 (a + (1:Int))
def om:List Kg:=List.set d a.toNat (bP (km a c))
end
def Ad:gt→List (Nat×SV)
 |(a,b,_,_)=> [(13,(Kk a)),(12,(Kk b)),(11,(Kj (.ref 0))),(5,(Kj (.ref 1)))]
def Ac:gt→List (Nat×Entry)
 |(_,_,a,b)=> [(0,(Kl a)),(1,(.row true 9 (CTy.str) b))]
def Af:Nat→gt→List (Nat×SV)
 |_,_=>[]
def fF:gt→LT gt
 |(a,b,c,d)=> .ite (od a b) (.need [lW a,oe a c,og a c] (.need [oh a c,lW a,oi a d,oj a d] (.nrm ((ol a),b,c,(om a c d)) [(0,0),(1,1)]))) (.ext 0 [(0,0),(1,1)])
def qh(s:St):Option gt:=do
 let some ⟨none,.one ⟨false,[.val (.int .i64 a)]⟩⟩:=s.look 13|none
 let some ⟨none,.one ⟨false,[.val (.int .i64 b)]⟩⟩:=s.look 12|none
 let some ⟨none,.one ⟨false,[.ref 0]⟩⟩:=s.look 11|none
 let some ⟨none,.one ⟨false,[.ref 320]⟩⟩:=s.look 5|none
 let some (.row false 2 (.int .i64) c):=s.ent 0|none
 let some (.row true 9 (.str) d):=s.ent 320|none
 some (a,b,c,d)
def dS:Lp gt where
 h:=⟨[14,15,16,17,6,7,18,19,20,21,22,23,13],[0,1],[],[]⟩
 JL:=Ad
 JE:=Ac
 XL:=Af
 XE:=fun _=>Ac
 q:=fun j=>match j with | _=> .exit 0
 tags:= [0]
 lt:=fF
 fuel:=fun(a,b,c,d)=>a.natAbs + b.natAbs + c.length + d.length
 fix:=fun(_,b,c,_) (a,_,_,d)=>(a,b,c,d)
 σ:= [(0,0),(1,320)]
 rd:=qh
theorem xR:LoopOk prog (fun k=>Nat.blt k Tryd.f22.ntmps) dS.F (eZ f22 0):=by
 refine Lp.ok (tbl:= (T3z [qQ,jM])) (lf:= []) aU dS (by kernel_rfl) (LOk.nil _) (fun _=>rfl) (fun _ _=>rfl) ?_ ?_ ?_ ?_ (fun _=>rfl) ?_
 ·intro _;kernel_rfl
 ·intro _;kernel_rfl
 ·intro s x h
  have h:qh s=some x:=h
  unfold qh at h
  repeat' split at h
  all_goals cases h
  constructor<;>repeat(first|refine al ‹_› rfl ?_|refine bW rfl ‹_› rfl ?_|rfl)
 ·intro _;kernel_rfl
 ·intro _ _;exact(And.intro rfl trivial)
section
variable (a:Kg)(b:Kf)
def tu:Int×Int×Kf×List Kg:=((0:Int),(↑b.length:Int),b,List.replicate (w6 (↑b.length:Int)) (ByteArray.mk #[]))
def oc:List Kg:=(Lp.res dS (tu b)).2.2.2.2
def vk:Kg:=Ez a (oc b)
end
def vl(a:Kg)(b:Kf):Bool:=
 allT
 [leI (0:Int) (↑b.length:Int),leI (↑b.length:Int) (↑b.length:Int),
  leI ((↑(16:Nat):Int) * (↑b.length:Int)) (281474976710656:Int),leI (↑b.length:Int) (9223372036854775807:Int),
  Lp.fin dS (tu b),leN (1:Nat) (w7 (oc b)),
  leN (w7 (oc b)) (140737488355328:Nat),
  leN (w7 (Lib.join (List.map (fun x=>Array.toList (ByteArray.data x)) (oc b)) (Array.toList (ByteArray.data a))))
   (140737488355328:Nat)]
def zD:Kh
 | [.one ⟨false,[.ref 0]⟩,.one ⟨false,[.val (.string a)]⟩],[.row false 2 (.int .i64) b]=>some ⟨Kj (.val (.string (vk a b))),[Kl b],[],[vl a b]⟩
 |_,_=>none
def EI:PF prog:=PF.ofG prog (T3z [qQ,jM]) [dS.F] aU 22 f22 func22 (LOk.fnT (l:= [eZ f22 0]) (by kernel_rfl) (.cons xR (.nil _))) zD (by
 intro _ _ _ h;unfold zD at h;split at h<;>cases h;kernel_rfl)
def mG:Kg:=⟨#[44]⟩
def tb(a b c:Int):Kg:=aV a++mG++aV b++mG++aV c
def dgB(a:Int):Bool:=leI 0 a&&ltI a 100000
def dg3(a b c:Int):Bool:=dgB a&&(dgB b&&dgB c)
theorem xG{a:Int}:dgB a=true↔0≤a∧a < 100000:=by simp only [dgB,q8,qs,vP]
theorem Du{a:Int}(h:dgB a=true):lV a=true:=by
 obtain⟨h1,h2⟩:=xG.1 h
 simp only [lV,allT,ld (show -9223372036854775808≤a by omega),ld (show a≤9223372036854775807 by omega)]
 rfl
theorem py{a:Int}(h:dgB a=true):(aV a).size≤21:=Bp (xG.1 h).1 (by have:=(xG.1 h).2;omega)
theorem IX(a b c:Int):Ez mG [aV a,aV b,aV c]=tb a b c:=by
 apply ByteArray.ext
 apply Array.ext'
 simp [Ez,tb,mG,Lib.join_cons,Lib.joinTail,ByteArray.data_append]
theorem Hr{a b c:Int}(ha:dgB a=true)(hb:dgB b=true)(hc:dgB c=true):
  dS.fin (tu [a,b,c])=true∧oc [a,b,c]= [aV a,aV b,aV c]:=by
 have e:Kg:=⟨#[]⟩
 have s0:(fF (0,3,[a,b,c],[⟨#[]⟩,⟨#[]⟩,⟨#[]⟩])).out=some (.inr (1,3,[a,b,c],[aV a,⟨#[]⟩,⟨#[]⟩])):=by
  have h:=Du ha
  simp only [fF,LT.out,od,lW,oe,og,oh,km,oi,oj,ol,om,bP]
  simp [h,allT] <;> rfl
 have s1:(fF (1,3,[a,b,c],[aV a,⟨#[]⟩,⟨#[]⟩])).out=some (.inr (2,3,[a,b,c],[aV a,aV b,⟨#[]⟩])):=by
  have h:=Du hb
  simp only [fF,LT.out,od,lW,oe,og,oh,km,oi,oj,ol,om,bP]
  simp [h,allT] <;> rfl
 have s2:(fF (2,3,[a,b,c],[aV a,aV b,⟨#[]⟩])).out=some (.inr (3,3,[a,b,c],[aV a,aV b,aV c])):=by
  have h:=Du hc
  simp only [fF,LT.out,od,lW,oe,og,oh,km,oi,oj,ol,om,bP]
  simp [h,allT] <;> rfl
 have s3:(fF (3,3,[a,b,c],[aV a,aV b,aV c])).out=some (.inl 0):=rfl
 have hr:lA dS.lt 4 (0,3,[a,b,c],[⟨#[]⟩,⟨#[]⟩,⟨#[]⟩])=some (0,(3,3,[a,b,c],[aV a,aV b,aV c])):=
  (gS 3 s0).trans ((gS 2 s1).trans ((gS 1 s2).trans (gx 0 s3)))
 obtain⟨i1,i2⟩:=dS.run hr (yR (by simp [dS]))
 refine⟨i1,?_⟩
 show (dS.res (0,3,[a,b,c],[⟨#[]⟩,⟨#[]⟩,⟨#[]⟩])).2.2.2.2=_
 rw [i2]
theorem HU{a b c:Int}(h:dg3 a b c=true):vk mG [a,b,c]=tb a b c∧vl mG [a,b,c]=true:=by
 simp only [dg3,q8]at h
 obtain⟨ha,hb,hc⟩:=h
 obtain⟨i1,i2⟩:=Hr ha hb hc
 refine⟨by simp only [vk,i2,IX],?_⟩
 have h1:=py ha
 have h2:=py hb
 have h3:=py hc
 have hl:leN (w7 (Lib.join (List.map (fun x=>Array.toList (ByteArray.data x)) [aV a,aV b,aV c]) (Array.toList (ByteArray.data mG)))) 140737488355328=true:=by
  refine iC ?_
  simp [mG,Lib.join_cons,Lib.joinTail]
  omega
 have hn:((w7 [a,b,c]:Nat):Int)=3:=rfl
 have hm:w7 [aV a,aV b,aV c]=3:=rfl
 simp only [vl,i1,i2,hl,allT,hn,hm,ld (show (0:Int)≤3 by omega),ld (show (3:Int)≤3 by omega),ld (show ((16:Nat):Int) * 3≤281474976710656 by omega),ld (show (3:Int)≤9223372036854775807 by omega),iC (show 1≤3 by omega),iC (show 3≤140737488355328 by omega),cond_true]
theorem Hv{a b c:Int}(ha:dgB a=true)(hb:dgB b=true)(hc:dgB c=true):
  cA.fin (qk [a,b,c])=true∧rc [a,b,c]=tb a b c:=by
 have h1:=py ha
 have h2:=py hb
 have h3:=py hc
 have hc1:mG.size=1:=rfl
 have ee:(⟨#[]⟩:Kg)++aV a=aV a:=ByteArray.empty_append
 have s0:(dO (0,⟨#[]⟩,[a,b,c])).out=some (.inr (1,aV a,[a,b,c])):=by
  have n1:leN (ByteArray.size ⟨#[]⟩ + (aV a).size) 9223372036854775807=true:=iC (by have:ByteArray.size ⟨#[]⟩=0:=rfl;omega)
  have n2:(leI 0 a&&ltI a 100000)=true:=ha
  simp only [dO,LT.out,jm,lq,lr,ls,lu,eI,iP,lv,lw,lx]
  have q:ltI 0 0=false:=rfl
  simp only [q,cond_false,Int.toNat_zero,List.getElem?_cons_zero,Option.getD_some,n1,n2,ee]
  rfl
 have s1:(dO (1,aV a,[a,b,c])).out=some (.inr (2,aV a++mG++aV b,[a,b,c])):=by
  have n0:leN ((aV a).size + ByteArray.size ⟨#[44]⟩) 9223372036854775807=true:=iC (by have:ByteArray.size ⟨#[44]⟩=1:=rfl;omega)
  have n1:leN ((aV a++⟨#[44]⟩).size + (aV b).size) 9223372036854775807=true:=iC (by rw [ByteArray.size_append];have:ByteArray.size ⟨#[44]⟩=1:=rfl;omega)
  have n2:(leI 0 b&&ltI b 100000)=true:=hb
  simp only [dO,LT.out,jm,lq,lr,ls,lu,eI,iP,lv,lw,lx]
  have q:ltI 0 1=true:=rfl
  have t1:w6 1=1:=rfl
  simp only [q,cond_true,t1,List.getElem?_cons_succ,List.getElem?_cons_zero,Option.getD_some,n0,n1,n2]
  rfl
 have s2:(dO (2,aV a++mG++aV b,[a,b,c])).out=some (.inr (3,tb a b c,[a,b,c])):=by
  have n0:leN ((aV a++mG++aV b).size + ByteArray.size ⟨#[44]⟩) 9223372036854775807=true:=iC (by rw [ByteArray.size_append,ByteArray.size_append];have:ByteArray.size ⟨#[44]⟩=1:=rfl;omega)
  have n1:leN ((aV a++mG++aV b++⟨#[44]⟩).size + (aV c).size) 9223372036854775807=true:=iC (by rw [ByteArray.size_append,ByteArray.size_append,ByteArray.size_append];have:ByteArray.size ⟨#[44]⟩=1:=rfl;omega)
  have n2:(leI 0 c&&ltI c 100000)=true:=hc
  simp only [dO,LT.out,jm,lq,lr,ls,lu,eI,iP,lv,lw,lx]
  have q:ltI 0 2=true:=rfl
  have t1:w6 2=2:=rfl
  simp only [q,cond_true,t1,List.getElem?_cons_succ,List.getElem?_cons_zero,Option.getD_some,n0,n1,n2]
  rfl
 have s3:(dO (3,tb a b c,[a,b,c])).out=some (.inl 0):=rfl
 have hr:lA cA.lt 4 (0,⟨#[]⟩,[a,b,c])=some (0,(3,tb a b c,[a,b,c])):=
  (gS 3 s0).trans ((gS 2 s1).trans ((gS 1 s2).trans (gx 0 s3)))
 obtain⟨i1,i2⟩:=cA.run hr (yR (by simp [cA]))
 refine⟨i1,?_⟩
 show (cA.res (0,⟨#[]⟩,[a,b,c])).2.2.1=_
 rw [i2]
theorem HX{a b c:Int}(h:dg3 a b c=true):rc [a,b,c]=tb a b c∧re [a,b,c]=true:=by
 simp only [dg3,q8]at h
 obtain⟨i1,i2⟩:=Hv h.1 h.2.1 h.2.2
 exact⟨i2,by simp only [re,i1,allT];rfl⟩
def uT:Kh
 | [.one ⟨false,[.ref 0]⟩],[.row false 2 (.int .i64) [a,b,c]]=>some ⟨Kj (.val (.string (tb a b c))),[Kl [a,b,c]],[],[dg3 a b c]⟩
 |_,_=>none
def qO:PF prog:=PF.alt BZ uT (by
 intro args es o h aP;unfold uT at h;split at h
 ·rename_i a b c
  cases h
  have aP:=md aP
  obtain⟨e0,en⟩:=HX aP
  exact la rfl (iW en) (congrArg (fun t=>SV.one ⟨false,[.val (.string t)]⟩) e0) rfl rfl
 ·cases h)
def zF:Kh
 | [.one ⟨false,[.ref 0]⟩,.one ⟨false,[.val (.string sp)]⟩],[.row false 2 (.int .i64) [a,b,c]]=>bif decide (sp=mG)then some ⟨Kj (.val (.string (tb a b c))),[Kl [a,b,c]],[],[dg3 a b c]⟩else none
 |_,_=>none
def vz:PF prog:=PF.alt EI zF (by
 intro args es o h aP;unfold zF at h;split at h
 ·rename_i sp a b c
  cases hs:decide (sp=mG)with
  |false=>rw [hs]at h;cases h
  |true=>
   rw [hs]at h
   have hs:=of_decide_eq_true hs
   subst hs
   cases h
   have aP:=md aP
   obtain⟨e0,en⟩:=HU aP
   exact la rfl (iW en) (congrArg (fun t=>SV.one ⟨false,[.val (.string t)]⟩) e0) rfl rfl
 ·cases h)
section
variable (a:Int)(b:Kg)(c d e f:Int)
def fo:Int:=w9 .i64 (w9 .i64 (a - (7:Int)) + (11:Int))
def oB:Kg:=w8 dR[w6 (fo a)]? ByteArray.empty
def jj:Kg:=oB a++ByteArray.mk #[32]
def lh:Kg:=jj a++aV c++ByteArray.mk #[32]
def jP:Kg:=bif !aB a b c then ByteArray.mk #[]else bif !ac a c d e f then ByteArray.mk #[]else lh a c++tb d e f
def jQ:Int:=bif !aB a b c then(1:Int)else bif !ac a c d e f then(2:Int)else(0:Int)
def jR:Bool:=allT [leN (ByteArray.size b) 9223372036854775807,!aB a b c||(!ac a c d e f||leI 0 (fo a)),!aB a b c||(!ac a c d e f||ltI (fo a) (↑(w7 dR):Int)),!aB a b c||(!ac a c d e f||ltN (w6 (fo a)) (w7 dR)),!aB a b c||(!ac a c d e f||leN (ByteArray.size (oB a) + ByteArray.size (ByteArray.mk #[32])) 9223372036854775807),!aB a b c||(!ac a c d e f||leI 0 c&&ltI c 100000),!aB a b c||(!ac a c d e f||leN (ByteArray.size (jj a) + ByteArray.size (aV c)) 9223372036854775807),!aB a b c||(!ac a c d e f||leN (ByteArray.size (jj a++aV c) + ByteArray.size (ByteArray.mk #[32])) 9223372036854775807),!aB a b c||(!ac a c d e f||dg3 d e f),!aB a b c||(!ac a c d e f||leN (ByteArray.size (lh a c) + ByteArray.size (tb d e f)) 9223372036854775807)]
end
def sv:Kh
 | [.one ⟨true,[.val (.int .i64 a),.val (.string b),.val (.int .i64 c)]⟩,.one ⟨true,[.val (.int .i64 d),.val (.int .i64 e),.val (.int .i64 f)]⟩],[]=>some ⟨.tup [⟨false,[.val (.string (jP a b c d e f))]⟩,⟨false,[Ki (jQ a b c d e f)]⟩],[],[],[jR a b c d e f]⟩
 |_,_=>none
def zi:PF prog:=PF.ofG prog (T3z [mc,nt,nr,sf,qO]) [] aU 10 f10 func10 (fun c _=>LOk.nil c) sv (by
 intro _ _ _ h;unfold sv at h;split at h<;>cases h;kernel_rfl)
section
variable (a:Int)(b:Kg)(c d e f:Int)
def bx:Bool:=jt a b c d e f !=0
def aQ:Kg:=eM a++ByteArray.mk #[32]
def cW:Kg:=aQ a++bP c++ByteArray.mk #[32]
def mz:Kg:=bif bx a b c d e f then ByteArray.mk #[]else cW a c++tb d e f
def mA:Int:=bif bx a b c d e f then jt a b c d e f else(0:Int)
def mB:Bool:=allT [bx a b c d e f||pn a,bx a b c d e f||leN (ByteArray.size (eM a) + ByteArray.size (ByteArray.mk #[32])) 9223372036854775807,bx a b c d e f||lV c,bx a b c d e f||leN (ByteArray.size (aQ a) + ByteArray.size (bP c)) 9223372036854775807,bx a b c d e f||leN (ByteArray.size (aQ a++bP c) + ByteArray.size (ByteArray.mk #[32])) 9223372036854775807,bx a b c d e f||dg3 d e f,bx a b c d e f||leN (ByteArray.size (cW a c) + ByteArray.size (tb d e f)) 9223372036854775807]
end
def sm:Kh
 | [.one ⟨true,[.val (.int .i64 a),.val (.string b),.val (.int .i64 c)]⟩,.one ⟨true,[.val (.int .i64 d),.val (.int .i64 e),.val (.int .i64 f)]⟩],[]=>some ⟨.tup [⟨false,[.val (.string (mz a b c d e f))]⟩,⟨false,[Ki (mA a b c d e f)]⟩],[],[],[mB a b c d e f]⟩
 |_,_=>none
def zc:PF prog:=PF.ofG prog (T3z [cS,ma,zg,qQ,vz]) [] aU 9 f9 func9 (fun c _=>LOk.nil c) sm (by
 intro _ _ _ h;unfold sm at h;split at h<;>cases h;kernel_rfl)
def btT(k:Int)(s:Kg)(n a b c:Int):Kg:=bif jt k s n a b c==0 then cW k n++tb a b c else⟨#[]⟩
theorem Br{k:Int}(h:7≤k∧k≤12):pn k=true∧(eM k).size≤5∧oB k=eM k∧leI 0 (fo k)=true∧
  ltI (fo k) (↑(w7 dR):Int)=true∧ltN (w6 (fo k)) (w7 dR)=true:=by
 rcases kinds h with rfl | rfl | rfl | rfl | rfl | rfl <;> exact⟨rfl,by decide,rfl,rfl,rfl,rfl⟩
theorem HO{k n a b c:Int}{s:Kg}(h:(jt k s n a b c==0)=true):aB k s n=true∧dQ k n a b c=true:=by
 simp only [jt,iU]at h
 cases h1:aB k s n with
 |false=>rw [h1]at h;cases h
 |true=>
  cases h2:dQ k n a b c with
  |false=>rw [h1,h2]at h;cases h
  |true=>exact⟨rfl,rfl⟩
theorem AD:ByteArray.size (ByteArray.mk #[32])=1:=rfl
theorem Fv:mG.size=1:=rfl
theorem Ec{k n a b c:Int}(hk:7≤k∧k≤12)(hn:dgB n=true)(h:dg3 a b c=true):(aQ k).size≤6∧(bP n).size≤21∧(cW k n).size≤28∧(tb a b c).size≤65:=by
 simp only [dg3,q8]at h
 have h0:=(Br hk).2.1
 have h1:=py h.1
 have h2:=py h.2.1
 have h3:=py h.2.2
 have h4:=py hn
 have e1:(aQ k).size=(eM k).size + 1:=by simp only [aQ,ByteArray.size_append,AD]
 have e2:(cW k n).size=(aQ k).size + (aV n).size + 1:=by simp only [cW,bP,ByteArray.size_append,AD]
 have e3:(tb a b c).size=(aV a).size + 1 + (aV b).size + 1 + (aV c).size:=by simp only [tb,ByteArray.size_append,Fv]
 have e4:bP n=aV n:=rfl
 rw [e4]
 omega
theorem Iw{k n a b c:Int}{s:Kg}(h:(jt k s n a b c==0)=true):(7≤k∧k≤12)∧dgB n=true∧dg3 a b c=true:=by
 obtain⟨h1,h2⟩:=HO h
 obtain⟨k1,k2,_⟩:=lQ h1
 obtain⟨p1,p2,p3⟩:=oz h2 k2
 refine⟨k1,xG.2 (by omega),?_⟩
 simp only [dg3,q8,xG]
 omega
theorem IK(k:Int)(s:Kg)(n a b c:Int):mz k s n a b c=btT k s n a b c∧mA k s n a b c=jt k s n a b c∧mB k s n a b c=true:=by
 cases h:jt k s n a b c==0 with
 |false=>simp [mz,mA,mB,bx,btT,bne,h,allT]
 |true=>
  obtain⟨hk,hn,hd⟩:=Iw h
  obtain⟨z1,z2,z3,z4⟩:=Ec hk hn hd
  obtain⟨f1,f2,_⟩:=Br hk
  have e0:jt k s n a b c=0:=by simpa using h
  have q1:=Du hn
  have s1:(aQ k++bP n).size≤27:=by rw [ByteArray.size_append];omega
  refine⟨by simp only [mz,bx,btT,bne,h,Bool.not_true,cond_false,cond_true],by rw [mA,bx,e0];rfl,?_⟩
  simp only [mB,bx,bne,h,Bool.not_true,Bool.false_or,f1,q1,hd,allT,cond_true,AD,
   iC (show (eM k).size + 1≤9223372036854775807 by omega),iC (show (aQ k).size + (bP n).size≤9223372036854775807 by omega),
   iC (show (aQ k++bP n).size + 1≤9223372036854775807 by omega),iC (show (cW k n).size + (tb a b c).size≤9223372036854775807 by omega)]
theorem IL(k:Int)(s:Kg)(n a b c:Int)(hs:leN s.size 9223372036854775807=true):jP k s n a b c=btT k s n a b c∧jQ k s n a b c=jt k s n a b c∧jR k s n a b c=true:=by
 have ep:ac k n a b c=dQ k n a b c:=rfl
 cases h1:aB k s n with
 |false=>simp [jP,jQ,jR,h1,btT,jt,iU,allT,hs]
 |true=>
  cases h2:dQ k n a b c with
  |false=>simp [jP,jQ,jR,h1,ep,h2,btT,jt,iU,allT,hs]
  |true=>
   have h:(jt k s n a b c==0)=true:=by simp [jt,iU,h1,h2]
   have e0:jt k s n a b c=0:=by simpa using h
   obtain⟨hk,hn,hd⟩:=Iw h
   obtain⟨z1,z2,z3,z4⟩:=Ec hk hn hd
   obtain⟨f1,f2,f3,f4,f5,f6⟩:=Br hk
   have a2:jj k=aQ k:=by simp only [jj,aQ,f3]
   have a3:lh k n=cW k n:=by simp only [lh,cW,a2,bP]
   have z2':(aV n).size≤21:=z2
   have s1:(aQ k++aV n).size≤27:=by rw [ByteArray.size_append];omega
   have q1:(leI 0 n&&ltI n 100000)=true:=hn
   refine⟨by simp only [jP,h1,ep,h2,btT,h,a3,Bool.not_true,cond_false,cond_true],by simp only [jQ,h1,ep,h2,Bool.not_true,cond_false,e0],?_⟩
   simp only [jR,h1,ep,h2,Bool.not_true,Bool.false_or,hs,f3,f4,f5,f6,a2,a3,q1,hd,allT,cond_true,AD,
    iC (show (eM k).size + 1≤9223372036854775807 by omega),iC (show (aQ k).size + (aV n).size≤9223372036854775807 by omega),
    iC (show (aQ k++aV n).size + 1≤9223372036854775807 by omega),iC (show (cW k n).size + (tb a b c).size≤9223372036854775807 by omega)]
def sA:Kh
 | [.one ⟨true,[.val (.int .i64 a),.val (.string b),.val (.int .i64 c)]⟩,.one ⟨true,[.val (.int .i64 d),.val (.int .i64 e),.val (.int .i64 f)]⟩],[]=>some ⟨.tup [⟨false,[.val (.string (btT a b c d e f))]⟩,⟨false,[Ki (jt a b c d e f)]⟩],[],[],[]⟩
 |_,_=>none
def sS:PF prog:=PF.alt zc sA (by
 intro args es o h aP;unfold sA at h;split at h
 ·rename_i a b c d e f
  cases h
  obtain⟨e0,e1,en⟩:=IK a b c d e f
  exact la rfl (iW en) (by simp only [e0,e1] <;> rfl) rfl rfl
 ·cases h)
def sD:Kh
 | [.one ⟨true,[.val (.int .i64 a),.val (.string b),.val (.int .i64 c)]⟩,.one ⟨true,[.val (.int .i64 d),.val (.int .i64 e),.val (.int .i64 f)]⟩],[]=>some ⟨.tup [⟨false,[.val (.string (btT a b c d e f))]⟩,⟨false,[Ki (jt a b c d e f)]⟩],[],[],[leN b.size 9223372036854775807]⟩
 |_,_=>none
def sU:PF prog:=PF.alt zi sD (by
 intro args es o h aP;unfold sD at h;split at h
 ·rename_i a b c d e f
  cases h
  have aP:=md aP
  obtain⟨e0,e1,en⟩:=IL a b c d e f aP
  exact la rfl (iW en) (by simp only [e0,e1] <;> rfl) rfl rfl
 ·cases h)
section
variable (a:Kf)
def fO:Int:=me a
def bT:Kg:=gD a
def fP:Int:=mf a
def fQ:Int:=mg a
def fR:Int:=mh a
def fS:Int:=mi a
def bU:Kf:=gE a
def iR:Bool:=allT [cY 0 0 a]
end
def oX:Kh
 | [.one ⟨false,[.ref 0]⟩],[.row false 5 (.int .u8) a]=>some ⟨.tup [⟨true,[Ki (fO a),.val (.string (bT a)),Ki (fP a)]⟩,⟨true,[Ki (fQ a),Ki (fR a),Ki (fS a)]⟩,⟨false,[.ref 1]⟩],[Km a],[.row true 2 Kb (bU a)],[iR a]⟩
 |_,_=>none
def ez:PF prog:=PF.ofG prog (T3z [mb]) [] aU 5 f5 func5 (fun c _=>LOk.nil c) oX (by
 intro _ _ _ h;unfold oX at h;split at h<;>cases h;kernel_rfl)
section
variable (a:Kf)
def oZ:Int:=am 0 (frS a) a
def kR:Kg:=aA 0 (frS a) a
def pa:Int:=aE 0 (frS a) a
def pb:Int:=mL (am 0 (frS a) a) (aA 0 (frS a) a) (aE 0 (frS a) a) (bn 0 (frS a) a) (bo 0 (frS a) a) a
def pc:Int:=mM (am 0 (frS a) a) (aA 0 (frS a) a) (aE 0 (frS a) a) (bn 0 (frS a) a) (bo 0 (frS a) a) a
def pd:Int:=mN (am 0 (frS a) a) (aA 0 (frS a) a) (aE 0 (frS a) a) (bn 0 (frS a) a) (bo 0 (frS a) a) a
def iQ:Bool:=allT [cY 0 0 a,iO 0 (frS a) a,ii (am 0 (frS a) a) (aA 0 (frS a) a) (aE 0 (frS a) a) (bn 0 (frS a) a) (bo 0 (frS a) a) a]
end
def oW:Kh
 | [.one ⟨false,[.ref 0]⟩],[.row false 5 (.int .u8) a]=>some ⟨.tup [⟨true,[Ki (oZ a),.val (.string (kR a)),Ki (pa a)]⟩,⟨true,[Ki (pb a),Ki (pc a),Ki (pd a)]⟩],[Km a],[],[iQ a]⟩
 |_,_=>none
def kM:PF prog:=PF.ofG prog (T3z [jK,ge,ft]) [] aU 19 f19 func19 (fun c _=>LOk.nil c) oW (by
 intro _ _ _ h;unfold oW at h;split at h<;>cases h;kernel_rfl)
section
variable (a:Kf)
def gy:Int:=oZ a
def cp:Kg:=kR a
def gz:Int:=pa a
def gA:Int:=pb a
def gB:Int:=pc a
def gC:Int:=pd a
def jk:Bool:=allT [iQ a]
end
def pG:Kh
 | [.one ⟨false,[.ref 0]⟩],[.row false 5 (.int .u8) a]=>some ⟨.tup [⟨true,[Ki (gy a),.val (.string (cp a)),Ki (gz a)]⟩,⟨true,[Ki (gA a),Ki (gB a),Ki (gC a)]⟩],[Km a],[],[jk a]⟩
 |_,_=>none
def eV:PF prog:=PF.ofG prog (T3z [kM]) [] aU 8 f8 func8 (fun c _=>LOk.nil c) pG (by
 intro _ _ _ h;unfold pG at h;split at h<;>cases h;kernel_rfl)
def suV(k:Int)(s:Kg)(n a b c:Int)(l:Kf):Int:=gM k s n a b c l
def suC(k:Int)(s:Kg)(n a b c:Int)(l:Kf):Int:=fc k s n a b c l
def ru:Kh
 | [.one ⟨true,[.val (.int .i64 a),.val (.string b),.val (.int .i64 c)]⟩,.one ⟨true,[.val (.int .i64 d),.val (.int .i64 e),.val (.int .i64 f)]⟩,.one ⟨false,[.ref 0]⟩],[.row false 2 (.int .i64) g]=>some ⟨.tup [⟨false,[Ki (suV a b c d e f g)]⟩,⟨false,[Ki (suC a b c d e f g)]⟩],[Kl g],[],[leN b.size 9223372036854775807&&leN g.length 9223372036854775807]⟩
 |_,_=>none
def gQ:PF prog:=PF.alt yc ru (by
 intro args es o h aP;unfold ru at h;split at h
 ·rename_i a b c d e f g
  cases h
  have aP:=md aP
  simp only [q8,jX]at aP
  obtain⟨e0,e1,n1,n2⟩:=ET a b c d e f g aP.1 aP.2
  exact la rfl (iW n1) rfl rfl rfl
 ·cases h)
def rx:Kh
 | [.one ⟨true,[.val (.int .i64 a),.val (.string b),.val (.int .i64 c)]⟩,.one ⟨true,[.val (.int .i64 d),.val (.int .i64 e),.val (.int .i64 f)]⟩,.one ⟨false,[.ref 0]⟩],[.row false 2 (.int .i64) g]=>some ⟨.tup [⟨false,[Ki (suV a b c d e f g)]⟩,⟨false,[Ki (suC a b c d e f g)]⟩],[Kl g],[],[leN b.size 9223372036854775807&&leN g.length 9223372036854775807]⟩
 |_,_=>none
def gR:PF prog:=PF.alt yh rx (by
 intro args es o h aP;unfold rx at h;split at h
 ·rename_i a b c d e f g
  cases h
  have aP:=md aP
  simp only [q8,jX]at aP
  obtain⟨e0,e1,n1,n2⟩:=ET a b c d e f g aP.1 aP.2
  exact la rfl (iW n2) (by simp only [← e0,← e1] <;> rfl) rfl rfl
 ·cases h)
theorem Fx{c:Kf}(h:cY 0 0 c=true):iQ c=true∧(kR c).size≤1:=by
 have h0:=(Dy c h).2
 obtain⟨t1,t2,t3⟩:=zJ h0
 obtain⟨u1,u2⟩:=xI (am 0 (frS c) c) (aA 0 (frS c) c) (aE 0 (frS c) c) t3 t2
 exact⟨by simp only [iQ,h,t1,u1,allT];rfl,t3⟩
def dX(a:Kf):Bool:=ltI 4096 (↑a.length:Int)
def su:Kh
 | [.one ⟨false,[.ref 0]⟩],[.row false 5 (.int IntKind.u8) a]=>some ⟨Kj (.val (.bool (dX a))),[Km a],[],[]⟩
 |_,_=>none
def iz:PF prog:=PF.ofG prog [] [] aU 4 f4 func4 (fun c _=>LOk.nil c) su (by
 intro _ _ _ h;unfold su at h;split at h<;>cases h;kernel_rfl)
abbrev ek:=Int×Int×Int×Kg×Int×Int×Int×Int×List Int
section
variable (a b c:Int)(d:Kg)(e f g i:Int)(j:Kf)
def nn:Int×Int:=(sbS c d e f g i j).2
def rB:Bool:=leI a b
def oo:Bool:=leN (ByteArray.size d) 9223372036854775807&&leN j.length (9223372036854775807:Nat)
def oq:Bool:=bif sj c d e f g i j !=0 then true else !(sbV c d e f g i j==1)==(a==b)
def rC:Int:=w9 .i64 (a + (1:Int))
def rD:Int:=(sbS c d e f g i j).1
def rE:Int:=(nn c d e f g i j).1
def rF:Int:=(nn c d e f g i j).2
end
def wE:ek→List (Nat×SV)
 |(a,b,_,_,_,_,_,_,_)=> [(17,(Kk a)),(8,(Kk b)),(3,(Kj (.ptr 0 0))),(16,(Kj (.ptr 1 0))),(5,(Kj (.ref 2)))]
def wz:ek→List (Nat×Entry)
 |(_,_,a,b,c,d,e,f,g)=> [(0,(.box 25 [Ki a,.val (.string b),Ki c])),(1,(.box 27 [Ki d,Ki e,Ki f])),(2,(.row true 2 Kb g))]
def wO:Nat→ek→List (Nat×SV)
 |0,(_,_,_,_,_,_,_,_,_)=> [(2,(Kj (.val (.bool false))))]
 |_,_=>[]
def nq:ek→LT ek
 |(a,b,c,d,e,f,g,i,j)=> .ite (rB a b) (.need [oo d j] (.ite (oq a b c d e f g i j) (.ext 0 [(0,0),(1,1),(2,2)]) (.nrm ((rC a),b,c,d,e,rD c d e f g i j,rE c d e f g i j,rF c d e f g i j,j) [(0,0),(1,1),(2,2)]))) (.ext 1 [(0,0),(1,1),(2,2)])
def nv(s:St):Option ek:=do
 let some ⟨none,.one ⟨false,[.val (.int .i64 a)]⟩⟩:=s.look 17|none
 let some ⟨none,.one ⟨false,[.val (.int .i64 b)]⟩⟩:=s.look 8|none
 let some ⟨none,.one ⟨false,[.ptr 704 0]⟩⟩:=s.look 3|none
 let some ⟨none,.one ⟨false,[.ptr 5952 0]⟩⟩:=s.look 16|none
 let some ⟨none,.one ⟨false,[.ref 384]⟩⟩:=s.look 5|none
 let some (.box 25 [.val (.int .i64 c),.val (.string d),.val (.int .i64 e)]):=s.ent 704|none
 let some (.box 27 [.val (.int .i64 f),.val (.int .i64 g),.val (.int .i64 i)]):=s.ent 5952|none
 let some (.row true 2 (.int .i64) j):=s.ent 384|none
 some (a,b,c,d,e,f,g,i,j)
def bm:Lp ek where
 h:=⟨[94,95,96,100,101,102,103,99,104,105,106,19,18,20,107,108,109,110,111,112,113,114,115,116,2,117,97,98,17],[0,1,2],[],[]⟩
 JL:=wE
 JE:=wz
 XL:=wO
 XE:=fun _=>wz
 q:=fun j=>match j with | 0=> .ret | _=> .exit 0
 tags:= [0,1]
 lt:=nq
 fuel:=fun(a,b,c,d,e,f,g,i,k)=>a.natAbs + b.natAbs + c.natAbs + d.size + e.natAbs + f.natAbs + g.natAbs + i.natAbs + k.length
 fix:=fun(_,b,c,d,e,_,_,_,k) (a,_,_,_,_,f,g,i,_)=>(a,b,c,d,e,f,g,i,k)
 σ:= [(0,704),(1,5952),(2,384)]
 rd:=nv
theorem vo:LoopOk prog (fun k=>Nat.blt k Tryd.f3.ntmps) bm.F (eZ f3 0):=by
 refine Lp.ok (tbl:= (T3z [sU,rH,rI,iy,ez,gQ,gR,eV,sS,iz])) (lf:= []) aU bm (by kernel_rfl) (LOk.nil _) (fun _=>rfl) (fun j _=>by unfold bm;match j with | 0=>rfl | _ + 1=>rfl) ?_ ?_ ?_ ?_ (fun _=>rfl) ?_
 ·intro _;kernel_rfl
 ·intro _;kernel_rfl
 ·intro s x h
  have h:nv s=some x:=h
  unfold nv at h
  repeat' split at h
  all_goals cases h
  constructor<;>repeat(first|refine al ‹_› rfl ?_|refine bW rfl ‹_› rfl ?_|rfl)
 ·intro _;kernel_rfl
 ·intro _ _;exact(And.intro (And.intro trivial rfl) trivial)
section
variable (a:Kf)
def kn:Int:=suC (fO a) (bT a) (fP a) (fQ a) (fR a) (fS a) (bU a)
def mX:Int:=suV (fO a) (bT a) (fP a) (fQ a) (fR a) (fS a) (bU a)
def tW:Int:=jt (gy a) (cp a) (gz a) (gA a) (gB a) (gC a)
def mY:Bool:=bif bif bif kn a !=kn a then true else mX a !=mX a then true else tW a !=tW a then true else !ByteArray.toList (btT (gy a) (cp a) (gz a) (gA a) (gB a) (gC a))==ByteArray.toList (btT (gy a) (cp a) (gz a) (gA a) (gB a) (gC a))
def tX:Bool:=Bn (gy a) (cp a) (gz a) (gA a) (gB a) (gC a)
def mZ:Bool:=bif mY a then true else !tX a==tX a
def na:Bool:=bif kn a !=0 then true else ltI 100 (mX a)
def nb:Int×Int×Int×Kg×Int×Int×Int×Int×Kf:=((1:Int),mX a,fO a,bT a,fP a,fQ a,fR a,fS a,bU a)
def ko:Bool:=dX a||leN (ByteArray.size (bT a)) 9223372036854775807&&leN (w7 (bU a)) 9223372036854775807
def lX:Bool:=bif dX a then true else bif mZ a then false else bif na a then true else bif Nat.beq ((Lp.res bm (nb a)).1) 0 then false else true
def lY:Bool:=allT [dX a||iR a,ko a,ko a,dX a||jk a,dX a||leN (ByteArray.size (cp a)) 9223372036854775807,dX a||(!(!mY a&&true)||leN (ByteArray.size (cp a)) 9223372036854775807),dX a||(mZ a||(na a||Lp.fin bm (nb a)))]
end
def uw:Kh
 | [.one ⟨false,[.ref 0]⟩],[.row false 5 (.int .u8) a]=>some ⟨Kj (.val (.bool (lX a))),[Km a],[],[lY a]⟩
 |_,_=>none
def BM:PF prog:=PF.ofG prog (T3z [sU,rH,rI,iy,ez,gQ,gR,eV,sS,iz]) [bm.F] aU 3 f3 func3 (LOk.fnT (l:= [eZ f3 0]) (by kernel_rfl) (.cons vo (.nil _))) uw (by
 intro _ _ _ h;unfold uw at h;split at h<;>cases h;kernel_rfl)
def FM(a:Kf):Bool:=ltI 4096 (↑a.length:Int)
theorem Jb{c:Kf}(hb: ∀ (i:Nat) (x:Int),c[i]? =some x→0≤x∧x≤255)(h:FM c=false):cY 0 0 c=true:=by
 have:=tv.1 h
 refine vW.2 ⟨by omega,by omega,by omega,fun x hx=> ?_⟩
 obtain⟨i,hi⟩:=List.getElem?_of_mem hx
 exact hb i x hi
theorem Js{k n a b c:Int}{s:Kg}{l:Kf}(hB:aB k s n=true)(hP:dQ k n a b c=true)(hA:iA (jT k) l=true):
  sj k s n a b c l=0∧sbV k s n a b c l=sk k n l (a,b,c)∧sbS k s n a b c l=eU k n l (a,b,c)∧dQ k n (eU k n l (a,b,c)).1 (eU k n l (a,b,c)).2.1 (eU k n l (a,b,c)).2.2=true:=by
 have h0:sj k s n a b c l=0:=by simp [sj,iU,hB,hP,hA]
 exact⟨h0,by simp [sbV,h0],by simp [sbS,h0],(xX hB hP hA).2⟩
theorem zy{k n a b c d y:Int}{s:Kg}{l:Kf}(hB:aB k s n=true)(hP:dQ k n a b c=true)(hA:iA (jT k) l=true)(hs:s.size≤1)(hl:l.length≤3)(h0:1≤d)(h1:d≤10003):
  (bm.lt (d,y,k,s,n,a,b,c,l)).out=some (bif leI d y then(bif !(sk k n l (a,b,c)==1)==(d==y)then .inl 0 else .inr (d + 1,y,k,s,n,(eU k n l (a,b,c)).1,(eU k n l (a,b,c)).2.1,(eU k n l (a,b,c)).2.2,l))else .inl 1):=by
 obtain⟨e0,e1,e2,_⟩:=Js hB hP hA
 have hw:IntKind.i64.wrap (d + 1)=d + 1:=bG (by omega) (by omega)
 have n1:oo s l=true:=by simp only [oo,iC (show s.size≤9223372036854775807 by omega),iC (show l.length≤9223372036854775807 by omega)];rfl
 have t2:oq d y k s n a b c l=(!(sk k n l (a,b,c)==1)==(d==y)):=by simp only [oq,e0,e1];rfl
 show (nq (d,y,k,s,n,a,b,c,l)).out=_
 simp only [nq,LT.out,n1,t2,rB,rC,rD,rE,rF,nn,e2,hw,allT,cond_true]
 cases leI d y <;> cases (!(sk k n l (a,b,c)==1)==(d==y)) <;> rfl
theorem Dm{k n:Int}{s:Kg}{l:Kf}(hB:aB k s n=true)(hA:iA (jT k) l=true)(hs:s.size≤1)(hl:l.length≤3): ∀ (m:Nat) (a b c d y:Int) (x:Int×Kg×Int×Int×Int×Int×Kf),
  dQ k n a b c=true→1≤d→d + m≤10002→lA aN.lt m (d,k,s,n,a,b,c,l)=some (0,(y,x))→
  d≤y∧ ∃ M z,M≤m + 1∧lA bm.lt M (d,y,k,s,n,a,b,c,l)=some (1,z)
 |0,_,_,_,_,_,_,_,_,_,h=>by cases h
 |m + 1,a,b,c,d,y,x,hP,h0,h1,h=>by
  have ho:=Bk hB hP hA h0 (by omega)
  cases hv:(sk k n l (a,b,c)==1)with
  |true=>
   rw [hv,cond_true]at ho
   rw [gx _ ho]at h
   simp only [Option.some.injEq,Prod.mk.injEq]at h
   obtain⟨_,rfl,_⟩:=h
   refine⟨by omega,?_⟩
   have u0:=zy (y:=d) hB hP hA hs hl h0 (by omega)
   have u1:=zy (y:=d) hB (xX hB hP hA).2 hA hs hl (show 1≤d + 1 by omega) (by omega)
   rw [hv,ld (Int.le_refl d),cond_true,show (!(true==(d==d)))=false by simp,cond_false]at u0
   have hf:leI (d + 1) d=false:=IB (by omega)
   rw [hf,cond_false]at u1
   exact⟨2,_,by omega,by rw [gS 1 u0];exact gx 0 u1⟩
  |false=>
   by_cases hn:eU k n l (a,b,c)=(a,b,c)
   ·rw [hv,cond_false,decide_eq_true hn,cond_true]at ho
    rw [gx _ ho]at h
    cases h
   ·rw [hv,cond_false,decide_eq_false hn,cond_false]at ho
    rw [gS _ ho]at h
    obtain⟨q1,M,z,q2,q3⟩:=Dm hB hA hs hl m _ _ _ _ y x (xX hB hP hA).2 (by omega) (by omega) h
    refine⟨by omega,M + 1,z,by omega,?_⟩
    have u0:=zy (y:=y) hB hP hA hs hl h0 (by omega)
    have pA:(d==y)=false:=by simp;omega
    rw [hv,pA,ld (show d≤y by omega),cond_true,show (!(false==false))=false from rfl,cond_false]at u0
    rw [gS _ u0]
    exact q3
theorem HF{k n a b c:Int}{s:Kg}{l:Kf}(hs:s.size≤1)(hl:l.length≤3)(h:suC k s n a b c l=0):
  bm.fin (1,suV k s n a b c l,k,s,n,a,b,c,l)=true∧(bm.res (1,suV k s n a b c l,k,s,n,a,b,c,l)).1=1:=by
 have h0:iU k s n a b c [l]=0:=by
  cases hc:(iU k s n a b c [l]!=0)with
  |false=>simpa using hc
  |true=>simpa [suC,fc,dN,eG,hc] using h
 have hc:(iU k s n a b c [l]!=0)=false:=by simp [h0]
 obtain⟨hB,hP,hA⟩:=rN _ _ _ _ _ _ _ h0
 have hn:=(lQ hB).2.1
 have hm:=ID (k:=k) (l:=l) (s:=(a,b,c)) hn (oz hP hn).1.1
 obtain⟨j,y,x,x',q1,q2,_,_⟩:=Di hB hA 10000 a b c 1 hP hm (by omega) (by omega)
 obtain⟨i1,i2⟩:=aN.run q2 (by rw [AV];exact Nat.le_trans (show 10001≤1000 ^ 4 by decide) (Nat.pow_le_pow_left (by omega) 4))
 have hj:j=0:=by
  simp only [suC,fc,dN,eG,eH,fV,hc,cond_false,i2]at h
  match j,q1 with
  |0,_=>rfl
  |1,_=>simp [Nat.beq]at h
 subst hj
 have hv:suV k s n a b c l=y:=by
  simp only [suV,gM,dN,eG,eH,fV,hc,cond_false,i2]
  rfl
 obtain⟨_,M,z,u1,u2⟩:=Dm hB hA hs hl 10001 a b c 1 y x hP (by omega) (by omega) q2
 rw [hv]
 obtain⟨f1,f2⟩:=bm.run u2 (by rw [AV];exact Nat.le_trans (Nat.le_trans (show M≤10002 by omega) (show 10002≤1000 ^ 4 by decide)) (Nat.pow_le_pow_left (by omega) 4))
 exact⟨f1,by rw [f2]⟩
theorem GN(c:Kf)(w:wfD (.sl 5 (.int .u8)) c):lX c=true∧lY c=true:=by
 have hb: ∀ (i:Nat) (x:Int),c[i]? =some x→0≤x∧x≤255:=fun i x hx=>Jw (w.2 x (List.mem_of_getElem? hx))
 cases hbig:dX c with
 |true=>simp [lX,lY,ko,allT,hbig]
 |false=>
  have hsrc:=Jb hb hbig
  obtain⟨_,hs,hl⟩:=zI hsrc
  obtain⟨hd,hs2⟩:=Fx hsrc
  have d1:iR c=true:=by simp only [iR,hsrc,allT];rfl
  have d2:jk c=true:=by simp only [jk,hd,allT];rfl
  have s1:leN (bT c).size 9223372036854775807=true:=iC (by have:(bT c).size≤1:=hs;omega)
  have s2:leN (bU c).length 9223372036854775807=true:=iC (by have:(bU c).length≤3:=hl;omega)
  have s3:leN (cp c).size 9223372036854775807=true:=iC (by have:(cp c).size≤1:=hs2;omega)
  have a3:mY c=false:=by simp [mY]
  have a5:mZ c=false:=by simp [mZ,a3]
  have a8:ko c=true:=by simp [ko,s1,s2]
  cases h6:na c with
  |true=>simp [lX,lY,hbig,d1,d2,s3,a3,a5,a8,h6,allT]
  |false=>
   have hz:suC (fO c) (bT c) (fP c) (fQ c) (fR c) (fS c) (bU c)=0:=by
    cases h7:kn c !=0 with
    |true=>simp [na,h7]at h6
    |false=>
     have:kn c=0:=by simpa using h7
     exact this
   obtain⟨f1,f2⟩:=HF (s:=bT c) (l:=bU c) hs hl hz
   have f1:bm.fin (nb c)=true:=f1
   have f2:(bm.res (nb c)).1=1:=f2
   simp [lX,lY,hbig,d1,d2,s3,a3,a5,a8,h6,f1,f2,allT,Nat.beq]
end Go.SX
