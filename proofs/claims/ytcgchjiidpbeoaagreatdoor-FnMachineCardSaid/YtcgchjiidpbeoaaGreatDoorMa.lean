/- What functions of the program come to, and what that says in plain words: part 1. -/
import Derived.Test.YtcgchjiidpbeoaaGreatDoorTXh
import Derived.Test.YtcgchjiidpbeoaaGreatDoorProg
set_option linter.unusedSimpArgs false
set_option linter.unusedVariables false
open Option.some renaming injEq → q8
open Bool renaming and_eq_true → q9
open Int renaming toNat_natCast → w5
open List renaming length_singleton → j6
open List renaming length_append → j7
open List renaming length_take → j8
open List renaming length_cons → j9
open Bool renaming or_true → k7
open Bool renaming cond_self → k8
open List renaming getElem?_eq_some_iff → k9
open Int renaming toNat → v5
open List renaming length → v6
open Option renaming getD → v7
open Go.IntKind renaming wrap → v8
open List renaming replicate → v9
open List renaming eq_of_mem_replicate → qqq
open List renaming mem_singleton → qqw
namespace Go.SX
open Go.Proofs
def T3z {P : Program} (l : List (PF P)) : List (PF P) :=l.flatMap fun p=>[p,PF.lend p,PF.fz p]
abbrev aAi:Type:=ByteArray
abbrev aaP:CTy:=(CTy.pair CTy.str (CTy.sl 66 (CTy.pair (CTy.int IntKind.i64) (CTy.pair CTy.str (CTy.int IntKind.i64)))))
abbrev acg:CTy:=(CTy.pair (CTy.int IntKind.i64) (CTy.pair (CTy.int IntKind.i64) (CTy.int IntKind.i64)))
abbrev aeu:CTy:=(CTy.pair (CTy.int IntKind.i64) (CTy.pair CTy.str (CTy.int IntKind.i64)))
abbrev afz:CTy:=(CTy.pair (CTy.int IntKind.i64) (CTy.int IntKind.i64))
abbrev aiJ:Type:=List (ByteArray×(List (Int×(ByteArray×Int))))
abbrev aiK:Type:=List (ByteArray×List (Int×ByteArray×Int))
abbrev aml:CTy:=(CTy.sl 2 (CTy.int IntKind.i64))
abbrev aor:Type:=List (Int×(ByteArray×Int))
abbrev aoQ:Type:=List (Int×ByteArray×Int)
abbrev aqC:CTy:=(CTy.int IntKind.i64)
abbrev arh:Type:=List (List ByteArray)
abbrev ar0:CTy:=(CTy.int IntKind.u8)
abbrev as9:Type:=List (Int×(Int×Int))
abbrev at0:Type:=List (Int×Int×Int)
abbrev at1:Type:=List (List Int)
abbrev auv:Type:=List (Int×Int)
abbrev auw:CTy:=(CTy.str)
abbrev avu:Type:=List Int
abbrev aAn:=Entry.row false 9 auw
abbrev aAo:=Entry.row true 2 aqC
abbrev aAp:=Entry.row false 66 aeu
abbrev aAq:=Entry.row false 2 aqC
abbrev aAr:=Entry.row true 9 auw
abbrev aAs:=Entry.row false 91 aaP
abbrev aAt:=Entry.row false 91 (CTy.pair CTy.str (CTy.sl (66:TypeId) aeu))
abbrev aAu:=Entry.row false 5 ar0
abbrev aAv:=Entry.row true 66 aeu
abbrev aAw:=Entry.row true 84 acg
abbrev aAx:=Entry.row false 60 afz
abbrev aAy:=Entry.row true 60 afz
abbrev aAz:=Entry.row false 84 acg
abbrev aAA:=Entry.row true 91 aaP
abbrev aAB:=Entry.row true 28 aml
abbrev aAC:=Entry.row false 28 (CTy.sl (2:TypeId) aqC)
abbrev aAD:=Entry.row false 28 aml
abbrev aAE:=Entry.row true 60 (.pair (.int .i64) (.int .i64))
abbrev aAF:=Entry.row true 66 (.pair (.int .i64) (.pair (.str) (.int .i64)))
abbrev aAG:=Entry.row true 84 (.pair (.int .i64) (.pair (.int .i64) (.int .i64)))
abbrev aAH:=Entry.row false 24 (CTy.sl (9:TypeId) CTy.str)
abbrev aAI:=Entry.row false 84 (.pair (.int .i64) (.pair (.int .i64) (.int .i64)))
abbrev aAl(c:Cell):SV:=.one ⟨false,[c]⟩
abbrev aAm(a:Int):SV:=.one ⟨false,[.val (.int .i64 a)]⟩
abbrev aAj:Type:=List SV→List Entry→Option Out
abbrev aAk(a:Int):Cell:=.val (.int .i64 a)
theorem S0z:(∀ (α:Type) (a b:α),(bif true then a else b)=a)∧(∀ (α:Type) (a b:α),(bif false then a else b)=b)∧(∀ (α:Type) (c:Bool) (a:α),(bif c then a else a)=a)∧((!true)=false)∧((!false)=true)∧(∀ b:Bool,(true||b)=true)∧(∀ b:Bool,(b||true)=true)∧(∀ b:Bool,(false||b)=b)∧(∀ b:Bool,(b||false)=b)∧(∀ b:Bool,(b&&b)=b)∧(∀ b:Bool,(b&&true)=b)∧(∀ b:Bool,(true&&b)=b)∧(∀ b:Bool,(false&&b)=false)∧(∀ b:Bool,(b&&false)=false)∧(∀ (α:Type) [BEq α] [LawfulBEq α] (a:α),(a != a)=false)∧(∀ (α:Type) [BEq α] [LawfulBEq α] (a:α),(a==a)=true):=by and_intros <;> intros <;> simp
end Go.SX
namespace Go.SX
open Go.Proofs Go.Proofs.Tryz
set_option maxRecDepth 100000
theorem aU:Tryz.prog.follows .mixedOrders=true:=by kernel_rfl
def ak(a b c:Int):Bool:=bif leI b a then leI a c else false
def alV:aAj
 | [.one ⟨false,[.val (.int .i64 a)]⟩,.one ⟨false,[.val (.int .i64 b)]⟩,.one ⟨false,[.val (.int .i64 c)]⟩],[]=>some ⟨aAl (.val (.bool (ak a b c))),[],[],[]⟩
 |_,_=>none
def Ar:PF prog:=PF.ofG prog [] [] aU 76 f76 func76 (fun c _=>LOk.nil c) alV (by
 intro _ _ _ h;unfold alV at h;split at h<;>cases h;kernel_rfl)
def ad1(a:avu):Bool:=allT [leN (0 + v6 a) 9223372036854775807,leN ((0 + v6 a) * 8) 140737488355328]
def ajH:aAj
 | [.one ⟨false,[.ref 0]⟩],[.row false 2 (.int .i64) a]=>some ⟨aAl (.ref 1),[aAq a],[aAo a],[ad1 a]⟩
 |_,_=>none
def aqV:PF prog:=PF.ofG prog [] [] aU 42 f42 func42 (fun c _=>LOk.nil c) ajH (by
 intro _ _ _ h;unfold ajH at h;split at h<;>cases h;kernel_rfl)
def pJ(a b c:Int):Bool:=bif leI b a then leI a c else false
def ajF:aAj
 | [.one ⟨false,[.val (.int .i64 a)]⟩,.one ⟨false,[.val (.int .i64 b)]⟩,.one ⟨false,[.val (.int .i64 c)]⟩],[]=>some ⟨aAl (.val (.bool (pJ a b c))),[],[],[]⟩
 |_,_=>none
def Yl:PF prog:=PF.ofG prog [] [] aU 32 f32 func32 (fun c _=>LOk.nil c) ajF (by
 intro _ _ _ h;unfold ajF at h;split at h<;>cases h;kernel_rfl)
def Aw(a:avu):Bool:=allT [ltN 0 a.length,false||leN (0 + v6 a) 9223372036854775807,false||leN ((0 + v6 a) * 8) 140737488355328]
def Qo:aAj
 | [.one ⟨false,[.ref 0]⟩],[.row false 2 (.int .i64) a]=>some ⟨aAl (.ref 1),[aAq a],[aAo a],[Aw a]⟩
 |_,_=>none
def abo:PF prog:=PF.ofG prog [] [] aU 136 f136 func136 (fun c _=>LOk.nil c) Qo (by
 intro _ _ _ h;unfold Qo at h;split at h<;>cases h;kernel_rfl)
abbrev pD:=Int×List Int×List Int
section
variable (a:Int)(b c:avu)
def Cx:Bool:=ltI a (↑b.length:Int)
def Cy:Bool:=leI 0 a
def Gh:Bool:=ltN a.toNat b.length
def Gi:Bool:=ltI a (↑c.length:Int)
def Gj:Bool:=ltN a.toNat c.length
def Gk:Bool:=v7 b[v5 a]? 0!=v7 c[v5 a]? 0
def Gl:Int:=v8 .i64 (a + (1:Int))
end
def ai5:pD→List (Nat×SV)
 |(a,_,_)=> [(5,(aAm a)),(0,(aAl (.ref 0))),(1,(aAl (.ref 1)))]
def aiY:pD→List (Nat×Entry)
 |(_,a,b)=> [(0,(aAq a)),(1,(aAq b))]
def ajj:Nat→pD→List (Nat×SV)
 |0,(_,_,_)=> [(4,(aAl (.val (.bool false))))]
 |_,_=>[]
def EF:pD→LT pD
 |(a,b,c)=> .ite (Cx a b) (.need [Cy a,Cx a b,Gh a b,Cy a,Gi a c,Gj a c] (.ite (Gk a b c) (.ext 0 [(0,0),(1,1)]) (.nrm ((Gl a),b,c) [(0,0),(1,1)]))) (.ext 1 [(0,0),(1,1)])
def SU(s:St):Option pD:=do
 let some ⟨none,.one ⟨false,[.val (.int .i64 a)]⟩⟩:=s.look 5|none
 let some ⟨none,.one ⟨false,[.ref 0]⟩⟩:=s.look 0|none
 let some ⟨none,.one ⟨false,[.ref 1]⟩⟩:=s.look 1|none
 let some (.row false 2 (.int .i64) b):=s.ent 0|none
 let some (.row false 2 (.int .i64) c):=s.ent 1|none
 some (a,b,c)
def gn:Lp pD where
 h:=⟨[11,12,13,14,17,18,19,20,21,22,23,24,25,4,15,16,5],[0,1],[],[]⟩
 JL:=ai5
 JE:=aiY
 XL:=ajj
 XE:=fun _=>aiY
 q:=fun j=>match j with | 0=> .ret | _=> .exit 0
 tags:= [0,1]
 lt:=EF
 fuel:=fun(a,b,c)=>a.natAbs + b.length + c.length
 fix:=fun(_,b,c) (a,_,_)=>(a,b,c)
 σ:= [(0,0),(1,1)]
 rd:=SU
theorem agV:LoopOk prog (fun k=>Nat.blt k Tryz.f11.ntmps) gn.F (bc f11 0):=by
 refine Lp.ok (tbl:= []) (lf:= []) aU gn (by kernel_rfl) (LOk.nil _) (fun _=>rfl) (fun j _=>by unfold gn;match j with | 0=>rfl | _ + 1=>rfl) ?_ ?_ ?_ ?_ (fun _=>rfl) ?_
 ·intro _;kernel_rfl
 ·intro _;kernel_rfl
 ·intro s x h
  have h:SU s=some x:=h
  unfold SU at h
  repeat' split at h
  all_goals cases h
  constructor<;>repeat(first|refine ab ‹_› rfl ?_|refine aa rfl ‹_› rfl ?_|rfl)
 ·intro _;kernel_rfl
 ·intro _ _;exact(And.intro (And.intro trivial rfl) trivial)
section
variable (a b:avu)
def RX:Bool:=(↑a.length:Int)!=(↑b.length:Int)
def RY:Int×avu×avu:=((0:Int),a,b)
def TB:Bool:=bif RX a b then false else bif Nat.beq ((Lp.res gn (RY a b)).1) 0 then false else true
def TC:Bool:=allT [RX a b||Lp.fin gn (RY a b)]
end
def afU:aAj
 | [.one ⟨false,[.ref 0]⟩,.one ⟨false,[.ref 1]⟩],[.row false 2 (.int .i64) a,.row false 2 (.int .i64) b]=>some ⟨aAl (.val (.bool (TB a b))),[aAq a,aAq b],[],[TC a b]⟩
 |_,_=>none
def aoF:PF prog:=PF.ofG prog [] [gn.F] aU 11 f11 func11 (LOk.fnT (l:= [bc f11 0]) (by kernel_rfl) (.cons agV (.nil _))) afU (by
 intro _ _ _ h;unfold afU at h;split at h<;>cases h;kernel_rfl)
def blk(p:Int):Int:=Int.tdiv p 3
def inR(a lo hi:Int):Bool:=leI lo a&&leI a hi
def eqL(xs ys:avu):Bool:=decide (xs=ys)
theorem asZ(xs:avu):eqL xs xs=true:=by simp [eqL]
theorem pR{a lo hi:Int}:inR a lo hi=true↔lo≤a∧a≤hi:=by simp [inR]
theorem MM(a lo hi:Int):(bif leI lo a then leI a hi else false)=inR a lo hi:=by
 unfold inR;cases leI lo a <;> rfl
def FT(a c:avu)(b:Nat):(Unit)→Nat ⊕ (Unit)
 |_=>(bif(v7 a[b]? 0!=v7 c[b]? 0)then(.inl 0)else(.inr ()))
def xh(a b:avu)(i:Nat):(Unit)→pD
 |_=>((i:Int),a,b)
def SM:pD→Unit
 |(_,_,_)=>()
theorem alI(c d:avu) (hn:c.length≤9223372036854775807) (he:d.length=c.length):
  gn.fin ((0:Int),c,d)=true∧gn.res ((0:Int),c,d)=((bz (FT c d) 1 (List.range c.length) 0 ()).1,(xh c d) (bz (FT c d) 1 (List.range c.length) 0 ()).2.1 (bz (FT c d) 1 (List.range c.length) 0 ()).2.2):=by
 have oe:=gn.along (xh c d) SM (FT c d) 1 (fun _ _=>True) (List.range c.length) () (by trivial) (by simp only [gn,xh,List.length_range];omega) (fun i b a hb hI=> ?_) (fun a hI=> ?_)
 ·exact oe
 ·obtain⟨⟩:=a
  obtain⟨rfl,hlt⟩:=UZ hb
  have hw:IntKind.i64.wrap ((b:Int) + 1)=((b + 1:Nat):Int):=by rw [wrap_i64 (by omega) (by omega)];omega
  have gr:ltI (b:Int) (c.length:Int)=true:=dL (by omega)
  have LW:leI (0:Int) (b:Int)=true:=bx (by omega)
  have sd:ltN b c.length=true:=er (by omega)
  refine⟨?_,?_,?_,?_⟩
  ·simp [Cx,Cy,Gh,Gi,Gj,Gk,Gl,EF,gn,LT.nds,allT,xh,gr,LW,sd,he]
  ·simp [Cx,Cy,Gh,Gi,Gj,Gk,Gl,EF,gn,LT.each,xh,SM,hw,he]
  ·simp only [Cx,Cy,Gh,Gi,Gj,Gk,Gl,EF,gn,LT.fn,xh,SM,FT,w5,gr,cond_true]
  ·exact fun _ _=>trivial
 ·obtain⟨⟩:=a
  simp [Cx,Cy,Gh,Gi,Gj,Gk,Gl,EF,gn,LT.out,xh,List.length_range]
theorem atn(xs ys:avu)(hn:leN xs.length 9223372036854775807=true):TB xs ys=eqL xs ys∧TC xs ys=true:=by
 have hn:=eN.1 hn
 unfold eqL
 by_cases hl:ys.length=xs.length
 ·obtain⟨w1,w2⟩:=alI xs ys hn hl
  have ha:=awE (d:=(0:Int)) hl (P:=fun b=>v7 xs[b]? 0 !=v7 ys[b]? 0) (fun b=>by simp [bne,BEq.beq])
  rw [lA (P:=fun b=>v7 xs[b]? 0 !=v7 ys[b]? 0) (j:=0) (fun b=>rfl),ha]at w2
  simp only [RX,RY,TB,TC,w1,w2,allT]
  by_cases he:xs=ys
  ·subst he;simp;decide
  ·simp [he,hl]
 ·have hne:xs≠ys:=fun h=>hl (by rw [h])
  simp [RX,RY,TB,TC,allT,hne]
  omega
def af7:aAj
 | [.one ⟨false,[.ref 0]⟩,.one ⟨false,[.ref 1]⟩],[.row false 2 (.int .i64) a,.row false 2 (.int .i64) b]=>some ⟨aAl (.val (.bool (eqL a b))),[aAq a,aAq b],[],[leN a.length 9223372036854775807]⟩
 |_,_=>none
def HM:PF prog:=PF.alt aoF af7 (by
 intro args es o h cL;unfold af7 at h;split at h
 ·rename_i a b
  cases h
  have cL:=kO cL
  have hh:=atn a b cL
  obtain⟨e0,en⟩:=hh
  exact qm rfl (jv en) (by simp only [e0] <;> rfl) rfl rfl
 ·cases h)
theorem awN(xs:avu)(h:(leN 1 xs.length&&leN xs.length 1048576)=true):Aw xs=true:=by
 simp only [q9,eN]at h
 simp [Aw,allT]
 omega
def anT:aAj
 | [.one ⟨false,[.val (.slice none 0 0)]⟩],[]=>some ⟨aAl (.ref 0),[],[.row true 2 (.int .i64) []],[true]⟩
 |_,_=>none
def atz:PF prog:=PF.ofG prog [PF.raw prog] [] aU 136 f136 func136 (fun c _=>LOk.nil c) anT (by
 intro _ _ _ h;unfold anT at h;split at h<;>cases h;kernel_rfl)
def anS:aAj
 | [.one ⟨false,[.val (.slice (some _) 0 _)]⟩],[]=>some ⟨aAl (.ref 0),[],[.row true 2 (.int .i64) []],[true]⟩
 |_,_=>none
def aty:PF prog:=PF.ofG prog [] [] aU 136 f136 func136 (fun c _=>LOk.nil c) anS (by
 intro _ _ _ h;unfold anS at h;split at h<;>cases h;kernel_rfl)
def QB:aAj
 | [.one ⟨false,[.ref 0]⟩],[.row false 2 (.int .i64) a]=>some ⟨aAl (.ref 1),[.row false 2 (.int .i64) a],[.row true 2 (.int .i64) a],[leN a.length 1048576]⟩
 |_,_=>none
def qN:PF prog where
 k:=136
 F:=QB
 ok:=by
  intro args es o h cL mem ρ w hp
  unfold QB at h
  split at h
  ·rename_i a
   cases h
   have hl:=cL _ (qqw.2 rfl)
   cases a with
   |nil=>
    exact(arP atz aty rfl rfl rfl (fun _ _=>rfl) (by simp) (by simp) hp).mono fun en w' ⟨ρ',h1,h2,h3⟩=>⟨ρ',h1,h2,rfl,(by intro v hv;rw [qqw.1 hv];rfl),h3⟩
   |cons x xs=>exact abo.ok _ _ ⟨_,_,_,[Aw (x::xs)]⟩ rfl (fun b hb=>by rw [qqw.1 hb];exact awN (x::xs) ((q9 _ _).mpr ⟨aY (Nat.succ_pos _),hl⟩)) mem ρ w hp
  ·cases h
theorem azl(xs:avu)(h:leN xs.length 1048576=true):ad1 xs=true:=by
 have h:=eN.1 h
 simp [ad1,allT]
 omega
def ajQ:aAj
 | [.one ⟨false,[.ref 0]⟩],[.row false 2 (.int .i64) a]=>some ⟨aAl (.ref 1),[aAq a],[aAo a],[leN a.length 1048576]⟩
 |_,_=>none
def cM:PF prog:=PF.alt aqV ajQ (by
 intro args es o h cL;unfold ajQ at h;split at h
 ·rename_i a
  cases h
  have cL:=kO cL
  have hh:=azl a cL
  have en:=hh
  exact qm rfl (jv en) rfl rfl rfl
 ·cases h)
def Lh(a:Int):Bool:=bif leI 97 a then leI a 122 else false
def aee:aAj
 | [.one ⟨false,[.val (.int .u8 a)]⟩],[]=>some ⟨aAl (.val (.bool (Lh a))),[],[],[]⟩
 |_,_=>none
def XR:PF prog:=PF.ofG prog [] [] aU 146 f146 func146 (fun c _=>LOk.nil c) aee (by
 intro _ _ _ h;unfold aee at h;split at h<;>cases h;kernel_rfl)
def ZG(a:Int):Bool:=bif leI 48 a then leI a 57 else false
def afV:aAj
 | [.one ⟨false,[.val (.int .u8 a)]⟩],[]=>some ⟨aAl (.val (.bool (ZG a))),[],[],[]⟩
 |_,_=>none
def aoG:PF prog:=PF.ofG prog [] [] aU 152 f152 func152 (fun c _=>LOk.nil c) afV (by
 intro _ _ _ h;unfold afV at h;split at h<;>cases h;kernel_rfl)
def TF(a:Int):Bool:=bif bif Lh a then true else ZG a then true else a==95
def afW:aAj
 | [.one ⟨false,[.val (.int .u8 a)]⟩],[]=>some ⟨aAl (.val (.bool (TF a))),[],[],[]⟩
 |_,_=>none
def agd:PF prog:=PF.ofG prog [XR,aoG] [] aU 145 f145 func145 (fun c _=>LOk.nil c) afW (by
 intro _ _ _ h;unfold afW at h;split at h<;>cases h;kernel_rfl)
abbrev xo:=Int×aAi
section
variable (a:Int)(b:aAi)
def Ip:Bool:=ltI a (↑(ByteArray.size b):Int)
def ac1:Bool:=leI 0 a
def Wr:Bool:= !TF (↑(UInt8.toNat (v7 b[v5 a]? (0:UInt8))):Int)
def ac2:Int:=v8 .i64 (a + (1:Int))
end
def aki:xo→List (Nat×SV)
 |(a,b)=> [(3,(aAm a)),(0,(aAl (.val (.string b))))]
def akb:xo→List (Nat×Entry)
 |(_,_)=> []
def akw:Nat→xo→List (Nat×SV)
 |0,(_,_)=> [(2,(aAl (.val (.bool false))))]
 |_,_=>[]
def Gs:xo→LT xo
 |(a,b)=> .ite (Ip a b) (.need [ac1 a,Ip a b] (.ite (Wr a b) (.ext 0 []) (.nrm ((ac2 a),b) []))) (.ext 1 [])
def Up(s:St):Option xo:=do
 let some ⟨none,.one ⟨false,[.val (.int .i64 a)]⟩⟩:=s.look 3|none
 let some ⟨none,.one ⟨false,[.val (.string b)]⟩⟩:=s.look 0|none
 some (a,b)
def iu:Lp xo where
 h:=⟨[4,5,6,7,10,11,12,13,14,2,8,9,3],[],[],[]⟩
 JL:=aki
 JE:=akb
 XL:=akw
 XE:=fun _=>akb
 q:=fun j=>match j with | 0=> .ret | _=> .exit 0
 tags:= [0,1]
 lt:=Gs
 fuel:=fun(a,b)=>a.natAbs + b.size
 fix:=fun(_,b) (a,_)=>(a,b)
 σ:= []
 rd:=Up
theorem aid:LoopOk prog (fun k=>Nat.blt k Tryz.f132.ntmps) iu.F (bc f132 0):=by
 refine Lp.ok (tbl:= [Ar,agd,XR]) (lf:= []) aU iu (by kernel_rfl) (LOk.nil _) (fun _=>rfl) (fun j _=>by unfold iu;match j with | 0=>rfl | _ + 1=>rfl) ?_ ?_ ?_ ?_ (fun _=>rfl) ?_
 ·intro _;kernel_rfl
 ·intro _;kernel_rfl
 ·intro s x h
  have h:Up s=some x:=h
  unfold Up at h
  repeat' split at h
  all_goals cases h
  exact⟨ab ‹_› rfl (ab ‹_› rfl (rfl)),rfl⟩
 ·intro _;kernel_rfl
 ·intro _ _;exact(And.intro (And.intro trivial rfl) trivial)
section
variable (a:aAi)
def TG:Bool:=Nat.beq ((Lp.res iu ((0:Int),a)).1) 0
def TH:Bool:=ak (↑(ByteArray.size a):Int) 1 12
def abK:Bool:=bif TG a then false else bif TH a then Lh (↑(UInt8.toNat (v7 a[v5 0]? (0:UInt8))):Int)else false
def abL:Bool:=allT [Lp.fin iu ((0:Int),a),TG a||(!(TH a&&true)||leI 0 0),TG a||(!(TH a&&true)||ltI 0 (↑(ByteArray.size a):Int))]
end
def ahg:aAj
 | [.one ⟨false,[.val (.string a)]⟩],[]=>some ⟨aAl (.val (.bool (abK a))),[],[],[abL a]⟩
 |_,_=>none
def ap7:PF prog:=PF.ofG prog [Ar,agd,XR] [iu.F] aU 132 f132 func132 (LOk.fnT (l:= [bc f132 0]) (by kernel_rfl) (.cons aid (.nil _))) ahg (by
 intro _ _ _ h;unfold ahg at h;split at h<;>cases h;kernel_rfl)
def Uw:List aAi:=
 [{ data:= #[(112:UInt8),(114:UInt8),(111:UInt8),(103:UInt8),(114:UInt8),(97:UInt8),(109:UInt8)] },
 {data:= #[(105:UInt8),(110:UInt8)] },{ data:= #[(118:UInt8),(97:UInt8),(114:UInt8)] },
 {data:= #[(111:UInt8),(117:UInt8),(116:UInt8)] },{ data:= #[(103:UInt8),(117:UInt8),(97:UInt8),(114:UInt8),(100:UInt8)] },
 {data:= #[(101:UInt8),(110:UInt8),(100:UInt8)] },{ data:= #[(97:UInt8),(110:UInt8),(100:UInt8)] },
 {data:= #[(111:UInt8),(114:UInt8)] },{ data:= #[(110:UInt8),(111:UInt8),(116:UInt8)] },
 {data:= #[(116:UInt8),(114:UInt8),(117:UInt8),(101:UInt8)] },
 {data:= #[(102:UInt8),(97:UInt8),(108:UInt8),(115:UInt8),(101:UInt8)] },{ data:= #[(111:UInt8),(110:UInt8)] },
 {data:= #[(111:UInt8),(102:UInt8),(102:UInt8)] },{ data:= #[(114:UInt8),(105:UInt8),(115:UInt8),(101:UInt8)] },
 {data:= #[(108:UInt8),(97:UInt8),(116:UInt8),(99:UInt8),(104:UInt8)] },
 {data:= #[(99:UInt8),(111:UInt8),(117:UInt8),(110:UInt8),(116:UInt8)] },
 {data:= #[(112:UInt8),(97:UInt8),(105:UInt8),(114:UInt8)] }]
def aaD:aAj
 | [],[]=>some ⟨aAl (.ref 0),[],[aAr (Uw)],[]⟩
 |_,_=>none
def abp:PF prog:=PF.ofG prog [] [] aU 147 f147 func147 (fun c _=>LOk.nil c) aaD (by
 intro _ _ _ h;unfold aaD at h;split at h<;>cases h;kernel_rfl)
abbrev mp:=Int×aAi×List aAi
section
variable (a:Int)(b:aAi)(c:List aAi)
def zj:Bool:=ltI a (↑c.length:Int)
def DA:Bool:=leI 0 a
def DB:Bool:=ltN a.toNat c.length
def DC:Bool:=ByteArray.toList (v7 c[v5 a]? ByteArray.empty)==ByteArray.toList b
def DD:Int:=v8 .i64 (a + (1:Int))
end
def agx:mp→List (Nat×SV)
 |(a,b,_)=> [(4,(aAm a)),(3,(aAl (.ref 0))),(0,(aAl (.val (.string b))))]
def agp:mp→List (Nat×Entry)
 |(_,_,a)=> [(0,(aAr a))]
def agN:Nat→mp→List (Nat×SV)
 |0,(a,_,_)=> [(2,(aAm a))]
 |_,_=>[]
def BP:mp→LT mp
 |(a,b,c)=> .ite (zj a c) (.need [DA a,zj a c,DB a c] (.ite (DC a b c) (.ext 0 [(0,0)]) (.nrm ((DD a),b,c) [(0,0)]))) (.ext 1 [(0,0)])
def Pa(s:St):Option mp:=do
 let some ⟨none,.one ⟨false,[.val (.int .i64 a)]⟩⟩:=s.look 4|none
 let some ⟨none,.one ⟨false,[.ref 128]⟩⟩:=s.look 3|none
 let some ⟨none,.one ⟨false,[.val (.string b)]⟩⟩:=s.look 0|none
 let some (.row true 9 (.str) c):=s.ent 128|none
 some (a,b,c)
def ey:Lp mp where
 h:=⟨[6,7,8,9,12,13,14,15,16,17,18,2,10,11,4],[0],[],[]⟩
 JL:=agx
 JE:=agp
 XL:=agN
 XE:=fun _=>agp
 q:=fun j=>match j with | 0=> .ret | _=> .exit 0
 tags:= [0,1]
 lt:=BP
 fuel:=fun(a,b,c)=>a.natAbs + b.size + c.length
 fix:=fun(_,b,c) (a,_,_)=>(a,b,c)
 σ:= [(0,128)]
 rd:=Pa
theorem aeA:LoopOk prog (fun k=>Nat.blt k Tryz.f133.ntmps) ey.F (bc f133 0):=by
 refine Lp.ok (tbl:= [abp]) (lf:= []) aU ey (by kernel_rfl) (LOk.nil _) (fun _=>rfl) (fun j _=>by unfold ey;match j with | 0=>rfl | _ + 1=>rfl) ?_ ?_ ?_ ?_ (fun _=>rfl) ?_
 ·intro _;kernel_rfl
 ·intro _;kernel_rfl
 ·intro s x h
  have h:Pa s=some x:=h
  unfold Pa at h
  repeat' split at h
  all_goals cases h
  constructor<;>repeat(first|refine ab ‹_› rfl ?_|refine aa rfl ‹_› rfl ?_|rfl)
 ·intro _;kernel_rfl
 ·intro _ _;exact(And.intro (And.intro trivial rfl) trivial)
section
variable (a:aAi)
def Nk:Int×aAi×List aAi:=((0:Int),a,Uw)
def Qd:Int:=bif Nat.beq ((Lp.res ey (Nk a)).1) 0 then ((Lp.res ey (Nk a)).2).1else(-1:Int)
def Qe:Bool:=allT [Lp.fin ey (Nk a)]
end
def act:aAj
 | [.one ⟨false,[.val (.string a)]⟩],[]=>some ⟨aAm (Qd a),[],[],[Qe a]⟩
 |_,_=>none
def amC:PF prog:=PF.ofG prog [abp] [ey.F] aU 133 f133 func133 (LOk.fnT (l:= [bc f133 0]) (by kernel_rfl) (.cons aeA (.nil _))) act (by
 intro _ _ _ h;unfold act at h;split at h<;>cases h;kernel_rfl)
def Aj(a:aAi)(b:Int):Int:=ibs a b
def HU:aAj
 | [.one ⟨false,[.val (.string a)]⟩,.one ⟨false,[.val (.int .u8 b)]⟩],[]=>some ⟨aAm (Aj a b),[],[],[]⟩
 |_,_=>none
def VU:PF prog:=PF.ofG prog [] [] aU 151 f151 func151 (fun c _=>LOk.nil c) HU (by
 intro _ _ _ h;unfold HU at h;split at h<;>cases h;kernel_rfl)
def Ks(a:aAi)(b:Int):Int:=Aj a b
def ZV:aAj
 | [.one ⟨false,[.val (.string a)]⟩,.one ⟨false,[.val (.int .u8 b)]⟩],[]=>some ⟨aAm (Ks a b),[],[],[]⟩
 |_,_=>none
def SK:PF prog:=PF.ofG prog [VU] [] aU 142 f142 func142 (fun c _=>LOk.nil c) ZV (by
 intro _ _ _ h;unfold ZV at h;split at h<;>cases h;kernel_rfl)
abbrev Fw:=Int×Int×aAi×aAi
section
variable (a b:Int)(c d:aAi)
def Dp:Bool:=ltI (v8 .i64 (a + b)) (↑(ByteArray.size c):Int)
def adI:Bool:= !(Dp a b c&&true)||leI 0 (v8 .i64 (a + b))
def adJ:Bool:= !(Dp a b c&&true)||Dp a b c
def Yi:Bool:=bif Dp a b c then leI 0 (Ks d (↑(UInt8.toNat (v7 c[v5 (v8 .i64 (a + b))]? (0:UInt8))):Int))else false
def ajW:Int:=v8 .i64 (b + (1:Int))
end
def aoY:Fw→List (Nat×SV)
 |(a,b,c,d)=> [(1,(aAm a)),(7,(aAm b)),(0,(aAl (.val (.string c)))),(2,(aAl (.val (.string d))))]
def aoX:Fw→List (Nat×Entry)
 |(_,_,_,_)=> []
def ao1:Nat→Fw→List (Nat×SV)
 |_,(_,a,_,_)=> [(7,(aAm a))]
def QY:Fw→LT Fw
 |(a,b,c,d)=> .need [adI a b c,adJ a b c] (.ite (Yi a b c d) (.nrm (a,ajW b,c,d) []) (.ext 0 []))
def abt(s:St):Option Fw:=do
 let some ⟨none,.one ⟨false,[.val (.int .i64 a)]⟩⟩:=s.look 1|none
 let some ⟨none,.one ⟨false,[.val (.int .i64 b)]⟩⟩:=s.look 7|none
 let some ⟨none,.one ⟨false,[.val (.string c)]⟩⟩:=s.look 0|none
 let some ⟨none,.one ⟨false,[.val (.string d)]⟩⟩:=s.look 2|none
 some (a,b,c,d)
def lZ:Lp Fw where
 h:=⟨[8,9,10,11,12,13,14,15,16,17,18,19,20,21,22,23,24,25,7],[],[],[]⟩
 JL:=aoY
 JE:=aoX
 XL:=ao1
 XE:=fun _=>aoX
 q:=fun j=>match j with | _=> .exit 0
 tags:= [0]
 lt:=QY
 fuel:=fun(a,b,c,d)=>a.natAbs + b.natAbs + c.size + d.size
 fix:=fun(a,_,c,d) (_,b,_,_)=>(a,b,c,d)
 σ:= []
 rd:=abt
theorem anj:LoopOk prog (fun k=>Nat.blt k Tryz.f143.ntmps) lZ.F (bc f143 0):=by
 refine Lp.ok (tbl:= [SK]) (lf:= []) aU lZ (by kernel_rfl) (LOk.nil _) (fun _=>rfl) (fun _ _=>rfl) ?_ ?_ ?_ ?_ (fun _=>rfl) ?_
 ·intro _;kernel_rfl
 ·intro _;kernel_rfl
 ·intro s x h
  have h:abt s=some x:=h
  unfold abt at h
  repeat' split at h
  all_goals cases h
  exact⟨ab ‹_› rfl (ab ‹_› rfl (ab ‹_› rfl (ab ‹_› rfl (rfl)))),rfl⟩
 ·intro _;kernel_rfl
 ·intro _ _;exact(And.intro rfl trivial)
section
variable (a:aAi)(b:Int)(c:aAi)
def an4:Int×Int×aAi×aAi:=(b,(0:Int),a,c)
def apy:Int:=((Lp.res lZ (an4 a b c)).2.2).1
def apz:Bool:=allT [Lp.fin lZ (an4 a b c)]
end
def aoV:aAj
 | [.one ⟨false,[.val (.string a)]⟩,.one ⟨false,[.val (.int .i64 b)]⟩,.one ⟨false,[.val (.string c)]⟩],[]=>some ⟨aAm (apy a b c),[],[],[apz a b c]⟩
 |_,_=>none
def auN:PF prog:=PF.ofG prog [SK] [lZ.F] aU 143 f143 func143 (LOk.fnT (l:= [bc f143 0]) (by kernel_rfl) (.cons anj (.nil _))) aoV (by
 intro _ _ _ h;unfold aoV at h;split at h<;>cases h;kernel_rfl)
def Dn(a:aAi):Bool:=pJ (↑(ByteArray.size a):Int) 1 12
def KR(a:aAi):Bool:=
 bif Dn a then
 leI (0:Int)
  (Ks
   {
    data:=
     #[(97:UInt8),(98:UInt8),(99:UInt8),(100:UInt8),(101:UInt8),(102:UInt8),(103:UInt8),(104:UInt8),(105:UInt8),
      (106:UInt8),(107:UInt8),(108:UInt8),(109:UInt8),(110:UInt8),(111:UInt8),(112:UInt8),(113:UInt8),(114:UInt8),
      (115:UInt8),(116:UInt8),(117:UInt8),(118:UInt8),(119:UInt8),(120:UInt8),(121:UInt8),(122:UInt8)] }
   (↑(UInt8.toNat (v7 a[v5 (0:Int)]? (0:UInt8))):Int))
 else false
def adG(a:aAi):Bool:=
 bif KR a then
 apy a (0:Int)
   {
    data:=
     #[(97:UInt8),(98:UInt8),(99:UInt8),(100:UInt8),(101:UInt8),(102:UInt8),(103:UInt8),(104:UInt8),(105:UInt8),
      (106:UInt8),(107:UInt8),(108:UInt8),(109:UInt8),(110:UInt8),(111:UInt8),(112:UInt8),(113:UInt8),(114:UInt8),
      (115:UInt8),(116:UInt8),(117:UInt8),(118:UInt8),(119:UInt8),(120:UInt8),(121:UInt8),(122:UInt8),(48:UInt8),
      (49:UInt8),(50:UInt8),(51:UInt8),(52:UInt8),(53:UInt8),(54:UInt8),(55:UInt8),(56:UInt8),(57:UInt8),
      (95:UInt8)] } ==
  (↑(ByteArray.size a):Int)
 else false
def adH(a:aAi):Bool:=
 allT
 [!(Dn a&&true)||leI (0:Int) (0:Int),!(Dn a&&true)||ltI (0:Int) (↑(ByteArray.size a):Int),
  !(KR a&&true)||
   apz a (0:Int)
    {
     data:=
      #[(97:UInt8),(98:UInt8),(99:UInt8),(100:UInt8),(101:UInt8),(102:UInt8),(103:UInt8),(104:UInt8),(105:UInt8),
       (106:UInt8),(107:UInt8),(108:UInt8),(109:UInt8),(110:UInt8),(111:UInt8),(112:UInt8),(113:UInt8),(114:UInt8),
       (115:UInt8),(116:UInt8),(117:UInt8),(118:UInt8),(119:UInt8),(120:UInt8),(121:UInt8),(122:UInt8),(48:UInt8),
       (49:UInt8),(50:UInt8),(51:UInt8),(52:UInt8),(53:UInt8),(54:UInt8),(55:UInt8),(56:UInt8),(57:UInt8),
       (95:UInt8)] }]
def ajE:aAj
 | [.one ⟨false,[.val (.string a)]⟩],[]=>some ⟨aAl (.val (.bool (adG a))),[],[],[adH a]⟩
 |_,_=>none
def aqT:PF prog:=PF.ofG prog [Yl,SK,auN] [] aU 122 f122 func122 (fun c _=>LOk.nil c) ajE (by
 intro _ _ _ h;unfold ajE at h;split at h<;>cases h;kernel_rfl)
abbrev ei:=Int×Int×aAi×List aAi
section
variable (a b:Int)(c:aAi)(d:List aAi)
def qo:Bool:=ltI a b
def qp:Bool:=leI 0 a
def qq:Bool:=ltI a (↑d.length:Int)
def qr:Bool:=ltN a.toNat d.length
def qs:Bool:=ByteArray.toList c==ByteArray.toList (v7 d[v5 a]? ByteArray.empty)
def qt:Int:=v8 .i64 (a + (1:Int))
end
def Vx:ei→List (Nat×SV)
 |(a,b,c,_)=> [(8,(aAm a)),(7,(aAm b)),(1,(aAl (.val (.string c)))),(0,(aAl (.ref 0)))]
def Vw:ei→List (Nat×Entry)
 |(_,_,_,a)=> [(0,(aAn a))]
def Vz:Nat→ei→List (Nat×SV)
 |0,(a,_,_,_)=> [(4,(aAm a))]
 |_,_=>[]
def pd:ei→LT ei
 |(a,b,c,d)=> .ite (qo a b) (.need [qp a,qq a d,qr a d] (.ite (qs a c d) (.ext 0 [(0,0)]) (.nrm ((qt a),b,c,d) [(0,0)]))) (.ext 1 [(0,0)])
def Av(s:St):Option ei:=do
 let some ⟨none,.one ⟨false,[.val (.int .i64 a)]⟩⟩:=s.look 8|none
 let some ⟨none,.one ⟨false,[.val (.int .i64 b)]⟩⟩:=s.look 7|none
 let some ⟨none,.one ⟨false,[.val (.string c)]⟩⟩:=s.look 1|none
 let some ⟨none,.one ⟨false,[.ref 0]⟩⟩:=s.look 0|none
 let some (.row false 9 (.str) d):=s.ent 0|none
 some (a,b,c,d)
def bu:Lp ei where
 h:=⟨[9,10,5,11,12,13,14,15,16,17,4,18,8],[0],[],[]⟩
 JL:=Vx
 JE:=Vw
 XL:=Vz
 XE:=fun _=>Vw
 q:=fun j=>match j with | 0=> .ret | _=> .exit 0
 tags:= [0,1]
 lt:=pd
 fuel:=fun(a,b,c,d)=>a.natAbs + b.natAbs + c.size + d.length
 fix:=fun(_,b,c,d) (a,_,_,_)=>(a,b,c,d)
 σ:= [(0,0)]
 rd:=Av
theorem Uf:LoopOk prog (fun k=>Nat.blt k Tryz.f96.ntmps) bu.F (bc f96 0):=by
 refine Lp.ok (tbl:= []) (lf:= []) aU bu (by kernel_rfl) (LOk.nil _) (fun _=>rfl) (fun j _=>by unfold bu;match j with | 0=>rfl | _ + 1=>rfl) ?_ ?_ ?_ ?_ (fun _=>rfl) ?_
 ·intro _;kernel_rfl
 ·intro _;kernel_rfl
 ·intro s x h
  have h:Av s=some x:=h
  unfold Av at h
  repeat' split at h
  all_goals cases h
  constructor<;>repeat(first|refine ab ‹_› rfl ?_|refine aa rfl ‹_› rfl ?_|rfl)
 ·intro _;kernel_rfl
 ·intro _ _;exact(And.intro (And.intro trivial rfl) trivial)
section
variable (a:aAi)(b:List aAi)
def ry:Int×Int×aAi×List aAi:=((0:Int),(↑b.length:Int),a,b)
def sw:Int:=bif Nat.beq ((Lp.res bu (ry a b)).1) 0 then ((Lp.res bu (ry a b)).2).1else(-1:Int)
def sx:Bool:=allT [Lp.fin bu (ry a b)]
end
def ND:aAj
 | [.one ⟨false,[.ref 0]⟩,.one ⟨false,[.val (.string a)]⟩],[.row false 9 (.str) b]=>some ⟨aAm (sw a b),[aAn b],[],[sx a b]⟩
 |_,_=>none
def yt:PF prog:=PF.ofG prog [] [bu.F] aU 96 f96 func96 (LOk.fnT (l:= [bc f96 0]) (by kernel_rfl) (.cons Uf (.nil _))) ND (by
 intro _ _ _ h;unfold ND at h;split at h<;>cases h;kernel_rfl)
def jg(a:aAi)(b:List aAi):Bool:=leI 0 (sw a b)
def mc(a:aAi)(b:List aAi):Bool:=allT [sx a b]
def JF:aAj
 | [.one ⟨false,[.ref 0]⟩,.one ⟨false,[.val (.string a)]⟩],[.row false 9 (.str) b]=>some ⟨aAl (.val (.bool (jg a b))),[aAn b],[],[mc a b]⟩
 |_,_=>none
def ej:PF prog:=PF.ofG prog (T3z [yt]) [] aU 88 f88 func88 (fun c _=>LOk.nil c) JF (by
 intro _ _ _ h;unfold JF at h;split at h<;>cases h;kernel_rfl)
def XG(a:aAi):Bool:=jg a (List.drop (v5 0) (List.take (v5 (↑(v6 alE):Int)) alE))
def XH(a:aAi):Bool:=allT [mc a (List.drop (v5 0) (List.take (v5 (↑(v6 alE):Int)) alE))]
def ad6:aAj
 | [.one ⟨false,[.val (.string a)]⟩],[]=>some ⟨aAl (.val (.bool (XG a))),[],[],[XH a]⟩
 |_,_=>none
def anw:PF prog:=PF.ofG prog (T3z [ej]) [] aU 123 f123 func123 (fun c _=>LOk.nil c) ad6 (by
 intro _ _ _ h;unfold ad6 at h;split at h<;>cases h;kernel_rfl)
theorem Lp.scan{X:Type}(p:Lp X)(st:Nat→X)(N:Nat)(P:Nat→Bool)(e:Nat)(hN:N≤p.fuel (st 0))
  (hs: ∀ b,b < N→(p.lt (st b)).nds=true∧(p.lt (st b)).each (fun y=>y=st (b + 1))∧(p.lt (st b)).fn (fun _=>())=(bif P b then .inl 0 else .inr ()))
  (he:(p.lt (st N)).out=some (.inl e)):p.fin (st 0)=true∧(p.res (st 0)).1=bif(List.range N).any P then 0 else e:=by
 have oe:=p.along (fun i (_:Unit)=>st i) (fun _=>()) (fun(b:Nat) (_:Unit)=>bif P b then .inl 0 else .inr ()) e (fun _ _=>True) (List.range N) () trivial (by rw [List.length_range];exact hN)
  (fun i b a hb _=>by
   obtain⟨rfl,hlt⟩:=UZ hb
   obtain⟨h1,h2,h3⟩:=hs b hlt
   exact⟨h1,h2,h3,fun _ _=>trivial⟩) (fun a _=>by rw [List.length_range];exact he)
 rw [lA (P:=P) (j:=0) (fun b=>rfl)]at oe
 exact⟨oe.1,by rw [oe.2]⟩
def bAt(s:aAi)(b:Nat):Int:=((s[b]?.getD 0).toNat:Int)
def atm(c:Int):Bool:=inR c 97 122
def agT(c:Int):Bool:=atm c||(inR c 48 57||c==95)
def aag(s:aAi):Bool:=inR (s.size:Int) 1 12&&(atm (bAt s 0)&&(List.range s.size).all fun b=>agT (bAt s b))
def auD(s:aAi):Bool:=alE.any fun k=>k.toList==s.toList
def pB(s:aAi):Bool:=aag s&& !auD s
def ayU:aAi:=⟨#[97,98,99,100,101,102,103,104,105,106,107,108,109,110,111,112,113,114,115,116,117,118,119,120,121,122]⟩
def wbS:aAi:=⟨#[97,98,99,100,101,102,103,104,105,106,107,108,109,110,111,112,113,114,115,116,117,118,119,120,121,122,48,49,50,51,52,53,54,55,56,57,95]⟩
theorem axU: ∀ n:Nat,n < 256→leI 0 (ibs ayU (n:Int))=atm (n:Int):=by decide +kernel
theorem azv: ∀ n:Nat,n < 256→leI 0 (ibs wbS (n:Int))=agT (n:Int):=by decide +kernel
theorem ayV(s:aAi)(b:Nat):leI 0 (ibs ayU (bAt s b))=atm (bAt s b):=axU _ (UInt8.toNat_lt _)
theorem azT(s:aAi)(b:Nat):leI 0 (ibs wbS (bAt s b))=agT (bAt s b):=azv _ (UInt8.toNat_lt _)
theorem awx(c:Int):TF c=agT c:=by
 simp only [TF,Lh,ZG,MM,agT,atm]
 cases inR c 97 122 <;> cases inR c 48 57 <;> rfl
theorem avd(s:aAi)(hn:s.size≤9223372036854775807):
  iu.fin ((0:Int),s)=true∧(iu.res ((0:Int),s)).1=bif(List.range s.size).any (fun b=> !agT (bAt s b))then 0 else 1:=by
 refine Lp.scan iu (fun b=>((b:Int),s)) s.size (fun b=> !agT (bAt s b)) 1 (by simp only [iu];omega) (fun b hb=> ?_) ?_
 ·have gr:ltI (b:Int) (s.size:Int)=true:=dL (by omega)
  have hw:IntKind.i64.wrap ((b:Int) + 1)=((b + 1:Nat):Int):=by rw [wrap_i64 (by omega) (by omega)];omega
  have LW:leI (0:Int) (b:Int)=true:=bx (by omega)
  have i2:Wr (b:Int) s= !agT (bAt s b):=by simp only [Wr,awx,w5,bAt]
  refine⟨?_,?_,?_⟩
  ·simp [iu,Gs,LT.nds,allT,Ip,ac1,gr,LW]
  ·simp [iu,Gs,LT.each,ac2,hw]
  ·simp only [iu,Gs,LT.fn,Ip,gr,i2,cond_true]
 ·simp [iu,Gs,LT.out,Ip]
theorem atQ(s:aAi)(h:leN s.size 9223372036854775807=true):abK s=aag s∧abL s=true:=by
 obtain⟨w1,w2⟩:=avd s (eN.1 h)
 have e5:((List.range s.size).any fun b=> !agT (bAt s b))= !(List.range s.size).all fun b=>agT (bAt s b):=by simp [List.all_eq_not_any_not]
 rw [e5]at w2
 have eb:((UInt8.toNat (v7 s[v5 (0:Int)]? (0:UInt8)):Nat):Int)=bAt s 0:=rfl
 have h0:leI 0 0=true:=rfl
 simp only [abK,abL,TG,TH,w1,w2,eb,h0,Lh,ak,MM,aag,atm,allT,k7,cond_true]
 cases hr:inR (s.size:Int) 1 12 with
 |false=>cases (List.range s.size).all fun b=>agT (bAt s b) <;> simp [Nat.beq]
 |true=>
  have:=pR.1 hr
  rw [dL (by omega)]
  cases inR (bAt s 0) 97 122 <;> cases (List.range s.size).all fun b=>agT (bAt s b) <;> simp [Nat.beq]
theorem azS(s:aAi)(hn:s.size≤9223372036854775806):
  lZ.fin ((0:Int),(0:Int),s,wbS)=true∧((lZ.res ((0:Int),(0:Int),s,wbS)).2.2.1==(s.size:Int))=(List.range s.size).all fun b=>agT (bAt s b):=by
 have hz: ∀ i:Nat,i≤s.size→IntKind.i64.wrap ((0:Int) + (i:Int))=(i:Int):=fun i hi=>by rw [wrap_i64 (by omega) (by omega)];omega
 have oe:=lZ.along (fun i (_:Unit)=>((0:Int),(i:Int),s,wbS)) (fun _=>()) (fun(b:Nat) (_:Unit)=>bif !agT (bAt s b)then .inl 0 else .inr ()) 0 (fun _ _=>True) (List.range s.size) () trivial (by simp only [lZ,List.length_range];omega)
  (fun i b a hb _=>by
   obtain⟨rfl,hlt⟩:=UZ hb
   have gr:ltI (b:Int) (s.size:Int)=true:=dL (by omega)
   have LW:leI (0:Int) (b:Int)=true:=bx (by omega)
   have hw:IntKind.i64.wrap ((b:Int) + 1)=((b + 1:Nat):Int):=by rw [wrap_i64 (by omega) (by omega)];omega
   have ha:Dp 0 (b:Int) s=true:=by simp only [Dp,hz b (by omega),gr]
   have hb2:Yi 0 (b:Int) s wbS=agT (bAt s b):=by
    simp only [Yi,ha,cond_true,hz b (by omega),w5,Ks,Aj]
    exact azT s b
   refine⟨?_,?_,?_,fun _ _=>trivial⟩
   ·have hz2:=hz b (by omega)
    rw [Int.zero_add]at hz2
    simp [lZ,QY,LT.nds,allT,adI,adJ,ha,hz2]
   ·simp [lZ,QY,LT.each,ajW,hw]
   ·simp only [lZ,QY,LT.fn,hb2]
    cases agT (bAt s b) <;> rfl)
  (fun a _=>by
   have gr:ltI (s.size:Int) (s.size:Int)=false:=by simp
   have ha:Dp 0 (s.size:Int) s=false:=by simp only [Dp,hz s.size (by omega),gr]
   rw [List.length_range]
   simp [lZ,QY,LT.out,Yi,adI,adJ,allT,ha])
 rw [lA (P:=fun b=> !agT (bAt s b)) (j:=0) (fun b=>rfl)]at oe
 refine⟨oe.1,?_⟩
 have k2:lZ.res ((0:Int),(0:Int),s,wbS)=_:=oe.2
 rw [k2]
 simp only [Nat.zero_add]
 rw [Bool.eq_iff_iff,beq_iff_eq,List.all_eq_true]
 have hl: ∀ (l:List Nat) (P:Nat→Bool),(l.takeWhile P).length=l.length↔ ∀ x∈l,P x=true:=by
  intro l P
  induction l with
  |nil=>simp
  |cons a r ih=>
   rw [List.takeWhile_cons]
   cases h:P a with
   |false=>simp [h]
   |true=>simp [h,ih]
 have h2:=hl (List.range s.size) (fun b=> !!agT (bAt s b))
 rw [List.length_range]at h2
 constructor
 ·intro h x hx;have:=h2.1 (by exact_mod_cast h) x hx;simpa using this
 ·intro h;exact_mod_cast h2.2 (fun x hx=>by simpa using h x hx)
theorem atg(s:aAi):adG s=aag s∧adH s=true:=by
 have eb:((UInt8.toNat (v7 s[v5 (0:Int)]? (0:UInt8)):Nat):Int)=bAt s 0:=rfl
 have e0:Dn s=inR (s.size:Int) 1 12:=by simp only [Dn,pJ,MM]
 have e1:KR s=(inR (s.size:Int) 1 12&&atm (bAt s 0)):=by
  have:KR s=bif Dn s then leI 0 (ibs ayU (bAt s 0))else false:=rfl
  rw [this,e0,ayV]
  cases inR (s.size:Int) 1 12 <;> rfl
 have e2:adG s=bif KR s then(lZ.res ((0:Int),(0:Int),s,wbS)).2.2.1==(s.size:Int)else false:=rfl
 have e3:adH s=allT [!(Dn s&&true)||leI (0) (0),!(Dn s&&true)||ltI (0) (↑(ByteArray.size s)),!(KR s&&true)||allT [lZ.fin ((0:Int),(0:Int),s,wbS)]]:=rfl
 have h0:leI 0 0=true:=rfl
 rw [e2,e3,e1,e0,h0]
 cases hr:inR (s.size:Int) 1 12 with
 |false=>simp [aag,hr,allT]
 |true=>
  have:=pR.1 hr
  obtain⟨w1,w2⟩:=azS s (by omega)
  rw [w1,w2,dL (by omega)]
  simp only [aag,hr,allT,Bool.true_and,Bool.and_true,k7,cond_true]
  cases atm (bAt s 0) <;> simp
def Dm(a b:aAi):(Unit)→Nat ⊕ (Unit)
 |_=>(bif(ByteArray.toList (b)==ByteArray.toList a)then(.inl 0)else(.inr ()))
def qE(a:aAi)(b:List aAi)(i:Nat):(Unit)→mp
 |_=>((i:Int),a,b)
def OV:mp→Unit
 |(_,_,_)=>()
theorem aiE(c:aAi)(e:List aAi) (hn:e.length≤9223372036854775807):
  ey.fin ((0:Int),c,e)=true∧ey.res ((0:Int),c,e)=((bz (Dm c) 1 e 0 ()).1,(qE c e) (bz (Dm c) 1 e 0 ()).2.1 (bz (Dm c) 1 e 0 ()).2.2):=by
 have oe:=ey.along (qE c e) OV (Dm c) 1 (fun _ _=>True) e () (by trivial) (by simp only [ey,qE];omega) (fun i b a hb hI=> ?_) (fun a hI=> ?_)
 ·exact oe
 ·obtain⟨⟩:=a
  have hlt:=(k9.1 hb).1
  have nk: ∀ d,v7 e[i]? d=b:=fun d=>by rw [hb];rfl
  have hw:=Bv hlt hn
  have gr:ltI (i:Int) (e.length:Int)=true:=dL (by omega)
  have LW:leI (0:Int) (i:Int)=true:=bx (by omega)
  have sd:ltN i e.length=true:=er hlt
  refine⟨?_,?_,?_,?_⟩
  ·simp [zj,DA,DB,DC,DD,BP,ey,LT.nds,allT,qE,gr,LW,sd,nk]
  ·simp [zj,DA,DB,DC,DD,BP,ey,LT.each,qE,OV,hw]
  ·simp only [zj,DA,DB,DC,DD,BP,ey,LT.fn,qE,OV,Dm,w5,gr,LW,sd,nk,cond_true,k8]
  ·exact fun _ _=>trivial
 ·obtain⟨⟩:=a
  simp [zj,DA,DB,DC,DD,BP,ey,LT.out,qE]
def qn(a b:aAi):(Unit)→Nat ⊕ (Unit)
 |_=>(bif(ByteArray.toList a==ByteArray.toList b)then(.inl 0)else(.inr ()))
def eL(a:aAi)(b:List aAi)(i:Nat):(Unit)→ei
 |_=>((i:Int),(↑b.length:Int),a,b)
def Au:ei→Unit
 |(_,_,_,_)=>()
theorem JJ(c:aAi)(e:List aAi) (hn:e.length≤9223372036854775807):
  bu.fin ((0:Int),(↑e.length:Int),c,e)=true∧bu.res ((0:Int),(↑e.length:Int),c,e)=((bz (qn c) 1 e 0 ()).1,(eL c e) (bz (qn c) 1 e 0 ()).2.1 (bz (qn c) 1 e 0 ()).2.2):=by
 have oe:=bu.along (eL c e) Au (qn c) 1 (fun _ _=>True) e () (by trivial) (by simp only [bu,eL];omega) (fun i b a hb hI=> ?_) (fun a hI=> ?_)
 ·exact oe
 ·obtain⟨⟩:=a
  have hlt:=(k9.1 hb).1
  have nk: ∀ d,v7 e[i]? d=b:=fun d=>by rw [hb];rfl
  have hw:=Bv hlt hn
  have gr:ltI (i:Int) (e.length:Int)=true:=dL (by omega)
  have LW:leI (0:Int) (i:Int)=true:=bx (by omega)
  have sd:ltN i e.length=true:=er hlt
  refine⟨?_,?_,?_,?_⟩
  ·simp [qo,qp,qq,qr,qs,qt,pd,bu,LT.nds,allT,eL,gr,LW,sd,nk]
  ·simp [qo,qp,qq,qr,qs,qt,pd,bu,LT.each,eL,Au,hw]
  ·simp only [qo,qp,qq,qr,qs,qt,pd,bu,LT.fn,eL,Au,qn,w5,gr,LW,sd,nk,cond_true,k8]
  ·exact fun _ _=>trivial
 ·obtain⟨⟩:=a
  simp [qo,qp,qq,qr,qs,qt,pd,bu,LT.out,eL]
theorem ayQ:alE.length≤9223372036854775807:=by decide
theorem aqk(s:aAi):ltI (Qd s) 0= !auD s∧Qe s=true:=by
 have e0:Uw=alE:=rfl
 obtain⟨w1,w2⟩:=aiE s alE ayQ
 rw [lA (P:=fun k=>k.toList==s.toList) (j:=0) (fun k=>rfl)]at w2
 simp only [Qd,Qe,Nk,e0,w1,w2,allT,auD,qE]
 cases alE.any fun k=>k.toList==s.toList with
 |false=>exact⟨rfl,rfl⟩
 |true=>
  simp only [cond_true,Nat.beq]
  refine⟨?_,trivial⟩
  exact Yj.2 (by omega)
theorem auz(s:aAi):XG s=auD s∧XH s=true:=by
 have e0:List.drop (v5 (0)) (List.take (v5 (↑(v6 alE))) alE)=alE:=rfl
 obtain⟨w1,w2⟩:=JJ s alE ayQ
 rw [lA (P:=fun k=>s.toList==k.toList) (j:=0) (fun k=>rfl)]at w2
 have e1:(fun k:aAi=>s.toList==k.toList)=fun k=>k.toList==s.toList:=funext fun k=>BEq.comm
 rw [e1]at w2
 simp only [XG,XH,e0,jg,mc,sw,sx,ry,w1,w2,allT,auD,eL]
 cases alE.any fun k=>k.toList==s.toList with
 |false=>exact⟨rfl,rfl⟩
 |true=>
  simp only [cond_true,Nat.beq]
  rw [bx (by omega)];simp
def ahJ:aAj
 | [.one ⟨false,[.val (.string a)]⟩],[]=>some ⟨aAl (.val (.bool (aag a))),[],[],[leN a.size 9223372036854775807]⟩
 |_,_=>none
def apP:PF prog:=PF.alt ap7 ahJ (by
 intro args es o h cL;unfold ahJ at h;split at h
 ·rename_i a
  cases h
  have cL:=kO cL
  have hh:=atQ a cL
  obtain⟨e0,en⟩:=hh
  exact qm rfl (jv en) (by simp only [e0] <;> rfl) rfl rfl
 ·cases h)
def ajO:aAj
 | [.one ⟨false,[.val (.string a)]⟩],[]=>some ⟨aAl (.val (.bool (aag a))),[],[],[]⟩
 |_,_=>none
def aqQ:PF prog:=PF.alt aqT ajO (by
 intro args es o h cL;unfold ajO at h;split at h
 ·rename_i a
  cases h
  have hh:=atg a
  obtain⟨e0,en⟩:=hh
  exact qm rfl (jv en) (by simp only [e0] <;> rfl) rfl rfl
 ·cases h)
def aek:aAj
 | [.one ⟨false,[.val (.string a)]⟩],[]=>some ⟨aAl (.val (.bool (auD a))),[],[],[]⟩
 |_,_=>none
def ann:PF prog:=PF.alt anw aek (by
 intro args es o h cL;unfold aek at h;split at h
 ·rename_i a
  cases h
  have hh:=auz a
  obtain⟨e0,en⟩:=hh
  exact qm rfl (jv en) (by simp only [e0] <;> rfl) rfl rfl
 ·cases h)
def pu(a:aAi):Bool:=bif aag a then ltI (Qd a) 0 else false
def yk(a:aAi):Bool:=allT [leN (ByteArray.size a) 9223372036854775807,!(aag a&&true)||Qe a]
def ahj:aAj
 | [.one ⟨false,[.val (.string a)]⟩],[]=>some ⟨aAl (.val (.bool (pu a))),[],[],[yk a]⟩
 |_,_=>none
def Ri:PF prog:=PF.ofG prog [apP,amC] [] aU 98 f98 func98 (fun c _=>LOk.nil c) ahj (by
 intro _ _ _ h;unfold ahj at h;split at h<;>cases h;kernel_rfl)
def al(a:Int):Bool:=bif bif bif a==7 then true else a==8 then true else a==11 then true else a==12
def aef:aAj
 | [.one ⟨false,[.val (.int .i64 a)]⟩],[]=>some ⟨aAl (.val (.bool (al a))),[],[],[]⟩
 |_,_=>none
def Lc:PF prog:=PF.ofG prog [] [] aU 118 f118 func118 (fun c _=>LOk.nil c) aef (by
 intro _ _ _ h;unfold aef at h;split at h<;>cases h;kernel_rfl)
def abV(a:Int):Bool:=ak a 1 12
def ahi:aAj
 | [.one ⟨false,[.val (.int .i64 a)]⟩],[]=>some ⟨aAl (.val (.bool (abV a))),[],[],[]⟩
 |_,_=>none
def ap9:PF prog:=PF.ofG prog [Ar] [] aU 153 f153 func153 (fun c _=>LOk.nil c) ahi (by
 intro _ _ _ h;unfold ahi at h;split at h<;>cases h;kernel_rfl)
def ZJ(a b:Int):Bool:=bif bif !abV a then true else !ak b 0 9999 then true else bif !al a then b !=0 else false
def Ry(a:Int)(b:aAi)(c:Int):Bool:=
 bif ZJ a c then false else bif a==(1:Int)then pu b else ByteArray.toList b==ByteArray.toList { data:= #[] }
def Rz(a:Int)(b:aAi)(c:Int):Bool:=allT [ZJ a c||(!a==1||yk b)]
def ahk:aAj
 | [.one ⟨true,[.val (.int .i64 a),.val (.string b),.val (.int .i64 c)]⟩],[]=>some ⟨aAl (.val (.bool (Ry a b c))),[],[],[Rz a b c]⟩
 |_,_=>none
def aiv:PF prog:=PF.ofG prog [Ar,Ri,Lc,ap9] [] aU 148 f148 func148 (fun c _=>LOk.nil c) ahk (by
 intro _ _ _ h;unfold ahk at h;split at h<;>cases h;kernel_rfl)
def ox(a:aAi):Bool:=bif aag a then !auD a else false
def ajC:aAj
 | [.one ⟨false,[.val (.string a)]⟩],[]=>some ⟨aAl (.val (.bool (ox a))),[],[],[]⟩
 |_,_=>none
def Ts:PF prog:=PF.ofG prog [aqQ,ann] [] aU 79 f79 func79 (fun c _=>LOk.nil c) ajC (by
 intro _ _ _ h;unfold ajC at h;split at h<;>cases h;kernel_rfl)
def VN(a:Int):Bool:=bif bif bif a==7 then true else a==8 then true else a==11 then true else a==12
def aco:aAj
 | [.one ⟨false,[.val (.int .i64 a)]⟩],[]=>some ⟨aAl (.val (.bool (VN a))),[],[],[]⟩
 |_,_=>none
def amB:PF prog:=PF.ofG prog [] [] aU 115 f115 func115 (fun c _=>LOk.nil c) aco (by
 intro _ _ _ h;unfold aco at h;split at h<;>cases h;kernel_rfl)
def Ob(a:Int)(b:aAi)(c:Int):Bool:=
 bif bif !pJ a (1:Int) (12:Int)then true else !(a==(1:Int))== !ByteArray.toList b==ByteArray.toList { data:= #[] } then
 false
 else
 bif VN a then pJ c (0:Int) (9999:Int)
 else bif c==(0:Int)then bif a !=(1:Int)then true else ox b else false
def ajD:aAj
 | [.one ⟨true,[.val (.int .i64 a),.val (.string b),.val (.int .i64 c)]⟩],[]=>some ⟨aAl (.val (.bool (Ob a b c))),[],[],[]⟩
 |_,_=>none
def adV:PF prog:=PF.ofG prog [Yl,Ts,amB] [] aU 68 f68 func68 (fun c _=>LOk.nil c) ajD (by
 intro _ _ _ h;unfold ajD at h;split at h<;>cases h;kernel_rfl)
def aaR(a:Int)(b:aAi)(c:Int):Bool:=bif Ob a b c then leI 7 a else false
def ag4:aAj
 | [.one ⟨true,[.val (.int .i64 a),.val (.string b),.val (.int .i64 c)]⟩],[]=>some ⟨aAl (.val (.bool (aaR a b c))),[],[],[]⟩
 |_,_=>none
def apW:PF prog:=PF.ofG prog [adV] [] aU 35 f35 func35 (fun c _=>LOk.nil c) ag4 (by
 intro _ _ _ h;unfold ag4 at h;split at h<;>cases h;kernel_rfl)
def Eh(a b c d e:Int):Bool:=bif bif a==7 then a==7 else a==8 then bif bif pJ c 0 b then d==0 else false then e==0 else false else bif a==11 then bif bif pJ c 0 b then pJ d 0 1 else false then e==0 else false else bif a==12 then bif d==0 then bif bif pJ c 0 b then e==0 else false then true else bif c==v8 .i64 (b + (1:Int))then e==1 else false else false else bif bif pJ c 0 1 then d==0 else false then e==0 else false
def acp:aAj
 | [.one ⟨true,[.val (.int .i64 a),.val (.string _x1),.val (.int .i64 b)]⟩,.one ⟨true,[.val (.int .i64 c),.val (.int .i64 d),.val (.int .i64 e)]⟩],[]=>some ⟨aAl (.val (.bool (Eh a b c d e))),[],[],[]⟩
 |_,_=>none
def acQ:PF prog:=PF.ofG prog [Yl] [] aU 104 f104 func104 (fun c _=>LOk.nil c) acp (by
 intro _ _ _ h;unfold acp at h;split at h<;>cases h;kernel_rfl)
def dK(a b c d e:Int):Bool:=bif bif a==9 then a==9 else a==10 then bif bif ak c 0 1 then d==0 else false then e==0 else false else bif a==11 then bif bif ak c 0 b then ak d 0 1 else false then e==0 else false else bif a==12 then bif d==0 then bif bif ak c 0 b then e==0 else false then true else bif c==v8 .i64 (b + (1:Int))then e==1 else false else false else bif bif ak c 0 b then d==0 else false then e==0 else false
def aaF:aAj
 | [.one ⟨true,[.val (.int .i64 a),.val (.string _x1),.val (.int .i64 b)]⟩,.one ⟨true,[.val (.int .i64 c),.val (.int .i64 d),.val (.int .i64 e)]⟩],[]=>some ⟨aAl (.val (.bool (dK a b c d e))),[],[],[]⟩
 |_,_=>none
def abq:PF prog:=PF.ofG prog [Ar] [] aU 75 f75 func75 (fun c _=>LOk.nil c) aaF (by
 intro _ _ _ h;unfold aaF at h;split at h<;>cases h;kernel_rfl)
def arR(k:Int):Bool:=k==7||(k==8||(k==11||k==12))
def termB(k:Int)(s:aAi)(n:Int):Bool:=inR k 1 12&&(inR n 0 9999&&((arR k||n==0)&&(bif k==1 then pB s else s.toList== [])))
def KE(k:Int)(s:aAi)(n:Int):Bool:=termB k s n&&leI 7 k
def possB(k n a b c:Int):Bool:=dK k n a b c
theorem Sb:ByteArray.toList { data:= #[] } = []:=by rw [Go.Lib.toList_data]
theorem ayq{s:aAi}(h:pB s=true):(s.toList== [])=false:=by
 simp only [pB,aag,q9,pR]at h
 have h1:s.size=s.toList.length:=by rw [Go.Lib.size_eq,Go.Lib.toList_data]
 cases hs:s.toList with
 |nil=>
  rw [hs]at h1
  have h2:s.size=0:=h1
  omega
 |cons a l=>rfl
theorem ayS{n:Int}(h:(n==0)=true):inR n 0 9999=true:=by
 have:n=0:=by simpa using h
 rw [this];rfl
theorem aol(k:Int)(s:aAi)(n:Int)(h:leN s.size 9223372036854775807=true):Ry k s n=termB k s n∧Rz k s n=true:=by
 obtain⟨e1,e2⟩:=aqk s
 have e3:pu s=pB s:=by simp only [pu,e1,pB];cases aag s <;> rfl
 have e4:yk s=true:=by simp only [yk,e2,h,allT,k7,cond_true]
 simp only [Ry,Rz,ZJ,e3,e4,abV,ak,MM,Sb,al,termB,arR,allT,k7,cond_true]
 refine⟨?_,trivial⟩
 simp only [bne]
 generalize (bif k==1 then pB s else s.toList== [])=q
 generalize inR k 1 12=q1
 generalize inR n 0 9999=q2
 generalize (k==7)=q3
 generalize (k==8)=q4
 generalize (k==11)=q5
 generalize (k==12)=q6
 generalize (n==0)=q7
 revert q q1 q2 q3 q4 q5 q6 q7
 decide
theorem an3(k:Int)(s:aAi)(n:Int):Ob k s n=termB k s n:=by
 have e3:ox s=pB s:=by simp only [ox,pB];cases aag s <;> rfl
 simp only [Ob,e3,pJ,MM,Sb,VN,termB,arR]
 by_cases h1:k=1
 ·subst h1
  have z7:((1:Int)==7)=false:=rfl
  have z8:((1:Int)==8)=false:=rfl
  have z11:((1:Int)==11)=false:=rfl
  have z12:((1:Int)==12)=false:=rfl
  have z1:((1:Int)==1)=true:=rfl
  have zn:((1:Int)!=1)=false:=rfl
  have zr:inR (1:Int) 1 12=true:=rfl
  rw [z7,z8,z11,z12,z1,zn,zr]
  have hs:pB s=true→(s.toList== [])=false:=ayq
  have h0:(n==0)=true→inR n 0 9999=true:=ayS
  generalize (s.toList== [])=q at hs ⊢
  generalize (n==0)=q2 at h0 ⊢
  generalize inR n 0 9999=q3 at h0 ⊢
  generalize pB s=q4 at hs ⊢
  revert q q2 q3 q4
  decide
 ·have z1:(k==1)=false:=by simpa using h1
  have zn:(k !=1)=true:=by simpa using h1
  rw [z1,zn]
  have h0:(n==0)=true→inR n 0 9999=true:=ayS
  generalize (s.toList== [])=q
  generalize (n==0)=q2 at h0 ⊢
  generalize inR n 0 9999=q3 at h0 ⊢
  generalize inR k 1 12=q1
  generalize (k==7)=p3
  generalize (k==8)=p4
  generalize (k==11)=p5
  generalize (k==12)=p6
  generalize pB s=p7
  revert q q1 q2 q3 p3 p4 p5 p6 p7
  decide
theorem ar4(k:Int)(s:aAi)(n:Int):aaR k s n=KE k s n:=by
 simp only [aaR,an3,KE]
 cases termB k s n <;> rfl
theorem afr{k:Int}{s:aAi}{n:Int}(h:KE k s n=true):(7≤k∧k≤12)∧(0≤n∧n≤9999)∧(arR k=true∨n=0):=by
 simp only [KE,termB,q9,pR,zJ,Bool.or_eq_true,beq_iff_eq]at h
 obtain⟨⟨h1,h2,h3,_⟩,h4⟩:=h
 exact⟨⟨h4,h1.2⟩,h2,h3⟩
theorem kinds{k:Int}(h:7≤k∧k≤12):k=7∨k=8∨k=9∨k=10∨k=11∨k=12:=by omega
theorem ayC{k n a b c:Int}(h:7≤k∧k≤12):Eh k n a b c=possB k n a b c:=by
 rcases kinds h with rfl | rfl | rfl | rfl | rfl | rfl <;> rfl
theorem aiy{k n a b c:Int}(h:possB k n a b c=true)(hn:0≤n∧n≤9999):(0≤a∧a≤10000)∧(b=0∨b=1)∧(c=0∨c=1):=by
 have hw:IntKind.i64.wrap (n + 1)=n + 1:=wrap_i64 (by omega) (by omega)
 simp only [possB,dK,ak,MM,hw]at h
 cases h1:(bif k==9 then k==9 else k==10)with
 |true=>
  rw [h1]at h
  cases h2:inR a 0 1 <;> rw [h2]at h <;> simp at h
  have:=pR.1 h2
  omega
 |false=>
  rw [h1]at h
  cases h3:k==11 with
  |true=>
   rw [h3]at h
   cases h2:inR a 0 n <;> cases h4:inR b 0 1 <;> rw [h2]at h <;> simp [h4]at h
   have:=pR.1 h2
   have:=pR.1 h4
   omega
  |false=>
   rw [h3]at h
   cases h5:k==12 with
   |true=>
    rw [h5]at h
    cases h2:inR a 0 n <;> rw [h2]at h <;> simp at h
    ·omega
    ·have:=pR.1 h2
     omega
   |false=>
    rw [h5]at h
    cases h2:inR a 0 n <;> rw [h2]at h <;> simp at h
    have:=pR.1 h2
    omega
def ahz:aAj
 | [.one ⟨true,[.val (.int .i64 a),.val (.string b),.val (.int .i64 c)]⟩],[]=>some ⟨aAl (.val (.bool (KE a b c))),[],[],[]⟩
 |_,_=>none
def aik:PF prog:=PF.alt apW ahz (by
 intro args es o h cL;unfold ahz at h;split at h
 ·rename_i a b c
  cases h
  have hh:=ar4 a b c
  have e0:=hh
  exact qm rfl (fun _ h=>by cases h) (by simp only [e0] <;> rfl) rfl rfl
 ·cases h)
def fC(a:Int):Int:=bif bif a==1 then a==1 else bif a==2 then a==2 else a==3 then(0:Int)else bif bif a==4 then a==4 else bif a==7 then a==7 else bif a==8 then a==8 else a==9 then(1:Int)else(2:Int)
def afY:aAj
 | [.one ⟨false,[.val (.int .i64 a)]⟩],[]=>some ⟨aAm (fC a),[],[],[]⟩
 |_,_=>none
def vz:PF prog:=PF.ofG prog [] [] aU 77 f77 func77 (fun c _=>LOk.nil c) afY (by
 intro _ _ _ h;unfold afY at h;split at h<;>cases h;kernel_rfl)
abbrev qW:=Int×List Int
section
variable (a:Int)(b:avu)
def Er:Bool:=ltI a (↑b.length:Int)
def IM:Bool:=leI 0 a
def IP:Bool:=ltN a.toNat b.length
def IQ:Bool:= !ak (v7 b[v5 a]? 0) 0 1
def IU:Int:=v8 .i64 (a + (1:Int))
end
def akm:qW→List (Nat×SV)
 |(a,_)=> [(5,(aAm a)),(0,(aAl (.ref 0)))]
def akf:qW→List (Nat×Entry)
 |(_,a)=> [(0,(aAq a))]
def akA:Nat→qW→List (Nat×SV)
 |0,(_,_)=> [(4,(aAl (.val (.bool false))))]
 |_,_=>[]
def Gu:qW→LT qW
 |(a,b)=> .ite (Er a b) (.need [IM a,Er a b,IP a b] (.ite (IQ a b) (.ext 0 [(0,0)]) (.nrm ((IU a),b) [(0,0)]))) (.ext 1 [(0,0)])
def Ut(s:St):Option qW:=do
 let some ⟨none,.one ⟨false,[.val (.int .i64 a)]⟩⟩:=s.look 5|none
 let some ⟨none,.one ⟨false,[.ref 0]⟩⟩:=s.look 0|none
 let some (.row false 2 (.int .i64) b):=s.ent 0|none
 some (a,b)
def iv:Lp qW where
 h:=⟨[6,7,8,9,12,13,14,15,16,17,4,10,11,5],[0],[],[]⟩
 JL:=akm
 JE:=akf
 XL:=akA
 XE:=fun _=>akf
 q:=fun j=>match j with | 0=> .ret | _=> .exit 0
 tags:= [0,1]
 lt:=Gu
 fuel:=fun(a,b)=>a.natAbs + b.length
 fix:=fun(_,b) (a,_)=>(a,b)
 σ:= [(0,0)]
 rd:=Ut
theorem aih:LoopOk prog (fun k=>Nat.blt k Tryz.f45.ntmps) iv.F (bc f45 0):=by
 refine Lp.ok (tbl:= [Ar]) (lf:= []) aU iv (by kernel_rfl) (LOk.nil _) (fun _=>rfl) (fun j _=>by unfold iv;match j with | 0=>rfl | _ + 1=>rfl) ?_ ?_ ?_ ?_ (fun _=>rfl) ?_
 ·intro _;kernel_rfl
 ·intro _;kernel_rfl
 ·intro s x h
  have h:Ut s=some x:=h
  unfold Ut at h
  repeat' split at h
  all_goals cases h
  constructor<;>repeat(first|refine ab ‹_› rfl ?_|refine aa rfl ‹_› rfl ?_|rfl)
 ·intro _;kernel_rfl
 ·intro _ _;exact(And.intro (And.intro trivial rfl) trivial)
def aca(a:Int)(b:avu):Bool:=bif Nat.beq ((Lp.res iv ((0:Int),b)).1) 0 then false else(↑b.length:Int)==a
def acb(a:avu):Bool:=allT [Lp.fin iv ((0:Int),a)]
def ahs:aAj
 | [.one ⟨false,[.ref 0]⟩,.one ⟨false,[.val (.int .i64 a)]⟩],[.row false 2 (.int .i64) b]=>some ⟨aAl (.val (.bool (aca a b))),[aAq b],[],[acb b]⟩
 |_,_=>none
def aqc:PF prog:=PF.ofG prog [Ar] [iv.F] aU 45 f45 func45 (LOk.fnT (l:= [bc f45 0]) (by kernel_rfl) (.cons aih (.nil _))) ahs (by
 intro _ _ _ h;unfold ahs at h;split at h<;>cases h;kernel_rfl)
def kn(a:Bool):Int:=bif a then(1:Int)else(0:Int)
def ajJ:aAj
 | [.one ⟨false,[.val (.bool a)]⟩],[]=>some ⟨aAm (kn a),[],[],[]⟩
 |_,_=>none
def aj3:PF prog:=PF.ofG prog [] [] aU 120 f120 func120 (fun c _=>LOk.nil c) ajJ (by
 intro _ _ _ h;unfold ajJ at h;split at h<;>cases h;kernel_rfl)
section
variable (a b c d e f:Int)
def jf:Bool:=bif bif d==1 then e==0 else false then f==0 else false
def ke:Bool:=(bif jf d e f then(0:Int)else d)==0
def lL:Bool:=bif ke d e f then e !=f else false
def nb:Int:=v8 .i64 ((bif jf d e f then(0:Int)else b) + (1:Int))
def nc:Int:=bif lL d e f then kn (ltI a (nb b d e f))else bif ke d e f then(0:Int)else bif jf d e f then(0:Int)else d
def pv:Int:=kn (bif bif e==1 then f==1 else false then nc a b d e f==0 else false)
def pw:Int:=bif lL d e f then nb b d e f else bif ke d e f then(0:Int)else bif jf d e f then(0:Int)else b
def px:Int:=bif lL d e f then(0:Int)else bif ke d e f then(0:Int)else bif jf d e f then(0:Int)else c
def py:Int:=nc a b d e f
end
def ahm:aAj
 | [.one ⟨false,[.val (.int .i64 a)]⟩,.one ⟨true,[.val (.int .i64 b),.val (.int .i64 c),.val (.int .i64 d)]⟩,.one ⟨false,[.val (.int .i64 e)]⟩,.one ⟨false,[.val (.int .i64 f)]⟩],[]=>some ⟨.tup [⟨false,[aAk (pv a b d e f)]⟩,⟨true,[aAk (pw b d e f),aAk (px c d e f),aAk (py a b d e f)]⟩],[],[],[]⟩
 |_,_=>none
def aqb:PF prog:=PF.ofG prog [aj3] [] aU 121 f121 func121 (fun c _=>LOk.nil c) ahm (by
 intro _ _ _ h;unfold ahm at h;split at h<;>cases h;kernel_rfl)
section
variable (a b c d e:Int)(f:avu)
def du:Int:=v7 f[v5 0]? 0
def kf:Int:=v8 .i64 (c + (1:Int))
def ne:Int:=v8 .i64 (anf (kf c) b (kf c) b * du f)
def gJ:Int:=bif ltI 1 (↑f.length:Int)then v7 f[v5 1]? 0 else(0:Int)
def nf:Int:=bif gJ f==1 then(0:Int)else bif du f==1 then(1:Int)else c
def ng:Int:=bif gJ f==1 then(0:Int)else bif bif du f==1 then d==0 else false then anf (kf c) b (kf c) b else c
def nh:Int:=v8 .i64 (c - (1:Int))
def ni:Int:=bif du f==1 then(0:Int)else(0:Int)
def lM:Bool:= !ltI 1 (↑f.length:Int)
def ge:Int:=bif a==7 then kn (bif du f==1 then ne b c f==b else false)else bif a==8 then bif du f==1 then(1:Int)else kn (ltI 0 c)else bif a==9 then kn (bif du f==1 then c==0 else false)else bif a==10 then nf c f else bif a==11 then kn (ng b c d f==b)else pv b c e (du f) (gJ f)
def jG:Int:=bif a==7 then ne b c f else bif a==8 then bif du f==1 then b else anf 0 (nh c) (nh c) 0 else bif a==9 then du f else bif a==10 then nf c f else bif a==11 then ng b c d f else pw c e (du f) (gJ f)
def jH:Int:=bif a==7 then(0:Int)else bif a==8 then ni f else bif a==9 then(0:Int)else bif a==10 then(0:Int)else bif a==11 then du f else px d e (du f) (gJ f)
def jI:Int:=bif a==7 then(0:Int)else bif a==8 then ni f else bif a==9 then(0:Int)else bif a==10 then(0:Int)else bif a==11 then(0:Int)else py b c e (du f) (gJ f)
def ma:Bool:=allT [ltI 0 (↑f.length:Int),ltN (v5 0) f.length,lM f||leI 0 1,lM f||ltI 1 (↑f.length:Int),lM f||ltN (v5 1) f.length]
end
def ahn:aAj
 | [.one ⟨true,[.val (.int .i64 a),.val (.string _x1),.val (.int .i64 b)]⟩,.one ⟨true,[.val (.int .i64 c),.val (.int .i64 d),.val (.int .i64 e)]⟩,.one ⟨false,[.ref 0]⟩],[.row false 2 (.int .i64) f]=>some ⟨.tup [⟨false,[aAk (ge a b c d e f)]⟩,⟨true,[aAk (jG a b c d e f),aAk (jH a d e f),aAk (jI a b c e f)]⟩],[aAq f],[],[ma f]⟩
 |_,_=>none
def sn:PF prog:=PF.ofG prog [aj3,aqb] [] aU 78 f78 func78 (fun c _=>LOk.nil c) ahn (by
 intro _ _ _ h;unfold ahn at h;split at h<;>cases h;kernel_rfl)
def ang(a:Int):Bool:=bif a !=0 then a !=1 else false
def ad8:aAj
 | [.one ⟨false,[.val (.int .i64 a)]⟩],[]=>some ⟨aAl (.val (.bool (ang a))),[],[],[]⟩
 |_,_=>none
def anx:PF prog:=PF.ofG prog [] [] aU 107 f107 func107 (fun c _=>LOk.nil c) ad8 (by
 intro _ _ _ h;unfold ad8 at h;split at h<;>cases h;kernel_rfl)
def Ff(a:Int):Bool:=bif a !=0 then a !=1 else false
def Vv:aAj
 | [.one ⟨false,[.val (.int .i64 a)]⟩],[]=>some ⟨aAl (.val (.bool (Ff a))),[],[],[]⟩
 |_,_=>none
def VS:PF prog:=PF.ofG prog [] [] aU 107 f107 func107 (fun c _=>LOk.nil c) Vv (by
 intro _ _ _ h;unfold Vv at h;split at h<;>cases h;kernel_rfl)
abbrev bW:=Int×Int×List Int
section
variable (a b:Int)(c:avu)
def jw:Bool:=ltI a b
def jx:Bool:=leI 0 a
def jy:Bool:=ltI a (↑c.length:Int)
def jz:Bool:=ltN a.toNat c.length
def jA:Bool:=Ff (v7 c[v5 a]? 0)
def jB:Int:=v8 .i64 (a + (1:Int))
end
def NF:bW→List (Nat×SV)
 |(a,b,_)=> [(8,(aAm a)),(7,(aAm b)),(1,(aAl (.val (.func (.func 107) ⟨[]⟩ ⟨[]⟩)))),(0,(aAl (.ref 0)))]
def NE:bW→List (Nat×Entry)
 |(_,_,a)=> [(0,(aAq a))]
def NI:Nat→bW→List (Nat×SV)
 |0,(a,_,_)=> [(4,(aAm a))]
 |_,_=>[]
def iM:bW→LT bW
 |(a,b,c)=> .ite (jw a b) (.need [jx a,jy a c,jz a c] (.ite (jA a c) (.ext 0 [(0,0)]) (.nrm ((jB a),b,c) [(0,0)]))) (.ext 1 [(0,0)])
def sr(s:St):Option bW:=do
 let some ⟨none,.one ⟨false,[.val (.int .i64 a)]⟩⟩:=s.look 8|none
 let some ⟨none,.one ⟨false,[.val (.int .i64 b)]⟩⟩:=s.look 7|none
 let some ⟨none,.one ⟨false,[.val (.func (.func 107) ⟨[]⟩ ⟨[]⟩)]⟩⟩:=s.look 1|none
 let some ⟨none,.one ⟨false,[.ref 0]⟩⟩:=s.look 0|none
 let some (.row false 2 (.int .i64) c):=s.ent 0|none
 some (a,b,c)
def ay:Lp bW where
 h:=⟨[9,10,5,11,12,13,14,15,16,17,4,18,8],[0],[],[]⟩
 JL:=NF
 JE:=NE
 XL:=NI
 XE:=fun _=>NE
 q:=fun j=>match j with | 0=> .ret | _=> .exit 0
 tags:= [0,1]
 lt:=iM
 fuel:=fun(a,b,c)=>a.natAbs + b.natAbs + c.length
 fix:=fun(_,b,c) (a,_,_)=>(a,b,c)
 σ:= [(0,0)]
 rd:=sr
theorem Mf:LoopOk prog (fun k=>Nat.blt k Tryz.f135.ntmps) ay.F (bc f135 0):=by
 refine Lp.ok (tbl:= [VS]) (lf:= []) aU ay (by kernel_rfl) (LOk.nil _) (fun _=>rfl) (fun j _=>by unfold ay;match j with | 0=>rfl | _ + 1=>rfl) ?_ ?_ ?_ ?_ (fun _=>rfl) ?_
 ·intro _;kernel_rfl
 ·intro _;kernel_rfl
 ·intro s x h
  have h:sr s=some x:=h
  unfold sr at h
  repeat' split at h
  all_goals cases h
  constructor<;>repeat(first|refine ab ‹_› rfl ?_|refine aa rfl ‹_› rfl ?_|rfl)
 ·intro _;kernel_rfl
 ·intro _ _;exact(And.intro (And.intro trivial rfl) trivial)
section
variable (a:avu)
def po:Int×Int×avu:=((0:Int),(↑a.length:Int),a)
def wa:Int:=bif Nat.beq ((Lp.res ay (po a)).1) 0 then ((Lp.res ay (po a)).2).1else(-1:Int)
def wb:Bool:=allT [Lp.fin ay (po a)]
end
def Ee:aAj
 | [.one ⟨false,[.ref 0]⟩,.one ⟨false,[.val (.func (.func 107) ⟨[]⟩ ⟨[]⟩)]⟩],[.row false 2 (.int .i64) a]=>some ⟨aAm (wa a),[aAq a],[],[wb a]⟩
 |_,_=>none
def vM:PF prog:=PF.ofG prog [VS] [ay.F] aU 135 f135 func135 (LOk.fnT (l:= [bc f135 0]) (by kernel_rfl) (.cons Mf (.nil _))) Ee (by
 intro _ _ _ h;unfold Ee at h;split at h<;>cases h;kernel_rfl)
def tt(a:avu):Bool:=leI 0 (wa a)
def tu(a:avu):Bool:=allT [wb a]
def BF:aAj
 | [.one ⟨false,[.ref 0]⟩,.one ⟨false,[.val (.func (.func 107) ⟨[]⟩ ⟨[]⟩)]⟩],[.row false 2 (.int .i64) a]=>some ⟨aAl (.val (.bool (tt a))),[aAq a],[],[tu a]⟩
 |_,_=>none
def tl:PF prog:=PF.ofG prog (T3z [vM]) [] aU 106 f106 func106 (fun c _=>LOk.nil c) BF (by
 intro _ _ _ h;unfold BF at h;split at h<;>cases h;kernel_rfl)
def aaZ(a:Int)(b:avu):Bool:=bif(↑b.length:Int)==a then !tt b else false
def aa0(a:Int)(b:avu):Bool:=allT [!((↑b.length:Int)==a&&true)||tu b]
def ag7:aAj
 | [.one ⟨false,[.ref 0]⟩,.one ⟨false,[.val (.int .i64 a)]⟩],[.row false 2 (.int .i64) b]=>some ⟨aAl (.val (.bool (aaZ a b))),[aAq b],[],[aa0 a b]⟩
 |_,_=>none
def apZ:PF prog:=PF.ofG prog (T3z [anx,tl]) [] aU 62 f62 func62 (fun c _=>LOk.nil c) ag7 (by
 intro _ _ _ h;unfold ag7 at h;split at h<;>cases h;kernel_rfl)
def nD(a:Bool):Int:=bif a then(1:Int)else(0:Int)
def alU:aAj
 | [.one ⟨false,[.val (.bool a)]⟩],[]=>some ⟨aAm (nD a),[],[],[]⟩
 |_,_=>none
def aan:PF prog:=PF.ofG prog [] [] aU 131 f131 func131 (fun c _=>LOk.nil c) alU (by
 intro _ _ _ h;unfold alU at h;split at h<;>cases h;kernel_rfl)
section
variable (a b c d:Int)(e f:Bool)
def xw:Bool:=bif e then c==0 else false
def xx:Int:=v8 .i64 (b + (1:Int))
def xy:Int:=bif f then(0:Int)else bif xw c e then anf a (xx b) a (xx b)else b
def yX:Int:=nD (xy a b c e f==a)
def yY:Int:=xy a b c e f
def yZ:Int:=nD e
def za:Int:=bif f then d else bif xw c e then d else d
end
def aeb:aAj
 | [.one ⟨false,[.val (.int .i64 a)]⟩,.one ⟨true,[.val (.int .i64 b),.val (.int .i64 c),.val (.int .i64 d)]⟩,.one ⟨false,[.val (.bool e)]⟩,.one ⟨false,[.val (.bool f)]⟩],[]=>some ⟨.tup [⟨false,[aAk (yX a b c e f)]⟩,⟨true,[aAk (yY a b c e f),aAk (yZ e),aAk (za c d e f)]⟩],[],[],[]⟩
 |_,_=>none
def anz:PF prog:=PF.ofG prog [aan] [] aU 154 f154 func154 (fun c _=>LOk.nil c) aeb (by
 intro _ _ _ h;unfold aeb at h;split at h<;>cases h;kernel_rfl)
section
variable (a b c d:Int)(e f:Bool)
def kS:Bool:=bif bif d==1 then !e else false then !f else false
def sH:Bool:=(bif kS d e f then(0:Int)else d)==0
def vE:Bool:=bif sH d e f then !e==f else false
def zb:Int:=v8 .i64 ((bif kS d e f then(0:Int)else b) + (1:Int))
def zc:Int:=bif vE d e f then nD (ltI a (zb b d e f))else bif sH d e f then bif kS d e f then(0:Int)else d else bif kS d e f then(0:Int)else d
def Bk:Int:=nD (bif bif e then f else false then zc a b d e f==0 else false)
def Bl:Int:=bif vE d e f then zb b d e f else bif sH d e f then(0:Int)else bif kS d e f then(0:Int)else b
def Bm:Int:=bif vE d e f then bif kS d e f then c else c else bif sH d e f then bif kS d e f then c else c else bif kS d e f then c else c
def Bn:Int:=zc a b d e f
end
def afT:aAj
 | [.one ⟨false,[.val (.int .i64 a)]⟩,.one ⟨true,[.val (.int .i64 b),.val (.int .i64 c),.val (.int .i64 d)]⟩,.one ⟨false,[.val (.bool e)]⟩,.one ⟨false,[.val (.bool f)]⟩],[]=>some ⟨.tup [⟨false,[aAk (Bk a b d e f)]⟩,⟨true,[aAk (Bl b d e f),aAk (Bm c d e f),aAk (Bn a b d e f)]⟩],[],[],[]⟩
 |_,_=>none
def aoE:PF prog:=PF.ofG prog [aan] [] aU 155 f155 func155 (fun c _=>LOk.nil c) afT (by
 intro _ _ _ h;unfold afT at h;split at h<;>cases h;kernel_rfl)
section
variable (a b c d e:Int)(f:avu)
def gf:Bool:=v7 f[v5 0]? 0==1
def HY:Int:=v8 .i64 (c + (1:Int))
def HZ:Int:=v8 .i64 (nD (gf f) * anf b (HY c) b (HY c))
def Da:Int:=v8 .i64 ((↑f.length:Int) - (1:Int))
def qG:Bool:=v7 f[v5 (Da f)]? 0==1
def Ia:Int:=bif qG f then(0:Int)else bif gf f then(1:Int)else c
def Ib:Int:=v8 .i64 (c - (1:Int))
def HW:Int:=bif a==7 then nD (bif gf f then HZ b c f==b else false)else bif a==8 then bif gf f then(1:Int)else nD (ltI 0 c)else bif a==9 then nD (bif gf f then c==0 else false)else bif a==10 then Ia c f else bif a==11 then yX b c d (gf f) (qG f)else Bk b c e (gf f) (qG f)
def Fy:Int:=bif a==7 then HZ b c f else bif a==8 then bif gf f then b else anf (Ib c) 0 0 (Ib c)else bif a==9 then nD (gf f)else bif a==10 then Ia c f else bif a==11 then yY b c d (gf f) (qG f)else Bl c e (gf f) (qG f)
def Fz:Int:=bif a==7 then d else bif a==8 then bif gf f then d else d else bif a==9 then d else bif a==10 then bif qG f then d else bif gf f then d else d else bif a==11 then yZ (gf f)else Bm d e (gf f) (qG f)
def FA:Int:=bif a==7 then e else bif a==8 then bif gf f then e else e else bif a==9 then e else bif a==10 then bif qG f then e else bif gf f then e else e else bif a==11 then za d e (gf f) (qG f)else Bn b c e (gf f) (qG f)
def HX:Bool:=allT [ltI 0 (↑f.length:Int),ltN (v5 0) f.length,leI 0 (Da f),ltI (Da f) (↑f.length:Int),ltN (v5 (Da f)) f.length]
end
def anU:aAj
 | [.one ⟨true,[.val (.int .i64 a),.val (.string _x1),.val (.int .i64 b)]⟩,.one ⟨true,[.val (.int .i64 c),.val (.int .i64 d),.val (.int .i64 e)]⟩,.one ⟨false,[.ref 0]⟩],[.row false 2 (.int .i64) f]=>some ⟨.tup [⟨false,[aAk (HW a b c d e f)]⟩,⟨true,[aAk (Fy a b c d e f),aAk (Fz a d e f),aAk (FA a b c d e f)]⟩],[aAq f],[],[HX f]⟩
 |_,_=>none
def aiq:PF prog:=PF.ofG prog [aan,anz,aoE] [] aU 149 f149 func149 (fun c _=>LOk.nil c) anU (by
 intro _ _ _ h;unfold anU at h;split at h<;>cases h;kernel_rfl)
def bitsB(n:Int)(l:avu):Bool:=l.all (fun v=>inR v 0 1)&&((l.length:Int)==n)
def takesK(k:Int):Int:=fC k
theorem dF{n:Int}{l:avu}:bitsB n l=true↔(∀ v∈l,v=0∨v=1)∧(l.length:Int)=n:=by
 simp only [bitsB,q9,List.all_eq_true,pR,beq_iff_eq]
 constructor
 ·rintro⟨h1,h2⟩;exact⟨fun v hv=>by have:=h1 v hv;omega,h2⟩
 ·rintro⟨h1,h2⟩;exact⟨fun v hv=>by have:=h1 v hv;omega,h2⟩
def Ef(b:Int):(Unit)→Nat ⊕ (Unit)
 |_=>(bif(!ak b 0 1)then(.inl 0)else(.inr ()))
def yR(a:avu)(i:Nat):(Unit)→qW
 |_=>((i:Int),a)
def Um:qW→Unit
 |(_,_)=>()
theorem amT(c:avu) (hn:c.length≤9223372036854775807):
  iv.fin ((0:Int),c)=true∧iv.res ((0:Int),c)=((bz (Ef) 1 c 0 ()).1,(yR c) (bz (Ef) 1 c 0 ()).2.1 (bz (Ef) 1 c 0 ()).2.2):=by
 have oe:=iv.along (yR c) Um (Ef) 1 (fun _ _=>True) c () (by trivial) (by simp only [iv,yR];omega) (fun i b a hb hI=> ?_) (fun a hI=> ?_)
 ·exact oe
 ·obtain⟨⟩:=a
  have hlt:=(k9.1 hb).1
  have nk: ∀ d,v7 c[i]? d=b:=fun d=>by rw [hb];rfl
  have hw:=Bv hlt hn
  have gr:ltI (i:Int) (c.length:Int)=true:=dL (by omega)
  have LW:leI (0:Int) (i:Int)=true:=bx (by omega)
  have sd:ltN i c.length=true:=er hlt
  refine⟨?_,?_,?_,?_⟩
  ·simp [Er,IM,IP,IQ,IU,Gu,iv,LT.nds,allT,yR,gr,LW,sd,nk]
  ·simp [Er,IM,IP,IQ,IU,Gu,iv,LT.each,yR,Um,hw]
  ·simp only [Er,IM,IP,IQ,IU,Gu,iv,LT.fn,yR,Um,Ef,w5,gr,LW,sd,nk,cond_true,k8]
  ·exact fun _ _=>trivial
 ·obtain⟨⟩:=a
  simp [Er,IM,IP,IQ,IU,Gu,iv,LT.out,yR]
def fS(b:Int):(Unit)→Nat ⊕ (Unit)
 |_=>(bif(Ff b)then(.inl 0)else(.inr ()))
def dv(a:avu)(i:Nat):(Unit)→bW
 |_=>((i:Int),(↑a.length:Int),a)
def sq:bW→Unit
 |(_,_,_)=>()
theorem PQ(c:avu) (hn:c.length≤9223372036854775807):
  ay.fin ((0:Int),(↑c.length:Int),c)=true∧ay.res ((0:Int),(↑c.length:Int),c)=((bz (fS) 1 c 0 ()).1,(dv c) (bz (fS) 1 c 0 ()).2.1 (bz (fS) 1 c 0 ()).2.2):=by
 have oe:=ay.along (dv c) sq (fS) 1 (fun _ _=>True) c () (by trivial) (by simp only [ay,dv];omega) (fun i b a hb hI=> ?_) (fun a hI=> ?_)
 ·exact oe
 ·obtain⟨⟩:=a
  have hlt:=(k9.1 hb).1
  have nk: ∀ d,v7 c[i]? d=b:=fun d=>by rw [hb];rfl
  have hw:=Bv hlt hn
  have gr:ltI (i:Int) (c.length:Int)=true:=dL (by omega)
  have LW:leI (0:Int) (i:Int)=true:=bx (by omega)
  have sd:ltN i c.length=true:=er hlt
  refine⟨?_,?_,?_,?_⟩
  ·simp [jw,jx,jy,jz,jA,jB,iM,ay,LT.nds,allT,dv,gr,LW,sd,nk]
  ·simp [jw,jx,jy,jz,jA,jB,iM,ay,LT.each,dv,sq,hw]
  ·simp only [jw,jx,jy,jz,jA,jB,iM,ay,LT.fn,dv,sq,fS,w5,gr,LW,sd,nk,cond_true,k8]
  ·exact fun _ _=>trivial
 ·obtain⟨⟩:=a
  simp [jw,jx,jy,jz,jA,jB,iM,ay,LT.out,dv]
theorem atM(n:Int)(l:avu)(h:leN l.length 9223372036854775807=true):aca n l=bitsB n l∧acb l=true:=by
 obtain⟨w1,w2⟩:=amT l (eN.1 h)
 rw [lA (P:=fun v=> !inR v 0 1) (j:=0) (fun v=>by simp only [Ef,ak,MM])]at w2
 have e5:(l.any fun v=> !inR v 0 1)= !l.all fun v=>inR v 0 1:=by simp [List.all_eq_not_any_not]
 rw [e5]at w2
 simp only [aca,acb,w1,w2,allT,bitsB]
 cases (l.all fun v=>inR v 0 1) <;> simp [Nat.beq]
theorem ayX(v:Int):(bif v !=0 then v !=1 else false)= !inR v 0 1:=by
 have:inR v 0 1=(v==0||v==1):=by rw [Bool.eq_iff_iff,pR];simp;omega
 rw [this]
 cases h0:v==0 <;> simp [bne,h0]
theorem atd(n:Int)(l:avu)(h:leN l.length 9223372036854775807=true):aaZ n l=bitsB n l∧aa0 n l=true:=by
 obtain⟨w1,w2⟩:=PQ l (eN.1 h)
 rw [lA (P:=fun v=> !inR v 0 1) (j:=0) (fun v=>by simp only [fS,Ff,ayX])]at w2
 have e5:(l.any fun v=> !inR v 0 1)= !l.all fun v=>inR v 0 1:=by simp [List.all_eq_not_any_not]
 rw [e5]at w2
 have q: ∀ m:Nat,leI 0 (m:Int)=true:=fun m=>bx (by omega)
 have q2:leI 0 (-1)=false:=rfl
 simp only [aaZ,aa0,tt,tu,wa,wb,po,w1,w2,allT,bitsB,dv]
 cases (l.all fun v=>inR v 0 1) <;> cases ((l.length:Int)==n) <;> simp [Nat.beq,q,q2]
theorem aiN(p q:Int):anf p q p q=min p q:=by rw [avA];cases h:ltI p q <;> simp <;> simp at h <;> omega
theorem aiM(p q:Int):anf p q q p=max p q:=by rw [avA];cases h:ltI p q <;> simp <;> simp at h <;> omega
theorem aeq{l:avu}(h:bitsB 1 l=true): ∃ x,l= [x]∧(x=0∨x=1):=by
 obtain⟨h1,h2⟩:=dF.1 h
 match l,h1,h2 with
 | [x],h1,_=>exact⟨x,rfl,h1 x (by simp)⟩
 | [],_,h2=>simp at h2
 |_::_::_,_,h2=>simp at h2;omega
theorem aer{l:avu}(h:bitsB 2 l=true): ∃ x y,l= [x,y]∧(x=0∨x=1)∧(y=0∨y=1):=by
 obtain⟨h1,h2⟩:=dF.1 h
 match l,h1,h2 with
 | [x,y],h1,_=>exact⟨x,y,rfl,h1 x (by simp),h1 y (by simp)⟩
 | [],_,h2=>simp at h2
 | [_],_,h2=>simp at h2
 |_::_::_::_,_,h2=>simp at h2;omega
theorem asC{k n a b c:Int}{s:aAi}{l:avu}(hB:KE k s n=true)(hP:possB k n a b c=true)(hA:bitsB (takesK k) l=true):
  HW k n a b c l=ge k n a b c l∧Fy k n a b c l=jG k n a b c l∧
  Fz k b c l=jH k b c l∧FA k n a b c l=jI k n a c l∧HX l=true∧ma l=true∧
  possB k n (jG k n a b c l) (jH k b c l) (jI k n a c l)=true:=by
 obtain⟨hk,hn,_⟩:=afr hB
 have hw:IntKind.i64.wrap (n + 1)=n + 1:=wrap_i64 (by omega) (by omega)
 have hwa:=(aiy hP hn).1
 have hwa1:IntKind.i64.wrap (a + 1)=a + 1:=wrap_i64 (by omega) (by omega)
 have hwa2:IntKind.i64.wrap (a - 1)=a - 1:=wrap_i64 (by omega) (by omega)
 have hm:IntKind.i64.wrap (min (a + 1) n)=min (a + 1) n:=wrap_i64 (by omega) (by omega)
 have hm2:IntKind.i64.wrap (min n (a + 1))=min n (a + 1):=wrap_i64 (by omega) (by omega)
 have h01:IntKind.i64.wrap (0 + 1)=1:=rfl
 have n0:IntKind.i64.wrap 0=0:=rfl
 have w1:IntKind.i64.wrap 1=1:=rfl
 have l12:ltI 1 2=true:=rfl
 have hb:=(aiy hP hn).2.1
 have hc:=(aiy hP hn).2.2
 rcases kinds hk with rfl | rfl | rfl | rfl | rfl | rfl
 ·obtain⟨x,rfl,hx⟩:=aeq hA
  have hp:=hP
  simp [possB,dK,ak]at hp
  rcases hx with rfl | rfl <;> simp only [gf,HY,HZ,Da,qG,Ia,Ib,HW,Fy,Fz,FA,HX,xw,xx,xy,yX,yY,yZ,za,kS,sH,vE,zb,zc,Bk,Bl,Bm,Bn,nD,du,kf,ne,gJ,nf,ng,nh,ni,lM,ge,jG,jH,jI,ma,jf,ke,lL,nb,nc,pv,pw,px,py,kn,possB,dK,ak,allT,aiN,aiM] <;> simp [hw,hwa1,hwa2,hm,hm2,h01,n0,w1,l12,hp,Bool.cond_eq_ite] <;> (repeat' split) <;> omega
 ·obtain⟨x,rfl,hx⟩:=aeq hA
  have hp:=hP
  simp [possB,dK,ak]at hp
  rcases hx with rfl | rfl <;> simp only [gf,HY,HZ,Da,qG,Ia,Ib,HW,Fy,Fz,FA,HX,xw,xx,xy,yX,yY,yZ,za,kS,sH,vE,zb,zc,Bk,Bl,Bm,Bn,nD,du,kf,ne,gJ,nf,ng,nh,ni,lM,ge,jG,jH,jI,ma,jf,ke,lL,nb,nc,pv,pw,px,py,kn,possB,dK,ak,allT,aiN,aiM] <;> simp [hw,hwa1,hwa2,hm,hm2,h01,n0,w1,l12,hp,Bool.cond_eq_ite] <;> (repeat' split) <;> omega
 ·obtain⟨x,rfl,hx⟩:=aeq hA
  have hp:=hP
  simp [possB,dK,ak]at hp
  rcases hx with rfl | rfl <;> simp only [gf,HY,HZ,Da,qG,Ia,Ib,HW,Fy,Fz,FA,HX,xw,xx,xy,yX,yY,yZ,za,kS,sH,vE,zb,zc,Bk,Bl,Bm,Bn,nD,du,kf,ne,gJ,nf,ng,nh,ni,lM,ge,jG,jH,jI,ma,jf,ke,lL,nb,nc,pv,pw,px,py,kn,possB,dK,ak,allT,aiN,aiM] <;> simp [hw,hwa1,hwa2,hm,hm2,h01,n0,w1,l12,hp,Bool.cond_eq_ite] <;> (repeat' split) <;> omega
 ·obtain⟨x,y,rfl,hx,hy⟩:=aer hA
  have hp:=hP
  simp [possB,dK,ak]at hp
  rcases hx with rfl | rfl <;> rcases hy with rfl | rfl <;> simp only [gf,HY,HZ,Da,qG,Ia,Ib,HW,Fy,Fz,FA,HX,xw,xx,xy,yX,yY,yZ,za,kS,sH,vE,zb,zc,Bk,Bl,Bm,Bn,nD,du,kf,ne,gJ,nf,ng,nh,ni,lM,ge,jG,jH,jI,ma,jf,ke,lL,nb,nc,pv,pw,px,py,kn,possB,dK,ak,allT,aiN,aiM] <;> simp [hw,hwa1,hwa2,hm,hm2,h01,n0,w1,l12,hp,Bool.cond_eq_ite] <;> (repeat' split) <;> omega
 ·obtain⟨x,y,rfl,hx,hy⟩:=aer hA
  have hp:=hP
  rcases hb with rfl | rfl <;> rcases hc with rfl | rfl <;> rcases hx with rfl | rfl <;> rcases hy with rfl | rfl <;> simp [possB,dK,ak,hw]at hp <;> simp only [gf,HY,HZ,Da,qG,Ia,Ib,HW,Fy,Fz,FA,HX,xw,xx,xy,yX,yY,yZ,za,kS,sH,vE,zb,zc,Bk,Bl,Bm,Bn,nD,du,kf,ne,gJ,nf,ng,nh,ni,lM,ge,jG,jH,jI,ma,jf,ke,lL,nb,nc,pv,pw,px,py,kn,possB,dK,ak,allT,aiN,aiM] <;> simp [hw,hwa1,hwa2,hm,hm2,h01,n0,w1,l12,hp,Bool.cond_eq_ite] <;> (repeat' split) <;> omega
 ·obtain⟨x,y,rfl,hx,hy⟩:=aer hA
  have hp:=hP
  rcases hb with rfl | rfl <;> rcases hc with rfl | rfl <;> rcases hx with rfl | rfl <;> rcases hy with rfl | rfl <;> simp [possB,dK,ak,hw]at hp <;> simp only [gf,HY,HZ,Da,qG,Ia,Ib,HW,Fy,Fz,FA,HX,xw,xx,xy,yX,yY,yZ,za,kS,sH,vE,zb,zc,Bk,Bl,Bm,Bn,nD,du,kf,ne,gJ,nf,ng,nh,ni,lM,ge,jG,jH,jI,ma,jf,ke,lL,nb,nc,pv,pw,px,py,kn,possB,dK,ak,allT,aiN,aiM] <;> simp [hw,hwa1,hwa2,hm,hm2,h01,n0,w1,l12,hp,Bool.cond_eq_ite] <;> (repeat' split) <;> omega
def ahN:aAj
 | [.one ⟨false,[.ref 0]⟩,.one ⟨false,[.val (.int .i64 a)]⟩],[.row false 2 (.int .i64) b]=>some ⟨aAl (.val (.bool (bitsB a b))),[aAq b],[],[leN b.length 9223372036854775807]⟩
 |_,_=>none
def ju:PF prog:=PF.alt aqc ahN (by
 intro args es o h cL;unfold ahN at h;split at h
 ·rename_i a b
  cases h
  have cL:=kO cL
  have hh:=atM a b cL
  obtain⟨e0,en⟩:=hh
  exact qm rfl (jv en) (by simp only [e0] <;> rfl) rfl rfl
 ·cases h)
def ahC:aAj
 | [.one ⟨false,[.ref 0]⟩,.one ⟨false,[.val (.int .i64 a)]⟩],[.row false 2 (.int .i64) b]=>some ⟨aAl (.val (.bool (bitsB a b))),[aAq b],[],[leN b.length 9223372036854775807]⟩
 |_,_=>none
def Ap:PF prog:=PF.alt apZ ahC (by
 intro args es o h cL;unfold ahC at h;split at h
 ·rename_i a b
  cases h
  have cL:=kO cL
  have hh:=atd a b cL
  obtain⟨e0,en⟩:=hh
  exact qm rfl (jv en) (by simp only [e0] <;> rfl) rfl rfl
 ·cases h)
def ayI(m:Nat)(rs:at1):Bool:=leN rs.length m&&rs.all fun x=>leN x.length m
theorem axM{m:Nat}{rs:at1}:ayI m rs=true↔rs.length≤m∧ ∀ x∈rs,x.length≤m:=by
 simp only [ayI,q9,eN,List.all_eq_true]
section
variable (a b c d e:Int)(f:aoQ)
def oY:Bool:=bif d==1 then d==1 else bif d==2 then d==2 else d==3
def oZ:Bool:=bif d==5 then d==5 else d==6
def wF:Bool:=bif d==8 then d==8 else d==9
def NU:Int:=bif oY d then(0:Int)else bif d==4 then(1:Int)else bif oZ d then(2:Int)else bif d==7 then fC ((v7 f[v5 e]? ((0:Int),ByteArray.empty,(0:Int))).1)else bif wF d then(1:Int)else(0:Int)
def TU:Int:=bif oY d then(1:Int)else bif d==4 then(1:Int)else bif oZ d then(1:Int)else bif d==7 then(1:Int)else bif wF d then(0:Int)else(0:Int)
def ZQ:Bool:=allT [oY d||(d==4||(oZ d||(!d==7||leI 0 e))),oY d||(d==4||(oZ d||(!d==7||ltI e (↑f.length:Int)))),oY d||(d==4||(oZ d||(!d==7||ltN e.toNat f.length)))]
def WW:Bool:=bif d==1 then ak e 0 1 else bif bif d==2 then d==2 else d==10 then ak e 0 (v8 .i64 (a - (1:Int)))else bif bif d==3 then d==3 else bif d==8 then d==8 else d==11 then ak e 0 (v8 .i64 (b - (1:Int)))else bif bif d==4 then d==4 else bif d==5 then d==5 else d==6 then e==0 else bif d==7 then ak e 0 (v8 .i64 ((↑f.length:Int) - (1:Int)))else bif d==9 then ak e 0 (v8 .i64 (c - (1:Int)))else false
end
def Wi(a b c:Int)(d:aoQ)(e:auv):Bool:=bif bif bif bif !ak a 0 20 then true else !ak b 0 20 then true else !ak c 0 20 then true else ltI 2000 (↑d.length:Int)then true else ltI 2000 (↑e.length:Int)
def aos(a:Int)(b:aAi)(c:Int):Bool:= !KE a b c
def afP:aAj
 | [.one ⟨true,[.val (.int .i64 a),.val (.string b),.val (.int .i64 c)]⟩],[]=>some ⟨aAl (.val (.bool (aos a b c))),[],[],[]⟩
 |_,_=>none
def aoA:PF prog:=PF.ofG prog [aik] [] aU 34 f34 func34 (fun c _=>LOk.nil c) afP (by
 intro _ _ _ h;unfold afP at h;split at h<;>cases h;kernel_rfl)
def vC(a:Int):Int:=bif bif a==1 then a==1 else bif a==2 then a==2 else a==3 then(0:Int)else bif bif a==4 then a==4 else bif a==7 then a==7 else bif a==8 then a==8 else a==9 then(1:Int)else(2:Int)
def ad9:aAj
 | [.one ⟨false,[.val (.int .i64 a)]⟩],[]=>some ⟨aAm (vC a),[],[],[]⟩
 |_,_=>none
def XO:PF prog:=PF.ofG prog [] [] aU 117 f117 func117 (fun c _=>LOk.nil c) ad9 (by
 intro _ _ _ h;unfold ad9 at h;split at h<;>cases h;kernel_rfl)
section
variable (a b:Int)(c:aoQ)
def jT:Bool:=bif a==1 then a==1 else bif a==2 then a==2 else a==3
def jU:Bool:=bif a==5 then a==5 else a==6
def CY:Bool:=bif a==8 then a==8 else a==9
def bf:Int:=bif jT a then(0:Int)else bif a==4 then(1:Int)else bif jU a then(2:Int)else bif a==7 then vC ((v7 c[v5 b]? ((0:Int),ByteArray.empty,(0:Int))).1)else bif CY a then(1:Int)else(0:Int)
def cp:Int:=bif jT a then(1:Int)else bif a==4 then(1:Int)else bif jU a then(1:Int)else bif a==7 then(1:Int)else bif CY a then(0:Int)else(0:Int)
def kA:Bool:=allT [jT a||(a==4||(jU a||(!a==7||leI 0 b))),jT a||(a==4||(jU a||(!a==7||ltI b (↑c.length:Int)))),jT a||(a==4||(jU a||(!a==7||ltN b.toNat c.length)))]
end
def Dh:aAj
 | [.one ⟨true,[.val (.int .i64 _x0),.val (.int .i64 _x1),.val (.int .i64 _x2),.ref 0,.ref 1]⟩,.one ⟨true,[.val (.int .i64 a),.val (.int .i64 b)]⟩],[.row false 66 (.pair (.int .i64) (.pair (.str) (.int .i64))) c,.row false 60 (.pair (.int .i64) (.int .i64)) d]=>some ⟨.tup [⟨false,[aAk (bf a b c)]⟩,⟨false,[aAk (cp a)]⟩],[aAp c,aAx d],[],[kA a b c]⟩
 |_,_=>none
def dS:PF prog:=PF.ofG prog [XO] [] aU 70 f70 func70 (fun c _=>LOk.nil c) Dh (by
 intro _ _ _ h;unfold Dh at h;split at h<;>cases h;kernel_rfl)
def KS(a:aoQ):Int:=(↑a.length:Int)
def US:aAj
 | [.one ⟨false,[.ref 0]⟩],[.row false 66 (.pair (.int .i64) (.pair (.str) (.int .i64))) a]=>some ⟨aAm (KS a),[aAp a],[],[]⟩
 |_,_=>none
def La:PF prog:=PF.ofG prog [] [] aU 116 f116 func116 (fun c _=>LOk.nil c) US (by
 intro _ _ _ h;unfold US at h;split at h<;>cases h;kernel_rfl)
def iG(a b c d:Int)(e:aoQ):Int:=bif d==1 then(2:Int)else bif bif d==2 then d==2 else d==10 then a else bif bif d==3 then d==3 else bif d==8 then d==8 else d==11 then b else bif bif d==4 then d==4 else bif d==5 then d==5 else d==6 then(1:Int)else bif d==7 then KS e else bif d==9 then c else(0:Int)
def Ez:aAj
 | [.one ⟨true,[.val (.int .i64 a),.val (.int .i64 b),.val (.int .i64 c),.ref 0,.ref 1]⟩,.one ⟨false,[.val (.int .i64 d)]⟩],[.row false 66 (.pair (.int .i64) (.pair (.str) (.int .i64))) e,.row false 60 (.pair (.int .i64) (.int .i64)) f]=>some ⟨aAm (iG a b c d e),[aAp e,aAx f],[],[]⟩
 |_,_=>none
def iH:PF prog:=PF.ofG prog (T3z [La]) [] aU 69 f69 func69 (fun c _=>LOk.nil c) Ez (by
 intro _ _ _ h;unfold Ez at h;split at h<;>cases h;kernel_rfl)
abbrev bI:=Int×Int×Int×List (Int×Int)×Int×Int×Int×List Int×List (Int×(aAi×Int))
section
variable (a b c:Int)(d:auv)(e f g:Int)(i:avu)(j:aor)
def aA:Int×Int:=v7 d[v5 a]? ((0:Int),(0:Int))
def gL:Int:=bf ((aA a d).1) ((aA a d).2) j
def cS:Int:=v8 .i64 (c + v8 .i64 (cp ((aA a d).1) - gL a d j))
def ig:Bool:=ltI a b
def me:Bool:=leI 0 a
def mf:Bool:=ltI a (↑d.length:Int)
def mg:Bool:=ltN a.toNat d.length
def ii:Bool:=bif ltI ((aA a d).2) 0 then true else leI (iG e f g ((aA a d).1) j) ((aA a d).2)
def mh:Bool:=kA ((aA a d).1) ((aA a d).2) j
def mi:Bool:=ltI c (gL a d j)
def mj:Bool:=ltI 40 (cS a c d j)
def ml:Bool:=leN (v6 i + v6 [cS a c d j]) 9223372036854775807
def mm:Bool:=leN ((v6 i + v6 [cS a c d j]) * 8) 140737488355328
def lQ:Int:=v8 .i64 (a + (1:Int))
def lR:Int:=cS a c d j
def lS:avu:=i++ [cS a c d j]
end
def LZ:bI→List (Nat×SV)
 |(a,b,c,_,_,_,_,_,_)=> [(13,(aAm a)),(12,(aAm b)),(11,(aAl (.ref 0))),(1,(aAl (.ptr 1 0))),(5,(aAm c)),(4,(aAl (.ref 2)))]
def LX:bI→List (Nat×Entry)
 |(_,_,_,a,b,c,d,e,f)=> [(0,(aAx a)),(1,(.box 39 [aAk b,aAk c,aAk d,.ref 3,.ref 0])),(3,(aAp f)),(2,(aAo e))]
def Md:Nat→bI→List (Nat×SV)
 |0,(_,_,_,_,_,_,_,_,_)=> [(2,(aAl (.ref 4))),(3,(aAl (.val (.bool false))))]
 |1,(_,_,_,_,_,_,_,_,_)=> [(2,(aAl (.ref 4))),(3,(aAl (.val (.bool false))))]
 |2,(_,_,_,_,_,_,_,_,_)=> [(2,(aAl (.ref 4))),(3,(aAl (.val (.bool false))))]
 |_,(_,_,a,_,_,_,_,_,_)=> [(5,(aAm a)),(4,(aAl (.ref 2)))]
def Mb:Nat→bI→List (Nat×Entry)
 |0,(_,_,_,a,b,c,d,e,f)=> [(0,(aAx a)),(1,(.box 39 [aAk b,aAk c,aAk d,.ref 3,.ref 0])),(2,(aAo e)),(3,(aAp f)),(4,(aAo []))]
 |1,(_,_,_,a,b,c,d,e,f)=> [(0,(aAx a)),(1,(.box 39 [aAk b,aAk c,aAk d,.ref 3,.ref 0])),(2,(aAo e)),(3,(aAp f)),(4,(aAo []))]
 |2,(_,_,_,a,b,c,d,e,f)=> [(0,(aAx a)),(1,(.box 39 [aAk b,aAk c,aAk d,.ref 3,.ref 0])),(2,(aAo e)),(3,(aAp f)),(4,(aAo []))]
 |_,(_,_,_,a,b,c,d,e,f)=> [(0,(aAx a)),(1,(.box 39 [aAk b,aAk c,aAk d,.ref 3,.ref 0])),(2,(aAo e)),(3,(aAp f))]
def gV:bI→LT bI
 |(a,b,c,d,e,f,g,i,j)=> .ite (ig a b) (.need [me a,mf a d,mg a d] (.ite (ii a d e f g j) (.ext 0 [(0,0),(1,1),(2,2),(3,3),(4,1152)]) (.need [mh a d j] (.ite (mi a c d j) (.ext 1 [(0,0),(1,1),(2,2),(3,3),(4,1856)]) (.ite (mj a c d j) (.ext 2 [(0,0),(1,1),(2,2),(3,3),(4,2368)]) (.need [ml a c d i j,mm a c d i j] (.nrm ((lQ a),b,lR a c d j,d,e,f,g,lS a c d i j,j) [(0,0),(1,1),(2,2560),(3,3)]))))))) (.ext 3 [(0,0),(1,1),(2,2),(3,3)])
def rq(s:St):Option bI:=do
 let some ⟨none,.one ⟨false,[.val (.int .i64 a)]⟩⟩:=s.look 13|none
 let some ⟨none,.one ⟨false,[.val (.int .i64 b)]⟩⟩:=s.look 12|none
 let some ⟨none,.one ⟨false,[.ref 1]⟩⟩:=s.look 11|none
 let some ⟨none,.one ⟨false,[.ptr 192 0]⟩⟩:=s.look 1|none
 let some ⟨none,.one ⟨false,[.val (.int .i64 c)]⟩⟩:=s.look 5|none
 let some ⟨none,.one ⟨false,[.ref 384]⟩⟩:=s.look 4|none
 let some (.row false 60 (.pair (.int .i64) (.int .i64)) d):=s.ent 1|none
 let some (.box 39 [.val (.int .i64 e),.val (.int .i64 f),.val (.int .i64 g),.ref 0,.ref 1]):=s.ent 192|none
 let some (.row false 66 (.pair (.int .i64) (.pair .str (.int .i64))) j):=s.ent 0|none
 let some (.row true 2 (.int .i64) i):=s.ent 384|none
 some (a,b,c,d,e,f,g,i,j)
def ah:Lp bI where
 h:=⟨[14,15,16,7,17,18,19,20,21,22,23,24,25,26,27,28,2,3,30,31,32,29,33,34,8,9,35,36,37,38,39,40,41,42,5,43,44,45,46,47,48,4,49,13],[0,1,3],[2],[4]⟩
 JL:=LZ
 JE:=LX
 XL:=Md
 XE:=Mb
 q:=fun j=>match j with | 0=> .ret | 1=> .ret | 2=> .ret | _=> .exit 0
 tags:= [0,1,2,3]
 lt:=gV
 fuel:=fun(a,b,c,d,e,f,g,i,k)=>a.natAbs + b.natAbs + c.natAbs + d.length + e.natAbs + f.natAbs + g.natAbs + i.length + k.length
 fix:=fun(_,b,_,d,e,f,g,_,k) (a,_,c,_,_,_,_,i,_)=>(a,b,c,d,e,f,g,i,k)
 σ:= [(0,1),(1,192),(3,0),(2,384)]
 rd:=rq
theorem JP:LoopOk prog (fun k=>Nat.blt k Tryz.f36.ntmps) ah.F (bc f36 0):=by
 refine Lp.ok (tbl:= (T3z [dS,iH])) (lf:= []) aU ah (by kernel_rfl) (LOk.nil _) (fun _=>rfl) (fun j _=>by unfold ah;match j with | 0=>rfl | 1=>rfl | 2=>rfl | _ + 3=>rfl) ?_ ?_ ?_ ?_ (fun _=>rfl) ?_
 ·intro _;kernel_rfl
 ·intro _;kernel_rfl
 ·intro s x h
  have h:rq s=some x:=h
  unfold rq at h
  repeat' split at h
  all_goals cases h
  constructor<;>repeat(first|refine ab ‹_› rfl ?_|refine aa rfl ‹_› rfl ?_|rfl)
 ·intro _;kernel_rfl
 ·intro _ _;exact(And.intro (And.intro trivial (And.intro trivial (And.intro trivial rfl))) trivial)
section
variable (a b c:Int)(d:aoQ)(e:auv)
def fT:Int×Int×Int×auv×Int×Int×Int×avu×aoQ:=((0:Int),(↑e.length:Int),(0:Int),e,a,b,c,[],d)
def sS:Bool:=Nat.beq ((Lp.res ah (fT a b c d e)).1) 0
def sU:Bool:=Nat.beq ((Lp.res ah (fT a b c d e)).1) 1
def sV:Bool:=Nat.beq ((Lp.res ah (fT a b c d e)).1) 2
def sW:Int×auv×Int×Int×Int×avu×aoQ:=(Lp.res ah (fT a b c d e)).2.2.2
def oD:Bool:=bif sS a b c d e then false else bif sU a b c d e then false else bif sV a b c d e then false else (sW a b c d e).1==0
def tW:avu:=bif sS a b c d e then []else bif sU a b c d e then []else bif sV a b c d e then []else ((sW a b c d e).2.2.2.2.2).1
def oE:Bool:=allT [Lp.fin ah (fT a b c d e)]
end
def CT:aAj
 | [.one ⟨true,[.val (.int .i64 a),.val (.int .i64 b),.val (.int .i64 c),.ref 0,.ref 1]⟩],[.row false 66 (.pair (.int .i64) (.pair (.str) (.int .i64))) d,.row false 60 (.pair (.int .i64) (.int .i64)) e]=>some ⟨.tup [⟨false,[.ref 2]⟩,⟨false,[.val (.bool (oD a b c d e))]⟩],[aAp d,aAx e],[aAo (tW a b c d e)],[oE a b c d e]⟩
 |_,_=>none
def tZ:PF prog:=PF.ofG prog (T3z [dS,iH]) [ah.F] aU 36 f36 func36 (LOk.fnT (l:= [bc f36 0]) (by kernel_rfl) (.cons JP (.nil _))) CT (by
 intro _ _ _ h;unfold CT at h;split at h<;>cases h;kernel_rfl)
def Ou(a:Int)(b:aAi)(c:Int):Bool:= !KE a b c
def Xg:aAj
 | [.one ⟨true,[.val (.int .i64 a),.val (.string b),.val (.int .i64 c)]⟩],[]=>some ⟨aAl (.val (.bool (Ou a b c))),[],[],[]⟩
 |_,_=>none
def Xm:PF prog:=PF.ofG prog [aik] [] aU 34 f34 func34 (fun c _=>LOk.nil c) Xg (by
 intro _ _ _ h;unfold Xg at h;split at h<;>cases h;kernel_rfl)
abbrev cC:=Int×Int×List (Int×(aAi×Int))
section
variable (a b:Int)(c:aor)
def eR:Int×aAi×Int:=v7 c[v5 a]? ((0:Int),ByteArray.empty,(0:Int))
def lj:Bool:=ltI a b
def lk:Bool:=leI 0 a
def lm:Bool:=ltI a (↑c.length:Int)
def ln:Bool:=ltN a.toNat c.length
def lp:Bool:=Ou ((eR a c).1) (((eR a c).2).1) ((eR a c).2.2)
def lq:Int:=v8 .i64 (a + (1:Int))
end
def Qy:cC→List (Nat×SV)
 |(a,b,_)=> [(8,(aAm a)),(7,(aAm b)),(1,(aAl (.val (.func (.func 34) ⟨[]⟩ ⟨[]⟩)))),(0,(aAl (.ref 0)))]
def Qs:cC→List (Nat×Entry)
 |(_,_,a)=> [(0,(aAp a))]
def QL:Nat→cC→List (Nat×SV)
 |0,(a,_,_)=> [(4,(aAm a))]
 |_,_=>[]
def kF:cC→LT cC
 |(a,b,c)=> .ite (lj a b) (.need [lk a,lm a c,ln a c] (.ite (lp a c) (.ext 0 [(0,0)]) (.nrm ((lq a),b,c) [(0,0)]))) (.ext 1 [(0,0)])
def uK(s:St):Option cC:=do
 let some ⟨none,.one ⟨false,[.val (.int .i64 a)]⟩⟩:=s.look 8|none
 let some ⟨none,.one ⟨false,[.val (.int .i64 b)]⟩⟩:=s.look 7|none
 let some ⟨none,.one ⟨false,[.val (.func (.func 34) ⟨[]⟩ ⟨[]⟩)]⟩⟩:=s.look 1|none
 let some ⟨none,.one ⟨false,[.ref 0]⟩⟩:=s.look 0|none
 let some (.row false 66 (.pair (.int .i64) (.pair .str (.int .i64))) c):=s.ent 0|none
 some (a,b,c)
def aK:Lp cC where
 h:=⟨[9,10,5,11,12,13,14,15,16,17,4,18,8],[0],[],[]⟩
 JL:=Qy
 JE:=Qs
 XL:=QL
 XE:=fun _=>Qs
 q:=fun j=>match j with | 0=> .ret | _=> .exit 0
 tags:= [0,1]
 lt:=kF
 fuel:=fun(a,b,c)=>a.natAbs + b.natAbs + c.length
 fix:=fun(_,b,c) (a,_,_)=>(a,b,c)
 σ:= [(0,0)]
 rd:=uK
theorem OK:LoopOk prog (fun k=>Nat.blt k Tryz.f67.ntmps) aK.F (bc f67 0):=by
 refine Lp.ok (tbl:= [Xm]) (lf:= []) aU aK (by kernel_rfl) (LOk.nil _) (fun _=>rfl) (fun j _=>by unfold aK;match j with | 0=>rfl | _ + 1=>rfl) ?_ ?_ ?_ ?_ (fun _=>rfl) ?_
 ·intro _;kernel_rfl
 ·intro _;kernel_rfl
 ·intro s x h
  have h:uK s=some x:=h
  unfold uK at h
  repeat' split at h
  all_goals cases h
  constructor<;>repeat(first|refine ab ‹_› rfl ?_|refine aa rfl ‹_› rfl ?_|rfl)
 ·intro _;kernel_rfl
 ·intro _ _;exact(And.intro (And.intro trivial rfl) trivial)
section
variable (a:aoQ)
def ra:Int×Int×aoQ:=((0:Int),(↑a.length:Int),a)
def yM:Int:=bif Nat.beq ((Lp.res aK (ra a)).1) 0 then ((Lp.res aK (ra a)).2).1else(-1:Int)
def yN:Bool:=allT [Lp.fin aK (ra a)]
end
def FO:aAj
 | [.one ⟨false,[.ref 0]⟩,.one ⟨false,[.val (.func (.func 34) ⟨[]⟩ ⟨[]⟩)]⟩],[.row false 66 (.pair (.int .i64) (.pair .str (.int .i64))) a]=>some ⟨aAm (yM a),[aAp a],[],[yN a]⟩
 |_,_=>none
def yD:PF prog:=PF.ofG prog [Xm] [aK.F] aU 67 f67 func67 (LOk.fnT (l:= [bc f67 0]) (by kernel_rfl) (.cons OK (.nil _))) FO (by
 intro _ _ _ h;unfold FO at h;split at h<;>cases h;kernel_rfl)
def pW(a:aoQ):Bool:=leI 0 (yM a)
def vT(a:aoQ):Bool:=allT [yN a]
def Eb:aAj
 | [.one ⟨false,[.ref 0]⟩,.one ⟨false,[.val (.func (.func 34) ⟨[]⟩ ⟨[]⟩)]⟩],[.row false 66 (.pair (.int .i64) (.pair .str (.int .i64))) a]=>some ⟨aAl (.val (.bool (pW a))),[aAp a],[],[vT a]⟩
 |_,_=>none
def vJ:PF prog:=PF.ofG prog (T3z [yD]) [] aU 33 f33 func33 (fun c _=>LOk.nil c) Eb (by
 intro _ _ _ h;unfold Eb at h;split at h<;>cases h;kernel_rfl)
section
variable (a b c:Int)(d:aoQ)(e:auv)
def QT:Bool:=bif bif bif bif !pJ a 0 20 then true else !pJ b 0 20 then true else !pJ c 0 20 then true else ltI 2000 (↑d.length:Int)then true else ltI 2000 (↑e.length:Int)
def adA:Bool:=bif QT a b c d e then false else bif pW d then false else oD a b c d e
def adB:Bool:=allT [QT a b c d e||vT d,QT a b c d e||(pW d||oE a b c d e)]
end
def ajz:aAj
 | [.one ⟨true,[.val (.int .i64 a),.val (.int .i64 b),.val (.int .i64 c),.ref 0,.ref 1]⟩],[.row false 66 (.pair (.int .i64) (.pair (.str) (.int .i64))) d,.row false 60 (.pair (.int .i64) (.int .i64)) e]=>some ⟨aAl (.val (.bool (adA a b c d e))),[aAp d,aAx e],[],[adB a b c d e]⟩
 |_,_=>none
def aqR:PF prog:=PF.ofG prog (T3z [Yl,aoA,tZ,vJ]) [] aU 14 f14 func14 (fun c _=>LOk.nil c) ajz (by
 intro _ _ _ h;unfold ajz at h;split at h<;>cases h;kernel_rfl)
abbrev bJ:=Int×Int×List (Int×(aAi×Int))×List Int×List (Int×(Int×Int))
section
variable (a b:Int)(c:aor)(d:as9)
def eV:Int×aAi×Int:=v7 c[v5 a]? ((0:Int),ByteArray.empty,(0:Int))
def dQ:Int×Int×Int:=v7 d[v5 a]? ((0:Int),(0:Int),(0:Int))
def ij:Bool:=ltI a b
def ff:Bool:=leI 0 a
def ik:Bool:=ltI a (↑c.length:Int)
def il:Bool:=ltN a.toNat c.length
def im:Bool:=ltI a (↑d.length:Int)
def io:Bool:=ltN a.toNat d.length
def ip:Bool:= !Eh ((eV a c).1) ((eV a c).2.2) ((dQ a d).1) (((dQ a d).2).1) ((dQ a d).2.2)
def iq:Int:=v8 .i64 (a + (1:Int))
end
def Ma:bJ→List (Nat×SV)
 |(a,b,_,_,_)=> [(24,(aAm a)),(23,(aAm b)),(22,(aAl (.ref 0))),(3,(aAl (.ptr 1 0)))]
def LY:bJ→List (Nat×Entry)
 |(_,_,a,b,c)=> [(0,(aAp a)),(1,(.box 31 [.ref 2,.ref 3])),(2,(aAq b)),(3,(aAz c))]
def Me:Nat→bJ→List (Nat×SV)
 |0,(_,_,_,_,_)=> [(6,(aAl (.val (.bool false))))]
 |_,_=>[]
def gW:bJ→LT bJ
 |(a,b,c,d,e)=> .ite (ij a b) (.need [ff a,ik a c,il a c] (.need [ff a,im a e,io a e] (.ite (ip a c e) (.ext 0 [(0,0),(1,1),(2,2),(3,3)]) (.nrm ((iq a),b,c,d,e) [(0,0),(1,1),(2,2),(3,3)])))) (.ext 1 [(0,0),(1,1),(2,2),(3,3)])
def rr(s:St):Option bJ:=do
 let some ⟨none,.one ⟨false,[.val (.int .i64 a)]⟩⟩:=s.look 24|none
 let some ⟨none,.one ⟨false,[.val (.int .i64 b)]⟩⟩:=s.look 23|none
 let some ⟨none,.one ⟨false,[.ref 2]⟩⟩:=s.look 22|none
 let some ⟨none,.one ⟨false,[.ptr 256 0]⟩⟩:=s.look 3|none
 let some (.row false 66 (.pair (.int .i64) (.pair .str (.int .i64))) c):=s.ent 2|none
 let some (.box 31 [.ref 0,.ref 1]):=s.ent 256|none
 let some (.row false 2 (.int .i64) d):=s.ent 0|none
 let some (.row false 84 (.pair (.int .i64) (.pair (.int .i64) (.int .i64))) e):=s.ent 1|none
 some (a,b,c,d,e)
def aC:Lp bJ where
 h:=⟨[25,26,27,28,8,7,29,30,31,32,33,34,35,36,6,37,24],[0,1,2,3],[],[]⟩
 JL:=Ma
 JE:=LY
 XL:=Me
 XE:=fun _=>LY
 q:=fun j=>match j with | 0=> .ret | _=> .exit 0
 tags:= [0,1]
 lt:=gW
 fuel:=fun(a,b,c,d,e)=>a.natAbs + b.natAbs + c.length + d.length + e.length
 fix:=fun(_,b,c,d,e) (a,_,_,_,_)=>(a,b,c,d,e)
 σ:= [(0,2),(1,256),(2,0),(3,1)]
 rd:=rr
theorem JQ:LoopOk prog (fun k=>Nat.blt k Tryz.f59.ntmps) aC.F (bc f59 0):=by
 refine Lp.ok (tbl:= (T3z [Ap,acQ])) (lf:= []) aU aC (by kernel_rfl) (LOk.nil _) (fun _=>rfl) (fun j _=>by unfold aC;match j with | 0=>rfl | _ + 1=>rfl) ?_ ?_ ?_ ?_ (fun _=>rfl) ?_
 ·intro _;kernel_rfl
 ·intro _;kernel_rfl
 ·intro s x h
  have h:rr s=some x:=h
  unfold rr at h
  repeat' split at h
  all_goals cases h
  constructor<;>repeat(first|refine ab ‹_› rfl ?_|refine aa rfl ‹_› rfl ?_|rfl)
 ·intro _;kernel_rfl
 ·intro _ _;exact(And.intro (And.intro trivial rfl) trivial)
section
variable (a:Int)(b:avu)(c:at0)(d:aoQ)
def fU:Bool:=bif !bitsB a b then true else(↑c.length:Int)!=(↑d.length:Int)
def sX:Int×Int×aoQ×avu×at0:=((0:Int),(↑d.length:Int),d,b,c)
def oF:Bool:=bif fU a b c d then false else bif Nat.beq ((Lp.res aC (sX b c d)).1) 0 then false else true
def oG:Bool:=allT [leN b.length (9223372036854775807:Nat),fU a b c d||Lp.fin aC (sX b c d)]
end
def CV:aAj
 | [.one ⟨true,[.ref 0,.ref 1]⟩,.one ⟨false,[.val (.int .i64 a)]⟩,.one ⟨false,[.ref 2]⟩],[.row false 2 (.int .i64) b,.row false 84 (.pair (.int .i64) (.pair (.int .i64) (.int .i64))) c,.row false 66 (.pair (.int .i64) (.pair (.str) (.int .i64))) d]=>some ⟨aAl (.val (.bool (oF a b c d))),[aAq b,aAz c,aAp d],[],[oG a b c d]⟩
 |_,_=>none
def Qj:PF prog:=PF.ofG prog (T3z [Ap,acQ]) [aC.F] aU 59 f59 func59 (LOk.fnT (l:= [bc f59 0]) (by kernel_rfl) (.cons JQ (.nil _))) CV (by
 intro _ _ _ h;unfold CV at h;split at h<;>cases h;kernel_rfl)
def vN(a:at0):Bool:=allT [ltN 0 a.length,false||leN (0 + v6 a) 9223372036854775807,false||leN ((0 + v6 a) * 24) 140737488355328]
def Ku:aAj
 | [.one ⟨false,[.ref 0]⟩],[.row false 84 (.pair (.int .i64) (.pair (.int .i64) (.int .i64))) a]=>some ⟨aAl (.ref 1),[aAz a],[aAw a],[vN a]⟩
 |_,_=>none
def XP:PF prog:=PF.ofG prog [] [] aU 137 f137 func137 (fun c _=>LOk.nil c) Ku (by
 intro _ _ _ h;unfold Ku at h;split at h<;>cases h;kernel_rfl)
abbrev BS:=Int×Int×Int
def VR(k n:Int)(l:avu)(s:BS):BS:=(jG k n s.1 s.2.1 s.2.2 l,jH k s.2.1 s.2.2 l,jI k n s.1 s.2.2 l)
def avb(k n:Int)(l:avu)(s:BS):Int:=ge k n s.1 s.2.1 s.2.2 l
theorem att{k n a b c:Int}{s:aAi}{l:avu}(hB:KE k s n=true)(hP:possB k n a b c=true)(hA:bitsB (takesK k) l=true):
  (Fy k n a b c l,Fz k b c l,FA k n a b c l)=VR k n l (a,b,c)∧possB k n (VR k n l (a,b,c)).1 (VR k n l (a,b,c)).2.1 (VR k n l (a,b,c)).2.2=true:=by
 obtain⟨_,e1,e2,e3,_,_,e6⟩:=asC hB hP hA
 exact⟨by rw [e1,e2,e3];rfl,e6⟩
theorem Lp.inv{X:Type}(p:Lp X)(I Q:Nat→X→Prop)
  (hs: ∀ k x,I (k + 1) x→(∃ j,(p.lt x).out=some (.inl j)∧Q j x)∨ ∃ y,(p.lt x).out=some (.inr y)∧I k y)
  (he: ∀ x,I 0 x→ ∃ j,(p.lt x).out=some (.inl j)∧Q j x) (N:Nat) (x:X) (hN:N≤999) (h:I N x):
  p.fin x=true∧ ∃ j y,p.res x=(j,y)∧Q j y:=by
 have oe: ∀ (k:Nat) (x:X),I k x→ ∃ j y,Pj p.lt (k + 1) x=some (j,y)∧Q j y:=by
  intro k
  induction k with
  |zero=>
   intro x h
   obtain⟨j,h1,h2⟩:=he x h
   exact⟨j,x,NP _ h1,h2⟩
  |succ k ih=>
   intro x h
   rcases hs k x h with⟨j,h1,h2⟩ | ⟨y,h1,h2⟩
   ·exact⟨j,x,NP _ h1,h2⟩
   ·obtain⟨j,z,h3,h4⟩:=ih y h2
    exact⟨j,z,by rw [Le _ h1];exact h3,h4⟩
 obtain⟨j,y,h1,h2⟩:=oe N x h
 obtain⟨r1,r2⟩:=p.run h1 (adK (by omega))
 exact⟨r1,j,y,r2,h2⟩
abbrev TM:=Int×aAi×Int
def awZ(xs ys:at0):Bool:=decide (xs=ys)
theorem awa(xs:at0):awZ xs xs=true:=by simp [awZ]
theorem av6(xs:at0)(h:(leN 1 xs.length&&leN xs.length 1048576)=true):vN xs=true:=by
 simp only [q9,eN]at h
 simp [vN,allT]
 omega
def alO:aAj
 | [.one ⟨false,[.val (.slice none 0 0)]⟩],[]=>some ⟨aAl (.ref 0),[],[aAG []],[true]⟩
 |_,_=>none
def asl:PF prog:=PF.ofG prog [PF.raw prog] [] aU 137 f137 func137 (fun c _=>LOk.nil c) alO (by
 intro _ _ _ h;unfold alO at h;split at h<;>cases h;kernel_rfl)
def alN:aAj
 | [.one ⟨false,[.val (.slice (some _) 0 _)]⟩],[]=>some ⟨aAl (.ref 0),[],[aAG []],[true]⟩
 |_,_=>none
def ask:PF prog:=PF.ofG prog [] [] aU 137 f137 func137 (fun c _=>LOk.nil c) alN (by
 intro _ _ _ h;unfold alN at h;split at h<;>cases h;kernel_rfl)
def Kz:aAj
 | [.one ⟨false,[.ref 0]⟩],[.row false 84 (.pair (.int .i64) (.pair (.int .i64) (.int .i64))) a]=>some ⟨aAl (.ref 1),[aAI a],[aAG a],[leN a.length 1048576]⟩
 |_,_=>none
def Cz:PF prog where
 k:=137
 F:=Kz
 ok:=by
  intro args es o h cL mem ρ w hp
  unfold Kz at h
  split at h
  ·rename_i a
   cases h
   have hl:=cL _ (qqw.2 rfl)
   cases a with
   |nil=>
    exact(arP asl ask rfl rfl rfl (fun _ _=>rfl) (by simp) (by simp) hp).mono fun en w' ⟨ρ',h1,h2,h3⟩=>⟨ρ',h1,h2,rfl,(by intro v hv;rw [qqw.1 hv];rfl),h3⟩
   |cons x xs=>exact XP.ok _ _ ⟨_,_,_,[vN (x::xs)]⟩ rfl (fun b hb=>by rw [qqw.1 hb];exact av6 (x::xs) ((q9 _ _).mpr ⟨aY (Nat.succ_pos _),hl⟩)) mem ρ w hp
  ·cases h
abbrev IN:=Int×Int
abbrev BS3:=Int×Int×Int
def tkI(bs:List TM)(x:IN):Int:=NU x.1 x.2 bs
def gvI(x:IN):Int:=TU x.1
def TX(i v o:Int)(bs:List TM)(x:IN):Bool:=WW i v o x.1 x.2 bs
theorem axN(k:Int):0≤fC k∧fC k≤2:=by
 unfold fC
 generalize (bif k==1 then k==1 else bif k==2 then k==2 else k==3)=b1
 generalize (bif k==4 then k==4 else bif k==7 then k==7 else bif k==8 then k==8 else k==9)=b2
 cases b1 <;> cases b2 <;> decide
theorem alF(bs:List TM)(x:IN):0≤tkI bs x∧tkI bs x≤2:=by
 have h:=axN ((v7 bs[v5 x.2]? ((0:Int),ByteArray.empty,(0:Int))).1)
 unfold tkI NU
 generalize oY x.1=b1
 generalize oZ x.1=b2
 generalize wF x.1=b3
 generalize (x.1==4)=b4
 generalize (x.1==7)=b5
 cases b1 <;> cases b4 <;> cases b2 <;> cases b5 <;> cases b3 <;> simp only [cond_true,cond_false] <;> first | exact h | decide
theorem aps(x:IN):0≤gvI x∧gvI x≤1:=by
 unfold gvI TU
 generalize oY x.1=b1
 generalize oZ x.1=b2
 generalize wF x.1=b3
 generalize (x.1==4)=b4
 generalize (x.1==7)=b5
 cases b1 <;> cases b4 <;> cases b2 <;> cases b5 <;> cases b3 <;> decide
theorem aw3{i v o:Int}{bs:List TM}{x:IN}(hl:bs.length≤2000)(h:TX i v o bs x=true):ZQ x.1 x.2 bs=true:=by
 by_cases h7:x.1=7
 ·simp [TX,WW,h7,ak,Bool.cond_eq_ite]at h
  have hw:IntKind.i64.wrap ((bs.length:Int) - 1)=bs.length - 1:=wrap_i64 (by omega) (by omega)
  rw [hw]at h
  have h1:leI 0 x.2=true:=bx (by omega)
  have h2:ltI x.2 (bs.length:Int)=true:=dL (by omega)
  have h3:ltN x.2.toNat bs.length=true:=er (by omega)
  simp [ZQ,allT,h1,h2,h3]
 ·simp [ZQ,allT,h7]
theorem ats{i v o:Int}{bs:List TM}{x:IN}(hi:0≤i∧i≤20)(hv:0≤v∧v≤20)(ho:0≤o∧o≤20)(hl:bs.length≤2000):
  (bif ltI x.2 0 then true else leI (iG i v o x.1 bs) x.2)= !TX i v o bs x:=by
 have w1:IntKind.i64.wrap (i - 1)=i - 1:=wrap_i64 (by omega) (by omega)
 have w2:IntKind.i64.wrap (v - 1)=v - 1:=wrap_i64 (by omega) (by omega)
 have w3:IntKind.i64.wrap (o - 1)=o - 1:=wrap_i64 (by omega) (by omega)
 have w4:IntKind.i64.wrap ((bs.length:Int) - 1)=bs.length - 1:=wrap_i64 (by omega) (by omega)
 have oe: ∀ m:Int,(bif ltI x.2 0 then true else leI m x.2)= !(bif leI 0 x.2 then leI x.2 (m - 1)else false):=fun m=>by
  by_cases h0:x.2 < 0
  ·have a1:ltI x.2 0=true:=dL h0
   have a2:leI 0 x.2=false:=aj0 (by omega)
   simp [a1,a2]
  ·have a1:ltI x.2 0=false:=Ej (by omega)
   have a2:leI 0 x.2=true:=bx (by omega)
   simp only [a1,a2,cond_false,cond_true]
   by_cases hm:m≤x.2
   ·rw [bx hm,aj0 (by omega)];rfl
   ·rw [aj0 (by omega),bx (by omega)];rfl
 rw [oe]
 simp only [TX,WW,iG,KS,ak,w1,w2,w3,w4]
 generalize (bif x.1==2 then x.1==2 else x.1==10)=b2
 generalize (bif x.1==3 then x.1==3 else bif x.1==8 then x.1==8 else x.1==11)=b3
 generalize (bif x.1==4 then x.1==4 else bif x.1==5 then x.1==5 else x.1==6)=b4
 generalize (x.1==1)=b1
 generalize (x.1==7)=b5
 generalize (x.1==9)=b6
 have e0:(bif leI 0 x.2 then leI x.2 (1 - 1)else false)=(x.2==0):=by
  by_cases h:x.2=0
  ·rw [h];rfl
  ·have:(x.2==0)=false:=by simpa using h
   rw [this]
   by_cases h0:0≤x.2
   ·rw [bx h0,aj0 (by omega)];rfl
   ·rw [aj0 (by omega)];rfl
 have e1:(bif leI 0 x.2 then leI x.2 (0 - 1)else false)=false:=by
  by_cases h0:0≤x.2
  ·rw [bx h0,aj0 (by omega)];rfl
  ·rw [aj0 (by omega)];rfl
 cases b1 <;> cases b2 <;> cases b3 <;> cases b4 <;> cases b5 <;> cases b6 <;> simp only [cond_true,cond_false,e0,e1] <;> rfl
def hgt(i v o:Int)(bs:List TM):List IN→Int→avu→Option (Int×avu)
 | [],n,acc=>some (n,acc)
 |x::r,n,acc=>bif TX i v o bs x&&(leI (tkI bs x) n&&leI (n - tkI bs x + gvI x) 40)then hgt i v o bs r (n - tkI bs x + gvI x) (acc++ [n - tkI bs x + gvI x])else none
theorem avw{i v o:Int}{bs:List TM}: ∀ (st:List IN) (n:Int) (acc:avu) (m:Int) (out:avu),hgt i v o bs st n acc=some (m,out)→out.length=acc.length + st.length
 | [],n,acc,m,out,h=>by simp only [hgt,q8,Prod.mk.injEq]at h;rw [← h.2];simp
 |x::r,n,acc,m,out,h=>by
  simp only [hgt]at h
  cases hc:(TX i v o bs x&&(leI (tkI bs x) n&&leI (n - tkI bs x + gvI x) 40))with
  |false=>rw [hc]at h;cases h
  |true=>
   rw [hc]at h
   have:=avw r _ _ _ _ h
   rw [this];simp;omega
theorem atW{i v o:Int}{bs:List TM}{f:IN→Int×avu→Nat ⊕ (Int×avu)}{e:Nat}
  (hf: ∀ b n acc,0≤n∧n≤40→((TX i v o bs b&&(leI (tkI bs b) n&&leI (n - tkI bs b + gvI b) 40))=true→f b (n,acc)= .inr (n - tkI bs b + gvI b,acc++ [n - tkI bs b + gvI b]))∧
   ((TX i v o bs b&&(leI (tkI bs b) n&&leI (n - tkI bs b + gvI b) 40))=false→ ∃ j,j < e∧f b (n,acc)= .inl j)):
  ∀ (r:List IN) (k:Nat) (n:Int) (acc:avu),0≤n∧n≤40→
   (∀ m out,hgt i v o bs r n acc=some (m,out)→bz f e r k (n,acc)=(e,k + r.length,(m,out))∧0≤m∧m≤40)∧(hgt i v o bs r n acc=none→(bz f e r k (n,acc)).1 < e)
 | [],k,n,acc,hn=>⟨fun m out h=>by simp only [hgt,q8,Prod.mk.injEq]at h;obtain⟨rfl,rfl⟩:=h;exact⟨rfl,hn⟩,fun h=>by simp [hgt]at h⟩
 |b::r,k,n,acc,hn=>by
  have ht:=alF bs b
  have hg:=aps b
  cases hc:(TX i v o bs b&&(leI (tkI bs b) n&&leI (n - tkI bs b + gvI b) 40))with
  |true=>
   have h1:=(hf b n acc hn).1 hc
   have hb:0≤n - tkI bs b + gvI b∧n - tkI bs b + gvI b≤40:=by simp only [q9,zJ]at hc;omega
   obtain⟨g1,g2⟩:=atW hf r (k + 1) _ (acc++ [n - tkI bs b + gvI b]) hb
   simp only [hgt,hc,cond_true,bz,h1]
   refine⟨fun m out h=> ?_,g2⟩
   obtain⟨q1,q2⟩:=g1 m out h
   refine⟨?_,q2⟩
   rw [q1];simp;omega
  |false=>
   obtain⟨j,hj,h1⟩:=(hf b n acc hn).2 hc
   simp only [hgt,hc,cond_false,bz,h1]
   exact⟨fun m out h=>(by cases h),fun _=>hj⟩
def agb(i v o:Int)(bs:List TM)(st:List IN):Bool:=match hgt i v o bs st 0 []with | some (m,_)=>m==0 | none=>false
def aw9(i v o:Int)(bs:List TM)(st:List IN):avu:=match hgt i v o bs st 0 []with | some (_,out)=>out | none=> []
def acz(bs:List TM):Bool:=bs.all fun t=>KE t.1 t.2.1 t.2.2
def auY(i v o:Int)(bs:List TM)(st:List IN):Bool:=inR i 0 20&&(inR v 0 20&&(inR o 0 20&&(leN bs.length 2000&&leN st.length 2000)))
def jR(i v o:Int)(bs:List TM)(st:List IN):Bool:=auY i v o bs st&&(acz bs&&agb i v o bs st)
def ayM(bs:List TM):Bool:=leN bs.length 9223372036854775807&&bs.all fun t=>leN t.2.1.size 9223372036854775807
theorem atT{bs:List TM}:ayM bs=true↔bs.length≤9223372036854775807∧ ∀ t∈bs,t.2.1.size≤9223372036854775807:=by
 simp only [ayM,q9,eN,List.all_eq_true]
theorem Rp{i v o:Int}{bs:List TM}{st:List IN}:auY i v o bs st=true↔(0≤i∧i≤20)∧(0≤v∧v≤20)∧(0≤o∧o≤20)∧bs.length≤2000∧st.length≤2000:=by
 simp only [auY,q9,pR,eN]
def apl(i v o:Int)(bs:List TM)(b:IN):Int×avu→Nat ⊕ (Int×avu)
 |(n,acc)=>bif(bif ltI b.2 0 then true else leI (iG i v o b.1 bs) b.2)then .inl 0 else
   bif ltI n (bf b.1 b.2 bs)then .inl 1 else
   bif ltI 40 (IntKind.i64.wrap (n + IntKind.i64.wrap (cp b.1 - bf b.1 b.2 bs)))then .inl 2 else
   .inr (IntKind.i64.wrap (n + IntKind.i64.wrap (cp b.1 - bf b.1 b.2 bs)),acc++ [IntKind.i64.wrap (n + IntKind.i64.wrap (cp b.1 - bf b.1 b.2 bs))])
theorem avn{i v o:Int}{bs:List TM}{b:IN}{n:Int}{acc:avu}(hr:(0≤i∧i≤20)∧(0≤v∧v≤20)∧0≤o∧o≤20)(hl:bs.length≤2000)(hn:0≤n∧n≤40):
  apl i v o bs b (n,acc)=bif !TX i v o bs b then .inl 0 else bif !leI (tkI bs b) n then .inl 1 else bif !leI (n - tkI bs b + gvI b) 40 then .inl 2 else .inr (n - tkI bs b + gvI b,acc++ [n - tkI bs b + gvI b]):=by
 have ht:=alF bs b
 have hg:=aps b
 have e1:bf b.1 b.2 bs=tkI bs b:=rfl
 have e2:cp b.1=gvI b:=rfl
 have w1:IntKind.i64.wrap (gvI b - tkI bs b)=gvI b - tkI bs b:=wrap_i64 (by omega) (by omega)
 have w2:IntKind.i64.wrap (n + (gvI b - tkI bs b))=n - tkI bs b + gvI b:=by rw [wrap_i64 (by omega) (by omega)];omega
 simp only [apl,ats hr.1 hr.2.1 hr.2.2 hl,e1,e2,w1,w2]
 have n1:ltI n (tkI bs b)= !leI (tkI bs b) n:=by
  by_cases h1:n < tkI bs b
  ·rw [dL h1,aj0 (by omega)];rfl
  ·rw [Ej (by omega),bx (by omega)];rfl
 have n2:ltI 40 (n - tkI bs b + gvI b)= !leI (n - tkI bs b + gvI b) 40:=by
  by_cases h1:40 < n - tkI bs b + gvI b
  ·rw [dL h1,aj0 (by omega)];rfl
  ·rw [Ej (by omega),bx (by omega)];rfl
 rw [n1,n2]
def df(c d e:Int)(g:aor)(b:Int×Int):(Int×avu)→Nat ⊕ (Int×avu)
 |(a,f)=>(bif(bif ltI b.2 0 then true else leI (iG c d e b.1 g) b.2)then(.inl 0)else(bif(ltI a (bf b.1 b.2 g))then(.inl 1)else(bif(ltI 40 (v8 .i64 (a + v8 .i64 (cp b.1 - (bf b.1 b.2 g)))))then(.inl 2)else(.inr ((v8 .i64 (a + v8 .i64 (cp b.1 - (bf b.1 b.2 g)))),(f++ [v8 .i64 (a + v8 .i64 (cp b.1 - (bf b.1 b.2 g)))]))))))
def cU(b:auv)(c d e:Int)(g:aor)(i:Nat):(Int×avu)→bI
 |(a,f)=>((i:Int),(↑b.length:Int),a,b,c,d,e,f,g)
def rn:bI→Int×avu
 |(_,_,a,_,_,_,_,b,_)=>(a,b)
theorem NB(e:auv)(f g j:Int)(l:aor)(c:Int)(k:avu)(hn:e.length≤9223372036854775807)(hst:e.length≤2000)(hbs:l.length≤2000)(hr:(0≤f∧f≤20)∧(0≤g∧g≤20)∧0≤j∧j≤20)(FK:(0≤c∧c≤40)∧k.length=0):
  ah.fin ((0:Int),(↑e.length:Int),c,e,f,g,j,k,l)=true∧ah.res ((0:Int),(↑e.length:Int),c,e,f,g,j,k,l)=((bz (df f g j l) 3 e 0 (c,k)).1,(cU e f g j l) (bz (df f g j l) 3 e 0 (c,k)).2.1 (bz (df f g j l) 3 e 0 (c,k)).2.2):=by
 have oe:=ah.along (cU e f g j l) rn (df f g j l) 3 (fun i a=>(0≤a.1∧a.1≤40)∧a.2.length=i) e (c,k) FK (by simp only [ah,cU];omega) (fun i b a hb hI=> ?_) (fun a hI=> ?_)
 ·exact oe
 ·obtain⟨c,k⟩:=a
  have hlt:=(k9.1 hb).1
  have nk: ∀ d,v7 e[i]? d=b:=fun d=>by rw [hb];rfl
  have hw:=Bv hlt hn
  have gr:ltI (i:Int) (e.length:Int)=true:=dL (by omega)
  have LW:leI (0:Int) (i:Int)=true:=bx (by omega)
  have sd:ltN i e.length=true:=er hlt
  refine⟨?_,?_,?_,?_⟩
  ·have hg2:aA (i:Int) e=b:=by simp only [aA,w5];exact nk _
   have hl:=hI.2
   have h6:leN (k.length + 1) 9223372036854775807=true:=aY (by simp only at hl;omega)
   have h7:leN ((k.length + 1) * 8) 140737488355328=true:=aY (by simp only at hl;omega)
   have h8:TX f g j l b=true→kA b.1 b.2 l=true:=aw3 hbs
   simp only [ig,me,mf,mg,ii,mh,ml,mm,gV,ah,LT.nds,allT,cU,gr,LW,sd,hg2,j6,h6,h7,w5,ats hr.1 hr.2.1 hr.2.2 hbs,cond_true,cond_false]
   cases hf:TX f g j l b with
   |false=>rfl
   |true=>simp [h8 hf]
  ·simp [aA,gL,cS,ig,me,mf,mg,ii,mh,mi,mj,ml,mm,lQ,lR,lS,gV,ah,LT.each,cU,rn,hw]
  ·have hg2:aA (i:Int) e=b:=by simp only [aA,w5];exact nk _
   simp only [ig,ii,mi,mj,lQ,lR,lS,gL,cS,gV,ah,LT.fn,cU,rn,df,w5,gr,hg2,cond_true]
  ·have hk:=hI.1
   simp only at hk
   have hs:=avn (i:=f) (v:=g) (o:=j) (bs:=l) (b:=b) (acc:=k) hr hbs hk
   intro a' hf
   have hf:apl f g j l b (c,k)= .inr a':=hf
   rw [hs]at hf
   have ht:=alF l b
   have hg:=aps b
   cases hq:TX f g j l b with
   |false=>rw [hq]at hf;cases hf
   |true=>
    cases hq2:leI (tkI l b) c with
    |false=>rw [hq,hq2]at hf;cases hf
    |true=>
     cases hq3:leI (c - tkI l b + gvI b) 40 with
     |false=>rw [hq,hq2,hq3]at hf;cases hf
     |true=>
      rw [hq,hq2,hq3]at hf;cases hf
      have hq2:=zJ.1 hq2
      have hq3:=zJ.1 hq3
      exact⟨by simp only;omega,by have hl:=hI.2;simp only at hl;simp [hl]⟩
 ·obtain⟨c,k⟩:=a
  simp [aA,gL,cS,ig,me,mf,mg,ii,mh,mi,mj,ml,mm,lQ,lR,lS,gV,ah,LT.out,cU]
theorem ayh(i v o:Int)(bs:List TM)(st:List IN)(hr:(0≤i∧i≤20)∧(0≤v∧v≤20)∧0≤o∧o≤20)(hst:st.length≤2000)(hbs:bs.length≤2000):
  oD i v o bs st=agb i v o bs st∧tW i v o bs st=aw9 i v o bs st∧oE i v o bs st=true:=by
 obtain⟨w1,w2⟩:=NB st i v o bs 0 [] (by omega) hst hbs hr ⟨⟨by omega,by omega⟩,rfl⟩
 have hw:=atW (i:=i) (v:=v) (o:=o) (bs:=bs) (f:=df i v o bs) (e:=3) (fun b n acc hn=>by
  have h:=avn (i:=i) (v:=v) (o:=o) (bs:=bs) (b:=b) (n:=n) (acc:=acc) hr hbs hn
  have h:df i v o bs b (n,acc)=_:=h
  rw [h]
  refine⟨fun hc=> ?_,fun hc=> ?_⟩
  ·simp only [q9]at hc
   simp [hc.1,hc.2.1,hc.2.2]
  ·cases hq:TX i v o bs b with
   |false=>exact⟨0,by omega,rfl⟩
   |true=>
    rw [hq,Bool.true_and]at hc
    cases hq2:leI (tkI bs b) n with
    |false=>exact⟨1,by omega,rfl⟩
    |true=>rw [hq2,Bool.true_and]at hc;exact⟨2,by omega,by rw [hc];rfl⟩) st 0 0 [] ⟨by omega,by omega⟩
 simp only [oD,tW,oE,fT,sS,sU,sV,sW,w1,allT,cond_true]
 rw [w2]
 simp only [agb,aw9]
 cases hh:hgt i v o bs st 0 []with
 |none=>
  have:=hw.2 hh
  generalize bz (df i v o bs) 3 st 0 (0,[])=r at this ⊢
  obtain⟨j,k,a⟩:=r
  have:j=0∨j=1∨j=2:=by simp only at this;omega
  rcases this with rfl | rfl | rfl <;> simp [Nat.beq]
 |some r=>
  obtain⟨m,out⟩:=r
  have:=(hw.1 m out hh).1
  rw [this]
  simp [Nat.beq,cU]
def kR(b:Int×(aAi×Int)):(Unit)→Nat ⊕ (Unit)
 |_=>(bif(Ou b.1 (b.2.1) b.2.2)then(.inl 0)else(.inr ()))
def dY(a:aor)(i:Nat):(Unit)→cC
 |_=>((i:Int),(↑a.length:Int),a)
def uF:cC→Unit
 |(_,_,_)=>()
theorem Sz(c:aor) (hn:c.length≤9223372036854775807):
  aK.fin ((0:Int),(↑c.length:Int),c)=true∧aK.res ((0:Int),(↑c.length:Int),c)=((bz (kR) 1 c 0 ()).1,(dY c) (bz (kR) 1 c 0 ()).2.1 (bz (kR) 1 c 0 ()).2.2):=by
 have oe:=aK.along (dY c) uF (kR) 1 (fun _ _=>True) c () (by trivial) (by simp only [aK,dY];omega) (fun i b a hb hI=> ?_) (fun a hI=> ?_)
 ·exact oe
 ·obtain⟨⟩:=a
  have hlt:=(k9.1 hb).1
  have nk: ∀ d,v7 c[i]? d=b:=fun d=>by rw [hb];rfl
  have hw:=Bv hlt hn
  have gr:ltI (i:Int) (c.length:Int)=true:=dL (by omega)
  have LW:leI (0:Int) (i:Int)=true:=bx (by omega)
  have sd:ltN i c.length=true:=er hlt
  refine⟨?_,?_,?_,?_⟩
  ·simp [eR,lj,lk,lm,ln,lp,lq,kF,aK,LT.nds,allT,dY,gr,LW,sd,nk]
  ·simp [eR,lj,lk,lm,ln,lp,lq,kF,aK,LT.each,dY,uF,hw]
  ·simp only [eR,lj,lk,lm,ln,lp,lq,kF,aK,LT.fn,dY,uF,kR,w5,gr,LW,sd,nk,cond_true,k8]
  ·exact fun _ _=>trivial
 ·obtain⟨⟩:=a
  simp [eR,lj,lk,lm,ln,lp,lq,kF,aK,LT.out,dY]
theorem awH(bs:List TM):(bs.any fun t=> !KE t.1 t.2.1 t.2.2)= !acz bs:=by simp [acz,List.all_eq_not_any_not]
theorem axH(i v o:Int)(bs:List TM)(st:List IN):Wi i v o bs st= !auY i v o bs st:=by
 have e1: ∀ x:Int,ak x 0 20=inR x 0 20:=fun x=>by simp only [ak,MM]
 have e2: ∀ n:Nat,ltI 2000 (n:Int)= !leN n 2000:=fun n=>by
  by_cases h:n≤2000
  ·rw [aY h,Ej (by omega)];rfl
  ·rw [azH (by omega),dL (by omega)];rfl
 simp only [Wi,auY,e1,e2]
 cases inR i 0 20 <;> cases inR v 0 20 <;> cases inR o 0 20 <;> cases leN bs.length 2000 <;> cases leN st.length 2000 <;> rfl
theorem awg(i v o:Int)(bs:List TM)(st:List IN):adA i v o bs st=jR i v o bs st∧adB i v o bs st=true:=by
 have e0:QT i v o bs st=Wi i v o bs st:=by simp only [QT,Wi,pJ,ak]
 simp only [adA,adB,e0,axH,jR]
 cases hr:auY i v o bs st with
 |false=>simp [allT]
 |true=>
  obtain⟨h1,h2,h3,h4,h5⟩:=Rp.1 hr
  obtain⟨q1,q2,q3⟩:=ayh i v o bs st ⟨h1,h2,h3⟩ h5 h4
  obtain⟨w1,w2⟩:=Sz bs (by omega)
  rw [lA (P:=fun t=> !KE t.1 t.2.1 t.2.2) (j:=0) (fun t=>rfl),awH]at w2
  simp only [pW,vT,yM,yN,ra,w1,w2,q1,q3,allT]
  cases acz bs with
  |true=>simp [Nat.beq,show leI 0 (-1)=false from rfl]
  |false=>simp [Nat.beq,dY];intro h;omega
def ajM:aAj
 | [.one ⟨true,[.val (.int .i64 a),.val (.int .i64 b),.val (.int .i64 c),.ref 0,.ref 1]⟩],[.row false 66 (.pair (.int .i64) (.pair (.str) (.int .i64))) d,.row false 60 (.pair (.int .i64) (.int .i64)) e]=>some ⟨aAl (.val (.bool (jR a b c d e))),[aAp d,aAx e],[],[]⟩
 |_,_=>none
def vu:PF prog:=PF.alt aqR ajM (by
 intro args es o h cL;unfold ajM at h;split at h
 ·rename_i a b c d e
  cases h
  have hh:=awg a b c d e
  obtain⟨e0,en⟩:=hh
  exact qm rfl (jv en) (by simp only [e0] <;> rfl) rfl rfl
 ·cases h)
def gB(bs:List TM)(k:Nat):TM:=v7 bs[k]? ((0:Int),ByteArray.empty,(0:Int))
def stAt(ss:List BS3)(k:Nat):BS3:=v7 ss[k]? ((0:Int),(0:Int),(0:Int))
def possAt(bs:List TM)(ss:List BS3)(k:Nat):Bool:=possB (gB bs k).1 (gB bs k).2.2 (stAt ss k).1 (stAt ss k).2.1 (stAt ss k).2.2
def xF(v:Int)(bs:List TM)(xs:avu)(ss:List BS3):Bool:=((ss.length:Int)==(bs.length:Int))&&(bitsB v xs&&(List.range bs.length).all fun k=>possAt bs ss k)
def ic(a:aor)(c:as9)(b:Nat):(Unit)→Nat ⊕ (Unit)
 |_=>(bif(!Eh ((v7 a[b]? ((0:Int),ByteArray.empty,(0:Int))).1) ((v7 a[b]? ((0:Int),ByteArray.empty,(0:Int))).2.2) ((v7 c[b]? ((0:Int),(0:Int),(0:Int))).1) (((v7 c[b]? ((0:Int),(0:Int),(0:Int))).2).1) ((v7 c[b]? ((0:Int),(0:Int),(0:Int))).2.2))then(.inl 0)else(.inr ()))
def dR(a:aor)(b:avu)(c:as9)(i:Nat):(Unit)→bJ
 |_=>((i:Int),(↑a.length:Int),a,b,c)
def rp:bJ→Unit
 |(_,_,_,_,_)=>()
theorem NC(c:aor)(d:avu)(e:as9) (hn:c.length≤9223372036854775807) (he:e.length=c.length):
  aC.fin ((0:Int),(↑c.length:Int),c,d,e)=true∧aC.res ((0:Int),(↑c.length:Int),c,d,e)=((bz (ic c e) 1 (List.range c.length) 0 ()).1,(dR c d e) (bz (ic c e) 1 (List.range c.length) 0 ()).2.1 (bz (ic c e) 1 (List.range c.length) 0 ()).2.2):=by
 have oe:=aC.along (dR c d e) rp (ic c e) 1 (fun _ _=>True) (List.range c.length) () (by trivial) (by simp only [aC,dR,List.length_range];omega) (fun i b a hb hI=> ?_) (fun a hI=> ?_)
 ·exact oe
 ·obtain⟨⟩:=a
  obtain⟨rfl,hlt⟩:=UZ hb
  have hw:IntKind.i64.wrap ((b:Int) + 1)=((b + 1:Nat):Int):=by rw [wrap_i64 (by omega) (by omega)];omega
  have gr:ltI (b:Int) (c.length:Int)=true:=dL (by omega)
  have LW:leI (0:Int) (b:Int)=true:=bx (by omega)
  have sd:ltN b c.length=true:=er (by omega)
  refine⟨?_,?_,?_,?_⟩
  ·simp [eV,dQ,ij,ff,ik,il,im,io,ip,iq,gW,aC,LT.nds,allT,dR,gr,LW,sd,he]
  ·simp [eV,dQ,ij,ff,ik,il,im,io,ip,iq,gW,aC,LT.each,dR,rp,hw,he]
  ·simp only [eV,dQ,ij,ff,ik,il,im,io,ip,iq,gW,aC,LT.fn,dR,rp,ic,w5,gr,cond_true]
  ·exact fun _ _=>trivial
 ·obtain⟨⟩:=a
  simp [eV,dQ,ij,ff,ik,il,im,io,ip,iq,gW,aC,LT.out,dR,List.length_range]
theorem arG{α:Type}{g h:α→Bool}: ∀ (l:List α),(∀ k∈l,g k=h k)→(l.any fun b=> !g b)= !l.all h
 | [],_=>rfl
 |a::l,hg=>by
  rw [List.any_cons,List.all_cons,hg a (by simp),arG l (fun k hk=>hg k (by simp [hk]))]
  cases h a <;> simp
theorem awh(v:Int)(bs:List TM)(xs:avu)(ss:List BS3)(h:(leN xs.length 9223372036854775807&&(leN bs.length 9223372036854775807&&acz bs))=true):
  oF v xs ss bs=xF v bs xs ss∧oG v xs ss bs=true:=by
 simp only [q9]at h
 have hn:=eN.1 h.2.1
 have hB: ∀ t∈bs,KE t.1 t.2.1 t.2.2=true:=List.all_eq_true.1 h.2.2
 by_cases hl:ss.length=bs.length
 ·obtain⟨w1,w2⟩:=NC bs xs ss hn hl
  rw [lA (P:=fun k=> !Eh (gB bs k).1 (gB bs k).2.2 (stAt ss k).1 (stAt ss k).2.1 (stAt ss k).2.2) (j:=0) (fun k=>rfl),
   arG (g:=fun k=>Eh (gB bs k).1 (gB bs k).2.2 (stAt ss k).1 (stAt ss k).2.1 (stAt ss k).2.2) (h:=possAt bs ss) _ (fun k hk=>by
    have hk:k < bs.length:=List.mem_range.1 hk
    have hg:gB bs k=bs[k]:=by simp only [gB,List.getElem?_eq_getElem hk];rfl
    have:=hB _ (List.getElem_mem hk)
    rw [← hg]at this
    exact ayC (afr this).1)]at w2
  have a0:fU v xs ss bs= !bitsB v xs:=by simp only [fU,hl];cases bitsB v xs <;> simp
  simp only [oF,oG,sX,a0,w1,w2,h.1,allT,xF,hl]
  cases bitsB v xs <;> cases (List.range bs.length).all (possAt bs ss) <;> simp [Nat.beq]
 ·have hl2: ¬ ((ss.length:Int)=(bs.length:Int)):=by omega
  have a0:fU v xs ss bs=true:=by simp only [fU];cases bitsB v xs <;> simp [hl2]
  have e:((ss.length:Int)==(bs.length:Int))=false:=by simpa using hl2
  simp [oF,oG,a0,allT,xF,e,h.1]
def CX:aAj
 | [.one ⟨true,[.ref 0,.ref 1]⟩,.one ⟨false,[.val (.int .i64 a)]⟩,.one ⟨false,[.ref 2]⟩],[.row false 2 (.int .i64) b,.row false 84 (.pair (.int .i64) (.pair (.int .i64) (.int .i64))) c,.row false 66 (.pair (.int .i64) (.pair (.str) (.int .i64))) d]=>some ⟨aAl (.val (.bool (xF a d b c))),[aAq b,aAz c,aAp d],[],[leN b.length 9223372036854775807&&(leN d.length 9223372036854775807&&acz d)]⟩
 |_,_=>none
def tY:PF prog:=PF.alt Qj CX (by
 intro args es o h cL;unfold CX at h;split at h
 ·rename_i a b c d
  cases h
  have cL:=kO cL
  have hh:=awh a d b c cL
  obtain⟨e0,en⟩:=hh
  exact qm rfl (jv en) (by simp only [e0] <;> rfl) rfl rfl
 ·cases h)
abbrev pG:=Int×aAi×List aAi
section
variable (a:Int)(b:aAi)(c:List aAi)
def CM:Bool:=ltI a (↑c.length:Int)
def GU:Bool:=leI 0 a
def GV:Bool:=ltN a.toNat c.length
def GW:Bool:=ByteArray.toList (v7 c[v5 a]? ByteArray.empty)==ByteArray.toList b
def GX:Int:=v8 .i64 (a + (1:Int))
end
def ai9:pG→List (Nat×SV)
 |(a,b,_)=> [(5,(aAm a)),(0,(aAl (.ref 0))),(1,(aAl (.val (.string b))))]
def ai2:pG→List (Nat×Entry)
 |(_,_,a)=> [(0,(aAn a))]
def ajn:Nat→pG→List (Nat×SV)
 |0,(a,_,_)=> [(4,(aAm a))]
 |_,_=>[]
def EJ:pG→LT pG
 |(a,b,c)=> .ite (CM a c) (.need [GU a,CM a c,GV a c] (.ite (GW a b c) (.ext 0 [(0,0)]) (.nrm ((GX a),b,c) [(0,0)]))) (.ext 1 [(0,0)])
def Ta(s:St):Option pG:=do
 let some ⟨none,.one ⟨false,[.val (.int .i64 a)]⟩⟩:=s.look 5|none
 let some ⟨none,.one ⟨false,[.ref 0]⟩⟩:=s.look 0|none
 let some ⟨none,.one ⟨false,[.val (.string b)]⟩⟩:=s.look 1|none
 let some (.row false 9 (.str) c):=s.ent 0|none
 some (a,b,c)
def fG:Lp pG where
 h:=⟨[6,7,8,9,12,13,14,15,16,17,18,4,10,11,5],[0],[],[]⟩
 JL:=ai9
 JE:=ai2
 XL:=ajn
 XE:=fun _=>ai2
 q:=fun j=>match j with | 0=> .ret | _=> .exit 0
 tags:= [0,1]
 lt:=EJ
 fuel:=fun(a,b,c)=>a.natAbs + b.size + c.length
 fix:=fun(_,b,c) (a,_,_)=>(a,b,c)
 σ:= [(0,0)]
 rd:=Ta
theorem agZ:LoopOk prog (fun k=>Nat.blt k Tryz.f48.ntmps) fG.F (bc f48 0):=by
 refine Lp.ok (tbl:= []) (lf:= []) aU fG (by kernel_rfl) (LOk.nil _) (fun _=>rfl) (fun j _=>by unfold fG;match j with | 0=>rfl | _ + 1=>rfl) ?_ ?_ ?_ ?_ (fun _=>rfl) ?_
 ·intro _;kernel_rfl
 ·intro _;kernel_rfl
 ·intro s x h
  have h:Ta s=some x:=h
  unfold Ta at h
  repeat' split at h
  all_goals cases h
  constructor<;>repeat(first|refine ab ‹_› rfl ?_|refine aa rfl ‹_› rfl ?_|rfl)
 ·intro _;kernel_rfl
 ·intro _ _;exact(And.intro (And.intro trivial rfl) trivial)
section
variable (a:aAi)(b:List aAi)
def Sv:Int×aAi×List aAi:=((0:Int),a,b)
def NS:Int:=bif Nat.beq ((Lp.res fG (Sv a b)).1) 0 then ((Lp.res fG (Sv a b)).2).1else(-1:Int)
def TL:Bool:=allT [Lp.fin fG (Sv a b)]
end
def af0:aAj
 | [.one ⟨false,[.ref 0]⟩,.one ⟨false,[.val (.string a)]⟩],[.row false 9 (.str) b]=>some ⟨aAm (NS a b),[aAn b],[],[TL a b]⟩
 |_,_=>none
def Eu:PF prog:=PF.ofG prog [] [fG.F] aU 48 f48 func48 (LOk.fnT (l:= [bc f48 0]) (by kernel_rfl) (.cons agZ (.nil _))) af0 (by
 intro _ _ _ h;unfold af0 at h;split at h<;>cases h;kernel_rfl)
abbrev pE:=Int×List aAi
section
variable (a:Int)(b:List aAi)
def sP:aAi:=v7 b[v5 a]? ByteArray.empty
def CI:Bool:=ltI a (↑b.length:Int)
def Ns:Bool:=leI 0 a
def Nt:Bool:=ltN a.toNat b.length
def Nu:Bool:=yk (sP a b)
def GJ:Bool:= !pu (sP a b)
def Nv:Int:=v8 .i64 (a + (1:Int))
end
def ai6:pE→List (Nat×SV)
 |(a,_)=> [(5,(aAm a)),(0,(aAl (.ref 0)))]
def aiZ:pE→List (Nat×Entry)
 |(_,a)=> [(0,(aAn a))]
def ajk:Nat→pE→List (Nat×SV)
 |0,(_,_)=> [(4,(aAl (.val (.bool false))))]
 |_,_=>[]
def EG:pE→LT pE
 |(a,b)=> .ite (CI a b) (.need [Ns a,CI a b,Nt a b,Nu a b] (.ite (GJ a b) (.ext 0 [(0,0)]) (.nrm ((Nv a),b) [(0,0)]))) (.ext 1 [(0,0)])
def SW(s:St):Option pE:=do
 let some ⟨none,.one ⟨false,[.val (.int .i64 a)]⟩⟩:=s.look 5|none
 let some ⟨none,.one ⟨false,[.ref 0]⟩⟩:=s.look 0|none
 let some (.row false 9 (.str) b):=s.ent 0|none
 some (a,b)
def gp:Lp pE where
 h:=⟨[6,7,8,9,12,13,14,15,16,17,4,10,11,5],[0],[],[]⟩
 JL:=ai6
 JE:=aiZ
 XL:=ajk
 XE:=fun _=>aiZ
 q:=fun j=>match j with | 0=> .ret | _=> .exit 0
 tags:= [0,1]
 lt:=EG
 fuel:=fun(a,b)=>a.natAbs + b.length
 fix:=fun(_,b) (a,_)=>(a,b)
 σ:= [(0,0)]
 rd:=SW
theorem agW:LoopOk prog (fun k=>Nat.blt k Tryz.f99.ntmps) gp.F (bc f99 0):=by
 refine Lp.ok (tbl:= [Ar,Ri]) (lf:= []) aU gp (by kernel_rfl) (LOk.nil _) (fun _=>rfl) (fun j _=>by unfold gp;match j with | 0=>rfl | _ + 1=>rfl) ?_ ?_ ?_ ?_ (fun _=>rfl) ?_
 ·intro _;kernel_rfl
 ·intro _;kernel_rfl
 ·intro s x h
  have h:SW s=some x:=h
  unfold SW at h
  repeat' split at h
  all_goals cases h
  constructor<;>repeat(first|refine ab ‹_› rfl ?_|refine aa rfl ‹_› rfl ?_|rfl)
 ·intro _;kernel_rfl
 ·intro _ _;exact(And.intro (And.intro trivial rfl) trivial)
def ZH(a:Int)(b:List aAi):Bool:=bif Nat.beq ((Lp.res gp ((0:Int),b)).1) 0 then false else ak (↑b.length:Int) a 20
def ZI(a:List aAi):Bool:=allT [Lp.fin gp ((0:Int),a)]
def afX:aAj
 | [.one ⟨false,[.ref 0]⟩,.one ⟨false,[.val (.int .i64 a)]⟩],[.row false 9 (.str) b]=>some ⟨aAl (.val (.bool (ZH a b))),[aAn b],[],[ZI b]⟩
 |_,_=>none
def aoH:PF prog:=PF.ofG prog [Ar,Ri] [gp.F] aU 99 f99 func99 (LOk.fnT (l:= [bc f99 0]) (by kernel_rfl) (.cons agW (.nil _))) afX (by
 intro _ _ _ h;unfold afX at h;split at h<;>cases h;kernel_rfl)
abbrev mq:=Int×Int×List (Int×(aAi×Int))×List Int
section
variable (a b:Int)(c:aor)(d:avu)
def fe:Int×aAi×Int:=v7 c[v5 a]? ((0:Int),ByteArray.empty,(0:Int))
def tA:Bool:= !Ry ((fe a c).1) (((fe a c).2).1) ((fe a c).2.2)
def tB:Int:=v8 .i64 (v8 .i64 (b - fC ((fe a c).1)) + (1:Int))
def ve:Bool:=ltI a (↑c.length:Int)
def zp:Bool:=leI 0 a
def zq:Bool:=ltN a.toNat c.length
def DJ:Bool:=Rz ((fe a c).1) (((fe a c).2).1) ((fe a c).2.2)
def DK:Bool:= !(!tA a c&&true)||leI 0 a
def DL:Bool:= !(!tA a c&&true)||ltI a (↑c.length:Int)
def DM:Bool:= !(!tA a c&&true)||ltN a.toNat c.length
def DN:Bool:=bif tA a c then true else ltI b (fC ((fe a c).1))
def DO:Bool:=leN (v6 d + v6 [tB a b c]) (9223372036854775807:Nat)
def DP:Bool:=leN ((v6 d + v6 [tB a b c]) * (8:Nat)) 140737488355328
def Ca:Int:=v8 .i64 (a + (1:Int))
def Cb:Int:=tB a b c
def Cc:avu:=d++ [tB a b c]
end
def agA:mq→List (Nat×SV)
 |(a,b,_,_)=> [(6,(aAm a)),(0,(aAl (.ref 0))),(5,(aAm b)),(4,(aAl (.ref 1)))]
def ags:mq→List (Nat×Entry)
 |(_,_,a,b)=> [(0,(aAp a)),(1,(aAo b))]
def agQ:Nat→mq→List (Nat×SV)
 |0,(_,_,_,_)=> [(2,(aAl (.ref 2))),(3,(aAl (.val (.bool false))))]
 |_,(_,a,_,_)=> [(5,(aAm a)),(4,(aAl (.ref 1)))]
def agI:Nat→mq→List (Nat×Entry)
 |0,(_,_,a,b)=> [(0,(aAp a)),(1,(aAo b)),(2,(aAo []))]
 |_,(_,_,a,b)=> [(0,(aAp a)),(1,(aAo b))]
def BQ:mq→LT mq
 |(a,b,c,d)=> .ite (ve a c) (.need [zp a,ve a c,zq a c,DJ a c,DK a c,DL a c,DM a c] (.ite (DN a b c) (.ext 0 [(0,0),(1,1),(2,1344)]) (.need [zp a,ve a c,zq a c] (.need [DO a b c d,DP a b c d] (.nrm ((Ca a),Cb a b c,c,(Cc a b c d)) [(0,0),(1,2176)]))))) (.ext 1 [(0,0),(1,1)])
def Pf(s:St):Option mq:=do
 let some ⟨none,.one ⟨false,[.val (.int .i64 a)]⟩⟩:=s.look 6|none
 let some ⟨none,.one ⟨false,[.ref 0]⟩⟩:=s.look 0|none
 let some ⟨none,.one ⟨false,[.val (.int .i64 b)]⟩⟩:=s.look 5|none
 let some ⟨none,.one ⟨false,[.ref 256]⟩⟩:=s.look 4|none
 let some (.row false 66 (.pair (.int .i64) (.pair .str (.int .i64))) c):=s.ent 0|none
 let some (.row true 2 (.int .i64) d):=s.ent 256|none
 some (a,b,c,d)
def ez:Lp mq where
 h:=⟨[8,9,10,11,14,15,16,17,18,19,20,21,22,23,24,25,26,27,28,29,2,3,30,31,32,33,34,35,36,37,38,5,39,40,41,42,4,12,13,6],[0],[1],[2]⟩
 JL:=agA
 JE:=ags
 XL:=agQ
 XE:=agI
 q:=fun j=>match j with | 0=> .ret | _=> .exit 0
 tags:= [0,1]
 lt:=BQ
 fuel:=fun(a,b,c,d)=>a.natAbs + b.natAbs + c.length + d.length
 fix:=fun(_,_,c,_) (a,b,_,d)=>(a,b,c,d)
 σ:= [(0,0),(1,256)]
 rd:=Pf
theorem aeD:LoopOk prog (fun k=>Nat.blt k Tryz.f134.ntmps) ez.F (bc f134 0):=by
 refine Lp.ok (tbl:= [aiv,vz]) (lf:= []) aU ez (by kernel_rfl) (LOk.nil _) (fun _=>rfl) (fun j _=>by unfold ez;match j with | 0=>rfl | _ + 1=>rfl) ?_ ?_ ?_ ?_ (fun _=>rfl) ?_
 ·intro _;kernel_rfl
 ·intro _;kernel_rfl
 ·intro s x h
  have h:Pf s=some x:=h
  unfold Pf at h
  repeat' split at h
  all_goals cases h
  constructor<;>repeat(first|refine ab ‹_› rfl ?_|refine aa rfl ‹_› rfl ?_|rfl)
 ·intro _;kernel_rfl
 ·intro _ _;exact(And.intro (And.intro trivial rfl) trivial)
section
variable (a:aoQ)
def Nr:Int×Int×aoQ×avu:=((0:Int),(0:Int),a,[])
def Ux:Bool:=Nat.beq ((Lp.res ez (Nr a)).1) 0
def Uy:Int×aoQ×avu:=(Lp.res ez (Nr a)).2.2
def WC:Bool:=bif Ux a then false else bif (Uy a).1==1 then leI (↑a.length:Int) 40 else false
def amK:avu:=bif Ux a then []else (Uy a).2.2
def WD:Bool:=allT [Lp.fin ez (Nr a)]
end
def acv:aAj
 | [.one ⟨false,[.ref 0]⟩],[.row false 66 (.pair (.int .i64) (.pair (.str) (.int .i64))) a]=>some ⟨.tup [⟨false,[.ref 1]⟩,⟨false,[.val (.bool (WC a))]⟩],[aAp a],[aAo (amK a)],[WD a]⟩
 |_,_=>none
def VX:PF prog:=PF.ofG prog [aiv,vz] [ez.F] aU 134 f134 func134 (LOk.fnT (l:= [bc f134 0]) (by kernel_rfl) (.cons aeD (.nil _))) acv (by
 intro _ _ _ h;unfold acv at h;split at h<;>cases h;kernel_rfl)
def Tc(a:aoQ):Bool:=WC a
def Td(a:aoQ):Bool:=allT [WD a]
def ZT:aAj
 | [.one ⟨false,[.ref 0]⟩],[.row false 66 (.pair (.int .i64) (.pair (.str) (.int .i64))) a]=>some ⟨aAl (.val (.bool (Tc a))),[aAp a],[],[Td a]⟩
 |_,_=>none
def ajv:PF prog:=PF.ofG prog (T3z [VX]) [] aU 100 f100 func100 (fun c _=>LOk.nil c) ZT (by
 intro _ _ _ h;unfold ZT at h;split at h<;>cases h;kernel_rfl)
section
variable (a b c:List aAi)
def WE:List aAi:=a++b
def aj6:List aAi:=WE a b++c
def ad2:Bool:=allT [leN (0 + v6 a) 9223372036854775807,leN ((0 + v6 a) * 16) 140737488355328,leN (v6 a + v6 b) 9223372036854775807,leN ((v6 a + v6 b) * 16) 140737488355328,leN (v6 (WE a b) + v6 c) 9223372036854775807,leN ((v6 (WE a b) + v6 c) * 16) 140737488355328]
end
def ajI:aAj
 | [.one ⟨true,[.val (.string _x0),.ref 0,.ref 1,.ref 2,.val (.string _x1),.ref 3]⟩],[.row false 9 (.str) a,.row false 9 (.str) b,.row false 9 (.str) c,.row false 91 (.pair (.str) (.sl 66 (.pair (.int .i64) (.pair (.str) (.int .i64))))) d]=>some ⟨aAl (.ref 4),[aAn a,aAn b,aAn c,aAt d],[aAr (aj6 a b c)],[ad2 a b c]⟩
 |_,_=>none
def aqW:PF prog:=PF.ofG prog [] [] aU 102 f102 func102 (fun c _=>LOk.nil c) ajI (by
 intro _ _ _ h;unfold ajI at h;split at h<;>cases h;kernel_rfl)
abbrev pH:=Int×List aAi
section
variable (a:Int)(b:List aAi)
def EV:aAi:=v7 b[v5 a]? ByteArray.empty
def xf:List aAi:=List.drop (v5 0) (List.take a.toNat b)
def CN:Bool:=ltI a (↑b.length:Int)
end
def GZ:Bool:=leI 0 0
section
variable (a:Int)(b:List aAi)
def CO:Bool:=leI 0 a
def Ha:Bool:=leI a (↑b.length:Int)
def Hb:Bool:=ltN a.toNat b.length
def CP:Bool:=TL (EV a b) (xf a b)
def Hc:Bool:=leI 0 (NS (EV a b) (xf a b))
def Nx:Int:=v8 .i64 (a + (1:Int))
end
def aja:pH→List (Nat×SV)
 |(a,_)=> [(3,(aAm a)),(0,(aAl (.ref 0)))]
def ai3:pH→List (Nat×Entry)
 |(_,a)=> [(0,(aAn a))]
def ajo:Nat→pH→List (Nat×SV)
 |0,(_,_)=> [(2,(aAl (.val (.bool true))))]
 |_,_=>[]
def EK:pH→LT pH
 |(a,b)=> .ite (CN a b) (.need [GZ,CO a,Ha a b,CO a,CN a b,Hb a b,CP a b] (.ite (Hc a b) (.ext 0 [(0,0)]) (.nrm ((Nx a),b) [(0,0)]))) (.ext 1 [(0,0)])
def Tb(s:St):Option pH:=do
 let some ⟨none,.one ⟨false,[.val (.int .i64 a)]⟩⟩:=s.look 3|none
 let some ⟨none,.one ⟨false,[.ref 0]⟩⟩:=s.look 0|none
 let some (.row false 9 (.str) b):=s.ent 0|none
 some (a,b)
def gq:Lp pH where
 h:=⟨[4,5,6,7,10,11,12,13,14,15,16,17,18,2,8,9,3],[0],[],[]⟩
 JL:=aja
 JE:=ai3
 XL:=ajo
 XE:=fun _=>ai3
 q:=fun j=>match j with | 0=> .ret | _=> .exit 0
 tags:= [0,1]
 lt:=EK
 fuel:=fun(a,b)=>a.natAbs + b.length
 fix:=fun(_,b) (a,_)=>(a,b)
 σ:= [(0,0)]
 rd:=Tb
theorem ag0:LoopOk prog (fun k=>Nat.blt k Tryz.f101.ntmps) gq.F (bc f101 0):=by
 refine Lp.ok (tbl:= (T3z [Eu])) (lf:= []) aU gq (by kernel_rfl) (LOk.nil _) (fun _=>rfl) (fun j _=>by unfold gq;match j with | 0=>rfl | _ + 1=>rfl) ?_ ?_ ?_ ?_ (fun _=>rfl) ?_
 ·intro _;kernel_rfl
 ·intro _;kernel_rfl
 ·intro s x h
  have h:Tb s=some x:=h
  unfold Tb at h
  repeat' split at h
  all_goals cases h
  constructor<;>repeat(first|refine ab ‹_› rfl ?_|refine aa rfl ‹_› rfl ?_|rfl)
 ·intro _;kernel_rfl
 ·intro _ _;exact(And.intro (And.intro trivial rfl) trivial)
def ZL(a:List aAi):Bool:=bif Nat.beq ((Lp.res gq ((0:Int),a)).1) 0 then true else false
def ZM(a:List aAi):Bool:=allT [Lp.fin gq ((0:Int),a)]
def af1:aAj
 | [.one ⟨false,[.ref 0]⟩],[.row false 9 (.str) a]=>some ⟨aAl (.val (.bool (ZL a))),[aAn a],[],[ZM a]⟩
 |_,_=>none
def aoI:PF prog:=PF.ofG prog (T3z [Eu]) [gq.F] aU 101 f101 func101 (LOk.fnT (l:= [bc f101 0]) (by kernel_rfl) (.cons ag0 (.nil _))) af1 (by
 intro _ _ _ h;unfold af1 at h;split at h<;>cases h;kernel_rfl)
abbrev pc:=Int×Int×aAi×aAi×List (Int×(aAi×Int))×List aAi×List aAi×List aAi×List (aAi×(List (Int×(aAi×Int))))
section
variable (a b:Int)(c:aor)(d:aiJ)
def Lj:Bool:=ltI b (↑d.length:Int)
def En:Bool:=ltN b.toNat d.length
def ug:aoQ:=(v7 d[v5 b]? (vB aaP)).2
def uh:Bool:=ltI a (↑(v6 (ug b d)):Int)
def ui:Int×aAi×Int:=v7 (ug b d)[v5 a]? ((0:Int),ByteArray.empty,(0:Int))
def fD:Bool:=leI 7 ((ui a b d).1)
def uj:aoQ:= [((ui a b d).1,((ui a b d).2).1,(ui a b d).2.2)]
def wy:Bool:=leI 0 b
def wz:Bool:=Lj b d
def wA:Bool:=En b d
def wB:Bool:=uh a b d
def AD:Bool:=leI 0 a
def AE:Bool:=ltN a.toNat (v6 (ug b d))
def AF:Bool:= !fD a b d||leI 0 b
def AG:Bool:= !fD a b d||Lj b d
def AH:Bool:= !fD a b d||En b d
def AJ:Bool:= !fD a b d||leI 0 a
def zs:Bool:= !fD a b d||uh a b d
def zt:Bool:= !fD a b d||ltN a.toNat (v6 (ug b d))
def zu:Bool:= !fD a b d||leN (v6 c + v6 (uj a b d)) 9223372036854775807
def zw:Bool:= !fD a b d||leN ((v6 c + v6 (uj a b d)) * 32) 140737488355328
def zx:Bool:=fD a b d
def uf:Int:=v8 .i64 (a + (1:Int))
def zy:aor:=c++uj a b d
end
def aej:pc→List (Nat×SV)
 |(a,b,_,_,_,_,_,_,_)=> [(5,(aAm a)),(1,(aAl (.ptr 0 0))),(4,(aAm b)),(3,(aAl (.ref 1)))]
def aei:pc→List (Nat×Entry)
 |(_,_,a,b,c,d,e,f,g)=> [(0,(.box 27 [.val (.string a),.ref 2,.ref 3,.ref 4,.val (.string b),.ref 5])),(2,(aAn d)),(3,(aAn e)),(4,(aAn f)),(5,(aAs g)),(1,(aAv c))]
def aeo:Nat→pc→List (Nat×SV)
 |_,(_,_,_,_,_,_,_,_,_)=> [(3,(aAl (.ref 1)))]
def aen:Nat→pc→List (Nat×Entry)
 |_,(_,_,a,b,c,d,e,f,g)=> [(0,(.box 27 [.val (.string a),.ref 2,.ref 3,.ref 4,.val (.string b),.ref 5])),(1,(aAv c)),(2,(aAn d)),(3,(aAn e)),(4,(aAn f)),(5,(aAs g))]
def ze:pc→LT pc
 |(a,b,c,d,e,f,g,i,j)=> .need [wy b,wz b j,wA b j] (.ite (wB a b j) (.need [wy b,wz b j,wA b j,AD a,wB a b j,AE a b j] (.need [AF a b j,AG a b j,AH a b j,AJ a b j,zs a b j,zt a b j,zu a b e j,zw a b e j] (.ite (zx a b j) (.nrm ((uf a),b,c,d,zy a b e j,f,g,i,j) [(0,0),(1,2048),(2,2),(3,3),(4,4),(5,5)]) (.nrm ((uf a),b,c,d,e,f,g,i,j) [(0,0),(1,1),(2,2),(3,3),(4,4),(5,5)])))) (.ext 0 [(0,0),(1,1),(2,2),(3,3),(4,4),(5,5)]))
def Ld(s:St):Option pc:=do
 let some ⟨none,.one ⟨false,[.val (.int .i64 a)]⟩⟩:=s.look 5|none
 let some ⟨none,.one ⟨false,[.ptr 0 0]⟩⟩:=s.look 1|none
 let some ⟨none,.one ⟨false,[.val (.int .i64 b)]⟩⟩:=s.look 4|none
 let some ⟨none,.one ⟨false,[.ref 1]⟩⟩:=s.look 3|none
 let some (.box 27 [.val (.string c),.ref 2,.ref 3,.ref 4,.val (.string d),.ref 5]):=s.ent 0|none
 let some (.row false 9 (.str) f):=s.ent 2|none
 let some (.row false 9 (.str) g):=s.ent 3|none
 let some (.row false 9 (.str) i):=s.ent 4|none
 let some (.row false 91 (.pair .str (.sl 66 (.pair (.int .i64) (.pair .str (.int .i64))))) j):=s.ent 5|none
 let some (.row true 66 (.pair (.int .i64) (.pair .str (.int .i64))) e):=s.ent 1|none
 some (a,b,c,d,e,f,g,i,j)
def fv:Lp pc where
 h:=⟨[14,15,16,17,18,19,20,21,22,25,26,27,28,29,30,31,32,33,34,35,36,37,38,39,40,41,42,43,44,45,46,47,3,23,24,5],[0,2,3,4,5],[1],[]⟩
 JL:=aej
 JE:=aei
 XL:=aeo
 XE:=aen
 q:=fun j=>match j with | _=> .exit 2
 tags:= [0]
 lt:=ze
 fuel:=fun(a,b,c,d,e,f,g,i,k)=>a.natAbs + b.natAbs + c.size + d.size + e.length + f.length + g.length + i.length + k.length
 fix:=fun(_,b,c,d,_,f,g,i,k) (a,_,_,_,e,_,_,_,_)=>(a,b,c,d,e,f,g,i,k)
 σ:= [(0,0),(2,2),(3,3),(4,4),(5,5),(1,1)]
 rd:=Ld
theorem acl:LoopOk prog (memN [7,8,9,10,11,5,14,15,16,17,18,19,20,21,22,25,26,27,28,29,30,31,32,33,34,35,36,37,38,39,40,41,42,43,44,45,46,47,3,23,24,12,13,4]) fv.F (ZA (bc f58 0) 0):=by
 refine Lp.ok (tbl:= []) (lf:= []) aU fv (by kernel_rfl) (LOk.nil _) (fun _=>rfl) (fun _ _=>rfl) ?_ ?_ ?_ ?_ (fun _=>rfl) ?_
 ·intro _;kernel_rfl
 ·intro _;kernel_rfl
 ·intro s x h
  have h:Ld s=some x:=h
  unfold Ld at h
  repeat' split at h
  all_goals cases h
  constructor<;>repeat(first|refine ab ‹_› rfl ?_|refine aa rfl ‹_› rfl ?_|rfl)
 ·intro _;kernel_rfl
 ·intro _ _;exact(And.intro (And.intro rfl rfl) trivial)
abbrev sO:=Int×aAi×aAi×List (Int×(aAi×Int))×List aAi×List aAi×List aAi×List (aAi×(List (Int×(aAi×Int))))
section
variable (a:Int)(b c:aAi)(d:aor)(e f g:List aAi)(i:aiJ)
def DQ:Int×Int×aAi×aAi×aoQ×List aAi×List aAi×List aAi×aiK:=((0:Int),a,b,c,d,e,f,g,i)
def EQ:Bool:=ltI a (↑i.length:Int)
def ER:Bool:=Lp.fin fv (DQ a b c d e f g i)
def ET:Int:=v8 .i64 (a + (1:Int))
def EU:aor:=((Lp.res fv (DQ a b c d e f g i)).2.2.2.2.2).1
end
def ahx:sO→List (Nat×SV)
 |(a,_,_,_,_,_,_,_)=> [(4,(aAm a)),(1,(aAl (.ptr 0 0))),(3,(aAl (.ref 1)))]
def ahu:sO→List (Nat×Entry)
 |(_,a,b,c,d,e,f,g)=> [(0,(.box 27 [.val (.string a),.ref 2,.ref 3,.ref 4,.val (.string b),.ref 5])),(2,(aAn d)),(3,(aAn e)),(4,(aAn f)),(5,(aAs g)),(1,(aAv c))]
def ahS:Nat→sO→List (Nat×SV)
 |_,(_,_,_,_,_,_,_,_)=> [(3,(aAl (.ref 1)))]
def ahP:Nat→sO→List (Nat×Entry)
 |_,(_,a,b,c,d,e,f,g)=> [(0,(.box 27 [.val (.string a),.ref 2,.ref 3,.ref 4,.val (.string b),.ref 5])),(1,(aAv c)),(2,(aAn d)),(3,(aAn e)),(4,(aAn f)),(5,(aAs g))]
def Dr:sO→LT sO
 |(a,b,c,d,e,f,g,i)=> .ite (EQ a i) (.need [ER a b c d e f g i] (.nrm ((ET a),b,c,EU a b c d e f g i,e,f,g,i) [(0,0),(1,448),(2,2),(3,3),(4,4),(5,5)])) (.ext 0 [(0,0),(1,1),(2,2),(3,3),(4,4),(5,5)])
def Rm(s:St):Option sO:=do
 let some ⟨none,.one ⟨false,[.val (.int .i64 a)]⟩⟩:=s.look 4|none
 let some ⟨none,.one ⟨false,[.ptr 320 0]⟩⟩:=s.look 1|none
 let some ⟨none,.one ⟨false,[.ref 448]⟩⟩:=s.look 3|none
 let some (.box 27 [.val (.string b),.ref 0,.ref 1,.ref 2,.val (.string c),.ref 3]):=s.ent 320|none
 let some (.row false 9 (.str) e):=s.ent 0|none
 let some (.row false 9 (.str) f):=s.ent 1|none
 let some (.row false 9 (.str) g):=s.ent 2|none
 let some (.row false 91 (.pair .str (.sl 66 (.pair (.int .i64) (.pair .str (.int .i64))))) i):=s.ent 3|none
 let some (.row true 66 (.pair (.int .i64) (.pair .str (.int .i64))) d):=s.ent 448|none
 some (a,b,c,d,e,f,g,i)
def kB:Lp sO where
 h:=⟨[7,8,9,10,11,5,14,15,16,17,18,19,20,21,22,25,26,27,28,29,30,31,32,33,34,35,36,37,38,39,40,41,42,43,44,45,46,47,3,23,24,12,13,4],[0,2,3,4,5],[1],[]⟩
 JL:=ahx
 JE:=ahu
 XL:=ahS
 XE:=ahP
 q:=fun j=>match j with | _=> .exit 0
 tags:= [0]
 lt:=Dr
 fuel:=fun(a,b,c,d,e,f,g,i)=>a.natAbs + b.size + c.size + d.length + e.length + f.length + g.length + i.length
 fix:=fun(_,b,c,_,e,f,g,i) (a,_,_,d,_,_,_,_)=>(a,b,c,d,e,f,g,i)
 σ:= [(0,320),(2,0),(3,1),(4,2),(5,3),(1,448)]
 rd:=Rm
theorem afC:LoopOk prog (fun k=>Nat.blt k Tryz.f58.ntmps) kB.F (bc f58 0):=by
 refine Lp.ok (tbl:= []) (lf:= [fv.F]) aU kB (by kernel_rfl) (LOk.allT (l:= [ZA (bc f58 0) 0]) (by kernel_rfl) (.cons acl (.nil _))) (fun _=>rfl) (fun _ _=>rfl) ?_ ?_ ?_ ?_ (fun _=>rfl) ?_
 ·intro _;kernel_rfl
 ·intro _;kernel_rfl
 ·intro s x h
  have h:Rm s=some x:=h
  unfold Rm at h
  repeat' split at h
  all_goals cases h
  constructor<;>repeat(first|refine ab ‹_› rfl ?_|refine aa rfl ‹_› rfl ?_|rfl)
 ·intro _;kernel_rfl
 ·intro _ _;exact(And.intro rfl trivial)
section
variable (a b:aAi)(c d e:List aAi)(f:aiK)
def WF:Int×aAi×aAi×aoQ×List aAi×List aAi×List aAi×aiK:=((0:Int),a,b,[],c,d,e,f)
def XZ:aor:=((Lp.res kB (WF a b c d e f)).2.2.2.2).1
def Ya:Bool:=allT [Lp.fin kB (WF a b c d e f)]
end
def aeg:aAj
 | [.one ⟨true,[.val (.string a),.ref 0,.ref 1,.ref 2,.val (.string b),.ref 3]⟩],[.row false 9 (.str) c,.row false 9 (.str) d,.row false 9 (.str) e,.row false 91 (.pair (.str) (.sl 66 (.pair (.int .i64) (.pair (.str) (.int .i64))))) f]=>some ⟨aAl (.ref 4),[aAn c,aAn d,aAn e,aAt f],[aAv (XZ a b c d e f)],[Ya a b c d e f]⟩
 |_,_=>none
def anB:PF prog:=PF.ofG prog [] [kB.F] aU 58 f58 func58 (LOk.fnT (l:= [bc f58 0]) (by kernel_rfl) (.cons afC (.nil _))) aeg (by
 intro _ _ _ h;unfold aeg at h;split at h<;>cases h;kernel_rfl)
def amn(a:aAi):Bool:= !ox a
def acn:aAj
 | [.one ⟨false,[.val (.string a)]⟩],[]=>some ⟨aAl (.val (.bool (amn a))),[],[],[]⟩
 |_,_=>none
def amA:PF prog:=PF.ofG prog [Ts] [] aU 124 f124 func124 (fun c _=>LOk.nil c) acn (by
 intro _ _ _ h;unfold acn at h;split at h<;>cases h;kernel_rfl)
def Eg(a:aAi):Bool:= !ox a
def UR:aAj
 | [.one ⟨false,[.val (.string a)]⟩],[]=>some ⟨aAl (.val (.bool (Eg a))),[],[],[]⟩
 |_,_=>none
def UY:PF prog:=PF.ofG prog [Ts] [] aU 124 f124 func124 (fun c _=>LOk.nil c) UR (by
 intro _ _ _ h;unfold UR at h;split at h<;>cases h;kernel_rfl)
abbrev bP:=Int×Int×List aAi
section
variable (a b:Int)(c:List aAi)
def iN:Bool:=ltI a b
def iO:Bool:=leI 0 a
def iP:Bool:=ltI a (↑c.length:Int)
def iQ:Bool:=ltN a.toNat c.length
def iR:Bool:=Eg (v7 c[v5 a]? ByteArray.empty)
def iS:Int:=v8 .i64 (a + (1:Int))
end
def Mr:bP→List (Nat×SV)
 |(a,b,_)=> [(8,(aAm a)),(7,(aAm b)),(1,(aAl (.val (.func (.func 124) ⟨[]⟩ ⟨[]⟩)))),(0,(aAl (.ref 0)))]
def Mo:bP→List (Nat×Entry)
 |(_,_,a)=> [(0,(aAn a))]
def My:Nat→bP→List (Nat×SV)
 |0,(a,_,_)=> [(4,(aAm a))]
 |_,_=>[]
def iw:bP→LT bP
 |(a,b,c)=> .ite (iN a b) (.need [iO a,iP a c,iQ a c] (.ite (iR a c) (.ext 0 [(0,0)]) (.nrm ((iS a),b,c) [(0,0)]))) (.ext 1 [(0,0)])
def rQ(s:St):Option bP:=do
 let some ⟨none,.one ⟨false,[.val (.int .i64 a)]⟩⟩:=s.look 8|none
 let some ⟨none,.one ⟨false,[.val (.int .i64 b)]⟩⟩:=s.look 7|none
 let some ⟨none,.one ⟨false,[.val (.func (.func 124) ⟨[]⟩ ⟨[]⟩)]⟩⟩:=s.look 1|none
 let some ⟨none,.one ⟨false,[.ref 0]⟩⟩:=s.look 0|none
 let some (.row false 9 (.str) c):=s.ent 0|none
 some (a,b,c)
def am:Lp bP where
 h:=⟨[9,10,5,11,12,13,14,15,16,17,4,18,8],[0],[],[]⟩
 JL:=Mr
 JE:=Mo
 XL:=My
 XE:=fun _=>Mo
 q:=fun j=>match j with | 0=> .ret | _=> .exit 0
 tags:= [0,1]
 lt:=iw
 fuel:=fun(a,b,c)=>a.natAbs + b.natAbs + c.length
 fix:=fun(_,b,c) (a,_,_)=>(a,b,c)
 σ:= [(0,0)]
 rd:=rQ
theorem KX:LoopOk prog (fun k=>Nat.blt k Tryz.f129.ntmps) am.F (bc f129 0):=by
 refine Lp.ok (tbl:= [UY]) (lf:= []) aU am (by kernel_rfl) (LOk.nil _) (fun _=>rfl) (fun j _=>by unfold am;match j with | 0=>rfl | _ + 1=>rfl) ?_ ?_ ?_ ?_ (fun _=>rfl) ?_
 ·intro _;kernel_rfl
 ·intro _;kernel_rfl
 ·intro s x h
  have h:rQ s=some x:=h
  unfold rQ at h
  repeat' split at h
  all_goals cases h
  constructor<;>repeat(first|refine ab ‹_› rfl ?_|refine aa rfl ‹_› rfl ?_|rfl)
 ·intro _;kernel_rfl
 ·intro _ _;exact(And.intro (And.intro trivial rfl) trivial)
section
variable (a:List aAi)
def oM:Int×Int×List aAi:=((0:Int),(↑a.length:Int),a)
def uN:Int:=bif Nat.beq ((Lp.res am (oM a)).1) 0 then ((Lp.res am (oM a)).2).1else(-1:Int)
def uO:Bool:=allT [Lp.fin am (oM a)]
end
def Di:aAj
 | [.one ⟨false,[.ref 0]⟩,.one ⟨false,[.val (.func (.func 124) ⟨[]⟩ ⟨[]⟩)]⟩],[.row false 9 (.str) a]=>some ⟨aAm (uN a),[aAn a],[],[uO a]⟩
 |_,_=>none
def uz:PF prog:=PF.ofG prog [UY] [am.F] aU 129 f129 func129 (LOk.fnT (l:= [bc f129 0]) (by kernel_rfl) (.cons KX (.nil _))) Di (by
 intro _ _ _ h;unfold Di at h;split at h<;>cases h;kernel_rfl)
def su(a:List aAi):Bool:=leI 0 (uN a)
def sv(a:List aAi):Bool:=allT [uO a]
def Bf:aAj
 | [.one ⟨false,[.ref 0]⟩,.one ⟨false,[.val (.func (.func 124) ⟨[]⟩ ⟨[]⟩)]⟩],[.row false 9 (.str) a]=>some ⟨aAl (.val (.bool (su a))),[aAn a],[],[sv a]⟩
 |_,_=>none
def sm:PF prog:=PF.ofG prog (T3z [uz]) [] aU 89 f89 func89 (fun c _=>LOk.nil c) Bf (by
 intro _ _ _ h;unfold Bf at h;split at h<;>cases h;kernel_rfl)
def Zs(a:List aAi):Bool:= !su a
def Zt(a:List aAi):Bool:=allT [sv a]
def afQ:aAj
 | [.one ⟨false,[.ref 0]⟩],[.row false 9 (.str) a]=>some ⟨aAl (.val (.bool (Zs a))),[aAn a],[],[Zt a]⟩
 |_,_=>none
def aoB:PF prog:=PF.ofG prog (T3z [amA,sm]) [] aU 80 f80 func80 (fun c _=>LOk.nil c) afQ (by
 intro _ _ _ h;unfold afQ at h;split at h<;>cases h;kernel_rfl)
abbrev sD:=Int×Int×Int×Int×List (Int×(aAi×Int))
section
variable (a b c d:Int)(e:aor)
def tH:Int×aAi×Int:=v7 e[v5 a]? ((0:Int),ByteArray.empty,(0:Int))
def Af:Int:=v8 .i64 (c + v8 .i64 ((1:Int) - vC ((tH a e).1)))
def KJ:Bool:=ltI a b
def KK:Bool:=leI 0 a
def KL:Bool:=ltI a (↑e.length:Int)
def KM:Bool:=ltN a.toNat e.length
def KN:Bool:=bif !Ob ((tH a e).1) (((tH a e).2).1) ((tH a e).2.2)then true else ltI c (vC ((tH a e).1))
def KO:Int:=v8 .i64 (a + (1:Int))
def KP:Int:=Af a c e
def KQ:Int:=anf d (Af a c e) (Af a c e) d
end
def alZ:sD→List (Nat×SV)
 |(a,b,c,d,_)=> [(10,(aAm a)),(9,(aAm b)),(8,(aAl (.ref 0))),(4,(aAm c)),(5,(aAm d))]
def alW:sD→List (Nat×Entry)
 |(_,_,_,_,a)=> [(0,(aAp a))]
def al5:Nat→sD→List (Nat×SV)
 |0,(_,_,_,_,_)=> [(2,(aAm 0)),(3,(aAl (.val (.bool false))))]
 |_,(_,_,a,b,_)=> [(4,(aAm a)),(5,(aAm b))]
def Ij:sD→LT sD
 |(a,b,c,d,e)=> .ite (KJ a b) (.need [KK a,KL a e,KM a e] (.ite (KN a c e) (.ext 0 [(0,0)]) (.nrm ((KO a),b,KP a c e,KQ a c d e,e) [(0,0)]))) (.ext 1 [(0,0)])
def We(s:St):Option sD:=do
 let some ⟨none,.one ⟨false,[.val (.int .i64 a)]⟩⟩:=s.look 10|none
 let some ⟨none,.one ⟨false,[.val (.int .i64 b)]⟩⟩:=s.look 9|none
 let some ⟨none,.one ⟨false,[.ref 0]⟩⟩:=s.look 8|none
 let some ⟨none,.one ⟨false,[.val (.int .i64 c)]⟩⟩:=s.look 4|none
 let some ⟨none,.one ⟨false,[.val (.int .i64 d)]⟩⟩:=s.look 5|none
 let some (.row false 66 (.pair (.int .i64) (.pair .str (.int .i64))) e):=s.ent 0|none
 some (a,b,c,d,e)
def ir:Lp sD where
 h:=⟨[11,12,13,7,14,15,16,17,18,19,20,21,22,23,2,3,24,25,26,27,28,29,4,30,31,32,5,33,10],[0],[],[]⟩
 JL:=alZ
 JE:=alW
 XL:=al5
 XE:=fun _=>alW
 q:=fun j=>match j with | 0=> .ret | _=> .exit 0
 tags:= [0,1]
 lt:=Ij
 fuel:=fun(a,b,c,d,e)=>a.natAbs + b.natAbs + c.natAbs + d.natAbs + e.length
 fix:=fun(_,b,_,_,e) (a,_,c,d,_)=>(a,b,c,d,e)
 σ:= [(0,0)]
 rd:=We
theorem ajs:LoopOk prog (fun k=>Nat.blt k Tryz.f144.ntmps) ir.F (bc f144 0):=by
 refine Lp.ok (tbl:= [adV,XO]) (lf:= []) aU ir (by kernel_rfl) (LOk.nil _) (fun _=>rfl) (fun j _=>by unfold ir;match j with | 0=>rfl | _ + 1=>rfl) ?_ ?_ ?_ ?_ (fun _=>rfl) ?_
 ·intro _;kernel_rfl
 ·intro _;kernel_rfl
 ·intro s x h
  have h:We s=some x:=h
  unfold We at h
  repeat' split at h
  all_goals cases h
  constructor<;>repeat(first|refine ab ‹_› rfl ?_|refine aa rfl ‹_› rfl ?_|rfl)
 ·intro _;kernel_rfl
 ·intro _ _;exact(And.intro (And.intro trivial rfl) trivial)
section
variable (a:aoQ)
def VH:Int×Int×Int×Int×aoQ:=((0:Int),(↑a.length:Int),(0:Int),(0:Int),a)
def aa7:Bool:=Nat.beq ((Lp.res ir (VH a)).1) 0
def aa8:Int×Int×aoQ:=(Lp.res ir (VH a)).2.2.2
def aqK:Int:=bif aa7 a then(0:Int)else ((aa8 a).2).1
def adC:Bool:=bif aa7 a then false else (aa8 a).1==1
def adD:Bool:=allT [Lp.fin ir (VH a)]
end
def ajA:aAj
 | [.one ⟨false,[.ref 0]⟩],[.row false 66 (.pair (.int .i64) (.pair (.str) (.int .i64))) a]=>some ⟨.tup [⟨false,[aAk (aqK a)]⟩,⟨false,[.val (.bool (adC a))]⟩],[aAp a],[],[adD a]⟩
 |_,_=>none
def adU:PF prog:=PF.ofG prog [adV,XO] [ir.F] aU 144 f144 func144 (LOk.fnT (l:= [bc f144 0]) (by kernel_rfl) (.cons ajs (.nil _))) ajA (by
 intro _ _ _ h;unfold ajA at h;split at h<;>cases h;kernel_rfl)
def JT(a:aoQ):Bool:=bif adC a then leI (↑a.length:Int) 40 else false
def JU(a:aoQ):Bool:=allT [adD a]
def ZR:aAj
 | [.one ⟨false,[.ref 0]⟩],[.row false 66 (.pair (.int .i64) (.pair (.str) (.int .i64))) a]=>some ⟨aAl (.val (.bool (JT a))),[aAp a],[],[JU a]⟩
 |_,_=>none
def SJ:PF prog:=PF.ofG prog (T3z [adU]) [] aU 128 f128 func128 (fun c _=>LOk.nil c) ZR (by
 intro _ _ _ h;unfold ZR at h;split at h<;>cases h;kernel_rfl)
def adE(a:aAi)(b:aoQ):Bool:=bif ox a then JT b else false
def adF(a:aAi)(b:aoQ):Bool:=allT [!(ox a&&true)||JU b]
def ajB:aAj
 | [.one ⟨true,[.val (.string a),.ref 0]⟩],[.row false 66 (.pair (.int .i64) (.pair (.str) (.int .i64))) b]=>some ⟨aAl (.val (.bool (adE a b))),[aAp b],[],[adF a b]⟩
 |_,_=>none
def aqS:PF prog:=PF.ofG prog (T3z [Ts,SJ]) [] aU 85 f85 func85 (fun c _=>LOk.nil c) ajB (by
 intro _ _ _ h;unfold ajB at h;split at h<;>cases h;kernel_rfl)
abbrev pC:=Int×Int×List aAi
section
variable (a b:Int)(c:List aAi)
def ED:aAi:=v7 c[v5 a]? ByteArray.empty
def wS:List aAi:=List.drop (v5 0) (List.take a.toNat c)
def FV:Bool:=ltI a b
def Cu:Bool:=leI 0 a
def FW:Bool:=ltI a (↑c.length:Int)
def FX:Bool:=ltN a.toNat c.length
end
def FY:Bool:=leI 0 0
section
variable (a:Int)(b:List aAi)
def FZ:Bool:=leI a (↑b.length:Int)
def Cv:Bool:=mc (ED a b) (wS a b)
def Ga:Bool:=jg (ED a b) (wS a b)
def MK:Int:=v8 .i64 (a + (1:Int))
end
def ai4:pC→List (Nat×SV)
 |(a,b,_)=> [(7,(aAm a)),(6,(aAm b)),(5,(aAl (.ref 0))),(0,(aAl (.ref 0)))]
def aiX:pC→List (Nat×Entry)
 |(_,_,a)=> [(0,(aAn a))]
def aji:Nat→pC→List (Nat×SV)
 |0,(_,_,_)=> [(2,(aAl (.val (.bool true))))]
 |_,_=>[]
def EE:pC→LT pC
 |(a,b,c)=> .ite (FV a b) (.need [Cu a,FW a c,FX a c] (.need [FY,Cu a,FZ a c,Cv a c] (.ite (Ga a c) (.ext 0 [(0,0)]) (.nrm ((MK a),b,c) [(0,0)])))) (.ext 1 [(0,0)])
def SR(s:St):Option pC:=do
 let some ⟨none,.one ⟨false,[.val (.int .i64 a)]⟩⟩:=s.look 7|none
 let some ⟨none,.one ⟨false,[.val (.int .i64 b)]⟩⟩:=s.look 6|none
 let some ⟨none,.one ⟨false,[.ref 0]⟩⟩:=s.look 5|none
 let some ⟨none,.one ⟨false,[.ref 0]⟩⟩:=s.look 0|none
 let some (.row false 9 (.str) c):=s.ent 0|none
 some (a,b,c)
def gm:Lp pC where
 h:=⟨[8,9,10,11,3,4,12,13,14,15,16,2,17,7],[0],[],[]⟩
 JL:=ai4
 JE:=aiX
 XL:=aji
 XE:=fun _=>aiX
 q:=fun j=>match j with | 0=> .ret | _=> .exit 0
 tags:= [0,1]
 lt:=EE
 fuel:=fun(a,b,c)=>a.natAbs + b.natAbs + c.length
 fix:=fun(_,b,c) (a,_,_)=>(a,b,c)
 σ:= [(0,0)]
 rd:=SR
theorem agU:LoopOk prog (fun k=>Nat.blt k Tryz.f86.ntmps) gm.F (bc f86 0):=by
 refine Lp.ok (tbl:= (T3z [ej])) (lf:= []) aU gm (by kernel_rfl) (LOk.nil _) (fun _=>rfl) (fun j _=>by unfold gm;match j with | 0=>rfl | _ + 1=>rfl) ?_ ?_ ?_ ?_ (fun _=>rfl) ?_
 ·intro _;kernel_rfl
 ·intro _;kernel_rfl
 ·intro s x h
  have h:SR s=some x:=h
  unfold SR at h
  repeat' split at h
  all_goals cases h
  constructor<;>repeat(first|refine ab ‹_› rfl ?_|refine aa rfl ‹_› rfl ?_|rfl)
 ·intro _;kernel_rfl
 ·intro _ _;exact(And.intro (And.intro trivial rfl) trivial)
section
variable (a:List aAi)
def XI:Int×Int×List aAi:=((0:Int),(↑a.length:Int),a)
def Zy:Bool:=bif Nat.beq ((Lp.res gm (XI a)).1) 0 then true else false
def Zz:Bool:=allT [Lp.fin gm (XI a)]
end
def afS:aAj
 | [.one ⟨false,[.ref 0]⟩],[.row false 9 (.str) a]=>some ⟨aAl (.val (.bool (Zy a))),[aAn a],[],[Zz a]⟩
 |_,_=>none
def aoD:PF prog:=PF.ofG prog (T3z [ej]) [gm.F] aU 86 f86 func86 (LOk.fnT (l:= [bc f86 0]) (by kernel_rfl) (.cons agU (.nil _))) afS (by
 intro _ _ _ h;unfold afS at h;split at h<;>cases h;kernel_rfl)
abbrev bq:=Int×Int×List (Int×(aAi×Int))×List (Int×(aAi×Int))
section
variable (a b:Int)(c d:aor)
def bd:Int×aAi×Int:=v7 c[v5 a]? ((0:Int),ByteArray.empty,(0:Int))
def cV:Bool:=leI 7 ((bd a c).1)
def cW:aoQ:= [((bd a c).1,((bd a c).2).1,(bd a c).2.2)]
def fI:Bool:=ltI a b
def fJ:Bool:=leI 0 a
def fK:Bool:=ltI a (↑c.length:Int)
def fL:Bool:=ltN a.toNat c.length
def fM:Bool:= !cV a c||leN (v6 d + v6 (cW a c)) 9223372036854775807
def fN:Bool:= !cV a c||leN ((v6 d + v6 (cW a c)) * 32) 140737488355328
def fO:Bool:=cV a c
def em:Int:=v8 .i64 (a + (1:Int))
def fP:aor:=d++cW a c
end
def HC:bq→List (Nat×SV)
 |(a,b,_,_)=> [(18,(aAm a)),(17,(aAm b)),(16,(aAl (.ref 0))),(3,(aAl (.ref 1)))]
def HB:bq→List (Nat×Entry)
 |(_,_,a,b)=> [(0,(aAp a)),(1,(aAv b))]
def HE:Nat→bq→List (Nat×SV)
 |_,(_,_,_,_)=> [(3,(aAl (.ref 1)))]
def fk:bq→LT bq
 |(a,b,c,d)=> .ite (fI a b) (.need [fJ a,fK a c,fL a c] (.need [fM a c d,fN a c d] (.ite (fO a c) (.nrm ((em a),b,c,(fP a c d)) [(0,0),(1,768)]) (.nrm ((em a),b,c,d) [(0,0),(1,1)])))) (.ext 0 [(0,0),(1,1)])
def oW(s:St):Option bq:=do
 let some ⟨none,.one ⟨false,[.val (.int .i64 a)]⟩⟩:=s.look 18|none
 let some ⟨none,.one ⟨false,[.val (.int .i64 b)]⟩⟩:=s.look 17|none
 let some ⟨none,.one ⟨false,[.ref 192]⟩⟩:=s.look 16|none
 let some ⟨none,.one ⟨false,[.ref 1]⟩⟩:=s.look 3|none
 let some (.row false 66 (.pair (.int .i64) (.pair .str (.int .i64))) c):=s.ent 192|none
 let some (.row true 66 (.pair (.int .i64) (.pair .str (.int .i64))) d):=s.ent 1|none
 some (a,b,c,d)
def ag:Lp bq where
 h:=⟨[19,20,21,7,22,23,24,25,26,27,28,3,29,18],[0],[1],[]⟩
 JL:=HC
 JE:=HB
 XL:=HE
 XE:=fun _=>HB
 q:=fun j=>match j with | _=> .exit 2
 tags:= [0]
 lt:=fk
 fuel:=fun(a,b,c,d)=>a.natAbs + b.natAbs + c.length + d.length
 fix:=fun(_,b,c,_) (a,_,_,d)=>(a,b,c,d)
 σ:= [(0,192),(1,1)]
 rd:=oW
theorem Gq:LoopOk prog (memN [12,13,14,5,15,16,17,18,19,20,21,7,22,23,24,25,26,27,28,3,29,30,11]) ag.F (ZA (bc f94 0) 0):=by
 refine Lp.ok (tbl:= []) (lf:= []) aU ag (by kernel_rfl) (LOk.nil _) (fun _=>rfl) (fun _ _=>rfl) ?_ ?_ ?_ ?_ (fun _=>rfl) ?_
 ·intro _;kernel_rfl
 ·intro _;kernel_rfl
 ·intro s x h
  have h:oW s=some x:=h
  unfold oW at h
  repeat' split at h
  all_goals cases h
  constructor<;>repeat(first|refine ab ‹_› rfl ?_|refine aa rfl ‹_› rfl ?_|rfl)
 ·intro _;kernel_rfl
 ·intro _ _;exact(And.intro (And.intro rfl rfl) trivial)
abbrev bA:=Int×Int×List (aAi×(List (Int×(aAi×Int))))×List (Int×(aAi×Int))
section
variable (a b:Int)(c:aiJ)(d:aor)
def cv:aoQ:=(v7 c[v5 a]? (vB aaP)).2
def eF:Int×Int×aoQ×aoQ:=((0:Int),(↑(v6 (cv a c)):Int),cv a c,d)
def gu:Bool:=ltI a b
def kV:Bool:=leI 0 a
def kW:Bool:=ltI a (↑c.length:Int)
def kX:Bool:=ltN a.toNat c.length
def gw:Bool:=Lp.fin ag (eF a c d)
def qL:Int:=v8 .i64 (a + (1:Int))
def kY:aor:=(Lp.res ag (eF a c d)).2.2.2.2
end
def JM:bA→List (Nat×SV)
 |(a,b,_,_)=> [(11,(aAm a)),(10,(aAm b)),(9,(aAl (.ref 0))),(3,(aAl (.ref 1)))]
def JK:bA→List (Nat×Entry)
 |(_,_,a,b)=> [(0,(aAs a)),(1,(aAv b))]
def JO:Nat→bA→List (Nat×SV)
 |_,(_,_,_,_)=> [(3,(aAl (.ref 1)))]
def gi:bA→LT bA
 |(a,b,c,d)=> .ite (gu a b) (.need [kV a,kW a c,kX a c] (.need [gw a c d] (.nrm ((qL a),b,c,(kY a c d)) [(0,0),(1,640)]))) (.ext 0 [(0,0),(1,1)])
def qA(s:St):Option bA:=do
 let some ⟨none,.one ⟨false,[.val (.int .i64 a)]⟩⟩:=s.look 11|none
 let some ⟨none,.one ⟨false,[.val (.int .i64 b)]⟩⟩:=s.look 10|none
 let some ⟨none,.one ⟨false,[.ref 3]⟩⟩:=s.look 9|none
 let some ⟨none,.one ⟨false,[.ref 448]⟩⟩:=s.look 3|none
 let some (.row false 91 (.pair .str (.sl 66 (.pair (.int .i64) (.pair .str (.int .i64))))) c):=s.ent 3|none
 let some (.row true 66 (.pair (.int .i64) (.pair .str (.int .i64))) d):=s.ent 448|none
 some (a,b,c,d)
def aE:Lp bA where
 h:=⟨[12,13,14,5,15,16,17,18,19,20,21,7,22,23,24,25,26,27,28,3,29,30,11],[0],[1],[]⟩
 JL:=JM
 JE:=JK
 XL:=JO
 XE:=fun _=>JK
 q:=fun j=>match j with | _=> .exit 0
 tags:= [0]
 lt:=gi
 fuel:=fun(a,b,c,d)=>a.natAbs + b.natAbs + c.length + d.length
 fix:=fun(_,b,c,_) (a,_,_,d)=>(a,b,c,d)
 σ:= [(0,3),(1,448)]
 rd:=qA
theorem Ii:LoopOk prog (fun k=>Nat.blt k Tryz.f94.ntmps) aE.F (bc f94 0):=by
 refine Lp.ok (tbl:= []) (lf:= [ag.F]) aU aE (by kernel_rfl) (LOk.allT (l:= [ZA (bc f94 0) 0]) (by kernel_rfl) (.cons Gq (.nil _))) (fun _=>rfl) (fun _ _=>rfl) ?_ ?_ ?_ ?_ (fun _=>rfl) ?_
 ·intro _;kernel_rfl
 ·intro _;kernel_rfl
 ·intro s x h
  have h:qA s=some x:=h
  unfold qA at h
  repeat' split at h
  all_goals cases h
  constructor<;>repeat(first|refine ab ‹_› rfl ?_|refine aa rfl ‹_› rfl ?_|rfl)
 ·intro _;kernel_rfl
 ·intro _ _;exact(And.intro rfl trivial)
section
variable (a:aiK)
def rK:Int×Int×aiK×aoQ:=((0:Int),(↑a.length:Int),a,[])
def se:aor:=(Lp.res aE (rK a)).2.2.2.2
def sf:Bool:=allT [Lp.fin aE (rK a)]
end
def Be:aAj
 | [.one ⟨true,[.val (.string _x0),.ref 0,.ref 1,.ref 2,.val (.string _x1),.ref 3]⟩],[.row false 9 (.str) a,.row false 9 (.str) b,.row false 9 (.str) c,.row false 91 (.pair (.str) (.sl 66 (.pair (.int .i64) (.pair (.str) (.int .i64))))) d]=>some ⟨aAl (.ref 4),[aAn a,aAn b,aAn c,aAt d],[aAv (se d)],[sf d]⟩
 |_,_=>none
def NO:PF prog:=PF.ofG prog [] [aE.F] aU 94 f94 func94 (LOk.fnT (l:= [bc f94 0]) (by kernel_rfl) (.cons Ii (.nil _))) Be (by
 intro _ _ _ h;unfold Be at h;split at h<;>cases h;kernel_rfl)
section
variable (a:Int)
def bH:Int:=v8 .i64 (a - v8 .i64 ((↑(0:Nat):Int) - (↑(0:Nat):Int)))
def CC:Bool:= !ltI 0 (bH a)||leI 0 (↑(0:Nat):Int)
def xA:List aAi:=bif ltI 0 (bH a)then List.take (v5 (↑(0:Nat):Int)) (v9 (v5 (bH a)) (ByteArray.mk #[]))else []
def xB:Bool:=allT [!ltI a 0,!ltI 0 (bH a)||leI 0 0,CC a,!ltI 0 (bH a)||leI (↑(0:Nat):Int) 0,!ltI 0 (bH a)||leI 1 (bH a),!ltI 0 (bH a)||leI (bH a) 9223372036854775807,!ltI 0 (bH a)||leI (bH a * (↑(16:Nat):Int)) 281474976710656,CC a,!ltI 0 (bH a)||leI (↑(0:Nat):Int) (↑(v6 (v9 (v5 (bH a)) (ByteArray.mk #[]))):Int)]
end
def Ml:aAj
 | [.one ⟨false,[.val (.slice none 0 0)]⟩,.one ⟨false,[.val (.int .i64 a)]⟩],[]=>some ⟨aAl (.ref 0),[],[aAr (xA a)],[xB a]⟩
 |_,_=>none
def Dt:PF prog:=PF.ofG prog [PF.raw prog] [] aU 125 f125 func125 (fun c _=>LOk.nil c) Ml (by
 intro _ _ _ h;unfold Ml at h;split at h<;>cases h;kernel_rfl)
abbrev dM:=Int×Int×Int×List (List aAi)
section
variable (a b c:Int)(d:arh)
def gE:Int:=v8 .i64 (c + (↑(v6 (v7 d[v5 a]? (vB (CTy.sl 9 CTy.str)))):Int))
def pg:Bool:=ltI a b
def tJ:Bool:=leI 0 a
def tK:Bool:=ltI a (↑d.length:Int)
def tL:Bool:=ltN a.toNat d.length
def tM:Bool:= !ltI (gE a c d) 0
def Ax:Int:=v8 .i64 (a + (1:Int))
def tN:Int:=gE a c d
end
def Vp:dM→List (Nat×SV)
 |(a,b,c,_)=> [(11,(aAm a)),(10,(aAm b)),(9,(aAl (.ref 0))),(3,(aAm c))]
def Vn:dM→List (Nat×Entry)
 |(_,_,_,a)=> [(0,(.row false 24 (CTy.sl 9 CTy.str) a))]
def Vt:Nat→dM→List (Nat×SV)
 |_,(_,_,a,_)=> [(3,(aAm a))]
def oB:dM→LT dM
 |(a,b,c,d)=> .ite (pg a b) (.need [tJ a,tK a d,tL a d] (.need [tM a c d] (.nrm ((Ax a),b,tN a c d,d) [(0,0)]))) (.ext 0 [(0,0)])
def zP(s:St):Option dM:=do
 let some ⟨none,.one ⟨false,[.val (.int .i64 a)]⟩⟩:=s.look 11|none
 let some ⟨none,.one ⟨false,[.val (.int .i64 b)]⟩⟩:=s.look 10|none
 let some ⟨none,.one ⟨false,[.ref 0]⟩⟩:=s.look 9|none
 let some ⟨none,.one ⟨false,[.val (.int .i64 c)]⟩⟩:=s.look 3|none
 let some (.row false 24 (.sl 9 .str) d):=s.ent 0|none
 some (a,b,c,d)
def bM:Lp dM where
 h:=⟨[12,13,14,5,15,16,17,18,3,19,20,21,22,11],[0],[],[]⟩
 JL:=Vp
 JE:=Vn
 XL:=Vt
 XE:=fun _=>Vn
 q:=fun j=>match j with | _=> .exit 0
 tags:= [0]
 lt:=oB
 fuel:=fun(a,b,c,d)=>a.natAbs + b.natAbs + c.natAbs + d.length
 fix:=fun(_,b,_,d) (a,_,c,_)=>(a,b,c,d)
 σ:= [(0,0)]
 rd:=zP
theorem To:LoopOk prog (fun k=>Nat.blt k Tryz.f81.ntmps) bM.F (bc f81 0):=by
 refine Lp.ok (tbl:= [Dt]) (lf:= []) aU bM (by kernel_rfl) (LOk.nil _) (fun _=>rfl) (fun _ _=>rfl) ?_ ?_ ?_ ?_ (fun _=>rfl) ?_
 ·intro _;kernel_rfl
 ·intro _;kernel_rfl
 ·intro s x h
  have h:zP s=some x:=h
  unfold zP at h
  repeat' split at h
  all_goals cases h
  constructor<;>repeat(first|refine ab ‹_› rfl ?_|refine aa rfl ‹_› rfl ?_|rfl)
 ·intro _;kernel_rfl
 ·intro _ _;exact(And.intro rfl trivial)
abbrev dN:=Int×Int×List (List aAi)×List aAi
section
variable (a b:Int)(c:arh)(d:List aAi)
def eq:List aAi:=v7 c[v5 a]? (vB (CTy.sl 9 CTy.str))
def ph:Bool:=ltI a b
def tO:Bool:=leI 0 a
def tP:Bool:=ltI a (↑c.length:Int)
def tQ:Bool:=ltN a.toNat c.length
def tR:Bool:=leN (v6 d + v6 (eq a c)) 9223372036854775807
def tS:Bool:=leN ((v6 d + v6 (eq a c)) * 16) 140737488355328
def Ay:Int:=v8 .i64 (a + (1:Int))
def tT:List aAi:=d++eq a c
end
def Vq:dN→List (Nat×SV)
 |(a,b,_,_)=> [(27,(aAm a)),(26,(aAm b)),(25,(aAl (.ref 0))),(6,(aAl (.ref 1)))]
def Vo:dN→List (Nat×Entry)
 |(_,_,a,b)=> [(0,(.row false 24 (CTy.sl 9 CTy.str) a)),(1,(aAr b))]
def Vu:Nat→dN→List (Nat×SV)
 |_,(_,_,_,_)=> [(6,(aAl (.ref 1)))]
def oC:dN→LT dN
 |(a,b,c,d)=> .ite (ph a b) (.need [tO a,tP a c,tQ a c] (.need [tR a c d,tS a c d] (.nrm ((Ay a),b,c,(tT a c d)) [(0,0),(1,448)]))) (.ext 0 [(0,0),(1,1)])
def zQ(s:St):Option dN:=do
 let some ⟨none,.one ⟨false,[.val (.int .i64 a)]⟩⟩:=s.look 27|none
 let some ⟨none,.one ⟨false,[.val (.int .i64 b)]⟩⟩:=s.look 26|none
 let some ⟨none,.one ⟨false,[.ref 0]⟩⟩:=s.look 25|none
 let some ⟨none,.one ⟨false,[.ref 576]⟩⟩:=s.look 6|none
 let some (.row false 24 (.sl 9 .str) c):=s.ent 0|none
 let some (.row true 9 (.str) d):=s.ent 576|none
 some (a,b,c,d)
def bN:Lp dN where
 h:=⟨[28,29,30,8,31,32,33,6,34,27],[0],[1],[]⟩
 JL:=Vq
 JE:=Vo
 XL:=Vu
 XE:=fun _=>Vo
 q:=fun j=>match j with | _=> .exit 2
 tags:= [0]
 lt:=oC
 fuel:=fun(a,b,c,d)=>a.natAbs + b.natAbs + c.length + d.length
 fix:=fun(_,b,c,_) (a,_,_,d)=>(a,b,c,d)
 σ:= [(0,0),(1,576)]
 rd:=zQ
theorem Tp:LoopOk prog (fun k=>Nat.blt k Tryz.f81.ntmps) bN.F (bc f81 1):=by
 refine Lp.ok (tbl:= [Dt]) (lf:= []) aU bN (by kernel_rfl) (LOk.nil _) (fun _=>rfl) (fun _ _=>rfl) ?_ ?_ ?_ ?_ (fun _=>rfl) ?_
 ·intro _;kernel_rfl
 ·intro _;kernel_rfl
 ·intro s x h
  have h:zQ s=some x:=h
  unfold zQ at h
  repeat' split at h
  all_goals cases h
  constructor<;>repeat(first|refine ab ‹_› rfl ?_|refine aa rfl ‹_› rfl ?_|rfl)
 ·intro _;kernel_rfl
 ·intro _ _;exact(And.intro rfl trivial)
section
variable (a:arh)
def vO:Int×Int×Int×arh:=((0:Int),(↑a.length:Int),(0:Int),a)
def vP:Int:=((Lp.res bM (vO a)).2.2.2).1
def vQ:Int×Int×arh×List aAi:=((0:Int),(↑a.length:Int),a,xA (vP a))
def Du:List aAi:=(Lp.res bN (vQ a)).2.2.2.2
def Dv:Bool:=allT [Lp.fin bM (vO a),xB (vP a),Lp.fin bN (vQ a)]
end
def Mk:aAj
 | [.one ⟨false,[.ref 0]⟩],[.row false 24 (.sl 9 (.str)) a]=>some ⟨aAl (.ref 1),[aAH a],[aAr (Du a)],[Dv a]⟩
 |_,_=>none
def YV:PF prog:=PF.ofG prog [Dt] [bM.F,bN.F] aU 81 f81 func81 (LOk.fnT (l:= [bc f81 0,bc f81 1]) (by kernel_rfl) (.cons To (.cons Tp (.nil _)))) Mk (by
 intro _ _ _ h;unfold Mk at h;split at h<;>cases h;kernel_rfl)
def atZ(l:avu)(k:Int):Int:=v7 l[v5 k]? 0
def ao4(a b:Int):Int:=bif a==1 then b else 0
def orI(a b:Int):Int:=bif a==1 then 1 else b
def yq(bs:List TM)(x:IN)(stk:avu):avu:=stk.drop (stk.length - (tkI bs x).toNat)
def ass(bs:List TM)(x:IN)(stk:avu):avu:=stk.take (stk.length - (tkI bs x).toNat)
def acm(bs:List TM)(inp:avu)(x:IN)(xs:avu)(ss:List BS3)(ar:avu):Int:=bif x.1==1 then x.2 else bif x.1==2 then atZ inp x.2 else bif x.1==3 then atZ xs x.2 else bif x.1==4 then 1 - atZ ar 0 else bif x.1==5 then ao4 (atZ ar 0) (atZ ar 1)else bif x.1==6 then orI (atZ ar 0) (atZ ar 1)else bif x.1==7 then avb (gB bs x.2.toNat).1 (gB bs x.2.toNat).2.2 ar (stAt ss x.2.toNat)else 0
def axw(os:avu)(z:Int):avu:=bif z==0 then v9 os.length 0 else os
def asD(bs:List TM)(inp:avu)(x:IN)(stk xs:avu)(ss:List BS3):avu:=bif gvI x==1 then ass bs x stk++ [acm bs inp x xs ss (yq bs x stk)]else ass bs x stk
def avc(bs:List TM)(x:IN)(stk xs:avu):avu:=bif x.1==8 then xs.set x.2.toNat (atZ (yq bs x stk) 0)else xs
def auM(bs:List TM)(inp:avu)(x:IN)(stk xs os:avu):avu:=bif x.1==9 then os.set x.2.toNat (atZ (yq bs x stk) 0)else bif x.1==10 then axw os (atZ inp x.2)else bif x.1==11 then axw os (atZ xs x.2)else os
def arL(bs:List TM)(x:IN)(stk:avu)(ss:List BS3):List BS3:=bif x.1==7 then ss.set x.2.toNat (VR (gB bs x.2.toNat).1 (gB bs x.2.toNat).2.2 (yq bs x stk) (stAt ss x.2.toNat))else ss
theorem ane{i v o:Int}{bs:List TM}{x:IN}(hi:0≤i∧i≤20)(hv:0≤v∧v≤20)(ho:0≤o∧o≤20)(hl:bs.length≤2000)(h:TX i v o bs x=true):
  (x.1=1∧(x.2=0∨x.2=1))∨(x.1=2∧0≤x.2∧x.2 < i)∨(x.1=3∧0≤x.2∧x.2 < v)∨x.1=4∨x.1=5∨x.1=6∨(x.1=7∧0≤x.2∧x.2 < bs.length)∨
  (x.1=8∧0≤x.2∧x.2 < v)∨(x.1=9∧0≤x.2∧x.2 < o)∨(x.1=10∧0≤x.2∧x.2 < i)∨(x.1=11∧0≤x.2∧x.2 < v):=by
 have w1:IntKind.i64.wrap (i - 1)=i - 1:=wrap_i64 (by omega) (by omega)
 have w2:IntKind.i64.wrap (v - 1)=v - 1:=wrap_i64 (by omega) (by omega)
 have w3:IntKind.i64.wrap (o - 1)=o - 1:=wrap_i64 (by omega) (by omega)
 have w4:IntKind.i64.wrap ((bs.length:Int) - 1)=bs.length - 1:=wrap_i64 (by omega) (by omega)
 simp only [TX,WW,ak,w1,w2,w3,w4]at h
 by_cases h1:x.1=1
 ·simp [h1,Bool.cond_eq_ite]at h;omega
 by_cases h2:x.1=2
 ·simp [h2,Bool.cond_eq_ite]at h;omega
 by_cases h3:x.1=3
 ·simp [h3,Bool.cond_eq_ite]at h;omega
 by_cases h4:x.1=4
 ·omega
 by_cases h5:x.1=5
 ·omega
 by_cases h6:x.1=6
 ·omega
 by_cases h7:x.1=7
 ·simp [h7,Bool.cond_eq_ite]at h;omega
 by_cases h8:x.1=8
 ·simp [h8,Bool.cond_eq_ite]at h;omega
 by_cases h9:x.1=9
 ·simp [h9,Bool.cond_eq_ite]at h;omega
 by_cases h10:x.1=10
 ·simp [h10,Bool.cond_eq_ite]at h;omega
 by_cases h11:x.1=11
 ·simp [h11,Bool.cond_eq_ite]at h;omega
 simp [h1,h2,h3,h4,h5,h6,h7,h8,h9,h10,h11]at h
theorem MC{i v o:Int}{bs:List TM}: ∀ (l1 l2:List IN) (n:Int) (acc:avu),hgt i v o bs (l1++l2) n acc=match hgt i v o bs l1 n acc with | some (m,a)=>hgt i v o bs l2 m a | none=>none
 | [],l2,n,acc=>rfl
 |x::r,l2,n,acc=>by
  simp only [List.cons_append,hgt]
  cases (TX i v o bs x&&(leI (tkI bs x) n&&leI (n - tkI bs x + gvI x) 40))with
  |false=>rfl
  |true=>simp only [cond_true];exact MC r l2 _ _
theorem axa{i v o:Int}{bs:List TM}{st:List IN}(lO:agb i v o bs st=true){k:Nat}(hk:k < st.length){n:Int}{L:avu}(h:hgt i v o bs (st.take k) 0 []=some (n,L)):
  TX i v o bs st[k]=true∧tkI bs st[k]≤n∧n - tkI bs st[k] + gvI st[k]≤40∧hgt i v o bs (st.take (k + 1)) 0 []=some (n - tkI bs st[k] + gvI st[k],L++ [n - tkI bs st[k] + gvI st[k]]):=by
 have hs:st=st.take k++st[k]::st.drop (k + 1):=by rw [List.getElem_cons_drop,List.take_append_drop]
 have h1:=MC (i:=i) (v:=v) (o:=o) (bs:=bs) (st.take k) (st[k]::st.drop (k + 1)) 0 []
 rw [← hs,h]at h1
 simp only [hgt]at h1
 cases hc:(TX i v o bs st[k]&&(leI (tkI bs st[k]) n&&leI (n - tkI bs st[k] + gvI st[k]) 40))with
 |false=>
  rw [hc]at h1
  simp only [agb,h1,cond_false]at lO
  cases lO
 |true=>
  have h2:=MC (i:=i) (v:=v) (o:=o) (bs:=bs) (st.take k) [st[k]] 0 []
  rw [h]at h2
  simp only [hgt,hc,cond_true]at h2
  simp only [q9,zJ]at hc
  refine⟨hc.1,hc.2.1,hc.2.2,?_⟩
  rw [← h2,List.take_succ_eq_append_getElem hk]
theorem ar1{i v o:Int}{bs:List TM}: ∀ (l:List IN) (n:Int) (acc:avu) (m:Int) (L:avu),0≤n∧n≤40→hgt i v o bs l n acc=some (m,L)→0≤m∧m≤40
 | [],n,acc,m,L,hn,h=>by simp only [hgt,q8,Prod.mk.injEq]at h;omega
 |x::r,n,acc,m,L,hn,h=>by
  simp only [hgt]at h
  have hg:=aps x
  cases hc:(TX i v o bs x&&(leI (tkI bs x) n&&leI (n - tkI bs x + gvI x) 40))with
  |false=>rw [hc]at h;cases h
  |true=>
   rw [hc,cond_true]at h
   simp only [q9,zJ]at hc
   exact ar1 r _ _ m L (by omega) h
theorem avy{i v o:Int}{bs:List TM}: ∀ (l:List IN) (n:Int) (acc:avu) (m:Int) (L:avu),hgt i v o bs l n acc=some (m,L)→ ∃ r,L=acc++r
 | [],n,acc,m,L,h=>by simp only [hgt,q8,Prod.mk.injEq]at h;exact⟨[],by rw [List.append_nil];exact h.2.symm⟩
 |x::r,n,acc,m,L,h=>by
  simp only [hgt]at h
  cases hc:(TX i v o bs x&&(leI (tkI bs x) n&&leI (n - tkI bs x + gvI x) 40))with
  |false=>rw [hc]at h;cases h
  |true=>
   rw [hc,cond_true]at h
   obtain⟨q,hq⟩:=avy r _ _ m L h
   exact⟨(n - tkI bs x + gvI x)::q,by rw [hq,List.append_assoc];rfl⟩
theorem avv{i v o:Int}{bs:List TM}{st:List IN}(lO:agb i v o bs st=true): ∀ (k:Nat),k≤st.length→
  ∃ n L,hgt i v o bs (st.take k) 0 []=some (n,L)∧(0≤n∧n≤40)∧(k=0→n=0)∧(0 < k→atZ (aw9 i v o bs st) ((k:Int) - 1)=n)
 |0,_=>⟨0,[],by simp [hgt],by omega,fun _=>rfl,fun h=>by omega⟩
 |k + 1,hk=>by
  obtain⟨n,L,h1,h2,_,_⟩:=avv lO k (by omega)
  obtain⟨g1,g2,g3,g4⟩:=axa lO (k:=k) (by omega) h1
  refine⟨_,_,g4,ar1 _ _ _ _ _ (by omega) g4,fun h=>by omega,fun _=> ?_⟩
  have hs:st=st.take (k + 1)++st.drop (k + 1):=(List.take_append_drop ..).symm
  have hw:=MC (i:=i) (v:=v) (o:=o) (bs:=bs) (st.take (k + 1)) (st.drop (k + 1)) 0 []
  rw [← hs,g4]at hw
  simp only at hw
  unfold aw9
  cases hh:hgt i v o bs st 0 []with
  |none=>
   simp only [agb,hh]at lO
   cases lO
  |some r=>
   obtain⟨m,out⟩:=r
   rw [hh]at hw
   obtain⟨q,hq⟩:=avy _ _ _ _ _ hw.symm
   have hl:=avw _ _ _ _ _ h1
   rw [j8,List.length_nil]at hl
   simp only [atZ]
   have hi:(((k + 1:Nat):Int) - 1).toNat=L.length:=by omega
   rw [hi,hq,List.append_assoc,List.getElem?_append_right (Nat.le_refl _),Nat.sub_self]
   rfl
structure OkM (i v o:Int) (bs:List TM) (st:List IN) (k:Int) (stk xs os:avu) (ss:List BS3):Prop where
 lo:0≤k
 hi:k≤st.length
 hg: ∃ L,hgt i v o bs (st.take k.toNat) 0 []=some ((stk.length:Int),L)
 bt: ∀ z∈stk,z=0∨z=1
 vl:bitsB v xs=true
 ou:bitsB o os=true
 sl:ss.length=bs.length
 sp: ∀ k,k < bs.length→possAt bs ss k=true
theorem RO{l:avu}(h: ∀ z∈l,z=0∨z=1)(k:Int):atZ l k=0∨atZ l k=1:=by
 unfold atZ
 cases hk:l[k.toNat]? with
 |none=>exact .inl rfl
 |some z=>exact h z (List.mem_of_getElem? hk)
theorem amb{n:Int}{l:avu}(h:bitsB n l=true)(k:Nat){z:Int}(hz:z=0∨z=1):bitsB n (l.set k z)=true:=by
 obtain⟨h1,h2⟩:=dF.1 h
 refine dF.2 ⟨fun y hy=> ?_,by rw [List.length_set];exact h2⟩
 rcases List.mem_or_eq_of_mem_set hy with hy | rfl
 ·exact h1 y hy
 ·exact hz
theorem asP{n:Int}{l:avu}(h:bitsB n l=true)(z:Int):bitsB n (axw l z)=true:=by
 unfold axw
 cases z==0 with
 |false=>exact h
 |true=>
  refine dF.2 ⟨fun y hy=> .inl (qqq hy),?_⟩
  simp only [cond_true,List.length_replicate]
  exact(dF.1 h).2
theorem avX{k n a b c:Int}{s:aAi}{l:avu}(hB:KE k s n=true)(hP:possB k n a b c=true)(hA:bitsB (takesK k) l=true):ge k n a b c l=0∨ge k n a b c l=1:=by
 obtain⟨hk,hn,_⟩:=afr hB
 have hb:=(aiy hP hn).2.1
 have hc:=(aiy hP hn).2.2
 have hp:=hP
 rcases kinds hk with rfl | rfl | rfl | rfl | rfl | rfl
 ·obtain⟨x,rfl,hx⟩:=aeq hA
  rcases hx with rfl | rfl <;> simp only [du,kf,ne,gJ,nf,ng,nh,ni,lM,ge,jG,jH,jI,ma,jf,ke,lL,nb,nc,pv,pw,px,py,kn] <;> simp [Bool.cond_eq_ite] <;> (repeat' split) <;> omega
 ·obtain⟨x,rfl,hx⟩:=aeq hA
  rcases hx with rfl | rfl <;> simp only [du,kf,ne,gJ,nf,ng,nh,ni,lM,ge,jG,jH,jI,ma,jf,ke,lL,nb,nc,pv,pw,px,py,kn] <;> simp [Bool.cond_eq_ite] <;> (repeat' split) <;> omega
 ·obtain⟨x,rfl,hx⟩:=aeq hA
  simp [possB,dK,ak]at hp
  rcases hx with rfl | rfl <;> simp only [du,kf,ne,gJ,nf,ng,nh,ni,lM,ge,jG,jH,jI,ma,jf,ke,lL,nb,nc,pv,pw,px,py,kn] <;> simp [Bool.cond_eq_ite] <;> (repeat' split) <;> omega
 ·obtain⟨x,y,rfl,hx,hy⟩:=aer hA
  simp [possB,dK,ak]at hp
  rcases hx with rfl | rfl <;> rcases hy with rfl | rfl <;> simp only [du,kf,ne,gJ,nf,ng,nh,ni,lM,ge,jG,jH,jI,ma,jf,ke,lL,nb,nc,pv,pw,px,py,kn] <;> simp [Bool.cond_eq_ite] <;> (repeat' split) <;> omega
 ·obtain⟨x,y,rfl,hx,hy⟩:=aer hA
  rcases hb with rfl | rfl <;> rcases hc with rfl | rfl <;> rcases hx with rfl | rfl <;> rcases hy with rfl | rfl <;> simp only [du,kf,ne,gJ,nf,ng,nh,ni,lM,ge,jG,jH,jI,ma,jf,ke,lL,nb,nc,pv,pw,px,py,kn] <;> simp [Bool.cond_eq_ite] <;> (repeat' split) <;> omega
 ·obtain⟨x,y,rfl,hx,hy⟩:=aer hA
  rcases hb with rfl | rfl <;> rcases hc with rfl | rfl <;> rcases hx with rfl | rfl <;> rcases hy with rfl | rfl <;> simp only [du,kf,ne,gJ,nf,ng,nh,ni,lM,ge,jG,jH,jI,ma,jf,ke,lL,nb,nc,pv,pw,px,py,kn] <;> simp [Bool.cond_eq_ite] <;> (repeat' split) <;> omega
theorem awF{bs:List TM}{x:IN}{stk:avu}(hb: ∀ z∈stk,z=0∨z=1)(ht:tkI bs x≤stk.length):bitsB (tkI bs x) (yq bs x stk)=true:=by
 have h0:=(alF bs x).1
 refine dF.2 ⟨fun z hz=>hb z (List.mem_of_mem_drop hz),?_⟩
 simp only [yq,List.length_drop]
 omega
theorem ast{bs:List TM}{x:IN}{stk:avu}(ht:tkI bs x≤stk.length):((ass bs x stk).length:Int)=stk.length - tkI bs x:=by
 have h0:=(alF bs x).1
 simp only [ass,j8]
 omega
theorem avV{i v o:Int}{bs:List TM}{st:List IN}{inp:avu}{k:Int}{stk xs os:avu}{ss:List BS3}(hC:jR i v o bs st=true)(FK:bitsB i inp=true)
  (h:OkM i v o bs st k stk xs os ss) (hlt:k < st.length) {x:IN} (hx:st[k.toNat]? =some x):
  TX i v o bs x=true∧tkI bs x≤stk.length∧bitsB (tkI bs x) (yq bs x stk)=true∧(acm bs inp x xs ss (yq bs x stk)=0∨acm bs inp x xs ss (yq bs x stk)=1)∧stk.length≤40∧
  OkM i v o bs st (k + 1) (asD bs inp x stk xs ss) (avc bs x stk xs) (auM bs inp x stk xs os) (arL bs x stk ss):=by
 simp only [jR,q9]at hC
 obtain⟨hr,hB,lO⟩:=hC
 obtain⟨ri,rv,ro,rb,rs⟩:=Rp.1 hr
 have h0:=h.lo
 have hk:k.toNat < st.length:=by omega
 have hxe:st[k.toNat]=x:=by rw [List.getElem?_eq_getElem hk]at hx;exact Option.some.inj hx
 obtain⟨L,hL⟩:=h.hg
 obtain⟨g1,g2,g3,g4⟩:=axa lO hk hL
 rw [hxe]at g1 g2 g3 g4
 have hab:=awF h.bt g2
 have hrl:=ast g2
 have t2:=alF bs x
 have v2:=aps x
 have hvb:=(dF.1 h.vl).1
 have hob:=(dF.1 h.ou).1
 have hib:=(dF.1 FK).1
 have hargb:=(dF.1 hab).1
 have ha0:=RO hargb 0
 have ha1:=RO hargb 1
 have hblk:x.1=7→0≤x.2∧x.2 < bs.length→ge (gB bs x.2.toNat).1 (gB bs x.2.toNat).2.2 (stAt ss x.2.toNat).1 (stAt ss x.2.toNat).2.1 (stAt ss x.2.toNat).2.2 (yq bs x stk)=0∨ge (gB bs x.2.toNat).1 (gB bs x.2.toNat).2.2 (stAt ss x.2.toNat).1 (stAt ss x.2.toNat).2.1 (stAt ss x.2.toNat).2.2 (yq bs x stk)=1:=fun h7 hr7=>by
  have hlt7:x.2.toNat < bs.length:=by omega
  have hg7:gB bs x.2.toNat=bs[x.2.toNat]:=by simp only [gB,List.getElem?_eq_getElem hlt7];rfl
  have hB7:KE (gB bs x.2.toNat).1 (gB bs x.2.toNat).2.1 (gB bs x.2.toNat).2.2=true:=by rw [hg7];exact List.all_eq_true.1 hB _ (List.getElem_mem hlt7)
  have htk:tkI bs x=takesK (gB bs x.2.toNat).1:=by simp [tkI,NU,oY,oZ,wF,h7,takesK,gB]
  exact avX hB7 (h.sp _ hlt7) (by rw [← htk];exact hab)
 have hnx:x.1=7→0≤x.2∧x.2 < bs.length→possB (gB bs x.2.toNat).1 (gB bs x.2.toNat).2.2 (VR (gB bs x.2.toNat).1 (gB bs x.2.toNat).2.2 (yq bs x stk) (stAt ss x.2.toNat)).1 (VR (gB bs x.2.toNat).1 (gB bs x.2.toNat).2.2 (yq bs x stk) (stAt ss x.2.toNat)).2.1 (VR (gB bs x.2.toNat).1 (gB bs x.2.toNat).2.2 (yq bs x stk) (stAt ss x.2.toNat)).2.2=true:=fun h7 hr7=>by
  have hlt7:x.2.toNat < bs.length:=by omega
  have hg7:gB bs x.2.toNat=bs[x.2.toNat]:=by simp only [gB,List.getElem?_eq_getElem hlt7];rfl
  have hB7:KE (gB bs x.2.toNat).1 (gB bs x.2.toNat).2.1 (gB bs x.2.toNat).2.2=true:=by rw [hg7];exact List.all_eq_true.1 hB _ (List.getElem_mem hlt7)
  have htk:tkI bs x=takesK (gB bs x.2.toNat).1:=by simp [tkI,NU,oY,oZ,wF,h7,takesK,gB]
  exact(att hB7 (h.sp _ hlt7) (by rw [← htk];exact hab)).2
 have hval:acm bs inp x xs ss (yq bs x stk)=0∨acm bs inp x xs ss (yq bs x stk)=1:=by
  rcases ane ri rv ro rb g1 with⟨e,q⟩ | ⟨e,q⟩ | ⟨e,q⟩ | e | e | e | ⟨e,q⟩ | ⟨e,q⟩ | ⟨e,q⟩ | ⟨e,q⟩ | ⟨e,q⟩
  ·simp only [acm,e];exact q
  ·simp only [acm,e];exact RO hib _
  ·simp only [acm,e];exact RO hvb _
  ·simp only [acm,e]
   show 1 - atZ (yq bs x stk) 0=0∨1 - atZ (yq bs x stk) 0=1
   omega
  ·simp only [acm,e]
   show ao4 (atZ (yq bs x stk) 0) (atZ (yq bs x stk) 1)=0∨ao4 (atZ (yq bs x stk) 0) (atZ (yq bs x stk) 1)=1
   rcases ha0 with q | q <;> rw [q]
   ·exact .inl rfl
   ·exact ha1
  ·simp only [acm,e]
   show orI (atZ (yq bs x stk) 0) (atZ (yq bs x stk) 1)=0∨orI (atZ (yq bs x stk) 0) (atZ (yq bs x stk) 1)=1
   rcases ha0 with q | q <;> rw [q]
   ·exact ha1
   ·exact .inr rfl
  ·have:=hblk e q
   simp only [acm,e]
   exact this
  all_goals (simp only [acm,e];exact .inl rfl)
 refine⟨g1,g2,hab,hval,?_,⟨by omega,by omega,?_,?_,?_,?_,?_,?_⟩⟩
 ·have:=ar1 _ _ _ _ _ (by omega) hL
  omega
 ·refine⟨L++ [stk.length - tkI bs x + gvI x],?_⟩
  have hs:(k + 1).toNat=k.toNat + 1:=by omega
  rw [hs,g4]
  have:((asD bs inp x stk xs ss).length:Int)=stk.length - tkI bs x + gvI x:=by
   unfold asD
   by_cases hgv:gvI x=1
   ·simp only [hgv,beq_self_eq_true,cond_true,j7,j6];omega
   ·have h1:(gvI x==1)=false:=by simpa using hgv
    rw [h1,cond_false];omega
  rw [this]
 ·intro z hz
  unfold asD at hz
  have hr: ∀ z∈ass bs x stk,z=0∨z=1:=fun z hz=>h.bt z (List.mem_of_mem_take hz)
  cases hgv:(gvI x==1)with
  |false=>rw [hgv]at hz;exact hr z hz
  |true=>
   rw [hgv,cond_true]at hz
   rcases List.mem_append.1 hz with hz | hz
   ·exact hr z hz
   ·rw [qqw.1 hz];exact hval
 ·unfold avc
  cases x.1==8 with
  |false=>exact h.vl
  |true=>exact amb h.vl _ ha0
 ·unfold auM
  cases x.1==9 with
  |true=>exact amb h.ou _ ha0
  |false=>
   cases x.1==10 with
   |true=>exact asP h.ou _
   |false=>
    cases x.1==11 with
    |true=>exact asP h.ou _
    |false=>exact h.ou
 ·unfold arL
  cases x.1==7 with
  |false=>exact h.sl
  |true=>simp only [cond_true,List.length_set];exact h.sl
 ·intro k2 hk2
  unfold arL
  cases h7:x.1==7 with
  |false=>exact h.sp k2 hk2
  |true=>
   simp only [cond_true]
   have h7:x.1=7:=by simpa using h7
   have hq:0≤x.2∧x.2 < bs.length:=by
    rcases ane ri rv ro rb g1 with⟨e,q⟩ | ⟨e,q⟩ | ⟨e,q⟩ | e | e | e | ⟨e,q⟩ | ⟨e,q⟩ | ⟨e,q⟩ | ⟨e,q⟩ | ⟨e,q⟩ <;> first | exact q | omega
   by_cases he:k2=x.2.toNat
   ·subst he
    have:=hnx h7 hq
    have hl:x.2.toNat < ss.length:=by rw [h.sl];omega
    unfold possAt
    have hs:stAt (ss.set x.2.toNat (VR (gB bs x.2.toNat).1 (gB bs x.2.toNat).2.2 (yq bs x stk) (stAt ss x.2.toNat))) x.2.toNat=VR (gB bs x.2.toNat).1 (gB bs x.2.toNat).2.2 (yq bs x stk) (stAt ss x.2.toNat):=by
     simp only [stAt,List.getElem?_set_self hl,Option.getD_some]
    rw [hs];exact this
   ·have hs: ∀ y,stAt (ss.set x.2.toNat y) k2=stAt ss k2:=fun y=>by
     simp only [stAt,List.getElem?_set_ne (Ne.symm he)]
    unfold possAt
    rw [hs];exact h.sp k2 hk2
abbrev LN:=aAi×List TM
def lY(l:List aAi)(s:aAi):Bool:=l.any fun k=>k.toList==s.toList
def Io(l:List aAi)(s:aAi):Nat:=(l.takeWhile fun k=> !(k.toList==s.toList)).length
def oP(l:List aAi)(s:aAi):Int:=bif lY l s then(Io l s:Int)else -1
theorem VZ{s:aAi}: ∀ {l:List aAi},lY l s=true→Io l s < l.length
 | [],h=>by cases h
 |a::r,h=>by
  simp only [lY,List.any_cons]at h
  simp only [Io,List.takeWhile_cons]
  cases ha:a.toList==s.toList with
  |true=>simp
  |false=>
   rw [ha,Bool.false_or]at h
   have:=VZ (l:=r) h
   simp only [Io]at this
   simp only [Bool.not_false,if_true,j9]
   omega
theorem an1(a b:List aAi)(s:aAi):lY (a++b) s=(lY a s||lY b s):=List.any_append
theorem ah7{l:List aAi}{s:aAi}:lY l s=true↔s.toList∈l.map ByteArray.toList:=by
 simp only [lY,List.any_eq_true,beq_iff_eq,List.mem_map]
def htT:List TM→Int→Option Int
 | [],n=>some n
 |t::r,n=>bif termB t.1 t.2.1 t.2.2&&leI (takesK t.1) n then htT r (n - takesK t.1 + 1)else none
def ami(ts:List TM):Bool:=leN ts.length 40&&(match htT ts 0 with | some n=>n==1 | none=>false)
def lineB(x:LN):Bool:=pB x.1&&ami x.2
def ano(l:List aAi)(lo:Nat):Bool:=l.all pB&&inR (l.length:Int) lo 20
def aoo(nm:aAi)(ins vs os:List aAi)(g:aAi)(ls:List LN):Bool:=pB nm&&(ano ins 1&&(ano vs 0&&(ano os 1&&((g.toList== []||pB g)&&(ls.all lineB&&inR (ls.length:Int) 1 40)))))
def vt(l:List aAi):Bool:=(List.range l.length).any fun i=>lY (l.take i) (v7 l[i]? ⟨#[]⟩)
def SD(ins vs:List aAi)(s:aAi):Bool:=lY ins s||lY vs s
def usedB(ins vs:List aAi)(t:TM):Bool:= !(t.1==1)||SD ins vs t.2.1
def aww(ins vs os:List aAi)(g:aAi)(ls:List LN):Bool:= !vt (ins++vs++os)&&((g.toList== []||SD ins vs g)&&(ls.all (fun l=>lY vs l.1||lY os l.1)&&(!vt (ls.map Prod.fst)&&(leN (vs.length + os.length) ls.length&&ls.all fun l=>l.2.all (usedB ins vs)))))
theorem arC{l:List aAi}:vt l=false↔(l.map ByteArray.toList).Nodup:=by
 rw [List.nodup_iff_pairwise_ne,List.pairwise_iff_getElem]
 simp only [vt,List.any_eq_false,List.mem_range,Bool.not_eq_true,List.length_map,List.getElem_map]
 constructor
 ·intro h i j hi hj hij he
  have h1:=h j hj
  rw [← Bool.not_eq_true,ah7]at h1
  apply h1
  rw [List.getElem?_eq_getElem hj,Option.getD_some,← he]
  refine List.mem_map.2 ⟨l[i],?_,rfl⟩
  rw [List.mem_take_iff_getElem]
  exact⟨i,by omega,rfl⟩
 ·intro h j hj
  rw [← Bool.not_eq_true,ah7,List.mem_map]
  rintro⟨x,hx,he⟩
  rw [List.mem_take_iff_getElem]at hx
  obtain⟨i,hi,rfl⟩:=hx
  rw [List.getElem?_eq_getElem hj,Option.getD_some]at he
  exact h i j (by omega) hj (by omega) he
theorem auL{α:Type}[DecidableEq α]: ∀ (a b:List α),a.Nodup→(∀ x∈a,x∈b)→a.length≤b.length
 | [],b,_,_=>Nat.zero_le _
 |x::r,b,hn,hs=>by
  obtain⟨h1,h2⟩:=List.nodup_cons.1 hn
  have hx:=hs x (by simp)
  have:=auL r (b.erase x) h2 (fun y hy=>(List.mem_erase_of_ne (fun h:y=x=>h1 (by rw [← h];exact hy))).2 (hs y (by simp [hy])))
  rw [List.length_erase_of_mem hx]at this
  have h0:=List.length_pos_of_mem hx
  simp only [j9]
  omega
theorem azj{α:Type}[DecidableEq α]{a b:List α}(ha:a.Nodup)(hb:b.Nodup)(hs: ∀ x∈a,x∈b):(∀ y∈b,y∈a)↔b.length≤a.length:=by
 constructor
 ·intro h;exact auL b a hb h
 ·intro h y hy
  refine Decidable.byContradiction fun hn=> ?_
  have:=auL (y::a) b (List.nodup_cons.2 ⟨hn,ha⟩) (fun z hz=>(List.mem_cons.1 hz).elim (fun h=>h ▸ hy) (fun h=>hs z h))
  rw [j9]at this
  omega
theorem axr{ins vs os:List aAi}{ls:List LN}(h1:vt (ins++vs++os)=false)(h3:ls.all (fun l=>lY vs l.1||lY os l.1)=true)(h4:vt (ls.map Prod.fst)=false):
  ((vs++os).any fun s=> !lY (ls.map Prod.fst) s)= !leN (vs.length + os.length) ls.length:=by
 have n1:((vs++os).map ByteArray.toList).Nodup:=by
  have:=arC.1 h1
  rw [List.append_assoc,List.map_append]at this
  exact(List.nodup_append.1 this).2.1
 have n4:=arC.1 h4
 have hs: ∀ x∈(ls.map Prod.fst).map ByteArray.toList,x∈(vs++os).map ByteArray.toList:=by
  intro x hx
  simp only [List.mem_map]at hx
  obtain⟨y,⟨l,hl,rfl⟩,rfl⟩:=hx
  have:=List.all_eq_true.1 h3 l hl
  rw [← an1]at this
  exact ah7.1 this
 have oe:=azj n4 n1 hs
 rw [Bool.eq_iff_iff,Bool.not_eq_true',← Bool.not_eq_true,eN]
 simp only [List.length_map,j7]at oe
 rw [← oe]
 simp only [List.any_eq_true,Bool.not_eq_true']
 constructor
 ·rintro⟨s,hs1,hs2⟩ h
  have:=h _ (List.mem_map.2 ⟨s,hs1,rfl⟩)
  have h2:lY (ls.map Prod.fst) s=true:=ah7.2 this
  rw [h2]at hs2;cases hs2
 ·intro h
  refine Classical.byContradiction fun hn=>h fun y hy=> ?_
  obtain⟨s,hs1,rfl⟩:=List.mem_map.1 hy
  refine Classical.byContradiction fun hn2=>hn ⟨s,hs1,?_⟩
  cases hh:lY (ls.map Prod.fst) s with
  |false=>rfl
  |true=>exact absurd (ah7.1 hh) hn2
def nmV(ins vs:List aAi)(inp xs:avu)(s:aAi):Int:=bif lY ins s then atZ inp (Io ins s)else atZ xs (Io vs s)
def tmV(ins vs:List aAi)(inp xs:avu)(t:TM)(ar:avu)(b:BS3):Int:=bif t.1==1 then nmV ins vs inp xs t.2.1 else bif t.1==2 then 1 else bif t.1==3 then 0 else bif t.1==4 then 1 - atZ ar 0 else bif t.1==5 then ao4 (atZ ar 0) (atZ ar 1)else bif t.1==6 then orI (atZ ar 0) (atZ ar 1)else avb t.1 t.2.2 ar b
def ltk(t:TM)(stk:avu):Nat:=stk.length - (takesK t.1).toNat
abbrev LS:=List Int×List BS3×Nat
def lnS(ins vs:List aAi)(inp xs:avu)(t:TM)(a:LS):LS:=(a.1.take (ltk t a.1)++ [tmV ins vs inp xs t (a.1.drop (ltk t a.1)) (stAt a.2.1 a.2.2)],bif leI 7 t.1 then a.2.1.set a.2.2 (VR t.1 t.2.2 (a.1.drop (ltk t a.1)) (stAt a.2.1 a.2.2))else a.2.1,bif leI 7 t.1 then a.2.2 + 1 else a.2.2)
def ajr(ins vs:List aAi)(inp xs:avu):List TM→LS→LS
 | [],a=>a
 |t::r,a=>ajr ins vs inp xs r (lnS ins vs inp xs t a)
theorem Vl(k:Int):0≤takesK k∧takesK k≤2:=by
 simp only [takesK,fC]
 refine⟨?_,?_⟩ <;> simp only [Bool.cond_eq_ite] <;> (repeat' split) <;> decide
structure LnOk (bl:List TM) (n:Int) (k:Nat) (a:LS):Prop where
 hb: ∀ z∈a.1,z=0∨z=1
 hl:(a.1.length:Int)=n
 sl:a.2.1.length=bl.length
 sp: ∀ j,j < bl.length→possAt bl a.2.1 j=true
 hk:a.2.2=k
theorem axx{ins vs:List aAi}{inp xs:avu}(hi:bitsB ins.length inp=true)(hx:bitsB vs.length xs=true)(s:aAi):nmV ins vs inp xs s=0∨nmV ins vs inp xs s=1:=by
 simp only [nmV]
 cases lY ins s with
 |true=>exact RO (dF.1 hi).1 _
 |false=>exact RO (dF.1 hx).1 _
theorem awC{a b:Int}(hb:b=0∨b=1):ao4 a b=0∨ao4 a b=1:=by simp only [ao4];cases a==1 <;> simp [hb]
theorem ayx{a b:Int}(hb:b=0∨b=1):orI a b=0∨orI a b=1:=by simp only [orI];cases a==1 <;> simp [hb]
theorem axy{a:Int}(ha:a=0∨a=1):1 - a=0∨1 - a=1:=by rcases ha with rfl | rfl <;> simp
theorem aq7{t:TM}{stk:avu}(hb: ∀ z∈stk,z=0∨z=1)(ht:takesK t.1≤stk.length):bitsB (takesK t.1) (stk.drop (ltk t stk))=true:=by
 have h0:=(Vl t.1).1
 refine dF.2 ⟨fun z hz=>hb z (List.mem_of_mem_drop hz),?_⟩
 simp only [ltk,List.length_drop]
 omega
theorem afM{t:TM}(hT:termB t.1 t.2.1 t.2.2=true)(h7:leI 7 t.1=true):KE t.1 t.2.1 t.2.2=true:=by simp only [KE,hT,h7];rfl
theorem aiV{t:TM}(hT:termB t.1 t.2.1 t.2.2=true):1≤t.1∧t.1≤12:=by
 simp only [termB,q9,pR]at hT;exact hT.1
theorem azL{ins vs:List aAi}{inp xs:avu}{bl:List TM}{n:Int}{k:Nat}{a:LS}{t:TM}(hi:bitsB ins.length inp=true)(hx:bitsB vs.length xs=true)
  (hT:termB t.1 t.2.1 t.2.2=true) (ht:takesK t.1≤n) (hblk:leI 7 t.1=true→k < bl.length∧gB bl k=t) (h:LnOk bl n k a):
  (tmV ins vs inp xs t (a.1.drop (ltk t a.1)) (stAt a.2.1 a.2.2)=0∨tmV ins vs inp xs t (a.1.drop (ltk t a.1)) (stAt a.2.1 a.2.2)=1)∧
  LnOk bl (n - takesK t.1 + 1) (bif leI 7 t.1 then k + 1 else k) (lnS ins vs inp xs t a):=by
 have hl:=h.hl
 have hdb:=aq7 (t:=t) h.hb (by omega)
 have hd:=(dF.1 hdb).1
 have d0:=RO hd 0
 have d1:=RO hd 1
 have h0:=Vl t.1
 have hv:leI 7 t.1=true→(tmV ins vs inp xs t (a.1.drop (ltk t a.1)) (stAt a.2.1 a.2.2)=avb t.1 t.2.2 (a.1.drop (ltk t a.1)) (stAt a.2.1 a.2.2)):=by
  intro h7
  have h7:=zJ.1 h7
  simp only [tmV]
  rw [show (t.1==1)=false by simp;omega,show (t.1==2)=false by simp;omega,show (t.1==3)=false by simp;omega,show (t.1==4)=false by simp;omega,show (t.1==5)=false by simp;omega,show (t.1==6)=false by simp;omega]
  rfl
 have hvb:tmV ins vs inp xs t (a.1.drop (ltk t a.1)) (stAt a.2.1 a.2.2)=0∨tmV ins vs inp xs t (a.1.drop (ltk t a.1)) (stAt a.2.1 a.2.2)=1:=by
  cases h7:leI 7 t.1 with
  |true=>
   obtain⟨hk,hbt⟩:=hblk h7
   rw [hv h7]
   have hp:=h.sp k hk
   simp only [possAt,hbt]at hp
   rw [h.hk]
   exact avX (afM hT h7) hp hdb
  |false=>
   have hkk:=aiV hT
   have h7': ¬ (7≤t.1):=fun hc=>by rw [bx hc]at h7;cases h7
   have hc:t.1=1∨t.1=2∨t.1=3∨t.1=4∨t.1=5∨t.1=6:=by omega
   rcases hc with e | e | e | e | e | e <;> simp only [tmV,e] <;> simp
   ·exact axx hi hx _
   ·exact axy d0
   ·exact awC d1
   ·exact ayx d1
 refine⟨hvb,⟨?_,?_,?_,?_,?_⟩⟩
 ·intro z hz
  simp only [lnS,List.mem_append,qqw]at hz
  rcases hz with hz | rfl
  ·exact h.hb z (List.mem_of_mem_take hz)
  ·exact hvb
 ·simp only [lnS,j7,j8,j6,ltk]
  omega
 ·simp only [lnS]
  cases leI 7 t.1 with
  |true=>simp only [cond_true,List.length_set];exact h.sl
  |false=>exact h.sl
 ·intro j hj
  simp only [lnS]
  cases h7:leI 7 t.1 with
  |false=>exact h.sp j hj
  |true=>
   obtain⟨hk,hbt⟩:=hblk h7
   simp only [cond_true]
   rw [h.hk]
   by_cases hjk:j=k
   ·subst hjk
    have hp:=h.sp j hj
    simp only [possAt,hbt]at hp ⊢
    have hs:stAt (a.2.1.set j (VR t.1 t.2.2 (a.1.drop (ltk t a.1)) (stAt a.2.1 j))) j=VR t.1 t.2.2 (a.1.drop (ltk t a.1)) (stAt a.2.1 j):=by
     simp only [stAt]
     rw [List.getElem?_set_self (by rw [h.sl];exact hj)];rfl
    rw [hs]
    exact(att (afM hT h7) hp hdb).2
   ·have hs:stAt (a.2.1.set k (VR t.1 t.2.2 (a.1.drop (ltk t a.1)) (stAt a.2.1 k))) j=stAt a.2.1 j:=by
     simp only [stAt]
     rw [List.getElem?_set_ne (fun h=>hjk h.symm)]
    simp only [possAt,hs]
    exact h.sp j hj
 ·simp only [lnS]
  rw [h.hk]
def blT(ts:List TM):List TM:=ts.filter fun t=>leI 7 t.1
def blL(ls:List LN):List TM:=ls.flatMap fun l=>blT l.2
theorem akN: ∀ (l1 l2:List TM) (n:Int),htT (l1++l2) n=match htT l1 n with | some m=>htT l2 m | none=>none
 | [],l2,n=>rfl
 |t::r,l2,n=>by
  simp only [List.cons_append,htT]
  cases (termB t.1 t.2.1 t.2.2&&leI (takesK t.1) n)with
  |false=>rfl
  |true=>simp only [cond_true];exact akN r l2 _
theorem avz: ∀ (l:List TM) (n m:Int),0≤n→htT l n=some m→0≤m∧m≤n + l.length
 | [],n,m,hn,h=>by simp only [htT,q8]at h;simp;omega
 |t::r,n,m,hn,h=>by
  simp only [htT]at h
  have hg:=Vl t.1
  cases hc:(termB t.1 t.2.1 t.2.2&&leI (takesK t.1) n)with
  |false=>rw [hc]at h;cases h
  |true=>
   rw [hc,cond_true]at h
   simp only [q9,zJ]at hc
   have:=avz r _ m (by omega) h
   simp only [j9]
   omega
theorem axb{ts:List TM}{e:Int}(lO:htT ts 0=some e){i:Nat}{t:TM}(ht:ts[i]? =some t):
  ∃ n,htT (ts.take i) 0=some n∧(0≤n∧n≤i)∧termB t.1 t.2.1 t.2.2=true∧takesK t.1≤n∧htT (ts.take (i + 1)) 0=some (n - takesK t.1 + 1):=by
 obtain⟨hi,rfl⟩:=k9.1 ht
 have hs:ts=ts.take i++ts[i]::ts.drop (i + 1):=by rw [List.getElem_cons_drop,List.take_append_drop]
 have h1:=akN (ts.take i) (ts[i]::ts.drop (i + 1)) 0
 rw [← hs,lO]at h1
 cases hp:htT (ts.take i) 0 with
 |none=>rw [hp]at h1;cases h1
 |some n=>
  rw [hp]at h1
  simp only [htT]at h1
  cases hc:(termB ts[i].1 ts[i].2.1 ts[i].2.2&&leI (takesK ts[i].1) n)with
  |false=>rw [hc]at h1;cases h1
  |true=>
   have h2:=akN (ts.take i) [ts[i]] 0
   rw [hp]at h2
   simp only [htT,hc,cond_true]at h2
   simp only [q9,zJ]at hc
   have hb:=avz _ _ _ (Int.le_refl 0) hp
   rw [j8]at hb
   exact⟨n,rfl,by omega,hc.1,hc.2,by rw [← h2,List.take_succ_eq_append_getElem hi]⟩
theorem an7{ins vs:List aAi}{inp xs:avu}: ∀ (l1 l2:List TM) (a:LS),ajr ins vs inp xs (l1++l2) a=ajr ins vs inp xs l2 (ajr ins vs inp xs l1 a)
 | [],l2,a=>rfl
 |t::r,l2,a=>an7 r l2 _
theorem afq(a b:List TM):blT (a++b)=blT a++blT b:=List.filter_append ..
theorem ao9(a b:List LN):blL (a++b)=blL a++blL b:=List.flatMap_append
theorem akF{pre post ts:List TM}{i:Nat}{t:TM}(ht:ts[i]? =some t)(h7:leI 7 t.1=true):
  pre.length + (blT (ts.take i)).length < (pre++blT ts++post).length∧gB (pre++blT ts++post) (pre.length + (blT (ts.take i)).length)=t∧(blT (ts.take (i + 1))).length=(blT (ts.take i)).length + 1:=by
 obtain⟨hi,rfl⟩:=k9.1 ht
 have hs:ts=ts.take i++ts[i]::ts.drop (i + 1):=by rw [List.getElem_cons_drop,List.take_append_drop]
 have hb:blT ts=blT (ts.take i)++ts[i]::blT (ts.drop (i + 1)):=by
  conv=>lhs;rw [hs,afq]
  congr 1
  simp only [blT,List.filter_cons,h7,if_true]
 have hb2:blT (ts.take (i + 1))=blT (ts.take i)++ [ts[i]]:=by
  rw [List.take_succ_eq_append_getElem hi,afq]
  congr 1
  simp only [blT,List.filter_cons,h7,if_true,List.filter_nil]
 refine⟨?_,?_,by rw [hb2];simp⟩
 ·rw [hb];simp
 ·simp only [gB]
  rw [List.append_assoc,List.getElem?_append_right (by omega),Nat.add_sub_cancel_left,hb,List.append_assoc,List.getElem?_append_right (by omega),Nat.sub_self]
  rfl
theorem avi{ts:List TM}{i:Nat}{t:TM}(ht:ts[i]? =some t)(h7:leI 7 t.1=false):(blT (ts.take (i + 1))).length=(blT (ts.take i)).length:=by
 obtain⟨hi,rfl⟩:=k9.1 ht
 rw [List.take_succ_eq_append_getElem hi,afq]
 simp [blT,List.filter_cons,h7]
def aqD(pre post ts:List TM)(i:Nat)(a:LS):Prop:= ∃ n,htT (ts.take i) 0=some n∧LnOk (pre++blT ts++post) n (pre.length + (blT (ts.take i)).length) a
theorem ani{ins vs:List aAi}{inp xs:avu}{pre post ts:List TM}{e:Int}{i:Nat}{a:LS}{t:TM}(hi:bitsB ins.length inp=true)(hx:bitsB vs.length xs=true)
  (lO:htT ts 0=some e) (ht:ts[i]? =some t) (h:aqD pre post ts i a):
  (0≤takesK t.1∧takesK t.1≤a.1.length)∧a.1.length≤i∧termB t.1 t.2.1 t.2.2=true∧bitsB (takesK t.1) (a.1.drop (ltk t a.1))=true∧a.2.1.length=(pre++blT ts++post).length∧
  (leI 7 t.1=true→a.2.2 < (pre++blT ts++post).length∧possB t.1 t.2.2 (stAt a.2.1 a.2.2).1 (stAt a.2.1 a.2.2).2.1 (stAt a.2.1 a.2.2).2.2=true)∧
  a.2.2≤(pre++blT ts++post).length∧(∀ z∈a.1,z=0∨z=1)∧
  aqD pre post ts (i + 1) (lnS ins vs inp xs t a):=by
 obtain⟨n,h1,h2⟩:=h
 obtain⟨n',g1,g2,g3,g4,g5⟩:=axb lO ht
 rw [h1]at g1;cases g1
 have hl:=h2.hl
 have h0:=Vl t.1
 have hblk:leI 7 t.1=true→pre.length + (blT (ts.take i)).length < (pre++blT ts++post).length∧gB (pre++blT ts++post) (pre.length + (blT (ts.take i)).length)=t:=
  fun h7=>⟨(akF ht h7).1,(akF ht h7).2.1⟩
 obtain⟨_,k2⟩:=azL (ins:=ins) (vs:=vs) hi hx g3 g4 hblk h2
 have hkle:a.2.2≤(pre++blT ts++post).length:=by
  rw [h2.hk]
  have:(blT (ts.take i)).length≤(blT ts).length:=by
   conv=>rhs;rw [← List.take_append_drop i ts,afq]
   simp
  simp;omega
 refine⟨by omega,by omega,g3,aq7 h2.hb (by omega),h2.sl,fun h7=> ?_,hkle,h2.hb,⟨_,g5,?_⟩⟩
 ·obtain⟨q1,q2⟩:=hblk h7
  rw [h2.hk]
  have:=h2.sp _ q1
  simp only [possAt,q2]at this
  exact⟨q1,this⟩
 ·have:(bif leI 7 t.1 then pre.length + (blT (ts.take i)).length + 1 else pre.length + (blT (ts.take i)).length)=pre.length + (blT (ts.take (i + 1))).length:=by
   cases h7:leI 7 t.1 with
   |true=>rw [(akF (pre:=pre) (post:=post) ht h7).2.2];rfl
   |false=>rw [avi ht h7];rfl
  rw [← this];exact k2
theorem avG{ins vs:List aAi}{inp xs:avu}{pre post ts:List TM}{e:Int}{a:LS}(hi:bitsB ins.length inp=true)(hx:bitsB vs.length xs=true)(lO:htT ts 0=some e)(h:aqD pre post ts 0 a):
  ∀ i,i≤ts.length→aqD pre post ts i (ajr ins vs inp xs (ts.take i) a)
 |0,_=>h
 |i + 1,hlt=>by
  have h1:=avG hi hx lO h i (by omega)
  rw [List.take_succ_eq_append_getElem (by omega),an7]
  exact(ani hi hx lO (List.getElem?_eq_getElem (by omega)) h1).2.2.2.2.2.2.2.2
theorem Yd{v:Int}{bs:List TM}{xs:avu}{ss:List BS3}:xF v bs xs ss=true↔ss.length=bs.length∧bitsB v xs=true∧ ∀ k,k < bs.length→possAt bs ss k=true:=by
 simp only [xF,q9,beq_iff_eq,List.all_eq_true,List.mem_range]
 constructor
 ·rintro⟨h1,h2,h3⟩;exact⟨by omega,h2,h3⟩
 ·rintro⟨h1,h2,h3⟩;exact⟨by omega,h2,h3⟩
abbrev SS4:=List Int×List Int×List BS3×Nat
def lnV(ins vs:List aAi)(inp:avu)(l:LN)(a:SS4):LS:=ajr ins vs inp a.1 l.2 ([],a.2.2.1,a.2.2.2)
def scS(ins vs os:List aAi)(inp:avu)(l:LN)(a:SS4):SS4:=(bif lY vs l.1 then a.1.set (Io vs l.1) (atZ (lnV ins vs inp l a).1 0)else a.1,bif lY vs l.1 then a.2.1 else a.2.1.set (Io os l.1) (atZ (lnV ins vs inp l a).1 0),(lnV ins vs inp l a).2.1,(lnV ins vs inp l a).2.2)
def aqh(ins vs os:List aAi)(inp:avu):List LN→SS4→SS4
 | [],a=>a
 |l::r,a=>aqh ins vs os inp r (scS ins vs os inp l a)
theorem aoj{ins vs os:List aAi}{inp:avu}: ∀ (l1 l2:List LN) (a:SS4),aqh ins vs os inp (l1++l2) a=aqh ins vs os inp l2 (aqh ins vs os inp l1 a)
 | [],l2,a=>rfl
 |t::r,l2,a=>aoj r l2 _
structure ScAt (vs os:List aAi) (ls:List LN) (i:Nat) (a:SS4):Prop where
 hx:bitsB vs.length a.1=true
 ho:bitsB os.length a.2.1=true
 sl:a.2.2.1.length=(blL ls).length
 sp: ∀ j,j < (blL ls).length→possAt (blL ls) a.2.2.1 j=true
 hk:a.2.2.2=(blL (ls.take i)).length
theorem abu{ls:List LN}{i:Nat}{l:LN}(hl:ls[i]? =some l):blL ls=blL (ls.take i)++blT l.2++blL (ls.drop (i + 1))∧(blL (ls.take (i + 1))).length=(blL (ls.take i)).length + (blT l.2).length:=by
 obtain⟨hi,rfl⟩:=k9.1 hl
 have hs:ls=ls.take i++ls[i]::ls.drop (i + 1):=by rw [List.getElem_cons_drop,List.take_append_drop]
 refine⟨?_,?_⟩
 ·conv=>lhs;rw [hs,ao9]
  rw [List.append_assoc]
  rfl
 ·rw [List.take_succ_eq_append_getElem hi,ao9]
  simp [blL]
theorem aal{x:LN}(h:lineB x=true):pB x.1=true∧x.2.length≤40∧htT x.2 0=some 1:=by
 simp only [lineB,ami,q9,eN]at h
 obtain⟨h1,h2,h3⟩:=h
 refine⟨h1,h2,?_⟩
 split at h3
 ·rename_i n hn;rw [hn];congr 1;exact eq_of_beq h3
 ·cases h3
theorem anI{vs os:List aAi}{ls:List LN}{i:Nat}{a:SS4}{l:LN}(hl:ls[i]? =some l)(h:ScAt vs os ls i a):
  aqD (blL (ls.take i)) (blL (ls.drop (i + 1))) l.2 0 ([],a.2.2.1,a.2.2.2):=by
 have hs:=(abu hl).1
 refine⟨0,by simp [htT],⟨fun z hz=>(List.not_mem_nil hz).elim,rfl,?_,?_,?_⟩⟩
 ·rw [← hs];exact h.sl
 ·rw [← hs];exact h.sp
 ·simp [blT,h.hk]
theorem aeQ{ins vs os:List aAi}{inp:avu}{ls:List LN}{i:Nat}{a:SS4}{l:LN}(hi:bitsB ins.length inp=true)(hL:lineB l=true)(hl:ls[i]? =some l)
  (h:ScAt vs os ls i a):(lnV ins vs inp l a).1.length=1∧(atZ (lnV ins vs inp l a).1 0=0∨atZ (lnV ins vs inp l a).1 0=1)∧ScAt vs os ls (i + 1) (scS ins vs os inp l a):=by
 obtain⟨hn,tG,hht⟩:=aal hL
 obtain⟨hs,hs2⟩:=abu hl
 have h0:=avG (ins:=ins) (vs:=vs) hi h.hx hht (anI hl h) l.2.length (Nat.le_refl _)
 rw [List.take_length]at h0
 obtain⟨n,g1,g2⟩:=h0
 rw [List.take_length,hht]at g1;cases g1
 have hlen1:(lnV ins vs inp l a).1.length=1:=by have:=g2.hl;simp only [lnV];omega
 have hbit:atZ (lnV ins vs inp l a).1 0=0∨atZ (lnV ins vs inp l a).1 0=1:=RO g2.hb 0
 refine⟨hlen1,hbit,⟨?_,?_,?_,?_,?_⟩⟩
 ·simp only [scS]
  cases lY vs l.1 with
  |true=>exact amb h.hx _ hbit
  |false=>exact h.hx
 ·simp only [scS]
  cases lY vs l.1 with
  |true=>exact h.ho
  |false=>exact amb h.ho _ hbit
 ·simp only [scS,lnV];rw [hs];exact g2.sl
 ·simp only [scS,lnV];rw [hs];exact g2.sp
 ·simp only [scS,lnV]
  rw [g2.hk,hs2,List.take_length]
theorem avS{ins vs os:List aAi}{inp:avu}{ls:List LN}{a:SS4}(hi:bitsB ins.length inp=true)(hL:ls.all lineB=true)(h:ScAt vs os ls 0 a):
  ∀ i,i≤ls.length→ScAt vs os ls i (aqh ins vs os inp (ls.take i) a)
 |0,_=>h
 |i + 1,hlt=>by
  have h1:=avS hi hL h i (by omega)
  rw [List.take_succ_eq_append_getElem (by omega),aoj]
  exact(aeQ hi (List.all_eq_true.1 hL _ (List.getElem_mem (by omega))) (List.getElem?_eq_getElem (by omega)) h1).2.2
def scE(ins vs os:List aAi)(ls:List LN)(inp xs:avu)(ss:List BS3):SS4:=aqh ins vs os inp ls (xs,v9 os.length 0,ss,0)
def scO(ins vs os:List aAi)(g:aAi)(ls:List LN)(inp xs:avu)(ss:List BS3):avu:=bif !(g.toList== [])&&nmV ins vs inp (scE ins vs os ls inp xs ss).1 g==0 then v9 os.length 0 else(scE ins vs os ls inp xs ss).2.1
def scV(ins vs os:List aAi)(ls:List LN)(inp xs:avu)(ss:List BS3):avu:=(scE ins vs os ls inp xs ss).1
def scB(ins vs os:List aAi)(ls:List LN)(inp xs:avu)(ss:List BS3):List BS3:=(scE ins vs os ls inp xs ss).2.2.1
theorem au1{ins vs os:List aAi}{inp xs:avu}{ss:List BS3}{ls:List LN}(hi:bitsB ins.length inp=true)(hL:ls.all lineB=true)(hs:xF vs.length (blL ls) xs ss=true):
  ScAt vs os ls ls.length (scE ins vs os ls inp xs ss):=by
 obtain⟨h1,h2,h3⟩:=Yd.1 hs
 have h0:ScAt vs os ls 0 (xs,v9 os.length 0,ss,0):=⟨h2,dF.2 ⟨fun z hz=> .inl (qqq hz),by simp⟩,h1,h3,by simp [blL]⟩
 have:=avS hi hL h0 ls.length (Nat.le_refl _)
 rw [List.take_length]at this
 exact this
theorem asu{ins vs os:List aAi}{g:aAi}{inp xs:avu}{ss:List BS3}{ls:List LN}(hi:bitsB ins.length inp=true)(hL:ls.all lineB=true)(hs:xF vs.length (blL ls) xs ss=true):
  xF vs.length (blL ls) (scV ins vs os ls inp xs ss) (scB ins vs os ls inp xs ss)=true∧bitsB os.length (scO ins vs os g ls inp xs ss)=true:=by
 have h:=au1 (os:=os) hi hL hs
 refine⟨Yd.2 ⟨h.sl,h.hx,h.sp⟩,?_⟩
 simp only [scO]
 cases (!(g.toList== [])&&nmV ins vs inp (scE ins vs os ls inp xs ss).1 g==0)with
 |true=>exact dF.2 ⟨fun z hz=> .inl (qqq hz),by simp⟩
 |false=>exact h.ho
theorem adh{A B:Type}{f g:B→A→Nat ⊕ A}{e:Nat}: ∀ {l:List B} {i:Nat} {a:A},(∀ b∈l,∀ a,f b a=g b a)→bz f e l i a=bz g e l i a
 | [],_,_,_=>rfl
 |b::r,i,a,h=>by
  simp only [bz,h b (by simp) a]
  cases g b a with
  |inl j=>rfl
  |inr a'=>exact adh fun x hx=>h x (by simp [hx])
def FU(a b:aAi):(Unit)→Nat ⊕ (Unit)
 |_=>(bif(ByteArray.toList (b)==ByteArray.toList a)then(.inl 0)else(.inr ()))
def sR(a:aAi)(b:List aAi)(i:Nat):(Unit)→pG
 |_=>((i:Int),a,b)
def SP:pG→Unit
 |(_,_,_)=>()
theorem alL(c:aAi)(e:List aAi) (hn:e.length≤9223372036854775807):
  fG.fin ((0:Int),c,e)=true∧fG.res ((0:Int),c,e)=((bz (FU c) 1 e 0 ()).1,(sR c e) (bz (FU c) 1 e 0 ()).2.1 (bz (FU c) 1 e 0 ()).2.2):=by
 have oe:=fG.along (sR c e) SP (FU c) 1 (fun _ _=>True) e () (by trivial) (by simp only [fG,sR];omega) (fun i b a hb hI=> ?_) (fun a hI=> ?_)
 ·exact oe
 ·obtain⟨⟩:=a
  have hlt:=(k9.1 hb).1
  have nk: ∀ d,v7 e[i]? d=b:=fun d=>by rw [hb];rfl
  have hw:=Bv hlt hn
  have gr:ltI (i:Int) (e.length:Int)=true:=dL (by omega)
  have LW:leI (0:Int) (i:Int)=true:=bx (by omega)
  have sd:ltN i e.length=true:=er hlt
  refine⟨?_,?_,?_,?_⟩
  ·simp [CM,GU,GV,GW,GX,EJ,fG,LT.nds,allT,sR,gr,LW,sd,nk]
  ·simp [CM,GU,GV,GW,GX,EJ,fG,LT.each,sR,SP,hw]
  ·simp only [CM,GU,GV,GW,GX,EJ,fG,LT.fn,sR,SP,FU,w5,gr,LW,sd,nk,cond_true,k8]
  ·exact fun _ _=>trivial
 ·obtain⟨⟩:=a
  simp [CM,GU,GV,GW,GX,EJ,fG,LT.out,sR]
theorem ak6(s:aAi)(l:List aAi)(h:leN l.length 9223372036854775807=true):NS s l=oP l s∧TL s l=true:=by
 obtain⟨w1,w2⟩:=alL s l (eN.1 h)
 rw [lA (P:=fun k=>k.toList==s.toList) (j:=0) (fun k=>rfl)]at w2
 simp only [NS,TL,Sv,w1,w2,allT,sR,oP,lY,Io]
 cases l.any fun k=>k.toList==s.toList <;> simp [Nat.beq]
theorem apw(s:aAi)(l:List aAi)(h:leN l.length 9223372036854775807=true):sw s l=oP l s∧sx s l=true:=by
 obtain⟨w1,w2⟩:=JJ s l (eN.1 h)
 rw [lA (P:=fun k=>s.toList==k.toList) (j:=0) (fun k=>rfl)]at w2
 have e1:(fun k:aAi=>s.toList==k.toList)=fun k=>k.toList==s.toList:=funext fun k=>BEq.comm
 have e2:(fun k:aAi=> !(s.toList==k.toList))=fun k=> !(k.toList==s.toList):=funext fun k=>by rw [BEq.comm]
 rw [e1,e2]at w2
 simp only [sw,sx,ry,w1,w2,allT,eL,oP,lY,Io]
 cases l.any fun k=>k.toList==s.toList <;> simp [Nat.beq]
theorem Zq(l:List aAi)(s:aAi):leI 0 (oP l s)=lY l s:=by
 simp only [oP]
 cases lY l s with
 |true=>exact bx (by simp)
 |false=>rfl
def af9:aAj
 | [.one ⟨false,[.ref 0]⟩,.one ⟨false,[.val (.string a)]⟩],[.row false 9 (.str) b]=>some ⟨aAm (oP b a),[aAn b],[],[leN b.length 9223372036854775807]⟩
 |_,_=>none
def aX:PF prog:=PF.alt Eu af9 (by
 intro args es o h cL;unfold af9 at h;split at h
 ·rename_i a b
  cases h
  have cL:=kO cL
  have hh:=ak6 a b cL
  obtain⟨e0,en⟩:=hh
  exact qm rfl (jv en) (by simp only [e0] <;> rfl) rfl rfl
 ·cases h)
def NG:aAj
 | [.one ⟨false,[.ref 0]⟩,.one ⟨false,[.val (.string a)]⟩],[.row false 9 (.str) b]=>some ⟨aAm (oP b a),[aAn b],[],[leN b.length 9223372036854775807]⟩
 |_,_=>none
def Et:PF prog:=PF.alt yt NG (by
 intro args es o h cL;unfold NG at h;split at h
 ·rename_i a b
  cases h
  have cL:=kO cL
  have hh:=apw a b cL
  obtain⟨e0,en⟩:=hh
  exact qm rfl (jv en) (by simp only [e0] <;> rfl) rfl rfl
 ·cases h)
theorem auu(s:aAi)(l:List aAi)(h:leN l.length 9223372036854775807=true):jg s l=lY l s∧mc s l=true:=by
 obtain⟨e1,e2⟩:=apw s l h
 simp only [jg,mc,e1,e2,Zq,allT,and_self,cond_true]
def JH:aAj
 | [.one ⟨false,[.ref 0]⟩,.one ⟨false,[.val (.string a)]⟩],[.row false 9 (.str) b]=>some ⟨aAl (.val (.bool (lY b a))),[aAn b],[],[leN b.length 9223372036854775807]⟩
 |_,_=>none
def aO:PF prog:=PF.alt ej JH (by
 intro args es o h cL;unfold JH at h;split at h
 ·rename_i a b
  cases h
  have cL:=kO cL
  have hh:=auu a b cL
  obtain⟨e0,en⟩:=hh
  exact qm rfl (jv en) (by simp only [e0] <;> rfl) rfl rfl
 ·cases h)
theorem ayW(a b c:List aAi)(h:leN (a.length + b.length + c.length) 2000000=true):aj6 a b c=a++b++c∧ad2 a b c=true:=by
 have h:=eN.1 h
 refine⟨rfl,?_⟩
 simp [ad2,WE,allT]
 omega
def ajR:aAj
 | [.one ⟨true,[.val (.string _x0),.ref 0,.ref 1,.ref 2,.val (.string _x1),.ref 3]⟩],[.row false 9 (.str) a,.row false 9 (.str) b,.row false 9 (.str) c,.row false 91 (.pair (.str) (.sl 66 (.pair (.int .i64) (.pair (.str) (.int .i64))))) d]=>some ⟨aAl (.ref 4),[aAn a,aAn b,aAn c,aAt d],[aAr (a++b++c)],[leN (a.length + b.length + c.length) 2000000]⟩
 |_,_=>none
def vv:PF prog:=PF.alt aqW ajR (by
 intro args es o h cL;unfold ajR at h;split at h
 ·rename_i _x0 _x1 a b c d
  cases h
  have cL:=kO cL
  have hh:=ayW a b c cL
  obtain⟨e0,en⟩:=hh
  exact qm rfl (jv en) rfl rfl (by simp only [e0] <;> rfl)
 ·cases h)
theorem Vc(s:aAi)(h:s.size≤9223372036854775807):pu s=pB s∧yk s=true:=by
 obtain⟨e1,e2⟩:=aqk s
 have hl:leN s.size 9223372036854775807=true:=aY h
 refine⟨?_,?_⟩
 ·simp only [pu,e1,pB];cases aag s <;> rfl
 ·simp only [yk,e2,hl,allT,k7,cond_true]
theorem acF(s:aAi):ox s=pB s:=by simp only [ox,pB];cases aag s <;> rfl
def XD(l:List aAi):Bool:=leN l.length 9223372036854775807&&l.all fun s=>leN s.size 9223372036854775807
def yy(b:aAi):(Unit)→Nat ⊕ (Unit)
 |_=>(bif(!pu b)then(.inl 0)else(.inr ()))
def xj(a:List aAi)(i:Nat):(Unit)→pE
 |_=>((i:Int),a)
def SN:pE→Unit
 |(_,_)=>()
theorem alJ(c:List aAi) (hn:c.length≤9223372036854775807) (hA: ∀ x∈c,x.size≤9223372036854775807):
  gp.fin ((0:Int),c)=true∧gp.res ((0:Int),c)=((bz (yy) 1 c 0 ()).1,(xj c) (bz (yy) 1 c 0 ()).2.1 (bz (yy) 1 c 0 ()).2.2):=by
 have oe:=gp.along (xj c) SN (yy) 1 (fun _ _=>True) c () (by trivial) (by simp only [gp,xj];omega) (fun i b a hb hI=> ?_) (fun a hI=> ?_)
 ·exact oe
 ·obtain⟨⟩:=a
  have hlt:=(k9.1 hb).1
  have nk: ∀ d,v7 c[i]? d=b:=fun d=>by rw [hb];rfl
  have hw:=Bv hlt hn
  have gr:ltI (i:Int) (c.length:Int)=true:=dL (by omega)
  have LW:leI (0:Int) (i:Int)=true:=bx (by omega)
  have sd:ltN i c.length=true:=er hlt
  refine⟨?_,?_,?_,?_⟩
  ·have hg2:sP (i:Int) c=b:=by simp only [sP,w5];exact nk _
   have h6:=(Vc b (hA b (List.mem_of_getElem? hb))).2
   simp [CI,Ns,Nt,Nu,GJ,Nv,EG,gp,LT.nds,allT,xj,gr,LW,sd,hg2,h6]
  ·simp [sP,CI,Ns,Nt,Nu,GJ,Nv,EG,gp,LT.each,xj,SN,hw]
  ·have hg2:sP (i:Int) c=b:=by simp only [sP,w5];exact nk _
   simp only [CI,GJ,EG,gp,LT.fn,xj,SN,yy,w5,gr,hg2,cond_true]
  ·exact fun _ _=>trivial
 ·obtain⟨⟩:=a
  simp [sP,CI,Ns,Nt,Nu,GJ,Nv,EG,gp,LT.out,xj]
theorem asy(lo:Int)(l:List aAi)(h:XD l=true):ZH lo l=(l.all pB&&inR (l.length:Int) lo 20)∧ZI l=true:=by
 simp only [XD,q9,eN,List.all_eq_true]at h
 obtain⟨w1,w2⟩:=alJ l h.1 h.2
 have e0:(bz yy 1 l 0 ())=(bz (fun(k:aAi) (_:Unit)=>bif !pB k then(.inl 0:Nat ⊕ Unit)else .inr ()) 1 l 0 ()):=by
  refine adh fun b hb a=> ?_
  simp only [yy,(Vc b (h.2 b hb)).1]
 rw [e0,lA (P:=fun k=> !pB k) (j:=0) (fun k=>rfl)]at w2
 have e5:(l.any fun k=> !pB k)= !l.all pB:=by simp [List.all_eq_not_any_not]
 rw [e5]at w2
 simp only [ZH,ZI,w1,w2,allT,ak,MM]
 cases l.all pB <;> simp [Nat.beq]
def fq(b:aAi):(Unit)→Nat ⊕ (Unit)
 |_=>(bif(Eg b)then(.inl 0)else(.inr ()))
def dh(a:List aAi)(i:Nat):(Unit)→bP
 |_=>((i:Int),(↑a.length:Int),a)
def rN:bP→Unit
 |(_,_,_)=>()
theorem NW(c:List aAi) (hn:c.length≤9223372036854775807):
  am.fin ((0:Int),(↑c.length:Int),c)=true∧am.res ((0:Int),(↑c.length:Int),c)=((bz (fq) 1 c 0 ()).1,(dh c) (bz (fq) 1 c 0 ()).2.1 (bz (fq) 1 c 0 ()).2.2):=by
 have oe:=am.along (dh c) rN (fq) 1 (fun _ _=>True) c () (by trivial) (by simp only [am,dh];omega) (fun i b a hb hI=> ?_) (fun a hI=> ?_)
 ·exact oe
 ·obtain⟨⟩:=a
  have hlt:=(k9.1 hb).1
  have nk: ∀ d,v7 c[i]? d=b:=fun d=>by rw [hb];rfl
  have hw:=Bv hlt hn
  have gr:ltI (i:Int) (c.length:Int)=true:=dL (by omega)
  have LW:leI (0:Int) (i:Int)=true:=bx (by omega)
  have sd:ltN i c.length=true:=er hlt
  refine⟨?_,?_,?_,?_⟩
  ·simp [iN,iO,iP,iQ,iR,iS,iw,am,LT.nds,allT,dh,gr,LW,sd,nk]
  ·simp [iN,iO,iP,iQ,iR,iS,iw,am,LT.each,dh,rN,hw]
  ·simp only [iN,iO,iP,iQ,iR,iS,iw,am,LT.fn,dh,rN,fq,w5,gr,LW,sd,nk,cond_true,k8]
  ·exact fun _ _=>trivial
 ·obtain⟨⟩:=a
  simp [iN,iO,iP,iQ,iR,iS,iw,am,LT.out,dh]
theorem asM(l:List aAi)(h:leN l.length 9223372036854775807=true):Zs l=l.all pB∧Zt l=true:=by
 obtain⟨w1,w2⟩:=NW l (eN.1 h)
 rw [lA (P:=fun k=> !pB k) (j:=0) (fun k=>by simp only [fq,Eg,acF])]at w2
 have e5:(l.any fun k=> !pB k)= !l.all pB:=by simp [List.all_eq_not_any_not]
 rw [e5]at w2
 have q: ∀ m:Nat,leI 0 (m:Int)=true:=fun m=>bx (by omega)
 have q2:leI 0 (-1)=false:=rfl
 simp only [Zs,Zt,su,sv,uN,uO,oM,w1,w2,allT,dh]
 cases (l.all pB) <;> simp [Nat.beq,q,q2]
def af8:aAj
 | [.one ⟨false,[.ref 0]⟩,.one ⟨false,[.val (.int .i64 a)]⟩],[.row false 9 (.str) b]=>some ⟨aAl (.val (.bool (b.all pB&&inR (b.length:Int) a 20))),[aAn b],[],[XD b]⟩
 |_,_=>none
def HN:PF prog:=PF.alt aoH af8 (by
 intro args es o h cL;unfold af8 at h;split at h
 ·rename_i a b
  cases h
  have cL:=kO cL
  have hh:=asy a b cL
  obtain⟨e0,en⟩:=hh
  exact qm rfl (jv en) (by simp only [e0] <;> rfl) rfl rfl
 ·cases h)
def af4:aAj
 | [.one ⟨false,[.ref 0]⟩],[.row false 9 (.str) a]=>some ⟨aAl (.val (.bool (a.all pB))),[aAn a],[],[leN a.length 9223372036854775807]⟩
 |_,_=>none
def ZB:PF prog:=PF.alt aoB af4 (by
 intro args es o h cL;unfold af4 at h;split at h
 ·rename_i a
  cases h
  have cL:=kO cL
  have hh:=asM a cL
  obtain⟨e0,en⟩:=hh
  exact qm rfl (jv en) (by simp only [e0] <;> rfl) rfl rfl
 ·cases h)
theorem aqA(l:List aAi):(List.range l.length).any (fun b=>lY (List.take b l) (v7 l[b]? ByteArray.empty))=vt l:=rfl
def Cr(a:List aAi)(b:Nat):(Unit)→Nat ⊕ (Unit)
 |_=>(bif(leI 0 (NS (v7 a[b]? ByteArray.empty) (List.drop (v5 0) (List.take b a))))then(.inl 0)else(.inr ()))
def xk(a:List aAi)(i:Nat):(Unit)→pH
 |_=>((i:Int),a)
def SQ:pH→Unit
 |(_,_)=>()
theorem alM(c:List aAi) (hn:c.length≤9223372036854775807):
  gq.fin ((0:Int),c)=true∧gq.res ((0:Int),c)=((bz (Cr c) 1 (List.range c.length) 0 ()).1,(xk c) (bz (Cr c) 1 (List.range c.length) 0 ()).2.1 (bz (Cr c) 1 (List.range c.length) 0 ()).2.2):=by
 have oe:=gq.along (xk c) SQ (Cr c) 1 (fun _ _=>True) (List.range c.length) () (by trivial) (by simp only [gq,xk,List.length_range];omega) (fun i b a hb hI=> ?_) (fun a hI=> ?_)
 ·exact oe
 ·obtain⟨⟩:=a
  obtain⟨rfl,hlt⟩:=UZ hb
  have hw:IntKind.i64.wrap ((b:Int) + 1)=((b + 1:Nat):Int):=by rw [wrap_i64 (by omega) (by omega)];omega
  have gr:ltI (b:Int) (c.length:Int)=true:=dL (by omega)
  have LW:leI (0:Int) (b:Int)=true:=bx (by omega)
  have sd:ltN b c.length=true:=er (by omega)
  refine⟨?_,?_,?_,?_⟩
  ·have tG:(List.take b c).length≤9223372036854775807:=by rw [j8];omega
   have e:xf (b:Int) c=List.take b c:=by simp [xf]
   have h5:CP (b:Int) c=true:=by simp only [CP,e];exact(ak6 _ _ (aY tG)).2
   have h3:Ha (b:Int) c=true:=bx (by omega)
   have h1:GZ=true:=rfl
   simp only [EK,gq,LT.nds,allT,xk,CN,CO,Hb,h1,h3,h5,gr,LW,sd,w5,cond_true,Bool.and_self,List.all_nil,List.all_cons]
   cases Hc (b:Int) c <;> simp [LT.nds]
  ·simp [EV,xf,CN,GZ,CO,Ha,Hb,CP,Hc,Nx,EK,gq,LT.each,xk,SQ,hw]
  ·simp only [EV,xf,CN,GZ,CO,Ha,Hb,CP,Hc,Nx,EK,gq,LT.fn,xk,SQ,Cr,w5,gr,cond_true]
  ·exact fun _ _=>trivial
 ·obtain⟨⟩:=a
  simp [EV,xf,CN,GZ,CO,Ha,Hb,CP,Hc,Nx,EK,gq,LT.out,xk,List.length_range]
theorem asA(l:List aAi)(h:leN l.length 9223372036854775807=true):ZL l=vt l∧ZM l=true:=by
 have hn:=eN.1 h
 obtain⟨w1,w2⟩:=alM l hn
 have hi: ∀ b:Nat,(List.take b l).length≤9223372036854775807:=fun b=>by rw [j8];omega
 rw [lA (P:=fun b=>lY (List.take b l) (v7 l[b]? ByteArray.empty)) (j:=0) (fun b=>by
  simp only [Cr,Int.toNat_zero,List.drop_zero,(ak6 _ _ (aY (hi b))).1,Zq]),aqA]at w2
 simp only [ZL,ZM,w1,w2,allT]
 cases vt l <;> simp [Nat.beq]
theorem Xa{A B:Type}{f:B→A→Nat ⊕ A}{g:A→B→A}{e:Nat}(hf: ∀ b a,f b a= .inr (g a b)): ∀ (l:List B) (i:Nat) (a:A),bz f e l i a=(e,i + l.length,l.foldl g a)
 | [],i,a=>rfl
 |b::r,i,a=>by
  simp only [bz,hf,List.foldl_cons]
  rw [Xa hf r]
  simp [Nat.add_assoc,Nat.add_comm 1]
def Cq(a:List aAi)(b:Nat):(Unit)→Nat ⊕ (Unit)
 |_=>(bif(jg (v7 a[b]? ByteArray.empty) (List.drop (v5 0) (List.take b a)))then(.inl 0)else(.inr ()))
def xg(a:List aAi)(i:Nat):(Unit)→pC
 |_=>((i:Int),(↑a.length:Int),a)
def SL:pC→Unit
 |(_,_,_)=>()
theorem alH(c:List aAi) (hn:c.length≤9223372036854775807):
  gm.fin ((0:Int),(↑c.length:Int),c)=true∧gm.res ((0:Int),(↑c.length:Int),c)=((bz (Cq c) 1 (List.range c.length) 0 ()).1,(xg c) (bz (Cq c) 1 (List.range c.length) 0 ()).2.1 (bz (Cq c) 1 (List.range c.length) 0 ()).2.2):=by
 have oe:=gm.along (xg c) SL (Cq c) 1 (fun _ _=>True) (List.range c.length) () (by trivial) (by simp only [gm,xg,List.length_range];omega) (fun i b a hb hI=> ?_) (fun a hI=> ?_)
 ·exact oe
 ·obtain⟨⟩:=a
  obtain⟨rfl,hlt⟩:=UZ hb
  have hw:IntKind.i64.wrap ((b:Int) + 1)=((b + 1:Nat):Int):=by rw [wrap_i64 (by omega) (by omega)];omega
  have gr:ltI (b:Int) (c.length:Int)=true:=dL (by omega)
  have LW:leI (0:Int) (b:Int)=true:=bx (by omega)
  have sd:ltN b c.length=true:=er (by omega)
  refine⟨?_,?_,?_,?_⟩
  ·have tG:(List.take b c).length≤9223372036854775807:=by rw [j8];omega
   have e:wS (b:Int) c=List.take b c:=by simp [wS]
   have h5:Cv (b:Int) c=true:=by simp only [Cv,e];exact(auu _ _ (aY tG)).2
   have h3:FZ (b:Int) c=true:=bx (by omega)
   have h1:FY=true:=rfl
   simp only [EE,gm,LT.nds,allT,xg,FV,Cu,FW,FX,h1,h3,h5,gr,LW,sd,w5,cond_true,Bool.and_self,List.all_nil,List.all_cons]
   cases Ga (b:Int) c <;> simp [LT.nds]
  ·simp [ED,wS,FV,Cu,FW,FX,FY,FZ,Cv,Ga,MK,EE,gm,LT.each,xg,SL,hw]
  ·simp only [ED,wS,FV,Cu,FW,FX,FY,FZ,Cv,Ga,MK,EE,gm,LT.fn,xg,SL,Cq,w5,gr,cond_true]
  ·exact fun _ _=>trivial
 ·obtain⟨⟩:=a
  simp [ED,wS,FV,Cu,FW,FX,FY,FZ,Cv,Ga,MK,EE,gm,LT.out,xg,List.length_range]
theorem ar7(l:List aAi)(h:leN l.length 9223372036854775807=true):Zy l=vt l∧Zz l=true:=by
 have hn:=eN.1 h
 obtain⟨w1,w2⟩:=alH l hn
 have hi: ∀ b:Nat,(List.take b l).length≤9223372036854775807:=fun b=>by rw [j8];omega
 rw [lA (P:=fun b=>lY (List.take b l) (v7 l[b]? ByteArray.empty)) (j:=0) (fun b=>by
  simp only [Cq,Int.toNat_zero,List.drop_zero,(auu _ _ (aY (hi b))).1]),aqA]at w2
 simp only [Zy,Zz,XI,w1,w2,allT]
 cases vt l <;> simp [Nat.beq]
def aga:aAj
 | [.one ⟨false,[.ref 0]⟩],[.row false 9 (.str) a]=>some ⟨aAl (.val (.bool (vt a))),[aAn a],[],[leN a.length 9223372036854775807]⟩
 |_,_=>none
def qH:PF prog:=PF.alt aoI aga (by
 intro args es o h cL;unfold aga at h;split at h
 ·rename_i a
  cases h
  have cL:=kO cL
  have hh:=asA a cL
  obtain⟨e0,en⟩:=hh
  exact qm rfl (jv en) (by simp only [e0] <;> rfl) rfl rfl
 ·cases h)
def af6:aAj
 | [.one ⟨false,[.ref 0]⟩],[.row false 9 (.str) a]=>some ⟨aAl (.val (.bool (vt a))),[aAn a],[],[leN a.length 9223372036854775807]⟩
 |_,_=>none
def HL:PF prog:=PF.alt aoD af6 (by
 intro args es o h cL;unfold af6 at h;split at h
 ·rename_i a
  cases h
  have cL:=kO cL
  have hh:=ar7 a cL
  obtain⟨e0,en⟩:=hh
  exact qm rfl (jv en) (by simp only [e0] <;> rfl) rfl rfl
 ·cases h)
theorem axX(k:Int):vC k=takesK k:=rfl
theorem avW(n k:Int)(h0:0≤n)(h1:n≤9223372036854775000):IntKind.i64.wrap (IntKind.i64.wrap (n - takesK k) + 1)=n - takesK k + 1∧IntKind.i64.wrap (n + IntKind.i64.wrap (1 - takesK k))=n - takesK k + 1:=by
 have:=Vl k
 refine⟨?_,?_⟩
 ·rw [wrap_i64 (x:=n - takesK k) (by omega) (by omega),wrap_i64 (by omega) (by omega)]
 ·rw [wrap_i64 (x:=1 - takesK k) (by omega) (by omega),wrap_i64 (by omega) (by omega)];omega
theorem acO(a b:Int):ltI a b= !leI b a:=by
 cases h:leI b a with
 |true=>have:=zJ.1 h;exact Ej (by omega)
 |false=>rw [avD]at h;exact dL (by omega)
def aaf(ts:List TM):Bool:=leN ts.length 1048576&&ts.all fun t=>leN t.2.1.size 9223372036854775807
def ZY(ls:List LN):Bool:=leN ls.length 1048576&&ls.all fun l=>leN l.1.size 9223372036854775807&&aaf l.2
theorem Vm{ts:List TM}:aaf ts=true↔ts.length≤1048576∧ ∀ t∈ts,t.2.1.size≤9223372036854775807:=by
 simp only [aaf,q9,eN,List.all_eq_true]
theorem UV{ls:List LN}:ZY ls=true↔ls.length≤1048576∧ ∀ l∈ls,l.1.size≤9223372036854775807∧aaf l.2=true:=by
 simp only [ZY,q9,eN,List.all_eq_true]
def sG(b:Int×(aAi×Int)):(Int×Int)→Nat ⊕ (Int×Int)
 |(a,c)=>(bif(bif !Ob b.1 (b.2.1) b.2.2then true else ltI a (vC b.1))then(.inl 0)else(.inr ((v8 .i64 (a + v8 .i64 ((1:Int) - vC b.1))),(anf c (v8 .i64 (a + v8 .i64 ((1:Int) - vC b.1))) (v8 .i64 (a + v8 .i64 ((1:Int) - vC b.1))) c))))
def xD(c:aor)(i:Nat):(Int×Int)→sD
 |(a,b)=>((i:Int),(↑c.length:Int),a,b,c)
def Wb:sD→Int×Int
 |(_,_,a,b,_)=>(a,b)
theorem anN(f:aor)(c e:Int)(hn:f.length≤9223372036854775807):
  ir.fin ((0:Int),(↑f.length:Int),c,e,f)=true∧ir.res ((0:Int),(↑f.length:Int),c,e,f)=((bz (sG) 1 f 0 (c,e)).1,(xD f) (bz (sG) 1 f 0 (c,e)).2.1 (bz (sG) 1 f 0 (c,e)).2.2):=by
 have oe:=ir.along (xD f) Wb (sG) 1 (fun _ _=>True) f (c,e) (by trivial) (by simp only [ir,xD];omega) (fun i b a hb hI=> ?_) (fun a hI=> ?_)
 ·exact oe
 ·obtain⟨c,e⟩:=a
  have hlt:=(k9.1 hb).1
  have nk: ∀ d,v7 f[i]? d=b:=fun d=>by rw [hb];rfl
  have hw:=Bv hlt hn
  have gr:ltI (i:Int) (f.length:Int)=true:=dL (by omega)
  have LW:leI (0:Int) (i:Int)=true:=bx (by omega)
  have sd:ltN i f.length=true:=er hlt
  refine⟨?_,?_,?_,?_⟩
  ·simp [tH,Af,KJ,KK,KL,KM,KN,KO,KP,KQ,Ij,ir,LT.nds,allT,xD,gr,LW,sd,nk]
  ·simp [tH,Af,KJ,KK,KL,KM,KN,KO,KP,KQ,Ij,ir,LT.each,xD,Wb,hw]
  ·simp only [tH,Af,KJ,KK,KL,KM,KN,KO,KP,KQ,Ij,ir,LT.fn,xD,Wb,sG,w5,gr,LW,sd,nk,cond_true,k8]
  ·exact fun _ _=>trivial
 ·obtain⟨c,e⟩:=a
  simp [tH,Af,KJ,KK,KL,KM,KN,KO,KP,KQ,Ij,ir,LT.out,xD]
theorem aon: ∀ (ts:List TM) (i:Nat) (n m:Int),0≤n→n + ts.length≤9223372036854775000→
  match htT ts n with
  |some k=>(bz sG 1 ts i (n,m)).1=1∧(bz sG 1 ts i (n,m)).2.2.1=k
  |none=>(bz sG 1 ts i (n,m)).1=0
 | [],i,n,m,_,_=>⟨rfl,rfl⟩
 |t::r,i,n,m,h0,h1=>by
  rw [j9]at h1
  have hw:=(avW n t.1 h0 (by omega)).2
  have ht:=Vl t.1
  have hf:sG t (n,m)=(bif termB t.1 t.2.1 t.2.2&&leI (takesK t.1) n then .inr (n - takesK t.1 + 1,anf m (n - takesK t.1 + 1) (n - takesK t.1 + 1) m)else .inl 0):=by
   simp only [sG,an3,axX,hw,acO]
   cases termB t.1 t.2.1 t.2.2 <;> cases leI (takesK t.1) n <;> rfl
  simp only [bz,hf,htT]
  cases hc:termB t.1 t.2.1 t.2.2&&leI (takesK t.1) n with
  |false=>rfl
  |true=>
   simp only [q9,zJ]at hc
   simp only [cond_true]
   exact aon r (i + 1) _ _ (by omega) (by omega)
theorem atf(ts:List TM)(h:aaf ts=true):JT ts=ami ts∧JU ts=true:=by
 obtain⟨hn,_⟩:=Vm.1 h
 obtain⟨w1,w2⟩:=anN ts 0 0 (by omega)
 have hh:=aon ts 0 0 0 (by omega) (by omega)
 have Xb:leI (ts.length:Int) 40=leN ts.length 40:=by
  rw [Bool.eq_iff_iff,zJ,eN];omega
 simp only [JT,JU,adC,adD,VH,aa7,aa8,w1,w2,allT,ami,Xb,cond_true,xD]
 cases hq:htT ts 0 with
 |none=>
  rw [hq]at hh
  simp only at hh
  rw [hh];simp [Nat.beq]
 |some k=>
  rw [hq]at hh
  simp only at hh
  rw [hh.1,hh.2]
  dsimp only
  generalize (k==1)=q
  cases q <;> cases leN ts.length 40 <;> simp [Nat.beq]
def kz(b:Int×(aAi×Int)):(Int×avu)→Nat ⊕ (Int×avu)
 |(a,c)=>(bif(bif(!Ry b.1 (b.2.1) b.2.2)then true else ltI a (fC b.1))then(.inl 0)else(.inr ((v8 .i64 (v8 .i64 (a - fC b.1) + (1:Int))),(c++ [v8 .i64 (v8 .i64 (a - fC b.1) + (1:Int))]))))
def qF(b:aor)(i:Nat):(Int×avu)→mq
 |(a,c)=>((i:Int),a,b,c)
def OW:mq→Int×avu
 |(_,a,_,b)=>(a,b)
theorem aiF(f:aor)(e:Int)(g:avu)(hn:f.length≤9223372036854775807)(hT:f.length≤1048576)(hA: ∀ x∈f,x.2.1.size≤9223372036854775807)(h3:g.length=0):
  ez.fin ((0:Int),e,f,g)=true∧ez.res ((0:Int),e,f,g)=((bz (kz) 1 f 0 (e,g)).1,(qF f) (bz (kz) 1 f 0 (e,g)).2.1 (bz (kz) 1 f 0 (e,g)).2.2):=by
 have oe:=ez.along (qF f) OW (kz) 1 (fun i a=>a.2.length=i) f (e,g) h3 (by simp only [ez,qF];omega) (fun i b a hb hI=> ?_) (fun a hI=> ?_)
 ·exact oe
 ·obtain⟨e,g⟩:=a
  have hlt:=(k9.1 hb).1
  have nk: ∀ d,v7 f[i]? d=b:=fun d=>by rw [hb];rfl
  have hw:=Bv hlt hn
  have gr:ltI (i:Int) (f.length:Int)=true:=dL (by omega)
  have LW:leI (0:Int) (i:Int)=true:=bx (by omega)
  have sd:ltN i f.length=true:=er hlt
  refine⟨?_,?_,?_,?_⟩
  ·have hg2:fe (i:Int) f=b:=by simp only [fe,w5];exact nk _
   have h6:Rz b.1 b.2.1 b.2.2=true:=(aol b.1 b.2.1 b.2.2 (aY (hA b (List.mem_of_getElem? hb)))).2
   simp only at hI
   have h8:leN (g.length + 1) 9223372036854775807=true:=aY (by omega)
   have h9:leN ((g.length + 1) * 8) 140737488355328=true:=aY (by omega)
   simp [ve,zp,zq,DJ,DK,DL,DM,DN,DO,DP,Ca,Cb,Cc,BQ,ez,LT.nds,allT,qF,gr,LW,sd,hg2,h6,h8,h9]
  ·simp [fe,tA,tB,ve,zp,zq,DJ,DK,DL,DM,DN,DO,DP,Ca,Cb,Cc,BQ,ez,LT.each,qF,OW,hw]
  ·have hg2:fe (i:Int) f=b:=by simp only [fe,w5];exact nk _
   simp only [ve,zp,zq,DJ,DK,DL,DM,DN,DO,DP,Ca,Cb,Cc,BQ,ez,tA,tB,LT.fn,qF,OW,kz,w5,gr,hg2,cond_true]
  ·intro a' hf
   simp only at hI
   simp only [kz]at hf
   revert hf
   generalize (bif _ then true else _)=c
   cases c with
   |true=>intro hf;cases hf
   |false=>intro hf;simp only [cond_false,Sum.inr.injEq]at hf;subst hf;simp [hI]
 ·obtain⟨e,g⟩:=a
  simp [fe,tA,tB,ve,zp,zq,DJ,DK,DL,DM,DN,DO,DP,Ca,Cb,Cc,BQ,ez,LT.out,qF]
theorem amU: ∀ (ts:List TM) (i:Nat) (n:Int) (L:avu),(∀ x∈ts,x.2.1.size≤9223372036854775807)→0≤n→n + ts.length≤9223372036854775000→
  match htT ts n with
  |some k=>(bz kz 1 ts i (n,L)).1=1∧(bz kz 1 ts i (n,L)).2.2.1=k
  |none=>(bz kz 1 ts i (n,L)).1=0
 | [],i,n,m,_,_,_=>⟨rfl,rfl⟩
 |t::r,i,n,m,hs,h0,h1=>by
  rw [j9]at h1
  have hw:=(avW n t.1 h0 (by omega)).1
  have ht:=Vl t.1
  have hf:kz t (n,m)=(bif termB t.1 t.2.1 t.2.2&&leI (takesK t.1) n then .inr (n - takesK t.1 + 1,m++ [n - takesK t.1 + 1])else .inl 0):=by
   simp only [kz,(aol t.1 t.2.1 t.2.2 (aY (hs t (by simp)))).1,show fC t.1=takesK t.1 from rfl,hw,acO]
   cases termB t.1 t.2.1 t.2.2 <;> cases leI (takesK t.1) n <;> rfl
  simp only [bz,hf,htT]
  cases hc:termB t.1 t.2.1 t.2.2&&leI (takesK t.1) n with
  |false=>rfl
  |true=>
   simp only [q9,zJ]at hc
   simp only [cond_true]
   exact amU r (i + 1) _ _ (fun x hx=>hs x (by simp [hx])) (by omega) (by omega)
theorem atP(ts:List TM)(h:aaf ts=true):Tc ts=ami ts∧Td ts=true:=by
 obtain⟨hn,hs⟩:=Vm.1 h
 obtain⟨w1,w2⟩:=aiF ts 0 [] (by omega) hn hs rfl
 have hh:=amU ts 0 0 [] hs (by omega) (by omega)
 have Xb:leI (ts.length:Int) 40=leN ts.length 40:=by
  rw [Bool.eq_iff_iff,zJ,eN];omega
 simp only [Tc,Td,WC,WD,Nr,Ux,Uy,w1,w2,allT,ami,Xb,cond_true,qF]
 cases hq:htT ts 0 with
 |none=>
  rw [hq]at hh
  simp only at hh
  rw [hh];simp [Nat.beq]
 |some k=>
  rw [hq]at hh
  simp only at hh
  rw [hh.1,hh.2]
  dsimp only
  generalize (k==1)=q
  cases q <;> cases leN ts.length 40 <;> simp [Nat.beq]
theorem awj(s:aAi)(ts:List TM)(h:aaf ts=true):adE s ts=lineB (s,ts)∧adF s ts=true:=by
 obtain⟨e1,e2⟩:=atf ts h
 simp only [adE,adF,e1,e2,acF,lineB,allT,k7,cond_true]
 cases pB s <;> simp
def ZW:aAj
 | [.one ⟨false,[.ref 0]⟩],[.row false 66 (.pair (.int .i64) (.pair (.str) (.int .i64))) a]=>some ⟨aAl (.val (.bool (ami a))),[aAp a],[],[aaf a]⟩
 |_,_=>none
def AX:PF prog:=PF.alt ajv ZW (by
 intro args es o h cL;unfold ZW at h;split at h
 ·rename_i a
  cases h
  have cL:=kO cL
  have hh:=atP a cL
  obtain⟨e0,en⟩:=hh
  exact qm rfl (jv en) (by simp only [e0] <;> rfl) rfl rfl
 ·cases h)
def ajN:aAj
 | [.one ⟨true,[.val (.string a),.ref 0]⟩],[.row false 66 (.pair (.int .i64) (.pair (.str) (.int .i64))) b]=>some ⟨aAl (.val (.bool (lineB (a,b)))),[aAp b],[],[aaf b]⟩
 |_,_=>none
def Oc:PF prog:=PF.alt aqS ajN (by
 intro args es o h cL;unfold ajN at h;split at h
 ·rename_i a b
  cases h
  have cL:=kO cL
  have hh:=awj a b cL
  obtain⟨e0,en⟩:=hh
  exact qm rfl (jv en) (by simp only [e0] <;> rfl) rfl rfl
 ·cases h)
theorem Lp.along2{X A B:Type}(p:Lp X)(st:Nat→A→X)(pr:X→A)(f:B→A→Nat ⊕ A)(e:Nat)(Inv:Nat→A→Prop)(xs:List B)(a:A)
  (h0:Inv 0 a) (hf:xs.length≤100000000000)
  (hs: ∀ i b a,xs[i]? =some b→Inv i a→(p.lt (st i a)).nds=true∧(p.lt (st i a)).each (fun y=>y=st (i + 1) (pr y))∧(p.lt (st i a)).fn pr=f b a∧ ∀ a',f b a= .inr a'→Inv (i + 1) a')
  (he: ∀ a,Inv xs.length a→(p.lt (st xs.length a)).out=some (.inl e)):
  p.fin (st 0 a)=true∧p.res (st 0 a)=((bz f e xs 0 a).1,st (bz f e xs 0 a).2.1 (bz f e xs 0 a).2.2):=by
 have hs': ∀ i b a,xs[i]? =some b→Inv i a→(p.lt (st i a)).out=some (match f b a with | .inl j=> .inl j | .inr a'=> .inr (st (i + 1) a'))∧ ∀ a',f b a= .inr a'→Inv (i + 1) a':=by
  intro i b a hb hI
  obtain⟨h1,h2,h3,h4⟩:=hs i b a hb hI
  refine⟨?_,h4⟩
  rw [LT.out_of h1 h2,h3]
  cases f b a <;> rfl
 refine p.run (aiQ st f e Inv xs hs' he xs 0 a rfl (by omega) h0) ?_
 rw [awG]
 have:1000 ^ 4≤(p.fuel (st 0 a) + 1000) ^ 4:=Nat.pow_le_pow_left (by omega) 4
 omega
def apb(a:List TM)(b:TM):List TM:=bif leI 7 b.1 then a++ [b]else a
theorem apr: ∀ (ts acc:List TM),ts.foldl apb acc=acc++blT ts
 | [],acc=>by simp [blT]
 |t::r,acc=>by
  rw [List.foldl_cons,apr r]
  simp only [apb,blT,List.filter_cons]
  cases leI 7 t.1 <;> simp
theorem arb: ∀ (ls:List LN) (acc:List TM),ls.foldl (fun a l=>a++blT l.2) acc=acc++blL ls
 | [],acc=>by simp [blL]
 |l::r,acc=>by
  rw [List.foldl_cons,arb r]
  simp [blL]
theorem arK(ts:List TM):(blT ts).length≤ts.length:=List.length_filter_le _ _
theorem asQ(a:List TM)(b:TM):(apb a b).length≤a.length + 1:=by
 simp only [apb];cases leI 7 b.1 <;> simp
def ch(b:Int×(aAi×Int)):(aor)→Nat ⊕ (aor)
 |a=>(bif(leI 7 b.1)then(.inr (a++([(b.1,b.2.1,b.2.2)])))else(.inr a))
def dc(a:aor)(i:Nat):(aor)→bq
 |b=>((i:Int),(↑a.length:Int),a,b)
def oV:bq→aor
 |(_,_,_,a)=>a
theorem IW(c e:aor)(hn:c.length≤9223372036854775807)(hc:e.length + c.length≤4000000000000):
  ag.fin ((0:Int),(↑c.length:Int),c,e)=true∧ag.res ((0:Int),(↑c.length:Int),c,e)=((bz (ch) 0 c 0 e).1,(dc c) (bz (ch) 0 c 0 e).2.1 (bz (ch) 0 c 0 e).2.2):=by
 have oe:=ag.along (dc c) oV (ch) 0 (fun i a=>a.length≤e.length + i) c e (Nat.le_refl _) (by simp only [ag,dc];omega) (fun i b a hb hI=> ?_) (fun a hI=> ?_)
 ·exact oe
 ·obtain e:=a
  have hlt:=(k9.1 hb).1
  have nk: ∀ d,v7 c[i]? d=b:=fun d=>by rw [hb];rfl
  have hw:=Bv hlt hn
  have gr:ltI (i:Int) (c.length:Int)=true:=dL (by omega)
  have LW:leI (0:Int) (i:Int)=true:=bx (by omega)
  have sd:ltN i c.length=true:=er hlt
  refine⟨?_,?_,?_,?_⟩
  ·have hg2:bd (i:Int) c=b:=by simp only [bd,w5];exact nk _
   have h8: ∀ z:TM,leN (a.length + v6 [z]) 9223372036854775807=true:=fun z=>aY (by rw [j6];omega)
   have h9: ∀ z:TM,leN ((a.length + v6 [z]) * 32) 140737488355328=true:=fun z=>aY (by rw [j6];omega)
   simp only [fI,fJ,fK,fL,fM,fN,fO,em,fP,fk,ag,cV,cW,LT.nds,allT,dc,gr,LW,sd,hg2,h8,h9,w5,cond_true,k7]
   cases leI 7 b.1 <;> simp [LT.nds]
  ·simp [bd,cV,cW,fI,fJ,fK,fL,fM,fN,fO,em,fP,fk,ag,LT.each,dc,oV,hw]
  ·have hg2:bd (i:Int) c=b:=by simp only [bd,w5];exact nk _
   simp only [fI,fJ,fK,fL,fM,fN,fO,em,fP,fk,ag,cV,cW,LT.fn,dc,oV,ch,w5,gr,hg2,cond_true]
  ·intro a' hf
   have hf2:ch b a= .inr (apb a b):=by
    simp only [ch,apb];cases leI 7 b.1 <;> rfl
   rw [hf2]at hf
   simp only [Sum.inr.injEq]at hf
   subst hf
   have:=asQ a b
   omega
 ·obtain e:=a
  simp [bd,cV,cW,fI,fJ,fK,fL,fM,fN,fO,em,fP,fk,ag,LT.out,dc]
theorem akE(ts acc:List TM)(hn:ts.length≤9223372036854775807)(hc:acc.length + ts.length≤4000000000000):
  ag.fin ((0:Int),(ts.length:Int),ts,acc)=true∧(ag.res ((0:Int),(ts.length:Int),ts,acc)).2.2.2.2=acc++blT ts:=by
 obtain⟨w1,w2⟩:=IW ts acc hn hc
 rw [Xa (g:=apb) (fun b a=>by simp only [ch,apb];cases leI 7 b.1 <;> rfl)]at w2
 exact⟨w1,by rw [w2];exact apr ts acc⟩
def cG(b:aAi×(aor)):(aor)→Nat ⊕ (aor)
 |a=>(.inr ((Lp.res ag ((0:Int),(↑(v6 b.2):Int),b.2,a)).2.2.2.2))
def cw(a:aiJ)(i:Nat):(aor)→bA
 |b=>((i:Int),(↑a.length:Int),a,b)
def qz:bA→aor
 |(_,_,_,a)=>a
theorem LV(c:aiJ)(e:aor)(hn:c.length≤9223372036854775807)(hN:c.length≤1048576)(hL: ∀ l∈c,l.2.length≤1048576)(h3:e.length=0):
  aE.fin ((0:Int),(↑c.length:Int),c,e)=true∧aE.res ((0:Int),(↑c.length:Int),c,e)=((bz (cG) 0 c 0 e).1,(cw c) (bz (cG) 0 c 0 e).2.1 (bz (cG) 0 c 0 e).2.2):=by
 have oe:=aE.along (cw c) qz (cG) 0 (fun i a=>a.length≤i * 1048576) c e (by omega) (by simp only [aE,cw];omega) (fun i b a hb hI=> ?_) (fun a hI=> ?_)
 ·exact oe
 ·obtain e:=a
  have hlt:=(k9.1 hb).1
  have nk: ∀ d,v7 c[i]? d=b:=fun d=>by rw [hb];rfl
  have hw:=Bv hlt hn
  have gr:ltI (i:Int) (c.length:Int)=true:=dL (by omega)
  have LW:leI (0:Int) (i:Int)=true:=bx (by omega)
  have sd:ltN i c.length=true:=er hlt
  refine⟨?_,?_,?_,?_⟩
  ·have hg2:cv (i:Int) c=b.2:=by simp only [cv,w5];exact congrArg Prod.snd (nk _)
   have hbl:=hL b (List.mem_of_getElem? hb)
   have h4:gw (i:Int) c a=true:=by
    simp only [gw,eF,hg2]
    exact(akE b.2 a (by omega) (by omega)).1
   simp only [aE,gi,gu,kV,kW,kX,LT.nds,allT,cw,gr,LW,sd,h4,w5,cond_true,Bool.and_self]
  ·simp [cv,eF,gu,kV,kW,kX,gw,qL,kY,gi,aE,LT.each,cw,qz,hw]
  ·have hg2:cv (i:Int) c=b.2:=by simp only [cv,w5];exact congrArg Prod.snd (nk _)
   simp only [aE,gi,gu,kY,eF,LT.fn,cw,qz,cG,gr,hg2,cond_true]
  ·intro a' hf
   have hbl:=hL b (List.mem_of_getElem? hb)
   have h5:=arK b.2
   simp only [cG,Sum.inr.injEq,(akE b.2 a (by omega) (by omega)).2]at hf
   subst hf
   rw [j7]
   omega
 ·obtain e:=a
  simp [cv,eF,gu,kV,kW,kX,gw,qL,kY,gi,aE,LT.out,cw]
theorem avp{f:LN→List TM→Nat ⊕ List TM}{e:Nat}: ∀ (ls:List LN) (i:Nat) (acc:List TM) (c:Nat),(∀ l∈ls,∀ a:List TM,a.length≤c + (ls.length * 1048576)→f l a= .inr (a++blT l.2))→(∀ l∈ls,l.2.length≤1048576)→acc.length≤c→
  bz f e ls i acc=(e,i + ls.length,acc++blL ls)
 | [],i,acc,c,_,_,_=>by simp [bz,blL]
 |l::r,i,acc,c,hf,hL,hc=>by
  have h5:=arK l.2
  have h6:=hL l (by simp)
  simp only [bz,hf l (by simp) acc (by omega)]
  rw [avp r (i + 1) (acc++blT l.2) (c + 1048576) (fun x hx a ha=>hf x (by simp [hx]) a (by rw [j9];omega)) (fun x hx=>hL x (by simp [hx])) (by rw [j7];omega)]
  simp [blL];omega
theorem ate(ls:List LN)(h:ZY ls=true):se ls=blL ls∧sf ls=true:=by
 obtain⟨hn,hA⟩:=UV.1 h
 have hL: ∀ l∈ls,l.2.length≤1048576:=fun l hl=>(Vm.1 (hA l hl).2).1
 obtain⟨w1,w2⟩:=LV ls [] (by omega) hn hL rfl
 have hw:=avp (f:=cG) (e:=0) ls 0 [] 0 (fun l hl a ha=>by
  have:=hL l hl
  simp only [cG,(akE l.2 a (by omega) (by omega)).2]) hL (by simp)
 rw [hw]at w2
 simp only [se,sf,rK,w1,w2,allT,cw]
 simp
theorem at7(k:Nat)(u v:aAi)(acc:List TM)(p q r:List aAi)(ls:List LN)(l:LN)(hl:ls[k]? =some l)(hn:l.2.length≤1048576)(hc:acc.length + l.2.length≤4000000000000):
  fv.fin ((0:Int),(k:Int),u,v,acc,p,q,r,ls)=true∧fv.res ((0:Int),(k:Int),u,v,acc,p,q,r,ls)=(0,((l.2.length:Int),(k:Int),u,v,acc++blT l.2,p,q,r,ls)):=by
 have hkl:=(k9.1 hl).1
 have hgl: ∀ d,v7 ls[k]? d=l:=fun d=>by rw [hl];rfl
 have ha2:ug (k:Int) ls=l.2:=by simp only [ug,w5];exact congrArg Prod.snd (hgl _)
 have ha0:Lj (k:Int) ls=true:=dL (by omega)
 have ha1:En (k:Int) ls=true:=by simp only [En,w5];exact er hkl
 have hk0:leI 0 (k:Int)=true:=bx (by omega)
 have oe:=fv.along2 (fun i (a:List TM)=>((i:Int),(k:Int),u,v,a,p,q,r,ls)) (fun x=>x.2.2.2.2.1) (fun(b:TM) a=> .inr (apb a b)) 0 (fun i a=>a.length≤acc.length + i) l.2 acc (by omega)
  (by omega) (fun i b a hb hI=> ?_) (fun a hI=> ?_)
 ·rw [Xa (g:=apb) (fun b a=>rfl),apr]at oe
  simpa using oe
 ·have hlt:=(k9.1 hb).1
  have hw:IntKind.i64.wrap ((i:Int) + 1)=((i + 1:Nat):Int):=by rw [wrap_i64 (by omega) (by omega)];omega
  have gr:ltI (i:Int) (l.2.length:Int)=true:=dL (by omega)
  have LW:leI (0:Int) (i:Int)=true:=bx (by omega)
  have sd:ltN i l.2.length=true:=er hlt
  have hg2:ui (i:Int) (k:Int) ls=b:=by simp only [ui,ha2,w5,hb,Option.getD_some]
  have hg3:uh (i:Int) (k:Int) ls=true:=by simp only [uh,ha2,gr]
  have h8: ∀ z:TM,leN (a.length + v6 [z]) 9223372036854775807=true:=fun z=>aY (by rw [j6];omega)
  have h9: ∀ z:TM,leN ((a.length + v6 [z]) * 32) 140737488355328=true:=fun z=>aY (by rw [j6];omega)
  refine⟨?_,?_,?_,?_⟩
  ·simp only [wy,wz,wA,wB,AD,AE,AF,AG,AH,AJ,zs,zt,zu,zw,zx,uf,zy,ze,fv,fD,uj,LT.nds,allT,ha0,ha1,ha2,hk0,hg2,hg3,gr,LW,sd,h8,h9,w5,cond_true,k7]
   cases leI 7 b.1 <;> simp [LT.nds]
  ·simp only [wy,wz,wA,wB,AD,AE,AF,AG,AH,AJ,zs,zt,zu,zw,zx,uf,zy,ze,fv,fD,uj,LT.each,hw,hg2,hg3]
   cases leI 7 b.1 <;> simp [LT.each]
  ·simp only [wy,wz,wA,wB,AD,AE,AF,AG,AH,AJ,zs,zt,zu,zw,zx,uf,zy,ze,fv,fD,uj,LT.fn,hg2,hg3,cond_true,apb]
   cases leI 7 b.1 <;> rfl
  ·intro a' hf
   simp only [Sum.inr.injEq]at hf
   subst hf
   have:=asQ a b
   omega
 ·have gr:uh (l.2.length:Int) (k:Int) ls=false:=by simp only [uh,ha2];exact Ej (by omega)
  simp [wy,wz,wA,wB,AD,AE,AF,AG,AH,AJ,zs,zt,zu,zw,zx,uf,zy,ze,fv,LT.out,allT,ha0,ha1,hk0,gr]
theorem atN(u v:aAi)(p q r:List aAi)(ls:List LN)(h:ZY ls=true):XZ u v p q r ls=blL ls∧Ya u v p q r ls=true:=by
 obtain⟨hn,hA⟩:=UV.1 h
 have hL: ∀ l∈ls,l.2.length≤1048576:=fun l hl=>(Vm.1 (hA l hl).2).1
 have oe:=kB.along (fun i (a:List TM)=>((i:Int),u,v,a,p,q,r,ls)) (fun x=>x.2.2.2.1) (fun(b:LN) a=> .inr (a++blT b.2)) 0 (fun i a=>a.length≤i * 1048576) ls [] (by simp)
  (by simp only [kB];omega) (fun i b a hb hI=> ?_) (fun a hI=> ?_)
 ·rw [Xa (g:=fun a (l:LN)=>a++blT l.2) (fun b a=>rfl),arb]at oe
  simp only [XZ,Ya,WF,allT]
  simp only [List.nil_append,Nat.zero_add]at oe
  have e0:((0:Nat):Int)=0:=rfl
  rw [e0]at oe
  rw [oe.1,oe.2]
  exact⟨rfl,rfl⟩
 ·have hlt:=(k9.1 hb).1
  have hbl:=hL b (List.mem_of_getElem? hb)
  have hw:IntKind.i64.wrap ((i:Int) + 1)=((i + 1:Nat):Int):=by rw [wrap_i64 (by omega) (by omega)];omega
  have gr:ltI (i:Int) (ls.length:Int)=true:=dL (by omega)
  obtain⟨k1,k2⟩:=at7 i u v a p q r ls b hb hbl (by omega)
  refine⟨?_,?_,?_,?_⟩
  ·simp [EQ,ER,ET,EU,Dr,kB,DQ,LT.nds,allT,gr,k1]
  ·simp [EQ,ER,ET,EU,Dr,kB,DQ,LT.each,gr,hw,k2]
  ·simp [EQ,ER,ET,EU,Dr,kB,DQ,LT.fn,gr,k2]
  ·intro a' hf
   simp only [Sum.inr.injEq]at hf
   subst hf
   have:=arK b.2
   rw [j7];omega
 ·have gr:ltI (ls.length:Int) (ls.length:Int)=false:=Ej (by omega)
  simp [EQ,ER,ET,EU,Dr,kB,LT.out,gr]
def Bi:aAj
 | [.one ⟨true,[.val (.string _x0),.ref 0,.ref 1,.ref 2,.val (.string _x1),.ref 3]⟩],[.row false 9 (.str) a,.row false 9 (.str) b,.row false 9 (.str) c,.row false 91 (.pair (.str) (.sl 66 (.pair (.int .i64) (.pair (.str) (.int .i64))))) d]=>some ⟨aAl (.ref 4),[aAn a,aAn b,aAn c,aAt d],[aAv (blL d)],[ZY d]⟩
 |_,_=>none
def sj:PF prog:=PF.alt NO Bi (by
 intro args es o h cL;unfold Bi at h;split at h
 ·rename_i _x0 _x1 a b c d
  cases h
  have cL:=kO cL
  have hh:=ate d cL
  obtain⟨e0,en⟩:=hh
  exact qm rfl (jv en) rfl rfl (by simp only [e0] <;> rfl)
 ·cases h)
def aem:aAj
 | [.one ⟨true,[.val (.string a),.ref 0,.ref 1,.ref 2,.val (.string b),.ref 3]⟩],[.row false 9 (.str) c,.row false 9 (.str) d,.row false 9 (.str) e,.row false 91 (.pair (.str) (.sl 66 (.pair (.int .i64) (.pair (.str) (.int .i64))))) f]=>some ⟨aAl (.ref 4),[aAn c,aAn d,aAn e,aAt f],[aAv (blL f)],[ZY f]⟩
 |_,_=>none
def fX:PF prog:=PF.alt anB aem (by
 intro args es o h cL;unfold aem at h;split at h
 ·rename_i a b c d e f
  cases h
  have cL:=kO cL
  have hh:=atN a b c d e f cL
  obtain⟨e0,en⟩:=hh
  exact qm rfl (jv en) rfl rfl (by simp only [e0] <;> rfl)
 ·cases h)
theorem ayd(n:Int)(h0:0≤n)(h1:n≤100000000):xA n= []∧xB n=true:=by
 have w0:IntKind.i64.wrap ((↑(0:Nat):Int) - (↑(0:Nat):Int))=0:=rfl
 have e0:bH n=n:=by simp only [bH,w0];rw [wrap_i64 (by omega) (by omega)];omega
 refine⟨?_,?_⟩
 ·simp only [xA,e0];cases ltI 0 n <;> rfl
 ·have t0:ltI n 0=false:=Ej h0
  have t1:leI (0:Int) (0:Int)=true:=rfl
  have t2:leI (↑(0:Nat):Int) (0:Int)=true:=rfl
  have t3:leI (0:Int) (↑(0:Nat):Int)=true:=rfl
  have t4:leI n 9223372036854775807=true:=bx (by omega)
  have t5:leI (n * (↑(16:Nat):Int)) 281474976710656=true:=bx (by omega)
  have t6: ∀ m:Nat,leI (↑(0:Nat):Int) (m:Int)=true:=fun m=>bx (by omega)
  have t7:(!ltI 0 n||leI 1 n)=true:=by
   cases h:ltI 0 n with
   |false=>rfl
   |true=>have:=Sa.1 h;rw [bx (by omega)];rfl
  simp only [xB,CC,e0,t0,t1,t2,t3,t4,t5,t6,t7,allT,k7,Bool.not_false,cond_true]
def NV(l:arh):Nat:=(l.map v6).sum
theorem aom(a b:arh):NV (a++b)=NV a + NV b:=by simp [NV]
theorem aiW{l:arh}{i:Nat}{b:List aAi}(hb:l[i]? =some b):NV (l.take (i + 1))=NV (l.take i) + b.length∧NV (l.take (i + 1))≤NV l:=by
 obtain⟨hi,rfl⟩:=k9.1 hb
 refine⟨?_,?_⟩
 ·rw [List.take_succ_eq_append_getElem hi,aom];simp [NV]
 ·have h5:=aom (l.take (i + 1)) (l.drop (i + 1))
  rw [List.take_append_drop]at h5
  omega
def dO(b:List aAi):(Int)→Nat ⊕ (Int)
 |a=>(.inr (v8 .i64 (a + (↑(v6 b):Int))))
def fh(b:arh)(i:Nat):(Int)→dM
 |a=>((i:Int),(↑b.length:Int),a,b)
def zM:dM→Int
 |(_,_,a,_)=>a
theorem WY(e:arh)(c:Int)(hn:e.length≤9223372036854775807)(h0:c=0)(hS:NV e≤2000000):
  bM.fin ((0:Int),(↑e.length:Int),c,e)=true∧bM.res ((0:Int),(↑e.length:Int),c,e)=((bz (dO) 0 e 0 c).1,(fh e) (bz (dO) 0 e 0 c).2.1 (bz (dO) 0 e 0 c).2.2):=by
 have oe:=bM.along (fh e) zM (dO) 0 (fun i a=>a=(NV (e.take i):Int)) e c (by rw [h0];simp [NV]) (by simp only [bM,fh];omega) (fun i b a hb hI=> ?_) (fun a hI=> ?_)
 ·exact oe
 ·obtain c:=a
  have hlt:=(k9.1 hb).1
  have nk: ∀ d,v7 e[i]? d=b:=fun d=>by rw [hb];rfl
  have hw:=Bv hlt hn
  have gr:ltI (i:Int) (e.length:Int)=true:=dL (by omega)
  have LW:leI (0:Int) (i:Int)=true:=bx (by omega)
  have sd:ltN i e.length=true:=er hlt
  refine⟨?_,?_,?_,?_⟩
  ·have hg2:gE (i:Int) a e=(NV (e.take (i + 1)):Int):=by
    have h3:=aiW hb
    simp only [gE,w5]
    refine(congrArg (fun z:List aAi=>IntKind.i64.wrap (a + (z.length:Int))) (nk _)).trans ?_
    show IntKind.i64.wrap (a + (b.length:Int))=_
    rw [hI,wrap_i64 (by omega) (by omega)];omega
   have h6:ltI (NV (e.take (i + 1)):Int) 0=false:=Ej (by omega)
   simp only [bM,oB,pg,tJ,tK,tL,tM,LT.nds,allT,fh,gr,LW,sd,hg2,h6,w5,cond_true,Bool.and_self,Bool.not_false]
  ·simp [gE,pg,tJ,tK,tL,tM,Ax,tN,oB,bM,LT.each,fh,zM,hw]
  ·simp only [bM,oB,pg,tN,gE,LT.fn,fh,zM,dO,gr,w5,cond_true]
   exact congrArg (fun z:List aAi=>(Sum.inr (IntKind.i64.wrap (a + (z.length:Int))):Nat ⊕ Int)) (nk _)
  ·intro a' hf
   have h3:=aiW hb
   simp only [dO,Sum.inr.injEq]at hf
   rw [← hf,hI,wrap_i64 (by omega) (by omega)];omega
 ·obtain c:=a
  simp [gE,pg,tJ,tK,tL,tM,Ax,tN,oB,bM,LT.out,fh]
def ie(b:List aAi):(List aAi)→Nat ⊕ (List aAi)
 |a=>(.inr (a++(b)))
def fj(a:arh)(i:Nat):(List aAi)→dN
 |b=>((i:Int),(↑a.length:Int),a,b)
def zN:dN→List aAi
 |(_,_,_,a)=>a
theorem WZ(c:arh)(e:List aAi)(hn:c.length≤9223372036854775807)(hS:NV c≤2000000)(h3:e= []):
  bN.fin ((0:Int),(↑c.length:Int),c,e)=true∧bN.res ((0:Int),(↑c.length:Int),c,e)=((bz (ie) 0 c 0 e).1,(fj c) (bz (ie) 0 c 0 e).2.1 (bz (ie) 0 c 0 e).2.2):=by
 have oe:=bN.along (fj c) zN (ie) 0 (fun i a=>a.length=NV (c.take i)) c e (by rw [h3];simp [NV]) (by simp only [bN,fj];omega) (fun i b a hb hI=> ?_) (fun a hI=> ?_)
 ·exact oe
 ·obtain e:=a
  have hlt:=(k9.1 hb).1
  have nk: ∀ d,v7 c[i]? d=b:=fun d=>by rw [hb];rfl
  have hw:=Bv hlt hn
  have gr:ltI (i:Int) (c.length:Int)=true:=dL (by omega)
  have LW:leI (0:Int) (i:Int)=true:=bx (by omega)
  have sd:ltN i c.length=true:=er hlt
  refine⟨?_,?_,?_,?_⟩
  ·have hg2:eq (i:Int) c=b:=by simp only [eq,w5];exact nk _
   have h3:=aiW hb
   have h6:leN (a.length + b.length) 9223372036854775807=true:=aY (by omega)
   have h7:leN ((a.length + b.length) * 16) 140737488355328=true:=aY (by omega)
   simp only [bN,oC,ph,tO,tP,tQ,tR,tS,LT.nds,allT,fj,gr,LW,sd,hg2,h6,h7,w5,cond_true,Bool.and_self]
  ·simp [eq,ph,tO,tP,tQ,tR,tS,Ay,tT,oC,bN,LT.each,fj,zN,hw]
  ·have hg2:eq (i:Int) c=b:=by simp only [eq,w5];exact nk _
   simp only [bN,oC,ph,tT,LT.fn,fj,zN,ie,gr,hg2,cond_true]
  ·intro a' hf
   have h3:=aiW hb
   simp only [ie,Sum.inr.injEq]at hf
   rw [← hf,j7];omega
 ·obtain e:=a
  simp [eq,ph,tO,tP,tQ,tR,tS,Ay,tT,oC,bN,LT.out,fj]
theorem as5: ∀ (l:arh) (acc:List aAi),l.foldl (fun a b=>a++b) acc=acc++l.flatten
 | [],acc=>by simp
 |a::r,acc=>by rw [List.foldl_cons,as5 r];simp
theorem ay0(l:arh)(h:(leN l.length 1000&&leN (NV l) 2000000)=true):Du l=l.flatten∧Dv l=true:=by
 simp only [q9,eN]at h
 obtain⟨w1,w2⟩:=WY l 0 (by omega) rfl h.2
 have hw:(bz dO 0 l 0 (0:Int)).2.2=(NV l:Int):=by
  have hg: ∀ (r:arh) (i:Nat) (a:Int),0≤a→a + NV r≤2000000→(bz dO 0 r i a).2.2=a + NV r:=by
   intro r
   induction r with
   |nil=>intro i a _ _;simp [bz,NV]
   |cons x r ih=>
    intro i a h0 h1
    have h3:NV (x::r)=x.length + NV r:=by simp [NV]
    have hf:dO x a= .inr (a + (x.length:Int)):=by
     simp only [dO]
     rw [wrap_i64 (by omega) (by omega)]
    simp only [bz,hf]
    rw [ih (i + 1) (a + (x.length:Int)) (by omega) (by omega),h3]
    omega
  have:=hg l 0 0 (by omega) (by omega)
  omega
 have ha1:vP l=(NV l:Int):=by
  simp only [vP,vO,w2,fh]
  exact hw
 obtain⟨g1,g2⟩:=ayd (NV l:Int) (by omega) (by omega)
 obtain⟨v1,v2⟩:=WZ l [] (by omega) h.2 rfl
 rw [Xa (f:=ie) (g:=fun a b=>a++b) (fun b a=>rfl),as5]at v2
 refine⟨?_,?_⟩
 ·simp only [Du,vQ,ha1,g1,v2,fj,List.nil_append]
 ·simp only [Dv,vQ,ha1,g1,g2,v1,vO,w1,allT,cond_true]
def Mm:aAj
 | [.one ⟨false,[.ref 0]⟩],[.row false 24 (.sl 9 (.str)) a]=>some ⟨aAl (.ref 1),[aAH a],[aAr (a.flatten)],[leN a.length 1000&&leN (NV a) 2000000]⟩
 |_,_=>none
def dq:PF prog:=PF.alt YV Mm (by
 intro args es o h cL;unfold Mm at h;split at h
 ·rename_i a
  cases h
  have cL:=kO cL
  have hh:=ay0 a cL
  obtain⟨e0,en⟩:=hh
  exact qm rfl (jv en) rfl rfl (by simp only [e0] <;> rfl)
 ·cases h)
end Go.SX
