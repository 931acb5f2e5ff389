/- What functions of the program come to, and what that says in plain words: part 1. -/
import Derived.Test.YtbiaajlhigmdhaaGreatDoorTXh
import Derived.Test.YtbiaajlhigmdhaaGreatDoorProg
set_option linter.unusedSimpArgs false
set_option linter.unusedVariables false
open Option.some renaming injEq → q8
open Bool renaming and_eq_true → q9
open Int renaming toNat_natCast → w5
open List renaming length_singleton → j6
open List renaming length_append → j7
open List renaming length_take → j8
open List renaming length_cons → j9
open Bool renaming or_true → k7
open Bool renaming cond_self → k8
open List renaming getElem?_eq_some_iff → k9
open Int renaming toNat → v5
open List renaming length → v6
open Option renaming getD → v7
open Go.IntKind renaming wrap → v8
open List renaming replicate → v9
open List renaming eq_of_mem_replicate → qqq
open List renaming mem_singleton → qqw
namespace Go.SX
open Go.Proofs
def T3z {P : Program} (l : List (PF P)) : List (PF P) :=l.flatMap fun p=>[p,PF.lend p,PF.fz p]
abbrev avP:Type:=ByteArray
abbrev aa8:CTy:=(CTy.pair CTy.str (CTy.sl 122 (CTy.pair (CTy.int IntKind.i64) (CTy.pair CTy.str (CTy.int IntKind.i64)))))
abbrev abQ:CTy:=(CTy.pair (CTy.int IntKind.i64) (CTy.pair (CTy.int IntKind.i64) (CTy.int IntKind.i64)))
abbrev acf:CTy:=(CTy.pair (CTy.int IntKind.i64) (CTy.pair CTy.str (CTy.int IntKind.i64)))
abbrev ae9:CTy:=(CTy.pair (CTy.int IntKind.i64) (CTy.int IntKind.i64))
abbrev afa:Type:=List (ByteArray×(List (Int×(ByteArray×Int))))
abbrev afZ:Type:=List (ByteArray×List (Int×ByteArray×Int))
abbrev agV:CTy:=(CTy.sl 2 (CTy.int IntKind.i64))
abbrev ajz:Type:=List (Int×(ByteArray×Int))
abbrev alv:Type:=List (Int×ByteArray×Int)
abbrev anW:CTy:=(CTy.int IntKind.i64)
abbrev ap9:Type:=List (List ByteArray)
abbrev aqz:CTy:=(CTy.int IntKind.u8)
abbrev asY:Type:=List (Int×(Int×Int))
abbrev asZ:Type:=List (Int×Int×Int)
abbrev aup:Type:=List (List Int)
abbrev auQ:Type:=List (Int×Int)
abbrev auU:CTy:=(CTy.str)
abbrev avO:Type:=List Int
abbrev aBD:=Entry.row false 9 auU
abbrev aBE:=Entry.row true 2 anW
abbrev aBF:=Entry.row false 2 anW
abbrev aBG:=Entry.row false 122 acf
abbrev aBH:=Entry.row false 142 (CTy.pair CTy.str (CTy.sl (122:TypeId) acf))
abbrev aBI:=Entry.row false 142 aa8
abbrev aBJ:=Entry.row true 9 auU
abbrev aBK:=Entry.row true 109 abQ
abbrev aBL:=Entry.row false 5 aqz
abbrev aBM:=Entry.row true 122 acf
abbrev aBN:=Entry.row false 109 abQ
abbrev aBO:=Entry.row false 83 ae9
abbrev aBP:=Entry.row false 28 (CTy.sl (2:TypeId) anW)
abbrev aBQ:=Entry.row true 28 agV
abbrev aBR:=Entry.row true 142 aa8
abbrev aBS:=Entry.row true 83 ae9
abbrev aBT:=Entry.row false 28 agV
abbrev aBU:=Entry.row true 109 (.pair (.int .i64) (.pair (.int .i64) (.int .i64)))
abbrev aBV:=Entry.row false 40 (CTy.sl (9:TypeId) CTy.str)
abbrev aBW:=Entry.row false 109 (.pair (.int .i64) (.pair (.int .i64) (.int .i64)))
abbrev aBB(c:Cell):SV:=.one ⟨false,[c]⟩
abbrev aBC(a:Int):SV:=.one ⟨false,[.val (.int .i64 a)]⟩
abbrev awh:Type:=List SV→List Entry→Option Out
abbrev axb(a:Int):Cell:=.val (.int .i64 a)
theorem S0z:(∀ (α:Type) (a b:α),(bif true then a else b)=a)∧(∀ (α:Type) (a b:α),(bif false then a else b)=b)∧(∀ (α:Type) (c:Bool) (a:α),(bif c then a else a)=a)∧((!true)=false)∧((!false)=true)∧(∀ b:Bool,(true||b)=true)∧(∀ b:Bool,(b||true)=true)∧(∀ b:Bool,(false||b)=b)∧(∀ b:Bool,(b||false)=b)∧(∀ b:Bool,(b&&b)=b)∧(∀ b:Bool,(b&&true)=b)∧(∀ b:Bool,(true&&b)=b)∧(∀ b:Bool,(false&&b)=false)∧(∀ b:Bool,(b&&false)=false)∧(∀ (α:Type) [BEq α] [LawfulBEq α] (a:α),(a != a)=false)∧(∀ (α:Type) [BEq α] [LawfulBEq α] (a:α),(a==a)=true):=by and_intros <;> intros <;> simp
end Go.SX
namespace Go.SX
open Go.Proofs Go.Proofs.Tryz
set_option maxRecDepth 100000
theorem aT:Tryz.prog.follows .mixedOrders=true:=by kernel_rfl
def aw(a b c:Int):Bool:=bif leI b a then leI a c else false
def anv:awh
 | [.one ⟨false,[.val (.int .i64 a)]⟩,.one ⟨false,[.val (.int .i64 b)]⟩,.one ⟨false,[.val (.int .i64 c)]⟩],[]=>some ⟨aBB (.val (.bool (aw a b c))),[],[],[]⟩
 |_,_=>none
def CF:PF prog:=PF.ofG prog [] [] aT 90 f90 func90 (fun c _=>LOk.nil c) anv (by
 intro _ _ _ h;unfold anv at h;split at h<;>cases h;kernel_rfl)
def afy(a:avO):Bool:=allT [leN (0 + v6 a) 9223372036854775807,leN ((0 + v6 a) * 8) 140737488355328]
def alf:awh
 | [.one ⟨false,[.ref 0]⟩],[.row false 2 (.int .i64) a]=>some ⟨aBB (.ref 1),[aBF a],[aBE a],[afy a]⟩
 |_,_=>none
def asC:PF prog:=PF.ofG prog [] [] aT 82 f82 func82 (fun c _=>LOk.nil c) alf (by
 intro _ _ _ h;unfold alf at h;split at h<;>cases h;kernel_rfl)
def rH(a b c:Int):Bool:=bif leI b a then leI a c else false
def ald:awh
 | [.one ⟨false,[.val (.int .i64 a)]⟩,.one ⟨false,[.val (.int .i64 b)]⟩,.one ⟨false,[.val (.int .i64 c)]⟩],[]=>some ⟨aBB (.val (.bool (rH a b c))),[],[],[]⟩
 |_,_=>none
def aah:PF prog:=PF.ofG prog [] [] aT 114 f114 func114 (fun c _=>LOk.nil c) ald (by
 intro _ _ _ h;unfold ald at h;split at h<;>cases h;kernel_rfl)
def CM(a:avO):Bool:=allT [ltN 0 a.length,false||leN (0 + v6 a) 9223372036854775807,false||leN ((0 + v6 a) * 8) 140737488355328]
def Sz:awh
 | [.one ⟨false,[.ref 0]⟩],[.row false 2 (.int .i64) a]=>some ⟨aBB (.ref 1),[aBF a],[aBE a],[CM a]⟩
 |_,_=>none
def ac6:PF prog:=PF.ofG prog [] [] aT 88 f88 func88 (fun c _=>LOk.nil c) Sz (by
 intro _ _ _ h;unfold Sz at h;split at h<;>cases h;kernel_rfl)
abbrev rB:=Int×List Int×List Int
section
variable (a:Int)(b c:avO)
def EA:Bool:=ltI a (↑b.length:Int)
def EB:Bool:=leI 0 a
def IM:Bool:=ltN a.toNat b.length
def IO:Bool:=ltI a (↑c.length:Int)
def IP:Bool:=ltN a.toNat c.length
def IQ:Bool:=v7 b[v5 a]? 0!=v7 c[v5 a]? 0
def IR:Int:=v8 .i64 (a + (1:Int))
end
def akz:rB→List (Nat×SV)
 |(a,_,_)=> [(5,(aBC a)),(0,(aBB (.ref 0))),(1,(aBB (.ref 1)))]
def akq:rB→List (Nat×Entry)
 |(_,a,b)=> [(0,(aBF a)),(1,(aBF b))]
def akR:Nat→rB→List (Nat×SV)
 |0,(_,_,_)=> [(4,(aBB (.val (.bool false))))]
 |_,_=>[]
def GZ:rB→LT rB
 |(a,b,c)=> .ite (EA a b) (.need [EB a,EA a b,IM a b,EB a,IO a c,IP a c] (.ite (IQ a b c) (.ext 0 [(0,0),(1,1)]) (.nrm ((IR a),b,c) [(0,0),(1,1)]))) (.ext 1 [(0,0),(1,1)])
def UW(s:St):Option rB:=do
 let some ⟨none,.one ⟨false,[.val (.int .i64 a)]⟩⟩:=s.look 5|none
 let some ⟨none,.one ⟨false,[.ref 0]⟩⟩:=s.look 0|none
 let some ⟨none,.one ⟨false,[.ref 1]⟩⟩:=s.look 1|none
 let some (.row false 2 (.int .i64) b):=s.ent 0|none
 let some (.row false 2 (.int .i64) c):=s.ent 1|none
 some (a,b,c)
def gZ:Lp rB where
 h:=⟨[11,12,13,14,17,18,19,20,21,22,23,24,25,4,15,16,5],[0,1],[],[]⟩
 JL:=akz
 JE:=akq
 XL:=akR
 XE:=fun _=>akq
 q:=fun j=>match j with | 0=> .ret | _=> .exit 0
 tags:= [0,1]
 lt:=GZ
 fuel:=fun(a,b,c)=>a.natAbs + b.length + c.length
 fix:=fun(_,b,c) (a,_,_)=>(a,b,c)
 σ:= [(0,0),(1,1)]
 rd:=UW
theorem aip:LoopOk prog (fun k=>Nat.blt k Tryz.f39.ntmps) gZ.F (bj f39 0):=by
 refine Lp.ok (tbl:= []) (lf:= []) aT gZ (by kernel_rfl) (LOk.nil _) (fun _=>rfl) (fun j _=>by unfold gZ;match j with | 0=>rfl | _ + 1=>rfl) ?_ ?_ ?_ ?_ (fun _=>rfl) ?_
 ·intro _;kernel_rfl
 ·intro _;kernel_rfl
 ·intro s x h
  have h:UW s=some x:=h
  unfold UW at h
  repeat' split at h
  all_goals cases h
  constructor<;>repeat(first|refine ab ‹_› rfl ?_|refine aa rfl ‹_› rfl ?_|rfl)
 ·intro _;kernel_rfl
 ·intro _ _;exact(And.intro (And.intro trivial rfl) trivial)
section
variable (a b:avO)
def TY:Bool:=(↑a.length:Int)!=(↑b.length:Int)
def TZ:Int×avO×avO:=((0:Int),a,b)
def VH:Bool:=bif TY a b then false else bif Nat.beq ((Lp.res gZ (TZ a b)).1) 0 then false else true
def VI:Bool:=allT [TY a b||Lp.fin gZ (TZ a b)]
end
def ahn:awh
 | [.one ⟨false,[.ref 0]⟩,.one ⟨false,[.ref 1]⟩],[.row false 2 (.int .i64) a,.row false 2 (.int .i64) b]=>some ⟨aBB (.val (.bool (VH a b))),[aBF a,aBF b],[],[VI a b]⟩
 |_,_=>none
def aqq:PF prog:=PF.ofG prog [] [gZ.F] aT 39 f39 func39 (LOk.fnT (l:= [bj f39 0]) (by kernel_rfl) (.cons aip (.nil _))) ahn (by
 intro _ _ _ h;unfold ahn at h;split at h<;>cases h;kernel_rfl)
def blk(p:Int):Int:=Int.tdiv p 3
def inR(a lo hi:Int):Bool:=leI lo a&&leI a hi
def eqL(xs ys:avO):Bool:=decide (xs=ys)
theorem auH(xs:avO):eqL xs xs=true:=by simp [eqL]
theorem ua{a lo hi:Int}:inR a lo hi=true↔lo≤a∧a≤hi:=by simp [inR]
theorem QU(a lo hi:Int):(bif leI lo a then leI a hi else false)=inR a lo hi:=by
 unfold inR;cases leI lo a <;> rfl
def Im(a c:avO)(b:Nat):(Unit)→Nat ⊕ (Unit)
 |_=>(bif(v7 a[b]? 0!=v7 c[b]? 0)then(.inl 0)else(.inr ()))
def zP(a b:avO)(i:Nat):(Unit)→rB
 |_=>((i:Int),a,b)
def UO:rB→Unit
 |(_,_,_)=>()
theorem anl(c d:avO) (hn:c.length≤9223372036854775807) (he:d.length=c.length):
  gZ.fin ((0:Int),c,d)=true∧gZ.res ((0:Int),c,d)=((br (Im c d) 1 (List.range c.length) 0 ()).1,(zP c d) (br (Im c d) 1 (List.range c.length) 0 ()).2.1 (br (Im c d) 1 (List.range c.length) 0 ()).2.2):=by
 have nQ:=gZ.along (zP c d) UO (Im c d) 1 (fun _ _=>True) (List.range c.length) () (by trivial) (by simp only [gZ,zP,List.length_range];omega) (fun i b a hb hI=> ?_) (fun a hI=> ?_)
 ·exact nQ
 ·obtain⟨⟩:=a
  obtain⟨rfl,fC⟩:=Xh hb
  have hw:IntKind.i64.wrap ((b:Int) + 1)=((b + 1:Nat):Int):=by rw [aM (by omega) (by omega)];omega
  have fB:ltI (b:Int) (c.length:Int)=true:=dw (by omega)
  have Ly:leI (0:Int) (b:Int)=true:=bk (by omega)
  have sO:ltN b c.length=true:=eD (by omega)
  refine⟨?_,?_,?_,?_⟩
  ·simp [EA,EB,IM,IO,IP,IQ,IR,GZ,gZ,LT.nds,allT,zP,fB,Ly,sO,he]
  ·simp [EA,EB,IM,IO,IP,IQ,IR,GZ,gZ,LT.each,zP,UO,hw,he]
  ·simp only [EA,EB,IM,IO,IP,IQ,IR,GZ,gZ,LT.fn,zP,UO,Im,w5,fB,cond_true]
  ·exact fun _ _=>trivial
 ·obtain⟨⟩:=a
  simp [EA,EB,IM,IO,IP,IQ,IR,GZ,gZ,LT.out,zP,List.length_range]
theorem au8(xs ys:avO)(hn:leN xs.length 9223372036854775807=true):VH xs ys=eqL xs ys∧VI xs ys=true:=by
 have hn:=gR.1 hn
 unfold eqL
 by_cases hl:ys.length=xs.length
 ·obtain⟨w1,w2⟩:=anl xs ys hn hl
  have ha:=ayc (d:=(0:Int)) hl (P:=fun b=>v7 xs[b]? 0 !=v7 ys[b]? 0) (fun b=>by simp [bne,BEq.beq])
  rw [lN (P:=fun b=>v7 xs[b]? 0 !=v7 ys[b]? 0) (j:=0) (fun b=>rfl),ha]at w2
  simp only [TY,TZ,VH,VI,w1,w2,allT]
  by_cases he:xs=ys
  ·subst he;simp;decide
  ·simp [he,hl]
 ·have hne:xs≠ys:=fun h=>hl (by rw [h])
  simp [TY,TZ,VH,VI,allT,hne]
  omega
def ahE:awh
 | [.one ⟨false,[.ref 0]⟩,.one ⟨false,[.ref 1]⟩],[.row false 2 (.int .i64) a,.row false 2 (.int .i64) b]=>some ⟨aBB (.val (.bool (eqL a b))),[aBF a,aBF b],[],[leN a.length 9223372036854775807]⟩
 |_,_=>none
def AJ:PF prog:=PF.alt aqq ahE (by
 intro args es o h cA;unfold ahE at h;split at h
 ·rename_i a b
  cases h
  have cA:=jQ cA
  have hh:=au8 a b cA
  obtain⟨e0,en⟩:=hh
  exact pW rfl (ip en) (by simp only [e0] <;> rfl) rfl rfl
 ·cases h)
theorem aym(xs:avO)(h:(leN 1 xs.length&&leN xs.length 1048576)=true):CM xs=true:=by
 simp only [q9,gR]at h
 simp [CM,allT]
 omega
def apA:awh
 | [.one ⟨false,[.val (.slice none 0 0)]⟩],[]=>some ⟨aBB (.ref 0),[],[.row true 2 (.int .i64) []],[true]⟩
 |_,_=>none
def avm:PF prog:=PF.ofG prog [PF.raw prog] [] aT 88 f88 func88 (fun c _=>LOk.nil c) apA (by
 intro _ _ _ h;unfold apA at h;split at h<;>cases h;kernel_rfl)
def apz:awh
 | [.one ⟨false,[.val (.slice (some _) 0 _)]⟩],[]=>some ⟨aBB (.ref 0),[],[.row true 2 (.int .i64) []],[true]⟩
 |_,_=>none
def avl:PF prog:=PF.ofG prog [] [] aT 88 f88 func88 (fun c _=>LOk.nil c) apz (by
 intro _ _ _ h;unfold apz at h;split at h<;>cases h;kernel_rfl)
def SM:awh
 | [.one ⟨false,[.ref 0]⟩],[.row false 2 (.int .i64) a]=>some ⟨aBB (.ref 1),[.row false 2 (.int .i64) a],[.row true 2 (.int .i64) a],[leN a.length 1048576]⟩
 |_,_=>none
def jE:PF prog where
 k:=88
 F:=SM
 ok:=by
  intro args es o h cA mem ρ w hp
  unfold SM at h
  split at h
  ·rename_i a
   cases h
   have hl:=cA _ (qqw.2 rfl)
   cases a with
   |nil=>
    exact(ayl avm avl rfl rfl rfl (fun _ _=>rfl) (by simp) (by simp) hp).mono fun en w' ⟨ρ',h1,h2,h3⟩=>⟨ρ',h1,h2,rfl,(by intro v hv;rw [qqw.1 hv];rfl),h3⟩
   |cons x xs=>exact ac6.ok _ _ ⟨_,_,_,[CM (x::xs)]⟩ rfl (fun b hb=>by rw [qqw.1 hb];exact aym (x::xs) ((q9 _ _).mpr ⟨bx (Nat.succ_pos _),hl⟩)) mem ρ w hp
  ·cases h
theorem aAG(xs:avO)(h:leN xs.length 1048576=true):afy xs=true:=by
 have h:=gR.1 h
 simp [afy,allT]
 omega
def alp:awh
 | [.one ⟨false,[.ref 0]⟩],[.row false 2 (.int .i64) a]=>some ⟨aBB (.ref 1),[aBF a],[aBE a],[leN a.length 1048576]⟩
 |_,_=>none
def cY:PF prog:=PF.alt asC alp (by
 intro args es o h cA;unfold alp at h;split at h
 ·rename_i a
  cases h
  have cA:=jQ cA
  have hh:=aAG a cA
  have en:=hh
  exact pW rfl (ip en) rfl rfl rfl
 ·cases h)
def NG(a:Int):Bool:=bif leI 97 a then leI a 122 else false
def afJ:awh
 | [.one ⟨false,[.val (.int .u8 a)]⟩],[]=>some ⟨aBB (.val (.bool (NG a))),[],[],[]⟩
 |_,_=>none
def ZP:PF prog:=PF.ofG prog [] [] aT 195 f195 func195 (fun c _=>LOk.nil c) afJ (by
 intro _ _ _ h;unfold afJ at h;split at h<;>cases h;kernel_rfl)
def abw(a:Int):Bool:=bif leI 48 a then leI a 57 else false
def ahp:awh
 | [.one ⟨false,[.val (.int .u8 a)]⟩],[]=>some ⟨aBB (.val (.bool (abw a))),[],[],[]⟩
 |_,_=>none
def aqs:PF prog:=PF.ofG prog [] [] aT 200 f200 func200 (fun c _=>LOk.nil c) ahp (by
 intro _ _ _ h;unfold ahp at h;split at h<;>cases h;kernel_rfl)
def VK(a:Int):Bool:=bif bif NG a then true else abw a then true else a==95
def ahq:awh
 | [.one ⟨false,[.val (.int .u8 a)]⟩],[]=>some ⟨aBB (.val (.bool (VK a))),[],[],[]⟩
 |_,_=>none
def ahM:PF prog:=PF.ofG prog [ZP,aqs] [] aT 194 f194 func194 (fun c _=>LOk.nil c) ahq (by
 intro _ _ _ h;unfold ahq at h;split at h<;>cases h;kernel_rfl)
abbrev zU:=Int×avP
section
variable (a:Int)(b:avP)
def KS:Bool:=ltI a (↑(ByteArray.size b):Int)
def aeG:Bool:=leI 0 a
def Yy:Bool:= !VK (↑(UInt8.toNat (v7 b[v5 a]? (0:UInt8))):Int)
def aeH:Int:=v8 .i64 (a + (1:Int))
end
def alT:zU→List (Nat×SV)
 |(a,b)=> [(3,(aBC a)),(0,(aBB (.val (.string b))))]
def alM:zU→List (Nat×Entry)
 |(_,_)=> []
def al7:Nat→zU→List (Nat×SV)
 |0,(_,_)=> [(2,(aBB (.val (.bool false))))]
 |_,_=>[]
def Jb:zU→LT zU
 |(a,b)=> .ite (KS a b) (.need [aeG a,KS a b] (.ite (Yy a b) (.ext 0 []) (.nrm ((aeH a),b) []))) (.ext 1 [])
def Wr(s:St):Option zU:=do
 let some ⟨none,.one ⟨false,[.val (.int .i64 a)]⟩⟩:=s.look 3|none
 let some ⟨none,.one ⟨false,[.val (.string b)]⟩⟩:=s.look 0|none
 some (a,b)
def jz:Lp zU where
 h:=⟨[4,5,6,7,10,11,12,13,14,2,8,9,3],[],[],[]⟩
 JL:=alT
 JE:=alM
 XL:=al7
 XE:=fun _=>alM
 q:=fun j=>match j with | 0=> .ret | _=> .exit 0
 tags:= [0,1]
 lt:=Jb
 fuel:=fun(a,b)=>a.natAbs + b.size
 fix:=fun(_,b) (a,_)=>(a,b)
 σ:= []
 rd:=Wr
theorem ajE:LoopOk prog (fun k=>Nat.blt k Tryz.f178.ntmps) jz.F (bj f178 0):=by
 refine Lp.ok (tbl:= [CF,ahM,ZP]) (lf:= []) aT jz (by kernel_rfl) (LOk.nil _) (fun _=>rfl) (fun j _=>by unfold jz;match j with | 0=>rfl | _ + 1=>rfl) ?_ ?_ ?_ ?_ (fun _=>rfl) ?_
 ·intro _;kernel_rfl
 ·intro _;kernel_rfl
 ·intro s x h
  have h:Wr s=some x:=h
  unfold Wr at h
  repeat' split at h
  all_goals cases h
  exact⟨ab ‹_› rfl (ab ‹_› rfl (rfl)),rfl⟩
 ·intro _;kernel_rfl
 ·intro _ _;exact(And.intro (And.intro trivial rfl) trivial)
section
variable (a:avP)
def VL:Bool:=Nat.beq ((Lp.res jz ((0:Int),a)).1) 0
def VM:Bool:=aw (↑(ByteArray.size a):Int) 1 12
def adp:Bool:=bif VL a then false else bif VM a then NG (↑(UInt8.toNat (v7 a[v5 0]? (0:UInt8))):Int)else false
def adq:Bool:=allT [Lp.fin jz ((0:Int),a),VL a||(!(VM a&&true)||leI 0 0),VL a||(!(VM a&&true)||ltI 0 (↑(ByteArray.size a):Int))]
end
def aiJ:awh
 | [.one ⟨false,[.val (.string a)]⟩],[]=>some ⟨aBB (.val (.bool (adp a))),[],[],[adq a]⟩
 |_,_=>none
def arP:PF prog:=PF.ofG prog [CF,ahM,ZP] [jz.F] aT 178 f178 func178 (LOk.fnT (l:= [bj f178 0]) (by kernel_rfl) (.cons ajE (.nil _))) aiJ (by
 intro _ _ _ h;unfold aiJ at h;split at h<;>cases h;kernel_rfl)
def Wy:List avP:=
 [{ data:= #[(112:UInt8),(114:UInt8),(111:UInt8),(103:UInt8),(114:UInt8),(97:UInt8),(109:UInt8)] },
 {data:= #[(105:UInt8),(110:UInt8)] },{ data:= #[(118:UInt8),(97:UInt8),(114:UInt8)] },
 {data:= #[(111:UInt8),(117:UInt8),(116:UInt8)] },{ data:= #[(103:UInt8),(117:UInt8),(97:UInt8),(114:UInt8),(100:UInt8)] },
 {data:= #[(101:UInt8),(110:UInt8),(100:UInt8)] },{ data:= #[(97:UInt8),(110:UInt8),(100:UInt8)] },
 {data:= #[(111:UInt8),(114:UInt8)] },{ data:= #[(110:UInt8),(111:UInt8),(116:UInt8)] },
 {data:= #[(116:UInt8),(114:UInt8),(117:UInt8),(101:UInt8)] },
 {data:= #[(102:UInt8),(97:UInt8),(108:UInt8),(115:UInt8),(101:UInt8)] },{ data:= #[(111:UInt8),(110:UInt8)] },
 {data:= #[(111:UInt8),(102:UInt8),(102:UInt8)] },{ data:= #[(114:UInt8),(105:UInt8),(115:UInt8),(101:UInt8)] },
 {data:= #[(108:UInt8),(97:UInt8),(116:UInt8),(99:UInt8),(104:UInt8)] },
 {data:= #[(99:UInt8),(111:UInt8),(117:UInt8),(110:UInt8),(116:UInt8)] },
 {data:= #[(112:UInt8),(97:UInt8),(105:UInt8),(114:UInt8)] }]
def acq:awh
 | [],[]=>some ⟨aBB (.ref 0),[],[aBJ (Wy)],[]⟩
 |_,_=>none
def ac8:PF prog:=PF.ofG prog [] [] aT 196 f196 func196 (fun c _=>LOk.nil c) acq (by
 intro _ _ _ h;unfold acq at h;split at h<;>cases h;kernel_rfl)
abbrev nR:=Int×avP×List avP
section
variable (a:Int)(b:avP)(c:List avP)
def BI:Bool:=ltI a (↑c.length:Int)
def FH:Bool:=leI 0 a
def FI:Bool:=ltN a.toNat c.length
def FJ:Bool:=ByteArray.toList (v7 c[v5 a]? ByteArray.empty)==ByteArray.toList b
def FK:Int:=v8 .i64 (a + (1:Int))
end
def ah4:nR→List (Nat×SV)
 |(a,b,_)=> [(4,(aBC a)),(3,(aBB (.ref 0))),(0,(aBB (.val (.string b))))]
def ahY:nR→List (Nat×Entry)
 |(_,_,a)=> [(0,(aBJ a))]
def aig:Nat→nR→List (Nat×SV)
 |0,(a,_,_)=> [(2,(aBC a))]
 |_,_=>[]
def DX:nR→LT nR
 |(a,b,c)=> .ite (BI a c) (.need [FH a,BI a c,FI a c] (.ite (FJ a b c) (.ext 0 [(0,0)]) (.nrm ((FK a),b,c) [(0,0)]))) (.ext 1 [(0,0)])
def Rn(s:St):Option nR:=do
 let some ⟨none,.one ⟨false,[.val (.int .i64 a)]⟩⟩:=s.look 4|none
 let some ⟨none,.one ⟨false,[.ref 128]⟩⟩:=s.look 3|none
 let some ⟨none,.one ⟨false,[.val (.string b)]⟩⟩:=s.look 0|none
 let some (.row true 9 (.str) c):=s.ent 128|none
 some (a,b,c)
def eS:Lp nR where
 h:=⟨[6,7,8,9,12,13,14,15,16,17,18,2,10,11,4],[0],[],[]⟩
 JL:=ah4
 JE:=ahY
 XL:=aig
 XE:=fun _=>ahY
 q:=fun j=>match j with | 0=> .ret | _=> .exit 0
 tags:= [0,1]
 lt:=DX
 fuel:=fun(a,b,c)=>a.natAbs + b.size + c.length
 fix:=fun(_,b,c) (a,_,_)=>(a,b,c)
 σ:= [(0,128)]
 rd:=Rn
theorem af5:LoopOk prog (fun k=>Nat.blt k Tryz.f179.ntmps) eS.F (bj f179 0):=by
 refine Lp.ok (tbl:= [ac8]) (lf:= []) aT eS (by kernel_rfl) (LOk.nil _) (fun _=>rfl) (fun j _=>by unfold eS;match j with | 0=>rfl | _ + 1=>rfl) ?_ ?_ ?_ ?_ (fun _=>rfl) ?_
 ·intro _;kernel_rfl
 ·intro _;kernel_rfl
 ·intro s x h
  have h:Rn s=some x:=h
  unfold Rn at h
  repeat' split at h
  all_goals cases h
  constructor<;>repeat(first|refine ab ‹_› rfl ?_|refine aa rfl ‹_› rfl ?_|rfl)
 ·intro _;kernel_rfl
 ·intro _ _;exact(And.intro (And.intro trivial rfl) trivial)
section
variable (a:avP)
def PA:Int×avP×List avP:=((0:Int),a,Wy)
def RX:Int:=bif Nat.beq ((Lp.res eS (PA a)).1) 0 then ((Lp.res eS (PA a)).2).1else(-1:Int)
def RY:Bool:=allT [Lp.fin eS (PA a)]
end
def aea:awh
 | [.one ⟨false,[.val (.string a)]⟩],[]=>some ⟨aBC (RX a),[],[],[RY a]⟩
 |_,_=>none
def aog:PF prog:=PF.ofG prog [ac8] [eS.F] aT 179 f179 func179 (LOk.fnT (l:= [bj f179 0]) (by kernel_rfl) (.cons af5 (.nil _))) aea (by
 intro _ _ _ h;unfold aea at h;split at h<;>cases h;kernel_rfl)
def Cy(a:avP)(b:Int):Int:=ibs a b
def Kx:awh
 | [.one ⟨false,[.val (.string a)]⟩,.one ⟨false,[.val (.int .u8 b)]⟩],[]=>some ⟨aBC (Cy a b),[],[],[]⟩
 |_,_=>none
def Yb:PF prog:=PF.ofG prog [] [] aT 201 f201 func201 (fun c _=>LOk.nil c) Kx (by
 intro _ _ _ h;unfold Kx at h;split at h<;>cases h;kernel_rfl)
def MH(a:avP)(b:Int):Int:=Cy a b
def abM:awh
 | [.one ⟨false,[.val (.string a)]⟩,.one ⟨false,[.val (.int .u8 b)]⟩],[]=>some ⟨aBC (MH a b),[],[],[]⟩
 |_,_=>none
def UK:PF prog:=PF.ofG prog [Yb] [] aT 197 f197 func197 (fun c _=>LOk.nil c) abM (by
 intro _ _ _ h;unfold abM at h;split at h<;>cases h;kernel_rfl)
abbrev HS:=Int×Int×avP×avP
section
variable (a b:Int)(c d:avP)
def Fr:Bool:=ltI (v8 .i64 (a + b)) (↑(ByteArray.size c):Int)
def afj:Bool:= !(Fr a b c&&true)||leI 0 (v8 .i64 (a + b))
def afk:Bool:= !(Fr a b c&&true)||Fr a b c
def aaf:Bool:=bif Fr a b c then leI 0 (MH d (↑(UInt8.toNat (v7 c[v5 (v8 .i64 (a + b))]? (0:UInt8))):Int))else false
def aly:Int:=v8 .i64 (b + (1:Int))
end
def aqL:HS→List (Nat×SV)
 |(a,b,c,d)=> [(1,(aBC a)),(7,(aBC b)),(0,(aBB (.val (.string c)))),(2,(aBB (.val (.string d))))]
def aqK:HS→List (Nat×Entry)
 |(_,_,_,_)=> []
def aqO:Nat→HS→List (Nat×SV)
 |_,(_,a,_,_)=> [(7,(aBC a))]
def Tk:HS→LT HS
 |(a,b,c,d)=> .need [afj a b c,afk a b c] (.ite (aaf a b c d) (.nrm (a,aly b,c,d) []) (.ext 0 []))
def adb(s:St):Option HS:=do
 let some ⟨none,.one ⟨false,[.val (.int .i64 a)]⟩⟩:=s.look 1|none
 let some ⟨none,.one ⟨false,[.val (.int .i64 b)]⟩⟩:=s.look 7|none
 let some ⟨none,.one ⟨false,[.val (.string c)]⟩⟩:=s.look 0|none
 let some ⟨none,.one ⟨false,[.val (.string d)]⟩⟩:=s.look 2|none
 some (a,b,c,d)
def nD:Lp HS where
 h:=⟨[8,9,10,11,12,13,14,15,16,17,18,19,20,21,22,23,24,25,7],[],[],[]⟩
 JL:=aqL
 JE:=aqK
 XL:=aqO
 XE:=fun _=>aqK
 q:=fun j=>match j with | _=> .exit 0
 tags:= [0]
 lt:=Tk
 fuel:=fun(a,b,c,d)=>a.natAbs + b.natAbs + c.size + d.size
 fix:=fun(a,_,c,d) (_,b,_,_)=>(a,b,c,d)
 σ:= []
 rd:=adb
theorem ao0:LoopOk prog (fun k=>Nat.blt k Tryz.f198.ntmps) nD.F (bj f198 0):=by
 refine Lp.ok (tbl:= [UK]) (lf:= []) aT nD (by kernel_rfl) (LOk.nil _) (fun _=>rfl) (fun _ _=>rfl) ?_ ?_ ?_ ?_ (fun _=>rfl) ?_
 ·intro _;kernel_rfl
 ·intro _;kernel_rfl
 ·intro s x h
  have h:adb s=some x:=h
  unfold adb at h
  repeat' split at h
  all_goals cases h
  exact⟨ab ‹_› rfl (ab ‹_› rfl (ab ‹_› rfl (ab ‹_› rfl (rfl)))),rfl⟩
 ·intro _;kernel_rfl
 ·intro _ _;exact(And.intro rfl trivial)
section
variable (a:avP)(b:Int)(c:avP)
def apM:Int×Int×avP×avP:=(b,(0:Int),a,c)
def ark:Int:=((Lp.res nD (apM a b c)).2.2).1
def arl:Bool:=allT [Lp.fin nD (apM a b c)]
end
def aqI:awh
 | [.one ⟨false,[.val (.string a)]⟩,.one ⟨false,[.val (.int .i64 b)]⟩,.one ⟨false,[.val (.string c)]⟩],[]=>some ⟨aBC (ark a b c),[],[],[arl a b c]⟩
 |_,_=>none
def aww:PF prog:=PF.ofG prog [UK] [nD.F] aT 198 f198 func198 (LOk.fnT (l:= [bj f198 0]) (by kernel_rfl) (.cons ao0 (.nil _))) aqI (by
 intro _ _ _ h;unfold aqI at h;split at h<;>cases h;kernel_rfl)
def Fp(a:avP):Bool:=rH (↑(ByteArray.size a):Int) 1 12
def Nj(a:avP):Bool:=
 bif Fp a then
 leI (0:Int)
  (MH
   {
    data:=
     #[(97:UInt8),(98:UInt8),(99:UInt8),(100:UInt8),(101:UInt8),(102:UInt8),(103:UInt8),(104:UInt8),(105:UInt8),
      (106:UInt8),(107:UInt8),(108:UInt8),(109:UInt8),(110:UInt8),(111:UInt8),(112:UInt8),(113:UInt8),(114:UInt8),
      (115:UInt8),(116:UInt8),(117:UInt8),(118:UInt8),(119:UInt8),(120:UInt8),(121:UInt8),(122:UInt8)] }
   (↑(UInt8.toNat (v7 a[v5 (0:Int)]? (0:UInt8))):Int))
 else false
def afh(a:avP):Bool:=
 bif Nj a then
 ark a (0:Int)
   {
    data:=
     #[(97:UInt8),(98:UInt8),(99:UInt8),(100:UInt8),(101:UInt8),(102:UInt8),(103:UInt8),(104:UInt8),(105:UInt8),
      (106:UInt8),(107:UInt8),(108:UInt8),(109:UInt8),(110:UInt8),(111:UInt8),(112:UInt8),(113:UInt8),(114:UInt8),
      (115:UInt8),(116:UInt8),(117:UInt8),(118:UInt8),(119:UInt8),(120:UInt8),(121:UInt8),(122:UInt8),(48:UInt8),
      (49:UInt8),(50:UInt8),(51:UInt8),(52:UInt8),(53:UInt8),(54:UInt8),(55:UInt8),(56:UInt8),(57:UInt8),
      (95:UInt8)] } ==
  (↑(ByteArray.size a):Int)
 else false
def afi(a:avP):Bool:=
 allT
 [!(Fp a&&true)||leI (0:Int) (0:Int),!(Fp a&&true)||ltI (0:Int) (↑(ByteArray.size a):Int),
  !(Nj a&&true)||
   arl a (0:Int)
    {
     data:=
      #[(97:UInt8),(98:UInt8),(99:UInt8),(100:UInt8),(101:UInt8),(102:UInt8),(103:UInt8),(104:UInt8),(105:UInt8),
       (106:UInt8),(107:UInt8),(108:UInt8),(109:UInt8),(110:UInt8),(111:UInt8),(112:UInt8),(113:UInt8),(114:UInt8),
       (115:UInt8),(116:UInt8),(117:UInt8),(118:UInt8),(119:UInt8),(120:UInt8),(121:UInt8),(122:UInt8),(48:UInt8),
       (49:UInt8),(50:UInt8),(51:UInt8),(52:UInt8),(53:UInt8),(54:UInt8),(55:UInt8),(56:UInt8),(57:UInt8),
       (95:UInt8)] }]
def alc:awh
 | [.one ⟨false,[.val (.string a)]⟩],[]=>some ⟨aBB (.val (.bool (afh a))),[],[],[afi a]⟩
 |_,_=>none
def asA:PF prog:=PF.ofG prog [aah,UK,aww] [] aT 181 f181 func181 (fun c _=>LOk.nil c) alc (by
 intro _ _ _ h;unfold alc at h;split at h<;>cases h;kernel_rfl)
abbrev eE:=Int×Int×avP×List avP
section
variable (a b:Int)(c:avP)(d:List avP)
def sq:Bool:=ltI a b
def sr:Bool:=leI 0 a
def su:Bool:=ltI a (↑d.length:Int)
def sv:Bool:=ltN a.toNat d.length
def sw:Bool:=ByteArray.toList c==ByteArray.toList (v7 d[v5 a]? ByteArray.empty)
def sx:Int:=v8 .i64 (a + (1:Int))
end
def XH:eE→List (Nat×SV)
 |(a,b,c,_)=> [(8,(aBC a)),(7,(aBC b)),(1,(aBB (.val (.string c)))),(0,(aBB (.ref 0)))]
def XG:eE→List (Nat×Entry)
 |(_,_,_,a)=> [(0,(aBD a))]
def XJ:Nat→eE→List (Nat×SV)
 |0,(a,_,_,_)=> [(4,(aBC a))]
 |_,_=>[]
def qY:eE→LT eE
 |(a,b,c,d)=> .ite (sq a b) (.need [sr a,su a d,sv a d] (.ite (sw a c d) (.ext 0 [(0,0)]) (.nrm ((sx a),b,c,d) [(0,0)]))) (.ext 1 [(0,0)])
def CI(s:St):Option eE:=do
 let some ⟨none,.one ⟨false,[.val (.int .i64 a)]⟩⟩:=s.look 8|none
 let some ⟨none,.one ⟨false,[.val (.int .i64 b)]⟩⟩:=s.look 7|none
 let some ⟨none,.one ⟨false,[.val (.string c)]⟩⟩:=s.look 1|none
 let some ⟨none,.one ⟨false,[.ref 0]⟩⟩:=s.look 0|none
 let some (.row false 9 (.str) d):=s.ent 0|none
 some (a,b,c,d)
def bA:Lp eE where
 h:=⟨[9,10,5,11,12,13,14,15,16,17,4,18,8],[0],[],[]⟩
 JL:=XH
 JE:=XG
 XL:=XJ
 XE:=fun _=>XG
 q:=fun j=>match j with | 0=> .ret | _=> .exit 0
 tags:= [0,1]
 lt:=qY
 fuel:=fun(a,b,c,d)=>a.natAbs + b.natAbs + c.size + d.length
 fix:=fun(_,b,c,d) (a,_,_,_)=>(a,b,c,d)
 σ:= [(0,0)]
 rd:=CI
theorem Wh:LoopOk prog (fun k=>Nat.blt k Tryz.f59.ntmps) bA.F (bj f59 0):=by
 refine Lp.ok (tbl:= []) (lf:= []) aT bA (by kernel_rfl) (LOk.nil _) (fun _=>rfl) (fun j _=>by unfold bA;match j with | 0=>rfl | _ + 1=>rfl) ?_ ?_ ?_ ?_ (fun _=>rfl) ?_
 ·intro _;kernel_rfl
 ·intro _;kernel_rfl
 ·intro s x h
  have h:CI s=some x:=h
  unfold CI at h
  repeat' split at h
  all_goals cases h
  constructor<;>repeat(first|refine ab ‹_› rfl ?_|refine aa rfl ‹_› rfl ?_|rfl)
 ·intro _;kernel_rfl
 ·intro _ _;exact(And.intro (And.intro trivial rfl) trivial)
section
variable (a:avP)(b:List avP)
def tU:Int×Int×avP×List avP:=((0:Int),(↑b.length:Int),a,b)
def uK:Int:=bif Nat.beq ((Lp.res bA (tU a b)).1) 0 then ((Lp.res bA (tU a b)).2).1else(-1:Int)
def uL:Bool:=allT [Lp.fin bA (tU a b)]
end
def PU:awh
 | [.one ⟨false,[.ref 0]⟩,.one ⟨false,[.val (.string a)]⟩],[.row false 9 (.str) b]=>some ⟨aBC (uK a b),[aBD b],[],[uL a b]⟩
 |_,_=>none
def AK:PF prog:=PF.ofG prog [] [bA.F] aT 59 f59 func59 (LOk.fnT (l:= [bj f59 0]) (by kernel_rfl) (.cons Wh (.nil _))) PU (by
 intro _ _ _ h;unfold PU at h;split at h<;>cases h;kernel_rfl)
def ku(a:avP)(b:List avP):Bool:=leI 0 (uK a b)
def nF(a:avP)(b:List avP):Bool:=allT [uL a b]
def LR:awh
 | [.one ⟨false,[.ref 0]⟩,.one ⟨false,[.val (.string a)]⟩],[.row false 9 (.str) b]=>some ⟨aBB (.val (.bool (ku a b))),[aBD b],[],[nF a b]⟩
 |_,_=>none
def eF:PF prog:=PF.ofG prog (T3z [AK]) [] aT 156 f156 func156 (fun c _=>LOk.nil c) LR (by
 intro _ _ _ h;unfold LR at h;split at h<;>cases h;kernel_rfl)
def ZA(a:avP):Bool:=ku a (List.drop (v5 0) (List.take (v5 (↑(v6 aj4):Int)) aj4))
def ZB(a:avP):Bool:=allT [nF a (List.drop (v5 0) (List.take (v5 (↑(v6 aj4):Int)) aj4))]
def afC:awh
 | [.one ⟨false,[.val (.string a)]⟩],[]=>some ⟨aBB (.val (.bool (ZA a))),[],[],[ZB a]⟩
 |_,_=>none
def ape:PF prog:=PF.ofG prog (T3z [eF]) [] aT 182 f182 func182 (fun c _=>LOk.nil c) afC (by
 intro _ _ _ h;unfold afC at h;split at h<;>cases h;kernel_rfl)
theorem Lp.scan{X:Type}(p:Lp X)(st:Nat→X)(N:Nat)(P:Nat→Bool)(e:Nat)(hN:N≤p.fuel (st 0))
  (hs: ∀ b,b < N→(p.lt (st b)).nds=true∧(p.lt (st b)).each (fun y=>y=st (b + 1))∧(p.lt (st b)).fn (fun _=>())=(bif P b then .inl 0 else .inr ()))
  (he:(p.lt (st N)).out=some (.inl e)):p.fin (st 0)=true∧(p.res (st 0)).1=bif(List.range N).any P then 0 else e:=by
 have nQ:=p.along (fun i (_:Unit)=>st i) (fun _=>()) (fun(b:Nat) (_:Unit)=>bif P b then .inl 0 else .inr ()) e (fun _ _=>True) (List.range N) () trivial (by rw [List.length_range];exact hN)
  (fun i b a hb _=>by
   obtain⟨rfl,fC⟩:=Xh hb
   obtain⟨h1,h2,h3⟩:=hs b fC
   exact⟨h1,h2,h3,fun _ _=>trivial⟩) (fun a _=>by rw [List.length_range];exact he)
 rw [lN (P:=P) (j:=0) (fun b=>rfl)]at nQ
 exact⟨nQ.1,by rw [nQ.2]⟩
def bAt(s:avP)(b:Nat):Int:=((s[b]?.getD 0).toNat:Int)
def au7(c:Int):Bool:=inR c 97 122
def ail(c:Int):Bool:=au7 c||(inR c 48 57||c==95)
def abY(s:avP):Bool:=inR (s.size:Int) 1 12&&(au7 (bAt s 0)&&(List.range s.size).all fun b=>ail (bAt s b))
def awn(s:avP):Bool:=aj4.any fun k=>k.toList==s.toList
def rx(s:avP):Bool:=abY s&& !awn s
def aAl:avP:=⟨#[97,98,99,100,101,102,103,104,105,106,107,108,109,110,111,112,113,114,115,116,117,118,119,120,121,122]⟩
def wbS:avP:=⟨#[97,98,99,100,101,102,103,104,105,106,107,108,109,110,111,112,113,114,115,116,117,118,119,120,121,122,48,49,50,51,52,53,54,55,56,57,95]⟩
theorem azo: ∀ n:Nat,n < 256→leI 0 (ibs aAl (n:Int))=au7 (n:Int):=by decide +kernel
theorem aAO: ∀ n:Nat,n < 256→leI 0 (ibs wbS (n:Int))=ail (n:Int):=by decide +kernel
theorem aAm(s:avP)(b:Nat):leI 0 (ibs aAl (bAt s b))=au7 (bAt s b):=azo _ (UInt8.toNat_lt _)
theorem aBb(s:avP)(b:Nat):leI 0 (ibs wbS (bAt s b))=ail (bAt s b):=aAO _ (UInt8.toNat_lt _)
theorem ax2(c:Int):VK c=ail c:=by
 simp only [VK,NG,abw,QU,ail,au7]
 cases inR c 97 122 <;> cases inR c 48 57 <;> rfl
theorem awU(s:avP)(hn:s.size≤9223372036854775807):
  jz.fin ((0:Int),s)=true∧(jz.res ((0:Int),s)).1=bif(List.range s.size).any (fun b=> !ail (bAt s b))then 0 else 1:=by
 refine Lp.scan jz (fun b=>((b:Int),s)) s.size (fun b=> !ail (bAt s b)) 1 (by simp only [jz];omega) (fun b hb=> ?_) ?_
 ·have fB:ltI (b:Int) (s.size:Int)=true:=dw (by omega)
  have hw:IntKind.i64.wrap ((b:Int) + 1)=((b + 1:Nat):Int):=by rw [aM (by omega) (by omega)];omega
  have Ly:leI (0:Int) (b:Int)=true:=bk (by omega)
  have i2:Yy (b:Int) s= !ail (bAt s b):=by simp only [Yy,ax2,w5,bAt]
  refine⟨?_,?_,?_⟩
  ·simp [jz,Jb,LT.nds,allT,KS,aeG,fB,Ly]
  ·simp [jz,Jb,LT.each,aeH,hw]
  ·simp only [jz,Jb,LT.fn,KS,fB,i2,cond_true]
 ·simp [jz,Jb,LT.out,KS]
theorem avE(s:avP)(h:leN s.size 9223372036854775807=true):adp s=abY s∧adq s=true:=by
 obtain⟨w1,w2⟩:=awU s (gR.1 h)
 have e5:((List.range s.size).any fun b=> !ail (bAt s b))= !(List.range s.size).all fun b=>ail (bAt s b):=by simp [List.all_eq_not_any_not]
 rw [e5]at w2
 have eb:((UInt8.toNat (v7 s[v5 (0:Int)]? (0:UInt8)):Nat):Int)=bAt s 0:=rfl
 have h0:leI 0 0=true:=rfl
 simp only [adp,adq,VL,VM,w1,w2,eb,h0,NG,aw,QU,abY,au7,allT,k7,cond_true]
 cases hr:inR (s.size:Int) 1 12 with
 |false=>cases (List.range s.size).all fun b=>ail (bAt s b) <;> simp [Nat.beq]
 |true=>
  have:=ua.1 hr
  rw [dw (by omega)]
  cases inR (bAt s 0) 97 122 <;> cases (List.range s.size).all fun b=>ail (bAt s b) <;> simp [Nat.beq]
theorem aBa(s:avP)(hn:s.size≤9223372036854775806):
  nD.fin ((0:Int),(0:Int),s,wbS)=true∧((nD.res ((0:Int),(0:Int),s,wbS)).2.2.1==(s.size:Int))=(List.range s.size).all fun b=>ail (bAt s b):=by
 have hz: ∀ i:Nat,i≤s.size→IntKind.i64.wrap ((0:Int) + (i:Int))=(i:Int):=fun i hi=>by rw [aM (by omega) (by omega)];omega
 have nQ:=nD.along (fun i (_:Unit)=>((0:Int),(i:Int),s,wbS)) (fun _=>()) (fun(b:Nat) (_:Unit)=>bif !ail (bAt s b)then .inl 0 else .inr ()) 0 (fun _ _=>True) (List.range s.size) () trivial (by simp only [nD,List.length_range];omega)
  (fun i b a hb _=>by
   obtain⟨rfl,fC⟩:=Xh hb
   have fB:ltI (b:Int) (s.size:Int)=true:=dw (by omega)
   have Ly:leI (0:Int) (b:Int)=true:=bk (by omega)
   have hw:IntKind.i64.wrap ((b:Int) + 1)=((b + 1:Nat):Int):=by rw [aM (by omega) (by omega)];omega
   have ha:Fr 0 (b:Int) s=true:=by simp only [Fr,hz b (by omega),fB]
   have hb2:aaf 0 (b:Int) s wbS=ail (bAt s b):=by
    simp only [aaf,ha,cond_true,hz b (by omega),w5,MH,Cy]
    exact aBb s b
   refine⟨?_,?_,?_,fun _ _=>trivial⟩
   ·have hz2:=hz b (by omega)
    rw [Int.zero_add]at hz2
    simp [nD,Tk,LT.nds,allT,afj,afk,ha,hz2]
   ·simp [nD,Tk,LT.each,aly,hw]
   ·simp only [nD,Tk,LT.fn,hb2]
    cases ail (bAt s b) <;> rfl)
  (fun a _=>by
   have fB:ltI (s.size:Int) (s.size:Int)=false:=by simp
   have ha:Fr 0 (s.size:Int) s=false:=by simp only [Fr,hz s.size (by omega),fB]
   rw [List.length_range]
   simp [nD,Tk,LT.out,aaf,afj,afk,allT,ha])
 rw [lN (P:=fun b=> !ail (bAt s b)) (j:=0) (fun b=>rfl)]at nQ
 refine⟨nQ.1,?_⟩
 have k2:nD.res ((0:Int),(0:Int),s,wbS)=_:=nQ.2
 rw [k2]
 simp only [Nat.zero_add]
 rw [Bool.eq_iff_iff,beq_iff_eq,List.all_eq_true]
 have hl: ∀ (l:List Nat) (P:Nat→Bool),(l.takeWhile P).length=l.length↔ ∀ x∈l,P x=true:=by
  intro l P
  induction l with
  |nil=>simp
  |cons a r ih=>
   rw [List.takeWhile_cons]
   cases h:P a with
   |false=>simp [h]
   |true=>simp [h,ih]
 have h2:=hl (List.range s.size) (fun b=> !!ail (bAt s b))
 rw [List.length_range]at h2
 constructor
 ·intro h x hx;have:=h2.1 (by exact_mod_cast h) x hx;simpa using this
 ·intro h;exact_mod_cast h2.2 (fun x hx=>by simpa using h x hx)
theorem au1(s:avP):afh s=abY s∧afi s=true:=by
 have eb:((UInt8.toNat (v7 s[v5 (0:Int)]? (0:UInt8)):Nat):Int)=bAt s 0:=rfl
 have e0:Fp s=inR (s.size:Int) 1 12:=by simp only [Fp,rH,QU]
 have e1:Nj s=(inR (s.size:Int) 1 12&&au7 (bAt s 0)):=by
  have:Nj s=bif Fp s then leI 0 (ibs aAl (bAt s 0))else false:=rfl
  rw [this,e0,aAm]
  cases inR (s.size:Int) 1 12 <;> rfl
 have e2:afh s=bif Nj s then(nD.res ((0:Int),(0:Int),s,wbS)).2.2.1==(s.size:Int)else false:=rfl
 have e3:afi s=allT [!(Fp s&&true)||leI (0) (0),!(Fp s&&true)||ltI (0) (↑(ByteArray.size s)),!(Nj s&&true)||allT [nD.fin ((0:Int),(0:Int),s,wbS)]]:=rfl
 have h0:leI 0 0=true:=rfl
 rw [e2,e3,e1,e0,h0]
 cases hr:inR (s.size:Int) 1 12 with
 |false=>simp [abY,hr,allT]
 |true=>
  have:=ua.1 hr
  obtain⟨w1,w2⟩:=aBa s (by omega)
  rw [w1,w2,dw (by omega)]
  simp only [abY,hr,allT,Bool.true_and,Bool.and_true,k7,cond_true]
  cases au7 (bAt s 0) <;> simp
def Fo(a b:avP):(Unit)→Nat ⊕ (Unit)
 |_=>(bif(ByteArray.toList (b)==ByteArray.toList a)then(.inl 0)else(.inr ()))
def sG(a:avP)(b:List avP)(i:Nat):(Unit)→nR
 |_=>((i:Int),a,b)
def Rk:nR→Unit
 |(_,_,_)=>()
theorem aj6(c:avP)(e:List avP) (hn:e.length≤9223372036854775807):
  eS.fin ((0:Int),c,e)=true∧eS.res ((0:Int),c,e)=((br (Fo c) 1 e 0 ()).1,(sG c e) (br (Fo c) 1 e 0 ()).2.1 (br (Fo c) 1 e 0 ()).2.2):=by
 have nQ:=eS.along (sG c e) Rk (Fo c) 1 (fun _ _=>True) e () (by trivial) (by simp only [eS,sG];omega) (fun i b a hb hI=> ?_) (fun a hI=> ?_)
 ·exact nQ
 ·obtain⟨⟩:=a
  have fC:=(k9.1 hb).1
  have lP: ∀ d,v7 e[i]? d=b:=fun d=>by rw [hb];rfl
  have hw:=Bm fC hn
  have fB:ltI (i:Int) (e.length:Int)=true:=dw (by omega)
  have Ly:leI (0:Int) (i:Int)=true:=bk (by omega)
  have sO:ltN i e.length=true:=eD fC
  refine⟨?_,?_,?_,?_⟩
  ·simp [BI,FH,FI,FJ,FK,DX,eS,LT.nds,allT,sG,fB,Ly,sO,lP]
  ·simp [BI,FH,FI,FJ,FK,DX,eS,LT.each,sG,Rk,hw]
  ·simp only [BI,FH,FI,FJ,FK,DX,eS,LT.fn,sG,Rk,Fo,w5,fB,Ly,sO,lP,cond_true,k8]
  ·exact fun _ _=>trivial
 ·obtain⟨⟩:=a
  simp [BI,FH,FI,FJ,FK,DX,eS,LT.out,sG]
def sn(a b:avP):(Unit)→Nat ⊕ (Unit)
 |_=>(bif(ByteArray.toList a==ByteArray.toList b)then(.inl 0)else(.inr ()))
def fc(a:avP)(b:List avP)(i:Nat):(Unit)→eE
 |_=>((i:Int),(↑b.length:Int),a,b)
def CH:eE→Unit
 |(_,_,_,_)=>()
theorem LX(c:avP)(e:List avP) (hn:e.length≤9223372036854775807):
  bA.fin ((0:Int),(↑e.length:Int),c,e)=true∧bA.res ((0:Int),(↑e.length:Int),c,e)=((br (sn c) 1 e 0 ()).1,(fc c e) (br (sn c) 1 e 0 ()).2.1 (br (sn c) 1 e 0 ()).2.2):=by
 have nQ:=bA.along (fc c e) CH (sn c) 1 (fun _ _=>True) e () (by trivial) (by simp only [bA,fc];omega) (fun i b a hb hI=> ?_) (fun a hI=> ?_)
 ·exact nQ
 ·obtain⟨⟩:=a
  have fC:=(k9.1 hb).1
  have lP: ∀ d,v7 e[i]? d=b:=fun d=>by rw [hb];rfl
  have hw:=Bm fC hn
  have fB:ltI (i:Int) (e.length:Int)=true:=dw (by omega)
  have Ly:leI (0:Int) (i:Int)=true:=bk (by omega)
  have sO:ltN i e.length=true:=eD fC
  refine⟨?_,?_,?_,?_⟩
  ·simp [sq,sr,su,sv,sw,sx,qY,bA,LT.nds,allT,fc,fB,Ly,sO,lP]
  ·simp [sq,sr,su,sv,sw,sx,qY,bA,LT.each,fc,CH,hw]
  ·simp only [sq,sr,su,sv,sw,sx,qY,bA,LT.fn,fc,CH,sn,w5,fB,Ly,sO,lP,cond_true,k8]
  ·exact fun _ _=>trivial
 ·obtain⟨⟩:=a
  simp [sq,sr,su,sv,sw,sx,qY,bA,LT.out,fc]
theorem aAh:aj4.length≤9223372036854775807:=by decide
theorem ar3(s:avP):ltI (RX s) 0= !awn s∧RY s=true:=by
 have e0:Wy=aj4:=rfl
 obtain⟨w1,w2⟩:=aj6 s aj4 aAh
 rw [lN (P:=fun k=>k.toList==s.toList) (j:=0) (fun k=>rfl)]at w2
 simp only [RX,RY,PA,e0,w1,w2,allT,awn,sG]
 cases aj4.any fun k=>k.toList==s.toList with
 |false=>exact⟨rfl,rfl⟩
 |true=>
  simp only [cond_true,Nat.beq]
  refine⟨?_,trivial⟩
  exact ag1.2 (by omega)
theorem awk(s:avP):ZA s=awn s∧ZB s=true:=by
 have e0:List.drop (v5 (0)) (List.take (v5 (↑(v6 aj4))) aj4)=aj4:=rfl
 obtain⟨w1,w2⟩:=LX s aj4 aAh
 rw [lN (P:=fun k=>s.toList==k.toList) (j:=0) (fun k=>rfl)]at w2
 have e1:(fun k:avP=>s.toList==k.toList)=fun k=>k.toList==s.toList:=funext fun k=>BEq.comm
 rw [e1]at w2
 simp only [ZA,ZB,e0,ku,nF,uK,uL,tU,w1,w2,allT,awn,fc]
 cases aj4.any fun k=>k.toList==s.toList with
 |false=>exact⟨rfl,rfl⟩
 |true=>
  simp only [cond_true,Nat.beq]
  rw [bk (by omega)];simp
def ai9:awh
 | [.one ⟨false,[.val (.string a)]⟩],[]=>some ⟨aBB (.val (.bool (abY a))),[],[],[leN a.size 9223372036854775807]⟩
 |_,_=>none
def arA:PF prog:=PF.alt arP ai9 (by
 intro args es o h cA;unfold ai9 at h;split at h
 ·rename_i a
  cases h
  have cA:=jQ cA
  have hh:=avE a cA
  obtain⟨e0,en⟩:=hh
  exact pW rfl (ip en) (by simp only [e0] <;> rfl) rfl rfl
 ·cases h)
def aln:awh
 | [.one ⟨false,[.val (.string a)]⟩],[]=>some ⟨aBB (.val (.bool (abY a))),[],[],[]⟩
 |_,_=>none
def asx:PF prog:=PF.alt asA aln (by
 intro args es o h cA;unfold aln at h;split at h
 ·rename_i a
  cases h
  have hh:=au1 a
  obtain⟨e0,en⟩:=hh
  exact pW rfl (ip en) (by simp only [e0] <;> rfl) rfl rfl
 ·cases h)
def afP:awh
 | [.one ⟨false,[.val (.string a)]⟩],[]=>some ⟨aBB (.val (.bool (awn a))),[],[],[]⟩
 |_,_=>none
def ao5:PF prog:=PF.alt ape afP (by
 intro args es o h cA;unfold afP at h;split at h
 ·rename_i a
  cases h
  have hh:=awk a
  obtain⟨e0,en⟩:=hh
  exact pW rfl (ip en) (by simp only [e0] <;> rfl) rfl rfl
 ·cases h)
def rl(a:avP):Bool:=bif abY a then ltI (RX a) 0 else false
def AE(a:avP):Bool:=allT [leN (ByteArray.size a) 9223372036854775807,!(abY a&&true)||RY a]
def aiM:awh
 | [.one ⟨false,[.val (.string a)]⟩],[]=>some ⟨aBB (.val (.bool (rl a))),[],[],[AE a]⟩
 |_,_=>none
def Tt:PF prog:=PF.ofG prog [arA,aog] [] aT 142 f142 func142 (fun c _=>LOk.nil c) aiM (by
 intro _ _ _ h;unfold aiM at h;split at h<;>cases h;kernel_rfl)
def al(a:Int):Bool:=bif bif bif a==7 then true else a==8 then true else a==11 then true else a==12
def afK:awh
 | [.one ⟨false,[.val (.int .i64 a)]⟩],[]=>some ⟨aBB (.val (.bool (al a))),[],[],[]⟩
 |_,_=>none
def NC:PF prog:=PF.ofG prog [] [] aT 171 f171 func171 (fun c _=>LOk.nil c) afK (by
 intro _ _ _ h;unfold afK at h;split at h<;>cases h;kernel_rfl)
def adA(a:Int):Bool:=aw a 1 12
def aiL:awh
 | [.one ⟨false,[.val (.int .i64 a)]⟩],[]=>some ⟨aBB (.val (.bool (adA a))),[],[],[]⟩
 |_,_=>none
def arR:PF prog:=PF.ofG prog [CF] [] aT 173 f173 func173 (fun c _=>LOk.nil c) aiL (by
 intro _ _ _ h;unfold aiL at h;split at h<;>cases h;kernel_rfl)
def abz(a b:Int):Bool:=bif bif !adA a then true else !aw b 0 9999 then true else bif !al a then b !=0 else false
def TI(a:Int)(b:avP)(c:Int):Bool:=
 bif abz a c then false else bif a==(1:Int)then rl b else ByteArray.toList b==ByteArray.toList { data:= #[] }
def TJ(a:Int)(b:avP)(c:Int):Bool:=allT [abz a c||(!a==1||AE b)]
def aiN:awh
 | [.one ⟨true,[.val (.int .i64 a),.val (.string b),.val (.int .i64 c)]⟩],[]=>some ⟨aBB (.val (.bool (TI a b c))),[],[],[TJ a b c]⟩
 |_,_=>none
def ajW:PF prog:=PF.ofG prog [CF,Tt,NC,arR] [] aT 131 f131 func131 (fun c _=>LOk.nil c) aiN (by
 intro _ _ _ h;unfold aiN at h;split at h<;>cases h;kernel_rfl)
def qj(a:avP):Bool:=bif abY a then !awn a else false
def ala:awh
 | [.one ⟨false,[.val (.string a)]⟩],[]=>some ⟨aBB (.val (.bool (qj a))),[],[],[]⟩
 |_,_=>none
def Vx:PF prog:=PF.ofG prog [asx,ao5] [] aT 147 f147 func147 (fun c _=>LOk.nil c) ala (by
 intro _ _ _ h;unfold ala at h;split at h<;>cases h;kernel_rfl)
def XT(a:Int):Bool:=bif bif bif a==7 then true else a==8 then true else a==11 then true else a==12
def ad6:awh
 | [.one ⟨false,[.val (.int .i64 a)]⟩],[]=>some ⟨aBB (.val (.bool (XT a))),[],[],[]⟩
 |_,_=>none
def aoe:PF prog:=PF.ofG prog [] [] aT 190 f190 func190 (fun c _=>LOk.nil c) ad6 (by
 intro _ _ _ h;unfold ad6 at h;split at h<;>cases h;kernel_rfl)
def Qt(a:Int)(b:avP)(c:Int):Bool:=
 bif bif !rH a (1:Int) (12:Int)then true else !(a==(1:Int))== !ByteArray.toList b==ByteArray.toList { data:= #[] } then
 false
 else
 bif XT a then rH c (0:Int) (9999:Int)
 else bif c==(0:Int)then bif a !=(1:Int)then true else qj b else false
def alb:awh
 | [.one ⟨true,[.val (.int .i64 a),.val (.string b),.val (.int .i64 c)]⟩],[]=>some ⟨aBB (.val (.bool (Qt a b c))),[],[],[]⟩
 |_,_=>none
def afv:PF prog:=PF.ofG prog [aah,Vx,aoe] [] aT 165 f165 func165 (fun c _=>LOk.nil c) alb (by
 intro _ _ _ h;unfold alb at h;split at h<;>cases h;kernel_rfl)
def acE(a:Int)(b:avP)(c:Int):Bool:=bif Qt a b c then leI 7 a else false
def aix:awh
 | [.one ⟨true,[.val (.int .i64 a),.val (.string b),.val (.int .i64 c)]⟩],[]=>some ⟨aBB (.val (.bool (acE a b c))),[],[],[]⟩
 |_,_=>none
def arF:PF prog:=PF.ofG prog [afv] [] aT 117 f117 func117 (fun c _=>LOk.nil c) aix (by
 intro _ _ _ h;unfold aix at h;split at h<;>cases h;kernel_rfl)
def Gq(a b c d e:Int):Bool:=bif bif a==7 then a==7 else a==8 then bif bif rH c 0 b then d==0 else false then e==0 else false else bif a==11 then bif bif rH c 0 b then rH d 0 1 else false then e==0 else false else bif a==12 then bif d==0 then bif bif rH c 0 b then e==0 else false then true else bif c==v8 .i64 (b + (1:Int))then e==1 else false else false else bif bif rH c 0 1 then d==0 else false then e==0 else false
def ad7:awh
 | [.one ⟨true,[.val (.int .i64 a),.val (.string _x1),.val (.int .i64 b)]⟩,.one ⟨true,[.val (.int .i64 c),.val (.int .i64 d),.val (.int .i64 e)]⟩],[]=>some ⟨aBB (.val (.bool (Gq a b c d e))),[],[],[]⟩
 |_,_=>none
def aev:PF prog:=PF.ofG prog [aah] [] aT 120 f120 func120 (fun c _=>LOk.nil c) ad7 (by
 intro _ _ _ h;unfold ad7 at h;split at h<;>cases h;kernel_rfl)
def ed(a b c d e:Int):Bool:=bif bif a==9 then a==9 else a==10 then bif bif aw c 0 1 then d==0 else false then e==0 else false else bif a==11 then bif bif aw c 0 b then aw d 0 1 else false then e==0 else false else bif a==12 then bif d==0 then bif bif aw c 0 b then e==0 else false then true else bif c==v8 .i64 (b + (1:Int))then e==1 else false else false else bif bif aw c 0 b then d==0 else false then e==0 else false
def act:awh
 | [.one ⟨true,[.val (.int .i64 a),.val (.string _x1),.val (.int .i64 b)]⟩,.one ⟨true,[.val (.int .i64 c),.val (.int .i64 d),.val (.int .i64 e)]⟩],[]=>some ⟨aBB (.val (.bool (ed a b c d e))),[],[],[]⟩
 |_,_=>none
def ac9:PF prog:=PF.ofG prog [CF] [] aT 108 f108 func108 (fun c _=>LOk.nil c) act (by
 intro _ _ _ h;unfold act at h;split at h<;>cases h;kernel_rfl)
def atE(k:Int):Bool:=k==7||(k==8||(k==11||k==12))
def termB(k:Int)(s:avP)(n:Int):Bool:=inR k 1 12&&(inR n 0 9999&&((atE k||n==0)&&(bif k==1 then rx s else s.toList== [])))
def MU(k:Int)(s:avP)(n:Int):Bool:=termB k s n&&leI 7 k
def possB(k n a b c:Int):Bool:=ed k n a b c
theorem Ua:ByteArray.toList { data:= #[] } = []:=by rw [Go.Lib.toList_data]
theorem azP{s:avP}(h:rx s=true):(s.toList== [])=false:=by
 simp only [rx,abY,q9,ua]at h
 have h1:s.size=s.toList.length:=by rw [Go.Lib.size_eq,Go.Lib.toList_data]
 cases hs:s.toList with
 |nil=>
  rw [hs]at h1
  have h2:s.size=0:=h1
  omega
 |cons a l=>rfl
theorem aAj{n:Int}(h:(n==0)=true):inR n 0 9999=true:=by
 have:n=0:=by simpa using h
 rw [this];rfl
theorem ap2(k:Int)(s:avP)(n:Int)(h:leN s.size 9223372036854775807=true):TI k s n=termB k s n∧TJ k s n=true:=by
 obtain⟨e1,e2⟩:=ar3 s
 have e3:rl s=rx s:=by simp only [rl,e1,rx];cases abY s <;> rfl
 have e4:AE s=true:=by simp only [AE,e2,h,allT,k7,cond_true]
 simp only [TI,TJ,abz,e3,e4,adA,aw,QU,Ua,al,termB,atE,allT,k7,cond_true]
 refine⟨?_,trivial⟩
 simp only [bne]
 generalize (bif k==1 then rx s else s.toList== [])=q
 generalize inR k 1 12=q1
 generalize inR n 0 9999=q2
 generalize (k==7)=q3
 generalize (k==8)=q4
 generalize (k==11)=q5
 generalize (k==12)=q6
 generalize (n==0)=q7
 revert q q1 q2 q3 q4 q5 q6 q7
 decide
theorem apL(k:Int)(s:avP)(n:Int):Qt k s n=termB k s n:=by
 have e3:qj s=rx s:=by simp only [qj,rx];cases abY s <;> rfl
 simp only [Qt,e3,rH,QU,Ua,XT,termB,atE]
 by_cases h1:k=1
 ·subst h1
  have z7:((1:Int)==7)=false:=rfl
  have z8:((1:Int)==8)=false:=rfl
  have z11:((1:Int)==11)=false:=rfl
  have z12:((1:Int)==12)=false:=rfl
  have z1:((1:Int)==1)=true:=rfl
  have zn:((1:Int)!=1)=false:=rfl
  have zr:inR (1:Int) 1 12=true:=rfl
  rw [z7,z8,z11,z12,z1,zn,zr]
  have hs:rx s=true→(s.toList== [])=false:=azP
  have h0:(n==0)=true→inR n 0 9999=true:=aAj
  generalize (s.toList== [])=q at hs ⊢
  generalize (n==0)=q2 at h0 ⊢
  generalize inR n 0 9999=q3 at h0 ⊢
  generalize rx s=q4 at hs ⊢
  revert q q2 q3 q4
  decide
 ·have z1:(k==1)=false:=by simpa using h1
  have zn:(k !=1)=true:=by simpa using h1
  rw [z1,zn]
  have h0:(n==0)=true→inR n 0 9999=true:=aAj
  generalize (s.toList== [])=q
  generalize (n==0)=q2 at h0 ⊢
  generalize inR n 0 9999=q3 at h0 ⊢
  generalize inR k 1 12=q1
  generalize (k==7)=p3
  generalize (k==8)=p4
  generalize (k==11)=p5
  generalize (k==12)=p6
  generalize rx s=p7
  revert q q1 q2 q3 p3 p4 p5 p6 p7
  decide
theorem atS(k:Int)(s:avP)(n:Int):acE k s n=MU k s n:=by
 simp only [acE,apL,MU]
 cases termB k s n <;> rfl
theorem agM{k:Int}{s:avP}{n:Int}(h:MU k s n=true):(7≤k∧k≤12)∧(0≤n∧n≤9999)∧(atE k=true∨n=0):=by
 simp only [MU,termB,q9,ua,Gt,Bool.or_eq_true,beq_iff_eq]at h
 obtain⟨⟨h1,h2,h3,_⟩,h4⟩:=h
 exact⟨⟨h4,h1.2⟩,h2,h3⟩
theorem kinds{k:Int}(h:7≤k∧k≤12):k=7∨k=8∨k=9∨k=10∨k=11∨k=12:=by omega
theorem az1{k n a b c:Int}(h:7≤k∧k≤12):Gq k n a b c=possB k n a b c:=by
 rcases kinds h with rfl | rfl | rfl | rfl | rfl | rfl <;> rfl
theorem ajZ{k n a b c:Int}(h:possB k n a b c=true)(hn:0≤n∧n≤9999):(0≤a∧a≤10000)∧(b=0∨b=1)∧(c=0∨c=1):=by
 have hw:IntKind.i64.wrap (n + 1)=n + 1:=aM (by omega) (by omega)
 simp only [possB,ed,aw,QU,hw]at h
 cases h1:(bif k==9 then k==9 else k==10)with
 |true=>
  rw [h1]at h
  cases h2:inR a 0 1 <;> rw [h2]at h <;> simp at h
  have:=ua.1 h2
  omega
 |false=>
  rw [h1]at h
  cases h3:k==11 with
  |true=>
   rw [h3]at h
   cases h2:inR a 0 n <;> cases h4:inR b 0 1 <;> rw [h2]at h <;> simp [h4]at h
   have:=ua.1 h2
   have:=ua.1 h4
   omega
  |false=>
   rw [h3]at h
   cases h5:k==12 with
   |true=>
    rw [h5]at h
    cases h2:inR a 0 n <;> rw [h2]at h <;> simp at h
    ·omega
    ·have:=ua.1 h2
     omega
   |false=>
    rw [h5]at h
    cases h2:inR a 0 n <;> rw [h2]at h <;> simp at h
    have:=ua.1 h2
    omega
def ai0:awh
 | [.one ⟨true,[.val (.int .i64 a),.val (.string b),.val (.int .i64 c)]⟩],[]=>some ⟨aBB (.val (.bool (MU a b c))),[],[],[]⟩
 |_,_=>none
def ajL:PF prog:=PF.alt arF ai0 (by
 intro args es o h cA;unfold ai0 at h;split at h
 ·rename_i a b c
  cases h
  have hh:=atS a b c
  have e0:=hh
  exact pW rfl (fun _ h=>by cases h) (by simp only [e0] <;> rfl) rfl rfl
 ·cases h)
def fT(a:Int):Int:=bif bif a==1 then a==1 else bif a==2 then a==2 else a==3 then(0:Int)else bif bif a==4 then a==4 else bif a==7 then a==7 else bif a==8 then a==8 else a==9 then(1:Int)else(2:Int)
def ahs:awh
 | [.one ⟨false,[.val (.int .i64 a)]⟩],[]=>some ⟨aBC (fT a),[],[],[]⟩
 |_,_=>none
def xP:PF prog:=PF.ofG prog [] [] aT 168 f168 func168 (fun c _=>LOk.nil c) ahs (by
 intro _ _ _ h;unfold ahs at h;split at h<;>cases h;kernel_rfl)
abbrev tv:=Int×List Int
section
variable (a:Int)(b:avO)
def GD:Bool:=ltI a (↑b.length:Int)
def Lr:Bool:=leI 0 a
def Lt:Bool:=ltN a.toNat b.length
def Lu:Bool:= !aw (v7 b[v5 a]? 0) 0 1
def Lv:Int:=v8 .i64 (a + (1:Int))
end
def alX:tv→List (Nat×SV)
 |(a,_)=> [(5,(aBC a)),(0,(aBB (.ref 0)))]
def alQ:tv→List (Nat×Entry)
 |(_,a)=> [(0,(aBF a))]
def amb:Nat→tv→List (Nat×SV)
 |0,(_,_)=> [(4,(aBB (.val (.bool false))))]
 |_,_=>[]
def Jd:tv→LT tv
 |(a,b)=> .ite (GD a b) (.need [Lr a,GD a b,Lt a b] (.ite (Lu a b) (.ext 0 [(0,0)]) (.nrm ((Lv a),b) [(0,0)]))) (.ext 1 [(0,0)])
def Wv(s:St):Option tv:=do
 let some ⟨none,.one ⟨false,[.val (.int .i64 a)]⟩⟩:=s.look 5|none
 let some ⟨none,.one ⟨false,[.ref 0]⟩⟩:=s.look 0|none
 let some (.row false 2 (.int .i64) b):=s.ent 0|none
 some (a,b)
def jA:Lp tv where
 h:=⟨[6,7,8,9,12,13,14,15,16,17,4,10,11,5],[0],[],[]⟩
 JL:=alX
 JE:=alQ
 XL:=amb
 XE:=fun _=>alQ
 q:=fun j=>match j with | 0=> .ret | _=> .exit 0
 tags:= [0,1]
 lt:=Jd
 fuel:=fun(a,b)=>a.natAbs + b.length
 fix:=fun(_,b) (a,_)=>(a,b)
 σ:= [(0,0)]
 rd:=Wv
theorem ajI:LoopOk prog (fun k=>Nat.blt k Tryz.f73.ntmps) jA.F (bj f73 0):=by
 refine Lp.ok (tbl:= [CF]) (lf:= []) aT jA (by kernel_rfl) (LOk.nil _) (fun _=>rfl) (fun j _=>by unfold jA;match j with | 0=>rfl | _ + 1=>rfl) ?_ ?_ ?_ ?_ (fun _=>rfl) ?_
 ·intro _;kernel_rfl
 ·intro _;kernel_rfl
 ·intro s x h
  have h:Wv s=some x:=h
  unfold Wv at h
  repeat' split at h
  all_goals cases h
  constructor<;>repeat(first|refine ab ‹_› rfl ?_|refine aa rfl ‹_› rfl ?_|rfl)
 ·intro _;kernel_rfl
 ·intro _ _;exact(And.intro (And.intro trivial rfl) trivial)
def adS(a:Int)(b:avO):Bool:=bif Nat.beq ((Lp.res jA ((0:Int),b)).1) 0 then false else(↑b.length:Int)==a
def adT(a:avO):Bool:=allT [Lp.fin jA ((0:Int),a)]
def aiT:awh
 | [.one ⟨false,[.ref 0]⟩,.one ⟨false,[.val (.int .i64 a)]⟩],[.row false 2 (.int .i64) b]=>some ⟨aBB (.val (.bool (adS a b))),[aBF b],[],[adT b]⟩
 |_,_=>none
def arV:PF prog:=PF.ofG prog [CF] [jA.F] aT 73 f73 func73 (LOk.fnT (l:= [bj f73 0]) (by kernel_rfl) (.cons ajI (.nil _))) aiT (by
 intro _ _ _ h;unfold aiT at h;split at h<;>cases h;kernel_rfl)
def lD(a:Bool):Int:=bif a then(1:Int)else(0:Int)
def alh:awh
 | [.one ⟨false,[.val (.bool a)]⟩],[]=>some ⟨aBC (lD a),[],[],[]⟩
 |_,_=>none
def alF:PF prog:=PF.ofG prog [] [] aT 169 f169 func169 (fun c _=>LOk.nil c) alh (by
 intro _ _ _ h;unfold alh at h;split at h<;>cases h;kernel_rfl)
section
variable (a b c d e f:Int)
def kr:Bool:=bif bif d==1 then e==0 else false then f==0 else false
def lu:Bool:=(bif kr d e f then(0:Int)else d)==0
def ng:Bool:=bif lu d e f then e !=f else false
def oK:Int:=v8 .i64 ((bif kr d e f then(0:Int)else b) + (1:Int))
def oL:Int:=bif ng d e f then lD (ltI a (oK b d e f))else bif lu d e f then(0:Int)else bif kr d e f then(0:Int)else d
def rm:Int:=lD (bif bif e==1 then f==1 else false then oL a b d e f==0 else false)
def rn:Int:=bif ng d e f then oK b d e f else bif lu d e f then(0:Int)else bif kr d e f then(0:Int)else b
def rp:Int:=bif ng d e f then(0:Int)else bif lu d e f then(0:Int)else bif kr d e f then(0:Int)else c
def rq:Int:=oL a b d e f
end
def aiP:awh
 | [.one ⟨false,[.val (.int .i64 a)]⟩,.one ⟨true,[.val (.int .i64 b),.val (.int .i64 c),.val (.int .i64 d)]⟩,.one ⟨false,[.val (.int .i64 e)]⟩,.one ⟨false,[.val (.int .i64 f)]⟩],[]=>some ⟨.tup [⟨false,[axb (rm a b d e f)]⟩,⟨true,[axb (rn b d e f),axb (rp c d e f),axb (rq a b d e f)]⟩],[],[],[]⟩
 |_,_=>none
def arT:PF prog:=PF.ofG prog [alF] [] aT 170 f170 func170 (fun c _=>LOk.nil c) aiP (by
 intro _ _ _ h;unfold aiP at h;split at h<;>cases h;kernel_rfl)
section
variable (a b c d e:Int)(f:avO)
def dJ:Int:=v7 f[v5 0]? 0
def lv:Int:=v8 .i64 (c + (1:Int))
def oM:Int:=v8 .i64 (aoV (lv c) b (lv c) b * dJ f)
def iy:Int:=bif ltI 1 (↑f.length:Int)then v7 f[v5 1]? 0 else(0:Int)
def oN:Int:=bif iy f==1 then(0:Int)else bif dJ f==1 then(1:Int)else c
def oO:Int:=bif iy f==1 then(0:Int)else bif bif dJ f==1 then d==0 else false then aoV (lv c) b (lv c) b else c
def oP:Int:=v8 .i64 (c - (1:Int))
def oQ:Int:=bif dJ f==1 then(0:Int)else(0:Int)
def nh:Bool:= !ltI 1 (↑f.length:Int)
def gP:Int:=bif a==7 then lD (bif dJ f==1 then oM b c f==b else false)else bif a==8 then bif dJ f==1 then(1:Int)else lD (ltI 0 c)else bif a==9 then lD (bif dJ f==1 then c==0 else false)else bif a==10 then oN c f else bif a==11 then lD (oO b c d f==b)else rm b c e (dJ f) (iy f)
def kT:Int:=bif a==7 then oM b c f else bif a==8 then bif dJ f==1 then b else aoV 0 (oP c) (oP c) 0 else bif a==9 then dJ f else bif a==10 then oN c f else bif a==11 then oO b c d f else rn c e (dJ f) (iy f)
def kU:Int:=bif a==7 then(0:Int)else bif a==8 then oQ f else bif a==9 then(0:Int)else bif a==10 then(0:Int)else bif a==11 then dJ f else rp d e (dJ f) (iy f)
def kV:Int:=bif a==7 then(0:Int)else bif a==8 then oQ f else bif a==9 then(0:Int)else bif a==10 then(0:Int)else bif a==11 then(0:Int)else rq b c e (dJ f) (iy f)
def nE:Bool:=allT [ltI 0 (↑f.length:Int),ltN (v5 0) f.length,nh f||leI 0 1,nh f||ltI 1 (↑f.length:Int),nh f||ltN (v5 1) f.length]
end
def aiQ:awh
 | [.one ⟨true,[.val (.int .i64 a),.val (.string _x1),.val (.int .i64 b)]⟩,.one ⟨true,[.val (.int .i64 c),.val (.int .i64 d),.val (.int .i64 e)]⟩,.one ⟨false,[.ref 0]⟩],[.row false 2 (.int .i64) f]=>some ⟨.tup [⟨false,[axb (gP a b c d e f)]⟩,⟨true,[axb (kT a b c d e f),axb (kU a d e f),axb (kV a b c e f)]⟩],[aBF f],[],[nE f]⟩
 |_,_=>none
def uF:PF prog:=PF.ofG prog [alF,arT] [] aT 124 f124 func124 (fun c _=>LOk.nil c) aiQ (by
 intro _ _ _ h;unfold aiQ at h;split at h<;>cases h;kernel_rfl)
def aoW(a:Int):Bool:=bif a !=0 then a !=1 else false
def afE:awh
 | [.one ⟨false,[.val (.int .i64 a)]⟩],[]=>some ⟨aBB (.val (.bool (aoW a))),[],[],[]⟩
 |_,_=>none
def apf:PF prog:=PF.ofG prog [] [] aT 130 f130 func130 (fun c _=>LOk.nil c) afE (by
 intro _ _ _ h;unfold afE at h;split at h<;>cases h;kernel_rfl)
def HE(a:Int):Bool:=bif a !=0 then a !=1 else false
def XD:awh
 | [.one ⟨false,[.val (.int .i64 a)]⟩],[]=>some ⟨aBB (.val (.bool (HE a))),[],[],[]⟩
 |_,_=>none
def Ya:PF prog:=PF.ofG prog [] [] aT 130 f130 func130 (fun c _=>LOk.nil c) XD (by
 intro _ _ _ h;unfold XD at h;split at h<;>cases h;kernel_rfl)
abbrev cm:=Int×Int×List Int
section
variable (a b:Int)(c:avO)
def kJ:Bool:=ltI a b
def kK:Bool:=leI 0 a
def kL:Bool:=ltI a (↑c.length:Int)
def kM:Bool:=ltN a.toNat c.length
def kN:Bool:=HE (v7 c[v5 a]? 0)
def kO:Int:=v8 .i64 (a + (1:Int))
end
def PW:cm→List (Nat×SV)
 |(a,b,_)=> [(8,(aBC a)),(7,(aBC b)),(1,(aBB (.val (.func (.func 130) ⟨[]⟩ ⟨[]⟩)))),(0,(aBB (.ref 0)))]
def PV:cm→List (Nat×Entry)
 |(_,_,a)=> [(0,(aBF a))]
def PZ:Nat→cm→List (Nat×SV)
 |0,(a,_,_)=> [(4,(aBC a))]
 |_,_=>[]
def jV:cm→LT cm
 |(a,b,c)=> .ite (kJ a b) (.need [kK a,kL a c,kM a c] (.ite (kN a c) (.ext 0 [(0,0)]) (.nrm ((kO a),b,c) [(0,0)]))) (.ext 1 [(0,0)])
def uH(s:St):Option cm:=do
 let some ⟨none,.one ⟨false,[.val (.int .i64 a)]⟩⟩:=s.look 8|none
 let some ⟨none,.one ⟨false,[.val (.int .i64 b)]⟩⟩:=s.look 7|none
 let some ⟨none,.one ⟨false,[.val (.func (.func 130) ⟨[]⟩ ⟨[]⟩)]⟩⟩:=s.look 1|none
 let some ⟨none,.one ⟨false,[.ref 0]⟩⟩:=s.look 0|none
 let some (.row false 2 (.int .i64) c):=s.ent 0|none
 some (a,b,c)
def aA:Lp cm where
 h:=⟨[9,10,5,11,12,13,14,15,16,17,4,18,8],[0],[],[]⟩
 JL:=PW
 JE:=PV
 XL:=PZ
 XE:=fun _=>PV
 q:=fun j=>match j with | 0=> .ret | _=> .exit 0
 tags:= [0,1]
 lt:=jV
 fuel:=fun(a,b,c)=>a.natAbs + b.natAbs + c.length
 fix:=fun(_,b,c) (a,_,_)=>(a,b,c)
 σ:= [(0,0)]
 rd:=uH
theorem Ox:LoopOk prog (fun k=>Nat.blt k Tryz.f172.ntmps) aA.F (bj f172 0):=by
 refine Lp.ok (tbl:= [Ya]) (lf:= []) aT aA (by kernel_rfl) (LOk.nil _) (fun _=>rfl) (fun j _=>by unfold aA;match j with | 0=>rfl | _ + 1=>rfl) ?_ ?_ ?_ ?_ (fun _=>rfl) ?_
 ·intro _;kernel_rfl
 ·intro _;kernel_rfl
 ·intro s x h
  have h:uH s=some x:=h
  unfold uH at h
  repeat' split at h
  all_goals cases h
  constructor<;>repeat(first|refine ab ‹_› rfl ?_|refine aa rfl ‹_› rfl ?_|rfl)
 ·intro _;kernel_rfl
 ·intro _ _;exact(And.intro (And.intro trivial rfl) trivial)
section
variable (a:avO)
def rg:Int×Int×avO:=((0:Int),(↑a.length:Int),a)
def yA:Int:=bif Nat.beq ((Lp.res aA (rg a)).1) 0 then ((Lp.res aA (rg a)).2).1else(-1:Int)
def yB:Bool:=allT [Lp.fin aA (rg a)]
end
def Gl:awh
 | [.one ⟨false,[.ref 0]⟩,.one ⟨false,[.val (.func (.func 130) ⟨[]⟩ ⟨[]⟩)]⟩],[.row false 2 (.int .i64) a]=>some ⟨aBC (yA a),[aBF a],[],[yB a]⟩
 |_,_=>none
def yg:PF prog:=PF.ofG prog [Ya] [aA.F] aT 172 f172 func172 (LOk.fnT (l:= [bj f172 0]) (by kernel_rfl) (.cons Ox (.nil _))) Gl (by
 intro _ _ _ h;unfold Gl at h;split at h<;>cases h;kernel_rfl)
def vL(a:avO):Bool:=leI 0 (yA a)
def vM(a:avO):Bool:=allT [yB a]
def DN:awh
 | [.one ⟨false,[.ref 0]⟩,.one ⟨false,[.val (.func (.func 130) ⟨[]⟩ ⟨[]⟩)]⟩],[.row false 2 (.int .i64) a]=>some ⟨aBB (.val (.bool (vL a))),[aBF a],[],[vM a]⟩
 |_,_=>none
def vF:PF prog:=PF.ofG prog (T3z [yg]) [] aT 129 f129 func129 (fun c _=>LOk.nil c) DN (by
 intro _ _ _ h;unfold DN at h;split at h<;>cases h;kernel_rfl)
def acN(a:Int)(b:avO):Bool:=bif(↑b.length:Int)==a then !vL b else false
def acO(a:Int)(b:avO):Bool:=allT [!((↑b.length:Int)==a&&true)||vM b]
def aiA:awh
 | [.one ⟨false,[.ref 0]⟩,.one ⟨false,[.val (.int .i64 a)]⟩],[.row false 2 (.int .i64) b]=>some ⟨aBB (.val (.bool (acN a b))),[aBF b],[],[acO a b]⟩
 |_,_=>none
def arI:PF prog:=PF.ofG prog (T3z [apf,vF]) [] aT 87 f87 func87 (fun c _=>LOk.nil c) aiA (by
 intro _ _ _ h;unfold aiA at h;split at h<;>cases h;kernel_rfl)
def pp(a:Bool):Int:=bif a then(1:Int)else(0:Int)
def anu:awh
 | [.one ⟨false,[.val (.bool a)]⟩],[]=>some ⟨aBC (pp a),[],[],[]⟩
 |_,_=>none
def ab8:PF prog:=PF.ofG prog [] [] aT 174 f174 func174 (fun c _=>LOk.nil c) anu (by
 intro _ _ _ h;unfold anu at h;split at h<;>cases h;kernel_rfl)
section
variable (a b c d:Int)(e f:Bool)
def zX:Bool:=bif e then c==0 else false
def zY:Int:=v8 .i64 (b + (1:Int))
def zZ:Int:=bif f then(0:Int)else bif zX c e then aoV a (zY b) a (zY b)else b
def Bv:Int:=pp (zZ a b c e f==a)
def Bw:Int:=zZ a b c e f
def Bx:Int:=pp e
def Bz:Int:=bif f then d else bif zX c e then d else d
end
def afH:awh
 | [.one ⟨false,[.val (.int .i64 a)]⟩,.one ⟨true,[.val (.int .i64 b),.val (.int .i64 c),.val (.int .i64 d)]⟩,.one ⟨false,[.val (.bool e)]⟩,.one ⟨false,[.val (.bool f)]⟩],[]=>some ⟨.tup [⟨false,[axb (Bv a b c e f)]⟩,⟨true,[axb (Bw a b c e f),axb (Bx e),axb (Bz c d e f)]⟩],[],[],[]⟩
 |_,_=>none
def apg:PF prog:=PF.ofG prog [ab8] [] aT 175 f175 func175 (fun c _=>LOk.nil c) afH (by
 intro _ _ _ h;unfold afH at h;split at h<;>cases h;kernel_rfl)
section
variable (a b c d:Int)(e f:Bool)
def mi:Bool:=bif bif d==1 then !e else false then !f else false
def uX:Bool:=(bif mi d e f then(0:Int)else d)==0
def xV:Bool:=bif uX d e f then !e==f else false
def BA:Int:=v8 .i64 ((bif mi d e f then(0:Int)else b) + (1:Int))
def BB:Int:=bif xV d e f then pp (ltI a (BA b d e f))else bif uX d e f then bif mi d e f then(0:Int)else d else bif mi d e f then(0:Int)else d
def Dv:Int:=pp (bif bif e then f else false then BB a b d e f==0 else false)
def Dw:Int:=bif xV d e f then BA b d e f else bif uX d e f then(0:Int)else bif mi d e f then(0:Int)else b
def Dx:Int:=bif xV d e f then bif mi d e f then c else c else bif uX d e f then bif mi d e f then c else c else bif mi d e f then c else c
def Dy:Int:=BB a b d e f
end
def ahm:awh
 | [.one ⟨false,[.val (.int .i64 a)]⟩,.one ⟨true,[.val (.int .i64 b),.val (.int .i64 c),.val (.int .i64 d)]⟩,.one ⟨false,[.val (.bool e)]⟩,.one ⟨false,[.val (.bool f)]⟩],[]=>some ⟨.tup [⟨false,[axb (Dv a b d e f)]⟩,⟨true,[axb (Dw b d e f),axb (Dx c d e f),axb (Dy a b d e f)]⟩],[],[],[]⟩
 |_,_=>none
def aqp:PF prog:=PF.ofG prog [ab8] [] aT 176 f176 func176 (fun c _=>LOk.nil c) ahm (by
 intro _ _ _ h;unfold ahm at h;split at h<;>cases h;kernel_rfl)
section
variable (a b c d e:Int)(f:avO)
def gQ:Bool:=v7 f[v5 0]? 0==1
def KE:Int:=v8 .i64 (c + (1:Int))
def KF:Int:=v8 .i64 (pp (gQ f) * aoV b (KE c) b (KE c))
def Ff:Int:=v8 .i64 ((↑f.length:Int) - (1:Int))
def sI:Bool:=v7 f[v5 (Ff f)]? 0==1
def KG:Int:=bif sI f then(0:Int)else bif gQ f then(1:Int)else c
def KH:Int:=v8 .i64 (c - (1:Int))
def HT:Int:=bif a==7 then pp (bif gQ f then KF b c f==b else false)else bif a==8 then bif gQ f then(1:Int)else pp (ltI 0 c)else bif a==9 then pp (bif gQ f then c==0 else false)else bif a==10 then KG c f else bif a==11 then Bv b c d (gQ f) (sI f)else Dv b c e (gQ f) (sI f)
def Fs:Int:=bif a==7 then KF b c f else bif a==8 then bif gQ f then b else aoV (KH c) 0 0 (KH c)else bif a==9 then pp (gQ f)else bif a==10 then KG c f else bif a==11 then Bw b c d (gQ f) (sI f)else Dw c e (gQ f) (sI f)
def Ft:Int:=bif a==7 then d else bif a==8 then bif gQ f then d else d else bif a==9 then d else bif a==10 then bif sI f then d else bif gQ f then d else d else bif a==11 then Bx (gQ f)else Dx d e (gQ f) (sI f)
def Fu:Int:=bif a==7 then e else bif a==8 then bif gQ f then e else e else bif a==9 then e else bif a==10 then bif sI f then e else bif gQ f then e else e else bif a==11 then Bz d e (gQ f) (sI f)else Dy b c e (gQ f) (sI f)
def HU:Bool:=allT [ltI 0 (↑f.length:Int),ltN (v5 0) f.length,leI 0 (Ff f),ltI (Ff f) (↑f.length:Int),ltN (v5 (Ff f)) f.length]
end
def apB:awh
 | [.one ⟨true,[.val (.int .i64 a),.val (.string _x1),.val (.int .i64 b)]⟩,.one ⟨true,[.val (.int .i64 c),.val (.int .i64 d),.val (.int .i64 e)]⟩,.one ⟨false,[.ref 0]⟩],[.row false 2 (.int .i64) f]=>some ⟨.tup [⟨false,[axb (HT a b c d e f)]⟩,⟨true,[axb (Fs a b c d e f),axb (Ft a d e f),axb (Fu a b c d e f)]⟩],[aBF f],[],[HU f]⟩
 |_,_=>none
def aew:PF prog:=PF.ofG prog [ab8,apg,aqp] [] aT 134 f134 func134 (fun c _=>LOk.nil c) apB (by
 intro _ _ _ h;unfold apB at h;split at h<;>cases h;kernel_rfl)
def bitsB(n:Int)(l:avO):Bool:=l.all (fun v=>inR v 0 1)&&((l.length:Int)==n)
def takesK(k:Int):Int:=fT k
theorem ct{n:Int}{l:avO}:bitsB n l=true↔(∀ v∈l,v=0∨v=1)∧(l.length:Int)=n:=by
 simp only [bitsB,q9,List.all_eq_true,ua,beq_iff_eq]
 constructor
 ·rintro⟨h1,h2⟩;exact⟨fun v hv=>by have:=h1 v hv;omega,h2⟩
 ·rintro⟨h1,h2⟩;exact⟨fun v hv=>by have:=h1 v hv;omega,h2⟩
def Gm(b:Int):(Unit)→Nat ⊕ (Unit)
 |_=>(bif(!aw b 0 1)then(.inl 0)else(.inr ()))
def Bl(a:avO)(i:Nat):(Unit)→tv
 |_=>((i:Int),a)
def Wo:tv→Unit
 |(_,_)=>()
theorem aoz(c:avO) (hn:c.length≤9223372036854775807):
  jA.fin ((0:Int),c)=true∧jA.res ((0:Int),c)=((br (Gm) 1 c 0 ()).1,(Bl c) (br (Gm) 1 c 0 ()).2.1 (br (Gm) 1 c 0 ()).2.2):=by
 have nQ:=jA.along (Bl c) Wo (Gm) 1 (fun _ _=>True) c () (by trivial) (by simp only [jA,Bl];omega) (fun i b a hb hI=> ?_) (fun a hI=> ?_)
 ·exact nQ
 ·obtain⟨⟩:=a
  have fC:=(k9.1 hb).1
  have lP: ∀ d,v7 c[i]? d=b:=fun d=>by rw [hb];rfl
  have hw:=Bm fC hn
  have fB:ltI (i:Int) (c.length:Int)=true:=dw (by omega)
  have Ly:leI (0:Int) (i:Int)=true:=bk (by omega)
  have sO:ltN i c.length=true:=eD fC
  refine⟨?_,?_,?_,?_⟩
  ·simp [GD,Lr,Lt,Lu,Lv,Jd,jA,LT.nds,allT,Bl,fB,Ly,sO,lP]
  ·simp [GD,Lr,Lt,Lu,Lv,Jd,jA,LT.each,Bl,Wo,hw]
  ·simp only [GD,Lr,Lt,Lu,Lv,Jd,jA,LT.fn,Bl,Wo,Gm,w5,fB,Ly,sO,lP,cond_true,k8]
  ·exact fun _ _=>trivial
 ·obtain⟨⟩:=a
  simp [GD,Lr,Lt,Lu,Lv,Jd,jA,LT.out,Bl]
def gy(b:Int):(Unit)→Nat ⊕ (Unit)
 |_=>(bif(HE b)then(.inl 0)else(.inr ()))
def dK(a:avO)(i:Nat):(Unit)→cm
 |_=>((i:Int),(↑a.length:Int),a)
def uG:cm→Unit
 |(_,_,_)=>()
theorem RO(c:avO) (hn:c.length≤9223372036854775807):
  aA.fin ((0:Int),(↑c.length:Int),c)=true∧aA.res ((0:Int),(↑c.length:Int),c)=((br (gy) 1 c 0 ()).1,(dK c) (br (gy) 1 c 0 ()).2.1 (br (gy) 1 c 0 ()).2.2):=by
 have nQ:=aA.along (dK c) uG (gy) 1 (fun _ _=>True) c () (by trivial) (by simp only [aA,dK];omega) (fun i b a hb hI=> ?_) (fun a hI=> ?_)
 ·exact nQ
 ·obtain⟨⟩:=a
  have fC:=(k9.1 hb).1
  have lP: ∀ d,v7 c[i]? d=b:=fun d=>by rw [hb];rfl
  have hw:=Bm fC hn
  have fB:ltI (i:Int) (c.length:Int)=true:=dw (by omega)
  have Ly:leI (0:Int) (i:Int)=true:=bk (by omega)
  have sO:ltN i c.length=true:=eD fC
  refine⟨?_,?_,?_,?_⟩
  ·simp [kJ,kK,kL,kM,kN,kO,jV,aA,LT.nds,allT,dK,fB,Ly,sO,lP]
  ·simp [kJ,kK,kL,kM,kN,kO,jV,aA,LT.each,dK,uG,hw]
  ·simp only [kJ,kK,kL,kM,kN,kO,jV,aA,LT.fn,dK,uG,gy,w5,fB,Ly,sO,lP,cond_true,k8]
  ·exact fun _ _=>trivial
 ·obtain⟨⟩:=a
  simp [kJ,kK,kL,kM,kN,kO,jV,aA,LT.out,dK]
theorem avA(n:Int)(l:avO)(h:leN l.length 9223372036854775807=true):adS n l=bitsB n l∧adT l=true:=by
 obtain⟨w1,w2⟩:=aoz l (gR.1 h)
 rw [lN (P:=fun v=> !inR v 0 1) (j:=0) (fun v=>by simp only [Gm,aw,QU])]at w2
 have e5:(l.any fun v=> !inR v 0 1)= !l.all fun v=>inR v 0 1:=by simp [List.all_eq_not_any_not]
 rw [e5]at w2
 simp only [adS,adT,w1,w2,allT,bitsB]
 cases (l.all fun v=>inR v 0 1) <;> simp [Nat.beq]
theorem aAo(v:Int):(bif v !=0 then v !=1 else false)= !inR v 0 1:=by
 have:inR v 0 1=(v==0||v==1):=by rw [Bool.eq_iff_iff,ua];simp;omega
 rw [this]
 cases h0:v==0 <;> simp [bne,h0]
theorem auW(n:Int)(l:avO)(h:leN l.length 9223372036854775807=true):acN n l=bitsB n l∧acO n l=true:=by
 obtain⟨w1,w2⟩:=RO l (gR.1 h)
 rw [lN (P:=fun v=> !inR v 0 1) (j:=0) (fun v=>by simp only [gy,HE,aAo])]at w2
 have e5:(l.any fun v=> !inR v 0 1)= !l.all fun v=>inR v 0 1:=by simp [List.all_eq_not_any_not]
 rw [e5]at w2
 have q: ∀ m:Nat,leI 0 (m:Int)=true:=fun m=>bk (by omega)
 have q2:leI 0 (-1)=false:=rfl
 simp only [acN,acO,vL,vM,yA,yB,rg,w1,w2,allT,bitsB,dK]
 cases (l.all fun v=>inR v 0 1) <;> cases ((l.length:Int)==n) <;> simp [Nat.beq,q,q2]
theorem akd(p q:Int):aoV p q p q=min p q:=by rw [axd];cases h:ltI p q <;> simp <;> simp at h <;> omega
theorem akc(p q:Int):aoV p q q p=max p q:=by rw [axd];cases h:ltI p q <;> simp <;> simp at h <;> omega
theorem afU{l:avO}(h:bitsB 1 l=true): ∃ x,l= [x]∧(x=0∨x=1):=by
 obtain⟨h1,h2⟩:=ct.1 h
 match l,h1,h2 with
 | [x],h1,_=>exact⟨x,rfl,h1 x (by simp)⟩
 | [],_,h2=>simp at h2
 |_::_::_,_,h2=>simp at h2;omega
theorem afV{l:avO}(h:bitsB 2 l=true): ∃ x y,l= [x,y]∧(x=0∨x=1)∧(y=0∨y=1):=by
 obtain⟨h1,h2⟩:=ct.1 h
 match l,h1,h2 with
 | [x,y],h1,_=>exact⟨x,y,rfl,h1 x (by simp),h1 y (by simp)⟩
 | [],_,h2=>simp at h2
 | [_],_,h2=>simp at h2
 |_::_::_::_,_,h2=>simp at h2;omega
theorem aqG{k n a b c:Int}{s:avP}{l:avO}(hB:MU k s n=true)(hP:possB k n a b c=true)(hA:bitsB (takesK k) l=true):
  HT k n a b c l=gP k n a b c l∧Fs k n a b c l=kT k n a b c l∧
  Ft k b c l=kU k b c l∧Fu k n a b c l=kV k n a c l∧HU l=true∧nE l=true∧
  possB k n (kT k n a b c l) (kU k b c l) (kV k n a c l)=true:=by
 obtain⟨hk,hn,_⟩:=agM hB
 have hw:IntKind.i64.wrap (n + 1)=n + 1:=aM (by omega) (by omega)
 have hwa:=(ajZ hP hn).1
 have hwa1:IntKind.i64.wrap (a + 1)=a + 1:=aM (by omega) (by omega)
 have hwa2:IntKind.i64.wrap (a - 1)=a - 1:=aM (by omega) (by omega)
 have hm:IntKind.i64.wrap (min (a + 1) n)=min (a + 1) n:=aM (by omega) (by omega)
 have hm2:IntKind.i64.wrap (min n (a + 1))=min n (a + 1):=aM (by omega) (by omega)
 have h01:IntKind.i64.wrap (0 + 1)=1:=rfl
 have n0:IntKind.i64.wrap 0=0:=rfl
 have w1:IntKind.i64.wrap 1=1:=rfl
 have l12:ltI 1 2=true:=rfl
 have hb:=(ajZ hP hn).2.1
 have hc:=(ajZ hP hn).2.2
 rcases kinds hk with rfl | rfl | rfl | rfl | rfl | rfl
 ·obtain⟨x,rfl,hx⟩:=afU hA
  have hp:=hP
  simp [possB,ed,aw]at hp
  rcases hx with rfl | rfl <;> simp only [gQ,KE,KF,Ff,sI,KG,KH,HT,Fs,Ft,Fu,HU,zX,zY,zZ,Bv,Bw,Bx,Bz,mi,uX,xV,BA,BB,Dv,Dw,Dx,Dy,pp,dJ,lv,oM,iy,oN,oO,oP,oQ,nh,gP,kT,kU,kV,nE,kr,lu,ng,oK,oL,rm,rn,rp,rq,lD,possB,ed,aw,allT,akd,akc] <;> simp [hw,hwa1,hwa2,hm,hm2,h01,n0,w1,l12,hp,Bool.cond_eq_ite] <;> (repeat' split) <;> omega
 ·obtain⟨x,rfl,hx⟩:=afU hA
  have hp:=hP
  simp [possB,ed,aw]at hp
  rcases hx with rfl | rfl <;> simp only [gQ,KE,KF,Ff,sI,KG,KH,HT,Fs,Ft,Fu,HU,zX,zY,zZ,Bv,Bw,Bx,Bz,mi,uX,xV,BA,BB,Dv,Dw,Dx,Dy,pp,dJ,lv,oM,iy,oN,oO,oP,oQ,nh,gP,kT,kU,kV,nE,kr,lu,ng,oK,oL,rm,rn,rp,rq,lD,possB,ed,aw,allT,akd,akc] <;> simp [hw,hwa1,hwa2,hm,hm2,h01,n0,w1,l12,hp,Bool.cond_eq_ite] <;> (repeat' split) <;> omega
 ·obtain⟨x,rfl,hx⟩:=afU hA
  have hp:=hP
  simp [possB,ed,aw]at hp
  rcases hx with rfl | rfl <;> simp only [gQ,KE,KF,Ff,sI,KG,KH,HT,Fs,Ft,Fu,HU,zX,zY,zZ,Bv,Bw,Bx,Bz,mi,uX,xV,BA,BB,Dv,Dw,Dx,Dy,pp,dJ,lv,oM,iy,oN,oO,oP,oQ,nh,gP,kT,kU,kV,nE,kr,lu,ng,oK,oL,rm,rn,rp,rq,lD,possB,ed,aw,allT,akd,akc] <;> simp [hw,hwa1,hwa2,hm,hm2,h01,n0,w1,l12,hp,Bool.cond_eq_ite] <;> (repeat' split) <;> omega
 ·obtain⟨x,y,rfl,hx,hy⟩:=afV hA
  have hp:=hP
  simp [possB,ed,aw]at hp
  rcases hx with rfl | rfl <;> rcases hy with rfl | rfl <;> simp only [gQ,KE,KF,Ff,sI,KG,KH,HT,Fs,Ft,Fu,HU,zX,zY,zZ,Bv,Bw,Bx,Bz,mi,uX,xV,BA,BB,Dv,Dw,Dx,Dy,pp,dJ,lv,oM,iy,oN,oO,oP,oQ,nh,gP,kT,kU,kV,nE,kr,lu,ng,oK,oL,rm,rn,rp,rq,lD,possB,ed,aw,allT,akd,akc] <;> simp [hw,hwa1,hwa2,hm,hm2,h01,n0,w1,l12,hp,Bool.cond_eq_ite] <;> (repeat' split) <;> omega
 ·obtain⟨x,y,rfl,hx,hy⟩:=afV hA
  have hp:=hP
  rcases hb with rfl | rfl <;> rcases hc with rfl | rfl <;> rcases hx with rfl | rfl <;> rcases hy with rfl | rfl <;> simp [possB,ed,aw,hw]at hp <;> simp only [gQ,KE,KF,Ff,sI,KG,KH,HT,Fs,Ft,Fu,HU,zX,zY,zZ,Bv,Bw,Bx,Bz,mi,uX,xV,BA,BB,Dv,Dw,Dx,Dy,pp,dJ,lv,oM,iy,oN,oO,oP,oQ,nh,gP,kT,kU,kV,nE,kr,lu,ng,oK,oL,rm,rn,rp,rq,lD,possB,ed,aw,allT,akd,akc] <;> simp [hw,hwa1,hwa2,hm,hm2,h01,n0,w1,l12,hp,Bool.cond_eq_ite] <;> (repeat' split) <;> omega
 ·obtain⟨x,y,rfl,hx,hy⟩:=afV hA
  have hp:=hP
  rcases hb with rfl | rfl <;> rcases hc with rfl | rfl <;> rcases hx with rfl | rfl <;> rcases hy with rfl | rfl <;> simp [possB,ed,aw,hw]at hp <;> simp only [gQ,KE,KF,Ff,sI,KG,KH,HT,Fs,Ft,Fu,HU,zX,zY,zZ,Bv,Bw,Bx,Bz,mi,uX,xV,BA,BB,Dv,Dw,Dx,Dy,pp,dJ,lv,oM,iy,oN,oO,oP,oQ,nh,gP,kT,kU,kV,nE,kr,lu,ng,oK,oL,rm,rn,rp,rq,lD,possB,ed,aw,allT,akd,akc] <;> simp [hw,hwa1,hwa2,hm,hm2,h01,n0,w1,l12,hp,Bool.cond_eq_ite] <;> (repeat' split) <;> omega
def ajd:awh
 | [.one ⟨false,[.ref 0]⟩,.one ⟨false,[.val (.int .i64 a)]⟩],[.row false 2 (.int .i64) b]=>some ⟨aBB (.val (.bool (bitsB a b))),[aBF b],[],[leN b.length 9223372036854775807]⟩
 |_,_=>none
def oU:PF prog:=PF.alt arV ajd (by
 intro args es o h cA;unfold ajd at h;split at h
 ·rename_i a b
  cases h
  have cA:=jQ cA
  have hh:=avA a b cA
  obtain⟨e0,en⟩:=hh
  exact pW rfl (ip en) (by simp only [e0] <;> rfl) rfl rfl
 ·cases h)
def ai3:awh
 | [.one ⟨false,[.ref 0]⟩,.one ⟨false,[.val (.int .i64 a)]⟩],[.row false 2 (.int .i64) b]=>some ⟨aBB (.val (.bool (bitsB a b))),[aBF b],[],[leN b.length 9223372036854775807]⟩
 |_,_=>none
def oT:PF prog:=PF.alt arI ai3 (by
 intro args es o h cA;unfold ai3 at h;split at h
 ·rename_i a b
  cases h
  have cA:=jQ cA
  have hh:=auW a b cA
  obtain⟨e0,en⟩:=hh
  exact pW rfl (ip en) (by simp only [e0] <;> rfl) rfl rfl
 ·cases h)
def aze(m:Nat)(rs:aup):Bool:=leN rs.length m&&rs.all fun x=>leN x.length m
theorem apq{m:Nat}{rs:aup}:aze m rs=true↔rs.length≤m∧ ∀ x∈rs,x.length≤m:=by
 simp only [aze,q9,gR,List.all_eq_true]
section
variable (a b c d e:Int)(f:alv)
def qT:Bool:=bif d==1 then d==1 else bif d==2 then d==2 else d==3
def qU:Bool:=bif d==5 then d==5 else d==6
def za:Bool:=bif d==8 then d==8 else d==9
def Qm:Int:=bif qT d then(0:Int)else bif d==4 then(1:Int)else bif qU d then(2:Int)else bif d==7 then fT ((v7 f[v5 e]? ((0:Int),ByteArray.empty,(0:Int))).1)else bif za d then(1:Int)else(0:Int)
def VY:Int:=bif qT d then(1:Int)else bif d==4 then(1:Int)else bif qU d then(1:Int)else bif d==7 then(1:Int)else bif za d then(0:Int)else(0:Int)
def abG:Bool:=allT [qT d||(d==4||(qU d||(!d==7||leI 0 e))),qT d||(d==4||(qU d||(!d==7||ltI e (↑f.length:Int)))),qT d||(d==4||(qU d||(!d==7||ltN e.toNat f.length)))]
def YY:Bool:=bif d==1 then aw e 0 1 else bif bif d==2 then d==2 else d==10 then aw e 0 (v8 .i64 (a - (1:Int)))else bif bif d==3 then d==3 else bif d==8 then d==8 else d==11 then aw e 0 (v8 .i64 (b - (1:Int)))else bif bif d==4 then d==4 else bif d==5 then d==5 else d==6 then e==0 else bif d==7 then aw e 0 (v8 .i64 ((↑f.length:Int) - (1:Int)))else bif d==9 then aw e 0 (v8 .i64 (c - (1:Int)))else false
end
def Ym(a b c:Int)(d:alv)(e:auQ):Bool:=bif bif bif bif !aw a 0 20 then true else !aw b 0 20 then true else !aw c 0 20 then true else ltI 2000 (↑d.length:Int)then true else ltI 2000 (↑e.length:Int)
def aqa(a:Int)(b:avP)(c:Int):Bool:= !MU a b c
def ahe:awh
 | [.one ⟨true,[.val (.int .i64 a),.val (.string b),.val (.int .i64 c)]⟩],[]=>some ⟨aBB (.val (.bool (aqa a b c))),[],[],[]⟩
 |_,_=>none
def aqi:PF prog:=PF.ofG prog [ajL] [] aT 116 f116 func116 (fun c _=>LOk.nil c) ahe (by
 intro _ _ _ h;unfold ahe at h;split at h<;>cases h;kernel_rfl)
def uW(a:Int):Int:=bif bif a==1 then a==1 else bif a==2 then a==2 else a==3 then(0:Int)else bif bif a==4 then a==4 else bif a==7 then a==7 else bif a==8 then a==8 else a==9 then(1:Int)else(2:Int)
def afF:awh
 | [.one ⟨false,[.val (.int .i64 a)]⟩],[]=>some ⟨aBC (uW a),[],[],[]⟩
 |_,_=>none
def Ny:PF prog:=PF.ofG prog [] [] aT 133 f133 func133 (fun c _=>LOk.nil c) afF (by
 intro _ _ _ h;unfold afF at h;split at h<;>cases h;kernel_rfl)
section
variable (a b:Int)(c:alv)
def lc:Bool:=bif a==1 then a==1 else bif a==2 then a==2 else a==3
def ld:Bool:=bif a==5 then a==5 else a==6
def Fc:Bool:=bif a==8 then a==8 else a==9
def bp:Int:=bif lc a then(0:Int)else bif a==4 then(1:Int)else bif ld a then(2:Int)else bif a==7 then uW ((v7 c[v5 b]? ((0:Int),ByteArray.empty,(0:Int))).1)else bif Fc a then(1:Int)else(0:Int)
def cG:Int:=bif lc a then(1:Int)else bif a==4 then(1:Int)else bif ld a then(1:Int)else bif a==7 then(1:Int)else bif Fc a then(0:Int)else(0:Int)
def lQ:Bool:=allT [lc a||(a==4||(ld a||(!a==7||leI 0 b))),lc a||(a==4||(ld a||(!a==7||ltI b (↑c.length:Int)))),lc a||(a==4||(ld a||(!a==7||ltN b.toNat c.length)))]
end
def Fj:awh
 | [.one ⟨true,[.val (.int .i64 _x0),.val (.int .i64 _x1),.val (.int .i64 _x2),.ref 0,.ref 1]⟩,.one ⟨true,[.val (.int .i64 a),.val (.int .i64 b)]⟩],[.row false 122 (.pair (.int .i64) (.pair (.str) (.int .i64))) c,.row false 83 (.pair (.int .i64) (.int .i64)) d]=>some ⟨.tup [⟨false,[axb (bp a b c)]⟩,⟨false,[axb (cG a)]⟩],[aBG c,aBO d],[],[lQ a b c]⟩
 |_,_=>none
def eo:PF prog:=PF.ofG prog [Ny] [] aT 93 f93 func93 (fun c _=>LOk.nil c) Fj (by
 intro _ _ _ h;unfold Fj at h;split at h<;>cases h;kernel_rfl)
def Nk(a:alv):Int:=(↑a.length:Int)
def WV:awh
 | [.one ⟨false,[.ref 0]⟩],[.row false 122 (.pair (.int .i64) (.pair (.str) (.int .i64))) a]=>some ⟨aBC (Nk a),[aBG a],[],[]⟩
 |_,_=>none
def Nz:PF prog:=PF.ofG prog [] [] aT 191 f191 func191 (fun c _=>LOk.nil c) WV (by
 intro _ _ _ h;unfold WV at h;split at h<;>cases h;kernel_rfl)
def jL(a b c d:Int)(e:alv):Int:=bif d==1 then(2:Int)else bif bif d==2 then d==2 else d==10 then a else bif bif d==3 then d==3 else bif d==8 then d==8 else d==11 then b else bif bif d==4 then d==4 else bif d==5 then d==5 else d==6 then(1:Int)else bif d==7 then Nk e else bif d==9 then c else(0:Int)
def GK:awh
 | [.one ⟨true,[.val (.int .i64 a),.val (.int .i64 b),.val (.int .i64 c),.ref 0,.ref 1]⟩,.one ⟨false,[.val (.int .i64 d)]⟩],[.row false 122 (.pair (.int .i64) (.pair (.str) (.int .i64))) e,.row false 83 (.pair (.int .i64) (.int .i64)) f]=>some ⟨aBC (jL a b c d e),[aBG e,aBO f],[],[]⟩
 |_,_=>none
def jO:PF prog:=PF.ofG prog (T3z [Nz]) [] aT 166 f166 func166 (fun c _=>LOk.nil c) GK (by
 intro _ _ _ h;unfold GK at h;split at h<;>cases h;kernel_rfl)
abbrev bU:=Int×Int×Int×List (Int×Int)×Int×Int×Int×List Int×List (Int×(avP×Int))
section
variable (a b c:Int)(d:auQ)(e f g:Int)(i:avO)(j:ajz)
def aD:Int×Int:=v7 d[v5 a]? ((0:Int),(0:Int))
def iA:Int:=bp ((aD a d).1) ((aD a d).2) j
def dd:Int:=v8 .i64 (c + v8 .i64 (cG ((aD a d).1) - iA a d j))
def je:Bool:=ltI a b
def nG:Bool:=leI 0 a
def nH:Bool:=ltI a (↑d.length:Int)
def nI:Bool:=ltN a.toNat d.length
def jf:Bool:=bif ltI ((aD a d).2) 0 then true else leI (jL e f g ((aD a d).1) j) ((aD a d).2)
def nJ:Bool:=lQ ((aD a d).1) ((aD a d).2) j
def nK:Bool:=ltI c (iA a d j)
def nL:Bool:=ltI 40 (dd a c d j)
def nM:Bool:=leN (v6 i + v6 [dd a c d j]) 9223372036854775807
def nN:Bool:=leN ((v6 i + v6 [dd a c d j]) * 8) 140737488355328
def nj:Int:=v8 .i64 (a + (1:Int))
def nk:Int:=dd a c d j
def np:avO:=i++ [dd a c d j]
end
def Ol:bU→List (Nat×SV)
 |(a,b,c,_,_,_,_,_,_)=> [(13,(aBC a)),(12,(aBC b)),(11,(aBB (.ref 0))),(1,(aBB (.ptr 1 0))),(5,(aBC c)),(4,(aBB (.ref 2)))]
def Oi:bU→List (Nat×Entry)
 |(_,_,_,a,b,c,d,e,f)=> [(0,(aBO a)),(1,(.box 27 [axb b,axb c,axb d,.ref 3,.ref 0])),(3,(aBG f)),(2,(aBE e))]
def Ou:Nat→bU→List (Nat×SV)
 |0,(_,_,_,_,_,_,_,_,_)=> [(2,(aBB (.ref 4))),(3,(aBB (.val (.bool false))))]
 |1,(_,_,_,_,_,_,_,_,_)=> [(2,(aBB (.ref 4))),(3,(aBB (.val (.bool false))))]
 |2,(_,_,_,_,_,_,_,_,_)=> [(2,(aBB (.ref 4))),(3,(aBB (.val (.bool false))))]
 |_,(_,_,a,_,_,_,_,_,_)=> [(5,(aBC a)),(4,(aBB (.ref 2)))]
def Oo:Nat→bU→List (Nat×Entry)
 |0,(_,_,_,a,b,c,d,e,f)=> [(0,(aBO a)),(1,(.box 27 [axb b,axb c,axb d,.ref 3,.ref 0])),(2,(aBE e)),(3,(aBG f)),(4,(aBE []))]
 |1,(_,_,_,a,b,c,d,e,f)=> [(0,(aBO a)),(1,(.box 27 [axb b,axb c,axb d,.ref 3,.ref 0])),(2,(aBE e)),(3,(aBG f)),(4,(aBE []))]
 |2,(_,_,_,a,b,c,d,e,f)=> [(0,(aBO a)),(1,(.box 27 [axb b,axb c,axb d,.ref 3,.ref 0])),(2,(aBE e)),(3,(aBG f)),(4,(aBE []))]
 |_,(_,_,_,a,b,c,d,e,f)=> [(0,(aBO a)),(1,(.box 27 [axb b,axb c,axb d,.ref 3,.ref 0])),(2,(aBE e)),(3,(aBG f))]
def iP:bU→LT bU
 |(a,b,c,d,e,f,g,i,j)=> .ite (je a b) (.need [nG a,nH a d,nI a d] (.ite (jf a d e f g j) (.ext 0 [(0,0),(1,1),(2,2),(3,3),(4,1152)]) (.need [nJ a d j] (.ite (nK a c d j) (.ext 1 [(0,0),(1,1),(2,2),(3,3),(4,1856)]) (.ite (nL a c d j) (.ext 2 [(0,0),(1,1),(2,2),(3,3),(4,2368)]) (.need [nM a c d i j,nN a c d i j] (.nrm ((nj a),b,nk a c d j,d,e,f,g,np a c d i j,j) [(0,0),(1,1),(2,2560),(3,3)]))))))) (.ext 3 [(0,0),(1,1),(2,2),(3,3)])
def tP(s:St):Option bU:=do
 let some ⟨none,.one ⟨false,[.val (.int .i64 a)]⟩⟩:=s.look 13|none
 let some ⟨none,.one ⟨false,[.val (.int .i64 b)]⟩⟩:=s.look 12|none
 let some ⟨none,.one ⟨false,[.ref 1]⟩⟩:=s.look 11|none
 let some ⟨none,.one ⟨false,[.ptr 192 0]⟩⟩:=s.look 1|none
 let some ⟨none,.one ⟨false,[.val (.int .i64 c)]⟩⟩:=s.look 5|none
 let some ⟨none,.one ⟨false,[.ref 384]⟩⟩:=s.look 4|none
 let some (.row false 83 (.pair (.int .i64) (.int .i64)) d):=s.ent 1|none
 let some (.box 27 [.val (.int .i64 e),.val (.int .i64 f),.val (.int .i64 g),.ref 0,.ref 1]):=s.ent 192|none
 let some (.row false 122 (.pair (.int .i64) (.pair .str (.int .i64))) j):=s.ent 0|none
 let some (.row true 2 (.int .i64) i):=s.ent 384|none
 some (a,b,c,d,e,f,g,i,j)
def aj:Lp bU where
 h:=⟨[14,15,16,7,17,18,19,20,21,22,23,24,25,26,27,28,2,3,30,31,32,29,33,34,8,9,35,36,37,38,39,40,41,42,5,43,44,45,46,47,48,4,49,13],[0,1,3],[2],[4]⟩
 JL:=Ol
 JE:=Oi
 XL:=Ou
 XE:=Oo
 q:=fun j=>match j with | 0=> .ret | 1=> .ret | 2=> .ret | _=> .exit 0
 tags:= [0,1,2,3]
 lt:=iP
 fuel:=fun(a,b,c,d,e,f,g,i,k)=>a.natAbs + b.natAbs + c.natAbs + d.length + e.natAbs + f.natAbs + g.natAbs + i.length + k.length
 fix:=fun(_,b,_,d,e,f,g,_,k) (a,_,c,_,_,_,_,i,_)=>(a,b,c,d,e,f,g,i,k)
 σ:= [(0,1),(1,192),(3,0),(2,384)]
 rd:=tP
theorem Mc:LoopOk prog (fun k=>Nat.blt k Tryz.f118.ntmps) aj.F (bj f118 0):=by
 refine Lp.ok (tbl:= (T3z [eo,jO])) (lf:= []) aT aj (by kernel_rfl) (LOk.nil _) (fun _=>rfl) (fun j _=>by unfold aj;match j with | 0=>rfl | 1=>rfl | 2=>rfl | _ + 3=>rfl) ?_ ?_ ?_ ?_ (fun _=>rfl) ?_
 ·intro _;kernel_rfl
 ·intro _;kernel_rfl
 ·intro s x h
  have h:tP s=some x:=h
  unfold tP at h
  repeat' split at h
  all_goals cases h
  constructor<;>repeat(first|refine ab ‹_› rfl ?_|refine aa rfl ‹_› rfl ?_|rfl)
 ·intro _;kernel_rfl
 ·intro _ _;exact(And.intro (And.intro trivial (And.intro trivial (And.intro trivial rfl))) trivial)
section
variable (a b c:Int)(d:alv)(e:auQ)
def gz:Int×Int×Int×auQ×Int×Int×Int×avO×alv:=((0:Int),(↑e.length:Int),(0:Int),e,a,b,c,[],d)
def vk:Bool:=Nat.beq ((Lp.res aj (gz a b c d e)).1) 0
def vm:Bool:=Nat.beq ((Lp.res aj (gz a b c d e)).1) 1
def vn:Bool:=Nat.beq ((Lp.res aj (gz a b c d e)).1) 2
def vo:Int×auQ×Int×Int×Int×avO×alv:=(Lp.res aj (gz a b c d e)).2.2.2
def qr:Bool:=bif vk a b c d e then false else bif vm a b c d e then false else bif vn a b c d e then false else (vo a b c d e).1==0
def wn:avO:=bif vk a b c d e then []else bif vm a b c d e then []else bif vn a b c d e then []else ((vo a b c d e).2.2.2.2.2).1
def qs:Bool:=allT [Lp.fin aj (gz a b c d e)]
end
def ET:awh
 | [.one ⟨true,[.val (.int .i64 a),.val (.int .i64 b),.val (.int .i64 c),.ref 0,.ref 1]⟩],[.row false 122 (.pair (.int .i64) (.pair (.str) (.int .i64))) d,.row false 83 (.pair (.int .i64) (.int .i64)) e]=>some ⟨.tup [⟨false,[.ref 2]⟩,⟨false,[.val (.bool (qr a b c d e))]⟩],[aBG d,aBO e],[aBE (wn a b c d e)],[qs a b c d e]⟩
 |_,_=>none
def ww:PF prog:=PF.ofG prog (T3z [eo,jO]) [aj.F] aT 118 f118 func118 (LOk.fnT (l:= [bj f118 0]) (by kernel_rfl) (.cons Mc (.nil _))) ET (by
 intro _ _ _ h;unfold ET at h;split at h<;>cases h;kernel_rfl)
def QT(a:Int)(b:avP)(c:Int):Bool:= !MU a b c
def Zf:awh
 | [.one ⟨true,[.val (.int .i64 a),.val (.string b),.val (.int .i64 c)]⟩],[]=>some ⟨aBB (.val (.bool (QT a b c))),[],[],[]⟩
 |_,_=>none
def Zk:PF prog:=PF.ofG prog [ajL] [] aT 116 f116 func116 (fun c _=>LOk.nil c) Zf (by
 intro _ _ _ h;unfold Zf at h;split at h<;>cases h;kernel_rfl)
abbrev cQ:=Int×Int×List (Int×(avP×Int))
section
variable (a b:Int)(c:ajz)
def fk:Int×avP×Int:=v7 c[v5 a]? ((0:Int),ByteArray.empty,(0:Int))
def mI:Bool:=ltI a b
def mJ:Bool:=leI 0 a
def mK:Bool:=ltI a (↑c.length:Int)
def mL:Bool:=ltN a.toNat c.length
def mM:Bool:=QT ((fk a c).1) (((fk a c).2).1) ((fk a c).2.2)
def mN:Int:=v8 .i64 (a + (1:Int))
end
def SJ:cQ→List (Nat×SV)
 |(a,b,_)=> [(8,(aBC a)),(7,(aBC b)),(1,(aBB (.val (.func (.func 116) ⟨[]⟩ ⟨[]⟩)))),(0,(aBB (.ref 0)))]
def SD:cQ→List (Nat×Entry)
 |(_,_,a)=> [(0,(aBG a))]
def SZ:Nat→cQ→List (Nat×SV)
 |0,(a,_,_)=> [(4,(aBC a))]
 |_,_=>[]
def lV:cQ→LT cQ
 |(a,b,c)=> .ite (mI a b) (.need [mJ a,mK a c,mL a c] (.ite (mM a c) (.ext 0 [(0,0)]) (.nrm ((mN a),b,c) [(0,0)]))) (.ext 1 [(0,0)])
def xf(s:St):Option cQ:=do
 let some ⟨none,.one ⟨false,[.val (.int .i64 a)]⟩⟩:=s.look 8|none
 let some ⟨none,.one ⟨false,[.val (.int .i64 b)]⟩⟩:=s.look 7|none
 let some ⟨none,.one ⟨false,[.val (.func (.func 116) ⟨[]⟩ ⟨[]⟩)]⟩⟩:=s.look 1|none
 let some ⟨none,.one ⟨false,[.ref 0]⟩⟩:=s.look 0|none
 let some (.row false 122 (.pair (.int .i64) (.pair .str (.int .i64))) c):=s.ent 0|none
 some (a,b,c)
def aQ:Lp cQ where
 h:=⟨[9,10,5,11,12,13,14,15,16,17,4,18,8],[0],[],[]⟩
 JL:=SJ
 JE:=SD
 XL:=SZ
 XE:=fun _=>SD
 q:=fun j=>match j with | 0=> .ret | _=> .exit 0
 tags:= [0,1]
 lt:=lV
 fuel:=fun(a,b,c)=>a.natAbs + b.natAbs + c.length
 fix:=fun(_,b,c) (a,_,_)=>(a,b,c)
 σ:= [(0,0)]
 rd:=xf
theorem QZ:LoopOk prog (fun k=>Nat.blt k Tryz.f164.ntmps) aQ.F (bj f164 0):=by
 refine Lp.ok (tbl:= [Zk]) (lf:= []) aT aQ (by kernel_rfl) (LOk.nil _) (fun _=>rfl) (fun j _=>by unfold aQ;match j with | 0=>rfl | _ + 1=>rfl) ?_ ?_ ?_ ?_ (fun _=>rfl) ?_
 ·intro _;kernel_rfl
 ·intro _;kernel_rfl
 ·intro s x h
  have h:xf s=some x:=h
  unfold xf at h
  repeat' split at h
  all_goals cases h
  constructor<;>repeat(first|refine ab ‹_› rfl ?_|refine aa rfl ‹_› rfl ?_|rfl)
 ·intro _;kernel_rfl
 ·intro _ _;exact(And.intro (And.intro trivial rfl) trivial)
section
variable (a:alv)
def tz:Int×Int×alv:=((0:Int),(↑a.length:Int),a)
def Bg:Int:=bif Nat.beq ((Lp.res aQ (tz a)).1) 0 then ((Lp.res aQ (tz a)).2).1else(-1:Int)
def Bh:Bool:=allT [Lp.fin aQ (tz a)]
end
def Ij:awh
 | [.one ⟨false,[.ref 0]⟩,.one ⟨false,[.val (.func (.func 116) ⟨[]⟩ ⟨[]⟩)]⟩],[.row false 122 (.pair (.int .i64) (.pair .str (.int .i64))) a]=>some ⟨aBC (Bg a),[aBG a],[],[Bh a]⟩
 |_,_=>none
def AX:PF prog:=PF.ofG prog [Zk] [aQ.F] aT 164 f164 func164 (LOk.fnT (l:= [bj f164 0]) (by kernel_rfl) (.cons QZ (.nil _))) Ij (by
 intro _ _ _ h;unfold Ij at h;split at h<;>cases h;kernel_rfl)
def rT(a:alv):Bool:=leI 0 (Bg a)
def yq(a:alv):Bool:=allT [Bh a]
def Gi:awh
 | [.one ⟨false,[.ref 0]⟩,.one ⟨false,[.val (.func (.func 116) ⟨[]⟩ ⟨[]⟩)]⟩],[.row false 122 (.pair (.int .i64) (.pair .str (.int .i64))) a]=>some ⟨aBB (.val (.bool (rT a))),[aBG a],[],[yq a]⟩
 |_,_=>none
def ya:PF prog:=PF.ofG prog (T3z [AX]) [] aT 115 f115 func115 (fun c _=>LOk.nil c) Gi (by
 intro _ _ _ h;unfold Gi at h;split at h<;>cases h;kernel_rfl)
section
variable (a b c:Int)(d:alv)(e:auQ)
def Tf:Bool:=bif bif bif bif !rH a 0 20 then true else !rH b 0 20 then true else !rH c 0 20 then true else ltI 2000 (↑d.length:Int)then true else ltI 2000 (↑e.length:Int)
def afb:Bool:=bif Tf a b c d e then false else bif rT d then false else qr a b c d e
def afc:Bool:=allT [Tf a b c d e||yq d,Tf a b c d e||(rT d||qs a b c d e)]
end
def ak7:awh
 | [.one ⟨true,[.val (.int .i64 a),.val (.int .i64 b),.val (.int .i64 c),.ref 0,.ref 1]⟩],[.row false 122 (.pair (.int .i64) (.pair (.str) (.int .i64))) d,.row false 83 (.pair (.int .i64) (.int .i64)) e]=>some ⟨aBB (.val (.bool (afb a b c d e))),[aBG d,aBO e],[],[afc a b c d e]⟩
 |_,_=>none
def asy:PF prog:=PF.ofG prog (T3z [aah,aqi,ww,ya]) [] aT 65 f65 func65 (fun c _=>LOk.nil c) ak7 (by
 intro _ _ _ h;unfold ak7 at h;split at h<;>cases h;kernel_rfl)
abbrev bV:=Int×Int×List (Int×(avP×Int))×List Int×List (Int×(Int×Int))
section
variable (a b:Int)(c:ajz)(d:asY)
def fq:Int×avP×Int:=v7 c[v5 a]? ((0:Int),ByteArray.empty,(0:Int))
def ek:Int×Int×Int:=v7 d[v5 a]? ((0:Int),(0:Int),(0:Int))
def jg:Bool:=ltI a b
def fD:Bool:=leI 0 a
def jh:Bool:=ltI a (↑c.length:Int)
def ji:Bool:=ltN a.toNat c.length
def jj:Bool:=ltI a (↑d.length:Int)
def jk:Bool:=ltN a.toNat d.length
def jl:Bool:= !Gq ((fq a c).1) ((fq a c).2.2) ((ek a d).1) (((ek a d).2).1) ((ek a d).2.2)
def jm:Int:=v8 .i64 (a + (1:Int))
end
def Om:bV→List (Nat×SV)
 |(a,b,_,_,_)=> [(24,(aBC a)),(23,(aBC b)),(22,(aBB (.ref 0))),(3,(aBB (.ptr 1 0)))]
def Oj:bV→List (Nat×Entry)
 |(_,_,a,b,c)=> [(0,(aBG a)),(1,(.box 50 [.ref 2,.ref 3])),(2,(aBF b)),(3,(aBN c))]
def Ov:Nat→bV→List (Nat×SV)
 |0,(_,_,_,_,_)=> [(6,(aBB (.val (.bool false))))]
 |_,_=>[]
def iQ:bV→LT bV
 |(a,b,c,d,e)=> .ite (jg a b) (.need [fD a,jh a c,ji a c] (.need [fD a,jj a e,jk a e] (.ite (jl a c e) (.ext 0 [(0,0),(1,1),(2,2),(3,3)]) (.nrm ((jm a),b,c,d,e) [(0,0),(1,1),(2,2),(3,3)])))) (.ext 1 [(0,0),(1,1),(2,2),(3,3)])
def tQ(s:St):Option bV:=do
 let some ⟨none,.one ⟨false,[.val (.int .i64 a)]⟩⟩:=s.look 24|none
 let some ⟨none,.one ⟨false,[.val (.int .i64 b)]⟩⟩:=s.look 23|none
 let some ⟨none,.one ⟨false,[.ref 2]⟩⟩:=s.look 22|none
 let some ⟨none,.one ⟨false,[.ptr 256 0]⟩⟩:=s.look 3|none
 let some (.row false 122 (.pair (.int .i64) (.pair .str (.int .i64))) c):=s.ent 2|none
 let some (.box 50 [.ref 0,.ref 1]):=s.ent 256|none
 let some (.row false 2 (.int .i64) d):=s.ent 0|none
 let some (.row false 109 (.pair (.int .i64) (.pair (.int .i64) (.int .i64))) e):=s.ent 1|none
 some (a,b,c,d,e)
def aF:Lp bV where
 h:=⟨[25,26,27,28,8,7,29,30,31,32,33,34,35,36,6,37,24],[0,1,2,3],[],[]⟩
 JL:=Om
 JE:=Oj
 XL:=Ov
 XE:=fun _=>Oj
 q:=fun j=>match j with | 0=> .ret | _=> .exit 0
 tags:= [0,1]
 lt:=iQ
 fuel:=fun(a,b,c,d,e)=>a.natAbs + b.natAbs + c.length + d.length + e.length
 fix:=fun(_,b,c,d,e) (a,_,_,_,_)=>(a,b,c,d,e)
 σ:= [(0,2),(1,256),(2,0),(3,1)]
 rd:=tQ
theorem Md:LoopOk prog (fun k=>Nat.blt k Tryz.f69.ntmps) aF.F (bj f69 0):=by
 refine Lp.ok (tbl:= (T3z [oT,aev])) (lf:= []) aT aF (by kernel_rfl) (LOk.nil _) (fun _=>rfl) (fun j _=>by unfold aF;match j with | 0=>rfl | _ + 1=>rfl) ?_ ?_ ?_ ?_ (fun _=>rfl) ?_
 ·intro _;kernel_rfl
 ·intro _;kernel_rfl
 ·intro s x h
  have h:tQ s=some x:=h
  unfold tQ at h
  repeat' split at h
  all_goals cases h
  constructor<;>repeat(first|refine ab ‹_› rfl ?_|refine aa rfl ‹_› rfl ?_|rfl)
 ·intro _;kernel_rfl
 ·intro _ _;exact(And.intro (And.intro trivial rfl) trivial)
section
variable (a:Int)(b:avO)(c:asZ)(d:alv)
def gA:Bool:=bif !bitsB a b then true else(↑c.length:Int)!=(↑d.length:Int)
def vp:Int×Int×alv×avO×asZ:=((0:Int),(↑d.length:Int),d,b,c)
def qt:Bool:=bif gA a b c d then false else bif Nat.beq ((Lp.res aF (vp b c d)).1) 0 then false else true
def qu:Bool:=allT [leN b.length (9223372036854775807:Nat),gA a b c d||Lp.fin aF (vp b c d)]
end
def EV:awh
 | [.one ⟨true,[.ref 0,.ref 1]⟩,.one ⟨false,[.val (.int .i64 a)]⟩,.one ⟨false,[.ref 2]⟩],[.row false 2 (.int .i64) b,.row false 109 (.pair (.int .i64) (.pair (.int .i64) (.int .i64))) c,.row false 122 (.pair (.int .i64) (.pair (.str) (.int .i64))) d]=>some ⟨aBB (.val (.bool (qt a b c d))),[aBF b,aBN c,aBG d],[],[qu a b c d]⟩
 |_,_=>none
def Sf:PF prog:=PF.ofG prog (T3z [oT,aev]) [aF.F] aT 69 f69 func69 (LOk.fnT (l:= [bj f69 0]) (by kernel_rfl) (.cons Md (.nil _))) EV (by
 intro _ _ _ h;unfold EV at h;split at h<;>cases h;kernel_rfl)
def yh(a:asZ):Bool:=allT [ltN 0 a.length,false||leN (0 + v6 a) 9223372036854775807,false||leN ((0 + v6 a) * 24) 140737488355328]
def MJ:awh
 | [.one ⟨false,[.ref 0]⟩],[.row false 109 (.pair (.int .i64) (.pair (.int .i64) (.int .i64))) a]=>some ⟨aBB (.ref 1),[aBN a],[aBK a],[yh a]⟩
 |_,_=>none
def ZN:PF prog:=PF.ofG prog [] [] aT 89 f89 func89 (fun c _=>LOk.nil c) MJ (by
 intro _ _ _ h;unfold MJ at h;split at h<;>cases h;kernel_rfl)
abbrev BS:=Int×Int×Int
def Vu(k n:Int)(l:avO)(s:BS):BS:=(kT k n s.1 s.2.1 s.2.2 l,kU k s.2.1 s.2.2 l,kV k n s.1 s.2.2 l)
def avI(k n:Int)(l:avO)(s:BS):Int:=gP k n s.1 s.2.1 s.2.2 l
theorem ave{k n a b c:Int}{s:avP}{l:avO}(hB:MU k s n=true)(hP:possB k n a b c=true)(hA:bitsB (takesK k) l=true):
  (Fs k n a b c l,Ft k b c l,Fu k n a b c l)=Vu k n l (a,b,c)∧possB k n (Vu k n l (a,b,c)).1 (Vu k n l (a,b,c)).2.1 (Vu k n l (a,b,c)).2.2=true:=by
 obtain⟨_,e1,e2,e3,_,_,e6⟩:=aqG hB hP hA
 exact⟨by rw [e1,e2,e3];rfl,e6⟩
theorem Lp.inv{X:Type}(p:Lp X)(I Q:Nat→X→Prop)
  (hs: ∀ k x,I (k + 1) x→(∃ j,(p.lt x).out=some (.inl j)∧Q j x)∨ ∃ y,(p.lt x).out=some (.inr y)∧I k y)
  (he: ∀ x,I 0 x→ ∃ j,(p.lt x).out=some (.inl j)∧Q j x) (N:Nat) (x:X) (hN:N≤999) (h:I N x):
  p.fin x=true∧ ∃ j y,p.res x=(j,y)∧Q j y:=by
 have nQ: ∀ (k:Nat) (x:X),I k x→ ∃ j y,Vy p.lt (k + 1) x=some (j,y)∧Q j y:=by
  intro k
  induction k with
  |zero=>
   intro x h
   obtain⟨j,h1,h2⟩:=he x h
   exact⟨j,x,aaO _ h1,h2⟩
  |succ k ih=>
   intro x h
   rcases hs k x h with⟨j,h1,h2⟩ | ⟨y,h1,h2⟩
   ·exact⟨j,x,aaO _ h1,h2⟩
   ·obtain⟨j,z,h3,h4⟩:=ih y h2
    exact⟨j,z,by rw [ach _ h1];exact h3,h4⟩
 obtain⟨j,y,h1,h2⟩:=nQ N x h
 obtain⟨r1,r2⟩:=p.run h1 (ams (by omega))
 exact⟨r1,j,y,r2,h2⟩
abbrev TM:=Int×avP×Int
def ayx(xs ys:asZ):Bool:=decide (xs=ys)
theorem axC(xs:asZ):ayx xs xs=true:=by simp [ayx]
theorem axA(xs:asZ)(h:(leN 1 xs.length&&leN xs.length 1048576)=true):yh xs=true:=by
 simp only [q9,gR]at h
 simp [yh,allT]
 omega
def ans:awh
 | [.one ⟨false,[.val (.slice none 0 0)]⟩],[]=>some ⟨aBB (.ref 0),[],[aBU []],[true]⟩
 |_,_=>none
def at9:PF prog:=PF.ofG prog [PF.raw prog] [] aT 89 f89 func89 (fun c _=>LOk.nil c) ans (by
 intro _ _ _ h;unfold ans at h;split at h<;>cases h;kernel_rfl)
def anr:awh
 | [.one ⟨false,[.val (.slice (some _) 0 _)]⟩],[]=>some ⟨aBB (.ref 0),[],[aBU []],[true]⟩
 |_,_=>none
def at8:PF prog:=PF.ofG prog [] [] aT 89 f89 func89 (fun c _=>LOk.nil c) anr (by
 intro _ _ _ h;unfold anr at h;split at h<;>cases h;kernel_rfl)
def MO:awh
 | [.one ⟨false,[.ref 0]⟩],[.row false 109 (.pair (.int .i64) (.pair (.int .i64) (.int .i64))) a]=>some ⟨aBB (.ref 1),[aBW a],[aBU a],[leN a.length 1048576]⟩
 |_,_=>none
def ow:PF prog where
 k:=89
 F:=MO
 ok:=by
  intro args es o h cA mem ρ w hp
  unfold MO at h
  split at h
  ·rename_i a
   cases h
   have hl:=cA _ (qqw.2 rfl)
   cases a with
   |nil=>
    exact(ayl at9 at8 rfl rfl rfl (fun _ _=>rfl) (by simp) (by simp) hp).mono fun en w' ⟨ρ',h1,h2,h3⟩=>⟨ρ',h1,h2,rfl,(by intro v hv;rw [qqw.1 hv];rfl),h3⟩
   |cons x xs=>exact ZN.ok _ _ ⟨_,_,_,[yh (x::xs)]⟩ rfl (fun b hb=>by rw [qqw.1 hb];exact axA (x::xs) ((q9 _ _).mpr ⟨bx (Nat.succ_pos _),hl⟩)) mem ρ w hp
  ·cases h
abbrev IN:=Int×Int
abbrev BS3:=Int×Int×Int
def tkI(bs:List TM)(x:IN):Int:=Qm x.1 x.2 bs
def gvI(x:IN):Int:=VY x.1
def Zz(i v o:Int)(bs:List TM)(x:IN):Bool:=YY i v o x.1 x.2 bs
theorem azf(k:Int):0≤fT k∧fT k≤2:=by
 unfold fT
 generalize (bif k==1 then k==1 else bif k==2 then k==2 else k==3)=b1
 generalize (bif k==4 then k==4 else bif k==7 then k==7 else bif k==8 then k==8 else k==9)=b2
 cases b1 <;> cases b2 <;> decide
theorem ang(bs:List TM)(x:IN):0≤tkI bs x∧tkI bs x≤2:=by
 have h:=azf ((v7 bs[v5 x.2]? ((0:Int),ByteArray.empty,(0:Int))).1)
 unfold tkI Qm
 generalize qT x.1=b1
 generalize qU x.1=b2
 generalize za x.1=b3
 generalize (x.1==4)=b4
 generalize (x.1==7)=b5
 cases b1 <;> cases b4 <;> cases b2 <;> cases b5 <;> cases b3 <;> simp only [cond_true,cond_false] <;> first | exact h | decide
theorem arg(x:IN):0≤gvI x∧gvI x≤1:=by
 unfold gvI VY
 generalize qT x.1=b1
 generalize qU x.1=b2
 generalize za x.1=b3
 generalize (x.1==4)=b4
 generalize (x.1==7)=b5
 cases b1 <;> cases b4 <;> cases b2 <;> cases b5 <;> cases b3 <;> decide
theorem ayC{i v o:Int}{bs:List TM}{x:IN}(hl:bs.length≤2000)(h:Zz i v o bs x=true):abG x.1 x.2 bs=true:=by
 by_cases h7:x.1=7
 ·simp [Zz,YY,h7,aw,Bool.cond_eq_ite]at h
  have hw:IntKind.i64.wrap ((bs.length:Int) - 1)=bs.length - 1:=aM (by omega) (by omega)
  rw [hw]at h
  have h1:leI 0 x.2=true:=bk (by omega)
  have h2:ltI x.2 (bs.length:Int)=true:=dw (by omega)
  have h3:ltN x.2.toNat bs.length=true:=eD (by omega)
  simp [abG,allT,h1,h2,h3]
 ·simp [abG,allT,h7]
theorem avd{i v o:Int}{bs:List TM}{x:IN}(hi:0≤i∧i≤20)(hv:0≤v∧v≤20)(ho:0≤o∧o≤20)(hl:bs.length≤2000):
  (bif ltI x.2 0 then true else leI (jL i v o x.1 bs) x.2)= !Zz i v o bs x:=by
 have w1:IntKind.i64.wrap (i - 1)=i - 1:=aM (by omega) (by omega)
 have w2:IntKind.i64.wrap (v - 1)=v - 1:=aM (by omega) (by omega)
 have w3:IntKind.i64.wrap (o - 1)=o - 1:=aM (by omega) (by omega)
 have w4:IntKind.i64.wrap ((bs.length:Int) - 1)=bs.length - 1:=aM (by omega) (by omega)
 have nQ: ∀ m:Int,(bif ltI x.2 0 then true else leI m x.2)= !(bif leI 0 x.2 then leI x.2 (m - 1)else false):=fun m=>by
  by_cases h0:x.2 < 0
  ·have a1:ltI x.2 0=true:=dw h0
   have a2:leI 0 x.2=false:=alC (by omega)
   simp [a1,a2]
  ·have a1:ltI x.2 0=false:=IZ (by omega)
   have a2:leI 0 x.2=true:=bk (by omega)
   simp only [a1,a2,cond_false,cond_true]
   by_cases hm:m≤x.2
   ·rw [bk hm,alC (by omega)];rfl
   ·rw [alC (by omega),bk (by omega)];rfl
 rw [nQ]
 simp only [Zz,YY,jL,Nk,aw,w1,w2,w3,w4]
 generalize (bif x.1==2 then x.1==2 else x.1==10)=b2
 generalize (bif x.1==3 then x.1==3 else bif x.1==8 then x.1==8 else x.1==11)=b3
 generalize (bif x.1==4 then x.1==4 else bif x.1==5 then x.1==5 else x.1==6)=b4
 generalize (x.1==1)=b1
 generalize (x.1==7)=b5
 generalize (x.1==9)=b6
 have e0:(bif leI 0 x.2 then leI x.2 (1 - 1)else false)=(x.2==0):=by
  by_cases h:x.2=0
  ·rw [h];rfl
  ·have:(x.2==0)=false:=by simpa using h
   rw [this]
   by_cases h0:0≤x.2
   ·rw [bk h0,alC (by omega)];rfl
   ·rw [alC (by omega)];rfl
 have e1:(bif leI 0 x.2 then leI x.2 (0 - 1)else false)=false:=by
  by_cases h0:0≤x.2
  ·rw [bk h0,alC (by omega)];rfl
  ·rw [alC (by omega)];rfl
 cases b1 <;> cases b2 <;> cases b3 <;> cases b4 <;> cases b5 <;> cases b6 <;> simp only [cond_true,cond_false,e0,e1] <;> rfl
def hgt(i v o:Int)(bs:List TM):List IN→Int→avO→Option (Int×avO)
 | [],n,acc=>some (n,acc)
 |x::r,n,acc=>bif Zz i v o bs x&&(leI (tkI bs x) n&&leI (n - tkI bs x + gvI x) 40)then hgt i v o bs r (n - tkI bs x + gvI x) (acc++ [n - tkI bs x + gvI x])else none
theorem aw9{i v o:Int}{bs:List TM}: ∀ (st:List IN) (n:Int) (acc:avO) (m:Int) (out:avO),hgt i v o bs st n acc=some (m,out)→out.length=acc.length + st.length
 | [],n,acc,m,out,h=>by simp only [hgt,q8,Prod.mk.injEq]at h;rw [← h.2];simp
 |x::r,n,acc,m,out,h=>by
  simp only [hgt]at h
  cases hc:(Zz i v o bs x&&(leI (tkI bs x) n&&leI (n - tkI bs x + gvI x) 40))with
  |false=>rw [hc]at h;cases h
  |true=>
   rw [hc]at h
   have:=aw9 r _ _ _ _ h
   rw [this];simp;omega
theorem avL{i v o:Int}{bs:List TM}{f:IN→Int×avO→Nat ⊕ (Int×avO)}{e:Nat}
  (hf: ∀ b n acc,0≤n∧n≤40→((Zz i v o bs b&&(leI (tkI bs b) n&&leI (n - tkI bs b + gvI b) 40))=true→f b (n,acc)= .inr (n - tkI bs b + gvI b,acc++ [n - tkI bs b + gvI b]))∧
   ((Zz i v o bs b&&(leI (tkI bs b) n&&leI (n - tkI bs b + gvI b) 40))=false→ ∃ j,j < e∧f b (n,acc)= .inl j)):
  ∀ (r:List IN) (k:Nat) (n:Int) (acc:avO),0≤n∧n≤40→
   (∀ m out,hgt i v o bs r n acc=some (m,out)→br f e r k (n,acc)=(e,k + r.length,(m,out))∧0≤m∧m≤40)∧(hgt i v o bs r n acc=none→(br f e r k (n,acc)).1 < e)
 | [],k,n,acc,hn=>⟨fun m out h=>by simp only [hgt,q8,Prod.mk.injEq]at h;obtain⟨rfl,rfl⟩:=h;exact⟨rfl,hn⟩,fun h=>by simp [hgt]at h⟩
 |b::r,k,n,acc,hn=>by
  have ht:=ang bs b
  have hg:=arg b
  cases hc:(Zz i v o bs b&&(leI (tkI bs b) n&&leI (n - tkI bs b + gvI b) 40))with
  |true=>
   have h1:=(hf b n acc hn).1 hc
   have hb:0≤n - tkI bs b + gvI b∧n - tkI bs b + gvI b≤40:=by simp only [q9,Gt]at hc;omega
   obtain⟨g1,g2⟩:=avL hf r (k + 1) _ (acc++ [n - tkI bs b + gvI b]) hb
   simp only [hgt,hc,cond_true,br,h1]
   refine⟨fun m out h=> ?_,g2⟩
   obtain⟨q1,q2⟩:=g1 m out h
   refine⟨?_,q2⟩
   rw [q1];simp;omega
  |false=>
   obtain⟨j,hj,h1⟩:=(hf b n acc hn).2 hc
   simp only [hgt,hc,cond_false,br,h1]
   exact⟨fun m out h=>(by cases h),fun _=>hj⟩
def alw(i v o:Int)(bs:List TM)(st:List IN):Bool:=match hgt i v o bs st 0 []with | some (m,_)=>m==0 | none=>false
def ayH(i v o:Int)(bs:List TM)(st:List IN):avO:=match hgt i v o bs st 0 []with | some (_,out)=>out | none=> []
def XK(bs:List TM):Bool:=bs.all fun t=>MU t.1 t.2.1 t.2.2
def awH(i v o:Int)(bs:List TM)(st:List IN):Bool:=inR i 0 20&&(inR v 0 20&&(inR o 0 20&&(leN bs.length 2000&&leN st.length 2000)))
def Bt(i v o:Int)(bs:List TM)(st:List IN):Bool:=awH i v o bs st&&(XK bs&&alw i v o bs st)
def aAb(bs:List TM):Bool:=leN bs.length 9223372036854775807&&bs.all fun t=>leN t.2.1.size 9223372036854775807
theorem azh{bs:List TM}:aAb bs=true↔bs.length≤9223372036854775807∧ ∀ t∈bs,t.2.1.size≤9223372036854775807:=by
 simp only [aAb,q9,gR,List.all_eq_true]
theorem adc{i v o:Int}{bs:List TM}{st:List IN}:awH i v o bs st=true↔(0≤i∧i≤20)∧(0≤v∧v≤20)∧(0≤o∧o≤20)∧bs.length≤2000∧st.length≤2000:=by
 simp only [awH,q9,ua,gR]
def aq8(i v o:Int)(bs:List TM)(b:IN):Int×avO→Nat ⊕ (Int×avO)
 |(n,acc)=>bif(bif ltI b.2 0 then true else leI (jL i v o b.1 bs) b.2)then .inl 0 else
   bif ltI n (bp b.1 b.2 bs)then .inl 1 else
   bif ltI 40 (IntKind.i64.wrap (n + IntKind.i64.wrap (cG b.1 - bp b.1 b.2 bs)))then .inl 2 else
   .inr (IntKind.i64.wrap (n + IntKind.i64.wrap (cG b.1 - bp b.1 b.2 bs)),acc++ [IntKind.i64.wrap (n + IntKind.i64.wrap (cG b.1 - bp b.1 b.2 bs))])
theorem aw3{i v o:Int}{bs:List TM}{b:IN}{n:Int}{acc:avO}(hr:(0≤i∧i≤20)∧(0≤v∧v≤20)∧0≤o∧o≤20)(hl:bs.length≤2000)(hn:0≤n∧n≤40):
  aq8 i v o bs b (n,acc)=bif !Zz i v o bs b then .inl 0 else bif !leI (tkI bs b) n then .inl 1 else bif !leI (n - tkI bs b + gvI b) 40 then .inl 2 else .inr (n - tkI bs b + gvI b,acc++ [n - tkI bs b + gvI b]):=by
 have ht:=ang bs b
 have hg:=arg b
 have e1:bp b.1 b.2 bs=tkI bs b:=rfl
 have e2:cG b.1=gvI b:=rfl
 have w1:IntKind.i64.wrap (gvI b - tkI bs b)=gvI b - tkI bs b:=aM (by omega) (by omega)
 have w2:IntKind.i64.wrap (n + (gvI b - tkI bs b))=n - tkI bs b + gvI b:=by rw [aM (by omega) (by omega)];omega
 simp only [aq8,avd hr.1 hr.2.1 hr.2.2 hl,e1,e2,w1,w2]
 have n1:ltI n (tkI bs b)= !leI (tkI bs b) n:=by
  by_cases h1:n < tkI bs b
  ·rw [dw h1,alC (by omega)];rfl
  ·rw [IZ (by omega),bk (by omega)];rfl
 have n2:ltI 40 (n - tkI bs b + gvI b)= !leI (n - tkI bs b + gvI b) 40:=by
  by_cases h1:40 < n - tkI bs b + gvI b
  ·rw [dw h1,alC (by omega)];rfl
  ·rw [IZ (by omega),bk (by omega)];rfl
 rw [n1,n2]
def dy(c d e:Int)(g:ajz)(b:Int×Int):(Int×avO)→Nat ⊕ (Int×avO)
 |(a,f)=>(bif(bif ltI b.2 0 then true else leI (jL c d e b.1 g) b.2)then(.inl 0)else(bif(ltI a (bp b.1 b.2 g))then(.inl 1)else(bif(ltI 40 (v8 .i64 (a + v8 .i64 (cG b.1 - (bp b.1 b.2 g)))))then(.inl 2)else(.inr ((v8 .i64 (a + v8 .i64 (cG b.1 - (bp b.1 b.2 g)))),(f++ [v8 .i64 (a + v8 .i64 (cG b.1 - (bp b.1 b.2 g)))]))))))
def df(b:auQ)(c d e:Int)(g:ajz)(i:Nat):(Int×avO)→bU
 |(a,f)=>((i:Int),(↑b.length:Int),a,b,c,d,e,f,g)
def tN:bU→Int×avO
 |(_,_,a,_,_,_,_,b,_)=>(a,b)
theorem PS(e:auQ)(f g j:Int)(l:ajz)(c:Int)(k:avO)(hn:e.length≤9223372036854775807)(hst:e.length≤2000)(hbs:l.length≤2000)(hr:(0≤f∧f≤20)∧(0≤g∧g≤20)∧0≤j∧j≤20)(Kj:(0≤c∧c≤40)∧k.length=0):
  aj.fin ((0:Int),(↑e.length:Int),c,e,f,g,j,k,l)=true∧aj.res ((0:Int),(↑e.length:Int),c,e,f,g,j,k,l)=((br (dy f g j l) 3 e 0 (c,k)).1,(df e f g j l) (br (dy f g j l) 3 e 0 (c,k)).2.1 (br (dy f g j l) 3 e 0 (c,k)).2.2):=by
 have nQ:=aj.along (df e f g j l) tN (dy f g j l) 3 (fun i a=>(0≤a.1∧a.1≤40)∧a.2.length=i) e (c,k) Kj (by simp only [aj,df];omega) (fun i b a hb hI=> ?_) (fun a hI=> ?_)
 ·exact nQ
 ·obtain⟨c,k⟩:=a
  have fC:=(k9.1 hb).1
  have lP: ∀ d,v7 e[i]? d=b:=fun d=>by rw [hb];rfl
  have hw:=Bm fC hn
  have fB:ltI (i:Int) (e.length:Int)=true:=dw (by omega)
  have Ly:leI (0:Int) (i:Int)=true:=bk (by omega)
  have sO:ltN i e.length=true:=eD fC
  refine⟨?_,?_,?_,?_⟩
  ·have hg2:aD (i:Int) e=b:=by simp only [aD,w5];exact lP _
   have hl:=hI.2
   have h6:leN (k.length + 1) 9223372036854775807=true:=bx (by simp only at hl;omega)
   have h7:leN ((k.length + 1) * 8) 140737488355328=true:=bx (by simp only at hl;omega)
   have h8:Zz f g j l b=true→lQ b.1 b.2 l=true:=ayC hbs
   simp only [je,nG,nH,nI,jf,nJ,nM,nN,iP,aj,LT.nds,allT,df,fB,Ly,sO,hg2,j6,h6,h7,w5,avd hr.1 hr.2.1 hr.2.2 hbs,cond_true,cond_false]
   cases hf:Zz f g j l b with
   |false=>rfl
   |true=>simp [h8 hf]
  ·simp [aD,iA,dd,je,nG,nH,nI,jf,nJ,nK,nL,nM,nN,nj,nk,np,iP,aj,LT.each,df,tN,hw]
  ·have hg2:aD (i:Int) e=b:=by simp only [aD,w5];exact lP _
   simp only [je,jf,nK,nL,nj,nk,np,iA,dd,iP,aj,LT.fn,df,tN,dy,w5,fB,hg2,cond_true]
  ·have hk:=hI.1
   simp only at hk
   have hs:=aw3 (i:=f) (v:=g) (o:=j) (bs:=l) (b:=b) (acc:=k) hr hbs hk
   intro a' hf
   have hf:aq8 f g j l b (c,k)= .inr a':=hf
   rw [hs]at hf
   have ht:=ang l b
   have hg:=arg b
   cases hq:Zz f g j l b with
   |false=>rw [hq]at hf;cases hf
   |true=>
    cases hq2:leI (tkI l b) c with
    |false=>rw [hq,hq2]at hf;cases hf
    |true=>
     cases hq3:leI (c - tkI l b + gvI b) 40 with
     |false=>rw [hq,hq2,hq3]at hf;cases hf
     |true=>
      rw [hq,hq2,hq3]at hf;cases hf
      have hq2:=Gt.1 hq2
      have hq3:=Gt.1 hq3
      exact⟨by simp only;omega,by have hl:=hI.2;simp only at hl;simp [hl]⟩
 ·obtain⟨c,k⟩:=a
  simp [aD,iA,dd,je,nG,nH,nI,jf,nJ,nK,nL,nM,nN,nj,nk,np,iP,aj,LT.out,df]
theorem azH(i v o:Int)(bs:List TM)(st:List IN)(hr:(0≤i∧i≤20)∧(0≤v∧v≤20)∧0≤o∧o≤20)(hst:st.length≤2000)(hbs:bs.length≤2000):
  qr i v o bs st=alw i v o bs st∧wn i v o bs st=ayH i v o bs st∧qs i v o bs st=true:=by
 obtain⟨w1,w2⟩:=PS st i v o bs 0 [] (by omega) hst hbs hr ⟨⟨by omega,by omega⟩,rfl⟩
 have hw:=avL (i:=i) (v:=v) (o:=o) (bs:=bs) (f:=dy i v o bs) (e:=3) (fun b n acc hn=>by
  have h:=aw3 (i:=i) (v:=v) (o:=o) (bs:=bs) (b:=b) (n:=n) (acc:=acc) hr hbs hn
  have h:dy i v o bs b (n,acc)=_:=h
  rw [h]
  refine⟨fun hc=> ?_,fun hc=> ?_⟩
  ·simp only [q9]at hc
   simp [hc.1,hc.2.1,hc.2.2]
  ·cases hq:Zz i v o bs b with
   |false=>exact⟨0,by omega,rfl⟩
   |true=>
    rw [hq,Bool.true_and]at hc
    cases hq2:leI (tkI bs b) n with
    |false=>exact⟨1,by omega,rfl⟩
    |true=>rw [hq2,Bool.true_and]at hc;exact⟨2,by omega,by rw [hc];rfl⟩) st 0 0 [] ⟨by omega,by omega⟩
 simp only [qr,wn,qs,gz,vk,vm,vn,vo,w1,allT,cond_true]
 rw [w2]
 simp only [alw,ayH]
 cases hh:hgt i v o bs st 0 []with
 |none=>
  have:=hw.2 hh
  generalize br (dy i v o bs) 3 st 0 (0,[])=r at this ⊢
  obtain⟨j,k,a⟩:=r
  have:j=0∨j=1∨j=2:=by simp only at this;omega
  rcases this with rfl | rfl | rfl <;> simp [Nat.beq]
 |some r=>
  obtain⟨m,out⟩:=r
  have:=(hw.1 m out hh).1
  rw [this]
  simp [Nat.beq,df]
def mh(b:Int×(avP×Int)):(Unit)→Nat ⊕ (Unit)
 |_=>(bif(QT b.1 (b.2.1) b.2.2)then(.inl 0)else(.inr ()))
def eu(a:ajz)(i:Nat):(Unit)→cQ
 |_=>((i:Int),(↑a.length:Int),a)
def wX:cQ→Unit
 |(_,_,_)=>()
theorem UA(c:ajz) (hn:c.length≤9223372036854775807):
  aQ.fin ((0:Int),(↑c.length:Int),c)=true∧aQ.res ((0:Int),(↑c.length:Int),c)=((br (mh) 1 c 0 ()).1,(eu c) (br (mh) 1 c 0 ()).2.1 (br (mh) 1 c 0 ()).2.2):=by
 have nQ:=aQ.along (eu c) wX (mh) 1 (fun _ _=>True) c () (by trivial) (by simp only [aQ,eu];omega) (fun i b a hb hI=> ?_) (fun a hI=> ?_)
 ·exact nQ
 ·obtain⟨⟩:=a
  have fC:=(k9.1 hb).1
  have lP: ∀ d,v7 c[i]? d=b:=fun d=>by rw [hb];rfl
  have hw:=Bm fC hn
  have fB:ltI (i:Int) (c.length:Int)=true:=dw (by omega)
  have Ly:leI (0:Int) (i:Int)=true:=bk (by omega)
  have sO:ltN i c.length=true:=eD fC
  refine⟨?_,?_,?_,?_⟩
  ·simp [fk,mI,mJ,mK,mL,mM,mN,lV,aQ,LT.nds,allT,eu,fB,Ly,sO,lP]
  ·simp [fk,mI,mJ,mK,mL,mM,mN,lV,aQ,LT.each,eu,wX,hw]
  ·simp only [fk,mI,mJ,mK,mL,mM,mN,lV,aQ,LT.fn,eu,wX,mh,w5,fB,Ly,sO,lP,cond_true,k8]
  ·exact fun _ _=>trivial
 ·obtain⟨⟩:=a
  simp [fk,mI,mJ,mK,mL,mM,mN,lV,aQ,LT.out,eu]
theorem ayf(bs:List TM):(bs.any fun t=> !MU t.1 t.2.1 t.2.2)= !XK bs:=by simp [XK,List.all_eq_not_any_not]
theorem ay6(i v o:Int)(bs:List TM)(st:List IN):Ym i v o bs st= !awH i v o bs st:=by
 have e1: ∀ x:Int,aw x 0 20=inR x 0 20:=fun x=>by simp only [aw,QU]
 have e2: ∀ n:Nat,ltI 2000 (n:Int)= !leN n 2000:=fun n=>by
  by_cases h:n≤2000
  ·rw [bx h,IZ (by omega)];rfl
  ·rw [aAZ (by omega),dw (by omega)];rfl
 simp only [Ym,awH,e1,e2]
 cases inR i 0 20 <;> cases inR v 0 20 <;> cases inR o 0 20 <;> cases leN bs.length 2000 <;> cases leN st.length 2000 <;> rfl
theorem axI(i v o:Int)(bs:List TM)(st:List IN):afb i v o bs st=Bt i v o bs st∧afc i v o bs st=true:=by
 have e0:Tf i v o bs st=Ym i v o bs st:=by simp only [Tf,Ym,rH,aw]
 simp only [afb,afc,e0,ay6,Bt]
 cases hr:awH i v o bs st with
 |false=>simp [allT]
 |true=>
  obtain⟨h1,h2,h3,h4,h5⟩:=adc.1 hr
  obtain⟨q1,q2,q3⟩:=azH i v o bs st ⟨h1,h2,h3⟩ h5 h4
  obtain⟨w1,w2⟩:=UA bs (by omega)
  rw [lN (P:=fun t=> !MU t.1 t.2.1 t.2.2) (j:=0) (fun t=>rfl),ayf]at w2
  simp only [rT,yq,Bg,Bh,tz,w1,w2,q1,q3,allT]
  cases XK bs with
  |true=>simp [Nat.beq,show leI 0 (-1)=false from rfl]
  |false=>simp [Nat.beq,eu];intro h;omega
def alk:awh
 | [.one ⟨true,[.val (.int .i64 a),.val (.int .i64 b),.val (.int .i64 c),.ref 0,.ref 1]⟩],[.row false 122 (.pair (.int .i64) (.pair (.str) (.int .i64))) d,.row false 83 (.pair (.int .i64) (.int .i64)) e]=>some ⟨aBB (.val (.bool (Bt a b c d e))),[aBG d,aBO e],[],[]⟩
 |_,_=>none
def Fh:PF prog:=PF.alt asy alk (by
 intro args es o h cA;unfold alk at h;split at h
 ·rename_i a b c d e
  cases h
  have hh:=axI a b c d e
  obtain⟨e0,en⟩:=hh
  exact pW rfl (ip en) (by simp only [e0] <;> rfl) rfl rfl
 ·cases h)
def gU(bs:List TM)(k:Nat):TM:=v7 bs[k]? ((0:Int),ByteArray.empty,(0:Int))
def stAt(ss:List BS3)(k:Nat):BS3:=v7 ss[k]? ((0:Int),(0:Int),(0:Int))
def possAt(bs:List TM)(ss:List BS3)(k:Nat):Bool:=possB (gU bs k).1 (gU bs k).2.2 (stAt ss k).1 (stAt ss k).2.1 (stAt ss k).2.2
def sy(v:Int)(bs:List TM)(xs:avO)(ss:List BS3):Bool:=((ss.length:Int)==(bs.length:Int))&&(bitsB v xs&&(List.range bs.length).all fun k=>possAt bs ss k)
def iZ(a:ajz)(c:asY)(b:Nat):(Unit)→Nat ⊕ (Unit)
 |_=>(bif(!Gq ((v7 a[b]? ((0:Int),ByteArray.empty,(0:Int))).1) ((v7 a[b]? ((0:Int),ByteArray.empty,(0:Int))).2.2) ((v7 c[b]? ((0:Int),(0:Int),(0:Int))).1) (((v7 c[b]? ((0:Int),(0:Int),(0:Int))).2).1) ((v7 c[b]? ((0:Int),(0:Int),(0:Int))).2.2))then(.inl 0)else(.inr ()))
def em(a:ajz)(b:avO)(c:asY)(i:Nat):(Unit)→bV
 |_=>((i:Int),(↑a.length:Int),a,b,c)
def tO:bV→Unit
 |(_,_,_,_,_)=>()
theorem PT(c:ajz)(d:avO)(e:asY) (hn:c.length≤9223372036854775807) (he:e.length=c.length):
  aF.fin ((0:Int),(↑c.length:Int),c,d,e)=true∧aF.res ((0:Int),(↑c.length:Int),c,d,e)=((br (iZ c e) 1 (List.range c.length) 0 ()).1,(em c d e) (br (iZ c e) 1 (List.range c.length) 0 ()).2.1 (br (iZ c e) 1 (List.range c.length) 0 ()).2.2):=by
 have nQ:=aF.along (em c d e) tO (iZ c e) 1 (fun _ _=>True) (List.range c.length) () (by trivial) (by simp only [aF,em,List.length_range];omega) (fun i b a hb hI=> ?_) (fun a hI=> ?_)
 ·exact nQ
 ·obtain⟨⟩:=a
  obtain⟨rfl,fC⟩:=Xh hb
  have hw:IntKind.i64.wrap ((b:Int) + 1)=((b + 1:Nat):Int):=by rw [aM (by omega) (by omega)];omega
  have fB:ltI (b:Int) (c.length:Int)=true:=dw (by omega)
  have Ly:leI (0:Int) (b:Int)=true:=bk (by omega)
  have sO:ltN b c.length=true:=eD (by omega)
  refine⟨?_,?_,?_,?_⟩
  ·simp [fq,ek,jg,fD,jh,ji,jj,jk,jl,jm,iQ,aF,LT.nds,allT,em,fB,Ly,sO,he]
  ·simp [fq,ek,jg,fD,jh,ji,jj,jk,jl,jm,iQ,aF,LT.each,em,tO,hw,he]
  ·simp only [fq,ek,jg,fD,jh,ji,jj,jk,jl,jm,iQ,aF,LT.fn,em,tO,iZ,w5,fB,cond_true]
  ·exact fun _ _=>trivial
 ·obtain⟨⟩:=a
  simp [fq,ek,jg,fD,jh,ji,jj,jk,jl,jm,iQ,aF,LT.out,em,List.length_range]
theorem ats{α:Type}{g h:α→Bool}: ∀ (l:List α),(∀ k∈l,g k=h k)→(l.any fun b=> !g b)= !l.all h
 | [],_=>rfl
 |a::l,hg=>by
  rw [List.any_cons,List.all_cons,hg a (by simp),ats l (fun k hk=>hg k (by simp [hk]))]
  cases h a <;> simp
theorem axL(v:Int)(bs:List TM)(xs:avO)(ss:List BS3)(h:(leN xs.length 9223372036854775807&&(leN bs.length 9223372036854775807&&XK bs))=true):
  qt v xs ss bs=sy v bs xs ss∧qu v xs ss bs=true:=by
 simp only [q9]at h
 have hn:=gR.1 h.2.1
 have hB: ∀ t∈bs,MU t.1 t.2.1 t.2.2=true:=List.all_eq_true.1 h.2.2
 by_cases hl:ss.length=bs.length
 ·obtain⟨w1,w2⟩:=PT bs xs ss hn hl
  rw [lN (P:=fun k=> !Gq (gU bs k).1 (gU bs k).2.2 (stAt ss k).1 (stAt ss k).2.1 (stAt ss k).2.2) (j:=0) (fun k=>rfl),
   ats (g:=fun k=>Gq (gU bs k).1 (gU bs k).2.2 (stAt ss k).1 (stAt ss k).2.1 (stAt ss k).2.2) (h:=possAt bs ss) _ (fun k hk=>by
    have hk:k < bs.length:=List.mem_range.1 hk
    have hg:gU bs k=bs[k]:=by simp only [gU,List.getElem?_eq_getElem hk];rfl
    have:=hB _ (List.getElem_mem hk)
    rw [← hg]at this
    exact az1 (agM this).1)]at w2
  have a0:gA v xs ss bs= !bitsB v xs:=by simp only [gA,hl];cases bitsB v xs <;> simp
  simp only [qt,qu,vp,a0,w1,w2,h.1,allT,sy,hl]
  cases bitsB v xs <;> cases (List.range bs.length).all (possAt bs ss) <;> simp [Nat.beq]
 ·have hl2: ¬ ((ss.length:Int)=(bs.length:Int)):=by omega
  have a0:gA v xs ss bs=true:=by simp only [gA];cases bitsB v xs <;> simp [hl2]
  have e:((ss.length:Int)==(bs.length:Int))=false:=by simpa using hl2
  simp [qt,qu,a0,allT,sy,e,h.1]
def Fa:awh
 | [.one ⟨true,[.ref 0,.ref 1]⟩,.one ⟨false,[.val (.int .i64 a)]⟩,.one ⟨false,[.ref 2]⟩],[.row false 2 (.int .i64) b,.row false 109 (.pair (.int .i64) (.pair (.int .i64) (.int .i64))) c,.row false 122 (.pair (.int .i64) (.pair (.str) (.int .i64))) d]=>some ⟨aBB (.val (.bool (sy a d b c))),[aBF b,aBN c,aBG d],[],[leN b.length 9223372036854775807&&(leN d.length 9223372036854775807&&XK d)]⟩
 |_,_=>none
def bz:PF prog:=PF.alt Sf Fa (by
 intro args es o h cA;unfold Fa at h;split at h
 ·rename_i a b c d
  cases h
  have cA:=jQ cA
  have hh:=axL a d b c cA
  obtain⟨e0,en⟩:=hh
  exact pW rfl (ip en) (by simp only [e0] <;> rfl) rfl rfl
 ·cases h)
abbrev rE:=Int×avP×List avP
section
variable (a:Int)(b:avP)(c:List avP)
def EM:Bool:=ltI a (↑c.length:Int)
def JC:Bool:=leI 0 a
def JD:Bool:=ltN a.toNat c.length
def JF:Bool:=ByteArray.toList (v7 c[v5 a]? ByteArray.empty)==ByteArray.toList b
def JG:Int:=v8 .i64 (a + (1:Int))
end
def akD:rE→List (Nat×SV)
 |(a,b,_)=> [(5,(aBC a)),(0,(aBB (.ref 0))),(1,(aBB (.val (.string b))))]
def aku:rE→List (Nat×Entry)
 |(_,_,a)=> [(0,(aBD a))]
def akV:Nat→rE→List (Nat×SV)
 |0,(a,_,_)=> [(4,(aBC a))]
 |_,_=>[]
def Hd:rE→LT rE
 |(a,b,c)=> .ite (EM a c) (.need [JC a,EM a c,JD a c] (.ite (JF a b c) (.ext 0 [(0,0)]) (.nrm ((JG a),b,c) [(0,0)]))) (.ext 1 [(0,0)])
def Va(s:St):Option rE:=do
 let some ⟨none,.one ⟨false,[.val (.int .i64 a)]⟩⟩:=s.look 5|none
 let some ⟨none,.one ⟨false,[.ref 0]⟩⟩:=s.look 0|none
 let some ⟨none,.one ⟨false,[.val (.string b)]⟩⟩:=s.look 1|none
 let some (.row false 9 (.str) c):=s.ent 0|none
 some (a,b,c)
def fY:Lp rE where
 h:=⟨[6,7,8,9,12,13,14,15,16,17,18,4,10,11,5],[0],[],[]⟩
 JL:=akD
 JE:=aku
 XL:=akV
 XE:=fun _=>aku
 q:=fun j=>match j with | 0=> .ret | _=> .exit 0
 tags:= [0,1]
 lt:=Hd
 fuel:=fun(a,b,c)=>a.natAbs + b.size + c.length
 fix:=fun(_,b,c) (a,_,_)=>(a,b,c)
 σ:= [(0,0)]
 rd:=Va
theorem ait:LoopOk prog (fun k=>Nat.blt k Tryz.f62.ntmps) fY.F (bj f62 0):=by
 refine Lp.ok (tbl:= []) (lf:= []) aT fY (by kernel_rfl) (LOk.nil _) (fun _=>rfl) (fun j _=>by unfold fY;match j with | 0=>rfl | _ + 1=>rfl) ?_ ?_ ?_ ?_ (fun _=>rfl) ?_
 ·intro _;kernel_rfl
 ·intro _;kernel_rfl
 ·intro s x h
  have h:Va s=some x:=h
  unfold Va at h
  repeat' split at h
  all_goals cases h
  constructor<;>repeat(first|refine ab ‹_› rfl ?_|refine aa rfl ‹_› rfl ?_|rfl)
 ·intro _;kernel_rfl
 ·intro _ _;exact(And.intro (And.intro trivial rfl) trivial)
section
variable (a:avP)(b:List avP)
def Uu:Int×avP×List avP:=((0:Int),a,b)
def Qk:Int:=bif Nat.beq ((Lp.res fY (Uu a b)).1) 0 then ((Lp.res fY (Uu a b)).2).1else(-1:Int)
def VQ:Bool:=allT [Lp.fin fY (Uu a b)]
end
def ahu:awh
 | [.one ⟨false,[.ref 0]⟩,.one ⟨false,[.val (.string a)]⟩],[.row false 9 (.str) b]=>some ⟨aBC (Qk a b),[aBD b],[],[VQ a b]⟩
 |_,_=>none
def GG:PF prog:=PF.ofG prog [] [fY.F] aT 62 f62 func62 (LOk.fnT (l:= [bj f62 0]) (by kernel_rfl) (.cons ait (.nil _))) ahu (by
 intro _ _ _ h;unfold ahu at h;split at h<;>cases h;kernel_rfl)
abbrev rC:=Int×List avP
section
variable (a:Int)(b:List avP)
def ve:avP:=v7 b[v5 a]? ByteArray.empty
def EJ:Bool:=ltI a (↑b.length:Int)
def PH:Bool:=leI 0 a
def PI:Bool:=ltN a.toNat b.length
def PJ:Bool:=AE (ve a b)
def Jp:Bool:= !rl (ve a b)
def PK:Int:=v8 .i64 (a + (1:Int))
end
def akA:rC→List (Nat×SV)
 |(a,_)=> [(5,(aBC a)),(0,(aBB (.ref 0)))]
def akr:rC→List (Nat×Entry)
 |(_,a)=> [(0,(aBD a))]
def akS:Nat→rC→List (Nat×SV)
 |0,(_,_)=> [(4,(aBB (.val (.bool false))))]
 |_,_=>[]
def Ha:rC→LT rC
 |(a,b)=> .ite (EJ a b) (.need [PH a,EJ a b,PI a b,PJ a b] (.ite (Jp a b) (.ext 0 [(0,0)]) (.nrm ((PK a),b) [(0,0)]))) (.ext 1 [(0,0)])
def UX(s:St):Option rC:=do
 let some ⟨none,.one ⟨false,[.val (.int .i64 a)]⟩⟩:=s.look 5|none
 let some ⟨none,.one ⟨false,[.ref 0]⟩⟩:=s.look 0|none
 let some (.row false 9 (.str) b):=s.ent 0|none
 some (a,b)
def hY:Lp rC where
 h:=⟨[6,7,8,9,12,13,14,15,16,17,4,10,11,5],[0],[],[]⟩
 JL:=akA
 JE:=akr
 XL:=akS
 XE:=fun _=>akr
 q:=fun j=>match j with | 0=> .ret | _=> .exit 0
 tags:= [0,1]
 lt:=Ha
 fuel:=fun(a,b)=>a.natAbs + b.length
 fix:=fun(_,b) (a,_)=>(a,b)
 σ:= [(0,0)]
 rd:=UX
theorem aiq:LoopOk prog (fun k=>Nat.blt k Tryz.f143.ntmps) hY.F (bj f143 0):=by
 refine Lp.ok (tbl:= [CF,Tt]) (lf:= []) aT hY (by kernel_rfl) (LOk.nil _) (fun _=>rfl) (fun j _=>by unfold hY;match j with | 0=>rfl | _ + 1=>rfl) ?_ ?_ ?_ ?_ (fun _=>rfl) ?_
 ·intro _;kernel_rfl
 ·intro _;kernel_rfl
 ·intro s x h
  have h:UX s=some x:=h
  unfold UX at h
  repeat' split at h
  all_goals cases h
  constructor<;>repeat(first|refine ab ‹_› rfl ?_|refine aa rfl ‹_› rfl ?_|rfl)
 ·intro _;kernel_rfl
 ·intro _ _;exact(And.intro (And.intro trivial rfl) trivial)
def abx(a:Int)(b:List avP):Bool:=bif Nat.beq ((Lp.res hY ((0:Int),b)).1) 0 then false else aw (↑b.length:Int) a 20
def aby(a:List avP):Bool:=allT [Lp.fin hY ((0:Int),a)]
def ahr:awh
 | [.one ⟨false,[.ref 0]⟩,.one ⟨false,[.val (.int .i64 a)]⟩],[.row false 9 (.str) b]=>some ⟨aBB (.val (.bool (abx a b))),[aBD b],[],[aby b]⟩
 |_,_=>none
def aqt:PF prog:=PF.ofG prog [CF,Tt] [hY.F] aT 143 f143 func143 (LOk.fnT (l:= [bj f143 0]) (by kernel_rfl) (.cons aiq (.nil _))) ahr (by
 intro _ _ _ h;unfold ahr at h;split at h<;>cases h;kernel_rfl)
abbrev nS:=Int×Int×List (Int×(avP×Int))×List Int
section
variable (a b:Int)(c:ajz)(d:avO)
def fA:Int×avP×Int:=v7 c[v5 a]? ((0:Int),ByteArray.empty,(0:Int))
def vR:Bool:= !TI ((fA a c).1) (((fA a c).2).1) ((fA a c).2.2)
def vS:Int:=v8 .i64 (v8 .i64 (b - fT ((fA a c).1)) + (1:Int))
def xF:Bool:=ltI a (↑c.length:Int)
def BM:Bool:=leI 0 a
def BN:Bool:=ltN a.toNat c.length
def FQ:Bool:=TJ ((fA a c).1) (((fA a c).2).1) ((fA a c).2.2)
def FR:Bool:= !(!vR a c&&true)||leI 0 a
def FS:Bool:= !(!vR a c&&true)||ltI a (↑c.length:Int)
def FT:Bool:= !(!vR a c&&true)||ltN a.toNat c.length
def FU:Bool:=bif vR a c then true else ltI b (fT ((fA a c).1))
def FV:Bool:=leN (v6 d + v6 [vS a b c]) (9223372036854775807:Nat)
def FW:Bool:=leN ((v6 d + v6 [vS a b c]) * (8:Nat)) 140737488355328
def Ei:Int:=v8 .i64 (a + (1:Int))
def Ej:Int:=vS a b c
def Ek:avO:=d++ [vS a b c]
end
def ah7:nS→List (Nat×SV)
 |(a,b,_,_)=> [(6,(aBC a)),(0,(aBB (.ref 0))),(5,(aBC b)),(4,(aBB (.ref 1)))]
def ah1:nS→List (Nat×Entry)
 |(_,_,a,b)=> [(0,(aBG a)),(1,(aBE b))]
def aij:Nat→nS→List (Nat×SV)
 |0,(_,_,_,_)=> [(2,(aBB (.ref 2))),(3,(aBB (.val (.bool false))))]
 |_,(_,a,_,_)=> [(5,(aBC a)),(4,(aBB (.ref 1)))]
def aid:Nat→nS→List (Nat×Entry)
 |0,(_,_,a,b)=> [(0,(aBG a)),(1,(aBE b)),(2,(aBE []))]
 |_,(_,_,a,b)=> [(0,(aBG a)),(1,(aBE b))]
def DY:nS→LT nS
 |(a,b,c,d)=> .ite (xF a c) (.need [BM a,xF a c,BN a c,FQ a c,FR a c,FS a c,FT a c] (.ite (FU a b c) (.ext 0 [(0,0),(1,1),(2,1344)]) (.need [BM a,xF a c,BN a c] (.need [FV a b c d,FW a b c d] (.nrm ((Ei a),Ej a b c,c,(Ek a b c d)) [(0,0),(1,2176)]))))) (.ext 1 [(0,0),(1,1)])
def Rr(s:St):Option nS:=do
 let some ⟨none,.one ⟨false,[.val (.int .i64 a)]⟩⟩:=s.look 6|none
 let some ⟨none,.one ⟨false,[.ref 0]⟩⟩:=s.look 0|none
 let some ⟨none,.one ⟨false,[.val (.int .i64 b)]⟩⟩:=s.look 5|none
 let some ⟨none,.one ⟨false,[.ref 256]⟩⟩:=s.look 4|none
 let some (.row false 122 (.pair (.int .i64) (.pair .str (.int .i64))) c):=s.ent 0|none
 let some (.row true 2 (.int .i64) d):=s.ent 256|none
 some (a,b,c,d)
def eT:Lp nS where
 h:=⟨[8,9,10,11,14,15,16,17,18,19,20,21,22,23,24,25,26,27,28,29,2,3,30,31,32,33,34,35,36,37,38,5,39,40,41,42,4,12,13,6],[0],[1],[2]⟩
 JL:=ah7
 JE:=ah1
 XL:=aij
 XE:=aid
 q:=fun j=>match j with | 0=> .ret | _=> .exit 0
 tags:= [0,1]
 lt:=DY
 fuel:=fun(a,b,c,d)=>a.natAbs + b.natAbs + c.length + d.length
 fix:=fun(_,_,c,_) (a,b,_,d)=>(a,b,c,d)
 σ:= [(0,0),(1,256)]
 rd:=Rr
theorem af8:LoopOk prog (fun k=>Nat.blt k Tryz.f180.ntmps) eT.F (bj f180 0):=by
 refine Lp.ok (tbl:= [ajW,xP]) (lf:= []) aT eT (by kernel_rfl) (LOk.nil _) (fun _=>rfl) (fun j _=>by unfold eT;match j with | 0=>rfl | _ + 1=>rfl) ?_ ?_ ?_ ?_ (fun _=>rfl) ?_
 ·intro _;kernel_rfl
 ·intro _;kernel_rfl
 ·intro s x h
  have h:Rr s=some x:=h
  unfold Rr at h
  repeat' split at h
  all_goals cases h
  constructor<;>repeat(first|refine ab ‹_› rfl ?_|refine aa rfl ‹_› rfl ?_|rfl)
 ·intro _;kernel_rfl
 ·intro _ _;exact(And.intro (And.intro trivial rfl) trivial)
section
variable (a:alv)
def PG:Int×Int×alv×avO:=((0:Int),(0:Int),a,[])
def Wz:Bool:=Nat.beq ((Lp.res eT (PG a)).1) 0
def WA:Int×alv×avO:=(Lp.res eT (PG a)).2.2
def YJ:Bool:=bif Wz a then false else bif (WA a).1==1 then leI (↑a.length:Int) 40 else false
def aop:avO:=bif Wz a then []else (WA a).2.2
def YK:Bool:=allT [Lp.fin eT (PG a)]
end
def aec:awh
 | [.one ⟨false,[.ref 0]⟩],[.row false 122 (.pair (.int .i64) (.pair (.str) (.int .i64))) a]=>some ⟨.tup [⟨false,[.ref 1]⟩,⟨false,[.val (.bool (YJ a))]⟩],[aBG a],[aBE (aop a)],[YK a]⟩
 |_,_=>none
def Ye:PF prog:=PF.ofG prog [ajW,xP] [eT.F] aT 180 f180 func180 (LOk.fnT (l:= [bj f180 0]) (by kernel_rfl) (.cons af8 (.nil _))) aec (by
 intro _ _ _ h;unfold aec at h;split at h<;>cases h;kernel_rfl)
def Vg(a:alv):Bool:=YJ a
def Vh(a:alv):Bool:=allT [YK a]
def abK:awh
 | [.one ⟨false,[.ref 0]⟩],[.row false 122 (.pair (.int .i64) (.pair (.str) (.int .i64))) a]=>some ⟨aBB (.val (.bool (Vg a))),[aBG a],[],[Vh a]⟩
 |_,_=>none
def ak2:PF prog:=PF.ofG prog (T3z [Ye]) [] aT 144 f144 func144 (fun c _=>LOk.nil c) abK (by
 intro _ _ _ h;unfold abK at h;split at h<;>cases h;kernel_rfl)
section
variable (a b c:List avP)
def YL:List avP:=a++b
def alI:List avP:=YL a b++c
def afz:Bool:=allT [leN (0 + v6 a) 9223372036854775807,leN ((0 + v6 a) * 16) 140737488355328,leN (v6 a + v6 b) 9223372036854775807,leN ((v6 a + v6 b) * 16) 140737488355328,leN (v6 (YL a b) + v6 c) 9223372036854775807,leN ((v6 (YL a b) + v6 c) * 16) 140737488355328]
end
def alg:awh
 | [.one ⟨true,[.val (.string _x0),.ref 0,.ref 1,.ref 2,.val (.string _x1),.ref 3]⟩],[.row false 9 (.str) a,.row false 9 (.str) b,.row false 9 (.str) c,.row false 142 (.pair (.str) (.sl 122 (.pair (.int .i64) (.pair (.str) (.int .i64))))) d]=>some ⟨aBB (.ref 4),[aBD a,aBD b,aBD c,aBH d],[aBJ (alI a b c)],[afz a b c]⟩
 |_,_=>none
def asD:PF prog:=PF.ofG prog [] [] aT 103 f103 func103 (fun c _=>LOk.nil c) alg (by
 intro _ _ _ h;unfold alg at h;split at h<;>cases h;kernel_rfl)
abbrev rF:=Int×List avP
section
variable (a:Int)(b:List avP)
def Ht:avP:=v7 b[v5 a]? ByteArray.empty
def zN:List avP:=List.drop (v5 0) (List.take a.toNat b)
def EN:Bool:=ltI a (↑b.length:Int)
end
def JI:Bool:=leI 0 0
section
variable (a:Int)(b:List avP)
def EO:Bool:=leI 0 a
def JJ:Bool:=leI a (↑b.length:Int)
def JK:Bool:=ltN a.toNat b.length
def EP:Bool:=VQ (Ht a b) (zN a b)
def JM:Bool:=leI 0 (Qk (Ht a b) (zN a b))
def PO:Int:=v8 .i64 (a + (1:Int))
end
def akE:rF→List (Nat×SV)
 |(a,_)=> [(3,(aBC a)),(0,(aBB (.ref 0)))]
def akv:rF→List (Nat×Entry)
 |(_,a)=> [(0,(aBD a))]
def akW:Nat→rF→List (Nat×SV)
 |0,(_,_)=> [(2,(aBB (.val (.bool true))))]
 |_,_=>[]
def He:rF→LT rF
 |(a,b)=> .ite (EN a b) (.need [JI,EO a,JJ a b,EO a,EN a b,JK a b,EP a b] (.ite (JM a b) (.ext 0 [(0,0)]) (.nrm ((PO a),b) [(0,0)]))) (.ext 1 [(0,0)])
def Vb(s:St):Option rF:=do
 let some ⟨none,.one ⟨false,[.val (.int .i64 a)]⟩⟩:=s.look 3|none
 let some ⟨none,.one ⟨false,[.ref 0]⟩⟩:=s.look 0|none
 let some (.row false 9 (.str) b):=s.ent 0|none
 some (a,b)
def hZ:Lp rF where
 h:=⟨[4,5,6,7,10,11,12,13,14,15,16,17,18,2,8,9,3],[0],[],[]⟩
 JL:=akE
 JE:=akv
 XL:=akW
 XE:=fun _=>akv
 q:=fun j=>match j with | 0=> .ret | _=> .exit 0
 tags:= [0,1]
 lt:=He
 fuel:=fun(a,b)=>a.natAbs + b.length
 fix:=fun(_,b) (a,_)=>(a,b)
 σ:= [(0,0)]
 rd:=Vb
theorem aiu:LoopOk prog (fun k=>Nat.blt k Tryz.f145.ntmps) hZ.F (bj f145 0):=by
 refine Lp.ok (tbl:= (T3z [GG])) (lf:= []) aT hZ (by kernel_rfl) (LOk.nil _) (fun _=>rfl) (fun j _=>by unfold hZ;match j with | 0=>rfl | _ + 1=>rfl) ?_ ?_ ?_ ?_ (fun _=>rfl) ?_
 ·intro _;kernel_rfl
 ·intro _;kernel_rfl
 ·intro s x h
  have h:Vb s=some x:=h
  unfold Vb at h
  repeat' split at h
  all_goals cases h
  constructor<;>repeat(first|refine ab ‹_› rfl ?_|refine aa rfl ‹_› rfl ?_|rfl)
 ·intro _;kernel_rfl
 ·intro _ _;exact(And.intro (And.intro trivial rfl) trivial)
def abB(a:List avP):Bool:=bif Nat.beq ((Lp.res hZ ((0:Int),a)).1) 0 then true else false
def abC(a:List avP):Bool:=allT [Lp.fin hZ ((0:Int),a)]
def ahv:awh
 | [.one ⟨false,[.ref 0]⟩],[.row false 9 (.str) a]=>some ⟨aBB (.val (.bool (abB a))),[aBD a],[],[abC a]⟩
 |_,_=>none
def aqu:PF prog:=PF.ofG prog (T3z [GG]) [hZ.F] aT 145 f145 func145 (LOk.fnT (l:= [bj f145 0]) (by kernel_rfl) (.cons aiu (.nil _))) ahv (by
 intro _ _ _ h;unfold ahv at h;split at h<;>cases h;kernel_rfl)
abbrev qX:=Int×Int×avP×avP×List (Int×(avP×Int))×List avP×List avP×List avP×List (avP×(List (Int×(avP×Int))))
section
variable (a b:Int)(c:ajz)(d:afa)
def NI:Bool:=ltI b (↑d.length:Int)
def Gz:Bool:=ltN b.toNat d.length
def wI:alv:=(v7 d[v5 b]? (xS aa8)).2
def wJ:Bool:=ltI a (↑(v6 (wI b d)):Int)
def wK:Int×avP×Int:=v7 (wI b d)[v5 a]? ((0:Int),ByteArray.empty,(0:Int))
def fU:Bool:=leI 7 ((wK a b d).1)
def wL:alv:= [((wK a b d).1,((wK a b d).2).1,(wK a b d).2.2)]
def yT:Bool:=leI 0 b
def yU:Bool:=NI b d
def yV:Bool:=Gz b d
def yW:Bool:=wJ a b d
def CT:Bool:=leI 0 a
def CU:Bool:=ltN a.toNat (v6 (wI b d))
def CV:Bool:= !fU a b d||leI 0 b
def CW:Bool:= !fU a b d||NI b d
def CX:Bool:= !fU a b d||Gz b d
def CY:Bool:= !fU a b d||leI 0 a
def BO:Bool:= !fU a b d||wJ a b d
def BP:Bool:= !fU a b d||ltN a.toNat (v6 (wI b d))
def BQ:Bool:= !fU a b d||leN (v6 c + v6 (wL a b d)) 9223372036854775807
def BR:Bool:= !fU a b d||leN ((v6 c + v6 (wL a b d)) * 32) 140737488355328
def BT:Bool:=fU a b d
def wH:Int:=v8 .i64 (a + (1:Int))
def BU:ajz:=c++wL a b d
end
def afO:qX→List (Nat×SV)
 |(a,b,_,_,_,_,_,_,_)=> [(5,(aBC a)),(1,(aBB (.ptr 0 0))),(4,(aBC b)),(3,(aBB (.ref 1)))]
def afN:qX→List (Nat×Entry)
 |(_,_,a,b,c,d,e,f,g)=> [(0,(.box 43 [.val (.string a),.ref 2,.ref 3,.ref 4,.val (.string b),.ref 5])),(2,(aBD d)),(3,(aBD e)),(4,(aBD f)),(5,(aBI g)),(1,(aBM c))]
def afT:Nat→qX→List (Nat×SV)
 |_,(_,_,_,_,_,_,_,_,_)=> [(3,(aBB (.ref 1)))]
def afS:Nat→qX→List (Nat×Entry)
 |_,(_,_,a,b,c,d,e,f,g)=> [(0,(.box 43 [.val (.string a),.ref 2,.ref 3,.ref 4,.val (.string b),.ref 5])),(1,(aBM c)),(2,(aBD d)),(3,(aBD e)),(4,(aBD f)),(5,(aBI g))]
def BC:qX→LT qX
 |(a,b,c,d,e,f,g,i,j)=> .need [yT b,yU b j,yV b j] (.ite (yW a b j) (.need [yT b,yU b j,yV b j,CT a,yW a b j,CU a b j] (.need [CV a b j,CW a b j,CX a b j,CY a b j,BO a b j,BP a b j,BQ a b e j,BR a b e j] (.ite (BT a b j) (.nrm ((wH a),b,c,d,BU a b e j,f,g,i,j) [(0,0),(1,2048),(2,2),(3,3),(4,4),(5,5)]) (.nrm ((wH a),b,c,d,e,f,g,i,j) [(0,0),(1,1),(2,2),(3,3),(4,4),(5,5)])))) (.ext 0 [(0,0),(1,1),(2,2),(3,3),(4,4),(5,5)]))
def ND(s:St):Option qX:=do
 let some ⟨none,.one ⟨false,[.val (.int .i64 a)]⟩⟩:=s.look 5|none
 let some ⟨none,.one ⟨false,[.ptr 0 0]⟩⟩:=s.look 1|none
 let some ⟨none,.one ⟨false,[.val (.int .i64 b)]⟩⟩:=s.look 4|none
 let some ⟨none,.one ⟨false,[.ref 1]⟩⟩:=s.look 3|none
 let some (.box 43 [.val (.string c),.ref 2,.ref 3,.ref 4,.val (.string d),.ref 5]):=s.ent 0|none
 let some (.row false 9 (.str) f):=s.ent 2|none
 let some (.row false 9 (.str) g):=s.ent 3|none
 let some (.row false 9 (.str) i):=s.ent 4|none
 let some (.row false 142 (.pair .str (.sl 122 (.pair (.int .i64) (.pair .str (.int .i64))))) j):=s.ent 5|none
 let some (.row true 122 (.pair (.int .i64) (.pair .str (.int .i64))) e):=s.ent 1|none
 some (a,b,c,d,e,f,g,i,j)
def fO:Lp qX where
 h:=⟨[14,15,16,17,18,19,20,21,22,25,26,27,28,29,30,31,32,33,34,35,36,37,38,39,40,41,42,43,44,45,46,47,3,23,24,5],[0,2,3,4,5],[1],[]⟩
 JL:=afO
 JE:=afN
 XL:=afT
 XE:=afS
 q:=fun j=>match j with | _=> .exit 2
 tags:= [0]
 lt:=BC
 fuel:=fun(a,b,c,d,e,f,g,i,k)=>a.natAbs + b.natAbs + c.size + d.size + e.length + f.length + g.length + i.length + k.length
 fix:=fun(_,b,c,d,_,f,g,i,k) (a,_,_,_,e,_,_,_,_)=>(a,b,c,d,e,f,g,i,k)
 σ:= [(0,0),(2,2),(3,3),(4,4),(5,5),(1,1)]
 rd:=ND
theorem ad2:LoopOk prog (memN [7,8,9,10,11,5,14,15,16,17,18,19,20,21,22,25,26,27,28,29,30,31,32,33,34,35,36,37,38,39,40,41,42,43,44,45,46,47,3,23,24,12,13,4]) fO.F (afn (bj f107 0) 0):=by
 refine Lp.ok (tbl:= []) (lf:= []) aT fO (by kernel_rfl) (LOk.nil _) (fun _=>rfl) (fun _ _=>rfl) ?_ ?_ ?_ ?_ (fun _=>rfl) ?_
 ·intro _;kernel_rfl
 ·intro _;kernel_rfl
 ·intro s x h
  have h:ND s=some x:=h
  unfold ND at h
  repeat' split at h
  all_goals cases h
  constructor<;>repeat(first|refine ab ‹_› rfl ?_|refine aa rfl ‹_› rfl ?_|rfl)
 ·intro _;kernel_rfl
 ·intro _ _;exact(And.intro (And.intro rfl rfl) trivial)
abbrev vc:=Int×avP×avP×List (Int×(avP×Int))×List avP×List avP×List avP×List (avP×(List (Int×(avP×Int))))
section
variable (a:Int)(b c:avP)(d:ajz)(e f g:List avP)(i:afa)
def FX:Int×Int×avP×avP×alv×List avP×List avP×List avP×afZ:=((0:Int),a,b,c,d,e,f,g,i)
def Ho:Bool:=ltI a (↑i.length:Int)
def Hq:Bool:=Lp.fin fO (FX a b c d e f g i)
def Hr:Int:=v8 .i64 (a + (1:Int))
def Hs:ajz:=((Lp.res fO (FX a b c d e f g i)).2.2.2.2.2).1
end
def aiY:vc→List (Nat×SV)
 |(a,_,_,_,_,_,_,_)=> [(4,(aBC a)),(1,(aBB (.ptr 0 0))),(3,(aBB (.ref 1)))]
def aiV:vc→List (Nat×Entry)
 |(_,a,b,c,d,e,f,g)=> [(0,(.box 43 [.val (.string a),.ref 2,.ref 3,.ref 4,.val (.string b),.ref 5])),(2,(aBD d)),(3,(aBD e)),(4,(aBD f)),(5,(aBI g)),(1,(aBM c))]
def aji:Nat→vc→List (Nat×SV)
 |_,(_,_,_,_,_,_,_,_)=> [(3,(aBB (.ref 1)))]
def ajf:Nat→vc→List (Nat×Entry)
 |_,(_,a,b,c,d,e,f,g)=> [(0,(.box 43 [.val (.string a),.ref 2,.ref 3,.ref 4,.val (.string b),.ref 5])),(1,(aBM c)),(2,(aBD d)),(3,(aBD e)),(4,(aBD f)),(5,(aBI g))]
def Fy:vc→LT vc
 |(a,b,c,d,e,f,g,i)=> .ite (Ho a i) (.need [Hq a b c d e f g i] (.nrm ((Hr a),b,c,Hs a b c d e f g i,e,f,g,i) [(0,0),(1,448),(2,2),(3,3),(4,4),(5,5)])) (.ext 0 [(0,0),(1,1),(2,2),(3,3),(4,4),(5,5)])
def Tx(s:St):Option vc:=do
 let some ⟨none,.one ⟨false,[.val (.int .i64 a)]⟩⟩:=s.look 4|none
 let some ⟨none,.one ⟨false,[.ptr 320 0]⟩⟩:=s.look 1|none
 let some ⟨none,.one ⟨false,[.ref 448]⟩⟩:=s.look 3|none
 let some (.box 43 [.val (.string b),.ref 0,.ref 1,.ref 2,.val (.string c),.ref 3]):=s.ent 320|none
 let some (.row false 9 (.str) e):=s.ent 0|none
 let some (.row false 9 (.str) f):=s.ent 1|none
 let some (.row false 9 (.str) g):=s.ent 2|none
 let some (.row false 142 (.pair .str (.sl 122 (.pair (.int .i64) (.pair .str (.int .i64))))) i):=s.ent 3|none
 let some (.row true 122 (.pair (.int .i64) (.pair .str (.int .i64))) d):=s.ent 448|none
 some (a,b,c,d,e,f,g,i)
def lR:Lp vc where
 h:=⟨[7,8,9,10,11,5,14,15,16,17,18,19,20,21,22,25,26,27,28,29,30,31,32,33,34,35,36,37,38,39,40,41,42,43,44,45,46,47,3,23,24,12,13,4],[0,2,3,4,5],[1],[]⟩
 JL:=aiY
 JE:=aiV
 XL:=aji
 XE:=ajf
 q:=fun j=>match j with | _=> .exit 0
 tags:= [0]
 lt:=Fy
 fuel:=fun(a,b,c,d,e,f,g,i)=>a.natAbs + b.size + c.size + d.length + e.length + f.length + g.length + i.length
 fix:=fun(_,b,c,_,e,f,g,i) (a,_,_,d,_,_,_,_)=>(a,b,c,d,e,f,g,i)
 σ:= [(0,320),(2,0),(3,1),(4,2),(5,3),(1,448)]
 rd:=Tx
theorem agZ:LoopOk prog (fun k=>Nat.blt k Tryz.f107.ntmps) lR.F (bj f107 0):=by
 refine Lp.ok (tbl:= []) (lf:= [fO.F]) aT lR (by kernel_rfl) (LOk.allT (l:= [afn (bj f107 0) 0]) (by kernel_rfl) (.cons ad2 (.nil _))) (fun _=>rfl) (fun _ _=>rfl) ?_ ?_ ?_ ?_ (fun _=>rfl) ?_
 ·intro _;kernel_rfl
 ·intro _;kernel_rfl
 ·intro s x h
  have h:Tx s=some x:=h
  unfold Tx at h
  repeat' split at h
  all_goals cases h
  constructor<;>repeat(first|refine ab ‹_› rfl ?_|refine aa rfl ‹_› rfl ?_|rfl)
 ·intro _;kernel_rfl
 ·intro _ _;exact(And.intro rfl trivial)
section
variable (a b:avP)(c d e:List avP)(f:afZ)
def YM:Int×avP×avP×alv×List avP×List avP×List avP×afZ:=((0:Int),a,b,[],c,d,e,f)
def ZY:ajz:=((Lp.res lR (YM a b c d e f)).2.2.2.2).1
def ZZ:Bool:=allT [Lp.fin lR (YM a b c d e f)]
end
def afL:awh
 | [.one ⟨true,[.val (.string a),.ref 0,.ref 1,.ref 2,.val (.string b),.ref 3]⟩],[.row false 9 (.str) c,.row false 9 (.str) d,.row false 9 (.str) e,.row false 142 (.pair (.str) (.sl 122 (.pair (.int .i64) (.pair (.str) (.int .i64))))) f]=>some ⟨aBB (.ref 4),[aBD c,aBD d,aBD e,aBH f],[aBM (ZY a b c d e f)],[ZZ a b c d e f]⟩
 |_,_=>none
def aph:PF prog:=PF.ofG prog [] [lR.F] aT 107 f107 func107 (LOk.fnT (l:= [bj f107 0]) (by kernel_rfl) (.cons agZ (.nil _))) afL (by
 intro _ _ _ h;unfold afL at h;split at h<;>cases h;kernel_rfl)
def anX(a:avP):Bool:= !qj a
def ad5:awh
 | [.one ⟨false,[.val (.string a)]⟩],[]=>some ⟨aBB (.val (.bool (anX a))),[],[],[]⟩
 |_,_=>none
def aod:PF prog:=PF.ofG prog [Vx] [] aT 183 f183 func183 (fun c _=>LOk.nil c) ad5 (by
 intro _ _ _ h;unfold ad5 at h;split at h<;>cases h;kernel_rfl)
def Gp(a:avP):Bool:= !qj a
def WU:awh
 | [.one ⟨false,[.val (.string a)]⟩],[]=>some ⟨aBB (.val (.bool (Gp a))),[],[],[]⟩
 |_,_=>none
def Xg:PF prog:=PF.ofG prog [Vx] [] aT 183 f183 func183 (fun c _=>LOk.nil c) WU (by
 intro _ _ _ h;unfold WU at h;split at h<;>cases h;kernel_rfl)
abbrev ce:=Int×Int×List avP
section
variable (a b:Int)(c:List avP)
def jX:Bool:=ltI a b
def jY:Bool:=leI 0 a
def jZ:Bool:=ltI a (↑c.length:Int)
def ka:Bool:=ltN a.toNat c.length
def kb:Bool:=Gp (v7 c[v5 a]? ByteArray.empty)
def ke:Int:=v8 .i64 (a + (1:Int))
end
def OK:ce→List (Nat×SV)
 |(a,b,_)=> [(8,(aBC a)),(7,(aBC b)),(1,(aBB (.val (.func (.func 183) ⟨[]⟩ ⟨[]⟩)))),(0,(aBB (.ref 0)))]
def OH:ce→List (Nat×Entry)
 |(_,_,a)=> [(0,(aBD a))]
def OQ:Nat→ce→List (Nat×SV)
 |0,(a,_,_)=> [(4,(aBC a))]
 |_,_=>[]
def jB:ce→LT ce
 |(a,b,c)=> .ite (jX a b) (.need [jY a,jZ a c,ka a c] (.ite (kb a c) (.ext 0 [(0,0)]) (.nrm ((ke a),b,c) [(0,0)]))) (.ext 1 [(0,0)])
def ul(s:St):Option ce:=do
 let some ⟨none,.one ⟨false,[.val (.int .i64 a)]⟩⟩:=s.look 8|none
 let some ⟨none,.one ⟨false,[.val (.int .i64 b)]⟩⟩:=s.look 7|none
 let some ⟨none,.one ⟨false,[.val (.func (.func 183) ⟨[]⟩ ⟨[]⟩)]⟩⟩:=s.look 1|none
 let some ⟨none,.one ⟨false,[.ref 0]⟩⟩:=s.look 0|none
 let some (.row false 9 (.str) c):=s.ent 0|none
 some (a,b,c)
def am:Lp ce where
 h:=⟨[9,10,5,11,12,13,14,15,16,17,4,18,8],[0],[],[]⟩
 JL:=OK
 JE:=OH
 XL:=OQ
 XE:=fun _=>OH
 q:=fun j=>match j with | 0=> .ret | _=> .exit 0
 tags:= [0,1]
 lt:=jB
 fuel:=fun(a,b,c)=>a.natAbs + b.natAbs + c.length
 fix:=fun(_,b,c) (a,_,_)=>(a,b,c)
 σ:= [(0,0)]
 rd:=ul
theorem Nt:LoopOk prog (fun k=>Nat.blt k Tryz.f188.ntmps) am.F (bj f188 0):=by
 refine Lp.ok (tbl:= [Xg]) (lf:= []) aT am (by kernel_rfl) (LOk.nil _) (fun _=>rfl) (fun j _=>by unfold am;match j with | 0=>rfl | _ + 1=>rfl) ?_ ?_ ?_ ?_ (fun _=>rfl) ?_
 ·intro _;kernel_rfl
 ·intro _;kernel_rfl
 ·intro s x h
  have h:ul s=some x:=h
  unfold ul at h
  repeat' split at h
  all_goals cases h
  constructor<;>repeat(first|refine ab ‹_› rfl ?_|refine aa rfl ‹_› rfl ?_|rfl)
 ·intro _;kernel_rfl
 ·intro _ _;exact(And.intro (And.intro trivial rfl) trivial)
section
variable (a:List avP)
def qH:Int×Int×List avP:=((0:Int),(↑a.length:Int),a)
def xj:Int:=bif Nat.beq ((Lp.res am (qH a)).1) 0 then ((Lp.res am (qH a)).2).1else(-1:Int)
def xk:Bool:=allT [Lp.fin am (qH a)]
end
def Fk:awh
 | [.one ⟨false,[.ref 0]⟩,.one ⟨false,[.val (.func (.func 183) ⟨[]⟩ ⟨[]⟩)]⟩],[.row false 9 (.str) a]=>some ⟨aBC (xj a),[aBD a],[],[xk a]⟩
 |_,_=>none
def wR:PF prog:=PF.ofG prog [Xg] [am.F] aT 188 f188 func188 (LOk.fnT (l:= [bj f188 0]) (by kernel_rfl) (.cons Nt (.nil _))) Fk (by
 intro _ _ _ h;unfold Fk at h;split at h<;>cases h;kernel_rfl)
def uI(a:List avP):Bool:=leI 0 (xj a)
def uJ(a:List avP):Bool:=allT [xk a]
def Dq:awh
 | [.one ⟨false,[.ref 0]⟩,.one ⟨false,[.val (.func (.func 183) ⟨[]⟩ ⟨[]⟩)]⟩],[.row false 9 (.str) a]=>some ⟨aBB (.val (.bool (uI a))),[aBD a],[],[uJ a]⟩
 |_,_=>none
def uE:PF prog:=PF.ofG prog (T3z [wR]) [] aT 157 f157 func157 (fun c _=>LOk.nil c) Dq (by
 intro _ _ _ h;unfold Dq at h;split at h<;>cases h;kernel_rfl)
def abd(a:List avP):Bool:= !uI a
def abe(a:List avP):Bool:=allT [uJ a]
def ahh:awh
 | [.one ⟨false,[.ref 0]⟩],[.row false 9 (.str) a]=>some ⟨aBB (.val (.bool (abd a))),[aBD a],[],[abe a]⟩
 |_,_=>none
def aql:PF prog:=PF.ofG prog (T3z [aod,uE]) [] aT 148 f148 func148 (fun c _=>LOk.nil c) ahh (by
 intro _ _ _ h;unfold ahh at h;split at h<;>cases h;kernel_rfl)
abbrev uS:=Int×Int×Int×Int×List (Int×(avP×Int))
section
variable (a b c d:Int)(e:ajz)
def vW:Int×avP×Int:=v7 e[v5 a]? ((0:Int),ByteArray.empty,(0:Int))
def Cx:Int:=v8 .i64 (c + v8 .i64 ((1:Int) - uW ((vW a e).1)))
def Na:Bool:=ltI a b
def Nb:Bool:=leI 0 a
def Nc:Bool:=ltI a (↑e.length:Int)
def Nd:Bool:=ltN a.toNat e.length
def Nf:Bool:=bif !Qt ((vW a e).1) (((vW a e).2).1) ((vW a e).2.2)then true else ltI c (uW ((vW a e).1))
def Ng:Int:=v8 .i64 (a + (1:Int))
def Nh:Int:=Cx a c e
def Ni:Int:=aoV d (Cx a c e) (Cx a c e) d
end
def anA:uS→List (Nat×SV)
 |(a,b,c,d,_)=> [(10,(aBC a)),(9,(aBC b)),(8,(aBB (.ref 0))),(4,(aBC c)),(5,(aBC d))]
def anw:uS→List (Nat×Entry)
 |(_,_,_,_,a)=> [(0,(aBG a))]
def anG:Nat→uS→List (Nat×SV)
 |0,(_,_,_,_,_)=> [(2,(aBC 0)),(3,(aBB (.val (.bool false))))]
 |_,(_,_,a,b,_)=> [(4,(aBC a)),(5,(aBC b))]
def KM:uS→LT uS
 |(a,b,c,d,e)=> .ite (Na a b) (.need [Nb a,Nc a e,Nd a e] (.ite (Nf a c e) (.ext 0 [(0,0)]) (.nrm ((Ng a),b,Nh a c e,Ni a c d e,e) [(0,0)]))) (.ext 1 [(0,0)])
def Yi(s:St):Option uS:=do
 let some ⟨none,.one ⟨false,[.val (.int .i64 a)]⟩⟩:=s.look 10|none
 let some ⟨none,.one ⟨false,[.val (.int .i64 b)]⟩⟩:=s.look 9|none
 let some ⟨none,.one ⟨false,[.ref 0]⟩⟩:=s.look 8|none
 let some ⟨none,.one ⟨false,[.val (.int .i64 c)]⟩⟩:=s.look 4|none
 let some ⟨none,.one ⟨false,[.val (.int .i64 d)]⟩⟩:=s.look 5|none
 let some (.row false 122 (.pair (.int .i64) (.pair .str (.int .i64))) e):=s.ent 0|none
 some (a,b,c,d,e)
def jy:Lp uS where
 h:=⟨[11,12,13,7,14,15,16,17,18,19,20,21,22,23,2,3,24,25,26,27,28,29,4,30,31,32,5,33,10],[0],[],[]⟩
 JL:=anA
 JE:=anw
 XL:=anG
 XE:=fun _=>anw
 q:=fun j=>match j with | 0=> .ret | _=> .exit 0
 tags:= [0,1]
 lt:=KM
 fuel:=fun(a,b,c,d,e)=>a.natAbs + b.natAbs + c.natAbs + d.natAbs + e.length
 fix:=fun(_,b,_,_,e) (a,_,c,d,_)=>(a,b,c,d,e)
 σ:= [(0,0)]
 rd:=Yi
theorem akY:LoopOk prog (fun k=>Nat.blt k Tryz.f199.ntmps) jy.F (bj f199 0):=by
 refine Lp.ok (tbl:= [afv,Ny]) (lf:= []) aT jy (by kernel_rfl) (LOk.nil _) (fun _=>rfl) (fun j _=>by unfold jy;match j with | 0=>rfl | _ + 1=>rfl) ?_ ?_ ?_ ?_ (fun _=>rfl) ?_
 ·intro _;kernel_rfl
 ·intro _;kernel_rfl
 ·intro s x h
  have h:Yi s=some x:=h
  unfold Yi at h
  repeat' split at h
  all_goals cases h
  constructor<;>repeat(first|refine ab ‹_› rfl ?_|refine aa rfl ‹_› rfl ?_|rfl)
 ·intro _;kernel_rfl
 ·intro _ _;exact(And.intro (And.intro trivial rfl) trivial)
section
variable (a:alv)
def XS:Int×Int×Int×Int×alv:=((0:Int),(↑a.length:Int),(0:Int),(0:Int),a)
def acV:Bool:=Nat.beq ((Lp.res jy (XS a)).1) 0
def acW:Int×Int×alv:=(Lp.res jy (XS a)).2.2.2
def asq:Int:=bif acV a then(0:Int)else ((acW a).2).1
def afd:Bool:=bif acV a then false else (acW a).1==1
def afe:Bool:=allT [Lp.fin jy (XS a)]
end
def ak8:awh
 | [.one ⟨false,[.ref 0]⟩],[.row false 122 (.pair (.int .i64) (.pair (.str) (.int .i64))) a]=>some ⟨.tup [⟨false,[axb (asq a)]⟩,⟨false,[.val (.bool (afd a))]⟩],[aBG a],[],[afe a]⟩
 |_,_=>none
def afu:PF prog:=PF.ofG prog [afv,Ny] [jy.F] aT 199 f199 func199 (LOk.fnT (l:= [bj f199 0]) (by kernel_rfl) (.cons akY (.nil _))) ak8 (by
 intro _ _ _ h;unfold ak8 at h;split at h<;>cases h;kernel_rfl)
def Mg(a:alv):Bool:=bif afd a then leI (↑a.length:Int) 40 else false
def Mh(a:alv):Bool:=allT [afe a]
def abH:awh
 | [.one ⟨false,[.ref 0]⟩],[.row false 122 (.pair (.int .i64) (.pair (.str) (.int .i64))) a]=>some ⟨aBB (.val (.bool (Mg a))),[aBG a],[],[Mh a]⟩
 |_,_=>none
def UJ:PF prog:=PF.ofG prog (T3z [afu]) [] aT 187 f187 func187 (fun c _=>LOk.nil c) abH (by
 intro _ _ _ h;unfold abH at h;split at h<;>cases h;kernel_rfl)
def aff(a:avP)(b:alv):Bool:=bif qj a then Mg b else false
def afg(a:avP)(b:alv):Bool:=allT [!(qj a&&true)||Mh b]
def ak9:awh
 | [.one ⟨true,[.val (.string a),.ref 0]⟩],[.row false 122 (.pair (.int .i64) (.pair (.str) (.int .i64))) b]=>some ⟨aBB (.val (.bool (aff a b))),[aBG b],[],[afg a b]⟩
 |_,_=>none
def asz:PF prog:=PF.ofG prog (T3z [Vx,UJ]) [] aT 153 f153 func153 (fun c _=>LOk.nil c) ak9 (by
 intro _ _ _ h;unfold ak9 at h;split at h<;>cases h;kernel_rfl)
abbrev rz:=Int×Int×List avP
section
variable (a b:Int)(c:List avP)
def GR:avP:=v7 c[v5 a]? ByteArray.empty
def zq:List avP:=List.drop (v5 0) (List.take a.toNat c)
def Iq:Bool:=ltI a b
def Ey:Bool:=leI 0 a
def Ir:Bool:=ltI a (↑c.length:Int)
def Is:Bool:=ltN a.toNat c.length
end
def It:Bool:=leI 0 0
section
variable (a:Int)(b:List avP)
def Iu:Bool:=leI a (↑b.length:Int)
def Ez:Bool:=nF (GR a b) (zq a b)
def Iv:Bool:=ku (GR a b) (zq a b)
def Pg:Int:=v8 .i64 (a + (1:Int))
end
def akx:rz→List (Nat×SV)
 |(a,b,_)=> [(7,(aBC a)),(6,(aBC b)),(5,(aBB (.ref 0))),(0,(aBB (.ref 0)))]
def ako:rz→List (Nat×Entry)
 |(_,_,a)=> [(0,(aBD a))]
def akP:Nat→rz→List (Nat×SV)
 |0,(_,_,_)=> [(2,(aBB (.val (.bool true))))]
 |_,_=>[]
def GX:rz→LT rz
 |(a,b,c)=> .ite (Iq a b) (.need [Ey a,Ir a c,Is a c] (.need [It,Ey a,Iu a c,Ez a c] (.ite (Iv a c) (.ext 0 [(0,0)]) (.nrm ((Pg a),b,c) [(0,0)])))) (.ext 1 [(0,0)])
def UU(s:St):Option rz:=do
 let some ⟨none,.one ⟨false,[.val (.int .i64 a)]⟩⟩:=s.look 7|none
 let some ⟨none,.one ⟨false,[.val (.int .i64 b)]⟩⟩:=s.look 6|none
 let some ⟨none,.one ⟨false,[.ref 0]⟩⟩:=s.look 5|none
 let some ⟨none,.one ⟨false,[.ref 0]⟩⟩:=s.look 0|none
 let some (.row false 9 (.str) c):=s.ent 0|none
 some (a,b,c)
def gY:Lp rz where
 h:=⟨[8,9,10,11,3,4,12,13,14,15,16,2,17,7],[0],[],[]⟩
 JL:=akx
 JE:=ako
 XL:=akP
 XE:=fun _=>ako
 q:=fun j=>match j with | 0=> .ret | _=> .exit 0
 tags:= [0,1]
 lt:=GX
 fuel:=fun(a,b,c)=>a.natAbs + b.natAbs + c.length
 fix:=fun(_,b,c) (a,_,_)=>(a,b,c)
 σ:= [(0,0)]
 rd:=UU
theorem ain:LoopOk prog (fun k=>Nat.blt k Tryz.f154.ntmps) gY.F (bj f154 0):=by
 refine Lp.ok (tbl:= (T3z [eF])) (lf:= []) aT gY (by kernel_rfl) (LOk.nil _) (fun _=>rfl) (fun j _=>by unfold gY;match j with | 0=>rfl | _ + 1=>rfl) ?_ ?_ ?_ ?_ (fun _=>rfl) ?_
 ·intro _;kernel_rfl
 ·intro _;kernel_rfl
 ·intro s x h
  have h:UU s=some x:=h
  unfold UU at h
  repeat' split at h
  all_goals cases h
  constructor<;>repeat(first|refine ab ‹_› rfl ?_|refine aa rfl ‹_› rfl ?_|rfl)
 ·intro _;kernel_rfl
 ·intro _ _;exact(And.intro (And.intro trivial rfl) trivial)
section
variable (a:List avP)
def ZE:Int×Int×List avP:=((0:Int),(↑a.length:Int),a)
def abj:Bool:=bif Nat.beq ((Lp.res gY (ZE a)).1) 0 then true else false
def abk:Bool:=allT [Lp.fin gY (ZE a)]
end
def ahj:awh
 | [.one ⟨false,[.ref 0]⟩],[.row false 9 (.str) a]=>some ⟨aBB (.val (.bool (abj a))),[aBD a],[],[abk a]⟩
 |_,_=>none
def aqn:PF prog:=PF.ofG prog (T3z [eF]) [gY.F] aT 154 f154 func154 (LOk.fnT (l:= [bj f154 0]) (by kernel_rfl) (.cons ain (.nil _))) ahj (by
 intro _ _ _ h;unfold ahj at h;split at h<;>cases h;kernel_rfl)
abbrev bv:=Int×Int×List (Int×(avP×Int))×List (Int×(avP×Int))
section
variable (a b:Int)(c d:ajz)
def bn:Int×avP×Int:=v7 c[v5 a]? ((0:Int),ByteArray.empty,(0:Int))
def dg:Bool:=leI 7 ((bn a c).1)
def dh:alv:= [((bn a c).1,((bn a c).2).1,(bn a c).2.2)]
def gc:Bool:=ltI a b
def gd:Bool:=leI 0 a
def ge:Bool:=ltI a (↑c.length:Int)
def gf:Bool:=ltN a.toNat c.length
def gg:Bool:= !dg a c||leN (v6 d + v6 (dh a c)) 9223372036854775807
def gh:Bool:= !dg a c||leN ((v6 d + v6 (dh a c)) * 32) 140737488355328
def gi:Bool:=dg a c
def eH:Int:=v8 .i64 (a + (1:Int))
def gj:ajz:=d++dh a c
end
def Kg:bv→List (Nat×SV)
 |(a,b,_,_)=> [(18,(aBC a)),(17,(aBC b)),(16,(aBB (.ref 0))),(3,(aBB (.ref 1)))]
def Kf:bv→List (Nat×Entry)
 |(_,_,a,b)=> [(0,(aBG a)),(1,(aBM b))]
def Ki:Nat→bv→List (Nat×SV)
 |_,(_,_,_,_)=> [(3,(aBB (.ref 1)))]
def fH:bv→LT bv
 |(a,b,c,d)=> .ite (gc a b) (.need [gd a,ge a c,gf a c] (.need [gg a c d,gh a c d] (.ite (gi a c) (.nrm ((eH a),b,c,(gj a c d)) [(0,0),(1,768)]) (.nrm ((eH a),b,c,d) [(0,0),(1,1)])))) (.ext 0 [(0,0),(1,1)])
def qR(s:St):Option bv:=do
 let some ⟨none,.one ⟨false,[.val (.int .i64 a)]⟩⟩:=s.look 18|none
 let some ⟨none,.one ⟨false,[.val (.int .i64 b)]⟩⟩:=s.look 17|none
 let some ⟨none,.one ⟨false,[.ref 192]⟩⟩:=s.look 16|none
 let some ⟨none,.one ⟨false,[.ref 1]⟩⟩:=s.look 3|none
 let some (.row false 122 (.pair (.int .i64) (.pair .str (.int .i64))) c):=s.ent 192|none
 let some (.row true 122 (.pair (.int .i64) (.pair .str (.int .i64))) d):=s.ent 1|none
 some (a,b,c,d)
def ah:Lp bv where
 h:=⟨[19,20,21,7,22,23,24,25,26,27,28,3,29,18],[0],[1],[]⟩
 JL:=Kg
 JE:=Kf
 XL:=Ki
 XE:=fun _=>Kf
 q:=fun j=>match j with | _=> .exit 2
 tags:= [0]
 lt:=fH
 fuel:=fun(a,b,c,d)=>a.natAbs + b.natAbs + c.length + d.length
 fix:=fun(_,b,c,_) (a,_,_,d)=>(a,b,c,d)
 σ:= [(0,192),(1,1)]
 rd:=qR
theorem IY:LoopOk prog (memN [12,13,14,5,15,16,17,18,19,20,21,7,22,23,24,25,26,27,28,3,29,30,11]) ah.F (afn (bj f70 0) 0):=by
 refine Lp.ok (tbl:= []) (lf:= []) aT ah (by kernel_rfl) (LOk.nil _) (fun _=>rfl) (fun _ _=>rfl) ?_ ?_ ?_ ?_ (fun _=>rfl) ?_
 ·intro _;kernel_rfl
 ·intro _;kernel_rfl
 ·intro s x h
  have h:qR s=some x:=h
  unfold qR at h
  repeat' split at h
  all_goals cases h
  constructor<;>repeat(first|refine ab ‹_› rfl ?_|refine aa rfl ‹_› rfl ?_|rfl)
 ·intro _;kernel_rfl
 ·intro _ _;exact(And.intro (And.intro rfl rfl) trivial)
abbrev bJ:=Int×Int×List (avP×(List (Int×(avP×Int))))×List (Int×(avP×Int))
section
variable (a b:Int)(c:afa)(d:ajz)
def cJ:alv:=(v7 c[v5 a]? (xS aa8)).2
def eZ:Int×Int×alv×alv:=((0:Int),(↑(v6 (cJ a c)):Int),cJ a c,d)
def ic:Bool:=ltI a b
def mm:Bool:=leI 0 a
def mn:Bool:=ltI a (↑c.length:Int)
def mo:Bool:=ltN a.toNat c.length
def ie:Bool:=Lp.fin ah (eZ a c d)
def sR:Int:=v8 .i64 (a + (1:Int))
def mp:ajz:=(Lp.res ah (eZ a c d)).2.2.2.2
end
def LZ:bJ→List (Nat×SV)
 |(a,b,_,_)=> [(11,(aBC a)),(10,(aBC b)),(9,(aBB (.ref 0))),(3,(aBB (.ref 1)))]
def LY:bJ→List (Nat×Entry)
 |(_,_,a,b)=> [(0,(aBI a)),(1,(aBM b))]
def Mb:Nat→bJ→List (Nat×SV)
 |_,(_,_,_,_)=> [(3,(aBB (.ref 1)))]
def gX:bJ→LT bJ
 |(a,b,c,d)=> .ite (ic a b) (.need [mm a,mn a c,mo a c] (.need [ie a c d] (.nrm ((sR a),b,c,(mp a c d)) [(0,0),(1,640)]))) (.ext 0 [(0,0),(1,1)])
def sE(s:St):Option bJ:=do
 let some ⟨none,.one ⟨false,[.val (.int .i64 a)]⟩⟩:=s.look 11|none
 let some ⟨none,.one ⟨false,[.val (.int .i64 b)]⟩⟩:=s.look 10|none
 let some ⟨none,.one ⟨false,[.ref 3]⟩⟩:=s.look 9|none
 let some ⟨none,.one ⟨false,[.ref 448]⟩⟩:=s.look 3|none
 let some (.row false 142 (.pair .str (.sl 122 (.pair (.int .i64) (.pair .str (.int .i64))))) c):=s.ent 3|none
 let some (.row true 122 (.pair (.int .i64) (.pair .str (.int .i64))) d):=s.ent 448|none
 some (a,b,c,d)
def aJ:Lp bJ where
 h:=⟨[12,13,14,5,15,16,17,18,19,20,21,7,22,23,24,25,26,27,28,3,29,30,11],[0],[1],[]⟩
 JL:=LZ
 JE:=LY
 XL:=Mb
 XE:=fun _=>LY
 q:=fun j=>match j with | _=> .exit 0
 tags:= [0]
 lt:=gX
 fuel:=fun(a,b,c,d)=>a.natAbs + b.natAbs + c.length + d.length
 fix:=fun(_,b,c,_) (a,_,_,d)=>(a,b,c,d)
 σ:= [(0,3),(1,448)]
 rd:=sE
theorem KL:LoopOk prog (fun k=>Nat.blt k Tryz.f70.ntmps) aJ.F (bj f70 0):=by
 refine Lp.ok (tbl:= []) (lf:= [ah.F]) aT aJ (by kernel_rfl) (LOk.allT (l:= [afn (bj f70 0) 0]) (by kernel_rfl) (.cons IY (.nil _))) (fun _=>rfl) (fun _ _=>rfl) ?_ ?_ ?_ ?_ (fun _=>rfl) ?_
 ·intro _;kernel_rfl
 ·intro _;kernel_rfl
 ·intro s x h
  have h:sE s=some x:=h
  unfold sE at h
  repeat' split at h
  all_goals cases h
  constructor<;>repeat(first|refine ab ‹_› rfl ?_|refine aa rfl ‹_› rfl ?_|rfl)
 ·intro _;kernel_rfl
 ·intro _ _;exact(And.intro rfl trivial)
section
variable (a:afZ)
def ud:Int×Int×afZ×alv:=((0:Int),(↑a.length:Int),a,[])
def uy:ajz:=(Lp.res aJ (ud a)).2.2.2.2
def uz:Bool:=allT [Lp.fin aJ (ud a)]
end
def Dp:awh
 | [.one ⟨true,[.val (.string _x0),.ref 0,.ref 1,.ref 2,.val (.string _x1),.ref 3]⟩],[.row false 9 (.str) a,.row false 9 (.str) b,.row false 9 (.str) c,.row false 142 (.pair (.str) (.sl 122 (.pair (.int .i64) (.pair (.str) (.int .i64))))) d]=>some ⟨aBB (.ref 4),[aBD a,aBD b,aBD c,aBH d],[aBM (uy d)],[uz d]⟩
 |_,_=>none
def Qf:PF prog:=PF.ofG prog [] [aJ.F] aT 70 f70 func70 (LOk.fnT (l:= [bj f70 0]) (by kernel_rfl) (.cons KL (.nil _))) Dp (by
 intro _ _ _ h;unfold Dp at h;split at h<;>cases h;kernel_rfl)
section
variable (a:Int)
def bT:Int:=v8 .i64 (a - v8 .i64 ((↑(0:Nat):Int) - (↑(0:Nat):Int)))
def ED:Bool:= !ltI 0 (bT a)||leI 0 (↑(0:Nat):Int)
def Ab:List avP:=bif ltI 0 (bT a)then List.take (v5 (↑(0:Nat):Int)) (v9 (v5 (bT a)) (ByteArray.mk #[]))else []
def Ac:Bool:=allT [!ltI a 0,!ltI 0 (bT a)||leI 0 0,ED a,!ltI 0 (bT a)||leI (↑(0:Nat):Int) 0,!ltI 0 (bT a)||leI 1 (bT a),!ltI 0 (bT a)||leI (bT a) 9223372036854775807,!ltI 0 (bT a)||leI (bT a * (↑(16:Nat):Int)) 281474976710656,ED a,!ltI 0 (bT a)||leI (↑(0:Nat):Int) (↑(v6 (v9 (v5 (bT a)) (ByteArray.mk #[]))):Int)]
end
def OD:awh
 | [.one ⟨false,[.val (.slice none 0 0)]⟩,.one ⟨false,[.val (.int .i64 a)]⟩],[]=>some ⟨aBB (.ref 0),[],[aBJ (Ab a)],[Ac a]⟩
 |_,_=>none
def FA:PF prog:=PF.ofG prog [PF.raw prog] [] aT 184 f184 func184 (fun c _=>LOk.nil c) OD (by
 intro _ _ _ h;unfold OD at h;split at h<;>cases h;kernel_rfl)
abbrev ef:=Int×Int×Int×List (List avP)
section
variable (a b c:Int)(d:ap9)
def iq:Int:=v8 .i64 (c + (↑(v6 (v7 d[v5 a]? (xS (CTy.sl 9 CTy.str)))):Int))
def rc:Bool:=ltI a b
def vY:Bool:=leI 0 a
def vZ:Bool:=ltI a (↑d.length:Int)
def wa:Bool:=ltN a.toNat d.length
def wb:Bool:= !ltI (iq a c d) 0
def CN:Int:=v8 .i64 (a + (1:Int))
def wc:Int:=iq a c d
end
def Xw:ef→List (Nat×SV)
 |(a,b,c,_)=> [(11,(aBC a)),(10,(aBC b)),(9,(aBB (.ref 0))),(3,(aBC c))]
def Xu:ef→List (Nat×Entry)
 |(_,_,_,a)=> [(0,(.row false 40 (CTy.sl 9 CTy.str) a))]
def XA:Nat→ef→List (Nat×SV)
 |_,(_,_,a,_)=> [(3,(aBC a))]
def qp:ef→LT ef
 |(a,b,c,d)=> .ite (rc a b) (.need [vY a,vZ a d,wa a d] (.need [wb a c d] (.nrm ((CN a),b,wc a c d,d) [(0,0)]))) (.ext 0 [(0,0)])
def Cd(s:St):Option ef:=do
 let some ⟨none,.one ⟨false,[.val (.int .i64 a)]⟩⟩:=s.look 11|none
 let some ⟨none,.one ⟨false,[.val (.int .i64 b)]⟩⟩:=s.look 10|none
 let some ⟨none,.one ⟨false,[.ref 0]⟩⟩:=s.look 9|none
 let some ⟨none,.one ⟨false,[.val (.int .i64 c)]⟩⟩:=s.look 3|none
 let some (.row false 40 (.sl 9 .str) d):=s.ent 0|none
 some (a,b,c,d)
def bY:Lp ef where
 h:=⟨[12,13,14,5,15,16,17,18,3,19,20,21,22,11],[0],[],[]⟩
 JL:=Xw
 JE:=Xu
 XL:=XA
 XE:=fun _=>Xu
 q:=fun j=>match j with | _=> .exit 0
 tags:= [0]
 lt:=qp
 fuel:=fun(a,b,c,d)=>a.natAbs + b.natAbs + c.natAbs + d.length
 fix:=fun(_,b,_,d) (a,_,c,_)=>(a,b,c,d)
 σ:= [(0,0)]
 rd:=Cd
theorem Vr:LoopOk prog (fun k=>Nat.blt k Tryz.f149.ntmps) bY.F (bj f149 0):=by
 refine Lp.ok (tbl:= [FA]) (lf:= []) aT bY (by kernel_rfl) (LOk.nil _) (fun _=>rfl) (fun _ _=>rfl) ?_ ?_ ?_ ?_ (fun _=>rfl) ?_
 ·intro _;kernel_rfl
 ·intro _;kernel_rfl
 ·intro s x h
  have h:Cd s=some x:=h
  unfold Cd at h
  repeat' split at h
  all_goals cases h
  constructor<;>repeat(first|refine ab ‹_› rfl ?_|refine aa rfl ‹_› rfl ?_|rfl)
 ·intro _;kernel_rfl
 ·intro _ _;exact(And.intro rfl trivial)
abbrev eg:=Int×Int×List (List avP)×List avP
section
variable (a b:Int)(c:ap9)(d:List avP)
def eK:List avP:=v7 c[v5 a]? (xS (CTy.sl 9 CTy.str))
def re:Bool:=ltI a b
def wd:Bool:=leI 0 a
def we:Bool:=ltI a (↑c.length:Int)
def wg:Bool:=ltN a.toNat c.length
def wh:Bool:=leN (v6 d + v6 (eK a c)) 9223372036854775807
def wi:Bool:=leN ((v6 d + v6 (eK a c)) * 16) 140737488355328
def CO:Int:=v8 .i64 (a + (1:Int))
def wj:List avP:=d++eK a c
end
def Xx:eg→List (Nat×SV)
 |(a,b,_,_)=> [(27,(aBC a)),(26,(aBC b)),(25,(aBB (.ref 0))),(6,(aBB (.ref 1)))]
def Xv:eg→List (Nat×Entry)
 |(_,_,a,b)=> [(0,(.row false 40 (CTy.sl 9 CTy.str) a)),(1,(aBJ b))]
def XB:Nat→eg→List (Nat×SV)
 |_,(_,_,_,_)=> [(6,(aBB (.ref 1)))]
def qq:eg→LT eg
 |(a,b,c,d)=> .ite (re a b) (.need [wd a,we a c,wg a c] (.need [wh a c d,wi a c d] (.nrm ((CO a),b,c,(wj a c d)) [(0,0),(1,448)]))) (.ext 0 [(0,0),(1,1)])
def Ce(s:St):Option eg:=do
 let some ⟨none,.one ⟨false,[.val (.int .i64 a)]⟩⟩:=s.look 27|none
 let some ⟨none,.one ⟨false,[.val (.int .i64 b)]⟩⟩:=s.look 26|none
 let some ⟨none,.one ⟨false,[.ref 0]⟩⟩:=s.look 25|none
 let some ⟨none,.one ⟨false,[.ref 576]⟩⟩:=s.look 6|none
 let some (.row false 40 (.sl 9 .str) c):=s.ent 0|none
 let some (.row true 9 (.str) d):=s.ent 576|none
 some (a,b,c,d)
def bZ:Lp eg where
 h:=⟨[28,29,30,8,31,32,33,6,34,27],[0],[1],[]⟩
 JL:=Xx
 JE:=Xv
 XL:=XB
 XE:=fun _=>Xv
 q:=fun j=>match j with | _=> .exit 2
 tags:= [0]
 lt:=qq
 fuel:=fun(a,b,c,d)=>a.natAbs + b.natAbs + c.length + d.length
 fix:=fun(_,b,c,_) (a,_,_,d)=>(a,b,c,d)
 σ:= [(0,0),(1,576)]
 rd:=Ce
theorem Vs:LoopOk prog (fun k=>Nat.blt k Tryz.f149.ntmps) bZ.F (bj f149 1):=by
 refine Lp.ok (tbl:= [FA]) (lf:= []) aT bZ (by kernel_rfl) (LOk.nil _) (fun _=>rfl) (fun _ _=>rfl) ?_ ?_ ?_ ?_ (fun _=>rfl) ?_
 ·intro _;kernel_rfl
 ·intro _;kernel_rfl
 ·intro s x h
  have h:Ce s=some x:=h
  unfold Ce at h
  repeat' split at h
  all_goals cases h
  constructor<;>repeat(first|refine ab ‹_› rfl ?_|refine aa rfl ‹_› rfl ?_|rfl)
 ·intro _;kernel_rfl
 ·intro _ _;exact(And.intro rfl trivial)
section
variable (a:ap9)
def yj:Int×Int×Int×ap9:=((0:Int),(↑a.length:Int),(0:Int),a)
def yk:Int:=((Lp.res bY (yj a)).2.2.2).1
def ym:Int×Int×ap9×List avP:=((0:Int),(↑a.length:Int),a,Ab (yk a))
def FB:List avP:=(Lp.res bZ (ym a)).2.2.2.2
def FC:Bool:=allT [Lp.fin bY (yj a),Ac (yk a),Lp.fin bZ (ym a)]
end
def OC:awh
 | [.one ⟨false,[.ref 0]⟩],[.row false 40 (.sl 9 (.str)) a]=>some ⟨aBB (.ref 1),[aBV a],[aBJ (FB a)],[FC a]⟩
 |_,_=>none
def aaL:PF prog:=PF.ofG prog [FA] [bY.F,bZ.F] aT 149 f149 func149 (LOk.fnT (l:= [bj f149 0,bj f149 1]) (by kernel_rfl) (.cons Vr (.cons Vs (.nil _)))) OC (by
 intro _ _ _ h;unfold OC at h;split at h<;>cases h;kernel_rfl)
def atZ(l:avO)(k:Int):Int:=v7 l[v5 k]? 0
def atr(a b:Int):Int:=bif a==1 then b else 0
def orI(a b:Int):Int:=bif a==1 then 1 else b
def AG(bs:List TM)(x:IN)(stk:avO):avO:=stk.drop (stk.length - (tkI bs x).toNat)
def aua(bs:List TM)(x:IN)(stk:avO):avO:=stk.take (stk.length - (tkI bs x).toNat)
def ad3(bs:List TM)(inp:avO)(x:IN)(xs:avO)(ss:List BS3)(ar:avO):Int:=bif x.1==1 then x.2 else bif x.1==2 then atZ inp x.2 else bif x.1==3 then atZ xs x.2 else bif x.1==4 then 1 - atZ ar 0 else bif x.1==5 then atr (atZ ar 0) (atZ ar 1)else bif x.1==6 then orI (atZ ar 0) (atZ ar 1)else bif x.1==7 then avI (gU bs x.2.toNat).1 (gU bs x.2.toNat).2.2 ar (stAt ss x.2.toNat)else 0
def ayZ(os:avO)(z:Int):avO:=bif z==0 then v9 os.length 0 else os
def auj(bs:List TM)(inp:avO)(x:IN)(stk xs:avO)(ss:List BS3):avO:=bif gvI x==1 then aua bs x stk++ [ad3 bs inp x xs ss (AG bs x stk)]else aua bs x stk
def awT(bs:List TM)(x:IN)(stk xs:avO):avO:=bif x.1==8 then xs.set x.2.toNat (atZ (AG bs x stk) 0)else xs
def awv(bs:List TM)(inp:avO)(x:IN)(stk xs os:avO):avO:=bif x.1==9 then os.set x.2.toNat (atZ (AG bs x stk) 0)else bif x.1==10 then ayZ os (atZ inp x.2)else bif x.1==11 then ayZ os (atZ xs x.2)else os
def atx(bs:List TM)(x:IN)(stk:avO)(ss:List BS3):List BS3:=bif x.1==7 then ss.set x.2.toNat (Vu (gU bs x.2.toNat).1 (gU bs x.2.toNat).2.2 (AG bs x stk) (stAt ss x.2.toNat))else ss
theorem aoU{i v o:Int}{bs:List TM}{x:IN}(hi:0≤i∧i≤20)(hv:0≤v∧v≤20)(ho:0≤o∧o≤20)(hl:bs.length≤2000)(h:Zz i v o bs x=true):
  (x.1=1∧(x.2=0∨x.2=1))∨(x.1=2∧0≤x.2∧x.2 < i)∨(x.1=3∧0≤x.2∧x.2 < v)∨x.1=4∨x.1=5∨x.1=6∨(x.1=7∧0≤x.2∧x.2 < bs.length)∨
  (x.1=8∧0≤x.2∧x.2 < v)∨(x.1=9∧0≤x.2∧x.2 < o)∨(x.1=10∧0≤x.2∧x.2 < i)∨(x.1=11∧0≤x.2∧x.2 < v):=by
 have w1:IntKind.i64.wrap (i - 1)=i - 1:=aM (by omega) (by omega)
 have w2:IntKind.i64.wrap (v - 1)=v - 1:=aM (by omega) (by omega)
 have w3:IntKind.i64.wrap (o - 1)=o - 1:=aM (by omega) (by omega)
 have w4:IntKind.i64.wrap ((bs.length:Int) - 1)=bs.length - 1:=aM (by omega) (by omega)
 simp only [Zz,YY,aw,w1,w2,w3,w4]at h
 by_cases h1:x.1=1
 ·simp [h1,Bool.cond_eq_ite]at h;omega
 by_cases h2:x.1=2
 ·simp [h2,Bool.cond_eq_ite]at h;omega
 by_cases h3:x.1=3
 ·simp [h3,Bool.cond_eq_ite]at h;omega
 by_cases h4:x.1=4
 ·omega
 by_cases h5:x.1=5
 ·omega
 by_cases h6:x.1=6
 ·omega
 by_cases h7:x.1=7
 ·simp [h7,Bool.cond_eq_ite]at h;omega
 by_cases h8:x.1=8
 ·simp [h8,Bool.cond_eq_ite]at h;omega
 by_cases h9:x.1=9
 ·simp [h9,Bool.cond_eq_ite]at h;omega
 by_cases h10:x.1=10
 ·simp [h10,Bool.cond_eq_ite]at h;omega
 by_cases h11:x.1=11
 ·simp [h11,Bool.cond_eq_ite]at h;omega
 simp [h1,h2,h3,h4,h5,h6,h7,h8,h9,h10,h11]at h
theorem Wc{i v o:Int}{bs:List TM}: ∀ (l1 l2:List IN) (n:Int) (acc:avO),hgt i v o bs (l1++l2) n acc=match hgt i v o bs l1 n acc with | some (m,a)=>hgt i v o bs l2 m a | none=>none
 | [],l2,n,acc=>rfl
 |x::r,l2,n,acc=>by
  simp only [List.cons_append,hgt]
  cases (Zz i v o bs x&&(leI (tkI bs x) n&&leI (n - tkI bs x + gvI x) 40))with
  |false=>rfl
  |true=>simp only [cond_true];exact Wc r l2 _ _
theorem ayI{i v o:Int}{bs:List TM}{st:List IN}(jb:alw i v o bs st=true){k:Nat}(hk:k < st.length){n:Int}{L:avO}(h:hgt i v o bs (st.take k) 0 []=some (n,L)):
  Zz i v o bs st[k]=true∧tkI bs st[k]≤n∧n - tkI bs st[k] + gvI st[k]≤40∧hgt i v o bs (st.take (k + 1)) 0 []=some (n - tkI bs st[k] + gvI st[k],L++ [n - tkI bs st[k] + gvI st[k]]):=by
 have hs:st=st.take k++st[k]::st.drop (k + 1):=by rw [List.getElem_cons_drop,List.take_append_drop]
 have h1:=Wc (i:=i) (v:=v) (o:=o) (bs:=bs) (st.take k) (st[k]::st.drop (k + 1)) 0 []
 rw [← hs,h]at h1
 simp only [hgt]at h1
 cases hc:(Zz i v o bs st[k]&&(leI (tkI bs st[k]) n&&leI (n - tkI bs st[k] + gvI st[k]) 40))with
 |false=>
  rw [hc]at h1
  simp only [alw,h1,cond_false]at jb
  cases jb
 |true=>
  have h2:=Wc (i:=i) (v:=v) (o:=o) (bs:=bs) (st.take k) [st[k]] 0 []
  rw [h]at h2
  simp only [hgt,hc,cond_true]at h2
  simp only [q9,Gt]at hc
  refine⟨hc.1,hc.2.1,hc.2.2,?_⟩
  rw [← h2,List.take_succ_eq_append_getElem hk]
theorem aqA{i v o:Int}{bs:List TM}: ∀ (l:List IN) (n:Int) (acc:avO) (m:Int) (L:avO),0≤n∧n≤40→hgt i v o bs l n acc=some (m,L)→0≤m∧m≤40
 | [],n,acc,m,L,hn,h=>by simp only [hgt,q8,Prod.mk.injEq]at h;omega
 |x::r,n,acc,m,L,hn,h=>by
  simp only [hgt]at h
  have hg:=arg x
  cases hc:(Zz i v o bs x&&(leI (tkI bs x) n&&leI (n - tkI bs x + gvI x) 40))with
  |false=>rw [hc]at h;cases h
  |true=>
   rw [hc,cond_true]at h
   simp only [q9,Gt]at hc
   exact aqA r _ _ m L (by omega) h
theorem axa{i v o:Int}{bs:List TM}: ∀ (l:List IN) (n:Int) (acc:avO) (m:Int) (L:avO),hgt i v o bs l n acc=some (m,L)→ ∃ r,L=acc++r
 | [],n,acc,m,L,h=>by simp only [hgt,q8,Prod.mk.injEq]at h;exact⟨[],by rw [List.append_nil];exact h.2.symm⟩
 |x::r,n,acc,m,L,h=>by
  simp only [hgt]at h
  cases hc:(Zz i v o bs x&&(leI (tkI bs x) n&&leI (n - tkI bs x + gvI x) 40))with
  |false=>rw [hc]at h;cases h
  |true=>
   rw [hc,cond_true]at h
   obtain⟨q,hq⟩:=axa r _ _ m L h
   exact⟨(n - tkI bs x + gvI x)::q,by rw [hq,List.append_assoc];rfl⟩
theorem aw8{i v o:Int}{bs:List TM}{st:List IN}(jb:alw i v o bs st=true): ∀ (k:Nat),k≤st.length→
  ∃ n L,hgt i v o bs (st.take k) 0 []=some (n,L)∧(0≤n∧n≤40)∧(k=0→n=0)∧(0 < k→atZ (ayH i v o bs st) ((k:Int) - 1)=n)
 |0,_=>⟨0,[],by simp [hgt],by omega,fun _=>rfl,fun h=>by omega⟩
 |k + 1,hk=>by
  obtain⟨n,L,h1,h2,_,_⟩:=aw8 jb k (by omega)
  obtain⟨g1,g2,g3,g4⟩:=ayI jb (k:=k) (by omega) h1
  refine⟨_,_,g4,aqA _ _ _ _ _ (by omega) g4,fun h=>by omega,fun _=> ?_⟩
  have hs:st=st.take (k + 1)++st.drop (k + 1):=(List.take_append_drop ..).symm
  have hw:=Wc (i:=i) (v:=v) (o:=o) (bs:=bs) (st.take (k + 1)) (st.drop (k + 1)) 0 []
  rw [← hs,g4]at hw
  simp only at hw
  unfold ayH
  cases hh:hgt i v o bs st 0 []with
  |none=>
   simp only [alw,hh]at jb
   cases jb
  |some r=>
   obtain⟨m,out⟩:=r
   rw [hh]at hw
   obtain⟨q,hq⟩:=axa _ _ _ _ _ hw.symm
   have hl:=aw9 _ _ _ _ _ h1
   rw [j8,List.length_nil]at hl
   simp only [atZ]
   have hi:(((k + 1:Nat):Int) - 1).toNat=L.length:=by omega
   rw [hi,hq,List.append_assoc,List.getElem?_append_right (Nat.le_refl _),Nat.sub_self]
   rfl
structure OkM (i v o:Int) (bs:List TM) (st:List IN) (k:Int) (stk xs os:avO) (ss:List BS3):Prop where
 lo:0≤k
 hi:k≤st.length
 hg: ∃ L,hgt i v o bs (st.take k.toNat) 0 []=some ((stk.length:Int),L)
 bt: ∀ z∈stk,z=0∨z=1
 vl:bitsB v xs=true
 ou:bitsB o os=true
 sl:ss.length=bs.length
 sp: ∀ k,k < bs.length→possAt bs ss k=true
theorem OT{l:avO}(h: ∀ z∈l,z=0∨z=1)(k:Int):atZ l k=0∨atZ l k=1:=by
 unfold atZ
 cases hk:l[k.toNat]? with
 |none=>exact .inl rfl
 |some z=>exact h z (List.mem_of_getElem? hk)
theorem anM{n:Int}{l:avO}(h:bitsB n l=true)(k:Nat){z:Int}(hz:z=0∨z=1):bitsB n (l.set k z)=true:=by
 obtain⟨h1,h2⟩:=ct.1 h
 refine ct.2 ⟨fun y hy=> ?_,by rw [List.length_set];exact h2⟩
 rcases List.mem_or_eq_of_mem_set hy with hy | rfl
 ·exact h1 y hy
 ·exact hz
theorem auv{n:Int}{l:avO}(h:bitsB n l=true)(z:Int):bitsB n (ayZ l z)=true:=by
 unfold ayZ
 cases z==0 with
 |false=>exact h
 |true=>
  refine ct.2 ⟨fun y hy=> .inl (qqq hy),?_⟩
  simp only [cond_true,List.length_replicate]
  exact(ct.1 h).2
theorem axu{k n a b c:Int}{s:avP}{l:avO}(hB:MU k s n=true)(hP:possB k n a b c=true)(hA:bitsB (takesK k) l=true):gP k n a b c l=0∨gP k n a b c l=1:=by
 obtain⟨hk,hn,_⟩:=agM hB
 have hb:=(ajZ hP hn).2.1
 have hc:=(ajZ hP hn).2.2
 have hp:=hP
 rcases kinds hk with rfl | rfl | rfl | rfl | rfl | rfl
 ·obtain⟨x,rfl,hx⟩:=afU hA
  rcases hx with rfl | rfl <;> simp only [dJ,lv,oM,iy,oN,oO,oP,oQ,nh,gP,kT,kU,kV,nE,kr,lu,ng,oK,oL,rm,rn,rp,rq,lD] <;> simp [Bool.cond_eq_ite] <;> (repeat' split) <;> omega
 ·obtain⟨x,rfl,hx⟩:=afU hA
  rcases hx with rfl | rfl <;> simp only [dJ,lv,oM,iy,oN,oO,oP,oQ,nh,gP,kT,kU,kV,nE,kr,lu,ng,oK,oL,rm,rn,rp,rq,lD] <;> simp [Bool.cond_eq_ite] <;> (repeat' split) <;> omega
 ·obtain⟨x,rfl,hx⟩:=afU hA
  simp [possB,ed,aw]at hp
  rcases hx with rfl | rfl <;> simp only [dJ,lv,oM,iy,oN,oO,oP,oQ,nh,gP,kT,kU,kV,nE,kr,lu,ng,oK,oL,rm,rn,rp,rq,lD] <;> simp [Bool.cond_eq_ite] <;> (repeat' split) <;> omega
 ·obtain⟨x,y,rfl,hx,hy⟩:=afV hA
  simp [possB,ed,aw]at hp
  rcases hx with rfl | rfl <;> rcases hy with rfl | rfl <;> simp only [dJ,lv,oM,iy,oN,oO,oP,oQ,nh,gP,kT,kU,kV,nE,kr,lu,ng,oK,oL,rm,rn,rp,rq,lD] <;> simp [Bool.cond_eq_ite] <;> (repeat' split) <;> omega
 ·obtain⟨x,y,rfl,hx,hy⟩:=afV hA
  rcases hb with rfl | rfl <;> rcases hc with rfl | rfl <;> rcases hx with rfl | rfl <;> rcases hy with rfl | rfl <;> simp only [dJ,lv,oM,iy,oN,oO,oP,oQ,nh,gP,kT,kU,kV,nE,kr,lu,ng,oK,oL,rm,rn,rp,rq,lD] <;> simp [Bool.cond_eq_ite] <;> (repeat' split) <;> omega
 ·obtain⟨x,y,rfl,hx,hy⟩:=afV hA
  rcases hb with rfl | rfl <;> rcases hc with rfl | rfl <;> rcases hx with rfl | rfl <;> rcases hy with rfl | rfl <;> simp only [dJ,lv,oM,iy,oN,oO,oP,oQ,nh,gP,kT,kU,kV,nE,kr,lu,ng,oK,oL,rm,rn,rp,rq,lD] <;> simp [Bool.cond_eq_ite] <;> (repeat' split) <;> omega
theorem ayd{bs:List TM}{x:IN}{stk:avO}(hb: ∀ z∈stk,z=0∨z=1)(ht:tkI bs x≤stk.length):bitsB (tkI bs x) (AG bs x stk)=true:=by
 have h0:=(ang bs x).1
 refine ct.2 ⟨fun z hz=>hb z (List.mem_of_mem_drop hz),?_⟩
 simp only [AG,List.length_drop]
 omega
theorem aub{bs:List TM}{x:IN}{stk:avO}(ht:tkI bs x≤stk.length):((aua bs x stk).length:Int)=stk.length - tkI bs x:=by
 have h0:=(ang bs x).1
 simp only [aua,j8]
 omega
theorem axs{i v o:Int}{bs:List TM}{st:List IN}{inp:avO}{k:Int}{stk xs os:avO}{ss:List BS3}(hC:Bt i v o bs st=true)(Kj:bitsB i inp=true)
  (h:OkM i v o bs st k stk xs os ss) (fC:k < st.length) {x:IN} (hx:st[k.toNat]? =some x):
  Zz i v o bs x=true∧tkI bs x≤stk.length∧bitsB (tkI bs x) (AG bs x stk)=true∧(ad3 bs inp x xs ss (AG bs x stk)=0∨ad3 bs inp x xs ss (AG bs x stk)=1)∧stk.length≤40∧
  OkM i v o bs st (k + 1) (auj bs inp x stk xs ss) (awT bs x stk xs) (awv bs inp x stk xs os) (atx bs x stk ss):=by
 simp only [Bt,q9]at hC
 obtain⟨hr,hB,jb⟩:=hC
 obtain⟨ri,rv,ro,rb,rs⟩:=adc.1 hr
 have h0:=h.lo
 have hk:k.toNat < st.length:=by omega
 have hxe:st[k.toNat]=x:=by rw [List.getElem?_eq_getElem hk]at hx;exact Option.some.inj hx
 obtain⟨L,hL⟩:=h.hg
 obtain⟨g1,g2,g3,g4⟩:=ayI jb hk hL
 rw [hxe]at g1 g2 g3 g4
 have hab:=ayd h.bt g2
 have hrl:=aub g2
 have t2:=ang bs x
 have v2:=arg x
 have hvb:=(ct.1 h.vl).1
 have hob:=(ct.1 h.ou).1
 have hib:=(ct.1 Kj).1
 have hargb:=(ct.1 hab).1
 have ha0:=OT hargb 0
 have ha1:=OT hargb 1
 have hblk:x.1=7→0≤x.2∧x.2 < bs.length→gP (gU bs x.2.toNat).1 (gU bs x.2.toNat).2.2 (stAt ss x.2.toNat).1 (stAt ss x.2.toNat).2.1 (stAt ss x.2.toNat).2.2 (AG bs x stk)=0∨gP (gU bs x.2.toNat).1 (gU bs x.2.toNat).2.2 (stAt ss x.2.toNat).1 (stAt ss x.2.toNat).2.1 (stAt ss x.2.toNat).2.2 (AG bs x stk)=1:=fun h7 hr7=>by
  have hlt7:x.2.toNat < bs.length:=by omega
  have hg7:gU bs x.2.toNat=bs[x.2.toNat]:=by simp only [gU,List.getElem?_eq_getElem hlt7];rfl
  have hB7:MU (gU bs x.2.toNat).1 (gU bs x.2.toNat).2.1 (gU bs x.2.toNat).2.2=true:=by rw [hg7];exact List.all_eq_true.1 hB _ (List.getElem_mem hlt7)
  have htk:tkI bs x=takesK (gU bs x.2.toNat).1:=by simp [tkI,Qm,qT,qU,za,h7,takesK,gU]
  exact axu hB7 (h.sp _ hlt7) (by rw [← htk];exact hab)
 have hnx:x.1=7→0≤x.2∧x.2 < bs.length→possB (gU bs x.2.toNat).1 (gU bs x.2.toNat).2.2 (Vu (gU bs x.2.toNat).1 (gU bs x.2.toNat).2.2 (AG bs x stk) (stAt ss x.2.toNat)).1 (Vu (gU bs x.2.toNat).1 (gU bs x.2.toNat).2.2 (AG bs x stk) (stAt ss x.2.toNat)).2.1 (Vu (gU bs x.2.toNat).1 (gU bs x.2.toNat).2.2 (AG bs x stk) (stAt ss x.2.toNat)).2.2=true:=fun h7 hr7=>by
  have hlt7:x.2.toNat < bs.length:=by omega
  have hg7:gU bs x.2.toNat=bs[x.2.toNat]:=by simp only [gU,List.getElem?_eq_getElem hlt7];rfl
  have hB7:MU (gU bs x.2.toNat).1 (gU bs x.2.toNat).2.1 (gU bs x.2.toNat).2.2=true:=by rw [hg7];exact List.all_eq_true.1 hB _ (List.getElem_mem hlt7)
  have htk:tkI bs x=takesK (gU bs x.2.toNat).1:=by simp [tkI,Qm,qT,qU,za,h7,takesK,gU]
  exact(ave hB7 (h.sp _ hlt7) (by rw [← htk];exact hab)).2
 have hval:ad3 bs inp x xs ss (AG bs x stk)=0∨ad3 bs inp x xs ss (AG bs x stk)=1:=by
  rcases aoU ri rv ro rb g1 with⟨e,q⟩ | ⟨e,q⟩ | ⟨e,q⟩ | e | e | e | ⟨e,q⟩ | ⟨e,q⟩ | ⟨e,q⟩ | ⟨e,q⟩ | ⟨e,q⟩
  ·simp only [ad3,e];exact q
  ·simp only [ad3,e];exact OT hib _
  ·simp only [ad3,e];exact OT hvb _
  ·simp only [ad3,e]
   show 1 - atZ (AG bs x stk) 0=0∨1 - atZ (AG bs x stk) 0=1
   omega
  ·simp only [ad3,e]
   show atr (atZ (AG bs x stk) 0) (atZ (AG bs x stk) 1)=0∨atr (atZ (AG bs x stk) 0) (atZ (AG bs x stk) 1)=1
   rcases ha0 with q | q <;> rw [q]
   ·exact .inl rfl
   ·exact ha1
  ·simp only [ad3,e]
   show orI (atZ (AG bs x stk) 0) (atZ (AG bs x stk) 1)=0∨orI (atZ (AG bs x stk) 0) (atZ (AG bs x stk) 1)=1
   rcases ha0 with q | q <;> rw [q]
   ·exact ha1
   ·exact .inr rfl
  ·have:=hblk e q
   simp only [ad3,e]
   exact this
  all_goals (simp only [ad3,e];exact .inl rfl)
 refine⟨g1,g2,hab,hval,?_,⟨by omega,by omega,?_,?_,?_,?_,?_,?_⟩⟩
 ·have:=aqA _ _ _ _ _ (by omega) hL
  omega
 ·refine⟨L++ [stk.length - tkI bs x + gvI x],?_⟩
  have hs:(k + 1).toNat=k.toNat + 1:=by omega
  rw [hs,g4]
  have:((auj bs inp x stk xs ss).length:Int)=stk.length - tkI bs x + gvI x:=by
   unfold auj
   by_cases hgv:gvI x=1
   ·simp only [hgv,beq_self_eq_true,cond_true,j7,j6];omega
   ·have h1:(gvI x==1)=false:=by simpa using hgv
    rw [h1,cond_false];omega
  rw [this]
 ·intro z hz
  unfold auj at hz
  have hr: ∀ z∈aua bs x stk,z=0∨z=1:=fun z hz=>h.bt z (List.mem_of_mem_take hz)
  cases hgv:(gvI x==1)with
  |false=>rw [hgv]at hz;exact hr z hz
  |true=>
   rw [hgv,cond_true]at hz
   rcases List.mem_append.1 hz with hz | hz
   ·exact hr z hz
   ·rw [qqw.1 hz];exact hval
 ·unfold awT
  cases x.1==8 with
  |false=>exact h.vl
  |true=>exact anM h.vl _ ha0
 ·unfold awv
  cases x.1==9 with
  |true=>exact anM h.ou _ ha0
  |false=>
   cases x.1==10 with
   |true=>exact auv h.ou _
   |false=>
    cases x.1==11 with
    |true=>exact auv h.ou _
    |false=>exact h.ou
 ·unfold atx
  cases x.1==7 with
  |false=>exact h.sl
  |true=>simp only [cond_true,List.length_set];exact h.sl
 ·intro k2 hk2
  unfold atx
  cases h7:x.1==7 with
  |false=>exact h.sp k2 hk2
  |true=>
   simp only [cond_true]
   have h7:x.1=7:=by simpa using h7
   have hq:0≤x.2∧x.2 < bs.length:=by
    rcases aoU ri rv ro rb g1 with⟨e,q⟩ | ⟨e,q⟩ | ⟨e,q⟩ | e | e | e | ⟨e,q⟩ | ⟨e,q⟩ | ⟨e,q⟩ | ⟨e,q⟩ | ⟨e,q⟩ <;> first | exact q | omega
   by_cases he:k2=x.2.toNat
   ·subst he
    have:=hnx h7 hq
    have hl:x.2.toNat < ss.length:=by rw [h.sl];omega
    unfold possAt
    have hs:stAt (ss.set x.2.toNat (Vu (gU bs x.2.toNat).1 (gU bs x.2.toNat).2.2 (AG bs x stk) (stAt ss x.2.toNat))) x.2.toNat=Vu (gU bs x.2.toNat).1 (gU bs x.2.toNat).2.2 (AG bs x stk) (stAt ss x.2.toNat):=by
     simp only [stAt,List.getElem?_set_self hl,Option.getD_some]
    rw [hs];exact this
   ·have hs: ∀ y,stAt (ss.set x.2.toNat y) k2=stAt ss k2:=fun y=>by
     simp only [stAt,List.getElem?_set_ne (Ne.symm he)]
    unfold possAt
    rw [hs];exact h.sp k2 hk2
abbrev LN:=avP×List TM
def lM(l:List avP)(s:avP):Bool:=l.any fun k=>k.toList==s.toList
def EC(l:List avP)(s:avP):Nat:=(l.takeWhile fun k=> !(k.toList==s.toList)).length
def eA(l:List avP)(s:avP):Int:=bif lM l s then(EC l s:Int)else -1
theorem Pt{s:avP}: ∀ {l:List avP},lM l s=true→EC l s < l.length
 | [],h=>by cases h
 |a::r,h=>by
  simp only [lM,List.any_cons]at h
  simp only [EC,List.takeWhile_cons]
  cases ha:a.toList==s.toList with
  |true=>simp
  |false=>
   rw [ha,Bool.false_or]at h
   have:=Pt (l:=r) h
   simp only [EC]at this
   simp only [Bool.not_false,if_true,j9]
   omega
theorem apJ(a b:List avP)(s:avP):lM (a++b) s=(lM a s||lM b s):=List.any_append
theorem ajy{l:List avP}{s:avP}:lM l s=true↔s.toList∈l.map ByteArray.toList:=by
 simp only [lM,List.any_eq_true,beq_iff_eq,List.mem_map]
def htT:List TM→Int→Option Int
 | [],n=>some n
 |t::r,n=>bif termB t.1 t.2.1 t.2.2&&leI (takesK t.1) n then htT r (n - takesK t.1 + 1)else none
def anT(ts:List TM):Bool:=leN ts.length 40&&(match htT ts 0 with | some n=>n==1 | none=>false)
def lineB(x:LN):Bool:=rx x.1&&anT x.2
def ao6(l:List avP)(lo:Nat):Bool:=l.all rx&&inR (l.length:Int) lo 20
def ap5(nm:avP)(ins vs os:List avP)(g:avP)(ls:List LN):Bool:=rx nm&&(ao6 ins 1&&(ao6 vs 0&&(ao6 os 1&&((g.toList== []||rx g)&&(ls.all lineB&&inR (ls.length:Int) 1 40)))))
def xO(l:List avP):Bool:=(List.range l.length).any fun i=>lM (l.take i) (v7 l[i]? ⟨#[]⟩)
def Tz(ins vs:List avP)(s:avP):Bool:=lM ins s||lM vs s
def usedB(ins vs:List avP)(t:TM):Bool:= !(t.1==1)||Tz ins vs t.2.1
def ax1(ins vs os:List avP)(g:avP)(ls:List LN):Bool:= !xO (ins++vs++os)&&((g.toList== []||Tz ins vs g)&&(ls.all (fun l=>lM vs l.1||lM os l.1)&&(!xO (ls.map Prod.fst)&&(leN (vs.length + os.length) ls.length&&ls.all fun l=>l.2.all (usedB ins vs)))))
theorem atl{l:List avP}:xO l=false↔(l.map ByteArray.toList).Nodup:=by
 rw [List.nodup_iff_pairwise_ne,List.pairwise_iff_getElem]
 simp only [xO,List.any_eq_false,List.mem_range,Bool.not_eq_true,List.length_map,List.getElem_map]
 constructor
 ·intro h i j hi hj hij he
  have h1:=h j hj
  rw [← Bool.not_eq_true,ajy]at h1
  apply h1
  rw [List.getElem?_eq_getElem hj,Option.getD_some,← he]
  refine List.mem_map.2 ⟨l[i],?_,rfl⟩
  rw [List.mem_take_iff_getElem]
  exact⟨i,by omega,rfl⟩
 ·intro h j hj
  rw [← Bool.not_eq_true,ajy,List.mem_map]
  rintro⟨x,hx,he⟩
  rw [List.mem_take_iff_getElem]at hx
  obtain⟨i,hi,rfl⟩:=hx
  rw [List.getElem?_eq_getElem hj,Option.getD_some]at he
  exact h i j (by omega) hj (by omega) he
theorem awu{α:Type}[DecidableEq α]: ∀ (a b:List α),a.Nodup→(∀ x∈a,x∈b)→a.length≤b.length
 | [],b,_,_=>Nat.zero_le _
 |x::r,b,hn,hs=>by
  obtain⟨h1,h2⟩:=List.nodup_cons.1 hn
  have hx:=hs x (by simp)
  have:=awu r (b.erase x) h2 (fun y hy=>(List.mem_erase_of_ne (fun h:y=x=>h1 (by rw [← h];exact hy))).2 (hs y (by simp [hy])))
  rw [List.length_erase_of_mem hx]at this
  have h0:=List.length_pos_of_mem hx
  simp only [j9]
  omega
theorem aAD{α:Type}[DecidableEq α]{a b:List α}(ha:a.Nodup)(hb:b.Nodup)(hs: ∀ x∈a,x∈b):(∀ y∈b,y∈a)↔b.length≤a.length:=by
 constructor
 ·intro h;exact awu b a hb h
 ·intro h y hy
  refine Decidable.byContradiction fun hn=> ?_
  have:=awu (y::a) b (List.nodup_cons.2 ⟨hn,ha⟩) (fun z hz=>(List.mem_cons.1 hz).elim (fun h=>h ▸ hy) (fun h=>hs z h))
  rw [j9]at this
  omega
theorem ayW{ins vs os:List avP}{ls:List LN}(h1:xO (ins++vs++os)=false)(h3:ls.all (fun l=>lM vs l.1||lM os l.1)=true)(h4:xO (ls.map Prod.fst)=false):
  ((vs++os).any fun s=> !lM (ls.map Prod.fst) s)= !leN (vs.length + os.length) ls.length:=by
 have n1:((vs++os).map ByteArray.toList).Nodup:=by
  have:=atl.1 h1
  rw [List.append_assoc,List.map_append]at this
  exact(List.nodup_append.1 this).2.1
 have n4:=atl.1 h4
 have hs: ∀ x∈(ls.map Prod.fst).map ByteArray.toList,x∈(vs++os).map ByteArray.toList:=by
  intro x hx
  simp only [List.mem_map]at hx
  obtain⟨y,⟨l,hl,rfl⟩,rfl⟩:=hx
  have:=List.all_eq_true.1 h3 l hl
  rw [← apJ]at this
  exact ajy.1 this
 have nQ:=aAD n4 n1 hs
 rw [Bool.eq_iff_iff,Bool.not_eq_true',← Bool.not_eq_true,gR]
 simp only [List.length_map,j7]at nQ
 rw [← nQ]
 simp only [List.any_eq_true,Bool.not_eq_true']
 constructor
 ·rintro⟨s,hs1,hs2⟩ h
  have:=h _ (List.mem_map.2 ⟨s,hs1,rfl⟩)
  have h2:lM (ls.map Prod.fst) s=true:=ajy.2 this
  rw [h2]at hs2;cases hs2
 ·intro h
  refine Classical.byContradiction fun hn=>h fun y hy=> ?_
  obtain⟨s,hs1,rfl⟩:=List.mem_map.1 hy
  refine Classical.byContradiction fun hn2=>hn ⟨s,hs1,?_⟩
  cases hh:lM (ls.map Prod.fst) s with
  |false=>rfl
  |true=>exact absurd (ajy.1 hh) hn2
def nmV(ins vs:List avP)(inp xs:avO)(s:avP):Int:=bif lM ins s then atZ inp (EC ins s)else atZ xs (EC vs s)
def tmV(ins vs:List avP)(inp xs:avO)(t:TM)(ar:avO)(b:BS3):Int:=bif t.1==1 then nmV ins vs inp xs t.2.1 else bif t.1==2 then 1 else bif t.1==3 then 0 else bif t.1==4 then 1 - atZ ar 0 else bif t.1==5 then atr (atZ ar 0) (atZ ar 1)else bif t.1==6 then orI (atZ ar 0) (atZ ar 1)else avI t.1 t.2.2 ar b
def ltk(t:TM)(stk:avO):Nat:=stk.length - (takesK t.1).toNat
abbrev LS:=List Int×List BS3×Nat
def lnS(ins vs:List avP)(inp xs:avO)(t:TM)(a:LS):LS:=(a.1.take (ltk t a.1)++ [tmV ins vs inp xs t (a.1.drop (ltk t a.1)) (stAt a.2.1 a.2.2)],bif leI 7 t.1 then a.2.1.set a.2.2 (Vu t.1 t.2.2 (a.1.drop (ltk t a.1)) (stAt a.2.1 a.2.2))else a.2.1,bif leI 7 t.1 then a.2.2 + 1 else a.2.2)
def af3(ins vs:List avP)(inp xs:avO):List TM→LS→LS
 | [],a=>a
 |t::r,a=>af3 ins vs inp xs r (lnS ins vs inp xs t a)
theorem Xs(k:Int):0≤takesK k∧takesK k≤2:=by
 simp only [takesK,fT]
 refine⟨?_,?_⟩ <;> simp only [Bool.cond_eq_ite] <;> (repeat' split) <;> decide
structure LnOk (bl:List TM) (n:Int) (k:Nat) (a:LS):Prop where
 hb: ∀ z∈a.1,z=0∨z=1
 hl:(a.1.length:Int)=n
 sl:a.2.1.length=bl.length
 sp: ∀ j,j < bl.length→possAt bl a.2.1 j=true
 hk:a.2.2=k
theorem ay0{ins vs:List avP}{inp xs:avO}(hi:bitsB ins.length inp=true)(hx:bitsB vs.length xs=true)(s:avP):nmV ins vs inp xs s=0∨nmV ins vs inp xs s=1:=by
 simp only [nmV]
 cases lM ins s with
 |true=>exact OT (ct.1 hi).1 _
 |false=>exact OT (ct.1 hx).1 _
theorem aya{a b:Int}(hb:b=0∨b=1):atr a b=0∨atr a b=1:=by simp only [atr];cases a==1 <;> simp [hb]
theorem azW{a b:Int}(hb:b=0∨b=1):orI a b=0∨orI a b=1:=by simp only [orI];cases a==1 <;> simp [hb]
theorem ay1{a:Int}(ha:a=0∨a=1):1 - a=0∨1 - a=1:=by rcases ha with rfl | rfl <;> simp
theorem asR{t:TM}{stk:avO}(hb: ∀ z∈stk,z=0∨z=1)(ht:takesK t.1≤stk.length):bitsB (takesK t.1) (stk.drop (ltk t stk))=true:=by
 have h0:=(Xs t.1).1
 refine ct.2 ⟨fun z hz=>hb z (List.mem_of_mem_drop hz),?_⟩
 simp only [ltk,List.length_drop]
 omega
theorem adU{t:TM}(hT:termB t.1 t.2.1 t.2.2=true)(h7:leI 7 t.1=true):MU t.1 t.2.1 t.2.2=true:=by simp only [MU,hT,h7];rfl
theorem agn{t:TM}(hT:termB t.1 t.2.1 t.2.2=true):1≤t.1∧t.1≤12:=by
 simp only [termB,q9,ua]at hT;exact hT.1
theorem aA3{ins vs:List avP}{inp xs:avO}{bl:List TM}{n:Int}{k:Nat}{a:LS}{t:TM}(hi:bitsB ins.length inp=true)(hx:bitsB vs.length xs=true)
  (hT:termB t.1 t.2.1 t.2.2=true) (ht:takesK t.1≤n) (hblk:leI 7 t.1=true→k < bl.length∧gU bl k=t) (h:LnOk bl n k a):
  (tmV ins vs inp xs t (a.1.drop (ltk t a.1)) (stAt a.2.1 a.2.2)=0∨tmV ins vs inp xs t (a.1.drop (ltk t a.1)) (stAt a.2.1 a.2.2)=1)∧
  LnOk bl (n - takesK t.1 + 1) (bif leI 7 t.1 then k + 1 else k) (lnS ins vs inp xs t a):=by
 have hl:=h.hl
 have hdb:=asR (t:=t) h.hb (by omega)
 have hd:=(ct.1 hdb).1
 have d0:=OT hd 0
 have d1:=OT hd 1
 have h0:=Xs t.1
 have hv:leI 7 t.1=true→(tmV ins vs inp xs t (a.1.drop (ltk t a.1)) (stAt a.2.1 a.2.2)=avI t.1 t.2.2 (a.1.drop (ltk t a.1)) (stAt a.2.1 a.2.2)):=by
  intro h7
  have h7:=Gt.1 h7
  simp only [tmV]
  rw [show (t.1==1)=false by simp;omega,show (t.1==2)=false by simp;omega,show (t.1==3)=false by simp;omega,show (t.1==4)=false by simp;omega,show (t.1==5)=false by simp;omega,show (t.1==6)=false by simp;omega]
  rfl
 have hvb:tmV ins vs inp xs t (a.1.drop (ltk t a.1)) (stAt a.2.1 a.2.2)=0∨tmV ins vs inp xs t (a.1.drop (ltk t a.1)) (stAt a.2.1 a.2.2)=1:=by
  cases h7:leI 7 t.1 with
  |true=>
   obtain⟨hk,hbt⟩:=hblk h7
   rw [hv h7]
   have hp:=h.sp k hk
   simp only [possAt,hbt]at hp
   rw [h.hk]
   exact axu (adU hT h7) hp hdb
  |false=>
   have hkk:=agn hT
   have h7': ¬ (7≤t.1):=fun hc=>by rw [bk hc]at h7;cases h7
   have hc:t.1=1∨t.1=2∨t.1=3∨t.1=4∨t.1=5∨t.1=6:=by omega
   rcases hc with e | e | e | e | e | e <;> simp only [tmV,e] <;> simp
   ·exact ay0 hi hx _
   ·exact ay1 d0
   ·exact aya d1
   ·exact azW d1
 refine⟨hvb,⟨?_,?_,?_,?_,?_⟩⟩
 ·intro z hz
  simp only [lnS,List.mem_append,qqw]at hz
  rcases hz with hz | rfl
  ·exact h.hb z (List.mem_of_mem_take hz)
  ·exact hvb
 ·simp only [lnS,j7,j8,j6,ltk]
  omega
 ·simp only [lnS]
  cases leI 7 t.1 with
  |true=>simp only [cond_true,List.length_set];exact h.sl
  |false=>exact h.sl
 ·intro j hj
  simp only [lnS]
  cases h7:leI 7 t.1 with
  |false=>exact h.sp j hj
  |true=>
   obtain⟨hk,hbt⟩:=hblk h7
   simp only [cond_true]
   rw [h.hk]
   by_cases hjk:j=k
   ·subst hjk
    have hp:=h.sp j hj
    simp only [possAt,hbt]at hp ⊢
    have hs:stAt (a.2.1.set j (Vu t.1 t.2.2 (a.1.drop (ltk t a.1)) (stAt a.2.1 j))) j=Vu t.1 t.2.2 (a.1.drop (ltk t a.1)) (stAt a.2.1 j):=by
     simp only [stAt]
     rw [List.getElem?_set_self (by rw [h.sl];exact hj)];rfl
    rw [hs]
    exact(ave (adU hT h7) hp hdb).2
   ·have hs:stAt (a.2.1.set k (Vu t.1 t.2.2 (a.1.drop (ltk t a.1)) (stAt a.2.1 k))) j=stAt a.2.1 j:=by
     simp only [stAt]
     rw [List.getElem?_set_ne (fun h=>hjk h.symm)]
    simp only [possAt,hs]
    exact h.sp j hj
 ·simp only [lnS]
  rw [h.hk]
def blT(ts:List TM):List TM:=ts.filter fun t=>leI 7 t.1
def blL(ls:List LN):List TM:=ls.flatMap fun l=>blT l.2
theorem amo: ∀ (l1 l2:List TM) (n:Int),htT (l1++l2) n=match htT l1 n with | some m=>htT l2 m | none=>none
 | [],l2,n=>rfl
 |t::r,l2,n=>by
  simp only [List.cons_append,htT]
  cases (termB t.1 t.2.1 t.2.2&&leI (takesK t.1) n)with
  |false=>rfl
  |true=>simp only [cond_true];exact amo r l2 _
theorem axc: ∀ (l:List TM) (n m:Int),0≤n→htT l n=some m→0≤m∧m≤n + l.length
 | [],n,m,hn,h=>by simp only [htT,q8]at h;simp;omega
 |t::r,n,m,hn,h=>by
  simp only [htT]at h
  have hg:=Xs t.1
  cases hc:(termB t.1 t.2.1 t.2.2&&leI (takesK t.1) n)with
  |false=>rw [hc]at h;cases h
  |true=>
   rw [hc,cond_true]at h
   simp only [q9,Gt]at hc
   have:=axc r _ m (by omega) h
   simp only [j9]
   omega
theorem ayJ{ts:List TM}{e:Int}(jb:htT ts 0=some e){i:Nat}{t:TM}(ht:ts[i]? =some t):
  ∃ n,htT (ts.take i) 0=some n∧(0≤n∧n≤i)∧termB t.1 t.2.1 t.2.2=true∧takesK t.1≤n∧htT (ts.take (i + 1)) 0=some (n - takesK t.1 + 1):=by
 obtain⟨hi,rfl⟩:=k9.1 ht
 have hs:ts=ts.take i++ts[i]::ts.drop (i + 1):=by rw [List.getElem_cons_drop,List.take_append_drop]
 have h1:=amo (ts.take i) (ts[i]::ts.drop (i + 1)) 0
 rw [← hs,jb]at h1
 cases hp:htT (ts.take i) 0 with
 |none=>rw [hp]at h1;cases h1
 |some n=>
  rw [hp]at h1
  simp only [htT]at h1
  cases hc:(termB ts[i].1 ts[i].2.1 ts[i].2.2&&leI (takesK ts[i].1) n)with
  |false=>rw [hc]at h1;cases h1
  |true=>
   have h2:=amo (ts.take i) [ts[i]] 0
   rw [hp]at h2
   simp only [htT,hc,cond_true]at h2
   simp only [q9,Gt]at hc
   have hb:=axc _ _ _ (Int.le_refl 0) hp
   rw [j8]at hb
   exact⟨n,rfl,by omega,hc.1,hc.2,by rw [← h2,List.take_succ_eq_append_getElem hi]⟩
theorem apP{ins vs:List avP}{inp xs:avO}: ∀ (l1 l2:List TM) (a:LS),af3 ins vs inp xs (l1++l2) a=af3 ins vs inp xs l2 (af3 ins vs inp xs l1 a)
 | [],l2,a=>rfl
 |t::r,l2,a=>apP r l2 _
theorem agL(a b:List TM):blT (a++b)=blT a++blT b:=List.filter_append ..
theorem aqW(a b:List LN):blL (a++b)=blL a++blL b:=List.flatMap_append
theorem amg{pre post ts:List TM}{i:Nat}{t:TM}(ht:ts[i]? =some t)(h7:leI 7 t.1=true):
  pre.length + (blT (ts.take i)).length < (pre++blT ts++post).length∧gU (pre++blT ts++post) (pre.length + (blT (ts.take i)).length)=t∧(blT (ts.take (i + 1))).length=(blT (ts.take i)).length + 1:=by
 obtain⟨hi,rfl⟩:=k9.1 ht
 have hs:ts=ts.take i++ts[i]::ts.drop (i + 1):=by rw [List.getElem_cons_drop,List.take_append_drop]
 have hb:blT ts=blT (ts.take i)++ts[i]::blT (ts.drop (i + 1)):=by
  conv=>lhs;rw [hs,agL]
  congr 1
  simp only [blT,List.filter_cons,h7,if_true]
 have hb2:blT (ts.take (i + 1))=blT (ts.take i)++ [ts[i]]:=by
  rw [List.take_succ_eq_append_getElem hi,agL]
  congr 1
  simp only [blT,List.filter_cons,h7,if_true,List.filter_nil]
 refine⟨?_,?_,by rw [hb2];simp⟩
 ·rw [hb];simp
 ·simp only [gU]
  rw [List.append_assoc,List.getElem?_append_right (by omega),Nat.add_sub_cancel_left,hb,List.append_assoc,List.getElem?_append_right (by omega),Nat.sub_self]
  rfl
theorem awZ{ts:List TM}{i:Nat}{t:TM}(ht:ts[i]? =some t)(h7:leI 7 t.1=false):(blT (ts.take (i + 1))).length=(blT (ts.take i)).length:=by
 obtain⟨hi,rfl⟩:=k9.1 ht
 rw [List.take_succ_eq_append_getElem hi,agL]
 simp [blT,List.filter_cons,h7]
def ap6(pre post ts:List TM)(i:Nat)(a:LS):Prop:= ∃ n,htT (ts.take i) 0=some n∧LnOk (pre++blT ts++post) n (pre.length + (blT (ts.take i)).length) a
theorem aoZ{ins vs:List avP}{inp xs:avO}{pre post ts:List TM}{e:Int}{i:Nat}{a:LS}{t:TM}(hi:bitsB ins.length inp=true)(hx:bitsB vs.length xs=true)
  (jb:htT ts 0=some e) (ht:ts[i]? =some t) (h:ap6 pre post ts i a):
  (0≤takesK t.1∧takesK t.1≤a.1.length)∧a.1.length≤i∧termB t.1 t.2.1 t.2.2=true∧bitsB (takesK t.1) (a.1.drop (ltk t a.1))=true∧a.2.1.length=(pre++blT ts++post).length∧
  (leI 7 t.1=true→a.2.2 < (pre++blT ts++post).length∧possB t.1 t.2.2 (stAt a.2.1 a.2.2).1 (stAt a.2.1 a.2.2).2.1 (stAt a.2.1 a.2.2).2.2=true)∧
  a.2.2≤(pre++blT ts++post).length∧(∀ z∈a.1,z=0∨z=1)∧
  ap6 pre post ts (i + 1) (lnS ins vs inp xs t a):=by
 obtain⟨n,h1,h2⟩:=h
 obtain⟨n',g1,g2,g3,g4,g5⟩:=ayJ jb ht
 rw [h1]at g1;cases g1
 have hl:=h2.hl
 have h0:=Xs t.1
 have hblk:leI 7 t.1=true→pre.length + (blT (ts.take i)).length < (pre++blT ts++post).length∧gU (pre++blT ts++post) (pre.length + (blT (ts.take i)).length)=t:=
  fun h7=>⟨(amg ht h7).1,(amg ht h7).2.1⟩
 obtain⟨_,k2⟩:=aA3 (ins:=ins) (vs:=vs) hi hx g3 g4 hblk h2
 have hkle:a.2.2≤(pre++blT ts++post).length:=by
  rw [h2.hk]
  have:(blT (ts.take i)).length≤(blT ts).length:=by
   conv=>rhs;rw [← List.take_append_drop i ts,agL]
   simp
  simp;omega
 refine⟨by omega,by omega,g3,asR h2.hb (by omega),h2.sl,fun h7=> ?_,hkle,h2.hb,⟨_,g5,?_⟩⟩
 ·obtain⟨q1,q2⟩:=hblk h7
  rw [h2.hk]
  have:=h2.sp _ q1
  simp only [possAt,q2]at this
  exact⟨q1,this⟩
 ·have:(bif leI 7 t.1 then pre.length + (blT (ts.take i)).length + 1 else pre.length + (blT (ts.take i)).length)=pre.length + (blT (ts.take (i + 1))).length:=by
   cases h7:leI 7 t.1 with
   |true=>rw [(amg (pre:=pre) (post:=post) ht h7).2.2];rfl
   |false=>rw [awZ ht h7];rfl
  rw [← this];exact k2
theorem axg{ins vs:List avP}{inp xs:avO}{pre post ts:List TM}{e:Int}{a:LS}(hi:bitsB ins.length inp=true)(hx:bitsB vs.length xs=true)(jb:htT ts 0=some e)(h:ap6 pre post ts 0 a):
  ∀ i,i≤ts.length→ap6 pre post ts i (af3 ins vs inp xs (ts.take i) a)
 |0,_=>h
 |i + 1,fC=>by
  have h1:=axg hi hx jb h i (by omega)
  rw [List.take_succ_eq_append_getElem (by omega),apP]
  exact(aoZ hi hx jb (List.getElem?_eq_getElem (by omega)) h1).2.2.2.2.2.2.2.2
theorem Qx{v:Int}{bs:List TM}{xs:avO}{ss:List BS3}:sy v bs xs ss=true↔ss.length=bs.length∧bitsB v xs=true∧ ∀ k,k < bs.length→possAt bs ss k=true:=by
 simp only [sy,q9,beq_iff_eq,List.all_eq_true,List.mem_range]
 constructor
 ·rintro⟨h1,h2,h3⟩;exact⟨by omega,h2,h3⟩
 ·rintro⟨h1,h2,h3⟩;exact⟨by omega,h2,h3⟩
abbrev SS4:=List Int×List Int×List BS3×Nat
def lnV(ins vs:List avP)(inp:avO)(l:LN)(a:SS4):LS:=af3 ins vs inp a.1 l.2 ([],a.2.2.1,a.2.2.2)
def scS(ins vs os:List avP)(inp:avO)(l:LN)(a:SS4):SS4:=(bif lM vs l.1 then a.1.set (EC vs l.1) (atZ (lnV ins vs inp l a).1 0)else a.1,bif lM vs l.1 then a.2.1 else a.2.1.set (EC os l.1) (atZ (lnV ins vs inp l a).1 0),(lnV ins vs inp l a).2.1,(lnV ins vs inp l a).2.2)
def ar0(ins vs os:List avP)(inp:avO):List LN→SS4→SS4
 | [],a=>a
 |l::r,a=>ar0 ins vs os inp r (scS ins vs os inp l a)
theorem ap1{ins vs os:List avP}{inp:avO}: ∀ (l1 l2:List LN) (a:SS4),ar0 ins vs os inp (l1++l2) a=ar0 ins vs os inp l2 (ar0 ins vs os inp l1 a)
 | [],l2,a=>rfl
 |t::r,l2,a=>ap1 r l2 _
structure ScAt (vs os:List avP) (ls:List LN) (i:Nat) (a:SS4):Prop where
 hx:bitsB vs.length a.1=true
 ho:bitsB os.length a.2.1=true
 sl:a.2.2.1.length=(blL ls).length
 sp: ∀ j,j < (blL ls).length→possAt (blL ls) a.2.2.1 j=true
 hk:a.2.2.2=(blL (ls.take i)).length
theorem ade{ls:List LN}{i:Nat}{l:LN}(hl:ls[i]? =some l):blL ls=blL (ls.take i)++blT l.2++blL (ls.drop (i + 1))∧(blL (ls.take (i + 1))).length=(blL (ls.take i)).length + (blT l.2).length:=by
 obtain⟨hi,rfl⟩:=k9.1 hl
 have hs:ls=ls.take i++ls[i]::ls.drop (i + 1):=by rw [List.getElem_cons_drop,List.take_append_drop]
 refine⟨?_,?_⟩
 ·conv=>lhs;rw [hs,aqW]
  rw [List.append_assoc]
  rfl
 ·rw [List.take_succ_eq_append_getElem hi,aqW]
  simp [blL]
theorem ab5{x:LN}(h:lineB x=true):rx x.1=true∧x.2.length≤40∧htT x.2 0=some 1:=by
 simp only [lineB,anT,q9,gR]at h
 obtain⟨h1,h2,h3⟩:=h
 refine⟨h1,h2,?_⟩
 split at h3
 ·rename_i n hn;rw [hn];congr 1;exact eq_of_beq h3
 ·cases h3
theorem akj{vs os:List avP}{ls:List LN}{i:Nat}{a:SS4}{l:LN}(hl:ls[i]? =some l)(h:ScAt vs os ls i a):
  ap6 (blL (ls.take i)) (blL (ls.drop (i + 1))) l.2 0 ([],a.2.2.1,a.2.2.2):=by
 have hs:=(ade hl).1
 refine⟨0,by simp [htT],⟨fun z hz=>(List.not_mem_nil hz).elim,rfl,?_,?_,?_⟩⟩
 ·rw [← hs];exact h.sl
 ·rw [← hs];exact h.sp
 ·simp [blT,h.hk]
theorem ZS{ins vs os:List avP}{inp:avO}{ls:List LN}{i:Nat}{a:SS4}{l:LN}(hi:bitsB ins.length inp=true)(hL:lineB l=true)(hl:ls[i]? =some l)
  (h:ScAt vs os ls i a):(lnV ins vs inp l a).1.length=1∧(atZ (lnV ins vs inp l a).1 0=0∨atZ (lnV ins vs inp l a).1 0=1)∧ScAt vs os ls (i + 1) (scS ins vs os inp l a):=by
 obtain⟨hn,ru,hht⟩:=ab5 hL
 obtain⟨hs,hs2⟩:=ade hl
 have h0:=axg (ins:=ins) (vs:=vs) hi h.hx hht (akj hl h) l.2.length (Nat.le_refl _)
 rw [List.take_length]at h0
 obtain⟨n,g1,g2⟩:=h0
 rw [List.take_length,hht]at g1;cases g1
 have hlen1:(lnV ins vs inp l a).1.length=1:=by have:=g2.hl;simp only [lnV];omega
 have hbit:atZ (lnV ins vs inp l a).1 0=0∨atZ (lnV ins vs inp l a).1 0=1:=OT g2.hb 0
 refine⟨hlen1,hbit,⟨?_,?_,?_,?_,?_⟩⟩
 ·simp only [scS]
  cases lM vs l.1 with
  |true=>exact anM h.hx _ hbit
  |false=>exact h.hx
 ·simp only [scS]
  cases lM vs l.1 with
  |true=>exact h.ho
  |false=>exact anM h.ho _ hbit
 ·simp only [scS,lnV];rw [hs];exact g2.sl
 ·simp only [scS,lnV];rw [hs];exact g2.sp
 ·simp only [scS,lnV]
  rw [g2.hk,hs2,List.take_length]
theorem axq{ins vs os:List avP}{inp:avO}{ls:List LN}{a:SS4}(hi:bitsB ins.length inp=true)(hL:ls.all lineB=true)(h:ScAt vs os ls 0 a):
  ∀ i,i≤ls.length→ScAt vs os ls i (ar0 ins vs os inp (ls.take i) a)
 |0,_=>h
 |i + 1,fC=>by
  have h1:=axq hi hL h i (by omega)
  rw [List.take_succ_eq_append_getElem (by omega),ap1]
  exact(ZS hi (List.all_eq_true.1 hL _ (List.getElem_mem (by omega))) (List.getElem?_eq_getElem (by omega)) h1).2.2
def scE(ins vs os:List avP)(ls:List LN)(inp xs:avO)(ss:List BS3):SS4:=ar0 ins vs os inp ls (xs,v9 os.length 0,ss,0)
def scO(ins vs os:List avP)(g:avP)(ls:List LN)(inp xs:avO)(ss:List BS3):avO:=bif !(g.toList== [])&&nmV ins vs inp (scE ins vs os ls inp xs ss).1 g==0 then v9 os.length 0 else(scE ins vs os ls inp xs ss).2.1
def scV(ins vs os:List avP)(ls:List LN)(inp xs:avO)(ss:List BS3):avO:=(scE ins vs os ls inp xs ss).1
def scB(ins vs os:List avP)(ls:List LN)(inp xs:avO)(ss:List BS3):List BS3:=(scE ins vs os ls inp xs ss).2.2.1
theorem auc{ins vs os:List avP}{inp xs:avO}{ss:List BS3}{ls:List LN}(hi:bitsB ins.length inp=true)(hL:ls.all lineB=true)(hs:sy vs.length (blL ls) xs ss=true):
  ScAt vs os ls ls.length (scE ins vs os ls inp xs ss):=by
 obtain⟨h1,h2,h3⟩:=Qx.1 hs
 have h0:ScAt vs os ls 0 (xs,v9 os.length 0,ss,0):=⟨h2,ct.2 ⟨fun z hz=> .inl (qqq hz),by simp⟩,h1,h3,by simp [blL]⟩
 have:=axq hi hL h0 ls.length (Nat.le_refl _)
 rw [List.take_length]at this
 exact this
theorem az6{ins vs os:List avP}{g:avP}{inp xs:avO}{ss:List BS3}{ls:List LN}(hi:bitsB ins.length inp=true)(hL:ls.all lineB=true)(hs:sy vs.length (blL ls) xs ss=true):
  sy vs.length (blL ls) (scV ins vs os ls inp xs ss) (scB ins vs os ls inp xs ss)=true∧bitsB os.length (scO ins vs os g ls inp xs ss)=true:=by
 have h:=auc (os:=os) hi hL hs
 refine⟨Qx.2 ⟨h.sl,h.hx,h.sp⟩,?_⟩
 simp only [scO]
 cases (!(g.toList== [])&&nmV ins vs inp (scE ins vs os ls inp xs ss).1 g==0)with
 |true=>exact ct.2 ⟨fun z hz=> .inl (qqq hz),by simp⟩
 |false=>exact h.ho
theorem aeU{A B:Type}{f g:B→A→Nat ⊕ A}{e:Nat}: ∀ {l:List B} {i:Nat} {a:A},(∀ b∈l,∀ a,f b a=g b a)→br f e l i a=br g e l i a
 | [],_,_,_=>rfl
 |b::r,i,a,h=>by
  simp only [br,h b (by simp) a]
  cases g b a with
  |inl j=>rfl
  |inr a'=>exact aeU fun x hx=>h x (by simp [hx])
def Io(a b:avP):(Unit)→Nat ⊕ (Unit)
 |_=>(bif(ByteArray.toList (b)==ByteArray.toList a)then(.inl 0)else(.inr ()))
def vj(a:avP)(b:List avP)(i:Nat):(Unit)→rE
 |_=>((i:Int),a,b)
def UR:rE→Unit
 |(_,_,_)=>()
theorem ano(c:avP)(e:List avP) (hn:e.length≤9223372036854775807):
  fY.fin ((0:Int),c,e)=true∧fY.res ((0:Int),c,e)=((br (Io c) 1 e 0 ()).1,(vj c e) (br (Io c) 1 e 0 ()).2.1 (br (Io c) 1 e 0 ()).2.2):=by
 have nQ:=fY.along (vj c e) UR (Io c) 1 (fun _ _=>True) e () (by trivial) (by simp only [fY,vj];omega) (fun i b a hb hI=> ?_) (fun a hI=> ?_)
 ·exact nQ
 ·obtain⟨⟩:=a
  have fC:=(k9.1 hb).1
  have lP: ∀ d,v7 e[i]? d=b:=fun d=>by rw [hb];rfl
  have hw:=Bm fC hn
  have fB:ltI (i:Int) (e.length:Int)=true:=dw (by omega)
  have Ly:leI (0:Int) (i:Int)=true:=bk (by omega)
  have sO:ltN i e.length=true:=eD fC
  refine⟨?_,?_,?_,?_⟩
  ·simp [EM,JC,JD,JF,JG,Hd,fY,LT.nds,allT,vj,fB,Ly,sO,lP]
  ·simp [EM,JC,JD,JF,JG,Hd,fY,LT.each,vj,UR,hw]
  ·simp only [EM,JC,JD,JF,JG,Hd,fY,LT.fn,vj,UR,Io,w5,fB,Ly,sO,lP,cond_true,k8]
  ·exact fun _ _=>trivial
 ·obtain⟨⟩:=a
  simp [EM,JC,JD,JF,JG,Hd,fY,LT.out,vj]
theorem amJ(s:avP)(l:List avP)(h:leN l.length 9223372036854775807=true):Qk s l=eA l s∧VQ s l=true:=by
 obtain⟨w1,w2⟩:=ano s l (gR.1 h)
 rw [lN (P:=fun k=>k.toList==s.toList) (j:=0) (fun k=>rfl)]at w2
 simp only [Qk,VQ,Uu,w1,w2,allT,vj,eA,lM,EC]
 cases l.any fun k=>k.toList==s.toList <;> simp [Nat.beq]
theorem ari(s:avP)(l:List avP)(h:leN l.length 9223372036854775807=true):uK s l=eA l s∧uL s l=true:=by
 obtain⟨w1,w2⟩:=LX s l (gR.1 h)
 rw [lN (P:=fun k=>s.toList==k.toList) (j:=0) (fun k=>rfl)]at w2
 have e1:(fun k:avP=>s.toList==k.toList)=fun k=>k.toList==s.toList:=funext fun k=>BEq.comm
 have e2:(fun k:avP=> !(s.toList==k.toList))=fun k=> !(k.toList==s.toList):=funext fun k=>by rw [BEq.comm]
 rw [e1,e2]at w2
 simp only [uK,uL,tU,w1,w2,allT,fc,eA,lM,EC]
 cases l.any fun k=>k.toList==s.toList <;> simp [Nat.beq]
theorem Wd(l:List avP)(s:avP):leI 0 (eA l s)=lM l s:=by
 simp only [eA]
 cases lM l s with
 |true=>exact bk (by simp)
 |false=>rfl
def ahH:awh
 | [.one ⟨false,[.ref 0]⟩,.one ⟨false,[.val (.string a)]⟩],[.row false 9 (.str) b]=>some ⟨aBC (eA b a),[aBD b],[],[leN b.length 9223372036854775807]⟩
 |_,_=>none
def cB:PF prog:=PF.alt GG ahH (by
 intro args es o h cA;unfold ahH at h;split at h
 ·rename_i a b
  cases h
  have cA:=jQ cA
  have hh:=amJ a b cA
  obtain⟨e0,en⟩:=hh
  exact pW rfl (ip en) (by simp only [e0] <;> rfl) rfl rfl
 ·cases h)
def PX:awh
 | [.one ⟨false,[.ref 0]⟩,.one ⟨false,[.val (.string a)]⟩],[.row false 9 (.str) b]=>some ⟨aBC (eA b a),[aBD b],[],[leN b.length 9223372036854775807]⟩
 |_,_=>none
def ft:PF prog:=PF.alt AK PX (by
 intro args es o h cA;unfold PX at h;split at h
 ·rename_i a b
  cases h
  have cA:=jQ cA
  have hh:=ari a b cA
  obtain⟨e0,en⟩:=hh
  exact pW rfl (ip en) (by simp only [e0] <;> rfl) rfl rfl
 ·cases h)
theorem awg(s:avP)(l:List avP)(h:leN l.length 9223372036854775807=true):ku s l=lM l s∧nF s l=true:=by
 obtain⟨e1,e2⟩:=ari s l h
 simp only [ku,nF,e1,e2,Wd,allT,and_self,cond_true]
def LU:awh
 | [.one ⟨false,[.ref 0]⟩,.one ⟨false,[.val (.string a)]⟩],[.row false 9 (.str) b]=>some ⟨aBB (.val (.bool (lM b a))),[aBD b],[],[leN b.length 9223372036854775807]⟩
 |_,_=>none
def aW:PF prog:=PF.alt eF LU (by
 intro args es o h cA;unfold LU at h;split at h
 ·rename_i a b
  cases h
  have cA:=jQ cA
  have hh:=awg a b cA
  obtain⟨e0,en⟩:=hh
  exact pW rfl (ip en) (by simp only [e0] <;> rfl) rfl rfl
 ·cases h)
theorem aAn(a b c:List avP)(h:leN (a.length + b.length + c.length) 2000000=true):alI a b c=a++b++c∧afz a b c=true:=by
 have h:=gR.1 h
 refine⟨rfl,?_⟩
 simp [afz,YL,allT]
 omega
def alq:awh
 | [.one ⟨true,[.val (.string _x0),.ref 0,.ref 1,.ref 2,.val (.string _x1),.ref 3]⟩],[.row false 9 (.str) a,.row false 9 (.str) b,.row false 9 (.str) c,.row false 142 (.pair (.str) (.sl 122 (.pair (.int .i64) (.pair (.str) (.int .i64))))) d]=>some ⟨aBB (.ref 4),[aBD a,aBD b,aBD c,aBH d],[aBJ (a++b++c)],[leN (a.length + b.length + c.length) 2000000]⟩
 |_,_=>none
def rL:PF prog:=PF.alt asD alq (by
 intro args es o h cA;unfold alq at h;split at h
 ·rename_i _x0 _x1 a b c d
  cases h
  have cA:=jQ cA
  have hh:=aAn a b c cA
  obtain⟨e0,en⟩:=hh
  exact pW rfl (ip en) rfl rfl (by simp only [e0] <;> rfl)
 ·cases h)
theorem Xj(s:avP)(h:s.size≤9223372036854775807):rl s=rx s∧AE s=true:=by
 obtain⟨e1,e2⟩:=ar3 s
 have hl:leN s.size 9223372036854775807=true:=bx h
 refine⟨?_,?_⟩
 ·simp only [rl,e1,rx];cases abY s <;> rfl
 ·simp only [AE,e2,hl,allT,k7,cond_true]
theorem aek(s:avP):qj s=rx s:=by simp only [qj,rx];cases abY s <;> rfl
def Zx(l:List avP):Bool:=leN l.length 9223372036854775807&&l.all fun s=>leN s.size 9223372036854775807
def AR(b:avP):(Unit)→Nat ⊕ (Unit)
 |_=>(bif(!rl b)then(.inl 0)else(.inr ()))
def zQ(a:List avP)(i:Nat):(Unit)→rC
 |_=>((i:Int),a)
def UP:rC→Unit
 |(_,_)=>()
theorem anm(c:List avP) (hn:c.length≤9223372036854775807) (hA: ∀ x∈c,x.size≤9223372036854775807):
  hY.fin ((0:Int),c)=true∧hY.res ((0:Int),c)=((br (AR) 1 c 0 ()).1,(zQ c) (br (AR) 1 c 0 ()).2.1 (br (AR) 1 c 0 ()).2.2):=by
 have nQ:=hY.along (zQ c) UP (AR) 1 (fun _ _=>True) c () (by trivial) (by simp only [hY,zQ];omega) (fun i b a hb hI=> ?_) (fun a hI=> ?_)
 ·exact nQ
 ·obtain⟨⟩:=a
  have fC:=(k9.1 hb).1
  have lP: ∀ d,v7 c[i]? d=b:=fun d=>by rw [hb];rfl
  have hw:=Bm fC hn
  have fB:ltI (i:Int) (c.length:Int)=true:=dw (by omega)
  have Ly:leI (0:Int) (i:Int)=true:=bk (by omega)
  have sO:ltN i c.length=true:=eD fC
  refine⟨?_,?_,?_,?_⟩
  ·have hg2:ve (i:Int) c=b:=by simp only [ve,w5];exact lP _
   have h6:=(Xj b (hA b (List.mem_of_getElem? hb))).2
   simp [EJ,PH,PI,PJ,Jp,PK,Ha,hY,LT.nds,allT,zQ,fB,Ly,sO,hg2,h6]
  ·simp [ve,EJ,PH,PI,PJ,Jp,PK,Ha,hY,LT.each,zQ,UP,hw]
  ·have hg2:ve (i:Int) c=b:=by simp only [ve,w5];exact lP _
   simp only [EJ,Jp,Ha,hY,LT.fn,zQ,UP,AR,w5,fB,hg2,cond_true]
  ·exact fun _ _=>trivial
 ·obtain⟨⟩:=a
  simp [ve,EJ,PH,PI,PJ,Jp,PK,Ha,hY,LT.out,zQ]
theorem auf(lo:Int)(l:List avP)(h:Zx l=true):abx lo l=(l.all rx&&inR (l.length:Int) lo 20)∧aby l=true:=by
 simp only [Zx,q9,gR,List.all_eq_true]at h
 obtain⟨w1,w2⟩:=anm l h.1 h.2
 have e0:(br AR 1 l 0 ())=(br (fun(k:avP) (_:Unit)=>bif !rx k then(.inl 0:Nat ⊕ Unit)else .inr ()) 1 l 0 ()):=by
  refine aeU fun b hb a=> ?_
  simp only [AR,(Xj b (h.2 b hb)).1]
 rw [e0,lN (P:=fun k=> !rx k) (j:=0) (fun k=>rfl)]at w2
 have e5:(l.any fun k=> !rx k)= !l.all rx:=by simp [List.all_eq_not_any_not]
 rw [e5]at w2
 simp only [abx,aby,w1,w2,allT,aw,QU]
 cases l.all rx <;> simp [Nat.beq]
def fL(b:avP):(Unit)→Nat ⊕ (Unit)
 |_=>(bif(Gp b)then(.inl 0)else(.inr ()))
def dB(a:List avP)(i:Nat):(Unit)→ce
 |_=>((i:Int),(↑a.length:Int),a)
def ui:ce→Unit
 |(_,_,_)=>()
theorem Qp(c:List avP) (hn:c.length≤9223372036854775807):
  am.fin ((0:Int),(↑c.length:Int),c)=true∧am.res ((0:Int),(↑c.length:Int),c)=((br (fL) 1 c 0 ()).1,(dB c) (br (fL) 1 c 0 ()).2.1 (br (fL) 1 c 0 ()).2.2):=by
 have nQ:=am.along (dB c) ui (fL) 1 (fun _ _=>True) c () (by trivial) (by simp only [am,dB];omega) (fun i b a hb hI=> ?_) (fun a hI=> ?_)
 ·exact nQ
 ·obtain⟨⟩:=a
  have fC:=(k9.1 hb).1
  have lP: ∀ d,v7 c[i]? d=b:=fun d=>by rw [hb];rfl
  have hw:=Bm fC hn
  have fB:ltI (i:Int) (c.length:Int)=true:=dw (by omega)
  have Ly:leI (0:Int) (i:Int)=true:=bk (by omega)
  have sO:ltN i c.length=true:=eD fC
  refine⟨?_,?_,?_,?_⟩
  ·simp [jX,jY,jZ,ka,kb,ke,jB,am,LT.nds,allT,dB,fB,Ly,sO,lP]
  ·simp [jX,jY,jZ,ka,kb,ke,jB,am,LT.each,dB,ui,hw]
  ·simp only [jX,jY,jZ,ka,kb,ke,jB,am,LT.fn,dB,ui,fL,w5,fB,Ly,sO,lP,cond_true,k8]
  ·exact fun _ _=>trivial
 ·obtain⟨⟩:=a
  simp [jX,jY,jZ,ka,kb,ke,jB,am,LT.out,dB]
theorem aus(l:List avP)(h:leN l.length 9223372036854775807=true):abd l=l.all rx∧abe l=true:=by
 obtain⟨w1,w2⟩:=Qp l (gR.1 h)
 rw [lN (P:=fun k=> !rx k) (j:=0) (fun k=>by simp only [fL,Gp,aek])]at w2
 have e5:(l.any fun k=> !rx k)= !l.all rx:=by simp [List.all_eq_not_any_not]
 rw [e5]at w2
 have q: ∀ m:Nat,leI 0 (m:Int)=true:=fun m=>bk (by omega)
 have q2:leI 0 (-1)=false:=rfl
 simp only [abd,abe,uI,uJ,xj,xk,qH,w1,w2,allT,dB]
 cases (l.all rx) <;> simp [Nat.beq,q,q2]
def ahG:awh
 | [.one ⟨false,[.ref 0]⟩,.one ⟨false,[.val (.int .i64 a)]⟩],[.row false 9 (.str) b]=>some ⟨aBB (.val (.bool (b.all rx&&inR (b.length:Int) a 20))),[aBD b],[],[Zx b]⟩
 |_,_=>none
def Kq:PF prog:=PF.alt aqt ahG (by
 intro args es o h cA;unfold ahG at h;split at h
 ·rename_i a b
  cases h
  have cA:=jQ cA
  have hh:=auf a b cA
  obtain⟨e0,en⟩:=hh
  exact pW rfl (ip en) (by simp only [e0] <;> rfl) rfl rfl
 ·cases h)
def ahA:awh
 | [.one ⟨false,[.ref 0]⟩],[.row false 9 (.str) a]=>some ⟨aBB (.val (.bool (a.all rx))),[aBD a],[],[leN a.length 9223372036854775807]⟩
 |_,_=>none
def abp:PF prog:=PF.alt aql ahA (by
 intro args es o h cA;unfold ahA at h;split at h
 ·rename_i a
  cases h
  have cA:=jQ cA
  have hh:=aus a cA
  obtain⟨e0,en⟩:=hh
  exact pW rfl (ip en) (by simp only [e0] <;> rfl) rfl rfl
 ·cases h)
theorem ash(l:List avP):(List.range l.length).any (fun b=>lM (List.take b l) (v7 l[b]? ByteArray.empty))=xO l:=rfl
def Eu(a:List avP)(b:Nat):(Unit)→Nat ⊕ (Unit)
 |_=>(bif(leI 0 (Qk (v7 a[b]? ByteArray.empty) (List.drop (v5 0) (List.take b a))))then(.inl 0)else(.inr ()))
def zR(a:List avP)(i:Nat):(Unit)→rF
 |_=>((i:Int),a)
def US:rF→Unit
 |(_,_)=>()
theorem anp(c:List avP) (hn:c.length≤9223372036854775807):
  hZ.fin ((0:Int),c)=true∧hZ.res ((0:Int),c)=((br (Eu c) 1 (List.range c.length) 0 ()).1,(zR c) (br (Eu c) 1 (List.range c.length) 0 ()).2.1 (br (Eu c) 1 (List.range c.length) 0 ()).2.2):=by
 have nQ:=hZ.along (zR c) US (Eu c) 1 (fun _ _=>True) (List.range c.length) () (by trivial) (by simp only [hZ,zR,List.length_range];omega) (fun i b a hb hI=> ?_) (fun a hI=> ?_)
 ·exact nQ
 ·obtain⟨⟩:=a
  obtain⟨rfl,fC⟩:=Xh hb
  have hw:IntKind.i64.wrap ((b:Int) + 1)=((b + 1:Nat):Int):=by rw [aM (by omega) (by omega)];omega
  have fB:ltI (b:Int) (c.length:Int)=true:=dw (by omega)
  have Ly:leI (0:Int) (b:Int)=true:=bk (by omega)
  have sO:ltN b c.length=true:=eD (by omega)
  refine⟨?_,?_,?_,?_⟩
  ·have ru:(List.take b c).length≤9223372036854775807:=by rw [j8];omega
   have e:zN (b:Int) c=List.take b c:=by simp [zN]
   have h5:EP (b:Int) c=true:=by simp only [EP,e];exact(amJ _ _ (bx ru)).2
   have h3:JJ (b:Int) c=true:=bk (by omega)
   have h1:JI=true:=rfl
   simp only [He,hZ,LT.nds,allT,zR,EN,EO,JK,h1,h3,h5,fB,Ly,sO,w5,cond_true,Bool.and_self,List.all_nil,List.all_cons]
   cases JM (b:Int) c <;> simp [LT.nds]
  ·simp [Ht,zN,EN,JI,EO,JJ,JK,EP,JM,PO,He,hZ,LT.each,zR,US,hw]
  ·simp only [Ht,zN,EN,JI,EO,JJ,JK,EP,JM,PO,He,hZ,LT.fn,zR,US,Eu,w5,fB,cond_true]
  ·exact fun _ _=>trivial
 ·obtain⟨⟩:=a
  simp [Ht,zN,EN,JI,EO,JJ,JK,EP,JM,PO,He,hZ,LT.out,zR,List.length_range]
theorem auh(l:List avP)(h:leN l.length 9223372036854775807=true):abB l=xO l∧abC l=true:=by
 have hn:=gR.1 h
 obtain⟨w1,w2⟩:=anp l hn
 have hi: ∀ b:Nat,(List.take b l).length≤9223372036854775807:=fun b=>by rw [j8];omega
 rw [lN (P:=fun b=>lM (List.take b l) (v7 l[b]? ByteArray.empty)) (j:=0) (fun b=>by
  simp only [Eu,Int.toNat_zero,List.drop_zero,(amJ _ _ (bx (hi b))).1,Wd]),ash]at w2
 simp only [abB,abC,w1,w2,allT]
 cases xO l <;> simp [Nat.beq]
theorem TN{A B:Type}{f:B→A→Nat ⊕ A}{g:A→B→A}{e:Nat}(hf: ∀ b a,f b a= .inr (g a b)): ∀ (l:List B) (i:Nat) (a:A),br f e l i a=(e,i + l.length,l.foldl g a)
 | [],i,a=>rfl
 |b::r,i,a=>by
  simp only [br,hf,List.foldl_cons]
  rw [TN hf r]
  simp [Nat.add_assoc,Nat.add_comm 1]
def Et(a:List avP)(b:Nat):(Unit)→Nat ⊕ (Unit)
 |_=>(bif(ku (v7 a[b]? ByteArray.empty) (List.drop (v5 0) (List.take b a)))then(.inl 0)else(.inr ()))
def zO(a:List avP)(i:Nat):(Unit)→rz
 |_=>((i:Int),(↑a.length:Int),a)
def UM:rz→Unit
 |(_,_,_)=>()
theorem anj(c:List avP) (hn:c.length≤9223372036854775807):
  gY.fin ((0:Int),(↑c.length:Int),c)=true∧gY.res ((0:Int),(↑c.length:Int),c)=((br (Et c) 1 (List.range c.length) 0 ()).1,(zO c) (br (Et c) 1 (List.range c.length) 0 ()).2.1 (br (Et c) 1 (List.range c.length) 0 ()).2.2):=by
 have nQ:=gY.along (zO c) UM (Et c) 1 (fun _ _=>True) (List.range c.length) () (by trivial) (by simp only [gY,zO,List.length_range];omega) (fun i b a hb hI=> ?_) (fun a hI=> ?_)
 ·exact nQ
 ·obtain⟨⟩:=a
  obtain⟨rfl,fC⟩:=Xh hb
  have hw:IntKind.i64.wrap ((b:Int) + 1)=((b + 1:Nat):Int):=by rw [aM (by omega) (by omega)];omega
  have fB:ltI (b:Int) (c.length:Int)=true:=dw (by omega)
  have Ly:leI (0:Int) (b:Int)=true:=bk (by omega)
  have sO:ltN b c.length=true:=eD (by omega)
  refine⟨?_,?_,?_,?_⟩
  ·have ru:(List.take b c).length≤9223372036854775807:=by rw [j8];omega
   have e:zq (b:Int) c=List.take b c:=by simp [zq]
   have h5:Ez (b:Int) c=true:=by simp only [Ez,e];exact(awg _ _ (bx ru)).2
   have h3:Iu (b:Int) c=true:=bk (by omega)
   have h1:It=true:=rfl
   simp only [GX,gY,LT.nds,allT,zO,Iq,Ey,Ir,Is,h1,h3,h5,fB,Ly,sO,w5,cond_true,Bool.and_self,List.all_nil,List.all_cons]
   cases Iv (b:Int) c <;> simp [LT.nds]
  ·simp [GR,zq,Iq,Ey,Ir,Is,It,Iu,Ez,Iv,Pg,GX,gY,LT.each,zO,UM,hw]
  ·simp only [GR,zq,Iq,Ey,Ir,Is,It,Iu,Ez,Iv,Pg,GX,gY,LT.fn,zO,UM,Et,w5,fB,cond_true]
  ·exact fun _ _=>trivial
 ·obtain⟨⟩:=a
  simp [GR,zq,Iq,Ey,Ir,Is,It,Iu,Ez,Iv,Pg,GX,gY,LT.out,zO,List.length_range]
theorem atV(l:List avP)(h:leN l.length 9223372036854775807=true):abj l=xO l∧abk l=true:=by
 have hn:=gR.1 h
 obtain⟨w1,w2⟩:=anj l hn
 have hi: ∀ b:Nat,(List.take b l).length≤9223372036854775807:=fun b=>by rw [j8];omega
 rw [lN (P:=fun b=>lM (List.take b l) (v7 l[b]? ByteArray.empty)) (j:=0) (fun b=>by
  simp only [Et,Int.toNat_zero,List.drop_zero,(awg _ _ (bx (hi b))).1]),ash]at w2
 simp only [abj,abk,ZE,w1,w2,allT]
 cases xO l <;> simp [Nat.beq]
def ahI:awh
 | [.one ⟨false,[.ref 0]⟩],[.row false 9 (.str) a]=>some ⟨aBB (.val (.bool (xO a))),[aBD a],[],[leN a.length 9223372036854775807]⟩
 |_,_=>none
def sL:PF prog:=PF.alt aqu ahI (by
 intro args es o h cA;unfold ahI at h;split at h
 ·rename_i a
  cases h
  have cA:=jQ cA
  have hh:=auh a cA
  obtain⟨e0,en⟩:=hh
  exact pW rfl (ip en) (by simp only [e0] <;> rfl) rfl rfl
 ·cases h)
def ahC:awh
 | [.one ⟨false,[.ref 0]⟩],[.row false 9 (.str) a]=>some ⟨aBB (.val (.bool (xO a))),[aBD a],[],[leN a.length 9223372036854775807]⟩
 |_,_=>none
def Kp:PF prog:=PF.alt aqn ahC (by
 intro args es o h cA;unfold ahC at h;split at h
 ·rename_i a
  cases h
  have cA:=jQ cA
  have hh:=atV a cA
  obtain⟨e0,en⟩:=hh
  exact pW rfl (ip en) (by simp only [e0] <;> rfl) rfl rfl
 ·cases h)
theorem awV(k:Int):uW k=takesK k:=rfl
theorem axt(n k:Int)(h0:0≤n)(h1:n≤9223372036854775000):IntKind.i64.wrap (IntKind.i64.wrap (n - takesK k) + 1)=n - takesK k + 1∧IntKind.i64.wrap (n + IntKind.i64.wrap (1 - takesK k))=n - takesK k + 1:=by
 have:=Xs k
 refine⟨?_,?_⟩
 ·rw [aM (x:=n - takesK k) (by omega) (by omega),aM (by omega) (by omega)]
 ·rw [aM (x:=1 - takesK k) (by omega) (by omega),aM (by omega) (by omega)];omega
theorem aet(a b:Int):ltI a b= !leI b a:=by
 cases h:leI b a with
 |true=>have:=Gt.1 h;exact IZ (by omega)
 |false=>rw [axf]at h;exact dw (by omega)
def abX(ts:List TM):Bool:=leN ts.length 1048576&&ts.all fun t=>leN t.2.1.size 9223372036854775807
def Xc(ls:List LN):Bool:=leN ls.length 1048576&&ls.all fun l=>leN l.1.size 9223372036854775807&&abX l.2
theorem Xt{ts:List TM}:abX ts=true↔ts.length≤1048576∧ ∀ t∈ts,t.2.1.size≤9223372036854775807:=by
 simp only [abX,q9,gR,List.all_eq_true]
theorem Xd{ls:List LN}:Xc ls=true↔ls.length≤1048576∧ ∀ l∈ls,l.1.size≤9223372036854775807∧abX l.2=true:=by
 simp only [Xc,q9,gR,List.all_eq_true]
def uV(b:Int×(avP×Int)):(Int×Int)→Nat ⊕ (Int×Int)
 |(a,c)=>(bif(bif !Qt b.1 (b.2.1) b.2.2then true else ltI a (uW b.1))then(.inl 0)else(.inr ((v8 .i64 (a + v8 .i64 ((1:Int) - uW b.1))),(aoV c (v8 .i64 (a + v8 .i64 ((1:Int) - uW b.1))) (v8 .i64 (a + v8 .i64 ((1:Int) - uW b.1))) c))))
def Ae(c:ajz)(i:Nat):(Int×Int)→uS
 |(a,b)=>((i:Int),(↑c.length:Int),a,b,c)
def Yf:uS→Int×Int
 |(_,_,a,b,_)=>(a,b)
theorem apu(f:ajz)(c e:Int)(hn:f.length≤9223372036854775807):
  jy.fin ((0:Int),(↑f.length:Int),c,e,f)=true∧jy.res ((0:Int),(↑f.length:Int),c,e,f)=((br (uV) 1 f 0 (c,e)).1,(Ae f) (br (uV) 1 f 0 (c,e)).2.1 (br (uV) 1 f 0 (c,e)).2.2):=by
 have nQ:=jy.along (Ae f) Yf (uV) 1 (fun _ _=>True) f (c,e) (by trivial) (by simp only [jy,Ae];omega) (fun i b a hb hI=> ?_) (fun a hI=> ?_)
 ·exact nQ
 ·obtain⟨c,e⟩:=a
  have fC:=(k9.1 hb).1
  have lP: ∀ d,v7 f[i]? d=b:=fun d=>by rw [hb];rfl
  have hw:=Bm fC hn
  have fB:ltI (i:Int) (f.length:Int)=true:=dw (by omega)
  have Ly:leI (0:Int) (i:Int)=true:=bk (by omega)
  have sO:ltN i f.length=true:=eD fC
  refine⟨?_,?_,?_,?_⟩
  ·simp [vW,Cx,Na,Nb,Nc,Nd,Nf,Ng,Nh,Ni,KM,jy,LT.nds,allT,Ae,fB,Ly,sO,lP]
  ·simp [vW,Cx,Na,Nb,Nc,Nd,Nf,Ng,Nh,Ni,KM,jy,LT.each,Ae,Yf,hw]
  ·simp only [vW,Cx,Na,Nb,Nc,Nd,Nf,Ng,Nh,Ni,KM,jy,LT.fn,Ae,Yf,uV,w5,fB,Ly,sO,lP,cond_true,k8]
  ·exact fun _ _=>trivial
 ·obtain⟨c,e⟩:=a
  simp [vW,Cx,Na,Nb,Nc,Nd,Nf,Ng,Nh,Ni,KM,jy,LT.out,Ae]
theorem ap4: ∀ (ts:List TM) (i:Nat) (n m:Int),0≤n→n + ts.length≤9223372036854775000→
  match htT ts n with
  |some k=>(br uV 1 ts i (n,m)).1=1∧(br uV 1 ts i (n,m)).2.2.1=k
  |none=>(br uV 1 ts i (n,m)).1=0
 | [],i,n,m,_,_=>⟨rfl,rfl⟩
 |t::r,i,n,m,h0,h1=>by
  rw [j9]at h1
  have hw:=(axt n t.1 h0 (by omega)).2
  have ht:=Xs t.1
  have hf:uV t (n,m)=(bif termB t.1 t.2.1 t.2.2&&leI (takesK t.1) n then .inr (n - takesK t.1 + 1,aoV m (n - takesK t.1 + 1) (n - takesK t.1 + 1) m)else .inl 0):=by
   simp only [uV,apL,awV,hw,aet]
   cases termB t.1 t.2.1 t.2.2 <;> cases leI (takesK t.1) n <;> rfl
  simp only [br,hf,htT]
  cases hc:termB t.1 t.2.1 t.2.2&&leI (takesK t.1) n with
  |false=>rfl
  |true=>
   simp only [q9,Gt]at hc
   simp only [cond_true]
   exact ap4 r (i + 1) _ _ (by omega) (by omega)
theorem auZ(ts:List TM)(h:abX ts=true):Mg ts=anT ts∧Mh ts=true:=by
 obtain⟨hn,_⟩:=Xt.1 h
 obtain⟨w1,w2⟩:=apu ts 0 0 (by omega)
 have hh:=ap4 ts 0 0 0 (by omega) (by omega)
 have TP:leI (ts.length:Int) 40=leN ts.length 40:=by
  rw [Bool.eq_iff_iff,Gt,gR];omega
 simp only [Mg,Mh,afd,afe,XS,acV,acW,w1,w2,allT,anT,TP,cond_true,Ae]
 cases hq:htT ts 0 with
 |none=>
  rw [hq]at hh
  simp only at hh
  rw [hh];simp [Nat.beq]
 |some k=>
  rw [hq]at hh
  simp only at hh
  rw [hh.1,hh.2]
  dsimp only
  generalize (k==1)=q
  cases q <;> cases leN ts.length 40 <;> simp [Nat.beq]
def lO(b:Int×(avP×Int)):(Int×avO)→Nat ⊕ (Int×avO)
 |(a,c)=>(bif(bif(!TI b.1 (b.2.1) b.2.2)then true else ltI a (fT b.1))then(.inl 0)else(.inr ((v8 .i64 (v8 .i64 (a - fT b.1) + (1:Int))),(c++ [v8 .i64 (v8 .i64 (a - fT b.1) + (1:Int))]))))
def sH(b:ajz)(i:Nat):(Int×avO)→nS
 |(a,c)=>((i:Int),a,b,c)
def Rl:nS→Int×avO
 |(_,a,_,b)=>(a,b)
theorem aj7(f:ajz)(e:Int)(g:avO)(hn:f.length≤9223372036854775807)(hT:f.length≤1048576)(hA: ∀ x∈f,x.2.1.size≤9223372036854775807)(h3:g.length=0):
  eT.fin ((0:Int),e,f,g)=true∧eT.res ((0:Int),e,f,g)=((br (lO) 1 f 0 (e,g)).1,(sH f) (br (lO) 1 f 0 (e,g)).2.1 (br (lO) 1 f 0 (e,g)).2.2):=by
 have nQ:=eT.along (sH f) Rl (lO) 1 (fun i a=>a.2.length=i) f (e,g) h3 (by simp only [eT,sH];omega) (fun i b a hb hI=> ?_) (fun a hI=> ?_)
 ·exact nQ
 ·obtain⟨e,g⟩:=a
  have fC:=(k9.1 hb).1
  have lP: ∀ d,v7 f[i]? d=b:=fun d=>by rw [hb];rfl
  have hw:=Bm fC hn
  have fB:ltI (i:Int) (f.length:Int)=true:=dw (by omega)
  have Ly:leI (0:Int) (i:Int)=true:=bk (by omega)
  have sO:ltN i f.length=true:=eD fC
  refine⟨?_,?_,?_,?_⟩
  ·have hg2:fA (i:Int) f=b:=by simp only [fA,w5];exact lP _
   have h6:TJ b.1 b.2.1 b.2.2=true:=(ap2 b.1 b.2.1 b.2.2 (bx (hA b (List.mem_of_getElem? hb)))).2
   simp only at hI
   have h8:leN (g.length + 1) 9223372036854775807=true:=bx (by omega)
   have h9:leN ((g.length + 1) * 8) 140737488355328=true:=bx (by omega)
   simp [xF,BM,BN,FQ,FR,FS,FT,FU,FV,FW,Ei,Ej,Ek,DY,eT,LT.nds,allT,sH,fB,Ly,sO,hg2,h6,h8,h9]
  ·simp [fA,vR,vS,xF,BM,BN,FQ,FR,FS,FT,FU,FV,FW,Ei,Ej,Ek,DY,eT,LT.each,sH,Rl,hw]
  ·have hg2:fA (i:Int) f=b:=by simp only [fA,w5];exact lP _
   simp only [xF,BM,BN,FQ,FR,FS,FT,FU,FV,FW,Ei,Ej,Ek,DY,eT,vR,vS,LT.fn,sH,Rl,lO,w5,fB,hg2,cond_true]
  ·intro a' hf
   simp only at hI
   simp only [lO]at hf
   revert hf
   generalize (bif _ then true else _)=c
   cases c with
   |true=>intro hf;cases hf
   |false=>intro hf;simp only [cond_false,Sum.inr.injEq]at hf;subst hf;simp [hI]
 ·obtain⟨e,g⟩:=a
  simp [fA,vR,vS,xF,BM,BN,FQ,FR,FS,FT,FU,FV,FW,Ei,Ej,Ek,DY,eT,LT.out,sH]
theorem aoA: ∀ (ts:List TM) (i:Nat) (n:Int) (L:avO),(∀ x∈ts,x.2.1.size≤9223372036854775807)→0≤n→n + ts.length≤9223372036854775000→
  match htT ts n with
  |some k=>(br lO 1 ts i (n,L)).1=1∧(br lO 1 ts i (n,L)).2.2.1=k
  |none=>(br lO 1 ts i (n,L)).1=0
 | [],i,n,m,_,_,_=>⟨rfl,rfl⟩
 |t::r,i,n,m,hs,h0,h1=>by
  rw [j9]at h1
  have hw:=(axt n t.1 h0 (by omega)).1
  have ht:=Xs t.1
  have hf:lO t (n,m)=(bif termB t.1 t.2.1 t.2.2&&leI (takesK t.1) n then .inr (n - takesK t.1 + 1,m++ [n - takesK t.1 + 1])else .inl 0):=by
   simp only [lO,(ap2 t.1 t.2.1 t.2.2 (bx (hs t (by simp)))).1,show fT t.1=takesK t.1 from rfl,hw,aet]
   cases termB t.1 t.2.1 t.2.2 <;> cases leI (takesK t.1) n <;> rfl
  simp only [br,hf,htT]
  cases hc:termB t.1 t.2.1 t.2.2&&leI (takesK t.1) n with
  |false=>rfl
  |true=>
   simp only [q9,Gt]at hc
   simp only [cond_true]
   exact aoA r (i + 1) _ _ (fun x hx=>hs x (by simp [hx])) (by omega) (by omega)
theorem avC(ts:List TM)(h:abX ts=true):Vg ts=anT ts∧Vh ts=true:=by
 obtain⟨hn,hs⟩:=Xt.1 h
 obtain⟨w1,w2⟩:=aj7 ts 0 [] (by omega) hn hs rfl
 have hh:=aoA ts 0 0 [] hs (by omega) (by omega)
 have TP:leI (ts.length:Int) 40=leN ts.length 40:=by
  rw [Bool.eq_iff_iff,Gt,gR];omega
 simp only [Vg,Vh,YJ,YK,PG,Wz,WA,w1,w2,allT,anT,TP,cond_true,sH]
 cases hq:htT ts 0 with
 |none=>
  rw [hq]at hh
  simp only at hh
  rw [hh];simp [Nat.beq]
 |some k=>
  rw [hq]at hh
  simp only at hh
  rw [hh.1,hh.2]
  dsimp only
  generalize (k==1)=q
  cases q <;> cases leN ts.length 40 <;> simp [Nat.beq]
theorem axO(s:avP)(ts:List TM)(h:abX ts=true):aff s ts=lineB (s,ts)∧afg s ts=true:=by
 obtain⟨e1,e2⟩:=auZ ts h
 simp only [aff,afg,e1,e2,aek,lineB,allT,k7,cond_true]
 cases rx s <;> simp
def abO:awh
 | [.one ⟨false,[.ref 0]⟩],[.row false 122 (.pair (.int .i64) (.pair (.str) (.int .i64))) a]=>some ⟨aBB (.val (.bool (anT a))),[aBG a],[],[abX a]⟩
 |_,_=>none
def De:PF prog:=PF.alt ak2 abO (by
 intro args es o h cA;unfold abO at h;split at h
 ·rename_i a
  cases h
  have cA:=jQ cA
  have hh:=avC a cA
  obtain⟨e0,en⟩:=hh
  exact pW rfl (ip en) (by simp only [e0] <;> rfl) rfl rfl
 ·cases h)
def alm:awh
 | [.one ⟨true,[.val (.string a),.ref 0]⟩],[.row false 122 (.pair (.int .i64) (.pair (.str) (.int .i64))) b]=>some ⟨aBB (.val (.bool (lineB (a,b)))),[aBG b],[],[abX b]⟩
 |_,_=>none
def Qu:PF prog:=PF.alt asz alm (by
 intro args es o h cA;unfold alm at h;split at h
 ·rename_i a b
  cases h
  have cA:=jQ cA
  have hh:=axO a b cA
  obtain⟨e0,en⟩:=hh
  exact pW rfl (ip en) (by simp only [e0] <;> rfl) rfl rfl
 ·cases h)
theorem Lp.along2{X A B:Type}(p:Lp X)(st:Nat→A→X)(pr:X→A)(f:B→A→Nat ⊕ A)(e:Nat)(Inv:Nat→A→Prop)(xs:List B)(a:A)
  (h0:Inv 0 a) (hf:xs.length≤100000000000)
  (hs: ∀ i b a,xs[i]? =some b→Inv i a→(p.lt (st i a)).nds=true∧(p.lt (st i a)).each (fun y=>y=st (i + 1) (pr y))∧(p.lt (st i a)).fn pr=f b a∧ ∀ a',f b a= .inr a'→Inv (i + 1) a')
  (he: ∀ a,Inv xs.length a→(p.lt (st xs.length a)).out=some (.inl e)):
  p.fin (st 0 a)=true∧p.res (st 0 a)=((br f e xs 0 a).1,st (br f e xs 0 a).2.1 (br f e xs 0 a).2.2):=by
 have hs': ∀ i b a,xs[i]? =some b→Inv i a→(p.lt (st i a)).out=some (match f b a with | .inl j=> .inl j | .inr a'=> .inr (st (i + 1) a'))∧ ∀ a',f b a= .inr a'→Inv (i + 1) a':=by
  intro i b a hb hI
  obtain⟨h1,h2,h3,h4⟩:=hs i b a hb hI
  refine⟨?_,h4⟩
  rw [LT.out_of h1 h2,h3]
  cases f b a <;> rfl
 refine p.run (akg st f e Inv xs hs' he xs 0 a rfl (by omega) h0) ?_
 rw [aye]
 have:1000 ^ 4≤(p.fuel (st 0 a) + 1000) ^ 4:=Nat.pow_le_pow_left (by omega) 4
 omega
def aqX(a:List TM)(b:TM):List TM:=bif leI 7 b.1 then a++ [b]else a
theorem arf: ∀ (ts acc:List TM),ts.foldl aqX acc=acc++blT ts
 | [],acc=>by simp [blT]
 |t::r,acc=>by
  rw [List.foldl_cons,arf r]
  simp only [aqX,blT,List.filter_cons]
  cases leI 7 t.1 <;> simp
theorem asV: ∀ (ls:List LN) (acc:List TM),ls.foldl (fun a l=>a++blT l.2) acc=acc++blL ls
 | [],acc=>by simp [blL]
 |l::r,acc=>by
  rw [List.foldl_cons,asV r]
  simp [blL]
theorem atw(ts:List TM):(blT ts).length≤ts.length:=List.length_filter_le _ _
theorem auw(a:List TM)(b:TM):(aqX a b).length≤a.length + 1:=by
 simp only [aqX];cases leI 7 b.1 <;> simp
def cz(b:Int×(avP×Int)):(ajz)→Nat ⊕ (ajz)
 |a=>(bif(leI 7 b.1)then(.inr (a++([(b.1,b.2.1,b.2.2)])))else(.inr a))
def dr(a:ajz)(i:Nat):(ajz)→bv
 |b=>((i:Int),(↑a.length:Int),a,b)
def qQ:bv→ajz
 |(_,_,_,a)=>a
theorem Lx(c e:ajz)(hn:c.length≤9223372036854775807)(hc:e.length + c.length≤4000000000000):
  ah.fin ((0:Int),(↑c.length:Int),c,e)=true∧ah.res ((0:Int),(↑c.length:Int),c,e)=((br (cz) 0 c 0 e).1,(dr c) (br (cz) 0 c 0 e).2.1 (br (cz) 0 c 0 e).2.2):=by
 have nQ:=ah.along (dr c) qQ (cz) 0 (fun i a=>a.length≤e.length + i) c e (Nat.le_refl _) (by simp only [ah,dr];omega) (fun i b a hb hI=> ?_) (fun a hI=> ?_)
 ·exact nQ
 ·obtain e:=a
  have fC:=(k9.1 hb).1
  have lP: ∀ d,v7 c[i]? d=b:=fun d=>by rw [hb];rfl
  have hw:=Bm fC hn
  have fB:ltI (i:Int) (c.length:Int)=true:=dw (by omega)
  have Ly:leI (0:Int) (i:Int)=true:=bk (by omega)
  have sO:ltN i c.length=true:=eD fC
  refine⟨?_,?_,?_,?_⟩
  ·have hg2:bn (i:Int) c=b:=by simp only [bn,w5];exact lP _
   have h8: ∀ z:TM,leN (a.length + v6 [z]) 9223372036854775807=true:=fun z=>bx (by rw [j6];omega)
   have h9: ∀ z:TM,leN ((a.length + v6 [z]) * 32) 140737488355328=true:=fun z=>bx (by rw [j6];omega)
   simp only [gc,gd,ge,gf,gg,gh,gi,eH,gj,fH,ah,dg,dh,LT.nds,allT,dr,fB,Ly,sO,hg2,h8,h9,w5,cond_true,k7]
   cases leI 7 b.1 <;> simp [LT.nds]
  ·simp [bn,dg,dh,gc,gd,ge,gf,gg,gh,gi,eH,gj,fH,ah,LT.each,dr,qQ,hw]
  ·have hg2:bn (i:Int) c=b:=by simp only [bn,w5];exact lP _
   simp only [gc,gd,ge,gf,gg,gh,gi,eH,gj,fH,ah,dg,dh,LT.fn,dr,qQ,cz,w5,fB,hg2,cond_true]
  ·intro a' hf
   have hf2:cz b a= .inr (aqX a b):=by
    simp only [cz,aqX];cases leI 7 b.1 <;> rfl
   rw [hf2]at hf
   simp only [Sum.inr.injEq]at hf
   subst hf
   have:=auw a b
   omega
 ·obtain e:=a
  simp [bn,dg,dh,gc,gd,ge,gf,gg,gh,gi,eH,gj,fH,ah,LT.out,dr]
theorem amf(ts acc:List TM)(hn:ts.length≤9223372036854775807)(hc:acc.length + ts.length≤4000000000000):
  ah.fin ((0:Int),(ts.length:Int),ts,acc)=true∧(ah.res ((0:Int),(ts.length:Int),ts,acc)).2.2.2.2=acc++blT ts:=by
 obtain⟨w1,w2⟩:=Lx ts acc hn hc
 rw [TN (g:=aqX) (fun b a=>by simp only [cz,aqX];cases leI 7 b.1 <;> rfl)]at w2
 exact⟨w1,by rw [w2];exact arf ts acc⟩
def cS(b:avP×(ajz)):(ajz)→Nat ⊕ (ajz)
 |a=>(.inr ((Lp.res ah ((0:Int),(↑(v6 b.2):Int),b.2,a)).2.2.2.2))
def cL(a:afa)(i:Nat):(ajz)→bJ
 |b=>((i:Int),(↑a.length:Int),a,b)
def sD:bJ→ajz
 |(_,_,_,a)=>a
theorem Og(c:afa)(e:ajz)(hn:c.length≤9223372036854775807)(hN:c.length≤1048576)(hL: ∀ l∈c,l.2.length≤1048576)(h3:e.length=0):
  aJ.fin ((0:Int),(↑c.length:Int),c,e)=true∧aJ.res ((0:Int),(↑c.length:Int),c,e)=((br (cS) 0 c 0 e).1,(cL c) (br (cS) 0 c 0 e).2.1 (br (cS) 0 c 0 e).2.2):=by
 have nQ:=aJ.along (cL c) sD (cS) 0 (fun i a=>a.length≤i * 1048576) c e (by omega) (by simp only [aJ,cL];omega) (fun i b a hb hI=> ?_) (fun a hI=> ?_)
 ·exact nQ
 ·obtain e:=a
  have fC:=(k9.1 hb).1
  have lP: ∀ d,v7 c[i]? d=b:=fun d=>by rw [hb];rfl
  have hw:=Bm fC hn
  have fB:ltI (i:Int) (c.length:Int)=true:=dw (by omega)
  have Ly:leI (0:Int) (i:Int)=true:=bk (by omega)
  have sO:ltN i c.length=true:=eD fC
  refine⟨?_,?_,?_,?_⟩
  ·have hg2:cJ (i:Int) c=b.2:=by simp only [cJ,w5];exact congrArg Prod.snd (lP _)
   have hbl:=hL b (List.mem_of_getElem? hb)
   have h4:ie (i:Int) c a=true:=by
    simp only [ie,eZ,hg2]
    exact(amf b.2 a (by omega) (by omega)).1
   simp only [aJ,gX,ic,mm,mn,mo,LT.nds,allT,cL,fB,Ly,sO,h4,w5,cond_true,Bool.and_self]
  ·simp [cJ,eZ,ic,mm,mn,mo,ie,sR,mp,gX,aJ,LT.each,cL,sD,hw]
  ·have hg2:cJ (i:Int) c=b.2:=by simp only [cJ,w5];exact congrArg Prod.snd (lP _)
   simp only [aJ,gX,ic,mp,eZ,LT.fn,cL,sD,cS,fB,hg2,cond_true]
  ·intro a' hf
   have hbl:=hL b (List.mem_of_getElem? hb)
   have h5:=atw b.2
   simp only [cS,Sum.inr.injEq,(amf b.2 a (by omega) (by omega)).2]at hf
   subst hf
   rw [j7]
   omega
 ·obtain e:=a
  simp [cJ,eZ,ic,mm,mn,mo,ie,sR,mp,gX,aJ,LT.out,cL]
theorem aw6{f:LN→List TM→Nat ⊕ List TM}{e:Nat}: ∀ (ls:List LN) (i:Nat) (acc:List TM) (c:Nat),(∀ l∈ls,∀ a:List TM,a.length≤c + (ls.length * 1048576)→f l a= .inr (a++blT l.2))→(∀ l∈ls,l.2.length≤1048576)→acc.length≤c→
  br f e ls i acc=(e,i + ls.length,acc++blL ls)
 | [],i,acc,c,_,_,_=>by simp [br,blL]
 |l::r,i,acc,c,hf,hL,hc=>by
  have h5:=atw l.2
  have h6:=hL l (by simp)
  simp only [br,hf l (by simp) acc (by omega)]
  rw [aw6 r (i + 1) (acc++blT l.2) (c + 1048576) (fun x hx a ha=>hf x (by simp [hx]) a (by rw [j9];omega)) (fun x hx=>hL x (by simp [hx])) (by rw [j7];omega)]
  simp [blL];omega
theorem auX(ls:List LN)(h:Xc ls=true):uy ls=blL ls∧uz ls=true:=by
 obtain⟨hn,hA⟩:=Xd.1 h
 have hL: ∀ l∈ls,l.2.length≤1048576:=fun l hl=>(Xt.1 (hA l hl).2).1
 obtain⟨w1,w2⟩:=Og ls [] (by omega) hn hL rfl
 have hw:=aw6 (f:=cS) (e:=0) ls 0 [] 0 (fun l hl a ha=>by
  have:=hL l hl
  simp only [cS,(amf l.2 a (by omega) (by omega)).2]) hL (by simp)
 rw [hw]at w2
 simp only [uy,uz,ud,w1,w2,allT,cL]
 simp
theorem avV(k:Nat)(u v:avP)(acc:List TM)(p q r:List avP)(ls:List LN)(l:LN)(hl:ls[k]? =some l)(hn:l.2.length≤1048576)(hc:acc.length + l.2.length≤4000000000000):
  fO.fin ((0:Int),(k:Int),u,v,acc,p,q,r,ls)=true∧fO.res ((0:Int),(k:Int),u,v,acc,p,q,r,ls)=(0,((l.2.length:Int),(k:Int),u,v,acc++blT l.2,p,q,r,ls)):=by
 have hkl:=(k9.1 hl).1
 have hgl: ∀ d,v7 ls[k]? d=l:=fun d=>by rw [hl];rfl
 have ha2:wI (k:Int) ls=l.2:=by simp only [wI,w5];exact congrArg Prod.snd (hgl _)
 have ha0:NI (k:Int) ls=true:=dw (by omega)
 have ha1:Gz (k:Int) ls=true:=by simp only [Gz,w5];exact eD hkl
 have hk0:leI 0 (k:Int)=true:=bk (by omega)
 have nQ:=fO.along2 (fun i (a:List TM)=>((i:Int),(k:Int),u,v,a,p,q,r,ls)) (fun x=>x.2.2.2.2.1) (fun(b:TM) a=> .inr (aqX a b)) 0 (fun i a=>a.length≤acc.length + i) l.2 acc (by omega)
  (by omega) (fun i b a hb hI=> ?_) (fun a hI=> ?_)
 ·rw [TN (g:=aqX) (fun b a=>rfl),arf]at nQ
  simpa using nQ
 ·have fC:=(k9.1 hb).1
  have hw:IntKind.i64.wrap ((i:Int) + 1)=((i + 1:Nat):Int):=by rw [aM (by omega) (by omega)];omega
  have fB:ltI (i:Int) (l.2.length:Int)=true:=dw (by omega)
  have Ly:leI (0:Int) (i:Int)=true:=bk (by omega)
  have sO:ltN i l.2.length=true:=eD fC
  have hg2:wK (i:Int) (k:Int) ls=b:=by simp only [wK,ha2,w5,hb,Option.getD_some]
  have hg3:wJ (i:Int) (k:Int) ls=true:=by simp only [wJ,ha2,fB]
  have h8: ∀ z:TM,leN (a.length + v6 [z]) 9223372036854775807=true:=fun z=>bx (by rw [j6];omega)
  have h9: ∀ z:TM,leN ((a.length + v6 [z]) * 32) 140737488355328=true:=fun z=>bx (by rw [j6];omega)
  refine⟨?_,?_,?_,?_⟩
  ·simp only [yT,yU,yV,yW,CT,CU,CV,CW,CX,CY,BO,BP,BQ,BR,BT,wH,BU,BC,fO,fU,wL,LT.nds,allT,ha0,ha1,ha2,hk0,hg2,hg3,fB,Ly,sO,h8,h9,w5,cond_true,k7]
   cases leI 7 b.1 <;> simp [LT.nds]
  ·simp only [yT,yU,yV,yW,CT,CU,CV,CW,CX,CY,BO,BP,BQ,BR,BT,wH,BU,BC,fO,fU,wL,LT.each,hw,hg2,hg3]
   cases leI 7 b.1 <;> simp [LT.each]
  ·simp only [yT,yU,yV,yW,CT,CU,CV,CW,CX,CY,BO,BP,BQ,BR,BT,wH,BU,BC,fO,fU,wL,LT.fn,hg2,hg3,cond_true,aqX]
   cases leI 7 b.1 <;> rfl
  ·intro a' hf
   simp only [Sum.inr.injEq]at hf
   subst hf
   have:=auw a b
   omega
 ·have fB:wJ (l.2.length:Int) (k:Int) ls=false:=by simp only [wJ,ha2];exact IZ (by omega)
  simp [yT,yU,yV,yW,CT,CU,CV,CW,CX,CY,BO,BP,BQ,BR,BT,wH,BU,BC,fO,LT.out,allT,ha0,ha1,hk0,fB]
theorem avB(u v:avP)(p q r:List avP)(ls:List LN)(h:Xc ls=true):ZY u v p q r ls=blL ls∧ZZ u v p q r ls=true:=by
 obtain⟨hn,hA⟩:=Xd.1 h
 have hL: ∀ l∈ls,l.2.length≤1048576:=fun l hl=>(Xt.1 (hA l hl).2).1
 have nQ:=lR.along (fun i (a:List TM)=>((i:Int),u,v,a,p,q,r,ls)) (fun x=>x.2.2.2.1) (fun(b:LN) a=> .inr (a++blT b.2)) 0 (fun i a=>a.length≤i * 1048576) ls [] (by simp)
  (by simp only [lR];omega) (fun i b a hb hI=> ?_) (fun a hI=> ?_)
 ·rw [TN (g:=fun a (l:LN)=>a++blT l.2) (fun b a=>rfl),asV]at nQ
  simp only [ZY,ZZ,YM,allT]
  simp only [List.nil_append,Nat.zero_add]at nQ
  have e0:((0:Nat):Int)=0:=rfl
  rw [e0]at nQ
  rw [nQ.1,nQ.2]
  exact⟨rfl,rfl⟩
 ·have fC:=(k9.1 hb).1
  have hbl:=hL b (List.mem_of_getElem? hb)
  have hw:IntKind.i64.wrap ((i:Int) + 1)=((i + 1:Nat):Int):=by rw [aM (by omega) (by omega)];omega
  have fB:ltI (i:Int) (ls.length:Int)=true:=dw (by omega)
  obtain⟨k1,k2⟩:=avV i u v a p q r ls b hb hbl (by omega)
  refine⟨?_,?_,?_,?_⟩
  ·simp [Ho,Hq,Hr,Hs,Fy,lR,FX,LT.nds,allT,fB,k1]
  ·simp [Ho,Hq,Hr,Hs,Fy,lR,FX,LT.each,fB,hw,k2]
  ·simp [Ho,Hq,Hr,Hs,Fy,lR,FX,LT.fn,fB,k2]
  ·intro a' hf
   simp only [Sum.inr.injEq]at hf
   subst hf
   have:=atw b.2
   rw [j7];omega
 ·have fB:ltI (ls.length:Int) (ls.length:Int)=false:=IZ (by omega)
  simp [Ho,Hq,Hr,Hs,Fy,lR,LT.out,fB]
def Dt:awh
 | [.one ⟨true,[.val (.string _x0),.ref 0,.ref 1,.ref 2,.val (.string _x1),.ref 3]⟩],[.row false 9 (.str) a,.row false 9 (.str) b,.row false 9 (.str) c,.row false 142 (.pair (.str) (.sl 122 (.pair (.int .i64) (.pair (.str) (.int .i64))))) d]=>some ⟨aBB (.ref 4),[aBD a,aBD b,aBD c,aBH d],[aBM (blL d)],[Xc d]⟩
 |_,_=>none
def aB:PF prog:=PF.alt Qf Dt (by
 intro args es o h cA;unfold Dt at h;split at h
 ·rename_i _x0 _x1 a b c d
  cases h
  have cA:=jQ cA
  have hh:=auX d cA
  obtain⟨e0,en⟩:=hh
  exact pW rfl (ip en) rfl rfl (by simp only [e0] <;> rfl)
 ·cases h)
def afQ:awh
 | [.one ⟨true,[.val (.string a),.ref 0,.ref 1,.ref 2,.val (.string b),.ref 3]⟩],[.row false 9 (.str) c,.row false 9 (.str) d,.row false 9 (.str) e,.row false 142 (.pair (.str) (.sl 122 (.pair (.int .i64) (.pair (.str) (.int .i64))))) f]=>some ⟨aBB (.ref 4),[aBD c,aBD d,aBD e,aBH f],[aBM (blL f)],[Xc f]⟩
 |_,_=>none
def xW:PF prog:=PF.alt aph afQ (by
 intro args es o h cA;unfold afQ at h;split at h
 ·rename_i a b c d e f
  cases h
  have cA:=jQ cA
  have hh:=avB a b c d e f cA
  obtain⟨e0,en⟩:=hh
  exact pW rfl (ip en) rfl rfl (by simp only [e0] <;> rfl)
 ·cases h)
theorem azF(n:Int)(h0:0≤n)(h1:n≤100000000):Ab n= []∧Ac n=true:=by
 have w0:IntKind.i64.wrap ((↑(0:Nat):Int) - (↑(0:Nat):Int))=0:=rfl
 have e0:bT n=n:=by simp only [bT,w0];rw [aM (by omega) (by omega)];omega
 refine⟨?_,?_⟩
 ·simp only [Ab,e0];cases ltI 0 n <;> rfl
 ·have t0:ltI n 0=false:=IZ h0
  have t1:leI (0:Int) (0:Int)=true:=rfl
  have t2:leI (↑(0:Nat):Int) (0:Int)=true:=rfl
  have t3:leI (0:Int) (↑(0:Nat):Int)=true:=rfl
  have t4:leI n 9223372036854775807=true:=bk (by omega)
  have t5:leI (n * (↑(16:Nat):Int)) 281474976710656=true:=bk (by omega)
  have t6: ∀ m:Nat,leI (↑(0:Nat):Int) (m:Int)=true:=fun m=>bk (by omega)
  have t7:(!ltI 0 n||leI 1 n)=true:=by
   cases h:ltI 0 n with
   |false=>rfl
   |true=>have:=ab7.1 h;rw [bk (by omega)];rfl
  simp only [Ac,ED,e0,t0,t1,t2,t3,t4,t5,t6,t7,allT,k7,Bool.not_false,cond_true]
def Qo(l:ap9):Nat:=(l.map v6).sum
theorem ap3(a b:ap9):Qo (a++b)=Qo a + Qo b:=by simp [Qo]
theorem akm{l:ap9}{i:Nat}{b:List avP}(hb:l[i]? =some b):Qo (l.take (i + 1))=Qo (l.take i) + b.length∧Qo (l.take (i + 1))≤Qo l:=by
 obtain⟨hi,rfl⟩:=k9.1 hb
 refine⟨?_,?_⟩
 ·rw [List.take_succ_eq_append_getElem hi,ap3];simp [Qo]
 ·have h5:=ap3 (l.take (i + 1)) (l.drop (i + 1))
  rw [List.take_append_drop]at h5
  omega
def ei(b:List avP):(Int)→Nat ⊕ (Int)
 |a=>(.inr (v8 .i64 (a + (↑(v6 b):Int))))
def fF(b:ap9)(i:Nat):(Int)→ef
 |a=>((i:Int),(↑b.length:Int),a,b)
def Cb:ef→Int
 |(_,_,a,_)=>a
theorem Za(e:ap9)(c:Int)(hn:e.length≤9223372036854775807)(h0:c=0)(hS:Qo e≤2000000):
  bY.fin ((0:Int),(↑e.length:Int),c,e)=true∧bY.res ((0:Int),(↑e.length:Int),c,e)=((br (ei) 0 e 0 c).1,(fF e) (br (ei) 0 e 0 c).2.1 (br (ei) 0 e 0 c).2.2):=by
 have nQ:=bY.along (fF e) Cb (ei) 0 (fun i a=>a=(Qo (e.take i):Int)) e c (by rw [h0];simp [Qo]) (by simp only [bY,fF];omega) (fun i b a hb hI=> ?_) (fun a hI=> ?_)
 ·exact nQ
 ·obtain c:=a
  have fC:=(k9.1 hb).1
  have lP: ∀ d,v7 e[i]? d=b:=fun d=>by rw [hb];rfl
  have hw:=Bm fC hn
  have fB:ltI (i:Int) (e.length:Int)=true:=dw (by omega)
  have Ly:leI (0:Int) (i:Int)=true:=bk (by omega)
  have sO:ltN i e.length=true:=eD fC
  refine⟨?_,?_,?_,?_⟩
  ·have hg2:iq (i:Int) a e=(Qo (e.take (i + 1)):Int):=by
    have h3:=akm hb
    simp only [iq,w5]
    refine(congrArg (fun z:List avP=>IntKind.i64.wrap (a + (z.length:Int))) (lP _)).trans ?_
    show IntKind.i64.wrap (a + (b.length:Int))=_
    rw [hI,aM (by omega) (by omega)];omega
   have h6:ltI (Qo (e.take (i + 1)):Int) 0=false:=IZ (by omega)
   simp only [bY,qp,rc,vY,vZ,wa,wb,LT.nds,allT,fF,fB,Ly,sO,hg2,h6,w5,cond_true,Bool.and_self,Bool.not_false]
  ·simp [iq,rc,vY,vZ,wa,wb,CN,wc,qp,bY,LT.each,fF,Cb,hw]
  ·simp only [bY,qp,rc,wc,iq,LT.fn,fF,Cb,ei,fB,w5,cond_true]
   exact congrArg (fun z:List avP=>(Sum.inr (IntKind.i64.wrap (a + (z.length:Int))):Nat ⊕ Int)) (lP _)
  ·intro a' hf
   have h3:=akm hb
   simp only [ei,Sum.inr.injEq]at hf
   rw [← hf,hI,aM (by omega) (by omega)];omega
 ·obtain c:=a
  simp [iq,rc,vY,vZ,wa,wb,CN,wc,qp,bY,LT.out,fF]
def ja(b:List avP):(List avP)→Nat ⊕ (List avP)
 |a=>(.inr (a++(b)))
def fG(a:ap9)(i:Nat):(List avP)→eg
 |b=>((i:Int),(↑a.length:Int),a,b)
def Cc:eg→List avP
 |(_,_,_,a)=>a
theorem Zb(c:ap9)(e:List avP)(hn:c.length≤9223372036854775807)(hS:Qo c≤2000000)(h3:e= []):
  bZ.fin ((0:Int),(↑c.length:Int),c,e)=true∧bZ.res ((0:Int),(↑c.length:Int),c,e)=((br (ja) 0 c 0 e).1,(fG c) (br (ja) 0 c 0 e).2.1 (br (ja) 0 c 0 e).2.2):=by
 have nQ:=bZ.along (fG c) Cc (ja) 0 (fun i a=>a.length=Qo (c.take i)) c e (by rw [h3];simp [Qo]) (by simp only [bZ,fG];omega) (fun i b a hb hI=> ?_) (fun a hI=> ?_)
 ·exact nQ
 ·obtain e:=a
  have fC:=(k9.1 hb).1
  have lP: ∀ d,v7 c[i]? d=b:=fun d=>by rw [hb];rfl
  have hw:=Bm fC hn
  have fB:ltI (i:Int) (c.length:Int)=true:=dw (by omega)
  have Ly:leI (0:Int) (i:Int)=true:=bk (by omega)
  have sO:ltN i c.length=true:=eD fC
  refine⟨?_,?_,?_,?_⟩
  ·have hg2:eK (i:Int) c=b:=by simp only [eK,w5];exact lP _
   have h3:=akm hb
   have h6:leN (a.length + b.length) 9223372036854775807=true:=bx (by omega)
   have h7:leN ((a.length + b.length) * 16) 140737488355328=true:=bx (by omega)
   simp only [bZ,qq,re,wd,we,wg,wh,wi,LT.nds,allT,fG,fB,Ly,sO,hg2,h6,h7,w5,cond_true,Bool.and_self]
  ·simp [eK,re,wd,we,wg,wh,wi,CO,wj,qq,bZ,LT.each,fG,Cc,hw]
  ·have hg2:eK (i:Int) c=b:=by simp only [eK,w5];exact lP _
   simp only [bZ,qq,re,wj,LT.fn,fG,Cc,ja,fB,hg2,cond_true]
  ·intro a' hf
   have h3:=akm hb
   simp only [ja,Sum.inr.injEq]at hf
   rw [← hf,j7];omega
 ·obtain e:=a
  simp [eK,re,wd,we,wg,wh,wi,CO,wj,qq,bZ,LT.out,fG]
theorem auM: ∀ (l:ap9) (acc:List avP),l.foldl (fun a b=>a++b) acc=acc++l.flatten
 | [],acc=>by simp
 |a::r,acc=>by rw [List.foldl_cons,auM r];simp
theorem aAr(l:ap9)(h:(leN l.length 1000&&leN (Qo l) 2000000)=true):FB l=l.flatten∧FC l=true:=by
 simp only [q9,gR]at h
 obtain⟨w1,w2⟩:=Za l 0 (by omega) rfl h.2
 have hw:(br ei 0 l 0 (0:Int)).2.2=(Qo l:Int):=by
  have hg: ∀ (r:ap9) (i:Nat) (a:Int),0≤a→a + Qo r≤2000000→(br ei 0 r i a).2.2=a + Qo r:=by
   intro r
   induction r with
   |nil=>intro i a _ _;simp [br,Qo]
   |cons x r ih=>
    intro i a h0 h1
    have h3:Qo (x::r)=x.length + Qo r:=by simp [Qo]
    have hf:ei x a= .inr (a + (x.length:Int)):=by
     simp only [ei]
     rw [aM (by omega) (by omega)]
    simp only [br,hf]
    rw [ih (i + 1) (a + (x.length:Int)) (by omega) (by omega),h3]
    omega
  have:=hg l 0 0 (by omega) (by omega)
  omega
 have ha1:yk l=(Qo l:Int):=by
  simp only [yk,yj,w2,fF]
  exact hw
 obtain⟨g1,g2⟩:=azF (Qo l:Int) (by omega) (by omega)
 obtain⟨v1,v2⟩:=Zb l [] (by omega) h.2 rfl
 rw [TN (f:=ja) (g:=fun a b=>a++b) (fun b a=>rfl),auM]at v2
 refine⟨?_,?_⟩
 ·simp only [FB,ym,ha1,g1,v2,fG,List.nil_append]
 ·simp only [FC,ym,ha1,g1,g2,v1,yj,w1,allT,cond_true]
def OE:awh
 | [.one ⟨false,[.ref 0]⟩],[.row false 40 (.sl 9 (.str)) a]=>some ⟨aBB (.ref 1),[aBV a],[aBJ (a.flatten)],[leN a.length 1000&&leN (Qo a) 2000000]⟩
 |_,_=>none
def dH:PF prog:=PF.alt aaL OE (by
 intro args es o h cA;unfold OE at h;split at h
 ·rename_i a
  cases h
  have cA:=jQ cA
  have hh:=aAr a cA
  obtain⟨e0,en⟩:=hh
  exact pW rfl (ip en) rfl rfl (by simp only [e0] <;> rfl)
 ·cases h)
end Go.SX
