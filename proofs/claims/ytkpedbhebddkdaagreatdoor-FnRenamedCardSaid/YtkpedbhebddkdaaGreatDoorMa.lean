/- What functions of the program come to, and what that says in plain words: part 1. -/
import Derived.Test.YtkpedbhebddkdaaGreatDoorTXh
import Derived.Test.YtkpedbhebddkdaaGreatDoorProg
set_option linter.unusedSimpArgs false
set_option linter.unusedVariables false
open Bool renaming and_eq_true → q9
open Int renaming toNat_natCast → z6
open List renaming length_append → z9
open List renaming length_take → j6
open List renaming length_cons → j7
open Bool renaming or_true → j8
open Bool renaming cond_self → j9
open List renaming getElem?_eq_some_iff → k7
open Int renaming toNat → k8
open List renaming length → k9
open Option renaming getD → v5
open Go.IntKind renaming wrap → v6
open List renaming replicate → v7
open List renaming mem_singleton → v8
namespace Go.SX
open Go.Proofs
def T3z {P : Program} (l : List (PF P)) : List (PF P) :=l.flatMap fun p=>[p,PF.lend p,PF.fz p]
abbrev arp:Type:=ByteArray
abbrev aao:CTy:=(CTy.pair CTy.str (CTy.sl 64 (CTy.pair (CTy.int IntKind.i64) (CTy.pair CTy.str (CTy.int IntKind.i64)))))
abbrev abn:CTy:=(CTy.pair (CTy.int IntKind.i64) (CTy.pair (CTy.int IntKind.i64) (CTy.int IntKind.i64)))
abbrev afn:CTy:=(CTy.pair (CTy.int IntKind.i64) (CTy.pair CTy.str (CTy.int IntKind.i64)))
abbrev agS:Type:=List (ByteArray×(List (Int×(ByteArray×Int))))
abbrev agT:Type:=List (ByteArray×List (Int×ByteArray×Int))
abbrev aiL:CTy:=(CTy.sl 2 (CTy.int IntKind.i64))
abbrev ajd:Type:=List (Int×(ByteArray×Int))
abbrev aje:Type:=List (Int×ByteArray×Int)
abbrev akp:CTy:=(CTy.int IntKind.i64)
abbrev akQ:Type:=List (List ByteArray)
abbrev akR:CTy:=(CTy.int IntKind.u8)
abbrev alK:Type:=List (Int×(Int×Int))
abbrev alL:Type:=List (Int×Int×Int)
abbrev amc:Type:=List (List Int)
abbrev arn:CTy:=(CTy.str)
abbrev aro:Type:=List Int
abbrev arv:=Entry.row false 9 arn
abbrev arw:=Entry.row true 9 arn
abbrev arx:=Entry.row false 61 aao
abbrev ary:=Entry.row false 5 akR
abbrev arz:=Entry.row false 61 (CTy.pair CTy.str (CTy.sl (64:TypeId) afn))
abbrev arA:=Entry.row false 64 afn
abbrev arB:=Entry.row false 2 akp
abbrev arC:=Entry.row true 2 akp
abbrev arD:=Entry.row true 61 aao
abbrev arE:=Entry.row true 64 afn
abbrev arF:=Entry.row true 129 abn
abbrev arG:=Entry.row false 129 abn
abbrev arH:=Entry.row false 41 (CTy.sl (2:TypeId) akp)
abbrev arI:=Entry.row false 41 aiL
abbrev arJ:=Entry.row true 129 (.pair (.int .i64) (.pair (.int .i64) (.int .i64)))
abbrev arK:=Entry.row false 24 (CTy.sl (9:TypeId) CTy.str)
abbrev arL:=Entry.row false 129 (.pair (.int .i64) (.pair (.int .i64) (.int .i64)))
abbrev art(c:Cell):SV:=.one ⟨false,[c]⟩
abbrev aru(a:Int):SV:=.one ⟨false,[.val (.int .i64 a)]⟩
abbrev arq:Type:=List SV→List Entry→Option Out
abbrev ars(a:Int):Cell:=.val (.int .i64 a)
theorem S0z:(∀ (α:Type) (a b:α),(bif true then a else b)=a)∧(∀ (α:Type) (a b:α),(bif false then a else b)=b)∧(∀ (α:Type) (c:Bool) (a:α),(bif c then a else a)=a)∧((!true)=false)∧((!false)=true)∧(∀ b:Bool,(true||b)=true)∧(∀ b:Bool,(b||true)=true)∧(∀ b:Bool,(false||b)=b)∧(∀ b:Bool,(b||false)=b)∧(∀ b:Bool,(b&&b)=b)∧(∀ b:Bool,(b&&true)=b)∧(∀ b:Bool,(true&&b)=b)∧(∀ b:Bool,(false&&b)=false)∧(∀ b:Bool,(b&&false)=false)∧(∀ (α:Type) [BEq α] [LawfulBEq α] (a:α),(a != a)=false)∧(∀ (α:Type) [BEq α] [LawfulBEq α] (a:α),(a==a)=true):=by and_intros <;> intros <;> simp
end Go.SX
namespace Go.SX
open Go.Proofs Go.Proofs.Tryz
set_option maxRecDepth 100000
theorem aZ:Tryz.prog.follows .mixedOrders=true:=by kernel_rfl
def cd(a b c:Int):Bool:=bif leI b a then leI a c else false
def aex:arq
 | [.one ⟨false,[.val (.int .i64 a)]⟩,.one ⟨false,[.val (.int .i64 b)]⟩,.one ⟨false,[.val (.int .i64 c)]⟩],[]=>some ⟨art (.val (.bool (cd a b c))),[],[],[]⟩
 |_,_=>none
def EG:PF prog:=PF.ofG prog [] [] aZ 75 f75 func75 (fun c _=>LOk.nil c) aex (by
 intro _ _ _ h;unfold aex at h;split at h<;>cases h;kernel_rfl)
def vl(a b c:Int):Bool:=bif leI b a then leI a c else false
def acZ:arq
 | [.one ⟨false,[.val (.int .i64 a)]⟩,.one ⟨false,[.val (.int .i64 b)]⟩,.one ⟨false,[.val (.int .i64 c)]⟩],[]=>some ⟨art (.val (.bool (vl a b c))),[],[],[]⟩
 |_,_=>none
def Xd:PF prog:=PF.ofG prog [] [] aZ 69 f69 func69 (fun c _=>LOk.nil c) acZ (by
 intro _ _ _ h;unfold acZ at h;split at h<;>cases h;kernel_rfl)
def xA(a:aro):Bool:=allT [ltN 0 a.length,false||leN (0 + k9 a) 9223372036854775807,false||leN ((0 + k9 a) * 8) 140737488355328]
def KG:arq
 | [.one ⟨false,[.ref 0]⟩],[.row false 2 (.int .i64) a]=>some ⟨art (.ref 1),[arB a],[arC a],[xA a]⟩
 |_,_=>none
def UB:PF prog:=PF.ofG prog [] [] aZ 109 f109 func109 (fun c _=>LOk.nil c) KG (by
 intro _ _ _ h;unfold KG at h;split at h<;>cases h;kernel_rfl)
abbrev nH:=Int×List Int×List Int
section
variable (a:Int)(b c:aro)
def yX:Bool:=ltI a (↑b.length:Int)
def yY:Bool:=leI 0 a
def Cx:Bool:=ltN a.toNat b.length
def Cy:Bool:=ltI a (↑c.length:Int)
def Cz:Bool:=ltN a.toNat c.length
def CA:Bool:=v5 b[k8 a]? 0!=v5 c[k8 a]? 0
def CB:Int:=v6 .i64 (a + (1:Int))
end
def acp:nH→List (Nat×SV)
 |(a,_,_)=> [(5,(aru a)),(0,(art (.ref 0))),(1,(art (.ref 1)))]
def acg:nH→List (Nat×Entry)
 |(_,a,b)=> [(0,(arB a)),(1,(arB b))]
def acH:Nat→nH→List (Nat×SV)
 |0,(_,_,_)=> [(4,(art (.val (.bool false))))]
 |_,_=>[]
def Bd:nH→LT nH
 |(a,b,c)=> .ite (yX a b) (.need [yY a,yX a b,Cx a b,yY a,Cy a c,Cz a c] (.ite (CA a b c) (.ext 0 [(0,0),(1,1)]) (.nrm ((CB a),b,c) [(0,0),(1,1)]))) (.ext 1 [(0,0),(1,1)])
def MX(s:St):Option nH:=do
 let some ⟨none,.one ⟨false,[.val (.int .i64 a)]⟩⟩:=s.look 5|none
 let some ⟨none,.one ⟨false,[.ref 0]⟩⟩:=s.look 0|none
 let some ⟨none,.one ⟨false,[.ref 1]⟩⟩:=s.look 1|none
 let some (.row false 2 (.int .i64) b):=s.ent 0|none
 let some (.row false 2 (.int .i64) c):=s.ent 1|none
 some (a,b,c)
def fR:Lp nH where
 h:=⟨[11,12,13,14,17,18,19,20,21,22,23,24,25,4,15,16,5],[0,1],[],[]⟩
 JL:=acp
 JE:=acg
 XL:=acH
 XE:=fun _=>acg
 q:=fun j=>match j with | 0=> .ret | _=> .exit 0
 tags:= [0,1]
 lt:=Bd
 fuel:=fun(a,b,c)=>a.natAbs + b.length + c.length
 fix:=fun(_,b,c) (a,_,_)=>(a,b,c)
 σ:= [(0,0),(1,1)]
 rd:=MX
theorem aas:LoopOk prog (fun k=>Nat.blt k Tryz.f39.ntmps) fR.F (bc f39 0):=by
 refine Lp.ok (tbl:= []) (lf:= []) aZ fR (by kernel_rfl) (LOk.nil _) (fun _=>rfl) (fun j _=>by unfold fR;match j with | 0=>rfl | _ + 1=>rfl) ?_ ?_ ?_ ?_ (fun _=>rfl) ?_
 ·intro _;kernel_rfl
 ·intro _;kernel_rfl
 ·intro s x h
  have h:MX s=some x:=h
  unfold MX at h
  repeat' split at h
  all_goals cases h
  constructor<;>repeat(first|refine aa ‹_› rfl ?_|refine ab rfl ‹_› rfl ?_|rfl)
 ·intro _;kernel_rfl
 ·intro _ _;exact(And.intro (And.intro trivial rfl) trivial)
section
variable (a b:aro)
def LY:Bool:=(↑a.length:Int)!=(↑b.length:Int)
def LZ:Int×aro×aro:=((0:Int),a,b)
def NR:Bool:=bif LY a b then false else bif Nat.beq ((Lp.res fR (LZ a b)).1) 0 then false else true
def NS:Bool:=allT [LY a b||Lp.fin fR (LZ a b)]
end
def Zo:arq
 | [.one ⟨false,[.ref 0]⟩,.one ⟨false,[.ref 1]⟩],[.row false 2 (.int .i64) a,.row false 2 (.int .i64) b]=>some ⟨art (.val (.bool (NR a b))),[arB a,arB b],[],[NS a b]⟩
 |_,_=>none
def ag7:PF prog:=PF.ofG prog [] [fR.F] aZ 39 f39 func39 (LOk.fnT (l:= [bc f39 0]) (by kernel_rfl) (.cons aas (.nil _))) Zo (by
 intro _ _ _ h;unfold Zo at h;split at h<;>cases h;kernel_rfl)
def blk(p:Int):Int:=Int.tdiv p 3
def inR(a lo hi:Int):Bool:=leI lo a&&leI a hi
def eqL(xs ys:aro):Bool:=decide (xs=ys)
theorem aox(xs:aro):eqL xs xs=true:=by simp [eqL]
theorem Es{a lo hi:Int}:inR a lo hi=true↔lo≤a∧a≤hi:=by simp [inR]
theorem YO(a lo hi:Int):(bif leI lo a then leI a hi else false)=inR a lo hi:=by
 unfold inR;cases leI lo a <;> rfl
def Cb(a c:aro)(b:Nat):(Unit)→Nat ⊕ (Unit)
 |_=>(bif(v5 a[b]? 0!=v5 c[b]? 0)then(.inl 0)else(.inr ()))
def uE(a b:aro)(i:Nat):(Unit)→nH
 |_=>((i:Int),a,b)
def MP:nH→Unit
 |(_,_,_)=>()
theorem aem(c d:aro) (hn:c.length≤9223372036854775807) (he:d.length=c.length):
  fR.fin ((0:Int),c,d)=true∧fR.res ((0:Int),c,d)=((bH (Cb c d) 1 (List.range c.length) 0 ()).1,(uE c d) (bH (Cb c d) 1 (List.range c.length) 0 ()).2.1 (bH (Cb c d) 1 (List.range c.length) 0 ()).2.2):=by
 have qa:=fR.along (uE c d) MP (Cb c d) 1 (fun _ _=>True) (List.range c.length) () (by trivial) (by simp only [fR,uE,List.length_range];omega) (fun i b a hb hI=> ?_) (fun a hI=> ?_)
 ·exact qa
 ·obtain⟨⟩:=a
  obtain⟨rfl,iX⟩:=Ua hb
  have hw:IntKind.i64.wrap ((b:Int) + 1)=((b + 1:Nat):Int):=by rw [be (by omega) (by omega)];omega
  have lR:ltI (b:Int) (c.length:Int)=true:=ew (by omega)
  have Nl:leI (0:Int) (b:Int)=true:=cG (by omega)
  have wO:ltN b c.length=true:=gM (by omega)
  refine⟨?_,?_,?_,?_⟩
  ·simp [yX,yY,Cx,Cy,Cz,CA,CB,Bd,fR,LT.nds,allT,uE,lR,Nl,wO,he]
  ·simp [yX,yY,Cx,Cy,Cz,CA,CB,Bd,fR,LT.each,uE,MP,hw,he]
  ·simp only [yX,yY,Cx,Cy,Cz,CA,CB,Bd,fR,LT.fn,uE,MP,Cb,z6,lR,cond_true]
  ·exact fun _ _=>trivial
 ·obtain⟨⟩:=a
  simp [yX,yY,Cx,Cy,Cz,CA,CB,Bd,fR,LT.out,uE,List.length_range]
theorem ak6(xs ys:aro)(hn:leN xs.length 9223372036854775807=true):NR xs ys=eqL xs ys∧NS xs ys=true:=by
 have hn:=iC.1 hn
 unfold eqL
 by_cases hl:ys.length=xs.length
 ·obtain⟨w1,w2⟩:=aem xs ys hn hl
  have ha:=aqe (d:=(0:Int)) hl (P:=fun b=>v5 xs[b]? 0 !=v5 ys[b]? 0) (fun b=>by simp [bne,BEq.beq])
  rw [oq (P:=fun b=>v5 xs[b]? 0 !=v5 ys[b]? 0) (j:=0) (fun b=>rfl),ha]at w2
  simp only [LY,LZ,NR,NS,w1,w2,allT]
  by_cases he:xs=ys
  ·subst he;simp;decide
  ·simp [he,hl]
 ·have TY:xs≠ys:=fun h=>hl (by rw [h])
  simp [LY,LZ,NR,NS,allT,TY]
  omega
def ZC:arq
 | [.one ⟨false,[.ref 0]⟩,.one ⟨false,[.ref 1]⟩],[.row false 2 (.int .i64) a,.row false 2 (.int .i64) b]=>some ⟨art (.val (.bool (eqL a b))),[arB a,arB b],[],[leN a.length 9223372036854775807]⟩
 |_,_=>none
def DX:PF prog:=PF.alt ag7 ZC (by
 intro args es o h cm;unfold ZC at h;split at h
 ·rename_i a b
  cases h
  have cm:=lv cm
  have hh:=ak6 a b cm
  obtain⟨e0,en⟩:=hh
  exact re rfl (la en) (by simp only [e0] <;> rfl) rfl rfl
 ·cases h)
theorem aon(xs:aro)(h:(leN 1 xs.length&&leN xs.length 1048576)=true):xA xs=true:=by
 simp only [q9,iC]at h
 simp [xA,allT]
 omega
def agf:arq
 | [.one ⟨false,[.val (.slice none 0 0)]⟩],[]=>some ⟨art (.ref 0),[],[.row true 2 (.int .i64) []],[true]⟩
 |_,_=>none
def alh:PF prog:=PF.ofG prog [PF.raw prog] [] aZ 109 f109 func109 (fun c _=>LOk.nil c) agf (by
 intro _ _ _ h;unfold agf at h;split at h<;>cases h;kernel_rfl)
def age:arq
 | [.one ⟨false,[.val (.slice (some _) 0 _)]⟩],[]=>some ⟨art (.ref 0),[],[.row true 2 (.int .i64) []],[true]⟩
 |_,_=>none
def alg:PF prog:=PF.ofG prog [] [] aZ 109 f109 func109 (fun c _=>LOk.nil c) age (by
 intro _ _ _ h;unfold age at h;split at h<;>cases h;kernel_rfl)
def KT:arq
 | [.one ⟨false,[.ref 0]⟩],[.row false 2 (.int .i64) a]=>some ⟨art (.ref 1),[.row false 2 (.int .i64) a],[.row true 2 (.int .i64) a],[leN a.length 1048576]⟩
 |_,_=>none
def CI:PF prog where
 k:=109
 F:=KT
 ok:=by
  intro args es o h cm mem ρ w hp
  unfold KT at h
  split at h
  ·rename_i a
   cases h
   have hl:=cm _ (v8.2 rfl)
   cases a with
   |nil=>
    exact(alZ alh alg rfl rfl rfl (fun _ _=>rfl) (by simp) (by simp) hp).mono fun en w' ⟨ρ',h1,h2,h3⟩=>⟨ρ',h1,h2,rfl,(by intro v hv;rw [v8.1 hv];rfl),h3⟩
   |cons x xs=>exact UB.ok _ _ ⟨_,_,_,[xA (x::xs)]⟩ rfl (fun b hb=>by rw [v8.1 hb];exact aon (x::xs) ((q9 _ _).mpr ⟨bK (Nat.succ_pos _),hl⟩)) mem ρ w hp
  ·cases h
def GW(a:Int):Bool:=bif leI 97 a then leI a 122 else false
def Xq:arq
 | [.one ⟨false,[.val (.int .u8 a)]⟩],[]=>some ⟨art (.val (.bool (GW a))),[],[],[]⟩
 |_,_=>none
def Re:PF prog:=PF.ofG prog [] [] aZ 79 f79 func79 (fun c _=>LOk.nil c) Xq (by
 intro _ _ _ h;unfold Xq at h;split at h<;>cases h;kernel_rfl)
def Tg(a:Int):Bool:=bif leI 48 a then leI a 57 else false
def Zq:arq
 | [.one ⟨false,[.val (.int .u8 a)]⟩],[]=>some ⟨art (.val (.bool (Tg a))),[],[],[]⟩
 |_,_=>none
def ag9:PF prog:=PF.ofG prog [] [] aZ 103 f103 func103 (fun c _=>LOk.nil c) Zq (by
 intro _ _ _ h;unfold Zq at h;split at h<;>cases h;kernel_rfl)
def NU(a:Int):Bool:=bif bif GW a then true else Tg a then true else a==95
def Zr:arq
 | [.one ⟨false,[.val (.int .u8 a)]⟩],[]=>some ⟨art (.val (.bool (NU a))),[],[],[]⟩
 |_,_=>none
def ZK:PF prog:=PF.ofG prog [Re,ag9] [] aZ 78 f78 func78 (fun c _=>LOk.nil c) Zr (by
 intro _ _ _ h;unfold Zr at h;split at h<;>cases h;kernel_rfl)
abbrev uJ:=Int×arp
section
variable (a:Int)(b:arp)
def EJ:Bool:=ltI a (↑(ByteArray.size b):Int)
def Wi:Bool:=leI 0 a
def PY:Bool:= !NU (↑(UInt8.toNat (v5 b[k8 a]? (0:UInt8))):Int)
def Wj:Int:=v6 .i64 (a + (1:Int))
end
def adx:uJ→List (Nat×SV)
 |(a,b)=> [(3,(aru a)),(0,(art (.val (.string b))))]
def adr:uJ→List (Nat×Entry)
 |(_,_)=> []
def adJ:Nat→uJ→List (Nat×SV)
 |0,(_,_)=> [(2,(art (.val (.bool false))))]
 |_,_=>[]
def CG:uJ→LT uJ
 |(a,b)=> .ite (EJ a b) (.need [Wi a,EJ a b] (.ite (PY a b) (.ext 0 []) (.nrm ((Wj a),b) []))) (.ext 1 [])
def Ol(s:St):Option uJ:=do
 let some ⟨none,.one ⟨false,[.val (.int .i64 a)]⟩⟩:=s.look 3|none
 let some ⟨none,.one ⟨false,[.val (.string b)]⟩⟩:=s.look 0|none
 some (a,b)
def il:Lp uJ where
 h:=⟨[4,5,6,7,10,11,12,13,14,2,8,9,3],[],[],[]⟩
 JL:=adx
 JE:=adr
 XL:=adJ
 XE:=fun _=>adr
 q:=fun j=>match j with | 0=> .ret | _=> .exit 0
 tags:= [0,1]
 lt:=CG
 fuel:=fun(a,b)=>a.natAbs + b.size
 fix:=fun(_,b) (a,_)=>(a,b)
 σ:= []
 rd:=Ol
theorem aby:LoopOk prog (fun k=>Nat.blt k Tryz.f49.ntmps) il.F (bc f49 0):=by
 refine Lp.ok (tbl:= [EG,ZK,Re]) (lf:= []) aZ il (by kernel_rfl) (LOk.nil _) (fun _=>rfl) (fun j _=>by unfold il;match j with | 0=>rfl | _ + 1=>rfl) ?_ ?_ ?_ ?_ (fun _=>rfl) ?_
 ·intro _;kernel_rfl
 ·intro _;kernel_rfl
 ·intro s x h
  have h:Ol s=some x:=h
  unfold Ol at h
  repeat' split at h
  all_goals cases h
  exact⟨aa ‹_› rfl (aa ‹_› rfl (rfl)),rfl⟩
 ·intro _;kernel_rfl
 ·intro _ _;exact(And.intro (And.intro trivial rfl) trivial)
section
variable (a:arp)
def NV:Bool:=Nat.beq ((Lp.res il ((0:Int),a)).1) 0
def NW:Bool:=cd (↑(ByteArray.size a):Int) 1 12
def UR:Bool:=bif NV a then false else bif NW a then GW (↑(UInt8.toNat (v5 a[k8 0]? (0:UInt8))):Int)else false
def US:Bool:=allT [Lp.fin il ((0:Int),a),NV a||(!(NW a&&true)||leI 0 0),NV a||(!(NW a&&true)||ltI 0 (↑(ByteArray.size a):Int))]
end
def aaH:arq
 | [.one ⟨false,[.val (.string a)]⟩],[]=>some ⟨art (.val (.bool (UR a))),[],[],[US a]⟩
 |_,_=>none
def aij:PF prog:=PF.ofG prog [EG,ZK,Re] [il.F] aZ 49 f49 func49 (LOk.fnT (l:= [bc f49 0]) (by kernel_rfl) (.cons aby (.nil _))) aaH (by
 intro _ _ _ h;unfold aaH at h;split at h<;>cases h;kernel_rfl)
def Ou:List arp:=
 [{ data:= #[(112:UInt8),(114:UInt8),(111:UInt8),(103:UInt8),(114:UInt8),(97:UInt8),(109:UInt8)] },
 {data:= #[(105:UInt8),(110:UInt8)] },{ data:= #[(118:UInt8),(97:UInt8),(114:UInt8)] },
 {data:= #[(111:UInt8),(117:UInt8),(116:UInt8)] },{ data:= #[(103:UInt8),(117:UInt8),(97:UInt8),(114:UInt8),(100:UInt8)] },
 {data:= #[(101:UInt8),(110:UInt8),(100:UInt8)] },{ data:= #[(97:UInt8),(110:UInt8),(100:UInt8)] },
 {data:= #[(111:UInt8),(114:UInt8)] },{ data:= #[(110:UInt8),(111:UInt8),(116:UInt8)] },
 {data:= #[(116:UInt8),(114:UInt8),(117:UInt8),(101:UInt8)] },
 {data:= #[(102:UInt8),(97:UInt8),(108:UInt8),(115:UInt8),(101:UInt8)] },{ data:= #[(111:UInt8),(110:UInt8)] },
 {data:= #[(111:UInt8),(102:UInt8),(102:UInt8)] },{ data:= #[(114:UInt8),(105:UInt8),(115:UInt8),(101:UInt8)] },
 {data:= #[(108:UInt8),(97:UInt8),(116:UInt8),(99:UInt8),(104:UInt8)] },
 {data:= #[(99:UInt8),(111:UInt8),(117:UInt8),(110:UInt8),(116:UInt8)] },
 {data:= #[(112:UInt8),(97:UInt8),(105:UInt8),(114:UInt8)] }]
def Uf:arq
 | [],[]=>some ⟨art (.ref 0),[],[arw (Ou)],[]⟩
 |_,_=>none
def UC:PF prog:=PF.ofG prog [] [] aZ 80 f80 func80 (fun c _=>LOk.nil c) Uf (by
 intro _ _ _ h;unfold Uf at h;split at h<;>cases h;kernel_rfl)
abbrev lm:=Int×arp×List arp
section
variable (a:Int)(b:arp)(c:List arp)
def wH:Bool:=ltI a (↑c.length:Int)
def zY:Bool:=leI 0 a
def zZ:Bool:=ltN a.toNat c.length
def Aa:Bool:=ByteArray.toList (v5 c[k8 a]? ByteArray.empty)==ByteArray.toList b
def Ab:Int:=v6 .i64 (a + (1:Int))
end
def ZW:lm→List (Nat×SV)
 |(a,b,_)=> [(4,(aru a)),(3,(art (.ref 0))),(0,(art (.val (.string b))))]
def ZP:lm→List (Nat×Entry)
 |(_,_,a)=> [(0,(arw a))]
def aak:Nat→lm→List (Nat×SV)
 |0,(a,_,_)=> [(2,(aru a))]
 |_,_=>[]
def yG:lm→LT lm
 |(a,b,c)=> .ite (wH a c) (.need [zY a,wH a c,zZ a c] (.ite (Aa a b c) (.ext 0 [(0,0)]) (.nrm ((Ab a),b,c) [(0,0)]))) (.ext 1 [(0,0)])
def JM(s:St):Option lm:=do
 let some ⟨none,.one ⟨false,[.val (.int .i64 a)]⟩⟩:=s.look 4|none
 let some ⟨none,.one ⟨false,[.ref 128]⟩⟩:=s.look 3|none
 let some ⟨none,.one ⟨false,[.val (.string b)]⟩⟩:=s.look 0|none
 let some (.row true 9 (.str) c):=s.ent 128|none
 some (a,b,c)
def dL:Lp lm where
 h:=⟨[6,7,8,9,12,13,14,15,16,17,18,2,10,11,4],[0],[],[]⟩
 JL:=ZW
 JE:=ZP
 XL:=aak
 XE:=fun _=>ZP
 q:=fun j=>match j with | 0=> .ret | _=> .exit 0
 tags:= [0,1]
 lt:=yG
 fuel:=fun(a,b,c)=>a.natAbs + b.size + c.length
 fix:=fun(_,b,c) (a,_,_)=>(a,b,c)
 σ:= [(0,128)]
 rd:=JM
theorem XK:LoopOk prog (fun k=>Nat.blt k Tryz.f50.ntmps) dL.F (bc f50 0):=by
 refine Lp.ok (tbl:= [UC]) (lf:= []) aZ dL (by kernel_rfl) (LOk.nil _) (fun _=>rfl) (fun j _=>by unfold dL;match j with | 0=>rfl | _ + 1=>rfl) ?_ ?_ ?_ ?_ (fun _=>rfl) ?_
 ·intro _;kernel_rfl
 ·intro _;kernel_rfl
 ·intro s x h
  have h:JM s=some x:=h
  unfold JM at h
  repeat' split at h
  all_goals cases h
  constructor<;>repeat(first|refine aa ‹_› rfl ?_|refine ab rfl ‹_› rfl ?_|rfl)
 ·intro _;kernel_rfl
 ·intro _ _;exact(And.intro (And.intro trivial rfl) trivial)
section
variable (a:arp)
def Ij:Int×arp×List arp:=((0:Int),a,Ou)
def Ku:Int:=bif Nat.beq ((Lp.res dL (Ij a)).1) 0 then ((Lp.res dL (Ij a)).2).1else(-1:Int)
def Kv:Bool:=allT [Lp.fin dL (Ij a)]
end
def VE:arq
 | [.one ⟨false,[.val (.string a)]⟩],[]=>some ⟨aru (Ku a),[],[],[Kv a]⟩
 |_,_=>none
def ae8:PF prog:=PF.ofG prog [UC] [dL.F] aZ 50 f50 func50 (LOk.fnT (l:= [bc f50 0]) (by kernel_rfl) (.cons XK (.nil _))) VE (by
 intro _ _ _ h;unfold VE at h;split at h<;>cases h;kernel_rfl)
def xg(a:arp)(b:Int):Int:=ibs a b
def Ee:arq
 | [.one ⟨false,[.val (.string a)]⟩,.one ⟨false,[.val (.int .u8 b)]⟩],[]=>some ⟨aru (xg a b),[],[],[]⟩
 |_,_=>none
def PH:PF prog:=PF.ofG prog [] [] aZ 101 f101 func101 (fun c _=>LOk.nil c) Ee (by
 intro _ _ _ h;unfold Ee at h;split at h<;>cases h;kernel_rfl)
def Gc(a:arp)(b:Int):Int:=xg a b
def Tr:arq
 | [.one ⟨false,[.val (.string a)]⟩,.one ⟨false,[.val (.int .u8 b)]⟩],[]=>some ⟨aru (Gc a b),[],[],[]⟩
 |_,_=>none
def MM:PF prog:=PF.ofG prog [PH] [] aZ 70 f70 func70 (fun c _=>LOk.nil c) Tr (by
 intro _ _ _ h;unfold Tr at h;split at h<;>cases h;kernel_rfl)
abbrev BG:=Int×Int×arp×arp
section
variable (a b:Int)(c d:arp)
def zM:Bool:=ltI (v6 .i64 (a + b)) (↑(ByteArray.size c):Int)
def WR:Bool:= !(zM a b c&&true)||leI 0 (v6 .i64 (a + b))
def WS:Bool:= !(zM a b c&&true)||zM a b c
def Rs:Bool:=bif zM a b c then leI 0 (Gc d (↑(UInt8.toNat (v5 c[k8 (v6 .i64 (a + b))]? (0:UInt8))):Int))else false
def adc:Int:=v6 .i64 (b + (1:Int))
end
def ahq:BG→List (Nat×SV)
 |(a,b,c,d)=> [(1,(aru a)),(7,(aru b)),(0,(art (.val (.string c)))),(2,(art (.val (.string d))))]
def ahp:BG→List (Nat×Entry)
 |(_,_,_,_)=> []
def aht:Nat→BG→List (Nat×SV)
 |_,(_,a,_,_)=> [(7,(aru a))]
def Lq:BG→LT BG
 |(a,b,c,d)=> .need [WR a b c,WS a b c] (.ite (Rs a b c d) (.nrm (a,adc b,c,d) []) (.ext 0 []))
def UE(s:St):Option BG:=do
 let some ⟨none,.one ⟨false,[.val (.int .i64 a)]⟩⟩:=s.look 1|none
 let some ⟨none,.one ⟨false,[.val (.int .i64 b)]⟩⟩:=s.look 7|none
 let some ⟨none,.one ⟨false,[.val (.string c)]⟩⟩:=s.look 0|none
 let some ⟨none,.one ⟨false,[.val (.string d)]⟩⟩:=s.look 2|none
 some (a,b,c,d)
def kZ:Lp BG where
 h:=⟨[8,9,10,11,12,13,14,15,16,17,18,19,20,21,22,23,24,25,7],[],[],[]⟩
 JL:=ahq
 JE:=ahp
 XL:=aht
 XE:=fun _=>ahp
 q:=fun j=>match j with | _=> .exit 0
 tags:= [0]
 lt:=Lq
 fuel:=fun(a,b,c,d)=>a.natAbs + b.natAbs + c.size + d.size
 fix:=fun(a,_,c,d) (_,b,_,_)=>(a,b,c,d)
 σ:= []
 rd:=UE
theorem afI:LoopOk prog (fun k=>Nat.blt k Tryz.f71.ntmps) kZ.F (bc f71 0):=by
 refine Lp.ok (tbl:= [MM]) (lf:= []) aZ kZ (by kernel_rfl) (LOk.nil _) (fun _=>rfl) (fun _ _=>rfl) ?_ ?_ ?_ ?_ (fun _=>rfl) ?_
 ·intro _;kernel_rfl
 ·intro _;kernel_rfl
 ·intro s x h
  have h:UE s=some x:=h
  unfold UE at h
  repeat' split at h
  all_goals cases h
  exact⟨aa ‹_› rfl (aa ‹_› rfl (aa ‹_› rfl (aa ‹_› rfl (rfl)))),rfl⟩
 ·intro _;kernel_rfl
 ·intro _ _;exact(And.intro rfl trivial)
section
variable (a:arp)(b:Int)(c:arp)
def agr:Int×Int×arp×arp:=(b,(0:Int),a,c)
def ahS:Int:=((Lp.res kZ (agr a b c)).2.2).1
def ahT:Bool:=allT [Lp.fin kZ (agr a b c)]
end
def aho:arq
 | [.one ⟨false,[.val (.string a)]⟩,.one ⟨false,[.val (.int .i64 b)]⟩,.one ⟨false,[.val (.string c)]⟩],[]=>some ⟨aru (ahS a b c),[],[],[ahT a b c]⟩
 |_,_=>none
def amo:PF prog:=PF.ofG prog [MM] [kZ.F] aZ 71 f71 func71 (LOk.fnT (l:= [bc f71 0]) (by kernel_rfl) (.cons afI (.nil _))) aho (by
 intro _ _ _ h;unfold aho at h;split at h<;>cases h;kernel_rfl)
def zL(a:arp):Bool:=vl (↑(ByteArray.size a):Int) 1 12
def Gx(a:arp):Bool:=
 bif zL a then
 leI (0:Int)
  (Gc
   {
    data:=
     #[(97:UInt8),(98:UInt8),(99:UInt8),(100:UInt8),(101:UInt8),(102:UInt8),(103:UInt8),(104:UInt8),(105:UInt8),
      (106:UInt8),(107:UInt8),(108:UInt8),(109:UInt8),(110:UInt8),(111:UInt8),(112:UInt8),(113:UInt8),(114:UInt8),
      (115:UInt8),(116:UInt8),(117:UInt8),(118:UInt8),(119:UInt8),(120:UInt8),(121:UInt8),(122:UInt8)] }
   (↑(UInt8.toNat (v5 a[k8 (0:Int)]? (0:UInt8))):Int))
 else false
def WP(a:arp):Bool:=
 bif Gx a then
 ahS a (0:Int)
   {
    data:=
     #[(97:UInt8),(98:UInt8),(99:UInt8),(100:UInt8),(101:UInt8),(102:UInt8),(103:UInt8),(104:UInt8),(105:UInt8),
      (106:UInt8),(107:UInt8),(108:UInt8),(109:UInt8),(110:UInt8),(111:UInt8),(112:UInt8),(113:UInt8),(114:UInt8),
      (115:UInt8),(116:UInt8),(117:UInt8),(118:UInt8),(119:UInt8),(120:UInt8),(121:UInt8),(122:UInt8),(48:UInt8),
      (49:UInt8),(50:UInt8),(51:UInt8),(52:UInt8),(53:UInt8),(54:UInt8),(55:UInt8),(56:UInt8),(57:UInt8),
      (95:UInt8)] } ==
  (↑(ByteArray.size a):Int)
 else false
def WQ(a:arp):Bool:=
 allT
 [!(zL a&&true)||leI (0:Int) (0:Int),!(zL a&&true)||ltI (0:Int) (↑(ByteArray.size a):Int),
  !(Gx a&&true)||
   ahT a (0:Int)
    {
     data:=
      #[(97:UInt8),(98:UInt8),(99:UInt8),(100:UInt8),(101:UInt8),(102:UInt8),(103:UInt8),(104:UInt8),(105:UInt8),
       (106:UInt8),(107:UInt8),(108:UInt8),(109:UInt8),(110:UInt8),(111:UInt8),(112:UInt8),(113:UInt8),(114:UInt8),
       (115:UInt8),(116:UInt8),(117:UInt8),(118:UInt8),(119:UInt8),(120:UInt8),(121:UInt8),(122:UInt8),(48:UInt8),
       (49:UInt8),(50:UInt8),(51:UInt8),(52:UInt8),(53:UInt8),(54:UInt8),(55:UInt8),(56:UInt8),(57:UInt8),
       (95:UInt8)] }]
def acY:arq
 | [.one ⟨false,[.val (.string a)]⟩],[]=>some ⟨art (.val (.bool (WP a))),[],[],[WQ a]⟩
 |_,_=>none
def aiT:PF prog:=PF.ofG prog [Xd,MM,amo] [] aZ 43 f43 func43 (fun c _=>LOk.nil c) acY (by
 intro _ _ _ h;unfold acY at h;split at h<;>cases h;kernel_rfl)
abbrev dr:=Int×Int×arp×List arp
section
variable (a b:Int)(c:arp)(d:List arp)
def ov:Bool:=ltI a b
def ow:Bool:=leI 0 a
def ox:Bool:=ltI a (↑d.length:Int)
def oy:Bool:=ltN a.toNat d.length
def oz:Bool:=ByteArray.toList c==ByteArray.toList (v5 d[k8 a]? ByteArray.empty)
def oA:Int:=v6 .i64 (a + (1:Int))
end
def Pg:dr→List (Nat×SV)
 |(a,b,c,_)=> [(8,(aru a)),(7,(aru b)),(1,(art (.val (.string c)))),(0,(art (.ref 0)))]
def Pf:dr→List (Nat×Entry)
 |(_,_,_,a)=> [(0,(arv a))]
def Pk:Nat→dr→List (Nat×SV)
 |0,(a,_,_,_)=> [(4,(aru a))]
 |_,_=>[]
def np:dr→LT dr
 |(a,b,c,d)=> .ite (ov a b) (.need [ow a,ox a d,oy a d] (.ite (oz a c d) (.ext 0 [(0,0)]) (.nrm ((oA a),b,c,d) [(0,0)]))) (.ext 1 [(0,0)])
def xx(s:St):Option dr:=do
 let some ⟨none,.one ⟨false,[.val (.int .i64 a)]⟩⟩:=s.look 8|none
 let some ⟨none,.one ⟨false,[.val (.int .i64 b)]⟩⟩:=s.look 7|none
 let some ⟨none,.one ⟨false,[.val (.string c)]⟩⟩:=s.look 1|none
 let some ⟨none,.one ⟨false,[.ref 0]⟩⟩:=s.look 0|none
 let some (.row false 9 (.str) d):=s.ent 0|none
 some (a,b,c,d)
def aX:Lp dr where
 h:=⟨[9,10,5,11,12,13,14,15,16,17,4,18,8],[0],[],[]⟩
 JL:=Pg
 JE:=Pf
 XL:=Pk
 XE:=fun _=>Pf
 q:=fun j=>match j with | 0=> .ret | _=> .exit 0
 tags:= [0,1]
 lt:=np
 fuel:=fun(a,b,c,d)=>a.natAbs + b.natAbs + c.size + d.length
 fix:=fun(_,b,c,d) (a,_,_,_)=>(a,b,c,d)
 σ:= [(0,0)]
 rd:=xx
theorem Oe:LoopOk prog (fun k=>Nat.blt k Tryz.f42.ntmps) aX.F (bc f42 0):=by
 refine Lp.ok (tbl:= []) (lf:= []) aZ aX (by kernel_rfl) (LOk.nil _) (fun _=>rfl) (fun j _=>by unfold aX;match j with | 0=>rfl | _ + 1=>rfl) ?_ ?_ ?_ ?_ (fun _=>rfl) ?_
 ·intro _;kernel_rfl
 ·intro _;kernel_rfl
 ·intro s x h
  have h:xx s=some x:=h
  unfold xx at h
  repeat' split at h
  all_goals cases h
  constructor<;>repeat(first|refine aa ‹_› rfl ?_|refine ab rfl ‹_› rfl ?_|rfl)
 ·intro _;kernel_rfl
 ·intro _ _;exact(And.intro (And.intro trivial rfl) trivial)
section
variable (a:arp)(b:List arp)
def pX:Int×Int×arp×List arp:=((0:Int),(↑b.length:Int),a,b)
def qR:Int:=bif Nat.beq ((Lp.res aX (pX a b)).1) 0 then ((Lp.res aX (pX a b)).2).1else(-1:Int)
def qS:Bool:=allT [Lp.fin aX (pX a b)]
end
def Iz:arq
 | [.one ⟨false,[.ref 0]⟩,.one ⟨false,[.val (.string a)]⟩],[.row false 9 (.str) b]=>some ⟨aru (qR a b),[arv b],[],[qS a b]⟩
 |_,_=>none
def vC:PF prog:=PF.ofG prog [] [aX.F] aZ 42 f42 func42 (LOk.fnT (l:= [bc f42 0]) (by kernel_rfl) (.cons Oe (.nil _))) Iz (by
 intro _ _ _ h;unfold Iz at h;split at h<;>cases h;kernel_rfl)
def iZ(a:arp)(b:List arp):Bool:=leI 0 (qR a b)
def ld(a:arp)(b:List arp):Bool:=allT [qS a b]
def Fr:arq
 | [.one ⟨false,[.ref 0]⟩,.one ⟨false,[.val (.string a)]⟩],[.row false 9 (.str) b]=>some ⟨art (.val (.bool (iZ a b))),[arv b],[],[ld a b]⟩
 |_,_=>none
def du:PF prog:=PF.ofG prog (T3z [vC]) [] aZ 23 f23 func23 (fun c _=>LOk.nil c) Fr (by
 intro _ _ _ h;unfold Fr at h;split at h<;>cases h;kernel_rfl)
def QR(a:arp):Bool:=iZ a (List.drop (k8 0) (List.take (k8 (↑(k9 abS):Int)) abS))
def QS(a:arp):Bool:=allT [ld a (List.drop (k8 0) (List.take (k8 (↑(k9 abS):Int)) abS))]
def Xh:arq
 | [.one ⟨false,[.val (.string a)]⟩],[]=>some ⟨art (.val (.bool (QR a))),[],[],[QS a]⟩
 |_,_=>none
def afV:PF prog:=PF.ofG prog (T3z [du]) [] aZ 44 f44 func44 (fun c _=>LOk.nil c) Xh (by
 intro _ _ _ h;unfold Xh at h;split at h<;>cases h;kernel_rfl)
theorem Lp.scan{X:Type}(p:Lp X)(st:Nat→X)(N:Nat)(P:Nat→Bool)(e:Nat)(hN:N≤p.fuel (st 0))
  (hs: ∀ b,b < N→(p.lt (st b)).nds=true∧(p.lt (st b)).each (fun y=>y=st (b + 1))∧(p.lt (st b)).fn (fun _=>())=(bif P b then .inl 0 else .inr ()))
  (he:(p.lt (st N)).out=some (.inl e)):p.fin (st 0)=true∧(p.res (st 0)).1=bif(List.range N).any P then 0 else e:=by
 have qa:=p.along (fun i (_:Unit)=>st i) (fun _=>()) (fun(b:Nat) (_:Unit)=>bif P b then .inl 0 else .inr ()) e (fun _ _=>True) (List.range N) () trivial (by rw [List.length_range];exact hN)
  (fun i b a hb _=>by
   obtain⟨rfl,iX⟩:=Ua hb
   obtain⟨h1,h2,h3⟩:=hs b iX
   exact⟨h1,h2,h3,fun _ _=>trivial⟩) (fun a _=>by rw [List.length_range];exact he)
 rw [oq (P:=P) (j:=0) (fun b=>rfl)]at qa
 exact⟨qa.1,by rw [qa.2]⟩
def bAt(s:arp)(b:Nat):Int:=((s[b]?.getD 0).toNat:Int)
def ak5(c:Int):Bool:=inR c 97 122
def aap(c:Int):Bool:=ak5 c||(inR c 48 57||c==95)
def TN(s:arp):Bool:=inR (s.size:Int) 1 12&&(ak5 (bAt s 0)&&(List.range s.size).all fun b=>aap (bAt s b))
def amh(s:arp):Bool:=abS.any fun k=>k.toList==s.toList
def jP(s:arp):Bool:=TN s&& !amh s
def aqb:arp:=⟨#[97,98,99,100,101,102,103,104,105,106,107,108,109,110,111,112,113,114,115,116,117,118,119,120,121,122]⟩
def wbS:arp:=⟨#[97,98,99,100,101,102,103,104,105,106,107,108,109,110,111,112,113,114,115,116,117,118,119,120,121,122,48,49,50,51,52,53,54,55,56,57,95]⟩
theorem aps: ∀ n:Nat,n < 256→leI 0 (ibs aqb (n:Int))=ak5 (n:Int):=by decide +kernel
theorem aqE: ∀ n:Nat,n < 256→leI 0 (ibs wbS (n:Int))=aap (n:Int):=by decide +kernel
theorem aqc(s:arp)(b:Nat):leI 0 (ibs aqb (bAt s b))=ak5 (bAt s b):=aps _ (UInt8.toNat_lt _)
theorem aqW(s:arp)(b:Nat):leI 0 (ibs wbS (bAt s b))=aap (bAt s b):=aqE _ (UInt8.toNat_lt _)
theorem an3(c:Int):NU c=aap c:=by
 simp only [NU,GW,Tg,YO,aap,ak5]
 cases inR c 97 122 <;> cases inR c 48 57 <;> rfl
theorem amM(s:arp)(hn:s.size≤9223372036854775807):
  il.fin ((0:Int),s)=true∧(il.res ((0:Int),s)).1=bif(List.range s.size).any (fun b=> !aap (bAt s b))then 0 else 1:=by
 refine Lp.scan il (fun b=>((b:Int),s)) s.size (fun b=> !aap (bAt s b)) 1 (by simp only [il];omega) (fun b hb=> ?_) ?_
 ·have lR:ltI (b:Int) (s.size:Int)=true:=ew (by omega)
  have hw:IntKind.i64.wrap ((b:Int) + 1)=((b + 1:Nat):Int):=by rw [be (by omega) (by omega)];omega
  have Nl:leI (0:Int) (b:Int)=true:=cG (by omega)
  have i2:PY (b:Int) s= !aap (bAt s b):=by simp only [PY,an3,z6,bAt]
  refine⟨?_,?_,?_⟩
  ·simp [il,CG,LT.nds,allT,EJ,Wi,lR,Nl]
  ·simp [il,CG,LT.each,Wj,hw]
  ·simp only [il,CG,LT.fn,EJ,lR,i2,cond_true]
 ·simp [il,CG,LT.out,EJ]
theorem alB(s:arp)(h:leN s.size 9223372036854775807=true):UR s=TN s∧US s=true:=by
 obtain⟨w1,w2⟩:=amM s (iC.1 h)
 have e5:((List.range s.size).any fun b=> !aap (bAt s b))= !(List.range s.size).all fun b=>aap (bAt s b):=by simp [List.all_eq_not_any_not]
 rw [e5]at w2
 have eb:((UInt8.toNat (v5 s[k8 (0:Int)]? (0:UInt8)):Nat):Int)=bAt s 0:=rfl
 have h0:leI 0 0=true:=rfl
 simp only [UR,US,NV,NW,w1,w2,eb,h0,GW,cd,YO,TN,ak5,allT,j8,cond_true]
 cases hr:inR (s.size:Int) 1 12 with
 |false=>cases (List.range s.size).all fun b=>aap (bAt s b) <;> simp [Nat.beq]
 |true=>
  have:=Es.1 hr
  rw [ew (by omega)]
  cases inR (bAt s 0) 97 122 <;> cases (List.range s.size).all fun b=>aap (bAt s b) <;> simp [Nat.beq]
theorem aqV(s:arp)(hn:s.size≤9223372036854775806):
  kZ.fin ((0:Int),(0:Int),s,wbS)=true∧((kZ.res ((0:Int),(0:Int),s,wbS)).2.2.1==(s.size:Int))=(List.range s.size).all fun b=>aap (bAt s b):=by
 have hz: ∀ i:Nat,i≤s.size→IntKind.i64.wrap ((0:Int) + (i:Int))=(i:Int):=fun i hi=>by rw [be (by omega) (by omega)];omega
 have qa:=kZ.along (fun i (_:Unit)=>((0:Int),(i:Int),s,wbS)) (fun _=>()) (fun(b:Nat) (_:Unit)=>bif !aap (bAt s b)then .inl 0 else .inr ()) 0 (fun _ _=>True) (List.range s.size) () trivial (by simp only [kZ,List.length_range];omega)
  (fun i b a hb _=>by
   obtain⟨rfl,iX⟩:=Ua hb
   have lR:ltI (b:Int) (s.size:Int)=true:=ew (by omega)
   have Nl:leI (0:Int) (b:Int)=true:=cG (by omega)
   have hw:IntKind.i64.wrap ((b:Int) + 1)=((b + 1:Nat):Int):=by rw [be (by omega) (by omega)];omega
   have ha:zM 0 (b:Int) s=true:=by simp only [zM,hz b (by omega),lR]
   have hb2:Rs 0 (b:Int) s wbS=aap (bAt s b):=by
    simp only [Rs,ha,cond_true,hz b (by omega),z6,Gc,xg]
    exact aqW s b
   refine⟨?_,?_,?_,fun _ _=>trivial⟩
   ·have hz2:=hz b (by omega)
    rw [Int.zero_add]at hz2
    simp [kZ,Lq,LT.nds,allT,WR,WS,ha,hz2]
   ·simp [kZ,Lq,LT.each,adc,hw]
   ·simp only [kZ,Lq,LT.fn,hb2]
    cases aap (bAt s b) <;> rfl)
  (fun a _=>by
   have lR:ltI (s.size:Int) (s.size:Int)=false:=by simp
   have ha:zM 0 (s.size:Int) s=false:=by simp only [zM,hz s.size (by omega),lR]
   rw [List.length_range]
   simp [kZ,Lq,LT.out,Rs,WR,WS,allT,ha])
 rw [oq (P:=fun b=> !aap (bAt s b)) (j:=0) (fun b=>rfl)]at qa
 refine⟨qa.1,?_⟩
 have k2:kZ.res ((0:Int),(0:Int),s,wbS)=_:=qa.2
 rw [k2]
 simp only [Nat.zero_add]
 rw [Bool.eq_iff_iff,beq_iff_eq,List.all_eq_true]
 have hl: ∀ (l:List Nat) (P:Nat→Bool),(l.takeWhile P).length=l.length↔ ∀ x∈l,P x=true:=by
  intro l P
  induction l with
  |nil=>simp
  |cons a r ih=>
   rw [List.takeWhile_cons]
   cases h:P a with
   |false=>simp [h]
   |true=>simp [h,ih]
 have h2:=hl (List.range s.size) (fun b=> !!aap (bAt s b))
 rw [List.length_range]at h2
 constructor
 ·intro h x hx;have:=h2.1 (by exact_mod_cast h) x hx;simpa using this
 ·intro h;exact_mod_cast h2.2 (fun x hx=>by simpa using h x hx)
theorem akZ(s:arp):WP s=TN s∧WQ s=true:=by
 have eb:((UInt8.toNat (v5 s[k8 (0:Int)]? (0:UInt8)):Nat):Int)=bAt s 0:=rfl
 have e0:zL s=inR (s.size:Int) 1 12:=by simp only [zL,vl,YO]
 have e1:Gx s=(inR (s.size:Int) 1 12&&ak5 (bAt s 0)):=by
  have:Gx s=bif zL s then leI 0 (ibs aqb (bAt s 0))else false:=rfl
  rw [this,e0,aqc]
  cases inR (s.size:Int) 1 12 <;> rfl
 have e2:WP s=bif Gx s then(kZ.res ((0:Int),(0:Int),s,wbS)).2.2.1==(s.size:Int)else false:=rfl
 have e3:WQ s=allT [!(zL s&&true)||leI (0) (0),!(zL s&&true)||ltI (0) (↑(ByteArray.size s)),!(Gx s&&true)||allT [kZ.fin ((0:Int),(0:Int),s,wbS)]]:=rfl
 have h0:leI 0 0=true:=rfl
 rw [e2,e3,e1,e0,h0]
 cases hr:inR (s.size:Int) 1 12 with
 |false=>simp [TN,hr,allT]
 |true=>
  have:=Es.1 hr
  obtain⟨w1,w2⟩:=aqV s (by omega)
  rw [w1,w2,ew (by omega)]
  simp only [TN,hr,allT,Bool.true_and,Bool.and_true,j8,cond_true]
  cases ak5 (bAt s 0) <;> simp
def zK(a b:arp):(Unit)→Nat ⊕ (Unit)
 |_=>(bif(ByteArray.toList (b)==ByteArray.toList a)then(.inl 0)else(.inr ()))
def oM(a:arp)(b:List arp)(i:Nat):(Unit)→lm
 |_=>((i:Int),a,b)
def JG:lm→Unit
 |(_,_,_)=>()
theorem abU(c:arp)(e:List arp) (hn:e.length≤9223372036854775807):
  dL.fin ((0:Int),c,e)=true∧dL.res ((0:Int),c,e)=((bH (zK c) 1 e 0 ()).1,(oM c e) (bH (zK c) 1 e 0 ()).2.1 (bH (zK c) 1 e 0 ()).2.2):=by
 have qa:=dL.along (oM c e) JG (zK c) 1 (fun _ _=>True) e () (by trivial) (by simp only [dL,oM];omega) (fun i b a hb hI=> ?_) (fun a hI=> ?_)
 ·exact qa
 ·obtain⟨⟩:=a
  have iX:=(k7.1 hb).1
  have pI: ∀ d,v5 e[i]? d=b:=fun d=>by rw [hb];rfl
  have hw:=AV iX hn
  have lR:ltI (i:Int) (e.length:Int)=true:=ew (by omega)
  have Nl:leI (0:Int) (i:Int)=true:=cG (by omega)
  have wO:ltN i e.length=true:=gM iX
  refine⟨?_,?_,?_,?_⟩
  ·simp [wH,zY,zZ,Aa,Ab,yG,dL,LT.nds,allT,oM,lR,Nl,wO,pI]
  ·simp [wH,zY,zZ,Aa,Ab,yG,dL,LT.each,oM,JG,hw]
  ·simp only [wH,zY,zZ,Aa,Ab,yG,dL,LT.fn,oM,JG,zK,z6,lR,Nl,wO,pI,cond_true,j9]
  ·exact fun _ _=>trivial
 ·obtain⟨⟩:=a
  simp [wH,zY,zZ,Aa,Ab,yG,dL,LT.out,oM]
def ot(a b:arp):(Unit)→Nat ⊕ (Unit)
 |_=>(bif(ByteArray.toList a==ByteArray.toList b)then(.inl 0)else(.inr ()))
def dY(a:arp)(b:List arp)(i:Nat):(Unit)→dr
 |_=>((i:Int),(↑b.length:Int),a,b)
def xw:dr→Unit
 |(_,_,_,_)=>()
theorem Fv(c:arp)(e:List arp) (hn:e.length≤9223372036854775807):
  aX.fin ((0:Int),(↑e.length:Int),c,e)=true∧aX.res ((0:Int),(↑e.length:Int),c,e)=((bH (ot c) 1 e 0 ()).1,(dY c e) (bH (ot c) 1 e 0 ()).2.1 (bH (ot c) 1 e 0 ()).2.2):=by
 have qa:=aX.along (dY c e) xw (ot c) 1 (fun _ _=>True) e () (by trivial) (by simp only [aX,dY];omega) (fun i b a hb hI=> ?_) (fun a hI=> ?_)
 ·exact qa
 ·obtain⟨⟩:=a
  have iX:=(k7.1 hb).1
  have pI: ∀ d,v5 e[i]? d=b:=fun d=>by rw [hb];rfl
  have hw:=AV iX hn
  have lR:ltI (i:Int) (e.length:Int)=true:=ew (by omega)
  have Nl:leI (0:Int) (i:Int)=true:=cG (by omega)
  have wO:ltN i e.length=true:=gM iX
  refine⟨?_,?_,?_,?_⟩
  ·simp [ov,ow,ox,oy,oz,oA,np,aX,LT.nds,allT,dY,lR,Nl,wO,pI]
  ·simp [ov,ow,ox,oy,oz,oA,np,aX,LT.each,dY,xw,hw]
  ·simp only [ov,ow,ox,oy,oz,oA,np,aX,LT.fn,dY,xw,ot,z6,lR,Nl,wO,pI,cond_true,j9]
  ·exact fun _ _=>trivial
 ·obtain⟨⟩:=a
  simp [ov,ow,ox,oy,oz,oA,np,aX,LT.out,dY]
theorem ap5:abS.length≤9223372036854775807:=by decide
theorem aiy(s:arp):ltI (Ku s) 0= !amh s∧Kv s=true:=by
 have e0:Ou=abS:=rfl
 obtain⟨w1,w2⟩:=abU s abS ap5
 rw [oq (P:=fun k=>k.toList==s.toList) (j:=0) (fun k=>rfl)]at w2
 simp only [Ku,Kv,Ij,e0,w1,w2,allT,amh,oM]
 cases abS.any fun k=>k.toList==s.toList with
 |false=>exact⟨rfl,rfl⟩
 |true=>
  simp only [cond_true,Nat.beq]
  refine⟨?_,trivial⟩
  exact YS.2 (by omega)
theorem ame(s:arp):QR s=amh s∧QS s=true:=by
 have e0:List.drop (k8 (0)) (List.take (k8 (↑(k9 abS))) abS)=abS:=rfl
 obtain⟨w1,w2⟩:=Fv s abS ap5
 rw [oq (P:=fun k=>s.toList==k.toList) (j:=0) (fun k=>rfl)]at w2
 have e1:(fun k:arp=>s.toList==k.toList)=fun k=>k.toList==s.toList:=funext fun k=>BEq.comm
 rw [e1]at w2
 simp only [QR,QS,e0,iZ,ld,qR,qS,pX,w1,w2,allT,amh,dY]
 cases abS.any fun k=>k.toList==s.toList with
 |false=>exact⟨rfl,rfl⟩
 |true=>
  simp only [cond_true,Nat.beq]
  rw [cG (by omega)];simp
def aa1:arq
 | [.one ⟨false,[.val (.string a)]⟩],[]=>some ⟨art (.val (.bool (TN a))),[],[],[leN a.size 9223372036854775807]⟩
 |_,_=>none
def ah7:PF prog:=PF.alt aij aa1 (by
 intro args es o h cm;unfold aa1 at h;split at h
 ·rename_i a
  cases h
  have cm:=lv cm
  have hh:=alB a cm
  obtain⟨e0,en⟩:=hh
  exact re rfl (la en) (by simp only [e0] <;> rfl) rfl rfl
 ·cases h)
def ac3:arq
 | [.one ⟨false,[.val (.string a)]⟩],[]=>some ⟨art (.val (.bool (TN a))),[],[],[]⟩
 |_,_=>none
def aiR:PF prog:=PF.alt aiT ac3 (by
 intro args es o h cm;unfold ac3 at h;split at h
 ·rename_i a
  cases h
  have hh:=akZ a
  obtain⟨e0,en⟩:=hh
  exact re rfl (la en) (by simp only [e0] <;> rfl) rfl rfl
 ·cases h)
def Xu:arq
 | [.one ⟨false,[.val (.string a)]⟩],[]=>some ⟨art (.val (.bool (amh a))),[],[],[]⟩
 |_,_=>none
def afM:PF prog:=PF.alt afV Xu (by
 intro args es o h cm;unfold Xu at h;split at h
 ·rename_i a
  cases h
  have hh:=ame a
  obtain⟨e0,en⟩:=hh
  exact re rfl (la en) (by simp only [e0] <;> rfl) rfl rfl
 ·cases h)
def iA(a:arp):Bool:=bif TN a then ltI (Ku a) 0 else false
def sU(a:arp):Bool:=allT [leN (ByteArray.size a) 9223372036854775807,!(TN a&&true)||Kv a]
def aaK:arq
 | [.one ⟨false,[.val (.string a)]⟩],[]=>some ⟨art (.val (.bool (iA a))),[],[],[sU a]⟩
 |_,_=>none
def zR:PF prog:=PF.ofG prog [ah7,ae8] [] aZ 30 f30 func30 (fun c _=>LOk.nil c) aaK (by
 intro _ _ _ h;unfold aaK at h;split at h<;>cases h;kernel_rfl)
def aj(a:Int):Bool:=bif bif bif a==7 then true else a==8 then true else a==11 then true else a==12
def Xr:arq
 | [.one ⟨false,[.val (.int .i64 a)]⟩],[]=>some ⟨art (.val (.bool (aj a))),[],[],[]⟩
 |_,_=>none
def GQ:PF prog:=PF.ofG prog [] [] aZ 100 f100 func100 (fun c _=>LOk.nil c) Xr (by
 intro _ _ _ h;unfold Xr at h;split at h<;>cases h;kernel_rfl)
def Vc(a:Int):Bool:=cd a 1 12
def aaJ:arq
 | [.one ⟨false,[.val (.int .i64 a)]⟩],[]=>some ⟨art (.val (.bool (Vc a))),[],[],[]⟩
 |_,_=>none
def ail:PF prog:=PF.ofG prog [EG] [] aZ 119 f119 func119 (fun c _=>LOk.nil c) aaJ (by
 intro _ _ _ h;unfold aaJ at h;split at h<;>cases h;kernel_rfl)
def Tj(a b:Int):Bool:=bif bif !Vc a then true else !cd b 0 9999 then true else bif !aj a then b !=0 else false
def LQ(a:Int)(b:arp)(c:Int):Bool:=
 bif Tj a c then false else bif a==(1:Int)then iA b else ByteArray.toList b==ByteArray.toList { data:= #[] }
def LR(a:Int)(b:arp)(c:Int):Bool:=allT [Tj a c||(!a==1||sU b)]
def aaL:arq
 | [.one ⟨true,[.val (.int .i64 a),.val (.string b),.val (.int .i64 c)]⟩],[]=>some ⟨art (.val (.bool (LQ a b c))),[],[],[LR a b c]⟩
 |_,_=>none
def abM:PF prog:=PF.ofG prog [EG,zR,GQ,ail] [] aZ 115 f115 func115 (fun c _=>LOk.nil c) aaL (by
 intro _ _ _ h;unfold aaL at h;split at h<;>cases h;kernel_rfl)
def gN(a:arp):Bool:=bif TN a then !amh a else false
def acW:arq
 | [.one ⟨false,[.val (.string a)]⟩],[]=>some ⟨art (.val (.bool (gN a))),[],[],[]⟩
 |_,_=>none
def IY:PF prog:=PF.ofG prog [aiR,afM] [] aZ 25 f25 func25 (fun c _=>LOk.nil c) acW (by
 intro _ _ _ h;unfold acW at h;split at h<;>cases h;kernel_rfl)
def Ps(a:Int):Bool:=bif bif bif a==7 then true else a==8 then true else a==11 then true else a==12
def Vz:arq
 | [.one ⟨false,[.val (.int .i64 a)]⟩],[]=>some ⟨art (.val (.bool (Ps a))),[],[],[]⟩
 |_,_=>none
def ae7:PF prog:=PF.ofG prog [] [] aZ 121 f121 func121 (fun c _=>LOk.nil c) Vz (by
 intro _ _ _ h;unfold Vz at h;split at h<;>cases h;kernel_rfl)
def Nt(a:Int)(b:arp)(c:Int):Bool:=
 bif bif !vl a (1:Int) (12:Int)then true else !(a==(1:Int))== !ByteArray.toList b==ByteArray.toList { data:= #[] } then
 false
 else
 bif Ps a then vl c (0:Int) (9999:Int)
 else bif c==(0:Int)then bif a !=(1:Int)then true else gN b else false
def acX:arq
 | [.one ⟨true,[.val (.int .i64 a),.val (.string b),.val (.int .i64 c)]⟩],[]=>some ⟨art (.val (.bool (Nt a b c))),[],[],[]⟩
 |_,_=>none
def adk:PF prog:=PF.ofG prog [Xd,IY,ae7] [] aZ 118 f118 func118 (fun c _=>LOk.nil c) acX (by
 intro _ _ _ h;unfold acX at h;split at h<;>cases h;kernel_rfl)
def AD(a b c d e:Int):Bool:=bif bif a==7 then a==7 else a==8 then bif bif vl c 0 b then d==0 else false then e==0 else false else bif a==11 then bif bif vl c 0 b then vl d 0 1 else false then e==0 else false else bif a==12 then bif d==0 then bif bif vl c 0 b then e==0 else false then true else bif c==v6 .i64 (b + (1:Int))then e==1 else false else false else bif bif vl c 0 1 then d==0 else false then e==0 else false
def VA:arq
 | [.one ⟨true,[.val (.int .i64 a),.val (.string _x1),.val (.int .i64 b)]⟩,.one ⟨true,[.val (.int .i64 c),.val (.int .i64 d),.val (.int .i64 e)]⟩],[]=>some ⟨art (.val (.bool (AD a b c d e))),[],[],[]⟩
 |_,_=>none
def VY:PF prog:=PF.ofG prog [Xd] [] aZ 105 f105 func105 (fun c _=>LOk.nil c) VA (by
 intro _ _ _ h;unfold VA at h;split at h<;>cases h;kernel_rfl)
def ei(a b c d e:Int):Bool:=bif bif a==9 then a==9 else a==10 then bif bif cd c 0 1 then d==0 else false then e==0 else false else bif a==11 then bif bif cd c 0 b then cd d 0 1 else false then e==0 else false else bif a==12 then bif d==0 then bif bif cd c 0 b then e==0 else false then true else bif c==v6 .i64 (b + (1:Int))then e==1 else false else false else bif bif cd c 0 b then d==0 else false then e==0 else false
def ajO(k:Int):Bool:=k==7||(k==8||(k==11||k==12))
def termB(k:Int)(s:arp)(n:Int):Bool:=inR k 1 12&&(inR n 0 9999&&((ajO k||n==0)&&(bif k==1 then jP s else s.toList== [])))
def WH(k:Int)(s:arp)(n:Int):Bool:=termB k s n&&leI 7 k
def possB(k n a b c:Int):Bool:=ei k n a b c
theorem Rb:ByteArray.toList { data:= #[] } = []:=by rw [Go.Lib.toList_data]
theorem ahj{s:arp}(h:jP s=true):(s.toList== [])=false:=by
 simp only [jP,TN,q9,Es]at h
 have h1:s.size=s.toList.length:=by rw [Go.Lib.size_eq,Go.Lib.toList_data]
 cases hs:s.toList with
 |nil=>
  rw [hs]at h1
  have h2:s.size=0:=h1
  omega
 |cons a l=>rfl
theorem ap7{n:Int}(h:(n==0)=true):inR n 0 9999=true:=by
 have:n=0:=by simpa using h
 rw [this];rfl
theorem agI(k:Int)(s:arp)(n:Int)(h:leN s.size 9223372036854775807=true):LQ k s n=termB k s n∧LR k s n=true:=by
 obtain⟨e1,e2⟩:=aiy s
 have e3:iA s=jP s:=by simp only [iA,e1,jP];cases TN s <;> rfl
 have e4:sU s=true:=by simp only [sU,e2,h,allT,j8,cond_true]
 simp only [LQ,LR,Tj,e3,e4,Vc,cd,YO,Rb,aj,termB,ajO,allT,j8,cond_true]
 refine⟨?_,trivial⟩
 simp only [bne]
 generalize (bif k==1 then jP s else s.toList== [])=q
 generalize inR k 1 12=q1
 generalize inR n 0 9999=q2
 generalize (k==7)=q3
 generalize (k==8)=q4
 generalize (k==11)=q5
 generalize (k==12)=q6
 generalize (n==0)=q7
 revert q q1 q2 q3 q4 q5 q6 q7
 decide
theorem akY(k:Int)(s:arp)(n:Int):Nt k s n=termB k s n:=by
 have e3:gN s=jP s:=by simp only [gN,jP];cases TN s <;> rfl
 simp only [Nt,e3,vl,YO,Rb,Ps,termB,ajO]
 by_cases h1:k=1
 ·subst h1
  have z7:((1:Int)==7)=false:=rfl
  have z8:((1:Int)==8)=false:=rfl
  have z11:((1:Int)==11)=false:=rfl
  have z12:((1:Int)==12)=false:=rfl
  have z1:((1:Int)==1)=true:=rfl
  have zn:((1:Int)!=1)=false:=rfl
  have zr:inR (1:Int) 1 12=true:=rfl
  rw [z7,z8,z11,z12,z1,zn,zr]
  have hs:jP s=true→(s.toList== [])=false:=ahj
  have h0:(n==0)=true→inR n 0 9999=true:=ap7
  generalize (s.toList== [])=q at hs ⊢
  generalize (n==0)=q2 at h0 ⊢
  generalize inR n 0 9999=q3 at h0 ⊢
  generalize jP s=q4 at hs ⊢
  revert q q2 q3 q4
  decide
 ·have z1:(k==1)=false:=by simpa using h1
  have zn:(k !=1)=true:=by simpa using h1
  rw [z1,zn]
  have h0:(n==0)=true→inR n 0 9999=true:=ap7
  generalize (s.toList== [])=q
  generalize (n==0)=q2 at h0 ⊢
  generalize inR n 0 9999=q3 at h0 ⊢
  generalize inR k 1 12=q1
  generalize (k==7)=p3
  generalize (k==8)=p4
  generalize (k==11)=p5
  generalize (k==12)=p6
  generalize jP s=p7
  revert q q1 q2 q3 p3 p4 p5 p6 p7
  decide
theorem YE{k:Int}{s:arp}{n:Int}(h:WH k s n=true):(7≤k∧k≤12)∧(0≤n∧n≤9999)∧(ajO k=true∨n=0):=by
 simp only [WH,termB,q9,Es,FN,Bool.or_eq_true,beq_iff_eq]at h
 obtain⟨⟨h1,h2,h3,_⟩,h4⟩:=h
 exact⟨⟨h4,h1.2⟩,h2,h3⟩
theorem kinds{k:Int}(h:7≤k∧k≤12):k=7∨k=8∨k=9∨k=10∨k=11∨k=12:=by omega
theorem apO{k n a b c:Int}(h:7≤k∧k≤12):AD k n a b c=possB k n a b c:=by
 rcases kinds h with rfl | rfl | rfl | rfl | rfl | rfl <;> rfl
theorem abO{k n a b c:Int}(h:possB k n a b c=true)(hn:0≤n∧n≤9999):(0≤a∧a≤10000)∧(b=0∨b=1)∧(c=0∨c=1):=by
 have hw:IntKind.i64.wrap (n + 1)=n + 1:=be (by omega) (by omega)
 simp only [possB,ei,cd,YO,hw]at h
 cases h1:(bif k==9 then k==9 else k==10)with
 |true=>
  rw [h1]at h
  cases h2:inR a 0 1 <;> rw [h2]at h <;> simp at h
  have:=Es.1 h2
  omega
 |false=>
  rw [h1]at h
  cases h3:k==11 with
  |true=>
   rw [h3]at h
   cases h2:inR a 0 n <;> cases h4:inR b 0 1 <;> rw [h2]at h <;> simp [h4]at h
   have:=Es.1 h2
   have:=Es.1 h4
   omega
  |false=>
   rw [h3]at h
   cases h5:k==12 with
   |true=>
    rw [h5]at h
    cases h2:inR a 0 n <;> rw [h2]at h <;> simp at h
    ·omega
    ·have:=Es.1 h2
     omega
   |false=>
    rw [h5]at h
    cases h2:inR a 0 n <;> rw [h2]at h <;> simp at h
    have:=Es.1 h2
    omega
def lJ(a:Int):Int:=bif bif a==1 then a==1 else bif a==2 then a==2 else a==3 then(0:Int)else bif bif a==4 then a==4 else bif a==7 then a==7 else bif a==8 then a==8 else a==9 then(1:Int)else(2:Int)
def Zt:arq
 | [.one ⟨false,[.val (.int .i64 a)]⟩],[]=>some ⟨aru (lJ a),[],[],[]⟩
 |_,_=>none
def DZ:PF prog:=PF.ofG prog [] [] aZ 99 f99 func99 (fun c _=>LOk.nil c) Zt (by
 intro _ _ _ h;unfold Zt at h;split at h<;>cases h;kernel_rfl)
section
variable (a:Bool)(b c d e:Int)
def kK:Int:=bif a then(1:Int)else(0:Int)
def iW:Bool:=bif bif c==1 then d==0 else false then e==0 else false
def jG:Bool:=(bif iW c d e then(0:Int)else c)==0
def kR:Bool:=bif jG c d e then d !=e else false
def lK:Int:=v6 .i64 ((bif iW c d e then(0:Int)else b) + (1:Int))
end
section
variable (a b c d e f:Int)(g:aro)
def lL:Int:=bif kR d e f then kK (ltI a (lK b d e f))else bif jG d e f then(0:Int)else bif iW d e f then(0:Int)else d
def pD:Int:=kK (bif bif e==1 then f==1 else false then lL a b d e f==0 else false)
def pE:Int:=bif kR d e f then lK b d e f else bif jG d e f then(0:Int)else bif iW d e f then(0:Int)else b
def pF:Int:=bif kR d e f then(0:Int)else bif jG d e f then(0:Int)else bif iW d e f then(0:Int)else c
def pG:Int:=lL a b d e f
def cA:Int:=v5 g[k8 0]? 0
def jH:Int:=v6 .i64 (d + (1:Int))
def lM:Int:=v6 .i64 (afF (jH d) c (jH d) c * cA g)
def gp:Int:=bif ltI 1 (↑g.length:Int)then v5 g[k8 1]? 0 else(0:Int)
def lN:Int:=bif gp g==1 then(0:Int)else bif cA g==1 then(1:Int)else d
def lO:Int:=bif gp g==1 then(0:Int)else bif bif cA g==1 then e==0 else false then afF (jH d) c (jH d) c else d
def lP:Int:=v6 .i64 (d - (1:Int))
def lQ:Int:=bif cA g==1 then(0:Int)else(0:Int)
def kS:Bool:= !ltI 1 (↑g.length:Int)
def lb:Int:=bif a==7 then kK (bif cA g==1 then lM c d g==c else false)else bif a==8 then bif cA g==1 then(1:Int)else kK (ltI 0 d)else bif a==9 then kK (bif cA g==1 then d==0 else false)else bif a==10 then lN d g else bif a==11 then kK (lO c d e g==c)else pD c d f (cA g) (gp g)
def ma:Int:=bif a==7 then lM c d g else bif a==8 then bif cA g==1 then c else afF 0 (lP d) (lP d) 0 else bif a==9 then cA g else bif a==10 then lN d g else bif a==11 then lO c d e g else pE d f (cA g) (gp g)
def mb:Int:=bif a==7 then(0:Int)else bif a==8 then lQ g else bif a==9 then(0:Int)else bif a==10 then(0:Int)else bif a==11 then cA g else pF e f (cA g) (gp g)
def mc:Int:=bif a==7 then(0:Int)else bif a==8 then lQ g else bif a==9 then(0:Int)else bif a==10 then(0:Int)else bif a==11 then(0:Int)else pG c d f (cA g) (gp g)
def pH:Bool:=allT [ltI 0 (↑g.length:Int),ltN (k8 0) g.length,kS g||leI 0 1,kS g||ltI 1 (↑g.length:Int),kS g||ltN (k8 1) g.length]
def afG:Bool:=bif a !=0 then a !=1 else false
end
def Xj:arq
 | [.one ⟨false,[.val (.int .i64 a)]⟩],[]=>some ⟨art (.val (.bool (afG a))),[],[],[]⟩
 |_,_=>none
def afW:PF prog:=PF.ofG prog [] [] aZ 108 f108 func108 (fun c _=>LOk.nil c) Xj (by
 intro _ _ _ h;unfold Xj at h;split at h<;>cases h;kernel_rfl)
def Br(a:Int):Bool:=bif a !=0 then a !=1 else false
def Pa:arq
 | [.one ⟨false,[.val (.int .i64 a)]⟩],[]=>some ⟨art (.val (.bool (Br a))),[],[],[]⟩
 |_,_=>none
def PG:PF prog:=PF.ofG prog [] [] aZ 108 f108 func108 (fun c _=>LOk.nil c) Pa (by
 intro _ _ _ h;unfold Pa at h;split at h<;>cases h;kernel_rfl)
abbrev bz:=Int×Int×List Int
section
variable (a b:Int)(c:aro)
def jk:Bool:=ltI a b
def jl:Bool:=leI 0 a
def jm:Bool:=ltI a (↑c.length:Int)
def jn:Bool:=ltN a.toNat c.length
def jo:Bool:=Br (v5 c[k8 a]? 0)
def jp:Int:=v6 .i64 (a + (1:Int))
end
def IB:bz→List (Nat×SV)
 |(a,b,_)=> [(8,(aru a)),(7,(aru b)),(1,(art (.val (.func (.func 108) ⟨[]⟩ ⟨[]⟩)))),(0,(art (.ref 0)))]
def IA:bz→List (Nat×Entry)
 |(_,_,a)=> [(0,(arB a))]
def IF:Nat→bz→List (Nat×SV)
 |0,(a,_,_)=> [(4,(aru a))]
 |_,_=>[]
def iF:bz→LT bz
 |(a,b,c)=> .ite (jk a b) (.need [jl a,jm a c,jn a c] (.ite (jo a c) (.ext 0 [(0,0)]) (.nrm ((jp a),b,c) [(0,0)]))) (.ext 1 [(0,0)])
def qO(s:St):Option bz:=do
 let some ⟨none,.one ⟨false,[.val (.int .i64 a)]⟩⟩:=s.look 8|none
 let some ⟨none,.one ⟨false,[.val (.int .i64 b)]⟩⟩:=s.look 7|none
 let some ⟨none,.one ⟨false,[.val (.func (.func 108) ⟨[]⟩ ⟨[]⟩)]⟩⟩:=s.look 1|none
 let some ⟨none,.one ⟨false,[.ref 0]⟩⟩:=s.look 0|none
 let some (.row false 2 (.int .i64) c):=s.ent 0|none
 some (a,b,c)
def ax:Lp bz where
 h:=⟨[9,10,5,11,12,13,14,15,16,17,4,18,8],[0],[],[]⟩
 JL:=IB
 JE:=IA
 XL:=IF
 XE:=fun _=>IA
 q:=fun j=>match j with | 0=> .ret | _=> .exit 0
 tags:= [0,1]
 lt:=iF
 fuel:=fun(a,b,c)=>a.natAbs + b.natAbs + c.length
 fix:=fun(_,b,c) (a,_,_)=>(a,b,c)
 σ:= [(0,0)]
 rd:=qO
theorem Hj:LoopOk prog (fun k=>Nat.blt k Tryz.f116.ntmps) ax.F (bc f116 0):=by
 refine Lp.ok (tbl:= [PG]) (lf:= []) aZ ax (by kernel_rfl) (LOk.nil _) (fun _=>rfl) (fun j _=>by unfold ax;match j with | 0=>rfl | _ + 1=>rfl) ?_ ?_ ?_ ?_ (fun _=>rfl) ?_
 ·intro _;kernel_rfl
 ·intro _;kernel_rfl
 ·intro s x h
  have h:qO s=some x:=h
  unfold qO at h
  repeat' split at h
  all_goals cases h
  constructor<;>repeat(first|refine aa ‹_› rfl ?_|refine ab rfl ‹_› rfl ?_|rfl)
 ·intro _;kernel_rfl
 ·intro _ _;exact(And.intro (And.intro trivial rfl) trivial)
section
variable (a:aro)
def ny:Int×Int×aro:=((0:Int),(↑a.length:Int),a)
def tL:Int:=bif Nat.beq ((Lp.res ax (ny a)).1) 0 then ((Lp.res ax (ny a)).2).1else(-1:Int)
def tM:Bool:=allT [Lp.fin ax (ny a)]
end
def AA:arq
 | [.one ⟨false,[.ref 0]⟩,.one ⟨false,[.val (.func (.func 108) ⟨[]⟩ ⟨[]⟩)]⟩],[.row false 2 (.int .i64) a]=>some ⟨aru (tL a),[arB a],[],[tM a]⟩
 |_,_=>none
def tp:PF prog:=PF.ofG prog [PG] [ax.F] aZ 116 f116 func116 (LOk.fnT (l:= [bc f116 0]) (by kernel_rfl) (.cons Hj (.nil _))) AA (by
 intro _ _ _ h;unfold AA at h;split at h<;>cases h;kernel_rfl)
def rp(a:aro):Bool:=leI 0 (tL a)
def rq(a:aro):Bool:=allT [tM a]
def yF:arq
 | [.one ⟨false,[.ref 0]⟩,.one ⟨false,[.val (.func (.func 108) ⟨[]⟩ ⟨[]⟩)]⟩],[.row false 2 (.int .i64) a]=>some ⟨art (.val (.bool (rp a))),[arB a],[],[rq a]⟩
 |_,_=>none
def rm:PF prog:=PF.ofG prog (T3z [tp]) [] aZ 107 f107 func107 (fun c _=>LOk.nil c) yF (by
 intro _ _ _ h;unfold yF at h;split at h<;>cases h;kernel_rfl)
def Ur(a:Int)(b:aro):Bool:=bif(↑b.length:Int)==a then !rp b else false
def Us(a:Int)(b:aro):Bool:=allT [!((↑b.length:Int)==a&&true)||rq b]
def aaA:arq
 | [.one ⟨false,[.ref 0]⟩,.one ⟨false,[.val (.int .i64 a)]⟩],[.row false 2 (.int .i64) b]=>some ⟨art (.val (.bool (Ur a b))),[arB b],[],[Us a b]⟩
 |_,_=>none
def aid:PF prog:=PF.ofG prog (T3z [afW,rm]) [] aZ 88 f88 func88 (fun c _=>LOk.nil c) aaA (by
 intro _ _ _ h;unfold aaA at h;split at h<;>cases h;kernel_rfl)
def oP(a:Bool):Int:=bif a then(1:Int)else(0:Int)
def aew:arq
 | [.one ⟨false,[.val (.bool a)]⟩],[]=>some ⟨aru (oP a),[],[],[]⟩
 |_,_=>none
def Za:PF prog:=PF.ofG prog [] [] aZ 122 f122 func122 (fun c _=>LOk.nil c) aew (by
 intro _ _ _ h;unfold aew at h;split at h<;>cases h;kernel_rfl)
section
variable (a b c d:Int)(e f:Bool)
def uM:Bool:=bif e then c==0 else false
def uN:Int:=v6 .i64 (b + (1:Int))
def uO:Int:=bif f then(0:Int)else bif uM c e then afF a (uN b) a (uN b)else b
def wi:Int:=oP (uO a b c e f==a)
def wj:Int:=uO a b c e f
def wl:Int:=oP e
def wm:Int:=bif f then d else bif uM c e then d else d
end
def Xm:arq
 | [.one ⟨false,[.val (.int .i64 a)]⟩,.one ⟨true,[.val (.int .i64 b),.val (.int .i64 c),.val (.int .i64 d)]⟩,.one ⟨false,[.val (.bool e)]⟩,.one ⟨false,[.val (.bool f)]⟩],[]=>some ⟨.tup [⟨false,[ars (wi a b c e f)]⟩,⟨true,[ars (wj a b c e f),ars (wl e),ars (wm c d e f)]⟩],[],[],[]⟩
 |_,_=>none
def afY:PF prog:=PF.ofG prog [Za] [] aZ 123 f123 func123 (fun c _=>LOk.nil c) Xm (by
 intro _ _ _ h;unfold Xm at h;split at h<;>cases h;kernel_rfl)
section
variable (a b c d:Int)(e f:Bool)
def ke:Bool:=bif bif d==1 then !e else false then !f else false
def qZ:Bool:=(bif ke d e f then(0:Int)else d)==0
def td:Bool:=bif qZ d e f then !e==f else false
def wn:Int:=v6 .i64 ((bif ke d e f then(0:Int)else b) + (1:Int))
def wo:Int:=bif td d e f then oP (ltI a (wn b d e f))else bif qZ d e f then bif ke d e f then(0:Int)else d else bif ke d e f then(0:Int)else d
def yh:Int:=oP (bif bif e then f else false then wo a b d e f==0 else false)
def yj:Int:=bif td d e f then wn b d e f else bif qZ d e f then(0:Int)else bif ke d e f then(0:Int)else b
def yk:Int:=bif td d e f then bif ke d e f then c else c else bif qZ d e f then bif ke d e f then c else c else bif ke d e f then c else c
def ym:Int:=wo a b d e f
end
def Zn:arq
 | [.one ⟨false,[.val (.int .i64 a)]⟩,.one ⟨true,[.val (.int .i64 b),.val (.int .i64 c),.val (.int .i64 d)]⟩,.one ⟨false,[.val (.bool e)]⟩,.one ⟨false,[.val (.bool f)]⟩],[]=>some ⟨.tup [⟨false,[ars (yh a b d e f)]⟩,⟨true,[ars (yj b d e f),ars (yk c d e f),ars (ym a b d e f)]⟩],[],[],[]⟩
 |_,_=>none
def ag6:PF prog:=PF.ofG prog [Za] [] aZ 124 f124 func124 (fun c _=>LOk.nil c) Zn (by
 intro _ _ _ h;unfold Zn at h;split at h<;>cases h;kernel_rfl)
section
variable (a b c d e:Int)(f:aro)
def fJ:Bool:=v5 f[k8 0]? 0==1
def En:Int:=v6 .i64 (c + (1:Int))
def Eo:Int:=v6 .i64 (oP (fJ f) * afF b (En c) b (En c))
def zy:Int:=v6 .i64 ((↑f.length:Int) - (1:Int))
def oO:Bool:=v5 f[k8 (zy f)]? 0==1
def Ep:Int:=bif oO f then(0:Int)else bif fJ f then(1:Int)else c
def Er:Int:=v6 .i64 (c - (1:Int))
def El:Int:=bif a==7 then oP (bif fJ f then Eo b c f==b else false)else bif a==8 then bif fJ f then(1:Int)else oP (ltI 0 c)else bif a==9 then oP (bif fJ f then c==0 else false)else bif a==10 then Ep c f else bif a==11 then wi b c d (fJ f) (oO f)else yh b c e (fJ f) (oO f)
def BH:Int:=bif a==7 then Eo b c f else bif a==8 then bif fJ f then b else afF (Er c) 0 0 (Er c)else bif a==9 then oP (fJ f)else bif a==10 then Ep c f else bif a==11 then wj b c d (fJ f) (oO f)else yj c e (fJ f) (oO f)
def BI:Int:=bif a==7 then d else bif a==8 then bif fJ f then d else d else bif a==9 then d else bif a==10 then bif oO f then d else bif fJ f then d else d else bif a==11 then wl (fJ f)else yk d e (fJ f) (oO f)
def BJ:Int:=bif a==7 then e else bif a==8 then bif fJ f then e else e else bif a==9 then e else bif a==10 then bif oO f then e else bif fJ f then e else e else bif a==11 then wm d e (fJ f) (oO f)else ym b c e (fJ f) (oO f)
def Em:Bool:=allT [ltI 0 (↑f.length:Int),ltN (k8 0) f.length,leI 0 (zy f),ltI (zy f) (↑f.length:Int),ltN (k8 (zy f)) f.length]
end
def agh:arq
 | [.one ⟨true,[.val (.int .i64 a),.val (.string _x1),.val (.int .i64 b)]⟩,.one ⟨true,[.val (.int .i64 c),.val (.int .i64 d),.val (.int .i64 e)]⟩,.one ⟨false,[.ref 0]⟩],[.row false 2 (.int .i64) f]=>some ⟨.tup [⟨false,[ars (El a b c d e f)]⟩,⟨true,[ars (BH a b c d e f),ars (BI a d e f),ars (BJ a b c d e f)]⟩],[arB f],[],[Em f]⟩
 |_,_=>none
def ali:PF prog:=PF.ofG prog [Za,afY,ag6] [] aZ 120 f120 func120 (fun c _=>LOk.nil c) agh (by
 intro _ _ _ h;unfold agh at h;split at h<;>cases h;kernel_rfl)
def bitsB(n:Int)(l:aro):Bool:=l.all (fun v=>inR v 0 1)&&((l.length:Int)==n)
def takesK(k:Int):Int:=lJ k
theorem lc{n:Int}{l:aro}:bitsB n l=true↔(∀ v∈l,v=0∨v=1)∧(l.length:Int)=n:=by
 simp only [bitsB,q9,List.all_eq_true,Es,beq_iff_eq]
 constructor
 ·rintro⟨h1,h2⟩;exact⟨fun v hv=>by have:=h1 v hv;omega,h2⟩
 ·rintro⟨h1,h2⟩;exact⟨fun v hv=>by have:=h1 v hv;omega,h2⟩
def fq(b:Int):(Unit)→Nat ⊕ (Unit)
 |_=>(bif(Br b)then(.inl 0)else(.inr ()))
def cC(a:aro)(i:Nat):(Unit)→bz
 |_=>((i:Int),(↑a.length:Int),a)
def qN:bz→Unit
 |(_,_,_)=>()
theorem Ki(c:aro) (hn:c.length≤9223372036854775807):
  ax.fin ((0:Int),(↑c.length:Int),c)=true∧ax.res ((0:Int),(↑c.length:Int),c)=((bH (fq) 1 c 0 ()).1,(cC c) (bH (fq) 1 c 0 ()).2.1 (bH (fq) 1 c 0 ()).2.2):=by
 have qa:=ax.along (cC c) qN (fq) 1 (fun _ _=>True) c () (by trivial) (by simp only [ax,cC];omega) (fun i b a hb hI=> ?_) (fun a hI=> ?_)
 ·exact qa
 ·obtain⟨⟩:=a
  have iX:=(k7.1 hb).1
  have pI: ∀ d,v5 c[i]? d=b:=fun d=>by rw [hb];rfl
  have hw:=AV iX hn
  have lR:ltI (i:Int) (c.length:Int)=true:=ew (by omega)
  have Nl:leI (0:Int) (i:Int)=true:=cG (by omega)
  have wO:ltN i c.length=true:=gM iX
  refine⟨?_,?_,?_,?_⟩
  ·simp [jk,jl,jm,jn,jo,jp,iF,ax,LT.nds,allT,cC,lR,Nl,wO,pI]
  ·simp [jk,jl,jm,jn,jo,jp,iF,ax,LT.each,cC,qN,hw]
  ·simp only [jk,jl,jm,jn,jo,jp,iF,ax,LT.fn,cC,qN,fq,z6,lR,Nl,wO,pI,cond_true,j9]
  ·exact fun _ _=>trivial
 ·obtain⟨⟩:=a
  simp [jk,jl,jm,jn,jo,jp,iF,ax,LT.out,cC]
theorem aqg(v:Int):(bif v !=0 then v !=1 else false)= !inR v 0 1:=by
 have:inR v 0 1=(v==0||v==1):=by rw [Bool.eq_iff_iff,Es];simp;omega
 rw [this]
 cases h0:v==0 <;> simp [bne,h0]
theorem akT(n:Int)(l:aro)(h:leN l.length 9223372036854775807=true):Ur n l=bitsB n l∧Us n l=true:=by
 obtain⟨w1,w2⟩:=Ki l (iC.1 h)
 rw [oq (P:=fun v=> !inR v 0 1) (j:=0) (fun v=>by simp only [fq,Br,aqg])]at w2
 have e5:(l.any fun v=> !inR v 0 1)= !l.all fun v=>inR v 0 1:=by simp [List.all_eq_not_any_not]
 rw [e5]at w2
 have q: ∀ m:Nat,leI 0 (m:Int)=true:=fun m=>cG (by omega)
 have q2:leI 0 (-1)=false:=rfl
 simp only [Ur,Us,rp,rq,tL,tM,ny,w1,w2,allT,bitsB,cC]
 cases (l.all fun v=>inR v 0 1) <;> cases ((l.length:Int)==n) <;> simp [Nat.beq,q,q2]
theorem ab4(p q:Int):afF p q p q=min p q:=by rw [am2];cases h:ltI p q <;> simp <;> simp at h <;> omega
theorem ab3(p q:Int):afF p q q p=max p q:=by rw [am2];cases h:ltI p q <;> simp <;> simp at h <;> omega
theorem Xy{l:aro}(h:bitsB 1 l=true): ∃ x,l= [x]∧(x=0∨x=1):=by
 obtain⟨h1,h2⟩:=lc.1 h
 match l,h1,h2 with
 | [x],h1,_=>exact⟨x,rfl,h1 x (by simp)⟩
 | [],_,h2=>simp at h2
 |_::_::_,_,h2=>simp at h2;omega
theorem Xz{l:aro}(h:bitsB 2 l=true): ∃ x y,l= [x,y]∧(x=0∨x=1)∧(y=0∨y=1):=by
 obtain⟨h1,h2⟩:=lc.1 h
 match l,h1,h2 with
 | [x,y],h1,_=>exact⟨x,y,rfl,h1 x (by simp),h1 y (by simp)⟩
 | [],_,h2=>simp at h2
 | [_],_,h2=>simp at h2
 |_::_::_::_,_,h2=>simp at h2;omega
theorem anp{k n a b c:Int}{s:arp}{l:aro}(hB:WH k s n=true)(hP:possB k n a b c=true)(hA:bitsB (takesK k) l=true):
  El k n a b c l=lb k n a b c l∧BH k n a b c l=ma k n a b c l∧
  BI k b c l=mb k b c l∧BJ k n a b c l=mc k n a c l∧Em l=true∧pH l=true∧
  possB k n (ma k n a b c l) (mb k b c l) (mc k n a c l)=true:=by
 obtain⟨hk,hn,_⟩:=YE hB
 have hw:IntKind.i64.wrap (n + 1)=n + 1:=be (by omega) (by omega)
 have hwa:=(abO hP hn).1
 have hwa1:IntKind.i64.wrap (a + 1)=a + 1:=be (by omega) (by omega)
 have hwa2:IntKind.i64.wrap (a - 1)=a - 1:=be (by omega) (by omega)
 have hm:IntKind.i64.wrap (min (a + 1) n)=min (a + 1) n:=be (by omega) (by omega)
 have hm2:IntKind.i64.wrap (min n (a + 1))=min n (a + 1):=be (by omega) (by omega)
 have h01:IntKind.i64.wrap (0 + 1)=1:=rfl
 have n0:IntKind.i64.wrap 0=0:=rfl
 have w1:IntKind.i64.wrap 1=1:=rfl
 have l12:ltI 1 2=true:=rfl
 have hb:=(abO hP hn).2.1
 have hc:=(abO hP hn).2.2
 rcases kinds hk with rfl | rfl | rfl | rfl | rfl | rfl
 ·obtain⟨x,rfl,hx⟩:=Xy hA
  have hp:=hP
  simp [possB,ei,cd]at hp
  rcases hx with rfl | rfl <;> simp only [fJ,En,Eo,zy,oO,Ep,Er,El,BH,BI,BJ,Em,uM,uN,uO,wi,wj,wl,wm,ke,qZ,td,wn,wo,yh,yj,yk,ym,oP,cA,jH,lM,gp,lN,lO,lP,lQ,kS,lb,ma,mb,mc,pH,iW,jG,kR,lK,lL,pD,pE,pF,pG,kK,possB,ei,cd,allT,ab4,ab3] <;> simp [hw,hwa1,hwa2,hm,hm2,h01,n0,w1,l12,hp,Bool.cond_eq_ite] <;> (repeat' split) <;> omega
 ·obtain⟨x,rfl,hx⟩:=Xy hA
  have hp:=hP
  simp [possB,ei,cd]at hp
  rcases hx with rfl | rfl <;> simp only [fJ,En,Eo,zy,oO,Ep,Er,El,BH,BI,BJ,Em,uM,uN,uO,wi,wj,wl,wm,ke,qZ,td,wn,wo,yh,yj,yk,ym,oP,cA,jH,lM,gp,lN,lO,lP,lQ,kS,lb,ma,mb,mc,pH,iW,jG,kR,lK,lL,pD,pE,pF,pG,kK,possB,ei,cd,allT,ab4,ab3] <;> simp [hw,hwa1,hwa2,hm,hm2,h01,n0,w1,l12,hp,Bool.cond_eq_ite] <;> (repeat' split) <;> omega
 ·obtain⟨x,rfl,hx⟩:=Xy hA
  have hp:=hP
  simp [possB,ei,cd]at hp
  rcases hx with rfl | rfl <;> simp only [fJ,En,Eo,zy,oO,Ep,Er,El,BH,BI,BJ,Em,uM,uN,uO,wi,wj,wl,wm,ke,qZ,td,wn,wo,yh,yj,yk,ym,oP,cA,jH,lM,gp,lN,lO,lP,lQ,kS,lb,ma,mb,mc,pH,iW,jG,kR,lK,lL,pD,pE,pF,pG,kK,possB,ei,cd,allT,ab4,ab3] <;> simp [hw,hwa1,hwa2,hm,hm2,h01,n0,w1,l12,hp,Bool.cond_eq_ite] <;> (repeat' split) <;> omega
 ·obtain⟨x,y,rfl,hx,hy⟩:=Xz hA
  have hp:=hP
  simp [possB,ei,cd]at hp
  rcases hx with rfl | rfl <;> rcases hy with rfl | rfl <;> simp only [fJ,En,Eo,zy,oO,Ep,Er,El,BH,BI,BJ,Em,uM,uN,uO,wi,wj,wl,wm,ke,qZ,td,wn,wo,yh,yj,yk,ym,oP,cA,jH,lM,gp,lN,lO,lP,lQ,kS,lb,ma,mb,mc,pH,iW,jG,kR,lK,lL,pD,pE,pF,pG,kK,possB,ei,cd,allT,ab4,ab3] <;> simp [hw,hwa1,hwa2,hm,hm2,h01,n0,w1,l12,hp,Bool.cond_eq_ite] <;> (repeat' split) <;> omega
 ·obtain⟨x,y,rfl,hx,hy⟩:=Xz hA
  have hp:=hP
  rcases hb with rfl | rfl <;> rcases hc with rfl | rfl <;> rcases hx with rfl | rfl <;> rcases hy with rfl | rfl <;> simp [possB,ei,cd,hw]at hp <;> simp only [fJ,En,Eo,zy,oO,Ep,Er,El,BH,BI,BJ,Em,uM,uN,uO,wi,wj,wl,wm,ke,qZ,td,wn,wo,yh,yj,yk,ym,oP,cA,jH,lM,gp,lN,lO,lP,lQ,kS,lb,ma,mb,mc,pH,iW,jG,kR,lK,lL,pD,pE,pF,pG,kK,possB,ei,cd,allT,ab4,ab3] <;> simp [hw,hwa1,hwa2,hm,hm2,h01,n0,w1,l12,hp,Bool.cond_eq_ite] <;> (repeat' split) <;> omega
 ·obtain⟨x,y,rfl,hx,hy⟩:=Xz hA
  have hp:=hP
  rcases hb with rfl | rfl <;> rcases hc with rfl | rfl <;> rcases hx with rfl | rfl <;> rcases hy with rfl | rfl <;> simp [possB,ei,cd,hw]at hp <;> simp only [fJ,En,Eo,zy,oO,Ep,Er,El,BH,BI,BJ,Em,uM,uN,uO,wi,wj,wl,wm,ke,qZ,td,wn,wo,yh,yj,yk,ym,oP,cA,jH,lM,gp,lN,lO,lP,lQ,kS,lb,ma,mb,mc,pH,iW,jG,kR,lK,lL,pD,pE,pF,pG,kK,possB,ei,cd,allT,ab4,ab3] <;> simp [hw,hwa1,hwa2,hm,hm2,h01,n0,w1,l12,hp,Bool.cond_eq_ite] <;> (repeat' split) <;> omega
def aaV:arq
 | [.one ⟨false,[.ref 0]⟩,.one ⟨false,[.val (.int .i64 a)]⟩],[.row false 2 (.int .i64) b]=>some ⟨art (.val (.bool (bitsB a b))),[arB b],[],[leN b.length 9223372036854775807]⟩
 |_,_=>none
def xm:PF prog:=PF.alt aid aaV (by
 intro args es o h cm;unfold aaV at h;split at h
 ·rename_i a b
  cases h
  have cm:=lv cm
  have hh:=akT a b cm
  obtain⟨e0,en⟩:=hh
  exact re rfl (la en) (by simp only [e0] <;> rfl) rfl rfl
 ·cases h)
def apV(m:Nat)(rs:amc):Bool:=leN rs.length m&&rs.all fun x=>leN x.length m
theorem api{m:Nat}{rs:amc}:apV m rs=true↔rs.length≤m∧ ∀ x∈rs,x.length≤m:=by
 simp only [apV,q9,iC,List.all_eq_true]
section
variable (a b c d e:Int)(f:aje)
def Ya:Bool:=bif d==1 then d==1 else bif d==2 then d==2 else d==3
def Yb:Bool:=bif d==5 then d==5 else d==6
def Yc:Bool:=bif d==8 then d==8 else d==9
def ahd:Int:=bif Ya d then(0:Int)else bif d==4 then(1:Int)else bif Yb d then(2:Int)else bif d==7 then lJ ((v5 f[k8 e]? ((0:Int),ByteArray.empty,(0:Int))).1)else bif Yc d then(1:Int)else(0:Int)
def ahe:Int:=bif Ya d then(1:Int)else bif d==4 then(1:Int)else bif Yb d then(1:Int)else bif d==7 then(1:Int)else bif Yc d then(0:Int)else(0:Int)
def aiA:Bool:=bif d==1 then cd e 0 1 else bif bif d==2 then d==2 else d==10 then cd e 0 (v6 .i64 (a - (1:Int)))else bif bif d==3 then d==3 else bif d==8 then d==8 else d==11 then cd e 0 (v6 .i64 (b - (1:Int)))else bif bif d==4 then d==4 else bif d==5 then d==5 else d==6 then e==0 else bif d==7 then cd e 0 (v6 .i64 ((↑f.length:Int) - (1:Int)))else bif d==9 then cd e 0 (v6 .i64 (c - (1:Int)))else false
def tc:Int:=bif bif a==1 then a==1 else bif a==2 then a==2 else a==3 then(0:Int)else bif bif a==4 then a==4 else bif a==7 then a==7 else bif a==8 then a==8 else a==9 then(1:Int)else(2:Int)
end
def Xk:arq
 | [.one ⟨false,[.val (.int .i64 a)]⟩],[]=>some ⟨aru (tc a),[],[],[]⟩
 |_,_=>none
def Md:PF prog:=PF.ofG prog [] [] aZ 111 f111 func111 (fun c _=>LOk.nil c) Xk (by
 intro _ _ _ h;unfold Xk at h;split at h<;>cases h;kernel_rfl)
abbrev bm:=Int×Int×List (Int×(arp×Int))×List Int×List (Int×(Int×Int))
section
variable (a b:Int)(c:ajd)(d:alK)
def ej:Int×arp×Int:=v5 c[k8 a]? ((0:Int),ByteArray.empty,(0:Int))
def cY:Int×Int×Int:=v5 d[k8 a]? ((0:Int),(0:Int),(0:Int))
def gT:Bool:=ltI a b
def eq:Bool:=leI 0 a
def gU:Bool:=ltI a (↑c.length:Int)
def gV:Bool:=ltN a.toNat c.length
def gW:Bool:=ltI a (↑d.length:Int)
def gX:Bool:=ltN a.toNat d.length
def gY:Bool:= !AD ((ej a c).1) ((ej a c).2.2) ((cY a d).1) (((cY a d).2).1) ((cY a d).2.2)
def gZ:Int:=v6 .i64 (a + (1:Int))
end
def Hd:bm→List (Nat×SV)
 |(a,b,_,_,_)=> [(24,(aru a)),(23,(aru b)),(22,(art (.ref 0))),(3,(art (.ptr 1 0)))]
def Hb:bm→List (Nat×Entry)
 |(_,_,a,b,c)=> [(0,(arA a)),(1,(.box 74 [.ref 2,.ref 3])),(2,(arB b)),(3,(arG c))]
def Hh:Nat→bm→List (Nat×SV)
 |0,(_,_,_,_,_)=> [(6,(art (.val (.bool false))))]
 |_,_=>[]
def gE:bm→LT bm
 |(a,b,c,d,e)=> .ite (gT a b) (.need [eq a,gU a c,gV a c] (.need [eq a,gW a e,gX a e] (.ite (gY a c e) (.ext 0 [(0,0),(1,1),(2,2),(3,3)]) (.nrm ((gZ a),b,c,d,e) [(0,0),(1,1),(2,2),(3,3)])))) (.ext 1 [(0,0),(1,1),(2,2),(3,3)])
def pS(s:St):Option bm:=do
 let some ⟨none,.one ⟨false,[.val (.int .i64 a)]⟩⟩:=s.look 24|none
 let some ⟨none,.one ⟨false,[.val (.int .i64 b)]⟩⟩:=s.look 23|none
 let some ⟨none,.one ⟨false,[.ref 2]⟩⟩:=s.look 22|none
 let some ⟨none,.one ⟨false,[.ptr 256 0]⟩⟩:=s.look 3|none
 let some (.row false 64 (.pair (.int .i64) (.pair .str (.int .i64))) c):=s.ent 2|none
 let some (.box 74 [.ref 0,.ref 1]):=s.ent 256|none
 let some (.row false 2 (.int .i64) d):=s.ent 0|none
 let some (.row false 129 (.pair (.int .i64) (.pair (.int .i64) (.int .i64))) e):=s.ent 1|none
 some (a,b,c,d,e)
def az:Lp bm where
 h:=⟨[25,26,27,28,8,7,29,30,31,32,33,34,35,36,6,37,24],[0,1,2,3],[],[]⟩
 JL:=Hd
 JE:=Hb
 XL:=Hh
 XE:=fun _=>Hb
 q:=fun j=>match j with | 0=> .ret | _=> .exit 0
 tags:= [0,1]
 lt:=gE
 fuel:=fun(a,b,c,d,e)=>a.natAbs + b.natAbs + c.length + d.length + e.length
 fix:=fun(_,b,c,d,e) (a,_,_,_,_)=>(a,b,c,d,e)
 σ:= [(0,2),(1,256),(2,0),(3,1)]
 rd:=pS
theorem FI:LoopOk prog (fun k=>Nat.blt k Tryz.f85.ntmps) az.F (bc f85 0):=by
 refine Lp.ok (tbl:= (T3z [xm,VY])) (lf:= []) aZ az (by kernel_rfl) (LOk.nil _) (fun _=>rfl) (fun j _=>by unfold az;match j with | 0=>rfl | _ + 1=>rfl) ?_ ?_ ?_ ?_ (fun _=>rfl) ?_
 ·intro _;kernel_rfl
 ·intro _;kernel_rfl
 ·intro s x h
  have h:pS s=some x:=h
  unfold pS at h
  repeat' split at h
  all_goals cases h
  constructor<;>repeat(first|refine aa ‹_› rfl ?_|refine ab rfl ‹_› rfl ?_|rfl)
 ·intro _;kernel_rfl
 ·intro _ _;exact(And.intro (And.intro trivial rfl) trivial)
section
variable (a:Int)(b:aro)(c:alL)(d:aje)
def ft:Bool:=bif !bitsB a b then true else(↑c.length:Int)!=(↑d.length:Int)
def rk:Int×Int×aje×aro×alL:=((0:Int),(↑d.length:Int),d,b,c)
def mA:Bool:=bif ft a b c d then false else bif Nat.beq ((Lp.res az (rk b c d)).1) 0 then false else true
def mB:Bool:=allT [leN b.length (9223372036854775807:Nat),ft a b c d||Lp.fin az (rk b c d)]
end
def zp:arq
 | [.one ⟨true,[.ref 0,.ref 1]⟩,.one ⟨false,[.val (.int .i64 a)]⟩,.one ⟨false,[.ref 2]⟩],[.row false 2 (.int .i64) b,.row false 129 (.pair (.int .i64) (.pair (.int .i64) (.int .i64))) c,.row false 64 (.pair (.int .i64) (.pair (.str) (.int .i64))) d]=>some ⟨art (.val (.bool (mA a b c d))),[arB b,arG c,arA d],[],[mB a b c d]⟩
 |_,_=>none
def KB:PF prog:=PF.ofG prog (T3z [xm,VY]) [az.F] aZ 85 f85 func85 (LOk.fnT (l:= [bc f85 0]) (by kernel_rfl) (.cons FI (.nil _))) zp (by
 intro _ _ _ h;unfold zp at h;split at h<;>cases h;kernel_rfl)
def tq(a:alL):Bool:=allT [ltN 0 a.length,false||leN (0 + k9 a) 9223372036854775807,false||leN ((0 + k9 a) * 24) 140737488355328]
def Gd:arq
 | [.one ⟨false,[.ref 0]⟩],[.row false 129 (.pair (.int .i64) (.pair (.int .i64) (.int .i64))) a]=>some ⟨art (.ref 1),[arG a],[arF a],[tq a]⟩
 |_,_=>none
def Rc:PF prog:=PF.ofG prog [] [] aZ 110 f110 func110 (fun c _=>LOk.nil c) Gd (by
 intro _ _ _ h;unfold Gd at h;split at h<;>cases h;kernel_rfl)
abbrev BS:=Int×Int×Int
def adj(k n:Int)(l:aro)(s:BS):BS:=(ma k n s.1 s.2.1 s.2.2 l,mb k s.2.1 s.2.2 l,mc k n s.1 s.2.2 l)
def aqD(k n:Int)(l:aro)(s:BS):Int:=lb k n s.1 s.2.1 s.2.2 l
theorem aoX{k n a b c:Int}{s:arp}{l:aro}(hB:WH k s n=true)(hP:possB k n a b c=true)(hA:bitsB (takesK k) l=true):
  (BH k n a b c l,BI k b c l,BJ k n a b c l)=adj k n l (a,b,c)∧possB k n (adj k n l (a,b,c)).1 (adj k n l (a,b,c)).2.1 (adj k n l (a,b,c)).2.2=true:=by
 obtain⟨_,e1,e2,e3,_,_,e6⟩:=anp hB hP hA
 exact⟨by rw [e1,e2,e3];rfl,e6⟩
theorem Lp.inv{X:Type}(p:Lp X)(I Q:Nat→X→Prop)
  (hs: ∀ k x,I (k + 1) x→(∃ j,(p.lt x).out=some (.inl j)∧Q j x)∨ ∃ y,(p.lt x).out=some (.inr y)∧I k y)
  (he: ∀ x,I 0 x→ ∃ j,(p.lt x).out=some (.inl j)∧Q j x) (N:Nat) (x:X) (hN:N≤999) (h:I N x):
  p.fin x=true∧ ∃ j y,p.res x=(j,y)∧Q j y:=by
 have qa: ∀ (k:Nat) (x:X),I k x→ ∃ j y,DK p.lt (k + 1) x=some (j,y)∧Q j y:=by
  intro k
  induction k with
  |zero=>
   intro x h
   obtain⟨j,h1,h2⟩:=he x h
   exact⟨j,x,rE _ h1,h2⟩
  |succ k ih=>
   intro x h
   rcases hs k x h with⟨j,h1,h2⟩ | ⟨y,h1,h2⟩
   ·exact⟨j,x,rE _ h1,h2⟩
   ·obtain⟨j,z,h3,h4⟩:=ih y h2
    exact⟨j,z,by rw [py _ h1];exact h3,h4⟩
 obtain⟨j,y,h1,h2⟩:=qa N x h
 obtain⟨r1,r2⟩:=p.run h1 (Fg (by omega))
 exact⟨r1,j,y,r2,h2⟩
abbrev TM:=Int×arp×Int
theorem anB(xs:alL)(h:(leN 1 xs.length&&leN xs.length 1048576)=true):tq xs=true:=by
 simp only [q9,iC]at h
 simp [tq,allT]
 omega
def aet:arq
 | [.one ⟨false,[.val (.slice none 0 0)]⟩],[]=>some ⟨art (.ref 0),[],[arJ []],[true]⟩
 |_,_=>none
def akb:PF prog:=PF.ofG prog [PF.raw prog] [] aZ 110 f110 func110 (fun c _=>LOk.nil c) aet (by
 intro _ _ _ h;unfold aet at h;split at h<;>cases h;kernel_rfl)
def aes:arq
 | [.one ⟨false,[.val (.slice (some _) 0 _)]⟩],[]=>some ⟨art (.ref 0),[],[arJ []],[true]⟩
 |_,_=>none
def aka:PF prog:=PF.ofG prog [] [] aZ 110 f110 func110 (fun c _=>LOk.nil c) aes (by
 intro _ _ _ h;unfold aes at h;split at h<;>cases h;kernel_rfl)
def Gg:arq
 | [.one ⟨false,[.ref 0]⟩],[.row false 129 (.pair (.int .i64) (.pair (.int .i64) (.int .i64))) a]=>some ⟨art (.ref 1),[arL a],[arJ a],[leN a.length 1048576]⟩
 |_,_=>none
def yZ:PF prog where
 k:=110
 F:=Gg
 ok:=by
  intro args es o h cm mem ρ w hp
  unfold Gg at h
  split at h
  ·rename_i a
   cases h
   have hl:=cm _ (v8.2 rfl)
   cases a with
   |nil=>
    exact(alZ akb aka rfl rfl rfl (fun _ _=>rfl) (by simp) (by simp) hp).mono fun en w' ⟨ρ',h1,h2,h3⟩=>⟨ρ',h1,h2,rfl,(by intro v hv;rw [v8.1 hv];rfl),h3⟩
   |cons x xs=>exact Rc.ok _ _ ⟨_,_,_,[tq (x::xs)]⟩ rfl (fun b hb=>by rw [v8.1 hb];exact anB (x::xs) ((q9 _ _).mpr ⟨bK (Nat.succ_pos _),hl⟩)) mem ρ w hp
  ·cases h
abbrev IN:=Int×Int
abbrev BS3:=Int×Int×Int
def tkI(bs:List TM)(x:IN):Int:=ahd x.1 x.2 bs
def gvI(x:IN):Int:=ahe x.1
def aq4(i v o:Int)(bs:List TM)(x:IN):Bool:=aiA i v o x.1 x.2 bs
def hgt(i v o:Int)(bs:List TM):List IN→Int→aro→Option (Int×aro)
 | [],n,acc=>some (n,acc)
 |x::r,n,acc=>bif aq4 i v o bs x&&(leI (tkI bs x) n&&leI (n - tkI bs x + gvI x) 40)then hgt i v o bs r (n - tkI bs x + gvI x) (acc++ [n - tkI bs x + gvI x])else none
def ac6(bs:List TM):Bool:=bs.all fun t=>WH t.1 t.2.1 t.2.2
def Qt(bs:List TM)(k:Nat):TM:=v5 bs[k]? ((0:Int),ByteArray.empty,(0:Int))
def stAt(ss:List BS3)(k:Nat):BS3:=v5 ss[k]? ((0:Int),(0:Int),(0:Int))
def possAt(bs:List TM)(ss:List BS3)(k:Nat):Bool:=possB (Qt bs k).1 (Qt bs k).2.2 (stAt ss k).1 (stAt ss k).2.1 (stAt ss k).2.2
def Kz(v:Int)(bs:List TM)(xs:aro)(ss:List BS3):Bool:=((ss.length:Int)==(bs.length:Int))&&(bitsB v xs&&(List.range bs.length).all fun k=>possAt bs ss k)
def gP(a:ajd)(c:alK)(b:Nat):(Unit)→Nat ⊕ (Unit)
 |_=>(bif(!AD ((v5 a[b]? ((0:Int),ByteArray.empty,(0:Int))).1) ((v5 a[b]? ((0:Int),ByteArray.empty,(0:Int))).2.2) ((v5 c[b]? ((0:Int),(0:Int),(0:Int))).1) (((v5 c[b]? ((0:Int),(0:Int),(0:Int))).2).1) ((v5 c[b]? ((0:Int),(0:Int),(0:Int))).2.2))then(.inl 0)else(.inr ()))
def cZ(a:ajd)(b:aro)(c:alK)(i:Nat):(Unit)→bm
 |_=>((i:Int),(↑a.length:Int),a,b,c)
def pR:bm→Unit
 |(_,_,_,_,_)=>()
theorem Ix(c:ajd)(d:aro)(e:alK) (hn:c.length≤9223372036854775807) (he:e.length=c.length):
  az.fin ((0:Int),(↑c.length:Int),c,d,e)=true∧az.res ((0:Int),(↑c.length:Int),c,d,e)=((bH (gP c e) 1 (List.range c.length) 0 ()).1,(cZ c d e) (bH (gP c e) 1 (List.range c.length) 0 ()).2.1 (bH (gP c e) 1 (List.range c.length) 0 ()).2.2):=by
 have qa:=az.along (cZ c d e) pR (gP c e) 1 (fun _ _=>True) (List.range c.length) () (by trivial) (by simp only [az,cZ,List.length_range];omega) (fun i b a hb hI=> ?_) (fun a hI=> ?_)
 ·exact qa
 ·obtain⟨⟩:=a
  obtain⟨rfl,iX⟩:=Ua hb
  have hw:IntKind.i64.wrap ((b:Int) + 1)=((b + 1:Nat):Int):=by rw [be (by omega) (by omega)];omega
  have lR:ltI (b:Int) (c.length:Int)=true:=ew (by omega)
  have Nl:leI (0:Int) (b:Int)=true:=cG (by omega)
  have wO:ltN b c.length=true:=gM (by omega)
  refine⟨?_,?_,?_,?_⟩
  ·simp [ej,cY,gT,eq,gU,gV,gW,gX,gY,gZ,gE,az,LT.nds,allT,cZ,lR,Nl,wO,he]
  ·simp [ej,cY,gT,eq,gU,gV,gW,gX,gY,gZ,gE,az,LT.each,cZ,pR,hw,he]
  ·simp only [ej,cY,gT,eq,gU,gV,gW,gX,gY,gZ,gE,az,LT.fn,cZ,pR,gP,z6,lR,cond_true]
  ·exact fun _ _=>trivial
 ·obtain⟨⟩:=a
  simp [ej,cY,gT,eq,gU,gV,gW,gX,gY,gZ,gE,az,LT.out,cZ,List.length_range]
theorem amN{α:Type}{g h:α→Bool}: ∀ (l:List α),(∀ k∈l,g k=h k)→(l.any fun b=> !g b)= !l.all h
 | [],_=>rfl
 |a::l,hg=>by
  rw [List.any_cons,List.all_cons,hg a (by simp),amN l (fun k hk=>hg k (by simp [hk]))]
  cases h a <;> simp
theorem anN(v:Int)(bs:List TM)(xs:aro)(ss:List BS3)(h:(leN xs.length 9223372036854775807&&(leN bs.length 9223372036854775807&&ac6 bs))=true):
  mA v xs ss bs=Kz v bs xs ss∧mB v xs ss bs=true:=by
 simp only [q9]at h
 have hn:=iC.1 h.2.1
 have hB: ∀ t∈bs,WH t.1 t.2.1 t.2.2=true:=List.all_eq_true.1 h.2.2
 by_cases hl:ss.length=bs.length
 ·obtain⟨w1,w2⟩:=Ix bs xs ss hn hl
  rw [oq (P:=fun k=> !AD (Qt bs k).1 (Qt bs k).2.2 (stAt ss k).1 (stAt ss k).2.1 (stAt ss k).2.2) (j:=0) (fun k=>rfl),
   amN (g:=fun k=>AD (Qt bs k).1 (Qt bs k).2.2 (stAt ss k).1 (stAt ss k).2.1 (stAt ss k).2.2) (h:=possAt bs ss) _ (fun k hk=>by
    have hk:k < bs.length:=List.mem_range.1 hk
    have hg:Qt bs k=bs[k]:=by simp only [Qt,List.getElem?_eq_getElem hk];rfl
    have:=hB _ (List.getElem_mem hk)
    rw [← hg]at this
    exact apO (YE this).1)]at w2
  have a0:ft v xs ss bs= !bitsB v xs:=by simp only [ft,hl];cases bitsB v xs <;> simp
  simp only [mA,mB,rk,a0,w1,w2,h.1,allT,Kz,hl]
  cases bitsB v xs <;> cases (List.range bs.length).all (possAt bs ss) <;> simp [Nat.beq]
 ·have hl2: ¬ ((ss.length:Int)=(bs.length:Int)):=by omega
  have a0:ft v xs ss bs=true:=by simp only [ft];cases bitsB v xs <;> simp [hl2]
  have e:((ss.length:Int)==(bs.length:Int))=false:=by simpa using hl2
  simp [mA,mB,a0,allT,Kz,e,h.1]
def zt:arq
 | [.one ⟨true,[.ref 0,.ref 1]⟩,.one ⟨false,[.val (.int .i64 a)]⟩,.one ⟨false,[.ref 2]⟩],[.row false 2 (.int .i64) b,.row false 129 (.pair (.int .i64) (.pair (.int .i64) (.int .i64))) c,.row false 64 (.pair (.int .i64) (.pair (.str) (.int .i64))) d]=>some ⟨art (.val (.bool (Kz a d b c))),[arB b,arG c,arA d],[],[leN b.length 9223372036854775807&&(leN d.length 9223372036854775807&&ac6 d)]⟩
 |_,_=>none
def rW:PF prog:=PF.alt KB zt (by
 intro args es o h cm;unfold zt at h;split at h
 ·rename_i a b c d
  cases h
  have cm:=lv cm
  have hh:=anN a d b c cm
  obtain⟨e0,en⟩:=hh
  exact re rfl (la en) (by simp only [e0] <;> rfl) rfl rfl
 ·cases h)
abbrev nK:=Int×arp×List arp
section
variable (a:Int)(b:arp)(c:List arp)
def zj:Bool:=ltI a (↑c.length:Int)
def Dk:Bool:=leI 0 a
def Dm:Bool:=ltN a.toNat c.length
def Dn:Bool:=ByteArray.toList (v5 c[k8 a]? ByteArray.empty)==ByteArray.toList b
def Do:Int:=v6 .i64 (a + (1:Int))
end
def acu:nK→List (Nat×SV)
 |(a,b,_)=> [(5,(aru a)),(0,(art (.ref 0))),(1,(art (.val (.string b))))]
def acl:nK→List (Nat×Entry)
 |(_,_,a)=> [(0,(arv a))]
def acM:Nat→nK→List (Nat×SV)
 |0,(a,_,_)=> [(4,(aru a))]
 |_,_=>[]
def Bh:nK→LT nK
 |(a,b,c)=> .ite (zj a c) (.need [Dk a,zj a c,Dm a c] (.ite (Dn a b c) (.ext 0 [(0,0)]) (.nrm ((Do a),b,c) [(0,0)]))) (.ext 1 [(0,0)])
def Nc(s:St):Option nK:=do
 let some ⟨none,.one ⟨false,[.val (.int .i64 a)]⟩⟩:=s.look 5|none
 let some ⟨none,.one ⟨false,[.ref 0]⟩⟩:=s.look 0|none
 let some ⟨none,.one ⟨false,[.val (.string b)]⟩⟩:=s.look 1|none
 let some (.row false 9 (.str) c):=s.ent 0|none
 some (a,b,c)
def eT:Lp nK where
 h:=⟨[6,7,8,9,12,13,14,15,16,17,18,4,10,11,5],[0],[],[]⟩
 JL:=acu
 JE:=acl
 XL:=acM
 XE:=fun _=>acl
 q:=fun j=>match j with | 0=> .ret | _=> .exit 0
 tags:= [0,1]
 lt:=Bh
 fuel:=fun(a,b,c)=>a.natAbs + b.size + c.length
 fix:=fun(_,b,c) (a,_,_)=>(a,b,c)
 σ:= [(0,0)]
 rd:=Nc
theorem aax:LoopOk prog (fun k=>Nat.blt k Tryz.f28.ntmps) eT.F (bc f28 0):=by
 refine Lp.ok (tbl:= []) (lf:= []) aZ eT (by kernel_rfl) (LOk.nil _) (fun _=>rfl) (fun j _=>by unfold eT;match j with | 0=>rfl | _ + 1=>rfl) ?_ ?_ ?_ ?_ (fun _=>rfl) ?_
 ·intro _;kernel_rfl
 ·intro _;kernel_rfl
 ·intro s x h
  have h:Nc s=some x:=h
  unfold Nc at h
  repeat' split at h
  all_goals cases h
  constructor<;>repeat(first|refine aa ‹_› rfl ?_|refine ab rfl ‹_› rfl ?_|rfl)
 ·intro _;kernel_rfl
 ·intro _ _;exact(And.intro (And.intro trivial rfl) trivial)
section
variable (a:arp)(b:List arp)
def Mz:Int×arp×List arp:=((0:Int),a,b)
def IO:Int:=bif Nat.beq ((Lp.res eT (Mz a b)).1) 0 then ((Lp.res eT (Mz a b)).2).1else(-1:Int)
def Oa:Bool:=allT [Lp.fin eT (Mz a b)]
end
def Zv:arq
 | [.one ⟨false,[.ref 0]⟩,.one ⟨false,[.val (.string a)]⟩],[.row false 9 (.str) b]=>some ⟨aru (IO a b),[arv b],[],[Oa a b]⟩
 |_,_=>none
def AP:PF prog:=PF.ofG prog [] [eT.F] aZ 28 f28 func28 (LOk.fnT (l:= [bc f28 0]) (by kernel_rfl) (.cons aax (.nil _))) Zv (by
 intro _ _ _ h;unfold Zv at h;split at h<;>cases h;kernel_rfl)
abbrev nI:=Int×List arp
section
variable (a:Int)(b:List arp)
def rf:arp:=v5 b[k8 a]? ByteArray.empty
def zg:Bool:=ltI a (↑b.length:Int)
def Iq:Bool:=leI 0 a
def Ir:Bool:=ltN a.toNat b.length
def Is:Bool:=sU (rf a b)
def CX:Bool:= !iA (rf a b)
def It:Int:=v6 .i64 (a + (1:Int))
end
def acr:nI→List (Nat×SV)
 |(a,_)=> [(5,(aru a)),(0,(art (.ref 0)))]
def aci:nI→List (Nat×Entry)
 |(_,a)=> [(0,(arv a))]
def acJ:Nat→nI→List (Nat×SV)
 |0,(_,_)=> [(4,(art (.val (.bool false))))]
 |_,_=>[]
def Be:nI→LT nI
 |(a,b)=> .ite (zg a b) (.need [Iq a,zg a b,Ir a b,Is a b] (.ite (CX a b) (.ext 0 [(0,0)]) (.nrm ((It a),b) [(0,0)]))) (.ext 1 [(0,0)])
def MZ(s:St):Option nI:=do
 let some ⟨none,.one ⟨false,[.val (.int .i64 a)]⟩⟩:=s.look 5|none
 let some ⟨none,.one ⟨false,[.ref 0]⟩⟩:=s.look 0|none
 let some (.row false 9 (.str) b):=s.ent 0|none
 some (a,b)
def fS:Lp nI where
 h:=⟨[6,7,8,9,12,13,14,15,16,17,4,10,11,5],[0],[],[]⟩
 JL:=acr
 JE:=aci
 XL:=acJ
 XE:=fun _=>aci
 q:=fun j=>match j with | 0=> .ret | _=> .exit 0
 tags:= [0,1]
 lt:=Be
 fuel:=fun(a,b)=>a.natAbs + b.length
 fix:=fun(_,b) (a,_)=>(a,b)
 σ:= [(0,0)]
 rd:=MZ
theorem aau:LoopOk prog (fun k=>Nat.blt k Tryz.f73.ntmps) fS.F (bc f73 0):=by
 refine Lp.ok (tbl:= [EG,zR]) (lf:= []) aZ fS (by kernel_rfl) (LOk.nil _) (fun _=>rfl) (fun j _=>by unfold fS;match j with | 0=>rfl | _ + 1=>rfl) ?_ ?_ ?_ ?_ (fun _=>rfl) ?_
 ·intro _;kernel_rfl
 ·intro _;kernel_rfl
 ·intro s x h
  have h:MZ s=some x:=h
  unfold MZ at h
  repeat' split at h
  all_goals cases h
  constructor<;>repeat(first|refine aa ‹_› rfl ?_|refine ab rfl ‹_› rfl ?_|rfl)
 ·intro _;kernel_rfl
 ·intro _ _;exact(And.intro (And.intro trivial rfl) trivial)
def Th(a:Int)(b:List arp):Bool:=bif Nat.beq ((Lp.res fS ((0:Int),b)).1) 0 then false else cd (↑b.length:Int) a 20
def Ti(a:List arp):Bool:=allT [Lp.fin fS ((0:Int),a)]
def Zs:arq
 | [.one ⟨false,[.ref 0]⟩,.one ⟨false,[.val (.int .i64 a)]⟩],[.row false 9 (.str) b]=>some ⟨art (.val (.bool (Th a b))),[arv b],[],[Ti b]⟩
 |_,_=>none
def aha:PF prog:=PF.ofG prog [EG,zR] [fS.F] aZ 73 f73 func73 (LOk.fnT (l:= [bc f73 0]) (by kernel_rfl) (.cons aau (.nil _))) Zs (by
 intro _ _ _ h;unfold Zs at h;split at h<;>cases h;kernel_rfl)
abbrev ln:=Int×Int×List (Int×(arp×Int))×List Int
section
variable (a b:Int)(c:ajd)(d:aro)
def ep:Int×arp×Int:=v5 c[k8 a]? ((0:Int),ByteArray.empty,(0:Int))
def rx:Bool:= !LQ ((ep a c).1) (((ep a c).2).1) ((ep a c).2.2)
def ry:Int:=v6 .i64 (v6 .i64 (b - lJ ((ep a c).1)) + (1:Int))
def sS:Bool:=ltI a (↑c.length:Int)
def wL:Bool:=leI 0 a
def wM:Bool:=ltN a.toNat c.length
def Ah:Bool:=LR ((ep a c).1) (((ep a c).2).1) ((ep a c).2.2)
def Ai:Bool:= !(!rx a c&&true)||leI 0 a
def Aj:Bool:= !(!rx a c&&true)||ltI a (↑c.length:Int)
def Ak:Bool:= !(!rx a c&&true)||ltN a.toNat c.length
def Al:Bool:=bif rx a c then true else ltI b (lJ ((ep a c).1))
def Am:Bool:=leN (k9 d + k9 [ry a b c]) (9223372036854775807:Nat)
def An:Bool:=leN ((k9 d + k9 [ry a b c]) * (8:Nat)) 140737488355328
def yN:Int:=v6 .i64 (a + (1:Int))
def yO:Int:=ry a b c
def yP:aro:=d++ [ry a b c]
end
def ZZ:ln→List (Nat×SV)
 |(a,b,_,_)=> [(6,(aru a)),(0,(art (.ref 0))),(5,(aru b)),(4,(art (.ref 1)))]
def ZS:ln→List (Nat×Entry)
 |(_,_,a,b)=> [(0,(arA a)),(1,(arC b))]
def aan:Nat→ln→List (Nat×SV)
 |0,(_,_,_,_)=> [(2,(art (.ref 2))),(3,(art (.val (.bool false))))]
 |_,(_,a,_,_)=> [(5,(aru a)),(4,(art (.ref 1)))]
def aag:Nat→ln→List (Nat×Entry)
 |0,(_,_,a,b)=> [(0,(arA a)),(1,(arC b)),(2,(arC []))]
 |_,(_,_,a,b)=> [(0,(arA a)),(1,(arC b))]
def yH:ln→LT ln
 |(a,b,c,d)=> .ite (sS a c) (.need [wL a,sS a c,wM a c,Ah a c,Ai a c,Aj a c,Ak a c] (.ite (Al a b c) (.ext 0 [(0,0),(1,1),(2,1344)]) (.need [wL a,sS a c,wM a c] (.need [Am a b c d,An a b c d] (.nrm ((yN a),yO a b c,c,(yP a b c d)) [(0,0),(1,2176)]))))) (.ext 1 [(0,0),(1,1)])
def JP(s:St):Option ln:=do
 let some ⟨none,.one ⟨false,[.val (.int .i64 a)]⟩⟩:=s.look 6|none
 let some ⟨none,.one ⟨false,[.ref 0]⟩⟩:=s.look 0|none
 let some ⟨none,.one ⟨false,[.val (.int .i64 b)]⟩⟩:=s.look 5|none
 let some ⟨none,.one ⟨false,[.ref 256]⟩⟩:=s.look 4|none
 let some (.row false 64 (.pair (.int .i64) (.pair .str (.int .i64))) c):=s.ent 0|none
 let some (.row true 2 (.int .i64) d):=s.ent 256|none
 some (a,b,c,d)
def dM:Lp ln where
 h:=⟨[8,9,10,11,14,15,16,17,18,19,20,21,22,23,24,25,26,27,28,29,2,3,30,31,32,33,34,35,36,37,38,5,39,40,41,42,4,12,13,6],[0],[1],[2]⟩
 JL:=ZZ
 JE:=ZS
 XL:=aan
 XE:=aag
 q:=fun j=>match j with | 0=> .ret | _=> .exit 0
 tags:= [0,1]
 lt:=yH
 fuel:=fun(a,b,c,d)=>a.natAbs + b.natAbs + c.length + d.length
 fix:=fun(_,_,c,_) (a,b,_,d)=>(a,b,c,d)
 σ:= [(0,0),(1,256)]
 rd:=JP
theorem XO:LoopOk prog (fun k=>Nat.blt k Tryz.f102.ntmps) dM.F (bc f102 0):=by
 refine Lp.ok (tbl:= [abM,DZ]) (lf:= []) aZ dM (by kernel_rfl) (LOk.nil _) (fun _=>rfl) (fun j _=>by unfold dM;match j with | 0=>rfl | _ + 1=>rfl) ?_ ?_ ?_ ?_ (fun _=>rfl) ?_
 ·intro _;kernel_rfl
 ·intro _;kernel_rfl
 ·intro s x h
  have h:JP s=some x:=h
  unfold JP at h
  repeat' split at h
  all_goals cases h
  constructor<;>repeat(first|refine aa ‹_› rfl ?_|refine ab rfl ‹_› rfl ?_|rfl)
 ·intro _;kernel_rfl
 ·intro _ _;exact(And.intro (And.intro trivial rfl) trivial)
section
variable (a:aje)
def Ip:Int×Int×aje×aro:=((0:Int),(0:Int),a,[])
def Ov:Bool:=Nat.beq ((Lp.res dM (Ip a)).1) 0
def Ow:Int×aje×aro:=(Lp.res dM (Ip a)).2.2
def Qj:Bool:=bif Ov a then false else bif (Ow a).1==1 then leI (↑a.length:Int) 40 else false
def afi:aro:=bif Ov a then []else (Ow a).2.2
def Qk:Bool:=allT [Lp.fin dM (Ip a)]
end
def VG:arq
 | [.one ⟨false,[.ref 0]⟩],[.row false 64 (.pair (.int .i64) (.pair (.str) (.int .i64))) a]=>some ⟨.tup [⟨false,[.ref 1]⟩,⟨false,[.val (.bool (Qj a))]⟩],[arA a],[arC (afi a)],[Qk a]⟩
 |_,_=>none
def PJ:PF prog:=PF.ofG prog [abM,DZ] [dM.F] aZ 102 f102 func102 (LOk.fnT (l:= [bc f102 0]) (by kernel_rfl) (.cons XO (.nil _))) VG (by
 intro _ _ _ h;unfold VG at h;split at h<;>cases h;kernel_rfl)
def Ng(a:aje):Bool:=Qj a
def Nh(a:aje):Bool:=allT [Qk a]
def Tp:arq
 | [.one ⟨false,[.ref 0]⟩],[.row false 64 (.pair (.int .i64) (.pair (.str) (.int .i64))) a]=>some ⟨art (.val (.bool (Ng a))),[arA a],[],[Nh a]⟩
 |_,_=>none
def acR:PF prog:=PF.ofG prog (T3z [PJ]) [] aZ 74 f74 func74 (fun c _=>LOk.nil c) Tp (by
 intro _ _ _ h;unfold Tp at h;split at h<;>cases h;kernel_rfl)
section
variable (a b c:List arp)
def Ql:List arp:=a++b
def adn:List arp:=Ql a b++c
def Xg:Bool:=allT [leN (0 + k9 a) 9223372036854775807,leN ((0 + k9 a) * 16) 140737488355328,leN (k9 a + k9 b) 9223372036854775807,leN ((k9 a + k9 b) * 16) 140737488355328,leN (k9 (Ql a b) + k9 c) 9223372036854775807,leN ((k9 (Ql a b) + k9 c) * 16) 140737488355328]
end
def ac1:arq
 | [.one ⟨true,[.val (.string _x0),.ref 0,.ref 1,.ref 2,.val (.string _x1),.ref 3]⟩],[.row false 9 (.str) a,.row false 9 (.str) b,.row false 9 (.str) c,.row false 61 (.pair (.str) (.sl 64 (.pair (.int .i64) (.pair (.str) (.int .i64))))) d]=>some ⟨art (.ref 4),[arv a,arv b,arv c,arz d],[arw (adn a b c)],[Xg a b c]⟩
 |_,_=>none
def aiV:PF prog:=PF.ofG prog [] [] aZ 29 f29 func29 (fun c _=>LOk.nil c) ac1 (by
 intro _ _ _ h;unfold ac1 at h;split at h<;>cases h;kernel_rfl)
abbrev nL:=Int×List arp
section
variable (a:Int)(b:List arp)
def Bn:arp:=v5 b[k8 a]? ByteArray.empty
def uC:List arp:=List.drop (k8 0) (List.take a.toNat b)
def zl:Bool:=ltI a (↑b.length:Int)
end
def Dq:Bool:=leI 0 0
section
variable (a:Int)(b:List arp)
def zm:Bool:=leI 0 a
def Dr:Bool:=leI a (↑b.length:Int)
def Ds:Bool:=ltN a.toNat b.length
def zo:Bool:=Oa (Bn a b) (uC a b)
def Dt:Bool:=leI 0 (IO (Bn a b) (uC a b))
def Iv:Int:=v6 .i64 (a + (1:Int))
end
def acv:nL→List (Nat×SV)
 |(a,_)=> [(3,(aru a)),(0,(art (.ref 0)))]
def acm:nL→List (Nat×Entry)
 |(_,a)=> [(0,(arv a))]
def acN:Nat→nL→List (Nat×SV)
 |0,(_,_)=> [(2,(art (.val (.bool true))))]
 |_,_=>[]
def Bi:nL→LT nL
 |(a,b)=> .ite (zl a b) (.need [Dq,zm a,Dr a b,zm a,zl a b,Ds a b,zo a b] (.ite (Dt a b) (.ext 0 [(0,0)]) (.nrm ((Iv a),b) [(0,0)]))) (.ext 1 [(0,0)])
def Nd(s:St):Option nL:=do
 let some ⟨none,.one ⟨false,[.val (.int .i64 a)]⟩⟩:=s.look 3|none
 let some ⟨none,.one ⟨false,[.ref 0]⟩⟩:=s.look 0|none
 let some (.row false 9 (.str) b):=s.ent 0|none
 some (a,b)
def fT:Lp nL where
 h:=⟨[4,5,6,7,10,11,12,13,14,15,16,17,18,2,8,9,3],[0],[],[]⟩
 JL:=acv
 JE:=acm
 XL:=acN
 XE:=fun _=>acm
 q:=fun j=>match j with | 0=> .ret | _=> .exit 0
 tags:= [0,1]
 lt:=Bi
 fuel:=fun(a,b)=>a.natAbs + b.length
 fix:=fun(_,b) (a,_)=>(a,b)
 σ:= [(0,0)]
 rd:=Nd
theorem aay:LoopOk prog (fun k=>Nat.blt k Tryz.f76.ntmps) fT.F (bc f76 0):=by
 refine Lp.ok (tbl:= (T3z [AP])) (lf:= []) aZ fT (by kernel_rfl) (LOk.nil _) (fun _=>rfl) (fun j _=>by unfold fT;match j with | 0=>rfl | _ + 1=>rfl) ?_ ?_ ?_ ?_ (fun _=>rfl) ?_
 ·intro _;kernel_rfl
 ·intro _;kernel_rfl
 ·intro s x h
  have h:Nd s=some x:=h
  unfold Nd at h
  repeat' split at h
  all_goals cases h
  constructor<;>repeat(first|refine aa ‹_› rfl ?_|refine ab rfl ‹_› rfl ?_|rfl)
 ·intro _;kernel_rfl
 ·intro _ _;exact(And.intro (And.intro trivial rfl) trivial)
def Tl(a:List arp):Bool:=bif Nat.beq ((Lp.res fT ((0:Int),a)).1) 0 then true else false
def Tm(a:List arp):Bool:=allT [Lp.fin fT ((0:Int),a)]
def Zw:arq
 | [.one ⟨false,[.ref 0]⟩],[.row false 9 (.str) a]=>some ⟨art (.val (.bool (Tl a))),[arv a],[],[Tm a]⟩
 |_,_=>none
def ahb:PF prog:=PF.ofG prog (T3z [AP]) [fT.F] aZ 76 f76 func76 (LOk.fnT (l:= [bc f76 0]) (by kernel_rfl) (.cons aay (.nil _))) Zw (by
 intro _ _ _ h;unfold Zw at h;split at h<;>cases h;kernel_rfl)
def aeO(a:arp):Bool:= !gN a
def Vy:arq
 | [.one ⟨false,[.val (.string a)]⟩],[]=>some ⟨art (.val (.bool (aeO a))),[],[],[]⟩
 |_,_=>none
def ae6:PF prog:=PF.ofG prog [IY] [] aZ 92 f92 func92 (fun c _=>LOk.nil c) Vy (by
 intro _ _ _ h;unfold Vy at h;split at h<;>cases h;kernel_rfl)
def AC(a:arp):Bool:= !gN a
def OB:arq
 | [.one ⟨false,[.val (.string a)]⟩],[]=>some ⟨art (.val (.bool (AC a))),[],[],[]⟩
 |_,_=>none
def OP:PF prog:=PF.ofG prog [IY] [] aZ 92 f92 func92 (fun c _=>LOk.nil c) OB (by
 intro _ _ _ h;unfold OB at h;split at h<;>cases h;kernel_rfl)
abbrev br:=Int×Int×List arp
section
variable (a b:Int)(c:List arp)
def iG:Bool:=ltI a b
def iH:Bool:=leI 0 a
def iI:Bool:=ltI a (↑c.length:Int)
def iJ:Bool:=ltN a.toNat c.length
def iK:Bool:=AC (v5 c[k8 a]? ByteArray.empty)
def iL:Int:=v6 .i64 (a + (1:Int))
end
def Hu:br→List (Nat×SV)
 |(a,b,_)=> [(8,(aru a)),(7,(aru b)),(1,(art (.val (.func (.func 92) ⟨[]⟩ ⟨[]⟩)))),(0,(art (.ref 0)))]
def Hr:br→List (Nat×Entry)
 |(_,_,a)=> [(0,(arv a))]
def HA:Nat→br→List (Nat×SV)
 |0,(a,_,_)=> [(4,(aru a))]
 |_,_=>[]
def io:br→LT br
 |(a,b,c)=> .ite (iG a b) (.need [iH a,iI a c,iJ a c] (.ite (iK a c) (.ext 0 [(0,0)]) (.nrm ((iL a),b,c) [(0,0)]))) (.ext 1 [(0,0)])
def ql(s:St):Option br:=do
 let some ⟨none,.one ⟨false,[.val (.int .i64 a)]⟩⟩:=s.look 8|none
 let some ⟨none,.one ⟨false,[.val (.int .i64 b)]⟩⟩:=s.look 7|none
 let some ⟨none,.one ⟨false,[.val (.func (.func 92) ⟨[]⟩ ⟨[]⟩)]⟩⟩:=s.look 1|none
 let some ⟨none,.one ⟨false,[.ref 0]⟩⟩:=s.look 0|none
 let some (.row false 9 (.str) c):=s.ent 0|none
 some (a,b,c)
def ak:Lp br where
 h:=⟨[9,10,5,11,12,13,14,15,16,17,4,18,8],[0],[],[]⟩
 JL:=Hu
 JE:=Hr
 XL:=HA
 XE:=fun _=>Hr
 q:=fun j=>match j with | 0=> .ret | _=> .exit 0
 tags:= [0,1]
 lt:=io
 fuel:=fun(a,b,c)=>a.natAbs + b.natAbs + c.length
 fix:=fun(_,b,c) (a,_,_)=>(a,b,c)
 σ:= [(0,0)]
 rd:=ql
theorem GJ:LoopOk prog (fun k=>Nat.blt k Tryz.f96.ntmps) ak.F (bc f96 0):=by
 refine Lp.ok (tbl:= [OP]) (lf:= []) aZ ak (by kernel_rfl) (LOk.nil _) (fun _=>rfl) (fun j _=>by unfold ak;match j with | 0=>rfl | _ + 1=>rfl) ?_ ?_ ?_ ?_ (fun _=>rfl) ?_
 ·intro _;kernel_rfl
 ·intro _;kernel_rfl
 ·intro s x h
  have h:ql s=some x:=h
  unfold ql at h
  repeat' split at h
  all_goals cases h
  constructor<;>repeat(first|refine aa ‹_› rfl ?_|refine ab rfl ‹_› rfl ?_|rfl)
 ·intro _;kernel_rfl
 ·intro _ _;exact(And.intro (And.intro trivial rfl) trivial)
section
variable (a:List arp)
def mH:Int×Int×List arp:=((0:Int),(↑a.length:Int),a)
def sC:Int:=bif Nat.beq ((Lp.res ak (mH a)).1) 0 then ((Lp.res ak (mH a)).2).1else(-1:Int)
def sD:Bool:=allT [Lp.fin ak (mH a)]
end
def zF:arq
 | [.one ⟨false,[.ref 0]⟩,.one ⟨false,[.val (.func (.func 92) ⟨[]⟩ ⟨[]⟩)]⟩],[.row false 9 (.str) a]=>some ⟨aru (sC a),[arv a],[],[sD a]⟩
 |_,_=>none
def sk:PF prog:=PF.ofG prog [OP] [ak.F] aZ 96 f96 func96 (LOk.fnT (l:= [bc f96 0]) (by kernel_rfl) (.cons GJ (.nil _))) zF (by
 intro _ _ _ h;unfold zF at h;split at h<;>cases h;kernel_rfl)
def qP(a:List arp):Bool:=leI 0 (sC a)
def qQ(a:List arp):Bool:=allT [sD a]
def ya:arq
 | [.one ⟨false,[.ref 0]⟩,.one ⟨false,[.val (.func (.func 92) ⟨[]⟩ ⟨[]⟩)]⟩],[.row false 9 (.str) a]=>some ⟨art (.val (.bool (qP a))),[arv a],[],[qQ a]⟩
 |_,_=>none
def qM:PF prog:=PF.ofG prog (T3z [sk]) [] aZ 62 f62 func62 (fun c _=>LOk.nil c) ya (by
 intro _ _ _ h;unfold ya at h;split at h<;>cases h;kernel_rfl)
def SD(a:List arp):Bool:= !qP a
def SE(a:List arp):Bool:=allT [qQ a]
def Zj:arq
 | [.one ⟨false,[.ref 0]⟩],[.row false 9 (.str) a]=>some ⟨art (.val (.bool (SD a))),[arv a],[],[SE a]⟩
 |_,_=>none
def ag3:PF prog:=PF.ofG prog (T3z [ae6,qM]) [] aZ 56 f56 func56 (fun c _=>LOk.nil c) Zj (by
 intro _ _ _ h;unfold Zj at h;split at h<;>cases h;kernel_rfl)
abbrev qW:=Int×Int×Int×Int×List (Int×(arp×Int))
section
variable (a b c d:Int)(e:ajd)
def rB:Int×arp×Int:=v5 e[k8 a]? ((0:Int),ByteArray.empty,(0:Int))
def xf:Int:=v6 .i64 (c + v6 .i64 ((1:Int) - tc ((rB a e).1)))
def Gp:Bool:=ltI a b
def Gq:Bool:=leI 0 a
def Gr:Bool:=ltI a (↑e.length:Int)
def Gs:Bool:=ltN a.toNat e.length
def Gt:Bool:=bif !Nt ((rB a e).1) (((rB a e).2).1) ((rB a e).2.2)then true else ltI c (tc ((rB a e).1))
def Gu:Int:=v6 .i64 (a + (1:Int))
def Gv:Int:=xf a c e
def Gw:Int:=afF d (xf a c e) (xf a c e) d
end
def aez:qW→List (Nat×SV)
 |(a,b,c,d,_)=> [(10,(aru a)),(9,(aru b)),(8,(art (.ref 0))),(4,(aru c)),(5,(aru d))]
def aey:qW→List (Nat×Entry)
 |(_,_,_,_,a)=> [(0,(arA a))]
def aeB:Nat→qW→List (Nat×SV)
 |0,(_,_,_,_,_)=> [(2,(aru 0)),(3,(art (.val (.bool false))))]
 |_,(_,_,a,b,_)=> [(4,(aru a)),(5,(aru b))]
def ED:qW→LT qW
 |(a,b,c,d,e)=> .ite (Gp a b) (.need [Gq a,Gr a e,Gs a e] (.ite (Gt a c e) (.ext 0 [(0,0)]) (.nrm ((Gu a),b,Gv a c e,Gw a c d e,e) [(0,0)]))) (.ext 1 [(0,0)])
def PM(s:St):Option qW:=do
 let some ⟨none,.one ⟨false,[.val (.int .i64 a)]⟩⟩:=s.look 10|none
 let some ⟨none,.one ⟨false,[.val (.int .i64 b)]⟩⟩:=s.look 9|none
 let some ⟨none,.one ⟨false,[.ref 0]⟩⟩:=s.look 8|none
 let some ⟨none,.one ⟨false,[.val (.int .i64 c)]⟩⟩:=s.look 4|none
 let some ⟨none,.one ⟨false,[.val (.int .i64 d)]⟩⟩:=s.look 5|none
 let some (.row false 64 (.pair (.int .i64) (.pair .str (.int .i64))) e):=s.ent 0|none
 some (a,b,c,d,e)
def ik:Lp qW where
 h:=⟨[11,12,13,7,14,15,16,17,18,19,20,21,22,23,2,3,24,25,26,27,28,29,4,30,31,32,5,33,10],[0],[],[]⟩
 JL:=aez
 JE:=aey
 XL:=aeB
 XE:=fun _=>aey
 q:=fun j=>match j with | 0=> .ret | _=> .exit 0
 tags:= [0,1]
 lt:=ED
 fuel:=fun(a,b,c,d,e)=>a.natAbs + b.natAbs + c.natAbs + d.natAbs + e.length
 fix:=fun(_,b,_,_,e) (a,_,c,d,_)=>(a,b,c,d,e)
 σ:= [(0,0)]
 rd:=PM
theorem acP:LoopOk prog (fun k=>Nat.blt k Tryz.f113.ntmps) ik.F (bc f113 0):=by
 refine Lp.ok (tbl:= [adk,Md]) (lf:= []) aZ ik (by kernel_rfl) (LOk.nil _) (fun _=>rfl) (fun j _=>by unfold ik;match j with | 0=>rfl | _ + 1=>rfl) ?_ ?_ ?_ ?_ (fun _=>rfl) ?_
 ·intro _;kernel_rfl
 ·intro _;kernel_rfl
 ·intro s x h
  have h:PM s=some x:=h
  unfold PM at h
  repeat' split at h
  all_goals cases h
  constructor<;>repeat(first|refine aa ‹_› rfl ?_|refine ab rfl ‹_› rfl ?_|rfl)
 ·intro _;kernel_rfl
 ·intro _ _;exact(And.intro (And.intro trivial rfl) trivial)
section
variable (a:aje)
def Pr:Int×Int×Int×Int×aje:=((0:Int),(↑a.length:Int),(0:Int),(0:Int),a)
def Ut:Bool:=Nat.beq ((Lp.res ik (Pr a)).1) 0
def Uu:Int×Int×aje:=(Lp.res ik (Pr a)).2.2.2
def aiM:Int:=bif Ut a then(0:Int)else ((Uu a).2).1
def WL:Bool:=bif Ut a then false else (Uu a).1==1
def WM:Bool:=allT [Lp.fin ik (Pr a)]
end
def acU:arq
 | [.one ⟨false,[.ref 0]⟩],[.row false 64 (.pair (.int .i64) (.pair (.str) (.int .i64))) a]=>some ⟨.tup [⟨false,[ars (aiM a)]⟩,⟨false,[.val (.bool (WL a))]⟩],[arA a],[],[WM a]⟩
 |_,_=>none
def Xc:PF prog:=PF.ofG prog [adk,Md] [ik.F] aZ 113 f113 func113 (LOk.fnT (l:= [bc f113 0]) (by kernel_rfl) (.cons acP (.nil _))) acU (by
 intro _ _ _ h;unfold acU at h;split at h<;>cases h;kernel_rfl)
def FK(a:aje):Bool:=bif WL a then leI (↑a.length:Int) 40 else false
def FL(a:aje):Bool:=allT [WM a]
def Tn:arq
 | [.one ⟨false,[.ref 0]⟩],[.row false 64 (.pair (.int .i64) (.pair (.str) (.int .i64))) a]=>some ⟨art (.val (.bool (FK a))),[arA a],[],[FL a]⟩
 |_,_=>none
def ML:PF prog:=PF.ofG prog (T3z [Xc]) [] aZ 95 f95 func95 (fun c _=>LOk.nil c) Tn (by
 intro _ _ _ h;unfold Tn at h;split at h<;>cases h;kernel_rfl)
def WN(a:arp)(b:aje):Bool:=bif gN a then FK b else false
def WO(a:arp)(b:aje):Bool:=allT [!(gN a&&true)||FL b]
def acV:arq
 | [.one ⟨true,[.val (.string a),.ref 0]⟩],[.row false 64 (.pair (.int .i64) (.pair (.str) (.int .i64))) b]=>some ⟨art (.val (.bool (WN a b))),[arA b],[],[WO a b]⟩
 |_,_=>none
def aiS:PF prog:=PF.ofG prog (T3z [IY,ML]) [] aZ 60 f60 func60 (fun c _=>LOk.nil c) acV (by
 intro _ _ _ h;unfold acV at h;split at h<;>cases h;kernel_rfl)
abbrev nF:=Int×Int×List arp
section
variable (a b:Int)(c:List arp)
def AZ:arp:=v5 c[k8 a]? ByteArray.empty
def uo:List arp:=List.drop (k8 0) (List.take a.toNat c)
def Cd:Bool:=ltI a b
def yU:Bool:=leI 0 a
def Ce:Bool:=ltI a (↑c.length:Int)
def Cf:Bool:=ltN a.toNat c.length
end
def Cg:Bool:=leI 0 0
section
variable (a:Int)(b:List arp)
def Ch:Bool:=leI a (↑b.length:Int)
def yV:Bool:=ld (AZ a b) (uo a b)
def Ci:Bool:=iZ (AZ a b) (uo a b)
def HH:Int:=v6 .i64 (a + (1:Int))
end
def acn:nF→List (Nat×SV)
 |(a,b,_)=> [(7,(aru a)),(6,(aru b)),(5,(art (.ref 0))),(0,(art (.ref 0)))]
def ace:nF→List (Nat×Entry)
 |(_,_,a)=> [(0,(arv a))]
def acF:Nat→nF→List (Nat×SV)
 |0,(_,_,_)=> [(2,(art (.val (.bool true))))]
 |_,_=>[]
def Bb:nF→LT nF
 |(a,b,c)=> .ite (Cd a b) (.need [yU a,Ce a c,Cf a c] (.need [Cg,yU a,Ch a c,yV a c] (.ite (Ci a c) (.ext 0 [(0,0)]) (.nrm ((HH a),b,c) [(0,0)])))) (.ext 1 [(0,0)])
def MV(s:St):Option nF:=do
 let some ⟨none,.one ⟨false,[.val (.int .i64 a)]⟩⟩:=s.look 7|none
 let some ⟨none,.one ⟨false,[.val (.int .i64 b)]⟩⟩:=s.look 6|none
 let some ⟨none,.one ⟨false,[.ref 0]⟩⟩:=s.look 5|none
 let some ⟨none,.one ⟨false,[.ref 0]⟩⟩:=s.look 0|none
 let some (.row false 9 (.str) c):=s.ent 0|none
 some (a,b,c)
def fQ:Lp nF where
 h:=⟨[8,9,10,11,3,4,12,13,14,15,16,2,17,7],[0],[],[]⟩
 JL:=acn
 JE:=ace
 XL:=acF
 XE:=fun _=>ace
 q:=fun j=>match j with | 0=> .ret | _=> .exit 0
 tags:= [0,1]
 lt:=Bb
 fuel:=fun(a,b,c)=>a.natAbs + b.natAbs + c.length
 fix:=fun(_,b,c) (a,_,_)=>(a,b,c)
 σ:= [(0,0)]
 rd:=MV
theorem aaq:LoopOk prog (fun k=>Nat.blt k Tryz.f61.ntmps) fQ.F (bc f61 0):=by
 refine Lp.ok (tbl:= (T3z [du])) (lf:= []) aZ fQ (by kernel_rfl) (LOk.nil _) (fun _=>rfl) (fun j _=>by unfold fQ;match j with | 0=>rfl | _ + 1=>rfl) ?_ ?_ ?_ ?_ (fun _=>rfl) ?_
 ·intro _;kernel_rfl
 ·intro _;kernel_rfl
 ·intro s x h
  have h:MV s=some x:=h
  unfold MV at h
  repeat' split at h
  all_goals cases h
  constructor<;>repeat(first|refine aa ‹_› rfl ?_|refine ab rfl ‹_› rfl ?_|rfl)
 ·intro _;kernel_rfl
 ·intro _ _;exact(And.intro (And.intro trivial rfl) trivial)
section
variable (a:List arp)
def QT:Int×Int×List arp:=((0:Int),(↑a.length:Int),a)
def SF:Bool:=bif Nat.beq ((Lp.res fQ (QT a)).1) 0 then true else false
def SG:Bool:=allT [Lp.fin fQ (QT a)]
end
def Zk:arq
 | [.one ⟨false,[.ref 0]⟩],[.row false 9 (.str) a]=>some ⟨art (.val (.bool (SF a))),[arv a],[],[SG a]⟩
 |_,_=>none
def ag4:PF prog:=PF.ofG prog (T3z [du]) [fQ.F] aZ 61 f61 func61 (LOk.fnT (l:= [bc f61 0]) (by kernel_rfl) (.cons aaq (.nil _))) Zk (by
 intro _ _ _ h;unfold Zk at h;split at h<;>cases h;kernel_rfl)
abbrev aW:=Int×Int×List (Int×(arp×Int))×List (Int×(arp×Int))
section
variable (a b:Int)(c d:ajd)
def aU:Int×arp×Int:=v5 c[k8 a]? ((0:Int),ByteArray.empty,(0:Int))
def cf:Bool:=leI 7 ((aU a c).1)
def cg:aje:= [((aU a c).1,((aU a c).2).1,(aU a c).2.2)]
def eU:Bool:=ltI a b
def eV:Bool:=leI 0 a
def eW:Bool:=ltI a (↑c.length:Int)
def eX:Bool:=ltN a.toNat c.length
def eY:Bool:= !cf a c||leN (k9 d + k9 (cg a c)) 9223372036854775807
def eZ:Bool:= !cf a c||leN ((k9 d + k9 (cg a c)) * 32) 140737488355328
def fa:Bool:=cf a c
def dx:Int:=v6 .i64 (a + (1:Int))
def fb:ajd:=d++cg a c
end
def DN:aW→List (Nat×SV)
 |(a,b,_,_)=> [(18,(aru a)),(17,(aru b)),(16,(art (.ref 0))),(3,(art (.ref 1)))]
def DL:aW→List (Nat×Entry)
 |(_,_,a,b)=> [(0,(arA a)),(1,(arE b))]
def DR:Nat→aW→List (Nat×SV)
 |_,(_,_,_,_)=> [(3,(art (.ref 1)))]
def eC:aW→LT aW
 |(a,b,c,d)=> .ite (eU a b) (.need [eV a,eW a c,eX a c] (.need [eY a c d,eZ a c d] (.ite (fa a c) (.nrm ((dx a),b,c,(fb a c d)) [(0,0),(1,768)]) (.nrm ((dx a),b,c,d) [(0,0),(1,1)])))) (.ext 0 [(0,0),(1,1)])
def mR(s:St):Option aW:=do
 let some ⟨none,.one ⟨false,[.val (.int .i64 a)]⟩⟩:=s.look 18|none
 let some ⟨none,.one ⟨false,[.val (.int .i64 b)]⟩⟩:=s.look 17|none
 let some ⟨none,.one ⟨false,[.ref 192]⟩⟩:=s.look 16|none
 let some ⟨none,.one ⟨false,[.ref 1]⟩⟩:=s.look 3|none
 let some (.row false 64 (.pair (.int .i64) (.pair .str (.int .i64))) c):=s.ent 192|none
 let some (.row true 64 (.pair (.int .i64) (.pair .str (.int .i64))) d):=s.ent 1|none
 some (a,b,c,d)
def ai:Lp aW where
 h:=⟨[19,20,21,7,22,23,24,25,26,27,28,3,29,18],[0],[1],[]⟩
 JL:=DN
 JE:=DL
 XL:=DR
 XE:=fun _=>DL
 q:=fun j=>match j with | _=> .exit 2
 tags:= [0]
 lt:=eC
 fuel:=fun(a,b,c,d)=>a.natAbs + b.natAbs + c.length + d.length
 fix:=fun(_,b,c,_) (a,_,_,d)=>(a,b,c,d)
 σ:= [(0,192),(1,1)]
 rd:=mR
theorem CC:LoopOk prog (memN [12,13,14,5,15,16,17,18,19,20,21,7,22,23,24,25,26,27,28,3,29,30,11]) ai.F (SL (bc f84 0) 0):=by
 refine Lp.ok (tbl:= []) (lf:= []) aZ ai (by kernel_rfl) (LOk.nil _) (fun _=>rfl) (fun _ _=>rfl) ?_ ?_ ?_ ?_ (fun _=>rfl) ?_
 ·intro _;kernel_rfl
 ·intro _;kernel_rfl
 ·intro s x h
  have h:mR s=some x:=h
  unfold mR at h
  repeat' split at h
  all_goals cases h
  constructor<;>repeat(first|refine aa ‹_› rfl ?_|refine ab rfl ‹_› rfl ?_|rfl)
 ·intro _;kernel_rfl
 ·intro _ _;exact(And.intro (And.intro rfl rfl) trivial)
abbrev bd:=Int×Int×List (arp×(List (Int×(arp×Int))))×List (Int×(arp×Int))
section
variable (a b:Int)(c:agS)(d:ajd)
def bN:aje:=(v5 c[k8 a]? (ul aao)).2
def dR:Int×Int×aje×aje:=((0:Int),(↑(k9 (bN a c)):Int),bN a c,d)
def fW:Bool:=ltI a b
def kf:Bool:=leI 0 a
def kg:Bool:=ltI a (↑c.length:Int)
def kh:Bool:=ltN a.toNat c.length
def fX:Bool:=Lp.fin ai (dR a c d)
def oW:Int:=v6 .i64 (a + (1:Int))
def ki:ajd:=(Lp.res ai (dR a c d)).2.2.2.2
end
def Fz:bd→List (Nat×SV)
 |(a,b,_,_)=> [(11,(aru a)),(10,(aru b)),(9,(art (.ref 0))),(3,(art (.ref 1)))]
def Fw:bd→List (Nat×Entry)
 |(_,_,a,b)=> [(0,(arx a)),(1,(arE b))]
def FF:Nat→bd→List (Nat×SV)
 |_,(_,_,_,_)=> [(3,(art (.ref 1)))]
def fP:bd→LT bd
 |(a,b,c,d)=> .ite (fW a b) (.need [kf a,kg a c,kh a c] (.need [fX a c d] (.nrm ((oW a),b,c,(ki a c d)) [(0,0),(1,640)]))) (.ext 0 [(0,0),(1,1)])
def oE(s:St):Option bd:=do
 let some ⟨none,.one ⟨false,[.val (.int .i64 a)]⟩⟩:=s.look 11|none
 let some ⟨none,.one ⟨false,[.val (.int .i64 b)]⟩⟩:=s.look 10|none
 let some ⟨none,.one ⟨false,[.ref 3]⟩⟩:=s.look 9|none
 let some ⟨none,.one ⟨false,[.ref 448]⟩⟩:=s.look 3|none
 let some (.row false 61 (.pair .str (.sl 64 (.pair (.int .i64) (.pair .str (.int .i64))))) c):=s.ent 3|none
 let some (.row true 64 (.pair (.int .i64) (.pair .str (.int .i64))) d):=s.ent 448|none
 some (a,b,c,d)
def aB:Lp bd where
 h:=⟨[12,13,14,5,15,16,17,18,19,20,21,7,22,23,24,25,26,27,28,3,29,30,11],[0],[1],[]⟩
 JL:=Fz
 JE:=Fw
 XL:=FF
 XE:=fun _=>Fw
 q:=fun j=>match j with | _=> .exit 0
 tags:= [0]
 lt:=fP
 fuel:=fun(a,b,c,d)=>a.natAbs + b.natAbs + c.length + d.length
 fix:=fun(_,b,c,_) (a,_,_,d)=>(a,b,c,d)
 σ:= [(0,3),(1,448)]
 rd:=oE
theorem EA:LoopOk prog (fun k=>Nat.blt k Tryz.f84.ntmps) aB.F (bc f84 0):=by
 refine Lp.ok (tbl:= []) (lf:= [ai.F]) aZ aB (by kernel_rfl) (LOk.allT (l:= [SL (bc f84 0) 0]) (by kernel_rfl) (.cons CC (.nil _))) (fun _=>rfl) (fun _ _=>rfl) ?_ ?_ ?_ ?_ (fun _=>rfl) ?_
 ·intro _;kernel_rfl
 ·intro _;kernel_rfl
 ·intro s x h
  have h:oE s=some x:=h
  unfold oE at h
  repeat' split at h
  all_goals cases h
  constructor<;>repeat(first|refine aa ‹_› rfl ?_|refine ab rfl ‹_› rfl ?_|rfl)
 ·intro _;kernel_rfl
 ·intro _ _;exact(And.intro rfl trivial)
section
variable (a:agT)
def qc:Int×Int×agT×aje:=((0:Int),(↑a.length:Int),a,[])
def qA:ajd:=(Lp.res aB (qc a)).2.2.2.2
def qB:Bool:=allT [Lp.fin aB (qc a)]
end
def xX:arq
 | [.one ⟨true,[.val (.string _x0),.ref 0,.ref 1,.ref 2,.val (.string _x1),.ref 3]⟩],[.row false 9 (.str) a,.row false 9 (.str) b,.row false 9 (.str) c,.row false 61 (.pair (.str) (.sl 64 (.pair (.int .i64) (.pair (.str) (.int .i64))))) d]=>some ⟨art (.ref 4),[arv a,arv b,arv c,arz d],[arE (qA d)],[qB d]⟩
 |_,_=>none
def IJ:PF prog:=PF.ofG prog [] [aB.F] aZ 84 f84 func84 (LOk.fnT (l:= [bc f84 0]) (by kernel_rfl) (.cons EA (.nil _))) xX (by
 intro _ _ _ h;unfold xX at h;split at h<;>cases h;kernel_rfl)
section
variable (a:Int)
def bj:Int:=v6 .i64 (a - v6 .i64 ((↑(0:Nat):Int) - (↑(0:Nat):Int)))
def za:Bool:= !ltI 0 (bj a)||leI 0 (↑(0:Nat):Int)
def uW:List arp:=bif ltI 0 (bj a)then List.take (k8 (↑(0:Nat):Int)) (v7 (k8 (bj a)) (ByteArray.mk #[]))else []
def uX:Bool:=allT [!ltI a 0,!ltI 0 (bj a)||leI 0 0,za a,!ltI 0 (bj a)||leI (↑(0:Nat):Int) 0,!ltI 0 (bj a)||leI 1 (bj a),!ltI 0 (bj a)||leI (bj a) 9223372036854775807,!ltI 0 (bj a)||leI (bj a * (↑(16:Nat):Int)) 281474976710656,za a,!ltI 0 (bj a)||leI (↑(0:Nat):Int) (↑(k9 (v7 (k8 (bj a)) (ByteArray.mk #[]))):Int)]
end
def Hn:arq
 | [.one ⟨false,[.val (.slice none 0 0)]⟩,.one ⟨false,[.val (.int .i64 a)]⟩],[]=>some ⟨art (.ref 0),[],[arw (uW a)],[uX a]⟩
 |_,_=>none
def zQ:PF prog:=PF.ofG prog [PF.raw prog] [] aZ 51 f51 func51 (fun c _=>LOk.nil c) Hn (by
 intro _ _ _ h;unfold Hn at h;split at h<;>cases h;kernel_rfl)
abbrev cU:=Int×Int×Int×List (List arp)
section
variable (a b c:Int)(d:akQ)
def gj:Int:=v6 .i64 (c + (↑(k9 (v5 d[k8 a]? (ul (CTy.sl 9 CTy.str)))):Int))
def nt:Bool:=ltI a b
def rF:Bool:=leI 0 a
def rG:Bool:=ltI a (↑d.length:Int)
def rH:Bool:=ltN a.toNat d.length
def rI:Bool:= !ltI (gj a c d) 0
def xB:Int:=v6 .i64 (a + (1:Int))
def rJ:Int:=gj a c d
end
def OT:cU→List (Nat×SV)
 |(a,b,c,_)=> [(11,(aru a)),(10,(aru b)),(9,(art (.ref 0))),(3,(aru c))]
def OR:cU→List (Nat×Entry)
 |(_,_,_,a)=> [(0,(.row false 24 (CTy.sl 9 CTy.str) a))]
def OX:Nat→cU→List (Nat×SV)
 |_,(_,_,a,_)=> [(3,(aru a))]
def my:cU→LT cU
 |(a,b,c,d)=> .ite (nt a b) (.need [rF a,rG a d,rH a d] (.need [rI a c d] (.nrm ((xB a),b,rJ a c d,d) [(0,0)]))) (.ext 0 [(0,0)])
def wR(s:St):Option cU:=do
 let some ⟨none,.one ⟨false,[.val (.int .i64 a)]⟩⟩:=s.look 11|none
 let some ⟨none,.one ⟨false,[.val (.int .i64 b)]⟩⟩:=s.look 10|none
 let some ⟨none,.one ⟨false,[.ref 0]⟩⟩:=s.look 9|none
 let some ⟨none,.one ⟨false,[.val (.int .i64 c)]⟩⟩:=s.look 3|none
 let some (.row false 24 (.sl 9 .str) d):=s.ent 0|none
 some (a,b,c,d)
def bo:Lp cU where
 h:=⟨[12,13,14,5,15,16,17,18,3,19,20,21,22,11],[0],[],[]⟩
 JL:=OT
 JE:=OR
 XL:=OX
 XE:=fun _=>OR
 q:=fun j=>match j with | _=> .exit 0
 tags:= [0]
 lt:=my
 fuel:=fun(a,b,c,d)=>a.natAbs + b.natAbs + c.natAbs + d.length
 fix:=fun(_,b,_,d) (a,_,c,_)=>(a,b,c,d)
 σ:= [(0,0)]
 rd:=wR
theorem Nx:LoopOk prog (fun k=>Nat.blt k Tryz.f32.ntmps) bo.F (bc f32 0):=by
 refine Lp.ok (tbl:= [zQ]) (lf:= []) aZ bo (by kernel_rfl) (LOk.nil _) (fun _=>rfl) (fun _ _=>rfl) ?_ ?_ ?_ ?_ (fun _=>rfl) ?_
 ·intro _;kernel_rfl
 ·intro _;kernel_rfl
 ·intro s x h
  have h:wR s=some x:=h
  unfold wR at h
  repeat' split at h
  all_goals cases h
  constructor<;>repeat(first|refine aa ‹_› rfl ?_|refine ab rfl ‹_› rfl ?_|rfl)
 ·intro _;kernel_rfl
 ·intro _ _;exact(And.intro rfl trivial)
abbrev cV:=Int×Int×List (List arp)×List arp
section
variable (a b:Int)(c:akQ)(d:List arp)
def dB:List arp:=v5 c[k8 a]? (ul (CTy.sl 9 CTy.str))
def nu:Bool:=ltI a b
def rK:Bool:=leI 0 a
def rL:Bool:=ltI a (↑c.length:Int)
def rM:Bool:=ltN a.toNat c.length
def rN:Bool:=leN (k9 d + k9 (dB a c)) 9223372036854775807
def rO:Bool:=leN ((k9 d + k9 (dB a c)) * 16) 140737488355328
def xC:Int:=v6 .i64 (a + (1:Int))
def rP:List arp:=d++dB a c
end
def OU:cV→List (Nat×SV)
 |(a,b,_,_)=> [(27,(aru a)),(26,(aru b)),(25,(art (.ref 0))),(6,(art (.ref 1)))]
def OS:cV→List (Nat×Entry)
 |(_,_,a,b)=> [(0,(.row false 24 (CTy.sl 9 CTy.str) a)),(1,(arw b))]
def OY:Nat→cV→List (Nat×SV)
 |_,(_,_,_,_)=> [(6,(art (.ref 1)))]
def mz:cV→LT cV
 |(a,b,c,d)=> .ite (nu a b) (.need [rK a,rL a c,rM a c] (.need [rN a c d,rO a c d] (.nrm ((xC a),b,c,(rP a c d)) [(0,0),(1,448)]))) (.ext 0 [(0,0),(1,1)])
def wS(s:St):Option cV:=do
 let some ⟨none,.one ⟨false,[.val (.int .i64 a)]⟩⟩:=s.look 27|none
 let some ⟨none,.one ⟨false,[.val (.int .i64 b)]⟩⟩:=s.look 26|none
 let some ⟨none,.one ⟨false,[.ref 0]⟩⟩:=s.look 25|none
 let some ⟨none,.one ⟨false,[.ref 576]⟩⟩:=s.look 6|none
 let some (.row false 24 (.sl 9 .str) c):=s.ent 0|none
 let some (.row true 9 (.str) d):=s.ent 576|none
 some (a,b,c,d)
def bp:Lp cV where
 h:=⟨[28,29,30,8,31,32,33,6,34,27],[0],[1],[]⟩
 JL:=OU
 JE:=OS
 XL:=OY
 XE:=fun _=>OS
 q:=fun j=>match j with | _=> .exit 2
 tags:= [0]
 lt:=mz
 fuel:=fun(a,b,c,d)=>a.natAbs + b.natAbs + c.length + d.length
 fix:=fun(_,b,c,_) (a,_,_,d)=>(a,b,c,d)
 σ:= [(0,0),(1,576)]
 rd:=wS
theorem Ny:LoopOk prog (fun k=>Nat.blt k Tryz.f32.ntmps) bp.F (bc f32 1):=by
 refine Lp.ok (tbl:= [zQ]) (lf:= []) aZ bp (by kernel_rfl) (LOk.nil _) (fun _=>rfl) (fun _ _=>rfl) ?_ ?_ ?_ ?_ (fun _=>rfl) ?_
 ·intro _;kernel_rfl
 ·intro _;kernel_rfl
 ·intro s x h
  have h:wS s=some x:=h
  unfold wS at h
  repeat' split at h
  all_goals cases h
  constructor<;>repeat(first|refine aa ‹_› rfl ?_|refine ab rfl ‹_› rfl ?_|rfl)
 ·intro _;kernel_rfl
 ·intro _ _;exact(And.intro rfl trivial)
section
variable (a:akQ)
def tt:Int×Int×Int×akQ:=((0:Int),(↑a.length:Int),(0:Int),a)
def tu:Int:=((Lp.res bo (tt a)).2.2.2).1
def tv:Int×Int×akQ×List arp:=((0:Int),(↑a.length:Int),a,uW (tu a))
def zS:List arp:=(Lp.res bp (tv a)).2.2.2.2
def zT:Bool:=allT [Lp.fin bo (tt a),uX (tu a),Lp.fin bp (tv a)]
end
def Hm:arq
 | [.one ⟨false,[.ref 0]⟩],[.row false 24 (.sl 9 (.str)) a]=>some ⟨art (.ref 1),[arK a],[arw (zS a)],[zT a]⟩
 |_,_=>none
def RY:PF prog:=PF.ofG prog [zQ] [bo.F,bp.F] aZ 32 f32 func32 (LOk.fnT (l:= [bc f32 0,bc f32 1]) (by kernel_rfl) (.cons Nx (.cons Ny (.nil _)))) Hm (by
 intro _ _ _ h;unfold Hm at h;split at h<;>cases h;kernel_rfl)
def atZ(l:aro)(k:Int):Int:=v5 l[k8 k]? 0
def aod(a b:Int):Int:=bif a==1 then b else 0
def orI(a b:Int):Int:=bif a==1 then 1 else b
theorem YC{l:aro}(h: ∀ z∈l,z=0∨z=1)(k:Int):atZ l k=0∨atZ l k=1:=by
 unfold atZ
 cases hk:l[k.toNat]? with
 |none=>exact .inl rfl
 |some z=>exact h z (List.mem_of_getElem? hk)
theorem akv{n:Int}{l:aro}(h:bitsB n l=true)(k:Nat){z:Int}(hz:z=0∨z=1):bitsB n (l.set k z)=true:=by
 obtain⟨h1,h2⟩:=lc.1 h
 refine lc.2 ⟨fun y hy=> ?_,by rw [List.length_set];exact h2⟩
 rcases List.mem_or_eq_of_mem_set hy with hy | rfl
 ·exact h1 y hy
 ·exact hz
theorem ap2{k n a b c:Int}{s:arp}{l:aro}(hB:WH k s n=true)(hP:possB k n a b c=true)(hA:bitsB (takesK k) l=true):lb k n a b c l=0∨lb k n a b c l=1:=by
 obtain⟨hk,hn,_⟩:=YE hB
 have hb:=(abO hP hn).2.1
 have hc:=(abO hP hn).2.2
 have hp:=hP
 rcases kinds hk with rfl | rfl | rfl | rfl | rfl | rfl
 ·obtain⟨x,rfl,hx⟩:=Xy hA
  rcases hx with rfl | rfl <;> simp only [cA,jH,lM,gp,lN,lO,lP,lQ,kS,lb,ma,mb,mc,pH,iW,jG,kR,lK,lL,pD,pE,pF,pG,kK] <;> simp [Bool.cond_eq_ite] <;> (repeat' split) <;> omega
 ·obtain⟨x,rfl,hx⟩:=Xy hA
  rcases hx with rfl | rfl <;> simp only [cA,jH,lM,gp,lN,lO,lP,lQ,kS,lb,ma,mb,mc,pH,iW,jG,kR,lK,lL,pD,pE,pF,pG,kK] <;> simp [Bool.cond_eq_ite] <;> (repeat' split) <;> omega
 ·obtain⟨x,rfl,hx⟩:=Xy hA
  simp [possB,ei,cd]at hp
  rcases hx with rfl | rfl <;> simp only [cA,jH,lM,gp,lN,lO,lP,lQ,kS,lb,ma,mb,mc,pH,iW,jG,kR,lK,lL,pD,pE,pF,pG,kK] <;> simp [Bool.cond_eq_ite] <;> (repeat' split) <;> omega
 ·obtain⟨x,y,rfl,hx,hy⟩:=Xz hA
  simp [possB,ei,cd]at hp
  rcases hx with rfl | rfl <;> rcases hy with rfl | rfl <;> simp only [cA,jH,lM,gp,lN,lO,lP,lQ,kS,lb,ma,mb,mc,pH,iW,jG,kR,lK,lL,pD,pE,pF,pG,kK] <;> simp [Bool.cond_eq_ite] <;> (repeat' split) <;> omega
 ·obtain⟨x,y,rfl,hx,hy⟩:=Xz hA
  rcases hb with rfl | rfl <;> rcases hc with rfl | rfl <;> rcases hx with rfl | rfl <;> rcases hy with rfl | rfl <;> simp only [cA,jH,lM,gp,lN,lO,lP,lQ,kS,lb,ma,mb,mc,pH,iW,jG,kR,lK,lL,pD,pE,pF,pG,kK] <;> simp [Bool.cond_eq_ite] <;> (repeat' split) <;> omega
 ·obtain⟨x,y,rfl,hx,hy⟩:=Xz hA
  rcases hb with rfl | rfl <;> rcases hc with rfl | rfl <;> rcases hx with rfl | rfl <;> rcases hy with rfl | rfl <;> simp only [cA,jH,lM,gp,lN,lO,lP,lQ,kS,lb,ma,mb,mc,pH,iW,jG,kR,lK,lL,pD,pE,pF,pG,kK] <;> simp [Bool.cond_eq_ite] <;> (repeat' split) <;> omega
abbrev LN:=arp×List TM
def hasS(l:List arp)(s:arp):Bool:=l.any fun k=>k.toList==s.toList
def SR(l:List arp)(s:arp):Nat:=(l.takeWhile fun k=> !(k.toList==s.toList)).length
def gh(l:List arp)(s:arp):Int:=bif hasS l s then(SR l s:Int)else -1
theorem afb{s:arp}: ∀ {l:List arp},hasS l s=true→SR l s < l.length
 | [],h=>by cases h
 |a::r,h=>by
  simp only [hasS,List.any_cons]at h
  simp only [SR,List.takeWhile_cons]
  cases ha:a.toList==s.toList with
  |true=>simp
  |false=>
   rw [ha,Bool.false_or]at h
   have:=afb (l:=r) h
   simp only [SR]at this
   simp only [Bool.not_false,if_true,j7]
   omega
theorem Hq(a b:List arp)(s:arp):hasS (a++b) s=(hasS a s||hasS b s):=List.any_append
theorem IG{l:List arp}{s:arp}:hasS l s=true↔s.toList∈l.map ByteArray.toList:=by
 simp only [hasS,List.any_eq_true,beq_iff_eq,List.mem_map]
def htT:List TM→Int→Option Int
 | [],n=>some n
 |t::r,n=>bif termB t.1 t.2.1 t.2.2&&leI (takesK t.1) n then htT r (n - takesK t.1 + 1)else none
def ac8(ts:List TM):Bool:=leN ts.length 40&&(match htT ts 0 with | some n=>n==1 | none=>false)
def lineB(x:LN):Bool:=jP x.1&&ac8 x.2
def Xa(l:List arp)(lo:Nat):Bool:=l.all jP&&inR (l.length:Int) lo 20
def abW(nm:arp)(ins vs os:List arp)(g:arp)(ls:List LN):Bool:=jP nm&&(Xa ins 1&&(Xa vs 0&&(Xa os 1&&((g.toList== []||jP g)&&(ls.all lineB&&inR (ls.length:Int) 1 40)))))
def oH(l:List arp):Bool:=(List.range l.length).any fun i=>hasS (l.take i) (v5 l[i]? ⟨#[]⟩)
def PN(ins vs:List arp)(s:arp):Bool:=hasS ins s||hasS vs s
def usedB(ins vs:List arp)(t:TM):Bool:= !(t.1==1)||PN ins vs t.2.1
def aix(ins vs os:List arp)(g:arp)(ls:List LN):Bool:= !oH (ins++vs++os)&&((g.toList== []||PN ins vs g)&&(ls.all (fun l=>hasS vs l.1||hasS os l.1)&&(!oH (ls.map Prod.fst)&&(leN (vs.length + os.length) ls.length&&ls.all fun l=>l.2.all (usedB ins vs)))))
theorem ajB{l:List arp}:oH l=false↔(l.map ByteArray.toList).Nodup:=by
 rw [List.nodup_iff_pairwise_ne,List.pairwise_iff_getElem]
 simp only [oH,List.any_eq_false,List.mem_range,Bool.not_eq_true,List.length_map,List.getElem_map]
 constructor
 ·intro h i j hi hj XC he
  have h1:=h j hj
  rw [← Bool.not_eq_true,IG]at h1
  apply h1
  rw [List.getElem?_eq_getElem hj,Option.getD_some,← he]
  refine List.mem_map.2 ⟨l[i],?_,rfl⟩
  rw [List.mem_take_iff_getElem]
  exact⟨i,by omega,rfl⟩
 ·intro h j hj
  rw [← Bool.not_eq_true,IG,List.mem_map]
  rintro⟨x,hx,he⟩
  rw [List.mem_take_iff_getElem]at hx
  obtain⟨i,hi,rfl⟩:=hx
  rw [List.getElem?_eq_getElem hj,Option.getD_some]at he
  exact h i j (by omega) hj (by omega) he
theorem amm{α:Type}[DecidableEq α]: ∀ (a b:List α),a.Nodup→(∀ x∈a,x∈b)→a.length≤b.length
 | [],b,_,_=>Nat.zero_le _
 |x::r,b,hn,hs=>by
  obtain⟨h1,h2⟩:=List.nodup_cons.1 hn
  have hx:=hs x (by simp)
  have:=amm r (b.erase x) h2 (fun y hy=>(List.mem_erase_of_ne (fun h:y=x=>h1 (by rw [← h];exact hy))).2 (hs y (by simp [hy])))
  rw [List.length_erase_of_mem hx]at this
  have h0:=List.length_pos_of_mem hx
  simp only [j7]
  omega
theorem aqu{α:Type}[DecidableEq α]{a b:List α}(ha:a.Nodup)(hb:b.Nodup)(hs: ∀ x∈a,x∈b):(∀ y∈b,y∈a)↔b.length≤a.length:=by
 constructor
 ·intro h;exact amm b a hb h
 ·intro h y hy
  refine Decidable.byContradiction fun hn=> ?_
  have:=amm (y::a) b (List.nodup_cons.2 ⟨hn,ha⟩) (fun z hz=>(List.mem_cons.1 hz).elim (fun h=>h ▸ hy) (fun h=>hs z h))
  rw [j7]at this
  omega
theorem aoU{ins vs os:List arp}{ls:List LN}(h1:oH (ins++vs++os)=false)(h3:ls.all (fun l=>hasS vs l.1||hasS os l.1)=true)(h4:oH (ls.map Prod.fst)=false):
  ((vs++os).any fun s=> !hasS (ls.map Prod.fst) s)= !leN (vs.length + os.length) ls.length:=by
 have n1:((vs++os).map ByteArray.toList).Nodup:=by
  have:=ajB.1 h1
  rw [List.append_assoc,List.map_append]at this
  exact(List.nodup_append.1 this).2.1
 have n4:=ajB.1 h4
 have hs: ∀ x∈(ls.map Prod.fst).map ByteArray.toList,x∈(vs++os).map ByteArray.toList:=by
  intro x hx
  simp only [List.mem_map]at hx
  obtain⟨y,⟨l,hl,rfl⟩,rfl⟩:=hx
  have:=List.all_eq_true.1 h3 l hl
  rw [← Hq]at this
  exact IG.1 this
 have qa:=aqu n4 n1 hs
 rw [Bool.eq_iff_iff,Bool.not_eq_true',← Bool.not_eq_true,iC]
 simp only [List.length_map,z9]at qa
 rw [← qa]
 simp only [List.any_eq_true,Bool.not_eq_true']
 constructor
 ·rintro⟨s,hs1,hs2⟩ h
  have:=h _ (List.mem_map.2 ⟨s,hs1,rfl⟩)
  have h2:hasS (ls.map Prod.fst) s=true:=IG.2 this
  rw [h2]at hs2;cases hs2
 ·intro h
  refine Classical.byContradiction fun hn=>h fun y hy=> ?_
  obtain⟨s,hs1,rfl⟩:=List.mem_map.1 hy
  refine Classical.byContradiction fun hn2=>hn ⟨s,hs1,?_⟩
  cases hh:hasS (ls.map Prod.fst) s with
  |false=>rfl
  |true=>exact absurd (IG.1 hh) hn2
def nmV(ins vs:List arp)(inp xs:aro)(s:arp):Int:=bif hasS ins s then atZ inp (SR ins s)else atZ xs (SR vs s)
def tmV(ins vs:List arp)(inp xs:aro)(t:TM)(ar:aro)(b:BS3):Int:=bif t.1==1 then nmV ins vs inp xs t.2.1 else bif t.1==2 then 1 else bif t.1==3 then 0 else bif t.1==4 then 1 - atZ ar 0 else bif t.1==5 then aod (atZ ar 0) (atZ ar 1)else bif t.1==6 then orI (atZ ar 0) (atZ ar 1)else aqD t.1 t.2.2 ar b
def ltk(t:TM)(stk:aro):Nat:=stk.length - (takesK t.1).toNat
abbrev LS:=List Int×List BS3×Nat
def lnS(ins vs:List arp)(inp xs:aro)(t:TM)(a:LS):LS:=(a.1.take (ltk t a.1)++ [tmV ins vs inp xs t (a.1.drop (ltk t a.1)) (stAt a.2.1 a.2.2)],bif leI 7 t.1 then a.2.1.set a.2.2 (adj t.1 t.2.2 (a.1.drop (ltk t a.1)) (stAt a.2.1 a.2.2))else a.2.1,bif leI 7 t.1 then a.2.2 + 1 else a.2.2)
def aeT(ins vs:List arp)(inp xs:aro):List TM→LS→LS
 | [],a=>a
 |t::r,a=>aeT ins vs inp xs r (lnS ins vs inp xs t a)
theorem Rn(k:Int):0≤takesK k∧takesK k≤2:=by
 simp only [takesK,lJ]
 refine⟨?_,?_⟩ <;> simp only [Bool.cond_eq_ite] <;> (repeat' split) <;> decide
structure LnOk (bl:List TM) (n:Int) (k:Nat) (a:LS):Prop where
 hb: ∀ z∈a.1,z=0∨z=1
 hl:(a.1.length:Int)=n
 sl:a.2.1.length=bl.length
 sp: ∀ j,j < bl.length→possAt bl a.2.1 j=true
 hk:a.2.2=k
theorem aoW{ins vs:List arp}{inp xs:aro}(hi:bitsB ins.length inp=true)(hx:bitsB vs.length xs=true)(s:arp):nmV ins vs inp xs s=0∨nmV ins vs inp xs s=1:=by
 simp only [nmV]
 cases hasS ins s with
 |true=>exact YC (lc.1 hi).1 _
 |false=>exact YC (lc.1 hx).1 _
theorem aoe{a b:Int}(hb:b=0∨b=1):aod a b=0∨aod a b=1:=by simp only [aod];cases a==1 <;> simp [hb]
theorem apK{a b:Int}(hb:b=0∨b=1):orI a b=0∨orI a b=1:=by simp only [orI];cases a==1 <;> simp [hb]
theorem aoZ{a:Int}(ha:a=0∨a=1):1 - a=0∨1 - a=1:=by rcases ha with rfl | rfl <;> simp
theorem ai8{t:TM}{stk:aro}(hb: ∀ z∈stk,z=0∨z=1)(ht:takesK t.1≤stk.length):bitsB (takesK t.1) (stk.drop (ltk t stk))=true:=by
 have h0:=(Rn t.1).1
 refine lc.2 ⟨fun z hz=>hb z (List.mem_of_mem_drop hz),?_⟩
 simp only [ltk,List.length_drop]
 omega
theorem Zd{t:TM}(hT:termB t.1 t.2.1 t.2.2=true)(h7:leI 7 t.1=true):WH t.1 t.2.1 t.2.2=true:=by simp only [WH,hT,h7];rfl
theorem ajz{t:TM}(hT:termB t.1 t.2.1 t.2.2=true):1≤t.1∧t.1≤12:=by
 simp only [termB,q9,Es]at hT;exact hT.1
theorem aqQ{ins vs:List arp}{inp xs:aro}{bl:List TM}{n:Int}{k:Nat}{a:LS}{t:TM}(hi:bitsB ins.length inp=true)(hx:bitsB vs.length xs=true)
  (hT:termB t.1 t.2.1 t.2.2=true) (ht:takesK t.1≤n) (hblk:leI 7 t.1=true→k < bl.length∧Qt bl k=t) (h:LnOk bl n k a):
  (tmV ins vs inp xs t (a.1.drop (ltk t a.1)) (stAt a.2.1 a.2.2)=0∨tmV ins vs inp xs t (a.1.drop (ltk t a.1)) (stAt a.2.1 a.2.2)=1)∧
  LnOk bl (n - takesK t.1 + 1) (bif leI 7 t.1 then k + 1 else k) (lnS ins vs inp xs t a):=by
 have hl:=h.hl
 have hdb:=ai8 (t:=t) h.hb (by omega)
 have hd:=(lc.1 hdb).1
 have d0:=YC hd 0
 have d1:=YC hd 1
 have h0:=Rn t.1
 have hv:leI 7 t.1=true→(tmV ins vs inp xs t (a.1.drop (ltk t a.1)) (stAt a.2.1 a.2.2)=aqD t.1 t.2.2 (a.1.drop (ltk t a.1)) (stAt a.2.1 a.2.2)):=by
  intro h7
  have h7:=FN.1 h7
  simp only [tmV]
  rw [show (t.1==1)=false by simp;omega,show (t.1==2)=false by simp;omega,show (t.1==3)=false by simp;omega,show (t.1==4)=false by simp;omega,show (t.1==5)=false by simp;omega,show (t.1==6)=false by simp;omega]
  rfl
 have hvb:tmV ins vs inp xs t (a.1.drop (ltk t a.1)) (stAt a.2.1 a.2.2)=0∨tmV ins vs inp xs t (a.1.drop (ltk t a.1)) (stAt a.2.1 a.2.2)=1:=by
  cases h7:leI 7 t.1 with
  |true=>
   obtain⟨hk,hbt⟩:=hblk h7
   rw [hv h7]
   have hp:=h.sp k hk
   simp only [possAt,hbt]at hp
   rw [h.hk]
   exact ap2 (Zd hT h7) hp hdb
  |false=>
   have hkk:=ajz hT
   have h7': ¬ (7≤t.1):=fun hc=>by rw [cG hc]at h7;cases h7
   have hc:t.1=1∨t.1=2∨t.1=3∨t.1=4∨t.1=5∨t.1=6:=by omega
   rcases hc with e | e | e | e | e | e <;> simp only [tmV,e] <;> simp
   ·exact aoW hi hx _
   ·exact aoZ d0
   ·exact aoe d1
   ·exact apK d1
 refine⟨hvb,⟨?_,?_,?_,?_,?_⟩⟩
 ·intro z hz
  simp only [lnS,List.mem_append,v8]at hz
  rcases hz with hz | rfl
  ·exact h.hb z (List.mem_of_mem_take hz)
  ·exact hvb
 ·simp only [lnS,z9,j6,List.length_singleton,ltk]
  omega
 ·simp only [lnS]
  cases leI 7 t.1 with
  |true=>simp only [cond_true,List.length_set];exact h.sl
  |false=>exact h.sl
 ·intro j hj
  simp only [lnS]
  cases h7:leI 7 t.1 with
  |false=>exact h.sp j hj
  |true=>
   obtain⟨hk,hbt⟩:=hblk h7
   simp only [cond_true]
   rw [h.hk]
   by_cases hjk:j=k
   ·subst hjk
    have hp:=h.sp j hj
    simp only [possAt,hbt]at hp ⊢
    have hs:stAt (a.2.1.set j (adj t.1 t.2.2 (a.1.drop (ltk t a.1)) (stAt a.2.1 j))) j=adj t.1 t.2.2 (a.1.drop (ltk t a.1)) (stAt a.2.1 j):=by
     simp only [stAt]
     rw [List.getElem?_set_self (by rw [h.sl];exact hj)];rfl
    rw [hs]
    exact(aoX (Zd hT h7) hp hdb).2
   ·have hs:stAt (a.2.1.set k (adj t.1 t.2.2 (a.1.drop (ltk t a.1)) (stAt a.2.1 k))) j=stAt a.2.1 j:=by
     simp only [stAt]
     rw [List.getElem?_set_ne (fun h=>hjk h.symm)]
    simp only [possAt,hs]
    exact h.sp j hj
 ·simp only [lnS]
  rw [h.hk]
def blT(ts:List TM):List TM:=ts.filter fun t=>leI 7 t.1
def blL(ls:List LN):List TM:=ls.flatMap fun l=>blT l.2
theorem ad0: ∀ (l1 l2:List TM) (n:Int),htT (l1++l2) n=match htT l1 n with | some m=>htT l2 m | none=>none
 | [],l2,n=>rfl
 |t::r,l2,n=>by
  simp only [List.cons_append,htT]
  cases (termB t.1 t.2.1 t.2.2&&leI (takesK t.1) n)with
  |false=>rfl
  |true=>simp only [cond_true];exact ad0 r l2 _
theorem am1: ∀ (l:List TM) (n m:Int),0≤n→htT l n=some m→0≤m∧m≤n + l.length
 | [],n,m,hn,h=>by simp only [htT,Option.some.injEq]at h;simp;omega
 |t::r,n,m,hn,h=>by
  simp only [htT]at h
  have hg:=Rn t.1
  cases hc:(termB t.1 t.2.1 t.2.2&&leI (takesK t.1) n)with
  |false=>rw [hc]at h;cases h
  |true=>
   rw [hc,cond_true]at h
   simp only [q9,FN]at hc
   have:=am1 r _ m (by omega) h
   simp only [j7]
   omega
theorem aqp{ts:List TM}{e:Int}(jJ:htT ts 0=some e){i:Nat}{t:TM}(ht:ts[i]? =some t):
  ∃ n,htT (ts.take i) 0=some n∧(0≤n∧n≤i)∧termB t.1 t.2.1 t.2.2=true∧takesK t.1≤n∧htT (ts.take (i + 1)) 0=some (n - takesK t.1 + 1):=by
 obtain⟨hi,rfl⟩:=k7.1 ht
 have hs:ts=ts.take i++ts[i]::ts.drop (i + 1):=by rw [List.getElem_cons_drop,List.take_append_drop]
 have h1:=ad0 (ts.take i) (ts[i]::ts.drop (i + 1)) 0
 rw [← hs,jJ]at h1
 cases hp:htT (ts.take i) 0 with
 |none=>rw [hp]at h1;cases h1
 |some n=>
  rw [hp]at h1
  simp only [htT]at h1
  cases hc:(termB ts[i].1 ts[i].2.1 ts[i].2.2&&leI (takesK ts[i].1) n)with
  |false=>rw [hc]at h1;cases h1
  |true=>
   have h2:=ad0 (ts.take i) [ts[i]] 0
   rw [hp]at h2
   simp only [htT,hc,cond_true]at h2
   simp only [q9,FN]at hc
   have hb:=am1 _ _ _ (Int.le_refl 0) hp
   rw [j6]at hb
   exact⟨n,rfl,by omega,hc.1,hc.2,by rw [← h2,List.take_succ_eq_append_getElem hi]⟩
theorem agu{ins vs:List arp}{inp xs:aro}: ∀ (l1 l2:List TM) (a:LS),aeT ins vs inp xs (l1++l2) a=aeT ins vs inp xs l2 (aeT ins vs inp xs l1 a)
 | [],l2,a=>rfl
 |t::r,l2,a=>agu r l2 _
theorem YD(a b:List TM):blT (a++b)=blT a++blT b:=List.filter_append ..
theorem ahB(a b:List LN):blL (a++b)=blL a++blL b:=List.flatMap_append
theorem alR{pre post ts:List TM}{i:Nat}{t:TM}(ht:ts[i]? =some t)(h7:leI 7 t.1=true):
  pre.length + (blT (ts.take i)).length < (pre++blT ts++post).length∧Qt (pre++blT ts++post) (pre.length + (blT (ts.take i)).length)=t∧(blT (ts.take (i + 1))).length=(blT (ts.take i)).length + 1:=by
 obtain⟨hi,rfl⟩:=k7.1 ht
 have hs:ts=ts.take i++ts[i]::ts.drop (i + 1):=by rw [List.getElem_cons_drop,List.take_append_drop]
 have hb:blT ts=blT (ts.take i)++ts[i]::blT (ts.drop (i + 1)):=by
  conv=>lhs;rw [hs,YD]
  congr 1
  simp only [blT,List.filter_cons,h7,if_true]
 have hb2:blT (ts.take (i + 1))=blT (ts.take i)++ [ts[i]]:=by
  rw [List.take_succ_eq_append_getElem hi,YD]
  congr 1
  simp only [blT,List.filter_cons,h7,if_true,List.filter_nil]
 refine⟨?_,?_,by rw [hb2];simp⟩
 ·rw [hb];simp
 ·simp only [Qt]
  rw [List.append_assoc,List.getElem?_append_right (by omega),Nat.add_sub_cancel_left,hb,List.append_assoc,List.getElem?_append_right (by omega),Nat.sub_self]
  rfl
theorem apt{ts:List TM}{i:Nat}{t:TM}(ht:ts[i]? =some t)(h7:leI 7 t.1=false):(blT (ts.take (i + 1))).length=(blT (ts.take i)).length:=by
 obtain⟨hi,rfl⟩:=k7.1 ht
 rw [List.take_succ_eq_append_getElem hi,YD]
 simp [blT,List.filter_cons,h7]
def ajE(pre post ts:List TM)(i:Nat)(a:LS):Prop:= ∃ n,htT (ts.take i) 0=some n∧LnOk (pre++blT ts++post) n (pre.length + (blT (ts.take i)).length) a
theorem aji{ins vs:List arp}{inp xs:aro}{pre post ts:List TM}{e:Int}{i:Nat}{a:LS}{t:TM}(hi:bitsB ins.length inp=true)(hx:bitsB vs.length xs=true)
  (jJ:htT ts 0=some e) (ht:ts[i]? =some t) (h:ajE pre post ts i a):
  (0≤takesK t.1∧takesK t.1≤a.1.length)∧a.1.length≤i∧termB t.1 t.2.1 t.2.2=true∧bitsB (takesK t.1) (a.1.drop (ltk t a.1))=true∧a.2.1.length=(pre++blT ts++post).length∧
  (leI 7 t.1=true→a.2.2 < (pre++blT ts++post).length∧possB t.1 t.2.2 (stAt a.2.1 a.2.2).1 (stAt a.2.1 a.2.2).2.1 (stAt a.2.1 a.2.2).2.2=true)∧
  a.2.2≤(pre++blT ts++post).length∧(∀ z∈a.1,z=0∨z=1)∧
  ajE pre post ts (i + 1) (lnS ins vs inp xs t a):=by
 obtain⟨n,h1,h2⟩:=h
 obtain⟨n',g1,g2,g3,g4,g5⟩:=aqp jJ ht
 rw [h1]at g1;cases g1
 have hl:=h2.hl
 have h0:=Rn t.1
 have hblk:leI 7 t.1=true→pre.length + (blT (ts.take i)).length < (pre++blT ts++post).length∧Qt (pre++blT ts++post) (pre.length + (blT (ts.take i)).length)=t:=
  fun h7=>⟨(alR ht h7).1,(alR ht h7).2.1⟩
 obtain⟨_,k2⟩:=aqQ (ins:=ins) (vs:=vs) hi hx g3 g4 hblk h2
 have hkle:a.2.2≤(pre++blT ts++post).length:=by
  rw [h2.hk]
  have:(blT (ts.take i)).length≤(blT ts).length:=by
   conv=>rhs;rw [← List.take_append_drop i ts,YD]
   simp
  simp;omega
 refine⟨by omega,by omega,g3,ai8 h2.hb (by omega),h2.sl,fun h7=> ?_,hkle,h2.hb,⟨_,g5,?_⟩⟩
 ·obtain⟨q1,q2⟩:=hblk h7
  rw [h2.hk]
  have:=h2.sp _ q1
  simp only [possAt,q2]at this
  exact⟨q1,this⟩
 ·have:(bif leI 7 t.1 then pre.length + (blT (ts.take i)).length + 1 else pre.length + (blT (ts.take i)).length)=pre.length + (blT (ts.take (i + 1))).length:=by
   cases h7:leI 7 t.1 with
   |true=>rw [(alR (pre:=pre) (post:=post) ht h7).2.2];rfl
   |false=>rw [apt ht h7];rfl
  rw [← this];exact k2
theorem am7{ins vs:List arp}{inp xs:aro}{pre post ts:List TM}{e:Int}{a:LS}(hi:bitsB ins.length inp=true)(hx:bitsB vs.length xs=true)(jJ:htT ts 0=some e)(h:ajE pre post ts 0 a):
  ∀ i,i≤ts.length→ajE pre post ts i (aeT ins vs inp xs (ts.take i) a)
 |0,_=>h
 |i + 1,iX=>by
  have h1:=am7 hi hx jJ h i (by omega)
  rw [List.take_succ_eq_append_getElem (by omega),agu]
  exact(aji hi hx jJ (List.getElem?_eq_getElem (by omega)) h1).2.2.2.2.2.2.2.2
theorem Yd{v:Int}{bs:List TM}{xs:aro}{ss:List BS3}:Kz v bs xs ss=true↔ss.length=bs.length∧bitsB v xs=true∧ ∀ k,k < bs.length→possAt bs ss k=true:=by
 simp only [Kz,q9,beq_iff_eq,List.all_eq_true,List.mem_range]
 constructor
 ·rintro⟨h1,h2,h3⟩;exact⟨by omega,h2,h3⟩
 ·rintro⟨h1,h2,h3⟩;exact⟨by omega,h2,h3⟩
abbrev SS4:=List Int×List Int×List BS3×Nat
def lnV(ins vs:List arp)(inp:aro)(l:LN)(a:SS4):LS:=aeT ins vs inp a.1 l.2 ([],a.2.2.1,a.2.2.2)
def scS(ins vs os:List arp)(inp:aro)(l:LN)(a:SS4):SS4:=(bif hasS vs l.1 then a.1.set (SR vs l.1) (atZ (lnV ins vs inp l a).1 0)else a.1,bif hasS vs l.1 then a.2.1 else a.2.1.set (SR os l.1) (atZ (lnV ins vs inp l a).1 0),(lnV ins vs inp l a).2.1,(lnV ins vs inp l a).2.2)
def aiW(ins vs os:List arp)(inp:aro):List LN→SS4→SS4
 | [],a=>a
 |l::r,a=>aiW ins vs os inp r (scS ins vs os inp l a)
theorem agG{ins vs os:List arp}{inp:aro}: ∀ (l1 l2:List LN) (a:SS4),aiW ins vs os inp (l1++l2) a=aiW ins vs os inp l2 (aiW ins vs os inp l1 a)
 | [],l2,a=>rfl
 |t::r,l2,a=>agG r l2 _
structure ScAt (vs os:List arp) (ls:List LN) (i:Nat) (a:SS4):Prop where
 hx:bitsB vs.length a.1=true
 ho:bitsB os.length a.2.1=true
 sl:a.2.2.1.length=(blL ls).length
 sp: ∀ j,j < (blL ls).length→possAt (blL ls) a.2.2.1 j=true
 hk:a.2.2.2=(blL (ls.take i)).length
theorem aiv{ls:List LN}{i:Nat}{l:LN}(hl:ls[i]? =some l):blL ls=blL (ls.take i)++blT l.2++blL (ls.drop (i + 1))∧(blL (ls.take (i + 1))).length=(blL (ls.take i)).length + (blT l.2).length:=by
 obtain⟨hi,rfl⟩:=k7.1 hl
 have hs:ls=ls.take i++ls[i]::ls.drop (i + 1):=by rw [List.getElem_cons_drop,List.take_append_drop]
 refine⟨?_,?_⟩
 ·conv=>lhs;rw [hs,ahB]
  rw [List.append_assoc]
  rfl
 ·rw [List.take_succ_eq_append_getElem hi,ahB]
  simp [blL]
theorem VV{x:LN}(h:lineB x=true):jP x.1=true∧x.2.length≤40∧htT x.2 0=some 1:=by
 simp only [lineB,ac8,q9,iC]at h
 obtain⟨h1,h2,h3⟩:=h
 refine⟨h1,h2,?_⟩
 split at h3
 ·rename_i n hn;rw [hn];congr 1;exact eq_of_beq h3
 ·cases h3
theorem ajw{vs os:List arp}{ls:List LN}{i:Nat}{a:SS4}{l:LN}(hl:ls[i]? =some l)(h:ScAt vs os ls i a):
  ajE (blL (ls.take i)) (blL (ls.drop (i + 1))) l.2 0 ([],a.2.2.1,a.2.2.2):=by
 have hs:=(aiv hl).1
 refine⟨0,by simp [htT],⟨fun z hz=>(List.not_mem_nil hz).elim,rfl,?_,?_,?_⟩⟩
 ·rw [← hs];exact h.sl
 ·rw [← hs];exact h.sp
 ·simp [blT,h.hk]
theorem af6{ins vs os:List arp}{inp:aro}{ls:List LN}{i:Nat}{a:SS4}{l:LN}(hi:bitsB ins.length inp=true)(hL:lineB l=true)(hl:ls[i]? =some l)
  (h:ScAt vs os ls i a):(lnV ins vs inp l a).1.length=1∧(atZ (lnV ins vs inp l a).1 0=0∨atZ (lnV ins vs inp l a).1 0=1)∧ScAt vs os ls (i + 1) (scS ins vs os inp l a):=by
 obtain⟨hn,nN,hht⟩:=VV hL
 obtain⟨hs,hs2⟩:=aiv hl
 have h0:=am7 (ins:=ins) (vs:=vs) hi h.hx hht (ajw hl h) l.2.length (Nat.le_refl _)
 rw [List.take_length]at h0
 obtain⟨n,g1,g2⟩:=h0
 rw [List.take_length,hht]at g1;cases g1
 have hlen1:(lnV ins vs inp l a).1.length=1:=by have:=g2.hl;simp only [lnV];omega
 have hbit:atZ (lnV ins vs inp l a).1 0=0∨atZ (lnV ins vs inp l a).1 0=1:=YC g2.hb 0
 refine⟨hlen1,hbit,⟨?_,?_,?_,?_,?_⟩⟩
 ·simp only [scS]
  cases hasS vs l.1 with
  |true=>exact akv h.hx _ hbit
  |false=>exact h.hx
 ·simp only [scS]
  cases hasS vs l.1 with
  |true=>exact h.ho
  |false=>exact akv h.ho _ hbit
 ·simp only [scS,lnV];rw [hs];exact g2.sl
 ·simp only [scS,lnV];rw [hs];exact g2.sp
 ·simp only [scS,lnV]
  rw [g2.hk,hs2,List.take_length]
theorem ank{ins vs os:List arp}{inp:aro}{ls:List LN}{a:SS4}(hi:bitsB ins.length inp=true)(hL:ls.all lineB=true)(h:ScAt vs os ls 0 a):
  ∀ i,i≤ls.length→ScAt vs os ls i (aiW ins vs os inp (ls.take i) a)
 |0,_=>h
 |i + 1,iX=>by
  have h1:=ank hi hL h i (by omega)
  rw [List.take_succ_eq_append_getElem (by omega),agG]
  exact(af6 hi (List.all_eq_true.1 hL _ (List.getElem_mem (by omega))) (List.getElem?_eq_getElem (by omega)) h1).2.2
def scE(ins vs os:List arp)(ls:List LN)(inp xs:aro)(ss:List BS3):SS4:=aiW ins vs os inp ls (xs,v7 os.length 0,ss,0)
def scO(ins vs os:List arp)(g:arp)(ls:List LN)(inp xs:aro)(ss:List BS3):aro:=bif !(g.toList== [])&&nmV ins vs inp (scE ins vs os ls inp xs ss).1 g==0 then v7 os.length 0 else(scE ins vs os ls inp xs ss).2.1
def scV(ins vs os:List arp)(ls:List LN)(inp xs:aro)(ss:List BS3):aro:=(scE ins vs os ls inp xs ss).1
def scB(ins vs os:List arp)(ls:List LN)(inp xs:aro)(ss:List BS3):List BS3:=(scE ins vs os ls inp xs ss).2.2.1
theorem apc{ins vs os:List arp}{inp xs:aro}{ss:List BS3}{ls:List LN}(hi:bitsB ins.length inp=true)(hL:ls.all lineB=true)(hs:Kz vs.length (blL ls) xs ss=true):
  ScAt vs os ls ls.length (scE ins vs os ls inp xs ss):=by
 obtain⟨h1,h2,h3⟩:=Yd.1 hs
 have h0:ScAt vs os ls 0 (xs,v7 os.length 0,ss,0):=⟨h2,lc.2 ⟨fun z hz=> .inl (List.eq_of_mem_replicate hz),by simp⟩,h1,h3,by simp [blL]⟩
 have:=ank hi hL h0 ls.length (Nat.le_refl _)
 rw [List.take_length]at this
 exact this
theorem apU{ins vs os:List arp}{g:arp}{inp xs:aro}{ss:List BS3}{ls:List LN}(hi:bitsB ins.length inp=true)(hL:ls.all lineB=true)(hs:Kz vs.length (blL ls) xs ss=true):
  Kz vs.length (blL ls) (scV ins vs os ls inp xs ss) (scB ins vs os ls inp xs ss)=true∧bitsB os.length (scO ins vs os g ls inp xs ss)=true:=by
 have h:=apc (os:=os) hi hL hs
 refine⟨Yd.2 ⟨h.sl,h.hx,h.sp⟩,?_⟩
 simp only [scO]
 cases (!(g.toList== [])&&nmV ins vs inp (scE ins vs os ls inp xs ss).1 g==0)with
 |true=>exact lc.2 ⟨fun z hz=> .inl (List.eq_of_mem_replicate hz),by simp⟩
 |false=>exact h.ho
theorem WC{A B:Type}{f g:B→A→Nat ⊕ A}{e:Nat}: ∀ {l:List B} {i:Nat} {a:A},(∀ b∈l,∀ a,f b a=g b a)→bH f e l i a=bH g e l i a
 | [],_,_,_=>rfl
 |b::r,i,a,h=>by
  simp only [bH,h b (by simp) a]
  cases g b a with
  |inl j=>rfl
  |inr a'=>exact WC fun x hx=>h x (by simp [hx])
def Cc(a b:arp):(Unit)→Nat ⊕ (Unit)
 |_=>(bif(ByteArray.toList (b)==ByteArray.toList a)then(.inl 0)else(.inr ()))
def rj(a:arp)(b:List arp)(i:Nat):(Unit)→nK
 |_=>((i:Int),a,b)
def MT:nK→Unit
 |(_,_,_)=>()
theorem aep(c:arp)(e:List arp) (hn:e.length≤9223372036854775807):
  eT.fin ((0:Int),c,e)=true∧eT.res ((0:Int),c,e)=((bH (Cc c) 1 e 0 ()).1,(rj c e) (bH (Cc c) 1 e 0 ()).2.1 (bH (Cc c) 1 e 0 ()).2.2):=by
 have qa:=eT.along (rj c e) MT (Cc c) 1 (fun _ _=>True) e () (by trivial) (by simp only [eT,rj];omega) (fun i b a hb hI=> ?_) (fun a hI=> ?_)
 ·exact qa
 ·obtain⟨⟩:=a
  have iX:=(k7.1 hb).1
  have pI: ∀ d,v5 e[i]? d=b:=fun d=>by rw [hb];rfl
  have hw:=AV iX hn
  have lR:ltI (i:Int) (e.length:Int)=true:=ew (by omega)
  have Nl:leI (0:Int) (i:Int)=true:=cG (by omega)
  have wO:ltN i e.length=true:=gM iX
  refine⟨?_,?_,?_,?_⟩
  ·simp [zj,Dk,Dm,Dn,Do,Bh,eT,LT.nds,allT,rj,lR,Nl,wO,pI]
  ·simp [zj,Dk,Dm,Dn,Do,Bh,eT,LT.each,rj,MT,hw]
  ·simp only [zj,Dk,Dm,Dn,Do,Bh,eT,LT.fn,rj,MT,Cc,z6,lR,Nl,wO,pI,cond_true,j9]
  ·exact fun _ _=>trivial
 ·obtain⟨⟩:=a
  simp [zj,Dk,Dm,Dn,Do,Bh,eT,LT.out,rj]
theorem aee(s:arp)(l:List arp)(h:leN l.length 9223372036854775807=true):IO s l=gh l s∧Oa s l=true:=by
 obtain⟨w1,w2⟩:=aep s l (iC.1 h)
 rw [oq (P:=fun k=>k.toList==s.toList) (j:=0) (fun k=>rfl)]at w2
 simp only [IO,Oa,Mz,w1,w2,allT,rj,gh,hasS,SR]
 cases l.any fun k=>k.toList==s.toList <;> simp [Nat.beq]
theorem ahR(s:arp)(l:List arp)(h:leN l.length 9223372036854775807=true):qR s l=gh l s∧qS s l=true:=by
 obtain⟨w1,w2⟩:=Fv s l (iC.1 h)
 rw [oq (P:=fun k=>s.toList==k.toList) (j:=0) (fun k=>rfl)]at w2
 have e1:(fun k:arp=>s.toList==k.toList)=fun k=>k.toList==s.toList:=funext fun k=>BEq.comm
 have e2:(fun k:arp=> !(s.toList==k.toList))=fun k=> !(k.toList==s.toList):=funext fun k=>by rw [BEq.comm]
 rw [e1,e2]at w2
 simp only [qR,qS,pX,w1,w2,allT,dY,gh,hasS,SR]
 cases l.any fun k=>k.toList==s.toList <;> simp [Nat.beq]
theorem WK(l:List arp)(s:arp):leI 0 (gh l s)=hasS l s:=by
 simp only [gh]
 cases hasS l s with
 |true=>exact cG (by simp)
 |false=>rfl
def ZF:arq
 | [.one ⟨false,[.ref 0]⟩,.one ⟨false,[.val (.string a)]⟩],[.row false 9 (.str) b]=>some ⟨aru (gh b a),[arv b],[],[leN b.length 9223372036854775807]⟩
 |_,_=>none
def da:PF prog:=PF.alt AP ZF (by
 intro args es o h cm;unfold ZF at h;split at h
 ·rename_i a b
  cases h
  have cm:=lv cm
  have hh:=aee a b cm
  obtain⟨e0,en⟩:=hh
  exact re rfl (la en) (by simp only [e0] <;> rfl) rfl rfl
 ·cases h)
def ID:arq
 | [.one ⟨false,[.ref 0]⟩,.one ⟨false,[.val (.string a)]⟩],[.row false 9 (.str) b]=>some ⟨aru (gh b a),[arv b],[],[leN b.length 9223372036854775807]⟩
 |_,_=>none
def vA:PF prog:=PF.alt vC ID (by
 intro args es o h cm;unfold ID at h;split at h
 ·rename_i a b
  cases h
  have cm:=lv cm
  have hh:=ahR a b cm
  obtain⟨e0,en⟩:=hh
  exact re rfl (la en) (by simp only [e0] <;> rfl) rfl rfl
 ·cases h)
theorem amb(s:arp)(l:List arp)(h:leN l.length 9223372036854775807=true):iZ s l=hasS l s∧ld s l=true:=by
 obtain⟨e1,e2⟩:=ahR s l h
 simp only [iZ,ld,e1,e2,WK,allT,and_self,cond_true]
def Fs:arq
 | [.one ⟨false,[.ref 0]⟩,.one ⟨false,[.val (.string a)]⟩],[.row false 9 (.str) b]=>some ⟨art (.val (.bool (hasS b a))),[arv b],[],[leN b.length 9223372036854775807]⟩
 |_,_=>none
def ao:PF prog:=PF.alt du Fs (by
 intro args es o h cm;unfold Fs at h;split at h
 ·rename_i a b
  cases h
  have cm:=lv cm
  have hh:=amb a b cm
  obtain⟨e0,en⟩:=hh
  exact re rfl (la en) (by simp only [e0] <;> rfl) rfl rfl
 ·cases h)
theorem aqd(a b c:List arp)(h:leN (a.length + b.length + c.length) 2000000=true):adn a b c=a++b++c∧Xg a b c=true:=by
 have h:=iC.1 h
 refine⟨rfl,?_⟩
 simp [Xg,Ql,allT]
 omega
def ac5:arq
 | [.one ⟨true,[.val (.string _x0),.ref 0,.ref 1,.ref 2,.val (.string _x1),.ref 3]⟩],[.row false 9 (.str) a,.row false 9 (.str) b,.row false 9 (.str) c,.row false 61 (.pair (.str) (.sl 64 (.pair (.int .i64) (.pair (.str) (.int .i64))))) d]=>some ⟨art (.ref 4),[arv a,arv b,arv c,arz d],[arw (a++b++c)],[leN (a.length + b.length + c.length) 2000000]⟩
 |_,_=>none
def eG:PF prog:=PF.alt aiV ac5 (by
 intro args es o h cm;unfold ac5 at h;split at h
 ·rename_i _x0 _x1 a b c d
  cases h
  have cm:=lv cm
  have hh:=aqd a b c cm
  obtain⟨e0,en⟩:=hh
  exact re rfl (la en) rfl rfl (by simp only [e0] <;> rfl)
 ·cases h)
theorem LF(s:arp)(h:s.size≤9223372036854775807):iA s=jP s∧sU s=true:=by
 obtain⟨e1,e2⟩:=aiy s
 have hl:leN s.size 9223372036854775807=true:=bK h
 refine⟨?_,?_⟩
 ·simp only [iA,e1,jP];cases TN s <;> rfl
 ·simp only [sU,e2,hl,allT,j8,cond_true]
theorem RF(s:arp):gN s=jP s:=by simp only [gN,jP];cases TN s <;> rfl
def QO(l:List arp):Bool:=leN l.length 9223372036854775807&&l.all fun s=>leN s.size 9223372036854775807
def vJ(b:arp):(Unit)→Nat ⊕ (Unit)
 |_=>(bif(!iA b)then(.inl 0)else(.inr ()))
def uF(a:List arp)(i:Nat):(Unit)→nI
 |_=>((i:Int),a)
def MQ:nI→Unit
 |(_,_)=>()
theorem aen(c:List arp) (hn:c.length≤9223372036854775807) (hA: ∀ x∈c,x.size≤9223372036854775807):
  fS.fin ((0:Int),c)=true∧fS.res ((0:Int),c)=((bH (vJ) 1 c 0 ()).1,(uF c) (bH (vJ) 1 c 0 ()).2.1 (bH (vJ) 1 c 0 ()).2.2):=by
 have qa:=fS.along (uF c) MQ (vJ) 1 (fun _ _=>True) c () (by trivial) (by simp only [fS,uF];omega) (fun i b a hb hI=> ?_) (fun a hI=> ?_)
 ·exact qa
 ·obtain⟨⟩:=a
  have iX:=(k7.1 hb).1
  have pI: ∀ d,v5 c[i]? d=b:=fun d=>by rw [hb];rfl
  have hw:=AV iX hn
  have lR:ltI (i:Int) (c.length:Int)=true:=ew (by omega)
  have Nl:leI (0:Int) (i:Int)=true:=cG (by omega)
  have wO:ltN i c.length=true:=gM iX
  refine⟨?_,?_,?_,?_⟩
  ·have hg2:rf (i:Int) c=b:=by simp only [rf,z6];exact pI _
   have h6:=(LF b (hA b (List.mem_of_getElem? hb))).2
   simp [zg,Iq,Ir,Is,CX,It,Be,fS,LT.nds,allT,uF,lR,Nl,wO,hg2,h6]
  ·simp [rf,zg,Iq,Ir,Is,CX,It,Be,fS,LT.each,uF,MQ,hw]
  ·have hg2:rf (i:Int) c=b:=by simp only [rf,z6];exact pI _
   simp only [zg,CX,Be,fS,LT.fn,uF,MQ,vJ,z6,lR,hg2,cond_true]
  ·exact fun _ _=>trivial
 ·obtain⟨⟩:=a
  simp [rf,zg,Iq,Ir,Is,CX,It,Be,fS,LT.out,uF]
theorem aki(lo:Int)(l:List arp)(h:QO l=true):Th lo l=(l.all jP&&inR (l.length:Int) lo 20)∧Ti l=true:=by
 simp only [QO,q9,iC,List.all_eq_true]at h
 obtain⟨w1,w2⟩:=aen l h.1 h.2
 have e0:(bH vJ 1 l 0 ())=(bH (fun(k:arp) (_:Unit)=>bif !jP k then(.inl 0:Nat ⊕ Unit)else .inr ()) 1 l 0 ()):=by
  refine WC fun b hb a=> ?_
  simp only [vJ,(LF b (h.2 b hb)).1]
 rw [e0,oq (P:=fun k=> !jP k) (j:=0) (fun k=>rfl)]at w2
 have e5:(l.any fun k=> !jP k)= !l.all jP:=by simp [List.all_eq_not_any_not]
 rw [e5]at w2
 simp only [Th,Ti,w1,w2,allT,cd,YO]
 cases l.all jP <;> simp [Nat.beq]
def eH(b:arp):(Unit)→Nat ⊕ (Unit)
 |_=>(bif(AC b)then(.inl 0)else(.inr ()))
def cq(a:List arp)(i:Nat):(Unit)→br
 |_=>((i:Int),(↑a.length:Int),a)
def qi:br→Unit
 |(_,_,_)=>()
theorem IR(c:List arp) (hn:c.length≤9223372036854775807):
  ak.fin ((0:Int),(↑c.length:Int),c)=true∧ak.res ((0:Int),(↑c.length:Int),c)=((bH (eH) 1 c 0 ()).1,(cq c) (bH (eH) 1 c 0 ()).2.1 (bH (eH) 1 c 0 ()).2.2):=by
 have qa:=ak.along (cq c) qi (eH) 1 (fun _ _=>True) c () (by trivial) (by simp only [ak,cq];omega) (fun i b a hb hI=> ?_) (fun a hI=> ?_)
 ·exact qa
 ·obtain⟨⟩:=a
  have iX:=(k7.1 hb).1
  have pI: ∀ d,v5 c[i]? d=b:=fun d=>by rw [hb];rfl
  have hw:=AV iX hn
  have lR:ltI (i:Int) (c.length:Int)=true:=ew (by omega)
  have Nl:leI (0:Int) (i:Int)=true:=cG (by omega)
  have wO:ltN i c.length=true:=gM iX
  refine⟨?_,?_,?_,?_⟩
  ·simp [iG,iH,iI,iJ,iK,iL,io,ak,LT.nds,allT,cq,lR,Nl,wO,pI]
  ·simp [iG,iH,iI,iJ,iK,iL,io,ak,LT.each,cq,qi,hw]
  ·simp only [iG,iH,iI,iJ,iK,iL,io,ak,LT.fn,cq,qi,eH,z6,lR,Nl,wO,pI,cond_true,j9]
  ·exact fun _ _=>trivial
 ·obtain⟨⟩:=a
  simp [iG,iH,iI,iJ,iK,iL,io,ak,LT.out,cq]
theorem aks(l:List arp)(h:leN l.length 9223372036854775807=true):SD l=l.all jP∧SE l=true:=by
 obtain⟨w1,w2⟩:=IR l (iC.1 h)
 rw [oq (P:=fun k=> !jP k) (j:=0) (fun k=>by simp only [eH,AC,RF])]at w2
 have e5:(l.any fun k=> !jP k)= !l.all jP:=by simp [List.all_eq_not_any_not]
 rw [e5]at w2
 have q: ∀ m:Nat,leI 0 (m:Int)=true:=fun m=>cG (by omega)
 have q2:leI 0 (-1)=false:=rfl
 simp only [SD,SE,qP,qQ,sC,sD,mH,w1,w2,allT,cq]
 cases (l.all jP) <;> simp [Nat.beq,q,q2]
def ZE:arq
 | [.one ⟨false,[.ref 0]⟩,.one ⟨false,[.val (.int .i64 a)]⟩],[.row false 9 (.str) b]=>some ⟨art (.val (.bool (b.all jP&&inR (b.length:Int) a 20))),[arv b],[],[QO b]⟩
 |_,_=>none
def DY:PF prog:=PF.alt aha ZE (by
 intro args es o h cm;unfold ZE at h;split at h
 ·rename_i a b
  cases h
  have cm:=lv cm
  have hh:=aki a b cm
  obtain⟨e0,en⟩:=hh
  exact re rfl (la en) (by simp only [e0] <;> rfl) rfl rfl
 ·cases h)
def Zz:arq
 | [.one ⟨false,[.ref 0]⟩],[.row false 9 (.str) a]=>some ⟨art (.val (.bool (a.all jP))),[arv a],[],[leN a.length 9223372036854775807]⟩
 |_,_=>none
def SN:PF prog:=PF.alt ag3 Zz (by
 intro args es o h cm;unfold Zz at h;split at h
 ·rename_i a
  cases h
  have cm:=lv cm
  have hh:=aks a cm
  obtain⟨e0,en⟩:=hh
  exact re rfl (la en) (by simp only [e0] <;> rfl) rfl rfl
 ·cases h)
theorem aiE(l:List arp):(List.range l.length).any (fun b=>hasS (List.take b l) (v5 l[b]? ByteArray.empty))=oH l:=rfl
def yS(a:List arp)(b:Nat):(Unit)→Nat ⊕ (Unit)
 |_=>(bif(leI 0 (IO (v5 a[b]? ByteArray.empty) (List.drop (k8 0) (List.take b a))))then(.inl 0)else(.inr ()))
def uG(a:List arp)(i:Nat):(Unit)→nL
 |_=>((i:Int),a)
def MU:nL→Unit
 |(_,_)=>()
theorem aeq(c:List arp) (hn:c.length≤9223372036854775807):
  fT.fin ((0:Int),c)=true∧fT.res ((0:Int),c)=((bH (yS c) 1 (List.range c.length) 0 ()).1,(uG c) (bH (yS c) 1 (List.range c.length) 0 ()).2.1 (bH (yS c) 1 (List.range c.length) 0 ()).2.2):=by
 have qa:=fT.along (uG c) MU (yS c) 1 (fun _ _=>True) (List.range c.length) () (by trivial) (by simp only [fT,uG,List.length_range];omega) (fun i b a hb hI=> ?_) (fun a hI=> ?_)
 ·exact qa
 ·obtain⟨⟩:=a
  obtain⟨rfl,iX⟩:=Ua hb
  have hw:IntKind.i64.wrap ((b:Int) + 1)=((b + 1:Nat):Int):=by rw [be (by omega) (by omega)];omega
  have lR:ltI (b:Int) (c.length:Int)=true:=ew (by omega)
  have Nl:leI (0:Int) (b:Int)=true:=cG (by omega)
  have wO:ltN b c.length=true:=gM (by omega)
  refine⟨?_,?_,?_,?_⟩
  ·have nN:(List.take b c).length≤9223372036854775807:=by rw [j6];omega
   have e:uC (b:Int) c=List.take b c:=by simp [uC]
   have h5:zo (b:Int) c=true:=by simp only [zo,e];exact(aee _ _ (bK nN)).2
   have h3:Dr (b:Int) c=true:=cG (by omega)
   have h1:Dq=true:=rfl
   simp only [Bi,fT,LT.nds,allT,uG,zl,zm,Ds,h1,h3,h5,lR,Nl,wO,z6,cond_true,Bool.and_self,List.all_nil,List.all_cons]
   cases Dt (b:Int) c <;> simp [LT.nds]
  ·simp [Bn,uC,zl,Dq,zm,Dr,Ds,zo,Dt,Iv,Bi,fT,LT.each,uG,MU,hw]
  ·simp only [Bn,uC,zl,Dq,zm,Dr,Ds,zo,Dt,Iv,Bi,fT,LT.fn,uG,MU,yS,z6,lR,cond_true]
  ·exact fun _ _=>trivial
 ·obtain⟨⟩:=a
  simp [Bn,uC,zl,Dq,zm,Dr,Ds,zo,Dt,Iv,Bi,fT,LT.out,uG,List.length_range]
theorem akj(l:List arp)(h:leN l.length 9223372036854775807=true):Tl l=oH l∧Tm l=true:=by
 have hn:=iC.1 h
 obtain⟨w1,w2⟩:=aeq l hn
 have hi: ∀ b:Nat,(List.take b l).length≤9223372036854775807:=fun b=>by rw [j6];omega
 rw [oq (P:=fun b=>hasS (List.take b l) (v5 l[b]? ByteArray.empty)) (j:=0) (fun b=>by
  simp only [yS,Int.toNat_zero,List.drop_zero,(aee _ _ (bK (hi b))).1,WK]),aiE]at w2
 simp only [Tl,Tm,w1,w2,allT]
 cases oH l <;> simp [Nat.beq]
theorem Ye{A B:Type}{f:B→A→Nat ⊕ A}{g:A→B→A}{e:Nat}(hf: ∀ b a,f b a= .inr (g a b)): ∀ (l:List B) (i:Nat) (a:A),bH f e l i a=(e,i + l.length,l.foldl g a)
 | [],i,a=>rfl
 |b::r,i,a=>by
  simp only [bH,hf,List.foldl_cons]
  rw [Ye hf r]
  simp [Nat.add_assoc,Nat.add_comm 1]
def yR(a:List arp)(b:Nat):(Unit)→Nat ⊕ (Unit)
 |_=>(bif(iZ (v5 a[b]? ByteArray.empty) (List.drop (k8 0) (List.take b a)))then(.inl 0)else(.inr ()))
def uD(a:List arp)(i:Nat):(Unit)→nF
 |_=>((i:Int),(↑a.length:Int),a)
def MN:nF→Unit
 |(_,_,_)=>()
theorem aek(c:List arp) (hn:c.length≤9223372036854775807):
  fQ.fin ((0:Int),(↑c.length:Int),c)=true∧fQ.res ((0:Int),(↑c.length:Int),c)=((bH (yR c) 1 (List.range c.length) 0 ()).1,(uD c) (bH (yR c) 1 (List.range c.length) 0 ()).2.1 (bH (yR c) 1 (List.range c.length) 0 ()).2.2):=by
 have qa:=fQ.along (uD c) MN (yR c) 1 (fun _ _=>True) (List.range c.length) () (by trivial) (by simp only [fQ,uD,List.length_range];omega) (fun i b a hb hI=> ?_) (fun a hI=> ?_)
 ·exact qa
 ·obtain⟨⟩:=a
  obtain⟨rfl,iX⟩:=Ua hb
  have hw:IntKind.i64.wrap ((b:Int) + 1)=((b + 1:Nat):Int):=by rw [be (by omega) (by omega)];omega
  have lR:ltI (b:Int) (c.length:Int)=true:=ew (by omega)
  have Nl:leI (0:Int) (b:Int)=true:=cG (by omega)
  have wO:ltN b c.length=true:=gM (by omega)
  refine⟨?_,?_,?_,?_⟩
  ·have nN:(List.take b c).length≤9223372036854775807:=by rw [j6];omega
   have e:uo (b:Int) c=List.take b c:=by simp [uo]
   have h5:yV (b:Int) c=true:=by simp only [yV,e];exact(amb _ _ (bK nN)).2
   have h3:Ch (b:Int) c=true:=cG (by omega)
   have h1:Cg=true:=rfl
   simp only [Bb,fQ,LT.nds,allT,uD,Cd,yU,Ce,Cf,h1,h3,h5,lR,Nl,wO,z6,cond_true,Bool.and_self,List.all_nil,List.all_cons]
   cases Ci (b:Int) c <;> simp [LT.nds]
  ·simp [AZ,uo,Cd,yU,Ce,Cf,Cg,Ch,yV,Ci,HH,Bb,fQ,LT.each,uD,MN,hw]
  ·simp only [AZ,uo,Cd,yU,Ce,Cf,Cg,Ch,yV,Ci,HH,Bb,fQ,LT.fn,uD,MN,yR,z6,lR,cond_true]
  ·exact fun _ _=>trivial
 ·obtain⟨⟩:=a
  simp [AZ,uo,Cd,yU,Ce,Cf,Cg,Ch,yV,Ci,HH,Bb,fQ,LT.out,uD,List.length_range]
theorem ajZ(l:List arp)(h:leN l.length 9223372036854775807=true):SF l=oH l∧SG l=true:=by
 have hn:=iC.1 h
 obtain⟨w1,w2⟩:=aek l hn
 have hi: ∀ b:Nat,(List.take b l).length≤9223372036854775807:=fun b=>by rw [j6];omega
 rw [oq (P:=fun b=>hasS (List.take b l) (v5 l[b]? ByteArray.empty)) (j:=0) (fun b=>by
  simp only [yR,Int.toNat_zero,List.drop_zero,(amb _ _ (bK (hi b))).1]),aiE]at w2
 simp only [SF,SG,QT,w1,w2,allT]
 cases oH l <;> simp [Nat.beq]
def ZG:arq
 | [.one ⟨false,[.ref 0]⟩],[.row false 9 (.str) a]=>some ⟨art (.val (.bool (oH a))),[arv a],[],[leN a.length 9223372036854775807]⟩
 |_,_=>none
def oT:PF prog:=PF.alt ahb ZG (by
 intro args es o h cm;unfold ZG at h;split at h
 ·rename_i a
  cases h
  have cm:=lv cm
  have hh:=akj a cm
  obtain⟨e0,en⟩:=hh
  exact re rfl (la en) (by simp only [e0] <;> rfl) rfl rfl
 ·cases h)
def ZA:arq
 | [.one ⟨false,[.ref 0]⟩],[.row false 9 (.str) a]=>some ⟨art (.val (.bool (oH a))),[arv a],[],[leN a.length 9223372036854775807]⟩
 |_,_=>none
def DV:PF prog:=PF.alt ag4 ZA (by
 intro args es o h cm;unfold ZA at h;split at h
 ·rename_i a
  cases h
  have cm:=lv cm
  have hh:=ajZ a cm
  obtain⟨e0,en⟩:=hh
  exact re rfl (la en) (by simp only [e0] <;> rfl) rfl rfl
 ·cases h)
theorem amO(k:Int):tc k=takesK k:=rfl
theorem ans(n k:Int)(h0:0≤n)(h1:n≤9223372036854775000):IntKind.i64.wrap (IntKind.i64.wrap (n - takesK k) + 1)=n - takesK k + 1∧IntKind.i64.wrap (n + IntKind.i64.wrap (1 - takesK k))=n - takesK k + 1:=by
 have:=Rn k
 refine⟨?_,?_⟩
 ·rw [be (x:=n - takesK k) (by omega) (by omega),be (by omega) (by omega)]
 ·rw [be (x:=1 - takesK k) (by omega) (by omega),be (by omega) (by omega)];omega
theorem VW(a b:Int):ltI a b= !leI b a:=by
 cases h:leI b a with
 |true=>have:=FN.1 h;exact CE (by omega)
 |false=>rw [am6]at h;exact ew (by omega)
def TL(ts:List TM):Bool:=leN ts.length 1048576&&ts.all fun t=>leN t.2.1.size 9223372036854775807
def aeU(ls:List LN):Bool:=leN ls.length 1048576&&ls.all fun l=>leN l.1.size 9223372036854775807&&TL l.2
theorem MA{ts:List TM}:TL ts=true↔ts.length≤1048576∧ ∀ t∈ts,t.2.1.size≤9223372036854775807:=by
 simp only [TL,q9,iC,List.all_eq_true]
theorem Ma{ls:List LN}:aeU ls=true↔ls.length≤1048576∧ ∀ l∈ls,l.1.size≤9223372036854775807∧TL l.2=true:=by
 simp only [aeU,q9,iC,List.all_eq_true]
def qX(b:Int×(arp×Int)):(Int×Int)→Nat ⊕ (Int×Int)
 |(a,c)=>(bif(bif !Nt b.1 (b.2.1) b.2.2then true else ltI a (tc b.1))then(.inl 0)else(.inr ((v6 .i64 (a + v6 .i64 ((1:Int) - tc b.1))),(afF c (v6 .i64 (a + v6 .i64 ((1:Int) - tc b.1))) (v6 .i64 (a + v6 .i64 ((1:Int) - tc b.1))) c))))
def uY(c:ajd)(i:Nat):(Int×Int)→qW
 |(a,b)=>((i:Int),(↑c.length:Int),a,b,c)
def PL:qW→Int×Int
 |(_,_,a,b,_)=>(a,b)
theorem agb(f:ajd)(c e:Int)(hn:f.length≤9223372036854775807):
  ik.fin ((0:Int),(↑f.length:Int),c,e,f)=true∧ik.res ((0:Int),(↑f.length:Int),c,e,f)=((bH (qX) 1 f 0 (c,e)).1,(uY f) (bH (qX) 1 f 0 (c,e)).2.1 (bH (qX) 1 f 0 (c,e)).2.2):=by
 have qa:=ik.along (uY f) PL (qX) 1 (fun _ _=>True) f (c,e) (by trivial) (by simp only [ik,uY];omega) (fun i b a hb hI=> ?_) (fun a hI=> ?_)
 ·exact qa
 ·obtain⟨c,e⟩:=a
  have iX:=(k7.1 hb).1
  have pI: ∀ d,v5 f[i]? d=b:=fun d=>by rw [hb];rfl
  have hw:=AV iX hn
  have lR:ltI (i:Int) (f.length:Int)=true:=ew (by omega)
  have Nl:leI (0:Int) (i:Int)=true:=cG (by omega)
  have wO:ltN i f.length=true:=gM iX
  refine⟨?_,?_,?_,?_⟩
  ·simp [rB,xf,Gp,Gq,Gr,Gs,Gt,Gu,Gv,Gw,ED,ik,LT.nds,allT,uY,lR,Nl,wO,pI]
  ·simp [rB,xf,Gp,Gq,Gr,Gs,Gt,Gu,Gv,Gw,ED,ik,LT.each,uY,PL,hw]
  ·simp only [rB,xf,Gp,Gq,Gr,Gs,Gt,Gu,Gv,Gw,ED,ik,LT.fn,uY,PL,qX,z6,lR,Nl,wO,pI,cond_true,j9]
  ·exact fun _ _=>trivial
 ·obtain⟨c,e⟩:=a
  simp [rB,xf,Gp,Gq,Gr,Gs,Gt,Gu,Gv,Gw,ED,ik,LT.out,uY]
theorem agL: ∀ (ts:List TM) (i:Nat) (n m:Int),0≤n→n + ts.length≤9223372036854775000→
  match htT ts n with
  |some k=>(bH qX 1 ts i (n,m)).1=1∧(bH qX 1 ts i (n,m)).2.2.1=k
  |none=>(bH qX 1 ts i (n,m)).1=0
 | [],i,n,m,_,_=>⟨rfl,rfl⟩
 |t::r,i,n,m,h0,h1=>by
  rw [j7]at h1
  have hw:=(ans n t.1 h0 (by omega)).2
  have ht:=Rn t.1
  have hf:qX t (n,m)=(bif termB t.1 t.2.1 t.2.2&&leI (takesK t.1) n then .inr (n - takesK t.1 + 1,afF m (n - takesK t.1 + 1) (n - takesK t.1 + 1) m)else .inl 0):=by
   simp only [qX,akY,amO,hw,VW]
   cases termB t.1 t.2.1 t.2.2 <;> cases leI (takesK t.1) n <;> rfl
  simp only [bH,hf,htT]
  cases hc:termB t.1 t.2.1 t.2.2&&leI (takesK t.1) n with
  |false=>rfl
  |true=>
   simp only [q9,FN]at hc
   simp only [cond_true]
   exact agL r (i + 1) _ _ (by omega) (by omega)
theorem akW(ts:List TM)(h:TL ts=true):FK ts=ac8 ts∧FL ts=true:=by
 obtain⟨hn,_⟩:=MA.1 h
 obtain⟨w1,w2⟩:=agb ts 0 0 (by omega)
 have hh:=agL ts 0 0 0 (by omega) (by omega)
 have LU:leI (ts.length:Int) 40=leN ts.length 40:=by
  rw [Bool.eq_iff_iff,FN,iC];omega
 simp only [FK,FL,WL,WM,Pr,Ut,Uu,w1,w2,allT,ac8,LU,cond_true,uY]
 cases hq:htT ts 0 with
 |none=>
  rw [hq]at hh
  simp only at hh
  rw [hh];simp [Nat.beq]
 |some k=>
  rw [hq]at hh
  simp only at hh
  rw [hh.1,hh.2]
  dsimp only
  generalize (k==1)=q
  cases q <;> cases leN ts.length 40 <;> simp [Nat.beq]
def jQ(b:Int×(arp×Int)):(Int×aro)→Nat ⊕ (Int×aro)
 |(a,c)=>(bif(bif(!LQ b.1 (b.2.1) b.2.2)then true else ltI a (lJ b.1))then(.inl 0)else(.inr ((v6 .i64 (v6 .i64 (a - lJ b.1) + (1:Int))),(c++ [v6 .i64 (v6 .i64 (a - lJ b.1) + (1:Int))]))))
def oN(b:ajd)(i:Nat):(Int×aro)→ln
 |(a,c)=>((i:Int),a,b,c)
def JH:ln→Int×aro
 |(_,a,_,b)=>(a,b)
theorem abV(f:ajd)(e:Int)(g:aro)(hn:f.length≤9223372036854775807)(hT:f.length≤1048576)(hA: ∀ x∈f,x.2.1.size≤9223372036854775807)(h3:g.length=0):
  dM.fin ((0:Int),e,f,g)=true∧dM.res ((0:Int),e,f,g)=((bH (jQ) 1 f 0 (e,g)).1,(oN f) (bH (jQ) 1 f 0 (e,g)).2.1 (bH (jQ) 1 f 0 (e,g)).2.2):=by
 have qa:=dM.along (oN f) JH (jQ) 1 (fun i a=>a.2.length=i) f (e,g) h3 (by simp only [dM,oN];omega) (fun i b a hb hI=> ?_) (fun a hI=> ?_)
 ·exact qa
 ·obtain⟨e,g⟩:=a
  have iX:=(k7.1 hb).1
  have pI: ∀ d,v5 f[i]? d=b:=fun d=>by rw [hb];rfl
  have hw:=AV iX hn
  have lR:ltI (i:Int) (f.length:Int)=true:=ew (by omega)
  have Nl:leI (0:Int) (i:Int)=true:=cG (by omega)
  have wO:ltN i f.length=true:=gM iX
  refine⟨?_,?_,?_,?_⟩
  ·have hg2:ep (i:Int) f=b:=by simp only [ep,z6];exact pI _
   have h6:LR b.1 b.2.1 b.2.2=true:=(agI b.1 b.2.1 b.2.2 (bK (hA b (List.mem_of_getElem? hb)))).2
   simp only at hI
   have h8:leN (g.length + 1) 9223372036854775807=true:=bK (by omega)
   have h9:leN ((g.length + 1) * 8) 140737488355328=true:=bK (by omega)
   simp [sS,wL,wM,Ah,Ai,Aj,Ak,Al,Am,An,yN,yO,yP,yH,dM,LT.nds,allT,oN,lR,Nl,wO,hg2,h6,h8,h9]
  ·simp [ep,rx,ry,sS,wL,wM,Ah,Ai,Aj,Ak,Al,Am,An,yN,yO,yP,yH,dM,LT.each,oN,JH,hw]
  ·have hg2:ep (i:Int) f=b:=by simp only [ep,z6];exact pI _
   simp only [sS,wL,wM,Ah,Ai,Aj,Ak,Al,Am,An,yN,yO,yP,yH,dM,rx,ry,LT.fn,oN,JH,jQ,z6,lR,hg2,cond_true]
  ·intro a' hf
   simp only at hI
   simp only [jQ]at hf
   revert hf
   generalize (bif _ then true else _)=c
   cases c with
   |true=>intro hf;cases hf
   |false=>intro hf;simp only [cond_false,Sum.inr.injEq]at hf;subst hf;simp [hI]
 ·obtain⟨e,g⟩:=a
  simp [ep,rx,ry,sS,wL,wM,Ah,Ai,Aj,Ak,Al,Am,An,yN,yO,yP,yH,dM,LT.out,oN]
theorem afk: ∀ (ts:List TM) (i:Nat) (n:Int) (L:aro),(∀ x∈ts,x.2.1.size≤9223372036854775807)→0≤n→n + ts.length≤9223372036854775000→
  match htT ts n with
  |some k=>(bH jQ 1 ts i (n,L)).1=1∧(bH jQ 1 ts i (n,L)).2.2.1=k
  |none=>(bH jQ 1 ts i (n,L)).1=0
 | [],i,n,m,_,_,_=>⟨rfl,rfl⟩
 |t::r,i,n,m,hs,h0,h1=>by
  rw [j7]at h1
  have hw:=(ans n t.1 h0 (by omega)).1
  have ht:=Rn t.1
  have hf:jQ t (n,m)=(bif termB t.1 t.2.1 t.2.2&&leI (takesK t.1) n then .inr (n - takesK t.1 + 1,m++ [n - takesK t.1 + 1])else .inl 0):=by
   simp only [jQ,(agI t.1 t.2.1 t.2.2 (bK (hs t (by simp)))).1,show lJ t.1=takesK t.1 from rfl,hw,VW]
   cases termB t.1 t.2.1 t.2.2 <;> cases leI (takesK t.1) n <;> rfl
  simp only [bH,hf,htT]
  cases hc:termB t.1 t.2.1 t.2.2&&leI (takesK t.1) n with
  |false=>rfl
  |true=>
   simp only [q9,FN]at hc
   simp only [cond_true]
   exact afk r (i + 1) _ _ (fun x hx=>hs x (by simp [hx])) (by omega) (by omega)
theorem alA(ts:List TM)(h:TL ts=true):Ng ts=ac8 ts∧Nh ts=true:=by
 obtain⟨hn,hs⟩:=MA.1 h
 obtain⟨w1,w2⟩:=abV ts 0 [] (by omega) hn hs rfl
 have hh:=afk ts 0 0 [] hs (by omega) (by omega)
 have LU:leI (ts.length:Int) 40=leN ts.length 40:=by
  rw [Bool.eq_iff_iff,FN,iC];omega
 simp only [Ng,Nh,Qj,Qk,Ip,Ov,Ow,w1,w2,allT,ac8,LU,cond_true,oN]
 cases hq:htT ts 0 with
 |none=>
  rw [hq]at hh
  simp only at hh
  rw [hh];simp [Nat.beq]
 |some k=>
  rw [hq]at hh
  simp only at hh
  rw [hh.1,hh.2]
  dsimp only
  generalize (k==1)=q
  cases q <;> cases leN ts.length 40 <;> simp [Nat.beq]
theorem anR(s:arp)(ts:List TM)(h:TL ts=true):WN s ts=lineB (s,ts)∧WO s ts=true:=by
 obtain⟨e1,e2⟩:=akW ts h
 simp only [WN,WO,e1,e2,RF,lineB,allT,j8,cond_true]
 cases jP s <;> simp
def Tt:arq
 | [.one ⟨false,[.ref 0]⟩],[.row false 64 (.pair (.int .i64) (.pair (.str) (.int .i64))) a]=>some ⟨art (.val (.bool (ac8 a))),[arA a],[],[TL a]⟩
 |_,_=>none
def xN:PF prog:=PF.alt acR Tt (by
 intro args es o h cm;unfold Tt at h;split at h
 ·rename_i a
  cases h
  have cm:=lv cm
  have hh:=alA a cm
  obtain⟨e0,en⟩:=hh
  exact re rfl (la en) (by simp only [e0] <;> rfl) rfl rfl
 ·cases h)
def ac2:arq
 | [.one ⟨true,[.val (.string a),.ref 0]⟩],[.row false 64 (.pair (.int .i64) (.pair (.str) (.int .i64))) b]=>some ⟨art (.val (.bool (lineB (a,b)))),[arA b],[],[TL b]⟩
 |_,_=>none
def IX:PF prog:=PF.alt aiS ac2 (by
 intro args es o h cm;unfold ac2 at h;split at h
 ·rename_i a b
  cases h
  have cm:=lv cm
  have hh:=anR a b cm
  obtain⟨e0,en⟩:=hh
  exact re rfl (la en) (by simp only [e0] <;> rfl) rfl rfl
 ·cases h)
theorem Lp.along2{X A B:Type}(p:Lp X)(st:Nat→A→X)(pr:X→A)(f:B→A→Nat ⊕ A)(e:Nat)(Inv:Nat→A→Prop)(xs:List B)(a:A)
  (h0:Inv 0 a) (hf:xs.length≤100000000000)
  (hs: ∀ i b a,xs[i]? =some b→Inv i a→(p.lt (st i a)).nds=true∧(p.lt (st i a)).each (fun y=>y=st (i + 1) (pr y))∧(p.lt (st i a)).fn pr=f b a∧ ∀ a',f b a= .inr a'→Inv (i + 1) a')
  (he: ∀ a,Inv xs.length a→(p.lt (st xs.length a)).out=some (.inl e)):
  p.fin (st 0 a)=true∧p.res (st 0 a)=((bH f e xs 0 a).1,st (bH f e xs 0 a).2.1 (bH f e xs 0 a).2.2):=by
 have hs': ∀ i b a,xs[i]? =some b→Inv i a→(p.lt (st i a)).out=some (match f b a with | .inl j=> .inl j | .inr a'=> .inr (st (i + 1) a'))∧ ∀ a',f b a= .inr a'→Inv (i + 1) a':=by
  intro i b a hb hI
  obtain⟨h1,h2,h3,h4⟩:=hs i b a hb hI
  refine⟨?_,h4⟩
  rw [LT.out_of h1 h2,h3]
  cases f b a <;> rfl
 refine p.run (ab7 st f e Inv xs hs' he xs 0 a rfl (by omega) h0) ?_
 rw [aoi]
 have:1000 ^ 4≤(p.fuel (st 0 a) + 1000) ^ 4:=Nat.pow_le_pow_left (by omega) 4
 omega
def akw(a:List TM)(b:TM):List TM:=bif leI 7 b.1 then a++ [b]else a
theorem akL: ∀ (ts acc:List TM),ts.foldl akw acc=acc++blT ts
 | [],acc=>by simp [blT]
 |t::r,acc=>by
  rw [List.foldl_cons,akL r]
  simp only [akw,blT,List.filter_cons]
  cases leI 7 t.1 <;> simp
theorem amS(ts:List TM):(blT ts).length≤ts.length:=List.length_filter_le _ _
theorem aok(a:List TM)(b:TM):(akw a b).length≤a.length + 1:=by
 simp only [akw];cases leI 7 b.1 <;> simp
def bD(b:Int×(arp×Int)):(ajd)→Nat ⊕ (ajd)
 |a=>(bif(leI 7 b.1)then(.inr (a++([(b.1,b.2.1,b.2.2)])))else(.inr a))
def ci(a:ajd)(i:Nat):(ajd)→aW
 |b=>((i:Int),(↑a.length:Int),a,b)
def mQ:aW→ajd
 |(_,_,_,a)=>a
theorem EY(c e:ajd)(hn:c.length≤9223372036854775807)(hc:e.length + c.length≤4000000000000):
  ai.fin ((0:Int),(↑c.length:Int),c,e)=true∧ai.res ((0:Int),(↑c.length:Int),c,e)=((bH (bD) 0 c 0 e).1,(ci c) (bH (bD) 0 c 0 e).2.1 (bH (bD) 0 c 0 e).2.2):=by
 have qa:=ai.along (ci c) mQ (bD) 0 (fun i a=>a.length≤e.length + i) c e (Nat.le_refl _) (by simp only [ai,ci];omega) (fun i b a hb hI=> ?_) (fun a hI=> ?_)
 ·exact qa
 ·obtain e:=a
  have iX:=(k7.1 hb).1
  have pI: ∀ d,v5 c[i]? d=b:=fun d=>by rw [hb];rfl
  have hw:=AV iX hn
  have lR:ltI (i:Int) (c.length:Int)=true:=ew (by omega)
  have Nl:leI (0:Int) (i:Int)=true:=cG (by omega)
  have wO:ltN i c.length=true:=gM iX
  refine⟨?_,?_,?_,?_⟩
  ·have hg2:aU (i:Int) c=b:=by simp only [aU,z6];exact pI _
   have h8: ∀ z:TM,leN (a.length + k9 [z]) 9223372036854775807=true:=fun z=>bK (by rw [List.length_singleton];omega)
   have h9: ∀ z:TM,leN ((a.length + k9 [z]) * 32) 140737488355328=true:=fun z=>bK (by rw [List.length_singleton];omega)
   simp only [eU,eV,eW,eX,eY,eZ,fa,dx,fb,eC,ai,cf,cg,LT.nds,allT,ci,lR,Nl,wO,hg2,h8,h9,z6,cond_true,j8]
   cases leI 7 b.1 <;> simp [LT.nds]
  ·simp [aU,cf,cg,eU,eV,eW,eX,eY,eZ,fa,dx,fb,eC,ai,LT.each,ci,mQ,hw]
  ·have hg2:aU (i:Int) c=b:=by simp only [aU,z6];exact pI _
   simp only [eU,eV,eW,eX,eY,eZ,fa,dx,fb,eC,ai,cf,cg,LT.fn,ci,mQ,bD,z6,lR,hg2,cond_true]
  ·intro a' hf
   have hf2:bD b a= .inr (akw a b):=by
    simp only [bD,akw];cases leI 7 b.1 <;> rfl
   rw [hf2]at hf
   simp only [Sum.inr.injEq]at hf
   subst hf
   have:=aok a b
   omega
 ·obtain e:=a
  simp [aU,cf,cg,eU,eV,eW,eX,eY,eZ,fa,dx,fb,eC,ai,LT.out,ci]
theorem adS(ts acc:List TM)(hn:ts.length≤9223372036854775807)(hc:acc.length + ts.length≤4000000000000):
  ai.fin ((0:Int),(ts.length:Int),ts,acc)=true∧(ai.res ((0:Int),(ts.length:Int),ts,acc)).2.2.2.2=acc++blT ts:=by
 obtain⟨w1,w2⟩:=EY ts acc hn hc
 rw [Ye (g:=akw) (fun b a=>by simp only [bD,akw];cases leI 7 b.1 <;> rfl)]at w2
 exact⟨w1,by rw [w2];exact akL ts acc⟩
def bW(b:arp×(ajd)):(ajd)→Nat ⊕ (ajd)
 |a=>(.inr ((Lp.res ai ((0:Int),(↑(k9 b.2):Int),b.2,a)).2.2.2.2))
def bO(a:agS)(i:Nat):(ajd)→bd
 |b=>((i:Int),(↑a.length:Int),a,b)
def oD:bd→ajd
 |(_,_,_,a)=>a
theorem GZ(c:agS)(e:ajd)(hn:c.length≤9223372036854775807)(hN:c.length≤1048576)(hL: ∀ l∈c,l.2.length≤1048576)(h3:e.length=0):
  aB.fin ((0:Int),(↑c.length:Int),c,e)=true∧aB.res ((0:Int),(↑c.length:Int),c,e)=((bH (bW) 0 c 0 e).1,(bO c) (bH (bW) 0 c 0 e).2.1 (bH (bW) 0 c 0 e).2.2):=by
 have qa:=aB.along (bO c) oD (bW) 0 (fun i a=>a.length≤i * 1048576) c e (by omega) (by simp only [aB,bO];omega) (fun i b a hb hI=> ?_) (fun a hI=> ?_)
 ·exact qa
 ·obtain e:=a
  have iX:=(k7.1 hb).1
  have pI: ∀ d,v5 c[i]? d=b:=fun d=>by rw [hb];rfl
  have hw:=AV iX hn
  have lR:ltI (i:Int) (c.length:Int)=true:=ew (by omega)
  have Nl:leI (0:Int) (i:Int)=true:=cG (by omega)
  have wO:ltN i c.length=true:=gM iX
  refine⟨?_,?_,?_,?_⟩
  ·have hg2:bN (i:Int) c=b.2:=by simp only [bN,z6];exact congrArg Prod.snd (pI _)
   have hbl:=hL b (List.mem_of_getElem? hb)
   have h4:fX (i:Int) c a=true:=by
    simp only [fX,dR,hg2]
    exact(adS b.2 a (by omega) (by omega)).1
   simp only [aB,fP,fW,kf,kg,kh,LT.nds,allT,bO,lR,Nl,wO,h4,z6,cond_true,Bool.and_self]
  ·simp [bN,dR,fW,kf,kg,kh,fX,oW,ki,fP,aB,LT.each,bO,oD,hw]
  ·have hg2:bN (i:Int) c=b.2:=by simp only [bN,z6];exact congrArg Prod.snd (pI _)
   simp only [aB,fP,fW,ki,dR,LT.fn,bO,oD,bW,lR,hg2,cond_true]
  ·intro a' hf
   have hbl:=hL b (List.mem_of_getElem? hb)
   have h5:=amS b.2
   simp only [bW,Sum.inr.injEq,(adS b.2 a (by omega) (by omega)).2]at hf
   subst hf
   rw [z9]
   omega
 ·obtain e:=a
  simp [bN,dR,fW,kf,kg,kh,fX,oW,ki,fP,aB,LT.out,bO]
theorem amX{f:LN→List TM→Nat ⊕ List TM}{e:Nat}: ∀ (ls:List LN) (i:Nat) (acc:List TM) (c:Nat),(∀ l∈ls,∀ a:List TM,a.length≤c + (ls.length * 1048576)→f l a= .inr (a++blT l.2))→(∀ l∈ls,l.2.length≤1048576)→acc.length≤c→
  bH f e ls i acc=(e,i + ls.length,acc++blL ls)
 | [],i,acc,c,_,_,_=>by simp [bH,blL]
 |l::r,i,acc,c,hf,hL,hc=>by
  have h5:=amS l.2
  have h6:=hL l (by simp)
  simp only [bH,hf l (by simp) acc (by omega)]
  rw [amX r (i + 1) (acc++blT l.2) (c + 1048576) (fun x hx a ha=>hf x (by simp [hx]) a (by rw [j7];omega)) (fun x hx=>hL x (by simp [hx])) (by rw [z9];omega)]
  simp [blL];omega
theorem akU(ls:List LN)(h:aeU ls=true):qA ls=blL ls∧qB ls=true:=by
 obtain⟨hn,hA⟩:=Ma.1 h
 have hL: ∀ l∈ls,l.2.length≤1048576:=fun l hl=>(MA.1 (hA l hl).2).1
 obtain⟨w1,w2⟩:=GZ ls [] (by omega) hn hL rfl
 have hw:=amX (f:=bW) (e:=0) ls 0 [] 0 (fun l hl a ha=>by
  have:=hL l hl
  simp only [bW,(adS l.2 a (by omega) (by omega)).2]) hL (by simp)
 rw [hw]at w2
 simp only [qA,qB,qc,w1,w2,allT,bO]
 simp
def yg:arq
 | [.one ⟨true,[.val (.string _x0),.ref 0,.ref 1,.ref 2,.val (.string _x1),.ref 3]⟩],[.row false 9 (.str) a,.row false 9 (.str) b,.row false 9 (.str) c,.row false 61 (.pair (.str) (.sl 64 (.pair (.int .i64) (.pair (.str) (.int .i64))))) d]=>some ⟨art (.ref 4),[arv a,arv b,arv c,arz d],[arE (blL d)],[aeU d]⟩
 |_,_=>none
def eK:PF prog:=PF.alt IJ yg (by
 intro args es o h cm;unfold yg at h;split at h
 ·rename_i _x0 _x1 a b c d
  cases h
  have cm:=lv cm
  have hh:=akU d cm
  obtain⟨e0,en⟩:=hh
  exact re rfl (la en) rfl rfl (by simp only [e0] <;> rfl)
 ·cases h)
theorem apz(n:Int)(h0:0≤n)(h1:n≤100000000):uW n= []∧uX n=true:=by
 have w0:IntKind.i64.wrap ((↑(0:Nat):Int) - (↑(0:Nat):Int))=0:=rfl
 have e0:bj n=n:=by simp only [bj,w0];rw [be (by omega) (by omega)];omega
 refine⟨?_,?_⟩
 ·simp only [uW,e0];cases ltI 0 n <;> rfl
 ·have t0:ltI n 0=false:=CE h0
  have t1:leI (0:Int) (0:Int)=true:=rfl
  have t2:leI (↑(0:Nat):Int) (0:Int)=true:=rfl
  have t3:leI (0:Int) (↑(0:Nat):Int)=true:=rfl
  have t4:leI n 9223372036854775807=true:=cG (by omega)
  have t5:leI (n * (↑(16:Nat):Int)) 281474976710656=true:=cG (by omega)
  have t6: ∀ m:Nat,leI (↑(0:Nat):Int) (m:Int)=true:=fun m=>cG (by omega)
  have t7:(!ltI 0 n||leI 1 n)=true:=by
   cases h:ltI 0 n with
   |false=>rfl
   |true=>have:=TU.1 h;rw [cG (by omega)];rfl
  simp only [uX,za,e0,t0,t1,t2,t3,t4,t5,t6,t7,allT,j8,Bool.not_false,cond_true]
def Fq(l:akQ):Nat:=(l.map k9).sum
theorem agK(a b:akQ):Fq (a++b)=Fq a + Fq b:=by simp [Fq]
theorem acd{l:akQ}{i:Nat}{b:List arp}(hb:l[i]? =some b):Fq (l.take (i + 1))=Fq (l.take i) + b.length∧Fq (l.take (i + 1))≤Fq l:=by
 obtain⟨hi,rfl⟩:=k7.1 hb
 refine⟨?_,?_⟩
 ·rw [List.take_succ_eq_append_getElem hi,agK];simp [Fq]
 ·have h5:=agK (l.take (i + 1)) (l.drop (i + 1))
  rw [List.take_append_drop]at h5
  omega
def cW(b:List arp):(Int)→Nat ⊕ (Int)
 |a=>(.inr (v6 .i64 (a + (↑(k9 b):Int))))
def ey(b:akQ)(i:Nat):(Int)→cU
 |a=>((i:Int),(↑b.length:Int),a,b)
def wP:cU→Int
 |(_,_,a,_)=>a
theorem Qv(e:akQ)(c:Int)(hn:e.length≤9223372036854775807)(h0:c=0)(hS:Fq e≤2000000):
  bo.fin ((0:Int),(↑e.length:Int),c,e)=true∧bo.res ((0:Int),(↑e.length:Int),c,e)=((bH (cW) 0 e 0 c).1,(ey e) (bH (cW) 0 e 0 c).2.1 (bH (cW) 0 e 0 c).2.2):=by
 have qa:=bo.along (ey e) wP (cW) 0 (fun i a=>a=(Fq (e.take i):Int)) e c (by rw [h0];simp [Fq]) (by simp only [bo,ey];omega) (fun i b a hb hI=> ?_) (fun a hI=> ?_)
 ·exact qa
 ·obtain c:=a
  have iX:=(k7.1 hb).1
  have pI: ∀ d,v5 e[i]? d=b:=fun d=>by rw [hb];rfl
  have hw:=AV iX hn
  have lR:ltI (i:Int) (e.length:Int)=true:=ew (by omega)
  have Nl:leI (0:Int) (i:Int)=true:=cG (by omega)
  have wO:ltN i e.length=true:=gM iX
  refine⟨?_,?_,?_,?_⟩
  ·have hg2:gj (i:Int) a e=(Fq (e.take (i + 1)):Int):=by
    have h3:=acd hb
    simp only [gj,z6]
    refine(congrArg (fun z:List arp=>IntKind.i64.wrap (a + (z.length:Int))) (pI _)).trans ?_
    show IntKind.i64.wrap (a + (b.length:Int))=_
    rw [hI,be (by omega) (by omega)];omega
   have h6:ltI (Fq (e.take (i + 1)):Int) 0=false:=CE (by omega)
   simp only [bo,my,nt,rF,rG,rH,rI,LT.nds,allT,ey,lR,Nl,wO,hg2,h6,z6,cond_true,Bool.and_self,Bool.not_false]
  ·simp [gj,nt,rF,rG,rH,rI,xB,rJ,my,bo,LT.each,ey,wP,hw]
  ·simp only [bo,my,nt,rJ,gj,LT.fn,ey,wP,cW,lR,z6,cond_true]
   exact congrArg (fun z:List arp=>(Sum.inr (IntKind.i64.wrap (a + (z.length:Int))):Nat ⊕ Int)) (pI _)
  ·intro a' hf
   have h3:=acd hb
   simp only [cW,Sum.inr.injEq]at hf
   rw [← hf,hI,be (by omega) (by omega)];omega
 ·obtain c:=a
  simp [gj,nt,rF,rG,rH,rI,xB,rJ,my,bo,LT.out,ey]
def gQ(b:List arp):(List arp)→Nat ⊕ (List arp)
 |a=>(.inr (a++(b)))
def ez(a:akQ)(i:Nat):(List arp)→cV
 |b=>((i:Int),(↑a.length:Int),a,b)
def wQ:cV→List arp
 |(_,_,_,a)=>a
theorem Qw(c:akQ)(e:List arp)(hn:c.length≤9223372036854775807)(hS:Fq c≤2000000)(h3:e= []):
  bp.fin ((0:Int),(↑c.length:Int),c,e)=true∧bp.res ((0:Int),(↑c.length:Int),c,e)=((bH (gQ) 0 c 0 e).1,(ez c) (bH (gQ) 0 c 0 e).2.1 (bH (gQ) 0 c 0 e).2.2):=by
 have qa:=bp.along (ez c) wQ (gQ) 0 (fun i a=>a.length=Fq (c.take i)) c e (by rw [h3];simp [Fq]) (by simp only [bp,ez];omega) (fun i b a hb hI=> ?_) (fun a hI=> ?_)
 ·exact qa
 ·obtain e:=a
  have iX:=(k7.1 hb).1
  have pI: ∀ d,v5 c[i]? d=b:=fun d=>by rw [hb];rfl
  have hw:=AV iX hn
  have lR:ltI (i:Int) (c.length:Int)=true:=ew (by omega)
  have Nl:leI (0:Int) (i:Int)=true:=cG (by omega)
  have wO:ltN i c.length=true:=gM iX
  refine⟨?_,?_,?_,?_⟩
  ·have hg2:dB (i:Int) c=b:=by simp only [dB,z6];exact pI _
   have h3:=acd hb
   have h6:leN (a.length + b.length) 9223372036854775807=true:=bK (by omega)
   have h7:leN ((a.length + b.length) * 16) 140737488355328=true:=bK (by omega)
   simp only [bp,mz,nu,rK,rL,rM,rN,rO,LT.nds,allT,ez,lR,Nl,wO,hg2,h6,h7,z6,cond_true,Bool.and_self]
  ·simp [dB,nu,rK,rL,rM,rN,rO,xC,rP,mz,bp,LT.each,ez,wQ,hw]
  ·have hg2:dB (i:Int) c=b:=by simp only [dB,z6];exact pI _
   simp only [bp,mz,nu,rP,LT.fn,ez,wQ,gQ,lR,hg2,cond_true]
  ·intro a' hf
   have h3:=acd hb
   simp only [gQ,Sum.inr.injEq]at hf
   rw [← hf,z9];omega
 ·obtain e:=a
  simp [dB,nu,rK,rL,rM,rN,rO,xC,rP,mz,bp,LT.out,ez]
theorem akM: ∀ (l:akQ) (acc:List arp),l.foldl (fun a b=>a++b) acc=acc++l.flatten
 | [],acc=>by simp
 |a::r,acc=>by rw [List.foldl_cons,akM r];simp
theorem aqk(l:akQ)(h:(leN l.length 1000&&leN (Fq l) 2000000)=true):zS l=l.flatten∧zT l=true:=by
 simp only [q9,iC]at h
 obtain⟨w1,w2⟩:=Qv l 0 (by omega) rfl h.2
 have hw:(bH cW 0 l 0 (0:Int)).2.2=(Fq l:Int):=by
  have hg: ∀ (r:akQ) (i:Nat) (a:Int),0≤a→a + Fq r≤2000000→(bH cW 0 r i a).2.2=a + Fq r:=by
   intro r
   induction r with
   |nil=>intro i a _ _;simp [bH,Fq]
   |cons x r ih=>
    intro i a h0 h1
    have h3:Fq (x::r)=x.length + Fq r:=by simp [Fq]
    have hf:cW x a= .inr (a + (x.length:Int)):=by
     simp only [cW]
     rw [be (by omega) (by omega)]
    simp only [bH,hf]
    rw [ih (i + 1) (a + (x.length:Int)) (by omega) (by omega),h3]
    omega
  have:=hg l 0 0 (by omega) (by omega)
  omega
 have ha1:tu l=(Fq l:Int):=by
  simp only [tu,tt,w2,ey]
  exact hw
 obtain⟨g1,g2⟩:=apz (Fq l:Int) (by omega) (by omega)
 obtain⟨v1,v2⟩:=Qw l [] (by omega) h.2 rfl
 rw [Ye (f:=gQ) (g:=fun a b=>a++b) (fun b a=>rfl),akM]at v2
 refine⟨?_,?_⟩
 ·simp only [zS,tv,ha1,g1,v2,ez,List.nil_append]
 ·simp only [zT,tv,ha1,g1,g2,v1,tt,w1,allT,cond_true]
def Ho:arq
 | [.one ⟨false,[.ref 0]⟩],[.row false 24 (.sl 9 (.str)) a]=>some ⟨art (.ref 1),[arK a],[arw (a.flatten)],[leN a.length 1000&&leN (Fq a) 2000000]⟩
 |_,_=>none
def aT:PF prog:=PF.alt RY Ho (by
 intro args es o h cm;unfold Ho at h;split at h
 ·rename_i a
  cases h
  have cm:=lv cm
  have hh:=aqk a cm
  obtain⟨e0,en⟩:=hh
  exact re rfl (la en) rfl rfl (by simp only [e0] <;> rfl)
 ·cases h)
abbrev mr:=Int×arp×arp×List arp×List arp×List arp×List (arp×(List (Int×(arp×Int))))
section
variable (a:Int)(b:agS)
def wF:Bool:=ltI a (↑b.length:Int)
def wG:Bool:=ltN a.toNat b.length
def nB:arp×aje:=v5 b[k8 a]? (ul aao)
def jX:Bool:= !iA ((nB a b).1)
def sI:aje:=bif !jX a b&&true then (nB a b).2else []
def xO:Bool:=wF a b
def FQ:Bool:=leI 0 a
def FR:Bool:=wG a b
def FS:Bool:=sU ((nB a b).1)
def FT:Bool:= !(!jX a b&&true)||leI 0 a
def FU:Bool:= !(!jX a b&&true)||wF a b
def FV:Bool:= !(!jX a b&&true)||wG a b
def FW:Bool:= !(!jX a b&&true)||TL (sI a b)
def Bl:Bool:=bif jX a b then true else !ac8 (sI a b)
def FX:Int:=v6 .i64 (a + (1:Int))
end
def aaT:mr→List (Nat×SV)
 |(a,_,_,_,_,_,_)=> [(3,(aru a)),(1,(art (.ptr 0 0)))]
def aaR:mr→List (Nat×Entry)
 |(_,a,b,c,d,e,f)=> [(0,(.box 27 [.val (.string a),.ref 1,.ref 2,.ref 3,.val (.string b),.ref 4])),(1,(arv c)),(2,(arv d)),(3,(arv e)),(4,(arx f))]
def aba:Nat→mr→List (Nat×SV)
 |0,(_,_,_,_,_,_,_)=> [(2,(art (.val (.bool false))))]
 |_,_=>[]
def zP:mr→LT mr
 |(a,b,c,d,e,f,g)=> .ite (xO a g) (.need [FQ a,xO a g,FR a g,FS a g,FT a g,FU a g,FV a g,FW a g] (.ite (Bl a g) (.ext 0 [(0,0),(1,1),(2,2),(3,3),(4,4)]) (.nrm ((FX a),b,c,d,e,f,g) [(0,0),(1,1),(2,2),(3,3),(4,4)]))) (.ext 1 [(0,0),(1,1),(2,2),(3,3),(4,4)])
def LE(s:St):Option mr:=do
 let some ⟨none,.one ⟨false,[.val (.int .i64 a)]⟩⟩:=s.look 3|none
 let some ⟨none,.one ⟨false,[.ptr 320 0]⟩⟩:=s.look 1|none
 let some (.box 27 [.val (.string b),.ref 0,.ref 1,.ref 2,.val (.string c),.ref 3]):=s.ent 320|none
 let some (.row false 9 (.str) d):=s.ent 0|none
 let some (.row false 9 (.str) e):=s.ent 1|none
 let some (.row false 9 (.str) f):=s.ent 2|none
 let some (.row false 61 (.pair .str (.sl 64 (.pair (.int .i64) (.pair .str (.int .i64))))) g):=s.ent 3|none
 some (a,b,c,d,e,f,g)
def fl:Lp mr where
 h:=⟨[37,38,39,40,41,44,45,46,47,48,49,50,51,52,53,54,55,56,57,58,59,60,61,2,42,43,3],[0,1,2,3,4],[],[]⟩
 JL:=aaT
 JE:=aaR
 XL:=aba
 XE:=fun _=>aaR
 q:=fun j=>match j with | 0=> .ret | _=> .exit 0
 tags:= [0,1]
 lt:=zP
 fuel:=fun(a,b,c,d,e,f,g)=>a.natAbs + b.size + c.size + d.length + e.length + f.length + g.length
 fix:=fun(_,b,c,d,e,f,g) (a,_,_,_,_,_,_)=>(a,b,c,d,e,f,g)
 σ:= [(0,320),(1,0),(2,1),(3,2),(4,3)]
 rd:=LE
theorem YR:LoopOk prog (fun k=>Nat.blt k Tryz.f47.ntmps) fl.F (bc f47 0):=by
 refine Lp.ok (tbl:= (T3z [EG,zR,DY,xN])) (lf:= []) aZ fl (by kernel_rfl) (LOk.nil _) (fun _=>rfl) (fun j _=>by unfold fl;match j with | 0=>rfl | _ + 1=>rfl) ?_ ?_ ?_ ?_ (fun _=>rfl) ?_
 ·intro _;kernel_rfl
 ·intro _;kernel_rfl
 ·intro s x h
  have h:LE s=some x:=h
  unfold LE at h
  repeat' split at h
  all_goals cases h
  constructor<;>repeat(first|refine aa ‹_› rfl ?_|refine ab rfl ‹_› rfl ?_|rfl)
 ·intro _;kernel_rfl
 ·intro _ _;exact(And.intro (And.intro trivial rfl) trivial)
section
variable (a:arp)(b c d:List arp)
def PP:Bool:=bif !iA a then true else !(List.all b jP&&inR (↑b.length:Int) 1 20)
def PQ:Bool:=bif PP a b then true else !(List.all c jP&&inR (↑c.length:Int) 0 20)
def PR:Bool:=bif PQ a b c then true else !(List.all d jP&&inR (↑d.length:Int) 1 20)
end
def PS(a:arp):Bool:=
 !ByteArray.toList a==ByteArray.toList { data:= #[] }
section
variable (a b:arp)(c d e:List arp)(f:agT)
def PT:Bool:=bif PR a c d e then true else bif PS b then !iA b else false
def Ks:Int×arp×arp×List arp×List arp×List arp×agT:=((0:Int),a,b,c,d,e,f)
def GS:Bool:=bif PT a b c d e then false else bif Nat.beq ((Lp.res fl (Ks a b c d e f)).1) 0 then false else cd (↑f.length:Int) 1 40
def Mt:Bool:=allT [sU a,!(!!iA a&&true)||QO c,!(!PP a c&&true)||QO d,!(!PQ a c d&&true)||QO e,!(PS b&&(!PR a c d e&&true))||sU b,PT a b c d e||Lp.fin fl (Ks a b c d e f)]
end
def Xp:arq
 | [.one ⟨true,[.val (.string a),.ref 0,.ref 1,.ref 2,.val (.string b),.ref 3]⟩],[.row false 9 (.str) c,.row false 9 (.str) d,.row false 9 (.str) e,.row false 61 (.pair (.str) (.sl 64 (.pair (.int .i64) (.pair (.str) (.int .i64))))) f]=>some ⟨art (.val (.bool (GS a b c d e f))),[arv c,arv d,arv e,arz f],[],[Mt a b c d e f]⟩
 |_,_=>none
def Rd:PF prog:=PF.ofG prog (T3z [EG,zR,DY,xN]) [fl.F] aZ 47 f47 func47 (LOk.fnT (l:= [bc f47 0]) (by kernel_rfl) (.cons YR (.nil _))) Xp (by
 intro _ _ _ h;unfold Xp at h;split at h<;>cases h;kernel_rfl)
def sY(a:arp)(b c:List arp):Bool:=bif leI 0 (gh b a)then true else leI 0 (gh c a)
def Dp(a:arp)(b c:List arp):Bool:=allT [leN b.length (9223372036854775807:Nat),!(!leI 0 (gh b a)&&true)||leN c.length (9223372036854775807:Nat)]
def Uh:arq
 | [.one ⟨true,[.val (.string _x0),.ref 0,.ref 1,.ref 2,.val (.string _x1),.ref 3]⟩,.one ⟨false,[.val (.string a)]⟩],[.row false 9 (.str) b,.row false 9 (.str) c,.row false 9 (.str) d,.row false 61 (.pair (.str) (.sl 64 (.pair (.int .i64) (.pair (.str) (.int .i64))))) e]=>some ⟨art (.val (.bool (sY a b c))),[arv b,arv c,arv d,arz e],[],[Dp a b c]⟩
 |_,_=>none
def kO:PF prog:=PF.ofG prog (T3z [da]) [] aZ 77 f77 func77 (fun c _=>LOk.nil c) Uh (by
 intro _ _ _ h;unfold Uh at h;split at h<;>cases h;kernel_rfl)
abbrev nJ:=Int×arp×arp×List arp×List arp×List arp×List arp×List (arp×(List (Int×(arp×Int))))
section
variable (a:Int)(b c d:List arp)(e:agS)
def jF:arp:=(v5 e[k8 a]? (ul aao)).1
def zi:Bool:=ltI a (↑e.length:Int)
def Db:Bool:=leI 0 a
def Dc:Bool:=ltN a.toNat e.length
def Dd:Bool:=leN c.length (9223372036854775807:Nat)
def De:Bool:= !(ltI (gh c (jF a e)) 0&&true)||leN d.length (9223372036854775807:Nat)
def Df:Bool:=bif ltI (gh c (jF a e)) 0 then ltI (gh d (jF a e)) 0 else false
def Dg:Bool:=leN (k9 b + k9 [jF a e]) (9223372036854775807:Nat)
def Dh:Bool:=leN ((k9 b + k9 [jF a e]) * (16:Nat)) 140737488355328
def Di:Int:=v6 .i64 (a + (1:Int))
def Dj:List arp:=b++ [jF a e]
end
def acs:nJ→List (Nat×SV)
 |(a,_,_,_,_,_,_,_)=> [(4,(aru a)),(1,(art (.ptr 0 0))),(3,(art (.ref 1)))]
def acj:nJ→List (Nat×Entry)
 |(_,a,b,c,d,e,f,g)=> [(0,(.box 27 [.val (.string a),.ref 2,.ref 3,.ref 4,.val (.string b),.ref 5])),(2,(arv d)),(3,(arv e)),(4,(arv f)),(5,(arx g)),(1,(arw c))]
def acK:Nat→nJ→List (Nat×SV)
 |0,(_,_,_,_,_,_,_,_)=> [(2,(aru 3))]
 |_,(_,_,_,_,_,_,_,_)=> [(3,(art (.ref 1)))]
def acB:Nat→nJ→List (Nat×Entry)
 |0,(_,a,b,c,d,e,f,g)=> [(0,(.box 27 [.val (.string a),.ref 2,.ref 3,.ref 4,.val (.string b),.ref 5])),(1,(arw c)),(2,(arv d)),(3,(arv e)),(4,(arv f)),(5,(arx g))]
 |_,(_,a,b,c,d,e,f,g)=> [(0,(.box 27 [.val (.string a),.ref 2,.ref 3,.ref 4,.val (.string b),.ref 5])),(1,(arw c)),(2,(arv d)),(3,(arv e)),(4,(arv f)),(5,(arx g))]
def Bf:nJ→LT nJ
 |(a,b,c,d,e,f,g,i)=> .ite (zi a i) (.need [Db a,zi a i,Dc a i] (.need [Dd f,De a f g i] (.ite (Df a f g i) (.ext 0 [(0,0),(1,1),(2,2),(3,3),(4,4),(5,5)]) (.need [Dg a d i,Dh a d i] (.nrm ((Di a),b,c,Dj a d i,e,f,g,i) [(0,0),(1,1792),(2,2),(3,3),(4,4),(5,5)]))))) (.ext 1 [(0,0),(1,1),(2,2),(3,3),(4,4),(5,5)])
def Na(s:St):Option nJ:=do
 let some ⟨none,.one ⟨false,[.val (.int .i64 a)]⟩⟩:=s.look 4|none
 let some ⟨none,.one ⟨false,[.ptr 320 0]⟩⟩:=s.look 1|none
 let some ⟨none,.one ⟨false,[.ref 1280]⟩⟩:=s.look 3|none
 let some (.box 27 [.val (.string b),.ref 0,.ref 1,.ref 2,.val (.string c),.ref 3]):=s.ent 320|none
 let some (.row false 9 (.str) e):=s.ent 0|none
 let some (.row false 9 (.str) f):=s.ent 1|none
 let some (.row false 9 (.str) g):=s.ent 2|none
 let some (.row false 61 (.pair .str (.sl 64 (.pair (.int .i64) (.pair .str (.int .i64))))) i):=s.ent 3|none
 let some (.row true 9 (.str) d):=s.ent 1280|none
 some (a,b,c,d,e,f,g,i)
def ec:Lp nJ where
 h:=⟨[23,24,25,26,27,30,31,32,33,34,35,5,36,37,38,39,40,41,42,43,44,45,46,47,2,48,49,50,51,3,28,29,4],[0,2,3,4,5],[1],[]⟩
 JL:=acs
 JE:=acj
 XL:=acK
 XE:=acB
 q:=fun j=>match j with | 0=> .ret | _=> .exit 0
 tags:= [0,1]
 lt:=Bf
 fuel:=fun(a,b,c,d,e,f,g,i)=>a.natAbs + b.size + c.size + d.length + e.length + f.length + g.length + i.length
 fix:=fun(_,b,c,_,e,f,g,i) (a,_,_,d,_,_,_,_)=>(a,b,c,d,e,f,g,i)
 σ:= [(0,320),(2,0),(3,1),(4,2),(5,3),(1,1280)]
 rd:=Na
theorem aav:LoopOk prog (fun k=>Nat.blt k Tryz.f48.ntmps) ec.F (bc f48 0):=by
 refine Lp.ok (tbl:= (T3z [da,eG,oT,kO])) (lf:= []) aZ ec (by kernel_rfl) (LOk.nil _) (fun _=>rfl) (fun j _=>by unfold ec;match j with | 0=>rfl | _ + 1=>rfl) ?_ ?_ ?_ ?_ (fun _=>rfl) ?_
 ·intro _;kernel_rfl
 ·intro _;kernel_rfl
 ·intro s x h
  have h:Na s=some x:=h
  unfold Na at h
  repeat' split at h
  all_goals cases h
  constructor<;>repeat(first|refine aa ‹_› rfl ?_|refine ab rfl ‹_› rfl ?_|rfl)
 ·intro _;kernel_rfl
 ·intro _ _;exact(And.intro (And.intro trivial rfl) trivial)
abbrev oL:=Int×Int×arp×arp×List arp×List arp×List arp×List (arp×(List (Int×(arp×Int))))
section
variable (a b:Int)(c d:List arp)(e:agS)
def xJ:aje:=(v5 e[k8 b]? (ul aao)).2
def xK:Int×arp×Int:=v5 (xJ b e)[k8 a]? ((0:Int),ByteArray.empty,(0:Int))
def Iu:Bool:=(xK a b e).1==1
def Kd:Bool:=leI 0 b
def Ke:Bool:=ltI b (↑e.length:Int)
def DH:Bool:=ltN b.toNat e.length
def vi:Bool:=ltI a (↑(k9 (xJ b e)):Int)
def QM:Bool:=leI 0 a
def Kf:Bool:=ltN a.toNat (k9 (xJ b e))
def Kg:Bool:= !(Iu a b e&&true)||Dp (((xK a b e).2).1) c d
def Kh:Bool:=bif Iu a b e then !sY (((xK a b e).2).1) c d else false
def QN:Int:=v6 .i64 (a + (1:Int))
end
def Yp:oL→List (Nat×SV)
 |(a,b,_,_,_,_,_,_)=> [(7,(aru a)),(1,(art (.ptr 0 0))),(6,(aru b))]
def Yl:oL→List (Nat×Entry)
 |(_,_,a,b,c,d,e,f)=> [(0,(.box 27 [.val (.string a),.ref 1,.ref 2,.ref 3,.val (.string b),.ref 4])),(1,(arv c)),(2,(arv d)),(3,(arv e)),(4,(arx f))]
def Yx:Nat→oL→List (Nat×SV)
 |0,(_,_,_,_,_,_,_,_)=> [(2,(aru 6))]
 |_,_=>[]
def xk:oL→LT oL
 |(a,b,c,d,e,f,g,i)=> .need [Kd b,Ke b i,DH b i] (.ite (vi a b i) (.need [Kd b,Ke b i,DH b i,QM a,vi a b i,Kf a b i] (.need [Kg a b e f i] (.ite (Kh a b e f i) (.ext 0 [(0,0),(1,1),(2,2),(3,3),(4,4)]) (.nrm ((QN a),b,c,d,e,f,g,i) [(0,0),(1,1),(2,2),(3,3),(4,4)])))) (.ext 1 [(0,0),(1,1),(2,2),(3,3),(4,4)]))
def Id(s:St):Option oL:=do
 let some ⟨none,.one ⟨false,[.val (.int .i64 a)]⟩⟩:=s.look 7|none
 let some ⟨none,.one ⟨false,[.ptr 0 0]⟩⟩:=s.look 1|none
 let some ⟨none,.one ⟨false,[.val (.int .i64 b)]⟩⟩:=s.look 6|none
 let some (.box 27 [.val (.string c),.ref 1,.ref 2,.ref 3,.val (.string d),.ref 4]):=s.ent 0|none
 let some (.row false 9 (.str) e):=s.ent 1|none
 let some (.row false 9 (.str) f):=s.ent 2|none
 let some (.row false 9 (.str) g):=s.ent 3|none
 let some (.row false 61 (.pair .str (.sl 64 (.pair (.int .i64) (.pair .str (.int .i64))))) i):=s.ent 4|none
 some (a,b,c,d,e,f,g,i)
def eu:Lp oL where
 h:=⟨[71,72,73,74,75,76,77,78,79,82,83,84,85,86,87,88,89,90,8,91,92,93,94,95,96,97,98,99,100,2,80,81,7],[0,1,2,3,4],[],[]⟩
 JL:=Yp
 JE:=Yl
 XL:=Yx
 XE:=fun _=>Yl
 q:=fun j=>match j with | 0=> .ret | _=> .exit 4
 tags:= [0,1]
 lt:=xk
 fuel:=fun(a,b,c,d,e,f,g,i)=>a.natAbs + b.natAbs + c.size + d.size + e.length + f.length + g.length + i.length
 fix:=fun(_,b,c,d,e,f,g,i) (a,_,_,_,_,_,_,_)=>(a,b,c,d,e,f,g,i)
 σ:= [(0,0),(1,1),(2,2),(3,3),(4,4)]
 rd:=Id
theorem WY:LoopOk prog (memN [64,65,66,67,68,7,71,72,73,74,75,76,77,78,79,82,83,84,85,86,87,88,89,90,8,91,92,93,94,95,96,97,98,99,100,2,80,81,69,70,6]) eu.F (SL (bc f48 1) 0):=by
 refine Lp.ok (tbl:= (T3z [da,eG,oT,kO])) (lf:= []) aZ eu (by kernel_rfl) (LOk.nil _) (fun _=>rfl) (fun j _=>by unfold eu;match j with | 0=>rfl | _ + 1=>rfl) ?_ ?_ ?_ ?_ (fun _=>rfl) ?_
 ·intro _;kernel_rfl
 ·intro _;kernel_rfl
 ·intro s x h
  have h:Id s=some x:=h
  unfold Id at h
  repeat' split at h
  all_goals cases h
  constructor<;>repeat(first|refine aa ‹_› rfl ?_|refine ab rfl ‹_› rfl ?_|rfl)
 ·intro _;kernel_rfl
 ·intro _ _;exact(And.intro (And.intro trivial rfl) trivial)
abbrev sd:=Int×arp×arp×List arp×List arp×List arp×List (arp×(List (Int×(arp×Int))))
section
variable (a:Int)(b c:arp)(d e f:List arp)(g:agS)
def Nk:Int×Int×arp×arp×List arp×List arp×List arp×agT:=((0:Int),a,b,c,d,e,f,g)
def Oy:Bool:=ltI a (↑g.length:Int)
def Vg:Bool:=Lp.fin eu (Nk a b c d e f g)
def Oz:Bool:=Nat.beq ((Lp.res eu (Nk a b c d e f g)).1) 0
def Vh:Int:=v6 .i64 (a + (1:Int))
end
def act:sd→List (Nat×SV)
 |(a,_,_,_,_,_,_)=> [(6,(aru a)),(1,(art (.ptr 0 0)))]
def ack:sd→List (Nat×Entry)
 |(_,a,b,c,d,e,f)=> [(0,(.box 27 [.val (.string a),.ref 1,.ref 2,.ref 3,.val (.string b),.ref 4])),(1,(arv c)),(2,(arv d)),(3,(arv e)),(4,(arx f))]
def acL:Nat→sd→List (Nat×SV)
 |0,(_,_,_,_,_,_,_)=> [(2,(aru 6))]
 |_,_=>[]
def Bg:sd→LT sd
 |(a,b,c,d,e,f,g)=> .ite (Oy a g) (.need [Vg a b c d e f g] (.ite (Oz a b c d e f g) (.ext 0 [(0,0),(1,1),(2,2),(3,3),(4,4)]) (.nrm ((Vh a),b,c,d,e,f,g) [(0,0),(1,1),(2,2),(3,3),(4,4)]))) (.ext 1 [(0,0),(1,1),(2,2),(3,3),(4,4)])
def Nb(s:St):Option sd:=do
 let some ⟨none,.one ⟨false,[.val (.int .i64 a)]⟩⟩:=s.look 6|none
 let some ⟨none,.one ⟨false,[.ptr 320 0]⟩⟩:=s.look 1|none
 let some (.box 27 [.val (.string b),.ref 0,.ref 1,.ref 2,.val (.string c),.ref 3]):=s.ent 320|none
 let some (.row false 9 (.str) d):=s.ent 0|none
 let some (.row false 9 (.str) e):=s.ent 1|none
 let some (.row false 9 (.str) f):=s.ent 2|none
 let some (.row false 61 (.pair .str (.sl 64 (.pair (.int .i64) (.pair .str (.int .i64))))) g):=s.ent 3|none
 some (a,b,c,d,e,f,g)
def eS:Lp sd where
 h:=⟨[64,65,66,67,68,7,71,72,73,74,75,76,77,78,79,82,83,84,85,86,87,88,89,90,8,91,92,93,94,95,96,97,98,99,100,2,80,81,69,70,6],[0,1,2,3,4],[],[]⟩
 JL:=act
 JE:=ack
 XL:=acL
 XE:=fun _=>ack
 q:=fun j=>match j with | 0=> .ret | _=> .exit 2
 tags:= [0,1]
 lt:=Bg
 fuel:=fun(a,b,c,d,e,f,g)=>a.natAbs + b.size + c.size + d.length + e.length + f.length + g.length
 fix:=fun(_,b,c,d,e,f,g) (a,_,_,_,_,_,_)=>(a,b,c,d,e,f,g)
 σ:= [(0,320),(1,0),(2,1),(3,2),(4,3)]
 rd:=Nb
theorem aaw:LoopOk prog (fun k=>Nat.blt k Tryz.f48.ntmps) eS.F (bc f48 1):=by
 refine Lp.ok (tbl:= (T3z [da,eG,oT,kO])) (lf:= [eu.F]) aZ eS (by kernel_rfl) (LOk.allT (l:= [SL (bc f48 1) 0]) (by kernel_rfl) (.cons WY (.nil _))) (fun _=>rfl) (fun j _=>by unfold eS;match j with | 0=>rfl | _ + 1=>rfl) ?_ ?_ ?_ ?_ (fun _=>rfl) ?_
 ·intro _;kernel_rfl
 ·intro _;kernel_rfl
 ·intro s x h
  have h:Nb s=some x:=h
  unfold Nb at h
  repeat' split at h
  all_goals cases h
  constructor<;>repeat(first|refine aa ‹_› rfl ?_|refine ab rfl ‹_› rfl ?_|rfl)
 ·intro _;kernel_rfl
 ·intro _ _;exact(And.intro (And.intro trivial rfl) trivial)
def wN(a b c:List arp):List arp:=a++b++c
def zh(a:arp):Bool:=
 !ByteArray.toList a==ByteArray.toList { data:= #[] }
section
variable (a b:arp)(c d e:List arp)(f:agT)
def Mw:List arp×List arp×List arp×agT:=(c,d,e,f)
def BR:Int×arp×arp×List arp×List arp×List arp×List arp×agT:=((0:Int),a,b,[],Mw c d e f)
def GY:Bool:=Nat.beq ((Lp.res ec (BR a b c d e f)).1) 0
def BT:List arp:=((Lp.res ec (BR a b c d e f)).2.2.2.2).1
def Mx:Bool:=ltI (↑(k9 (BT a b c d e f)):Int) (v6 .i64 ((↑d.length:Int) + (↑e.length:Int)))
def My:Int×arp×arp×List arp×List arp×List arp×agT:=((0:Int),a,b,Mw c d e f)
def NY:Int:=bif oH (wN c d e)then(1:Int)else bif bif zh b then !sY b c d else false then(2:Int)else bif GY a b c d e f then(3:Int)else bif oH (BT a b c d e f)then(4:Int)else bif Mx a b c d e f then(5:Int)else bif Nat.beq ((Lp.res eS (My a b c d e f)).1) 0 then(6:Int)else(0:Int)
def NZ:Bool:=allT [leN (k9 c + k9 d + k9 e) 2000000,leN (k9 (wN c d e)) 9223372036854775807,oH (wN c d e)||(!(zh b&&true)||Dp b c d),oH (wN c d e)||((bif zh b then !sY b c d else false)||Lp.fin ec (BR a b c d e f)),oH (wN c d e)||((bif zh b then !sY b c d else false)||(GY a b c d e f||leN (k9 (BT a b c d e f)) 9223372036854775807)),oH (wN c d e)||((bif zh b then !sY b c d else false)||(GY a b c d e f||(oH (BT a b c d e f)||(Mx a b c d e f||Lp.fin eS (My a b c d e f)))))]
end
def Zu:arq
 | [.one ⟨true,[.val (.string a),.ref 0,.ref 1,.ref 2,.val (.string b),.ref 3]⟩],[.row false 9 (.str) c,.row false 9 (.str) d,.row false 9 (.str) e,.row false 61 (.pair (.str) (.sl 64 (.pair (.int .i64) (.pair (.str) (.int .i64))))) f]=>some ⟨aru (NY a b c d e f),[arv c,arv d,arv e,arz f],[],[NZ a b c d e f]⟩
 |_,_=>none
def SQ:PF prog:=PF.ofG prog (T3z [da,eG,oT,kO]) [ec.F,eS.F] aZ 48 f48 func48 (LOk.fnT (l:= [bc f48 0,bc f48 1]) (by kernel_rfl) (.cons aav (.cons aaw (.nil _)))) Zu (by
 intro _ _ _ h;unfold Zu at h;split at h<;>cases h;kernel_rfl)
def GF(a:aje):Bool:=ltI 40 (↑a.length:Int)
def wc:arq
 | [.one ⟨true,[.val (.string _x0),.ref 0]⟩],[.row false 64 (.pair (.int .i64) (.pair (.str) (.int .i64))) a]=>some ⟨art (.val (.bool (GF a))),[arA a],[],[]⟩
 |_,_=>none
def pv:PF prog:=PF.ofG prog [] [] aZ 93 f93 func93 (fun c _=>LOk.nil c) wc (by
 intro _ _ _ h;unfold wc at h;split at h<;>cases h;kernel_rfl)
def cP(a:aje):Bool:=ltI 40 (↑a.length:Int)
def sb:arq
 | [.one ⟨true,[.val (.string _x0),.ref 0]⟩],[.row false 64 (.pair (.int .i64) (.pair .str (.int .i64))) a]=>some ⟨art (.val (.bool (cP a))),[arA a],[],[]⟩
 |_,_=>none
def cR:PF prog:=PF.ofG prog [] [] aZ 93 f93 func93 (fun c _=>LOk.nil c) sb (by
 intro _ _ _ h;unfold sb at h;split at h<;>cases h;kernel_rfl)
abbrev bP:=Int×Int×List (arp×(List (Int×(arp×Int))))
section
variable (a b:Int)(c:agS)
def kx:Bool:=ltI a b
def nV:Bool:=leI 0 a
def nW:Bool:=ltI a (↑c.length:Int)
def nX:Bool:=ltN a.toNat c.length
def gL:Bool:=cP ((v5 c[k8 a]? (ul aao)).2)
def tD:Int:=v6 .i64 (a + (1:Int))
end
def KN:bP→List (Nat×SV)
 |(a,b,_)=> [(8,(aru a)),(7,(aru b)),(1,(art (.val (.func (.func 93) ⟨[]⟩ ⟨[]⟩)))),(0,(art (.ref 0)))]
def KH:bP→List (Nat×Entry)
 |(_,_,a)=> [(0,(arx a))]
def La:Nat→bP→List (Nat×SV)
 |0,(a,_,_)=> [(4,(aru a))]
 |_,_=>[]
def jT:bP→LT bP
 |(a,b,c)=> .ite (kx a b) (.need [nV a,nW a c,nX a c] (.ite (gL a c) (.ext 0 [(0,0)]) (.nrm ((tD a),b,c) [(0,0)]))) (.ext 1 [(0,0)])
def sw(s:St):Option bP:=do
 let some ⟨none,.one ⟨false,[.val (.int .i64 a)]⟩⟩:=s.look 8|none
 let some ⟨none,.one ⟨false,[.val (.int .i64 b)]⟩⟩:=s.look 7|none
 let some ⟨none,.one ⟨false,[.val (.func (.func 93) ⟨[]⟩ ⟨[]⟩)]⟩⟩:=s.look 1|none
 let some ⟨none,.one ⟨false,[.ref 0]⟩⟩:=s.look 0|none
 let some (.row false 61 (.pair .str (.sl 64 (.pair (.int .i64) (.pair .str (.int .i64))))) c):=s.ent 0|none
 some (a,b,c)
def aF:Lp bP where
 h:=⟨[9,10,5,11,12,13,14,15,16,17,4,18,8],[0],[],[]⟩
 JL:=KN
 JE:=KH
 XL:=La
 XE:=fun _=>KH
 q:=fun j=>match j with | 0=> .ret | _=> .exit 0
 tags:= [0,1]
 lt:=jT
 fuel:=fun(a,b,c)=>a.natAbs + b.natAbs + c.length
 fix:=fun(_,b,c) (a,_,_)=>(a,b,c)
 σ:= [(0,0)]
 rd:=sw
theorem Js:LoopOk prog (fun k=>Nat.blt k Tryz.f94.ntmps) aF.F (bc f94 0):=by
 refine Lp.ok (tbl:= (T3z [cR])) (lf:= []) aZ aF (by kernel_rfl) (LOk.nil _) (fun _=>rfl) (fun j _=>by unfold aF;match j with | 0=>rfl | _ + 1=>rfl) ?_ ?_ ?_ ?_ (fun _=>rfl) ?_
 ·intro _;kernel_rfl
 ·intro _;kernel_rfl
 ·intro s x h
  have h:sw s=some x:=h
  unfold sw at h
  repeat' split at h
  all_goals cases h
  constructor<;>repeat(first|refine aa ‹_› rfl ?_|refine ab rfl ‹_› rfl ?_|rfl)
 ·intro _;kernel_rfl
 ·intro _ _;exact(And.intro (And.intro trivial rfl) trivial)
section
variable (a:agT)
def pJ:Int×Int×agT:=((0:Int),(↑a.length:Int),a)
def vQ:Int:=bif Nat.beq ((Lp.res aF (pJ a)).1) 0 then ((Lp.res aF (pJ a)).2).1else(-1:Int)
def vR:Bool:=allT [Lp.fin aF (pJ a)]
end
def BU:arq
 | [.one ⟨false,[.ref 0]⟩,.one ⟨false,[.val (.func (.func 93) ⟨[]⟩ ⟨[]⟩)]⟩],[.row false 61 (.pair .str (.sl 64 (.pair (.int .i64) (.pair .str (.int .i64))))) a]=>some ⟨aru (vQ a),[arx a],[],[vR a]⟩
 |_,_=>none
def vK:PF prog:=PF.ofG prog (T3z [cR]) [aF.F] aZ 94 f94 func94 (LOk.fnT (l:= [bc f94 0]) (by kernel_rfl) (.cons Js (.nil _))) BU (by
 intro _ _ _ h;unfold BU at h;split at h<;>cases h;kernel_rfl)
def tw(a:agT):Bool:=leI 0 (vQ a)
def tx(a:agT):Bool:=allT [vR a]
def Au:arq
 | [.one ⟨false,[.ref 0]⟩,.one ⟨false,[.val (.func (.func 93) ⟨[]⟩ ⟨[]⟩)]⟩],[.row false 61 (.pair .str (.sl 64 (.pair (.int .i64) (.pair .str (.int .i64))))) a]=>some ⟨art (.val (.bool (tw a))),[arx a],[],[tx a]⟩
 |_,_=>none
def tg:PF prog:=PF.ofG prog (T3z [vK]) [] aZ 58 f58 func58 (fun c _=>LOk.nil c) Au (by
 intro _ _ _ h;unfold Au at h;split at h<;>cases h;kernel_rfl)
section
variable (a b c:List arp)(d:agT)
def pM:Bool:=bif bif bif leI (↑a.length:Int) 20 then leI (↑b.length:Int) 20 else false then leI (↑c.length:Int) 20 else false then leI (↑d.length:Int) 40 else false
def le:Bool:=bif pM a b c d then !tw d else false
def lg:Bool:=allT [!(pM a b c d&&true)||tx d]
end
def xa:arq
 | [.one ⟨true,[.val (.string _x0),.ref 0,.ref 1,.ref 2,.val (.string _x1),.ref 3]⟩],[.row false 9 (.str) a,.row false 9 (.str) b,.row false 9 (.str) c,.row false 61 (.pair (.str) (.sl 64 (.pair (.int .i64) (.pair (.str) (.int .i64))))) d]=>some ⟨art (.val (.bool (le a b c d))),[arv a,arv b,arv c,arz d],[],[lg a b c d]⟩
 |_,_=>none
def qh:PF prog:=PF.ofG prog (T3z [pv,tg]) [] aZ 57 f57 func57 (fun c _=>LOk.nil c) xa (by
 intro _ _ _ h;unfold xa at h;split at h<;>cases h;kernel_rfl)
def ad1(a:arp)(b:aje):Bool:= !lineB (a,b)
def ad2(a:aje):Bool:=allT [TL a]
def Uc:arq
 | [.one ⟨true,[.val (.string a),.ref 0]⟩],[.row false 64 (.pair (.int .i64) (.pair (.str) (.int .i64))) b]=>some ⟨art (.val (.bool (ad1 a b))),[arA b],[],[ad2 b]⟩
 |_,_=>none
def Oi:PF prog:=PF.ofG prog (T3z [IX]) [] aZ 59 f59 func59 (fun c _=>LOk.nil c) Uc (by
 intro _ _ _ h;unfold Uc at h;split at h<;>cases h;kernel_rfl)
def zx(a:arp)(b:aje):Bool:= !lineB (a,b)
def Fa(a:aje):Bool:=allT [TL a]
def Nn:arq
 | [.one ⟨true,[.val (.string a),.ref 0]⟩],[.row false 64 (.pair (.int .i64) (.pair .str (.int .i64))) b]=>some ⟨art (.val (.bool (zx a b))),[arA b],[],[Fa b]⟩
 |_,_=>none
def ra:PF prog:=PF.ofG prog (T3z [IX]) [] aZ 59 f59 func59 (fun c _=>LOk.nil c) Nn (by
 intro _ _ _ h;unfold Nn at h;split at h<;>cases h;kernel_rfl)
abbrev bQ:=Int×Int×List (arp×(List (Int×(arp×Int))))
section
variable (a b:Int)(c:agS)
def cp:arp×aje:=v5 c[k8 a]? (ul aao)
def ky:Bool:=ltI a b
def nY:Bool:=leI 0 a
def nZ:Bool:=ltI a (↑c.length:Int)
def oa:Bool:=ltN a.toNat c.length
def kz:Bool:=Fa ((cp a c).2)
def kA:Bool:=zx ((cp a c).1) ((cp a c).2)
def tE:Int:=v6 .i64 (a + (1:Int))
end
def KO:bQ→List (Nat×SV)
 |(a,b,_)=> [(8,(aru a)),(7,(aru b)),(1,(art (.val (.func (.func 59) ⟨[]⟩ ⟨[]⟩)))),(0,(art (.ref 0)))]
def KI:bQ→List (Nat×Entry)
 |(_,_,a)=> [(0,(arx a))]
def Lb:Nat→bQ→List (Nat×SV)
 |0,(a,_,_)=> [(4,(aru a))]
 |_,_=>[]
def jU:bQ→LT bQ
 |(a,b,c)=> .ite (ky a b) (.need [nY a,nZ a c,oa a c,kz a c] (.ite (kA a c) (.ext 0 [(0,0)]) (.nrm ((tE a),b,c) [(0,0)]))) (.ext 1 [(0,0)])
def sx(s:St):Option bQ:=do
 let some ⟨none,.one ⟨false,[.val (.int .i64 a)]⟩⟩:=s.look 8|none
 let some ⟨none,.one ⟨false,[.val (.int .i64 b)]⟩⟩:=s.look 7|none
 let some ⟨none,.one ⟨false,[.val (.func (.func 59) ⟨[]⟩ ⟨[]⟩)]⟩⟩:=s.look 1|none
 let some ⟨none,.one ⟨false,[.ref 0]⟩⟩:=s.look 0|none
 let some (.row false 61 (.pair .str (.sl 64 (.pair (.int .i64) (.pair .str (.int .i64))))) c):=s.ent 0|none
 some (a,b,c)
def aG:Lp bQ where
 h:=⟨[9,10,5,11,12,13,14,15,16,17,4,18,8],[0],[],[]⟩
 JL:=KO
 JE:=KI
 XL:=Lb
 XE:=fun _=>KI
 q:=fun j=>match j with | 0=> .ret | _=> .exit 0
 tags:= [0,1]
 lt:=jU
 fuel:=fun(a,b,c)=>a.natAbs + b.natAbs + c.length
 fix:=fun(_,b,c) (a,_,_)=>(a,b,c)
 σ:= [(0,0)]
 rd:=sx
theorem Jt:LoopOk prog (fun k=>Nat.blt k Tryz.f94.ntmps) aG.F (bc f94 0):=by
 refine Lp.ok (tbl:= (T3z [ra])) (lf:= []) aZ aG (by kernel_rfl) (LOk.nil _) (fun _=>rfl) (fun j _=>by unfold aG;match j with | 0=>rfl | _ + 1=>rfl) ?_ ?_ ?_ ?_ (fun _=>rfl) ?_
 ·intro _;kernel_rfl
 ·intro _;kernel_rfl
 ·intro s x h
  have h:sx s=some x:=h
  unfold sx at h
  repeat' split at h
  all_goals cases h
  constructor<;>repeat(first|refine aa ‹_› rfl ?_|refine ab rfl ‹_› rfl ?_|rfl)
 ·intro _;kernel_rfl
 ·intro _ _;exact(And.intro (And.intro trivial rfl) trivial)
section
variable (a:agT)
def pK:Int×Int×agT:=((0:Int),(↑a.length:Int),a)
def vS:Int:=bif Nat.beq ((Lp.res aG (pK a)).1) 0 then ((Lp.res aG (pK a)).2).1else(-1:Int)
def vT:Bool:=allT [Lp.fin aG (pK a)]
end
def BV:arq
 | [.one ⟨false,[.ref 0]⟩,.one ⟨false,[.val (.func (.func 59) ⟨[]⟩ ⟨[]⟩)]⟩],[.row false 61 (.pair .str (.sl 64 (.pair (.int .i64) (.pair .str (.int .i64))))) a]=>some ⟨aru (vS a),[arx a],[],[vT a]⟩
 |_,_=>none
def vL:PF prog:=PF.ofG prog (T3z [ra]) [aG.F] aZ 94 f94 func94 (LOk.fnT (l:= [bc f94 0]) (by kernel_rfl) (.cons Jt (.nil _))) BV (by
 intro _ _ _ h;unfold BV at h;split at h<;>cases h;kernel_rfl)
def nR(a:agT):Bool:=leI 0 (vS a)
def nS(a:agT):Bool:=allT [vT a]
def Av:arq
 | [.one ⟨false,[.ref 0]⟩,.one ⟨false,[.val (.func (.func 59) ⟨[]⟩ ⟨[]⟩)]⟩],[.row false 61 (.pair .str (.sl 64 (.pair (.int .i64) (.pair .str (.int .i64))))) a]=>some ⟨art (.val (.bool (nR a))),[arx a],[],[nS a]⟩
 |_,_=>none
def th:PF prog:=PF.ofG prog (T3z [vL]) [] aZ 58 f58 func58 (fun c _=>LOk.nil c) Av (by
 intro _ _ _ h;unfold Av at h;split at h<;>cases h;kernel_rfl)
def Ek(a:arp)(b c d:List arp):akQ:=bif gN a&&true then [b,c,d]else []
def Kj(a:arp)(b c d:List arp):List arp:=bif gN a&&true then List.flatten (Ek a b c d)else []
def Pp(a b:arp)(c d e:List arp)(f:agT):Bool:=
 bif
  bif
    bif
      bif bif gN a then List.all (Kj a c d e) jP else false then
       bif ByteArray.toList b==ByteArray.toList { data:= #[] } then true else gN b
      else false then
     ltI (0:Int) (↑c.length:Int)
    else false then
   ltI (0:Int) (↑e.length:Int)
  else false then
 ltI (0:Int) (↑f.length:Int)
 else false
section
variable (a b:arp)(c d e:List arp)(f:agT)
def Pq:Bool:=bif Pp a b c d e f then le c d e f else false
def yT:Bool:=bif Pq a b c d e f then !nR f else false
def Gm:Bool:=allT [!(gN a&&true)||leN (k9 (Ek a c d e)) 1000&&leN (Fq (Ek a c d e)) 2000000,!(gN a&&true)||leN (k9 (Kj a c d e)) 9223372036854775807,!(Pp a b c d e f&&true)||lg c d e f,!(Pq a b c d e f&&true)||nS f]
end
def Xi:arq
 | [.one ⟨true,[.val (.string a),.ref 0,.ref 1,.ref 2,.val (.string b),.ref 3]⟩],[.row false 9 (.str) c,.row false 9 (.str) d,.row false 9 (.str) e,.row false 61 (.pair (.str) (.sl 64 (.pair (.int .i64) (.pair (.str) (.int .i64))))) f]=>some ⟨art (.val (.bool (yT a b c d e f))),[arv c,arv d,arv e,arz f],[],[Gm a b c d e f]⟩
 |_,_=>none
def BN:PF prog:=PF.ofG prog (T3z [IY,SN,aT,qh,Oi,th]) [] aZ 37 f37 func37 (fun c _=>LOk.nil c) Xi (by
 intro _ _ _ h;unfold Xi at h;split at h<;>cases h;kernel_rfl)
section
variable (a b c:List arp)
def bM:akQ:= [a,b,c]
def ae:List arp:=List.flatten (bM a b c)
def cJ:Bool:=allT [leN (k9 (bM a b c)) 1000&&leN (Fq (bM a b c)) 2000000]
end
def yE:arq
 | [.one ⟨true,[.val (.string _x0),.ref 0,.ref 1,.ref 2,.val (.string _x1),.ref 3]⟩],[.row false 9 (.str) a,.row false 9 (.str) b,.row false 9 (.str) c,.row false 61 (.pair (.str) (.sl 64 (.pair (.int .i64) (.pair (.str) (.int .i64))))) d]=>some ⟨art (.ref 4),[arv a,arv b,arv c,arz d],[arw (ae a b c)],[cJ a b c]⟩
 |_,_=>none
def bT:PF prog:=PF.ofG prog (T3z [aT]) [] aZ 24 f24 func24 (fun c _=>LOk.nil c) yE (by
 intro _ _ _ h;unfold yE at h;split at h<;>cases h;kernel_rfl)
section
variable (a:Int)(b:arp)(c d:List arp)
def qx:Bool:=bif a==1 then !hasS c b else false
def qI:Bool:=bif qx a b c then !hasS d b else false
def qJ:Bool:=allT [!(a==1&&true)||leN c.length (9223372036854775807:Nat),!(qx a b c&&true)||leN d.length (9223372036854775807:Nat)]
end
def qy:arq
 | [.one ⟨true,[.val (.int .i64 a),.val (.string b),.val (.int .i64 _x2)]⟩,.one ⟨false,[.ptr 0 0]⟩],[.box 27 [.val (.string c),.ref 1,.ref 2,.ref 3,.val (.string d),.ref 4],.row false 9 (.str) e,.row false 9 (.str) f,.row false 9 (.str) g,.row false 61 (.pair .str (.sl 64 (.pair (.int .i64) (.pair .str (.int .i64))))) i]=>some ⟨art (.val (.bool (qI a b e f))),[.box 27 [.val (.string c),.ref 1,.ref 2,.ref 3,.val (.string d),.ref 4],arv e,arv f,arv g,arx i],[],[qJ a b e f]⟩
 |_,_=>none
def cj:PF prog:=PF.ofG prog (T3z [ao]) [] aZ 97 f97 func97 (fun c _=>LOk.nil c) qy (by
 intro _ _ _ h;unfold qy at h;split at h<;>cases h;kernel_rfl)
abbrev dv:=Int×Int×arp×arp×List (Int×(arp×Int))×List arp×List arp×List arp×List (arp×(List (Int×(arp×Int))))
section
variable (a b:Int)(c:ajd)(d e:List arp)
def nv:Int×arp×Int:=v5 c[k8 a]? ((0:Int),ByteArray.empty,(0:Int))
def Mk:Bool:=ltI a b
def Ml:Bool:=leI 0 a
def Mm:Bool:=ltI a (↑c.length:Int)
def Mn:Bool:=ltN a.toNat c.length
def Mo:Bool:=qJ ((nv a c).1) (((nv a c).2).1) d e
def Mp:Bool:=qI ((nv a c).1) (((nv a c).2).1) d e
def Mq:Int:=v6 .i64 (a + (1:Int))
end
def KQ:dv→List (Nat×SV)
 |(a,b,_,_,_,_,_,_,_)=> [(8,(aru a)),(7,(aru b)),(1,(art (.clo 97 [0]))),(0,(art (.ref 1)))]
def KK:dv→List (Nat×Entry)
 |(_,_,a,b,c,d,e,f,g)=> [(0,(.box 27 [.val (.string a),.ref 2,.ref 3,.ref 4,.val (.string b),.ref 5])),(1,(arA c)),(2,(arv d)),(3,(arv e)),(4,(arv f)),(5,(arx g))]
def Ld:Nat→dv→List (Nat×SV)
 |0,(a,_,_,_,_,_,_,_,_)=> [(4,(aru a))]
 |_,_=>[]
def Lt:dv→LT dv
 |(a,b,c,d,e,f,g,i,j)=> .ite (Mk a b) (.need [Ml a,Mm a e,Mn a e,Mo a e f g] (.ite (Mp a e f g) (.ext 0 [(0,0),(1,1),(2,2),(3,3),(4,4),(5,5)]) (.nrm ((Mq a),b,c,d,e,f,g,i,j) [(0,0),(1,1),(2,2),(3,3),(4,4),(5,5)]))) (.ext 1 [(0,0),(1,1),(2,2),(3,3),(4,4),(5,5)])
def sz(s:St):Option dv:=do
 let some ⟨none,.one ⟨false,[.val (.int .i64 a)]⟩⟩:=s.look 8|none
 let some ⟨none,.one ⟨false,[.val (.int .i64 b)]⟩⟩:=s.look 7|none
 let some ⟨none,.one ⟨false,[.clo 97 [1]]⟩⟩:=s.look 1|none
 let some ⟨none,.one ⟨false,[.ref 0]⟩⟩:=s.look 0|none
 let some (.box 27 [.val (.string c),.ref 2,.ref 3,.ref 4,.val (.string d),.ref 5]):=s.ent 1|none
 let some (.row false 64 (.pair (.int .i64) (.pair .str (.int .i64))) e):=s.ent 0|none
 let some (.row false 9 (.str) f):=s.ent 2|none
 let some (.row false 9 (.str) g):=s.ent 3|none
 let some (.row false 9 (.str) i):=s.ent 4|none
 let some (.row false 61 (.pair .str (.sl 64 (.pair (.int .i64) (.pair .str (.int .i64))))) j):=s.ent 5|none
 some (a,b,c,d,e,f,g,i,j)
def ed:Lp dv where
 h:=⟨[9,10,5,11,12,13,14,15,16,17,4,18,8],[0,1,2,3,4,5],[],[]⟩
 JL:=KQ
 JE:=KK
 XL:=Ld
 XE:=fun _=>KK
 q:=fun j=>match j with | 0=> .ret | _=> .exit 0
 tags:= [0,1]
 lt:=Lt
 fuel:=fun(a,b,c,d,e,f,g,i,k)=>a.natAbs + b.natAbs + c.size + d.size + e.length + f.length + g.length + i.length + k.length
 fix:=fun(_,b,c,d,e,f,g,i,k) (a,_,_,_,_,_,_,_,_)=>(a,b,c,d,e,f,g,i,k)
 σ:= [(0,1),(1,0),(2,2),(3,3),(4,4),(5,5)]
 rd:=sz
theorem Jv:LoopOk prog (fun k=>Nat.blt k Tryz.f104.ntmps) ed.F (bc f104 0):=by
 refine Lp.ok (tbl:= (T3z [cj])) (lf:= []) aZ ed (by kernel_rfl) (LOk.nil _) (fun _=>rfl) (fun j _=>by unfold ed;match j with | 0=>rfl | _ + 1=>rfl) ?_ ?_ ?_ ?_ (fun _=>rfl) ?_
 ·intro _;kernel_rfl
 ·intro _;kernel_rfl
 ·intro s x h
  have h:sz s=some x:=h
  unfold sz at h
  repeat' split at h
  all_goals cases h
  constructor<;>repeat(first|refine aa ‹_› rfl ?_|refine ab rfl ‹_› rfl ?_|rfl)
 ·intro _;kernel_rfl
 ·intro _ _;exact(And.intro (And.intro trivial rfl) trivial)
section
variable (a:aje)(b c:arp)(d e f:List arp)(g:agT)
def vo:Int×Int×arp×arp×aje×List arp×List arp×List arp×agT:=((0:Int),(↑a.length:Int),b,c,a,d,e,f,g)
def vp:Bool:=Nat.beq ((Lp.res ed (vo a b c d e f g)).1) 0
def CL:Int:=bif vp a b c d e f g then ((Lp.res ed (vo a b c d e f g)).2).1else(-1:Int)
def CM:arp:=bif vp a b c d e f g then b else b
def CN:arp:=bif vp a b c d e f g then c else c
def CO:Bool:=allT [Lp.fin ed (vo a b c d e f g)]
end
def BX:arq
 | [.one ⟨false,[.ref 0]⟩,.one ⟨false,[.clo 97 [1]]⟩],[.row false 64 (.pair (.int .i64) (.pair .str (.int .i64))) a,.box 27 [.val (.string b),.ref 2,.ref 3,.ref 4,.val (.string c),.ref 5],.row false 9 (.str) d,.row false 9 (.str) e,.row false 9 (.str) f,.row false 61 (.pair .str (.sl 64 (.pair (.int .i64) (.pair .str (.int .i64))))) g]=>some ⟨aru (CL a b c d e f g),[arA a,.box 27 [.val (.string (CM a b c d e f g)),.ref 2,.ref 3,.ref 4,.val (.string (CN a b c d e f g)),.ref 5],arv d,arv e,arv f,arx g],[],[CO a b c d e f g]⟩
 |_,_=>none
def vN:PF prog:=PF.ofG prog (T3z [cj]) [ed.F] aZ 104 f104 func104 (LOk.fnT (l:= [bc f104 0]) (by kernel_rfl) (.cons Jv (.nil _))) BX (by
 intro _ _ _ h;unfold BX at h;split at h<;>cases h;kernel_rfl)
section
variable (a:aje)(b c:arp)(d e f:List arp)(g:agT)
def AK:Bool:=leI 0 (CL a b c d e f g)
def Mf:arp:=CM a b c d e f g
def Mg:arp:=CN a b c d e f g
def AL:Bool:=allT [CO a b c d e f g]
end
def Ax:arq
 | [.one ⟨false,[.ref 0]⟩,.one ⟨false,[.clo 97 [1]]⟩],[.row false 64 (.pair (.int .i64) (.pair .str (.int .i64))) a,.box 27 [.val (.string b),.ref 2,.ref 3,.ref 4,.val (.string c),.ref 5],.row false 9 (.str) d,.row false 9 (.str) e,.row false 9 (.str) f,.row false 61 (.pair .str (.sl 64 (.pair (.int .i64) (.pair .str (.int .i64))))) g]=>some ⟨art (.val (.bool (AK a b c d e f g))),[arA a,.box 27 [.val (.string (Mf a b c d e f g)),.ref 2,.ref 3,.ref 4,.val (.string (Mg a b c d e f g)),.ref 5],arv d,arv e,arv f,arx g],[],[AL a b c d e f g]⟩
 |_,_=>none
def ti:PF prog:=PF.ofG prog (T3z [vN]) [] aZ 81 f81 func81 (fun c _=>LOk.nil c) Ax (by
 intro _ _ _ h;unfold Ax at h;split at h<;>cases h;kernel_rfl)
def Fh(a b:arp)(c d e:List arp)(f:agT)(g:aje):Bool:=AK g a b c d e f
def Fi(a b:arp)(c d e:List arp)(f:agT)(g:aje):Bool:=allT [AL g a b c d e f]
def vk:arq
 | [.one ⟨true,[.val (.string a),.ref 0,.ref 1,.ref 2,.val (.string b),.ref 3]⟩,.one ⟨true,[.val (.string _x2),.ref 4]⟩],[.row false 9 (.str) c,.row false 9 (.str) d,.row false 9 (.str) e,.row false 61 (.pair (.str) (.sl 64 (.pair (.int .i64) (.pair (.str) (.int .i64))))) f,.row false 64 (.pair (.int .i64) (.pair (.str) (.int .i64))) g]=>some ⟨art (.val (.bool (Fh a b c d e f g))),[arv c,arv d,arv e,arz f,arA g],[],[Fi a b c d e f g]⟩
 |_,_=>none
def dH:PF prog:=PF.ofG prog (T3z [ti]) [] aZ 65 f65 func65 (fun c _=>LOk.nil c) vk (by
 intro _ _ _ h;unfold vk at h;split at h<;>cases h;kernel_rfl)
def mL(a:arp)(b:List arp):Bool:= !hasS b a
def mM(a:List arp):Bool:=allT [leN a.length (9223372036854775807:Nat)]
def ug:arq
 | [.one ⟨false,[.val (.string a)]⟩,.one ⟨false,[.ptr 0 0]⟩],[.box 24 [.ref 1],.row true 9 (.str) b]=>some ⟨art (.val (.bool (mL a b))),[.box 24 [.ref 1],arw b],[],[mM b]⟩
 |_,_=>none
def dm:PF prog:=PF.ofG prog (T3z [ao]) [] aZ 63 f63 func63 (fun c _=>LOk.nil c) ug (by
 intro _ _ _ h;unfold ug at h;split at h<;>cases h;kernel_rfl)
abbrev bt:=Int×Int×List arp×List arp
section
variable (a b:Int)(c d:List arp)
def iM:Bool:=ltI a b
def iN:Bool:=leI 0 a
def iO:Bool:=ltI a (↑c.length:Int)
def iP:Bool:=ltN a.toNat c.length
def eQ:Bool:=mM d
def iQ:Bool:=mL (v5 c[k8 a]? ByteArray.empty) d
def lG:Int:=v6 .i64 (a + (1:Int))
end
def Hv:bt→List (Nat×SV)
 |(a,b,_,_)=> [(8,(aru a)),(7,(aru b)),(1,(art (.clo 63 [0]))),(0,(art (.ref 1)))]
def Hs:bt→List (Nat×Entry)
 |(_,_,a,b)=> [(0,(.box 24 [.ref 2])),(1,(arw a)),(2,(arw b))]
def HB:Nat→bt→List (Nat×SV)
 |0,(a,_,_,_)=> [(4,(aru a))]
 |_,_=>[]
def ip:bt→LT bt
 |(a,b,c,d)=> .ite (iM a b) (.need [iN a,iO a c,iP a c,eQ d] (.ite (iQ a c d) (.ext 0 [(0,0),(1,1),(2,2)]) (.nrm ((lG a),b,c,d) [(0,0),(1,1),(2,2)]))) (.ext 1 [(0,0),(1,1),(2,2)])
def qm(s:St):Option bt:=do
 let some ⟨none,.one ⟨false,[.val (.int .i64 a)]⟩⟩:=s.look 8|none
 let some ⟨none,.one ⟨false,[.val (.int .i64 b)]⟩⟩:=s.look 7|none
 let some ⟨none,.one ⟨false,[.clo 63 [1]]⟩⟩:=s.look 1|none
 let some ⟨none,.one ⟨false,[.ref 0]⟩⟩:=s.look 0|none
 let some (.box 24 [.ref 2]):=s.ent 1|none
 let some (.row true 9 (.str) c):=s.ent 0|none
 let some (.row true 9 (.str) d):=s.ent 2|none
 some (a,b,c,d)
def al:Lp bt where
 h:=⟨[9,10,5,11,12,13,14,15,16,17,4,18,8],[0,1,2],[],[]⟩
 JL:=Hv
 JE:=Hs
 XL:=HB
 XE:=fun _=>Hs
 q:=fun j=>match j with | 0=> .ret | _=> .exit 0
 tags:= [0,1]
 lt:=ip
 fuel:=fun(a,b,c,d)=>a.natAbs + b.natAbs + c.length + d.length
 fix:=fun(_,b,c,d) (a,_,_,_)=>(a,b,c,d)
 σ:= [(0,1),(1,0),(2,2)]
 rd:=qm
theorem GK:LoopOk prog (fun k=>Nat.blt k Tryz.f96.ntmps) al.F (bc f96 0):=by
 refine Lp.ok (tbl:= (T3z [dm])) (lf:= []) aZ al (by kernel_rfl) (LOk.nil _) (fun _=>rfl) (fun j _=>by unfold al;match j with | 0=>rfl | _ + 1=>rfl) ?_ ?_ ?_ ?_ (fun _=>rfl) ?_
 ·intro _;kernel_rfl
 ·intro _;kernel_rfl
 ·intro s x h
  have h:qm s=some x:=h
  unfold qm at h
  repeat' split at h
  all_goals cases h
  constructor<;>repeat(first|refine aa ‹_› rfl ?_|refine ab rfl ‹_› rfl ?_|rfl)
 ·intro _;kernel_rfl
 ·intro _ _;exact(And.intro (And.intro trivial rfl) trivial)
section
variable (a b:List arp)
def jz:Int×Int×List arp×List arp:=((0:Int),(↑a.length:Int),a,b)
def mI:Bool:=Nat.beq ((Lp.res al (jz a b)).1) 0
def sE:Int:=bif mI a b then ((Lp.res al (jz a b)).2).1else(-1:Int)
def zU:List arp:=bif mI a b then a else a
def zV:List arp:=bif mI a b then b else b
def sF:Bool:=allT [Lp.fin al (jz a b)]
end
def zG:arq
 | [.one ⟨false,[.ref 0]⟩,.one ⟨false,[.clo 63 [1]]⟩],[.row true 9 (.str) a,.box 24 [.ref 2],.row true 9 (.str) b]=>some ⟨aru (sE a b),[arw (zU a b),.box 24 [.ref 2],arw (zV a b)],[],[sF a b]⟩
 |_,_=>none
def sm:PF prog:=PF.ofG prog (T3z [dm]) [al.F] aZ 96 f96 func96 (LOk.fnT (l:= [bc f96 0]) (by kernel_rfl) (.cons GK (.nil _))) zG (by
 intro _ _ _ h;unfold zG at h;split at h<;>cases h;kernel_rfl)
section
variable (a b:List arp)
def dA:Bool:=leI 0 (sE a b)
def cz:List arp:=zU a b
def lC:List arp:=zV a b
def lD:Bool:=allT [sF a b]
end
def yc:arq
 | [.one ⟨false,[.ref 0]⟩,.one ⟨false,[.clo 63 [1]]⟩],[.row true 9 (.str) a,.box 24 [.ref 2],.row true 9 (.str) b]=>some ⟨art (.val (.bool (dA a b))),[arw (cz a b),.box 24 [.ref 2],arw (lC a b)],[],[lD a b]⟩
 |_,_=>none
def eM:PF prog:=PF.ofG prog (T3z [sm]) [] aZ 62 f62 func62 (fun c _=>LOk.nil c) yc (by
 intro _ _ _ h;unfold yc at h;split at h<;>cases h;kernel_rfl)
def mN(a:arp)(b:List arp):Bool:= !hasS b a
def mO(a:List arp):Bool:=allT [leN a.length (9223372036854775807:Nat)]
def uh:arq
 | [.one ⟨false,[.val (.string a)]⟩,.one ⟨false,[.ptr 0 0]⟩],[.box 24 [.ref 1],.row true 9 (.str) b]=>some ⟨art (.val (.bool (mN a b))),[.box 24 [.ref 1],arw b],[],[mO b]⟩
 |_,_=>none
def dq:PF prog:=PF.ofG prog (T3z [ao]) [] aZ 64 f64 func64 (fun c _=>LOk.nil c) uh (by
 intro _ _ _ h;unfold uh at h;split at h<;>cases h;kernel_rfl)
abbrev bu:=Int×Int×List arp×List arp
section
variable (a b:Int)(c d:List arp)
def iR:Bool:=ltI a b
def iS:Bool:=leI 0 a
def iT:Bool:=ltI a (↑c.length:Int)
def iU:Bool:=ltN a.toNat c.length
def eR:Bool:=mO d
def iV:Bool:=mN (v5 c[k8 a]? ByteArray.empty) d
def lH:Int:=v6 .i64 (a + (1:Int))
end
def Hw:bu→List (Nat×SV)
 |(a,b,_,_)=> [(8,(aru a)),(7,(aru b)),(1,(art (.clo 64 [0]))),(0,(art (.ref 1)))]
def Ht:bu→List (Nat×Entry)
 |(_,_,a,b)=> [(0,(.box 24 [.ref 2])),(1,(arw a)),(2,(arw b))]
def HC:Nat→bu→List (Nat×SV)
 |0,(a,_,_,_)=> [(4,(aru a))]
 |_,_=>[]
def iq:bu→LT bu
 |(a,b,c,d)=> .ite (iR a b) (.need [iS a,iT a c,iU a c,eR d] (.ite (iV a c d) (.ext 0 [(0,0),(1,1),(2,2)]) (.nrm ((lH a),b,c,d) [(0,0),(1,1),(2,2)]))) (.ext 1 [(0,0),(1,1),(2,2)])
def qn(s:St):Option bu:=do
 let some ⟨none,.one ⟨false,[.val (.int .i64 a)]⟩⟩:=s.look 8|none
 let some ⟨none,.one ⟨false,[.val (.int .i64 b)]⟩⟩:=s.look 7|none
 let some ⟨none,.one ⟨false,[.clo 64 [1]]⟩⟩:=s.look 1|none
 let some ⟨none,.one ⟨false,[.ref 0]⟩⟩:=s.look 0|none
 let some (.box 24 [.ref 2]):=s.ent 1|none
 let some (.row true 9 (.str) c):=s.ent 0|none
 let some (.row true 9 (.str) d):=s.ent 2|none
 some (a,b,c,d)
def am:Lp bu where
 h:=⟨[9,10,5,11,12,13,14,15,16,17,4,18,8],[0,1,2],[],[]⟩
 JL:=Hw
 JE:=Ht
 XL:=HC
 XE:=fun _=>Ht
 q:=fun j=>match j with | 0=> .ret | _=> .exit 0
 tags:= [0,1]
 lt:=iq
 fuel:=fun(a,b,c,d)=>a.natAbs + b.natAbs + c.length + d.length
 fix:=fun(_,b,c,d) (a,_,_,_)=>(a,b,c,d)
 σ:= [(0,1),(1,0),(2,2)]
 rd:=qn
theorem GL:LoopOk prog (fun k=>Nat.blt k Tryz.f96.ntmps) am.F (bc f96 0):=by
 refine Lp.ok (tbl:= (T3z [dq])) (lf:= []) aZ am (by kernel_rfl) (LOk.nil _) (fun _=>rfl) (fun j _=>by unfold am;match j with | 0=>rfl | _ + 1=>rfl) ?_ ?_ ?_ ?_ (fun _=>rfl) ?_
 ·intro _;kernel_rfl
 ·intro _;kernel_rfl
 ·intro s x h
  have h:qn s=some x:=h
  unfold qn at h
  repeat' split at h
  all_goals cases h
  constructor<;>repeat(first|refine aa ‹_› rfl ?_|refine ab rfl ‹_› rfl ?_|rfl)
 ·intro _;kernel_rfl
 ·intro _ _;exact(And.intro (And.intro trivial rfl) trivial)
section
variable (a b:List arp)
def jA:Int×Int×List arp×List arp:=((0:Int),(↑a.length:Int),a,b)
def mJ:Bool:=Nat.beq ((Lp.res am (jA a b)).1) 0
def sG:Int:=bif mJ a b then ((Lp.res am (jA a b)).2).1else(-1:Int)
def zW:List arp:=bif mJ a b then a else a
def zX:List arp:=bif mJ a b then b else b
def sH:Bool:=allT [Lp.fin am (jA a b)]
end
def zH:arq
 | [.one ⟨false,[.ref 0]⟩,.one ⟨false,[.clo 64 [1]]⟩],[.row true 9 (.str) a,.box 24 [.ref 2],.row true 9 (.str) b]=>some ⟨aru (sG a b),[arw (zW a b),.box 24 [.ref 2],arw (zX a b)],[],[sH a b]⟩
 |_,_=>none
def sn:PF prog:=PF.ofG prog (T3z [dq]) [am.F] aZ 96 f96 func96 (LOk.fnT (l:= [bc f96 0]) (by kernel_rfl) (.cons GL (.nil _))) zH (by
 intro _ _ _ h;unfold zH at h;split at h<;>cases h;kernel_rfl)
section
variable (a b:List arp)
def lE:Bool:=leI 0 (sG a b)
def yo:List arp:=zW a b
def yp:List arp:=zX a b
def lF:Bool:=allT [sH a b]
end
def yf:arq
 | [.one ⟨false,[.ref 0]⟩,.one ⟨false,[.clo 64 [1]]⟩],[.row true 9 (.str) a,.box 24 [.ref 2],.row true 9 (.str) b]=>some ⟨art (.val (.bool (lE a b))),[arw (yo a b),.box 24 [.ref 2],arw (yp a b)],[],[lF a b]⟩
 |_,_=>none
def eP:PF prog:=PF.ofG prog (T3z [sn]) [] aZ 62 f62 func62 (fun c _=>LOk.nil c) yf (by
 intro _ _ _ h;unfold yf at h;split at h<;>cases h;kernel_rfl)
section
variable (a:Int)(b:arp)(c d:List arp)
def kb:Bool:=bif a==1 then !hasS c b else false
def fK:Bool:=bif kb a b c then !hasS d b else false
def kL:Bool:=allT [!(a==1&&true)||leN c.length (9223372036854775807:Nat),!(kb a b c&&true)||leN d.length (9223372036854775807:Nat)]
end
def qz:arq
 | [.one ⟨true,[.val (.int .i64 a),.val (.string b),.val (.int .i64 _x2)]⟩,.one ⟨false,[.ptr 0 0]⟩],[.box 27 [.val (.string c),.ref 1,.ref 2,.ref 3,.val (.string d),.ref 4],.row false 9 (.str) e,.row false 9 (.str) f,.row false 9 (.str) g,.row false 61 (.pair .str (.sl 64 (.pair (.int .i64) (.pair .str (.int .i64))))) i]=>some ⟨art (.val (.bool (fK a b e f))),[.box 27 [.val (.string c),.ref 1,.ref 2,.ref 3,.val (.string d),.ref 4],arv e,arv f,arv g,arx i],[],[kL a b e f]⟩
 |_,_=>none
def ck:PF prog:=PF.ofG prog (T3z [ao]) [] aZ 97 f97 func97 (fun c _=>LOk.nil c) qz (by
 intro _ _ _ h;unfold qz at h;split at h<;>cases h;kernel_rfl)
abbrev bS:=Int×Int×arp×arp×List (Int×(arp×Int))×List arp×List arp×List arp×List (arp×(List (Int×(arp×Int))))
section
variable (a b:Int)(c:ajd)(d e:List arp)
def bJ:Int×arp×Int:=v5 c[k8 a]? ((0:Int),ByteArray.empty,(0:Int))
def kE:Bool:=ltI a b
def og:Bool:=leI 0 a
def oh:Bool:=ltI a (↑c.length:Int)
def oi:Bool:=ltN a.toNat c.length
def kF:Bool:=kL ((bJ a c).1) (((bJ a c).2).1) d e
def kG:Bool:=fK ((bJ a c).1) (((bJ a c).2).1) d e
def tG:Int:=v6 .i64 (a + (1:Int))
end
def KR:bS→List (Nat×SV)
 |(a,b,_,_,_,_,_,_,_)=> [(8,(aru a)),(7,(aru b)),(1,(art (.clo 97 [0]))),(0,(art (.ref 1)))]
def KL:bS→List (Nat×Entry)
 |(_,_,a,b,c,d,e,f,g)=> [(0,(.box 27 [.val (.string a),.ref 2,.ref 3,.ref 4,.val (.string b),.ref 5])),(1,(arA c)),(2,(arv d)),(3,(arv e)),(4,(arv f)),(5,(arx g))]
def Le:Nat→bS→List (Nat×SV)
 |0,(a,_,_,_,_,_,_,_,_)=> [(4,(aru a))]
 |_,_=>[]
def jW:bS→LT bS
 |(a,b,c,d,e,f,g,i,j)=> .ite (kE a b) (.need [og a,oh a e,oi a e,kF a e f g] (.ite (kG a e f g) (.ext 0 [(0,0),(1,1),(2,2),(3,3),(4,4),(5,5)]) (.nrm ((tG a),b,c,d,e,f,g,i,j) [(0,0),(1,1),(2,2),(3,3),(4,4),(5,5)]))) (.ext 1 [(0,0),(1,1),(2,2),(3,3),(4,4),(5,5)])
def sA(s:St):Option bS:=do
 let some ⟨none,.one ⟨false,[.val (.int .i64 a)]⟩⟩:=s.look 8|none
 let some ⟨none,.one ⟨false,[.val (.int .i64 b)]⟩⟩:=s.look 7|none
 let some ⟨none,.one ⟨false,[.clo 97 [1]]⟩⟩:=s.look 1|none
 let some ⟨none,.one ⟨false,[.ref 0]⟩⟩:=s.look 0|none
 let some (.box 27 [.val (.string c),.ref 2,.ref 3,.ref 4,.val (.string d),.ref 5]):=s.ent 1|none
 let some (.row false 64 (.pair (.int .i64) (.pair .str (.int .i64))) e):=s.ent 0|none
 let some (.row false 9 (.str) f):=s.ent 2|none
 let some (.row false 9 (.str) g):=s.ent 3|none
 let some (.row false 9 (.str) i):=s.ent 4|none
 let some (.row false 61 (.pair .str (.sl 64 (.pair (.int .i64) (.pair .str (.int .i64))))) j):=s.ent 5|none
 some (a,b,c,d,e,f,g,i,j)
def aI:Lp bS where
 h:=⟨[9,10,5,11,12,13,14,15,16,17,4,18,8],[0,1,2,3,4,5],[],[]⟩
 JL:=KR
 JE:=KL
 XL:=Le
 XE:=fun _=>KL
 q:=fun j=>match j with | 0=> .ret | _=> .exit 0
 tags:= [0,1]
 lt:=jW
 fuel:=fun(a,b,c,d,e,f,g,i,k)=>a.natAbs + b.natAbs + c.size + d.size + e.length + f.length + g.length + i.length + k.length
 fix:=fun(_,b,c,d,e,f,g,i,k) (a,_,_,_,_,_,_,_,_)=>(a,b,c,d,e,f,g,i,k)
 σ:= [(0,1),(1,0),(2,2),(3,3),(4,4),(5,5)]
 rd:=sA
theorem Jw:LoopOk prog (fun k=>Nat.blt k Tryz.f104.ntmps) aI.F (bc f104 0):=by
 refine Lp.ok (tbl:= (T3z [ck])) (lf:= []) aZ aI (by kernel_rfl) (LOk.nil _) (fun _=>rfl) (fun j _=>by unfold aI;match j with | 0=>rfl | _ + 1=>rfl) ?_ ?_ ?_ ?_ (fun _=>rfl) ?_
 ·intro _;kernel_rfl
 ·intro _;kernel_rfl
 ·intro s x h
  have h:sA s=some x:=h
  unfold sA at h
  repeat' split at h
  all_goals cases h
  constructor<;>repeat(first|refine aa ‹_› rfl ?_|refine ab rfl ‹_› rfl ?_|rfl)
 ·intro _;kernel_rfl
 ·intro _ _;exact(And.intro (And.intro trivial rfl) trivial)
section
variable (a:aje)(b c:arp)(d e f:List arp)(g:agT)
def lq:Int×Int×arp×arp×aje×List arp×List arp×List arp×agT:=((0:Int),(↑a.length:Int),b,c,a,d,e,f,g)
def pL:Bool:=Nat.beq ((Lp.res aI (lq a b c d e f g)).1) 0
def vW:Int:=bif pL a b c d e f g then ((Lp.res aI (lq a b c d e f g)).2).1else(-1:Int)
def CP:arp:=bif pL a b c d e f g then b else b
def CQ:arp:=bif pL a b c d e f g then c else c
def vX:Bool:=allT [Lp.fin aI (lq a b c d e f g)]
end
def BZ:arq
 | [.one ⟨false,[.ref 0]⟩,.one ⟨false,[.clo 97 [1]]⟩],[.row false 64 (.pair (.int .i64) (.pair .str (.int .i64))) a,.box 27 [.val (.string b),.ref 2,.ref 3,.ref 4,.val (.string c),.ref 5],.row false 9 (.str) d,.row false 9 (.str) e,.row false 9 (.str) f,.row false 61 (.pair .str (.sl 64 (.pair (.int .i64) (.pair .str (.int .i64))))) g]=>some ⟨aru (vW a b c d e f g),[arA a,.box 27 [.val (.string (CP a b c d e f g)),.ref 2,.ref 3,.ref 4,.val (.string (CQ a b c d e f g)),.ref 5],arv d,arv e,arv f,arx g],[],[vX a b c d e f g]⟩
 |_,_=>none
def vO:PF prog:=PF.ofG prog (T3z [ck]) [aI.F] aZ 104 f104 func104 (LOk.fnT (l:= [bc f104 0]) (by kernel_rfl) (.cons Jw (.nil _))) BZ (by
 intro _ _ _ h;unfold BZ at h;split at h<;>cases h;kernel_rfl)
section
variable (a:aje)(b c:arp)(d e f:List arp)(g:agT)
def tz:Bool:=leI 0 (vW a b c d e f g)
def Mh:arp:=CP a b c d e f g
def Mi:arp:=CQ a b c d e f g
def tA:Bool:=allT [vX a b c d e f g]
end
def Ay:arq
 | [.one ⟨false,[.ref 0]⟩,.one ⟨false,[.clo 97 [1]]⟩],[.row false 64 (.pair (.int .i64) (.pair .str (.int .i64))) a,.box 27 [.val (.string b),.ref 2,.ref 3,.ref 4,.val (.string c),.ref 5],.row false 9 (.str) d,.row false 9 (.str) e,.row false 9 (.str) f,.row false 61 (.pair .str (.sl 64 (.pair (.int .i64) (.pair .str (.int .i64))))) g]=>some ⟨art (.val (.bool (tz a b c d e f g))),[arA a,.box 27 [.val (.string (Mh a b c d e f g)),.ref 2,.ref 3,.ref 4,.val (.string (Mi a b c d e f g)),.ref 5],arv d,arv e,arv f,arx g],[],[tA a b c d e f g]⟩
 |_,_=>none
def tj:PF prog:=PF.ofG prog (T3z [vO]) [] aZ 81 f81 func81 (fun c _=>LOk.nil c) Ay (by
 intro _ _ _ h;unfold Ay at h;split at h<;>cases h;kernel_rfl)
def dX(a b:arp)(c d e:List arp)(f:agT)(g:aje):Bool:=tz g a b c d e f
def gi(a b:arp)(c d e:List arp)(f:agT)(g:aje):Bool:=allT [tA g a b c d e f]
def rz:arq
 | [.one ⟨true,[.val (.string a),.ref 0,.ref 1,.ref 2,.val (.string b),.ref 3]⟩,.one ⟨true,[.val (.string _x2),.ref 4]⟩],[.row false 9 (.str) c,.row false 9 (.str) d,.row false 9 (.str) e,.row false 61 (.pair .str (.sl 64 (.pair (.int .i64) (.pair .str (.int .i64))))) f,.row false 64 (.pair (.int .i64) (.pair .str (.int .i64))) g]=>some ⟨art (.val (.bool (dX a b c d e f g))),[arv c,arv d,arv e,arx f,arA g],[],[gi a b c d e f g]⟩
 |_,_=>none
def cE:PF prog:=PF.ofG prog (T3z [tj]) [] aZ 65 f65 func65 (fun c _=>LOk.nil c) rz (by
 intro _ _ _ h;unfold rz at h;split at h<;>cases h;kernel_rfl)
abbrev bR:=Int×Int×arp×arp×List arp×List arp×List arp×List (arp×(List (Int×(arp×Int))))
section
variable (a b:Int)(c d:arp)(e f g:List arp)(i:agS)
def db:aje:=(v5 i[k8 a]? (ul aao)).2
def kB:Bool:=ltI a b
def oc:Bool:=leI 0 a
def od:Bool:=ltI a (↑i.length:Int)
def oe:Bool:=ltN a.toNat i.length
def kC:Bool:=gi c d e f g i (db a i)
def kD:Bool:=dX c d e f g i (db a i)
def tF:Int:=v6 .i64 (a + (1:Int))
end
def KP:bR→List (Nat×SV)
 |(a,b,c,d,_,_,_,_)=> [(8,(aru a)),(7,(aru b)),(1,(art (.bnd 65 [(0,some (.string c)),(0,none),(1,none),(2,none),(0,some (.string d)),(3,none)]))),(0,(art (.ref 3)))]
def KJ:bR→List (Nat×Entry)
 |(_,_,_,_,a,b,c,d)=> [(0,(arv a)),(1,(arv b)),(2,(arv c)),(3,(arx d))]
def Lc:Nat→bR→List (Nat×SV)
 |0,(a,_,_,_,_,_,_,_)=> [(4,(aru a))]
 |_,_=>[]
def jV:bR→LT bR
 |(a,b,c,d,e,f,g,i)=> .ite (kB a b) (.need [oc a,od a i,oe a i,kC a c d e f g i] (.ite (kD a c d e f g i) (.ext 0 [(0,0),(1,1),(2,2),(3,3)]) (.nrm ((tF a),b,c,d,e,f,g,i) [(0,0),(1,1),(2,2),(3,3)]))) (.ext 1 [(0,0),(1,1),(2,2),(3,3)])
def sy(s:St):Option bR:=do
 let some ⟨none,.one ⟨false,[.val (.int .i64 a)]⟩⟩:=s.look 8|none
 let some ⟨none,.one ⟨false,[.val (.int .i64 b)]⟩⟩:=s.look 7|none
 let some ⟨none,.one ⟨false,[.bnd 65 [(0,some (.string c)),(1,none),(2,none),(3,none),(0,some (.string d)),(0,none)]]⟩⟩:=s.look 1|none
 let some ⟨none,.one ⟨false,[.ref 0]⟩⟩:=s.look 0|none
 let some (.row false 9 (.str) e):=s.ent 1|none
 let some (.row false 9 (.str) f):=s.ent 2|none
 let some (.row false 9 (.str) g):=s.ent 3|none
 let some (.row false 61 (.pair .str (.sl 64 (.pair (.int .i64) (.pair .str (.int .i64))))) i):=s.ent 0|none
 some (a,b,c,d,e,f,g,i)
def aH:Lp bR where
 h:=⟨[9,10,5,11,12,13,14,15,16,17,4,18,8],[0,1,2,3],[],[]⟩
 JL:=KP
 JE:=KJ
 XL:=Lc
 XE:=fun _=>KJ
 q:=fun j=>match j with | 0=> .ret | _=> .exit 0
 tags:= [0,1]
 lt:=jV
 fuel:=fun(a,b,c,d,e,f,g,i)=>a.natAbs + b.natAbs + c.size + d.size + e.length + f.length + g.length + i.length
 fix:=fun(_,b,c,d,e,f,g,i) (a,_,_,_,_,_,_,_)=>(a,b,c,d,e,f,g,i)
 σ:= [(0,1),(1,2),(2,3),(3,0)]
 rd:=sy
theorem Ju:LoopOk prog (fun k=>Nat.blt k Tryz.f94.ntmps) aH.F (bc f94 0):=by
 refine Lp.ok (tbl:= (T3z [cE])) (lf:= []) aZ aH (by kernel_rfl) (LOk.nil _) (fun _=>rfl) (fun j _=>by unfold aH;match j with | 0=>rfl | _ + 1=>rfl) ?_ ?_ ?_ ?_ (fun _=>rfl) ?_
 ·intro _;kernel_rfl
 ·intro _;kernel_rfl
 ·intro s x h
  have h:sy s=some x:=h
  unfold sy at h
  repeat' split at h
  all_goals cases h
  constructor<;>repeat(first|refine aa ‹_› rfl ?_|refine ab rfl ‹_› rfl ?_|rfl)
 ·intro _;kernel_rfl
 ·intro _ _;exact(And.intro (And.intro trivial rfl) trivial)
section
variable (a b:arp)(c:agT)(d e f:List arp)
def lp:Int×Int×arp×arp×List arp×List arp×List arp×agT:=((0:Int),(↑c.length:Int),a,b,d,e,f,c)
def vU:Int:=bif Nat.beq ((Lp.res aH (lp a b c d e f)).1) 0 then ((Lp.res aH (lp a b c d e f)).2).1else(-1:Int)
def vV:Bool:=allT [Lp.fin aH (lp a b c d e f)]
end
def BW:arq
 | [.one ⟨false,[.ref 0]⟩,.one ⟨false,[.bnd 65 [(0,some (.string a)),(1,none),(2,none),(3,none),(0,some (.string b)),(0,none)]]⟩],[.row false 61 (.pair .str (.sl 64 (.pair (.int .i64) (.pair .str (.int .i64))))) c,.row false 9 (.str) d,.row false 9 (.str) e,.row false 9 (.str) f]=>some ⟨aru (vU a b c d e f),[arx c,arv d,arv e,arv f],[],[vV a b c d e f]⟩
 |_,_=>none
def vM:PF prog:=PF.ofG prog (T3z [cE]) [aH.F] aZ 94 f94 func94 (LOk.fnT (l:= [bc f94 0]) (by kernel_rfl) (.cons Ju (.nil _))) BW (by
 intro _ _ _ h;unfold BW at h;split at h<;>cases h;kernel_rfl)
def nT(a b:arp)(c:agT)(d e f:List arp):Bool:=leI 0 (vU a b c d e f)
def nU(a b:arp)(c:agT)(d e f:List arp):Bool:=allT [vV a b c d e f]
def Aw:arq
 | [.one ⟨false,[.ref 0]⟩,.one ⟨false,[.bnd 65 [(0,some (.string a)),(1,none),(2,none),(3,none),(0,some (.string b)),(0,none)]]⟩],[.row false 61 (.pair .str (.sl 64 (.pair (.int .i64) (.pair .str (.int .i64))))) c,.row false 9 (.str) d,.row false 9 (.str) e,.row false 9 (.str) f]=>some ⟨art (.val (.bool (nT a b c d e f))),[arx c,arv d,arv e,arv f],[],[nU a b c d e f]⟩
 |_,_=>none
def gK:PF prog:=PF.ofG prog (T3z [vM]) [] aZ 58 f58 func58 (fun c _=>LOk.nil c) Aw (by
 intro _ _ _ h;unfold Aw at h;split at h<;>cases h;kernel_rfl)
abbrev bf:=Int×Int×List (arp×(List (Int×(arp×Int))))×List arp
section
variable (a b:Int)(c:agS)(d:List arp)
def bx:List arp:= [(v5 c[k8 a]? (ul aao)).1]
def gq:Bool:=ltI a b
def gr:Bool:=leI 0 a
def gt:Bool:=ltI a (↑c.length:Int)
def gu:Bool:=ltN a.toNat c.length
def gv:Bool:=leN (k9 d + k9 (bx a c)) 9223372036854775807
def gw:Bool:=leN ((k9 d + k9 (bx a c)) * 16) 140737488355328
def gx:Int:=v6 .i64 (a + (1:Int))
def gy:List arp:=d++bx a c
end
def Gf:bf→List (Nat×SV)
 |(a,b,_,_)=> [(10,(aru a)),(9,(aru b)),(8,(art (.ref 0))),(3,(art (.ptr 1 0)))]
def Ge:bf→List (Nat×Entry)
 |(_,_,a,b)=> [(0,(arx a)),(1,(.box 24 [.ref 2])),(2,(arw b))]
def Gi:Nat→bf→List (Nat×SV)
 |_,_=>[]
def gc:bf→LT bf
 |(a,b,c,d)=> .ite (gq a b) (.need [gr a,gt a c,gu a c] (.need [gv a c d,gw a c d] (.nrm ((gx a),b,c,(gy a c d)) [(0,0),(1,1),(2,640)]))) (.ext 0 [(0,0),(1,1),(2,2)])
def px(s:St):Option bf:=do
 let some ⟨none,.one ⟨false,[.val (.int .i64 a)]⟩⟩:=s.look 10|none
 let some ⟨none,.one ⟨false,[.val (.int .i64 b)]⟩⟩:=s.look 9|none
 let some ⟨none,.one ⟨false,[.ref 3]⟩⟩:=s.look 8|none
 let some ⟨none,.one ⟨false,[.ptr 448 0]⟩⟩:=s.look 3|none
 let some (.row false 61 (.pair .str (.sl 64 (.pair (.int .i64) (.pair .str (.int .i64))))) c):=s.ent 3|none
 let some (.box 24 [.ref 449]):=s.ent 448|none
 let some (.row true 9 (.str) d):=s.ent 449|none
 some (a,b,c,d)
def ap:Lp bf where
 h:=⟨[11,12,13,5,14,15,16,17,18,19,10],[0,1],[2],[]⟩
 JL:=Gf
 JE:=Ge
 XL:=Gi
 XE:=fun _=>Ge
 q:=fun j=>match j with | _=> .exit 0
 tags:= [0]
 lt:=gc
 fuel:=fun(a,b,c,d)=>a.natAbs + b.natAbs + c.length + d.length
 fix:=fun(_,b,c,_) (a,_,_,d)=>(a,b,c,d)
 σ:= [(0,3),(1,448),(2,449)]
 rd:=px
theorem Fj:LoopOk prog (fun k=>Nat.blt k Tryz.f38.ntmps) ap.F (bc f38 0):=by
 refine Lp.ok (tbl:= (T3z [aT,DV,bT,ao,dH,eM,eP,gK])) (lf:= []) aZ ap (by kernel_rfl) (LOk.nil _) (fun _=>rfl) (fun _ _=>rfl) ?_ ?_ ?_ ?_ (fun _=>rfl) ?_
 ·intro _;kernel_rfl
 ·intro _;kernel_rfl
 ·intro s x h
  have h:px s=some x:=h
  unfold px at h
  repeat' split at h
  all_goals cases h
  constructor<;>repeat(first|refine aa ‹_› rfl ?_|refine ab rfl ‹_› rfl ?_|rfl)
 ·intro _;kernel_rfl
 ·intro _ _;exact(And.intro rfl trivial)
def lx(a:arp):Bool:=
 !ByteArray.toList a==ByteArray.toList { data:= #[] }
section
variable (a b:arp)(c d e:List arp)(f:agT)
def eI:Bool:=bif bif lx b then !hasS c b else false then !hasS d b else false
def ly:Int×Int×agT×List arp:=((0:Int),(↑f.length:Int),f,[])
def au:List arp:=(Lp.res ap (ly f)).2.2.2.2
def aw:List arp:=List.flatten [d,e]
def lz:Bool:=lE (lC (au f) (aw d e)) (cz (au f) (aw d e))
def jb:Int:=bif oH (ae c d e)then(1:Int)else bif eI b c d then(2:Int)else bif dA (au f) (aw d e)then(3:Int)else bif oH (cz (au f) (aw d e))then(4:Int)else bif lz d e f then(5:Int)else bif nT a b f c d e then(6:Int)else(0:Int)
def je:Bool:=allT [Lp.fin ap (ly f),leN (k9 [d,e]) (1000:Nat)&&leN (Fq [d,e]) 2000000,cJ c d e,leN (k9 (ae c d e)) 9223372036854775807,oH (ae c d e)||(!(lx b&&true)||leN c.length (9223372036854775807:Nat)),oH (ae c d e)||(!((bif lx b then !hasS c b else false)&&true)||leN d.length (9223372036854775807:Nat)),oH (ae c d e)||(eI b c d||lD (au f) (aw d e)),oH (ae c d e)||(eI b c d||(dA (au f) (aw d e)||leN (k9 (cz (au f) (aw d e))) 9223372036854775807)),oH (ae c d e)||(eI b c d||(dA (au f) (aw d e)||(oH (cz (au f) (aw d e))||lF (lC (au f) (aw d e)) (cz (au f) (aw d e))))),oH (ae c d e)||(eI b c d||(dA (au f) (aw d e)||(oH (cz (au f) (aw d e))||(lz d e f||nU a b f c d e))))]
end
def yD:arq
 | [.one ⟨true,[.val (.string a),.ref 0,.ref 1,.ref 2,.val (.string b),.ref 3]⟩],[.row false 9 (.str) c,.row false 9 (.str) d,.row false 9 (.str) e,.row false 61 (.pair (.str) (.sl 64 (.pair (.int .i64) (.pair (.str) (.int .i64))))) f]=>some ⟨aru (jb a b c d e f),[arv c,arv d,arv e,arz f],[],[je a b c d e f]⟩
 |_,_=>none
def fA:PF prog:=PF.ofG prog (T3z [aT,DV,bT,ao,dH,eM,eP,gK]) [ap.F] aZ 38 f38 func38 (LOk.fnT (l:= [bc f38 0]) (by kernel_rfl) (.cons Fj (.nil _))) yD (by
 intro _ _ _ h;unfold yD at h;split at h<;>cases h;kernel_rfl)
def Up(a b:arp)(c d e:List arp)(f:agT):Bool:=bif yT a b c d e f then jb a b c d e f==0 else false
def Uq(a b:arp)(c d e:List arp)(f:agT):Bool:=allT [Gm a b c d e f,!(yT a b c d e f&&true)||je a b c d e f]
def aaz:arq
 | [.one ⟨true,[.val (.string a),.ref 0,.ref 1,.ref 2,.val (.string b),.ref 3]⟩],[.row false 9 (.str) c,.row false 9 (.str) d,.row false 9 (.str) e,.row false 61 (.pair (.str) (.sl 64 (.pair (.int .i64) (.pair (.str) (.int .i64))))) f]=>some ⟨art (.val (.bool (Up a b c d e f))),[arv c,arv d,arv e,arz f],[],[Uq a b c d e f]⟩
 |_,_=>none
def aic:PF prog:=PF.ofG prog (T3z [BN,fA]) [] aZ 16 f16 func16 (fun c _=>LOk.nil c) aaz (by
 intro _ _ _ h;unfold aaz at h;split at h<;>cases h;kernel_rfl)
theorem ak7{ins vs os:List arp}(h1:QO ins=true)(h2:QO vs=true)(h3:QO os=true):
  leN ins.length 9223372036854775807=true∧leN vs.length 9223372036854775807=true∧leN os.length 9223372036854775807=true:=by
 simp only [QO,q9]at h1 h2 h3
 exact⟨h1.1,h2.1,h3.1⟩
def PK(nm:arp)(ins vs os:List arp)(g:arp)(ls:List LN):Bool:=leN nm.size 9223372036854775807&&(QO ins&&(QO vs&&(QO os&&(leN g.size 9223372036854775807&&(leN (ins.length + vs.length + os.length) 2000000&&aeU ls)))))
theorem LB{nm:arp}{ins vs os:List arp}{g:arp}{ls:List LN}:PK nm ins vs os g ls=true↔
  nm.size≤9223372036854775807∧QO ins=true∧QO vs=true∧QO os=true∧g.size≤9223372036854775807∧ins.length + vs.length + os.length≤2000000∧aeU ls=true:=by
 simp only [PK,q9,iC]
def um(b:arp×(ajd)):(Unit)→Nat ⊕ (Unit)
 |_=>(bif(bif(!iA b.1)then true else !ac8 (bif !(!iA b.1)&&true then b.2else []))then(.inl 0)else(.inr ()))
def sZ(a b:arp)(c d e:List arp)(f:agS)(i:Nat):(Unit)→mr
 |_=>((i:Int),a,b,c,d,e,f)
def LC:mr→Unit
 |(_,_,_,_,_,_,_)=>()
theorem acT(c e:arp)(f g j:List arp)(k:agS) (hn:k.length≤9223372036854775807) (hA: ∀ l∈k,l.1.size≤9223372036854775807∧TL l.2=true):
  fl.fin ((0:Int),c,e,f,g,j,k)=true∧fl.res ((0:Int),c,e,f,g,j,k)=((bH (um) 1 k 0 ()).1,(sZ c e f g j k) (bH (um) 1 k 0 ()).2.1 (bH (um) 1 k 0 ()).2.2):=by
 have qa:=fl.along (sZ c e f g j k) LC (um) 1 (fun _ _=>True) k () (by trivial) (by simp only [fl,sZ];omega) (fun i b a hb hI=> ?_) (fun a hI=> ?_)
 ·exact qa
 ·obtain⟨⟩:=a
  have iX:=(k7.1 hb).1
  have pI: ∀ d,v5 k[i]? d=b:=fun d=>by rw [hb];rfl
  have hw:=AV iX hn
  have lR:ltI (i:Int) (k.length:Int)=true:=ew (by omega)
  have Nl:leI (0:Int) (i:Int)=true:=cG (by omega)
  have wO:ltN i k.length=true:=gM iX
  refine⟨?_,?_,?_,?_⟩
  ·have hg2:nB (i:Int) k=b:=by simp only [nB,z6];exact pI _
   have hm:=hA b (List.mem_of_getElem? hb)
   obtain⟨q1,q2⟩:=LF b.1 hm.1
   have e0:wF (i:Int) k=true:=lR
   have e1:wG (i:Int) k=true:=by simp only [wG,z6];exact wO
   have e3:jX (i:Int) k= !jP b.1:=by simp only [jX,hg2,q1]
   have e4:sI (i:Int) k=bif jP b.1 then b.2 else []:=by simp only [sI,e3,hg2];cases jP b.1 <;> rfl
   have h7:TL b.2=true:=hm.2
   have h8:TL []=true:=rfl
   simp only [xO,FQ,FR,FS,FT,FU,FV,FW,Bl,FX,zP,fl,LT.nds,allT,sZ,e0,e1,e3,e4,hg2,q2,Nl,cond_true,j8]
   cases jP b.1 <;> simp [LT.nds,h7,h8]
  ·simp [wF,wG,nB,jX,sI,xO,FQ,FR,FS,FT,FU,FV,FW,Bl,FX,zP,fl,LT.each,sZ,LC,hw]
  ·have hg2:nB (i:Int) k=b:=by simp only [nB,z6];exact pI _
   have e0:wF (i:Int) k=true:=lR
   simp only [fl,zP,xO,Bl,jX,sI,LT.fn,sZ,LC,um,e0,hg2,cond_true]
  ·exact fun _ _=>trivial
 ·obtain⟨⟩:=a
  simp [wF,wG,nB,jX,sI,xO,FQ,FR,FS,FT,FU,FV,FW,Bl,FX,zP,fl,LT.out,sZ]
theorem aiz(nm:arp)(ins vs os:List arp)(g:arp)(ls:List LN)(h:PK nm ins vs os g ls=true):
  GS nm g ins vs os ls=abW nm ins vs os g ls∧Mt nm g ins vs os ls=true:=by
 obtain⟨h1,h2,h3,h4,h5,h6,h7⟩:=LB.1 h
 obtain⟨hn,hA⟩:=Ma.1 h7
 obtain⟨w1,w2⟩:=acT nm g ins vs os ls (by omega) hA
 have e0:(bH um 1 ls 0 ())=(bH (fun(k:LN) (_:Unit)=>bif !lineB k then(.inl 0:Nat ⊕ Unit)else .inr ()) 1 ls 0 ()):=by
  refine WC fun b hb a=> ?_
  simp only [um,(LF b.1 (hA b hb).1).1,lineB]
  cases jP b.1 <;> simp
 rw [e0,oq (P:=fun k=> !lineB k) (j:=0) (fun k=>rfl)]at w2
 have e5:(ls.any fun k=> !lineB k)= !ls.all lineB:=by simp [List.all_eq_not_any_not]
 rw [e5]at w2
 obtain⟨q1,q2⟩:=LF nm h1
 obtain⟨q3,q4⟩:=LF g h5
 have c1:inR (ins.length:Int) 1 20=inR (ins.length:Int) ((1:Nat):Int) 20:=rfl
 have c0:inR (vs.length:Int) 0 20=inR (vs.length:Int) ((0:Nat):Int) 20:=rfl
 have c2:inR (os.length:Int) 1 20=inR (os.length:Int) ((1:Nat):Int) 20:=rfl
 refine⟨?_,?_⟩
 ·simp only [GS,PP,PQ,PR,PS,PT,Ks,w2,q1,q3,cd,YO,Rb,abW,Xa,c0,c1,c2]
  generalize jP nm=p1
  generalize ins.all jP=p2
  generalize inR (ins.length:Int) ((1:Nat):Int) 20=p3
  generalize vs.all jP=p4
  generalize inR (vs.length:Int) ((0:Nat):Int) 20=p5
  generalize os.all jP=p6
  generalize inR (os.length:Int) ((1:Nat):Int) 20=p7
  generalize (g.toList== [])=p8
  generalize jP g=p9
  generalize ls.all lineB=p10
  generalize inR (ls.length:Int) 1 40=p11
  cases p1 <;> cases p2 <;> cases p3 <;> simp <;> cases p4 <;> cases p5 <;> simp <;> cases p6 <;> cases p7 <;> simp <;> cases p8 <;> cases p9 <;> simp <;> cases p10 <;> simp [Nat.beq]
 ·simp only [Mt,Ks,w1,q2,q4,h2,h3,h4,allT,j8,cond_true]
end Go.SX
