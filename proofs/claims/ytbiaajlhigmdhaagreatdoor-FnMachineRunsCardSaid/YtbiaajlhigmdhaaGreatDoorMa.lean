/- What functions of the program come to, and what that says in plain words: part 1. -/
import Derived.Test.YtbiaajlhigmdhaaGreatDoorTXh
import Derived.Test.YtbiaajlhigmdhaaGreatDoorProg
set_option linter.unusedSimpArgs false
set_option linter.unusedVariables false
open Option.some renaming injEq → q9
open Bool renaming and_eq_true → w5
open Int renaming toNat_natCast → w7
open List renaming length_singleton → w8
open List renaming length_take → w9
open Bool renaming or_true → j7
open Bool renaming cond_self → j8
open List renaming getElem?_eq_some_iff → j9
open Int renaming toNat → v4
open List renaming length → v5
open Option renaming getD → v6
open Go.IntKind renaming wrap → v7
open List renaming eq_of_mem_replicate → v8
open List renaming mem_singleton → v9
namespace Go.SX
open Go.Proofs
def T3z {P : Program} (l : List (PF P)) : List (PF P) :=l.flatMap fun p=>[p,PF.lend p,PF.fz p]
abbrev asv:Type:=ByteArray
abbrev aaZ:CTy:=(CTy.pair CTy.str (CTy.sl 122 (CTy.pair (CTy.int IntKind.i64) (CTy.pair CTy.str (CTy.int IntKind.i64)))))
abbrev abx:CTy:=(CTy.pair (CTy.int IntKind.i64) (CTy.pair (CTy.int IntKind.i64) (CTy.int IntKind.i64)))
abbrev ab5:CTy:=(CTy.pair (CTy.int IntKind.i64) (CTy.pair CTy.str (CTy.int IntKind.i64)))
abbrev aeK:CTy:=(CTy.pair (CTy.int IntKind.i64) (CTy.int IntKind.i64))
abbrev ag4:Type:=List (ByteArray×(List (Int×(ByteArray×Int))))
abbrev ajC:Type:=List (ByteArray×List (Int×ByteArray×Int))
abbrev alK:CTy:=(CTy.sl 2 (CTy.int IntKind.i64))
abbrev aov:Type:=List (Int×(ByteArray×Int))
abbrev aow:Type:=List (Int×ByteArray×Int)
abbrev aox:CTy:=(CTy.int IntKind.i64)
abbrev apN:CTy:=(CTy.int IntKind.u8)
abbrev aqe:Type:=List (Int×(Int×Int))
abbrev aq5:Type:=List (Int×Int×Int)
abbrev aq6:Type:=List (List Int)
abbrev arD:Type:=List (Int×Int)
abbrev arE:CTy:=(CTy.str)
abbrev arG:Type:=List Int
abbrev awE:Type:=List SV→List Entry→Option Out
abbrev awF(a:Int):Cell:=.val (.int .i64 a)
theorem S0z:(∀ (α:Type) (a b:α),(bif true then a else b)=a)∧(∀ (α:Type) (a b:α),(bif false then a else b)=b)∧(∀ (α:Type) (c:Bool) (a:α),(bif c then a else a)=a)∧((!true)=false)∧((!false)=true)∧(∀ b:Bool,(true||b)=true)∧(∀ b:Bool,(b||true)=true)∧(∀ b:Bool,(false||b)=b)∧(∀ b:Bool,(b||false)=b)∧(∀ b:Bool,(b&&b)=b)∧(∀ b:Bool,(b&&true)=b)∧(∀ b:Bool,(true&&b)=b)∧(∀ b:Bool,(false&&b)=false)∧(∀ b:Bool,(b&&false)=false)∧(∀ (α:Type) [BEq α] [LawfulBEq α] (a:α),(a != a)=false)∧(∀ (α:Type) [BEq α] [LawfulBEq α] (a:α),(a==a)=true):=by and_intros <;> intros <;> simp
end Go.SX
namespace Go.SX
open Go.Proofs Go.Proofs.Tryz
set_option maxRecDepth 100000
theorem bj:Tryz.prog.follows .mixedOrders=true:=by kernel_rfl
def aZ(a b c:Int):Bool:=bif leI b a then leI a c else false
def ajc:awE
 | [.one ⟨false,[.val (.int .i64 a)]⟩,.one ⟨false,[.val (.int .i64 b)]⟩,.one ⟨false,[.val (.int .i64 c)]⟩],[]=>some ⟨.one ⟨false,[.val (.bool (aZ a b c))]⟩,[],[],[]⟩
 |_,_=>none
def pp:PF prog:=PF.ofG prog [] [] bj 90 f90 func90 (fun c _=>LOk.nil c) ajc (by
 intro _ _ _ h;unfold ajc at h;split at h<;>cases h;kernel_rfl)
def aal(a:arG):Bool:=allT [leN (0 + v5 a) 9223372036854775807,leN ((0 + v5 a) * 8) 140737488355328]
def agP:awE
 | [.one ⟨false,[.ref 0]⟩],[.row false 2 (.int .i64) a]=>some ⟨.one ⟨false,[.ref 1]⟩,[.row false 2 aox a],[.row true 2 aox a],[aal a]⟩
 |_,_=>none
def an5:PF prog:=PF.ofG prog [] [] bj 82 f82 func82 (fun c _=>LOk.nil c) agP (by
 intro _ _ _ h;unfold agP at h;split at h<;>cases h;kernel_rfl)
def dQ(a b c:Int):Bool:=bif leI b a then leI a c else false
def agN:awE
 | [.one ⟨false,[.val (.int .i64 a)]⟩,.one ⟨false,[.val (.int .i64 b)]⟩,.one ⟨false,[.val (.int .i64 c)]⟩],[]=>some ⟨.one ⟨false,[.val (.bool (dQ a b c))]⟩,[],[],[]⟩
 |_,_=>none
def NJ:PF prog:=PF.ofG prog [] [] bj 114 f114 func114 (fun c _=>LOk.nil c) agN (by
 intro _ _ _ h;unfold agN at h;split at h<;>cases h;kernel_rfl)
def vW(a:arG):Bool:=allT [ltN 0 a.length,false||leN (0 + v5 a) 9223372036854775807,false||leN ((0 + v5 a) * 8) 140737488355328]
def KP:awE
 | [.one ⟨false,[.ref 0]⟩],[.row false 2 (.int .i64) a]=>some ⟨.one ⟨false,[.ref 1]⟩,[.row false 2 aox a],[.row true 2 aox a],[vW a]⟩
 |_,_=>none
def WX:PF prog:=PF.ofG prog [] [] bj 88 f88 func88 (fun c _=>LOk.nil c) KP (by
 intro _ _ _ h;unfold KP at h;split at h<;>cases h;kernel_rfl)
abbrev nk:=Int×List Int×List Int
section
variable (a:Int)(b c:arG)
def xO:Bool:=ltI a (↑b.length:Int)
def xP:Bool:=leI 0 a
def BO:Bool:=ltN a.toNat b.length
def BP:Bool:=ltI a (↑c.length:Int)
def BQ:Bool:=ltN a.toNat c.length
def BR:Bool:=v6 b[v4 a]? 0!=v6 c[v4 a]? 0
def BT:Int:=v7 .i64 (a + (1:Int))
end
def af5:nk→List (Nat×SV)
 |(a,_,_)=> [(5,(.one ⟨false,[awF a]⟩)),(0,(.one ⟨false,[.ref 0]⟩)),(1,(.one ⟨false,[.ref 1]⟩))]
def afV:nk→List (Nat×Entry)
 |(_,a,b)=> [(0,(.row false 2 aox a)),(1,(.row false 2 aox b))]
def agq:Nat→nk→List (Nat×SV)
 |0,(_,_,_)=> [(4,(.one ⟨false,[.val (.bool false)]⟩))]
 |_,(_,_,_)=> []
def Ag:nk→LT nk
 |(a,b,c)=> .ite (xO a b) (.need [xP a,xO a b,BO a b,xP a,BP a c,BQ a c] (.ite (BR a b c) (.ext 0 [(0,0),(1,1)]) (.nrm ((BT a),b,c) [(0,0),(1,1)]))) (.ext 1 [(0,0),(1,1)])
def Nk(s:St):Option nk:=do
 let some ⟨none,.one ⟨false,[.val (.int .i64 a)]⟩⟩:=s.look 5|none
 let some ⟨none,.one ⟨false,[.ref 0]⟩⟩:=s.look 0|none
 let some ⟨none,.one ⟨false,[.ref 1]⟩⟩:=s.look 1|none
 let some (.row false 2 (.int .i64) b):=s.ent 0|none
 let some (.row false 2 (.int .i64) c):=s.ent 1|none
 some (a,b,c)
def fe:Lp nk where
 h:=⟨[11,12,13,14,17,18,19,20,21,22,23,24,25,4,15,16,5],[0,1],[],[]⟩
 JL:=af5
 JE:=afV
 XL:=agq
 XE:=fun _=>afV
 q:=fun j=>match j with | 0=> .ret | _=> .exit 0
 tags:= [0,1]
 lt:=Ag
 fuel:=fun(a,b,c)=>a.natAbs + b.length + c.length
 fix:=fun(_,b,c) (a,_,_)=>(a,b,c)
 σ:= [(0,0),(1,1)]
 rd:=Nk
theorem adt:LoopOk prog (fun k=>Nat.blt k Tryz.f39.ntmps) fe.F (bB f39 0):=by
 refine Lp.ok (tbl:= []) (lf:= []) bj fe (by kernel_rfl) (LOk.nil _) (fun _=>rfl) (fun j _=>by unfold fe;match j with | 0=>rfl | _ + 1=>rfl) ?_ ?_ ?_ ?_ (fun _=>rfl) ?_
 ·rintro⟨a,b,c⟩;kernel_rfl
 ·rintro⟨a,b,c⟩;kernel_rfl
 ·intro s x h
  have h:Nk s=some x:=h
  unfold Nk at h
  repeat' split at h
  all_goals cases h
  constructor<;>repeat(first|refine ab (by assumption) rfl ?_|refine aa rfl (by assumption) rfl ?_|exact rfl)
 ·rintro⟨a,b,c⟩;kernel_rfl
 ·rintro⟨a,b,c⟩ z;exact(And.intro (And.intro trivial rfl) trivial)
section
variable (a b:arG)
def LR:Bool:=(↑a.length:Int)!=(↑b.length:Int)
def LU:Int×arG×arG:=((0:Int),a,b)
def Oc:Bool:=bif LR a b then false else bif Nat.beq ((Lp.res fe (LU a b)).1) 0 then false else true
def Od:Bool:=allT [LR a b||Lp.fin fe (LU a b)]
end
def act:awE
 | [.one ⟨false,[.ref 0]⟩,.one ⟨false,[.ref 1]⟩],[.row false 2 (.int .i64) a,.row false 2 (.int .i64) b]=>some ⟨.one ⟨false,[.val (.bool (Oc a b))]⟩,[.row false 2 aox a,.row false 2 aox b],[],[Od a b]⟩
 |_,_=>none
def alY:PF prog:=PF.ofG prog [] [fe.F] bj 39 f39 func39 (LOk.fnT (l:= [bB f39 0]) (by kernel_rfl) (.cons adt (.nil _))) act (by
 intro _ _ _ h;unfold act at h;split at h<;>cases h;kernel_rfl)
def blk(p:Int):Int:=Int.tdiv p 3
def inR(a lo hi:Int):Bool:=leI lo a&&leI a hi
def eqL(xs ys:arG):Bool:=decide (xs=ys)
theorem aaW(xs:arG):eqL xs xs=true:=by simp [eqL]
theorem wW{a lo hi:Int}:inR a lo hi=true↔lo≤a∧a≤hi:=by simp [inR]
theorem Tb(a lo hi:Int):(bif leI lo a then leI a hi else false)=inR a lo hi:=by
 unfold inR;cases leI lo a <;> rfl
def BF(a c:arG)(b:Nat):(Unit)→Nat ⊕ (Unit)
 |_=>(bif(v6 a[b]? 0!=v6 c[b]? 0)then(.inl 0)else(.inr ()))
def sW(a b:arG)(i:Nat):(Unit)→nk
 |_=>((i:Int),a,b)
def Na:nk→Unit
 |(_,_,_)=>()
theorem aiZ(c d:arG) (hn:c.length≤9223372036854775807) (he:d.length=c.length):
  fe.fin ((0:Int),c,d)=true∧fe.res ((0:Int),c,d)=((ci (BF c d) 1 (List.range c.length) 0 ()).1,(sW c d) (ci (BF c d) 1 (List.range c.length) 0 ()).2.1 (ci (BF c d) 1 (List.range c.length) 0 ()).2.2):=by
 have mO:=fe.along (sW c d) Na (BF c d) 1 (fun _ _=>True) (List.range c.length) () (by trivial) (by simp only [fe,sW,List.length_range];omega) (fun i b a hb hI=> ?_) (fun a hI=> ?_)
 ·exact mO
 ·obtain⟨⟩:=a
  obtain⟨rfl,eG⟩:=Ti hb
  have hw:IntKind.i64.wrap ((b:Int) + 1)=((b + 1:Nat):Int):=by rw [aR (by omega) (by omega)];omega
  have jY:ltI (b:Int) (c.length:Int)=true:=cI (by omega)
  have PX:leI (0:Int) (b:Int)=true:=aS (by omega)
  have wR:ltN b c.length=true:=dE (by omega)
  refine⟨?_,?_,?_,?_⟩
  ·simp [xO,xP,BO,BP,BQ,BR,BT,Ag,fe,LT.nds,allT,sW,jY,PX,wR,he]
  ·simp [xO,xP,BO,BP,BQ,BR,BT,Ag,fe,LT.each,sW,Na,hw,he]
  ·simp only [xO,xP,BO,BP,BQ,BR,BT,Ag,fe,LT.fn,sW,Na,BF,w7,jY,cond_true]
  ·exact fun _ _=>trivial
 ·obtain⟨⟩:=a
  simp [xO,xP,BO,BP,BQ,BR,BT,Ag,fe,LT.out,sW,List.length_range]
theorem aqs(xs ys:arG)(hn:leN xs.length 9223372036854775807=true):Oc xs ys=eqL xs ys∧Od xs ys=true:=by
 have hn:=fc.1 hn
 unfold eqL
 by_cases hl:ys.length=xs.length
 ·obtain⟨w1,w2⟩:=aiZ xs ys hn hl
  have ha:=att (d:=(0:Int)) hl (P:=fun b=>v6 xs[b]? 0 !=v6 ys[b]? 0) (fun b=>by simp [bne,BEq.beq])
  rw [oE (P:=fun b=>v6 xs[b]? 0 !=v6 ys[b]? 0) (j:=0) (fun b=>rfl),ha]at w2
  simp only [LR,LU,Oc,Od,w1,w2,allT]
  by_cases he:xs=ys
  ·subst he;simp;decide
  ·simp [he,hl]
 ·have VU:xs≠ys:=fun h=>hl (by rw [h])
  simp [LR,LU,Oc,Od,allT,VU]
  omega
def acJ:awE
 | [.one ⟨false,[.ref 0]⟩,.one ⟨false,[.ref 1]⟩],[.row false 2 (.int .i64) a,.row false 2 (.int .i64) b]=>some ⟨.one ⟨false,[.val (.bool (eqL a b))]⟩,[.row false 2 aox a,.row false 2 aox b],[],[leN a.length 9223372036854775807]⟩
 |_,_=>none
def jR:PF prog:=PF.alt alY acJ (by
 intro args es o h bA;unfold acJ at h;split at h
 ·rename_i a b
  cases h
  have bA:=fv bA
  have hh:=aqs a b bA
  obtain⟨e0,en⟩:=hh
  exact kj rfl (eT en) (by simp only [e0] <;> rfl) rfl rfl
 ·cases h)
theorem atA(xs:arG)(h:(leN 1 xs.length&&leN xs.length 1048576)=true):vW xs=true:=by
 simp only [w5,fc]at h
 simp [vW,allT]
 omega
def alf:awE
 | [.one ⟨false,[.val (.slice none 0 0)]⟩],[]=>some ⟨.one ⟨false,[.ref 0]⟩,[],[.row true 2 (.int .i64) []],[true]⟩
 |_,_=>none
def aqE:PF prog:=PF.ofG prog [PF.raw prog] [] bj 88 f88 func88 (fun c _=>LOk.nil c) alf (by
 intro _ _ _ h;unfold alf at h;split at h<;>cases h;kernel_rfl)
def ale:awE
 | [.one ⟨false,[.val (.slice (some _) 0 _)]⟩],[]=>some ⟨.one ⟨false,[.ref 0]⟩,[],[.row true 2 (.int .i64) []],[true]⟩
 |_,_=>none
def aqD:PF prog:=PF.ofG prog [] [] bj 88 f88 func88 (fun c _=>LOk.nil c) ale (by
 intro _ _ _ h;unfold ale at h;split at h<;>cases h;kernel_rfl)
def KS:awE
 | [.one ⟨false,[.ref 0]⟩],[.row false 2 (.int .i64) a]=>some ⟨.one ⟨false,[.ref 1]⟩,[.row false 2 (.int .i64) a],[.row true 2 (.int .i64) a],[leN a.length 1048576]⟩
 |_,_=>none
def gg:PF prog where
 k:=88
 F:=KS
 ok:=by
  intro args es o h bA mem ρ w hp
  unfold KS at h
  split at h
  ·rename_i a
   cases h
   have hl:=bA _ (v9.2 rfl)
   cases a with
   |nil=>
    exact(atz aqE aqD rfl rfl rfl (fun _ _=>rfl) (by simp) (by simp) hp).mono fun en w' ⟨ρ',h1,h2,h3⟩=>⟨ρ',h1,h2,rfl,(by intro v hv;rw [v9.1 hv];rfl),h3⟩
   |cons x xs=>exact WX.ok _ _ ⟨_,_,_,[vW (x::xs)]⟩ rfl (fun b hb=>by rw [v9.1 hb];exact atA (x::xs) ((w5 _ _).mpr ⟨aG (Nat.succ_pos _),hl⟩)) mem ρ w hp
  ·cases h
theorem avF(xs:arG)(h:leN xs.length 1048576=true):aal xs=true:=by
 have h:=fc.1 h
 simp [aal,allT]
 omega
def agY:awE
 | [.one ⟨false,[.ref 0]⟩],[.row false 2 (.int .i64) a]=>some ⟨.one ⟨false,[.ref 1]⟩,[.row false 2 aox a],[.row true 2 aox a],[leN a.length 1048576]⟩
 |_,_=>none
def aF:PF prog:=PF.alt an5 agY (by
 intro args es o h bA;unfold agY at h;split at h
 ·rename_i a
  cases h
  have bA:=fv bA
  have hh:=avF a bA
  have en:=hh
  exact kj rfl (eT en) rfl rfl rfl
 ·cases h)
def Gg(a:Int):Bool:=bif leI 97 a then leI a 122 else false
def aaG:awE
 | [.one ⟨false,[.val (.int .u8 a)]⟩],[]=>some ⟨.one ⟨false,[.val (.bool (Gg a))]⟩,[],[],[]⟩
 |_,_=>none
def Tg:PF prog:=PF.ofG prog [] [] bj 195 f195 func195 (fun c _=>LOk.nil c) aaG (by
 intro _ _ _ h;unfold aaG at h;split at h<;>cases h;kernel_rfl)
def Vi(a:Int):Bool:=bif leI 48 a then leI a 57 else false
def acv:awE
 | [.one ⟨false,[.val (.int .u8 a)]⟩],[]=>some ⟨.one ⟨false,[.val (.bool (Vi a))]⟩,[],[],[]⟩
 |_,_=>none
def al0:PF prog:=PF.ofG prog [] [] bj 200 f200 func200 (fun c _=>LOk.nil c) acv (by
 intro _ _ _ h;unfold acv at h;split at h<;>cases h;kernel_rfl)
def Of(a:Int):Bool:=bif bif Gg a then true else Vi a then true else a==95
def acw:awE
 | [.one ⟨false,[.val (.int .u8 a)]⟩],[]=>some ⟨.one ⟨false,[.val (.bool (Of a))]⟩,[],[],[]⟩
 |_,_=>none
def acR:PF prog:=PF.ofG prog [Tg,al0] [] bj 194 f194 func194 (fun c _=>LOk.nil c) acw (by
 intro _ _ _ h;unfold acw at h;split at h<;>cases h;kernel_rfl)
abbrev tg:=Int×asv
section
variable (a:Int)(b:asv)
def Ee:Bool:=ltI a (↑(ByteArray.size b):Int)
def Za:Bool:=leI 0 a
def Rf:Bool:= !Of (↑(UInt8.toNat (v6 b[v4 a]? (0:UInt8))):Int)
def Zb:Int:=v7 .i64 (a + (1:Int))
end
def ahu:tg→List (Nat×SV)
 |(a,b)=> [(3,(.one ⟨false,[awF a]⟩)),(0,(.one ⟨false,[.val (.string b)]⟩))]
def ahl:tg→List (Nat×Entry)
 |(_,_)=> []
def ahM:Nat→tg→List (Nat×SV)
 |0,(_,_)=> [(2,(.one ⟨false,[.val (.bool false)]⟩))]
 |_,(_,_)=> []
def BZ:tg→LT tg
 |(a,b)=> .ite (Ee a b) (.need [Za a,Ee a b] (.ite (Rf a b) (.ext 0 []) (.nrm ((Zb a),b) []))) (.ext 1 [])
def OU(s:St):Option tg:=do
 let some ⟨none,.one ⟨false,[.val (.int .i64 a)]⟩⟩:=s.look 3|none
 let some ⟨none,.one ⟨false,[.val (.string b)]⟩⟩:=s.look 0|none
 some (a,b)
def ge:Lp tg where
 h:=⟨[4,5,6,7,10,11,12,13,14,2,8,9,3],[],[],[]⟩
 JL:=ahu
 JE:=ahl
 XL:=ahM
 XE:=fun _=>ahl
 q:=fun j=>match j with | 0=> .ret | _=> .exit 0
 tags:= [0,1]
 lt:=BZ
 fuel:=fun(a,b)=>a.natAbs + b.size
 fix:=fun(_,b) (a,_)=>(a,b)
 σ:= []
 rd:=OU
theorem aeS:LoopOk prog (fun k=>Nat.blt k Tryz.f178.ntmps) ge.F (bB f178 0):=by
 refine Lp.ok (tbl:= [pp,acR,Tg]) (lf:= []) bj ge (by kernel_rfl) (LOk.nil _) (fun _=>rfl) (fun j _=>by unfold ge;match j with | 0=>rfl | _ + 1=>rfl) ?_ ?_ ?_ ?_ (fun _=>rfl) ?_
 ·rintro⟨a,b⟩;kernel_rfl
 ·rintro⟨a,b⟩;kernel_rfl
 ·intro s x h
  have h:OU s=some x:=h
  unfold OU at h
  repeat' split at h
  all_goals cases h
  exact⟨ab (by assumption) rfl (ab (by assumption) rfl (rfl)),rfl⟩
 ·rintro⟨a,b⟩;kernel_rfl
 ·rintro⟨a,b⟩ z;exact(And.intro (And.intro trivial rfl) trivial)
section
variable (a:asv)
def Og:Bool:=Nat.beq ((Lp.res ge ((0:Int),a)).1) 0
def Oh:Bool:=aZ (↑(ByteArray.size a):Int) 1 12
def Xx:Bool:=bif Og a then false else bif Oh a then Gg (↑(UInt8.toNat (v6 a[v4 0]? (0:UInt8))):Int)else false
def Xy:Bool:=allT [Lp.fin ge ((0:Int),a),Og a||(!(Oh a&&true)||leI 0 0),Og a||(!(Oh a&&true)||ltI 0 (↑(ByteArray.size a):Int))]
end
def adO:awE
 | [.one ⟨false,[.val (.string a)]⟩],[]=>some ⟨.one ⟨false,[.val (.bool (Xx a))]⟩,[],[],[Xy a]⟩
 |_,_=>none
def ani:PF prog:=PF.ofG prog [pp,acR,Tg] [ge.F] bj 178 f178 func178 (LOk.fnT (l:= [bB f178 0]) (by kernel_rfl) (.cons aeS (.nil _))) adO (by
 intro _ _ _ h;unfold adO at h;split at h<;>cases h;kernel_rfl)
def Pq:List asv:=
 [{ data:= #[(112:UInt8),(114:UInt8),(111:UInt8),(103:UInt8),(114:UInt8),(97:UInt8),(109:UInt8)] },
 {data:= #[(105:UInt8),(110:UInt8)] },{ data:= #[(118:UInt8),(97:UInt8),(114:UInt8)] },
 {data:= #[(111:UInt8),(117:UInt8),(116:UInt8)] },{ data:= #[(103:UInt8),(117:UInt8),(97:UInt8),(114:UInt8),(100:UInt8)] },
 {data:= #[(101:UInt8),(110:UInt8),(100:UInt8)] },{ data:= #[(97:UInt8),(110:UInt8),(100:UInt8)] },
 {data:= #[(111:UInt8),(114:UInt8)] },{ data:= #[(110:UInt8),(111:UInt8),(116:UInt8)] },
 {data:= #[(116:UInt8),(114:UInt8),(117:UInt8),(101:UInt8)] },
 {data:= #[(102:UInt8),(97:UInt8),(108:UInt8),(115:UInt8),(101:UInt8)] },{ data:= #[(111:UInt8),(110:UInt8)] },
 {data:= #[(111:UInt8),(102:UInt8),(102:UInt8)] },{ data:= #[(114:UInt8),(105:UInt8),(115:UInt8),(101:UInt8)] },
 {data:= #[(108:UInt8),(97:UInt8),(116:UInt8),(99:UInt8),(104:UInt8)] },
 {data:= #[(99:UInt8),(111:UInt8),(117:UInt8),(110:UInt8),(116:UInt8)] },
 {data:= #[(112:UInt8),(97:UInt8),(105:UInt8),(114:UInt8)] }]
def Wm:awE
 | [],[]=>some ⟨.one ⟨false,[.ref 0]⟩,[],[.row true 9 arE (Pq)],[]⟩
 |_,_=>none
def WY:PF prog:=PF.ofG prog [] [] bj 196 f196 func196 (fun c _=>LOk.nil c) Wm (by
 intro _ _ _ h;unfold Wm at h;split at h<;>cases h;kernel_rfl)
abbrev kx:=Int×asv×List asv
section
variable (a:Int)(b:asv)(c:List asv)
def uQ:Bool:=ltI a (↑c.length:Int)
def yZ:Bool:=leI 0 a
def za:Bool:=ltN a.toNat c.length
def zb:Bool:=ByteArray.toList (v6 c[v4 a]? ByteArray.empty)==ByteArray.toList b
def zc:Int:=v7 .i64 (a + (1:Int))
end
def ac8:kx→List (Nat×SV)
 |(a,b,_)=> [(4,(.one ⟨false,[awF a]⟩)),(3,(.one ⟨false,[.ref 0]⟩)),(0,(.one ⟨false,[.val (.string b)]⟩))]
def ac2:kx→List (Nat×Entry)
 |(_,_,a)=> [(0,(.row true 9 arE a))]
def adl:Nat→kx→List (Nat×SV)
 |0,(a,_,_)=> [(2,(.one ⟨false,[awF a]⟩))]
 |_,(_,_,_)=> []
def xo:kx→LT kx
 |(a,b,c)=> .ite (uQ a c) (.need [yZ a,uQ a c,za a c] (.ite (zb a b c) (.ext 0 [(0,0)]) (.nrm ((zc a),b,c) [(0,0)]))) (.ext 1 [(0,0)])
def Jr(s:St):Option kx:=do
 let some ⟨none,.one ⟨false,[.val (.int .i64 a)]⟩⟩:=s.look 4|none
 let some ⟨none,.one ⟨false,[.ref 128]⟩⟩:=s.look 3|none
 let some ⟨none,.one ⟨false,[.val (.string b)]⟩⟩:=s.look 0|none
 let some (.row true 9 (.str) c):=s.ent 128|none
 some (a,b,c)
def dw:Lp kx where
 h:=⟨[6,7,8,9,12,13,14,15,16,17,18,2,10,11,4],[0],[],[]⟩
 JL:=ac8
 JE:=ac2
 XL:=adl
 XE:=fun _=>ac2
 q:=fun j=>match j with | 0=> .ret | _=> .exit 0
 tags:= [0,1]
 lt:=xo
 fuel:=fun(a,b,c)=>a.natAbs + b.size + c.length
 fix:=fun(_,b,c) (a,_,_)=>(a,b,c)
 σ:= [(0,128)]
 rd:=Jr
theorem aa6:LoopOk prog (fun k=>Nat.blt k Tryz.f179.ntmps) dw.F (bB f179 0):=by
 refine Lp.ok (tbl:= [WY]) (lf:= []) bj dw (by kernel_rfl) (LOk.nil _) (fun _=>rfl) (fun j _=>by unfold dw;match j with | 0=>rfl | _ + 1=>rfl) ?_ ?_ ?_ ?_ (fun _=>rfl) ?_
 ·rintro⟨a,b,c⟩;kernel_rfl
 ·rintro⟨a,b,c⟩;kernel_rfl
 ·intro s x h
  have h:Jr s=some x:=h
  unfold Jr at h
  repeat' split at h
  all_goals cases h
  constructor<;>repeat(first|refine ab (by assumption) rfl ?_|refine aa rfl (by assumption) rfl ?_|exact rfl)
 ·rintro⟨a,b,c⟩;kernel_rfl
 ·rintro⟨a,b,c⟩ z;exact(And.intro (And.intro trivial rfl) trivial)
section
variable (a:asv)
def Ic:Int×asv×List asv:=((0:Int),a,Pq)
def Kl:Int:=bif Nat.beq ((Lp.res dw (Ic a)).1) 0 then ((Lp.res dw (Ic a)).2).1else(-1:Int)
def Km:Bool:=allT [Lp.fin dw (Ic a)]
end
def YB:awE
 | [.one ⟨false,[.val (.string a)]⟩],[]=>some ⟨.one ⟨false,[awF (Kl a)]⟩,[],[],[Km a]⟩
 |_,_=>none
def ajR:PF prog:=PF.ofG prog [WY] [dw.F] bj 179 f179 func179 (LOk.fnT (l:= [bB f179 0]) (by kernel_rfl) (.cons aa6 (.nil _))) YB (by
 intro _ _ _ h;unfold YB at h;split at h<;>cases h;kernel_rfl)
def vE(a:asv)(b:Int):Int:=ibs a b
def DK:awE
 | [.one ⟨false,[.val (.string a)]⟩,.one ⟨false,[.val (.int .u8 b)]⟩],[]=>some ⟨.one ⟨false,[awF (vE a b)]⟩,[],[],[]⟩
 |_,_=>none
def QL:PF prog:=PF.ofG prog [] [] bj 201 f201 func201 (fun c _=>LOk.nil c) DK (by
 intro _ _ _ h;unfold DK at h;split at h<;>cases h;kernel_rfl)
def FH(a:asv)(b:Int):Int:=vE a b
def Vy:awE
 | [.one ⟨false,[.val (.string a)]⟩,.one ⟨false,[.val (.int .u8 b)]⟩],[]=>some ⟨.one ⟨false,[awF (FH a b)]⟩,[],[],[]⟩
 |_,_=>none
def MY:PF prog:=PF.ofG prog [QL] [] bj 197 f197 func197 (fun c _=>LOk.nil c) Vy (by
 intro _ _ _ h;unfold Vy at h;split at h<;>cases h;kernel_rfl)
abbrev Bm:=Int×Int×asv×asv
section
variable (a b:Int)(c d:asv)
def yS:Bool:=ltI (v7 .i64 (a + b)) (↑(ByteArray.size c):Int)
def ZY:Bool:= !(yS a b c&&true)||leI 0 (v7 .i64 (a + b))
def ZZ:Bool:= !(yS a b c&&true)||yS a b c
def TR:Bool:=bif yS a b c then leI 0 (FH d (↑(UInt8.toNat (v6 c[v4 (v7 .i64 (a + b))]? (0:UInt8))):Int))else false
def ag6:Int:=v7 .i64 (b + (1:Int))
end
def amh:Bm→List (Nat×SV)
 |(a,b,c,d)=> [(1,(.one ⟨false,[awF a]⟩)),(7,(.one ⟨false,[awF b]⟩)),(0,(.one ⟨false,[.val (.string c)]⟩)),(2,(.one ⟨false,[.val (.string d)]⟩))]
def amg:Bm→List (Nat×Entry)
 |(_,_,_,_)=> []
def amk:Nat→Bm→List (Nat×SV)
 |_,(_,a,_,_)=> [(7,(.one ⟨false,[awF a]⟩))]
def Ln:Bm→LT Bm
 |(a,b,c,d)=> .need [ZY a b c,ZZ a b c] (.ite (TR a b c d) (.nrm (a,ag6 b,c,d) []) (.ext 0 []))
def Xe(s:St):Option Bm:=do
 let some ⟨none,.one ⟨false,[.val (.int .i64 a)]⟩⟩:=s.look 1|none
 let some ⟨none,.one ⟨false,[.val (.int .i64 b)]⟩⟩:=s.look 7|none
 let some ⟨none,.one ⟨false,[.val (.string c)]⟩⟩:=s.look 0|none
 let some ⟨none,.one ⟨false,[.val (.string d)]⟩⟩:=s.look 2|none
 some (a,b,c,d)
def kf:Lp Bm where
 h:=⟨[8,9,10,11,12,13,14,15,16,17,18,19,20,21,22,23,24,25,7],[],[],[]⟩
 JL:=amh
 JE:=amg
 XL:=amk
 XE:=fun _=>amg
 q:=fun j=>match j with | _=> .exit 0
 tags:= [0]
 lt:=Ln
 fuel:=fun(a,b,c,d)=>a.natAbs + b.natAbs + c.size + d.size
 fix:=fun(a,_,c,d) (_,b,_,_)=>(a,b,c,d)
 σ:= []
 rd:=Xe
theorem akA:LoopOk prog (fun k=>Nat.blt k Tryz.f198.ntmps) kf.F (bB f198 0):=by
 refine Lp.ok (tbl:= [MY]) (lf:= []) bj kf (by kernel_rfl) (LOk.nil _) (fun _=>rfl) (fun _ _=>rfl) ?_ ?_ ?_ ?_ (fun _=>rfl) ?_
 ·rintro⟨a,b,c,d⟩;kernel_rfl
 ·rintro⟨a,b,c,d⟩;kernel_rfl
 ·intro s x h
  have h:Xe s=some x:=h
  unfold Xe at h
  repeat' split at h
  all_goals cases h
  exact⟨ab (by assumption) rfl (ab (by assumption) rfl (ab (by assumption) rfl (ab (by assumption) rfl (rfl)))),rfl⟩
 ·rintro⟨a,b,c,d⟩;kernel_rfl
 ·rintro⟨a,b,c,d⟩ z;exact(And.intro rfl trivial)
section
variable (a:asv)(b:Int)(c:asv)
def alp:Int×Int×asv×asv:=(b,(0:Int),a,c)
def amM:Int:=((Lp.res kf (alp a b c)).2.2).1
def amN:Bool:=allT [Lp.fin kf (alp a b c)]
end
def ame:awE
 | [.one ⟨false,[.val (.string a)]⟩,.one ⟨false,[.val (.int .i64 b)]⟩,.one ⟨false,[.val (.string c)]⟩],[]=>some ⟨.one ⟨false,[awF (amM a b c)]⟩,[],[],[amN a b c]⟩
 |_,_=>none
def arT:PF prog:=PF.ofG prog [MY] [kf.F] bj 198 f198 func198 (LOk.fnT (l:= [bB f198 0]) (by kernel_rfl) (.cons akA (.nil _))) ame (by
 intro _ _ _ h;unfold ame at h;split at h<;>cases h;kernel_rfl)
def yR(a:asv):Bool:=dQ (↑(ByteArray.size a):Int) 1 12
def FQ(a:asv):Bool:=
 bif yR a then
 leI (0:Int)
  (FH
   {
    data:=
     #[(97:UInt8),(98:UInt8),(99:UInt8),(100:UInt8),(101:UInt8),(102:UInt8),(103:UInt8),(104:UInt8),(105:UInt8),
      (106:UInt8),(107:UInt8),(108:UInt8),(109:UInt8),(110:UInt8),(111:UInt8),(112:UInt8),(113:UInt8),(114:UInt8),
      (115:UInt8),(116:UInt8),(117:UInt8),(118:UInt8),(119:UInt8),(120:UInt8),(121:UInt8),(122:UInt8)] }
   (↑(UInt8.toNat (v6 a[v4 (0:Int)]? (0:UInt8))):Int))
 else false
def ZW(a:asv):Bool:=
 bif FQ a then
 amM a (0:Int)
   {
    data:=
     #[(97:UInt8),(98:UInt8),(99:UInt8),(100:UInt8),(101:UInt8),(102:UInt8),(103:UInt8),(104:UInt8),(105:UInt8),
      (106:UInt8),(107:UInt8),(108:UInt8),(109:UInt8),(110:UInt8),(111:UInt8),(112:UInt8),(113:UInt8),(114:UInt8),
      (115:UInt8),(116:UInt8),(117:UInt8),(118:UInt8),(119:UInt8),(120:UInt8),(121:UInt8),(122:UInt8),(48:UInt8),
      (49:UInt8),(50:UInt8),(51:UInt8),(52:UInt8),(53:UInt8),(54:UInt8),(55:UInt8),(56:UInt8),(57:UInt8),
      (95:UInt8)] } ==
  (↑(ByteArray.size a):Int)
 else false
def ZX(a:asv):Bool:=
 allT
 [!(yR a&&true)||leI (0:Int) (0:Int),!(yR a&&true)||ltI (0:Int) (↑(ByteArray.size a):Int),
  !(FQ a&&true)||
   amN a (0:Int)
    {
     data:=
      #[(97:UInt8),(98:UInt8),(99:UInt8),(100:UInt8),(101:UInt8),(102:UInt8),(103:UInt8),(104:UInt8),(105:UInt8),
       (106:UInt8),(107:UInt8),(108:UInt8),(109:UInt8),(110:UInt8),(111:UInt8),(112:UInt8),(113:UInt8),(114:UInt8),
       (115:UInt8),(116:UInt8),(117:UInt8),(118:UInt8),(119:UInt8),(120:UInt8),(121:UInt8),(122:UInt8),(48:UInt8),
       (49:UInt8),(50:UInt8),(51:UInt8),(52:UInt8),(53:UInt8),(54:UInt8),(55:UInt8),(56:UInt8),(57:UInt8),
       (95:UInt8)] }]
def agM:awE
 | [.one ⟨false,[.val (.string a)]⟩],[]=>some ⟨.one ⟨false,[.val (.bool (ZW a))]⟩,[],[],[ZX a]⟩
 |_,_=>none
def an3:PF prog:=PF.ofG prog [NJ,MY,arT] [] bj 181 f181 func181 (fun c _=>LOk.nil c) agM (by
 intro _ _ _ h;unfold agM at h;split at h<;>cases h;kernel_rfl)
abbrev dm:=Int×Int×asv×List asv
section
variable (a b:Int)(c:asv)(d:List asv)
def nN:Bool:=ltI a b
def nO:Bool:=leI 0 a
def nP:Bool:=ltI a (↑d.length:Int)
def nQ:Bool:=ltN a.toNat d.length
def nR:Bool:=ByteArray.toList c==ByteArray.toList (v6 d[v4 a]? ByteArray.empty)
def nT:Int:=v7 .i64 (a + (1:Int))
end
def Qw:dm→List (Nat×SV)
 |(a,b,c,_)=> [(8,(.one ⟨false,[awF a]⟩)),(7,(.one ⟨false,[awF b]⟩)),(1,(.one ⟨false,[.val (.string c)]⟩)),(0,(.one ⟨false,[.ref 0]⟩))]
def Qv:dm→List (Nat×Entry)
 |(_,_,_,a)=> [(0,(.row false 9 arE a))]
def Qz:Nat→dm→List (Nat×SV)
 |0,(a,_,_,_)=> [(4,(.one ⟨false,[awF a]⟩))]
 |_,(_,_,_,_)=> []
def mT:dm→LT dm
 |(a,b,c,d)=> .ite (nN a b) (.need [nO a,nP a d,nQ a d] (.ite (nR a c d) (.ext 0 [(0,0)]) (.nrm ((nT a),b,c,d) [(0,0)]))) (.ext 1 [(0,0)])
def vT(s:St):Option dm:=do
 let some ⟨none,.one ⟨false,[.val (.int .i64 a)]⟩⟩:=s.look 8|none
 let some ⟨none,.one ⟨false,[.val (.int .i64 b)]⟩⟩:=s.look 7|none
 let some ⟨none,.one ⟨false,[.val (.string c)]⟩⟩:=s.look 1|none
 let some ⟨none,.one ⟨false,[.ref 0]⟩⟩:=s.look 0|none
 let some (.row false 9 (.str) d):=s.ent 0|none
 some (a,b,c,d)
def bg:Lp dm where
 h:=⟨[9,10,5,11,12,13,14,15,16,17,4,18,8],[0],[],[]⟩
 JL:=Qw
 JE:=Qv
 XL:=Qz
 XE:=fun _=>Qv
 q:=fun j=>match j with | 0=> .ret | _=> .exit 0
 tags:= [0,1]
 lt:=mT
 fuel:=fun(a,b,c,d)=>a.natAbs + b.natAbs + c.size + d.length
 fix:=fun(_,b,c,d) (a,_,_,_)=>(a,b,c,d)
 σ:= [(0,0)]
 rd:=vT
theorem OK:LoopOk prog (fun k=>Nat.blt k Tryz.f59.ntmps) bg.F (bB f59 0):=by
 refine Lp.ok (tbl:= []) (lf:= []) bj bg (by kernel_rfl) (LOk.nil _) (fun _=>rfl) (fun j _=>by unfold bg;match j with | 0=>rfl | _ + 1=>rfl) ?_ ?_ ?_ ?_ (fun _=>rfl) ?_
 ·rintro⟨a,b,c,d⟩;kernel_rfl
 ·rintro⟨a,b,c,d⟩;kernel_rfl
 ·intro s x h
  have h:vT s=some x:=h
  unfold vT at h
  repeat' split at h
  all_goals cases h
  constructor<;>repeat(first|refine ab (by assumption) rfl ?_|refine aa rfl (by assumption) rfl ?_|exact rfl)
 ·rintro⟨a,b,c,d⟩;kernel_rfl
 ·rintro⟨a,b,c,d⟩ z;exact(And.intro (And.intro trivial rfl) trivial)
section
variable (a:asv)(b:List asv)
def tt:Int×Int×asv×List asv:=((0:Int),(↑b.length:Int),a,b)
def zT:Int:=bif Nat.beq ((Lp.res bg (tt a b)).1) 0 then ((Lp.res bg (tt a b)).2).1else(-1:Int)
def zU:Bool:=allT [Lp.fin bg (tt a b)]
end
def IB:awE
 | [.one ⟨false,[.ref 0]⟩,.one ⟨false,[.val (.string a)]⟩],[.row false 9 (.str) b]=>some ⟨.one ⟨false,[awF (zT a b)]⟩,[.row false 9 arE b],[],[zU a b]⟩
 |_,_=>none
def zR:PF prog:=PF.ofG prog [] [bg.F] bj 59 f59 func59 (LOk.fnT (l:= [bB f59 0]) (by kernel_rfl) (.cons OK (.nil _))) IB (by
 intro _ _ _ h;unfold IB at h;split at h<;>cases h;kernel_rfl)
def wU(a:asv)(b:List asv):Bool:=leI 0 (zT a b)
def wV(a:asv)(b:List asv):Bool:=allT [zU a b]
def Fd:awE
 | [.one ⟨false,[.ref 0]⟩,.one ⟨false,[.val (.string a)]⟩],[.row false 9 (.str) b]=>some ⟨.one ⟨false,[.val (.bool (wU a b))]⟩,[.row false 9 arE b],[],[wV a b]⟩
 |_,_=>none
def wT:PF prog:=PF.ofG prog (T3z [zR]) [] bj 156 f156 func156 (fun c _=>LOk.nil c) Fd (by
 intro _ _ _ h;unfold Fd at h;split at h<;>cases h;kernel_rfl)
def SU(a:asv):Bool:=wU a (List.drop (v4 0) (List.take (v4 (↑(v5 aft):Int)) aft))
def SW(a:asv):Bool:=allT [wV a (List.drop (v4 0) (List.take (v4 (↑(v5 aft):Int)) aft))]
def aaA:awE
 | [.one ⟨false,[.val (.string a)]⟩],[]=>some ⟨.one ⟨false,[.val (.bool (SU a))]⟩,[],[],[SW a]⟩
 |_,_=>none
def akO:PF prog:=PF.ofG prog (T3z [wT]) [] bj 182 f182 func182 (fun c _=>LOk.nil c) aaA (by
 intro _ _ _ h;unfold aaA at h;split at h<;>cases h;kernel_rfl)
theorem Lp.scan{X:Type}(p:Lp X)(st:Nat→X)(N:Nat)(P:Nat→Bool)(e:Nat)(hN:N≤p.fuel (st 0))
  (hs: ∀ b,b < N→(p.lt (st b)).nds=true∧(p.lt (st b)).each (fun y=>y=st (b + 1))∧(p.lt (st b)).fn (fun _=>())=(bif P b then .inl 0 else .inr ()))
  (he:(p.lt (st N)).out=some (.inl e)):p.fin (st 0)=true∧(p.res (st 0)).1=bif(List.range N).any P then 0 else e:=by
 have mO:=p.along (fun i (_:Unit)=>st i) (fun _=>()) (fun(b:Nat) (_:Unit)=>bif P b then .inl 0 else .inr ()) e (fun _ _=>True) (List.range N) () trivial (by rw [List.length_range];exact hN)
  (fun i b a hb _=>by
   obtain⟨rfl,eG⟩:=Ti hb
   obtain⟨h1,h2,h3⟩:=hs b eG
   exact⟨h1,h2,h3,fun _ _=>trivial⟩) (fun a _=>by rw [List.length_range];exact he)
 rw [oE (P:=P) (j:=0) (fun b=>rfl)]at mO
 exact⟨mO.1,by rw [mO.2]⟩
def bAt(s:asv)(b:Nat):Int:=((s[b]?.getD 0).toNat:Int)
def aqr(c:Int):Bool:=inR c 97 122
def adr(c:Int):Bool:=aqr c||(inR c 48 57||c==95)
def Yk(s:asv):Bool:=inR (s.size:Int) 1 12&&(aqr (bAt s 0)&&(List.range s.size).all fun b=>adr (bAt s b))
def arL(s:asv):Bool:=aft.any fun k=>k.toList==s.toList
def wJ(s:asv):Bool:=Yk s&& !arL s
def avd:asv:=⟨#[97,98,99,100,101,102,103,104,105,106,107,108,109,110,111,112,113,114,115,116,117,118,119,120,121,122]⟩
def wbS:asv:=⟨#[97,98,99,100,101,102,103,104,105,106,107,108,109,110,111,112,113,114,115,116,117,118,119,120,121,122,48,49,50,51,52,53,54,55,56,57,95]⟩
theorem aus: ∀ n:Nat,n < 256→leI 0 (ibs avd (n:Int))=aqr (n:Int):=by decide +kernel
theorem avU: ∀ n:Nat,n < 256→leI 0 (ibs wbS (n:Int))=adr (n:Int):=by decide +kernel
theorem ave(s:asv)(b:Nat):leI 0 (ibs avd (bAt s b))=aqr (bAt s b):=aus _ (UInt8.toNat_lt _)
theorem awf(s:asv)(b:Nat):leI 0 (ibs wbS (bAt s b))=adr (bAt s b):=avU _ (UInt8.toNat_lt _)
theorem atm(c:Int):Of c=adr c:=by
 simp only [Of,Gg,Vi,Tb,adr,aqr]
 cases inR c 97 122 <;> cases inR c 48 57 <;> rfl
theorem asd(s:asv)(hn:s.size≤9223372036854775807):
  ge.fin ((0:Int),s)=true∧(ge.res ((0:Int),s)).1=bif(List.range s.size).any (fun b=> !adr (bAt s b))then 0 else 1:=by
 refine Lp.scan ge (fun b=>((b:Int),s)) s.size (fun b=> !adr (bAt s b)) 1 (by simp only [ge];omega) (fun b hb=> ?_) ?_
 ·have jY:ltI (b:Int) (s.size:Int)=true:=cI (by omega)
  have hw:IntKind.i64.wrap ((b:Int) + 1)=((b + 1:Nat):Int):=by rw [aR (by omega) (by omega)];omega
  have PX:leI (0:Int) (b:Int)=true:=aS (by omega)
  have i2:Rf (b:Int) s= !adr (bAt s b):=by simp only [Rf,atm,w7,bAt]
  refine⟨?_,?_,?_⟩
  ·simp [ge,BZ,LT.nds,allT,Ee,Za,jY,PX]
  ·simp [ge,BZ,LT.each,Zb,hw]
  ·simp only [ge,BZ,LT.fn,Ee,jY,i2,cond_true]
 ·simp [ge,BZ,LT.out,Ee]
theorem aqY(s:asv)(h:leN s.size 9223372036854775807=true):Xx s=Yk s∧Xy s=true:=by
 obtain⟨w1,w2⟩:=asd s (fc.1 h)
 have e5:((List.range s.size).any fun b=> !adr (bAt s b))= !(List.range s.size).all fun b=>adr (bAt s b):=by simp [List.all_eq_not_any_not]
 rw [e5]at w2
 have eb:((UInt8.toNat (v6 s[v4 (0:Int)]? (0:UInt8)):Nat):Int)=bAt s 0:=rfl
 have h0:leI 0 0=true:=rfl
 simp only [Xx,Xy,Og,Oh,w1,w2,eb,h0,Gg,aZ,Tb,Yk,aqr,allT,j7,cond_true]
 cases hr:inR (s.size:Int) 1 12 with
 |false=>cases (List.range s.size).all fun b=>adr (bAt s b) <;> simp [Nat.beq]
 |true=>
  have:=wW.1 hr
  rw [cI (by omega)]
  cases inR (bAt s 0) 97 122 <;> cases (List.range s.size).all fun b=>adr (bAt s b) <;> simp [Nat.beq]
theorem awe(s:asv)(hn:s.size≤9223372036854775806):
  kf.fin ((0:Int),(0:Int),s,wbS)=true∧((kf.res ((0:Int),(0:Int),s,wbS)).2.2.1==(s.size:Int))=(List.range s.size).all fun b=>adr (bAt s b):=by
 have hz: ∀ i:Nat,i≤s.size→IntKind.i64.wrap ((0:Int) + (i:Int))=(i:Int):=fun i hi=>by rw [aR (by omega) (by omega)];omega
 have mO:=kf.along (fun i (_:Unit)=>((0:Int),(i:Int),s,wbS)) (fun _=>()) (fun(b:Nat) (_:Unit)=>bif !adr (bAt s b)then .inl 0 else .inr ()) 0 (fun _ _=>True) (List.range s.size) () trivial (by simp only [kf,List.length_range];omega)
  (fun i b a hb _=>by
   obtain⟨rfl,eG⟩:=Ti hb
   have jY:ltI (b:Int) (s.size:Int)=true:=cI (by omega)
   have PX:leI (0:Int) (b:Int)=true:=aS (by omega)
   have hw:IntKind.i64.wrap ((b:Int) + 1)=((b + 1:Nat):Int):=by rw [aR (by omega) (by omega)];omega
   have ha:yS 0 (b:Int) s=true:=by simp only [yS,hz b (by omega),jY]
   have hb2:TR 0 (b:Int) s wbS=adr (bAt s b):=by
    simp only [TR,ha,cond_true,hz b (by omega),w7,FH,vE]
    exact awf s b
   refine⟨?_,?_,?_,fun _ _=>trivial⟩
   ·have hz2:=hz b (by omega)
    rw [Int.zero_add]at hz2
    simp [kf,Ln,LT.nds,allT,ZY,ZZ,ha,hz2]
   ·simp [kf,Ln,LT.each,ag6,hw]
   ·simp only [kf,Ln,LT.fn,hb2]
    cases adr (bAt s b) <;> rfl)
  (fun a _=>by
   have jY:ltI (s.size:Int) (s.size:Int)=false:=by simp
   have ha:yS 0 (s.size:Int) s=false:=by simp only [yS,hz s.size (by omega),jY]
   rw [List.length_range]
   simp [kf,Ln,LT.out,TR,ZY,ZZ,allT,ha])
 rw [oE (P:=fun b=> !adr (bAt s b)) (j:=0) (fun b=>rfl)]at mO
 refine⟨mO.1,?_⟩
 have k2:kf.res ((0:Int),(0:Int),s,wbS)=_:=mO.2
 rw [k2]
 simp only [Nat.zero_add]
 rw [Bool.eq_iff_iff,beq_iff_eq,List.all_eq_true]
 have hl: ∀ (l:List Nat) (P:Nat→Bool),(l.takeWhile P).length=l.length↔ ∀ x∈l,P x=true:=by
  intro l P
  induction l with
  |nil=>simp
  |cons a r ih=>
   rw [List.takeWhile_cons]
   cases h:P a with
   |false=>simp [h]
   |true=>simp [h,ih]
 have h2:=hl (List.range s.size) (fun b=> !!adr (bAt s b))
 rw [List.length_range]at h2
 constructor
 ·intro h x hx;have:=h2.1 (by exact_mod_cast h) x hx;simpa using this
 ·intro h;exact_mod_cast h2.2 (fun x hx=>by simpa using h x hx)
theorem aqm(s:asv):ZW s=Yk s∧ZX s=true:=by
 have eb:((UInt8.toNat (v6 s[v4 (0:Int)]? (0:UInt8)):Nat):Int)=bAt s 0:=rfl
 have e0:yR s=inR (s.size:Int) 1 12:=by simp only [yR,dQ,Tb]
 have e1:FQ s=(inR (s.size:Int) 1 12&&aqr (bAt s 0)):=by
  have:FQ s=bif yR s then leI 0 (ibs avd (bAt s 0))else false:=rfl
  rw [this,e0,ave]
  cases inR (s.size:Int) 1 12 <;> rfl
 have e2:ZW s=bif FQ s then(kf.res ((0:Int),(0:Int),s,wbS)).2.2.1==(s.size:Int)else false:=rfl
 have e3:ZX s=allT [!(yR s&&true)||leI (0) (0),!(yR s&&true)||ltI (0) (↑(ByteArray.size s)),!(FQ s&&true)||allT [kf.fin ((0:Int),(0:Int),s,wbS)]]:=rfl
 have h0:leI 0 0=true:=rfl
 rw [e2,e3,e1,e0,h0]
 cases hr:inR (s.size:Int) 1 12 with
 |false=>simp [Yk,hr,allT]
 |true=>
  have:=wW.1 hr
  obtain⟨w1,w2⟩:=awe s (by omega)
  rw [w1,w2,cI (by omega)]
  simp only [Yk,hr,allT,Bool.true_and,Bool.and_true,j7,cond_true]
  cases aqr (bAt s 0) <;> simp
def yQ(a b:asv):(Unit)→Nat ⊕ (Unit)
 |_=>(bif(ByteArray.toList (b)==ByteArray.toList a)then(.inl 0)else(.inr ()))
def oh(a:asv)(b:List asv)(i:Nat):(Unit)→kx
 |_=>((i:Int),a,b)
def Jn:kx→Unit
 |(_,_,_)=>()
theorem afw(c:asv)(e:List asv) (hn:e.length≤9223372036854775807):
  dw.fin ((0:Int),c,e)=true∧dw.res ((0:Int),c,e)=((ci (yQ c) 1 e 0 ()).1,(oh c e) (ci (yQ c) 1 e 0 ()).2.1 (ci (yQ c) 1 e 0 ()).2.2):=by
 have mO:=dw.along (oh c e) Jn (yQ c) 1 (fun _ _=>True) e () (by trivial) (by simp only [dw,oh];omega) (fun i b a hb hI=> ?_) (fun a hI=> ?_)
 ·exact mO
 ·obtain⟨⟩:=a
  have eG:=(j9.1 hb).1
  have px: ∀ d,v6 e[i]? d=b:=fun d=>by rw [hb];rfl
  have hw:=Fc eG hn
  have jY:ltI (i:Int) (e.length:Int)=true:=cI (by omega)
  have PX:leI (0:Int) (i:Int)=true:=aS (by omega)
  have wR:ltN i e.length=true:=dE eG
  refine⟨?_,?_,?_,?_⟩
  ·simp [uQ,yZ,za,zb,zc,xo,dw,LT.nds,allT,oh,jY,PX,wR,px]
  ·simp [uQ,yZ,za,zb,zc,xo,dw,LT.each,oh,Jn,hw]
  ·simp only [uQ,yZ,za,zb,zc,xo,dw,LT.fn,oh,Jn,yQ,w7,jY,PX,wR,px,cond_true,j8]
  ·exact fun _ _=>trivial
 ·obtain⟨⟩:=a
  simp [uQ,yZ,za,zb,zc,xo,dw,LT.out,oh]
def nJ(a b:asv):(Unit)→Nat ⊕ (Unit)
 |_=>(bif(ByteArray.toList a==ByteArray.toList b)then(.inl 0)else(.inr ()))
def eF(a:asv)(b:List asv)(i:Nat):(Unit)→dm
 |_=>((i:Int),(↑b.length:Int),a,b)
def vS:dm→Unit
 |(_,_,_,_)=>()
theorem Sh(c:asv)(e:List asv) (hn:e.length≤9223372036854775807):
  bg.fin ((0:Int),(↑e.length:Int),c,e)=true∧bg.res ((0:Int),(↑e.length:Int),c,e)=((ci (nJ c) 1 e 0 ()).1,(eF c e) (ci (nJ c) 1 e 0 ()).2.1 (ci (nJ c) 1 e 0 ()).2.2):=by
 have mO:=bg.along (eF c e) vS (nJ c) 1 (fun _ _=>True) e () (by trivial) (by simp only [bg,eF];omega) (fun i b a hb hI=> ?_) (fun a hI=> ?_)
 ·exact mO
 ·obtain⟨⟩:=a
  have eG:=(j9.1 hb).1
  have px: ∀ d,v6 e[i]? d=b:=fun d=>by rw [hb];rfl
  have hw:=Fc eG hn
  have jY:ltI (i:Int) (e.length:Int)=true:=cI (by omega)
  have PX:leI (0:Int) (i:Int)=true:=aS (by omega)
  have wR:ltN i e.length=true:=dE eG
  refine⟨?_,?_,?_,?_⟩
  ·simp [nN,nO,nP,nQ,nR,nT,mT,bg,LT.nds,allT,eF,jY,PX,wR,px]
  ·simp [nN,nO,nP,nQ,nR,nT,mT,bg,LT.each,eF,vS,hw]
  ·simp only [nN,nO,nP,nQ,nR,nT,mT,bg,LT.fn,eF,vS,nJ,w7,jY,PX,wR,px,cond_true,j8]
  ·exact fun _ _=>trivial
 ·obtain⟨⟩:=a
  simp [nN,nO,nP,nQ,nR,nT,mT,bg,LT.out,eF]
theorem au7:aft.length≤9223372036854775807:=by decide
theorem anx(s:asv):ltI (Kl s) 0= !arL s∧Km s=true:=by
 have e0:Pq=aft:=rfl
 obtain⟨w1,w2⟩:=afw s aft au7
 rw [oE (P:=fun k=>k.toList==s.toList) (j:=0) (fun k=>rfl)]at w2
 simp only [Kl,Km,Ic,e0,w1,w2,allT,arL,oh]
 cases aft.any fun k=>k.toList==s.toList with
 |false=>exact⟨rfl,rfl⟩
 |true=>
  simp only [cond_true,Nat.beq]
  refine⟨?_,trivial⟩
  exact YO.2 (by omega)
theorem arI(s:asv):SU s=arL s∧SW s=true:=by
 have e0:List.drop (v4 (0)) (List.take (v4 (↑(v5 aft))) aft)=aft:=rfl
 obtain⟨w1,w2⟩:=Sh s aft au7
 rw [oE (P:=fun k=>s.toList==k.toList) (j:=0) (fun k=>rfl)]at w2
 have e1:(fun k:asv=>s.toList==k.toList)=fun k=>k.toList==s.toList:=funext fun k=>BEq.comm
 rw [e1]at w2
 simp only [SU,SW,e0,wU,wV,zT,zU,tt,w1,w2,allT,arL,eF]
 cases aft.any fun k=>k.toList==s.toList with
 |false=>exact⟨rfl,rfl⟩
 |true=>
  simp only [cond_true,Nat.beq]
  rw [aS (by omega)];simp
def aek:awE
 | [.one ⟨false,[.val (.string a)]⟩],[]=>some ⟨.one ⟨false,[.val (.bool (Yk a))]⟩,[],[],[leN a.size 9223372036854775807]⟩
 |_,_=>none
def am2:PF prog:=PF.alt ani aek (by
 intro args es o h bA;unfold aek at h;split at h
 ·rename_i a
  cases h
  have bA:=fv bA
  have hh:=aqY a bA
  obtain⟨e0,en⟩:=hh
  exact kj rfl (eT en) (by simp only [e0] <;> rfl) rfl rfl
 ·cases h)
def agW:awE
 | [.one ⟨false,[.val (.string a)]⟩],[]=>some ⟨.one ⟨false,[.val (.bool (Yk a))]⟩,[],[],[]⟩
 |_,_=>none
def anZ:PF prog:=PF.alt an3 agW (by
 intro args es o h bA;unfold agW at h;split at h
 ·rename_i a
  cases h
  have hh:=aqm a
  obtain⟨e0,en⟩:=hh
  exact kj rfl (eT en) (by simp only [e0] <;> rfl) rfl rfl
 ·cases h)
def aaP:awE
 | [.one ⟨false,[.val (.string a)]⟩],[]=>some ⟨.one ⟨false,[.val (.bool (arL a))]⟩,[],[],[]⟩
 |_,_=>none
def akF:PF prog:=PF.alt akO aaP (by
 intro args es o h bA;unfold aaP at h;split at h
 ·rename_i a
  cases h
  have hh:=arI a
  obtain⟨e0,en⟩:=hh
  exact kj rfl (eT en) (by simp only [e0] <;> rfl) rfl rfl
 ·cases h)
def nb(a:asv):Bool:=bif Yk a then ltI (Kl a) 0 else false
def tY(a:asv):Bool:=allT [leN (ByteArray.size a) 9223372036854775807,!(Yk a&&true)||Km a]
def adR:awE
 | [.one ⟨false,[.val (.string a)]⟩],[]=>some ⟨.one ⟨false,[.val (.bool (nb a))]⟩,[],[],[tY a]⟩
 |_,_=>none
def Lz:PF prog:=PF.ofG prog [am2,ajR] [] bj 142 f142 func142 (fun c _=>LOk.nil c) adR (by
 intro _ _ _ h;unfold adR at h;split at h<;>cases h;kernel_rfl)
def ay(a:Int):Bool:=bif bif bif a==7 then true else a==8 then true else a==11 then true else a==12
def aaH:awE
 | [.one ⟨false,[.val (.int .i64 a)]⟩],[]=>some ⟨.one ⟨false,[.val (.bool (ay a))]⟩,[],[],[]⟩
 |_,_=>none
def FY:PF prog:=PF.ofG prog [] [] bj 171 f171 func171 (fun c _=>LOk.nil c) aaH (by
 intro _ _ _ h;unfold aaH at h;split at h<;>cases h;kernel_rfl)
def XJ(a:Int):Bool:=aZ a 1 12
def adQ:awE
 | [.one ⟨false,[.val (.int .i64 a)]⟩],[]=>some ⟨.one ⟨false,[.val (.bool (XJ a))]⟩,[],[],[]⟩
 |_,_=>none
def ank:PF prog:=PF.ofG prog [pp] [] bj 173 f173 func173 (fun c _=>LOk.nil c) adQ (by
 intro _ _ _ h;unfold adQ at h;split at h<;>cases h;kernel_rfl)
def Vl(a b:Int):Bool:=bif bif !XJ a then true else !aZ b 0 9999 then true else bif !ay a then b !=0 else false
def Gi(a:Int)(b:asv)(c:Int):Bool:=
 bif Vl a c then false else bif a==(1:Int)then nb b else ByteArray.toList b==ByteArray.toList { data:= #[] }
def Gj(a:Int)(b:asv)(c:Int):Bool:=allT [Vl a c||(!a==1||tY b)]
def adS:awE
 | [.one ⟨true,[.val (.int .i64 a),.val (.string b),.val (.int .i64 c)]⟩],[]=>some ⟨.one ⟨false,[.val (.bool (Gi a b c))]⟩,[],[],[Gj a b c]⟩
 |_,_=>none
def WZ:PF prog:=PF.ofG prog [pp,Lz,FY,ank] [] bj 131 f131 func131 (fun c _=>LOk.nil c) adS (by
 intro _ _ _ h;unfold adS at h;split at h<;>cases h;kernel_rfl)
def Xh(a:Int)(b:asv)(c:Int):Bool:=bif Gi a b c then leI 7 a else false
def Xi(a:Int)(b:asv)(c:Int):Bool:=allT [Gj a b c]
def adI:awE
 | [.one ⟨true,[.val (.int .i64 a),.val (.string b),.val (.int .i64 c)]⟩],[]=>some ⟨.one ⟨false,[.val (.bool (Xh a b c))]⟩,[],[],[Xi a b c]⟩
 |_,_=>none
def anc:PF prog:=PF.ofG prog [WZ] [] bj 91 f91 func91 (fun c _=>LOk.nil c) adI (by
 intro _ _ _ h;unfold adI at h;split at h<;>cases h;kernel_rfl)
def TP(a:asv):Bool:=bif Yk a then !arL a else false
def agK:awE
 | [.one ⟨false,[.val (.string a)]⟩],[]=>some ⟨.one ⟨false,[.val (.bool (TP a))]⟩,[],[],[]⟩
 |_,_=>none
def an1:PF prog:=PF.ofG prog [anZ,akF] [] bj 147 f147 func147 (fun c _=>LOk.nil c) agK (by
 intro _ _ _ h;unfold agK at h;split at h<;>cases h;kernel_rfl)
def QE(a:Int):Bool:=bif bif bif a==7 then true else a==8 then true else a==11 then true else a==12
def Yx:awE
 | [.one ⟨false,[.val (.int .i64 a)]⟩],[]=>some ⟨.one ⟨false,[.val (.bool (QE a))]⟩,[],[],[]⟩
 |_,_=>none
def ajQ:PF prog:=PF.ofG prog [] [] bj 190 f190 func190 (fun c _=>LOk.nil c) Yx (by
 intro _ _ _ h;unfold Yx at h;split at h<;>cases h;kernel_rfl)
def TQ(a:Int)(b:asv)(c:Int):Bool:=
 bif bif !dQ a (1:Int) (12:Int)then true else !(a==(1:Int))== !ByteArray.toList b==ByteArray.toList { data:= #[] } then
 false
 else
 bif QE a then dQ c (0:Int) (9999:Int)
 else bif c==(0:Int)then bif a !=(1:Int)then true else TP b else false
def agL:awE
 | [.one ⟨true,[.val (.int .i64 a),.val (.string b),.val (.int .i64 c)]⟩],[]=>some ⟨.one ⟨false,[.val (.bool (TQ a b c))]⟩,[],[],[]⟩
 |_,_=>none
def an2:PF prog:=PF.ofG prog [NJ,an1,ajQ] [] bj 165 f165 func165 (fun c _=>LOk.nil c) agL (by
 intro _ _ _ h;unfold agL at h;split at h<;>cases h;kernel_rfl)
def WE(a:Int)(b:asv)(c:Int):Bool:=bif TQ a b c then leI 7 a else false
def adF:awE
 | [.one ⟨true,[.val (.int .i64 a),.val (.string b),.val (.int .i64 c)]⟩],[]=>some ⟨.one ⟨false,[.val (.bool (WE a b c))]⟩,[],[],[]⟩
 |_,_=>none
def am9:PF prog:=PF.ofG prog [an2] [] bj 117 f117 func117 (fun c _=>LOk.nil c) adF (by
 intro _ _ _ h;unfold adF at h;split at h<;>cases h;kernel_rfl)
def zE(a b c d e:Int):Bool:=bif bif a==7 then a==7 else a==8 then bif bif dQ c 0 b then d==0 else false then e==0 else false else bif a==11 then bif bif dQ c 0 b then dQ d 0 1 else false then e==0 else false else bif a==12 then bif d==0 then bif bif dQ c 0 b then e==0 else false then true else bif c==v7 .i64 (b + (1:Int))then e==1 else false else false else bif bif dQ c 0 1 then d==0 else false then e==0 else false
def Yy:awE
 | [.one ⟨true,[.val (.int .i64 a),.val (.string _x1),.val (.int .i64 b)]⟩,.one ⟨true,[.val (.int .i64 c),.val (.int .i64 d),.val (.int .i64 e)]⟩],[]=>some ⟨.one ⟨false,[.val (.bool (zE a b c d e))]⟩,[],[],[]⟩
 |_,_=>none
def YQ:PF prog:=PF.ofG prog [NJ] [] bj 120 f120 func120 (fun c _=>LOk.nil c) Yy (by
 intro _ _ _ h;unfold Yy at h;split at h<;>cases h;kernel_rfl)
def cX(a b c d e:Int):Bool:=bif bif a==9 then a==9 else a==10 then bif bif aZ c 0 1 then d==0 else false then e==0 else false else bif a==11 then bif bif aZ c 0 b then aZ d 0 1 else false then e==0 else false else bif a==12 then bif d==0 then bif bif aZ c 0 b then e==0 else false then true else bif c==v7 .i64 (b + (1:Int))then e==1 else false else false else bif bif aZ c 0 b then d==0 else false then e==0 else false
def Wo:awE
 | [.one ⟨true,[.val (.int .i64 a),.val (.string _x1),.val (.int .i64 b)]⟩,.one ⟨true,[.val (.int .i64 c),.val (.int .i64 d),.val (.int .i64 e)]⟩],[]=>some ⟨.one ⟨false,[.val (.bool (cX a b c d e))]⟩,[],[],[]⟩
 |_,_=>none
def Xa:PF prog:=PF.ofG prog [pp] [] bj 108 f108 func108 (fun c _=>LOk.nil c) Wo (by
 intro _ _ _ h;unfold Wo at h;split at h<;>cases h;kernel_rfl)
def ao6(k:Int):Bool:=k==7||(k==8||(k==11||k==12))
def termB(k:Int)(s:asv)(n:Int):Bool:=inR k 1 12&&(inR n 0 9999&&((ao6 k||n==0)&&(bif k==1 then wJ s else s.toList== [])))
def xK(k:Int)(s:asv)(n:Int):Bool:=termB k s n&&leI 7 k
def possB(k n a b c:Int):Bool:=cX k n a b c
theorem abd:ByteArray.toList { data:= #[] } = []:=by rw [Go.Lib.toList_data]
theorem auI{s:asv}(h:wJ s=true):(s.toList== [])=false:=by
 simp only [wJ,Yk,w5,wW]at h
 have h1:s.size=s.toList.length:=by rw [Go.Lib.size_eq,Go.Lib.toList_data]
 cases hs:s.toList with
 |nil=>
  rw [hs]at h1
  have h2:s.size=0:=h1
  omega
 |cons a l=>rfl
theorem au9{n:Int}(h:(n==0)=true):inR n 0 9999=true:=by
 have:n=0:=by simpa using h
 rw [this];rfl
theorem afo(k:Int)(s:asv)(n:Int)(h:leN s.size 9223372036854775807=true):Gi k s n=termB k s n∧Gj k s n=true:=by
 obtain⟨e1,e2⟩:=anx s
 have e3:nb s=wJ s:=by simp only [nb,e1,wJ];cases Yk s <;> rfl
 have e4:tY s=true:=by simp only [tY,e2,h,allT,j7,cond_true]
 simp only [Gi,Gj,Vl,e3,e4,XJ,aZ,Tb,abd,ay,termB,ao6,allT,j7,cond_true]
 refine⟨?_,trivial⟩
 simp only [bne]
 generalize (bif k==1 then wJ s else s.toList== [])=q
 generalize inR k 1 12=q1
 generalize inR n 0 9999=q2
 generalize (k==7)=q3
 generalize (k==8)=q4
 generalize (k==11)=q5
 generalize (k==12)=q6
 generalize (n==0)=q7
 revert q q1 q2 q3 q4 q5 q6 q7
 decide
theorem aql(k:Int)(s:asv)(n:Int):TQ k s n=termB k s n:=by
 have e3:TP s=wJ s:=by simp only [TP,wJ];cases Yk s <;> rfl
 simp only [TQ,e3,dQ,Tb,abd,QE,termB,ao6]
 by_cases h1:k=1
 ·subst h1
  have z7:((1:Int)==7)=false:=rfl
  have z8:((1:Int)==8)=false:=rfl
  have z11:((1:Int)==11)=false:=rfl
  have z12:((1:Int)==12)=false:=rfl
  have z1:((1:Int)==1)=true:=rfl
  have zn:((1:Int)!=1)=false:=rfl
  have zr:inR (1:Int) 1 12=true:=rfl
  rw [z7,z8,z11,z12,z1,zn,zr]
  have hs:wJ s=true→(s.toList== [])=false:=auI
  have h0:(n==0)=true→inR n 0 9999=true:=au9
  generalize (s.toList== [])=q at hs ⊢
  generalize (n==0)=q2 at h0 ⊢
  generalize inR n 0 9999=q3 at h0 ⊢
  generalize wJ s=q4 at hs ⊢
  revert q q2 q3 q4
  decide
 ·have z1:(k==1)=false:=by simpa using h1
  have zn:(k !=1)=true:=by simpa using h1
  rw [z1,zn]
  have h0:(n==0)=true→inR n 0 9999=true:=au9
  generalize (s.toList== [])=q
  generalize (n==0)=q2 at h0 ⊢
  generalize inR n 0 9999=q3 at h0 ⊢
  generalize inR k 1 12=q1
  generalize (k==7)=p3
  generalize (k==8)=p4
  generalize (k==11)=p5
  generalize (k==12)=p6
  generalize wJ s=p7
  revert q q1 q2 q3 p3 p4 p5 p6 p7
  decide
theorem apB(k:Int)(s:asv)(n:Int)(h:leN s.size 9223372036854775807=true):Xh k s n=xK k s n∧Xi k s n=true:=by
 obtain⟨e1,e2⟩:=afo k s n h
 simp only [Xh,Xi,e1,e2,xK,allT,cond_true]
 refine⟨?_,trivial⟩
 cases termB k s n <;> rfl
theorem apj(k:Int)(s:asv)(n:Int):WE k s n=xK k s n:=by
 simp only [WE,aql,xK]
 cases termB k s n <;> rfl
theorem abX{k:Int}{s:asv}{n:Int}(h:xK k s n=true):(7≤k∧k≤12)∧(0≤n∧n≤9999)∧(ao6 k=true∨n=0):=by
 simp only [xK,termB,w5,wW,CZ,Bool.or_eq_true,beq_iff_eq]at h
 obtain⟨⟨h1,h2,h3,_⟩,h4⟩:=h
 exact⟨⟨h4,h1.2⟩,h2,h3⟩
theorem kinds{k:Int}(h:7≤k∧k≤12):k=7∨k=8∨k=9∨k=10∨k=11∨k=12:=by omega
theorem auS{k n a b c:Int}(h:7≤k∧k≤12):zE k n a b c=possB k n a b c:=by
 rcases kinds h with rfl | rfl | rfl | rfl | rfl | rfl <;> rfl
theorem afj{k n a b c:Int}(h:possB k n a b c=true)(hn:0≤n∧n≤9999):(0≤a∧a≤10000)∧(b=0∨b=1)∧(c=0∨c=1):=by
 have hw:IntKind.i64.wrap (n + 1)=n + 1:=aR (by omega) (by omega)
 simp only [possB,cX,aZ,Tb,hw]at h
 cases h1:(bif k==9 then k==9 else k==10)with
 |true=>
  rw [h1]at h
  cases h2:inR a 0 1 <;> rw [h2]at h <;> simp at h
  have:=wW.1 h2
  omega
 |false=>
  rw [h1]at h
  cases h3:k==11 with
  |true=>
   rw [h3]at h
   cases h2:inR a 0 n <;> cases h4:inR b 0 1 <;> rw [h2]at h <;> simp [h4]at h
   have:=wW.1 h2
   have:=wW.1 h4
   omega
  |false=>
   rw [h3]at h
   cases h5:k==12 with
   |true=>
    rw [h5]at h
    cases h2:inR a 0 n <;> rw [h2]at h <;> simp at h
    ·omega
    ·have:=wW.1 h2
     omega
   |false=>
    rw [h5]at h
    cases h2:inR a 0 n <;> rw [h2]at h <;> simp at h
    have:=wW.1 h2
    omega
def aee:awE
 | [.one ⟨true,[.val (.int .i64 a),.val (.string b),.val (.int .i64 c)]⟩],[]=>some ⟨.one ⟨false,[.val (.bool (xK a b c))]⟩,[],[],[leN b.size 9223372036854775807]⟩
 |_,_=>none
def ae4:PF prog:=PF.alt anc aee (by
 intro args es o h bA;unfold aee at h;split at h
 ·rename_i a b c
  cases h
  have bA:=fv bA
  have hh:=apB a b c bA
  obtain⟨e0,en⟩:=hh
  exact kj rfl (eT en) (by simp only [e0] <;> rfl) rfl rfl
 ·cases h)
def aeb:awE
 | [.one ⟨true,[.val (.int .i64 a),.val (.string b),.val (.int .i64 c)]⟩],[]=>some ⟨.one ⟨false,[.val (.bool (xK a b c))]⟩,[],[],[]⟩
 |_,_=>none
def ae3:PF prog:=PF.alt am9 aeb (by
 intro args es o h bA;unfold aeb at h;split at h
 ·rename_i a b c
  cases h
  have hh:=apj a b c
  have e0:=hh
  exact kj rfl (fun _ h=>by cases h) (by simp only [e0] <;> rfl) rfl rfl
 ·cases h)
def ew(a:Int):Int:=bif bif a==1 then a==1 else bif a==2 then a==2 else a==3 then(0:Int)else bif bif a==4 then a==4 else bif a==7 then a==7 else bif a==8 then a==8 else a==9 then(1:Int)else(2:Int)
def acy:awE
 | [.one ⟨false,[.val (.int .i64 a)]⟩],[]=>some ⟨.one ⟨false,[awF (ew a)]⟩,[],[],[]⟩
 |_,_=>none
def pA:PF prog:=PF.ofG prog [] [] bj 168 f168 func168 (fun c _=>LOk.nil c) acy (by
 intro _ _ _ h;unfold acy at h;split at h<;>cases h;kernel_rfl)
abbrev oF:=Int×List Int
section
variable (a:Int)(b:arG)
def zQ:Bool:=ltI a (↑b.length:Int)
def ED:Bool:=leI 0 a
def EE:Bool:=ltN a.toNat b.length
def EF:Bool:= !aZ (v6 b[v4 a]? 0) 0 1
def EG:Int:=v7 .i64 (a + (1:Int))
end
def ahB:oF→List (Nat×SV)
 |(a,_)=> [(5,(.one ⟨false,[awF a]⟩)),(0,(.one ⟨false,[.ref 0]⟩))]
def ahs:oF→List (Nat×Entry)
 |(_,a)=> [(0,(.row false 2 aox a))]
def ahT:Nat→oF→List (Nat×SV)
 |0,(_,_)=> [(4,(.one ⟨false,[.val (.bool false)]⟩))]
 |_,(_,_)=> []
def Cb:oF→LT oF
 |(a,b)=> .ite (zQ a b) (.need [ED a,zQ a b,EE a b] (.ite (EF a b) (.ext 0 [(0,0)]) (.nrm ((EG a),b) [(0,0)]))) (.ext 1 [(0,0)])
def Pb(s:St):Option oF:=do
 let some ⟨none,.one ⟨false,[.val (.int .i64 a)]⟩⟩:=s.look 5|none
 let some ⟨none,.one ⟨false,[.ref 0]⟩⟩:=s.look 0|none
 let some (.row false 2 (.int .i64) b):=s.ent 0|none
 some (a,b)
def gf:Lp oF where
 h:=⟨[6,7,8,9,12,13,14,15,16,17,4,10,11,5],[0],[],[]⟩
 JL:=ahB
 JE:=ahs
 XL:=ahT
 XE:=fun _=>ahs
 q:=fun j=>match j with | 0=> .ret | _=> .exit 0
 tags:= [0,1]
 lt:=Cb
 fuel:=fun(a,b)=>a.natAbs + b.length
 fix:=fun(_,b) (a,_)=>(a,b)
 σ:= [(0,0)]
 rd:=Pb
theorem aeZ:LoopOk prog (fun k=>Nat.blt k Tryz.f73.ntmps) gf.F (bB f73 0):=by
 refine Lp.ok (tbl:= [pp]) (lf:= []) bj gf (by kernel_rfl) (LOk.nil _) (fun _=>rfl) (fun j _=>by unfold gf;match j with | 0=>rfl | _ + 1=>rfl) ?_ ?_ ?_ ?_ (fun _=>rfl) ?_
 ·rintro⟨a,b⟩;kernel_rfl
 ·rintro⟨a,b⟩;kernel_rfl
 ·intro s x h
  have h:Pb s=some x:=h
  unfold Pb at h
  repeat' split at h
  all_goals cases h
  constructor<;>repeat(first|refine ab (by assumption) rfl ?_|refine aa rfl (by assumption) rfl ?_|exact rfl)
 ·rintro⟨a,b⟩;kernel_rfl
 ·rintro⟨a,b⟩ z;exact(And.intro (And.intro trivial rfl) trivial)
def Yf(a:Int)(b:arG):Bool:=bif Nat.beq ((Lp.res gf ((0:Int),b)).1) 0 then false else(↑b.length:Int)==a
def Yg(a:arG):Bool:=allT [Lp.fin gf ((0:Int),a)]
def ad4:awE
 | [.one ⟨false,[.ref 0]⟩,.one ⟨false,[.val (.int .i64 a)]⟩],[.row false 2 (.int .i64) b]=>some ⟨.one ⟨false,[.val (.bool (Yf a b))]⟩,[.row false 2 aox b],[],[Yg b]⟩
 |_,_=>none
def anp:PF prog:=PF.ofG prog [pp] [gf.F] bj 73 f73 func73 (LOk.fnT (l:= [bB f73 0]) (by kernel_rfl) (.cons aeZ (.nil _))) ad4 (by
 intro _ _ _ h;unfold ad4 at h;split at h<;>cases h;kernel_rfl)
def iN(a:Bool):Int:=bif a then(1:Int)else(0:Int)
def agR:awE
 | [.one ⟨false,[.val (.bool a)]⟩],[]=>some ⟨.one ⟨false,[awF (iN a)]⟩,[],[],[]⟩
 |_,_=>none
def ahd:PF prog:=PF.ofG prog [] [] bj 169 f169 func169 (fun c _=>LOk.nil c) agR (by
 intro _ _ _ h;unfold agR at h;split at h<;>cases h;kernel_rfl)
section
variable (a b c d e f:Int)
def gJ:Bool:=bif bif d==1 then e==0 else false then f==0 else false
def iF:Bool:=(bif gJ d e f then(0:Int)else d)==0
def jT:Bool:=bif iF d e f then e !=f else false
def lh:Int:=v7 .i64 ((bif gJ d e f then(0:Int)else b) + (1:Int))
def li:Int:=bif jT d e f then iN (ltI a (lh b d e f))else bif iF d e f then(0:Int)else bif gJ d e f then(0:Int)else d
def nc:Int:=iN (bif bif e==1 then f==1 else false then li a b d e f==0 else false)
def ne:Int:=bif jT d e f then lh b d e f else bif iF d e f then(0:Int)else bif gJ d e f then(0:Int)else b
def nf:Int:=bif jT d e f then(0:Int)else bif iF d e f then(0:Int)else bif gJ d e f then(0:Int)else c
def ng:Int:=li a b d e f
end
def adT:awE
 | [.one ⟨false,[.val (.int .i64 a)]⟩,.one ⟨true,[.val (.int .i64 b),.val (.int .i64 c),.val (.int .i64 d)]⟩,.one ⟨false,[.val (.int .i64 e)]⟩,.one ⟨false,[.val (.int .i64 f)]⟩],[]=>some ⟨.tup [⟨false,[awF (nc a b d e f)]⟩,⟨true,[awF (ne b d e f),awF (nf c d e f),awF (ng a b d e f)]⟩],[],[],[]⟩
 |_,_=>none
def anl:PF prog:=PF.ofG prog [ahd] [] bj 170 f170 func170 (fun c _=>LOk.nil c) adT (by
 intro _ _ _ h;unfold adT at h;split at h<;>cases h;kernel_rfl)
section
variable (a b c d e:Int)(f:arG)
def cD:Int:=v6 f[v4 0]? 0
def iG:Int:=v7 .i64 (c + (1:Int))
def lj:Int:=v7 .i64 (adq (iG c) b (iG c) b * cD f)
def fC:Int:=bif ltI 1 (↑f.length:Int)then v6 f[v4 1]? 0 else(0:Int)
def lk:Int:=bif fC f==1 then(0:Int)else bif cD f==1 then(1:Int)else c
def lm:Int:=bif fC f==1 then(0:Int)else bif bif cD f==1 then d==0 else false then adq (iG c) b (iG c) b else c
def ln:Int:=v7 .i64 (c - (1:Int))
def lp:Int:=bif cD f==1 then(0:Int)else(0:Int)
def jU:Bool:= !ltI 1 (↑f.length:Int)
def em:Int:=bif a==7 then iN (bif cD f==1 then lj b c f==b else false)else bif a==8 then bif cD f==1 then(1:Int)else iN (ltI 0 c)else bif a==9 then iN (bif cD f==1 then c==0 else false)else bif a==10 then lk c f else bif a==11 then iN (lm b c d f==b)else nc b c e (cD f) (fC f)
def gn:Int:=bif a==7 then lj b c f else bif a==8 then bif cD f==1 then b else adq 0 (ln c) (ln c) 0 else bif a==9 then cD f else bif a==10 then lk c f else bif a==11 then lm b c d f else ne c e (cD f) (fC f)
def gp:Int:=bif a==7 then(0:Int)else bif a==8 then lp f else bif a==9 then(0:Int)else bif a==10 then(0:Int)else bif a==11 then cD f else nf d e (cD f) (fC f)
def gq:Int:=bif a==7 then(0:Int)else bif a==8 then lp f else bif a==9 then(0:Int)else bif a==10 then(0:Int)else bif a==11 then(0:Int)else ng b c e (cD f) (fC f)
def jh:Bool:=allT [ltI 0 (↑f.length:Int),ltN (v4 0) f.length,jU f||leI 0 1,jU f||ltI 1 (↑f.length:Int),jU f||ltN (v4 1) f.length]
end
def adU:awE
 | [.one ⟨true,[.val (.int .i64 a),.val (.string _x1),.val (.int .i64 b)]⟩,.one ⟨true,[.val (.int .i64 c),.val (.int .i64 d),.val (.int .i64 e)]⟩,.one ⟨false,[.ref 0]⟩],[.row false 2 (.int .i64) f]=>some ⟨.tup [⟨false,[awF (em a b c d e f)]⟩,⟨true,[awF (gn a b c d e f),awF (gp a d e f),awF (gq a b c e f)]⟩],[.row false 2 aox f],[],[jh f]⟩
 |_,_=>none
def gW:PF prog:=PF.ofG prog [ahd,anl] [] bj 124 f124 func124 (fun c _=>LOk.nil c) adU (by
 intro _ _ _ h;unfold adU at h;split at h<;>cases h;kernel_rfl)
def aky(a:Int):Bool:=bif a !=0 then a !=1 else false
def aaB:awE
 | [.one ⟨false,[.val (.int .i64 a)]⟩],[]=>some ⟨.one ⟨false,[.val (.bool (aky a))]⟩,[],[],[]⟩
 |_,_=>none
def akP:PF prog:=PF.ofG prog [] [] bj 130 f130 func130 (fun c _=>LOk.nil c) aaB (by
 intro _ _ _ h;unfold aaB at h;split at h<;>cases h;kernel_rfl)
def AL(a:Int):Bool:=bif a !=0 then a !=1 else false
def Qt:awE
 | [.one ⟨false,[.val (.int .i64 a)]⟩],[]=>some ⟨.one ⟨false,[.val (.bool (AL a))]⟩,[],[],[]⟩
 |_,_=>none
def QK:PF prog:=PF.ofG prog [] [] bj 130 f130 func130 (fun c _=>LOk.nil c) Qt (by
 intro _ _ _ h;unfold Qt at h;split at h<;>cases h;kernel_rfl)
abbrev bI:=Int×Int×List Int
section
variable (a b:Int)(c:arG)
def gX:Bool:=ltI a b
def gY:Bool:=leI 0 a
def gZ:Bool:=ltI a (↑c.length:Int)
def hO:Bool:=ltN a.toNat c.length
def hY:Bool:=AL (v6 c[v4 a]? 0)
def hZ:Int:=v7 .i64 (a + (1:Int))
end
def ID:bI→List (Nat×SV)
 |(a,b,_)=> [(8,(.one ⟨false,[awF a]⟩)),(7,(.one ⟨false,[awF b]⟩)),(1,(.one ⟨false,[.val (.func (.func 130) ⟨[]⟩ ⟨[]⟩)]⟩)),(0,(.one ⟨false,[.ref 0]⟩))]
def IC:bI→List (Nat×Entry)
 |(_,_,a)=> [(0,(.row false 2 aox a))]
def IF:Nat→bI→List (Nat×SV)
 |0,(a,_,_)=> [(4,(.one ⟨false,[awF a]⟩))]
 |_,(_,_,_)=> []
def gI:bI→LT bI
 |(a,b,c)=> .ite (gX a b) (.need [gY a,gZ a c,hO a c] (.ite (hY a c) (.ext 0 [(0,0)]) (.nrm ((hZ a),b,c) [(0,0)]))) (.ext 1 [(0,0)])
def pC(s:St):Option bI:=do
 let some ⟨none,.one ⟨false,[.val (.int .i64 a)]⟩⟩:=s.look 8|none
 let some ⟨none,.one ⟨false,[.val (.int .i64 b)]⟩⟩:=s.look 7|none
 let some ⟨none,.one ⟨false,[.val (.func (.func 130) ⟨[]⟩ ⟨[]⟩)]⟩⟩:=s.look 1|none
 let some ⟨none,.one ⟨false,[.ref 0]⟩⟩:=s.look 0|none
 let some (.row false 2 (.int .i64) c):=s.ent 0|none
 some (a,b,c)
def aA:Lp bI where
 h:=⟨[9,10,5,11,12,13,14,15,16,17,4,18,8],[0],[],[]⟩
 JL:=ID
 JE:=IC
 XL:=IF
 XE:=fun _=>IC
 q:=fun j=>match j with | 0=> .ret | _=> .exit 0
 tags:= [0,1]
 lt:=gI
 fuel:=fun(a,b,c)=>a.natAbs + b.natAbs + c.length
 fix:=fun(_,b,c) (a,_,_)=>(a,b,c)
 σ:= [(0,0)]
 rd:=pC
theorem Hh:LoopOk prog (fun k=>Nat.blt k Tryz.f172.ntmps) aA.F (bB f172 0):=by
 refine Lp.ok (tbl:= [QK]) (lf:= []) bj aA (by kernel_rfl) (LOk.nil _) (fun _=>rfl) (fun j _=>by unfold aA;match j with | 0=>rfl | _ + 1=>rfl) ?_ ?_ ?_ ?_ (fun _=>rfl) ?_
 ·rintro⟨a,b,c⟩;kernel_rfl
 ·rintro⟨a,b,c⟩;kernel_rfl
 ·intro s x h
  have h:pC s=some x:=h
  unfold pC at h
  repeat' split at h
  all_goals cases h
  constructor<;>repeat(first|refine ab (by assumption) rfl ?_|refine aa rfl (by assumption) rfl ?_|exact rfl)
 ·rintro⟨a,b,c⟩;kernel_rfl
 ·rintro⟨a,b,c⟩ z;exact(And.intro (And.intro trivial rfl) trivial)
section
variable (a:arG)
def mV:Int×Int×arG:=((0:Int),(↑a.length:Int),a)
def rJ:Int:=bif Nat.beq ((Lp.res aA (mV a)).1) 0 then ((Lp.res aA (mV a)).2).1else(-1:Int)
def rK:Bool:=allT [Lp.fin aA (mV a)]
end
def zC:awE
 | [.one ⟨false,[.ref 0]⟩,.one ⟨false,[.val (.func (.func 130) ⟨[]⟩ ⟨[]⟩)]⟩],[.row false 2 (.int .i64) a]=>some ⟨.one ⟨false,[awF (rJ a)]⟩,[.row false 2 aox a],[],[rK a]⟩
 |_,_=>none
def rG:PF prog:=PF.ofG prog [QK] [aA.F] bj 172 f172 func172 (LOk.fnT (l:= [bB f172 0]) (by kernel_rfl) (.cons Hh (.nil _))) zC (by
 intro _ _ _ h;unfold zC at h;split at h<;>cases h;kernel_rfl)
def qp(a:arG):Bool:=leI 0 (rJ a)
def qq(a:arG):Bool:=allT [rK a]
def wZ:awE
 | [.one ⟨false,[.ref 0]⟩,.one ⟨false,[.val (.func (.func 130) ⟨[]⟩ ⟨[]⟩)]⟩],[.row false 2 (.int .i64) a]=>some ⟨.one ⟨false,[.val (.bool (qp a))]⟩,[.row false 2 aox a],[],[qq a]⟩
 |_,_=>none
def qj:PF prog:=PF.ofG prog (T3z [rG]) [] bj 129 f129 func129 (fun c _=>LOk.nil c) wZ (by
 intro _ _ _ h;unfold wZ at h;split at h<;>cases h;kernel_rfl)
def WK(a:Int)(b:arG):Bool:=bif(↑b.length:Int)==a then !qp b else false
def WL(a:Int)(b:arG):Bool:=allT [!((↑b.length:Int)==a&&true)||qq b]
def adH:awE
 | [.one ⟨false,[.ref 0]⟩,.one ⟨false,[.val (.int .i64 a)]⟩],[.row false 2 (.int .i64) b]=>some ⟨.one ⟨false,[.val (.bool (WK a b))]⟩,[.row false 2 aox b],[],[WL a b]⟩
 |_,_=>none
def anb:PF prog:=PF.ofG prog (T3z [akP,qj]) [] bj 87 f87 func87 (fun c _=>LOk.nil c) adH (by
 intro _ _ _ h;unfold adH at h;split at h<;>cases h;kernel_rfl)
def oo(a:Bool):Int:=bif a then(1:Int)else(0:Int)
def ajb:awE
 | [.one ⟨false,[.val (.bool a)]⟩],[]=>some ⟨.one ⟨false,[awF (oo a)]⟩,[],[],[]⟩
 |_,_=>none
def aci:PF prog:=PF.ofG prog [] [] bj 174 f174 func174 (fun c _=>LOk.nil c) ajb (by
 intro _ _ _ h;unfold ajb at h;split at h<;>cases h;kernel_rfl)
section
variable (a b c d:Int)(e f:Bool)
def tj:Bool:=bif e then c==0 else false
def tn:Int:=v7 .i64 (b + (1:Int))
def tp:Int:=bif f then(0:Int)else bif tj c e then adq a (tn b) a (tn b)else b
def uB:Int:=oo (tp a b c e f==a)
def uC:Int:=tp a b c e f
def uD:Int:=oo e
def uE:Int:=bif f then d else bif tj c e then d else d
end
def aaE:awE
 | [.one ⟨false,[.val (.int .i64 a)]⟩,.one ⟨true,[.val (.int .i64 b),.val (.int .i64 c),.val (.int .i64 d)]⟩,.one ⟨false,[.val (.bool e)]⟩,.one ⟨false,[.val (.bool f)]⟩],[]=>some ⟨.tup [⟨false,[awF (uB a b c e f)]⟩,⟨true,[awF (uC a b c e f),awF (uD e),awF (uE c d e f)]⟩],[],[],[]⟩
 |_,_=>none
def akR:PF prog:=PF.ofG prog [aci] [] bj 175 f175 func175 (fun c _=>LOk.nil c) aaE (by
 intro _ _ _ h;unfold aaE at h;split at h<;>cases h;kernel_rfl)
section
variable (a b c d:Int)(e f:Bool)
def jt:Bool:=bif bif d==1 then !e else false then !f else false
def pL:Bool:=(bif jt d e f then(0:Int)else d)==0
def rE:Bool:=bif pL d e f then !e==f else false
def uF:Int:=v7 .i64 ((bif jt d e f then(0:Int)else b) + (1:Int))
def uG:Int:=bif rE d e f then oo (ltI a (uF b d e f))else bif pL d e f then bif jt d e f then(0:Int)else d else bif jt d e f then(0:Int)else d
def wF:Int:=oo (bif bif e then f else false then uG a b d e f==0 else false)
def wG:Int:=bif rE d e f then uF b d e f else bif pL d e f then(0:Int)else bif jt d e f then(0:Int)else b
def wH:Int:=bif rE d e f then bif jt d e f then c else c else bif pL d e f then bif jt d e f then c else c else bif jt d e f then c else c
def wI:Int:=uG a b d e f
end
def acs:awE
 | [.one ⟨false,[.val (.int .i64 a)]⟩,.one ⟨true,[.val (.int .i64 b),.val (.int .i64 c),.val (.int .i64 d)]⟩,.one ⟨false,[.val (.bool e)]⟩,.one ⟨false,[.val (.bool f)]⟩],[]=>some ⟨.tup [⟨false,[awF (wF a b d e f)]⟩,⟨true,[awF (wG b d e f),awF (wH c d e f),awF (wI a b d e f)]⟩],[],[],[]⟩
 |_,_=>none
def alX:PF prog:=PF.ofG prog [aci] [] bj 176 f176 func176 (fun c _=>LOk.nil c) acs (by
 intro _ _ _ h;unfold acs at h;split at h<;>cases h;kernel_rfl)
section
variable (a b c d e:Int)(f:arG)
def eU:Bool:=v6 f[v4 0]? 0==1
def DQ:Int:=v7 .i64 (c + (1:Int))
def DR:Int:=v7 .i64 (oo (eU f) * adq b (DQ c) b (DQ c))
def yJ:Int:=v7 .i64 ((↑f.length:Int) - (1:Int))
def om:Bool:=v6 f[v4 (yJ f)]? 0==1
def DS:Int:=bif om f then(0:Int)else bif eU f then(1:Int)else c
def DT:Int:=v7 .i64 (c - (1:Int))
def DO:Int:=bif a==7 then oo (bif eU f then DR b c f==b else false)else bif a==8 then bif eU f then(1:Int)else oo (ltI 0 c)else bif a==9 then oo (bif eU f then c==0 else false)else bif a==10 then DS c f else bif a==11 then uB b c d (eU f) (om f)else wF b c e (eU f) (om f)
def Bn:Int:=bif a==7 then DR b c f else bif a==8 then bif eU f then b else adq (DT c) 0 0 (DT c)else bif a==9 then oo (eU f)else bif a==10 then DS c f else bif a==11 then uC b c d (eU f) (om f)else wG c e (eU f) (om f)
def Bo:Int:=bif a==7 then d else bif a==8 then bif eU f then d else d else bif a==9 then d else bif a==10 then bif om f then d else bif eU f then d else d else bif a==11 then uD (eU f)else wH d e (eU f) (om f)
def Bp:Int:=bif a==7 then e else bif a==8 then bif eU f then e else e else bif a==9 then e else bif a==10 then bif om f then e else bif eU f then e else e else bif a==11 then uE d e (eU f) (om f)else wI b c e (eU f) (om f)
def DP:Bool:=allT [ltI 0 (↑f.length:Int),ltN (v4 0) f.length,leI 0 (yJ f),ltI (yJ f) (↑f.length:Int),ltN (v4 (yJ f)) f.length]
end
def alg:awE
 | [.one ⟨true,[.val (.int .i64 a),.val (.string _x1),.val (.int .i64 b)]⟩,.one ⟨true,[.val (.int .i64 c),.val (.int .i64 d),.val (.int .i64 e)]⟩,.one ⟨false,[.ref 0]⟩],[.row false 2 (.int .i64) f]=>some ⟨.tup [⟨false,[awF (DO a b c d e f)]⟩,⟨true,[awF (Bn a b c d e f),awF (Bo a d e f),awF (Bp a b c d e f)]⟩],[.row false 2 aox f],[],[DP f]⟩
 |_,_=>none
def afa:PF prog:=PF.ofG prog [aci,akR,alX] [] bj 134 f134 func134 (fun c _=>LOk.nil c) alg (by
 intro _ _ _ h;unfold alg at h;split at h<;>cases h;kernel_rfl)
def bitsB(n:Int)(l:arG):Bool:=l.all (fun v=>inR v 0 1)&&((l.length:Int)==n)
def takesK(k:Int):Int:=ew k
theorem cz{n:Int}{l:arG}:bitsB n l=true↔(∀ v∈l,v=0∨v=1)∧(l.length:Int)=n:=by
 simp only [bitsB,w5,List.all_eq_true,wW,beq_iff_eq]
 constructor
 ·rintro⟨h1,h2⟩;exact⟨fun v hv=>by have:=h1 v hv;omega,h2⟩
 ·rintro⟨h1,h2⟩;exact⟨fun v hv=>by have:=h1 v hv;omega,h2⟩
def zD(b:Int):(Unit)→Nat ⊕ (Unit)
 |_=>(bif(!aZ b 0 1)then(.inl 0)else(.inr ()))
def uw(a:arG)(i:Nat):(Unit)→oF
 |_=>((i:Int),a)
def OS:oF→Unit
 |(_,_)=>()
theorem ake(c:arG) (hn:c.length≤9223372036854775807):
  gf.fin ((0:Int),c)=true∧gf.res ((0:Int),c)=((ci (zD) 1 c 0 ()).1,(uw c) (ci (zD) 1 c 0 ()).2.1 (ci (zD) 1 c 0 ()).2.2):=by
 have mO:=gf.along (uw c) OS (zD) 1 (fun _ _=>True) c () (by trivial) (by simp only [gf,uw];omega) (fun i b a hb hI=> ?_) (fun a hI=> ?_)
 ·exact mO
 ·obtain⟨⟩:=a
  have eG:=(j9.1 hb).1
  have px: ∀ d,v6 c[i]? d=b:=fun d=>by rw [hb];rfl
  have hw:=Fc eG hn
  have jY:ltI (i:Int) (c.length:Int)=true:=cI (by omega)
  have PX:leI (0:Int) (i:Int)=true:=aS (by omega)
  have wR:ltN i c.length=true:=dE eG
  refine⟨?_,?_,?_,?_⟩
  ·simp [zQ,ED,EE,EF,EG,Cb,gf,LT.nds,allT,uw,jY,PX,wR,px]
  ·simp [zQ,ED,EE,EF,EG,Cb,gf,LT.each,uw,OS,hw]
  ·simp only [zQ,ED,EE,EF,EG,Cb,gf,LT.fn,uw,OS,zD,w7,jY,PX,wR,px,cond_true,j8]
  ·exact fun _ _=>trivial
 ·obtain⟨⟩:=a
  simp [zQ,ED,EE,EF,EG,Cb,gf,LT.out,uw]
def eH(b:Int):(Unit)→Nat ⊕ (Unit)
 |_=>(bif(AL b)then(.inl 0)else(.inr ()))
def cG(a:arG)(i:Nat):(Unit)→bI
 |_=>((i:Int),(↑a.length:Int),a)
def pB:bI→Unit
 |(_,_,_)=>()
theorem Kc(c:arG) (hn:c.length≤9223372036854775807):
  aA.fin ((0:Int),(↑c.length:Int),c)=true∧aA.res ((0:Int),(↑c.length:Int),c)=((ci (eH) 1 c 0 ()).1,(cG c) (ci (eH) 1 c 0 ()).2.1 (ci (eH) 1 c 0 ()).2.2):=by
 have mO:=aA.along (cG c) pB (eH) 1 (fun _ _=>True) c () (by trivial) (by simp only [aA,cG];omega) (fun i b a hb hI=> ?_) (fun a hI=> ?_)
 ·exact mO
 ·obtain⟨⟩:=a
  have eG:=(j9.1 hb).1
  have px: ∀ d,v6 c[i]? d=b:=fun d=>by rw [hb];rfl
  have hw:=Fc eG hn
  have jY:ltI (i:Int) (c.length:Int)=true:=cI (by omega)
  have PX:leI (0:Int) (i:Int)=true:=aS (by omega)
  have wR:ltN i c.length=true:=dE eG
  refine⟨?_,?_,?_,?_⟩
  ·simp [gX,gY,gZ,hO,hY,hZ,gI,aA,LT.nds,allT,cG,jY,PX,wR,px]
  ·simp [gX,gY,gZ,hO,hY,hZ,gI,aA,LT.each,cG,pB,hw]
  ·simp only [gX,gY,gZ,hO,hY,hZ,gI,aA,LT.fn,cG,pB,eH,w7,jY,PX,wR,px,cond_true,j8]
  ·exact fun _ _=>trivial
 ·obtain⟨⟩:=a
  simp [gX,gY,gZ,hO,hY,hZ,gI,aA,LT.out,cG]
theorem aqT(n:Int)(l:arG)(h:leN l.length 9223372036854775807=true):Yf n l=bitsB n l∧Yg l=true:=by
 obtain⟨w1,w2⟩:=ake l (fc.1 h)
 rw [oE (P:=fun v=> !inR v 0 1) (j:=0) (fun v=>by simp only [zD,aZ,Tb])]at w2
 have e5:(l.any fun v=> !inR v 0 1)= !l.all fun v=>inR v 0 1:=by simp [List.all_eq_not_any_not]
 rw [e5]at w2
 simp only [Yf,Yg,w1,w2,allT,bitsB]
 cases (l.all fun v=>inR v 0 1) <;> simp [Nat.beq]
theorem avg(v:Int):(bif v !=0 then v !=1 else false)= !inR v 0 1:=by
 have:inR v 0 1=(v==0||v==1):=by rw [Bool.eq_iff_iff,wW];simp;omega
 rw [this]
 cases h0:v==0 <;> simp [bne,h0]
theorem aqj(n:Int)(l:arG)(h:leN l.length 9223372036854775807=true):WK n l=bitsB n l∧WL n l=true:=by
 obtain⟨w1,w2⟩:=Kc l (fc.1 h)
 rw [oE (P:=fun v=> !inR v 0 1) (j:=0) (fun v=>by simp only [eH,AL,avg])]at w2
 have e5:(l.any fun v=> !inR v 0 1)= !l.all fun v=>inR v 0 1:=by simp [List.all_eq_not_any_not]
 rw [e5]at w2
 have q: ∀ m:Nat,leI 0 (m:Int)=true:=fun m=>aS (by omega)
 have q2:leI 0 (-1)=false:=rfl
 simp only [WK,WL,qp,qq,rJ,rK,mV,w1,w2,allT,bitsB,cG]
 cases (l.all fun v=>inR v 0 1) <;> cases ((l.length:Int)==n) <;> simp [Nat.beq,q,q2]
theorem afJ(p q:Int):adq p q p q=min p q:=by rw [asx];cases h:ltI p q <;> simp <;> simp at h <;> omega
theorem afI(p q:Int):adq p q q p=max p q:=by rw [asx];cases h:ltI p q <;> simp <;> simp at h <;> omega
theorem aaU{l:arG}(h:bitsB 1 l=true): ∃ x,l= [x]∧(x=0∨x=1):=by
 obtain⟨h1,h2⟩:=cz.1 h
 match l,h1,h2 with
 | [x],h1,_=>exact⟨x,rfl,h1 x (by simp)⟩
 | [],_,h2=>simp at h2
 |_::_::_,_,h2=>simp at h2;omega
theorem aaV{l:arG}(h:bitsB 2 l=true): ∃ x y,l= [x,y]∧(x=0∨x=1)∧(y=0∨y=1):=by
 obtain⟨h1,h2⟩:=cz.1 h
 match l,h1,h2 with
 | [x,y],h1,_=>exact⟨x,y,rfl,h1 x (by simp),h1 y (by simp)⟩
 | [],_,h2=>simp at h2
 | [_],_,h2=>simp at h2
 |_::_::_::_,_,h2=>simp at h2;omega
theorem amd{k n a b c:Int}{s:asv}{l:arG}(hB:xK k s n=true)(hP:possB k n a b c=true)(hA:bitsB (takesK k) l=true):
  DO k n a b c l=em k n a b c l∧Bn k n a b c l=gn k n a b c l∧
  Bo k b c l=gp k b c l∧Bp k n a b c l=gq k n a c l∧DP l=true∧jh l=true∧
  possB k n (gn k n a b c l) (gp k b c l) (gq k n a c l)=true:=by
 obtain⟨hk,hn,_⟩:=abX hB
 have hw:IntKind.i64.wrap (n + 1)=n + 1:=aR (by omega) (by omega)
 have hwa:=(afj hP hn).1
 have hwa1:IntKind.i64.wrap (a + 1)=a + 1:=aR (by omega) (by omega)
 have hwa2:IntKind.i64.wrap (a - 1)=a - 1:=aR (by omega) (by omega)
 have hm:IntKind.i64.wrap (min (a + 1) n)=min (a + 1) n:=aR (by omega) (by omega)
 have hm2:IntKind.i64.wrap (min n (a + 1))=min n (a + 1):=aR (by omega) (by omega)
 have h01:IntKind.i64.wrap (0 + 1)=1:=rfl
 have n0:IntKind.i64.wrap 0=0:=rfl
 have w1:IntKind.i64.wrap 1=1:=rfl
 have l12:ltI 1 2=true:=rfl
 have hb:=(afj hP hn).2.1
 have hc:=(afj hP hn).2.2
 rcases kinds hk with rfl | rfl | rfl | rfl | rfl | rfl
 ·obtain⟨x,rfl,hx⟩:=aaU hA
  have hp:=hP
  simp [possB,cX,aZ]at hp
  rcases hx with rfl | rfl <;> simp only [eU,DQ,DR,yJ,om,DS,DT,DO,Bn,Bo,Bp,DP,tj,tn,tp,uB,uC,uD,uE,jt,pL,rE,uF,uG,wF,wG,wH,wI,oo,cD,iG,lj,fC,lk,lm,ln,lp,jU,em,gn,gp,gq,jh,gJ,iF,jT,lh,li,nc,ne,nf,ng,iN,possB,cX,aZ,allT,afJ,afI] <;> simp [hw,hwa1,hwa2,hm,hm2,h01,n0,w1,l12,hp,Bool.cond_eq_ite] <;> (repeat' split) <;> omega
 ·obtain⟨x,rfl,hx⟩:=aaU hA
  have hp:=hP
  simp [possB,cX,aZ]at hp
  rcases hx with rfl | rfl <;> simp only [eU,DQ,DR,yJ,om,DS,DT,DO,Bn,Bo,Bp,DP,tj,tn,tp,uB,uC,uD,uE,jt,pL,rE,uF,uG,wF,wG,wH,wI,oo,cD,iG,lj,fC,lk,lm,ln,lp,jU,em,gn,gp,gq,jh,gJ,iF,jT,lh,li,nc,ne,nf,ng,iN,possB,cX,aZ,allT,afJ,afI] <;> simp [hw,hwa1,hwa2,hm,hm2,h01,n0,w1,l12,hp,Bool.cond_eq_ite] <;> (repeat' split) <;> omega
 ·obtain⟨x,rfl,hx⟩:=aaU hA
  have hp:=hP
  simp [possB,cX,aZ]at hp
  rcases hx with rfl | rfl <;> simp only [eU,DQ,DR,yJ,om,DS,DT,DO,Bn,Bo,Bp,DP,tj,tn,tp,uB,uC,uD,uE,jt,pL,rE,uF,uG,wF,wG,wH,wI,oo,cD,iG,lj,fC,lk,lm,ln,lp,jU,em,gn,gp,gq,jh,gJ,iF,jT,lh,li,nc,ne,nf,ng,iN,possB,cX,aZ,allT,afJ,afI] <;> simp [hw,hwa1,hwa2,hm,hm2,h01,n0,w1,l12,hp,Bool.cond_eq_ite] <;> (repeat' split) <;> omega
 ·obtain⟨x,y,rfl,hx,hy⟩:=aaV hA
  have hp:=hP
  simp [possB,cX,aZ]at hp
  rcases hx with rfl | rfl <;> rcases hy with rfl | rfl <;> simp only [eU,DQ,DR,yJ,om,DS,DT,DO,Bn,Bo,Bp,DP,tj,tn,tp,uB,uC,uD,uE,jt,pL,rE,uF,uG,wF,wG,wH,wI,oo,cD,iG,lj,fC,lk,lm,ln,lp,jU,em,gn,gp,gq,jh,gJ,iF,jT,lh,li,nc,ne,nf,ng,iN,possB,cX,aZ,allT,afJ,afI] <;> simp [hw,hwa1,hwa2,hm,hm2,h01,n0,w1,l12,hp,Bool.cond_eq_ite] <;> (repeat' split) <;> omega
 ·obtain⟨x,y,rfl,hx,hy⟩:=aaV hA
  have hp:=hP
  rcases hb with rfl | rfl <;> rcases hc with rfl | rfl <;> rcases hx with rfl | rfl <;> rcases hy with rfl | rfl <;> simp [possB,cX,aZ,hw]at hp <;> simp only [eU,DQ,DR,yJ,om,DS,DT,DO,Bn,Bo,Bp,DP,tj,tn,tp,uB,uC,uD,uE,jt,pL,rE,uF,uG,wF,wG,wH,wI,oo,cD,iG,lj,fC,lk,lm,ln,lp,jU,em,gn,gp,gq,jh,gJ,iF,jT,lh,li,nc,ne,nf,ng,iN,possB,cX,aZ,allT,afJ,afI] <;> simp [hw,hwa1,hwa2,hm,hm2,h01,n0,w1,l12,hp,Bool.cond_eq_ite] <;> (repeat' split) <;> omega
 ·obtain⟨x,y,rfl,hx,hy⟩:=aaV hA
  have hp:=hP
  rcases hb with rfl | rfl <;> rcases hc with rfl | rfl <;> rcases hx with rfl | rfl <;> rcases hy with rfl | rfl <;> simp [possB,cX,aZ,hw]at hp <;> simp only [eU,DQ,DR,yJ,om,DS,DT,DO,Bn,Bo,Bp,DP,tj,tn,tp,uB,uC,uD,uE,jt,pL,rE,uF,uG,wF,wG,wH,wI,oo,cD,iG,lj,fC,lk,lm,ln,lp,jU,em,gn,gp,gq,jh,gJ,iF,jT,lh,li,nc,ne,nf,ng,iN,possB,cX,aZ,allT,afJ,afI] <;> simp [hw,hwa1,hwa2,hm,hm2,h01,n0,w1,l12,hp,Bool.cond_eq_ite] <;> (repeat' split) <;> omega
def aeq:awE
 | [.one ⟨false,[.ref 0]⟩,.one ⟨false,[.val (.int .i64 a)]⟩],[.row false 2 (.int .i64) b]=>some ⟨.one ⟨false,[.val (.bool (bitsB a b))]⟩,[.row false 2 aox b],[],[leN b.length 9223372036854775807]⟩
 |_,_=>none
def bh:PF prog:=PF.alt anp aeq (by
 intro args es o h bA;unfold aeq at h;split at h
 ·rename_i a b
  cases h
  have bA:=fv bA
  have hh:=aqT a b bA
  obtain⟨e0,en⟩:=hh
  exact kj rfl (eT en) (by simp only [e0] <;> rfl) rfl rfl
 ·cases h)
def aed:awE
 | [.one ⟨false,[.ref 0]⟩,.one ⟨false,[.val (.int .i64 a)]⟩],[.row false 2 (.int .i64) b]=>some ⟨.one ⟨false,[.val (.bool (bitsB a b))]⟩,[.row false 2 aox b],[],[leN b.length 9223372036854775807]⟩
 |_,_=>none
def gU:PF prog:=PF.alt anb aed (by
 intro args es o h bA;unfold aed at h;split at h
 ·rename_i a b
  cases h
  have bA:=fv bA
  have hh:=aqj a b bA
  obtain⟨e0,en⟩:=hh
  exact kj rfl (eT en) (by simp only [e0] <;> rfl) rfl rfl
 ·cases h)
def auk(m:Nat)(rs:aq6):Bool:=leN rs.length m&&rs.all fun x=>leN x.length m
theorem anJ{m:Nat}{rs:aq6}:auk m rs=true↔rs.length≤m∧ ∀ x∈rs,x.length≤m:=by
 simp only [auk,w5,fc,List.all_eq_true]
section
variable (a b:Int)(c:aow)
def mJ:Bool:=bif a==1 then a==1 else bif a==2 then a==2 else a==3
def mK:Bool:=bif a==5 then a==5 else a==6
def sn:Bool:=bif a==8 then a==8 else a==9
def fa:Int:=bif mJ a then(0:Int)else bif a==4 then(1:Int)else bif mK a then(2:Int)else bif a==7 then ew ((v6 c[v4 b]? ((0:Int),ByteArray.empty,(0:Int))).1)else bif sn a then(1:Int)else(0:Int)
def jW:Int:=bif mJ a then(1:Int)else bif a==4 then(1:Int)else bif mK a then(1:Int)else bif a==7 then(1:Int)else bif sn a then(0:Int)else(0:Int)
def wP:Bool:=allT [mJ a||(a==4||(mK a||(!a==7||leI 0 b))),mJ a||(a==4||(mK a||(!a==7||ltI b (↑c.length:Int)))),mJ a||(a==4||(mK a||(!a==7||ltN b.toNat c.length)))]
end
def acE:awE
 | [.one ⟨true,[.val (.int .i64 _x0),.val (.int .i64 _x1),.val (.int .i64 _x2),.ref 0,.ref 1]⟩,.one ⟨true,[.val (.int .i64 a),.val (.int .i64 b)]⟩],[.row false 122 (.pair (.int .i64) (.pair (.str) (.int .i64))) c,.row false 83 (.pair (.int .i64) (.int .i64)) d]=>some ⟨.tup [⟨false,[awF (fa a b c)]⟩,⟨false,[awF (jW a)]⟩],[.row false 122 ab5 c,.row false 83 aeK d],[],[wP a b c]⟩
 |_,_=>none
def ow:PF prog:=PF.ofG prog [pA] [] bj 123 f123 func123 (fun c _=>LOk.nil c) acE (by
 intro _ _ _ h;unfold acE at h;split at h<;>cases h;kernel_rfl)
def wm(a b c d e:Int)(f:aow):Bool:=bif d==1 then aZ e 0 1 else bif bif d==2 then d==2 else d==10 then aZ e 0 (v7 .i64 (a - (1:Int)))else bif bif d==3 then d==3 else bif d==8 then d==8 else d==11 then aZ e 0 (v7 .i64 (b - (1:Int)))else bif bif d==4 then d==4 else bif d==5 then d==5 else d==6 then e==0 else bif d==7 then aZ e 0 (v7 .i64 ((↑f.length:Int) - (1:Int)))else bif d==9 then aZ e 0 (v7 .i64 (c - (1:Int)))else false
def adY:awE
 | [.one ⟨true,[.val (.int .i64 a),.val (.int .i64 b),.val (.int .i64 c),.ref 0,.ref 1]⟩,.one ⟨true,[.val (.int .i64 d),.val (.int .i64 e)]⟩],[.row false 122 (.pair (.int .i64) (.pair (.str) (.int .i64))) f,.row false 83 (.pair (.int .i64) (.int .i64)) g]=>some ⟨.one ⟨false,[.val (.bool (wm a b c d e f))]⟩,[.row false 122 ab5 f,.row false 83 aeK g],[],[]⟩
 |_,_=>none
def FZ:PF prog:=PF.ofG prog [pp] [] bj 132 f132 func132 (fun c _=>LOk.nil c) adY (by
 intro _ _ _ h;unfold adY at h;split at h<;>cases h;kernel_rfl)
abbrev kz:=Int×Int×Int×Int×Int×List Int×List (Int×(asv×Int))×List (Int×Int)
section
variable (a b c d e:Int)(f:arG)(g:aov)(i:arD)
def eP:Int×Int:=v6 i[v4 a]? ((0:Int),(0:Int))
def xJ:Int:=fa ((eP a i).1) ((eP a i).2) g
def og:Int:=v7 .i64 (v7 .i64 (b - xJ a g i) + jW ((eP a i).1))
def rz:Bool:=ltI a (↑i.length:Int)
def zu:Bool:=leI 0 a
def zw:Bool:=ltN a.toNat i.length
def zx:Bool:= !wm c d e ((eP a i).1) ((eP a i).2) g
def Ew:Bool:=wP ((eP a i).1) ((eP a i).2) g
def Ey:Bool:=bif ltI b (xJ a g i)then true else ltI 40 (og a b g i)
def Ez:Bool:=leN (v5 f + v5 [og a b g i]) 9223372036854775807
def EA:Bool:=leN ((v5 f + v5 [og a b g i]) * 8) 140737488355328
def EB:Int:=v7 .i64 (a + (1:Int))
def EC:Int:=og a b g i
def Dm:arG:=f++ [og a b g i]
end
def adc:kz→List (Nat×SV)
 |(a,b,_,_,_,_,_,_)=> [(6,(.one ⟨false,[awF a]⟩)),(1,(.one ⟨false,[.ptr 0 0]⟩)),(5,(.one ⟨false,[awF b]⟩)),(4,(.one ⟨false,[.ref 1]⟩))]
def ac6:kz→List (Nat×Entry)
 |(_,_,a,b,c,d,e,f)=> [(0,(.box 27 [awF a,awF b,awF c,.ref 2,.ref 3])),(2,(.row false 122 ab5 e)),(3,(.row false 83 aeK f)),(1,(.row true 2 aox d))]
def adp:Nat→kz→List (Nat×SV)
 |0,(_,_,_,_,_,_,_,_)=> [(2,(.one ⟨false,[.ref 4]⟩)),(3,(.one ⟨false,[.val (.bool false)]⟩))]
 |1,(_,_,_,_,_,_,_,_)=> [(2,(.one ⟨false,[.ref 4]⟩)),(3,(.one ⟨false,[.val (.bool false)]⟩))]
 |_,(_,a,_,_,_,_,_,_)=> [(5,(.one ⟨false,[awF a]⟩)),(4,(.one ⟨false,[.ref 1]⟩))]
def adj:Nat→kz→List (Nat×Entry)
 |0,(_,_,a,b,c,d,e,f)=> [(0,(.box 27 [awF a,awF b,awF c,.ref 2,.ref 3])),(1,(.row true 2 aox d)),(2,(.row false 122 ab5 e)),(3,(.row false 83 aeK f)),(4,(.row true 2 aox []))]
 |1,(_,_,a,b,c,d,e,f)=> [(0,(.box 27 [awF a,awF b,awF c,.ref 2,.ref 3])),(1,(.row true 2 aox d)),(2,(.row false 122 ab5 e)),(3,(.row false 83 aeK f)),(4,(.row true 2 aox []))]
 |_,(_,_,a,b,c,d,e,f)=> [(0,(.box 27 [awF a,awF b,awF c,.ref 2,.ref 3])),(1,(.row true 2 aox d)),(2,(.row false 122 ab5 e)),(3,(.row false 83 aeK f))]
def xw:kz→LT kz
 |(a,b,c,d,e,f,g,i)=> .ite (rz a i) (.need [zu a,rz a i,zw a i] (.ite (zx a c d e g i) (.ext 0 [(0,0),(1,1),(2,2),(3,3),(4,896)]) (.need [zu a,rz a i,zw a i,Ew a g i] (.ite (Ey a b g i) (.ext 1 [(0,0),(1,1),(2,2),(3,3),(4,2368)]) (.need [Ez a b f g i,EA a b f g i] (.nrm ((EB a),EC a b g i,c,d,e,Dm a b f g i,g,i) [(0,0),(1,2944),(2,2),(3,3)])))))) (.ext 2 [(0,0),(1,1),(2,2),(3,3)])
def Jv(s:St):Option kz:=do
 let some ⟨none,.one ⟨false,[.val (.int .i64 a)]⟩⟩:=s.look 6|none
 let some ⟨none,.one ⟨false,[.ptr 192 0]⟩⟩:=s.look 1|none
 let some ⟨none,.one ⟨false,[.val (.int .i64 b)]⟩⟩:=s.look 5|none
 let some ⟨none,.one ⟨false,[.ref 384]⟩⟩:=s.look 4|none
 let some (.box 27 [.val (.int .i64 c),.val (.int .i64 d),.val (.int .i64 e),.ref 0,.ref 1]):=s.ent 192|none
 let some (.row false 122 (.pair (.int .i64) (.pair .str (.int .i64))) g):=s.ent 0|none
 let some (.row false 83 (.pair (.int .i64) (.int .i64)) i):=s.ent 1|none
 let some (.row true 2 (.int .i64) f):=s.ent 384|none
 some (a,b,c,d,e,f,g,i)
def dg:Lp kz where
 h:=⟨[10,11,12,13,14,17,18,19,20,21,22,23,24,2,3,26,27,28,29,30,31,32,25,33,34,7,8,35,36,37,38,39,40,41,42,43,44,45,46,47,48,49,50,5,51,52,53,54,4,15,16,6],[0,2,3],[1],[4]⟩
 JL:=adc
 JE:=ac6
 XL:=adp
 XE:=adj
 q:=fun j=>match j with | 0=> .ret | 1=> .ret | _=> .exit 0
 tags:= [0,1,2]
 lt:=xw
 fuel:=fun(a,b,c,d,e,f,g,i)=>a.natAbs + b.natAbs + c.natAbs + d.natAbs + e.natAbs + f.length + g.length + i.length
 fix:=fun(_,_,c,d,e,_,g,i) (a,b,_,_,_,f,_,_)=>(a,b,c,d,e,f,g,i)
 σ:= [(0,192),(2,0),(3,1),(1,384)]
 rd:=Jv
theorem aba:LoopOk prog (fun k=>Nat.blt k Tryz.f92.ntmps) dg.F (bB f92 0):=by
 refine Lp.ok (tbl:= (T3z [ow,FZ])) (lf:= []) bj dg (by kernel_rfl) (LOk.nil _) (fun _=>rfl) (fun j _=>by unfold dg;match j with | 0=>rfl | 1=>rfl | _ + 2=>rfl) ?_ ?_ ?_ ?_ (fun _=>rfl) ?_
 ·rintro⟨a,b,c,d,e,f,g,i⟩;kernel_rfl
 ·rintro⟨a,b,c,d,e,f,g,i⟩;kernel_rfl
 ·intro s x h
  have h:Jv s=some x:=h
  unfold Jv at h
  repeat' split at h
  all_goals cases h
  constructor<;>repeat(first|refine ab (by assumption) rfl ?_|refine aa rfl (by assumption) rfl ?_|exact rfl)
 ·rintro⟨a,b,c,d,e,f,g,i⟩;kernel_rfl
 ·rintro⟨a,b,c,d,e,f,g,i⟩ z;exact(And.intro (And.intro trivial (And.intro trivial rfl)) trivial)
section
variable (a b c:Int)(d:aow)(e:arD)
def CM:Int×Int×Int×Int×Int×arG×aow×arD:=((0:Int),(0:Int),a,b,c,[],d,e)
def PL:Bool:=Nat.beq ((Lp.res dg (CM a b c d e)).1) 0
def PM:Bool:=Nat.beq ((Lp.res dg (CM a b c d e)).1) 1
def PN:Int×Int×Int×Int×arG×aow×arD:=(Lp.res dg (CM a b c d e)).2.2
def Kp:Bool:=bif PL a b c d e then false else bif PM a b c d e then false else (PN a b c d e).1==0
def RM:arG:=bif PL a b c d e then []else bif PM a b c d e then []else ((PN a b c d e).2.2.2.2).1
def Kq:Bool:=allT [Lp.fin dg (CM a b c d e)]
end
def YE:awE
 | [.one ⟨true,[.val (.int .i64 a),.val (.int .i64 b),.val (.int .i64 c),.ref 0,.ref 1]⟩],[.row false 122 (.pair (.int .i64) (.pair (.str) (.int .i64))) d,.row false 83 (.pair (.int .i64) (.int .i64)) e]=>some ⟨.tup [⟨false,[.ref 2]⟩,⟨false,[.val (.bool (Kp a b c d e))]⟩],[.row false 122 ab5 d,.row false 83 aeK e],[.row true 2 aox (RM a b c d e)],[Kq a b c d e]⟩
 |_,_=>none
def vQ:PF prog:=PF.ofG prog (T3z [ow,FZ]) [dg.F] bj 92 f92 func92 (LOk.fnT (l:= [bB f92 0]) (by kernel_rfl) (.cons aba (.nil _))) YE (by
 intro _ _ _ h;unfold YE at h;split at h<;>cases h;kernel_rfl)
abbrev pI:=Int×Int×Int×Int×List (Int×(asv×Int))×List (Int×Int)
section
variable (a:Int)(b:aov)
def oI:Int×asv×Int:=v6 b[v4 a]? ((0:Int),ByteArray.empty,(0:Int))
def Bu:Bool:=ltI a (↑b.length:Int)
def LZ:Bool:=leI 0 a
def Ma:Bool:=ltN a.toNat b.length
def Mb:Bool:=leN (ByteArray.size (((oI a b).2).1)) 9223372036854775807
def Ge:Bool:= !xK ((oI a b).1) (((oI a b).2).1) ((oI a b).2.2)
def Mc:Int:=v7 .i64 (a + (1:Int))
end
def ajg:pI→List (Nat×SV)
 |(a,_,_,_,_,_)=> [(3,(.one ⟨false,[awF a]⟩)),(1,(.one ⟨false,[.ptr 0 0]⟩))]
def ajd:pI→List (Nat×Entry)
 |(_,a,b,c,d,e)=> [(0,(.box 27 [awF a,awF b,awF c,.ref 1,.ref 2])),(1,(.row false 122 ab5 d)),(2,(.row false 83 aeK e))]
def ajm:Nat→pI→List (Nat×SV)
 |0,(_,_,_,_,_,_)=> [(2,(.one ⟨false,[.val (.bool false)]⟩))]
 |_,(_,_,_,_,_,_)=> []
def DW:pI→LT pI
 |(a,b,c,d,e,f)=> .ite (Bu a e) (.need [LZ a,Bu a e,Ma a e,Mb a e] (.ite (Ge a e) (.ext 0 [(0,0),(1,1),(2,2)]) (.nrm ((Mc a),b,c,d,e,f) [(0,0),(1,1),(2,2)]))) (.ext 1 [(0,0),(1,1),(2,2)])
def QT(s:St):Option pI:=do
 let some ⟨none,.one ⟨false,[.val (.int .i64 a)]⟩⟩:=s.look 3|none
 let some ⟨none,.one ⟨false,[.ptr 192 0]⟩⟩:=s.look 1|none
 let some (.box 27 [.val (.int .i64 b),.val (.int .i64 c),.val (.int .i64 d),.ref 0,.ref 1]):=s.ent 192|none
 let some (.row false 122 (.pair (.int .i64) (.pair .str (.int .i64))) e):=s.ent 0|none
 let some (.row false 83 (.pair (.int .i64) (.int .i64)) f):=s.ent 1|none
 some (a,b,c,d,e,f)
def ij:Lp pI where
 h:=⟨[34,35,36,37,38,41,42,43,44,45,46,47,2,39,40,3],[0,1,2],[],[]⟩
 JL:=ajg
 JE:=ajd
 XL:=ajm
 XE:=fun _=>ajd
 q:=fun j=>match j with | 0=> .ret | _=> .exit 0
 tags:= [0,1]
 lt:=DW
 fuel:=fun(a,b,c,d,e,f)=>a.natAbs + b.natAbs + c.natAbs + d.natAbs + e.length + f.length
 fix:=fun(_,b,c,d,e,f) (a,_,_,_,_,_)=>(a,b,c,d,e,f)
 σ:= [(0,192),(1,0),(2,1)]
 rd:=QT
theorem agA:LoopOk prog (fun k=>Nat.blt k Tryz.f49.ntmps) ij.F (bB f49 0):=by
 refine Lp.ok (tbl:= (T3z [pp,ae4,vQ])) (lf:= []) bj ij (by kernel_rfl) (LOk.nil _) (fun _=>rfl) (fun j _=>by unfold ij;match j with | 0=>rfl | _ + 1=>rfl) ?_ ?_ ?_ ?_ (fun _=>rfl) ?_
 ·rintro⟨a,b,c,d,e,f⟩;kernel_rfl
 ·rintro⟨a,b,c,d,e,f⟩;kernel_rfl
 ·intro s x h
  have h:QT s=some x:=h
  unfold QT at h
  repeat' split at h
  all_goals cases h
  constructor<;>repeat(first|refine ab (by assumption) rfl ?_|refine aa rfl (by assumption) rfl ?_|exact rfl)
 ·rintro⟨a,b,c,d,e,f⟩;kernel_rfl
 ·rintro⟨a,b,c,d,e,f⟩ z;exact(And.intro (And.intro trivial rfl) trivial)
section
variable (a b c:Int)(d:aow)(e:arD)
def Cj:Bool:=bif bif bif bif !aZ a 0 20 then true else !aZ b 0 20 then true else !aZ c 0 20 then true else ltI 2000 (↑d.length:Int)then true else ltI 2000 (↑e.length:Int)
def Xj:Int×Int×Int×Int×aow×arD:=((0:Int),a,b,c,d,e)
def Xk:Bool:=Nat.beq ((Lp.res ij (Xj a b c d e)).1) 0
def aaj:Bool:=bif Cj a b c d e then false else bif Xk a b c d e then false else Kp a b c d e
def aak:Bool:=allT [Cj a b c d e||Lp.fin ij (Xj a b c d e),Cj a b c d e||(Xk a b c d e||Kq a b c d e)]
end
def agO:awE
 | [.one ⟨true,[.val (.int .i64 a),.val (.int .i64 b),.val (.int .i64 c),.ref 0,.ref 1]⟩],[.row false 122 (.pair (.int .i64) (.pair (.str) (.int .i64))) d,.row false 83 (.pair (.int .i64) (.int .i64)) e]=>some ⟨.one ⟨false,[.val (.bool (aaj a b c d e))]⟩,[.row false 122 ab5 d,.row false 83 aeK e],[],[aak a b c d e]⟩
 |_,_=>none
def an4:PF prog:=PF.ofG prog (T3z [pp,ae4,vQ]) [ij.F] bj 49 f49 func49 (LOk.fnT (l:= [bB f49 0]) (by kernel_rfl) (.cons agA (.nil _))) agO (by
 intro _ _ _ h;unfold agO at h;split at h<;>cases h;kernel_rfl)
def alL(a:Int)(b:asv)(c:Int):Bool:= !xK a b c
def acp:awE
 | [.one ⟨true,[.val (.int .i64 a),.val (.string b),.val (.int .i64 c)]⟩],[]=>some ⟨.one ⟨false,[.val (.bool (alL a b c))]⟩,[],[],[]⟩
 |_,_=>none
def alU:PF prog:=PF.ofG prog [ae3] [] bj 116 f116 func116 (fun c _=>LOk.nil c) acp (by
 intro _ _ _ h;unfold acp at h;split at h<;>cases h;kernel_rfl)
def aa0(a:Int):Int:=bif bif a==1 then a==1 else bif a==2 then a==2 else a==3 then(0:Int)else bif bif a==4 then a==4 else bif a==7 then a==7 else bif a==8 then a==8 else a==9 then(1:Int)else(2:Int)
def aaC:awE
 | [.one ⟨false,[.val (.int .i64 a)]⟩],[]=>some ⟨.one ⟨false,[awF (aa0 a)]⟩,[],[],[]⟩
 |_,_=>none
def akQ:PF prog:=PF.ofG prog [] [] bj 133 f133 func133 (fun c _=>LOk.nil c) aaC (by
 intro _ _ _ h;unfold aaC at h;split at h<;>cases h;kernel_rfl)
section
variable (a b:Int)(c:aow)
def iv:Bool:=bif a==1 then a==1 else bif a==2 then a==2 else a==3
def iw:Bool:=bif a==5 then a==5 else a==6
def yG:Bool:=bif a==8 then a==8 else a==9
def bd:Int:=bif iv a then(0:Int)else bif a==4 then(1:Int)else bif iw a then(2:Int)else bif a==7 then aa0 ((v6 c[v4 b]? ((0:Int),ByteArray.empty,(0:Int))).1)else bif yG a then(1:Int)else(0:Int)
def bU:Int:=bif iv a then(1:Int)else bif a==4 then(1:Int)else bif iw a then(1:Int)else bif a==7 then(1:Int)else bif yG a then(0:Int)else(0:Int)
def iZ:Bool:=allT [iv a||(a==4||(iw a||(!a==7||leI 0 b))),iv a||(a==4||(iw a||(!a==7||ltI b (↑c.length:Int)))),iv a||(a==4||(iw a||(!a==7||ltN b.toNat c.length)))]
end
def yP:awE
 | [.one ⟨true,[.val (.int .i64 _x0),.val (.int .i64 _x1),.val (.int .i64 _x2),.ref 0,.ref 1]⟩,.one ⟨true,[.val (.int .i64 a),.val (.int .i64 b)]⟩],[.row false 122 (.pair (.int .i64) (.pair (.str) (.int .i64))) c,.row false 83 (.pair (.int .i64) (.int .i64)) d]=>some ⟨.tup [⟨false,[awF (bd a b c)]⟩,⟨false,[awF (bU a)]⟩],[.row false 122 ab5 c,.row false 83 aeK d],[],[iZ a b c]⟩
 |_,_=>none
def dd:PF prog:=PF.ofG prog [akQ] [] bj 93 f93 func93 (fun c _=>LOk.nil c) yP (by
 intro _ _ _ h;unfold yP at h;split at h<;>cases h;kernel_rfl)
def FR(a:aow):Int:=(↑a.length:Int)
def PR:awE
 | [.one ⟨false,[.ref 0]⟩],[.row false 122 (.pair (.int .i64) (.pair (.str) (.int .i64))) a]=>some ⟨.one ⟨false,[awF (FR a)]⟩,[.row false 122 ab5 a],[],[]⟩
 |_,_=>none
def FV:PF prog:=PF.ofG prog [] [] bj 191 f191 func191 (fun c _=>LOk.nil c) PR (by
 intro _ _ _ h;unfold PR at h;split at h<;>cases h;kernel_rfl)
def gu(a b c d:Int)(e:aow):Int:=bif d==1 then(2:Int)else bif bif d==2 then d==2 else d==10 then a else bif bif d==3 then d==3 else bif d==8 then d==8 else d==11 then b else bif bif d==4 then d==4 else bif d==5 then d==5 else d==6 then(1:Int)else bif d==7 then FR e else bif d==9 then c else(0:Int)
def zZ:awE
 | [.one ⟨true,[.val (.int .i64 a),.val (.int .i64 b),.val (.int .i64 c),.ref 0,.ref 1]⟩,.one ⟨false,[.val (.int .i64 d)]⟩],[.row false 122 (.pair (.int .i64) (.pair (.str) (.int .i64))) e,.row false 83 (.pair (.int .i64) (.int .i64)) f]=>some ⟨.one ⟨false,[awF (gu a b c d e)]⟩,[.row false 122 ab5 e,.row false 83 aeK f],[],[]⟩
 |_,_=>none
def gy:PF prog:=PF.ofG prog (T3z [FV]) [] bj 166 f166 func166 (fun c _=>LOk.nil c) zZ (by
 intro _ _ _ h;unfold zZ at h;split at h<;>cases h;kernel_rfl)
abbrev bv:=Int×Int×Int×List (Int×Int)×Int×Int×Int×List Int×List (Int×(asv×Int))
section
variable (a b c:Int)(d:arD)(e f g:Int)(i:arG)(j:aov)
def aB:Int×Int:=v6 d[v4 a]? ((0:Int),(0:Int))
def fE:Int:=bd ((aB a d).1) ((aB a d).2) j
def cn:Int:=v7 .i64 (c + v7 .i64 (bU ((aB a d).1) - fE a d j))
def fT:Bool:=ltI a b
def km:Bool:=leI 0 a
def kn:Bool:=ltI a (↑d.length:Int)
def ko:Bool:=ltN a.toNat d.length
def fU:Bool:=bif ltI ((aB a d).2) 0 then true else leI (gu e f g ((aB a d).1) j) ((aB a d).2)
def kq:Bool:=iZ ((aB a d).1) ((aB a d).2) j
def kr:Bool:=ltI c (fE a d j)
def kt:Bool:=ltI 40 (cn a c d j)
def ku:Bool:=leN (v5 i + v5 [cn a c d j]) 9223372036854775807
def kv:Bool:=leN ((v5 i + v5 [cn a c d j]) * 8) 140737488355328
def ka:Int:=v7 .i64 (a + (1:Int))
def kb:Int:=cn a c d j
def ke:arG:=i++ [cn a c d j]
end
def Hb:bv→List (Nat×SV)
 |(a,b,c,_,_,_,_,_,_)=> [(13,(.one ⟨false,[awF a]⟩)),(12,(.one ⟨false,[awF b]⟩)),(11,(.one ⟨false,[.ref 0]⟩)),(1,(.one ⟨false,[.ptr 1 0]⟩)),(5,(.one ⟨false,[awF c]⟩)),(4,(.one ⟨false,[.ref 2]⟩))]
def GZ:bv→List (Nat×Entry)
 |(_,_,_,a,b,c,d,e,f)=> [(0,(.row false 83 aeK a)),(1,(.box 27 [awF b,awF c,awF d,.ref 3,.ref 0])),(3,(.row false 122 ab5 f)),(2,(.row true 2 aox e))]
def Hf:Nat→bv→List (Nat×SV)
 |0,(_,_,_,_,_,_,_,_,_)=> [(2,(.one ⟨false,[.ref 4]⟩)),(3,(.one ⟨false,[.val (.bool false)]⟩))]
 |1,(_,_,_,_,_,_,_,_,_)=> [(2,(.one ⟨false,[.ref 4]⟩)),(3,(.one ⟨false,[.val (.bool false)]⟩))]
 |2,(_,_,_,_,_,_,_,_,_)=> [(2,(.one ⟨false,[.ref 4]⟩)),(3,(.one ⟨false,[.val (.bool false)]⟩))]
 |_,(_,_,a,_,_,_,_,_,_)=> [(5,(.one ⟨false,[awF a]⟩)),(4,(.one ⟨false,[.ref 2]⟩))]
def Hd:Nat→bv→List (Nat×Entry)
 |0,(_,_,_,a,b,c,d,e,f)=> [(0,(.row false 83 aeK a)),(1,(.box 27 [awF b,awF c,awF d,.ref 3,.ref 0])),(2,(.row true 2 aox e)),(3,(.row false 122 ab5 f)),(4,(.row true 2 aox []))]
 |1,(_,_,_,a,b,c,d,e,f)=> [(0,(.row false 83 aeK a)),(1,(.box 27 [awF b,awF c,awF d,.ref 3,.ref 0])),(2,(.row true 2 aox e)),(3,(.row false 122 ab5 f)),(4,(.row true 2 aox []))]
 |2,(_,_,_,a,b,c,d,e,f)=> [(0,(.row false 83 aeK a)),(1,(.box 27 [awF b,awF c,awF d,.ref 3,.ref 0])),(2,(.row true 2 aox e)),(3,(.row false 122 ab5 f)),(4,(.row true 2 aox []))]
 |_,(_,_,_,a,b,c,d,e,f)=> [(0,(.row false 83 aeK a)),(1,(.box 27 [awF b,awF c,awF d,.ref 3,.ref 0])),(2,(.row true 2 aox e)),(3,(.row false 122 ab5 f))]
def fL:bv→LT bv
 |(a,b,c,d,e,f,g,i,j)=> .ite (fT a b) (.need [km a,kn a d,ko a d] (.ite (fU a d e f g j) (.ext 0 [(0,0),(1,1),(2,2),(3,3),(4,1152)]) (.need [kq a d j] (.ite (kr a c d j) (.ext 1 [(0,0),(1,1),(2,2),(3,3),(4,1856)]) (.ite (kt a c d j) (.ext 2 [(0,0),(1,1),(2,2),(3,3),(4,2368)]) (.need [ku a c d i j,kv a c d i j] (.nrm ((ka a),b,kb a c d j,d,e,f,g,ke a c d i j,j) [(0,0),(1,1),(2,2560),(3,3)]))))))) (.ext 3 [(0,0),(1,1),(2,2),(3,3)])
def oS(s:St):Option bv:=do
 let some ⟨none,.one ⟨false,[.val (.int .i64 a)]⟩⟩:=s.look 13|none
 let some ⟨none,.one ⟨false,[.val (.int .i64 b)]⟩⟩:=s.look 12|none
 let some ⟨none,.one ⟨false,[.ref 1]⟩⟩:=s.look 11|none
 let some ⟨none,.one ⟨false,[.ptr 192 0]⟩⟩:=s.look 1|none
 let some ⟨none,.one ⟨false,[.val (.int .i64 c)]⟩⟩:=s.look 5|none
 let some ⟨none,.one ⟨false,[.ref 384]⟩⟩:=s.look 4|none
 let some (.row false 83 (.pair (.int .i64) (.int .i64)) d):=s.ent 1|none
 let some (.box 27 [.val (.int .i64 e),.val (.int .i64 f),.val (.int .i64 g),.ref 0,.ref 1]):=s.ent 192|none
 let some (.row false 122 (.pair (.int .i64) (.pair .str (.int .i64))) j):=s.ent 0|none
 let some (.row true 2 (.int .i64) i):=s.ent 384|none
 some (a,b,c,d,e,f,g,i,j)
def ap:Lp bv where
 h:=⟨[14,15,16,7,17,18,19,20,21,22,23,24,25,26,27,28,2,3,30,31,32,29,33,34,8,9,35,36,37,38,39,40,41,42,5,43,44,45,46,47,48,4,49,13],[0,1,3],[2],[4]⟩
 JL:=Hb
 JE:=GZ
 XL:=Hf
 XE:=Hd
 q:=fun j=>match j with | 0=> .ret | 1=> .ret | 2=> .ret | _=> .exit 0
 tags:= [0,1,2,3]
 lt:=fL
 fuel:=fun(a,b,c,d,e,f,g,i,k)=>a.natAbs + b.natAbs + c.natAbs + d.length + e.natAbs + f.natAbs + g.natAbs + i.length + k.length
 fix:=fun(_,b,_,d,e,f,g,_,k) (a,_,c,_,_,_,_,i,_)=>(a,b,c,d,e,f,g,i,k)
 σ:= [(0,1),(1,192),(3,0),(2,384)]
 rd:=oS
theorem Fg:LoopOk prog (fun k=>Nat.blt k Tryz.f118.ntmps) ap.F (bB f118 0):=by
 refine Lp.ok (tbl:= (T3z [dd,gy])) (lf:= []) bj ap (by kernel_rfl) (LOk.nil _) (fun _=>rfl) (fun j _=>by unfold ap;match j with | 0=>rfl | 1=>rfl | 2=>rfl | _ + 3=>rfl) ?_ ?_ ?_ ?_ (fun _=>rfl) ?_
 ·rintro⟨a,b,c,d,e,f,g,i,l⟩;kernel_rfl
 ·rintro⟨a,b,c,d,e,f,g,i,l⟩;kernel_rfl
 ·intro s x h
  have h:oS s=some x:=h
  unfold oS at h
  repeat' split at h
  all_goals cases h
  constructor<;>repeat(first|refine ab (by assumption) rfl ?_|refine aa rfl (by assumption) rfl ?_|exact rfl)
 ·rintro⟨a,b,c,d,e,f,g,i,l⟩;kernel_rfl
 ·rintro⟨a,b,c,d,e,f,g,i,l⟩ z;exact(And.intro (And.intro trivial (And.intro trivial (And.intro trivial rfl))) trivial)
section
variable (a b c:Int)(d:aow)(e:arD)
def eI:Int×Int×Int×arD×Int×Int×Int×arG×aow:=((0:Int),(↑e.length:Int),(0:Int),e,a,b,c,[],d)
def qe:Bool:=Nat.beq ((Lp.res ap (eI a b c d e)).1) 0
def qf:Bool:=Nat.beq ((Lp.res ap (eI a b c d e)).1) 1
def qg:Bool:=Nat.beq ((Lp.res ap (eI a b c d e)).1) 2
def qh:Int×arD×Int×Int×Int×arG×aow:=(Lp.res ap (eI a b c d e)).2.2.2
def mj:Bool:=bif qe a b c d e then false else bif qf a b c d e then false else bif qg a b c d e then false else (qh a b c d e).1==0
def qG:arG:=bif qe a b c d e then []else bif qf a b c d e then []else bif qg a b c d e then []else ((qh a b c d e).2.2.2.2.2).1
def ml:Bool:=allT [Lp.fin ap (eI a b c d e)]
end
def yy:awE
 | [.one ⟨true,[.val (.int .i64 a),.val (.int .i64 b),.val (.int .i64 c),.ref 0,.ref 1]⟩],[.row false 122 (.pair (.int .i64) (.pair (.str) (.int .i64))) d,.row false 83 (.pair (.int .i64) (.int .i64)) e]=>some ⟨.tup [⟨false,[.ref 2]⟩,⟨false,[.val (.bool (mj a b c d e))]⟩],[.row false 122 ab5 d,.row false 83 aeK e],[.row true 2 aox (qG a b c d e)],[ml a b c d e]⟩
 |_,_=>none
def mq:PF prog:=PF.ofG prog (T3z [dd,gy]) [ap.F] bj 118 f118 func118 (LOk.fnT (l:= [bB f118 0]) (by kernel_rfl) (.cons Fg (.nil _))) yy (by
 intro _ _ _ h;unfold yy at h;split at h<;>cases h;kernel_rfl)
def Jh(a:Int)(b:asv)(c:Int):Bool:= !xK a b c
def Si:awE
 | [.one ⟨true,[.val (.int .i64 a),.val (.string b),.val (.int .i64 c)]⟩],[]=>some ⟨.one ⟨false,[.val (.bool (Jh a b c))]⟩,[],[],[]⟩
 |_,_=>none
def So:PF prog:=PF.ofG prog [ae3] [] bj 116 f116 func116 (fun c _=>LOk.nil c) Si (by
 intro _ _ _ h;unfold Si at h;split at h<;>cases h;kernel_rfl)
abbrev bX:=Int×Int×List (Int×(asv×Int))
section
variable (a b:Int)(c:aov)
def dL:Int×asv×Int:=v6 c[v4 a]? ((0:Int),ByteArray.empty,(0:Int))
def jx:Bool:=ltI a b
def jy:Bool:=leI 0 a
def jz:Bool:=ltI a (↑c.length:Int)
def jA:Bool:=ltN a.toNat c.length
def jB:Bool:=Jh ((dL a c).1) (((dL a c).2).1) ((dL a c).2.2)
def jC:Int:=v7 .i64 (a + (1:Int))
end
def KR:bX→List (Nat×SV)
 |(a,b,_)=> [(8,(.one ⟨false,[awF a]⟩)),(7,(.one ⟨false,[awF b]⟩)),(1,(.one ⟨false,[.val (.func (.func 116) ⟨[]⟩ ⟨[]⟩)]⟩)),(0,(.one ⟨false,[.ref 0]⟩))]
def KQ:bX→List (Nat×Entry)
 |(_,_,a)=> [(0,(.row false 122 ab5 a))]
def KU:Nat→bX→List (Nat×SV)
 |0,(a,_,_)=> [(4,(.one ⟨false,[awF a]⟩))]
 |_,(_,_,_)=> []
def jb:bX→LT bX
 |(a,b,c)=> .ite (jx a b) (.need [jy a,jz a c,jA a c] (.ite (jB a c) (.ext 0 [(0,0)]) (.nrm ((jC a),b,c) [(0,0)]))) (.ext 1 [(0,0)])
def rg(s:St):Option bX:=do
 let some ⟨none,.one ⟨false,[.val (.int .i64 a)]⟩⟩:=s.look 8|none
 let some ⟨none,.one ⟨false,[.val (.int .i64 b)]⟩⟩:=s.look 7|none
 let some ⟨none,.one ⟨false,[.val (.func (.func 116) ⟨[]⟩ ⟨[]⟩)]⟩⟩:=s.look 1|none
 let some ⟨none,.one ⟨false,[.ref 0]⟩⟩:=s.look 0|none
 let some (.row false 122 (.pair (.int .i64) (.pair .str (.int .i64))) c):=s.ent 0|none
 some (a,b,c)
def aK:Lp bX where
 h:=⟨[9,10,5,11,12,13,14,15,16,17,4,18,8],[0],[],[]⟩
 JL:=KR
 JE:=KQ
 XL:=KU
 XE:=fun _=>KQ
 q:=fun j=>match j with | 0=> .ret | _=> .exit 0
 tags:= [0,1]
 lt:=jb
 fuel:=fun(a,b,c)=>a.natAbs + b.natAbs + c.length
 fix:=fun(_,b,c) (a,_,_)=>(a,b,c)
 σ:= [(0,0)]
 rd:=rg
theorem Jj:LoopOk prog (fun k=>Nat.blt k Tryz.f164.ntmps) aK.F (bB f164 0):=by
 refine Lp.ok (tbl:= [So]) (lf:= []) bj aK (by kernel_rfl) (LOk.nil _) (fun _=>rfl) (fun j _=>by unfold aK;match j with | 0=>rfl | _ + 1=>rfl) ?_ ?_ ?_ ?_ (fun _=>rfl) ?_
 ·rintro⟨a,b,c⟩;kernel_rfl
 ·rintro⟨a,b,c⟩;kernel_rfl
 ·intro s x h
  have h:rg s=some x:=h
  unfold rg at h
  repeat' split at h
  all_goals cases h
  constructor<;>repeat(first|refine ab (by assumption) rfl ?_|refine aa rfl (by assumption) rfl ?_|exact rfl)
 ·rintro⟨a,b,c⟩;kernel_rfl
 ·rintro⟨a,b,c⟩ z;exact(And.intro (And.intro trivial rfl) trivial)
section
variable (a:aow)
def oH:Int×Int×aow:=((0:Int),(↑a.length:Int),a)
def ut:Int:=bif Nat.beq ((Lp.res aK (oH a)).1) 0 then ((Lp.res aK (oH a)).2).1else(-1:Int)
def uu:Bool:=allT [Lp.fin aK (oH a)]
end
def BE:awE
 | [.one ⟨false,[.ref 0]⟩,.one ⟨false,[.val (.func (.func 116) ⟨[]⟩ ⟨[]⟩)]⟩],[.row false 122 (.pair (.int .i64) (.pair .str (.int .i64))) a]=>some ⟨.one ⟨false,[awF (ut a)]⟩,[.row false 122 ab5 a],[],[uu a]⟩
 |_,_=>none
def ur:PF prog:=PF.ofG prog [So] [aK.F] bj 164 f164 func164 (LOk.fnT (l:= [bB f164 0]) (by kernel_rfl) (.cons Jj (.nil _))) BE (by
 intro _ _ _ h;unfold BE at h;split at h<;>cases h;kernel_rfl)
def nG(a:aow):Bool:=leI 0 (ut a)
def rI(a:aow):Bool:=allT [uu a]
def zB:awE
 | [.one ⟨false,[.ref 0]⟩,.one ⟨false,[.val (.func (.func 116) ⟨[]⟩ ⟨[]⟩)]⟩],[.row false 122 (.pair (.int .i64) (.pair .str (.int .i64))) a]=>some ⟨.one ⟨false,[.val (.bool (nG a))]⟩,[.row false 122 ab5 a],[],[rI a]⟩
 |_,_=>none
def rF:PF prog:=PF.ofG prog (T3z [ur]) [] bj 115 f115 func115 (fun c _=>LOk.nil c) zB (by
 intro _ _ _ h;unfold zB at h;split at h<;>cases h;kernel_rfl)
section
variable (a b c:Int)(d:aow)(e:arD)
def Lh:Bool:=bif bif bif bif !dQ a 0 20 then true else !dQ b 0 20 then true else !dQ c 0 20 then true else ltI 2000 (↑d.length:Int)then true else ltI 2000 (↑e.length:Int)
def ZU:Bool:=bif Lh a b c d e then false else bif nG d then false else mj a b c d e
def ZV:Bool:=allT [Lh a b c d e||rI d,Lh a b c d e||(nG d||ml a b c d e)]
end
def agJ:awE
 | [.one ⟨true,[.val (.int .i64 a),.val (.int .i64 b),.val (.int .i64 c),.ref 0,.ref 1]⟩],[.row false 122 (.pair (.int .i64) (.pair (.str) (.int .i64))) d,.row false 83 (.pair (.int .i64) (.int .i64)) e]=>some ⟨.one ⟨false,[.val (.bool (ZU a b c d e))]⟩,[.row false 122 ab5 d,.row false 83 aeK e],[],[ZV a b c d e]⟩
 |_,_=>none
def an0:PF prog:=PF.ofG prog (T3z [NJ,alU,mq,rF]) [] bj 65 f65 func65 (fun c _=>LOk.nil c) agJ (by
 intro _ _ _ h;unfold agJ at h;split at h<;>cases h;kernel_rfl)
abbrev bw:=Int×Int×List (Int×(asv×Int))×List Int×List (Int×(Int×Int))
section
variable (a b:Int)(c:aov)(d:aqe)
def dP:Int×asv×Int:=v6 c[v4 a]? ((0:Int),ByteArray.empty,(0:Int))
def da:Int×Int×Int:=v6 d[v4 a]? ((0:Int),(0:Int),(0:Int))
def fV:Bool:=ltI a b
def ea:Bool:=leI 0 a
def fW:Bool:=ltI a (↑c.length:Int)
def fX:Bool:=ltN a.toNat c.length
def fY:Bool:=ltI a (↑d.length:Int)
def fZ:Bool:=ltN a.toNat d.length
def gc:Bool:= !zE ((dP a c).1) ((dP a c).2.2) ((da a d).1) (((da a d).2).1) ((da a d).2.2)
def gd:Int:=v7 .i64 (a + (1:Int))
end
def Hc:bw→List (Nat×SV)
 |(a,b,_,_,_)=> [(24,(.one ⟨false,[awF a]⟩)),(23,(.one ⟨false,[awF b]⟩)),(22,(.one ⟨false,[.ref 0]⟩)),(3,(.one ⟨false,[.ptr 1 0]⟩))]
def Ha:bw→List (Nat×Entry)
 |(_,_,a,b,c)=> [(0,(.row false 122 ab5 a)),(1,(.box 50 [.ref 2,.ref 3])),(2,(.row false 2 aox b)),(3,(.row false 109 abx c))]
def Hg:Nat→bw→List (Nat×SV)
 |0,(_,_,_,_,_)=> [(6,(.one ⟨false,[.val (.bool false)]⟩))]
 |_,(_,_,_,_,_)=> []
def fM:bw→LT bw
 |(a,b,c,d,e)=> .ite (fV a b) (.need [ea a,fW a c,fX a c] (.need [ea a,fY a e,fZ a e] (.ite (gc a c e) (.ext 0 [(0,0),(1,1),(2,2),(3,3)]) (.nrm ((gd a),b,c,d,e) [(0,0),(1,1),(2,2),(3,3)])))) (.ext 1 [(0,0),(1,1),(2,2),(3,3)])
def oT(s:St):Option bw:=do
 let some ⟨none,.one ⟨false,[.val (.int .i64 a)]⟩⟩:=s.look 24|none
 let some ⟨none,.one ⟨false,[.val (.int .i64 b)]⟩⟩:=s.look 23|none
 let some ⟨none,.one ⟨false,[.ref 2]⟩⟩:=s.look 22|none
 let some ⟨none,.one ⟨false,[.ptr 256 0]⟩⟩:=s.look 3|none
 let some (.row false 122 (.pair (.int .i64) (.pair .str (.int .i64))) c):=s.ent 2|none
 let some (.box 50 [.ref 0,.ref 1]):=s.ent 256|none
 let some (.row false 2 (.int .i64) d):=s.ent 0|none
 let some (.row false 109 (.pair (.int .i64) (.pair (.int .i64) (.int .i64))) e):=s.ent 1|none
 some (a,b,c,d,e)
def aC:Lp bw where
 h:=⟨[25,26,27,28,8,7,29,30,31,32,33,34,35,36,6,37,24],[0,1,2,3],[],[]⟩
 JL:=Hc
 JE:=Ha
 XL:=Hg
 XE:=fun _=>Ha
 q:=fun j=>match j with | 0=> .ret | _=> .exit 0
 tags:= [0,1]
 lt:=fM
 fuel:=fun(a,b,c,d,e)=>a.natAbs + b.natAbs + c.length + d.length + e.length
 fix:=fun(_,b,c,d,e) (a,_,_,_,_)=>(a,b,c,d,e)
 σ:= [(0,2),(1,256),(2,0),(3,1)]
 rd:=oT
theorem Fh:LoopOk prog (fun k=>Nat.blt k Tryz.f69.ntmps) aC.F (bB f69 0):=by
 refine Lp.ok (tbl:= (T3z [gU,YQ])) (lf:= []) bj aC (by kernel_rfl) (LOk.nil _) (fun _=>rfl) (fun j _=>by unfold aC;match j with | 0=>rfl | _ + 1=>rfl) ?_ ?_ ?_ ?_ (fun _=>rfl) ?_
 ·rintro⟨a,b,c,d,e⟩;kernel_rfl
 ·rintro⟨a,b,c,d,e⟩;kernel_rfl
 ·intro s x h
  have h:oT s=some x:=h
  unfold oT at h
  repeat' split at h
  all_goals cases h
  constructor<;>repeat(first|refine ab (by assumption) rfl ?_|refine aa rfl (by assumption) rfl ?_|exact rfl)
 ·rintro⟨a,b,c,d,e⟩;kernel_rfl
 ·rintro⟨a,b,c,d,e⟩ z;exact(And.intro (And.intro trivial rfl) trivial)
section
variable (a:Int)(b:arG)(c:aq5)(d:aow)
def eJ:Bool:=bif !bitsB a b then true else(↑c.length:Int)!=(↑d.length:Int)
def qi:Int×Int×aow×arG×aq5:=((0:Int),(↑d.length:Int),d,b,c)
def mn:Bool:=bif eJ a b c d then false else bif Nat.beq ((Lp.res aC (qi b c d)).1) 0 then false else true
def mo:Bool:=allT [leN b.length (9223372036854775807:Nat),eJ a b c d||Lp.fin aC (qi b c d)]
end
def yA:awE
 | [.one ⟨true,[.ref 0,.ref 1]⟩,.one ⟨false,[.val (.int .i64 a)]⟩,.one ⟨false,[.ref 2]⟩],[.row false 2 (.int .i64) b,.row false 109 (.pair (.int .i64) (.pair (.int .i64) (.int .i64))) c,.row false 122 (.pair (.int .i64) (.pair (.str) (.int .i64))) d]=>some ⟨.one ⟨false,[.val (.bool (mn a b c d))]⟩,[.row false 2 aox b,.row false 109 abx c,.row false 122 ab5 d],[],[mo a b c d]⟩
 |_,_=>none
def Ku:PF prog:=PF.ofG prog (T3z [gU,YQ]) [aC.F] bj 69 f69 func69 (LOk.fnT (l:= [bB f69 0]) (by kernel_rfl) (.cons Fh (.nil _))) yA (by
 intro _ _ _ h;unfold yA at h;split at h<;>cases h;kernel_rfl)
def rH(a:aq5):Bool:=allT [ltN 0 a.length,false||leN (0 + v5 a) 9223372036854775807,false||leN ((0 + v5 a) * 24) 140737488355328]
def FJ:awE
 | [.one ⟨false,[.ref 0]⟩],[.row false 109 (.pair (.int .i64) (.pair (.int .i64) (.int .i64))) a]=>some ⟨.one ⟨false,[.ref 1]⟩,[.row false 109 abx a],[.row true 109 abx a],[rH a]⟩
 |_,_=>none
def Te:PF prog:=PF.ofG prog [] [] bj 89 f89 func89 (fun c _=>LOk.nil c) FJ (by
 intro _ _ _ h;unfold FJ at h;split at h<;>cases h;kernel_rfl)
abbrev ny:=Int×Int×Int×Int×List (Int×(asv×Int))×List (Int×Int)×List Int×List (Int×(Int×Int))
section
variable (a:Int)(b:aov)(c:aqe)
def wD:Int×asv×Int:=v6 b[v4 a]? ((0:Int),ByteArray.empty,(0:Int))
def sV:Int×Int×Int:=v6 c[v4 a]? ((0:Int),(0:Int),(0:Int))
def yw:Bool:=ltI a (↑b.length:Int)
def yx:Bool:=leI 0 a
def CQ:Bool:=ltN a.toNat b.length
def CR:Bool:=ltI a (↑c.length:Int)
def CS:Bool:=ltN a.toNat c.length
def CT:Bool:= !cX ((wD a b).1) ((wD a b).2.2) ((sV a c).1) (((sV a c).2).1) ((sV a c).2.2)
def CU:Int:=v7 .i64 (a + (1:Int))
end
def agd:ny→List (Nat×SV)
 |(a,_,_,_,_,_,_,_)=> [(5,(.one ⟨false,[awF a]⟩)),(2,(.one ⟨false,[.ptr 0 0]⟩)),(3,(.one ⟨false,[.ptr 1 0]⟩))]
def af3:ny→List (Nat×Entry)
 |(_,a,b,c,d,e,f,g)=> [(0,(.box 27 [awF a,awF b,awF c,.ref 2,.ref 3])),(1,(.box 50 [.ref 4,.ref 5])),(2,(.row false 122 ab5 d)),(3,(.row false 83 aeK e)),(4,(.row false 2 aox f)),(5,(.row false 109 abx g))]
def agy:Nat→ny→List (Nat×SV)
 |0,(_,_,_,_,_,_,_,_)=> [(4,(.one ⟨false,[.val (.bool false)]⟩))]
 |_,(_,_,_,_,_,_,_,_)=> []
def Ao:ny→LT ny
 |(a,b,c,d,e,f,g,i)=> .ite (yw a e) (.need [yx a,yw a e,CQ a e,yx a,CR a i,CS a i] (.ite (CT a e i) (.ext 0 [(0,0),(1,1),(2,2),(3,3),(4,4),(5,5)]) (.nrm ((CU a),b,c,d,e,f,g,i) [(0,0),(1,1),(2,2),(3,3),(4,4),(5,5)]))) (.ext 1 [(0,0),(1,1),(2,2),(3,3),(4,4),(5,5)])
def Nu(s:St):Option ny:=do
 let some ⟨none,.one ⟨false,[.val (.int .i64 a)]⟩⟩:=s.look 5|none
 let some ⟨none,.one ⟨false,[.ptr 320 0]⟩⟩:=s.look 2|none
 let some ⟨none,.one ⟨false,[.ptr 384 0]⟩⟩:=s.look 3|none
 let some (.box 27 [.val (.int .i64 b),.val (.int .i64 c),.val (.int .i64 d),.ref 0,.ref 1]):=s.ent 320|none
 let some (.box 50 [.ref 2,.ref 3]):=s.ent 384|none
 let some (.row false 122 (.pair (.int .i64) (.pair .str (.int .i64))) e):=s.ent 0|none
 let some (.row false 83 (.pair (.int .i64) (.int .i64)) f):=s.ent 1|none
 let some (.row false 2 (.int .i64) g):=s.ent 2|none
 let some (.row false 109 (.pair (.int .i64) (.pair (.int .i64) (.int .i64))) i):=s.ent 3|none
 some (a,b,c,d,e,f,g,i)
def fk:Lp ny where
 h:=⟨[21,22,23,24,25,28,29,30,31,32,33,34,35,36,37,38,39,4,26,27,5],[0,1,2,3,4,5],[],[]⟩
 JL:=agd
 JE:=af3
 XL:=agy
 XE:=fun _=>af3
 q:=fun j=>match j with | 0=> .ret | _=> .exit 0
 tags:= [0,1]
 lt:=Ao
 fuel:=fun(a,b,c,d,e,f,g,i)=>a.natAbs + b.natAbs + c.natAbs + d.natAbs + e.length + f.length + g.length + i.length
 fix:=fun(_,b,c,d,e,f,g,i) (a,_,_,_,_,_,_,_)=>(a,b,c,d,e,f,g,i)
 σ:= [(0,320),(1,384),(2,0),(3,1),(4,2),(5,3)]
 rd:=Nu
theorem adB:LoopOk prog (fun k=>Nat.blt k Tryz.f72.ntmps) fk.F (bB f72 0):=by
 refine Lp.ok (tbl:= (T3z [Xa,bh])) (lf:= []) bj fk (by kernel_rfl) (LOk.nil _) (fun _=>rfl) (fun j _=>by unfold fk;match j with | 0=>rfl | _ + 1=>rfl) ?_ ?_ ?_ ?_ (fun _=>rfl) ?_
 ·rintro⟨a,b,c,d,e,f,g,i⟩;kernel_rfl
 ·rintro⟨a,b,c,d,e,f,g,i⟩;kernel_rfl
 ·intro s x h
  have h:Nu s=some x:=h
  unfold Nu at h
  repeat' split at h
  all_goals cases h
  constructor<;>repeat(first|refine ab (by assumption) rfl ?_|refine aa rfl (by assumption) rfl ?_|exact rfl)
 ·rintro⟨a,b,c,d,e,f,g,i⟩;kernel_rfl
 ·rintro⟨a,b,c,d,e,f,g,i⟩ z;exact(And.intro (And.intro trivial rfl) trivial)
section
variable (a b c:Int)(d:aow)(e:arD)(f:arG)(g:aq5)
def yu:Bool:=(↑g.length:Int)!=(↑d.length:Int)
def TK:Int×Int×Int×Int×aow×arD×arG×aq5:=((0:Int),a,b,c,d,e,f,g)
def Oy:Bool:=bif bif yu d g then true else !bitsB b f then false else bif Nat.beq ((Lp.res fk (TK a b c d e f g)).1) 0 then false else true
def Oz:Bool:=allT [!(!yu d g&&true)||leN f.length (9223372036854775807:Nat),(bif yu d g then true else !bitsB b f)||Lp.fin fk (TK a b c d e f g)]
end
def acG:awE
 | [.one ⟨true,[.val (.int .i64 a),.val (.int .i64 b),.val (.int .i64 c),.ref 0,.ref 1]⟩,.one ⟨true,[.ref 2,.ref 3]⟩],[.row false 122 (.pair (.int .i64) (.pair (.str) (.int .i64))) d,.row false 83 (.pair (.int .i64) (.int .i64)) e,.row false 2 (.int .i64) f,.row false 109 (.pair (.int .i64) (.pair (.int .i64) (.int .i64))) g]=>some ⟨.one ⟨false,[.val (.bool (Oy a b c d e f g))]⟩,[.row false 122 ab5 d,.row false 83 aeK e,.row false 2 aox f,.row false 109 abx g],[],[Oz a b c d e f g]⟩
 |_,_=>none
def al3:PF prog:=PF.ofG prog (T3z [Xa,bh]) [fk.F] bj 72 f72 func72 (LOk.fnT (l:= [bB f72 0]) (by kernel_rfl) (.cons adB (.nil _))) acG (by
 intro _ _ _ h;unfold acG at h;split at h<;>cases h;kernel_rfl)
abbrev BS:=Int×Int×Int
def QJ(k n:Int)(l:arG)(s:BS):BS:=(gn k n s.1 s.2.1 s.2.2 l,gp k s.2.1 s.2.2 l,gq k n s.1 s.2.2 l)
def asb(k n:Int)(l:arG)(s:BS):Int:=em k n s.1 s.2.1 s.2.2 l
theorem aqx{k n a b c:Int}{s:asv}{l:arG}(hB:xK k s n=true)(hP:possB k n a b c=true)(hA:bitsB (takesK k) l=true):
  (Bn k n a b c l,Bo k b c l,Bp k n a b c l)=QJ k n l (a,b,c)∧possB k n (QJ k n l (a,b,c)).1 (QJ k n l (a,b,c)).2.1 (QJ k n l (a,b,c)).2.2=true:=by
 obtain⟨_,e1,e2,e3,_,_,e6⟩:=amd hB hP hA
 exact⟨by rw [e1,e2,e3];rfl,e6⟩
theorem Lp.inv{X:Type}(p:Lp X)(I Q:Nat→X→Prop)
  (hs: ∀ k x,I (k + 1) x→(∃ j,(p.lt x).out=some (.inl j)∧Q j x)∨ ∃ y,(p.lt x).out=some (.inr y)∧I k y)
  (he: ∀ x,I 0 x→ ∃ j,(p.lt x).out=some (.inl j)∧Q j x) (N:Nat) (x:X) (hN:N≤999) (h:I N x):
  p.fin x=true∧ ∃ j y,p.res x=(j,y)∧Q j y:=by
 have mO: ∀ (k:Nat) (x:X),I k x→ ∃ j y,LX p.lt (k + 1) x=some (j,y)∧Q j y:=by
  intro k
  induction k with
  |zero=>
   intro x h
   obtain⟨j,h1,h2⟩:=he x h
   exact⟨j,x,Gb _ h1,h2⟩
  |succ k ih=>
   intro x h
   rcases hs k x h with⟨j,h1,h2⟩ | ⟨y,h1,h2⟩
   ·exact⟨j,x,Gb _ h1,h2⟩
   ·obtain⟨j,z,h3,h4⟩:=ih y h2
    exact⟨j,z,by rw [Tk _ h1];exact h3,h4⟩
 obtain⟨j,y,h1,h2⟩:=mO N x h
 obtain⟨r1,r2⟩:=p.run h1 (aeN (by omega))
 exact⟨r1,j,y,r2,h2⟩
abbrev TM:=Int×asv×Int
def arx(xs ys:aq5):Bool:=decide (xs=ys)
theorem aoo(xs:aq5):arx xs xs=true:=by simp [arx]
theorem as1(xs:aq5)(h:(leN 1 xs.length&&leN xs.length 1048576)=true):rH xs=true:=by
 simp only [w5,fc]at h
 simp [rH,allT]
 omega
def ai9:awE
 | [.one ⟨false,[.val (.slice none 0 0)]⟩],[]=>some ⟨.one ⟨false,[.ref 0]⟩,[],[.row true 109 (.pair (.int .i64) (.pair (.int .i64) (.int .i64))) []],[true]⟩
 |_,_=>none
def apv:PF prog:=PF.ofG prog [PF.raw prog] [] bj 89 f89 func89 (fun c _=>LOk.nil c) ai9 (by
 intro _ _ _ h;unfold ai9 at h;split at h<;>cases h;kernel_rfl)
def ai8:awE
 | [.one ⟨false,[.val (.slice (some _) 0 _)]⟩],[]=>some ⟨.one ⟨false,[.ref 0]⟩,[],[.row true 109 (.pair (.int .i64) (.pair (.int .i64) (.int .i64))) []],[true]⟩
 |_,_=>none
def apu:PF prog:=PF.ofG prog [] [] bj 89 f89 func89 (fun c _=>LOk.nil c) ai8 (by
 intro _ _ _ h;unfold ai8 at h;split at h<;>cases h;kernel_rfl)
def FK:awE
 | [.one ⟨false,[.ref 0]⟩],[.row false 109 (.pair (.int .i64) (.pair (.int .i64) (.int .i64))) a]=>some ⟨.one ⟨false,[.ref 1]⟩,[.row false 109 (.pair (.int .i64) (.pair (.int .i64) (.int .i64))) a],[.row true 109 (.pair (.int .i64) (.pair (.int .i64) (.int .i64))) a],[leN a.length 1048576]⟩
 |_,_=>none
def kV:PF prog where
 k:=89
 F:=FK
 ok:=by
  intro args es o h bA mem ρ w hp
  unfold FK at h
  split at h
  ·rename_i a
   cases h
   have hl:=bA _ (v9.2 rfl)
   cases a with
   |nil=>
    exact(atz apv apu rfl rfl rfl (fun _ _=>rfl) (by simp) (by simp) hp).mono fun en w' ⟨ρ',h1,h2,h3⟩=>⟨ρ',h1,h2,rfl,(by intro v hv;rw [v9.1 hv];rfl),h3⟩
   |cons x xs=>exact Te.ok _ _ ⟨_,_,_,[rH (x::xs)]⟩ rfl (fun b hb=>by rw [v9.1 hb];exact as1 (x::xs) ((w5 _ _).mpr ⟨aG (Nat.succ_pos _),hl⟩)) mem ρ w hp
  ·cases h
abbrev IN:=Int×Int
abbrev BS3:=Int×Int×Int
def tkI(bs:List TM)(x:IN):Int:=fa x.1 x.2 bs
def gvI(x:IN):Int:=jW x.1
def Qr(i v o:Int)(bs:List TM)(x:IN):Bool:=wm i v o x.1 x.2 bs
theorem aul(k:Int):0≤ew k∧ew k≤2:=by
 unfold ew
 generalize (bif k==1 then k==1 else bif k==2 then k==2 else k==3)=b1
 generalize (bif k==4 then k==4 else bif k==7 then k==7 else bif k==8 then k==8 else k==9)=b2
 cases b1 <;> cases b2 <;> decide
theorem aaz(bs:List TM)(x:IN):0≤tkI bs x∧tkI bs x≤2:=by
 have h:=aul ((v6 bs[v4 x.2]? ((0:Int),ByteArray.empty,(0:Int))).1)
 unfold tkI fa
 generalize mJ x.1=b1
 generalize mK x.1=b2
 generalize sn x.1=b3
 generalize (x.1==4)=b4
 generalize (x.1==7)=b5
 cases b1 <;> cases b4 <;> cases b2 <;> cases b5 <;> cases b3 <;> simp only [cond_true,cond_false] <;> first | exact h | decide
theorem ah3(x:IN):0≤gvI x∧gvI x≤1:=by
 unfold gvI jW
 generalize mJ x.1=b1
 generalize mK x.1=b2
 generalize sn x.1=b3
 generalize (x.1==4)=b4
 generalize (x.1==7)=b5
 cases b1 <;> cases b4 <;> cases b2 <;> cases b5 <;> cases b3 <;> decide
theorem apa{i v o:Int}{bs:List TM}{x:IN}(hl:bs.length≤2000)(h:Qr i v o bs x=true):wP x.1 x.2 bs=true:=by
 by_cases h7:x.1=7
 ·simp [Qr,wm,h7,aZ,Bool.cond_eq_ite]at h
  have hw:IntKind.i64.wrap ((bs.length:Int) - 1)=bs.length - 1:=aR (by omega) (by omega)
  rw [hw]at h
  have h1:leI 0 x.2=true:=aS (by omega)
  have h2:ltI x.2 (bs.length:Int)=true:=cI (by omega)
  have h3:ltN x.2.toNat bs.length=true:=dE (by omega)
  simp [wP,allT,h1,h2,h3]
 ·simp [wP,allT,h7]
theorem aqv{i v o:Int}{bs:List TM}{x:IN}(hi:0≤i∧i≤20)(hv:0≤v∧v≤20)(ho:0≤o∧o≤20)(hl:bs.length≤2000):
  (bif ltI x.2 0 then true else leI (gu i v o x.1 bs) x.2)= !Qr i v o bs x:=by
 have w1:IntKind.i64.wrap (i - 1)=i - 1:=aR (by omega) (by omega)
 have w2:IntKind.i64.wrap (v - 1)=v - 1:=aR (by omega) (by omega)
 have w3:IntKind.i64.wrap (o - 1)=o - 1:=aR (by omega) (by omega)
 have w4:IntKind.i64.wrap ((bs.length:Int) - 1)=bs.length - 1:=aR (by omega) (by omega)
 have mO: ∀ m:Int,(bif ltI x.2 0 then true else leI m x.2)= !(bif leI 0 x.2 then leI x.2 (m - 1)else false):=fun m=>by
  by_cases h0:x.2 < 0
  ·have a1:ltI x.2 0=true:=cI h0
   have a2:leI 0 x.2=false:=acQ (by omega)
   simp [a1,a2]
  ·have a1:ltI x.2 0=false:=yV (by omega)
   have a2:leI 0 x.2=true:=aS (by omega)
   simp only [a1,a2,cond_false,cond_true]
   by_cases hm:m≤x.2
   ·rw [aS hm,acQ (by omega)];rfl
   ·rw [acQ (by omega),aS (by omega)];rfl
 rw [mO]
 simp only [Qr,wm,gu,FR,aZ,w1,w2,w3,w4]
 generalize (bif x.1==2 then x.1==2 else x.1==10)=b2
 generalize (bif x.1==3 then x.1==3 else bif x.1==8 then x.1==8 else x.1==11)=b3
 generalize (bif x.1==4 then x.1==4 else bif x.1==5 then x.1==5 else x.1==6)=b4
 generalize (x.1==1)=b1
 generalize (x.1==7)=b5
 generalize (x.1==9)=b6
 have e0:(bif leI 0 x.2 then leI x.2 (1 - 1)else false)=(x.2==0):=by
  by_cases h:x.2=0
  ·rw [h];rfl
  ·have:(x.2==0)=false:=by simpa using h
   rw [this]
   by_cases h0:0≤x.2
   ·rw [aS h0,acQ (by omega)];rfl
   ·rw [acQ (by omega)];rfl
 have e1:(bif leI 0 x.2 then leI x.2 (0 - 1)else false)=false:=by
  by_cases h0:0≤x.2
  ·rw [aS h0,acQ (by omega)];rfl
  ·rw [acQ (by omega)];rfl
 cases b1 <;> cases b2 <;> cases b3 <;> cases b4 <;> cases b5 <;> cases b6 <;> simp only [cond_true,cond_false,e0,e1] <;> rfl
def hgt(i v o:Int)(bs:List TM):List IN→Int→arG→Option (Int×arG)
 | [],n,acc=>some (n,acc)
 |x::r,n,acc=>bif Qr i v o bs x&&(leI (tkI bs x) n&&leI (n - tkI bs x + gvI x) 40)then hgt i v o bs r (n - tkI bs x + gvI x) (acc++ [n - tkI bs x + gvI x])else none
theorem aph{i v o:Int}{bs:List TM}: ∀ (st:List IN) (n:Int) (acc:arG) (m:Int) (out:arG),hgt i v o bs st n acc=some (m,out)→out.length=acc.length + st.length
 | [],n,acc,m,out,h=>by simp only [hgt,q9,Prod.mk.injEq]at h;rw [← h.2];simp
 |x::r,n,acc,m,out,h=>by
  simp only [hgt]at h
  cases hc:(Qr i v o bs x&&(leI (tkI bs x) n&&leI (n - tkI bs x + gvI x) 40))with
  |false=>rw [hc]at h;cases h
  |true=>
   rw [hc]at h
   have:=aph r _ _ _ _ h
   rw [this];simp;omega
def amF(i v o:Int)(bs:List TM)(b:IN):Int×arG→Nat ⊕ (Int×arG)
 |(n,acc)=>bif !wm i v o b.1 b.2 bs then .inl 0 else
   bif(bif ltI n (fa b.1 b.2 bs)then true else ltI 40 (IntKind.i64.wrap (IntKind.i64.wrap (n - fa b.1 b.2 bs) + jW b.1)))then .inl 1 else
   .inr (IntKind.i64.wrap (IntKind.i64.wrap (n - fa b.1 b.2 bs) + jW b.1),acc++ [IntKind.i64.wrap (IntKind.i64.wrap (n - fa b.1 b.2 bs) + jW b.1)])
theorem asn{i v o:Int}{bs:List TM}{b:IN}{n:Int}{acc:arG}(hn:0≤n∧n≤40):
  amF i v o bs b (n,acc)=bif !Qr i v o bs b then .inl 0 else bif !(leI (tkI bs b) n&&leI (n - tkI bs b + gvI b) 40)then .inl 1 else .inr (n - tkI bs b + gvI b,acc++ [n - tkI bs b + gvI b]):=by
 have ht:=aaz bs b
 have hg:=ah3 b
 have e1:fa b.1 b.2 bs=tkI bs b:=rfl
 have e2:jW b.1=gvI b:=rfl
 have e3:wm i v o b.1 b.2 bs=Qr i v o bs b:=rfl
 have w1:IntKind.i64.wrap (n - tkI bs b)=n - tkI bs b:=aR (by omega) (by omega)
 have w2:IntKind.i64.wrap (n - tkI bs b + gvI b)=n - tkI bs b + gvI b:=aR (by omega) (by omega)
 simp only [amF,e1,e2,e3,w1,w2]
 cases Qr i v o bs b with
 |false=>rfl
 |true=>
  have e4:(bif ltI n (tkI bs b)then true else ltI 40 (n - tkI bs b + gvI b))= !(leI (tkI bs b) n&&leI (n - tkI bs b + gvI b) 40):=by
   by_cases h1:n < tkI bs b
   ·rw [cI h1,acQ (by omega)];rfl
   ·rw [yV (by omega),aS (by omega)]
    by_cases h2:40 < n - tkI bs b + gvI b
    ·rw [cI h2,acQ (by omega)];rfl
    ·rw [yV (by omega),aS (by omega)];rfl
  rw [e4]
theorem anN{i v o:Int}{bs:List TM}{f:IN→Int×arG→Nat ⊕ (Int×arG)}{e:Nat}
  (hf: ∀ b n acc,0≤n∧n≤40→((Qr i v o bs b&&(leI (tkI bs b) n&&leI (n - tkI bs b + gvI b) 40))=true→f b (n,acc)= .inr (n - tkI bs b + gvI b,acc++ [n - tkI bs b + gvI b]))∧
   ((Qr i v o bs b&&(leI (tkI bs b) n&&leI (n - tkI bs b + gvI b) 40))=false→ ∃ j,j < e∧f b (n,acc)= .inl j)):
  ∀ (r:List IN) (k:Nat) (n:Int) (acc:arG),0≤n∧n≤40→
   (∀ m out,hgt i v o bs r n acc=some (m,out)→ci f e r k (n,acc)=(e,k + r.length,(m,out))∧0≤m∧m≤40)∧(hgt i v o bs r n acc=none→(ci f e r k (n,acc)).1 < e)
 | [],k,n,acc,hn=>⟨fun m out h=>by simp only [hgt,q9,Prod.mk.injEq]at h;obtain⟨rfl,rfl⟩:=h;exact⟨rfl,hn⟩,fun h=>by simp [hgt]at h⟩
 |b::r,k,n,acc,hn=>by
  have ht:=aaz bs b
  have hg:=ah3 b
  cases hc:(Qr i v o bs b&&(leI (tkI bs b) n&&leI (n - tkI bs b + gvI b) 40))with
  |true=>
   have h1:=(hf b n acc hn).1 hc
   have hb:0≤n - tkI bs b + gvI b∧n - tkI bs b + gvI b≤40:=by simp only [w5,CZ]at hc;omega
   obtain⟨g1,g2⟩:=anN hf r (k + 1) _ (acc++ [n - tkI bs b + gvI b]) hb
   simp only [hgt,hc,cond_true,ci,h1]
   refine⟨fun m out h=> ?_,g2⟩
   obtain⟨q1,q2⟩:=g1 m out h
   refine⟨?_,q2⟩
   rw [q1];simp;omega
  |false=>
   obtain⟨j,hj,h1⟩:=(hf b n acc hn).2 hc
   simp only [hgt,hc,cond_false,ci,h1]
   exact⟨fun m out h=>(by cases h),fun _=>hj⟩
def oW(c d e:Int)(g:aov)(b:Int×Int):(Int×arG)→Nat ⊕ (Int×arG)
 |(a,f)=>(bif(!wm c d e b.1 b.2 g)then(.inl 0)else(bif(bif ltI a (fa b.1 b.2 g)then true else ltI 40 (v7 .i64 (v7 .i64 (a - (fa b.1 b.2 g)) + jW b.1)))then(.inl 1)else(.inr ((v7 .i64 (v7 .i64 (a - (fa b.1 b.2 g)) + jW b.1)),(f++ [v7 .i64 (v7 .i64 (a - (fa b.1 b.2 g)) + jW b.1)])))))
def oj(b c d:Int)(f:aov)(g:arD)(i:Nat):(Int×arG)→kz
 |(a,e)=>((i:Int),a,b,c,d,e,f,g)
def Jp:kz→Int×arG
 |(_,a,_,_,_,b,_,_)=>(a,b)
theorem afy(e f g:Int)(k:aov)(l:arD)(c:Int)(j:arG)(hn:l.length≤9223372036854775807)(hst:l.length≤2000)(hbs:k.length≤2000)(xa:(0≤c∧c≤40)∧j.length=0):
  dg.fin ((0:Int),c,e,f,g,j,k,l)=true∧dg.res ((0:Int),c,e,f,g,j,k,l)=((ci (oW e f g k) 2 l 0 (c,j)).1,(oj e f g k l) (ci (oW e f g k) 2 l 0 (c,j)).2.1 (ci (oW e f g k) 2 l 0 (c,j)).2.2):=by
 have mO:=dg.along (oj e f g k l) Jp (oW e f g k) 2 (fun i a=>(0≤a.1∧a.1≤40)∧a.2.length=i) l (c,j) xa (by simp only [dg,oj];omega) (fun i b a hb hI=> ?_) (fun a hI=> ?_)
 ·exact mO
 ·obtain⟨c,j⟩:=a
  have eG:=(j9.1 hb).1
  have px: ∀ d,v6 l[i]? d=b:=fun d=>by rw [hb];rfl
  have hw:=Fc eG hn
  have jY:ltI (i:Int) (l.length:Int)=true:=cI (by omega)
  have PX:leI (0:Int) (i:Int)=true:=aS (by omega)
  have wR:ltN i l.length=true:=dE eG
  refine⟨?_,?_,?_,?_⟩
  ·have hg2:eP (i:Int) l=b:=by simp only [eP,w7];exact px _
   have hl:=hI.2
   have h6:leN (j.length + 1) 9223372036854775807=true:=aG (by simp only at hl;omega)
   have h7:leN ((j.length + 1) * 8) 140737488355328=true:=aG (by simp only at hl;omega)
   have h8:Qr e f g k b=true→wP b.1 b.2 k=true:=apa hbs
   simp only [rz,zu,zw,zx,Ew,Ez,EA,xw,dg,LT.nds,allT,oj,jY,PX,wR,hg2,w8,h6,h7,w7,cond_true,cond_false]
   change (bif !Qr e f g k b then _ else _)=true
   cases hf:Qr e f g k b with
   |false=>rfl
   |true=>simp [h8 hf]
  ·simp [eP,xJ,og,rz,zu,zw,zx,Ew,Ey,Ez,EA,EB,EC,Dm,xw,dg,LT.each,oj,Jp,hw]
  ·have hg2:eP (i:Int) l=b:=by simp only [eP,w7];exact px _
   simp only [rz,zx,Ey,EB,EC,Dm,xJ,og,xw,dg,LT.fn,oj,Jp,oW,w7,jY,hg2,cond_true]
  ·have hk:=hI.1
   simp only at hk
   have hs:=asn (i:=e) (v:=f) (o:=g) (bs:=k) (b:=b) (acc:=j) hk
   intro a' hf
   have hf:amF e f g k b (c,j)= .inr a':=hf
   rw [hs]at hf
   have ht:=aaz k b
   have hg:=ah3 b
   cases hq:Qr e f g k b with
   |false=>rw [hq]at hf;cases hf
   |true=>
    cases hq2:(leI (tkI k b) c&&leI (c - tkI k b + gvI b) 40)with
    |false=>rw [hq,hq2]at hf;cases hf
    |true=>
     rw [hq,hq2]at hf;cases hf
     simp only [w5,CZ]at hq2
     exact⟨by simp only;omega,by have hl:=hI.2;simp only at hl;simp [hl]⟩
 ·obtain⟨c,j⟩:=a
  simp [eP,xJ,og,rz,zu,zw,zx,Ew,Ey,Ez,EA,EB,EC,Dm,xw,dg,LT.out,oj]
def YL(i v o:Int)(bs:List TM)(st:List IN):Bool:=match hgt i v o bs st 0 []with | some (m,_)=>m==0 | none=>false
def aeL(i v o:Int)(bs:List TM)(st:List IN):arG:=match hgt i v o bs st 0 []with | some (_,out)=>out | none=> []
def Sl(bs:List TM):Bool:=bs.all fun t=>xK t.1 t.2.1 t.2.2
def apy(i v o:Int)(bs:List TM)(st:List IN):Bool:=inR i 0 20&&(inR v 0 20&&(inR o 0 20&&(leN bs.length 2000&&leN st.length 2000)))
def cA(i v o:Int)(bs:List TM)(st:List IN):Bool:=apy i v o bs st&&(Sl bs&&YL i v o bs st)
def afu(bs:List TM):Bool:=leN bs.length 9223372036854775807&&bs.all fun t=>leN t.2.1.size 9223372036854775807
theorem UR{bs:List TM}:afu bs=true↔bs.length≤9223372036854775807∧ ∀ t∈bs,t.2.1.size≤9223372036854775807:=by
 simp only [afu,w5,fc,List.all_eq_true]
theorem II{i v o:Int}{bs:List TM}{st:List IN}:apy i v o bs st=true↔(0≤i∧i≤20)∧(0≤v∧v≤20)∧(0≤o∧o≤20)∧bs.length≤2000∧st.length≤2000:=by
 simp only [apy,w5,wW,fc]
theorem asR(i v o:Int)(bs:List TM)(st:List IN)(hst:st.length≤2000)(hbs:bs.length≤2000):
  Kp i v o bs st=YL i v o bs st∧RM i v o bs st=aeL i v o bs st∧Kq i v o bs st=true:=by
 obtain⟨w1,w2⟩:=afy i v o bs st 0 [] (by omega) hst hbs ⟨⟨by omega,by omega⟩,rfl⟩
 have hw:=anN (i:=i) (v:=v) (o:=o) (bs:=bs) (f:=oW i v o bs) (e:=2) (fun b n acc hn=>by
  have h:=asn (i:=i) (v:=v) (o:=o) (bs:=bs) (b:=b) (n:=n) (acc:=acc) hn
  have h:oW i v o bs b (n,acc)=_:=h
  rw [h]
  refine⟨fun hc=> ?_,fun hc=> ?_⟩
  ·simp only [w5]at hc
   simp [hc.1,hc.2.1,hc.2.2]
  ·cases hq:Qr i v o bs b with
   |false=>exact⟨0,by omega,rfl⟩
   |true=>
    rw [hq,Bool.true_and]at hc
    exact⟨1,by omega,by rw [hc];rfl⟩) st 0 0 [] ⟨by omega,by omega⟩
 simp only [Kp,RM,Kq,CM,PL,PM,PN,w1,allT,cond_true]
 rw [w2]
 simp only [YL,aeL]
 cases hh:hgt i v o bs st 0 []with
 |none=>
  have:=hw.2 hh
  generalize ci (oW i v o bs) 2 st 0 (0,[])=r at this ⊢
  obtain⟨j,k,a⟩:=r
  have:j=0∨j=1:=by simp only at this;omega
  rcases this with rfl | rfl <;> simp [Nat.beq]
 |some r=>
  obtain⟨m,out⟩:=r
  have:=(hw.1 m out hh).1
  rw [this]
  simp [Nat.beq,oj]
def amE(i v o:Int)(bs:List TM)(b:IN):Int×arG→Nat ⊕ (Int×arG)
 |(n,acc)=>bif(bif ltI b.2 0 then true else leI (gu i v o b.1 bs) b.2)then .inl 0 else
   bif ltI n (bd b.1 b.2 bs)then .inl 1 else
   bif ltI 40 (IntKind.i64.wrap (n + IntKind.i64.wrap (bU b.1 - bd b.1 b.2 bs)))then .inl 2 else
   .inr (IntKind.i64.wrap (n + IntKind.i64.wrap (bU b.1 - bd b.1 b.2 bs)),acc++ [IntKind.i64.wrap (n + IntKind.i64.wrap (bU b.1 - bd b.1 b.2 bs))])
theorem asl{i v o:Int}{bs:List TM}{b:IN}{n:Int}{acc:arG}(hr:(0≤i∧i≤20)∧(0≤v∧v≤20)∧0≤o∧o≤20)(hl:bs.length≤2000)(hn:0≤n∧n≤40):
  amE i v o bs b (n,acc)=bif !Qr i v o bs b then .inl 0 else bif !leI (tkI bs b) n then .inl 1 else bif !leI (n - tkI bs b + gvI b) 40 then .inl 2 else .inr (n - tkI bs b + gvI b,acc++ [n - tkI bs b + gvI b]):=by
 have ht:=aaz bs b
 have hg:=ah3 b
 have e1:bd b.1 b.2 bs=tkI bs b:=rfl
 have e2:bU b.1=gvI b:=rfl
 have w1:IntKind.i64.wrap (gvI b - tkI bs b)=gvI b - tkI bs b:=aR (by omega) (by omega)
 have w2:IntKind.i64.wrap (n + (gvI b - tkI bs b))=n - tkI bs b + gvI b:=by rw [aR (by omega) (by omega)];omega
 simp only [amE,aqv hr.1 hr.2.1 hr.2.2 hl,e1,e2,w1,w2]
 have n1:ltI n (tkI bs b)= !leI (tkI bs b) n:=by
  by_cases h1:n < tkI bs b
  ·rw [cI h1,acQ (by omega)];rfl
  ·rw [yV (by omega),aS (by omega)];rfl
 have n2:ltI 40 (n - tkI bs b + gvI b)= !leI (n - tkI bs b + gvI b) 40:=by
  by_cases h1:40 < n - tkI bs b + gvI b
  ·rw [cI h1,acQ (by omega)];rfl
  ·rw [yV (by omega),aS (by omega)];rfl
 rw [n1,n2]
def cw(c d e:Int)(g:aov)(b:Int×Int):(Int×arG)→Nat ⊕ (Int×arG)
 |(a,f)=>(bif(bif ltI b.2 0 then true else leI (gu c d e b.1 g) b.2)then(.inl 0)else(bif(ltI a (bd b.1 b.2 g))then(.inl 1)else(bif(ltI 40 (v7 .i64 (a + v7 .i64 (bU b.1 - (bd b.1 b.2 g)))))then(.inl 2)else(.inr ((v7 .i64 (a + v7 .i64 (bU b.1 - (bd b.1 b.2 g)))),(f++ [v7 .i64 (a + v7 .i64 (bU b.1 - (bd b.1 b.2 g)))]))))))
def cp(b:arD)(c d e:Int)(g:aov)(i:Nat):(Int×arG)→bv
 |(a,f)=>((i:Int),(↑b.length:Int),a,b,c,d,e,f,g)
def oQ:bv→Int×arG
 |(_,_,a,_,_,_,_,b,_)=>(a,b)
theorem Iy(e:arD)(f g j:Int)(l:aov)(c:Int)(k:arG)(hn:e.length≤9223372036854775807)(hst:e.length≤2000)(hbs:l.length≤2000)(hr:(0≤f∧f≤20)∧(0≤g∧g≤20)∧0≤j∧j≤20)(xa:(0≤c∧c≤40)∧k.length=0):
  ap.fin ((0:Int),(↑e.length:Int),c,e,f,g,j,k,l)=true∧ap.res ((0:Int),(↑e.length:Int),c,e,f,g,j,k,l)=((ci (cw f g j l) 3 e 0 (c,k)).1,(cp e f g j l) (ci (cw f g j l) 3 e 0 (c,k)).2.1 (ci (cw f g j l) 3 e 0 (c,k)).2.2):=by
 have mO:=ap.along (cp e f g j l) oQ (cw f g j l) 3 (fun i a=>(0≤a.1∧a.1≤40)∧a.2.length=i) e (c,k) xa (by simp only [ap,cp];omega) (fun i b a hb hI=> ?_) (fun a hI=> ?_)
 ·exact mO
 ·obtain⟨c,k⟩:=a
  have eG:=(j9.1 hb).1
  have px: ∀ d,v6 e[i]? d=b:=fun d=>by rw [hb];rfl
  have hw:=Fc eG hn
  have jY:ltI (i:Int) (e.length:Int)=true:=cI (by omega)
  have PX:leI (0:Int) (i:Int)=true:=aS (by omega)
  have wR:ltN i e.length=true:=dE eG
  refine⟨?_,?_,?_,?_⟩
  ·have hg2:aB (i:Int) e=b:=by simp only [aB,w7];exact px _
   have hl:=hI.2
   have h6:leN (k.length + 1) 9223372036854775807=true:=aG (by simp only at hl;omega)
   have h7:leN ((k.length + 1) * 8) 140737488355328=true:=aG (by simp only at hl;omega)
   have h8:Qr f g j l b=true→iZ b.1 b.2 l=true:=apa hbs
   simp only [fT,km,kn,ko,fU,kq,ku,kv,fL,ap,LT.nds,allT,cp,jY,PX,wR,hg2,w8,h6,h7,w7,aqv hr.1 hr.2.1 hr.2.2 hbs,cond_true,cond_false]
   cases hf:Qr f g j l b with
   |false=>rfl
   |true=>simp [h8 hf]
  ·simp [aB,fE,cn,fT,km,kn,ko,fU,kq,kr,kt,ku,kv,ka,kb,ke,fL,ap,LT.each,cp,oQ,hw]
  ·have hg2:aB (i:Int) e=b:=by simp only [aB,w7];exact px _
   simp only [fT,fU,kr,kt,ka,kb,ke,fE,cn,fL,ap,LT.fn,cp,oQ,cw,w7,jY,hg2,cond_true]
  ·have hk:=hI.1
   simp only at hk
   have hs:=asl (i:=f) (v:=g) (o:=j) (bs:=l) (b:=b) (acc:=k) hr hbs hk
   intro a' hf
   have hf:amE f g j l b (c,k)= .inr a':=hf
   rw [hs]at hf
   have ht:=aaz l b
   have hg:=ah3 b
   cases hq:Qr f g j l b with
   |false=>rw [hq]at hf;cases hf
   |true=>
    cases hq2:leI (tkI l b) c with
    |false=>rw [hq,hq2]at hf;cases hf
    |true=>
     cases hq3:leI (c - tkI l b + gvI b) 40 with
     |false=>rw [hq,hq2,hq3]at hf;cases hf
     |true=>
      rw [hq,hq2,hq3]at hf;cases hf
      have hq2:=CZ.1 hq2
      have hq3:=CZ.1 hq3
      exact⟨by simp only;omega,by have hl:=hI.2;simp only at hl;simp [hl]⟩
 ·obtain⟨c,k⟩:=a
  simp [aB,fE,cn,fT,km,kn,ko,fU,kq,kr,kt,ku,kv,ka,kb,ke,fL,ap,LT.out,cp]
theorem asA(i v o:Int)(bs:List TM)(st:List IN)(hr:(0≤i∧i≤20)∧(0≤v∧v≤20)∧0≤o∧o≤20)(hst:st.length≤2000)(hbs:bs.length≤2000):
  mj i v o bs st=YL i v o bs st∧qG i v o bs st=aeL i v o bs st∧ml i v o bs st=true:=by
 obtain⟨w1,w2⟩:=Iy st i v o bs 0 [] (by omega) hst hbs hr ⟨⟨by omega,by omega⟩,rfl⟩
 have hw:=anN (i:=i) (v:=v) (o:=o) (bs:=bs) (f:=cw i v o bs) (e:=3) (fun b n acc hn=>by
  have h:=asl (i:=i) (v:=v) (o:=o) (bs:=bs) (b:=b) (n:=n) (acc:=acc) hr hbs hn
  have h:cw i v o bs b (n,acc)=_:=h
  rw [h]
  refine⟨fun hc=> ?_,fun hc=> ?_⟩
  ·simp only [w5]at hc
   simp [hc.1,hc.2.1,hc.2.2]
  ·cases hq:Qr i v o bs b with
   |false=>exact⟨0,by omega,rfl⟩
   |true=>
    rw [hq,Bool.true_and]at hc
    cases hq2:leI (tkI bs b) n with
    |false=>exact⟨1,by omega,rfl⟩
    |true=>rw [hq2,Bool.true_and]at hc;exact⟨2,by omega,by rw [hc];rfl⟩) st 0 0 [] ⟨by omega,by omega⟩
 simp only [mj,qG,ml,eI,qe,qf,qg,qh,w1,allT,cond_true]
 rw [w2]
 simp only [YL,aeL]
 cases hh:hgt i v o bs st 0 []with
 |none=>
  have:=hw.2 hh
  generalize ci (cw i v o bs) 3 st 0 (0,[])=r at this ⊢
  obtain⟨j,k,a⟩:=r
  have:j=0∨j=1∨j=2:=by simp only at this;omega
  rcases this with rfl | rfl | rfl <;> simp [Nat.beq]
 |some r=>
  obtain⟨m,out⟩:=r
  have:=(hw.1 m out hh).1
  rw [this]
  simp [Nat.beq,cp]
def FO(b:Int×(asv×Int)):(Unit)→Nat ⊕ (Unit)
 |_=>(bif(!xK b.1 (b.2.1) b.2.2)then(.inl 0)else(.inr ()))
def wq(a b c:Int)(d:aov)(e:arD)(i:Nat):(Unit)→pI
 |_=>((i:Int),a,b,c,d,e)
def QP:pI→Unit
 |(_,_,_,_,_,_)=>()
theorem ak9(c e f:Int)(g:aov)(j:arD) (hn:g.length≤9223372036854775807) (hA: ∀ t∈g,t.2.1.size≤9223372036854775807):
  ij.fin ((0:Int),c,e,f,g,j)=true∧ij.res ((0:Int),c,e,f,g,j)=((ci (FO) 1 g 0 ()).1,(wq c e f g j) (ci (FO) 1 g 0 ()).2.1 (ci (FO) 1 g 0 ()).2.2):=by
 have mO:=ij.along (wq c e f g j) QP (FO) 1 (fun _ _=>True) g () (by trivial) (by simp only [ij,wq];omega) (fun i b a hb hI=> ?_) (fun a hI=> ?_)
 ·exact mO
 ·obtain⟨⟩:=a
  have eG:=(j9.1 hb).1
  have px: ∀ d,v6 g[i]? d=b:=fun d=>by rw [hb];rfl
  have hw:=Fc eG hn
  have jY:ltI (i:Int) (g.length:Int)=true:=cI (by omega)
  have PX:leI (0:Int) (i:Int)=true:=aS (by omega)
  have wR:ltN i g.length=true:=dE eG
  refine⟨?_,?_,?_,?_⟩
  ·have hg2:oI (i:Int) g=b:=by simp only [oI,w7];exact px _
   have h6:leN b.2.1.size 9223372036854775807=true:=aG (hA b (List.mem_of_getElem? hb))
   simp [Bu,LZ,Ma,Mb,Ge,Mc,DW,ij,LT.nds,allT,wq,jY,PX,wR,hg2,h6]
  ·simp [oI,Bu,LZ,Ma,Mb,Ge,Mc,DW,ij,LT.each,wq,QP,hw]
  ·have hg2:oI (i:Int) g=b:=by simp only [oI,w7];exact px _
   simp only [Bu,Ge,DW,ij,LT.fn,wq,QP,FO,w7,jY,hg2,cond_true]
  ·exact fun _ _=>trivial
 ·obtain⟨⟩:=a
  simp [oI,Bu,LZ,Ma,Mb,Ge,Mc,DW,ij,LT.out,wq]
def jr(b:Int×(asv×Int)):(Unit)→Nat ⊕ (Unit)
 |_=>(bif(Jh b.1 (b.2.1) b.2.2)then(.inl 0)else(.inr ()))
def df(a:aov)(i:Nat):(Unit)→bX
 |_=>((i:Int),(↑a.length:Int),a)
def rf:bX→Unit
 |(_,_,_)=>()
theorem MA(c:aov) (hn:c.length≤9223372036854775807):
  aK.fin ((0:Int),(↑c.length:Int),c)=true∧aK.res ((0:Int),(↑c.length:Int),c)=((ci (jr) 1 c 0 ()).1,(df c) (ci (jr) 1 c 0 ()).2.1 (ci (jr) 1 c 0 ()).2.2):=by
 have mO:=aK.along (df c) rf (jr) 1 (fun _ _=>True) c () (by trivial) (by simp only [aK,df];omega) (fun i b a hb hI=> ?_) (fun a hI=> ?_)
 ·exact mO
 ·obtain⟨⟩:=a
  have eG:=(j9.1 hb).1
  have px: ∀ d,v6 c[i]? d=b:=fun d=>by rw [hb];rfl
  have hw:=Fc eG hn
  have jY:ltI (i:Int) (c.length:Int)=true:=cI (by omega)
  have PX:leI (0:Int) (i:Int)=true:=aS (by omega)
  have wR:ltN i c.length=true:=dE eG
  refine⟨?_,?_,?_,?_⟩
  ·simp [dL,jx,jy,jz,jA,jB,jC,jb,aK,LT.nds,allT,df,jY,PX,wR,px]
  ·simp [dL,jx,jy,jz,jA,jB,jC,jb,aK,LT.each,df,rf,hw]
  ·simp only [dL,jx,jy,jz,jA,jB,jC,jb,aK,LT.fn,df,rf,jr,w7,jY,PX,wR,px,cond_true,j8]
  ·exact fun _ _=>trivial
 ·obtain⟨⟩:=a
  simp [dL,jx,jy,jz,jA,jB,jC,jb,aK,LT.out,df]
theorem apX(bs:List TM):(bs.any fun t=> !xK t.1 t.2.1 t.2.2)= !Sl bs:=by simp [Sl,List.all_eq_not_any_not]
theorem aqM(i v o:Int)(bs:List TM)(st:List IN):Cj i v o bs st= !apy i v o bs st:=by
 have e1: ∀ x:Int,aZ x 0 20=inR x 0 20:=fun x=>by simp only [aZ,Tb]
 have e2: ∀ n:Nat,ltI 2000 (n:Int)= !leN n 2000:=fun n=>by
  by_cases h:n≤2000
  ·rw [aG h,yV (by omega)];rfl
  ·rw [av3 (by omega),cI (by omega)];rfl
 simp only [Cj,apy,e1,e2]
 cases inR i 0 20 <;> cases inR v 0 20 <;> cases inR o 0 20 <;> cases leN bs.length 2000 <;> cases leN st.length 2000 <;> rfl
theorem atl(i v o:Int)(bs:List TM)(st:List IN)(h:afu bs=true):aaj i v o bs st=cA i v o bs st∧aak i v o bs st=true:=by
 obtain⟨hn,hA⟩:=UR.1 h
 simp only [aaj,aak,aqM,cA]
 cases hr:apy i v o bs st with
 |false=>simp [allT]
 |true=>
  obtain⟨h1,h2,h3,h4,h5⟩:=II.1 hr
  obtain⟨q1,q2,q3⟩:=asR i v o bs st h5 h4
  obtain⟨w1,w2⟩:=ak9 i v o bs st hn hA
  rw [oE (P:=fun t=> !xK t.1 t.2.1 t.2.2) (j:=0) (fun t=>rfl),apX]at w2
  simp only [Xj,Xk,w1,w2,q1,q3,allT]
  cases Sl bs <;> simp [Nat.beq]
theorem as8(i v o:Int)(bs:List TM)(st:List IN):ZU i v o bs st=cA i v o bs st∧ZV i v o bs st=true:=by
 have e0:Lh i v o bs st=Cj i v o bs st:=by simp only [Lh,Cj,dQ,aZ]
 simp only [ZU,ZV,e0,aqM,cA]
 cases hr:apy i v o bs st with
 |false=>simp [allT]
 |true=>
  obtain⟨h1,h2,h3,h4,h5⟩:=II.1 hr
  obtain⟨q1,q2,q3⟩:=asA i v o bs st ⟨h1,h2,h3⟩ h5 h4
  obtain⟨w1,w2⟩:=MA bs (by omega)
  rw [oE (P:=fun t=> !xK t.1 t.2.1 t.2.2) (j:=0) (fun t=>rfl),apX]at w2
  simp only [nG,rI,ut,uu,oH,w1,w2,q1,q3,allT]
  cases Sl bs with
  |true=>simp [Nat.beq,show leI 0 (-1)=false from rfl]
  |false=>simp [Nat.beq,df];intro h;omega
def YH:awE
 | [.one ⟨true,[.val (.int .i64 a),.val (.int .i64 b),.val (.int .i64 c),.ref 0,.ref 1]⟩],[.row false 122 (.pair (.int .i64) (.pair (.str) (.int .i64))) d,.row false 83 (.pair (.int .i64) (.int .i64)) e]=>some ⟨.tup [⟨false,[.ref 2]⟩,⟨false,[.val (.bool (YL a b c d e))]⟩],[.row false 122 ab5 d,.row false 83 aeK e],[.row true 2 aox (aeL a b c d e)],[leN e.length 2000&&leN d.length 2000]⟩
 |_,_=>none
def QH:PF prog:=PF.alt vQ YH (by
 intro args es o h bA;unfold YH at h;split at h
 ·rename_i a b c d e
  cases h
  have bA:=fv bA
  have hh:=asR a b c d e (fc.1 ((w5 _ _).mp bA).1) (fc.1 ((w5 _ _).mp bA).2)
  obtain⟨e0,e1,en⟩:=hh
  exact kj rfl (eT en) (by simp only [e0] <;> rfl) rfl (by simp only [e1] <;> rfl)
 ·cases h)
def yE:awE
 | [.one ⟨true,[.val (.int .i64 a),.val (.int .i64 b),.val (.int .i64 c),.ref 0,.ref 1]⟩],[.row false 122 (.pair (.int .i64) (.pair (.str) (.int .i64))) d,.row false 83 (.pair (.int .i64) (.int .i64)) e]=>some ⟨.tup [⟨false,[.ref 2]⟩,⟨false,[.val (.bool (YL a b c d e))]⟩],[.row false 122 ab5 d,.row false 83 aeK e],[.row true 2 aox (aeL a b c d e)],[apy a b c d e]⟩
 |_,_=>none
def qH:PF prog:=PF.alt mq yE (by
 intro args es o h bA;unfold yE at h;split at h
 ·rename_i a b c d e
  cases h
  have bA:=fv bA
  have hh:=(fun h=>have h:=II.1 h;asA a b c d e ⟨h.1,h.2.1,h.2.2.1⟩ h.2.2.2.2 h.2.2.2.1) bA
  obtain⟨e0,e1,en⟩:=hh
  exact kj rfl (eT en) (by simp only [e0] <;> rfl) rfl (by simp only [e1] <;> rfl)
 ·cases h)
def agX:awE
 | [.one ⟨true,[.val (.int .i64 a),.val (.int .i64 b),.val (.int .i64 c),.ref 0,.ref 1]⟩],[.row false 122 (.pair (.int .i64) (.pair (.str) (.int .i64))) d,.row false 83 (.pair (.int .i64) (.int .i64)) e]=>some ⟨.one ⟨false,[.val (.bool (cA a b c d e))]⟩,[.row false 122 ab5 d,.row false 83 aeK e],[],[afu d]⟩
 |_,_=>none
def fP:PF prog:=PF.alt an4 agX (by
 intro args es o h bA;unfold agX at h;split at h
 ·rename_i a b c d e
  cases h
  have bA:=fv bA
  have hh:=atl a b c d e bA
  obtain⟨e0,en⟩:=hh
  exact kj rfl (eT en) (by simp only [e0] <;> rfl) rfl rfl
 ·cases h)
def agV:awE
 | [.one ⟨true,[.val (.int .i64 a),.val (.int .i64 b),.val (.int .i64 c),.ref 0,.ref 1]⟩],[.row false 122 (.pair (.int .i64) (.pair (.str) (.int .i64))) d,.row false 83 (.pair (.int .i64) (.int .i64)) e]=>some ⟨.one ⟨false,[.val (.bool (cA a b c d e))]⟩,[.row false 122 ab5 d,.row false 83 aeK e],[],[]⟩
 |_,_=>none
def nE:PF prog:=PF.alt an0 agV (by
 intro args es o h bA;unfold agV at h;split at h
 ·rename_i a b c d e
  cases h
  have hh:=as8 a b c d e
  obtain⟨e0,en⟩:=hh
  exact kj rfl (eT en) (by simp only [e0] <;> rfl) rfl rfl
 ·cases h)
def ej(bs:List TM)(k:Nat):TM:=v6 bs[k]? ((0:Int),ByteArray.empty,(0:Int))
def stAt(ss:List BS3)(k:Nat):BS3:=v6 ss[k]? ((0:Int),(0:Int),(0:Int))
def possAt(bs:List TM)(ss:List BS3)(k:Nat):Bool:=possB (ej bs k).1 (ej bs k).2.2 (stAt ss k).1 (stAt ss k).2.1 (stAt ss k).2.2
def lB(v:Int)(bs:List TM)(xs:arG)(ss:List BS3):Bool:=((ss.length:Int)==(bs.length:Int))&&(bitsB v xs&&(List.range bs.length).all fun k=>possAt bs ss k)
def BI(a:aov)(c:aqe)(b:Nat):(Unit)→Nat ⊕ (Unit)
 |_=>(bif(!cX ((v6 a[b]? ((0:Int),ByteArray.empty,(0:Int))).1) ((v6 a[b]? ((0:Int),ByteArray.empty,(0:Int))).2.2) ((v6 c[b]? ((0:Int),(0:Int),(0:Int))).1) (((v6 c[b]? ((0:Int),(0:Int),(0:Int))).2).1) ((v6 c[b]? ((0:Int),(0:Int),(0:Int))).2.2))then(.inl 0)else(.inr ()))
def td(a b c:Int)(d:aov)(e:arD)(f:arG)(g:aqe)(i:Nat):(Unit)→ny
 |_=>((i:Int),a,b,c,d,e,f,g)
def Ni:ny→Unit
 |(_,_,_,_,_,_,_,_)=>()
theorem ai6(c d e:Int)(f:aov)(g:arD)(j:arG)(k:aqe) (hn:f.length≤9223372036854775807) (he:k.length=f.length):
  fk.fin ((0:Int),c,d,e,f,g,j,k)=true∧fk.res ((0:Int),c,d,e,f,g,j,k)=((ci (BI f k) 1 (List.range f.length) 0 ()).1,(td c d e f g j k) (ci (BI f k) 1 (List.range f.length) 0 ()).2.1 (ci (BI f k) 1 (List.range f.length) 0 ()).2.2):=by
 have mO:=fk.along (td c d e f g j k) Ni (BI f k) 1 (fun _ _=>True) (List.range f.length) () (by trivial) (by simp only [fk,td,List.length_range];omega) (fun i b a hb hI=> ?_) (fun a hI=> ?_)
 ·exact mO
 ·obtain⟨⟩:=a
  obtain⟨rfl,eG⟩:=Ti hb
  have hw:IntKind.i64.wrap ((b:Int) + 1)=((b + 1:Nat):Int):=by rw [aR (by omega) (by omega)];omega
  have jY:ltI (b:Int) (f.length:Int)=true:=cI (by omega)
  have PX:leI (0:Int) (b:Int)=true:=aS (by omega)
  have wR:ltN b f.length=true:=dE (by omega)
  refine⟨?_,?_,?_,?_⟩
  ·simp [wD,sV,yw,yx,CQ,CR,CS,CT,CU,Ao,fk,LT.nds,allT,td,jY,PX,wR,he]
  ·simp [wD,sV,yw,yx,CQ,CR,CS,CT,CU,Ao,fk,LT.each,td,Ni,hw,he]
  ·simp only [wD,sV,yw,yx,CQ,CR,CS,CT,CU,Ao,fk,LT.fn,td,Ni,BI,w7,jY,cond_true]
  ·exact fun _ _=>trivial
 ·obtain⟨⟩:=a
  simp [wD,sV,yw,yx,CQ,CR,CS,CT,CU,Ao,fk,LT.out,td,List.length_range]
def fR(a:aov)(c:aqe)(b:Nat):(Unit)→Nat ⊕ (Unit)
 |_=>(bif(!zE ((v6 a[b]? ((0:Int),ByteArray.empty,(0:Int))).1) ((v6 a[b]? ((0:Int),ByteArray.empty,(0:Int))).2.2) ((v6 c[b]? ((0:Int),(0:Int),(0:Int))).1) (((v6 c[b]? ((0:Int),(0:Int),(0:Int))).2).1) ((v6 c[b]? ((0:Int),(0:Int),(0:Int))).2.2))then(.inl 0)else(.inr ()))
def db(a:aov)(b:arG)(c:aqe)(i:Nat):(Unit)→bw
 |_=>((i:Int),(↑a.length:Int),a,b,c)
def oR:bw→Unit
 |(_,_,_,_,_)=>()
theorem Iz(c:aov)(d:arG)(e:aqe) (hn:c.length≤9223372036854775807) (he:e.length=c.length):
  aC.fin ((0:Int),(↑c.length:Int),c,d,e)=true∧aC.res ((0:Int),(↑c.length:Int),c,d,e)=((ci (fR c e) 1 (List.range c.length) 0 ()).1,(db c d e) (ci (fR c e) 1 (List.range c.length) 0 ()).2.1 (ci (fR c e) 1 (List.range c.length) 0 ()).2.2):=by
 have mO:=aC.along (db c d e) oR (fR c e) 1 (fun _ _=>True) (List.range c.length) () (by trivial) (by simp only [aC,db,List.length_range];omega) (fun i b a hb hI=> ?_) (fun a hI=> ?_)
 ·exact mO
 ·obtain⟨⟩:=a
  obtain⟨rfl,eG⟩:=Ti hb
  have hw:IntKind.i64.wrap ((b:Int) + 1)=((b + 1:Nat):Int):=by rw [aR (by omega) (by omega)];omega
  have jY:ltI (b:Int) (c.length:Int)=true:=cI (by omega)
  have PX:leI (0:Int) (b:Int)=true:=aS (by omega)
  have wR:ltN b c.length=true:=dE (by omega)
  refine⟨?_,?_,?_,?_⟩
  ·simp [dP,da,fV,ea,fW,fX,fY,fZ,gc,gd,fM,aC,LT.nds,allT,db,jY,PX,wR,he]
  ·simp [dP,da,fV,ea,fW,fX,fY,fZ,gc,gd,fM,aC,LT.each,db,oR,hw,he]
  ·simp only [dP,da,fV,ea,fW,fX,fY,fZ,gc,gd,fM,aC,LT.fn,db,oR,fR,w7,jY,cond_true]
  ·exact fun _ _=>trivial
 ·obtain⟨⟩:=a
  simp [dP,da,fV,ea,fW,fX,fY,fZ,gc,gd,fM,aC,LT.out,db,List.length_range]
theorem ao0{α:Type}{g h:α→Bool}: ∀ (l:List α),(∀ k∈l,g k=h k)→(l.any fun b=> !g b)= !l.all h
 | [],_=>rfl
 |a::l,hg=>by
  rw [List.any_cons,List.all_cons,hg a (by simp),ao0 l (fun k hk=>hg k (by simp [hk]))]
  cases h a <;> simp
theorem ato(i v o:Int)(bs:List TM)(st:List IN)(xs:arG)(ss:List BS3)(h:(leN xs.length 9223372036854775807&&leN bs.length 9223372036854775807)=true):
  Oy i v o bs st xs ss=lB v bs xs ss∧Oz i v o bs st xs ss=true:=by
 simp only [w5]at h
 have hn:=fc.1 h.2
 by_cases hl:ss.length=bs.length
 ·obtain⟨w1,w2⟩:=ai6 i v o bs st xs ss hn hl
  rw [oE (P:=fun k=> !possAt bs ss k) (j:=0) (fun k=>rfl),ao0 (g:=possAt bs ss) (h:=possAt bs ss) _ (fun k _=>rfl)]at w2
  have a0:yu bs ss=false:=by simp [yu,hl]
  simp only [Oy,Oz,TK,a0,w1,w2,h.1,allT,lB,hl]
  cases bitsB v xs <;> cases (List.range bs.length).all (possAt bs ss) <;> simp [Nat.beq]
 ·have hl2: ¬ ((ss.length:Int)=(bs.length:Int)):=by omega
  have a0:yu bs ss=true:=by simp [yu,hl2]
  have e:((ss.length:Int)==(bs.length:Int))=false:=by simpa using hl2
  simp [Oy,Oz,a0,allT,lB,e]
theorem as9(v:Int)(bs:List TM)(xs:arG)(ss:List BS3)(h:(leN xs.length 9223372036854775807&&(leN bs.length 9223372036854775807&&Sl bs))=true):
  mn v xs ss bs=lB v bs xs ss∧mo v xs ss bs=true:=by
 simp only [w5]at h
 have hn:=fc.1 h.2.1
 have hB: ∀ t∈bs,xK t.1 t.2.1 t.2.2=true:=List.all_eq_true.1 h.2.2
 by_cases hl:ss.length=bs.length
 ·obtain⟨w1,w2⟩:=Iz bs xs ss hn hl
  rw [oE (P:=fun k=> !zE (ej bs k).1 (ej bs k).2.2 (stAt ss k).1 (stAt ss k).2.1 (stAt ss k).2.2) (j:=0) (fun k=>rfl),
   ao0 (g:=fun k=>zE (ej bs k).1 (ej bs k).2.2 (stAt ss k).1 (stAt ss k).2.1 (stAt ss k).2.2) (h:=possAt bs ss) _ (fun k hk=>by
    have hk:k < bs.length:=List.mem_range.1 hk
    have hg:ej bs k=bs[k]:=by simp only [ej,List.getElem?_eq_getElem hk];rfl
    have:=hB _ (List.getElem_mem hk)
    rw [← hg]at this
    exact auS (abX this).1)]at w2
  have a0:eJ v xs ss bs= !bitsB v xs:=by simp only [eJ,hl];cases bitsB v xs <;> simp
  simp only [mn,mo,qi,a0,w1,w2,h.1,allT,lB,hl]
  cases bitsB v xs <;> cases (List.range bs.length).all (possAt bs ss) <;> simp [Nat.beq]
 ·have hl2: ¬ ((ss.length:Int)=(bs.length:Int)):=by omega
  have a0:eJ v xs ss bs=true:=by simp only [eJ];cases bitsB v xs <;> simp [hl2]
  have e:((ss.length:Int)==(bs.length:Int))=false:=by simpa using hl2
  simp [mn,mo,a0,allT,lB,e,h.1]
def acO:awE
 | [.one ⟨true,[.val (.int .i64 a),.val (.int .i64 b),.val (.int .i64 c),.ref 0,.ref 1]⟩,.one ⟨true,[.ref 2,.ref 3]⟩],[.row false 122 (.pair (.int .i64) (.pair (.str) (.int .i64))) d,.row false 83 (.pair (.int .i64) (.int .i64)) e,.row false 2 (.int .i64) f,.row false 109 (.pair (.int .i64) (.pair (.int .i64) (.int .i64))) g]=>some ⟨.one ⟨false,[.val (.bool (lB b d f g))]⟩,[.row false 122 ab5 d,.row false 83 aeK e,.row false 2 aox f,.row false 109 abx g],[],[leN f.length 9223372036854775807&&leN d.length 9223372036854775807]⟩
 |_,_=>none
def ud:PF prog:=PF.alt al3 acO (by
 intro args es o h bA;unfold acO at h;split at h
 ·rename_i a b c d e f g
  cases h
  have bA:=fv bA
  have hh:=ato a b c d e f g bA
  obtain⟨e0,en⟩:=hh
  exact kj rfl (eT en) (by simp only [e0] <;> rfl) rfl rfl
 ·cases h)
def yF:awE
 | [.one ⟨true,[.ref 0,.ref 1]⟩,.one ⟨false,[.val (.int .i64 a)]⟩,.one ⟨false,[.ref 2]⟩],[.row false 2 (.int .i64) b,.row false 109 (.pair (.int .i64) (.pair (.int .i64) (.int .i64))) c,.row false 122 (.pair (.int .i64) (.pair (.str) (.int .i64))) d]=>some ⟨.one ⟨false,[.val (.bool (lB a d b c))]⟩,[.row false 2 aox b,.row false 109 abx c,.row false 122 ab5 d],[],[leN b.length 9223372036854775807&&(leN d.length 9223372036854775807&&Sl d)]⟩
 |_,_=>none
def cm:PF prog:=PF.alt Ku yF (by
 intro args es o h bA;unfold yF at h;split at h
 ·rename_i a b c d
  cases h
  have bA:=fv bA
  have hh:=as9 a d b c bA
  obtain⟨e0,en⟩:=hh
  exact kj rfl (eT en) (by simp only [e0] <;> rfl) rfl rfl
 ·cases h)
abbrev nu:=Int×asv×List asv
section
variable (a:Int)(b:asv)(c:List asv)
def yf:Bool:=ltI a (↑c.length:Int)
def Cz:Bool:=leI 0 a
def CA:Bool:=ltN a.toNat c.length
def CB:Bool:=ByteArray.toList (v6 c[v4 a]? ByteArray.empty)==ByteArray.toList b
def CC:Int:=v7 .i64 (a + (1:Int))
end
def agb:nu→List (Nat×SV)
 |(a,b,_)=> [(5,(.one ⟨false,[awF a]⟩)),(0,(.one ⟨false,[.ref 0]⟩)),(1,(.one ⟨false,[.val (.string b)]⟩))]
def af1:nu→List (Nat×Entry)
 |(_,_,a)=> [(0,(.row false 9 arE a))]
def agw:Nat→nu→List (Nat×SV)
 |0,(a,_,_)=> [(4,(.one ⟨false,[awF a]⟩))]
 |_,(_,_,_)=> []
def Am:nu→LT nu
 |(a,b,c)=> .ite (yf a c) (.need [Cz a,yf a c,CA a c] (.ite (CB a b c) (.ext 0 [(0,0)]) (.nrm ((CC a),b,c) [(0,0)]))) (.ext 1 [(0,0)])
def Ns(s:St):Option nu:=do
 let some ⟨none,.one ⟨false,[.val (.int .i64 a)]⟩⟩:=s.look 5|none
 let some ⟨none,.one ⟨false,[.ref 0]⟩⟩:=s.look 0|none
 let some ⟨none,.one ⟨false,[.val (.string b)]⟩⟩:=s.look 1|none
 let some (.row false 9 (.str) c):=s.ent 0|none
 some (a,b,c)
def eB:Lp nu where
 h:=⟨[6,7,8,9,12,13,14,15,16,17,18,4,10,11,5],[0],[],[]⟩
 JL:=agb
 JE:=af1
 XL:=agw
 XE:=fun _=>af1
 q:=fun j=>match j with | 0=> .ret | _=> .exit 0
 tags:= [0,1]
 lt:=Am
 fuel:=fun(a,b,c)=>a.natAbs + b.size + c.length
 fix:=fun(_,b,c) (a,_,_)=>(a,b,c)
 σ:= [(0,0)]
 rd:=Ns
theorem adz:LoopOk prog (fun k=>Nat.blt k Tryz.f62.ntmps) eB.F (bB f62 0):=by
 refine Lp.ok (tbl:= []) (lf:= []) bj eB (by kernel_rfl) (LOk.nil _) (fun _=>rfl) (fun j _=>by unfold eB;match j with | 0=>rfl | _ + 1=>rfl) ?_ ?_ ?_ ?_ (fun _=>rfl) ?_
 ·rintro⟨a,b,c⟩;kernel_rfl
 ·rintro⟨a,b,c⟩;kernel_rfl
 ·intro s x h
  have h:Ns s=some x:=h
  unfold Ns at h
  repeat' split at h
  all_goals cases h
  constructor<;>repeat(first|refine ab (by assumption) rfl ?_|refine aa rfl (by assumption) rfl ?_|exact rfl)
 ·rintro⟨a,b,c⟩;kernel_rfl
 ·rintro⟨a,b,c⟩ z;exact(And.intro (And.intro trivial rfl) trivial)
section
variable (a:asv)(b:List asv)
def Mi:Int×asv×List asv:=((0:Int),a,b)
def IM:Int:=bif Nat.beq ((Lp.res eB (Mi a b)).1) 0 then ((Lp.res eB (Mi a b)).2).1else(-1:Int)
def Ol:Bool:=allT [Lp.fin eB (Mi a b)]
end
def acA:awE
 | [.one ⟨false,[.ref 0]⟩,.one ⟨false,[.val (.string a)]⟩],[.row false 9 (.str) b]=>some ⟨.one ⟨false,[awF (IM a b)]⟩,[.row false 9 arE b],[],[Ol a b]⟩
 |_,_=>none
def zS:PF prog:=PF.ofG prog [] [eB.F] bj 62 f62 func62 (LOk.fnT (l:= [bB f62 0]) (by kernel_rfl) (.cons adz (.nil _))) acA (by
 intro _ _ _ h;unfold acA at h;split at h<;>cases h;kernel_rfl)
abbrev nr:=Int×List asv
section
variable (a:Int)(b:List asv)
def pX:asv:=v6 b[v4 a]? ByteArray.empty
def xZ:Bool:=ltI a (↑b.length:Int)
def Ii:Bool:=leI 0 a
def Ij:Bool:=ltN a.toNat b.length
def Ik:Bool:=tY (pX a b)
def Cp:Bool:= !nb (pX a b)
def Il:Int:=v7 .i64 (a + (1:Int))
end
def af8:nr→List (Nat×SV)
 |(a,_)=> [(5,(.one ⟨false,[awF a]⟩)),(0,(.one ⟨false,[.ref 0]⟩))]
def afY:nr→List (Nat×Entry)
 |(_,a)=> [(0,(.row false 9 arE a))]
def agt:Nat→nr→List (Nat×SV)
 |0,(_,_)=> [(4,(.one ⟨false,[.val (.bool false)]⟩))]
 |_,(_,_)=> []
def Aj:nr→LT nr
 |(a,b)=> .ite (xZ a b) (.need [Ii a,xZ a b,Ij a b,Ik a b] (.ite (Cp a b) (.ext 0 [(0,0)]) (.nrm ((Il a),b) [(0,0)]))) (.ext 1 [(0,0)])
def Np(s:St):Option nr:=do
 let some ⟨none,.one ⟨false,[.val (.int .i64 a)]⟩⟩:=s.look 5|none
 let some ⟨none,.one ⟨false,[.ref 0]⟩⟩:=s.look 0|none
 let some (.row false 9 (.str) b):=s.ent 0|none
 some (a,b)
def fh:Lp nr where
 h:=⟨[6,7,8,9,12,13,14,15,16,17,4,10,11,5],[0],[],[]⟩
 JL:=af8
 JE:=afY
 XL:=agt
 XE:=fun _=>afY
 q:=fun j=>match j with | 0=> .ret | _=> .exit 0
 tags:= [0,1]
 lt:=Aj
 fuel:=fun(a,b)=>a.natAbs + b.length
 fix:=fun(_,b) (a,_)=>(a,b)
 σ:= [(0,0)]
 rd:=Np
theorem adw:LoopOk prog (fun k=>Nat.blt k Tryz.f143.ntmps) fh.F (bB f143 0):=by
 refine Lp.ok (tbl:= [pp,Lz]) (lf:= []) bj fh (by kernel_rfl) (LOk.nil _) (fun _=>rfl) (fun j _=>by unfold fh;match j with | 0=>rfl | _ + 1=>rfl) ?_ ?_ ?_ ?_ (fun _=>rfl) ?_
 ·rintro⟨a,b⟩;kernel_rfl
 ·rintro⟨a,b⟩;kernel_rfl
 ·intro s x h
  have h:Np s=some x:=h
  unfold Np at h
  repeat' split at h
  all_goals cases h
  constructor<;>repeat(first|refine ab (by assumption) rfl ?_|refine aa rfl (by assumption) rfl ?_|exact rfl)
 ·rintro⟨a,b⟩;kernel_rfl
 ·rintro⟨a,b⟩ z;exact(And.intro (And.intro trivial rfl) trivial)
def Vj(a:Int)(b:List asv):Bool:=bif Nat.beq ((Lp.res fh ((0:Int),b)).1) 0 then false else aZ (↑b.length:Int) a 20
def Vk(a:List asv):Bool:=allT [Lp.fin fh ((0:Int),a)]
def acx:awE
 | [.one ⟨false,[.ref 0]⟩,.one ⟨false,[.val (.int .i64 a)]⟩],[.row false 9 (.str) b]=>some ⟨.one ⟨false,[.val (.bool (Vj a b))]⟩,[.row false 9 arE b],[],[Vk b]⟩
 |_,_=>none
def al1:PF prog:=PF.ofG prog [pp,Lz] [fh.F] bj 143 f143 func143 (LOk.fnT (l:= [bB f143 0]) (by kernel_rfl) (.cons adw (.nil _))) acx (by
 intro _ _ _ h;unfold acx at h;split at h<;>cases h;kernel_rfl)
abbrev ky:=Int×Int×List (Int×(asv×Int))×List Int
section
variable (a b:Int)(c:aov)(d:arG)
def dZ:Int×asv×Int:=v6 c[v4 a]? ((0:Int),ByteArray.empty,(0:Int))
def qv:Bool:= !Gi ((dZ a c).1) (((dZ a c).2).1) ((dZ a c).2.2)
def qw:Int:=v7 .i64 (v7 .i64 (b - ew ((dZ a c).1)) + (1:Int))
def rr:Bool:=ltI a (↑c.length:Int)
def uU:Bool:=leI 0 a
def uV:Bool:=ltN a.toNat c.length
def zd:Bool:=Gj ((dZ a c).1) (((dZ a c).2).1) ((dZ a c).2.2)
def ze:Bool:= !(!qv a c&&true)||leI 0 a
def zf:Bool:= !(!qv a c&&true)||ltI a (↑c.length:Int)
def zg:Bool:= !(!qv a c&&true)||ltN a.toNat c.length
def zh:Bool:=bif qv a c then true else ltI b (ew ((dZ a c).1))
def zi:Bool:=leN (v5 d + v5 [qw a b c]) (9223372036854775807:Nat)
def zj:Bool:=leN ((v5 d + v5 [qw a b c]) * (8:Nat)) 140737488355328
def xA:Int:=v7 .i64 (a + (1:Int))
def xB:Int:=qw a b c
def xC:arG:=d++ [qw a b c]
end
def ac9:ky→List (Nat×SV)
 |(a,b,_,_)=> [(6,(.one ⟨false,[awF a]⟩)),(0,(.one ⟨false,[.ref 0]⟩)),(5,(.one ⟨false,[awF b]⟩)),(4,(.one ⟨false,[.ref 1]⟩))]
def ac3:ky→List (Nat×Entry)
 |(_,_,a,b)=> [(0,(.row false 122 ab5 a)),(1,(.row true 2 aox b))]
def adm:Nat→ky→List (Nat×SV)
 |0,(_,_,_,_)=> [(2,(.one ⟨false,[.ref 2]⟩)),(3,(.one ⟨false,[.val (.bool false)]⟩))]
 |_,(_,a,_,_)=> [(5,(.one ⟨false,[awF a]⟩)),(4,(.one ⟨false,[.ref 1]⟩))]
def adg:Nat→ky→List (Nat×Entry)
 |0,(_,_,a,b)=> [(0,(.row false 122 ab5 a)),(1,(.row true 2 aox b)),(2,(.row true 2 aox []))]
 |_,(_,_,a,b)=> [(0,(.row false 122 ab5 a)),(1,(.row true 2 aox b))]
def xt:ky→LT ky
 |(a,b,c,d)=> .ite (rr a c) (.need [uU a,rr a c,uV a c,zd a c,ze a c,zf a c,zg a c] (.ite (zh a b c) (.ext 0 [(0,0),(1,1),(2,1344)]) (.need [uU a,rr a c,uV a c] (.need [zi a b c d,zj a b c d] (.nrm ((xA a),xB a b c,c,(xC a b c d)) [(0,0),(1,2176)]))))) (.ext 1 [(0,0),(1,1)])
def Js(s:St):Option ky:=do
 let some ⟨none,.one ⟨false,[.val (.int .i64 a)]⟩⟩:=s.look 6|none
 let some ⟨none,.one ⟨false,[.ref 0]⟩⟩:=s.look 0|none
 let some ⟨none,.one ⟨false,[.val (.int .i64 b)]⟩⟩:=s.look 5|none
 let some ⟨none,.one ⟨false,[.ref 256]⟩⟩:=s.look 4|none
 let some (.row false 122 (.pair (.int .i64) (.pair .str (.int .i64))) c):=s.ent 0|none
 let some (.row true 2 (.int .i64) d):=s.ent 256|none
 some (a,b,c,d)
def dx:Lp ky where
 h:=⟨[8,9,10,11,14,15,16,17,18,19,20,21,22,23,24,25,26,27,28,29,2,3,30,31,32,33,34,35,36,37,38,5,39,40,41,42,4,12,13,6],[0],[1],[2]⟩
 JL:=ac9
 JE:=ac3
 XL:=adm
 XE:=adg
 q:=fun j=>match j with | 0=> .ret | _=> .exit 0
 tags:= [0,1]
 lt:=xt
 fuel:=fun(a,b,c,d)=>a.natAbs + b.natAbs + c.length + d.length
 fix:=fun(_,_,c,_) (a,b,_,d)=>(a,b,c,d)
 σ:= [(0,0),(1,256)]
 rd:=Js
theorem aa7:LoopOk prog (fun k=>Nat.blt k Tryz.f180.ntmps) dx.F (bB f180 0):=by
 refine Lp.ok (tbl:= [WZ,pA]) (lf:= []) bj dx (by kernel_rfl) (LOk.nil _) (fun _=>rfl) (fun j _=>by unfold dx;match j with | 0=>rfl | _ + 1=>rfl) ?_ ?_ ?_ ?_ (fun _=>rfl) ?_
 ·rintro⟨a,b,c,d⟩;kernel_rfl
 ·rintro⟨a,b,c,d⟩;kernel_rfl
 ·intro s x h
  have h:Js s=some x:=h
  unfold Js at h
  repeat' split at h
  all_goals cases h
  constructor<;>repeat(first|refine ab (by assumption) rfl ?_|refine aa rfl (by assumption) rfl ?_|exact rfl)
 ·rintro⟨a,b,c,d⟩;kernel_rfl
 ·rintro⟨a,b,c,d⟩ z;exact(And.intro (And.intro trivial rfl) trivial)
section
variable (a:aow)
def Ih:Int×Int×aow×arG:=((0:Int),(0:Int),a,[])
def Pr:Bool:=Nat.beq ((Lp.res dx (Ih a)).1) 0
def Ps:Int×aow×arG:=(Lp.res dx (Ih a)).2.2
def Rp:Bool:=bif Pr a then false else bif (Ps a).1==1 then leI (↑a.length:Int) 40 else false
def aj2:arG:=bif Pr a then []else (Ps a).2.2
def Rq:Bool:=allT [Lp.fin dx (Ih a)]
end
def YC:awE
 | [.one ⟨false,[.ref 0]⟩],[.row false 122 (.pair (.int .i64) (.pair (.str) (.int .i64))) a]=>some ⟨.tup [⟨false,[.ref 1]⟩,⟨false,[.val (.bool (Rp a))]⟩],[.row false 122 ab5 a],[.row true 2 aox (aj2 a)],[Rq a]⟩
 |_,_=>none
def QO:PF prog:=PF.ofG prog [WZ,pA] [dx.F] bj 180 f180 func180 (LOk.fnT (l:= [bB f180 0]) (by kernel_rfl) (.cons aa7 (.nil _))) YC (by
 intro _ _ _ h;unfold YC at h;split at h<;>cases h;kernel_rfl)
def Nw(a:aow):Bool:=Rp a
def Nx(a:aow):Bool:=allT [Rq a]
def Vv:awE
 | [.one ⟨false,[.ref 0]⟩],[.row false 122 (.pair (.int .i64) (.pair (.str) (.int .i64))) a]=>some ⟨.one ⟨false,[.val (.bool (Nw a))]⟩,[.row false 122 ab5 a],[],[Nx a]⟩
 |_,_=>none
def agG:PF prog:=PF.ofG prog (T3z [QO]) [] bj 144 f144 func144 (fun c _=>LOk.nil c) Vv (by
 intro _ _ _ h;unfold Vv at h;split at h<;>cases h;kernel_rfl)
section
variable (a b c:List asv)
def Rr:List asv:=a++b
def ahh:List asv:=Rr a b++c
def aam:Bool:=allT [leN (0 + v5 a) 9223372036854775807,leN ((0 + v5 a) * 16) 140737488355328,leN (v5 a + v5 b) 9223372036854775807,leN ((v5 a + v5 b) * 16) 140737488355328,leN (v5 (Rr a b) + v5 c) 9223372036854775807,leN ((v5 (Rr a b) + v5 c) * 16) 140737488355328]
end
def agQ:awE
 | [.one ⟨true,[.val (.string _x0),.ref 0,.ref 1,.ref 2,.val (.string _x1),.ref 3]⟩],[.row false 9 (.str) a,.row false 9 (.str) b,.row false 9 (.str) c,.row false 142 (.pair (.str) (.sl 122 (.pair (.int .i64) (.pair (.str) (.int .i64))))) d]=>some ⟨.one ⟨false,[.ref 4]⟩,[.row false 9 arE a,.row false 9 arE b,.row false 9 arE c,.row false 142 (CTy.pair CTy.str (CTy.sl (122:TypeId) ab5)) d],[.row true 9 arE (ahh a b c)],[aam a b c]⟩
 |_,_=>none
def an6:PF prog:=PF.ofG prog [] [] bj 103 f103 func103 (fun c _=>LOk.nil c) agQ (by
 intro _ _ _ h;unfold agQ at h;split at h<;>cases h;kernel_rfl)
abbrev nv:=Int×List asv
section
variable (a:Int)(b:List asv)
def AE:asv:=v6 b[v4 a]? ByteArray.empty
def sU:List asv:=List.drop (v4 0) (List.take a.toNat b)
def yg:Bool:=ltI a (↑b.length:Int)
end
def CE:Bool:=leI 0 0
section
variable (a:Int)(b:List asv)
def yh:Bool:=leI 0 a
def CF:Bool:=leI a (↑b.length:Int)
def CG:Bool:=ltN a.toNat b.length
def yj:Bool:=Ol (AE a b) (sU a b)
def CH:Bool:=leI 0 (IM (AE a b) (sU a b))
def Io:Int:=v7 .i64 (a + (1:Int))
end
def agc:nv→List (Nat×SV)
 |(a,_)=> [(3,(.one ⟨false,[awF a]⟩)),(0,(.one ⟨false,[.ref 0]⟩))]
def af2:nv→List (Nat×Entry)
 |(_,a)=> [(0,(.row false 9 arE a))]
def agx:Nat→nv→List (Nat×SV)
 |0,(_,_)=> [(2,(.one ⟨false,[.val (.bool true)]⟩))]
 |_,(_,_)=> []
def An:nv→LT nv
 |(a,b)=> .ite (yg a b) (.need [CE,yh a,CF a b,yh a,yg a b,CG a b,yj a b] (.ite (CH a b) (.ext 0 [(0,0)]) (.nrm ((Io a),b) [(0,0)]))) (.ext 1 [(0,0)])
def Nt(s:St):Option nv:=do
 let some ⟨none,.one ⟨false,[.val (.int .i64 a)]⟩⟩:=s.look 3|none
 let some ⟨none,.one ⟨false,[.ref 0]⟩⟩:=s.look 0|none
 let some (.row false 9 (.str) b):=s.ent 0|none
 some (a,b)
def fj:Lp nv where
 h:=⟨[4,5,6,7,10,11,12,13,14,15,16,17,18,2,8,9,3],[0],[],[]⟩
 JL:=agc
 JE:=af2
 XL:=agx
 XE:=fun _=>af2
 q:=fun j=>match j with | 0=> .ret | _=> .exit 0
 tags:= [0,1]
 lt:=An
 fuel:=fun(a,b)=>a.natAbs + b.length
 fix:=fun(_,b) (a,_)=>(a,b)
 σ:= [(0,0)]
 rd:=Nt
theorem adA:LoopOk prog (fun k=>Nat.blt k Tryz.f145.ntmps) fj.F (bB f145 0):=by
 refine Lp.ok (tbl:= (T3z [zS])) (lf:= []) bj fj (by kernel_rfl) (LOk.nil _) (fun _=>rfl) (fun j _=>by unfold fj;match j with | 0=>rfl | _ + 1=>rfl) ?_ ?_ ?_ ?_ (fun _=>rfl) ?_
 ·rintro⟨a,b⟩;kernel_rfl
 ·rintro⟨a,b⟩;kernel_rfl
 ·intro s x h
  have h:Nt s=some x:=h
  unfold Nt at h
  repeat' split at h
  all_goals cases h
  constructor<;>repeat(first|refine ab (by assumption) rfl ?_|refine aa rfl (by assumption) rfl ?_|exact rfl)
 ·rintro⟨a,b⟩;kernel_rfl
 ·rintro⟨a,b⟩ z;exact(And.intro (And.intro trivial rfl) trivial)
def Vm(a:List asv):Bool:=bif Nat.beq ((Lp.res fj ((0:Int),a)).1) 0 then true else false
def Vn(a:List asv):Bool:=allT [Lp.fin fj ((0:Int),a)]
def acB:awE
 | [.one ⟨false,[.ref 0]⟩],[.row false 9 (.str) a]=>some ⟨.one ⟨false,[.val (.bool (Vm a))]⟩,[.row false 9 arE a],[],[Vn a]⟩
 |_,_=>none
def al2:PF prog:=PF.ofG prog (T3z [zS]) [fj.F] bj 145 f145 func145 (LOk.fnT (l:= [bB f145 0]) (by kernel_rfl) (.cons adA (.nil _))) acB (by
 intro _ _ _ h;unfold acB at h;split at h<;>cases h;kernel_rfl)
abbrev mM:=Int×Int×asv×asv×List (Int×(asv×Int))×List asv×List asv×List asv×List (asv×(List (Int×(asv×Int))))
section
variable (a b:Int)(c:aov)(d:ag4)
def Gk:Bool:=ltI b (↑d.length:Int)
def zH:Bool:=ltN b.toNat d.length
def qV:aow:=(v6 d[v4 b]? (ub aaZ)).2
def qW:Bool:=ltI a (↑(v5 (qV b d)):Int)
def qX:Int×asv×Int:=v6 (qV b d)[v4 a]? ((0:Int),ByteArray.empty,(0:Int))
def ey:Bool:=leI 7 ((qX a b d).1)
def qY:aow:= [((qX a b d).1,((qX a b d).2).1,(qX a b d).2.2)]
def sc:Bool:=leI 0 b
def sd:Bool:=Gk b d
def se:Bool:=zH b d
def sf:Bool:=qW a b d
def wa:Bool:=leI 0 a
def wb:Bool:=ltN a.toNat (v5 (qV b d))
def wc:Bool:= !ey a b d||leI 0 b
def wd:Bool:= !ey a b d||Gk b d
def we:Bool:= !ey a b d||zH b d
def wg:Bool:= !ey a b d||leI 0 a
def uW:Bool:= !ey a b d||qW a b d
def uX:Bool:= !ey a b d||ltN a.toNat (v5 (qV b d))
def uY:Bool:= !ey a b d||leN (v5 c + v5 (qY a b d)) 9223372036854775807
def uZ:Bool:= !ey a b d||leN ((v5 c + v5 (qY a b d)) * 32) 140737488355328
def va:Bool:=ey a b d
def qU:Int:=v7 .i64 (a + (1:Int))
def vb:aov:=c++qY a b d
end
def aaO:mM→List (Nat×SV)
 |(a,b,_,_,_,_,_,_,_)=> [(5,(.one ⟨false,[awF a]⟩)),(1,(.one ⟨false,[.ptr 0 0]⟩)),(4,(.one ⟨false,[awF b]⟩)),(3,(.one ⟨false,[.ref 1]⟩))]
def aaN:mM→List (Nat×Entry)
 |(_,_,a,b,c,d,e,f,g)=> [(0,(.box 43 [.val (.string a),.ref 2,.ref 3,.ref 4,.val (.string b),.ref 5])),(2,(.row false 9 arE d)),(3,(.row false 9 arE e)),(4,(.row false 9 arE f)),(5,(.row false 142 aaZ g)),(1,(.row true 122 ab5 c))]
def aaT:Nat→mM→List (Nat×SV)
 |_,(_,_,_,_,_,_,_,_,_)=> [(3,(.one ⟨false,[.ref 1]⟩))]
def aaS:Nat→mM→List (Nat×Entry)
 |_,(_,_,a,b,c,d,e,f,g)=> [(0,(.box 43 [.val (.string a),.ref 2,.ref 3,.ref 4,.val (.string b),.ref 5])),(1,(.row true 122 ab5 c)),(2,(.row false 9 arE d)),(3,(.row false 9 arE e)),(4,(.row false 9 arE f)),(5,(.row false 142 aaZ g))]
def uH:mM→LT mM
 |(a,b,c,d,e,f,g,i,j)=> .need [sc b,sd b j,se b j] (.ite (sf a b j) (.need [sc b,sd b j,se b j,wa a,sf a b j,wb a b j] (.need [wc a b j,wd a b j,we a b j,wg a b j,uW a b j,uX a b j,uY a b e j,uZ a b e j] (.ite (va a b j) (.nrm ((qU a),b,c,d,vb a b e j,f,g,i,j) [(0,0),(1,2048),(2,2),(3,3),(4,4),(5,5)]) (.nrm ((qU a),b,c,d,e,f,g,i,j) [(0,0),(1,1),(2,2),(3,3),(4,4),(5,5)])))) (.ext 0 [(0,0),(1,1),(2,2),(3,3),(4,4),(5,5)]))
def Ga(s:St):Option mM:=do
 let some ⟨none,.one ⟨false,[.val (.int .i64 a)]⟩⟩:=s.look 5|none
 let some ⟨none,.one ⟨false,[.ptr 0 0]⟩⟩:=s.look 1|none
 let some ⟨none,.one ⟨false,[.val (.int .i64 b)]⟩⟩:=s.look 4|none
 let some ⟨none,.one ⟨false,[.ref 1]⟩⟩:=s.look 3|none
 let some (.box 43 [.val (.string c),.ref 2,.ref 3,.ref 4,.val (.string d),.ref 5]):=s.ent 0|none
 let some (.row false 9 (.str) f):=s.ent 2|none
 let some (.row false 9 (.str) g):=s.ent 3|none
 let some (.row false 9 (.str) i):=s.ent 4|none
 let some (.row false 142 (.pair .str (.sl 122 (.pair (.int .i64) (.pair .str (.int .i64))))) j):=s.ent 5|none
 let some (.row true 122 (.pair (.int .i64) (.pair .str (.int .i64))) e):=s.ent 1|none
 some (a,b,c,d,e,f,g,i,j)
def eq:Lp mM where
 h:=⟨[14,15,16,17,18,19,20,21,22,25,26,27,28,29,30,31,32,33,34,35,36,37,38,39,40,41,42,43,44,45,46,47,3,23,24,5],[0,2,3,4,5],[1],[]⟩
 JL:=aaO
 JE:=aaN
 XL:=aaT
 XE:=aaS
 q:=fun j=>match j with | _=> .exit 2
 tags:= [0]
 lt:=uH
 fuel:=fun(a,b,c,d,e,f,g,i,k)=>a.natAbs + b.natAbs + c.size + d.size + e.length + f.length + g.length + i.length + k.length
 fix:=fun(_,b,c,d,_,f,g,i,k) (a,_,_,_,e,_,_,_,_)=>(a,b,c,d,e,f,g,i,k)
 σ:= [(0,0),(2,2),(3,3),(4,4),(5,5),(1,1)]
 rd:=Ga
theorem Yu:LoopOk prog (memN [7,8,9,10,11,5,14,15,16,17,18,19,20,21,22,25,26,27,28,29,30,31,32,33,34,35,36,37,38,39,40,41,42,43,44,45,46,47,3,23,24,12,13,4]) eq.F (aab (bB f107 0) 0):=by
 refine Lp.ok (tbl:= []) (lf:= []) bj eq (by kernel_rfl) (LOk.nil _) (fun _=>rfl) (fun _ _=>rfl) ?_ ?_ ?_ ?_ (fun _=>rfl) ?_
 ·rintro⟨a,b,c,d,e,f,g,i,j⟩;kernel_rfl
 ·rintro⟨a,b,c,d,e,f,g,i,j⟩;kernel_rfl
 ·intro s x h
  have h:Ga s=some x:=h
  unfold Ga at h
  repeat' split at h
  all_goals cases h
  constructor<;>repeat(first|refine ab (by assumption) rfl ?_|refine aa rfl (by assumption) rfl ?_|exact rfl)
 ·rintro⟨a,b,c,d,e,f,g,i,j⟩;kernel_rfl
 ·rintro⟨a,b,c,d,e,f,g,i,j⟩ z;exact(And.intro (And.intro rfl rfl) trivial)
abbrev pP:=Int×asv×asv×List (Int×(asv×Int))×List asv×List asv×List asv×List (asv×(List (Int×(asv×Int))))
section
variable (a:Int)(b c:asv)(d:aov)(e f g:List asv)(i:ag4)
def zk:Int×Int×asv×asv×aow×List asv×List asv×List asv×ajC:=((0:Int),a,b,c,d,e,f,g,i)
def AA:Bool:=ltI a (↑i.length:Int)
def AB:Bool:=Lp.fin eq (zk a b c d e f g i)
def AC:Int:=v7 .i64 (a + (1:Int))
def AD:aov:=((Lp.res eq (zk a b c d e f g i)).2.2.2.2.2).1
end
def ad9:pP→List (Nat×SV)
 |(a,_,_,_,_,_,_,_)=> [(4,(.one ⟨false,[awF a]⟩)),(1,(.one ⟨false,[.ptr 0 0]⟩)),(3,(.one ⟨false,[.ref 1]⟩))]
def ad6:pP→List (Nat×Entry)
 |(_,a,b,c,d,e,f,g)=> [(0,(.box 43 [.val (.string a),.ref 2,.ref 3,.ref 4,.val (.string b),.ref 5])),(2,(.row false 9 arE d)),(3,(.row false 9 arE e)),(4,(.row false 9 arE f)),(5,(.row false 142 aaZ g)),(1,(.row true 122 ab5 c))]
def aev:Nat→pP→List (Nat×SV)
 |_,(_,_,_,_,_,_,_,_)=> [(3,(.one ⟨false,[.ref 1]⟩))]
def aes:Nat→pP→List (Nat×Entry)
 |_,(_,a,b,c,d,e,f,g)=> [(0,(.box 43 [.val (.string a),.ref 2,.ref 3,.ref 4,.val (.string b),.ref 5])),(1,(.row true 122 ab5 c)),(2,(.row false 9 arE d)),(3,(.row false 9 arE e)),(4,(.row false 9 arE f)),(5,(.row false 142 aaZ g))]
def yX:pP→LT pP
 |(a,b,c,d,e,f,g,i)=> .ite (AA a i) (.need [AB a b c d e f g i] (.nrm ((AC a),b,c,AD a b c d e f g i,e,f,g,i) [(0,0),(1,448),(2,2),(3,3),(4,4),(5,5)])) (.ext 0 [(0,0),(1,1),(2,2),(3,3),(4,4),(5,5)])
def LC(s:St):Option pP:=do
 let some ⟨none,.one ⟨false,[.val (.int .i64 a)]⟩⟩:=s.look 4|none
 let some ⟨none,.one ⟨false,[.ptr 320 0]⟩⟩:=s.look 1|none
 let some ⟨none,.one ⟨false,[.ref 448]⟩⟩:=s.look 3|none
 let some (.box 43 [.val (.string b),.ref 0,.ref 1,.ref 2,.val (.string c),.ref 3]):=s.ent 320|none
 let some (.row false 9 (.str) e):=s.ent 0|none
 let some (.row false 9 (.str) f):=s.ent 1|none
 let some (.row false 9 (.str) g):=s.ent 2|none
 let some (.row false 142 (.pair .str (.sl 122 (.pair (.int .i64) (.pair .str (.int .i64))))) i):=s.ent 3|none
 let some (.row true 122 (.pair (.int .i64) (.pair .str (.int .i64))) d):=s.ent 448|none
 some (a,b,c,d,e,f,g,i)
def ja:Lp pP where
 h:=⟨[7,8,9,10,11,5,14,15,16,17,18,19,20,21,22,25,26,27,28,29,30,31,32,33,34,35,36,37,38,39,40,41,42,43,44,45,46,47,3,23,24,12,13,4],[0,2,3,4,5],[1],[]⟩
 JL:=ad9
 JE:=ad6
 XL:=aev
 XE:=aes
 q:=fun j=>match j with | _=> .exit 0
 tags:= [0]
 lt:=yX
 fuel:=fun(a,b,c,d,e,f,g,i)=>a.natAbs + b.size + c.size + d.length + e.length + f.length + g.length + i.length
 fix:=fun(_,b,c,_,e,f,g,i) (a,_,_,d,_,_,_,_)=>(a,b,c,d,e,f,g,i)
 σ:= [(0,320),(2,0),(3,1),(4,2),(5,3),(1,448)]
 rd:=LC
theorem ab9:LoopOk prog (fun k=>Nat.blt k Tryz.f107.ntmps) ja.F (bB f107 0):=by
 refine Lp.ok (tbl:= []) (lf:= [eq.F]) bj ja (by kernel_rfl) (LOk.allT (l:= [aab (bB f107 0) 0]) (by kernel_rfl) (.cons Yu (.nil _))) (fun _=>rfl) (fun _ _=>rfl) ?_ ?_ ?_ ?_ (fun _=>rfl) ?_
 ·rintro⟨a,b,c,d,e,f,g,i⟩;kernel_rfl
 ·rintro⟨a,b,c,d,e,f,g,i⟩;kernel_rfl
 ·intro s x h
  have h:LC s=some x:=h
  unfold LC at h
  repeat' split at h
  all_goals cases h
  constructor<;>repeat(first|refine ab (by assumption) rfl ?_|refine aa rfl (by assumption) rfl ?_|exact rfl)
 ·rintro⟨a,b,c,d,e,f,g,i⟩;kernel_rfl
 ·rintro⟨a,b,c,d,e,f,g,i⟩ z;exact(And.intro rfl trivial)
section
variable (a b:asv)(c d e:List asv)(f:ajC)
def Rs:Int×asv×asv×aow×List asv×List asv×List asv×ajC:=((0:Int),a,b,[],c,d,e,f)
def Ts:aov:=((Lp.res ja (Rs a b c d e f)).2.2.2.2).1
def Tt:Bool:=allT [Lp.fin ja (Rs a b c d e f)]
end
def aaI:awE
 | [.one ⟨true,[.val (.string a),.ref 0,.ref 1,.ref 2,.val (.string b),.ref 3]⟩],[.row false 9 (.str) c,.row false 9 (.str) d,.row false 9 (.str) e,.row false 142 (.pair (.str) (.sl 122 (.pair (.int .i64) (.pair (.str) (.int .i64))))) f]=>some ⟨.one ⟨false,[.ref 4]⟩,[.row false 9 arE c,.row false 9 arE d,.row false 9 arE e,.row false 142 (CTy.pair CTy.str (CTy.sl (122:TypeId) ab5)) f],[.row true 122 ab5 (Ts a b c d e f)],[Tt a b c d e f]⟩
 |_,_=>none
def akS:PF prog:=PF.ofG prog [] [ja.F] bj 107 f107 func107 (LOk.fnT (l:= [bB f107 0]) (by kernel_rfl) (.cons ab9 (.nil _))) aaI (by
 intro _ _ _ h;unfold aaI at h;split at h<;>cases h;kernel_rfl)
def atZ(l:arG)(k:Int):Int:=v6 l[v4 k]? 0
def anO(a b:Int):Int:=bif a==1 then b else 0
def orI(a b:Int):Int:=bif a==1 then 1 else b
def mF(bs:List TM)(x:IN)(stk:arG):arG:=stk.drop (stk.length - (tkI bs x).toNat)
def akZ(bs:List TM)(x:IN)(stk:arG):arG:=stk.take (stk.length - (tkI bs x).toNat)
def Yw(bs:List TM)(inp:arG)(x:IN)(xs:arG)(ss:List BS3)(ar:arG):Int:=bif x.1==1 then x.2 else bif x.1==2 then atZ inp x.2 else bif x.1==3 then atZ xs x.2 else bif x.1==4 then 1 - atZ ar 0 else bif x.1==5 then anO (atZ ar 0) (atZ ar 1)else bif x.1==6 then orI (atZ ar 0) (atZ ar 1)else bif x.1==7 then asb (ej bs x.2.toNat).1 (ej bs x.2.toNat).2.2 ar (stAt ss x.2.toNat)else 0
def arR(os:arG)(z:Int):arG:=bif z==0 then List.replicate os.length 0 else os
def aob(bs:List TM)(inp:arG)(x:IN)(stk xs:arG)(ss:List BS3):arG:=bif gvI x==1 then akZ bs x stk++ [Yw bs inp x xs ss (mF bs x stk)]else akZ bs x stk
def asc(bs:List TM)(x:IN)(stk xs:arG):arG:=bif x.1==8 then xs.set x.2.toNat (atZ (mF bs x stk) 0)else xs
def arS(bs:List TM)(inp:arG)(x:IN)(stk xs os:arG):arG:=bif x.1==9 then os.set x.2.toNat (atZ (mF bs x stk) 0)else bif x.1==10 then arR os (atZ inp x.2)else bif x.1==11 then arR os (atZ xs x.2)else os
def apW(bs:List TM)(x:IN)(stk:arG)(ss:List BS3):List BS3:=bif x.1==7 then ss.set x.2.toNat (QJ (ej bs x.2.toNat).1 (ej bs x.2.toNat).2.2 (mF bs x stk) (stAt ss x.2.toNat))else ss
theorem afD{i v o:Int}{bs:List TM}{x:IN}(hi:0≤i∧i≤20)(hv:0≤v∧v≤20)(ho:0≤o∧o≤20)(hl:bs.length≤2000)(h:Qr i v o bs x=true):
  (x.1=1∧(x.2=0∨x.2=1))∨(x.1=2∧0≤x.2∧x.2 < i)∨(x.1=3∧0≤x.2∧x.2 < v)∨x.1=4∨x.1=5∨x.1=6∨(x.1=7∧0≤x.2∧x.2 < bs.length)∨
  (x.1=8∧0≤x.2∧x.2 < v)∨(x.1=9∧0≤x.2∧x.2 < o)∨(x.1=10∧0≤x.2∧x.2 < i)∨(x.1=11∧0≤x.2∧x.2 < v):=by
 have w1:IntKind.i64.wrap (i - 1)=i - 1:=aR (by omega) (by omega)
 have w2:IntKind.i64.wrap (v - 1)=v - 1:=aR (by omega) (by omega)
 have w3:IntKind.i64.wrap (o - 1)=o - 1:=aR (by omega) (by omega)
 have w4:IntKind.i64.wrap ((bs.length:Int) - 1)=bs.length - 1:=aR (by omega) (by omega)
 simp only [Qr,wm,aZ,w1,w2,w3,w4]at h
 by_cases h1:x.1=1
 ·simp [h1,Bool.cond_eq_ite]at h;omega
 by_cases h2:x.1=2
 ·simp [h2,Bool.cond_eq_ite]at h;omega
 by_cases h3:x.1=3
 ·simp [h3,Bool.cond_eq_ite]at h;omega
 by_cases h4:x.1=4
 ·omega
 by_cases h5:x.1=5
 ·omega
 by_cases h6:x.1=6
 ·omega
 by_cases h7:x.1=7
 ·simp [h7,Bool.cond_eq_ite]at h;omega
 by_cases h8:x.1=8
 ·simp [h8,Bool.cond_eq_ite]at h;omega
 by_cases h9:x.1=9
 ·simp [h9,Bool.cond_eq_ite]at h;omega
 by_cases h10:x.1=10
 ·simp [h10,Bool.cond_eq_ite]at h;omega
 by_cases h11:x.1=11
 ·simp [h11,Bool.cond_eq_ite]at h;omega
 simp [h1,h2,h3,h4,h5,h6,h7,h8,h9,h10,h11]at h
theorem ab7{i v o:Int}{bs:List TM}: ∀ (l1 l2:List IN) (n:Int) (acc:arG),hgt i v o bs (l1++l2) n acc=match hgt i v o bs l1 n acc with | some (m,a)=>hgt i v o bs l2 m a | none=>none
 | [],l2,n,acc=>rfl
 |x::r,l2,n,acc=>by
  simp only [List.cons_append,hgt]
  cases (Qr i v o bs x&&(leI (tkI bs x) n&&leI (n - tkI bs x + gvI x) 40))with
  |false=>rfl
  |true=>simp only [cond_true];exact ab7 r l2 _ _
theorem atQ{i v o:Int}{bs:List TM}{st:List IN}(gt:YL i v o bs st=true){k:Nat}(hk:k < st.length){n:Int}{L:arG}(h:hgt i v o bs (st.take k) 0 []=some (n,L)):
  Qr i v o bs st[k]=true∧tkI bs st[k]≤n∧n - tkI bs st[k] + gvI st[k]≤40∧hgt i v o bs (st.take (k + 1)) 0 []=some (n - tkI bs st[k] + gvI st[k],L++ [n - tkI bs st[k] + gvI st[k]]):=by
 have hs:st=st.take k++st[k]::st.drop (k + 1):=by rw [List.getElem_cons_drop,List.take_append_drop]
 have h1:=ab7 (i:=i) (v:=v) (o:=o) (bs:=bs) (st.take k) (st[k]::st.drop (k + 1)) 0 []
 rw [← hs,h]at h1
 simp only [hgt]at h1
 cases hc:(Qr i v o bs st[k]&&(leI (tkI bs st[k]) n&&leI (n - tkI bs st[k] + gvI st[k]) 40))with
 |false=>
  rw [hc]at h1
  simp only [YL,h1,cond_false]at gt
  cases gt
 |true=>
  have h2:=ab7 (i:=i) (v:=v) (o:=o) (bs:=bs) (st.take k) [st[k]] 0 []
  rw [h]at h2
  simp only [hgt,hc,cond_true]at h2
  simp only [w5,CZ]at hc
  refine⟨hc.1,hc.2.1,hc.2.2,?_⟩
  rw [← h2,List.take_succ_eq_append_getElem hk]
theorem al8{i v o:Int}{bs:List TM}: ∀ (l:List IN) (n:Int) (acc:arG) (m:Int) (L:arG),0≤n∧n≤40→hgt i v o bs l n acc=some (m,L)→0≤m∧m≤40
 | [],n,acc,m,L,hn,h=>by simp only [hgt,q9,Prod.mk.injEq]at h;omega
 |x::r,n,acc,m,L,hn,h=>by
  simp only [hgt]at h
  have hg:=ah3 x
  cases hc:(Qr i v o bs x&&(leI (tkI bs x) n&&leI (n - tkI bs x + gvI x) 40))with
  |false=>rw [hc]at h;cases h
  |true=>
   rw [hc,cond_true]at h
   simp only [w5,CZ]at hc
   exact al8 r _ _ m L (by omega) h
theorem asu{i v o:Int}{bs:List TM}: ∀ (l:List IN) (n:Int) (acc:arG) (m:Int) (L:arG),hgt i v o bs l n acc=some (m,L)→ ∃ r,L=acc++r
 | [],n,acc,m,L,h=>by simp only [hgt,q9,Prod.mk.injEq]at h;exact⟨[],by rw [List.append_nil];exact h.2.symm⟩
 |x::r,n,acc,m,L,h=>by
  simp only [hgt]at h
  cases hc:(Qr i v o bs x&&(leI (tkI bs x) n&&leI (n - tkI bs x + gvI x) 40))with
  |false=>rw [hc]at h;cases h
  |true=>
   rw [hc,cond_true]at h
   obtain⟨q,hq⟩:=asu r _ _ m L h
   exact⟨(n - tkI bs x + gvI x)::q,by rw [hq,List.append_assoc];rfl⟩
theorem apg{i v o:Int}{bs:List TM}{st:List IN}(gt:YL i v o bs st=true): ∀ (k:Nat),k≤st.length→
  ∃ n L,hgt i v o bs (st.take k) 0 []=some (n,L)∧(0≤n∧n≤40)∧(k=0→n=0)∧(0 < k→atZ (aeL i v o bs st) ((k:Int) - 1)=n)
 |0,_=>⟨0,[],by simp [hgt],by omega,fun _=>rfl,fun h=>by omega⟩
 |k + 1,hk=>by
  obtain⟨n,L,h1,h2,_,_⟩:=apg gt k (by omega)
  obtain⟨g1,g2,g3,g4⟩:=atQ gt (k:=k) (by omega) h1
  refine⟨_,_,g4,al8 _ _ _ _ _ (by omega) g4,fun h=>by omega,fun _=> ?_⟩
  have hs:st=st.take (k + 1)++st.drop (k + 1):=(List.take_append_drop ..).symm
  have hw:=ab7 (i:=i) (v:=v) (o:=o) (bs:=bs) (st.take (k + 1)) (st.drop (k + 1)) 0 []
  rw [← hs,g4]at hw
  simp only at hw
  unfold aeL
  cases hh:hgt i v o bs st 0 []with
  |none=>
   simp only [YL,hh]at gt
   cases gt
  |some r=>
   obtain⟨m,out⟩:=r
   rw [hh]at hw
   obtain⟨q,hq⟩:=asu _ _ _ _ _ hw.symm
   have hl:=aph _ _ _ _ _ h1
   rw [w9,List.length_nil]at hl
   simp only [atZ]
   have hi:(((k + 1:Nat):Int) - 1).toNat=L.length:=by omega
   rw [hi,hq,List.append_assoc,List.getElem?_append_right (Nat.le_refl _),Nat.sub_self]
   rfl
structure OkM (i v o:Int) (bs:List TM) (st:List IN) (k:Int) (stk xs os:arG) (ss:List BS3):Prop where
 lo:0≤k
 hi:k≤st.length
 hg: ∃ L,hgt i v o bs (st.take k.toNat) 0 []=some ((stk.length:Int),L)
 bt: ∀ z∈stk,z=0∨z=1
 vl:bitsB v xs=true
 ou:bitsB o os=true
 sl:ss.length=bs.length
 sp: ∀ k,k < bs.length→possAt bs ss k=true
theorem Hl{l:arG}(h: ∀ z∈l,z=0∨z=1)(k:Int):atZ l k=0∨atZ l k=1:=by
 unfold atZ
 cases hk:l[k.toNat]? with
 |none=>exact .inl rfl
 |some z=>exact h z (List.mem_of_getElem? hk)
theorem ajt{n:Int}{l:arG}(h:bitsB n l=true)(k:Nat){z:Int}(hz:z=0∨z=1):bitsB n (l.set k z)=true:=by
 obtain⟨h1,h2⟩:=cz.1 h
 refine cz.2 ⟨fun y hy=> ?_,by rw [List.length_set];exact h2⟩
 rcases List.mem_or_eq_of_mem_set hy with hy | rfl
 ·exact h1 y hy
 ·exact hz
theorem apU{n:Int}{l:arG}(h:bitsB n l=true)(z:Int):bitsB n (arR l z)=true:=by
 unfold arR
 cases z==0 with
 |false=>exact h
 |true=>
  refine cz.2 ⟨fun y hy=> .inl (v8 hy),?_⟩
  simp only [cond_true,List.length_replicate]
  exact(cz.1 h).2
theorem asT{k n a b c:Int}{s:asv}{l:arG}(hB:xK k s n=true)(hP:possB k n a b c=true)(hA:bitsB (takesK k) l=true):em k n a b c l=0∨em k n a b c l=1:=by
 obtain⟨hk,hn,_⟩:=abX hB
 have hb:=(afj hP hn).2.1
 have hc:=(afj hP hn).2.2
 have hp:=hP
 rcases kinds hk with rfl | rfl | rfl | rfl | rfl | rfl
 ·obtain⟨x,rfl,hx⟩:=aaU hA
  rcases hx with rfl | rfl <;> simp only [cD,iG,lj,fC,lk,lm,ln,lp,jU,em,gn,gp,gq,jh,gJ,iF,jT,lh,li,nc,ne,nf,ng,iN] <;> simp [Bool.cond_eq_ite] <;> (repeat' split) <;> omega
 ·obtain⟨x,rfl,hx⟩:=aaU hA
  rcases hx with rfl | rfl <;> simp only [cD,iG,lj,fC,lk,lm,ln,lp,jU,em,gn,gp,gq,jh,gJ,iF,jT,lh,li,nc,ne,nf,ng,iN] <;> simp [Bool.cond_eq_ite] <;> (repeat' split) <;> omega
 ·obtain⟨x,rfl,hx⟩:=aaU hA
  simp [possB,cX,aZ]at hp
  rcases hx with rfl | rfl <;> simp only [cD,iG,lj,fC,lk,lm,ln,lp,jU,em,gn,gp,gq,jh,gJ,iF,jT,lh,li,nc,ne,nf,ng,iN] <;> simp [Bool.cond_eq_ite] <;> (repeat' split) <;> omega
 ·obtain⟨x,y,rfl,hx,hy⟩:=aaV hA
  simp [possB,cX,aZ]at hp
  rcases hx with rfl | rfl <;> rcases hy with rfl | rfl <;> simp only [cD,iG,lj,fC,lk,lm,ln,lp,jU,em,gn,gp,gq,jh,gJ,iF,jT,lh,li,nc,ne,nf,ng,iN] <;> simp [Bool.cond_eq_ite] <;> (repeat' split) <;> omega
 ·obtain⟨x,y,rfl,hx,hy⟩:=aaV hA
  rcases hb with rfl | rfl <;> rcases hc with rfl | rfl <;> rcases hx with rfl | rfl <;> rcases hy with rfl | rfl <;> simp only [cD,iG,lj,fC,lk,lm,ln,lp,jU,em,gn,gp,gq,jh,gJ,iF,jT,lh,li,nc,ne,nf,ng,iN] <;> simp [Bool.cond_eq_ite] <;> (repeat' split) <;> omega
 ·obtain⟨x,y,rfl,hx,hy⟩:=aaV hA
  rcases hb with rfl | rfl <;> rcases hc with rfl | rfl <;> rcases hx with rfl | rfl <;> rcases hy with rfl | rfl <;> simp only [cD,iG,lj,fC,lk,lm,ln,lp,jU,em,gn,gp,gq,jh,gJ,iF,jT,lh,li,nc,ne,nf,ng,iN] <;> simp [Bool.cond_eq_ite] <;> (repeat' split) <;> omega
theorem atu{bs:List TM}{x:IN}{stk:arG}(hb: ∀ z∈stk,z=0∨z=1)(ht:tkI bs x≤stk.length):bitsB (tkI bs x) (mF bs x stk)=true:=by
 have h0:=(aaz bs x).1
 refine cz.2 ⟨fun z hz=>hb z (List.mem_of_mem_drop hz),?_⟩
 simp only [mF,List.length_drop]
 omega
theorem afN{bs:List TM}{x:IN}{stk:arG}(ht:tkI bs x≤stk.length):((akZ bs x stk).length:Int)=stk.length - tkI bs x:=by
 have h0:=(aaz bs x).1
 simp only [akZ,w9]
 omega
theorem apI{i v o:Int}{bs:List TM}{st:List IN}{inp:arG}{k:Int}{stk xs os:arG}{ss:List BS3}(hC:cA i v o bs st=true)(xa:bitsB i inp=true)
  (h:OkM i v o bs st k stk xs os ss) (eG:k < st.length) {x:IN} (hx:st[k.toNat]? =some x):
  Qr i v o bs x=true∧tkI bs x≤stk.length∧bitsB (tkI bs x) (mF bs x stk)=true∧(Yw bs inp x xs ss (mF bs x stk)=0∨Yw bs inp x xs ss (mF bs x stk)=1)∧stk.length≤40∧
  OkM i v o bs st (k + 1) (aob bs inp x stk xs ss) (asc bs x stk xs) (arS bs inp x stk xs os) (apW bs x stk ss):=by
 simp only [cA,w5]at hC
 obtain⟨hr,hB,gt⟩:=hC
 obtain⟨ri,rv,ro,rb,rs⟩:=II.1 hr
 have h0:=h.lo
 have hk:k.toNat < st.length:=by omega
 have hxe:st[k.toNat]=x:=by rw [List.getElem?_eq_getElem hk]at hx;exact Option.some.inj hx
 obtain⟨L,hL⟩:=h.hg
 obtain⟨g1,g2,g3,g4⟩:=atQ gt hk hL
 rw [hxe]at g1 g2 g3 g4
 have hab:=atu h.bt g2
 have hrl:=afN g2
 have t2:=aaz bs x
 have v2:=ah3 x
 have hvb:=(cz.1 h.vl).1
 have hob:=(cz.1 h.ou).1
 have hib:=(cz.1 xa).1
 have hargb:=(cz.1 hab).1
 have ha0:=Hl hargb 0
 have ha1:=Hl hargb 1
 have hblk:x.1=7→0≤x.2∧x.2 < bs.length→em (ej bs x.2.toNat).1 (ej bs x.2.toNat).2.2 (stAt ss x.2.toNat).1 (stAt ss x.2.toNat).2.1 (stAt ss x.2.toNat).2.2 (mF bs x stk)=0∨em (ej bs x.2.toNat).1 (ej bs x.2.toNat).2.2 (stAt ss x.2.toNat).1 (stAt ss x.2.toNat).2.1 (stAt ss x.2.toNat).2.2 (mF bs x stk)=1:=fun h7 hr7=>by
  have hlt7:x.2.toNat < bs.length:=by omega
  have hg7:ej bs x.2.toNat=bs[x.2.toNat]:=by simp only [ej,List.getElem?_eq_getElem hlt7];rfl
  have hB7:xK (ej bs x.2.toNat).1 (ej bs x.2.toNat).2.1 (ej bs x.2.toNat).2.2=true:=by rw [hg7];exact List.all_eq_true.1 hB _ (List.getElem_mem hlt7)
  have htk:tkI bs x=takesK (ej bs x.2.toNat).1:=by simp [tkI,fa,mJ,mK,sn,h7,takesK,ej]
  exact asT hB7 (h.sp _ hlt7) (by rw [← htk];exact hab)
 have hnx:x.1=7→0≤x.2∧x.2 < bs.length→possB (ej bs x.2.toNat).1 (ej bs x.2.toNat).2.2 (QJ (ej bs x.2.toNat).1 (ej bs x.2.toNat).2.2 (mF bs x stk) (stAt ss x.2.toNat)).1 (QJ (ej bs x.2.toNat).1 (ej bs x.2.toNat).2.2 (mF bs x stk) (stAt ss x.2.toNat)).2.1 (QJ (ej bs x.2.toNat).1 (ej bs x.2.toNat).2.2 (mF bs x stk) (stAt ss x.2.toNat)).2.2=true:=fun h7 hr7=>by
  have hlt7:x.2.toNat < bs.length:=by omega
  have hg7:ej bs x.2.toNat=bs[x.2.toNat]:=by simp only [ej,List.getElem?_eq_getElem hlt7];rfl
  have hB7:xK (ej bs x.2.toNat).1 (ej bs x.2.toNat).2.1 (ej bs x.2.toNat).2.2=true:=by rw [hg7];exact List.all_eq_true.1 hB _ (List.getElem_mem hlt7)
  have htk:tkI bs x=takesK (ej bs x.2.toNat).1:=by simp [tkI,fa,mJ,mK,sn,h7,takesK,ej]
  exact(aqx hB7 (h.sp _ hlt7) (by rw [← htk];exact hab)).2
 have hval:Yw bs inp x xs ss (mF bs x stk)=0∨Yw bs inp x xs ss (mF bs x stk)=1:=by
  rcases afD ri rv ro rb g1 with⟨e,q⟩ | ⟨e,q⟩ | ⟨e,q⟩ | e | e | e | ⟨e,q⟩ | ⟨e,q⟩ | ⟨e,q⟩ | ⟨e,q⟩ | ⟨e,q⟩
  ·simp only [Yw,e];exact q
  ·simp only [Yw,e];exact Hl hib _
  ·simp only [Yw,e];exact Hl hvb _
  ·simp only [Yw,e]
   show 1 - atZ (mF bs x stk) 0=0∨1 - atZ (mF bs x stk) 0=1
   omega
  ·simp only [Yw,e]
   show anO (atZ (mF bs x stk) 0) (atZ (mF bs x stk) 1)=0∨anO (atZ (mF bs x stk) 0) (atZ (mF bs x stk) 1)=1
   rcases ha0 with q | q <;> rw [q]
   ·exact .inl rfl
   ·exact ha1
  ·simp only [Yw,e]
   show orI (atZ (mF bs x stk) 0) (atZ (mF bs x stk) 1)=0∨orI (atZ (mF bs x stk) 0) (atZ (mF bs x stk) 1)=1
   rcases ha0 with q | q <;> rw [q]
   ·exact ha1
   ·exact .inr rfl
  ·have:=hblk e q
   simp only [Yw,e]
   exact this
  all_goals (simp only [Yw,e];exact .inl rfl)
 refine⟨g1,g2,hab,hval,?_,⟨by omega,by omega,?_,?_,?_,?_,?_,?_⟩⟩
 ·have:=al8 _ _ _ _ _ (by omega) hL
  omega
 ·refine⟨L++ [stk.length - tkI bs x + gvI x],?_⟩
  have hs:(k + 1).toNat=k.toNat + 1:=by omega
  rw [hs,g4]
  have:((aob bs inp x stk xs ss).length:Int)=stk.length - tkI bs x + gvI x:=by
   unfold aob
   by_cases hgv:gvI x=1
   ·simp only [hgv,beq_self_eq_true,cond_true,List.length_append,w8];omega
   ·have h1:(gvI x==1)=false:=by simpa using hgv
    rw [h1,cond_false];omega
  rw [this]
 ·intro z hz
  unfold aob at hz
  have hr: ∀ z∈akZ bs x stk,z=0∨z=1:=fun z hz=>h.bt z (List.mem_of_mem_take hz)
  cases hgv:(gvI x==1)with
  |false=>rw [hgv]at hz;exact hr z hz
  |true=>
   rw [hgv,cond_true]at hz
   rcases List.mem_append.1 hz with hz | hz
   ·exact hr z hz
   ·rw [v9.1 hz];exact hval
 ·unfold asc
  cases x.1==8 with
  |false=>exact h.vl
  |true=>exact ajt h.vl _ ha0
 ·unfold arS
  cases x.1==9 with
  |true=>exact ajt h.ou _ ha0
  |false=>
   cases x.1==10 with
   |true=>exact apU h.ou _
   |false=>
    cases x.1==11 with
    |true=>exact apU h.ou _
    |false=>exact h.ou
 ·unfold apW
  cases x.1==7 with
  |false=>exact h.sl
  |true=>simp only [cond_true,List.length_set];exact h.sl
 ·intro k2 hk2
  unfold apW
  cases h7:x.1==7 with
  |false=>exact h.sp k2 hk2
  |true=>
   simp only [cond_true]
   have h7:x.1=7:=by simpa using h7
   have hq:0≤x.2∧x.2 < bs.length:=by
    rcases afD ri rv ro rb g1 with⟨e,q⟩ | ⟨e,q⟩ | ⟨e,q⟩ | e | e | e | ⟨e,q⟩ | ⟨e,q⟩ | ⟨e,q⟩ | ⟨e,q⟩ | ⟨e,q⟩ <;> first | exact q | omega
   by_cases he:k2=x.2.toNat
   ·subst he
    have:=hnx h7 hq
    have hl:x.2.toNat < ss.length:=by rw [h.sl];omega
    unfold possAt
    have hs:stAt (ss.set x.2.toNat (QJ (ej bs x.2.toNat).1 (ej bs x.2.toNat).2.2 (mF bs x stk) (stAt ss x.2.toNat))) x.2.toNat=QJ (ej bs x.2.toNat).1 (ej bs x.2.toNat).2.2 (mF bs x stk) (stAt ss x.2.toNat):=by
     simp only [stAt,List.getElem?_set_self hl,Option.getD_some]
    rw [hs];exact this
   ·have hs: ∀ y,stAt (ss.set x.2.toNat y) k2=stAt ss k2:=fun y=>by
     simp only [stAt,List.getElem?_set_ne (Ne.symm he)]
    unfold possAt
    rw [hs];exact h.sp k2 hk2
abbrev LN:=asv×List TM
def Hn(l:List asv)(s:asv):Bool:=l.any fun k=>k.toList==s.toList
def abk(l:List asv)(s:asv):Nat:=(l.takeWhile fun k=> !(k.toList==s.toList)).length
def wS(l:List asv)(s:asv):Int:=bif Hn l s then(abk l s:Int)else -1
theorem ajU{s:asv}: ∀ {l:List asv},Hn l s=true→abk l s < l.length
 | [],h=>by cases h
 |a::r,h=>by
  simp only [Hn,List.any_cons]at h
  simp only [abk,List.takeWhile_cons]
  cases ha:a.toList==s.toList with
  |true=>simp
  |false=>
   rw [ha,Bool.false_or]at h
   have:=ajU (l:=r) h
   simp only [abk]at this
   simp only [Bool.not_false,if_true,List.length_cons]
   omega
def htT:List TM→Int→Option Int
 | [],n=>some n
 |t::r,n=>bif termB t.1 t.2.1 t.2.2&&leI (takesK t.1) n then htT r (n - takesK t.1 + 1)else none
def amD(ts:List TM):Bool:=leN ts.length 40&&(match htT ts 0 with | some n=>n==1 | none=>false)
def lineB(x:LN):Bool:=wJ x.1&&amD x.2
def am3(l:List asv)(lo:Nat):Bool:=l.all wJ&&inR (l.length:Int) lo 20
def aq2(nm:asv)(ins vs os:List asv)(g:asv)(ls:List LN):Bool:=wJ nm&&(am3 ins 1&&(am3 vs 0&&(am3 os 1&&((g.toList== []||wJ g)&&(ls.all lineB&&inR (ls.length:Int) 1 40)))))
def ND(l:List asv):Bool:=(List.range l.length).any fun i=>Hn (l.take i) (v6 l[i]? ⟨#[]⟩)
def ahe(ins vs:List asv)(s:asv):Bool:=Hn ins s||Hn vs s
def usedB(ins vs:List asv)(t:TM):Bool:= !(t.1==1)||ahe ins vs t.2.1
def auY(ins vs os:List asv)(g:asv)(ls:List LN):Bool:= !ND (ins++vs++os)&&((g.toList== []||ahe ins vs g)&&(ls.all (fun l=>Hn vs l.1||Hn os l.1)&&(!ND (ls.map Prod.fst)&&(leN (vs.length + os.length) ls.length&&ls.all fun l=>l.2.all (usedB ins vs)))))
def nmV(ins vs:List asv)(inp xs:arG)(s:asv):Int:=bif Hn ins s then atZ inp (abk ins s)else atZ xs (abk vs s)
def tmV(ins vs:List asv)(inp xs:arG)(t:TM)(ar:arG)(b:BS3):Int:=bif t.1==1 then nmV ins vs inp xs t.2.1 else bif t.1==2 then 1 else bif t.1==3 then 0 else bif t.1==4 then 1 - atZ ar 0 else bif t.1==5 then anO (atZ ar 0) (atZ ar 1)else bif t.1==6 then orI (atZ ar 0) (atZ ar 1)else asb t.1 t.2.2 ar b
def ltk(t:TM)(stk:arG):Nat:=stk.length - (takesK t.1).toNat
abbrev LS:=List Int×List BS3×Nat
def lnS(ins vs:List asv)(inp xs:arG)(t:TM)(a:LS):LS:=(a.1.take (ltk t a.1)++ [tmV ins vs inp xs t (a.1.drop (ltk t a.1)) (stAt a.2.1 a.2.2)],bif leI 7 t.1 then a.2.1.set a.2.2 (QJ t.1 t.2.2 (a.1.drop (ltk t a.1)) (stAt a.2.1 a.2.2))else a.2.1,bif leI 7 t.1 then a.2.2 + 1 else a.2.2)
def amT(ins vs:List asv)(inp xs:arG):List TM→LS→LS
 | [],a=>a
 |t::r,a=>amT ins vs inp xs r (lnS ins vs inp xs t a)
theorem We(k:Int):0≤takesK k∧takesK k≤2:=by
 simp only [takesK,ew]
 refine⟨?_,?_⟩ <;> simp only [Bool.cond_eq_ite] <;> (repeat' split) <;> decide
structure LnOk (bl:List TM) (n:Int) (k:Nat) (a:LS):Prop where
 hb: ∀ z∈a.1,z=0∨z=1
 hl:(a.1.length:Int)=n
 sl:a.2.1.length=bl.length
 sp: ∀ j,j < bl.length→possAt bl a.2.1 j=true
 hk:a.2.2=k
theorem at2{ins vs:List asv}{inp xs:arG}(hi:bitsB ins.length inp=true)(hx:bitsB vs.length xs=true)(s:asv):nmV ins vs inp xs s=0∨nmV ins vs inp xs s=1:=by
 simp only [nmV]
 cases Hn ins s with
 |true=>exact Hl (cz.1 hi).1 _
 |false=>exact Hl (cz.1 hx).1 _
theorem ats{a b:Int}(hb:b=0∨b=1):anO a b=0∨anO a b=1:=by simp only [anO];cases a==1 <;> simp [hb]
theorem auO{a b:Int}(hb:b=0∨b=1):orI a b=0∨orI a b=1:=by simp only [orI];cases a==1 <;> simp [hb]
theorem at3{a:Int}(ha:a=0∨a=1):1 - a=0∨1 - a=1:=by rcases ha with rfl | rfl <;> simp
theorem aom{t:TM}{stk:arG}(hb: ∀ z∈stk,z=0∨z=1)(ht:takesK t.1≤stk.length):bitsB (takesK t.1) (stk.drop (ltk t stk))=true:=by
 have h0:=(We t.1).1
 refine cz.2 ⟨fun z hz=>hb z (List.mem_of_mem_drop hz),?_⟩
 simp only [ltk,List.length_drop]
 omega
theorem acl{t:TM}(hT:termB t.1 t.2.1 t.2.2=true)(h7:leI 7 t.1=true):xK t.1 t.2.1 t.2.2=true:=by simp only [xK,hT,h7];rfl
theorem aoU{t:TM}(hT:termB t.1 t.2.1 t.2.2=true):1≤t.1∧t.1≤12:=by
 simp only [termB,w5,wW]at hT;exact hT.1
theorem av5{ins vs:List asv}{inp xs:arG}{bl:List TM}{n:Int}{k:Nat}{a:LS}{t:TM}(hi:bitsB ins.length inp=true)(hx:bitsB vs.length xs=true)
  (hT:termB t.1 t.2.1 t.2.2=true) (ht:takesK t.1≤n) (hblk:leI 7 t.1=true→k < bl.length∧ej bl k=t) (h:LnOk bl n k a):
  (tmV ins vs inp xs t (a.1.drop (ltk t a.1)) (stAt a.2.1 a.2.2)=0∨tmV ins vs inp xs t (a.1.drop (ltk t a.1)) (stAt a.2.1 a.2.2)=1)∧
  LnOk bl (n - takesK t.1 + 1) (bif leI 7 t.1 then k + 1 else k) (lnS ins vs inp xs t a):=by
 have hl:=h.hl
 have hdb:=aom (t:=t) h.hb (by omega)
 have hd:=(cz.1 hdb).1
 have d0:=Hl hd 0
 have d1:=Hl hd 1
 have h0:=We t.1
 have hv:leI 7 t.1=true→(tmV ins vs inp xs t (a.1.drop (ltk t a.1)) (stAt a.2.1 a.2.2)=asb t.1 t.2.2 (a.1.drop (ltk t a.1)) (stAt a.2.1 a.2.2)):=by
  intro h7
  have h7:=CZ.1 h7
  simp only [tmV]
  rw [show (t.1==1)=false by simp;omega,show (t.1==2)=false by simp;omega,show (t.1==3)=false by simp;omega,show (t.1==4)=false by simp;omega,show (t.1==5)=false by simp;omega,show (t.1==6)=false by simp;omega]
  rfl
 have hvb:tmV ins vs inp xs t (a.1.drop (ltk t a.1)) (stAt a.2.1 a.2.2)=0∨tmV ins vs inp xs t (a.1.drop (ltk t a.1)) (stAt a.2.1 a.2.2)=1:=by
  cases h7:leI 7 t.1 with
  |true=>
   obtain⟨hk,hbt⟩:=hblk h7
   rw [hv h7]
   have hp:=h.sp k hk
   simp only [possAt,hbt]at hp
   rw [h.hk]
   exact asT (acl hT h7) hp hdb
  |false=>
   have hkk:=aoU hT
   have h7': ¬ (7≤t.1):=fun hc=>by rw [aS hc]at h7;cases h7
   have hc:t.1=1∨t.1=2∨t.1=3∨t.1=4∨t.1=5∨t.1=6:=by omega
   rcases hc with e | e | e | e | e | e <;> simp only [tmV,e] <;> simp
   ·exact at2 hi hx _
   ·exact at3 d0
   ·exact ats d1
   ·exact auO d1
 refine⟨hvb,⟨?_,?_,?_,?_,?_⟩⟩
 ·intro z hz
  simp only [lnS,List.mem_append,v9]at hz
  rcases hz with hz | rfl
  ·exact h.hb z (List.mem_of_mem_take hz)
  ·exact hvb
 ·simp only [lnS,List.length_append,w9,w8,ltk]
  omega
 ·simp only [lnS]
  cases leI 7 t.1 with
  |true=>simp only [cond_true,List.length_set];exact h.sl
  |false=>exact h.sl
 ·intro j hj
  simp only [lnS]
  cases h7:leI 7 t.1 with
  |false=>exact h.sp j hj
  |true=>
   obtain⟨hk,hbt⟩:=hblk h7
   simp only [cond_true]
   rw [h.hk]
   by_cases hjk:j=k
   ·subst hjk
    have hp:=h.sp j hj
    simp only [possAt,hbt]at hp ⊢
    have hs:stAt (a.2.1.set j (QJ t.1 t.2.2 (a.1.drop (ltk t a.1)) (stAt a.2.1 j))) j=QJ t.1 t.2.2 (a.1.drop (ltk t a.1)) (stAt a.2.1 j):=by
     simp only [stAt]
     rw [List.getElem?_set_self (by rw [h.sl];exact hj)];rfl
    rw [hs]
    exact(aqx (acl hT h7) hp hdb).2
   ·have hs:stAt (a.2.1.set k (QJ t.1 t.2.2 (a.1.drop (ltk t a.1)) (stAt a.2.1 k))) j=stAt a.2.1 j:=by
     simp only [stAt]
     rw [List.getElem?_set_ne (fun h=>hjk h.symm)]
    simp only [possAt,hs]
    exact h.sp j hj
 ·simp only [lnS]
  rw [h.hk]
def blT(ts:List TM):List TM:=ts.filter fun t=>leI 7 t.1
def blL(ls:List LN):List TM:=ls.flatMap fun l=>blT l.2
theorem ah5: ∀ (l1 l2:List TM) (n:Int),htT (l1++l2) n=match htT l1 n with | some m=>htT l2 m | none=>none
 | [],l2,n=>rfl
 |t::r,l2,n=>by
  simp only [List.cons_append,htT]
  cases (termB t.1 t.2.1 t.2.2&&leI (takesK t.1) n)with
  |false=>rfl
  |true=>simp only [cond_true];exact ah5 r l2 _
theorem asw: ∀ (l:List TM) (n m:Int),0≤n→htT l n=some m→0≤m∧m≤n + l.length
 | [],n,m,hn,h=>by simp only [htT,q9]at h;simp;omega
 |t::r,n,m,hn,h=>by
  simp only [htT]at h
  have hg:=We t.1
  cases hc:(termB t.1 t.2.1 t.2.2&&leI (takesK t.1) n)with
  |false=>rw [hc]at h;cases h
  |true=>
   rw [hc,cond_true]at h
   simp only [w5,CZ]at hc
   have:=asw r _ m (by omega) h
   simp only [List.length_cons]
   omega
theorem avr{ts:List TM}{e:Int}(gt:htT ts 0=some e){i:Nat}{t:TM}(ht:ts[i]? =some t):
  ∃ n,htT (ts.take i) 0=some n∧(0≤n∧n≤i)∧termB t.1 t.2.1 t.2.2=true∧takesK t.1≤n∧htT (ts.take (i + 1)) 0=some (n - takesK t.1 + 1):=by
 obtain⟨hi,rfl⟩:=j9.1 ht
 have hs:ts=ts.take i++ts[i]::ts.drop (i + 1):=by rw [List.getElem_cons_drop,List.take_append_drop]
 have h1:=ah5 (ts.take i) (ts[i]::ts.drop (i + 1)) 0
 rw [← hs,gt]at h1
 cases hp:htT (ts.take i) 0 with
 |none=>rw [hp]at h1;cases h1
 |some n=>
  rw [hp]at h1
  simp only [htT]at h1
  cases hc:(termB ts[i].1 ts[i].2.1 ts[i].2.2&&leI (takesK ts[i].1) n)with
  |false=>rw [hc]at h1;cases h1
  |true=>
   have h2:=ah5 (ts.take i) [ts[i]] 0
   rw [hp]at h2
   simp only [htT,hc,cond_true]at h2
   simp only [w5,CZ]at hc
   have hb:=asw _ _ _ (Int.le_refl 0) hp
   rw [w9]at hb
   exact⟨n,rfl,by omega,hc.1,hc.2,by rw [← h2,List.take_succ_eq_append_getElem hi]⟩
theorem alu{ins vs:List asv}{inp xs:arG}: ∀ (l1 l2:List TM) (a:LS),amT ins vs inp xs (l1++l2) a=amT ins vs inp xs l2 (amT ins vs inp xs l1 a)
 | [],l2,a=>rfl
 |t::r,l2,a=>alu r l2 _
theorem abW(a b:List TM):blT (a++b)=blT a++blT b:=List.filter_append ..
theorem ams(a b:List LN):blL (a++b)=blL a++blL b:=List.flatMap_append
theorem arh{pre post ts:List TM}{i:Nat}{t:TM}(ht:ts[i]? =some t)(h7:leI 7 t.1=true):
  pre.length + (blT (ts.take i)).length < (pre++blT ts++post).length∧ej (pre++blT ts++post) (pre.length + (blT (ts.take i)).length)=t∧(blT (ts.take (i + 1))).length=(blT (ts.take i)).length + 1:=by
 obtain⟨hi,rfl⟩:=j9.1 ht
 have hs:ts=ts.take i++ts[i]::ts.drop (i + 1):=by rw [List.getElem_cons_drop,List.take_append_drop]
 have hb:blT ts=blT (ts.take i)++ts[i]::blT (ts.drop (i + 1)):=by
  conv=>lhs;rw [hs,abW]
  congr 1
  simp only [blT,List.filter_cons,h7,if_true]
 have hb2:blT (ts.take (i + 1))=blT (ts.take i)++ [ts[i]]:=by
  rw [List.take_succ_eq_append_getElem hi,abW]
  congr 1
  simp only [blT,List.filter_cons,h7,if_true,List.filter_nil]
 refine⟨?_,?_,by rw [hb2];simp⟩
 ·rw [hb];simp
 ·simp only [ej]
  rw [List.append_assoc,List.getElem?_append_right (by omega),Nat.add_sub_cancel_left,hb,List.append_assoc,List.getElem?_append_right (by omega),Nat.sub_self]
  rfl
theorem auv{ts:List TM}{i:Nat}{t:TM}(ht:ts[i]? =some t)(h7:leI 7 t.1=false):(blT (ts.take (i + 1))).length=(blT (ts.take i)).length:=by
 obtain⟨hi,rfl⟩:=j9.1 ht
 rw [List.take_succ_eq_append_getElem hi,abW]
 simp [blT,List.filter_cons,h7]
def aoW(pre post ts:List TM)(i:Nat)(a:LS):Prop:= ∃ n,htT (ts.take i) 0=some n∧LnOk (pre++blT ts++post) n (pre.length + (blT (ts.take i)).length) a
theorem aoC{ins vs:List asv}{inp xs:arG}{pre post ts:List TM}{e:Int}{i:Nat}{a:LS}{t:TM}(hi:bitsB ins.length inp=true)(hx:bitsB vs.length xs=true)
  (gt:htT ts 0=some e) (ht:ts[i]? =some t) (h:aoW pre post ts i a):
  (0≤takesK t.1∧takesK t.1≤a.1.length)∧a.1.length≤i∧termB t.1 t.2.1 t.2.2=true∧bitsB (takesK t.1) (a.1.drop (ltk t a.1))=true∧a.2.1.length=(pre++blT ts++post).length∧
  (leI 7 t.1=true→a.2.2 < (pre++blT ts++post).length∧possB t.1 t.2.2 (stAt a.2.1 a.2.2).1 (stAt a.2.1 a.2.2).2.1 (stAt a.2.1 a.2.2).2.2=true)∧
  a.2.2≤(pre++blT ts++post).length∧(∀ z∈a.1,z=0∨z=1)∧
  aoW pre post ts (i + 1) (lnS ins vs inp xs t a):=by
 obtain⟨n,h1,h2⟩:=h
 obtain⟨n',g1,g2,g3,g4,g5⟩:=avr gt ht
 rw [h1]at g1;cases g1
 have hl:=h2.hl
 have h0:=We t.1
 have hblk:leI 7 t.1=true→pre.length + (blT (ts.take i)).length < (pre++blT ts++post).length∧ej (pre++blT ts++post) (pre.length + (blT (ts.take i)).length)=t:=
  fun h7=>⟨(arh ht h7).1,(arh ht h7).2.1⟩
 obtain⟨_,k2⟩:=av5 (ins:=ins) (vs:=vs) hi hx g3 g4 hblk h2
 have hkle:a.2.2≤(pre++blT ts++post).length:=by
  rw [h2.hk]
  have:(blT (ts.take i)).length≤(blT ts).length:=by
   conv=>rhs;rw [← List.take_append_drop i ts,abW]
   simp
  simp;omega
 refine⟨by omega,by omega,g3,aom h2.hb (by omega),h2.sl,fun h7=> ?_,hkle,h2.hb,⟨_,g5,?_⟩⟩
 ·obtain⟨q1,q2⟩:=hblk h7
  rw [h2.hk]
  have:=h2.sp _ q1
  simp only [possAt,q2]at this
  exact⟨q1,this⟩
 ·have:(bif leI 7 t.1 then pre.length + (blT (ts.take i)).length + 1 else pre.length + (blT (ts.take i)).length)=pre.length + (blT (ts.take (i + 1))).length:=by
   cases h7:leI 7 t.1 with
   |true=>rw [(arh (pre:=pre) (post:=post) ht h7).2.2];rfl
   |false=>rw [auv ht h7];rfl
  rw [← this];exact k2
theorem asD{ins vs:List asv}{inp xs:arG}{pre post ts:List TM}{e:Int}{a:LS}(hi:bitsB ins.length inp=true)(hx:bitsB vs.length xs=true)(gt:htT ts 0=some e)(h:aoW pre post ts 0 a):
  ∀ i,i≤ts.length→aoW pre post ts i (amT ins vs inp xs (ts.take i) a)
 |0,_=>h
 |i + 1,eG=>by
  have h1:=asD hi hx gt h i (by omega)
  rw [List.take_succ_eq_append_getElem (by omega),alu]
  exact(aoC hi hx gt (List.getElem?_eq_getElem (by omega)) h1).2.2.2.2.2.2.2.2
theorem abs{v:Int}{bs:List TM}{xs:arG}{ss:List BS3}:lB v bs xs ss=true↔ss.length=bs.length∧bitsB v xs=true∧ ∀ k,k < bs.length→possAt bs ss k=true:=by
 simp only [lB,w5,beq_iff_eq,List.all_eq_true,List.mem_range]
 constructor
 ·rintro⟨h1,h2,h3⟩;exact⟨by omega,h2,h3⟩
 ·rintro⟨h1,h2,h3⟩;exact⟨by omega,h2,h3⟩
abbrev SS4:=List Int×List Int×List BS3×Nat
def lnV(ins vs:List asv)(inp:arG)(l:LN)(a:SS4):LS:=amT ins vs inp a.1 l.2 ([],a.2.2.1,a.2.2.2)
def scS(ins vs os:List asv)(inp:arG)(l:LN)(a:SS4):SS4:=(bif Hn vs l.1 then a.1.set (abk vs l.1) (atZ (lnV ins vs inp l a).1 0)else a.1,bif Hn vs l.1 then a.2.1 else a.2.1.set (abk os l.1) (atZ (lnV ins vs inp l a).1 0),(lnV ins vs inp l a).2.1,(lnV ins vs inp l a).2.2)
def ar5(ins vs os:List asv)(inp:arG):List LN→SS4→SS4
 | [],a=>a
 |l::r,a=>ar5 ins vs os inp r (scS ins vs os inp l a)
theorem alH{ins vs os:List asv}{inp:arG}: ∀ (l1 l2:List LN) (a:SS4),ar5 ins vs os inp (l1++l2) a=ar5 ins vs os inp l2 (ar5 ins vs os inp l1 a)
 | [],l2,a=>rfl
 |t::r,l2,a=>alH r l2 _
structure ScAt (vs os:List asv) (ls:List LN) (i:Nat) (a:SS4):Prop where
 hx:bitsB vs.length a.1=true
 ho:bitsB os.length a.2.1=true
 sl:a.2.2.1.length=(blL ls).length
 sp: ∀ j,j < (blL ls).length→possAt (blL ls) a.2.2.1 j=true
 hk:a.2.2.2=(blL (ls.take i)).length
theorem afm{ls:List LN}{i:Nat}{l:LN}(hl:ls[i]? =some l):blL ls=blL (ls.take i)++blT l.2++blL (ls.drop (i + 1))∧(blL (ls.take (i + 1))).length=(blL (ls.take i)).length + (blT l.2).length:=by
 obtain⟨hi,rfl⟩:=j9.1 hl
 have hs:ls=ls.take i++ls[i]::ls.drop (i + 1):=by rw [List.getElem_cons_drop,List.take_append_drop]
 refine⟨?_,?_⟩
 ·conv=>lhs;rw [hs,ams]
  rw [List.append_assoc]
  rfl
 ·rw [List.take_succ_eq_append_getElem hi,ams]
  simp [blL]
theorem ajH{x:LN}(h:lineB x=true):wJ x.1=true∧x.2.length≤40∧htT x.2 0=some 1:=by
 simp only [lineB,amD,w5,fc]at h
 obtain⟨h1,h2,h3⟩:=h
 refine⟨h1,h2,?_⟩
 split at h3
 ·rename_i n hn;rw [hn];congr 1;exact eq_of_beq h3
 ·cases h3
theorem aoR{vs os:List asv}{ls:List LN}{i:Nat}{a:SS4}{l:LN}(hl:ls[i]? =some l)(h:ScAt vs os ls i a):
  aoW (blL (ls.take i)) (blL (ls.drop (i + 1))) l.2 0 ([],a.2.2.1,a.2.2.2):=by
 have hs:=(afm hl).1
 refine⟨0,by simp [htT],⟨fun z hz=>(List.not_mem_nil hz).elim,rfl,?_,?_,?_⟩⟩
 ·rw [← hs];exact h.sl
 ·rw [← hs];exact h.sp
 ·simp [blT,h.hk]
theorem ak2{ins vs os:List asv}{inp:arG}{ls:List LN}{i:Nat}{a:SS4}{l:LN}(hi:bitsB ins.length inp=true)(hL:lineB l=true)(hl:ls[i]? =some l)
  (h:ScAt vs os ls i a):(lnV ins vs inp l a).1.length=1∧(atZ (lnV ins vs inp l a).1 0=0∨atZ (lnV ins vs inp l a).1 0=1)∧ScAt vs os ls (i + 1) (scS ins vs os inp l a):=by
 obtain⟨hn,nK,hht⟩:=ajH hL
 obtain⟨hs,hs2⟩:=afm hl
 have h0:=asD (ins:=ins) (vs:=vs) hi h.hx hht (aoR hl h) l.2.length (Nat.le_refl _)
 rw [List.take_length]at h0
 obtain⟨n,g1,g2⟩:=h0
 rw [List.take_length,hht]at g1;cases g1
 have hlen1:(lnV ins vs inp l a).1.length=1:=by have:=g2.hl;simp only [lnV];omega
 have hbit:atZ (lnV ins vs inp l a).1 0=0∨atZ (lnV ins vs inp l a).1 0=1:=Hl g2.hb 0
 refine⟨hlen1,hbit,⟨?_,?_,?_,?_,?_⟩⟩
 ·simp only [scS]
  cases Hn vs l.1 with
  |true=>exact ajt h.hx _ hbit
  |false=>exact h.hx
 ·simp only [scS]
  cases Hn vs l.1 with
  |true=>exact h.ho
  |false=>exact ajt h.ho _ hbit
 ·simp only [scS,lnV];rw [hs];exact g2.sl
 ·simp only [scS,lnV];rw [hs];exact g2.sp
 ·simp only [scS,lnV]
  rw [g2.hk,hs2,List.take_length]
theorem asO{ins vs os:List asv}{inp:arG}{ls:List LN}{a:SS4}(hi:bitsB ins.length inp=true)(hL:ls.all lineB=true)(h:ScAt vs os ls 0 a):
  ∀ i,i≤ls.length→ScAt vs os ls i (ar5 ins vs os inp (ls.take i) a)
 |0,_=>h
 |i + 1,eG=>by
  have h1:=asO hi hL h i (by omega)
  rw [List.take_succ_eq_append_getElem (by omega),alH]
  exact(ak2 hi (List.all_eq_true.1 hL _ (List.getElem_mem (by omega))) (List.getElem?_eq_getElem (by omega)) h1).2.2
def scE(ins vs os:List asv)(ls:List LN)(inp xs:arG)(ss:List BS3):SS4:=ar5 ins vs os inp ls (xs,List.replicate os.length 0,ss,0)
def scO(ins vs os:List asv)(g:asv)(ls:List LN)(inp xs:arG)(ss:List BS3):arG:=bif !(g.toList== [])&&nmV ins vs inp (scE ins vs os ls inp xs ss).1 g==0 then List.replicate os.length 0 else(scE ins vs os ls inp xs ss).2.1
def scV(ins vs os:List asv)(ls:List LN)(inp xs:arG)(ss:List BS3):arG:=(scE ins vs os ls inp xs ss).1
def scB(ins vs os:List asv)(ls:List LN)(inp xs:arG)(ss:List BS3):List BS3:=(scE ins vs os ls inp xs ss).2.2.1
theorem auf{ins vs os:List asv}{inp xs:arG}{ss:List BS3}{ls:List LN}(hi:bitsB ins.length inp=true)(hL:ls.all lineB=true)(hs:lB vs.length (blL ls) xs ss=true):
  ScAt vs os ls ls.length (scE ins vs os ls inp xs ss):=by
 obtain⟨h1,h2,h3⟩:=abs.1 hs
 have h0:ScAt vs os ls 0 (xs,List.replicate os.length 0,ss,0):=⟨h2,cz.2 ⟨fun z hz=> .inl (v8 hz),by simp⟩,h1,h3,by simp [blL]⟩
 have:=asO hi hL h0 ls.length (Nat.le_refl _)
 rw [List.take_length]at this
 exact this
theorem auX{ins vs os:List asv}{g:asv}{inp xs:arG}{ss:List BS3}{ls:List LN}(hi:bitsB ins.length inp=true)(hL:ls.all lineB=true)(hs:lB vs.length (blL ls) xs ss=true):
  lB vs.length (blL ls) (scV ins vs os ls inp xs ss) (scB ins vs os ls inp xs ss)=true∧bitsB os.length (scO ins vs os g ls inp xs ss)=true:=by
 have h:=auf (os:=os) hi hL hs
 refine⟨abs.2 ⟨h.sl,h.hx,h.sp⟩,?_⟩
 simp only [scO]
 cases (!(g.toList== [])&&nmV ins vs inp (scE ins vs os ls inp xs ss).1 g==0)with
 |true=>exact cz.2 ⟨fun z hz=> .inl (v8 hz),by simp⟩
 |false=>exact h.ho
theorem afz{A B:Type}{f g:B→A→Nat ⊕ A}{e:Nat}: ∀ {l:List B} {i:Nat} {a:A},(∀ b∈l,∀ a,f b a=g b a)→ci f e l i a=ci g e l i a
 | [],_,_,_=>rfl
 |b::r,i,a,h=>by
  simp only [ci,h b (by simp) a]
  cases g b a with
  |inl j=>rfl
  |inr a'=>exact afz fun x hx=>h x (by simp [hx])
def BH(a b:asv):(Unit)→Nat ⊕ (Unit)
 |_=>(bif(ByteArray.toList (b)==ByteArray.toList a)then(.inl 0)else(.inr ()))
def qb(a:asv)(b:List asv)(i:Nat):(Unit)→nu
 |_=>((i:Int),a,b)
def Ng:nu→Unit
 |(_,_,_)=>()
theorem ai4(c:asv)(e:List asv) (hn:e.length≤9223372036854775807):
  eB.fin ((0:Int),c,e)=true∧eB.res ((0:Int),c,e)=((ci (BH c) 1 e 0 ()).1,(qb c e) (ci (BH c) 1 e 0 ()).2.1 (ci (BH c) 1 e 0 ()).2.2):=by
 have mO:=eB.along (qb c e) Ng (BH c) 1 (fun _ _=>True) e () (by trivial) (by simp only [eB,qb];omega) (fun i b a hb hI=> ?_) (fun a hI=> ?_)
 ·exact mO
 ·obtain⟨⟩:=a
  have eG:=(j9.1 hb).1
  have px: ∀ d,v6 e[i]? d=b:=fun d=>by rw [hb];rfl
  have hw:=Fc eG hn
  have jY:ltI (i:Int) (e.length:Int)=true:=cI (by omega)
  have PX:leI (0:Int) (i:Int)=true:=aS (by omega)
  have wR:ltN i e.length=true:=dE eG
  refine⟨?_,?_,?_,?_⟩
  ·simp [yf,Cz,CA,CB,CC,Am,eB,LT.nds,allT,qb,jY,PX,wR,px]
  ·simp [yf,Cz,CA,CB,CC,Am,eB,LT.each,qb,Ng,hw]
  ·simp only [yf,Cz,CA,CB,CC,Am,eB,LT.fn,qb,Ng,BH,w7,jY,PX,wR,px,cond_true,j8]
  ·exact fun _ _=>trivial
 ·obtain⟨⟩:=a
  simp [yf,Cz,CA,CB,CC,Am,eB,LT.out,qb]
theorem aiq(s:asv)(l:List asv)(h:leN l.length 9223372036854775807=true):IM s l=wS l s∧Ol s l=true:=by
 obtain⟨w1,w2⟩:=ai4 s l (fc.1 h)
 rw [oE (P:=fun k=>k.toList==s.toList) (j:=0) (fun k=>rfl)]at w2
 simp only [IM,Ol,Mi,w1,w2,allT,qb,wS,Hn,abk]
 cases l.any fun k=>k.toList==s.toList <;> simp [Nat.beq]
theorem ah6(l:List asv)(s:asv):leI 0 (wS l s)=Hn l s:=by
 simp only [wS]
 cases Hn l s with
 |true=>exact aS (by simp)
 |false=>rfl
def acM:awE
 | [.one ⟨false,[.ref 0]⟩,.one ⟨false,[.val (.string a)]⟩],[.row false 9 (.str) b]=>some ⟨.one ⟨false,[awF (wS b a)]⟩,[.row false 9 arE b],[],[leN b.length 9223372036854775807]⟩
 |_,_=>none
def aV:PF prog:=PF.alt zS acM (by
 intro args es o h bA;unfold acM at h;split at h
 ·rename_i a b
  cases h
  have bA:=fv bA
  have hh:=aiq a b bA
  obtain⟨e0,en⟩:=hh
  exact kj rfl (eT en) (by simp only [e0] <;> rfl) rfl rfl
 ·cases h)
theorem avf(a b c:List asv)(h:leN (a.length + b.length + c.length) 2000000=true):ahh a b c=a++b++c∧aam a b c=true:=by
 have h:=fc.1 h
 refine⟨rfl,?_⟩
 simp [aam,Rr,allT]
 omega
def agZ:awE
 | [.one ⟨true,[.val (.string _x0),.ref 0,.ref 1,.ref 2,.val (.string _x1),.ref 3]⟩],[.row false 9 (.str) a,.row false 9 (.str) b,.row false 9 (.str) c,.row false 142 (.pair (.str) (.sl 122 (.pair (.int .i64) (.pair (.str) (.int .i64))))) d]=>some ⟨.one ⟨false,[.ref 4]⟩,[.row false 9 arE a,.row false 9 arE b,.row false 9 arE c,.row false 142 (CTy.pair CTy.str (CTy.sl (122:TypeId) ab5)) d],[.row true 9 arE (a++b++c)],[leN (a.length + b.length + c.length) 2000000]⟩
 |_,_=>none
def rB:PF prog:=PF.alt an6 agZ (by
 intro args es o h bA;unfold agZ at h;split at h
 ·rename_i _x0 _x1 a b c d
  cases h
  have bA:=fv bA
  have hh:=avf a b c bA
  obtain⟨e0,en⟩:=hh
  exact kj rfl (eT en) rfl rfl (by simp only [e0] <;> rfl)
 ·cases h)
theorem Qb(s:asv)(h:s.size≤9223372036854775807):nb s=wJ s∧tY s=true:=by
 obtain⟨e1,e2⟩:=anx s
 have hl:leN s.size 9223372036854775807=true:=aG h
 refine⟨?_,?_⟩
 ·simp only [nb,e1,wJ];cases Yk s <;> rfl
 ·simp only [tY,e2,hl,allT,j7,cond_true]
def SR(l:List asv):Bool:=leN l.length 9223372036854775807&&l.all fun s=>leN s.size 9223372036854775807
def uo(b:asv):(Unit)→Nat ⊕ (Unit)
 |_=>(bif(!nb b)then(.inl 0)else(.inr ()))
def sY(a:List asv)(i:Nat):(Unit)→nr
 |_=>((i:Int),a)
def Nd:nr→Unit
 |(_,_)=>()
theorem ai2(c:List asv) (hn:c.length≤9223372036854775807) (hA: ∀ x∈c,x.size≤9223372036854775807):
  fh.fin ((0:Int),c)=true∧fh.res ((0:Int),c)=((ci (uo) 1 c 0 ()).1,(sY c) (ci (uo) 1 c 0 ()).2.1 (ci (uo) 1 c 0 ()).2.2):=by
 have mO:=fh.along (sY c) Nd (uo) 1 (fun _ _=>True) c () (by trivial) (by simp only [fh,sY];omega) (fun i b a hb hI=> ?_) (fun a hI=> ?_)
 ·exact mO
 ·obtain⟨⟩:=a
  have eG:=(j9.1 hb).1
  have px: ∀ d,v6 c[i]? d=b:=fun d=>by rw [hb];rfl
  have hw:=Fc eG hn
  have jY:ltI (i:Int) (c.length:Int)=true:=cI (by omega)
  have PX:leI (0:Int) (i:Int)=true:=aS (by omega)
  have wR:ltN i c.length=true:=dE eG
  refine⟨?_,?_,?_,?_⟩
  ·have hg2:pX (i:Int) c=b:=by simp only [pX,w7];exact px _
   have h6:=(Qb b (hA b (List.mem_of_getElem? hb))).2
   simp [xZ,Ii,Ij,Ik,Cp,Il,Aj,fh,LT.nds,allT,sY,jY,PX,wR,hg2,h6]
  ·simp [pX,xZ,Ii,Ij,Ik,Cp,Il,Aj,fh,LT.each,sY,Nd,hw]
  ·have hg2:pX (i:Int) c=b:=by simp only [pX,w7];exact px _
   simp only [xZ,Cp,Aj,fh,LT.fn,sY,Nd,uo,w7,jY,hg2,cond_true]
  ·exact fun _ _=>trivial
 ·obtain⟨⟩:=a
  simp [pX,xZ,Ii,Ij,Ik,Cp,Il,Aj,fh,LT.out,sY]
theorem apD(lo:Int)(l:List asv)(h:SR l=true):Vj lo l=(l.all wJ&&inR (l.length:Int) lo 20)∧Vk l=true:=by
 simp only [SR,w5,fc,List.all_eq_true]at h
 obtain⟨w1,w2⟩:=ai2 l h.1 h.2
 have e0:(ci uo 1 l 0 ())=(ci (fun(k:asv) (_:Unit)=>bif !wJ k then(.inl 0:Nat ⊕ Unit)else .inr ()) 1 l 0 ()):=by
  refine afz fun b hb a=> ?_
  simp only [uo,(Qb b (h.2 b hb)).1]
 rw [e0,oE (P:=fun k=> !wJ k) (j:=0) (fun k=>rfl)]at w2
 have e5:(l.any fun k=> !wJ k)= !l.all wJ:=by simp [List.all_eq_not_any_not]
 rw [e5]at w2
 simp only [Vj,Vk,w1,w2,allT,aZ,Tb]
 cases l.all wJ <;> simp [Nat.beq]
def acL:awE
 | [.one ⟨false,[.ref 0]⟩,.one ⟨false,[.val (.int .i64 a)]⟩],[.row false 9 (.str) b]=>some ⟨.one ⟨false,[.val (.bool (b.all wJ&&inR (b.length:Int) a 20))]⟩,[.row false 9 arE b],[],[SR b]⟩
 |_,_=>none
def Dz:PF prog:=PF.alt al1 acL (by
 intro args es o h bA;unfold acL at h;split at h
 ·rename_i a b
  cases h
  have bA:=fv bA
  have hh:=apD a b bA
  obtain⟨e0,en⟩:=hh
  exact kj rfl (eT en) (by simp only [e0] <;> rfl) rfl rfl
 ·cases h)
theorem ase(l:List asv):(List.range l.length).any (fun b=>Hn (List.take b l) (v6 l[b]? ByteArray.empty))=ND l:=rfl
def xM(a:List asv)(b:Nat):(Unit)→Nat ⊕ (Unit)
 |_=>(bif(leI 0 (IM (v6 a[b]? ByteArray.empty) (List.drop (v4 0) (List.take b a))))then(.inl 0)else(.inr ()))
def sZ(a:List asv)(i:Nat):(Unit)→nv
 |_=>((i:Int),a)
def Nh:nv→Unit
 |(_,_)=>()
theorem ai5(c:List asv) (hn:c.length≤9223372036854775807):
  fj.fin ((0:Int),c)=true∧fj.res ((0:Int),c)=((ci (xM c) 1 (List.range c.length) 0 ()).1,(sZ c) (ci (xM c) 1 (List.range c.length) 0 ()).2.1 (ci (xM c) 1 (List.range c.length) 0 ()).2.2):=by
 have mO:=fj.along (sZ c) Nh (xM c) 1 (fun _ _=>True) (List.range c.length) () (by trivial) (by simp only [fj,sZ,List.length_range];omega) (fun i b a hb hI=> ?_) (fun a hI=> ?_)
 ·exact mO
 ·obtain⟨⟩:=a
  obtain⟨rfl,eG⟩:=Ti hb
  have hw:IntKind.i64.wrap ((b:Int) + 1)=((b + 1:Nat):Int):=by rw [aR (by omega) (by omega)];omega
  have jY:ltI (b:Int) (c.length:Int)=true:=cI (by omega)
  have PX:leI (0:Int) (b:Int)=true:=aS (by omega)
  have wR:ltN b c.length=true:=dE (by omega)
  refine⟨?_,?_,?_,?_⟩
  ·have nK:(List.take b c).length≤9223372036854775807:=by rw [w9];omega
   have e:sU (b:Int) c=List.take b c:=by simp [sU]
   have h5:yj (b:Int) c=true:=by simp only [yj,e];exact(aiq _ _ (aG nK)).2
   have h3:CF (b:Int) c=true:=aS (by omega)
   have h1:CE=true:=rfl
   simp only [An,fj,LT.nds,allT,sZ,yg,yh,CG,h1,h3,h5,jY,PX,wR,w7,cond_true,Bool.and_self,List.all_nil,List.all_cons]
   cases CH (b:Int) c <;> simp [LT.nds]
  ·simp [AE,sU,yg,CE,yh,CF,CG,yj,CH,Io,An,fj,LT.each,sZ,Nh,hw]
  ·simp only [AE,sU,yg,CE,yh,CF,CG,yj,CH,Io,An,fj,LT.fn,sZ,Nh,xM,w7,jY,cond_true]
  ·exact fun _ _=>trivial
 ·obtain⟨⟩:=a
  simp [AE,sU,yg,CE,yh,CF,CG,yj,CH,Io,An,fj,LT.out,sZ,List.length_range]
theorem apF(l:List asv)(h:leN l.length 9223372036854775807=true):Vm l=ND l∧Vn l=true:=by
 have hn:=fc.1 h
 obtain⟨w1,w2⟩:=ai5 l hn
 have hi: ∀ b:Nat,(List.take b l).length≤9223372036854775807:=fun b=>by rw [w9];omega
 rw [oE (P:=fun b=>Hn (List.take b l) (v6 l[b]? ByteArray.empty)) (j:=0) (fun b=>by
  simp only [xM,Int.toNat_zero,List.drop_zero,(aiq _ _ (aG (hi b))).1,ah6]),ase]at w2
 simp only [Vm,Vn,w1,w2,allT]
 cases ND l <;> simp [Nat.beq]
theorem abv{A B:Type}{f:B→A→Nat ⊕ A}{g:A→B→A}{e:Nat}(hf: ∀ b a,f b a= .inr (g a b)): ∀ (l:List B) (i:Nat) (a:A),ci f e l i a=(e,i + l.length,l.foldl g a)
 | [],i,a=>rfl
 |b::r,i,a=>by
  simp only [ci,hf,List.foldl_cons]
  rw [abv hf r]
  simp [Nat.add_assoc,Nat.add_comm 1]
def acN:awE
 | [.one ⟨false,[.ref 0]⟩],[.row false 9 (.str) a]=>some ⟨.one ⟨false,[.val (.bool (ND a))]⟩,[.row false 9 arE a],[],[leN a.length 9223372036854775807]⟩
 |_,_=>none
def ov:PF prog:=PF.alt al2 acN (by
 intro args es o h bA;unfold acN at h;split at h
 ·rename_i a
  cases h
  have bA:=fv bA
  have hh:=apF a bA
  obtain⟨e0,en⟩:=hh
  exact kj rfl (eT en) (by simp only [e0] <;> rfl) rfl rfl
 ·cases h)
theorem au1(n k:Int)(h0:0≤n)(h1:n≤9223372036854775000):IntKind.i64.wrap (IntKind.i64.wrap (n - takesK k) + 1)=n - takesK k + 1∧IntKind.i64.wrap (n + IntKind.i64.wrap (1 - takesK k))=n - takesK k + 1:=by
 have:=We k
 refine⟨?_,?_⟩
 ·rw [aR (x:=n - takesK k) (by omega) (by omega),aR (by omega) (by omega)]
 ·rw [aR (x:=1 - takesK k) (by omega) (by omega),aR (by omega) (by omega)];omega
theorem alv(a b:Int):ltI a b= !leI b a:=by
 cases h:leI b a with
 |true=>have:=CZ.1 h;exact yV (by omega)
 |false=>rw [asC]at h;exact cI (by omega)
def ahi(ts:List TM):Bool:=leN ts.length 1048576&&ts.all fun t=>leN t.2.1.size 9223372036854775807
def ajI(ls:List LN):Bool:=leN ls.length 1048576&&ls.all fun l=>leN l.1.size 9223372036854775807&&ahi l.2
theorem afT{ts:List TM}:ahi ts=true↔ts.length≤1048576∧ ∀ t∈ts,t.2.1.size≤9223372036854775807:=by
 simp only [ahi,w5,fc,List.all_eq_true]
theorem afG{ls:List LN}:ajI ls=true↔ls.length≤1048576∧ ∀ l∈ls,l.1.size≤9223372036854775807∧ahi l.2=true:=by
 simp only [ajI,w5,fc,List.all_eq_true]
def iY(b:Int×(asv×Int)):(Int×arG)→Nat ⊕ (Int×arG)
 |(a,c)=>(bif(bif(!Gi b.1 (b.2.1) b.2.2)then true else ltI a (ew b.1))then(.inl 0)else(.inr ((v7 .i64 (v7 .i64 (a - ew b.1) + (1:Int))),(c++ [v7 .i64 (v7 .i64 (a - ew b.1) + (1:Int))]))))
def oi(b:aov)(i:Nat):(Int×arG)→ky
 |(a,c)=>((i:Int),a,b,c)
def Jo:ky→Int×arG
 |(_,a,_,b)=>(a,b)
theorem afx(f:aov)(e:Int)(g:arG)(hn:f.length≤9223372036854775807)(hT:f.length≤1048576)(hA: ∀ x∈f,x.2.1.size≤9223372036854775807)(h3:g.length=0):
  dx.fin ((0:Int),e,f,g)=true∧dx.res ((0:Int),e,f,g)=((ci (iY) 1 f 0 (e,g)).1,(oi f) (ci (iY) 1 f 0 (e,g)).2.1 (ci (iY) 1 f 0 (e,g)).2.2):=by
 have mO:=dx.along (oi f) Jo (iY) 1 (fun i a=>a.2.length=i) f (e,g) h3 (by simp only [dx,oi];omega) (fun i b a hb hI=> ?_) (fun a hI=> ?_)
 ·exact mO
 ·obtain⟨e,g⟩:=a
  have eG:=(j9.1 hb).1
  have px: ∀ d,v6 f[i]? d=b:=fun d=>by rw [hb];rfl
  have hw:=Fc eG hn
  have jY:ltI (i:Int) (f.length:Int)=true:=cI (by omega)
  have PX:leI (0:Int) (i:Int)=true:=aS (by omega)
  have wR:ltN i f.length=true:=dE eG
  refine⟨?_,?_,?_,?_⟩
  ·have hg2:dZ (i:Int) f=b:=by simp only [dZ,w7];exact px _
   have h6:Gj b.1 b.2.1 b.2.2=true:=(afo b.1 b.2.1 b.2.2 (aG (hA b (List.mem_of_getElem? hb)))).2
   simp only at hI
   have h8:leN (g.length + 1) 9223372036854775807=true:=aG (by omega)
   have h9:leN ((g.length + 1) * 8) 140737488355328=true:=aG (by omega)
   simp [rr,uU,uV,zd,ze,zf,zg,zh,zi,zj,xA,xB,xC,xt,dx,LT.nds,allT,oi,jY,PX,wR,hg2,h6,h8,h9]
  ·simp [dZ,qv,qw,rr,uU,uV,zd,ze,zf,zg,zh,zi,zj,xA,xB,xC,xt,dx,LT.each,oi,Jo,hw]
  ·have hg2:dZ (i:Int) f=b:=by simp only [dZ,w7];exact px _
   simp only [rr,uU,uV,zd,ze,zf,zg,zh,zi,zj,xA,xB,xC,xt,dx,qv,qw,LT.fn,oi,Jo,iY,w7,jY,hg2,cond_true]
  ·intro a' hf
   simp only at hI
   simp only [iY]at hf
   revert hf
   generalize (bif _ then true else _)=c
   cases c with
   |true=>intro hf;cases hf
   |false=>intro hf;simp only [cond_false,Sum.inr.injEq]at hf;subst hf;simp [hI]
 ·obtain⟨e,g⟩:=a
  simp [dZ,qv,qw,rr,uU,uV,zd,ze,zf,zg,zh,zi,zj,xA,xB,xC,xt,dx,LT.out,oi]
theorem akf: ∀ (ts:List TM) (i:Nat) (n:Int) (L:arG),(∀ x∈ts,x.2.1.size≤9223372036854775807)→0≤n→n + ts.length≤9223372036854775000→
  match htT ts n with
  |some k=>(ci iY 1 ts i (n,L)).1=1∧(ci iY 1 ts i (n,L)).2.2.1=k
  |none=>(ci iY 1 ts i (n,L)).1=0
 | [],i,n,m,_,_,_=>⟨rfl,rfl⟩
 |t::r,i,n,m,hs,h0,h1=>by
  rw [List.length_cons]at h1
  have hw:=(au1 n t.1 h0 (by omega)).1
  have ht:=We t.1
  have hf:iY t (n,m)=(bif termB t.1 t.2.1 t.2.2&&leI (takesK t.1) n then .inr (n - takesK t.1 + 1,m++ [n - takesK t.1 + 1])else .inl 0):=by
   simp only [iY,(afo t.1 t.2.1 t.2.2 (aG (hs t (by simp)))).1,show ew t.1=takesK t.1 from rfl,hw,alv]
   cases termB t.1 t.2.1 t.2.2 <;> cases leI (takesK t.1) n <;> rfl
  simp only [ci,hf,htT]
  cases hc:termB t.1 t.2.1 t.2.2&&leI (takesK t.1) n with
  |false=>rfl
  |true=>
   simp only [w5,CZ]at hc
   simp only [cond_true]
   exact akf r (i + 1) _ _ (fun x hx=>hs x (by simp [hx])) (by omega) (by omega)
theorem aqV(ts:List TM)(h:ahi ts=true):Nw ts=amD ts∧Nx ts=true:=by
 obtain⟨hn,hs⟩:=afT.1 h
 obtain⟨w1,w2⟩:=afx ts 0 [] (by omega) hn hs rfl
 have hh:=akf ts 0 0 [] hs (by omega) (by omega)
 have MD:leI (ts.length:Int) 40=leN ts.length 40:=by
  rw [Bool.eq_iff_iff,CZ,fc];omega
 simp only [Nw,Nx,Rp,Rq,Ih,Pr,Ps,w1,w2,allT,amD,MD,cond_true,oi]
 cases hq:htT ts 0 with
 |none=>
  rw [hq]at hh
  simp only at hh
  rw [hh];simp [Nat.beq]
 |some k=>
  rw [hq]at hh
  simp only at hh
  rw [hh.1,hh.2]
  dsimp only
  generalize (k==1)=q
  cases q <;> cases leN ts.length 40 <;> simp [Nat.beq]
def VB:awE
 | [.one ⟨false,[.ref 0]⟩],[.row false 122 (.pair (.int .i64) (.pair (.str) (.int .i64))) a]=>some ⟨.one ⟨false,[.val (.bool (amD a))]⟩,[.row false 122 ab5 a],[],[ahi a]⟩
 |_,_=>none
def wu:PF prog:=PF.alt agG VB (by
 intro args es o h bA;unfold VB at h;split at h
 ·rename_i a
  cases h
  have bA:=fv bA
  have hh:=aqV a bA
  obtain⟨e0,en⟩:=hh
  exact kj rfl (eT en) (by simp only [e0] <;> rfl) rfl rfl
 ·cases h)
theorem Lp.along2{X A B:Type}(p:Lp X)(st:Nat→A→X)(pr:X→A)(f:B→A→Nat ⊕ A)(e:Nat)(Inv:Nat→A→Prop)(xs:List B)(a:A)
  (h0:Inv 0 a) (hf:xs.length≤100000000000)
  (hs: ∀ i b a,xs[i]? =some b→Inv i a→(p.lt (st i a)).nds=true∧(p.lt (st i a)).each (fun y=>y=st (i + 1) (pr y))∧(p.lt (st i a)).fn pr=f b a∧ ∀ a',f b a= .inr a'→Inv (i + 1) a')
  (he: ∀ a,Inv xs.length a→(p.lt (st xs.length a)).out=some (.inl e)):
  p.fin (st 0 a)=true∧p.res (st 0 a)=((ci f e xs 0 a).1,st (ci f e xs 0 a).2.1 (ci f e xs 0 a).2.2):=by
 have hs': ∀ i b a,xs[i]? =some b→Inv i a→(p.lt (st i a)).out=some (match f b a with | .inl j=> .inl j | .inr a'=> .inr (st (i + 1) a'))∧ ∀ a',f b a= .inr a'→Inv (i + 1) a':=by
  intro i b a hb hI
  obtain⟨h1,h2,h3,h4⟩:=hs i b a hb hI
  refine⟨?_,h4⟩
  rw [LT.out_of h1 h2,h3]
  cases f b a <;> rfl
 refine p.run (afO st f e Inv xs hs' he xs 0 a rfl (by omega) h0) ?_
 rw [ard]
 have:1000 ^ 4≤(p.fuel (st 0 a) + 1000) ^ 4:=Nat.pow_le_pow_left (by omega) 4
 omega
def arf(a:List TM)(b:TM):List TM:=bif leI 7 b.1 then a++ [b]else a
theorem aqa: ∀ (ts acc:List TM),ts.foldl arf acc=acc++blT ts
 | [],acc=>by simp [blT]
 |t::r,acc=>by
  rw [List.foldl_cons,aqa r]
  simp only [arf,blT,List.filter_cons]
  cases leI 7 t.1 <;> simp
theorem aor: ∀ (ls:List LN) (acc:List TM),ls.foldl (fun a l=>a++blT l.2) acc=acc++blL ls
 | [],acc=>by simp [blL]
 |l::r,acc=>by
  rw [List.foldl_cons,aor r]
  simp [blL]
theorem auu(ts:List TM):(blT ts).length≤ts.length:=List.length_filter_le _ _
theorem atw(a:List TM)(b:TM):(arf a b).length≤a.length + 1:=by
 simp only [arf];cases leI 7 b.1 <;> simp
theorem arg(k:Nat)(u v:asv)(acc:List TM)(p q r:List asv)(ls:List LN)(l:LN)(hl:ls[k]? =some l)(hn:l.2.length≤1048576)(hc:acc.length + l.2.length≤4000000000000):
  eq.fin ((0:Int),(k:Int),u,v,acc,p,q,r,ls)=true∧eq.res ((0:Int),(k:Int),u,v,acc,p,q,r,ls)=(0,((l.2.length:Int),(k:Int),u,v,acc++blT l.2,p,q,r,ls)):=by
 have hkl:=(j9.1 hl).1
 have hgl: ∀ d,v6 ls[k]? d=l:=fun d=>by rw [hl];rfl
 have ha2:qV (k:Int) ls=l.2:=by simp only [qV,w7];exact congrArg Prod.snd (hgl _)
 have ha0:Gk (k:Int) ls=true:=cI (by omega)
 have ha1:zH (k:Int) ls=true:=by simp only [zH,w7];exact dE hkl
 have hk0:leI 0 (k:Int)=true:=aS (by omega)
 have mO:=eq.along2 (fun i (a:List TM)=>((i:Int),(k:Int),u,v,a,p,q,r,ls)) (fun x=>x.2.2.2.2.1) (fun(b:TM) a=> .inr (arf a b)) 0 (fun i a=>a.length≤acc.length + i) l.2 acc (by omega)
  (by omega) (fun i b a hb hI=> ?_) (fun a hI=> ?_)
 ·rw [abv (g:=arf) (fun b a=>rfl),aqa]at mO
  simpa using mO
 ·have eG:=(j9.1 hb).1
  have hw:IntKind.i64.wrap ((i:Int) + 1)=((i + 1:Nat):Int):=by rw [aR (by omega) (by omega)];omega
  have jY:ltI (i:Int) (l.2.length:Int)=true:=cI (by omega)
  have PX:leI (0:Int) (i:Int)=true:=aS (by omega)
  have wR:ltN i l.2.length=true:=dE eG
  have hg2:qX (i:Int) (k:Int) ls=b:=by simp only [qX,ha2,w7,hb,Option.getD_some]
  have hg3:qW (i:Int) (k:Int) ls=true:=by simp only [qW,ha2,jY]
  have h8: ∀ z:TM,leN (a.length + v5 [z]) 9223372036854775807=true:=fun z=>aG (by rw [w8];omega)
  have h9: ∀ z:TM,leN ((a.length + v5 [z]) * 32) 140737488355328=true:=fun z=>aG (by rw [w8];omega)
  refine⟨?_,?_,?_,?_⟩
  ·simp only [sc,sd,se,sf,wa,wb,wc,wd,we,wg,uW,uX,uY,uZ,va,qU,vb,uH,eq,ey,qY,LT.nds,allT,ha0,ha1,ha2,hk0,hg2,hg3,jY,PX,wR,h8,h9,w7,cond_true,j7]
   cases leI 7 b.1 <;> simp [LT.nds]
  ·simp only [sc,sd,se,sf,wa,wb,wc,wd,we,wg,uW,uX,uY,uZ,va,qU,vb,uH,eq,ey,qY,LT.each,hw,hg2,hg3]
   cases leI 7 b.1 <;> simp [LT.each]
  ·simp only [sc,sd,se,sf,wa,wb,wc,wd,we,wg,uW,uX,uY,uZ,va,qU,vb,uH,eq,ey,qY,LT.fn,hg2,hg3,cond_true,arf]
   cases leI 7 b.1 <;> rfl
  ·intro a' hf
   simp only [Sum.inr.injEq]at hf
   subst hf
   have:=atw a b
   omega
 ·have jY:qW (l.2.length:Int) (k:Int) ls=false:=by simp only [qW,ha2];exact yV (by omega)
  simp [sc,sd,se,sf,wa,wb,wc,wd,we,wg,uW,uX,uY,uZ,va,qU,vb,uH,eq,LT.out,allT,ha0,ha1,hk0,jY]
theorem aqU(u v:asv)(p q r:List asv)(ls:List LN)(h:ajI ls=true):Ts u v p q r ls=blL ls∧Tt u v p q r ls=true:=by
 obtain⟨hn,hA⟩:=afG.1 h
 have hL: ∀ l∈ls,l.2.length≤1048576:=fun l hl=>(afT.1 (hA l hl).2).1
 have mO:=ja.along (fun i (a:List TM)=>((i:Int),u,v,a,p,q,r,ls)) (fun x=>x.2.2.2.1) (fun(b:LN) a=> .inr (a++blT b.2)) 0 (fun i a=>a.length≤i * 1048576) ls [] (by simp)
  (by simp only [ja];omega) (fun i b a hb hI=> ?_) (fun a hI=> ?_)
 ·rw [abv (g:=fun a (l:LN)=>a++blT l.2) (fun b a=>rfl),aor]at mO
  simp only [Ts,Tt,Rs,allT]
  simp only [List.nil_append,Nat.zero_add]at mO
  have e0:((0:Nat):Int)=0:=rfl
  rw [e0]at mO
  rw [mO.1,mO.2]
  exact⟨rfl,rfl⟩
 ·have eG:=(j9.1 hb).1
  have hbl:=hL b (List.mem_of_getElem? hb)
  have hw:IntKind.i64.wrap ((i:Int) + 1)=((i + 1:Nat):Int):=by rw [aR (by omega) (by omega)];omega
  have jY:ltI (i:Int) (ls.length:Int)=true:=cI (by omega)
  obtain⟨k1,k2⟩:=arg i u v a p q r ls b hb hbl (by omega)
  refine⟨?_,?_,?_,?_⟩
  ·simp [AA,AB,AC,AD,yX,ja,zk,LT.nds,allT,jY,k1]
  ·simp [AA,AB,AC,AD,yX,ja,zk,LT.each,jY,hw,k2]
  ·simp [AA,AB,AC,AD,yX,ja,zk,LT.fn,jY,k2]
  ·intro a' hf
   simp only [Sum.inr.injEq]at hf
   subst hf
   have:=auu b.2
   rw [List.length_append];omega
 ·have jY:ltI (ls.length:Int) (ls.length:Int)=false:=yV (by omega)
  simp [AA,AB,AC,AD,yX,ja,LT.out,jY]
def aaQ:awE
 | [.one ⟨true,[.val (.string a),.ref 0,.ref 1,.ref 2,.val (.string b),.ref 3]⟩],[.row false 9 (.str) c,.row false 9 (.str) d,.row false 9 (.str) e,.row false 142 (.pair (.str) (.sl 122 (.pair (.int .i64) (.pair (.str) (.int .i64))))) f]=>some ⟨.one ⟨false,[.ref 4]⟩,[.row false 9 arE c,.row false 9 arE d,.row false 9 arE e,.row false 142 (CTy.pair CTy.str (CTy.sl (122:TypeId) ab5)) f],[.row true 122 ab5 (blL f)],[ajI f]⟩
 |_,_=>none
def mG:PF prog:=PF.alt akS aaQ (by
 intro args es o h bA;unfold aaQ at h;split at h
 ·rename_i a b c d e f
  cases h
  have bA:=fv bA
  have hh:=aqU a b c d e f bA
  obtain⟨e0,en⟩:=hh
  exact kj rfl (eT en) rfl rfl (by simp only [e0] <;> rfl)
 ·cases h)
end Go.SX
