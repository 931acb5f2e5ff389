/- What functions of the program come to, and what that says in plain words: part 1. -/
import Derived.Test.YtbiaajlhigmdhaaGreatDoorTXh
import Derived.Test.YtbiaajlhigmdhaaGreatDoorProg
set_option linter.unusedSimpArgs false
set_option linter.unusedVariables false
open Option.some renaming injEq → q9
open Bool renaming and_eq_true → w5
open Int renaming toNat_natCast → w7
open List renaming length_singleton → w8
open List renaming length_take → w9
open Bool renaming or_true → j7
open Bool renaming cond_self → j8
open List renaming getElem?_eq_some_iff → j9
open Int renaming toNat → v3
open List renaming length → v4
open Option renaming getD → v5
open Go.IntKind renaming wrap → v6
open List renaming eq_of_mem_replicate → v7
open List renaming mem_singleton → v8
namespace Go.SX
open Go.Proofs
def T3z {P : Program} (l : List (PF P)) : List (PF P) :=l.flatMap fun p=>[p,PF.lend p,PF.fz p]
abbrev alV:Type:=ByteArray
abbrev aaY:CTy:=(CTy.pair CTy.str (CTy.sl 122 (CTy.pair (CTy.int IntKind.i64) (CTy.pair CTy.str (CTy.int IntKind.i64)))))
abbrev ac0:CTy:=(CTy.pair (CTy.int IntKind.i64) (CTy.pair (CTy.int IntKind.i64) (CTy.int IntKind.i64)))
abbrev afs:CTy:=(CTy.pair (CTy.int IntKind.i64) (CTy.pair CTy.str (CTy.int IntKind.i64)))
abbrev ahF:CTy:=(CTy.pair (CTy.int IntKind.i64) (CTy.int IntKind.i64))
abbrev ahG:CTy:=(CTy.sl 2 (CTy.int IntKind.i64))
abbrev akd:CTy:=(CTy.int IntKind.i64)
abbrev ake:CTy:=(CTy.int IntKind.u8)
abbrev alu:CTy:=(CTy.str)
theorem S0z:(∀ (α:Type) (a b:α),(bif true then a else b)=a)∧(∀ (α:Type) (a b:α),(bif false then a else b)=b)∧(∀ (α:Type) (c:Bool) (a:α),(bif c then a else a)=a)∧((!true)=false)∧((!false)=true)∧(∀ b:Bool,(true||b)=true)∧(∀ b:Bool,(b||true)=true)∧(∀ b:Bool,(false||b)=b)∧(∀ b:Bool,(b||false)=b)∧(∀ b:Bool,(b&&b)=b)∧(∀ b:Bool,(b&&true)=b)∧(∀ b:Bool,(true&&b)=b)∧(∀ b:Bool,(false&&b)=false)∧(∀ b:Bool,(b&&false)=false)∧(∀ (α:Type) [BEq α] [LawfulBEq α] (a:α),(a != a)=false)∧(∀ (α:Type) [BEq α] [LawfulBEq α] (a:α),(a==a)=true):=by and_intros <;> intros <;> simp
end Go.SX
namespace Go.SX
open Go.Proofs Go.Proofs.Tryz
set_option maxRecDepth 100000
theorem bG:Tryz.prog.follows .mixedOrders=true:=by kernel_rfl
def aX(x0 x1 x2:Int):Bool:=bif leI x1 x0 then leI x0 x2 else false
def ae2:List SV→List Entry→Option Out
 | [.one ⟨false,[.val (.int .i64 x0)]⟩,.one ⟨false,[.val (.int .i64 x1)]⟩,.one ⟨false,[.val (.int .i64 x2)]⟩],[]=>some ⟨.one ⟨false,[.val (.bool (aX x0 x1 x2))]⟩,[],[],[]⟩
 |_,_=>none
def nQ:PF prog:=PF.ofG prog [] [] bG 90 f90 func90 (fun c _=>LOk.nil c) ae2 (by
 intro vs es r h;unfold ae2 at h;split at h
 ·cases h;kernel_rfl
 ·cases h)
def Wf(x0:List Int):Bool:=allT [leN (0 + v4 x0) 9223372036854775807,leN ((0 + v4 x0) * 8) 140737488355328]
def acL:List SV→List Entry→Option Out
 | [.one ⟨false,[.ref 0]⟩],[.row false 2 (.int .i64) x0]=>some ⟨.one ⟨false,[.ref 1]⟩,[.row false 2 akd x0],[.row true 2 akd x0],[Wf x0]⟩
 |_,_=>none
def ajT:PF prog:=PF.ofG prog [] [] bG 82 f82 func82 (fun c _=>LOk.nil c) acL (by
 intro vs es r h;unfold acL at h;split at h
 ·cases h;kernel_rfl
 ·cases h)
def dO(x0 x1 x2:Int):Bool:=bif leI x1 x0 then leI x0 x2 else false
def acI:List SV→List Entry→Option Out
 | [.one ⟨false,[.val (.int .i64 x0)]⟩,.one ⟨false,[.val (.int .i64 x1)]⟩,.one ⟨false,[.val (.int .i64 x2)]⟩],[]=>some ⟨.one ⟨false,[.val (.bool (dO x0 x1 x2))]⟩,[],[],[]⟩
 |_,_=>none
def Kp:PF prog:=PF.ofG prog [] [] bG 114 f114 func114 (fun c _=>LOk.nil c) acI (by
 intro vs es r h;unfold acI at h;split at h
 ·cases h;kernel_rfl
 ·cases h)
def tV(x0:List Int):Bool:=allT [ltN 0 x0.length,false||leN (0 + v4 x0) 9223372036854775807,false||leN ((0 + v4 x0) * 8) 140737488355328]
def HB:List SV→List Entry→Option Out
 | [.one ⟨false,[.ref 0]⟩],[.row false 2 (.int .i64) x0]=>some ⟨.one ⟨false,[.ref 1]⟩,[.row false 2 akd x0],[.row true 2 akd x0],[tV x0]⟩
 |_,_=>none
def SM:PF prog:=PF.ofG prog [] [] bG 88 f88 func88 (fun c _=>LOk.nil c) HB (by
 intro vs es r h;unfold HB at h;split at h
 ·cases h;kernel_rfl
 ·cases h)
abbrev lV:=Int×List Int×List Int
section
variable (y0:Int)(y1 y2:List Int)
def vQ:Bool:=ltI y0 (↑y1.length:Int)
def vR:Bool:=leI 0 y0
def zE:Bool:=ltN y0.toNat y1.length
def zF:Bool:=ltI y0 (↑y2.length:Int)
def zG:Bool:=ltN y0.toNat y2.length
def zH:Bool:=v5 y1[v3 y0]? 0!=v5 y2[v3 y0]? 0
def zI:Int:=v6 .i64 (y0 + (1:Int))
end
def aca:lV→List (Nat×SV)
 |(y0,_,_)=> [(5,(.one ⟨false,[.val (.int .i64 y0)]⟩)),(0,(.one ⟨false,[.ref 0]⟩)),(1,(.one ⟨false,[.ref 1]⟩))]
def ab3:lV→List (Nat×Entry)
 |(_,y1,y2)=> [(0,(.row false 2 akd y1)),(1,(.row false 2 akd y2))]
def acp:Nat→lV→List (Nat×SV)
 |0,(_,_,_)=> [(4,(.one ⟨false,[.val (.bool false)]⟩))]
 |_,(_,_,_)=> []
def aci:Nat→lV→List (Nat×Entry)
 |0,(_,y1,y2)=> [(0,(.row false 2 akd y1)),(1,(.row false 2 akd y2))]
 |_,(_,y1,y2)=> [(0,(.row false 2 akd y1)),(1,(.row false 2 akd y2))]
def yg:lV→LT lV
 |(y0,y1,y2)=> .ite (vQ y0 y1) (.need [vR y0,vQ y0 y1,zE y0 y1,vR y0,zF y0 y2,zG y0 y2] (.ite (zH y0 y1 y2) (.ext 0 [(0,0),(1,1)]) (.nrm ((zI y0),y1,y2) [(0,0),(1,1)]))) (.ext 1 [(0,0),(1,1)])
def JH(s:St):Option lV:=
 (match s.look 5 with
 |some ⟨none,.one ⟨false,[.val (.int .i64 y0)]⟩⟩=>
 (match s.look 0 with
 |some ⟨none,.one ⟨false,[.ref 0]⟩⟩=>
 (match s.look 1 with
 |some ⟨none,.one ⟨false,[.ref 1]⟩⟩=>
 (match s.ent 0 with
 |some (.row false 2 (.int .i64) y1)=>
 (match s.ent 1 with
 |some (.row false 2 (.int .i64) y2)=>
 some (y0,y1,y2)
 |_=>none)
 |_=>none)
 |_=>none)
 |_=>none)
 |_=>none)
def eI:Lp lV where
 h:=⟨[11,12,13,14,17,18,19,20,21,22,23,24,25,4,15,16,5],[0,1],[],[]⟩
 JL:=aca
 JE:=ab3
 XL:=acp
 XE:=aci
 q:=fun j=>match j with | 0=> .ret | _=> .exit 0
 tags:= [0,1]
 lt:=yg
 fuel:=fun(y0,y1,y2)=>y0.natAbs + y1.length + y2.length
 fix:=fun(_,y1,y2) (y0,_,_)=>(y0,y1,y2)
 σ:= [(0,0),(1,1)]
 rd:=JH
theorem ZB:LoopOk prog (fun k=>Nat.blt k Tryz.f39.ntmps) eI.F (bV f39 0):=by
 refine Lp.ok (tbl:= []) (lf:= []) bG eI (by kernel_rfl) (LOk.nil _) (fun _=>rfl) (fun j _=>by unfold eI;match j with | 0=>rfl | _ + 1=>rfl) ?_ ?_ ?_ ?_ (fun _=>rfl) ?_
 ·rintro⟨y0,y1,y2⟩;kernel_rfl
 ·rintro⟨y0,y1,y2⟩;kernel_rfl
 ·intro s x h
  have h:JH s=some x:=h
  unfold JH at h
  repeat' split at h
  all_goals cases h
  constructor<;>repeat(first|refine ab (by assumption) rfl ?_|refine aa rfl (by assumption) rfl ?_|exact rfl)
 ·rintro⟨y0,y1,y2⟩;kernel_rfl
 ·rintro⟨y0,y1,y2⟩ z;exact(And.intro (And.intro trivial rfl) trivial)
section
variable (x0 x1:List Int)
def IJ:Bool:=(↑x0.length:Int)!=(↑x1.length:Int)
def IK:Int×List Int×List Int:=((0:Int),x0,x1)
def KI:Bool:=bif IJ x0 x1 then false else bif Nat.beq ((Lp.res eI (IK x0 x1)).1) 0 then false else true
def KJ:Bool:=allT [IJ x0 x1||Lp.fin eI (IK x0 x1)]
end
def YB:List SV→List Entry→Option Out
 | [.one ⟨false,[.ref 0]⟩,.one ⟨false,[.ref 1]⟩],[.row false 2 (.int .i64) x0,.row false 2 (.int .i64) x1]=>some ⟨.one ⟨false,[.val (.bool (KI x0 x1))]⟩,[.row false 2 akd x0,.row false 2 akd x1],[],[KJ x0 x1]⟩
 |_,_=>none
def ahR:PF prog:=PF.ofG prog [] [eI.F] bG 39 f39 func39 (LOk.fnT (l:= [bV f39 0]) (by kernel_rfl) (.cons ZB (.nil _))) YB (by
 intro vs es r h;unfold YB at h;split at h
 ·cases h;kernel_rfl
 ·cases h)
def blk(p:Int):Int:=Int.tdiv p 3
def inR(a lo hi:Int):Bool:=leI lo a&&leI a hi
def eqL(xs ys:List Int):Bool:=decide (xs=ys)
theorem alO(xs:List Int):eqL xs xs=true:=by simp [eqL]
theorem tE{a lo hi:Int}:inR a lo hi=true↔lo≤a∧a≤hi:=by simp [inR]
theorem Pn(a lo hi:Int):(bif leI lo a then leI a hi else false)=inR a lo hi:=by
 unfold inR;cases leI lo a <;> rfl
def zy(y1 y2:List Int)(b:Nat):(Unit)→Nat ⊕ (Unit)
 |_=>(bif(v5 y1[b]? 0!=v5 y2[b]? 0)then(.inl 0)else(.inr ()))
def re(y1 y2:List Int)(i:Nat):(Unit)→lV
 |_=>((i:Int),y1,y2)
def JA:lV→Unit
 |(_,_,_)=>()
theorem aeS(y1 y2:List Int) (hn:y1.length≤9223372036854775807) (he:y2.length=y1.length):
  eI.fin ((0:Int),y1,y2)=true∧eI.res ((0:Int),y1,y2)=((cX (zy y1 y2) 1 (List.range y1.length) 0 ()).1,(re y1 y2) (cX (zy y1 y2) 1 (List.range y1.length) 0 ()).2.1 (cX (zy y1 y2) 1 (List.range y1.length) 0 ()).2.2):=by
 have my:=eI.along (re y1 y2) JA (zy y1 y2) 1 (fun _ _=>True) (List.range y1.length) () (by trivial) (by simp only [eI,re,List.length_range];omega) (fun i b a hb hI=> ?_) (fun a hI=> ?_)
 ·exact my
 ·obtain⟨⟩:=a
  obtain⟨rfl,eQ⟩:=Pv hb
  have hw:IntKind.i64.wrap ((b:Int) + 1)=((b + 1:Nat):Int):=by rw [aJ (by omega) (by omega)];omega
  have lz:ltI (b:Int) (y1.length:Int)=true:=cS (by omega)
  have Qg:leI (0:Int) (b:Int)=true:=bu (by omega)
  have yL:ltN b y1.length=true:=dI (by omega)
  refine⟨?_,?_,?_,?_⟩
  ·simp [vQ,vR,zE,zF,zG,zH,zI,yg,eI,LT.nds,allT,re,lz,Qg,yL,he]
  ·simp [vQ,vR,zE,zF,zG,zH,zI,yg,eI,LT.each,re,JA,hw,he]
  ·simp only [vQ,vR,zE,zF,zG,zH,zI,yg,eI,LT.fn,re,JA,zy,w7,lz,cond_true]
  ·exact fun _ _=>trivial
 ·obtain⟨⟩:=a
  simp [vQ,vR,zE,zF,zG,zH,zI,yg,eI,LT.out,re,List.length_range]
theorem al9(xs ys:List Int)(hn:leN xs.length 9223372036854775807=true):KI xs ys=eqL xs ys∧KJ xs ys=true:=by
 have hn:=iv.1 hn
 unfold eqL
 by_cases hl:ys.length=xs.length
 ·obtain⟨w1,w2⟩:=aeS xs ys hn hl
  have ha:=apg (d:=(0:Int)) hl (P:=fun b=>v5 xs[b]? 0 !=v5 ys[b]? 0) (fun b=>by simp [bne,BEq.beq])
  rw [ow (P:=fun b=>v5 xs[b]? 0 !=v5 ys[b]? 0) (j:=0) (fun b=>rfl),ha]at w2
  simp only [IJ,IK,KI,KJ,w1,w2,allT]
  by_cases he:xs=ys
  ·subst he;simp;decide
  ·simp [he,hl]
 ·have RP:xs≠ys:=fun h=>hl (by rw [h])
  simp [IJ,IK,KI,KJ,allT,RP]
  omega
def YO:List SV→List Entry→Option Out
 | [.one ⟨false,[.ref 0]⟩,.one ⟨false,[.ref 1]⟩],[.row false 2 (.int .i64) x0,.row false 2 (.int .i64) x1]=>some ⟨.one ⟨false,[.val (.bool (eqL x0 x1))]⟩,[.row false 2 akd x0,.row false 2 akd x1],[],[leN x0.length 9223372036854775807]⟩
 |_,_=>none
def Bj:PF prog:=PF.alt ahR YO (by
 intro args es o h cf;unfold YO at h;split at h
 ·rename_i x0 x1
  cases h
  have cf:=iw cf
  have hh:=al9 x0 x1 cf
  obtain⟨e0,en⟩:=hh
  exact mK rfl (gE en) (by simp only [e0] <;> rfl) rfl rfl
 ·cases h)
theorem apn(xs:List Int)(h:(leN 1 xs.length&&leN xs.length 1048576)=true):tV xs=true:=by
 simp only [w5,iv]at h
 simp [tV,allT]
 omega
def ahc:List SV→List Entry→Option Out
 | [.one ⟨false,[.val (.slice none 0 0)]⟩],[]=>some ⟨.one ⟨false,[.ref 0]⟩,[],[.row true 2 (.int .i64) []],[true]⟩
 |_,_=>none
def amk:PF prog:=PF.ofG prog [PF.raw prog] [] bG 88 f88 func88 (fun c _=>LOk.nil c) ahc (by
 intro vs es r h;unfold ahc at h;split at h
 ·cases h;kernel_rfl
 ·cases h)
def ahb:List SV→List Entry→Option Out
 | [.one ⟨false,[.val (.slice (some _) 0 _)]⟩],[]=>some ⟨.one ⟨false,[.ref 0]⟩,[],[.row true 2 (.int .i64) []],[true]⟩
 |_,_=>none
def amj:PF prog:=PF.ofG prog [] [] bG 88 f88 func88 (fun c _=>LOk.nil c) ahb (by
 intro vs es r h;unfold ahb at h;split at h
 ·cases h;kernel_rfl
 ·cases h)
def HE:List SV→List Entry→Option Out
 | [.one ⟨false,[.ref 0]⟩],[.row false 2 (.int .i64) x0]=>some ⟨.one ⟨false,[.ref 1]⟩,[.row false 2 (.int .i64) x0],[.row true 2 (.int .i64) x0],[leN x0.length 1048576]⟩
 |_,_=>none
def na:PF prog where
 k:=88
 F:=HE
 ok:=by
  intro args es o h cf mem ρ w hp
  unfold HE at h
  split at h
  ·rename_i x0
   cases h
   have hl:=cf _ (v8.2 rfl)
   cases x0 with
   |nil=>
    exact(apm amk amj rfl rfl rfl (fun _ _=>rfl) (by simp) (by simp) hp).mono fun en w' ⟨ρ',h1,h2,h3⟩=>⟨ρ',h1,h2,rfl,(by intro v hv;rw [v8.1 hv];rfl),h3⟩
   |cons x xs=>exact SM.ok _ _ ⟨_,_,_,[tV (x::xs)]⟩ rfl (fun b hb=>by rw [v8.1 hb];exact apn (x::xs) ((w5 _ _).mpr ⟨aR (Nat.succ_pos _),hl⟩)) mem ρ w hp
  ·cases h
theorem arm(xs:List Int)(h:leN xs.length 1048576=true):Wf xs=true:=by
 have h:=iv.1 h
 simp [Wf,allT]
 omega
def acV:List SV→List Entry→Option Out
 | [.one ⟨false,[.ref 0]⟩],[.row false 2 (.int .i64) x0]=>some ⟨.one ⟨false,[.ref 1]⟩,[.row false 2 akd x0],[.row true 2 akd x0],[leN x0.length 1048576]⟩
 |_,_=>none
def aE:PF prog:=PF.alt ajT acV (by
 intro args es o h cf;unfold acV at h;split at h
 ·rename_i x0
  cases h
  have cf:=iw cf
  have hh:=arm x0 cf
  have en:=hh
  exact mK rfl (gE en) rfl rfl rfl
 ·cases h)
def DK(x0:Int):Bool:=bif leI 97 x0 then leI x0 122 else false
def Wx:List SV→List Entry→Option Out
 | [.one ⟨false,[.val (.int .u8 x0)]⟩],[]=>some ⟨.one ⟨false,[.val (.bool (DK x0))]⟩,[],[],[]⟩
 |_,_=>none
def Pu:PF prog:=PF.ofG prog [] [] bG 195 f195 func195 (fun c _=>LOk.nil c) Wx (by
 intro vs es r h;unfold Wx at h;split at h
 ·cases h;kernel_rfl
 ·cases h)
def Ri(x0:Int):Bool:=bif leI 48 x0 then leI x0 57 else false
def YC:List SV→List Entry→Option Out
 | [.one ⟨false,[.val (.int .u8 x0)]⟩],[]=>some ⟨.one ⟨false,[.val (.bool (Ri x0))]⟩,[],[],[]⟩
 |_,_=>none
def ahS:PF prog:=PF.ofG prog [] [] bG 200 f200 func200 (fun c _=>LOk.nil c) YC (by
 intro vs es r h;unfold YC at h;split at h
 ·cases h;kernel_rfl
 ·cases h)
def KL(x0:Int):Bool:=bif bif DK x0 then true else Ri x0 then true else x0==95
def YD:List SV→List Entry→Option Out
 | [.one ⟨false,[.val (.int .u8 x0)]⟩],[]=>some ⟨.one ⟨false,[.val (.bool (KL x0))]⟩,[],[],[]⟩
 |_,_=>none
def YV:PF prog:=PF.ofG prog [Pu,ahS] [] bG 194 f194 func194 (fun c _=>LOk.nil c) YD (by
 intro vs es r h;unfold YD at h;split at h
 ·cases h;kernel_rfl
 ·cases h)
abbrev rk:=Int×alV
section
variable (y0:Int)(y1:alV)
def BJ:Bool:=ltI y0 (↑(ByteArray.size y1):Int)
def UM:Bool:=leI 0 y0
def Nt:Bool:= !KL (↑(UInt8.toNat (v5 y1[v3 y0]? (0:UInt8))):Int)
def UN:Int:=v6 .i64 (y0 + (1:Int))
end
def adq:rk→List (Nat×SV)
 |(y0,y1)=> [(3,(.one ⟨false,[.val (.int .i64 y0)]⟩)),(0,(.one ⟨false,[.val (.string y1)]⟩))]
def adh:rk→List (Nat×Entry)
 |(_,_)=> []
def adI:Nat→rk→List (Nat×SV)
 |0,(_,_)=> [(2,(.one ⟨false,[.val (.bool false)]⟩))]
 |_,(_,_)=> []
def adz:Nat→rk→List (Nat×Entry)
 |0,(_,_)=> []
 |_,(_,_)=> []
def zN:rk→LT rk
 |(y0,y1)=> .ite (BJ y0 y1) (.need [UM y0,BJ y0 y1] (.ite (Nt y0 y1) (.ext 0 []) (.nrm ((UN y0),y1) []))) (.ext 1 [])
def Lw(s:St):Option rk:=
 (match s.look 3 with
 |some ⟨none,.one ⟨false,[.val (.int .i64 y0)]⟩⟩=>
 (match s.look 0 with
 |some ⟨none,.one ⟨false,[.val (.string y1)]⟩⟩=>
 some (y0,y1)
 |_=>none)
 |_=>none)
def fD:Lp rk where
 h:=⟨[4,5,6,7,10,11,12,13,14,2,8,9,3],[],[],[]⟩
 JL:=adq
 JE:=adh
 XL:=adI
 XE:=adz
 q:=fun j=>match j with | 0=> .ret | _=> .exit 0
 tags:= [0,1]
 lt:=zN
 fuel:=fun(y0,y1)=>y0.natAbs + y1.size
 fix:=fun(_,y1) (y0,_)=>(y0,y1)
 σ:= []
 rd:=Lw
theorem aa3:LoopOk prog (fun k=>Nat.blt k Tryz.f178.ntmps) fD.F (bV f178 0):=by
 refine Lp.ok (tbl:= [nQ,YV,Pu]) (lf:= []) bG fD (by kernel_rfl) (LOk.nil _) (fun _=>rfl) (fun j _=>by unfold fD;match j with | 0=>rfl | _ + 1=>rfl) ?_ ?_ ?_ ?_ (fun _=>rfl) ?_
 ·rintro⟨y0,y1⟩;kernel_rfl
 ·rintro⟨y0,y1⟩;kernel_rfl
 ·intro s x h
  have h:Lw s=some x:=h
  unfold Lw at h
  repeat' split at h
  all_goals cases h
  exact⟨ab (by assumption) rfl (ab (by assumption) rfl (rfl)),rfl⟩
 ·rintro⟨y0,y1⟩;kernel_rfl
 ·rintro⟨y0,y1⟩ z;exact(And.intro (And.intro trivial rfl) trivial)
section
variable (x0:alV)
def KM:Bool:=Nat.beq ((Lp.res fD ((0:Int),x0)).1) 0
def KN:Bool:=aX (↑(ByteArray.size x0):Int) 1 12
def Tk:Bool:=bif KM x0 then false else bif KN x0 then DK (↑(UInt8.toNat (v5 x0[v3 0]? (0:UInt8))):Int)else false
def Tl:Bool:=allT [Lp.fin fD ((0:Int),x0),KM x0||(!(KN x0&&true)||leI 0 0),KM x0||(!(KN x0&&true)||ltI 0 (↑(ByteArray.size x0):Int))]
end
def ZV:List SV→List Entry→Option Out
 | [.one ⟨false,[.val (.string x0)]⟩],[]=>some ⟨.one ⟨false,[.val (.bool (Tk x0))]⟩,[],[],[Tl x0]⟩
 |_,_=>none
def ai7:PF prog:=PF.ofG prog [nQ,YV,Pu] [fD.F] bG 178 f178 func178 (LOk.fnT (l:= [bV f178 0]) (by kernel_rfl) (.cons aa3 (.nil _))) ZV (by
 intro vs es r h;unfold ZV at h;split at h
 ·cases h;kernel_rfl
 ·cases h)
def LG:List alV:=
 [{ data:= #[(112:UInt8),(114:UInt8),(111:UInt8),(103:UInt8),(114:UInt8),(97:UInt8),(109:UInt8)] },
 {data:= #[(105:UInt8),(110:UInt8)] },{ data:= #[(118:UInt8),(97:UInt8),(114:UInt8)] },
 {data:= #[(111:UInt8),(117:UInt8),(116:UInt8)] },{ data:= #[(103:UInt8),(117:UInt8),(97:UInt8),(114:UInt8),(100:UInt8)] },
 {data:= #[(101:UInt8),(110:UInt8),(100:UInt8)] },{ data:= #[(97:UInt8),(110:UInt8),(100:UInt8)] },
 {data:= #[(111:UInt8),(114:UInt8)] },{ data:= #[(110:UInt8),(111:UInt8),(116:UInt8)] },
 {data:= #[(116:UInt8),(114:UInt8),(117:UInt8),(101:UInt8)] },
 {data:= #[(102:UInt8),(97:UInt8),(108:UInt8),(115:UInt8),(101:UInt8)] },{ data:= #[(111:UInt8),(110:UInt8)] },
 {data:= #[(111:UInt8),(102:UInt8),(102:UInt8)] },{ data:= #[(114:UInt8),(105:UInt8),(115:UInt8),(101:UInt8)] },
 {data:= #[(108:UInt8),(97:UInt8),(116:UInt8),(99:UInt8),(104:UInt8)] },
 {data:= #[(99:UInt8),(111:UInt8),(117:UInt8),(110:UInt8),(116:UInt8)] },
 {data:= #[(112:UInt8),(97:UInt8),(105:UInt8),(114:UInt8)] }]
def Sh:List SV→List Entry→Option Out
 | [],[]=>some ⟨.one ⟨false,[.ref 0]⟩,[],[.row true 9 alu (LG)],[]⟩
 |_,_=>none
def SN:PF prog:=PF.ofG prog [] [] bG 196 f196 func196 (fun c _=>LOk.nil c) Sh (by
 intro vs es r h;unfold Sh at h;split at h
 ·cases h;kernel_rfl
 ·cases h)
abbrev jy:=Int×alV×List alV
section
variable (y0:Int)(y1:alV)(y2:List alV)
def sJ:Bool:=ltI y0 (↑y2.length:Int)
def wR:Bool:=leI 0 y0
def wS:Bool:=ltN y0.toNat y2.length
def wT:Bool:=ByteArray.toList (v5 y2[v3 y0]? ByteArray.empty)==ByteArray.toList y1
def wU:Int:=v6 .i64 (y0 + (1:Int))
end
def Zk:jy→List (Nat×SV)
 |(y0,y1,_)=> [(4,(.one ⟨false,[.val (.int .i64 y0)]⟩)),(3,(.one ⟨false,[.ref 0]⟩)),(0,(.one ⟨false,[.val (.string y1)]⟩))]
def Zf:jy→List (Nat×Entry)
 |(_,_,y2)=> [(0,(.row true 9 alu y2))]
def Zu:Nat→jy→List (Nat×SV)
 |0,(y0,_,_)=> [(2,(.one ⟨false,[.val (.int .i64 y0)]⟩))]
 |_,(_,_,_)=> []
def Zp:Nat→jy→List (Nat×Entry)
 |0,(_,_,y2)=> [(0,(.row true 9 alu y2))]
 |_,(_,_,y2)=> [(0,(.row true 9 alu y2))]
def vi:jy→LT jy
 |(y0,y1,y2)=> .ite (sJ y0 y2) (.need [wR y0,sJ y0 y2,wS y0 y2] (.ite (wT y0 y1 y2) (.ext 0 [(0,0)]) (.nrm ((wU y0),y1,y2) [(0,0)]))) (.ext 1 [(0,0)])
def Gp(s:St):Option jy:=
 (match s.look 4 with
 |some ⟨none,.one ⟨false,[.val (.int .i64 y0)]⟩⟩=>
 (match s.look 3 with
 |some ⟨none,.one ⟨false,[.ref 128]⟩⟩=>
 (match s.look 0 with
 |some ⟨none,.one ⟨false,[.val (.string y1)]⟩⟩=>
 (match s.ent 128 with
 |some (.row true 9 (.str) y2)=>
 some (y0,y1,y2)
 |_=>none)
 |_=>none)
 |_=>none)
 |_=>none)
def dr:Lp jy where
 h:=⟨[6,7,8,9,12,13,14,15,16,17,18,2,10,11,4],[0],[],[]⟩
 JL:=Zk
 JE:=Zf
 XL:=Zu
 XE:=Zp
 q:=fun j=>match j with | 0=> .ret | _=> .exit 0
 tags:= [0,1]
 lt:=vi
 fuel:=fun(y0,y1,y2)=>y0.natAbs + y1.size + y2.length
 fix:=fun(_,y1,y2) (y0,_,_)=>(y0,y1,y2)
 σ:= [(0,128)]
 rd:=Gp
theorem WZ:LoopOk prog (fun k=>Nat.blt k Tryz.f179.ntmps) dr.F (bV f179 0):=by
 refine Lp.ok (tbl:= [SN]) (lf:= []) bG dr (by kernel_rfl) (LOk.nil _) (fun _=>rfl) (fun j _=>by unfold dr;match j with | 0=>rfl | _ + 1=>rfl) ?_ ?_ ?_ ?_ (fun _=>rfl) ?_
 ·rintro⟨y0,y1,y2⟩;kernel_rfl
 ·rintro⟨y0,y1,y2⟩;kernel_rfl
 ·intro s x h
  have h:Gp s=some x:=h
  unfold Gp at h
  repeat' split at h
  all_goals cases h
  constructor<;>repeat(first|refine ab (by assumption) rfl ?_|refine aa rfl (by assumption) rfl ?_|exact rfl)
 ·rintro⟨y0,y1,y2⟩;kernel_rfl
 ·rintro⟨y0,y1,y2⟩ z;exact(And.intro (And.intro trivial rfl) trivial)
section
variable (x0:alV)
def Fh:Int×alV×List alV:=((0:Int),x0,LG)
def Hc:Int:=bif Nat.beq ((Lp.res dr (Fh x0)).1) 0 then ((Lp.res dr (Fh x0)).2).1else(-1:Int)
def Hd:Bool:=allT [Lp.fin dr (Fh x0)]
end
def Uo:List SV→List Entry→Option Out
 | [.one ⟨false,[.val (.string x0)]⟩],[]=>some ⟨.one ⟨false,[.val (.int .i64 (Hc x0))]⟩,[],[],[Hd x0]⟩
 |_,_=>none
def afI:PF prog:=PF.ofG prog [SN] [dr.F] bG 179 f179 func179 (LOk.fnT (l:= [bV f179 0]) (by kernel_rfl) (.cons WZ (.nil _))) Uo (by
 intro vs es r h;unfold Uo at h;split at h
 ·cases h;kernel_rfl
 ·cases h)
def tF(x0:alV)(x1:Int):Int:=ibs x0 x1
def Bu:List SV→List Entry→Option Out
 | [.one ⟨false,[.val (.string x0)]⟩,.one ⟨false,[.val (.int .u8 x1)]⟩],[]=>some ⟨.one ⟨false,[.val (.int .i64 (tF x0 x1))]⟩,[],[],[]⟩
 |_,_=>none
def MY:PF prog:=PF.ofG prog [] [] bG 201 f201 func201 (fun c _=>LOk.nil c) Bu (by
 intro vs es r h;unfold Bu at h;split at h
 ·cases h;kernel_rfl
 ·cases h)
def Dp(x0:alV)(x1:Int):Int:=tF x0 x1
def Rx:List SV→List Entry→Option Out
 | [.one ⟨false,[.val (.string x0)]⟩,.one ⟨false,[.val (.int .u8 x1)]⟩],[]=>some ⟨.one ⟨false,[.val (.int .i64 (Dp x0 x1))]⟩,[],[],[]⟩
 |_,_=>none
def Jz:PF prog:=PF.ofG prog [MY] [] bG 197 f197 func197 (fun c _=>LOk.nil c) Rx (by
 intro vs es r h;unfold Rx at h;split at h
 ·cases h;kernel_rfl
 ·cases h)
abbrev zc:=Int×Int×alV×alV
section
variable (y0 y1:Int)(y2 y3:alV)
def wN:Bool:=ltI (v6 .i64 (y0 + y1)) (↑(ByteArray.size y2):Int)
def VO:Bool:= !(wN y0 y1 y2&&true)||leI 0 (v6 .i64 (y0 + y1))
def VP:Bool:= !(wN y0 y1 y2&&true)||wN y0 y1 y2
def Qj:Bool:=bif wN y0 y1 y2 then leI 0 (Dp y3 (↑(UInt8.toNat (v5 y2[v3 (v6 .i64 (y0 + y1))]? (0:UInt8))):Int))else false
def ac2:Int:=v6 .i64 (y1 + (1:Int))
end
def aia:zc→List (Nat×SV)
 |(y0,y1,y2,y3)=> [(1,(.one ⟨false,[.val (.int .i64 y0)]⟩)),(7,(.one ⟨false,[.val (.int .i64 y1)]⟩)),(0,(.one ⟨false,[.val (.string y2)]⟩)),(2,(.one ⟨false,[.val (.string y3)]⟩))]
def ah9:zc→List (Nat×Entry)
 |(_,_,_,_)=> []
def aid:Nat→zc→List (Nat×SV)
 |_,(_,y1,_,_)=> [(7,(.one ⟨false,[.val (.int .i64 y1)]⟩))]
def aic:Nat→zc→List (Nat×Entry)
 |_,(_,_,_,_)=> []
def HY:zc→LT zc
 |(y0,y1,y2,y3)=> .need [VO y0 y1 y2,VP y0 y1 y2] (.ite (Qj y0 y1 y2 y3) (.nrm (y0,ac2 y1,y2,y3) []) (.ext 0 []))
def SU(s:St):Option zc:=
 (match s.look 1 with
 |some ⟨none,.one ⟨false,[.val (.int .i64 y0)]⟩⟩=>
 (match s.look 7 with
 |some ⟨none,.one ⟨false,[.val (.int .i64 y1)]⟩⟩=>
 (match s.look 0 with
 |some ⟨none,.one ⟨false,[.val (.string y2)]⟩⟩=>
 (match s.look 2 with
 |some ⟨none,.one ⟨false,[.val (.string y3)]⟩⟩=>
 some (y0,y1,y2,y3)
 |_=>none)
 |_=>none)
 |_=>none)
 |_=>none)
def jl:Lp zc where
 h:=⟨[8,9,10,11,12,13,14,15,16,17,18,19,20,21,22,23,24,25,7],[],[],[]⟩
 JL:=aia
 JE:=ah9
 XL:=aid
 XE:=aic
 q:=fun j=>match j with | _=> .exit 0
 tags:= [0]
 lt:=HY
 fuel:=fun(y0,y1,y2,y3)=>y0.natAbs + y1.natAbs + y2.size + y3.size
 fix:=fun(y0,_,y2,y3) (_,y1,_,_)=>(y0,y1,y2,y3)
 σ:= []
 rd:=SU
theorem agu:LoopOk prog (fun k=>Nat.blt k Tryz.f198.ntmps) jl.F (bV f198 0):=by
 refine Lp.ok (tbl:= [Jz]) (lf:= []) bG jl (by kernel_rfl) (LOk.nil _) (fun _=>rfl) (fun _ _=>rfl) ?_ ?_ ?_ ?_ (fun _=>rfl) ?_
 ·rintro⟨y0,y1,y2,y3⟩;kernel_rfl
 ·rintro⟨y0,y1,y2,y3⟩;kernel_rfl
 ·intro s x h
  have h:SU s=some x:=h
  unfold SU at h
  repeat' split at h
  all_goals cases h
  exact⟨ab (by assumption) rfl (ab (by assumption) rfl (ab (by assumption) rfl (ab (by assumption) rfl (rfl)))),rfl⟩
 ·rintro⟨y0,y1,y2,y3⟩;kernel_rfl
 ·rintro⟨y0,y1,y2,y3⟩ z;exact(And.intro rfl trivial)
section
variable (x0:alV)(x1:Int)(x2:alV)
def ahl:Int×Int×alV×alV:=(x1,(0:Int),x0,x2)
def aiF:Int:=((Lp.res jl (ahl x0 x1 x2)).2.2).1
def aiG:Bool:=allT [Lp.fin jl (ahl x0 x1 x2)]
end
def ah7:List SV→List Entry→Option Out
 | [.one ⟨false,[.val (.string x0)]⟩,.one ⟨false,[.val (.int .i64 x1)]⟩,.one ⟨false,[.val (.string x2)]⟩],[]=>some ⟨.one ⟨false,[.val (.int .i64 (aiF x0 x1 x2))]⟩,[],[],[aiG x0 x1 x2]⟩
 |_,_=>none
def anD:PF prog:=PF.ofG prog [Jz] [jl.F] bG 198 f198 func198 (LOk.fnT (l:= [bV f198 0]) (by kernel_rfl) (.cons agu (.nil _))) ah7 (by
 intro vs es r h;unfold ah7 at h;split at h
 ·cases h;kernel_rfl
 ·cases h)
def wM(x0:alV):Bool:=dO (↑(ByteArray.size x0):Int) 1 12
def Dy(x0:alV):Bool:=
 bif wM x0 then
 leI (0:Int)
  (Dp
   {
    data:=
     #[(97:UInt8),(98:UInt8),(99:UInt8),(100:UInt8),(101:UInt8),(102:UInt8),(103:UInt8),(104:UInt8),(105:UInt8),
      (106:UInt8),(107:UInt8),(108:UInt8),(109:UInt8),(110:UInt8),(111:UInt8),(112:UInt8),(113:UInt8),(114:UInt8),
      (115:UInt8),(116:UInt8),(117:UInt8),(118:UInt8),(119:UInt8),(120:UInt8),(121:UInt8),(122:UInt8)] }
   (↑(UInt8.toNat (v5 x0[v3 (0:Int)]? (0:UInt8))):Int))
 else false
def VM(x0:alV):Bool:=
 bif Dy x0 then
 aiF x0 (0:Int)
   {
    data:=
     #[(97:UInt8),(98:UInt8),(99:UInt8),(100:UInt8),(101:UInt8),(102:UInt8),(103:UInt8),(104:UInt8),(105:UInt8),
      (106:UInt8),(107:UInt8),(108:UInt8),(109:UInt8),(110:UInt8),(111:UInt8),(112:UInt8),(113:UInt8),(114:UInt8),
      (115:UInt8),(116:UInt8),(117:UInt8),(118:UInt8),(119:UInt8),(120:UInt8),(121:UInt8),(122:UInt8),(48:UInt8),
      (49:UInt8),(50:UInt8),(51:UInt8),(52:UInt8),(53:UInt8),(54:UInt8),(55:UInt8),(56:UInt8),(57:UInt8),
      (95:UInt8)] } ==
  (↑(ByteArray.size x0):Int)
 else false
def VN(x0:alV):Bool:=
 allT
 [!(wM x0&&true)||leI (0:Int) (0:Int),!(wM x0&&true)||ltI (0:Int) (↑(ByteArray.size x0):Int),
  !(Dy x0&&true)||
   aiG x0 (0:Int)
    {
     data:=
      #[(97:UInt8),(98:UInt8),(99:UInt8),(100:UInt8),(101:UInt8),(102:UInt8),(103:UInt8),(104:UInt8),(105:UInt8),
       (106:UInt8),(107:UInt8),(108:UInt8),(109:UInt8),(110:UInt8),(111:UInt8),(112:UInt8),(113:UInt8),(114:UInt8),
       (115:UInt8),(116:UInt8),(117:UInt8),(118:UInt8),(119:UInt8),(120:UInt8),(121:UInt8),(122:UInt8),(48:UInt8),
       (49:UInt8),(50:UInt8),(51:UInt8),(52:UInt8),(53:UInt8),(54:UInt8),(55:UInt8),(56:UInt8),(57:UInt8),
       (95:UInt8)] }]
def acH:List SV→List Entry→Option Out
 | [.one ⟨false,[.val (.string x0)]⟩],[]=>some ⟨.one ⟨false,[.val (.bool (VM x0))]⟩,[],[],[VN x0]⟩
 |_,_=>none
def ajQ:PF prog:=PF.ofG prog [Kp,Jz,anD] [] bG 181 f181 func181 (fun c _=>LOk.nil c) acH (by
 intro vs es r h;unfold acH at h;split at h
 ·cases h;kernel_rfl
 ·cases h)
abbrev di:=Int×Int×alV×List alV
section
variable (y0 y1:Int)(y2:alV)(y3:List alV)
def mo:Bool:=ltI y0 y1
def mq:Bool:=leI 0 y0
def mr:Bool:=ltI y0 (↑y3.length:Int)
def mt:Bool:=ltN y0.toNat y3.length
def mu:Bool:=ByteArray.toList y2==ByteArray.toList (v5 y3[v3 y0]? ByteArray.empty)
def mv:Int:=v6 .i64 (y0 + (1:Int))
end
def MK:di→List (Nat×SV)
 |(y0,y1,y2,_)=> [(8,(.one ⟨false,[.val (.int .i64 y0)]⟩)),(7,(.one ⟨false,[.val (.int .i64 y1)]⟩)),(1,(.one ⟨false,[.val (.string y2)]⟩)),(0,(.one ⟨false,[.ref 0]⟩))]
def MJ:di→List (Nat×Entry)
 |(_,_,_,y3)=> [(0,(.row false 9 alu y3))]
def MM:Nat→di→List (Nat×SV)
 |0,(y0,_,_,_)=> [(4,(.one ⟨false,[.val (.int .i64 y0)]⟩))]
 |_,(_,_,_,_)=> []
def ML:Nat→di→List (Nat×Entry)
 |0,(_,_,_,y3)=> [(0,(.row false 9 alu y3))]
 |_,(_,_,_,y3)=> [(0,(.row false 9 alu y3))]
def lH:di→LT di
 |(y0,y1,y2,y3)=> .ite (mo y0 y1) (.need [mq y0,mr y0 y3,mt y0 y3] (.ite (mu y0 y2 y3) (.ext 0 [(0,0)]) (.nrm ((mv y0),y1,y2,y3) [(0,0)]))) (.ext 1 [(0,0)])
def tS(s:St):Option di:=
 (match s.look 8 with
 |some ⟨none,.one ⟨false,[.val (.int .i64 y0)]⟩⟩=>
 (match s.look 7 with
 |some ⟨none,.one ⟨false,[.val (.int .i64 y1)]⟩⟩=>
 (match s.look 1 with
 |some ⟨none,.one ⟨false,[.val (.string y2)]⟩⟩=>
 (match s.look 0 with
 |some ⟨none,.one ⟨false,[.ref 0]⟩⟩=>
 (match s.ent 0 with
 |some (.row false 9 (.str) y3)=>
 some (y0,y1,y2,y3)
 |_=>none)
 |_=>none)
 |_=>none)
 |_=>none)
 |_=>none)
def bi:Lp di where
 h:=⟨[9,10,5,11,12,13,14,15,16,17,4,18,8],[0],[],[]⟩
 JL:=MK
 JE:=MJ
 XL:=MM
 XE:=ML
 q:=fun j=>match j with | 0=> .ret | _=> .exit 0
 tags:= [0,1]
 lt:=lH
 fuel:=fun(y0,y1,y2,y3)=>y0.natAbs + y1.natAbs + y2.size + y3.length
 fix:=fun(_,y1,y2,y3) (y0,_,_,_)=>(y0,y1,y2,y3)
 σ:= [(0,0)]
 rd:=tS
theorem Lo:LoopOk prog (fun k=>Nat.blt k Tryz.f59.ntmps) bi.F (bV f59 0):=by
 refine Lp.ok (tbl:= []) (lf:= []) bG bi (by kernel_rfl) (LOk.nil _) (fun _=>rfl) (fun j _=>by unfold bi;match j with | 0=>rfl | _ + 1=>rfl) ?_ ?_ ?_ ?_ (fun _=>rfl) ?_
 ·rintro⟨y0,y1,y2,y3⟩;kernel_rfl
 ·rintro⟨y0,y1,y2,y3⟩;kernel_rfl
 ·intro s x h
  have h:tS s=some x:=h
  unfold tS at h
  repeat' split at h
  all_goals cases h
  constructor<;>repeat(first|refine ab (by assumption) rfl ?_|refine aa rfl (by assumption) rfl ?_|exact rfl)
 ·rintro⟨y0,y1,y2,y3⟩;kernel_rfl
 ·rintro⟨y0,y1,y2,y3⟩ z;exact(And.intro (And.intro trivial rfl) trivial)
section
variable (x0:alV)(x1:List alV)
def rt:Int×Int×alV×List alV:=((0:Int),(↑x1.length:Int),x0,x1)
def xT:Int:=bif Nat.beq ((Lp.res bi (rt x0 x1)).1) 0 then ((Lp.res bi (rt x0 x1)).2).1else(-1:Int)
def xU:Bool:=allT [Lp.fin bi (rt x0 x1)]
end
def FE:List SV→List Entry→Option Out
 | [.one ⟨false,[.ref 0]⟩,.one ⟨false,[.val (.string x0)]⟩],[.row false 9 (.str) x1]=>some ⟨.one ⟨false,[.val (.int .i64 (xT x0 x1))]⟩,[.row false 9 alu x1],[],[xU x0 x1]⟩
 |_,_=>none
def xR:PF prog:=PF.ofG prog [] [bi.F] bG 59 f59 func59 (LOk.fnT (l:= [bV f59 0]) (by kernel_rfl) (.cons Lo (.nil _))) FE (by
 intro vs es r h;unfold FE at h;split at h
 ·cases h;kernel_rfl
 ·cases h)
def uV(x0:alV)(x1:List alV):Bool:=leI 0 (xT x0 x1)
def uW(x0:alV)(x1:List alV):Bool:=allT [xU x0 x1]
def CF:List SV→List Entry→Option Out
 | [.one ⟨false,[.ref 0]⟩,.one ⟨false,[.val (.string x0)]⟩],[.row false 9 (.str) x1]=>some ⟨.one ⟨false,[.val (.bool (uV x0 x1))]⟩,[.row false 9 alu x1],[],[uW x0 x1]⟩
 |_,_=>none
def uU:PF prog:=PF.ofG prog (T3z [xR]) [] bG 156 f156 func156 (fun c _=>LOk.nil c) CF (by
 intro vs es r h;unfold CF at h;split at h
 ·cases h;kernel_rfl
 ·cases h)
def Pj(x0:alV):Bool:=uV x0 (List.drop (v3 0) (List.take (v3 (↑(v4 abE):Int)) abE))
def Pk(x0:alV):Bool:=allT [uW x0 (List.drop (v3 0) (List.take (v3 (↑(v4 abE):Int)) abE))]
def Wq:List SV→List Entry→Option Out
 | [.one ⟨false,[.val (.string x0)]⟩],[]=>some ⟨.one ⟨false,[.val (.bool (Pj x0))]⟩,[],[],[Pk x0]⟩
 |_,_=>none
def agJ:PF prog:=PF.ofG prog (T3z [uU]) [] bG 182 f182 func182 (fun c _=>LOk.nil c) Wq (by
 intro vs es r h;unfold Wq at h;split at h
 ·cases h;kernel_rfl
 ·cases h)
theorem Lp.scan{X:Type}(p:Lp X)(st:Nat→X)(N:Nat)(P:Nat→Bool)(e:Nat)(hN:N≤p.fuel (st 0))
  (hs: ∀ b,b < N→(p.lt (st b)).nds=true∧(p.lt (st b)).each (fun y=>y=st (b + 1))∧(p.lt (st b)).fn (fun _=>())=(bif P b then .inl 0 else .inr ()))
  (he:(p.lt (st N)).out=some (.inl e)):p.fin (st 0)=true∧(p.res (st 0)).1=bif(List.range N).any P then 0 else e:=by
 have my:=p.along (fun i (_:Unit)=>st i) (fun _=>()) (fun(b:Nat) (_:Unit)=>bif P b then .inl 0 else .inr ()) e (fun _ _=>True) (List.range N) () trivial (by rw [List.length_range];exact hN)
  (fun i b a hb _=>by
   obtain⟨rfl,eQ⟩:=Pv hb
   obtain⟨h1,h2,h3⟩:=hs b eQ
   exact⟨h1,h2,h3,fun _ _=>trivial⟩) (fun a _=>by rw [List.length_range];exact he)
 rw [ow (P:=P) (j:=0) (fun b=>rfl)]at my
 exact⟨my.1,by rw [my.2]⟩
def bAt(s:alV)(b:Nat):Int:=((s[b]?.getD 0).toNat:Int)
def al8(c:Int):Bool:=inR c 97 122
def ZA(c:Int):Bool:=al8 c||(inR c 48 57||c==95)
def TW(s:alV):Bool:=inR (s.size:Int) 1 12&&(al8 (bAt s 0)&&(List.range s.size).all fun b=>ZA (bAt s b))
def anq(s:alV):Bool:=abE.any fun k=>k.toList==s.toList
def uK(s:alV):Bool:=TW s&& !anq s
def aq2:alV:=⟨#[97,98,99,100,101,102,103,104,105,106,107,108,109,110,111,112,113,114,115,116,117,118,119,120,121,122]⟩
def wbS:alV:=⟨#[97,98,99,100,101,102,103,104,105,106,107,108,109,110,111,112,113,114,115,116,117,118,119,120,121,122,48,49,50,51,52,53,54,55,56,57,95]⟩
theorem aqf: ∀ n:Nat,n < 256→leI 0 (ibs aq2 (n:Int))=al8 (n:Int):=by decide +kernel
theorem arx: ∀ n:Nat,n < 256→leI 0 (ibs wbS (n:Int))=ZA (n:Int):=by decide +kernel
theorem aq3(s:alV)(b:Nat):leI 0 (ibs aq2 (bAt s b))=al8 (bAt s b):=aqf _ (UInt8.toNat_lt _)
theorem arP(s:alV)(b:Nat):leI 0 (ibs wbS (bAt s b))=ZA (bAt s b):=arx _ (UInt8.toNat_lt _)
theorem ao8(c:Int):KL c=ZA c:=by
 simp only [KL,DK,Ri,Pn,ZA,al8]
 cases inR c 97 122 <;> cases inR c 48 57 <;> rfl
theorem anY(s:alV)(hn:s.size≤9223372036854775807):
  fD.fin ((0:Int),s)=true∧(fD.res ((0:Int),s)).1=bif(List.range s.size).any (fun b=> !ZA (bAt s b))then 0 else 1:=by
 refine Lp.scan fD (fun b=>((b:Int),s)) s.size (fun b=> !ZA (bAt s b)) 1 (by simp only [fD];omega) (fun b hb=> ?_) ?_
 ·have lz:ltI (b:Int) (s.size:Int)=true:=cS (by omega)
  have hw:IntKind.i64.wrap ((b:Int) + 1)=((b + 1:Nat):Int):=by rw [aJ (by omega) (by omega)];omega
  have Qg:leI (0:Int) (b:Int)=true:=bu (by omega)
  have i2:Nt (b:Int) s= !ZA (bAt s b):=by simp only [Nt,ao8,w7,bAt]
  refine⟨?_,?_,?_⟩
  ·simp [fD,zN,LT.nds,allT,BJ,UM,lz,Qg]
  ·simp [fD,zN,LT.each,UN,hw]
  ·simp only [fD,zN,LT.fn,BJ,lz,i2,cond_true]
 ·simp [fD,zN,LT.out,BJ]
theorem amE(s:alV)(h:leN s.size 9223372036854775807=true):Tk s=TW s∧Tl s=true:=by
 obtain⟨w1,w2⟩:=anY s (iv.1 h)
 have e5:((List.range s.size).any fun b=> !ZA (bAt s b))= !(List.range s.size).all fun b=>ZA (bAt s b):=by simp [List.all_eq_not_any_not]
 rw [e5]at w2
 have eb:((UInt8.toNat (v5 s[v3 (0:Int)]? (0:UInt8)):Nat):Int)=bAt s 0:=rfl
 have h0:leI 0 0=true:=rfl
 simp only [Tk,Tl,KM,KN,w1,w2,eb,h0,DK,aX,Pn,TW,al8,allT,j7,cond_true]
 cases hr:inR (s.size:Int) 1 12 with
 |false=>cases (List.range s.size).all fun b=>ZA (bAt s b) <;> simp [Nat.beq]
 |true=>
  have:=tE.1 hr
  rw [cS (by omega)]
  cases inR (bAt s 0) 97 122 <;> cases (List.range s.size).all fun b=>ZA (bAt s b) <;> simp [Nat.beq]
theorem arO(s:alV)(hn:s.size≤9223372036854775806):
  jl.fin ((0:Int),(0:Int),s,wbS)=true∧((jl.res ((0:Int),(0:Int),s,wbS)).2.2.1==(s.size:Int))=(List.range s.size).all fun b=>ZA (bAt s b):=by
 have hz: ∀ i:Nat,i≤s.size→IntKind.i64.wrap ((0:Int) + (i:Int))=(i:Int):=fun i hi=>by rw [aJ (by omega) (by omega)];omega
 have my:=jl.along (fun i (_:Unit)=>((0:Int),(i:Int),s,wbS)) (fun _=>()) (fun(b:Nat) (_:Unit)=>bif !ZA (bAt s b)then .inl 0 else .inr ()) 0 (fun _ _=>True) (List.range s.size) () trivial (by simp only [jl,List.length_range];omega)
  (fun i b a hb _=>by
   obtain⟨rfl,eQ⟩:=Pv hb
   have lz:ltI (b:Int) (s.size:Int)=true:=cS (by omega)
   have Qg:leI (0:Int) (b:Int)=true:=bu (by omega)
   have hw:IntKind.i64.wrap ((b:Int) + 1)=((b + 1:Nat):Int):=by rw [aJ (by omega) (by omega)];omega
   have ha:wN 0 (b:Int) s=true:=by simp only [wN,hz b (by omega),lz]
   have hb2:Qj 0 (b:Int) s wbS=ZA (bAt s b):=by
    simp only [Qj,ha,cond_true,hz b (by omega),w7,Dp,tF]
    exact arP s b
   refine⟨?_,?_,?_,fun _ _=>trivial⟩
   ·have hz2:=hz b (by omega)
    rw [Int.zero_add]at hz2
    simp [jl,HY,LT.nds,allT,VO,VP,ha,hz2]
   ·simp [jl,HY,LT.each,ac2,hw]
   ·simp only [jl,HY,LT.fn,hb2]
    cases ZA (bAt s b) <;> rfl)
  (fun a _=>by
   have lz:ltI (s.size:Int) (s.size:Int)=false:=by simp
   have ha:wN 0 (s.size:Int) s=false:=by simp only [wN,hz s.size (by omega),lz]
   rw [List.length_range]
   simp [jl,HY,LT.out,Qj,VO,VP,allT,ha])
 rw [ow (P:=fun b=> !ZA (bAt s b)) (j:=0) (fun b=>rfl)]at my
 refine⟨my.1,?_⟩
 have k2:jl.res ((0:Int),(0:Int),s,wbS)=_:=my.2
 rw [k2]
 simp only [Nat.zero_add]
 rw [Bool.eq_iff_iff,beq_iff_eq,List.all_eq_true]
 have hl: ∀ (l:List Nat) (P:Nat→Bool),(l.takeWhile P).length=l.length↔ ∀ x∈l,P x=true:=by
  intro l P
  induction l with
  |nil=>simp
  |cons a r ih=>
   rw [List.takeWhile_cons]
   cases h:P a with
   |false=>simp [h]
   |true=>simp [h,ih]
 have h2:=hl (List.range s.size) (fun b=> !!ZA (bAt s b))
 rw [List.length_range]at h2
 constructor
 ·intro h x hx;have:=h2.1 (by exact_mod_cast h) x hx;simpa using this
 ·intro h;exact_mod_cast h2.2 (fun x hx=>by simpa using h x hx)
theorem al3(s:alV):VM s=TW s∧VN s=true:=by
 have eb:((UInt8.toNat (v5 s[v3 (0:Int)]? (0:UInt8)):Nat):Int)=bAt s 0:=rfl
 have e0:wM s=inR (s.size:Int) 1 12:=by simp only [wM,dO,Pn]
 have e1:Dy s=(inR (s.size:Int) 1 12&&al8 (bAt s 0)):=by
  have:Dy s=bif wM s then leI 0 (ibs aq2 (bAt s 0))else false:=rfl
  rw [this,e0,aq3]
  cases inR (s.size:Int) 1 12 <;> rfl
 have e2:VM s=bif Dy s then(jl.res ((0:Int),(0:Int),s,wbS)).2.2.1==(s.size:Int)else false:=rfl
 have e3:VN s=allT [!(wM s&&true)||leI (0) (0),!(wM s&&true)||ltI (0) (↑(ByteArray.size s)),!(Dy s&&true)||allT [jl.fin ((0:Int),(0:Int),s,wbS)]]:=rfl
 have h0:leI 0 0=true:=rfl
 rw [e2,e3,e1,e0,h0]
 cases hr:inR (s.size:Int) 1 12 with
 |false=>simp [TW,hr,allT]
 |true=>
  have:=tE.1 hr
  obtain⟨w1,w2⟩:=arO s (by omega)
  rw [w1,w2,cS (by omega)]
  simp only [TW,hr,allT,Bool.true_and,Bool.and_true,j7,cond_true]
  cases al8 (bAt s 0) <;> simp
def wL(y1 b:alV):(Unit)→Nat ⊕ (Unit)
 |_=>(bif(ByteArray.toList (b)==ByteArray.toList y1)then(.inl 0)else(.inr ()))
def mO(y1:alV)(y2:List alV)(i:Nat):(Unit)→jy
 |_=>((i:Int),y1,y2)
def Gl:jy→Unit
 |(_,_,_)=>()
theorem abG(y1:alV)(y2:List alV) (hn:y2.length≤9223372036854775807):
  dr.fin ((0:Int),y1,y2)=true∧dr.res ((0:Int),y1,y2)=((cX (wL y1) 1 y2 0 ()).1,(mO y1 y2) (cX (wL y1) 1 y2 0 ()).2.1 (cX (wL y1) 1 y2 0 ()).2.2):=by
 have my:=dr.along (mO y1 y2) Gl (wL y1) 1 (fun _ _=>True) y2 () (by trivial) (by simp only [dr,mO];omega) (fun i b a hb hI=> ?_) (fun a hI=> ?_)
 ·exact my
 ·obtain⟨⟩:=a
  have eQ:=(j9.1 hb).1
  have ry: ∀ d,v5 y2[i]? d=b:=fun d=>by rw [hb];rfl
  have hw:=IG eQ hn
  have lz:ltI (i:Int) (y2.length:Int)=true:=cS (by omega)
  have Qg:leI (0:Int) (i:Int)=true:=bu (by omega)
  have yL:ltN i y2.length=true:=dI eQ
  refine⟨?_,?_,?_,?_⟩
  ·simp [sJ,wR,wS,wT,wU,vi,dr,LT.nds,allT,mO,lz,Qg,yL,ry]
  ·simp [sJ,wR,wS,wT,wU,vi,dr,LT.each,mO,Gl,hw]
  ·simp only [sJ,wR,wS,wT,wU,vi,dr,LT.fn,mO,Gl,wL,w7,lz,Qg,yL,ry,cond_true,j8]
  ·exact fun _ _=>trivial
 ·obtain⟨⟩:=a
  simp [sJ,wR,wS,wT,wU,vi,dr,LT.out,mO]
def mm(y2 b:alV):(Unit)→Nat ⊕ (Unit)
 |_=>(bif(ByteArray.toList y2==ByteArray.toList b)then(.inl 0)else(.inr ()))
def ep(y2:alV)(y3:List alV)(i:Nat):(Unit)→di
 |_=>((i:Int),(↑y3.length:Int),y2,y3)
def tR:di→Unit
 |(_,_,_,_)=>()
theorem Ow(y2:alV)(y3:List alV) (hn:y3.length≤9223372036854775807):
  bi.fin ((0:Int),(↑y3.length:Int),y2,y3)=true∧bi.res ((0:Int),(↑y3.length:Int),y2,y3)=((cX (mm y2) 1 y3 0 ()).1,(ep y2 y3) (cX (mm y2) 1 y3 0 ()).2.1 (cX (mm y2) 1 y3 0 ()).2.2):=by
 have my:=bi.along (ep y2 y3) tR (mm y2) 1 (fun _ _=>True) y3 () (by trivial) (by simp only [bi,ep];omega) (fun i b a hb hI=> ?_) (fun a hI=> ?_)
 ·exact my
 ·obtain⟨⟩:=a
  have eQ:=(j9.1 hb).1
  have ry: ∀ d,v5 y3[i]? d=b:=fun d=>by rw [hb];rfl
  have hw:=IG eQ hn
  have lz:ltI (i:Int) (y3.length:Int)=true:=cS (by omega)
  have Qg:leI (0:Int) (i:Int)=true:=bu (by omega)
  have yL:ltN i y3.length=true:=dI eQ
  refine⟨?_,?_,?_,?_⟩
  ·simp [mo,mq,mr,mt,mu,mv,lH,bi,LT.nds,allT,ep,lz,Qg,yL,ry]
  ·simp [mo,mq,mr,mt,mu,mv,lH,bi,LT.each,ep,tR,hw]
  ·simp only [mo,mq,mr,mt,mu,mv,lH,bi,LT.fn,ep,tR,mm,w7,lz,Qg,yL,ry,cond_true,j8]
  ·exact fun _ _=>trivial
 ·obtain⟨⟩:=a
  simp [mo,mq,mr,mt,mu,mv,lH,bi,LT.out,ep]
theorem aqX:abE.length≤9223372036854775807:=by decide
theorem ajl(s:alV):ltI (Hc s) 0= !anq s∧Hd s=true:=by
 have e0:LG=abE:=rfl
 obtain⟨w1,w2⟩:=abG s abE aqX
 rw [ow (P:=fun k=>k.toList==s.toList) (j:=0) (fun k=>rfl)]at w2
 simp only [Hc,Hd,Fh,e0,w1,w2,allT,anq,mO]
 cases abE.any fun k=>k.toList==s.toList with
 |false=>exact⟨rfl,rfl⟩
 |true=>
  simp only [cond_true,Nat.beq]
  refine⟨?_,trivial⟩
  exact UA.2 (by omega)
theorem ann(s:alV):Pj s=anq s∧Pk s=true:=by
 have e0:List.drop (v3 (0)) (List.take (v3 (↑(v4 abE))) abE)=abE:=rfl
 obtain⟨w1,w2⟩:=Ow s abE aqX
 rw [ow (P:=fun k=>s.toList==k.toList) (j:=0) (fun k=>rfl)]at w2
 have e1:(fun k:alV=>s.toList==k.toList)=fun k=>k.toList==s.toList:=funext fun k=>BEq.comm
 rw [e1]at w2
 simp only [Pj,Pk,e0,uV,uW,xT,xU,rt,w1,w2,allT,anq,ep]
 cases abE.any fun k=>k.toList==s.toList with
 |false=>exact⟨rfl,rfl⟩
 |true=>
  simp only [cond_true,Nat.beq]
  rw [bu (by omega)];simp
def aaz:List SV→List Entry→Option Out
 | [.one ⟨false,[.val (.string x0)]⟩],[]=>some ⟨.one ⟨false,[.val (.bool (TW x0))]⟩,[],[],[leN x0.size 9223372036854775807]⟩
 |_,_=>none
def aiV:PF prog:=PF.alt ai7 aaz (by
 intro args es o h cf;unfold aaz at h;split at h
 ·rename_i x0
  cases h
  have cf:=iw cf
  have hh:=amE x0 cf
  obtain⟨e0,en⟩:=hh
  exact mK rfl (gE en) (by simp only [e0] <;> rfl) rfl rfl
 ·cases h)
def acS:List SV→List Entry→Option Out
 | [.one ⟨false,[.val (.string x0)]⟩],[]=>some ⟨.one ⟨false,[.val (.bool (TW x0))]⟩,[],[],[]⟩
 |_,_=>none
def ajL:PF prog:=PF.alt ajQ acS (by
 intro args es o h cf;unfold acS at h;split at h
 ·rename_i x0
  cases h
  have hh:=al3 x0
  obtain⟨e0,en⟩:=hh
  exact mK rfl (gE en) (by simp only [e0] <;> rfl) rfl rfl
 ·cases h)
def WG:List SV→List Entry→Option Out
 | [.one ⟨false,[.val (.string x0)]⟩],[]=>some ⟨.one ⟨false,[.val (.bool (anq x0))]⟩,[],[],[]⟩
 |_,_=>none
def agA:PF prog:=PF.alt agJ WG (by
 intro args es o h cf;unfold WG at h;split at h
 ·rename_i x0
  cases h
  have hh:=ann x0
  obtain⟨e0,en⟩:=hh
  exact mK rfl (gE en) (by simp only [e0] <;> rfl) rfl rfl
 ·cases h)
def lN(x0:alV):Bool:=bif TW x0 then ltI (Hc x0) 0 else false
def rU(x0:alV):Bool:=allT [leN (ByteArray.size x0) 9223372036854775807,!(TW x0&&true)||Hd x0]
def ZY:List SV→List Entry→Option Out
 | [.one ⟨false,[.val (.string x0)]⟩],[]=>some ⟨.one ⟨false,[.val (.bool (lN x0))]⟩,[],[],[rU x0]⟩
 |_,_=>none
def Ii:PF prog:=PF.ofG prog [aiV,afI] [] bG 142 f142 func142 (fun c _=>LOk.nil c) ZY (by
 intro vs es r h;unfold ZY at h;split at h
 ·cases h;kernel_rfl
 ·cases h)
def ay(x0:Int):Bool:=bif bif bif x0==7 then true else x0==8 then true else x0==11 then true else x0==12
def Wy:List SV→List Entry→Option Out
 | [.one ⟨false,[.val (.int .i64 x0)]⟩],[]=>some ⟨.one ⟨false,[.val (.bool (ay x0))]⟩,[],[],[]⟩
 |_,_=>none
def DE:PF prog:=PF.ofG prog [] [] bG 171 f171 func171 (fun c _=>LOk.nil c) Wy (by
 intro vs es r h;unfold Wy at h;split at h
 ·cases h;kernel_rfl
 ·cases h)
def Tv(x0:Int):Bool:=aX x0 1 12
def ZX:List SV→List Entry→Option Out
 | [.one ⟨false,[.val (.int .i64 x0)]⟩],[]=>some ⟨.one ⟨false,[.val (.bool (Tv x0))]⟩,[],[],[]⟩
 |_,_=>none
def ai9:PF prog:=PF.ofG prog [nQ] [] bG 173 f173 func173 (fun c _=>LOk.nil c) ZX (by
 intro vs es r h;unfold ZX at h;split at h
 ·cases h;kernel_rfl
 ·cases h)
def Rl(x0 x2:Int):Bool:=bif bif !Tv x0 then true else !aX x2 0 9999 then true else bif !ay x0 then x2 !=0 else false
def DM(x0:Int)(x1:alV)(x2:Int):Bool:=
 bif Rl x0 x2 then false else bif x0==(1:Int)then lN x1 else ByteArray.toList x1==ByteArray.toList { data:= #[] }
def DN(x0:Int)(x1:alV)(x2:Int):Bool:=allT [Rl x0 x2||(!x0==1||rU x1)]
def ZZ:List SV→List Entry→Option Out
 | [.one ⟨true,[.val (.int .i64 x0),.val (.string x1),.val (.int .i64 x2)]⟩],[]=>some ⟨.one ⟨false,[.val (.bool (DM x0 x1 x2))]⟩,[],[],[DN x0 x1 x2]⟩
 |_,_=>none
def SO:PF prog:=PF.ofG prog [nQ,Ii,DE,ai9] [] bG 131 f131 func131 (fun c _=>LOk.nil c) ZZ (by
 intro vs es r h;unfold ZZ at h;split at h
 ·cases h;kernel_rfl
 ·cases h)
def SZ(x0:Int)(x1:alV)(x2:Int):Bool:=bif DM x0 x1 x2 then leI 7 x0 else false
def Ta(x0:Int)(x1:alV)(x2:Int):Bool:=allT [DN x0 x1 x2]
def ZQ:List SV→List Entry→Option Out
 | [.one ⟨true,[.val (.int .i64 x0),.val (.string x1),.val (.int .i64 x2)]⟩],[]=>some ⟨.one ⟨false,[.val (.bool (SZ x0 x1 x2))]⟩,[],[],[Ta x0 x1 x2]⟩
 |_,_=>none
def ai3:PF prog:=PF.ofG prog [SO] [] bG 91 f91 func91 (fun c _=>LOk.nil c) ZQ (by
 intro vs es r h;unfold ZQ at h;split at h
 ·cases h;kernel_rfl
 ·cases h)
def Qh(x0:alV):Bool:=bif TW x0 then !anq x0 else false
def acF:List SV→List Entry→Option Out
 | [.one ⟨false,[.val (.string x0)]⟩],[]=>some ⟨.one ⟨false,[.val (.bool (Qh x0))]⟩,[],[],[]⟩
 |_,_=>none
def ajO:PF prog:=PF.ofG prog [ajL,agA] [] bG 147 f147 func147 (fun c _=>LOk.nil c) acF (by
 intro vs es r h;unfold acF at h;split at h
 ·cases h;kernel_rfl
 ·cases h)
def MR(x0:Int):Bool:=bif bif bif x0==7 then true else x0==8 then true else x0==11 then true else x0==12
def Um:List SV→List Entry→Option Out
 | [.one ⟨false,[.val (.int .i64 x0)]⟩],[]=>some ⟨.one ⟨false,[.val (.bool (MR x0))]⟩,[],[],[]⟩
 |_,_=>none
def afH:PF prog:=PF.ofG prog [] [] bG 190 f190 func190 (fun c _=>LOk.nil c) Um (by
 intro vs es r h;unfold Um at h;split at h
 ·cases h;kernel_rfl
 ·cases h)
def Qi(x0:Int)(x1:alV)(x2:Int):Bool:=
 bif bif !dO x0 (1:Int) (12:Int)then true else !(x0==(1:Int))== !ByteArray.toList x1==ByteArray.toList { data:= #[] } then
 false
 else
 bif MR x0 then dO x2 (0:Int) (9999:Int)
 else bif x2==(0:Int)then bif x0 !=(1:Int)then true else Qh x1 else false
def acG:List SV→List Entry→Option Out
 | [.one ⟨true,[.val (.int .i64 x0),.val (.string x1),.val (.int .i64 x2)]⟩],[]=>some ⟨.one ⟨false,[.val (.bool (Qi x0 x1 x2))]⟩,[],[],[]⟩
 |_,_=>none
def ajP:PF prog:=PF.ofG prog [Kp,ajO,afH] [] bG 165 f165 func165 (fun c _=>LOk.nil c) acG (by
 intro vs es r h;unfold acG at h;split at h
 ·cases h;kernel_rfl
 ·cases h)
def Sy(x0:Int)(x1:alV)(x2:Int):Bool:=bif Qi x0 x1 x2 then leI 7 x0 else false
def ZO:List SV→List Entry→Option Out
 | [.one ⟨true,[.val (.int .i64 x0),.val (.string x1),.val (.int .i64 x2)]⟩],[]=>some ⟨.one ⟨false,[.val (.bool (Sy x0 x1 x2))]⟩,[],[],[]⟩
 |_,_=>none
def ai1:PF prog:=PF.ofG prog [ajP] [] bG 117 f117 func117 (fun c _=>LOk.nil c) ZO (by
 intro vs es r h;unfold ZO at h;split at h
 ·cases h;kernel_rfl
 ·cases h)
def xC(x0 x2 x3 x4 x5:Int):Bool:=bif bif x0==7 then x0==7 else x0==8 then bif bif dO x3 0 x2 then x4==0 else false then x5==0 else false else bif x0==11 then bif bif dO x3 0 x2 then dO x4 0 1 else false then x5==0 else false else bif x0==12 then bif x4==0 then bif bif dO x3 0 x2 then x5==0 else false then true else bif x3==v6 .i64 (x2 + (1:Int))then x5==1 else false else false else bif bif dO x3 0 1 then x4==0 else false then x5==0 else false
def Un:List SV→List Entry→Option Out
 | [.one ⟨true,[.val (.int .i64 x0),.val (.string _x1),.val (.int .i64 x2)]⟩,.one ⟨true,[.val (.int .i64 x3),.val (.int .i64 x4),.val (.int .i64 x5)]⟩],[]=>some ⟨.one ⟨false,[.val (.bool (xC x0 x2 x3 x4 x5))]⟩,[],[],[]⟩
 |_,_=>none
def UC:PF prog:=PF.ofG prog [Kp] [] bG 120 f120 func120 (fun c _=>LOk.nil c) Un (by
 intro vs es r h;unfold Un at h;split at h
 ·cases h;kernel_rfl
 ·cases h)
def cQ(x0 x2 x3 x4 x5:Int):Bool:=bif bif x0==9 then x0==9 else x0==10 then bif bif aX x3 0 1 then x4==0 else false then x5==0 else false else bif x0==11 then bif bif aX x3 0 x2 then aX x4 0 1 else false then x5==0 else false else bif x0==12 then bif x4==0 then bif bif aX x3 0 x2 then x5==0 else false then true else bif x3==v6 .i64 (x2 + (1:Int))then x5==1 else false else false else bif bif aX x3 0 x2 then x4==0 else false then x5==0 else false
def Sj:List SV→List Entry→Option Out
 | [.one ⟨true,[.val (.int .i64 x0),.val (.string _x1),.val (.int .i64 x2)]⟩,.one ⟨true,[.val (.int .i64 x3),.val (.int .i64 x4),.val (.int .i64 x5)]⟩],[]=>some ⟨.one ⟨false,[.val (.bool (cQ x0 x2 x3 x4 x5))]⟩,[],[],[]⟩
 |_,_=>none
def SP:PF prog:=PF.ofG prog [nQ] [] bG 108 f108 func108 (fun c _=>LOk.nil c) Sj (by
 intro vs es r h;unfold Sj at h;split at h
 ·cases h;kernel_rfl
 ·cases h)
def akL(k:Int):Bool:=k==7||(k==8||(k==11||k==12))
def termB(k:Int)(s:alV)(n:Int):Bool:=inR k 1 12&&(inR n 0 9999&&((akL k||n==0)&&(bif k==1 then uK s else s.toList== [])))
def vM(k:Int)(s:alV)(n:Int):Bool:=termB k s n&&leI 7 k
def possB(k n a b c:Int):Bool:=cQ k n a b c
theorem Xg:ByteArray.toList { data:= #[] } = []:=by rw [Go.Lib.toList_data]
theorem aqw{s:alV}(h:uK s=true):(s.toList== [])=false:=by
 simp only [uK,TW,w5,tE]at h
 have h1:s.size=s.toList.length:=by rw [Go.Lib.size_eq,Go.Lib.toList_data]
 cases hs:s.toList with
 |nil=>
  rw [hs]at h1
  have h2:s.size=0:=h1
  omega
 |cons a l=>rfl
theorem aqY{n:Int}(h:(n==0)=true):inR n 0 9999=true:=by
 have:n=0:=by simpa using h
 rw [this];rfl
theorem abz(k:Int)(s:alV)(n:Int)(h:leN s.size 9223372036854775807=true):DM k s n=termB k s n∧DN k s n=true:=by
 obtain⟨e1,e2⟩:=ajl s
 have e3:lN s=uK s:=by simp only [lN,e1,uK];cases TW s <;> rfl
 have e4:rU s=true:=by simp only [rU,e2,h,allT,j7,cond_true]
 simp only [DM,DN,Rl,e3,e4,Tv,aX,Pn,Xg,ay,termB,akL,allT,j7,cond_true]
 refine⟨?_,trivial⟩
 simp only [bne]
 generalize (bif k==1 then uK s else s.toList== [])=q
 generalize inR k 1 12=q1
 generalize inR n 0 9999=q2
 generalize (k==7)=q3
 generalize (k==8)=q4
 generalize (k==11)=q5
 generalize (k==12)=q6
 generalize (n==0)=q7
 revert q q1 q2 q3 q4 q5 q6 q7
 decide
theorem al2(k:Int)(s:alV)(n:Int):Qi k s n=termB k s n:=by
 have e3:Qh s=uK s:=by simp only [Qh,uK];cases TW s <;> rfl
 simp only [Qi,e3,dO,Pn,Xg,MR,termB,akL]
 by_cases h1:k=1
 ·subst h1
  have z7:((1:Int)==7)=false:=rfl
  have z8:((1:Int)==8)=false:=rfl
  have z11:((1:Int)==11)=false:=rfl
  have z12:((1:Int)==12)=false:=rfl
  have z1:((1:Int)==1)=true:=rfl
  have zn:((1:Int)!=1)=false:=rfl
  have zr:inR (1:Int) 1 12=true:=rfl
  rw [z7,z8,z11,z12,z1,zn,zr]
  have hs:uK s=true→(s.toList== [])=false:=aqw
  have h0:(n==0)=true→inR n 0 9999=true:=aqY
  generalize (s.toList== [])=q at hs ⊢
  generalize (n==0)=q2 at h0 ⊢
  generalize inR n 0 9999=q3 at h0 ⊢
  generalize uK s=q4 at hs ⊢
  revert q q2 q3 q4
  decide
 ·have z1:(k==1)=false:=by simpa using h1
  have zn:(k !=1)=true:=by simpa using h1
  rw [z1,zn]
  have h0:(n==0)=true→inR n 0 9999=true:=aqY
  generalize (s.toList== [])=q
  generalize (n==0)=q2 at h0 ⊢
  generalize inR n 0 9999=q3 at h0 ⊢
  generalize inR k 1 12=q1
  generalize (k==7)=p3
  generalize (k==8)=p4
  generalize (k==11)=p5
  generalize (k==12)=p6
  generalize uK s=p7
  revert q q1 q2 q3 p3 p4 p5 p6 p7
  decide
theorem alh(k:Int)(s:alV)(n:Int)(h:leN s.size 9223372036854775807=true):SZ k s n=vM k s n∧Ta k s n=true:=by
 obtain⟨e1,e2⟩:=abz k s n h
 simp only [SZ,Ta,e1,e2,vM,allT,cond_true]
 refine⟨?_,trivial⟩
 cases termB k s n <;> rfl
theorem akY(k:Int)(s:alV)(n:Int):Sy k s n=vM k s n:=by
 simp only [Sy,al2,vM]
 cases termB k s n <;> rfl
theorem XZ{k:Int}{s:alV}{n:Int}(h:vM k s n=true):(7≤k∧k≤12)∧(0≤n∧n≤9999)∧(akL k=true∨n=0):=by
 simp only [vM,termB,w5,tE,AE,Bool.or_eq_true,beq_iff_eq]at h
 obtain⟨⟨h1,h2,h3,_⟩,h4⟩:=h
 exact⟨⟨h4,h1.2⟩,h2,h3⟩
theorem kinds{k:Int}(h:7≤k∧k≤12):k=7∨k=8∨k=9∨k=10∨k=11∨k=12:=by omega
theorem aqG{k n a b c:Int}(h:7≤k∧k≤12):xC k n a b c=possB k n a b c:=by
 rcases kinds h with rfl | rfl | rfl | rfl | rfl | rfl <;> rfl
theorem abu{k n a b c:Int}(h:possB k n a b c=true)(hn:0≤n∧n≤9999):(0≤a∧a≤10000)∧(b=0∨b=1)∧(c=0∨c=1):=by
 have hw:IntKind.i64.wrap (n + 1)=n + 1:=aJ (by omega) (by omega)
 simp only [possB,cQ,aX,Pn,hw]at h
 cases h1:(bif k==9 then k==9 else k==10)with
 |true=>
  rw [h1]at h
  cases h2:inR a 0 1 <;> rw [h2]at h <;> simp at h
  have:=tE.1 h2
  omega
 |false=>
  rw [h1]at h
  cases h3:k==11 with
  |true=>
   rw [h3]at h
   cases h2:inR a 0 n <;> cases h4:inR b 0 1 <;> rw [h2]at h <;> simp [h4]at h
   have:=tE.1 h2
   have:=tE.1 h4
   omega
  |false=>
   rw [h3]at h
   cases h5:k==12 with
   |true=>
    rw [h5]at h
    cases h2:inR a 0 n <;> rw [h2]at h <;> simp at h
    ·omega
    ·have:=tE.1 h2
     omega
   |false=>
    rw [h5]at h
    cases h2:inR a 0 n <;> rw [h2]at h <;> simp at h
    have:=tE.1 h2
    omega
def aau:List SV→List Entry→Option Out
 | [.one ⟨true,[.val (.int .i64 x0),.val (.string x1),.val (.int .i64 x2)]⟩],[]=>some ⟨.one ⟨false,[.val (.bool (vM x0 x1 x2))]⟩,[],[],[leN x1.size 9223372036854775807]⟩
 |_,_=>none
def abf:PF prog:=PF.alt ai3 aau (by
 intro args es o h cf;unfold aau at h;split at h
 ·rename_i x0 x1 x2
  cases h
  have cf:=iw cf
  have hh:=alh x0 x1 x2 cf
  obtain⟨e0,en⟩:=hh
  exact mK rfl (gE en) (by simp only [e0] <;> rfl) rfl rfl
 ·cases h)
def aas:List SV→List Entry→Option Out
 | [.one ⟨true,[.val (.int .i64 x0),.val (.string x1),.val (.int .i64 x2)]⟩],[]=>some ⟨.one ⟨false,[.val (.bool (vM x0 x1 x2))]⟩,[],[],[]⟩
 |_,_=>none
def abe:PF prog:=PF.alt ai1 aas (by
 intro args es o h cf;unfold aas at h;split at h
 ·rename_i x0 x1 x2
  cases h
  have hh:=akY x0 x1 x2
  have e0:=hh
  exact mK rfl (fun _ h=>by cases h) (by simp only [e0] <;> rfl) rfl rfl
 ·cases h)
def ec(x0:Int):Int:=bif bif x0==1 then x0==1 else bif x0==2 then x0==2 else x0==3 then(0:Int)else bif bif x0==4 then x0==4 else bif x0==7 then x0==7 else bif x0==8 then x0==8 else x0==9 then(1:Int)else(2:Int)
def YF:List SV→List Entry→Option Out
 | [.one ⟨false,[.val (.int .i64 x0)]⟩],[]=>some ⟨.one ⟨false,[.val (.int .i64 (ec x0))]⟩,[],[],[]⟩
 |_,_=>none
def nX:PF prog:=PF.ofG prog [] [] bG 168 f168 func168 (fun c _=>LOk.nil c) YF (by
 intro vs es r h;unfold YF at h;split at h
 ·cases h;kernel_rfl
 ·cases h)
abbrev nf:=Int×List Int
section
variable (y0:Int)(y1:List Int)
def xQ:Bool:=ltI y0 (↑y1.length:Int)
def Ch:Bool:=leI 0 y0
def Ci:Bool:=ltN y0.toNat y1.length
def Cj:Bool:= !aX (v5 y1[v3 y0]? 0) 0 1
def Ck:Int:=v6 .i64 (y0 + (1:Int))
end
def adx:nf→List (Nat×SV)
 |(y0,_)=> [(5,(.one ⟨false,[.val (.int .i64 y0)]⟩)),(0,(.one ⟨false,[.ref 0]⟩))]
def ado:nf→List (Nat×Entry)
 |(_,y1)=> [(0,(.row false 2 akd y1))]
def adP:Nat→nf→List (Nat×SV)
 |0,(_,_)=> [(4,(.one ⟨false,[.val (.bool false)]⟩))]
 |_,(_,_)=> []
def adG:Nat→nf→List (Nat×Entry)
 |0,(_,y1)=> [(0,(.row false 2 akd y1))]
 |_,(_,y1)=> [(0,(.row false 2 akd y1))]
def zP:nf→LT nf
 |(y0,y1)=> .ite (xQ y0 y1) (.need [Ch y0,xQ y0 y1,Ci y0 y1] (.ite (Cj y0 y1) (.ext 0 [(0,0)]) (.nrm ((Ck y0),y1) [(0,0)]))) (.ext 1 [(0,0)])
def LD(s:St):Option nf:=
 (match s.look 5 with
 |some ⟨none,.one ⟨false,[.val (.int .i64 y0)]⟩⟩=>
 (match s.look 0 with
 |some ⟨none,.one ⟨false,[.ref 0]⟩⟩=>
 (match s.ent 0 with
 |some (.row false 2 (.int .i64) y1)=>
 some (y0,y1)
 |_=>none)
 |_=>none)
 |_=>none)
def fE:Lp nf where
 h:=⟨[6,7,8,9,12,13,14,15,16,17,4,10,11,5],[0],[],[]⟩
 JL:=adx
 JE:=ado
 XL:=adP
 XE:=adG
 q:=fun j=>match j with | 0=> .ret | _=> .exit 0
 tags:= [0,1]
 lt:=zP
 fuel:=fun(y0,y1)=>y0.natAbs + y1.length
 fix:=fun(_,y1) (y0,_)=>(y0,y1)
 σ:= [(0,0)]
 rd:=LD
theorem aba:LoopOk prog (fun k=>Nat.blt k Tryz.f73.ntmps) fE.F (bV f73 0):=by
 refine Lp.ok (tbl:= [nQ]) (lf:= []) bG fE (by kernel_rfl) (LOk.nil _) (fun _=>rfl) (fun j _=>by unfold fE;match j with | 0=>rfl | _ + 1=>rfl) ?_ ?_ ?_ ?_ (fun _=>rfl) ?_
 ·rintro⟨y0,y1⟩;kernel_rfl
 ·rintro⟨y0,y1⟩;kernel_rfl
 ·intro s x h
  have h:LD s=some x:=h
  unfold LD at h
  repeat' split at h
  all_goals cases h
  constructor<;>repeat(first|refine ab (by assumption) rfl ?_|refine aa rfl (by assumption) rfl ?_|exact rfl)
 ·rintro⟨y0,y1⟩;kernel_rfl
 ·rintro⟨y0,y1⟩ z;exact(And.intro (And.intro trivial rfl) trivial)
def TR(x0:Int)(x1:List Int):Bool:=bif Nat.beq ((Lp.res fE ((0:Int),x1)).1) 0 then false else(↑x1.length:Int)==x0
def TS(x1:List Int):Bool:=allT [Lp.fin fE ((0:Int),x1)]
def aal:List SV→List Entry→Option Out
 | [.one ⟨false,[.ref 0]⟩,.one ⟨false,[.val (.int .i64 x0)]⟩],[.row false 2 (.int .i64) x1]=>some ⟨.one ⟨false,[.val (.bool (TR x0 x1))]⟩,[.row false 2 akd x1],[],[TS x1]⟩
 |_,_=>none
def aje:PF prog:=PF.ofG prog [nQ] [fE.F] bG 73 f73 func73 (LOk.fnT (l:= [bV f73 0]) (by kernel_rfl) (.cons aba (.nil _))) aal (by
 intro vs es r h;unfold aal at h;split at h
 ·cases h;kernel_rfl
 ·cases h)
def gY(x0:Bool):Int:=bif x0 then(1:Int)else(0:Int)
def acN:List SV→List Entry→Option Out
 | [.one ⟨false,[.val (.bool x0)]⟩],[]=>some ⟨.one ⟨false,[.val (.int .i64 (gY x0))]⟩,[],[],[]⟩
 |_,_=>none
def ac8:PF prog:=PF.ofG prog [] [] bG 169 f169 func169 (fun c _=>LOk.nil c) acN (by
 intro vs es r h;unfold acN at h;split at h
 ·cases h;kernel_rfl
 ·cases h)
section
variable (x0 x1 x2 x3 x4 x5:Int)
def gc:Bool:=bif bif x3==1 then x4==0 else false then x5==0 else false
def gP:Bool:=(bif gc x3 x4 x5 then(0:Int)else x3)==0
def ja:Bool:=bif gP x3 x4 x5 then x4 !=x5 else false
def kg:Int:=v6 .i64 ((bif gc x3 x4 x5 then(0:Int)else x1) + (1:Int))
def kh:Int:=bif ja x3 x4 x5 then gY (ltI x0 (kg x1 x3 x4 x5))else bif gP x3 x4 x5 then(0:Int)else bif gc x3 x4 x5 then(0:Int)else x3
def lO:Int:=gY (bif bif x4==1 then x5==1 else false then kh x0 x1 x3 x4 x5==0 else false)
def lP:Int:=bif ja x3 x4 x5 then kg x1 x3 x4 x5 else bif gP x3 x4 x5 then(0:Int)else bif gc x3 x4 x5 then(0:Int)else x1
def lQ:Int:=bif ja x3 x4 x5 then(0:Int)else bif gP x3 x4 x5 then(0:Int)else bif gc x3 x4 x5 then(0:Int)else x2
def lR:Int:=kh x0 x1 x3 x4 x5
end
def aaa:List SV→List Entry→Option Out
 | [.one ⟨false,[.val (.int .i64 x0)]⟩,.one ⟨true,[.val (.int .i64 x1),.val (.int .i64 x2),.val (.int .i64 x3)]⟩,.one ⟨false,[.val (.int .i64 x4)]⟩,.one ⟨false,[.val (.int .i64 x5)]⟩],[]=>some ⟨.tup [⟨false,[.val (.int .i64 (lO x0 x1 x3 x4 x5))]⟩,⟨true,[.val (.int .i64 (lP x1 x3 x4 x5)),.val (.int .i64 (lQ x2 x3 x4 x5)),.val (.int .i64 (lR x0 x1 x3 x4 x5))]⟩],[],[],[]⟩
 |_,_=>none
def aja:PF prog:=PF.ofG prog [ac8] [] bG 170 f170 func170 (fun c _=>LOk.nil c) aaa (by
 intro vs es r h;unfold aaa at h;split at h
 ·cases h;kernel_rfl
 ·cases h)
section
variable (x0 x2 x3 x4 x5:Int)(x6:List Int)
def cC:Int:=v5 x6[v3 0]? 0
def gQ:Int:=v6 .i64 (x3 + (1:Int))
def ki:Int:=v6 .i64 (Zz (gQ x3) x2 (gQ x3) x2 * cC x6)
def eU:Int:=bif ltI 1 (↑x6.length:Int)then v5 x6[v3 1]? 0 else(0:Int)
def kj:Int:=bif eU x6==1 then(0:Int)else bif cC x6==1 then(1:Int)else x3
def kk:Int:=bif eU x6==1 then(0:Int)else bif bif cC x6==1 then x4==0 else false then Zz (gQ x3) x2 (gQ x3) x2 else x3
def km:Int:=v6 .i64 (x3 - (1:Int))
def kn:Int:=bif cC x6==1 then(0:Int)else(0:Int)
def jb:Bool:= !ltI 1 (↑x6.length:Int)
def dZ:Int:=bif x0==7 then gY (bif cC x6==1 then ki x2 x3 x6==x2 else false)else bif x0==8 then bif cC x6==1 then(1:Int)else gY (ltI 0 x3)else bif x0==9 then gY (bif cC x6==1 then x3==0 else false)else bif x0==10 then kj x3 x6 else bif x0==11 then gY (kk x2 x3 x4 x6==x2)else lO x2 x3 x5 (cC x6) (eU x6)
def fK:Int:=bif x0==7 then ki x2 x3 x6 else bif x0==8 then bif cC x6==1 then x2 else Zz 0 (km x3) (km x3) 0 else bif x0==9 then cC x6 else bif x0==10 then kj x3 x6 else bif x0==11 then kk x2 x3 x4 x6 else lP x3 x5 (cC x6) (eU x6)
def fL:Int:=bif x0==7 then(0:Int)else bif x0==8 then kn x6 else bif x0==9 then(0:Int)else bif x0==10 then(0:Int)else bif x0==11 then cC x6 else lQ x4 x5 (cC x6) (eU x6)
def fM:Int:=bif x0==7 then(0:Int)else bif x0==8 then kn x6 else bif x0==9 then(0:Int)else bif x0==10 then(0:Int)else bif x0==11 then(0:Int)else lR x2 x3 x5 (cC x6) (eU x6)
def iq:Bool:=allT [ltI 0 (↑x6.length:Int),ltN (v3 0) x6.length,jb x6||leI 0 1,jb x6||ltI 1 (↑x6.length:Int),jb x6||ltN (v3 1) x6.length]
end
def aab:List SV→List Entry→Option Out
 | [.one ⟨true,[.val (.int .i64 x0),.val (.string _x1),.val (.int .i64 x2)]⟩,.one ⟨true,[.val (.int .i64 x3),.val (.int .i64 x4),.val (.int .i64 x5)]⟩,.one ⟨false,[.ref 0]⟩],[.row false 2 (.int .i64) x6]=>some ⟨.tup [⟨false,[.val (.int .i64 (dZ x0 x2 x3 x4 x5 x6))]⟩,⟨true,[.val (.int .i64 (fK x0 x2 x3 x4 x5 x6)),.val (.int .i64 (fL x0 x4 x5 x6)),.val (.int .i64 (fM x0 x2 x3 x5 x6))]⟩],[.row false 2 akd x6],[],[iq x6]⟩
 |_,_=>none
def gj:PF prog:=PF.ofG prog [ac8,aja] [] bG 124 f124 func124 (fun c _=>LOk.nil c) aab (by
 intro vs es r h;unfold aab at h;split at h
 ·cases h;kernel_rfl
 ·cases h)
def agp(x0:Int):Bool:=bif x0 !=0 then x0 !=1 else false
def Ws:List SV→List Entry→Option Out
 | [.one ⟨false,[.val (.int .i64 x0)]⟩],[]=>some ⟨.one ⟨false,[.val (.bool (agp x0))]⟩,[],[],[]⟩
 |_,_=>none
def agL:PF prog:=PF.ofG prog [] [] bG 130 f130 func130 (fun c _=>LOk.nil c) Ws (by
 intro vs es r h;unfold Ws at h;split at h
 ·cases h;kernel_rfl
 ·cases h)
def yM(x0:Int):Bool:=bif x0 !=0 then x0 !=1 else false
def MI:List SV→List Entry→Option Out
 | [.one ⟨false,[.val (.int .i64 x0)]⟩],[]=>some ⟨.one ⟨false,[.val (.bool (yM x0))]⟩,[],[],[]⟩
 |_,_=>none
def MX:PF prog:=PF.ofG prog [] [] bG 130 f130 func130 (fun c _=>LOk.nil c) MI (by
 intro vs es r h;unfold MI at h;split at h
 ·cases h;kernel_rfl
 ·cases h)
abbrev bM:=Int×Int×List Int
section
variable (y0 y1:Int)(y2:List Int)
def gk:Bool:=ltI y0 y1
def gm:Bool:=leI 0 y0
def gn:Bool:=ltI y0 (↑y2.length:Int)
def gp:Bool:=ltN y0.toNat y2.length
def gq:Bool:=yM (v5 y2[v3 y0]? 0)
def gr:Int:=v6 .i64 (y0 + (1:Int))
end
def FG:bM→List (Nat×SV)
 |(y0,y1,_)=> [(8,(.one ⟨false,[.val (.int .i64 y0)]⟩)),(7,(.one ⟨false,[.val (.int .i64 y1)]⟩)),(1,(.one ⟨false,[.val (.func (.func 130) ⟨[]⟩ ⟨[]⟩)]⟩)),(0,(.one ⟨false,[.ref 0]⟩))]
def FF:bM→List (Nat×Entry)
 |(_,_,y2)=> [(0,(.row false 2 akd y2))]
def FI:Nat→bM→List (Nat×SV)
 |0,(y0,_,_)=> [(4,(.one ⟨false,[.val (.int .i64 y0)]⟩))]
 |_,(_,_,_)=> []
def FH:Nat→bM→List (Nat×Entry)
 |0,(_,_,y2)=> [(0,(.row false 2 akd y2))]
 |_,(_,_,y2)=> [(0,(.row false 2 akd y2))]
def fZ:bM→LT bM
 |(y0,y1,y2)=> .ite (gk y0 y1) (.need [gm y0,gn y0 y2,gp y0 y2] (.ite (gq y0 y2) (.ext 0 [(0,0)]) (.nrm ((gr y0),y1,y2) [(0,0)]))) (.ext 1 [(0,0)])
def nZ(s:St):Option bM:=
 (match s.look 8 with
 |some ⟨none,.one ⟨false,[.val (.int .i64 y0)]⟩⟩=>
 (match s.look 7 with
 |some ⟨none,.one ⟨false,[.val (.int .i64 y1)]⟩⟩=>
 (match s.look 1 with
 |some ⟨none,.one ⟨false,[.val (.func (.func 130) ⟨[]⟩ ⟨[]⟩)]⟩⟩=>
 (match s.look 0 with
 |some ⟨none,.one ⟨false,[.ref 0]⟩⟩=>
 (match s.ent 0 with
 |some (.row false 2 (.int .i64) y2)=>
 some (y0,y1,y2)
 |_=>none)
 |_=>none)
 |_=>none)
 |_=>none)
 |_=>none)
def aA:Lp bM where
 h:=⟨[9,10,5,11,12,13,14,15,16,17,4,18,8],[0],[],[]⟩
 JL:=FG
 JE:=FF
 XL:=FI
 XE:=FH
 q:=fun j=>match j with | 0=> .ret | _=> .exit 0
 tags:= [0,1]
 lt:=fZ
 fuel:=fun(y0,y1,y2)=>y0.natAbs + y1.natAbs + y2.length
 fix:=fun(_,y1,y2) (y0,_,_)=>(y0,y1,y2)
 σ:= [(0,0)]
 rd:=nZ
theorem EL:LoopOk prog (fun k=>Nat.blt k Tryz.f172.ntmps) aA.F (bV f172 0):=by
 refine Lp.ok (tbl:= [MX]) (lf:= []) bG aA (by kernel_rfl) (LOk.nil _) (fun _=>rfl) (fun j _=>by unfold aA;match j with | 0=>rfl | _ + 1=>rfl) ?_ ?_ ?_ ?_ (fun _=>rfl) ?_
 ·rintro⟨y0,y1,y2⟩;kernel_rfl
 ·rintro⟨y0,y1,y2⟩;kernel_rfl
 ·intro s x h
  have h:nZ s=some x:=h
  unfold nZ at h
  repeat' split at h
  all_goals cases h
  constructor<;>repeat(first|refine ab (by assumption) rfl ?_|refine aa rfl (by assumption) rfl ?_|exact rfl)
 ·rintro⟨y0,y1,y2⟩;kernel_rfl
 ·rintro⟨y0,y1,y2⟩ z;exact(And.intro (And.intro trivial rfl) trivial)
section
variable (x0:List Int)
def lJ:Int×Int×List Int:=((0:Int),(↑x0.length:Int),x0)
def qb:Int:=bif Nat.beq ((Lp.res aA (lJ x0)).1) 0 then ((Lp.res aA (lJ x0)).2).1else(-1:Int)
def qc:Bool:=allT [Lp.fin aA (lJ x0)]
end
def xA:List SV→List Entry→Option Out
 | [.one ⟨false,[.ref 0]⟩,.one ⟨false,[.val (.func (.func 130) ⟨[]⟩ ⟨[]⟩)]⟩],[.row false 2 (.int .i64) x0]=>some ⟨.one ⟨false,[.val (.int .i64 (qb x0))]⟩,[.row false 2 akd x0],[],[qc x0]⟩
 |_,_=>none
def pY:PF prog:=PF.ofG prog [MX] [aA.F] bG 172 f172 func172 (LOk.fnT (l:= [bV f172 0]) (by kernel_rfl) (.cons EL (.nil _))) xA (by
 intro vs es r h;unfold xA at h;split at h
 ·cases h;kernel_rfl
 ·cases h)
def oL(x0:List Int):Bool:=leI 0 (qb x0)
def oM(x0:List Int):Bool:=allT [qc x0]
def va:List SV→List Entry→Option Out
 | [.one ⟨false,[.ref 0]⟩,.one ⟨false,[.val (.func (.func 130) ⟨[]⟩ ⟨[]⟩)]⟩],[.row false 2 (.int .i64) x0]=>some ⟨.one ⟨false,[.val (.bool (oL x0))]⟩,[.row false 2 akd x0],[],[oM x0]⟩
 |_,_=>none
def oH:PF prog:=PF.ofG prog (T3z [pY]) [] bG 129 f129 func129 (fun c _=>LOk.nil c) va (by
 intro vs es r h;unfold va at h;split at h
 ·cases h;kernel_rfl
 ·cases h)
def SA(x0:Int)(x1:List Int):Bool:=bif(↑x1.length:Int)==x0 then !oL x1 else false
def SB(x0:Int)(x1:List Int):Bool:=allT [!((↑x1.length:Int)==x0&&true)||oM x1]
def ZP:List SV→List Entry→Option Out
 | [.one ⟨false,[.ref 0]⟩,.one ⟨false,[.val (.int .i64 x0)]⟩],[.row false 2 (.int .i64) x1]=>some ⟨.one ⟨false,[.val (.bool (SA x0 x1))]⟩,[.row false 2 akd x1],[],[SB x0 x1]⟩
 |_,_=>none
def ai2:PF prog:=PF.ofG prog (T3z [agL,oH]) [] bG 87 f87 func87 (fun c _=>LOk.nil c) ZP (by
 intro vs es r h;unfold ZP at h;split at h
 ·cases h;kernel_rfl
 ·cases h)
def mT(x0:Bool):Int:=bif x0 then(1:Int)else(0:Int)
def ae1:List SV→List Entry→Option Out
 | [.one ⟨false,[.val (.bool x0)]⟩],[]=>some ⟨.one ⟨false,[.val (.int .i64 (mT x0))]⟩,[],[],[]⟩
 |_,_=>none
def Yt:PF prog:=PF.ofG prog [] [] bG 174 f174 func174 (fun c _=>LOk.nil c) ae1 (by
 intro vs es r h;unfold ae1 at h;split at h
 ·cases h;kernel_rfl
 ·cases h)
section
variable (x0 x1 x2 x3:Int)(x4 x5:Bool)
def rn:Bool:=bif x4 then x2==0 else false
def rp:Int:=v6 .i64 (x1 + (1:Int))
def rq:Int:=bif x5 then(0:Int)else bif rn x2 x4 then Zz x0 (rp x1) x0 (rp x1)else x1
def sr:Int:=mT (rq x0 x1 x2 x4 x5==x0)
def su:Int:=rq x0 x1 x2 x4 x5
def sv:Int:=mT x4
def sw:Int:=bif x5 then x3 else bif rn x2 x4 then x3 else x3
end
def Wu:List SV→List Entry→Option Out
 | [.one ⟨false,[.val (.int .i64 x0)]⟩,.one ⟨true,[.val (.int .i64 x1),.val (.int .i64 x2),.val (.int .i64 x3)]⟩,.one ⟨false,[.val (.bool x4)]⟩,.one ⟨false,[.val (.bool x5)]⟩],[]=>some ⟨.tup [⟨false,[.val (.int .i64 (sr x0 x1 x2 x4 x5))]⟩,⟨true,[.val (.int .i64 (su x0 x1 x2 x4 x5)),.val (.int .i64 (sv x4)),.val (.int .i64 (sw x2 x3 x4 x5))]⟩],[],[],[]⟩
 |_,_=>none
def agN:PF prog:=PF.ofG prog [Yt] [] bG 175 f175 func175 (fun c _=>LOk.nil c) Wu (by
 intro vs es r h;unfold Wu at h;split at h
 ·cases h;kernel_rfl
 ·cases h)
section
variable (x0 x1 x2 x3:Int)(x4 x5:Bool)
def iC:Bool:=bif bif x3==1 then !x4 else false then !x5 else false
def ol:Bool:=(bif iC x3 x4 x5 then(0:Int)else x3)==0
def pU:Bool:=bif ol x3 x4 x5 then !x4==x5 else false
def sx:Int:=v6 .i64 ((bif iC x3 x4 x5 then(0:Int)else x1) + (1:Int))
def sy:Int:=bif pU x3 x4 x5 then mT (ltI x0 (sx x1 x3 x4 x5))else bif ol x3 x4 x5 then bif iC x3 x4 x5 then(0:Int)else x3 else bif iC x3 x4 x5 then(0:Int)else x3
def uG:Int:=mT (bif bif x4 then x5 else false then sy x0 x1 x3 x4 x5==0 else false)
def uH:Int:=bif pU x3 x4 x5 then sx x1 x3 x4 x5 else bif ol x3 x4 x5 then(0:Int)else bif iC x3 x4 x5 then(0:Int)else x1
def uI:Int:=bif pU x3 x4 x5 then bif iC x3 x4 x5 then x2 else x2 else bif ol x3 x4 x5 then bif iC x3 x4 x5 then x2 else x2 else bif iC x3 x4 x5 then x2 else x2
def uJ:Int:=sy x0 x1 x3 x4 x5
end
def YA:List SV→List Entry→Option Out
 | [.one ⟨false,[.val (.int .i64 x0)]⟩,.one ⟨true,[.val (.int .i64 x1),.val (.int .i64 x2),.val (.int .i64 x3)]⟩,.one ⟨false,[.val (.bool x4)]⟩,.one ⟨false,[.val (.bool x5)]⟩],[]=>some ⟨.tup [⟨false,[.val (.int .i64 (uG x0 x1 x3 x4 x5))]⟩,⟨true,[.val (.int .i64 (uH x1 x3 x4 x5)),.val (.int .i64 (uI x2 x3 x4 x5)),.val (.int .i64 (uJ x0 x1 x3 x4 x5))]⟩],[],[],[]⟩
 |_,_=>none
def ahQ:PF prog:=PF.ofG prog [Yt] [] bG 176 f176 func176 (fun c _=>LOk.nil c) YA (by
 intro vs es r h;unfold YA at h;split at h
 ·cases h;kernel_rfl
 ·cases h)
section
variable (x0 x2 x3 x4 x5:Int)(x6:List Int)
def eE:Bool:=v5 x6[v3 0]? 0==1
def Bz:Int:=v6 .i64 (x3 + (1:Int))
def BA:Int:=v6 .i64 (mT (eE x6) * Zz x2 (Bz x3) x2 (Bz x3))
def wE:Int:=v6 .i64 ((↑x6.length:Int) - (1:Int))
def mS:Bool:=v5 x6[v3 (wE x6)]? 0==1
def BB:Int:=bif mS x6 then(0:Int)else bif eE x6 then(1:Int)else x3
def BC:Int:=v6 .i64 (x3 - (1:Int))
def Bw:Int:=bif x0==7 then mT (bif eE x6 then BA x2 x3 x6==x2 else false)else bif x0==8 then bif eE x6 then(1:Int)else mT (ltI 0 x3)else bif x0==9 then mT (bif eE x6 then x3==0 else false)else bif x0==10 then BB x3 x6 else bif x0==11 then sr x2 x3 x4 (eE x6) (mS x6)else uG x2 x3 x5 (eE x6) (mS x6)
def zd:Int:=bif x0==7 then BA x2 x3 x6 else bif x0==8 then bif eE x6 then x2 else Zz (BC x3) 0 0 (BC x3)else bif x0==9 then mT (eE x6)else bif x0==10 then BB x3 x6 else bif x0==11 then su x2 x3 x4 (eE x6) (mS x6)else uH x3 x5 (eE x6) (mS x6)
def ze:Int:=bif x0==7 then x4 else bif x0==8 then bif eE x6 then x4 else x4 else bif x0==9 then x4 else bif x0==10 then bif mS x6 then x4 else bif eE x6 then x4 else x4 else bif x0==11 then sv (eE x6)else uI x4 x5 (eE x6) (mS x6)
def zf:Int:=bif x0==7 then x5 else bif x0==8 then bif eE x6 then x5 else x5 else bif x0==9 then x5 else bif x0==10 then bif mS x6 then x5 else bif eE x6 then x5 else x5 else bif x0==11 then sw x4 x5 (eE x6) (mS x6)else uJ x2 x3 x5 (eE x6) (mS x6)
def Bx:Bool:=allT [ltI 0 (↑x6.length:Int),ltN (v3 0) x6.length,leI 0 (wE x6),ltI (wE x6) (↑x6.length:Int),ltN (v3 (wE x6)) x6.length]
end
def ahd:List SV→List Entry→Option Out
 | [.one ⟨true,[.val (.int .i64 x0),.val (.string _x1),.val (.int .i64 x2)]⟩,.one ⟨true,[.val (.int .i64 x3),.val (.int .i64 x4),.val (.int .i64 x5)]⟩,.one ⟨false,[.ref 0]⟩],[.row false 2 (.int .i64) x6]=>some ⟨.tup [⟨false,[.val (.int .i64 (Bw x0 x2 x3 x4 x5 x6))]⟩,⟨true,[.val (.int .i64 (zd x0 x2 x3 x4 x5 x6)),.val (.int .i64 (ze x0 x4 x5 x6)),.val (.int .i64 (zf x0 x2 x3 x4 x5 x6))]⟩],[.row false 2 akd x6],[],[Bx x6]⟩
 |_,_=>none
def abl:PF prog:=PF.ofG prog [Yt,agN,ahQ] [] bG 134 f134 func134 (fun c _=>LOk.nil c) ahd (by
 intro vs es r h;unfold ahd at h;split at h
 ·cases h;kernel_rfl
 ·cases h)
def bitsB(n:Int)(l:List Int):Bool:=l.all (fun v=>inR v 0 1)&&((l.length:Int)==n)
def takesK(k:Int):Int:=ec k
theorem cO{n:Int}{l:List Int}:bitsB n l=true↔(∀ v∈l,v=0∨v=1)∧(l.length:Int)=n:=by
 simp only [bitsB,w5,List.all_eq_true,tE,beq_iff_eq]
 constructor
 ·rintro⟨h1,h2⟩;exact⟨fun v hv=>by have:=h1 v hv;omega,h2⟩
 ·rintro⟨h1,h2⟩;exact⟨fun v hv=>by have:=h1 v hv;omega,h2⟩
def xB(b:Int):(Unit)→Nat ⊕ (Unit)
 |_=>(bif(!aX b 0 1)then(.inl 0)else(.inr ()))
def sk(y1:List Int)(i:Nat):(Unit)→nf
 |_=>((i:Int),y1)
def Lu:nf→Unit
 |(_,_)=>()
theorem af3(y1:List Int) (hn:y1.length≤9223372036854775807):
  fE.fin ((0:Int),y1)=true∧fE.res ((0:Int),y1)=((cX (xB) 1 y1 0 ()).1,(sk y1) (cX (xB) 1 y1 0 ()).2.1 (cX (xB) 1 y1 0 ()).2.2):=by
 have my:=fE.along (sk y1) Lu (xB) 1 (fun _ _=>True) y1 () (by trivial) (by simp only [fE,sk];omega) (fun i b a hb hI=> ?_) (fun a hI=> ?_)
 ·exact my
 ·obtain⟨⟩:=a
  have eQ:=(j9.1 hb).1
  have ry: ∀ d,v5 y1[i]? d=b:=fun d=>by rw [hb];rfl
  have hw:=IG eQ hn
  have lz:ltI (i:Int) (y1.length:Int)=true:=cS (by omega)
  have Qg:leI (0:Int) (i:Int)=true:=bu (by omega)
  have yL:ltN i y1.length=true:=dI eQ
  refine⟨?_,?_,?_,?_⟩
  ·simp [xQ,Ch,Ci,Cj,Ck,zP,fE,LT.nds,allT,sk,lz,Qg,yL,ry]
  ·simp [xQ,Ch,Ci,Cj,Ck,zP,fE,LT.each,sk,Lu,hw]
  ·simp only [xQ,Ch,Ci,Cj,Ck,zP,fE,LT.fn,sk,Lu,xB,w7,lz,Qg,yL,ry,cond_true,j8]
  ·exact fun _ _=>trivial
 ·obtain⟨⟩:=a
  simp [xQ,Ch,Ci,Cj,Ck,zP,fE,LT.out,sk]
def eq(b:Int):(Unit)→Nat ⊕ (Unit)
 |_=>(bif(yM b)then(.inl 0)else(.inr ()))
def cF(y2:List Int)(i:Nat):(Unit)→bM
 |_=>((i:Int),(↑y2.length:Int),y2)
def nY:bM→Unit
 |(_,_,_)=>()
theorem GW(y2:List Int) (hn:y2.length≤9223372036854775807):
  aA.fin ((0:Int),(↑y2.length:Int),y2)=true∧aA.res ((0:Int),(↑y2.length:Int),y2)=((cX (eq) 1 y2 0 ()).1,(cF y2) (cX (eq) 1 y2 0 ()).2.1 (cX (eq) 1 y2 0 ()).2.2):=by
 have my:=aA.along (cF y2) nY (eq) 1 (fun _ _=>True) y2 () (by trivial) (by simp only [aA,cF];omega) (fun i b a hb hI=> ?_) (fun a hI=> ?_)
 ·exact my
 ·obtain⟨⟩:=a
  have eQ:=(j9.1 hb).1
  have ry: ∀ d,v5 y2[i]? d=b:=fun d=>by rw [hb];rfl
  have hw:=IG eQ hn
  have lz:ltI (i:Int) (y2.length:Int)=true:=cS (by omega)
  have Qg:leI (0:Int) (i:Int)=true:=bu (by omega)
  have yL:ltN i y2.length=true:=dI eQ
  refine⟨?_,?_,?_,?_⟩
  ·simp [gk,gm,gn,gp,gq,gr,fZ,aA,LT.nds,allT,cF,lz,Qg,yL,ry]
  ·simp [gk,gm,gn,gp,gq,gr,fZ,aA,LT.each,cF,nY,hw]
  ·simp only [gk,gm,gn,gp,gq,gr,fZ,aA,LT.fn,cF,nY,eq,w7,lz,Qg,yL,ry,cond_true,j8]
  ·exact fun _ _=>trivial
 ·obtain⟨⟩:=a
  simp [gk,gm,gn,gp,gq,gr,fZ,aA,LT.out,cF]
theorem amz(n:Int)(l:List Int)(h:leN l.length 9223372036854775807=true):TR n l=bitsB n l∧TS l=true:=by
 obtain⟨w1,w2⟩:=af3 l (iv.1 h)
 rw [ow (P:=fun v=> !inR v 0 1) (j:=0) (fun v=>by simp only [xB,aX,Pn])]at w2
 have e5:(l.any fun v=> !inR v 0 1)= !l.all fun v=>inR v 0 1:=by simp [List.all_eq_not_any_not]
 rw [e5]at w2
 simp only [TR,TS,w1,w2,allT,bitsB]
 cases (l.all fun v=>inR v 0 1) <;> simp [Nat.beq]
theorem aq5(v:Int):(bif v !=0 then v !=1 else false)= !inR v 0 1:=by
 have:inR v 0 1=(v==0||v==1):=by rw [Bool.eq_iff_iff,tE];simp;omega
 rw [this]
 cases h0:v==0 <;> simp [bne,h0]
theorem al0(n:Int)(l:List Int)(h:leN l.length 9223372036854775807=true):SA n l=bitsB n l∧SB n l=true:=by
 obtain⟨w1,w2⟩:=GW l (iv.1 h)
 rw [ow (P:=fun v=> !inR v 0 1) (j:=0) (fun v=>by simp only [eq,yM,aq5])]at w2
 have e5:(l.any fun v=> !inR v 0 1)= !l.all fun v=>inR v 0 1:=by simp [List.all_eq_not_any_not]
 rw [e5]at w2
 have q: ∀ m:Nat,leI 0 (m:Int)=true:=fun m=>bu (by omega)
 have q2:leI 0 (-1)=false:=rfl
 simp only [SA,SB,oL,oM,qb,qc,lJ,w1,w2,allT,bitsB,cF]
 cases (l.all fun v=>inR v 0 1) <;> cases ((l.length:Int)==n) <;> simp [Nat.beq,q,q2]
theorem abT(p q:Int):Zz p q p q=min p q:=by rw [aog];cases h:ltI p q <;> simp <;> simp at h <;> omega
theorem abS(p q:Int):Zz p q q p=max p q:=by rw [aog];cases h:ltI p q <;> simp <;> simp at h <;> omega
theorem WP{l:List Int}(h:bitsB 1 l=true): ∃ x,l= [x]∧(x=0∨x=1):=by
 obtain⟨h1,h2⟩:=cO.1 h
 match l,h1,h2 with
 | [x],h1,_=>exact⟨x,rfl,h1 x (by simp)⟩
 | [],_,h2=>simp at h2
 |_::_::_,_,h2=>simp at h2;omega
theorem WQ{l:List Int}(h:bitsB 2 l=true): ∃ x y,l= [x,y]∧(x=0∨x=1)∧(y=0∨y=1):=by
 obtain⟨h1,h2⟩:=cO.1 h
 match l,h1,h2 with
 | [x,y],h1,_=>exact⟨x,y,rfl,h1 x (by simp),h1 y (by simp)⟩
 | [],_,h2=>simp at h2
 | [_],_,h2=>simp at h2
 |_::_::_::_,_,h2=>simp at h2;omega
theorem ah6{k n a b c:Int}{s:alV}{l:List Int}(hB:vM k s n=true)(hP:possB k n a b c=true)(hA:bitsB (takesK k) l=true):
  Bw k n a b c l=dZ k n a b c l∧zd k n a b c l=fK k n a b c l∧
  ze k b c l=fL k b c l∧zf k n a b c l=fM k n a c l∧Bx l=true∧iq l=true∧
  possB k n (fK k n a b c l) (fL k b c l) (fM k n a c l)=true:=by
 obtain⟨hk,hn,_⟩:=XZ hB
 have hw:IntKind.i64.wrap (n + 1)=n + 1:=aJ (by omega) (by omega)
 have hwa:=(abu hP hn).1
 have hwa1:IntKind.i64.wrap (a + 1)=a + 1:=aJ (by omega) (by omega)
 have hwa2:IntKind.i64.wrap (a - 1)=a - 1:=aJ (by omega) (by omega)
 have hm:IntKind.i64.wrap (min (a + 1) n)=min (a + 1) n:=aJ (by omega) (by omega)
 have hm2:IntKind.i64.wrap (min n (a + 1))=min n (a + 1):=aJ (by omega) (by omega)
 have h01:IntKind.i64.wrap (0 + 1)=1:=rfl
 have n0:IntKind.i64.wrap 0=0:=rfl
 have w1:IntKind.i64.wrap 1=1:=rfl
 have l12:ltI 1 2=true:=rfl
 have hb:=(abu hP hn).2.1
 have hc:=(abu hP hn).2.2
 rcases kinds hk with rfl | rfl | rfl | rfl | rfl | rfl
 ·obtain⟨x,rfl,hx⟩:=WP hA
  have hp:=hP
  simp [possB,cQ,aX]at hp
  rcases hx with rfl | rfl <;> simp only [eE,Bz,BA,wE,mS,BB,BC,Bw,zd,ze,zf,Bx,rn,rp,rq,sr,su,sv,sw,iC,ol,pU,sx,sy,uG,uH,uI,uJ,mT,cC,gQ,ki,eU,kj,kk,km,kn,jb,dZ,fK,fL,fM,iq,gc,gP,ja,kg,kh,lO,lP,lQ,lR,gY,possB,cQ,aX,allT,abT,abS] <;> simp [hw,hwa1,hwa2,hm,hm2,h01,n0,w1,l12,hp,Bool.cond_eq_ite] <;> (repeat' split) <;> omega
 ·obtain⟨x,rfl,hx⟩:=WP hA
  have hp:=hP
  simp [possB,cQ,aX]at hp
  rcases hx with rfl | rfl <;> simp only [eE,Bz,BA,wE,mS,BB,BC,Bw,zd,ze,zf,Bx,rn,rp,rq,sr,su,sv,sw,iC,ol,pU,sx,sy,uG,uH,uI,uJ,mT,cC,gQ,ki,eU,kj,kk,km,kn,jb,dZ,fK,fL,fM,iq,gc,gP,ja,kg,kh,lO,lP,lQ,lR,gY,possB,cQ,aX,allT,abT,abS] <;> simp [hw,hwa1,hwa2,hm,hm2,h01,n0,w1,l12,hp,Bool.cond_eq_ite] <;> (repeat' split) <;> omega
 ·obtain⟨x,rfl,hx⟩:=WP hA
  have hp:=hP
  simp [possB,cQ,aX]at hp
  rcases hx with rfl | rfl <;> simp only [eE,Bz,BA,wE,mS,BB,BC,Bw,zd,ze,zf,Bx,rn,rp,rq,sr,su,sv,sw,iC,ol,pU,sx,sy,uG,uH,uI,uJ,mT,cC,gQ,ki,eU,kj,kk,km,kn,jb,dZ,fK,fL,fM,iq,gc,gP,ja,kg,kh,lO,lP,lQ,lR,gY,possB,cQ,aX,allT,abT,abS] <;> simp [hw,hwa1,hwa2,hm,hm2,h01,n0,w1,l12,hp,Bool.cond_eq_ite] <;> (repeat' split) <;> omega
 ·obtain⟨x,y,rfl,hx,hy⟩:=WQ hA
  have hp:=hP
  simp [possB,cQ,aX]at hp
  rcases hx with rfl | rfl <;> rcases hy with rfl | rfl <;> simp only [eE,Bz,BA,wE,mS,BB,BC,Bw,zd,ze,zf,Bx,rn,rp,rq,sr,su,sv,sw,iC,ol,pU,sx,sy,uG,uH,uI,uJ,mT,cC,gQ,ki,eU,kj,kk,km,kn,jb,dZ,fK,fL,fM,iq,gc,gP,ja,kg,kh,lO,lP,lQ,lR,gY,possB,cQ,aX,allT,abT,abS] <;> simp [hw,hwa1,hwa2,hm,hm2,h01,n0,w1,l12,hp,Bool.cond_eq_ite] <;> (repeat' split) <;> omega
 ·obtain⟨x,y,rfl,hx,hy⟩:=WQ hA
  have hp:=hP
  rcases hb with rfl | rfl <;> rcases hc with rfl | rfl <;> rcases hx with rfl | rfl <;> rcases hy with rfl | rfl <;> simp [possB,cQ,aX,hw]at hp <;> simp only [eE,Bz,BA,wE,mS,BB,BC,Bw,zd,ze,zf,Bx,rn,rp,rq,sr,su,sv,sw,iC,ol,pU,sx,sy,uG,uH,uI,uJ,mT,cC,gQ,ki,eU,kj,kk,km,kn,jb,dZ,fK,fL,fM,iq,gc,gP,ja,kg,kh,lO,lP,lQ,lR,gY,possB,cQ,aX,allT,abT,abS] <;> simp [hw,hwa1,hwa2,hm,hm2,h01,n0,w1,l12,hp,Bool.cond_eq_ite] <;> (repeat' split) <;> omega
 ·obtain⟨x,y,rfl,hx,hy⟩:=WQ hA
  have hp:=hP
  rcases hb with rfl | rfl <;> rcases hc with rfl | rfl <;> rcases hx with rfl | rfl <;> rcases hy with rfl | rfl <;> simp [possB,cQ,aX,hw]at hp <;> simp only [eE,Bz,BA,wE,mS,BB,BC,Bw,zd,ze,zf,Bx,rn,rp,rq,sr,su,sv,sw,iC,ol,pU,sx,sy,uG,uH,uI,uJ,mT,cC,gQ,ki,eU,kj,kk,km,kn,jb,dZ,fK,fL,fM,iq,gc,gP,ja,kg,kh,lO,lP,lQ,lR,gY,possB,cQ,aX,allT,abT,abS] <;> simp [hw,hwa1,hwa2,hm,hm2,h01,n0,w1,l12,hp,Bool.cond_eq_ite] <;> (repeat' split) <;> omega
def aaE:List SV→List Entry→Option Out
 | [.one ⟨false,[.ref 0]⟩,.one ⟨false,[.val (.int .i64 x0)]⟩],[.row false 2 (.int .i64) x1]=>some ⟨.one ⟨false,[.val (.bool (bitsB x0 x1))]⟩,[.row false 2 akd x1],[],[leN x1.length 9223372036854775807]⟩
 |_,_=>none
def cP:PF prog:=PF.alt aje aaE (by
 intro args es o h cf;unfold aaE at h;split at h
 ·rename_i x0 x1
  cases h
  have cf:=iw cf
  have hh:=amz x0 x1 cf
  obtain⟨e0,en⟩:=hh
  exact mK rfl (gE en) (by simp only [e0] <;> rfl) rfl rfl
 ·cases h)
def aat:List SV→List Entry→Option Out
 | [.one ⟨false,[.ref 0]⟩,.one ⟨false,[.val (.int .i64 x0)]⟩],[.row false 2 (.int .i64) x1]=>some ⟨.one ⟨false,[.val (.bool (bitsB x0 x1))]⟩,[.row false 2 akd x1],[],[leN x1.length 9223372036854775807]⟩
 |_,_=>none
def nW:PF prog:=PF.alt ai2 aat (by
 intro args es o h cf;unfold aat at h;split at h
 ·rename_i x0 x1
  cases h
  have cf:=iw cf
  have hh:=al0 x0 x1 cf
  obtain⟨e0,en⟩:=hh
  exact mK rfl (gE en) (by simp only [e0] <;> rfl) rfl rfl
 ·cases h)
def aqO(m:Nat)(rs:List (List Int)):Bool:=leN rs.length m&&rs.all fun x=>leN x.length m
theorem ap7{m:Nat}{rs:List (List Int)}:aqO m rs=true↔rs.length≤m∧ ∀ x∈rs,x.length≤m:=by
 simp only [aqO,w5,iv,List.all_eq_true]
section
variable (x3 x4:Int)(x5:List (Int×alV×Int))
def lC:Bool:=bif x3==1 then x3==1 else bif x3==2 then x3==2 else x3==3
def lD:Bool:=bif x3==5 then x3==5 else x3==6
def qD:Bool:=bif x3==8 then x3==8 else x3==9
def eG:Int:=bif lC x3 then(0:Int)else bif x3==4 then(1:Int)else bif lD x3 then(2:Int)else bif x3==7 then ec ((v5 x5[v3 x4]? ((0:Int),ByteArray.empty,(0:Int))).1)else bif qD x3 then(1:Int)else(0:Int)
def jf:Int:=bif lC x3 then(1:Int)else bif x3==4 then(1:Int)else bif lD x3 then(1:Int)else bif x3==7 then(1:Int)else bif qD x3 then(0:Int)else(0:Int)
def uQ:Bool:=allT [lC x3||(x3==4||(lD x3||(!x3==7||leI 0 x4))),lC x3||(x3==4||(lD x3||(!x3==7||ltI x4 (↑x5.length:Int)))),lC x3||(x3==4||(lD x3||(!x3==7||ltN x4.toNat x5.length)))]
end
def YL:List SV→List Entry→Option Out
 | [.one ⟨true,[.val (.int .i64 _x0),.val (.int .i64 _x1),.val (.int .i64 _x2),.ref 0,.ref 1]⟩,.one ⟨true,[.val (.int .i64 x3),.val (.int .i64 x4)]⟩],[.row false 122 (.pair (.int .i64) (.pair (.str) (.int .i64))) x5,.row false 83 (.pair (.int .i64) (.int .i64)) x6]=>some ⟨.tup [⟨false,[.val (.int .i64 (eG x3 x4 x5))]⟩,⟨false,[.val (.int .i64 (jf x3))]⟩],[.row false 122 afs x5,.row false 83 ahF x6],[],[uQ x3 x4 x5]⟩
 |_,_=>none
def mV:PF prog:=PF.ofG prog [nX] [] bG 123 f123 func123 (fun c _=>LOk.nil c) YL (by
 intro vs es r h;unfold YL at h;split at h
 ·cases h;kernel_rfl
 ·cases h)
def uj(x0 x1 x2 x3 x4:Int)(x5:List (Int×alV×Int)):Bool:=bif x3==1 then aX x4 0 1 else bif bif x3==2 then x3==2 else x3==10 then aX x4 0 (v6 .i64 (x0 - (1:Int)))else bif bif x3==3 then x3==3 else bif x3==8 then x3==8 else x3==11 then aX x4 0 (v6 .i64 (x1 - (1:Int)))else bif bif x3==4 then x3==4 else bif x3==5 then x3==5 else x3==6 then x4==0 else bif x3==7 then aX x4 0 (v6 .i64 ((↑x5.length:Int) - (1:Int)))else bif x3==9 then aX x4 0 (v6 .i64 (x2 - (1:Int)))else false
def aaf:List SV→List Entry→Option Out
 | [.one ⟨true,[.val (.int .i64 x0),.val (.int .i64 x1),.val (.int .i64 x2),.ref 0,.ref 1]⟩,.one ⟨true,[.val (.int .i64 x3),.val (.int .i64 x4)]⟩],[.row false 122 (.pair (.int .i64) (.pair (.str) (.int .i64))) x5,.row false 83 (.pair (.int .i64) (.int .i64)) x6]=>some ⟨.one ⟨false,[.val (.bool (uj x0 x1 x2 x3 x4 x5))]⟩,[.row false 122 afs x5,.row false 83 ahF x6],[],[]⟩
 |_,_=>none
def DF:PF prog:=PF.ofG prog [nQ] [] bG 132 f132 func132 (fun c _=>LOk.nil c) aaf (by
 intro vs es r h;unfold aaf at h;split at h
 ·cases h;kernel_rfl
 ·cases h)
abbrev jA:=Int×Int×Int×Int×Int×List Int×List (Int×(alV×Int))×List (Int×Int)
section
variable (y0 y1 y2 y3 y4:Int)(y5:List Int)(y6:List (Int×(alV×Int)))(y7:List (Int×Int))
def eA:Int×Int:=v5 y7[v3 y0]? ((0:Int),(0:Int))
def vD:Int:=eG ((eA y0 y7).1) ((eA y0 y7).2) y6
def mN:Int:=v6 .i64 (v6 .i64 (y1 - vD y0 y6 y7) + jf ((eA y0 y7).1))
def pQ:Bool:=ltI y0 (↑y7.length:Int)
def xt:Bool:=leI 0 y0
def xu:Bool:=ltN y0.toNat y7.length
def xw:Bool:= !uj y2 y3 y4 ((eA y0 y7).1) ((eA y0 y7).2) y6
def Cb:Bool:=uQ ((eA y0 y7).1) ((eA y0 y7).2) y6
def Cc:Bool:=bif ltI y1 (vD y0 y6 y7)then true else ltI 40 (mN y0 y1 y6 y7)
def Cd:Bool:=leN (v4 y5 + v4 [mN y0 y1 y6 y7]) 9223372036854775807
def Ce:Bool:=leN ((v4 y5 + v4 [mN y0 y1 y6 y7]) * 8) 140737488355328
def Cf:Int:=v6 .i64 (y0 + (1:Int))
def Cg:Int:=mN y0 y1 y6 y7
def AU:List Int:=y5++ [mN y0 y1 y6 y7]
end
def Zo:jA→List (Nat×SV)
 |(y0,y1,_,_,_,_,_,_)=> [(6,(.one ⟨false,[.val (.int .i64 y0)]⟩)),(1,(.one ⟨false,[.ptr 0 0]⟩)),(5,(.one ⟨false,[.val (.int .i64 y1)]⟩)),(4,(.one ⟨false,[.ref 1]⟩))]
def Zj:jA→List (Nat×Entry)
 |(_,_,y2,y3,y4,y5,y6,y7)=> [(0,(.box 27 [.val (.int .i64 y2),.val (.int .i64 y3),.val (.int .i64 y4),.ref 2,.ref 3])),(2,(.row false 122 afs y6)),(3,(.row false 83 ahF y7)),(1,(.row true 2 akd y5))]
def Zy:Nat→jA→List (Nat×SV)
 |0,(_,_,_,_,_,_,_,_)=> [(2,(.one ⟨false,[.ref 4]⟩)),(3,(.one ⟨false,[.val (.bool false)]⟩))]
 |1,(_,_,_,_,_,_,_,_)=> [(2,(.one ⟨false,[.ref 4]⟩)),(3,(.one ⟨false,[.val (.bool false)]⟩))]
 |_,(_,y1,_,_,_,_,_,_)=> [(5,(.one ⟨false,[.val (.int .i64 y1)]⟩)),(4,(.one ⟨false,[.ref 1]⟩))]
def Zt:Nat→jA→List (Nat×Entry)
 |0,(_,_,y2,y3,y4,y5,y6,y7)=> [(0,(.box 27 [.val (.int .i64 y2),.val (.int .i64 y3),.val (.int .i64 y4),.ref 2,.ref 3])),(1,(.row true 2 akd y5)),(2,(.row false 122 afs y6)),(3,(.row false 83 ahF y7)),(4,(.row true 2 akd []))]
 |1,(_,_,y2,y3,y4,y5,y6,y7)=> [(0,(.box 27 [.val (.int .i64 y2),.val (.int .i64 y3),.val (.int .i64 y4),.ref 2,.ref 3])),(1,(.row true 2 akd y5)),(2,(.row false 122 afs y6)),(3,(.row false 83 ahF y7)),(4,(.row true 2 akd []))]
 |_,(_,_,y2,y3,y4,y5,y6,y7)=> [(0,(.box 27 [.val (.int .i64 y2),.val (.int .i64 y3),.val (.int .i64 y4),.ref 2,.ref 3])),(1,(.row true 2 akd y5)),(2,(.row false 122 afs y6)),(3,(.row false 83 ahF y7))]
def vm:jA→LT jA
 |(y0,y1,y2,y3,y4,y5,y6,y7)=> .ite (pQ y0 y7) (.need [xt y0,pQ y0 y7,xu y0 y7] (.ite (xw y0 y2 y3 y4 y6 y7) (.ext 0 [(0,0),(1,1),(2,2),(3,3),(4,896)]) (.need [xt y0,pQ y0 y7,xu y0 y7,Cb y0 y6 y7] (.ite (Cc y0 y1 y6 y7) (.ext 1 [(0,0),(1,1),(2,2),(3,3),(4,2368)]) (.need [Cd y0 y1 y5 y6 y7,Ce y0 y1 y5 y6 y7] (.nrm ((Cf y0),Cg y0 y1 y6 y7,y2,y3,y4,AU y0 y1 y5 y6 y7,y6,y7) [(0,0),(1,2944),(2,2),(3,3)])))))) (.ext 2 [(0,0),(1,1),(2,2),(3,3)])
def Gt(s:St):Option jA:=
 (match s.look 6 with
 |some ⟨none,.one ⟨false,[.val (.int .i64 y0)]⟩⟩=>
 (match s.look 1 with
 |some ⟨none,.one ⟨false,[.ptr 192 0]⟩⟩=>
 (match s.look 5 with
 |some ⟨none,.one ⟨false,[.val (.int .i64 y1)]⟩⟩=>
 (match s.look 4 with
 |some ⟨none,.one ⟨false,[.ref 384]⟩⟩=>
 (match s.ent 192 with
 |some (.box 27 [.val (.int .i64 y2),.val (.int .i64 y3),.val (.int .i64 y4),.ref 0,.ref 1])=>
 (match s.ent 0 with
 |some (.row false 122 (.pair (.int .i64) (.pair .str (.int .i64))) y6)=>
 (match s.ent 1 with
 |some (.row false 83 (.pair (.int .i64) (.int .i64)) y7)=>
 (match s.ent 384 with
 |some (.row true 2 (.int .i64) y5)=>
 some (y0,y1,y2,y3,y4,y5,y6,y7)
 |_=>none)
 |_=>none)
 |_=>none)
 |_=>none)
 |_=>none)
 |_=>none)
 |_=>none)
 |_=>none)
def de:Lp jA where
 h:=⟨[10,11,12,13,14,17,18,19,20,21,22,23,24,2,3,26,27,28,29,30,31,32,25,33,34,7,8,35,36,37,38,39,40,41,42,43,44,45,46,47,48,49,50,5,51,52,53,54,4,15,16,6],[0,2,3],[1],[4]⟩
 JL:=Zo
 JE:=Zj
 XL:=Zy
 XE:=Zt
 q:=fun j=>match j with | 0=> .ret | 1=> .ret | _=> .exit 0
 tags:= [0,1,2]
 lt:=vm
 fuel:=fun(y0,y1,y2,y3,y4,y5,y6,y7)=>y0.natAbs + y1.natAbs + y2.natAbs + y3.natAbs + y4.natAbs + y5.length + y6.length + y7.length
 fix:=fun(_,_,y2,y3,y4,_,y6,y7) (y0,y1,_,_,_,y5,_,_)=>(y0,y1,y2,y3,y4,y5,y6,y7)
 σ:= [(0,192),(2,0),(3,1),(1,384)]
 rd:=Gt
theorem Xd:LoopOk prog (fun k=>Nat.blt k Tryz.f92.ntmps) de.F (bV f92 0):=by
 refine Lp.ok (tbl:= (T3z [mV,DF])) (lf:= []) bG de (by kernel_rfl) (LOk.nil _) (fun _=>rfl) (fun j _=>by unfold de;match j with | 0=>rfl | 1=>rfl | _ + 2=>rfl) ?_ ?_ ?_ ?_ (fun _=>rfl) ?_
 ·rintro⟨y0,y1,y2,y3,y4,y5,y6,y7⟩;kernel_rfl
 ·rintro⟨y0,y1,y2,y3,y4,y5,y6,y7⟩;kernel_rfl
 ·intro s x h
  have h:Gt s=some x:=h
  unfold Gt at h
  repeat' split at h
  all_goals cases h
  constructor<;>repeat(first|refine ab (by assumption) rfl ?_|refine aa rfl (by assumption) rfl ?_|exact rfl)
 ·rintro⟨y0,y1,y2,y3,y4,y5,y6,y7⟩;kernel_rfl
 ·rintro⟨y0,y1,y2,y3,y4,y5,y6,y7⟩ z;exact(And.intro (And.intro trivial (And.intro trivial rfl)) trivial)
section
variable (x0 x1 x2:Int)(x3:List (Int×alV×Int))(x4:List (Int×Int))
def Au:Int×Int×Int×Int×Int×List Int×List (Int×alV×Int)×List (Int×Int):=((0:Int),(0:Int),x0,x1,x2,[],x3,x4)
def Md:Bool:=Nat.beq ((Lp.res de (Au x0 x1 x2 x3 x4)).1) 0
def Me:Bool:=Nat.beq ((Lp.res de (Au x0 x1 x2 x3 x4)).1) 1
def Mf:Int×Int×Int×Int×List Int×List (Int×alV×Int)×List (Int×Int):=(Lp.res de (Au x0 x1 x2 x3 x4)).2.2
def Hf:Bool:=bif Md x0 x1 x2 x3 x4 then false else bif Me x0 x1 x2 x3 x4 then false else (Mf x0 x1 x2 x3 x4).1==0
def NZ:List Int:=bif Md x0 x1 x2 x3 x4 then []else bif Me x0 x1 x2 x3 x4 then []else ((Mf x0 x1 x2 x3 x4).2.2.2.2).1
def Hg:Bool:=allT [Lp.fin de (Au x0 x1 x2 x3 x4)]
end
def Ur:List SV→List Entry→Option Out
 | [.one ⟨true,[.val (.int .i64 x0),.val (.int .i64 x1),.val (.int .i64 x2),.ref 0,.ref 1]⟩],[.row false 122 (.pair (.int .i64) (.pair (.str) (.int .i64))) x3,.row false 83 (.pair (.int .i64) (.int .i64)) x4]=>some ⟨.tup [⟨false,[.ref 2]⟩,⟨false,[.val (.bool (Hf x0 x1 x2 x3 x4))]⟩],[.row false 122 afs x3,.row false 83 ahF x4],[.row true 2 akd (NZ x0 x1 x2 x3 x4)],[Hg x0 x1 x2 x3 x4]⟩
 |_,_=>none
def tP:PF prog:=PF.ofG prog (T3z [mV,DF]) [de.F] bG 92 f92 func92 (LOk.fnT (l:= [bV f92 0]) (by kernel_rfl) (.cons Xd (.nil _))) Ur (by
 intro vs es r h;unfold Ur at h;split at h
 ·cases h;kernel_rfl
 ·cases h)
abbrev og:=Int×Int×Int×Int×List (Int×(alV×Int))×List (Int×Int)
section
variable (y0:Int)(y4:List (Int×(alV×Int)))
def nh:Int×alV×Int:=v5 y4[v3 y0]? ((0:Int),ByteArray.empty,(0:Int))
def zl:Bool:=ltI y0 (↑y4.length:Int)
def IP:Bool:=leI 0 y0
def IQ:Bool:=ltN y0.toNat y4.length
def IR:Bool:=leN (ByteArray.size (((nh y0 y4).2).1)) 9223372036854775807
def DI:Bool:= !vM ((nh y0 y4).1) (((nh y0 y4).2).1) ((nh y0 y4).2.2)
def IU:Int:=v6 .i64 (y0 + (1:Int))
end
def ae6:og→List (Nat×SV)
 |(y0,_,_,_,_,_)=> [(3,(.one ⟨false,[.val (.int .i64 y0)]⟩)),(1,(.one ⟨false,[.ptr 0 0]⟩))]
def ae3:og→List (Nat×Entry)
 |(_,y1,y2,y3,y4,y5)=> [(0,(.box 27 [.val (.int .i64 y1),.val (.int .i64 y2),.val (.int .i64 y3),.ref 1,.ref 2])),(1,(.row false 122 afs y4)),(2,(.row false 83 ahF y5))]
def afc:Nat→og→List (Nat×SV)
 |0,(_,_,_,_,_,_)=> [(2,(.one ⟨false,[.val (.bool false)]⟩))]
 |_,(_,_,_,_,_,_)=> []
def ae9:Nat→og→List (Nat×Entry)
 |0,(_,y1,y2,y3,y4,y5)=> [(0,(.box 27 [.val (.int .i64 y1),.val (.int .i64 y2),.val (.int .i64 y3),.ref 1,.ref 2])),(1,(.row false 122 afs y4)),(2,(.row false 83 ahF y5))]
 |_,(_,y1,y2,y3,y4,y5)=> [(0,(.box 27 [.val (.int .i64 y1),.val (.int .i64 y2),.val (.int .i64 y3),.ref 1,.ref 2])),(1,(.row false 122 afs y4)),(2,(.row false 83 ahF y5))]
def BD:og→LT og
 |(y0,y1,y2,y3,y4,y5)=> .ite (zl y0 y4) (.need [IP y0,zl y0 y4,IQ y0 y4,IR y0 y4] (.ite (DI y0 y4) (.ext 0 [(0,0),(1,1),(2,2)]) (.nrm ((IU y0),y1,y2,y3,y4,y5) [(0,0),(1,1),(2,2)]))) (.ext 1 [(0,0),(1,1),(2,2)])
def Nf(s:St):Option og:=
 (match s.look 3 with
 |some ⟨none,.one ⟨false,[.val (.int .i64 y0)]⟩⟩=>
 (match s.look 1 with
 |some ⟨none,.one ⟨false,[.ptr 192 0]⟩⟩=>
 (match s.ent 192 with
 |some (.box 27 [.val (.int .i64 y1),.val (.int .i64 y2),.val (.int .i64 y3),.ref 0,.ref 1])=>
 (match s.ent 0 with
 |some (.row false 122 (.pair (.int .i64) (.pair .str (.int .i64))) y4)=>
 (match s.ent 1 with
 |some (.row false 83 (.pair (.int .i64) (.int .i64)) y5)=>
 some (y0,y1,y2,y3,y4,y5)
 |_=>none)
 |_=>none)
 |_=>none)
 |_=>none)
 |_=>none)
def gA:Lp og where
 h:=⟨[34,35,36,37,38,41,42,43,44,45,46,47,2,39,40,3],[0,1,2],[],[]⟩
 JL:=ae6
 JE:=ae3
 XL:=afc
 XE:=ae9
 q:=fun j=>match j with | 0=> .ret | _=> .exit 0
 tags:= [0,1]
 lt:=BD
 fuel:=fun(y0,y1,y2,y3,y4,y5)=>y0.natAbs + y1.natAbs + y2.natAbs + y3.natAbs + y4.length + y5.length
 fix:=fun(_,y1,y2,y3,y4,y5) (y0,_,_,_,_,_)=>(y0,y1,y2,y3,y4,y5)
 σ:= [(0,192),(1,0),(2,1)]
 rd:=Nf
theorem acx:LoopOk prog (fun k=>Nat.blt k Tryz.f49.ntmps) gA.F (bV f49 0):=by
 refine Lp.ok (tbl:= (T3z [nQ,abf,tP])) (lf:= []) bG gA (by kernel_rfl) (LOk.nil _) (fun _=>rfl) (fun j _=>by unfold gA;match j with | 0=>rfl | _ + 1=>rfl) ?_ ?_ ?_ ?_ (fun _=>rfl) ?_
 ·rintro⟨y0,y1,y2,y3,y4,y5⟩;kernel_rfl
 ·rintro⟨y0,y1,y2,y3,y4,y5⟩;kernel_rfl
 ·intro s x h
  have h:Nf s=some x:=h
  unfold Nf at h
  repeat' split at h
  all_goals cases h
  constructor<;>repeat(first|refine ab (by assumption) rfl ?_|refine aa rfl (by assumption) rfl ?_|exact rfl)
 ·rintro⟨y0,y1,y2,y3,y4,y5⟩;kernel_rfl
 ·rintro⟨y0,y1,y2,y3,y4,y5⟩ z;exact(And.intro (And.intro trivial rfl) trivial)
section
variable (x0 x1 x2:Int)(x3:List (Int×alV×Int))(x4:List (Int×Int))
def zW:Bool:=bif bif bif bif !aX x0 0 20 then true else !aX x1 0 20 then true else !aX x2 0 20 then true else ltI 2000 (↑x3.length:Int)then true else ltI 2000 (↑x4.length:Int)
def Tb:Int×Int×Int×Int×List (Int×alV×Int)×List (Int×Int):=((0:Int),x0,x1,x2,x3,x4)
def Tc:Bool:=Nat.beq ((Lp.res gA (Tb x0 x1 x2 x3 x4)).1) 0
def Wa:Bool:=bif zW x0 x1 x2 x3 x4 then false else bif Tc x0 x1 x2 x3 x4 then false else Hf x0 x1 x2 x3 x4
def Wb:Bool:=allT [zW x0 x1 x2 x3 x4||Lp.fin gA (Tb x0 x1 x2 x3 x4),zW x0 x1 x2 x3 x4||(Tc x0 x1 x2 x3 x4||Hg x0 x1 x2 x3 x4)]
end
def acJ:List SV→List Entry→Option Out
 | [.one ⟨true,[.val (.int .i64 x0),.val (.int .i64 x1),.val (.int .i64 x2),.ref 0,.ref 1]⟩],[.row false 122 (.pair (.int .i64) (.pair (.str) (.int .i64))) x3,.row false 83 (.pair (.int .i64) (.int .i64)) x4]=>some ⟨.one ⟨false,[.val (.bool (Wa x0 x1 x2 x3 x4))]⟩,[.row false 122 afs x3,.row false 83 ahF x4],[],[Wb x0 x1 x2 x3 x4]⟩
 |_,_=>none
def ajR:PF prog:=PF.ofG prog (T3z [nQ,abf,tP]) [gA.F] bG 49 f49 func49 (LOk.fnT (l:= [bV f49 0]) (by kernel_rfl) (.cons acx (.nil _))) acJ (by
 intro vs es r h;unfold acJ at h;split at h
 ·cases h;kernel_rfl
 ·cases h)
def ahH(x0:Int)(x1:alV)(x2:Int):Bool:= !vM x0 x1 x2
def Yz:List SV→List Entry→Option Out
 | [.one ⟨true,[.val (.int .i64 x0),.val (.string x1),.val (.int .i64 x2)]⟩],[]=>some ⟨.one ⟨false,[.val (.bool (ahH x0 x1 x2))]⟩,[],[],[]⟩
 |_,_=>none
def ahP:PF prog:=PF.ofG prog [abe] [] bG 116 f116 func116 (fun c _=>LOk.nil c) Yz (by
 intro vs es r h;unfold Yz at h;split at h
 ·cases h;kernel_rfl
 ·cases h)
def WU(x0:Int):Int:=bif bif x0==1 then x0==1 else bif x0==2 then x0==2 else x0==3 then(0:Int)else bif bif x0==4 then x0==4 else bif x0==7 then x0==7 else bif x0==8 then x0==8 else x0==9 then(1:Int)else(2:Int)
def Wt:List SV→List Entry→Option Out
 | [.one ⟨false,[.val (.int .i64 x0)]⟩],[]=>some ⟨.one ⟨false,[.val (.int .i64 (WU x0))]⟩,[],[],[]⟩
 |_,_=>none
def agM:PF prog:=PF.ofG prog [] [] bG 133 f133 func133 (fun c _=>LOk.nil c) Wt (by
 intro vs es r h;unfold Wt at h;split at h
 ·cases h;kernel_rfl
 ·cases h)
section
variable (x3 x4:Int)(x5:List (Int×alV×Int))
def gJ:Bool:=bif x3==1 then x3==1 else bif x3==2 then x3==2 else x3==3
def gK:Bool:=bif x3==5 then x3==5 else x3==6
def wC:Bool:=bif x3==8 then x3==8 else x3==9
def be:Int:=bif gJ x3 then(0:Int)else bif x3==4 then(1:Int)else bif gK x3 then(2:Int)else bif x3==7 then WU ((v5 x5[v3 x4]? ((0:Int),ByteArray.empty,(0:Int))).1)else bif wC x3 then(1:Int)else(0:Int)
def bW:Int:=bif gJ x3 then(1:Int)else bif x3==4 then(1:Int)else bif gK x3 then(1:Int)else bif x3==7 then(1:Int)else bif wC x3 then(0:Int)else(0:Int)
def ik:Bool:=allT [gJ x3||(x3==4||(gK x3||(!x3==7||leI 0 x4))),gJ x3||(x3==4||(gK x3||(!x3==7||ltI x4 (↑x5.length:Int)))),gJ x3||(x3==4||(gK x3||(!x3==7||ltN x4.toNat x5.length)))]
end
def wK:List SV→List Entry→Option Out
 | [.one ⟨true,[.val (.int .i64 _x0),.val (.int .i64 _x1),.val (.int .i64 _x2),.ref 0,.ref 1]⟩,.one ⟨true,[.val (.int .i64 x3),.val (.int .i64 x4)]⟩],[.row false 122 (.pair (.int .i64) (.pair (.str) (.int .i64))) x5,.row false 83 (.pair (.int .i64) (.int .i64)) x6]=>some ⟨.tup [⟨false,[.val (.int .i64 (be x3 x4 x5))]⟩,⟨false,[.val (.int .i64 (bW x3))]⟩],[.row false 122 afs x5,.row false 83 ahF x6],[],[ik x3 x4 x5]⟩
 |_,_=>none
def db:PF prog:=PF.ofG prog [agM] [] bG 93 f93 func93 (fun c _=>LOk.nil c) wK (by
 intro vs es r h;unfold wK at h;split at h
 ·cases h;kernel_rfl
 ·cases h)
def Dz(x0:List (Int×alV×Int)):Int:=(↑x0.length:Int)
def Mj:List SV→List Entry→Option Out
 | [.one ⟨false,[.ref 0]⟩],[.row false 122 (.pair (.int .i64) (.pair (.str) (.int .i64))) x0]=>some ⟨.one ⟨false,[.val (.int .i64 (Dz x0))]⟩,[.row false 122 afs x0],[],[]⟩
 |_,_=>none
def DC:PF prog:=PF.ofG prog [] [] bG 191 f191 func191 (fun c _=>LOk.nil c) Mj (by
 intro vs es r h;unfold Mj at h;split at h
 ·cases h;kernel_rfl
 ·cases h)
def fO(x0 x1 x2 x3:Int)(x4:List (Int×alV×Int)):Int:=bif x3==1 then(2:Int)else bif bif x3==2 then x3==2 else x3==10 then x0 else bif bif x3==3 then x3==3 else bif x3==8 then x3==8 else x3==11 then x1 else bif bif x3==4 then x3==4 else bif x3==5 then x3==5 else x3==6 then(1:Int)else bif x3==7 then Dz x4 else bif x3==9 then x2 else(0:Int)
def xY:List SV→List Entry→Option Out
 | [.one ⟨true,[.val (.int .i64 x0),.val (.int .i64 x1),.val (.int .i64 x2),.ref 0,.ref 1]⟩,.one ⟨false,[.val (.int .i64 x3)]⟩],[.row false 122 (.pair (.int .i64) (.pair (.str) (.int .i64))) x4,.row false 83 (.pair (.int .i64) (.int .i64)) x5]=>some ⟨.one ⟨false,[.val (.int .i64 (fO x0 x1 x2 x3 x4))]⟩,[.row false 122 afs x4,.row false 83 ahF x5],[],[]⟩
 |_,_=>none
def fP:PF prog:=PF.ofG prog (T3z [DC]) [] bG 166 f166 func166 (fun c _=>LOk.nil c) xY (by
 intro vs es r h;unfold xY at h;split at h
 ·cases h;kernel_rfl
 ·cases h)
abbrev bv:=Int×Int×Int×List (Int×Int)×Int×Int×Int×List Int×List (Int×(alV×Int))
section
variable (y0 y1 y2:Int)(y3:List (Int×Int))(y4 y5 y6:Int)(y7:List Int)(y8:List (Int×(alV×Int)))
def aB:Int×Int:=v5 y3[v3 y0]? ((0:Int),(0:Int))
def eW:Int:=be ((aB y0 y3).1) ((aB y0 y3).2) y8
def cq:Int:=v6 .i64 (y2 + v6 .i64 (bW ((aB y0 y3).1) - eW y0 y3 y8))
def fq:Bool:=ltI y0 y1
def jo:Bool:=leI 0 y0
def jp:Bool:=ltI y0 (↑y3.length:Int)
def jq:Bool:=ltN y0.toNat y3.length
def ft:Bool:=bif ltI ((aB y0 y3).2) 0 then true else leI (fO y4 y5 y6 ((aB y0 y3).1) y8) ((aB y0 y3).2)
def jr:Bool:=ik ((aB y0 y3).1) ((aB y0 y3).2) y8
def jt:Bool:=ltI y2 (eW y0 y3 y8)
def ju:Bool:=ltI 40 (cq y0 y2 y3 y8)
def jv:Bool:=leN (v4 y7 + v4 [cq y0 y2 y3 y8]) 9223372036854775807
def jw:Bool:=leN ((v4 y7 + v4 [cq y0 y2 y3 y8]) * 8) 140737488355328
def ji:Int:=v6 .i64 (y0 + (1:Int))
def jj:Int:=cq y0 y2 y3 y8
def jk:List Int:=y7++ [cq y0 y2 y3 y8]
end
def EF:bv→List (Nat×SV)
 |(y0,y1,y2,_,_,_,_,_,_)=> [(13,(.one ⟨false,[.val (.int .i64 y0)]⟩)),(12,(.one ⟨false,[.val (.int .i64 y1)]⟩)),(11,(.one ⟨false,[.ref 0]⟩)),(1,(.one ⟨false,[.ptr 1 0]⟩)),(5,(.one ⟨false,[.val (.int .i64 y2)]⟩)),(4,(.one ⟨false,[.ref 2]⟩))]
def ED:bv→List (Nat×Entry)
 |(_,_,_,y3,y4,y5,y6,y7,y8)=> [(0,(.row false 83 ahF y3)),(1,(.box 27 [.val (.int .i64 y4),.val (.int .i64 y5),.val (.int .i64 y6),.ref 3,.ref 0])),(3,(.row false 122 afs y8)),(2,(.row true 2 akd y7))]
def EJ:Nat→bv→List (Nat×SV)
 |0,(_,_,_,_,_,_,_,_,_)=> [(2,(.one ⟨false,[.ref 4]⟩)),(3,(.one ⟨false,[.val (.bool false)]⟩))]
 |1,(_,_,_,_,_,_,_,_,_)=> [(2,(.one ⟨false,[.ref 4]⟩)),(3,(.one ⟨false,[.val (.bool false)]⟩))]
 |2,(_,_,_,_,_,_,_,_,_)=> [(2,(.one ⟨false,[.ref 4]⟩)),(3,(.one ⟨false,[.val (.bool false)]⟩))]
 |_,(_,_,y2,_,_,_,_,_,_)=> [(5,(.one ⟨false,[.val (.int .i64 y2)]⟩)),(4,(.one ⟨false,[.ref 2]⟩))]
def EH:Nat→bv→List (Nat×Entry)
 |0,(_,_,_,y3,y4,y5,y6,y7,y8)=> [(0,(.row false 83 ahF y3)),(1,(.box 27 [.val (.int .i64 y4),.val (.int .i64 y5),.val (.int .i64 y6),.ref 3,.ref 0])),(2,(.row true 2 akd y7)),(3,(.row false 122 afs y8)),(4,(.row true 2 akd []))]
 |1,(_,_,_,y3,y4,y5,y6,y7,y8)=> [(0,(.row false 83 ahF y3)),(1,(.box 27 [.val (.int .i64 y4),.val (.int .i64 y5),.val (.int .i64 y6),.ref 3,.ref 0])),(2,(.row true 2 akd y7)),(3,(.row false 122 afs y8)),(4,(.row true 2 akd []))]
 |2,(_,_,_,y3,y4,y5,y6,y7,y8)=> [(0,(.row false 83 ahF y3)),(1,(.box 27 [.val (.int .i64 y4),.val (.int .i64 y5),.val (.int .i64 y6),.ref 3,.ref 0])),(2,(.row true 2 akd y7)),(3,(.row false 122 afs y8)),(4,(.row true 2 akd []))]
 |_,(_,_,_,y3,y4,y5,y6,y7,y8)=> [(0,(.row false 83 ahF y3)),(1,(.box 27 [.val (.int .i64 y4),.val (.int .i64 y5),.val (.int .i64 y6),.ref 3,.ref 0])),(2,(.row true 2 akd y7)),(3,(.row false 122 afs y8))]
def fe:bv→LT bv
 |(y0,y1,y2,y3,y4,y5,y6,y7,y8)=> .ite (fq y0 y1) (.need [jo y0,jp y0 y3,jq y0 y3] (.ite (ft y0 y3 y4 y5 y6 y8) (.ext 0 [(0,0),(1,1),(2,2),(3,3),(4,1152)]) (.need [jr y0 y3 y8] (.ite (jt y0 y2 y3 y8) (.ext 1 [(0,0),(1,1),(2,2),(3,3),(4,1856)]) (.ite (ju y0 y2 y3 y8) (.ext 2 [(0,0),(1,1),(2,2),(3,3),(4,2368)]) (.need [jv y0 y2 y3 y7 y8,jw y0 y2 y3 y7 y8] (.nrm ((ji y0),y1,jj y0 y2 y3 y8,y3,y4,y5,y6,jk y0 y2 y3 y7 y8,y8) [(0,0),(1,1),(2,2560),(3,3)]))))))) (.ext 3 [(0,0),(1,1),(2,2),(3,3)])
def ny(s:St):Option bv:=
 (match s.look 13 with
 |some ⟨none,.one ⟨false,[.val (.int .i64 y0)]⟩⟩=>
 (match s.look 12 with
 |some ⟨none,.one ⟨false,[.val (.int .i64 y1)]⟩⟩=>
 (match s.look 11 with
 |some ⟨none,.one ⟨false,[.ref 1]⟩⟩=>
 (match s.look 1 with
 |some ⟨none,.one ⟨false,[.ptr 192 0]⟩⟩=>
 (match s.look 5 with
 |some ⟨none,.one ⟨false,[.val (.int .i64 y2)]⟩⟩=>
 (match s.look 4 with
 |some ⟨none,.one ⟨false,[.ref 384]⟩⟩=>
 (match s.ent 1 with
 |some (.row false 83 (.pair (.int .i64) (.int .i64)) y3)=>
 (match s.ent 192 with
 |some (.box 27 [.val (.int .i64 y4),.val (.int .i64 y5),.val (.int .i64 y6),.ref 0,.ref 1])=>
 (match s.ent 0 with
 |some (.row false 122 (.pair (.int .i64) (.pair .str (.int .i64))) y8)=>
 (match s.ent 384 with
 |some (.row true 2 (.int .i64) y7)=>
 some (y0,y1,y2,y3,y4,y5,y6,y7,y8)
 |_=>none)
 |_=>none)
 |_=>none)
 |_=>none)
 |_=>none)
 |_=>none)
 |_=>none)
 |_=>none)
 |_=>none)
 |_=>none)
def ap:Lp bv where
 h:=⟨[14,15,16,7,17,18,19,20,21,22,23,24,25,26,27,28,2,3,30,31,32,29,33,34,8,9,35,36,37,38,39,40,41,42,5,43,44,45,46,47,48,4,49,13],[0,1,3],[2],[4]⟩
 JL:=EF
 JE:=ED
 XL:=EJ
 XE:=EH
 q:=fun j=>match j with | 0=> .ret | 1=> .ret | 2=> .ret | _=> .exit 0
 tags:= [0,1,2,3]
 lt:=fe
 fuel:=fun(y0,y1,y2,y3,y4,y5,y6,y7,y8)=>y0.natAbs + y1.natAbs + y2.natAbs + y3.length + y4.natAbs + y5.natAbs + y6.natAbs + y7.length + y8.length
 fix:=fun(_,y1,_,y3,y4,y5,y6,_,y8) (y0,_,y2,_,_,_,_,y7,_)=>(y0,y1,y2,y3,y4,y5,y6,y7,y8)
 σ:= [(0,1),(1,192),(3,0),(2,384)]
 rd:=ny
theorem CI:LoopOk prog (fun k=>Nat.blt k Tryz.f118.ntmps) ap.F (bV f118 0):=by
 refine Lp.ok (tbl:= (T3z [db,fP])) (lf:= []) bG ap (by kernel_rfl) (LOk.nil _) (fun _=>rfl) (fun j _=>by unfold ap;match j with | 0=>rfl | 1=>rfl | 2=>rfl | _ + 3=>rfl) ?_ ?_ ?_ ?_ (fun _=>rfl) ?_
 ·rintro⟨y0,y1,y2,y3,y4,y5,y6,y7,y8⟩;kernel_rfl
 ·rintro⟨y0,y1,y2,y3,y4,y5,y6,y7,y8⟩;kernel_rfl
 ·intro s x h
  have h:ny s=some x:=h
  unfold ny at h
  repeat' split at h
  all_goals cases h
  constructor<;>repeat(first|refine ab (by assumption) rfl ?_|refine aa rfl (by assumption) rfl ?_|exact rfl)
 ·rintro⟨y0,y1,y2,y3,y4,y5,y6,y7,y8⟩;kernel_rfl
 ·rintro⟨y0,y1,y2,y3,y4,y5,y6,y7,y8⟩ z;exact(And.intro (And.intro trivial (And.intro trivial (And.intro trivial rfl))) trivial)
section
variable (x0 x1 x2:Int)(x3:List (Int×alV×Int))(x4:List (Int×Int))
def er:Int×Int×Int×List (Int×Int)×Int×Int×Int×List Int×List (Int×alV×Int):=((0:Int),(↑x4.length:Int),(0:Int),x4,x0,x1,x2,[],x3)
def oC:Bool:=Nat.beq ((Lp.res ap (er x0 x1 x2 x3 x4)).1) 0
def oD:Bool:=Nat.beq ((Lp.res ap (er x0 x1 x2 x3 x4)).1) 1
def oE:Bool:=Nat.beq ((Lp.res ap (er x0 x1 x2 x3 x4)).1) 2
def oF:Int×List (Int×Int)×Int×Int×Int×List Int×List (Int×alV×Int):=(Lp.res ap (er x0 x1 x2 x3 x4)).2.2.2
def lg:Bool:=bif oC x0 x1 x2 x3 x4 then false else bif oD x0 x1 x2 x3 x4 then false else bif oE x0 x1 x2 x3 x4 then false else (oF x0 x1 x2 x3 x4).1==0
def pb:List Int:=bif oC x0 x1 x2 x3 x4 then []else bif oD x0 x1 x2 x3 x4 then []else bif oE x0 x1 x2 x3 x4 then []else ((oF x0 x1 x2 x3 x4).2.2.2.2.2).1
def lh:Bool:=allT [Lp.fin ap (er x0 x1 x2 x3 x4)]
end
def ww:List SV→List Entry→Option Out
 | [.one ⟨true,[.val (.int .i64 x0),.val (.int .i64 x1),.val (.int .i64 x2),.ref 0,.ref 1]⟩],[.row false 122 (.pair (.int .i64) (.pair (.str) (.int .i64))) x3,.row false 83 (.pair (.int .i64) (.int .i64)) x4]=>some ⟨.tup [⟨false,[.ref 2]⟩,⟨false,[.val (.bool (lg x0 x1 x2 x3 x4))]⟩],[.row false 122 afs x3,.row false 83 ahF x4],[.row true 2 akd (pb x0 x1 x2 x3 x4)],[lh x0 x1 x2 x3 x4]⟩
 |_,_=>none
def lk:PF prog:=PF.ofG prog (T3z [db,fP]) [ap.F] bG 118 f118 func118 (LOk.fnT (l:= [bV f118 0]) (by kernel_rfl) (.cons CI (.nil _))) ww (by
 intro vs es r h;unfold ww at h;split at h
 ·cases h;kernel_rfl
 ·cases h)
def Gh(x0:Int)(x1:alV)(x2:Int):Bool:= !vM x0 x1 x2
def Ox:List SV→List Entry→Option Out
 | [.one ⟨true,[.val (.int .i64 x0),.val (.string x1),.val (.int .i64 x2)]⟩],[]=>some ⟨.one ⟨false,[.val (.bool (Gh x0 x1 x2))]⟩,[],[],[]⟩
 |_,_=>none
def OC:PF prog:=PF.ofG prog [abe] [] bG 116 f116 func116 (fun c _=>LOk.nil c) Ox (by
 intro vs es r h;unfold Ox at h;split at h
 ·cases h;kernel_rfl
 ·cases h)
abbrev cg:=Int×Int×List (Int×(alV×Int))
section
variable (y0 y1:Int)(y2:List (Int×(alV×Int)))
def dJ:Int×alV×Int:=v5 y2[v3 y0]? ((0:Int),ByteArray.empty,(0:Int))
def iG:Bool:=ltI y0 y1
def iH:Bool:=leI 0 y0
def iI:Bool:=ltI y0 (↑y2.length:Int)
def iJ:Bool:=ltN y0.toNat y2.length
def iK:Bool:=Gh ((dJ y0 y2).1) (((dJ y0 y2).2).1) ((dJ y0 y2).2.2)
def iL:Int:=v6 .i64 (y0 + (1:Int))
end
def HD:cg→List (Nat×SV)
 |(y0,y1,_)=> [(8,(.one ⟨false,[.val (.int .i64 y0)]⟩)),(7,(.one ⟨false,[.val (.int .i64 y1)]⟩)),(1,(.one ⟨false,[.val (.func (.func 116) ⟨[]⟩ ⟨[]⟩)]⟩)),(0,(.one ⟨false,[.ref 0]⟩))]
def HC:cg→List (Nat×Entry)
 |(_,_,y2)=> [(0,(.row false 122 afs y2))]
def HG:Nat→cg→List (Nat×SV)
 |0,(y0,_,_)=> [(4,(.one ⟨false,[.val (.int .i64 y0)]⟩))]
 |_,(_,_,_)=> []
def HF:Nat→cg→List (Nat×Entry)
 |0,(_,_,y2)=> [(0,(.row false 122 afs y2))]
 |_,(_,_,y2)=> [(0,(.row false 122 afs y2))]
def im:cg→LT cg
 |(y0,y1,y2)=> .ite (iG y0 y1) (.need [iH y0,iI y0 y2,iJ y0 y2] (.ite (iK y0 y2) (.ext 0 [(0,0)]) (.nrm ((iL y0),y1,y2) [(0,0)]))) (.ext 1 [(0,0)])
def pD(s:St):Option cg:=
 (match s.look 8 with
 |some ⟨none,.one ⟨false,[.val (.int .i64 y0)]⟩⟩=>
 (match s.look 7 with
 |some ⟨none,.one ⟨false,[.val (.int .i64 y1)]⟩⟩=>
 (match s.look 1 with
 |some ⟨none,.one ⟨false,[.val (.func (.func 116) ⟨[]⟩ ⟨[]⟩)]⟩⟩=>
 (match s.look 0 with
 |some ⟨none,.one ⟨false,[.ref 0]⟩⟩=>
 (match s.ent 0 with
 |some (.row false 122 (.pair (.int .i64) (.pair .str (.int .i64))) y2)=>
 some (y0,y1,y2)
 |_=>none)
 |_=>none)
 |_=>none)
 |_=>none)
 |_=>none)
def aH:Lp cg where
 h:=⟨[9,10,5,11,12,13,14,15,16,17,4,18,8],[0],[],[]⟩
 JL:=HD
 JE:=HC
 XL:=HG
 XE:=HF
 q:=fun j=>match j with | 0=> .ret | _=> .exit 0
 tags:= [0,1]
 lt:=im
 fuel:=fun(y0,y1,y2)=>y0.natAbs + y1.natAbs + y2.length
 fix:=fun(_,y1,y2) (y0,_,_)=>(y0,y1,y2)
 σ:= [(0,0)]
 rd:=pD
theorem Gi:LoopOk prog (fun k=>Nat.blt k Tryz.f164.ntmps) aH.F (bV f164 0):=by
 refine Lp.ok (tbl:= [OC]) (lf:= []) bG aH (by kernel_rfl) (LOk.nil _) (fun _=>rfl) (fun j _=>by unfold aH;match j with | 0=>rfl | _ + 1=>rfl) ?_ ?_ ?_ ?_ (fun _=>rfl) ?_
 ·rintro⟨y0,y1,y2⟩;kernel_rfl
 ·rintro⟨y0,y1,y2⟩;kernel_rfl
 ·intro s x h
  have h:pD s=some x:=h
  unfold pD at h
  repeat' split at h
  all_goals cases h
  constructor<;>repeat(first|refine ab (by assumption) rfl ?_|refine aa rfl (by assumption) rfl ?_|exact rfl)
 ·rintro⟨y0,y1,y2⟩;kernel_rfl
 ·rintro⟨y0,y1,y2⟩ z;exact(And.intro (And.intro trivial rfl) trivial)
section
variable (x0:List (Int×alV×Int))
def ng:Int×Int×List (Int×alV×Int):=((0:Int),(↑x0.length:Int),x0)
def sg:Int:=bif Nat.beq ((Lp.res aH (ng x0)).1) 0 then ((Lp.res aH (ng x0)).2).1else(-1:Int)
def si:Bool:=allT [Lp.fin aH (ng x0)]
end
def zx:List SV→List Entry→Option Out
 | [.one ⟨false,[.ref 0]⟩,.one ⟨false,[.val (.func (.func 116) ⟨[]⟩ ⟨[]⟩)]⟩],[.row false 122 (.pair (.int .i64) (.pair .str (.int .i64))) x0]=>some ⟨.one ⟨false,[.val (.int .i64 (sg x0))]⟩,[.row false 122 afs x0],[],[si x0]⟩
 |_,_=>none
def sf:PF prog:=PF.ofG prog [OC] [aH.F] bG 164 f164 func164 (LOk.fnT (l:= [bV f164 0]) (by kernel_rfl) (.cons Gi (.nil _))) zx (by
 intro vs es r h;unfold zx at h;split at h
 ·cases h;kernel_rfl
 ·cases h)
def mi(x0:List (Int×alV×Int)):Bool:=leI 0 (sg x0)
def qa(x0:List (Int×alV×Int)):Bool:=allT [si x0]
def xz:List SV→List Entry→Option Out
 | [.one ⟨false,[.ref 0]⟩,.one ⟨false,[.val (.func (.func 116) ⟨[]⟩ ⟨[]⟩)]⟩],[.row false 122 (.pair (.int .i64) (.pair .str (.int .i64))) x0]=>some ⟨.one ⟨false,[.val (.bool (mi x0))]⟩,[.row false 122 afs x0],[],[qa x0]⟩
 |_,_=>none
def pX:PF prog:=PF.ofG prog (T3z [sf]) [] bG 115 f115 func115 (fun c _=>LOk.nil c) xz (by
 intro vs es r h;unfold xz at h;split at h
 ·cases h;kernel_rfl
 ·cases h)
section
variable (x0 x1 x2:Int)(x3:List (Int×alV×Int))(x4:List (Int×Int))
def HT:Bool:=bif bif bif bif !dO x0 0 20 then true else !dO x1 0 20 then true else !dO x2 0 20 then true else ltI 2000 (↑x3.length:Int)then true else ltI 2000 (↑x4.length:Int)
def VH:Bool:=bif HT x0 x1 x2 x3 x4 then false else bif mi x3 then false else lg x0 x1 x2 x3 x4
def VI:Bool:=allT [HT x0 x1 x2 x3 x4||qa x3,HT x0 x1 x2 x3 x4||(mi x3||lh x0 x1 x2 x3 x4)]
end
def acD:List SV→List Entry→Option Out
 | [.one ⟨true,[.val (.int .i64 x0),.val (.int .i64 x1),.val (.int .i64 x2),.ref 0,.ref 1]⟩],[.row false 122 (.pair (.int .i64) (.pair (.str) (.int .i64))) x3,.row false 83 (.pair (.int .i64) (.int .i64)) x4]=>some ⟨.one ⟨false,[.val (.bool (VH x0 x1 x2 x3 x4))]⟩,[.row false 122 afs x3,.row false 83 ahF x4],[],[VI x0 x1 x2 x3 x4]⟩
 |_,_=>none
def ajM:PF prog:=PF.ofG prog (T3z [Kp,ahP,lk,pX]) [] bG 65 f65 func65 (fun c _=>LOk.nil c) acD (by
 intro vs es r h;unfold acD at h;split at h
 ·cases h;kernel_rfl
 ·cases h)
abbrev bw:=Int×Int×List (Int×(alV×Int))×List Int×List (Int×(Int×Int))
section
variable (y0 y1:Int)(y2:List (Int×(alV×Int)))(y4:List (Int×(Int×Int)))
def dN:Int×alV×Int:=v5 y2[v3 y0]? ((0:Int),ByteArray.empty,(0:Int))
def cY:Int×Int×Int:=v5 y4[v3 y0]? ((0:Int),(0:Int),(0:Int))
def fu:Bool:=ltI y0 y1
def dW:Bool:=leI 0 y0
def fv:Bool:=ltI y0 (↑y2.length:Int)
def fw:Bool:=ltN y0.toNat y2.length
def fy:Bool:=ltI y0 (↑y4.length:Int)
def fA:Bool:=ltN y0.toNat y4.length
def fB:Bool:= !xC ((dN y0 y2).1) ((dN y0 y2).2.2) ((cY y0 y4).1) (((cY y0 y4).2).1) ((cY y0 y4).2.2)
def fC:Int:=v6 .i64 (y0 + (1:Int))
end
def EG:bw→List (Nat×SV)
 |(y0,y1,_,_,_)=> [(24,(.one ⟨false,[.val (.int .i64 y0)]⟩)),(23,(.one ⟨false,[.val (.int .i64 y1)]⟩)),(22,(.one ⟨false,[.ref 0]⟩)),(3,(.one ⟨false,[.ptr 1 0]⟩))]
def EE:bw→List (Nat×Entry)
 |(_,_,y2,y3,y4)=> [(0,(.row false 122 afs y2)),(1,(.box 50 [.ref 2,.ref 3])),(2,(.row false 2 akd y3)),(3,(.row false 109 ac0 y4))]
def EK:Nat→bw→List (Nat×SV)
 |0,(_,_,_,_,_)=> [(6,(.one ⟨false,[.val (.bool false)]⟩))]
 |_,(_,_,_,_,_)=> []
def EI:Nat→bw→List (Nat×Entry)
 |0,(_,_,y2,y3,y4)=> [(0,(.row false 122 afs y2)),(1,(.box 50 [.ref 2,.ref 3])),(2,(.row false 2 akd y3)),(3,(.row false 109 ac0 y4))]
 |_,(_,_,y2,y3,y4)=> [(0,(.row false 122 afs y2)),(1,(.box 50 [.ref 2,.ref 3])),(2,(.row false 2 akd y3)),(3,(.row false 109 ac0 y4))]
def fg:bw→LT bw
 |(y0,y1,y2,y3,y4)=> .ite (fu y0 y1) (.need [dW y0,fv y0 y2,fw y0 y2] (.need [dW y0,fy y0 y4,fA y0 y4] (.ite (fB y0 y2 y4) (.ext 0 [(0,0),(1,1),(2,2),(3,3)]) (.nrm ((fC y0),y1,y2,y3,y4) [(0,0),(1,1),(2,2),(3,3)])))) (.ext 1 [(0,0),(1,1),(2,2),(3,3)])
def nz(s:St):Option bw:=
 (match s.look 24 with
 |some ⟨none,.one ⟨false,[.val (.int .i64 y0)]⟩⟩=>
 (match s.look 23 with
 |some ⟨none,.one ⟨false,[.val (.int .i64 y1)]⟩⟩=>
 (match s.look 22 with
 |some ⟨none,.one ⟨false,[.ref 2]⟩⟩=>
 (match s.look 3 with
 |some ⟨none,.one ⟨false,[.ptr 256 0]⟩⟩=>
 (match s.ent 2 with
 |some (.row false 122 (.pair (.int .i64) (.pair .str (.int .i64))) y2)=>
 (match s.ent 256 with
 |some (.box 50 [.ref 0,.ref 1])=>
 (match s.ent 0 with
 |some (.row false 2 (.int .i64) y3)=>
 (match s.ent 1 with
 |some (.row false 109 (.pair (.int .i64) (.pair (.int .i64) (.int .i64))) y4)=>
 some (y0,y1,y2,y3,y4)
 |_=>none)
 |_=>none)
 |_=>none)
 |_=>none)
 |_=>none)
 |_=>none)
 |_=>none)
 |_=>none)
def aC:Lp bw where
 h:=⟨[25,26,27,28,8,7,29,30,31,32,33,34,35,36,6,37,24],[0,1,2,3],[],[]⟩
 JL:=EG
 JE:=EE
 XL:=EK
 XE:=EI
 q:=fun j=>match j with | 0=> .ret | _=> .exit 0
 tags:= [0,1]
 lt:=fg
 fuel:=fun(y0,y1,y2,y3,y4)=>y0.natAbs + y1.natAbs + y2.length + y3.length + y4.length
 fix:=fun(_,y1,y2,y3,y4) (y0,_,_,_,_)=>(y0,y1,y2,y3,y4)
 σ:= [(0,2),(1,256),(2,0),(3,1)]
 rd:=nz
theorem CJ:LoopOk prog (fun k=>Nat.blt k Tryz.f69.ntmps) aC.F (bV f69 0):=by
 refine Lp.ok (tbl:= (T3z [nW,UC])) (lf:= []) bG aC (by kernel_rfl) (LOk.nil _) (fun _=>rfl) (fun j _=>by unfold aC;match j with | 0=>rfl | _ + 1=>rfl) ?_ ?_ ?_ ?_ (fun _=>rfl) ?_
 ·rintro⟨y0,y1,y2,y3,y4⟩;kernel_rfl
 ·rintro⟨y0,y1,y2,y3,y4⟩;kernel_rfl
 ·intro s x h
  have h:nz s=some x:=h
  unfold nz at h
  repeat' split at h
  all_goals cases h
  constructor<;>repeat(first|refine ab (by assumption) rfl ?_|refine aa rfl (by assumption) rfl ?_|exact rfl)
 ·rintro⟨y0,y1,y2,y3,y4⟩;kernel_rfl
 ·rintro⟨y0,y1,y2,y3,y4⟩ z;exact(And.intro (And.intro trivial rfl) trivial)
section
variable (x0:Int)(x1:List Int)(x2:List (Int×Int×Int))(x3:List (Int×alV×Int))
def et:Bool:=bif !bitsB x0 x1 then true else(↑x2.length:Int)!=(↑x3.length:Int)
def oG:Int×Int×List (Int×alV×Int)×List Int×List (Int×Int×Int):=((0:Int),(↑x3.length:Int),x3,x1,x2)
def li:Bool:=bif et x0 x1 x2 x3 then false else bif Nat.beq ((Lp.res aC (oG x1 x2 x3)).1) 0 then false else true
def lj:Bool:=allT [leN x1.length (9223372036854775807:Nat),et x0 x1 x2 x3||Lp.fin aC (oG x1 x2 x3)]
end
def wx:List SV→List Entry→Option Out
 | [.one ⟨true,[.ref 0,.ref 1]⟩,.one ⟨false,[.val (.int .i64 x0)]⟩,.one ⟨false,[.ref 2]⟩],[.row false 2 (.int .i64) x1,.row false 109 (.pair (.int .i64) (.pair (.int .i64) (.int .i64))) x2,.row false 122 (.pair (.int .i64) (.pair (.str) (.int .i64))) x3]=>some ⟨.one ⟨false,[.val (.bool (li x0 x1 x2 x3))]⟩,[.row false 2 akd x1,.row false 109 ac0 x2,.row false 122 afs x3],[],[lj x0 x1 x2 x3]⟩
 |_,_=>none
def Hj:PF prog:=PF.ofG prog (T3z [nW,UC]) [aC.F] bG 69 f69 func69 (LOk.fnT (l:= [bV f69 0]) (by kernel_rfl) (.cons CJ (.nil _))) wx (by
 intro vs es r h;unfold wx at h;split at h
 ·cases h;kernel_rfl
 ·cases h)
def pZ(x0:List (Int×Int×Int)):Bool:=allT [ltN 0 x0.length,false||leN (0 + v4 x0) 9223372036854775807,false||leN ((0 + v4 x0) * 24) 140737488355328]
def Dr:List SV→List Entry→Option Out
 | [.one ⟨false,[.ref 0]⟩],[.row false 109 (.pair (.int .i64) (.pair (.int .i64) (.int .i64))) x0]=>some ⟨.one ⟨false,[.ref 1]⟩,[.row false 109 ac0 x0],[.row true 109 ac0 x0],[pZ x0]⟩
 |_,_=>none
def Ps:PF prog:=PF.ofG prog [] [] bG 89 f89 func89 (fun c _=>LOk.nil c) Dr (by
 intro vs es r h;unfold Dr at h;split at h
 ·cases h;kernel_rfl
 ·cases h)
abbrev ma:=Int×Int×Int×Int×List (Int×(alV×Int))×List (Int×Int)×List Int×List (Int×(Int×Int))
section
variable (y0:Int)(y4:List (Int×(alV×Int)))(y7:List (Int×(Int×Int)))
def uE:Int×alV×Int:=v5 y4[v3 y0]? ((0:Int),ByteArray.empty,(0:Int))
def rc:Int×Int×Int:=v5 y7[v3 y0]? ((0:Int),(0:Int),(0:Int))
def wu:Bool:=ltI y0 (↑y4.length:Int)
def wv:Bool:=leI 0 y0
def Ay:Bool:=ltN y0.toNat y4.length
def Az:Bool:=ltI y0 (↑y7.length:Int)
def AA:Bool:=ltN y0.toNat y7.length
def AB:Bool:= !cQ ((uE y0 y4).1) ((uE y0 y4).2.2) ((rc y0 y7).1) (((rc y0 y7).2).1) ((rc y0 y7).2.2)
def AC:Int:=v6 .i64 (y0 + (1:Int))
end
def ach:ma→List (Nat×SV)
 |(y0,_,_,_,_,_,_,_)=> [(5,(.one ⟨false,[.val (.int .i64 y0)]⟩)),(2,(.one ⟨false,[.ptr 0 0]⟩)),(3,(.one ⟨false,[.ptr 1 0]⟩))]
def ab9:ma→List (Nat×Entry)
 |(_,y1,y2,y3,y4,y5,y6,y7)=> [(0,(.box 27 [.val (.int .i64 y1),.val (.int .i64 y2),.val (.int .i64 y3),.ref 2,.ref 3])),(1,(.box 50 [.ref 4,.ref 5])),(2,(.row false 122 afs y4)),(3,(.row false 83 ahF y5)),(4,(.row false 2 akd y6)),(5,(.row false 109 ac0 y7))]
def acv:Nat→ma→List (Nat×SV)
 |0,(_,_,_,_,_,_,_,_)=> [(4,(.one ⟨false,[.val (.bool false)]⟩))]
 |_,(_,_,_,_,_,_,_,_)=> []
def aco:Nat→ma→List (Nat×Entry)
 |0,(_,y1,y2,y3,y4,y5,y6,y7)=> [(0,(.box 27 [.val (.int .i64 y1),.val (.int .i64 y2),.val (.int .i64 y3),.ref 2,.ref 3])),(1,(.box 50 [.ref 4,.ref 5])),(2,(.row false 122 afs y4)),(3,(.row false 83 ahF y5)),(4,(.row false 2 akd y6)),(5,(.row false 109 ac0 y7))]
 |_,(_,y1,y2,y3,y4,y5,y6,y7)=> [(0,(.box 27 [.val (.int .i64 y1),.val (.int .i64 y2),.val (.int .i64 y3),.ref 2,.ref 3])),(1,(.box 50 [.ref 4,.ref 5])),(2,(.row false 122 afs y4)),(3,(.row false 83 ahF y5)),(4,(.row false 2 akd y6)),(5,(.row false 109 ac0 y7))]
def yp:ma→LT ma
 |(y0,y1,y2,y3,y4,y5,y6,y7)=> .ite (wu y0 y4) (.need [wv y0,wu y0 y4,Ay y0 y4,wv y0,Az y0 y7,AA y0 y7] (.ite (AB y0 y4 y7) (.ext 0 [(0,0),(1,1),(2,2),(3,3),(4,4),(5,5)]) (.nrm ((AC y0),y1,y2,y3,y4,y5,y6,y7) [(0,0),(1,1),(2,2),(3,3),(4,4),(5,5)]))) (.ext 1 [(0,0),(1,1),(2,2),(3,3),(4,4),(5,5)])
def JO(s:St):Option ma:=
 (match s.look 5 with
 |some ⟨none,.one ⟨false,[.val (.int .i64 y0)]⟩⟩=>
 (match s.look 2 with
 |some ⟨none,.one ⟨false,[.ptr 320 0]⟩⟩=>
 (match s.look 3 with
 |some ⟨none,.one ⟨false,[.ptr 384 0]⟩⟩=>
 (match s.ent 320 with
 |some (.box 27 [.val (.int .i64 y1),.val (.int .i64 y2),.val (.int .i64 y3),.ref 0,.ref 1])=>
 (match s.ent 384 with
 |some (.box 50 [.ref 2,.ref 3])=>
 (match s.ent 0 with
 |some (.row false 122 (.pair (.int .i64) (.pair .str (.int .i64))) y4)=>
 (match s.ent 1 with
 |some (.row false 83 (.pair (.int .i64) (.int .i64)) y5)=>
 (match s.ent 2 with
 |some (.row false 2 (.int .i64) y6)=>
 (match s.ent 3 with
 |some (.row false 109 (.pair (.int .i64) (.pair (.int .i64) (.int .i64))) y7)=>
 some (y0,y1,y2,y3,y4,y5,y6,y7)
 |_=>none)
 |_=>none)
 |_=>none)
 |_=>none)
 |_=>none)
 |_=>none)
 |_=>none)
 |_=>none)
 |_=>none)
def eL:Lp ma where
 h:=⟨[21,22,23,24,25,28,29,30,31,32,33,34,35,36,37,38,39,4,26,27,5],[0,1,2,3,4,5],[],[]⟩
 JL:=ach
 JE:=ab9
 XL:=acv
 XE:=aco
 q:=fun j=>match j with | 0=> .ret | _=> .exit 0
 tags:= [0,1]
 lt:=yp
 fuel:=fun(y0,y1,y2,y3,y4,y5,y6,y7)=>y0.natAbs + y1.natAbs + y2.natAbs + y3.natAbs + y4.length + y5.length + y6.length + y7.length
 fix:=fun(_,y1,y2,y3,y4,y5,y6,y7) (y0,_,_,_,_,_,_,_)=>(y0,y1,y2,y3,y4,y5,y6,y7)
 σ:= [(0,320),(1,384),(2,0),(3,1),(4,2),(5,3)]
 rd:=JO
theorem ZH:LoopOk prog (fun k=>Nat.blt k Tryz.f72.ntmps) eL.F (bV f72 0):=by
 refine Lp.ok (tbl:= (T3z [SP,cP])) (lf:= []) bG eL (by kernel_rfl) (LOk.nil _) (fun _=>rfl) (fun j _=>by unfold eL;match j with | 0=>rfl | _ + 1=>rfl) ?_ ?_ ?_ ?_ (fun _=>rfl) ?_
 ·rintro⟨y0,y1,y2,y3,y4,y5,y6,y7⟩;kernel_rfl
 ·rintro⟨y0,y1,y2,y3,y4,y5,y6,y7⟩;kernel_rfl
 ·intro s x h
  have h:JO s=some x:=h
  unfold JO at h
  repeat' split at h
  all_goals cases h
  constructor<;>repeat(first|refine ab (by assumption) rfl ?_|refine aa rfl (by assumption) rfl ?_|exact rfl)
 ·rintro⟨y0,y1,y2,y3,y4,y5,y6,y7⟩;kernel_rfl
 ·rintro⟨y0,y1,y2,y3,y4,y5,y6,y7⟩ z;exact(And.intro (And.intro trivial rfl) trivial)
section
variable (x0 x1 x2:Int)(x3:List (Int×alV×Int))(x4:List (Int×Int))(x5:List Int)(x6:List (Int×Int×Int))
def ws:Bool:=(↑x6.length:Int)!=(↑x3.length:Int)
def Qc:Int×Int×Int×Int×List (Int×alV×Int)×List (Int×Int)×List Int×List (Int×Int×Int):=((0:Int),x0,x1,x2,x3,x4,x5,x6)
def Le:Bool:=bif bif ws x3 x6 then true else !bitsB x1 x5 then false else bif Nat.beq ((Lp.res eL (Qc x0 x1 x2 x3 x4 x5 x6)).1) 0 then false else true
def Lf:Bool:=allT [!(!ws x3 x6&&true)||leN x5.length (9223372036854775807:Nat),(bif ws x3 x6 then true else !bitsB x1 x5)||Lp.fin eL (Qc x0 x1 x2 x3 x4 x5 x6)]
end
def YN:List SV→List Entry→Option Out
 | [.one ⟨true,[.val (.int .i64 x0),.val (.int .i64 x1),.val (.int .i64 x2),.ref 0,.ref 1]⟩,.one ⟨true,[.ref 2,.ref 3]⟩],[.row false 122 (.pair (.int .i64) (.pair (.str) (.int .i64))) x3,.row false 83 (.pair (.int .i64) (.int .i64)) x4,.row false 2 (.int .i64) x5,.row false 109 (.pair (.int .i64) (.pair (.int .i64) (.int .i64))) x6]=>some ⟨.one ⟨false,[.val (.bool (Le x0 x1 x2 x3 x4 x5 x6))]⟩,[.row false 122 afs x3,.row false 83 ahF x4,.row false 2 akd x5,.row false 109 ac0 x6],[],[Lf x0 x1 x2 x3 x4 x5 x6]⟩
 |_,_=>none
def ahV:PF prog:=PF.ofG prog (T3z [SP,cP]) [eL.F] bG 72 f72 func72 (LOk.fnT (l:= [bV f72 0]) (by kernel_rfl) (.cons ZH (.nil _))) YN (by
 intro vs es r h;unfold YN at h;split at h
 ·cases h;kernel_rfl
 ·cases h)
abbrev BS:=Int×Int×Int
def MW(k n:Int)(l:List Int)(s:BS):BS:=(fK k n s.1 s.2.1 s.2.2 l,fL k s.2.1 s.2.2 l,fM k n s.1 s.2.2 l)
def anW(k n:Int)(l:List Int)(s:BS):Int:=dZ k n s.1 s.2.1 s.2.2 l
theorem amd{k n a b c:Int}{s:alV}{l:List Int}(hB:vM k s n=true)(hP:possB k n a b c=true)(hA:bitsB (takesK k) l=true):
  (zd k n a b c l,ze k b c l,zf k n a b c l)=MW k n l (a,b,c)∧possB k n (MW k n l (a,b,c)).1 (MW k n l (a,b,c)).2.1 (MW k n l (a,b,c)).2.2=true:=by
 obtain⟨_,e1,e2,e3,_,_,e6⟩:=ah6 hB hP hA
 exact⟨by rw [e1,e2,e3];rfl,e6⟩
theorem Lp.inv{X:Type}(p:Lp X)(I Q:Nat→X→Prop)
  (hs: ∀ k x,I (k + 1) x→(∃ j,(p.lt x).out=some (.inl j)∧Q j x)∨ ∃ y,(p.lt x).out=some (.inr y)∧I k y)
  (he: ∀ x,I 0 x→ ∃ j,(p.lt x).out=some (.inl j)∧Q j x) (N:Nat) (x:X) (hN:N≤999) (h:I N x):
  p.fin x=true∧ ∃ j y,p.res x=(j,y)∧Q j y:=by
 have my: ∀ (k:Nat) (x:X),I k x→ ∃ j y,JP p.lt (k + 1) x=some (j,y)∧Q j y:=by
  intro k
  induction k with
  |zero=>
   intro x h
   obtain⟨j,h1,h2⟩:=he x h
   exact⟨j,x,FM _ h1,h2⟩
  |succ k ih=>
   intro x h
   rcases hs k x h with⟨j,h1,h2⟩ | ⟨y,h1,h2⟩
   ·exact⟨j,x,FM _ h1,h2⟩
   ·obtain⟨j,z,h3,h4⟩:=ih y h2
    exact⟨j,z,by rw [Px _ h1];exact h3,h4⟩
 obtain⟨j,y,h1,h2⟩:=my N x h
 obtain⟨r1,r2⟩:=p.run h1 (ad4 (by omega))
 exact⟨r1,j,y,r2,h2⟩
abbrev TM:=Int×alV×Int
def apy(xs ys:List (Int×Int×Int)):Bool:=decide (xs=ys)
theorem aoL(xs:List (Int×Int×Int)):apy xs xs=true:=by simp [apy]
theorem aoJ(xs:List (Int×Int×Int))(h:(leN 1 xs.length&&leN xs.length 1048576)=true):pZ xs=true:=by
 simp only [w5,iv]at h
 simp [pZ,allT]
 omega
def ae0:List SV→List Entry→Option Out
 | [.one ⟨false,[.val (.slice none 0 0)]⟩],[]=>some ⟨.one ⟨false,[.ref 0]⟩,[],[.row true 109 (.pair (.int .i64) (.pair (.int .i64) (.int .i64))) []],[true]⟩
 |_,_=>none
def alb:PF prog:=PF.ofG prog [PF.raw prog] [] bG 89 f89 func89 (fun c _=>LOk.nil c) ae0 (by
 intro vs es r h;unfold ae0 at h;split at h
 ·cases h;kernel_rfl
 ·cases h)
def aeZ:List SV→List Entry→Option Out
 | [.one ⟨false,[.val (.slice (some _) 0 _)]⟩],[]=>some ⟨.one ⟨false,[.ref 0]⟩,[],[.row true 109 (.pair (.int .i64) (.pair (.int .i64) (.int .i64))) []],[true]⟩
 |_,_=>none
def ala:PF prog:=PF.ofG prog [] [] bG 89 f89 func89 (fun c _=>LOk.nil c) aeZ (by
 intro vs es r h;unfold aeZ at h;split at h
 ·cases h;kernel_rfl
 ·cases h)
def Ds:List SV→List Entry→Option Out
 | [.one ⟨false,[.ref 0]⟩],[.row false 109 (.pair (.int .i64) (.pair (.int .i64) (.int .i64))) x0]=>some ⟨.one ⟨false,[.ref 1]⟩,[.row false 109 (.pair (.int .i64) (.pair (.int .i64) (.int .i64))) x0],[.row true 109 (.pair (.int .i64) (.pair (.int .i64) (.int .i64))) x0],[leN x0.length 1048576]⟩
 |_,_=>none
def vT:PF prog where
 k:=89
 F:=Ds
 ok:=by
  intro args es o h cf mem ρ w hp
  unfold Ds at h
  split at h
  ·rename_i x0
   cases h
   have hl:=cf _ (v8.2 rfl)
   cases x0 with
   |nil=>
    exact(apm alb ala rfl rfl rfl (fun _ _=>rfl) (by simp) (by simp) hp).mono fun en w' ⟨ρ',h1,h2,h3⟩=>⟨ρ',h1,h2,rfl,(by intro v hv;rw [v8.1 hv];rfl),h3⟩
   |cons x xs=>exact Ps.ok _ _ ⟨_,_,_,[pZ (x::xs)]⟩ rfl (fun b hb=>by rw [v8.1 hb];exact aoJ (x::xs) ((w5 _ _).mpr ⟨aR (Nat.succ_pos _),hl⟩)) mem ρ w hp
  ·cases h
abbrev IN:=Int×Int
abbrev BS3:=Int×Int×Int
def tkI(bs:List TM)(x:IN):Int:=eG x.1 x.2 bs
def gvI(x:IN):Int:=jf x.1
def MG(i v o:Int)(bs:List TM)(x:IN):Bool:=uj i v o x.1 x.2 bs
theorem ap8(k:Int):0≤ec k∧ec k≤2:=by
 unfold ec
 generalize (bif k==1 then k==1 else bif k==2 then k==2 else k==3)=b1
 generalize (bif k==4 then k==4 else bif k==7 then k==7 else bif k==8 then k==8 else k==9)=b2
 cases b1 <;> cases b2 <;> decide
theorem Wp(bs:List TM)(x:IN):0≤tkI bs x∧tkI bs x≤2:=by
 have h:=ap8 ((v5 bs[v3 x.2]? ((0:Int),ByteArray.empty,(0:Int))).1)
 unfold tkI eG
 generalize lC x.1=b1
 generalize lD x.1=b2
 generalize qD x.1=b3
 generalize (x.1==4)=b4
 generalize (x.1==7)=b5
 cases b1 <;> cases b4 <;> cases b2 <;> cases b5 <;> cases b3 <;> simp only [cond_true,cond_false] <;> first | exact h | decide
theorem adZ(x:IN):0≤gvI x∧gvI x≤1:=by
 unfold gvI jf
 generalize lC x.1=b1
 generalize lD x.1=b2
 generalize qD x.1=b3
 generalize (x.1==4)=b4
 generalize (x.1==7)=b5
 cases b1 <;> cases b4 <;> cases b2 <;> cases b5 <;> cases b3 <;> decide
theorem akO{i v o:Int}{bs:List TM}{x:IN}(hl:bs.length≤2000)(h:MG i v o bs x=true):uQ x.1 x.2 bs=true:=by
 by_cases h7:x.1=7
 ·simp [MG,uj,h7,aX,Bool.cond_eq_ite]at h
  have hw:IntKind.i64.wrap ((bs.length:Int) - 1)=bs.length - 1:=aJ (by omega) (by omega)
  rw [hw]at h
  have h1:leI 0 x.2=true:=bu (by omega)
  have h2:ltI x.2 (bs.length:Int)=true:=cS (by omega)
  have h3:ltN x.2.toNat bs.length=true:=dI (by omega)
  simp [uQ,allT,h1,h2,h3]
 ·simp [uQ,allT,h7]
theorem amc{i v o:Int}{bs:List TM}{x:IN}(hi:0≤i∧i≤20)(hv:0≤v∧v≤20)(ho:0≤o∧o≤20)(hl:bs.length≤2000):
  (bif ltI x.2 0 then true else leI (fO i v o x.1 bs) x.2)= !MG i v o bs x:=by
 have w1:IntKind.i64.wrap (i - 1)=i - 1:=aJ (by omega) (by omega)
 have w2:IntKind.i64.wrap (v - 1)=v - 1:=aJ (by omega) (by omega)
 have w3:IntKind.i64.wrap (o - 1)=o - 1:=aJ (by omega) (by omega)
 have w4:IntKind.i64.wrap ((bs.length:Int) - 1)=bs.length - 1:=aJ (by omega) (by omega)
 have my: ∀ m:Int,(bif ltI x.2 0 then true else leI m x.2)= !(bif leI 0 x.2 then leI x.2 (m - 1)else false):=fun m=>by
  by_cases h0:x.2 < 0
  ·have a1:ltI x.2 0=true:=cS h0
   have a2:leI 0 x.2=false:=YU (by omega)
   simp [a1,a2]
  ·have a1:ltI x.2 0=false:=wO (by omega)
   have a2:leI 0 x.2=true:=bu (by omega)
   simp only [a1,a2,cond_false,cond_true]
   by_cases hm:m≤x.2
   ·rw [bu hm,YU (by omega)];rfl
   ·rw [YU (by omega),bu (by omega)];rfl
 rw [my]
 simp only [MG,uj,fO,Dz,aX,w1,w2,w3,w4]
 generalize (bif x.1==2 then x.1==2 else x.1==10)=b2
 generalize (bif x.1==3 then x.1==3 else bif x.1==8 then x.1==8 else x.1==11)=b3
 generalize (bif x.1==4 then x.1==4 else bif x.1==5 then x.1==5 else x.1==6)=b4
 generalize (x.1==1)=b1
 generalize (x.1==7)=b5
 generalize (x.1==9)=b6
 have e0:(bif leI 0 x.2 then leI x.2 (1 - 1)else false)=(x.2==0):=by
  by_cases h:x.2=0
  ·rw [h];rfl
  ·have:(x.2==0)=false:=by simpa using h
   rw [this]
   by_cases h0:0≤x.2
   ·rw [bu h0,YU (by omega)];rfl
   ·rw [YU (by omega)];rfl
 have e1:(bif leI 0 x.2 then leI x.2 (0 - 1)else false)=false:=by
  by_cases h0:0≤x.2
  ·rw [bu h0,YU (by omega)];rfl
  ·rw [YU (by omega)];rfl
 cases b1 <;> cases b2 <;> cases b3 <;> cases b4 <;> cases b5 <;> cases b6 <;> simp only [cond_true,cond_false,e0,e1] <;> rfl
def hgt(i v o:Int)(bs:List TM):List IN→Int→List Int→Option (Int×List Int)
 | [],n,acc=>some (n,acc)
 |x::r,n,acc=>bif MG i v o bs x&&(leI (tkI bs x) n&&leI (n - tkI bs x + gvI x) 40)then hgt i v o bs r (n - tkI bs x + gvI x) (acc++ [n - tkI bs x + gvI x])else none
theorem akW{i v o:Int}{bs:List TM}: ∀ (st:List IN) (n:Int) (acc:List Int) (m:Int) (out:List Int),hgt i v o bs st n acc=some (m,out)→out.length=acc.length + st.length
 | [],n,acc,m,out,h=>by simp only [hgt,q9,Prod.mk.injEq]at h;rw [← h.2];simp
 |x::r,n,acc,m,out,h=>by
  simp only [hgt]at h
  cases hc:(MG i v o bs x&&(leI (tkI bs x) n&&leI (n - tkI bs x + gvI x) 40))with
  |false=>rw [hc]at h;cases h
  |true=>
   rw [hc]at h
   have:=akW r _ _ _ _ h
   rw [this];simp;omega
def aiy(i v o:Int)(bs:List TM)(b:IN):Int×List Int→Nat ⊕ (Int×List Int)
 |(n,acc)=>bif !uj i v o b.1 b.2 bs then .inl 0 else
   bif(bif ltI n (eG b.1 b.2 bs)then true else ltI 40 (IntKind.i64.wrap (IntKind.i64.wrap (n - eG b.1 b.2 bs) + jf b.1)))then .inl 1 else
   .inr (IntKind.i64.wrap (IntKind.i64.wrap (n - eG b.1 b.2 bs) + jf b.1),acc++ [IntKind.i64.wrap (IntKind.i64.wrap (n - eG b.1 b.2 bs) + jf b.1)])
theorem an6{i v o:Int}{bs:List TM}{b:IN}{n:Int}{acc:List Int}(hn:0≤n∧n≤40):
  aiy i v o bs b (n,acc)=bif !MG i v o bs b then .inl 0 else bif !(leI (tkI bs b) n&&leI (n - tkI bs b + gvI b) 40)then .inl 1 else .inr (n - tkI bs b + gvI b,acc++ [n - tkI bs b + gvI b]):=by
 have ht:=Wp bs b
 have hg:=adZ b
 have e1:eG b.1 b.2 bs=tkI bs b:=rfl
 have e2:jf b.1=gvI b:=rfl
 have e3:uj i v o b.1 b.2 bs=MG i v o bs b:=rfl
 have w1:IntKind.i64.wrap (n - tkI bs b)=n - tkI bs b:=aJ (by omega) (by omega)
 have w2:IntKind.i64.wrap (n - tkI bs b + gvI b)=n - tkI bs b + gvI b:=aJ (by omega) (by omega)
 simp only [aiy,e1,e2,e3,w1,w2]
 cases MG i v o bs b with
 |false=>rfl
 |true=>
  have e4:(bif ltI n (tkI bs b)then true else ltI 40 (n - tkI bs b + gvI b))= !(leI (tkI bs b) n&&leI (n - tkI bs b + gvI b) 40):=by
   by_cases h1:n < tkI bs b
   ·rw [cS h1,YU (by omega)];rfl
   ·rw [wO (by omega),bu (by omega)]
    by_cases h2:40 < n - tkI bs b + gvI b
    ·rw [cS h2,YU (by omega)];rfl
    ·rw [wO (by omega),bu (by omega)];rfl
  rw [e4]
theorem ajy{i v o:Int}{bs:List TM}{f:IN→Int×List Int→Nat ⊕ (Int×List Int)}{e:Nat}
  (hf: ∀ b n acc,0≤n∧n≤40→((MG i v o bs b&&(leI (tkI bs b) n&&leI (n - tkI bs b + gvI b) 40))=true→f b (n,acc)= .inr (n - tkI bs b + gvI b,acc++ [n - tkI bs b + gvI b]))∧
   ((MG i v o bs b&&(leI (tkI bs b) n&&leI (n - tkI bs b + gvI b) 40))=false→ ∃ j,j < e∧f b (n,acc)= .inl j)):
  ∀ (r:List IN) (k:Nat) (n:Int) (acc:List Int),0≤n∧n≤40→
   (∀ m out,hgt i v o bs r n acc=some (m,out)→cX f e r k (n,acc)=(e,k + r.length,(m,out))∧0≤m∧m≤40)∧(hgt i v o bs r n acc=none→(cX f e r k (n,acc)).1 < e)
 | [],k,n,acc,hn=>⟨fun m out h=>by simp only [hgt,q9,Prod.mk.injEq]at h;obtain⟨rfl,rfl⟩:=h;exact⟨rfl,hn⟩,fun h=>by simp [hgt]at h⟩
 |b::r,k,n,acc,hn=>by
  have ht:=Wp bs b
  have hg:=adZ b
  cases hc:(MG i v o bs b&&(leI (tkI bs b) n&&leI (n - tkI bs b + gvI b) 40))with
  |true=>
   have h1:=(hf b n acc hn).1 hc
   have hb:0≤n - tkI bs b + gvI b∧n - tkI bs b + gvI b≤40:=by simp only [w5,AE]at hc;omega
   obtain⟨g1,g2⟩:=ajy hf r (k + 1) _ (acc++ [n - tkI bs b + gvI b]) hb
   simp only [hgt,hc,cond_true,cX,h1]
   refine⟨fun m out h=> ?_,g2⟩
   obtain⟨q1,q2⟩:=g1 m out h
   refine⟨?_,q2⟩
   rw [q1];simp;omega
  |false=>
   obtain⟨j,hj,h1⟩:=(hf b n acc hn).2 hc
   simp only [hgt,hc,cond_false,cX,h1]
   exact⟨fun m out h=>(by cases h),fun _=>hj⟩
def nB(y2 y3 y4:Int)(y6:List (Int×(alV×Int)))(b:Int×Int):(Int×List Int)→Nat ⊕ (Int×List Int)
 |(y1,y5)=>(bif(!uj y2 y3 y4 b.1 b.2 y6)then(.inl 0)else(bif(bif ltI y1 (eG b.1 b.2 y6)then true else ltI 40 (v6 .i64 (v6 .i64 (y1 - (eG b.1 b.2 y6)) + jf b.1)))then(.inl 1)else(.inr ((v6 .i64 (v6 .i64 (y1 - (eG b.1 b.2 y6)) + jf b.1)),(y5++ [v6 .i64 (v6 .i64 (y1 - (eG b.1 b.2 y6)) + jf b.1)])))))
def mQ(y2 y3 y4:Int)(y6:List (Int×(alV×Int)))(y7:List (Int×Int))(i:Nat):(Int×List Int)→jA
 |(y1,y5)=>((i:Int),y1,y2,y3,y4,y5,y6,y7)
def Gn:jA→Int×List Int
 |(_,y1,_,_,_,y5,_,_)=>(y1,y5)
theorem abI(y2 y3 y4:Int)(y6:List (Int×(alV×Int)))(y7:List (Int×Int))(y1:Int)(y5:List Int)(hn:y7.length≤9223372036854775807)(hst:y7.length≤2000)(hbs:y6.length≤2000)(tu:(0≤y1∧y1≤40)∧y5.length=0):
  de.fin ((0:Int),y1,y2,y3,y4,y5,y6,y7)=true∧de.res ((0:Int),y1,y2,y3,y4,y5,y6,y7)=((cX (nB y2 y3 y4 y6) 2 y7 0 (y1,y5)).1,(mQ y2 y3 y4 y6 y7) (cX (nB y2 y3 y4 y6) 2 y7 0 (y1,y5)).2.1 (cX (nB y2 y3 y4 y6) 2 y7 0 (y1,y5)).2.2):=by
 have my:=de.along (mQ y2 y3 y4 y6 y7) Gn (nB y2 y3 y4 y6) 2 (fun i a=>(0≤a.1∧a.1≤40)∧a.2.length=i) y7 (y1,y5) tu (by simp only [de,mQ];omega) (fun i b a hb hI=> ?_) (fun a hI=> ?_)
 ·exact my
 ·obtain⟨y1,y5⟩:=a
  have eQ:=(j9.1 hb).1
  have ry: ∀ d,v5 y7[i]? d=b:=fun d=>by rw [hb];rfl
  have hw:=IG eQ hn
  have lz:ltI (i:Int) (y7.length:Int)=true:=cS (by omega)
  have Qg:leI (0:Int) (i:Int)=true:=bu (by omega)
  have yL:ltN i y7.length=true:=dI eQ
  refine⟨?_,?_,?_,?_⟩
  ·have hg2:eA (i:Int) y7=b:=by simp only [eA,w7];exact ry _
   have hl:=hI.2
   have h6:leN (y5.length + 1) 9223372036854775807=true:=aR (by simp only at hl;omega)
   have h7:leN ((y5.length + 1) * 8) 140737488355328=true:=aR (by simp only at hl;omega)
   have h8:MG y2 y3 y4 y6 b=true→uQ b.1 b.2 y6=true:=akO hbs
   simp only [pQ,xt,xu,xw,Cb,Cd,Ce,vm,de,LT.nds,allT,mQ,lz,Qg,yL,hg2,w8,h6,h7,w7,cond_true,cond_false]
   change (bif !MG y2 y3 y4 y6 b then _ else _)=true
   cases hf:MG y2 y3 y4 y6 b with
   |false=>rfl
   |true=>simp [h8 hf]
  ·simp [eA,vD,mN,pQ,xt,xu,xw,Cb,Cc,Cd,Ce,Cf,Cg,AU,vm,de,LT.each,mQ,Gn,hw]
  ·have hg2:eA (i:Int) y7=b:=by simp only [eA,w7];exact ry _
   simp only [pQ,xw,Cc,Cf,Cg,AU,vD,mN,vm,de,LT.fn,mQ,Gn,nB,w7,lz,hg2,cond_true]
  ·have hk:=hI.1
   simp only at hk
   have hs:=an6 (i:=y2) (v:=y3) (o:=y4) (bs:=y6) (b:=b) (acc:=y5) hk
   intro a' hf
   have hf:aiy y2 y3 y4 y6 b (y1,y5)= .inr a':=hf
   rw [hs]at hf
   have ht:=Wp y6 b
   have hg:=adZ b
   cases hq:MG y2 y3 y4 y6 b with
   |false=>rw [hq]at hf;cases hf
   |true=>
    cases hq2:(leI (tkI y6 b) y1&&leI (y1 - tkI y6 b + gvI b) 40)with
    |false=>rw [hq,hq2]at hf;cases hf
    |true=>
     rw [hq,hq2]at hf;cases hf
     simp only [w5,AE]at hq2
     exact⟨by simp only;omega,by have hl:=hI.2;simp only at hl;simp [hl]⟩
 ·obtain⟨y1,y5⟩:=a
  simp [eA,vD,mN,pQ,xt,xu,xw,Cb,Cc,Cd,Ce,Cf,Cg,AU,vm,de,LT.out,mQ]
def Ux(i v o:Int)(bs:List TM)(st:List IN):Bool:=match hgt i v o bs st 0 []with | some (m,_)=>m==0 | none=>false
def aaZ(i v o:Int)(bs:List TM)(st:List IN):List Int:=match hgt i v o bs st 0 []with | some (_,out)=>out | none=> []
def Ss(bs:List TM):Bool:=bs.all fun t=>vM t.1 t.2.1 t.2.2
def ale(i v o:Int)(bs:List TM)(st:List IN):Bool:=inR i 0 20&&(inR v 0 20&&(inR o 0 20&&(leN bs.length 2000&&leN st.length 2000)))
def eR(i v o:Int)(bs:List TM)(st:List IN):Bool:=ale i v o bs st&&(Ss bs&&Ux i v o bs st)
def ZM(bs:List TM):Bool:=leN bs.length 9223372036854775807&&bs.all fun t=>leN t.2.1.size 9223372036854775807
theorem af2{bs:List TM}:ZM bs=true↔bs.length≤9223372036854775807∧ ∀ t∈bs,t.2.1.size≤9223372036854775807:=by
 simp only [ZM,w5,iv,List.all_eq_true]
theorem FL{i v o:Int}{bs:List TM}{st:List IN}:ale i v o bs st=true↔(0≤i∧i≤20)∧(0≤v∧v≤20)∧(0≤o∧o≤20)∧bs.length≤2000∧st.length≤2000:=by
 simp only [ale,w5,tE,iv]
theorem aoy(i v o:Int)(bs:List TM)(st:List IN)(hst:st.length≤2000)(hbs:bs.length≤2000):
  Hf i v o bs st=Ux i v o bs st∧NZ i v o bs st=aaZ i v o bs st∧Hg i v o bs st=true:=by
 obtain⟨w1,w2⟩:=abI i v o bs st 0 [] (by omega) hst hbs ⟨⟨by omega,by omega⟩,rfl⟩
 have hw:=ajy (i:=i) (v:=v) (o:=o) (bs:=bs) (f:=nB i v o bs) (e:=2) (fun b n acc hn=>by
  have h:=an6 (i:=i) (v:=v) (o:=o) (bs:=bs) (b:=b) (n:=n) (acc:=acc) hn
  have h:nB i v o bs b (n,acc)=_:=h
  rw [h]
  refine⟨fun hc=> ?_,fun hc=> ?_⟩
  ·simp only [w5]at hc
   simp [hc.1,hc.2.1,hc.2.2]
  ·cases hq:MG i v o bs b with
   |false=>exact⟨0,by omega,rfl⟩
   |true=>
    rw [hq,Bool.true_and]at hc
    exact⟨1,by omega,by rw [hc];rfl⟩) st 0 0 [] ⟨by omega,by omega⟩
 simp only [Hf,NZ,Hg,Au,Md,Me,Mf,w1,allT,cond_true]
 rw [w2]
 simp only [Ux,aaZ]
 cases hh:hgt i v o bs st 0 []with
 |none=>
  have:=hw.2 hh
  generalize cX (nB i v o bs) 2 st 0 (0,[])=r at this ⊢
  obtain⟨j,k,a⟩:=r
  have:j=0∨j=1:=by simp only at this;omega
  rcases this with rfl | rfl <;> simp [Nat.beq]
 |some r=>
  obtain⟨m,out⟩:=r
  have:=(hw.1 m out hh).1
  rw [this]
  simp [Nat.beq,mQ]
def aix(i v o:Int)(bs:List TM)(b:IN):Int×List Int→Nat ⊕ (Int×List Int)
 |(n,acc)=>bif(bif ltI b.2 0 then true else leI (fO i v o b.1 bs) b.2)then .inl 0 else
   bif ltI n (be b.1 b.2 bs)then .inl 1 else
   bif ltI 40 (IntKind.i64.wrap (n + IntKind.i64.wrap (bW b.1 - be b.1 b.2 bs)))then .inl 2 else
   .inr (IntKind.i64.wrap (n + IntKind.i64.wrap (bW b.1 - be b.1 b.2 bs)),acc++ [IntKind.i64.wrap (n + IntKind.i64.wrap (bW b.1 - be b.1 b.2 bs))])
theorem an5{i v o:Int}{bs:List TM}{b:IN}{n:Int}{acc:List Int}(hr:(0≤i∧i≤20)∧(0≤v∧v≤20)∧0≤o∧o≤20)(hl:bs.length≤2000)(hn:0≤n∧n≤40):
  aix i v o bs b (n,acc)=bif !MG i v o bs b then .inl 0 else bif !leI (tkI bs b) n then .inl 1 else bif !leI (n - tkI bs b + gvI b) 40 then .inl 2 else .inr (n - tkI bs b + gvI b,acc++ [n - tkI bs b + gvI b]):=by
 have ht:=Wp bs b
 have hg:=adZ b
 have e1:be b.1 b.2 bs=tkI bs b:=rfl
 have e2:bW b.1=gvI b:=rfl
 have w1:IntKind.i64.wrap (gvI b - tkI bs b)=gvI b - tkI bs b:=aJ (by omega) (by omega)
 have w2:IntKind.i64.wrap (n + (gvI b - tkI bs b))=n - tkI bs b + gvI b:=by rw [aJ (by omega) (by omega)];omega
 simp only [aix,amc hr.1 hr.2.1 hr.2.2 hl,e1,e2,w1,w2]
 have n1:ltI n (tkI bs b)= !leI (tkI bs b) n:=by
  by_cases h1:n < tkI bs b
  ·rw [cS h1,YU (by omega)];rfl
  ·rw [wO (by omega),bu (by omega)];rfl
 have n2:ltI 40 (n - tkI bs b + gvI b)= !leI (n - tkI bs b + gvI b) 40:=by
  by_cases h1:40 < n - tkI bs b + gvI b
  ·rw [cS h1,YU (by omega)];rfl
  ·rw [wO (by omega),bu (by omega)];rfl
 rw [n1,n2]
def cA(y4 y5 y6:Int)(y8:List (Int×(alV×Int)))(b:Int×Int):(Int×List Int)→Nat ⊕ (Int×List Int)
 |(y2,y7)=>(bif(bif ltI b.2 0 then true else leI (fO y4 y5 y6 b.1 y8) b.2)then(.inl 0)else(bif(ltI y2 (be b.1 b.2 y8))then(.inl 1)else(bif(ltI 40 (v6 .i64 (y2 + v6 .i64 (bW b.1 - (be b.1 b.2 y8)))))then(.inl 2)else(.inr ((v6 .i64 (y2 + v6 .i64 (bW b.1 - (be b.1 b.2 y8)))),(y7++ [v6 .i64 (y2 + v6 .i64 (bW b.1 - (be b.1 b.2 y8)))]))))))
def ct(y3:List (Int×Int))(y4 y5 y6:Int)(y8:List (Int×(alV×Int)))(i:Nat):(Int×List Int)→bv
 |(y2,y7)=>((i:Int),(↑y3.length:Int),y2,y3,y4,y5,y6,y7,y8)
def nu:bv→Int×List Int
 |(_,_,y2,_,_,_,_,y7,_)=>(y2,y7)
theorem FC(y3:List (Int×Int))(y4 y5 y6:Int)(y8:List (Int×(alV×Int)))(y2:Int)(y7:List Int)(hn:y3.length≤9223372036854775807)(hst:y3.length≤2000)(hbs:y8.length≤2000)(hr:(0≤y4∧y4≤20)∧(0≤y5∧y5≤20)∧0≤y6∧y6≤20)(tu:(0≤y2∧y2≤40)∧y7.length=0):
  ap.fin ((0:Int),(↑y3.length:Int),y2,y3,y4,y5,y6,y7,y8)=true∧ap.res ((0:Int),(↑y3.length:Int),y2,y3,y4,y5,y6,y7,y8)=((cX (cA y4 y5 y6 y8) 3 y3 0 (y2,y7)).1,(ct y3 y4 y5 y6 y8) (cX (cA y4 y5 y6 y8) 3 y3 0 (y2,y7)).2.1 (cX (cA y4 y5 y6 y8) 3 y3 0 (y2,y7)).2.2):=by
 have my:=ap.along (ct y3 y4 y5 y6 y8) nu (cA y4 y5 y6 y8) 3 (fun i a=>(0≤a.1∧a.1≤40)∧a.2.length=i) y3 (y2,y7) tu (by simp only [ap,ct];omega) (fun i b a hb hI=> ?_) (fun a hI=> ?_)
 ·exact my
 ·obtain⟨y2,y7⟩:=a
  have eQ:=(j9.1 hb).1
  have ry: ∀ d,v5 y3[i]? d=b:=fun d=>by rw [hb];rfl
  have hw:=IG eQ hn
  have lz:ltI (i:Int) (y3.length:Int)=true:=cS (by omega)
  have Qg:leI (0:Int) (i:Int)=true:=bu (by omega)
  have yL:ltN i y3.length=true:=dI eQ
  refine⟨?_,?_,?_,?_⟩
  ·have hg2:aB (i:Int) y3=b:=by simp only [aB,w7];exact ry _
   have hl:=hI.2
   have h6:leN (y7.length + 1) 9223372036854775807=true:=aR (by simp only at hl;omega)
   have h7:leN ((y7.length + 1) * 8) 140737488355328=true:=aR (by simp only at hl;omega)
   have h8:MG y4 y5 y6 y8 b=true→ik b.1 b.2 y8=true:=akO hbs
   simp only [fq,jo,jp,jq,ft,jr,jv,jw,fe,ap,LT.nds,allT,ct,lz,Qg,yL,hg2,w8,h6,h7,w7,amc hr.1 hr.2.1 hr.2.2 hbs,cond_true,cond_false]
   cases hf:MG y4 y5 y6 y8 b with
   |false=>rfl
   |true=>simp [h8 hf]
  ·simp [aB,eW,cq,fq,jo,jp,jq,ft,jr,jt,ju,jv,jw,ji,jj,jk,fe,ap,LT.each,ct,nu,hw]
  ·have hg2:aB (i:Int) y3=b:=by simp only [aB,w7];exact ry _
   simp only [fq,ft,jt,ju,ji,jj,jk,eW,cq,fe,ap,LT.fn,ct,nu,cA,w7,lz,hg2,cond_true]
  ·have hk:=hI.1
   simp only at hk
   have hs:=an5 (i:=y4) (v:=y5) (o:=y6) (bs:=y8) (b:=b) (acc:=y7) hr hbs hk
   intro a' hf
   have hf:aix y4 y5 y6 y8 b (y2,y7)= .inr a':=hf
   rw [hs]at hf
   have ht:=Wp y8 b
   have hg:=adZ b
   cases hq:MG y4 y5 y6 y8 b with
   |false=>rw [hq]at hf;cases hf
   |true=>
    cases hq2:leI (tkI y8 b) y2 with
    |false=>rw [hq,hq2]at hf;cases hf
    |true=>
     cases hq3:leI (y2 - tkI y8 b + gvI b) 40 with
     |false=>rw [hq,hq2,hq3]at hf;cases hf
     |true=>
      rw [hq,hq2,hq3]at hf;cases hf
      have hq2:=AE.1 hq2
      have hq3:=AE.1 hq3
      exact⟨by simp only;omega,by have hl:=hI.2;simp only at hl;simp [hl]⟩
 ·obtain⟨y2,y7⟩:=a
  simp [aB,eW,cq,fq,jo,jp,jq,ft,jr,jt,ju,jv,jw,ji,jj,jk,fe,ap,LT.out,ct]
theorem aoi(i v o:Int)(bs:List TM)(st:List IN)(hr:(0≤i∧i≤20)∧(0≤v∧v≤20)∧0≤o∧o≤20)(hst:st.length≤2000)(hbs:bs.length≤2000):
  lg i v o bs st=Ux i v o bs st∧pb i v o bs st=aaZ i v o bs st∧lh i v o bs st=true:=by
 obtain⟨w1,w2⟩:=FC st i v o bs 0 [] (by omega) hst hbs hr ⟨⟨by omega,by omega⟩,rfl⟩
 have hw:=ajy (i:=i) (v:=v) (o:=o) (bs:=bs) (f:=cA i v o bs) (e:=3) (fun b n acc hn=>by
  have h:=an5 (i:=i) (v:=v) (o:=o) (bs:=bs) (b:=b) (n:=n) (acc:=acc) hr hbs hn
  have h:cA i v o bs b (n,acc)=_:=h
  rw [h]
  refine⟨fun hc=> ?_,fun hc=> ?_⟩
  ·simp only [w5]at hc
   simp [hc.1,hc.2.1,hc.2.2]
  ·cases hq:MG i v o bs b with
   |false=>exact⟨0,by omega,rfl⟩
   |true=>
    rw [hq,Bool.true_and]at hc
    cases hq2:leI (tkI bs b) n with
    |false=>exact⟨1,by omega,rfl⟩
    |true=>rw [hq2,Bool.true_and]at hc;exact⟨2,by omega,by rw [hc];rfl⟩) st 0 0 [] ⟨by omega,by omega⟩
 simp only [lg,pb,lh,er,oC,oD,oE,oF,w1,allT,cond_true]
 rw [w2]
 simp only [Ux,aaZ]
 cases hh:hgt i v o bs st 0 []with
 |none=>
  have:=hw.2 hh
  generalize cX (cA i v o bs) 3 st 0 (0,[])=r at this ⊢
  obtain⟨j,k,a⟩:=r
  have:j=0∨j=1∨j=2:=by simp only at this;omega
  rcases this with rfl | rfl | rfl <;> simp [Nat.beq]
 |some r=>
  obtain⟨m,out⟩:=r
  have:=(hw.1 m out hh).1
  rw [this]
  simp [Nat.beq,ct]
def Dw(b:Int×(alV×Int)):(Unit)→Nat ⊕ (Unit)
 |_=>(bif(!vM b.1 (b.2.1) b.2.2)then(.inl 0)else(.inr ()))
def ut(y1 y2 y3:Int)(y4:List (Int×(alV×Int)))(y5:List (Int×Int))(i:Nat):(Unit)→og
 |_=>((i:Int),y1,y2,y3,y4,y5)
def Nb:og→Unit
 |(_,_,_,_,_,_)=>()
theorem ag6(y1 y2 y3:Int)(y4:List (Int×(alV×Int)))(y5:List (Int×Int)) (hn:y4.length≤9223372036854775807) (hA: ∀ t∈y4,t.2.1.size≤9223372036854775807):
  gA.fin ((0:Int),y1,y2,y3,y4,y5)=true∧gA.res ((0:Int),y1,y2,y3,y4,y5)=((cX (Dw) 1 y4 0 ()).1,(ut y1 y2 y3 y4 y5) (cX (Dw) 1 y4 0 ()).2.1 (cX (Dw) 1 y4 0 ()).2.2):=by
 have my:=gA.along (ut y1 y2 y3 y4 y5) Nb (Dw) 1 (fun _ _=>True) y4 () (by trivial) (by simp only [gA,ut];omega) (fun i b a hb hI=> ?_) (fun a hI=> ?_)
 ·exact my
 ·obtain⟨⟩:=a
  have eQ:=(j9.1 hb).1
  have ry: ∀ d,v5 y4[i]? d=b:=fun d=>by rw [hb];rfl
  have hw:=IG eQ hn
  have lz:ltI (i:Int) (y4.length:Int)=true:=cS (by omega)
  have Qg:leI (0:Int) (i:Int)=true:=bu (by omega)
  have yL:ltN i y4.length=true:=dI eQ
  refine⟨?_,?_,?_,?_⟩
  ·have hg2:nh (i:Int) y4=b:=by simp only [nh,w7];exact ry _
   have h6:leN b.2.1.size 9223372036854775807=true:=aR (hA b (List.mem_of_getElem? hb))
   simp [zl,IP,IQ,IR,DI,IU,BD,gA,LT.nds,allT,ut,lz,Qg,yL,hg2,h6]
  ·simp [nh,zl,IP,IQ,IR,DI,IU,BD,gA,LT.each,ut,Nb,hw]
  ·have hg2:nh (i:Int) y4=b:=by simp only [nh,w7];exact ry _
   simp only [zl,DI,BD,gA,LT.fn,ut,Nb,Dw,w7,lz,hg2,cond_true]
  ·exact fun _ _=>trivial
 ·obtain⟨⟩:=a
  simp [nh,zl,IP,IQ,IR,DI,IU,BD,gA,LT.out,ut]
def iB(b:Int×(alV×Int)):(Unit)→Nat ⊕ (Unit)
 |_=>(bif(Gh b.1 (b.2.1) b.2.2)then(.inl 0)else(.inr ()))
def dd(y2:List (Int×(alV×Int)))(i:Nat):(Unit)→cg
 |_=>((i:Int),(↑y2.length:Int),y2)
def pC:cg→Unit
 |(_,_,_)=>()
theorem Jn(y2:List (Int×(alV×Int))) (hn:y2.length≤9223372036854775807):
  aH.fin ((0:Int),(↑y2.length:Int),y2)=true∧aH.res ((0:Int),(↑y2.length:Int),y2)=((cX (iB) 1 y2 0 ()).1,(dd y2) (cX (iB) 1 y2 0 ()).2.1 (cX (iB) 1 y2 0 ()).2.2):=by
 have my:=aH.along (dd y2) pC (iB) 1 (fun _ _=>True) y2 () (by trivial) (by simp only [aH,dd];omega) (fun i b a hb hI=> ?_) (fun a hI=> ?_)
 ·exact my
 ·obtain⟨⟩:=a
  have eQ:=(j9.1 hb).1
  have ry: ∀ d,v5 y2[i]? d=b:=fun d=>by rw [hb];rfl
  have hw:=IG eQ hn
  have lz:ltI (i:Int) (y2.length:Int)=true:=cS (by omega)
  have Qg:leI (0:Int) (i:Int)=true:=bu (by omega)
  have yL:ltN i y2.length=true:=dI eQ
  refine⟨?_,?_,?_,?_⟩
  ·simp [dJ,iG,iH,iI,iJ,iK,iL,im,aH,LT.nds,allT,dd,lz,Qg,yL,ry]
  ·simp [dJ,iG,iH,iI,iJ,iK,iL,im,aH,LT.each,dd,pC,hw]
  ·simp only [dJ,iG,iH,iI,iJ,iK,iL,im,aH,LT.fn,dd,pC,iB,w7,lz,Qg,yL,ry,cond_true,j8]
  ·exact fun _ _=>trivial
 ·obtain⟨⟩:=a
  simp [dJ,iG,iH,iI,iJ,iK,iL,im,aH,LT.out,dd]
theorem alE(bs:List TM):(bs.any fun t=> !vM t.1 t.2.1 t.2.2)= !Ss bs:=by simp [Ss,List.all_eq_not_any_not]
theorem ams(i v o:Int)(bs:List TM)(st:List IN):zW i v o bs st= !ale i v o bs st:=by
 have e1: ∀ x:Int,aX x 0 20=inR x 0 20:=fun x=>by simp only [aX,Pn]
 have e2: ∀ n:Nat,ltI 2000 (n:Int)= !leN n 2000:=fun n=>by
  by_cases h:n≤2000
  ·rw [aR h,wO (by omega)];rfl
  ·rw [arG (by omega),cS (by omega)];rfl
 simp only [zW,ale,e1,e2]
 cases inR i 0 20 <;> cases inR v 0 20 <;> cases inR o 0 20 <;> cases leN bs.length 2000 <;> cases leN st.length 2000 <;> rfl
theorem ao6(i v o:Int)(bs:List TM)(st:List IN)(h:ZM bs=true):Wa i v o bs st=eR i v o bs st∧Wb i v o bs st=true:=by
 obtain⟨hn,hA⟩:=af2.1 h
 simp only [Wa,Wb,ams,eR]
 cases hr:ale i v o bs st with
 |false=>simp [allT]
 |true=>
  obtain⟨h1,h2,h3,h4,h5⟩:=FL.1 hr
  obtain⟨q1,q2,q3⟩:=aoy i v o bs st h5 h4
  obtain⟨w1,w2⟩:=ag6 i v o bs st hn hA
  rw [ow (P:=fun t=> !vM t.1 t.2.1 t.2.2) (j:=0) (fun t=>rfl),alE]at w2
  simp only [Tb,Tc,w1,w2,q1,q3,allT]
  cases Ss bs <;> simp [Nat.beq]
theorem aoR(i v o:Int)(bs:List TM)(st:List IN):VH i v o bs st=eR i v o bs st∧VI i v o bs st=true:=by
 have e0:HT i v o bs st=zW i v o bs st:=by simp only [HT,zW,dO,aX]
 simp only [VH,VI,e0,ams,eR]
 cases hr:ale i v o bs st with
 |false=>simp [allT]
 |true=>
  obtain⟨h1,h2,h3,h4,h5⟩:=FL.1 hr
  obtain⟨q1,q2,q3⟩:=aoi i v o bs st ⟨h1,h2,h3⟩ h5 h4
  obtain⟨w1,w2⟩:=Jn bs (by omega)
  rw [ow (P:=fun t=> !vM t.1 t.2.1 t.2.2) (j:=0) (fun t=>rfl),alE]at w2
  simp only [mi,qa,sg,si,ng,w1,w2,q1,q3,allT]
  cases Ss bs with
  |true=>simp [Nat.beq,show leI 0 (-1)=false from rfl]
  |false=>simp [Nat.beq,dd];intro h;omega
def Ut:List SV→List Entry→Option Out
 | [.one ⟨true,[.val (.int .i64 x0),.val (.int .i64 x1),.val (.int .i64 x2),.ref 0,.ref 1]⟩],[.row false 122 (.pair (.int .i64) (.pair (.str) (.int .i64))) x3,.row false 83 (.pair (.int .i64) (.int .i64)) x4]=>some ⟨.tup [⟨false,[.ref 2]⟩,⟨false,[.val (.bool (Ux x0 x1 x2 x3 x4))]⟩],[.row false 122 afs x3,.row false 83 ahF x4],[.row true 2 akd (aaZ x0 x1 x2 x3 x4)],[leN x4.length 2000&&leN x3.length 2000]⟩
 |_,_=>none
def MU:PF prog:=PF.alt tP Ut (by
 intro args es o h cf;unfold Ut at h;split at h
 ·rename_i x0 x1 x2 x3 x4
  cases h
  have cf:=iw cf
  have hh:=aoy x0 x1 x2 x3 x4 (iv.1 ((w5 _ _).mp cf).1) (iv.1 ((w5 _ _).mp cf).2)
  obtain⟨e0,e1,en⟩:=hh
  exact mK rfl (gE en) (by simp only [e0] <;> rfl) rfl (by simp only [e1] <;> rfl)
 ·cases h)
def wA:List SV→List Entry→Option Out
 | [.one ⟨true,[.val (.int .i64 x0),.val (.int .i64 x1),.val (.int .i64 x2),.ref 0,.ref 1]⟩],[.row false 122 (.pair (.int .i64) (.pair (.str) (.int .i64))) x3,.row false 83 (.pair (.int .i64) (.int .i64)) x4]=>some ⟨.tup [⟨false,[.ref 2]⟩,⟨false,[.val (.bool (Ux x0 x1 x2 x3 x4))]⟩],[.row false 122 afs x3,.row false 83 ahF x4],[.row true 2 akd (aaZ x0 x1 x2 x3 x4)],[ale x0 x1 x2 x3 x4]⟩
 |_,_=>none
def pc:PF prog:=PF.alt lk wA (by
 intro args es o h cf;unfold wA at h;split at h
 ·rename_i x0 x1 x2 x3 x4
  cases h
  have cf:=iw cf
  have hh:=(fun h=>have h:=FL.1 h;aoi x0 x1 x2 x3 x4 ⟨h.1,h.2.1,h.2.2.1⟩ h.2.2.2.2 h.2.2.2.1) cf
  obtain⟨e0,e1,en⟩:=hh
  exact mK rfl (gE en) (by simp only [e0] <;> rfl) rfl (by simp only [e1] <;> rfl)
 ·cases h)
def acT:List SV→List Entry→Option Out
 | [.one ⟨true,[.val (.int .i64 x0),.val (.int .i64 x1),.val (.int .i64 x2),.ref 0,.ref 1]⟩],[.row false 122 (.pair (.int .i64) (.pair (.str) (.int .i64))) x3,.row false 83 (.pair (.int .i64) (.int .i64)) x4]=>some ⟨.one ⟨false,[.val (.bool (eR x0 x1 x2 x3 x4))]⟩,[.row false 122 afs x3,.row false 83 ahF x4],[],[ZM x3]⟩
 |_,_=>none
def mg:PF prog:=PF.alt ajR acT (by
 intro args es o h cf;unfold acT at h;split at h
 ·rename_i x0 x1 x2 x3 x4
  cases h
  have cf:=iw cf
  have hh:=ao6 x0 x1 x2 x3 x4 cf
  obtain⟨e0,en⟩:=hh
  exact mK rfl (gE en) (by simp only [e0] <;> rfl) rfl rfl
 ·cases h)
def acQ:List SV→List Entry→Option Out
 | [.one ⟨true,[.val (.int .i64 x0),.val (.int .i64 x1),.val (.int .i64 x2),.ref 0,.ref 1]⟩],[.row false 122 (.pair (.int .i64) (.pair (.str) (.int .i64))) x3,.row false 83 (.pair (.int .i64) (.int .i64)) x4]=>some ⟨.one ⟨false,[.val (.bool (eR x0 x1 x2 x3 x4))]⟩,[.row false 122 afs x3,.row false 83 ahF x4],[],[]⟩
 |_,_=>none
def FT:PF prog:=PF.alt ajM acQ (by
 intro args es o h cf;unfold acQ at h;split at h
 ·rename_i x0 x1 x2 x3 x4
  cases h
  have hh:=aoR x0 x1 x2 x3 x4
  obtain⟨e0,en⟩:=hh
  exact mK rfl (gE en) (by simp only [e0] <;> rfl) rfl rfl
 ·cases h)
def ek(bs:List TM)(k:Nat):TM:=v5 bs[k]? ((0:Int),ByteArray.empty,(0:Int))
def stAt(ss:List BS3)(k:Nat):BS3:=v5 ss[k]? ((0:Int),(0:Int),(0:Int))
def possAt(bs:List TM)(ss:List BS3)(k:Nat):Bool:=possB (ek bs k).1 (ek bs k).2.2 (stAt ss k).1 (stAt ss k).2.1 (stAt ss k).2.2
def vL(v:Int)(bs:List TM)(xs:List Int)(ss:List BS3):Bool:=((ss.length:Int)==(bs.length:Int))&&(bitsB v xs&&(List.range bs.length).all fun k=>possAt bs ss k)
def zB(y4:List (Int×(alV×Int)))(y7:List (Int×(Int×Int)))(b:Nat):(Unit)→Nat ⊕ (Unit)
 |_=>(bif(!cQ ((v5 y4[b]? ((0:Int),ByteArray.empty,(0:Int))).1) ((v5 y4[b]? ((0:Int),ByteArray.empty,(0:Int))).2.2) ((v5 y7[b]? ((0:Int),(0:Int),(0:Int))).1) (((v5 y7[b]? ((0:Int),(0:Int),(0:Int))).2).1) ((v5 y7[b]? ((0:Int),(0:Int),(0:Int))).2.2))then(.inl 0)else(.inr ()))
def rh(y1 y2 y3:Int)(y4:List (Int×(alV×Int)))(y5:List (Int×Int))(y6:List Int)(y7:List (Int×(Int×Int)))(i:Nat):(Unit)→ma
 |_=>((i:Int),y1,y2,y3,y4,y5,y6,y7)
def JG:ma→Unit
 |(_,_,_,_,_,_,_,_)=>()
theorem aeX(y1 y2 y3:Int)(y4:List (Int×(alV×Int)))(y5:List (Int×Int))(y6:List Int)(y7:List (Int×(Int×Int))) (hn:y4.length≤9223372036854775807) (he:y7.length=y4.length):
  eL.fin ((0:Int),y1,y2,y3,y4,y5,y6,y7)=true∧eL.res ((0:Int),y1,y2,y3,y4,y5,y6,y7)=((cX (zB y4 y7) 1 (List.range y4.length) 0 ()).1,(rh y1 y2 y3 y4 y5 y6 y7) (cX (zB y4 y7) 1 (List.range y4.length) 0 ()).2.1 (cX (zB y4 y7) 1 (List.range y4.length) 0 ()).2.2):=by
 have my:=eL.along (rh y1 y2 y3 y4 y5 y6 y7) JG (zB y4 y7) 1 (fun _ _=>True) (List.range y4.length) () (by trivial) (by simp only [eL,rh,List.length_range];omega) (fun i b a hb hI=> ?_) (fun a hI=> ?_)
 ·exact my
 ·obtain⟨⟩:=a
  obtain⟨rfl,eQ⟩:=Pv hb
  have hw:IntKind.i64.wrap ((b:Int) + 1)=((b + 1:Nat):Int):=by rw [aJ (by omega) (by omega)];omega
  have lz:ltI (b:Int) (y4.length:Int)=true:=cS (by omega)
  have Qg:leI (0:Int) (b:Int)=true:=bu (by omega)
  have yL:ltN b y4.length=true:=dI (by omega)
  refine⟨?_,?_,?_,?_⟩
  ·simp [uE,rc,wu,wv,Ay,Az,AA,AB,AC,yp,eL,LT.nds,allT,rh,lz,Qg,yL,he]
  ·simp [uE,rc,wu,wv,Ay,Az,AA,AB,AC,yp,eL,LT.each,rh,JG,hw,he]
  ·simp only [uE,rc,wu,wv,Ay,Az,AA,AB,AC,yp,eL,LT.fn,rh,JG,zB,w7,lz,cond_true]
  ·exact fun _ _=>trivial
 ·obtain⟨⟩:=a
  simp [uE,rc,wu,wv,Ay,Az,AA,AB,AC,yp,eL,LT.out,rh,List.length_range]
def fm(y2:List (Int×(alV×Int)))(y4:List (Int×(Int×Int)))(b:Nat):(Unit)→Nat ⊕ (Unit)
 |_=>(bif(!xC ((v5 y2[b]? ((0:Int),ByteArray.empty,(0:Int))).1) ((v5 y2[b]? ((0:Int),ByteArray.empty,(0:Int))).2.2) ((v5 y4[b]? ((0:Int),(0:Int),(0:Int))).1) (((v5 y4[b]? ((0:Int),(0:Int),(0:Int))).2).1) ((v5 y4[b]? ((0:Int),(0:Int),(0:Int))).2.2))then(.inl 0)else(.inr ()))
def cZ(y2:List (Int×(alV×Int)))(y3:List Int)(y4:List (Int×(Int×Int)))(i:Nat):(Unit)→bw
 |_=>((i:Int),(↑y2.length:Int),y2,y3,y4)
def nv:bw→Unit
 |(_,_,_,_,_)=>()
theorem FD(y2:List (Int×(alV×Int)))(y3:List Int)(y4:List (Int×(Int×Int))) (hn:y2.length≤9223372036854775807) (he:y4.length=y2.length):
  aC.fin ((0:Int),(↑y2.length:Int),y2,y3,y4)=true∧aC.res ((0:Int),(↑y2.length:Int),y2,y3,y4)=((cX (fm y2 y4) 1 (List.range y2.length) 0 ()).1,(cZ y2 y3 y4) (cX (fm y2 y4) 1 (List.range y2.length) 0 ()).2.1 (cX (fm y2 y4) 1 (List.range y2.length) 0 ()).2.2):=by
 have my:=aC.along (cZ y2 y3 y4) nv (fm y2 y4) 1 (fun _ _=>True) (List.range y2.length) () (by trivial) (by simp only [aC,cZ,List.length_range];omega) (fun i b a hb hI=> ?_) (fun a hI=> ?_)
 ·exact my
 ·obtain⟨⟩:=a
  obtain⟨rfl,eQ⟩:=Pv hb
  have hw:IntKind.i64.wrap ((b:Int) + 1)=((b + 1:Nat):Int):=by rw [aJ (by omega) (by omega)];omega
  have lz:ltI (b:Int) (y2.length:Int)=true:=cS (by omega)
  have Qg:leI (0:Int) (b:Int)=true:=bu (by omega)
  have yL:ltN b y2.length=true:=dI (by omega)
  refine⟨?_,?_,?_,?_⟩
  ·simp [dN,cY,fu,dW,fv,fw,fy,fA,fB,fC,fg,aC,LT.nds,allT,cZ,lz,Qg,yL,he]
  ·simp [dN,cY,fu,dW,fv,fw,fy,fA,fB,fC,fg,aC,LT.each,cZ,nv,hw,he]
  ·simp only [dN,cY,fu,dW,fv,fw,fy,fA,fB,fC,fg,aC,LT.fn,cZ,nv,fm,w7,lz,cond_true]
  ·exact fun _ _=>trivial
 ·obtain⟨⟩:=a
  simp [dN,cY,fu,dW,fv,fw,fy,fA,fB,fC,fg,aC,LT.out,cZ,List.length_range]
theorem akF{α:Type}{g h:α→Bool}: ∀ (l:List α),(∀ k∈l,g k=h k)→(l.any fun b=> !g b)= !l.all h
 | [],_=>rfl
 |a::l,hg=>by
  rw [List.any_cons,List.all_cons,hg a (by simp),akF l (fun k hk=>hg k (by simp [hk]))]
  cases h a <;> simp
theorem apb(i v o:Int)(bs:List TM)(st:List IN)(xs:List Int)(ss:List BS3)(h:(leN xs.length 9223372036854775807&&leN bs.length 9223372036854775807)=true):
  Le i v o bs st xs ss=vL v bs xs ss∧Lf i v o bs st xs ss=true:=by
 simp only [w5]at h
 have hn:=iv.1 h.2
 by_cases hl:ss.length=bs.length
 ·obtain⟨w1,w2⟩:=aeX i v o bs st xs ss hn hl
  rw [ow (P:=fun k=> !possAt bs ss k) (j:=0) (fun k=>rfl),akF (g:=possAt bs ss) (h:=possAt bs ss) _ (fun k _=>rfl)]at w2
  have a0:ws bs ss=false:=by simp [ws,hl]
  simp only [Le,Lf,Qc,a0,w1,w2,h.1,allT,vL,hl]
  cases bitsB v xs <;> cases (List.range bs.length).all (possAt bs ss) <;> simp [Nat.beq]
 ·have hl2: ¬ ((ss.length:Int)=(bs.length:Int)):=by omega
  have a0:ws bs ss=true:=by simp [ws,hl2]
  have e:((ss.length:Int)==(bs.length:Int))=false:=by simpa using hl2
  simp [Le,Lf,a0,allT,vL,e]
theorem aoU(v:Int)(bs:List TM)(xs:List Int)(ss:List BS3)(h:(leN xs.length 9223372036854775807&&(leN bs.length 9223372036854775807&&Ss bs))=true):
  li v xs ss bs=vL v bs xs ss∧lj v xs ss bs=true:=by
 simp only [w5]at h
 have hn:=iv.1 h.2.1
 have hB: ∀ t∈bs,vM t.1 t.2.1 t.2.2=true:=List.all_eq_true.1 h.2.2
 by_cases hl:ss.length=bs.length
 ·obtain⟨w1,w2⟩:=FD bs xs ss hn hl
  rw [ow (P:=fun k=> !xC (ek bs k).1 (ek bs k).2.2 (stAt ss k).1 (stAt ss k).2.1 (stAt ss k).2.2) (j:=0) (fun k=>rfl),
   akF (g:=fun k=>xC (ek bs k).1 (ek bs k).2.2 (stAt ss k).1 (stAt ss k).2.1 (stAt ss k).2.2) (h:=possAt bs ss) _ (fun k hk=>by
    have hk:k < bs.length:=List.mem_range.1 hk
    have hg:ek bs k=bs[k]:=by simp only [ek,List.getElem?_eq_getElem hk];rfl
    have:=hB _ (List.getElem_mem hk)
    rw [← hg]at this
    exact aqG (XZ this).1)]at w2
  have a0:et v xs ss bs= !bitsB v xs:=by simp only [et,hl];cases bitsB v xs <;> simp
  simp only [li,lj,oG,a0,w1,w2,h.1,allT,vL,hl]
  cases bitsB v xs <;> cases (List.range bs.length).all (possAt bs ss) <;> simp [Nat.beq]
 ·have hl2: ¬ ((ss.length:Int)=(bs.length:Int)):=by omega
  have a0:et v xs ss bs=true:=by simp only [et];cases bitsB v xs <;> simp [hl2]
  have e:((ss.length:Int)==(bs.length:Int))=false:=by simpa using hl2
  simp [li,lj,a0,allT,vL,e,h.1]
def YS:List SV→List Entry→Option Out
 | [.one ⟨true,[.val (.int .i64 x0),.val (.int .i64 x1),.val (.int .i64 x2),.ref 0,.ref 1]⟩,.one ⟨true,[.ref 2,.ref 3]⟩],[.row false 122 (.pair (.int .i64) (.pair (.str) (.int .i64))) x3,.row false 83 (.pair (.int .i64) (.int .i64)) x4,.row false 2 (.int .i64) x5,.row false 109 (.pair (.int .i64) (.pair (.int .i64) (.int .i64))) x6]=>some ⟨.one ⟨false,[.val (.bool (vL x1 x3 x5 x6))]⟩,[.row false 122 afs x3,.row false 83 ahF x4,.row false 2 akd x5,.row false 109 ac0 x6],[],[leN x5.length 9223372036854775807&&leN x3.length 9223372036854775807]⟩
 |_,_=>none
def Bl:PF prog:=PF.alt ahV YS (by
 intro args es o h cf;unfold YS at h;split at h
 ·rename_i x0 x1 x2 x3 x4 x5 x6
  cases h
  have cf:=iw cf
  have hh:=apb x0 x1 x2 x3 x4 x5 x6 cf
  obtain⟨e0,en⟩:=hh
  exact mK rfl (gE en) (by simp only [e0] <;> rfl) rfl rfl
 ·cases h)
def wB:List SV→List Entry→Option Out
 | [.one ⟨true,[.ref 0,.ref 1]⟩,.one ⟨false,[.val (.int .i64 x0)]⟩,.one ⟨false,[.ref 2]⟩],[.row false 2 (.int .i64) x1,.row false 109 (.pair (.int .i64) (.pair (.int .i64) (.int .i64))) x2,.row false 122 (.pair (.int .i64) (.pair (.str) (.int .i64))) x3]=>some ⟨.one ⟨false,[.val (.bool (vL x0 x3 x1 x2))]⟩,[.row false 2 akd x1,.row false 109 ac0 x2,.row false 122 afs x3],[],[leN x1.length 9223372036854775807&&(leN x3.length 9223372036854775807&&Ss x3)]⟩
 |_,_=>none
def pd:PF prog:=PF.alt Hj wB (by
 intro args es o h cf;unfold wB at h;split at h
 ·rename_i x0 x1 x2 x3
  cases h
  have cf:=iw cf
  have hh:=aoU x0 x3 x1 x2 cf
  obtain⟨e0,en⟩:=hh
  exact mK rfl (gE en) (by simp only [e0] <;> rfl) rfl rfl
 ·cases h)
abbrev lY:=Int×alV×List alV
section
variable (y0:Int)(y1:alV)(y2:List alV)
def we:Bool:=ltI y0 (↑y2.length:Int)
def Al:Bool:=leI 0 y0
def Am:Bool:=ltN y0.toNat y2.length
def An:Bool:=ByteArray.toList (v5 y2[v3 y0]? ByteArray.empty)==ByteArray.toList y1
def Ao:Int:=v6 .i64 (y0 + (1:Int))
end
def acf:lY→List (Nat×SV)
 |(y0,y1,_)=> [(5,(.one ⟨false,[.val (.int .i64 y0)]⟩)),(0,(.one ⟨false,[.ref 0]⟩)),(1,(.one ⟨false,[.val (.string y1)]⟩))]
def ab7:lY→List (Nat×Entry)
 |(_,_,y2)=> [(0,(.row false 9 alu y2))]
def act:Nat→lY→List (Nat×SV)
 |0,(y0,_,_)=> [(4,(.one ⟨false,[.val (.int .i64 y0)]⟩))]
 |_,(_,_,_)=> []
def acm:Nat→lY→List (Nat×Entry)
 |0,(_,_,y2)=> [(0,(.row false 9 alu y2))]
 |_,(_,_,y2)=> [(0,(.row false 9 alu y2))]
def ym:lY→LT lY
 |(y0,y1,y2)=> .ite (we y0 y2) (.need [Al y0,we y0 y2,Am y0 y2] (.ite (An y0 y1 y2) (.ext 0 [(0,0)]) (.nrm ((Ao y0),y1,y2) [(0,0)]))) (.ext 1 [(0,0)])
def JM(s:St):Option lY:=
 (match s.look 5 with
 |some ⟨none,.one ⟨false,[.val (.int .i64 y0)]⟩⟩=>
 (match s.look 0 with
 |some ⟨none,.one ⟨false,[.ref 0]⟩⟩=>
 (match s.look 1 with
 |some ⟨none,.one ⟨false,[.val (.string y1)]⟩⟩=>
 (match s.ent 0 with
 |some (.row false 9 (.str) y2)=>
 some (y0,y1,y2)
 |_=>none)
 |_=>none)
 |_=>none)
 |_=>none)
def eg:Lp lY where
 h:=⟨[6,7,8,9,12,13,14,15,16,17,18,4,10,11,5],[0],[],[]⟩
 JL:=acf
 JE:=ab7
 XL:=act
 XE:=acm
 q:=fun j=>match j with | 0=> .ret | _=> .exit 0
 tags:= [0,1]
 lt:=ym
 fuel:=fun(y0,y1,y2)=>y0.natAbs + y1.size + y2.length
 fix:=fun(_,y1,y2) (y0,_,_)=>(y0,y1,y2)
 σ:= [(0,0)]
 rd:=JM
theorem ZF:LoopOk prog (fun k=>Nat.blt k Tryz.f62.ntmps) eg.F (bV f62 0):=by
 refine Lp.ok (tbl:= []) (lf:= []) bG eg (by kernel_rfl) (LOk.nil _) (fun _=>rfl) (fun j _=>by unfold eg;match j with | 0=>rfl | _ + 1=>rfl) ?_ ?_ ?_ ?_ (fun _=>rfl) ?_
 ·rintro⟨y0,y1,y2⟩;kernel_rfl
 ·rintro⟨y0,y1,y2⟩;kernel_rfl
 ·intro s x h
  have h:JM s=some x:=h
  unfold JM at h
  repeat' split at h
  all_goals cases h
  constructor<;>repeat(first|refine ab (by assumption) rfl ?_|refine aa rfl (by assumption) rfl ?_|exact rfl)
 ·rintro⟨y0,y1,y2⟩;kernel_rfl
 ·rintro⟨y0,y1,y2⟩ z;exact(And.intro (And.intro trivial rfl) trivial)
section
variable (x0:alV)(x1:List alV)
def Ja:Int×alV×List alV:=((0:Int),x0,x1)
def FQ:Int:=bif Nat.beq ((Lp.res eg (Ja x0 x1)).1) 0 then ((Lp.res eg (Ja x0 x1)).2).1else(-1:Int)
def KR:Bool:=allT [Lp.fin eg (Ja x0 x1)]
end
def YH:List SV→List Entry→Option Out
 | [.one ⟨false,[.ref 0]⟩,.one ⟨false,[.val (.string x0)]⟩],[.row false 9 (.str) x1]=>some ⟨.one ⟨false,[.val (.int .i64 (FQ x0 x1))]⟩,[.row false 9 alu x1],[],[KR x0 x1]⟩
 |_,_=>none
def xS:PF prog:=PF.ofG prog [] [eg.F] bG 62 f62 func62 (LOk.fnT (l:= [bV f62 0]) (by kernel_rfl) (.cons ZF (.nil _))) YH (by
 intro vs es r h;unfold YH at h;split at h
 ·cases h;kernel_rfl
 ·cases h)
abbrev lW:=Int×List alV
section
variable (y0:Int)(y1:List alV)
def oz:alV:=v5 y1[v3 y0]? ByteArray.empty
def wb:Bool:=ltI y0 (↑y1.length:Int)
def Fm:Bool:=leI 0 y0
def Fo:Bool:=ltN y0.toNat y1.length
def Fp:Bool:=rU (oz y0 y1)
def Ab:Bool:= !lN (oz y0 y1)
def Fq:Int:=v6 .i64 (y0 + (1:Int))
end
def acb:lW→List (Nat×SV)
 |(y0,_)=> [(5,(.one ⟨false,[.val (.int .i64 y0)]⟩)),(0,(.one ⟨false,[.ref 0]⟩))]
def ab4:lW→List (Nat×Entry)
 |(_,y1)=> [(0,(.row false 9 alu y1))]
def acq:Nat→lW→List (Nat×SV)
 |0,(_,_)=> [(4,(.one ⟨false,[.val (.bool false)]⟩))]
 |_,(_,_)=> []
def acj:Nat→lW→List (Nat×Entry)
 |0,(_,y1)=> [(0,(.row false 9 alu y1))]
 |_,(_,y1)=> [(0,(.row false 9 alu y1))]
def yh:lW→LT lW
 |(y0,y1)=> .ite (wb y0 y1) (.need [Fm y0,wb y0 y1,Fo y0 y1,Fp y0 y1] (.ite (Ab y0 y1) (.ext 0 [(0,0)]) (.nrm ((Fq y0),y1) [(0,0)]))) (.ext 1 [(0,0)])
def JI(s:St):Option lW:=
 (match s.look 5 with
 |some ⟨none,.one ⟨false,[.val (.int .i64 y0)]⟩⟩=>
 (match s.look 0 with
 |some ⟨none,.one ⟨false,[.ref 0]⟩⟩=>
 (match s.ent 0 with
 |some (.row false 9 (.str) y1)=>
 some (y0,y1)
 |_=>none)
 |_=>none)
 |_=>none)
def eJ:Lp lW where
 h:=⟨[6,7,8,9,12,13,14,15,16,17,4,10,11,5],[0],[],[]⟩
 JL:=acb
 JE:=ab4
 XL:=acq
 XE:=acj
 q:=fun j=>match j with | 0=> .ret | _=> .exit 0
 tags:= [0,1]
 lt:=yh
 fuel:=fun(y0,y1)=>y0.natAbs + y1.length
 fix:=fun(_,y1) (y0,_)=>(y0,y1)
 σ:= [(0,0)]
 rd:=JI
theorem ZC:LoopOk prog (fun k=>Nat.blt k Tryz.f143.ntmps) eJ.F (bV f143 0):=by
 refine Lp.ok (tbl:= [nQ,Ii]) (lf:= []) bG eJ (by kernel_rfl) (LOk.nil _) (fun _=>rfl) (fun j _=>by unfold eJ;match j with | 0=>rfl | _ + 1=>rfl) ?_ ?_ ?_ ?_ (fun _=>rfl) ?_
 ·rintro⟨y0,y1⟩;kernel_rfl
 ·rintro⟨y0,y1⟩;kernel_rfl
 ·intro s x h
  have h:JI s=some x:=h
  unfold JI at h
  repeat' split at h
  all_goals cases h
  constructor<;>repeat(first|refine ab (by assumption) rfl ?_|refine aa rfl (by assumption) rfl ?_|exact rfl)
 ·rintro⟨y0,y1⟩;kernel_rfl
 ·rintro⟨y0,y1⟩ z;exact(And.intro (And.intro trivial rfl) trivial)
def Rj(x0:Int)(x1:List alV):Bool:=bif Nat.beq ((Lp.res eJ ((0:Int),x1)).1) 0 then false else aX (↑x1.length:Int) x0 20
def Rk(x1:List alV):Bool:=allT [Lp.fin eJ ((0:Int),x1)]
def YE:List SV→List Entry→Option Out
 | [.one ⟨false,[.ref 0]⟩,.one ⟨false,[.val (.int .i64 x0)]⟩],[.row false 9 (.str) x1]=>some ⟨.one ⟨false,[.val (.bool (Rj x0 x1))]⟩,[.row false 9 alu x1],[],[Rk x1]⟩
 |_,_=>none
def ahT:PF prog:=PF.ofG prog [nQ,Ii] [eJ.F] bG 143 f143 func143 (LOk.fnT (l:= [bV f143 0]) (by kernel_rfl) (.cons ZC (.nil _))) YE (by
 intro vs es r h;unfold YE at h;split at h
 ·cases h;kernel_rfl
 ·cases h)
abbrev jz:=Int×Int×List (Int×(alV×Int))×List Int
section
variable (y0 y1:Int)(y2:List (Int×(alV×Int)))(y3:List Int)
def dV:Int×alV×Int:=v5 y2[v3 y0]? ((0:Int),ByteArray.empty,(0:Int))
def oR:Bool:= !DM ((dV y0 y2).1) (((dV y0 y2).2).1) ((dV y0 y2).2.2)
def oS:Int:=v6 .i64 (v6 .i64 (y1 - ec ((dV y0 y2).1)) + (1:Int))
def pM:Bool:=ltI y0 (↑y2.length:Int)
def sN:Bool:=leI 0 y0
def sO:Bool:=ltN y0.toNat y2.length
def wV:Bool:=DN ((dV y0 y2).1) (((dV y0 y2).2).1) ((dV y0 y2).2.2)
def wW:Bool:= !(!oR y0 y2&&true)||leI 0 y0
def wX:Bool:= !(!oR y0 y2&&true)||ltI y0 (↑y2.length:Int)
def wY:Bool:= !(!oR y0 y2&&true)||ltN y0.toNat y2.length
def wZ:Bool:=bif oR y0 y2 then true else ltI y1 (ec ((dV y0 y2).1))
def xa:Bool:=leN (v4 y3 + v4 [oS y0 y1 y2]) (9223372036854775807:Nat)
def xc:Bool:=leN ((v4 y3 + v4 [oS y0 y1 y2]) * (8:Nat)) 140737488355328
def vq:Int:=v6 .i64 (y0 + (1:Int))
def vr:Int:=oS y0 y1 y2
def vt:List Int:=y3++ [oS y0 y1 y2]
end
def Zl:jz→List (Nat×SV)
 |(y0,y1,_,_)=> [(6,(.one ⟨false,[.val (.int .i64 y0)]⟩)),(0,(.one ⟨false,[.ref 0]⟩)),(5,(.one ⟨false,[.val (.int .i64 y1)]⟩)),(4,(.one ⟨false,[.ref 1]⟩))]
def Zg:jz→List (Nat×Entry)
 |(_,_,y2,y3)=> [(0,(.row false 122 afs y2)),(1,(.row true 2 akd y3))]
def Zv:Nat→jz→List (Nat×SV)
 |0,(_,_,_,_)=> [(2,(.one ⟨false,[.ref 2]⟩)),(3,(.one ⟨false,[.val (.bool false)]⟩))]
 |_,(_,y1,_,_)=> [(5,(.one ⟨false,[.val (.int .i64 y1)]⟩)),(4,(.one ⟨false,[.ref 1]⟩))]
def Zq:Nat→jz→List (Nat×Entry)
 |0,(_,_,y2,y3)=> [(0,(.row false 122 afs y2)),(1,(.row true 2 akd y3)),(2,(.row true 2 akd []))]
 |_,(_,_,y2,y3)=> [(0,(.row false 122 afs y2)),(1,(.row true 2 akd y3))]
def vj:jz→LT jz
 |(y0,y1,y2,y3)=> .ite (pM y0 y2) (.need [sN y0,pM y0 y2,sO y0 y2,wV y0 y2,wW y0 y2,wX y0 y2,wY y0 y2] (.ite (wZ y0 y1 y2) (.ext 0 [(0,0),(1,1),(2,1344)]) (.need [sN y0,pM y0 y2,sO y0 y2] (.need [xa y0 y1 y2 y3,xc y0 y1 y2 y3] (.nrm ((vq y0),vr y0 y1 y2,y2,(vt y0 y1 y2 y3)) [(0,0),(1,2176)]))))) (.ext 1 [(0,0),(1,1)])
def Gq(s:St):Option jz:=
 (match s.look 6 with
 |some ⟨none,.one ⟨false,[.val (.int .i64 y0)]⟩⟩=>
 (match s.look 0 with
 |some ⟨none,.one ⟨false,[.ref 0]⟩⟩=>
 (match s.look 5 with
 |some ⟨none,.one ⟨false,[.val (.int .i64 y1)]⟩⟩=>
 (match s.look 4 with
 |some ⟨none,.one ⟨false,[.ref 256]⟩⟩=>
 (match s.ent 0 with
 |some (.row false 122 (.pair (.int .i64) (.pair .str (.int .i64))) y2)=>
 (match s.ent 256 with
 |some (.row true 2 (.int .i64) y3)=>
 some (y0,y1,y2,y3)
 |_=>none)
 |_=>none)
 |_=>none)
 |_=>none)
 |_=>none)
 |_=>none)
def du:Lp jz where
 h:=⟨[8,9,10,11,14,15,16,17,18,19,20,21,22,23,24,25,26,27,28,29,2,3,30,31,32,33,34,35,36,37,38,5,39,40,41,42,4,12,13,6],[0],[1],[2]⟩
 JL:=Zl
 JE:=Zg
 XL:=Zv
 XE:=Zq
 q:=fun j=>match j with | 0=> .ret | _=> .exit 0
 tags:= [0,1]
 lt:=vj
 fuel:=fun(y0,y1,y2,y3)=>y0.natAbs + y1.natAbs + y2.length + y3.length
 fix:=fun(_,_,y2,_) (y0,y1,_,y3)=>(y0,y1,y2,y3)
 σ:= [(0,0),(1,256)]
 rd:=Gq
theorem Xa:LoopOk prog (fun k=>Nat.blt k Tryz.f180.ntmps) du.F (bV f180 0):=by
 refine Lp.ok (tbl:= [SO,nX]) (lf:= []) bG du (by kernel_rfl) (LOk.nil _) (fun _=>rfl) (fun j _=>by unfold du;match j with | 0=>rfl | _ + 1=>rfl) ?_ ?_ ?_ ?_ (fun _=>rfl) ?_
 ·rintro⟨y0,y1,y2,y3⟩;kernel_rfl
 ·rintro⟨y0,y1,y2,y3⟩;kernel_rfl
 ·intro s x h
  have h:Gq s=some x:=h
  unfold Gq at h
  repeat' split at h
  all_goals cases h
  constructor<;>repeat(first|refine ab (by assumption) rfl ?_|refine aa rfl (by assumption) rfl ?_|exact rfl)
 ·rintro⟨y0,y1,y2,y3⟩;kernel_rfl
 ·rintro⟨y0,y1,y2,y3⟩ z;exact(And.intro (And.intro trivial rfl) trivial)
section
variable (x0:List (Int×alV×Int))
def Fl:Int×Int×List (Int×alV×Int)×List Int:=((0:Int),(0:Int),x0,[])
def LH:Bool:=Nat.beq ((Lp.res du (Fl x0)).1) 0
def LI:Int×List (Int×alV×Int)×List Int:=(Lp.res du (Fl x0)).2.2
def ND:Bool:=bif LH x0 then false else bif (LI x0).1==1 then leI (↑x0.length:Int) 40 else false
def afT:List Int:=bif LH x0 then []else (LI x0).2.2
def NE:Bool:=allT [Lp.fin du (Fl x0)]
end
def Up:List SV→List Entry→Option Out
 | [.one ⟨false,[.ref 0]⟩],[.row false 122 (.pair (.int .i64) (.pair (.str) (.int .i64))) x0]=>some ⟨.tup [⟨false,[.ref 1]⟩,⟨false,[.val (.bool (ND x0))]⟩],[.row false 122 afs x0],[.row true 2 akd (afT x0)],[NE x0]⟩
 |_,_=>none
def Na:PF prog:=PF.ofG prog [SO,nX] [du.F] bG 180 f180 func180 (LOk.fnT (l:= [bV f180 0]) (by kernel_rfl) (.cons Xa (.nil _))) Up (by
 intro vs es r h;unfold Up at h;split at h
 ·cases h;kernel_rfl
 ·cases h)
def JQ(x0:List (Int×alV×Int)):Bool:=ND x0
def JR(x0:List (Int×alV×Int)):Bool:=allT [NE x0]
def Ru:List SV→List Entry→Option Out
 | [.one ⟨false,[.ref 0]⟩],[.row false 122 (.pair (.int .i64) (.pair (.str) (.int .i64))) x0]=>some ⟨.one ⟨false,[.val (.bool (JQ x0))]⟩,[.row false 122 afs x0],[],[JR x0]⟩
 |_,_=>none
def acA:PF prog:=PF.ofG prog (T3z [Na]) [] bG 144 f144 func144 (fun c _=>LOk.nil c) Ru (by
 intro vs es r h;unfold Ru at h;split at h
 ·cases h;kernel_rfl
 ·cases h)
section
variable (x2 x3 x4:List alV)
def NF:List alV:=x2++x3
def adc:List alV:=NF x2 x3++x4
def Wg:Bool:=allT [leN (0 + v4 x2) 9223372036854775807,leN ((0 + v4 x2) * 16) 140737488355328,leN (v4 x2 + v4 x3) 9223372036854775807,leN ((v4 x2 + v4 x3) * 16) 140737488355328,leN (v4 (NF x2 x3) + v4 x4) 9223372036854775807,leN ((v4 (NF x2 x3) + v4 x4) * 16) 140737488355328]
end
def acM:List SV→List Entry→Option Out
 | [.one ⟨true,[.val (.string _x0),.ref 0,.ref 1,.ref 2,.val (.string _x1),.ref 3]⟩],[.row false 9 (.str) x2,.row false 9 (.str) x3,.row false 9 (.str) x4,.row false 142 (.pair (.str) (.sl 122 (.pair (.int .i64) (.pair (.str) (.int .i64))))) x5]=>some ⟨.one ⟨false,[.ref 4]⟩,[.row false 9 alu x2,.row false 9 alu x3,.row false 9 alu x4,.row false 142 (CTy.pair CTy.str (CTy.sl (122:TypeId) afs)) x5],[.row true 9 alu (adc x2 x3 x4)],[Wg x2 x3 x4]⟩
 |_,_=>none
def ajU:PF prog:=PF.ofG prog [] [] bG 103 f103 func103 (fun c _=>LOk.nil c) acM (by
 intro vs es r h;unfold acM at h;split at h
 ·cases h;kernel_rfl
 ·cases h)
abbrev lZ:=Int×List alV
section
variable (y0:Int)(y1:List alV)
def yF:alV:=v5 y1[v3 y0]? ByteArray.empty
def ra:List alV:=List.drop (v3 0) (List.take y0.toNat y1)
def wg:Bool:=ltI y0 (↑y1.length:Int)
end
def Aq:Bool:=leI 0 0
section
variable (y0:Int)(y1:List alV)
def wh:Bool:=leI 0 y0
def Ar:Bool:=leI y0 (↑y1.length:Int)
def As:Bool:=ltN y0.toNat y1.length
def wi:Bool:=KR (yF y0 y1) (ra y0 y1)
def At:Bool:=leI 0 (FQ (yF y0 y1) (ra y0 y1))
def Fs:Int:=v6 .i64 (y0 + (1:Int))
end
def acg:lZ→List (Nat×SV)
 |(y0,_)=> [(3,(.one ⟨false,[.val (.int .i64 y0)]⟩)),(0,(.one ⟨false,[.ref 0]⟩))]
def ab8:lZ→List (Nat×Entry)
 |(_,y1)=> [(0,(.row false 9 alu y1))]
def acu:Nat→lZ→List (Nat×SV)
 |0,(_,_)=> [(2,(.one ⟨false,[.val (.bool true)]⟩))]
 |_,(_,_)=> []
def acn:Nat→lZ→List (Nat×Entry)
 |0,(_,y1)=> [(0,(.row false 9 alu y1))]
 |_,(_,y1)=> [(0,(.row false 9 alu y1))]
def yo:lZ→LT lZ
 |(y0,y1)=> .ite (wg y0 y1) (.need [Aq,wh y0,Ar y0 y1,wh y0,wg y0 y1,As y0 y1,wi y0 y1] (.ite (At y0 y1) (.ext 0 [(0,0)]) (.nrm ((Fs y0),y1) [(0,0)]))) (.ext 1 [(0,0)])
def JN(s:St):Option lZ:=
 (match s.look 3 with
 |some ⟨none,.one ⟨false,[.val (.int .i64 y0)]⟩⟩=>
 (match s.look 0 with
 |some ⟨none,.one ⟨false,[.ref 0]⟩⟩=>
 (match s.ent 0 with
 |some (.row false 9 (.str) y1)=>
 some (y0,y1)
 |_=>none)
 |_=>none)
 |_=>none)
def eK:Lp lZ where
 h:=⟨[4,5,6,7,10,11,12,13,14,15,16,17,18,2,8,9,3],[0],[],[]⟩
 JL:=acg
 JE:=ab8
 XL:=acu
 XE:=acn
 q:=fun j=>match j with | 0=> .ret | _=> .exit 0
 tags:= [0,1]
 lt:=yo
 fuel:=fun(y0,y1)=>y0.natAbs + y1.length
 fix:=fun(_,y1) (y0,_)=>(y0,y1)
 σ:= [(0,0)]
 rd:=JN
theorem ZG:LoopOk prog (fun k=>Nat.blt k Tryz.f145.ntmps) eK.F (bV f145 0):=by
 refine Lp.ok (tbl:= (T3z [xS])) (lf:= []) bG eK (by kernel_rfl) (LOk.nil _) (fun _=>rfl) (fun j _=>by unfold eK;match j with | 0=>rfl | _ + 1=>rfl) ?_ ?_ ?_ ?_ (fun _=>rfl) ?_
 ·rintro⟨y0,y1⟩;kernel_rfl
 ·rintro⟨y0,y1⟩;kernel_rfl
 ·intro s x h
  have h:JN s=some x:=h
  unfold JN at h
  repeat' split at h
  all_goals cases h
  constructor<;>repeat(first|refine ab (by assumption) rfl ?_|refine aa rfl (by assumption) rfl ?_|exact rfl)
 ·rintro⟨y0,y1⟩;kernel_rfl
 ·rintro⟨y0,y1⟩ z;exact(And.intro (And.intro trivial rfl) trivial)
def Rm(x0:List alV):Bool:=bif Nat.beq ((Lp.res eK ((0:Int),x0)).1) 0 then true else false
def Rn(x0:List alV):Bool:=allT [Lp.fin eK ((0:Int),x0)]
def YI:List SV→List Entry→Option Out
 | [.one ⟨false,[.ref 0]⟩],[.row false 9 (.str) x0]=>some ⟨.one ⟨false,[.val (.bool (Rm x0))]⟩,[.row false 9 alu x0],[],[Rn x0]⟩
 |_,_=>none
def ahU:PF prog:=PF.ofG prog (T3z [xS]) [eK.F] bG 145 f145 func145 (LOk.fnT (l:= [bV f145 0]) (by kernel_rfl) (.cons ZG (.nil _))) YI (by
 intro vs es r h;unfold YI at h;split at h
 ·cases h;kernel_rfl
 ·cases h)
abbrev lF:=Int×Int×alV×alV×List (Int×(alV×Int))×List alV×List alV×List alV×List (alV×(List (Int×(alV×Int))))
def DO(y1:Int)(y8:List (alV×(List (Int×(alV×Int))))):Bool:=ltI y1 (↑y8.length:Int)
def xI(y1:Int)(y8:List (alV×(List (Int×(alV×Int))))):Bool:=ltN y1.toNat y8.length
def pu(y1:Int)(y8:List (alV×(List (Int×(alV×Int))))):List (Int×alV×Int):=(v5 y8[v3 y1]? (uS aaY)).2
def pv(y0 y1:Int)(y8:List (alV×(List (Int×(alV×Int))))):Bool:=ltI y0 (↑(v4 (pu y1 y8)):Int)
def pw(y0 y1:Int)(y8:List (alV×(List (Int×(alV×Int))))):Int×alV×Int:=v5 (pu y1 y8)[v3 y0]? ((0:Int),ByteArray.empty,(0:Int))
def ed(y0 y1:Int)(y8:List (alV×(List (Int×(alV×Int))))):Bool:=leI 7 ((pw y0 y1 y8).1)
def px(y0 y1:Int)(y8:List (alV×(List (Int×(alV×Int))))):List (Int×alV×Int):= [((pw y0 y1 y8).1,((pw y0 y1 y8).2).1,(pw y0 y1 y8).2.2)]
def qu(y1:Int):Bool:=leI 0 y1
def qv(y1:Int)(y8:List (alV×(List (Int×(alV×Int))))):Bool:=DO y1 y8
def qw(y1:Int)(y8:List (alV×(List (Int×(alV×Int))))):Bool:=xI y1 y8
def qx(y0 y1:Int)(y8:List (alV×(List (Int×(alV×Int))))):Bool:=pv y0 y1 y8
def tZ(y0:Int):Bool:=leI 0 y0
def ua(y0 y1:Int)(y8:List (alV×(List (Int×(alV×Int))))):Bool:=ltN y0.toNat (v4 (pu y1 y8))
def ub(y0 y1:Int)(y8:List (alV×(List (Int×(alV×Int))))):Bool:= !ed y0 y1 y8||leI 0 y1
def uc(y0 y1:Int)(y8:List (alV×(List (Int×(alV×Int))))):Bool:= !ed y0 y1 y8||DO y1 y8
def ud(y0 y1:Int)(y8:List (alV×(List (Int×(alV×Int))))):Bool:= !ed y0 y1 y8||xI y1 y8
def ue(y0 y1:Int)(y8:List (alV×(List (Int×(alV×Int))))):Bool:= !ed y0 y1 y8||leI 0 y0
def sP(y0 y1:Int)(y8:List (alV×(List (Int×(alV×Int))))):Bool:= !ed y0 y1 y8||pv y0 y1 y8
def sQ(y0 y1:Int)(y8:List (alV×(List (Int×(alV×Int))))):Bool:= !ed y0 y1 y8||ltN y0.toNat (v4 (pu y1 y8))
def sR(y0 y1:Int)(y4:List (Int×(alV×Int)))(y8:List (alV×(List (Int×(alV×Int))))):Bool:= !ed y0 y1 y8||leN (v4 y4 + v4 (px y0 y1 y8)) 9223372036854775807
def sS(y0 y1:Int)(y4:List (Int×(alV×Int)))(y8:List (alV×(List (Int×(alV×Int))))):Bool:= !ed y0 y1 y8||leN ((v4 y4 + v4 (px y0 y1 y8)) * 32) 140737488355328
def sU(y0 y1:Int)(y8:List (alV×(List (Int×(alV×Int))))):Bool:=ed y0 y1 y8
def pt(y0:Int):Int:=v6 .i64 (y0 + (1:Int))
def sV(y0 y1:Int)(y4:List (Int×(alV×Int)))(y8:List (alV×(List (Int×(alV×Int))))):List (Int×(alV×Int)):=y4++px y0 y1 y8
def WF:lF→List (Nat×SV)
 |(y0,y1,_,_,_,_,_,_,_)=> [(5,(.one ⟨false,[.val (.int .i64 y0)]⟩)),(1,(.one ⟨false,[.ptr 0 0]⟩)),(4,(.one ⟨false,[.val (.int .i64 y1)]⟩)),(3,(.one ⟨false,[.ref 1]⟩))]
def WE:lF→List (Nat×Entry)
 |(_,_,y2,y3,y4,y5,y6,y7,y8)=> [(0,(.box 43 [.val (.string y2),.ref 2,.ref 3,.ref 4,.val (.string y3),.ref 5])),(2,(.row false 9 alu y5)),(3,(.row false 9 alu y6)),(4,(.row false 9 alu y7)),(5,(.row false 142 aaY y8)),(1,(.row true 122 afs y4))]
def WN:Nat→lF→List (Nat×SV)
 |_,(_,_,_,_,_,_,_,_,_)=> [(3,(.one ⟨false,[.ref 1]⟩))]
def WM:Nat→lF→List (Nat×Entry)
 |_,(_,_,y2,y3,y4,y5,y6,y7,y8)=> [(0,(.box 43 [.val (.string y2),.ref 2,.ref 3,.ref 4,.val (.string y3),.ref 5])),(1,(.row true 122 afs y4)),(2,(.row false 9 alu y5)),(3,(.row false 9 alu y6)),(4,(.row false 9 alu y7)),(5,(.row false 142 aaY y8))]
def sB:lF→LT lF
 |(y0,y1,y2,y3,y4,y5,y6,y7,y8)=> .need [qu y1,qv y1 y8,qw y1 y8] (.ite (qx y0 y1 y8) (.need [qu y1,qv y1 y8,qw y1 y8,tZ y0,qx y0 y1 y8,ua y0 y1 y8] (.need [ub y0 y1 y8,uc y0 y1 y8,ud y0 y1 y8,ue y0 y1 y8,sP y0 y1 y8,sQ y0 y1 y8,sR y0 y1 y4 y8,sS y0 y1 y4 y8] (.ite (sU y0 y1 y8) (.nrm ((pt y0),y1,y2,y3,sV y0 y1 y4 y8,y5,y6,y7,y8) [(0,0),(1,2048),(2,2),(3,3),(4,4),(5,5)]) (.nrm ((pt y0),y1,y2,y3,y4,y5,y6,y7,y8) [(0,0),(1,1),(2,2),(3,3),(4,4),(5,5)])))) (.ext 0 [(0,0),(1,1),(2,2),(3,3),(4,4),(5,5)]))
def DH(s:St):Option lF:=
 (match s.look 5 with
 |some ⟨none,.one ⟨false,[.val (.int .i64 y0)]⟩⟩=>
 (match s.look 1 with
 |some ⟨none,.one ⟨false,[.ptr 0 0]⟩⟩=>
 (match s.look 4 with
 |some ⟨none,.one ⟨false,[.val (.int .i64 y1)]⟩⟩=>
 (match s.look 3 with
 |some ⟨none,.one ⟨false,[.ref 1]⟩⟩=>
 (match s.ent 0 with
 |some (.box 43 [.val (.string y2),.ref 2,.ref 3,.ref 4,.val (.string y3),.ref 5])=>
 (match s.ent 2 with
 |some (.row false 9 (.str) y5)=>
 (match s.ent 3 with
 |some (.row false 9 (.str) y6)=>
 (match s.ent 4 with
 |some (.row false 9 (.str) y7)=>
 (match s.ent 5 with
 |some (.row false 142 (.pair .str (.sl 122 (.pair (.int .i64) (.pair .str (.int .i64))))) y8)=>
 (match s.ent 1 with
 |some (.row true 122 (.pair (.int .i64) (.pair .str (.int .i64))) y4)=>
 some (y0,y1,y2,y3,y4,y5,y6,y7,y8)
 |_=>none)
 |_=>none)
 |_=>none)
 |_=>none)
 |_=>none)
 |_=>none)
 |_=>none)
 |_=>none)
 |_=>none)
 |_=>none)
def ea:Lp lF where
 h:=⟨[14,15,16,17,18,19,20,21,22,25,26,27,28,29,30,31,32,33,34,35,36,37,38,39,40,41,42,43,44,45,46,47,3,23,24,5],[0,2,3,4,5],[1],[]⟩
 JL:=WF
 JE:=WE
 XL:=WN
 XE:=WM
 q:=fun j=>match j with | _=> .exit 2
 tags:= [0]
 lt:=sB
 fuel:=fun(y0,y1,y2,y3,y4,y5,y6,y7,y8)=>y0.natAbs + y1.natAbs + y2.size + y3.size + y4.length + y5.length + y6.length + y7.length + y8.length
 fix:=fun(_,y1,y2,y3,_,y5,y6,y7,y8) (y0,_,_,_,y4,_,_,_,_)=>(y0,y1,y2,y3,y4,y5,y6,y7,y8)
 σ:= [(0,0),(2,2),(3,3),(4,4),(5,5),(1,1)]
 rd:=DH
theorem Uj:LoopOk prog (memN [7,8,9,10,11,5,14,15,16,17,18,19,20,21,22,25,26,27,28,29,30,31,32,33,34,35,36,37,38,39,40,41,42,43,44,45,46,47,3,23,24,12,13,4]) ea.F (VR (bV f107 0) 0):=by
 refine Lp.ok (tbl:= []) (lf:= []) bG ea (by kernel_rfl) (LOk.nil _) (fun _=>rfl) (fun _ _=>rfl) ?_ ?_ ?_ ?_ (fun _=>rfl) ?_
 ·rintro⟨y0,y1,y2,y3,y4,y5,y6,y7,y8⟩;kernel_rfl
 ·rintro⟨y0,y1,y2,y3,y4,y5,y6,y7,y8⟩;kernel_rfl
 ·intro s x h
  have h:DH s=some x:=h
  unfold DH at h
  repeat' split at h
  all_goals cases h
  constructor<;>repeat(first|refine ab (by assumption) rfl ?_|refine aa rfl (by assumption) rfl ?_|exact rfl)
 ·rintro⟨y0,y1,y2,y3,y4,y5,y6,y7,y8⟩;kernel_rfl
 ·rintro⟨y0,y1,y2,y3,y4,y5,y6,y7,y8⟩ z;exact(And.intro (And.intro rfl rfl) trivial)
abbrev ox:=Int×alV×alV×List (Int×(alV×Int))×List alV×List alV×List alV×List (alV×(List (Int×(alV×Int))))
def xf(y0:Int)(y1 y2:alV)(y3:List (Int×(alV×Int)))(y4 y5 y6:List alV)(y7:List (alV×(List (Int×(alV×Int))))):Int×Int×alV×alV×List (Int×alV×Int)×List alV×List alV×List alV×List (alV×List (Int×alV×Int)):=((0:Int),y0,y1,y2,y3,y4,y5,y6,y7)
def yB(y0:Int)(y7:List (alV×(List (Int×(alV×Int))))):Bool:=ltI y0 (↑y7.length:Int)
def yC(y0:Int)(y1 y2:alV)(y3:List (Int×(alV×Int)))(y4 y5 y6:List alV)(y7:List (alV×(List (Int×(alV×Int))))):Bool:=Lp.fin ea (xf y0 y1 y2 y3 y4 y5 y6 y7)
def yD(y0:Int):Int:=v6 .i64 (y0 + (1:Int))
def yE(y0:Int)(y1 y2:alV)(y3:List (Int×(alV×Int)))(y4 y5 y6:List alV)(y7:List (alV×(List (Int×(alV×Int))))):List (Int×(alV×Int)):=((Lp.res ea (xf y0 y1 y2 y3 y4 y5 y6 y7)).2.2.2.2.2).1
def aaq:ox→List (Nat×SV)
 |(y0,_,_,_,_,_,_,_)=> [(4,(.one ⟨false,[.val (.int .i64 y0)]⟩)),(1,(.one ⟨false,[.ptr 0 0]⟩)),(3,(.one ⟨false,[.ref 1]⟩))]
def aan:ox→List (Nat×Entry)
 |(_,y1,y2,y3,y4,y5,y6,y7)=> [(0,(.box 43 [.val (.string y1),.ref 2,.ref 3,.ref 4,.val (.string y2),.ref 5])),(2,(.row false 9 alu y4)),(3,(.row false 9 alu y5)),(4,(.row false 9 alu y6)),(5,(.row false 142 aaY y7)),(1,(.row true 122 afs y3))]
def aaJ:Nat→ox→List (Nat×SV)
 |_,(_,_,_,_,_,_,_,_)=> [(3,(.one ⟨false,[.ref 1]⟩))]
def aaG:Nat→ox→List (Nat×Entry)
 |_,(_,y1,y2,y3,y4,y5,y6,y7)=> [(0,(.box 43 [.val (.string y1),.ref 2,.ref 3,.ref 4,.val (.string y2),.ref 5])),(1,(.row true 122 afs y3)),(2,(.row false 9 alu y4)),(3,(.row false 9 alu y5)),(4,(.row false 9 alu y6)),(5,(.row false 142 aaY y7))]
def wQ:ox→LT ox
 |(y0,y1,y2,y3,y4,y5,y6,y7)=> .ite (yB y0 y7) (.need [yC y0 y1 y2 y3 y4 y5 y6 y7] (.nrm ((yD y0),y1,y2,yE y0 y1 y2 y3 y4 y5 y6 y7,y4,y5,y6,y7) [(0,0),(1,448),(2,2),(3,3),(4,4),(5,5)])) (.ext 0 [(0,0),(1,1),(2,2),(3,3),(4,4),(5,5)])
def Il(s:St):Option ox:=
 (match s.look 4 with
 |some ⟨none,.one ⟨false,[.val (.int .i64 y0)]⟩⟩=>
 (match s.look 1 with
 |some ⟨none,.one ⟨false,[.ptr 320 0]⟩⟩=>
 (match s.look 3 with
 |some ⟨none,.one ⟨false,[.ref 448]⟩⟩=>
 (match s.ent 320 with
 |some (.box 43 [.val (.string y1),.ref 0,.ref 1,.ref 2,.val (.string y2),.ref 3])=>
 (match s.ent 0 with
 |some (.row false 9 (.str) y4)=>
 (match s.ent 1 with
 |some (.row false 9 (.str) y5)=>
 (match s.ent 2 with
 |some (.row false 9 (.str) y6)=>
 (match s.ent 3 with
 |some (.row false 142 (.pair .str (.sl 122 (.pair (.int .i64) (.pair .str (.int .i64))))) y7)=>
 (match s.ent 448 with
 |some (.row true 122 (.pair (.int .i64) (.pair .str (.int .i64))) y3)=>
 some (y0,y1,y2,y3,y4,y5,y6,y7)
 |_=>none)
 |_=>none)
 |_=>none)
 |_=>none)
 |_=>none)
 |_=>none)
 |_=>none)
 |_=>none)
 |_=>none)
def il:Lp ox where
 h:=⟨[7,8,9,10,11,5,14,15,16,17,18,19,20,21,22,25,26,27,28,29,30,31,32,33,34,35,36,37,38,39,40,41,42,43,44,45,46,47,3,23,24,12,13,4],[0,2,3,4,5],[1],[]⟩
 JL:=aaq
 JE:=aan
 XL:=aaJ
 XE:=aaG
 q:=fun j=>match j with | _=> .exit 0
 tags:= [0]
 lt:=wQ
 fuel:=fun(y0,y1,y2,y3,y4,y5,y6,y7)=>y0.natAbs + y1.size + y2.size + y3.length + y4.length + y5.length + y6.length + y7.length
 fix:=fun(_,y1,y2,_,y4,y5,y6,y7) (y0,_,_,y3,_,_,_,_)=>(y0,y1,y2,y3,y4,y5,y6,y7)
 σ:= [(0,320),(2,0),(3,1),(4,2),(5,3),(1,448)]
 rd:=Il
theorem Yl:LoopOk prog (fun k=>Nat.blt k Tryz.f107.ntmps) il.F (bV f107 0):=by
 refine Lp.ok (tbl:= []) (lf:= [ea.F]) bG il (by kernel_rfl) (LOk.allT (l:= [VR (bV f107 0) 0]) (by kernel_rfl) (.cons Uj (.nil _))) (fun _=>rfl) (fun _ _=>rfl) ?_ ?_ ?_ ?_ (fun _=>rfl) ?_
 ·rintro⟨y0,y1,y2,y3,y4,y5,y6,y7⟩;kernel_rfl
 ·rintro⟨y0,y1,y2,y3,y4,y5,y6,y7⟩;kernel_rfl
 ·intro s x h
  have h:Il s=some x:=h
  unfold Il at h
  repeat' split at h
  all_goals cases h
  constructor<;>repeat(first|refine ab (by assumption) rfl ?_|refine aa rfl (by assumption) rfl ?_|exact rfl)
 ·rintro⟨y0,y1,y2,y3,y4,y5,y6,y7⟩;kernel_rfl
 ·rintro⟨y0,y1,y2,y3,y4,y5,y6,y7⟩ z;exact(And.intro rfl trivial)
section
variable (x0 x1:alV)(x2 x3 x4:List alV)(x5:List (alV×List (Int×alV×Int)))
def NG:Int×alV×alV×List (Int×alV×Int)×List alV×List alV×List alV×List (alV×List (Int×alV×Int)):=((0:Int),x0,x1,[],x2,x3,x4,x5)
def PG:List (Int×(alV×Int)):=((Lp.res il (NG x0 x1 x2 x3 x4 x5)).2.2.2.2).1
def PH:Bool:=allT [Lp.fin il (NG x0 x1 x2 x3 x4 x5)]
end
def Wz:List SV→List Entry→Option Out
 | [.one ⟨true,[.val (.string x0),.ref 0,.ref 1,.ref 2,.val (.string x1),.ref 3]⟩],[.row false 9 (.str) x2,.row false 9 (.str) x3,.row false 9 (.str) x4,.row false 142 (.pair (.str) (.sl 122 (.pair (.int .i64) (.pair (.str) (.int .i64))))) x5]=>some ⟨.one ⟨false,[.ref 4]⟩,[.row false 9 alu x2,.row false 9 alu x3,.row false 9 alu x4,.row false 142 (CTy.pair CTy.str (CTy.sl (122:TypeId) afs)) x5],[.row true 122 afs (PG x0 x1 x2 x3 x4 x5)],[PH x0 x1 x2 x3 x4 x5]⟩
 |_,_=>none
def agP:PF prog:=PF.ofG prog [] [il.F] bG 107 f107 func107 (LOk.fnT (l:= [bV f107 0]) (by kernel_rfl) (.cons Yl (.nil _))) Wz (by
 intro vs es r h;unfold Wz at h;split at h
 ·cases h;kernel_rfl
 ·cases h)
def atZ(l:List Int)(k:Int):Int:=v5 l[v3 k]? 0
def ajz(a b:Int):Int:=bif a==1 then b else 0
def orI(a b:Int):Int:=bif a==1 then 1 else b
def ly(bs:List TM)(x:IN)(stk:List Int):List Int:=stk.drop (stk.length - (tkI bs x).toNat)
def agX(bs:List TM)(x:IN)(stk:List Int):List Int:=stk.take (stk.length - (tkI bs x).toNat)
def Ul(bs:List TM)(inp:List Int)(x:IN)(xs:List Int)(ss:List BS3)(ar:List Int):Int:=bif x.1==1 then x.2 else bif x.1==2 then atZ inp x.2 else bif x.1==3 then atZ xs x.2 else bif x.1==4 then 1 - atZ ar 0 else bif x.1==5 then ajz (atZ ar 0) (atZ ar 1)else bif x.1==6 then orI (atZ ar 0) (atZ ar 1)else bif x.1==7 then anW (ek bs x.2.toNat).1 (ek bs x.2.toNat).2.2 ar (stAt ss x.2.toNat)else 0
def anx(os:List Int)(z:Int):List Int:=bif z==0 then List.replicate os.length 0 else os
def ajW(bs:List TM)(inp:List Int)(x:IN)(stk xs:List Int)(ss:List BS3):List Int:=bif gvI x==1 then agX bs x stk++ [Ul bs inp x xs ss (ly bs x stk)]else agX bs x stk
def anX(bs:List TM)(x:IN)(stk xs:List Int):List Int:=bif x.1==8 then xs.set x.2.toNat (atZ (ly bs x stk) 0)else xs
def anC(bs:List TM)(inp:List Int)(x:IN)(stk xs os:List Int):List Int:=bif x.1==9 then os.set x.2.toNat (atZ (ly bs x stk) 0)else bif x.1==10 then anx os (atZ inp x.2)else bif x.1==11 then anx os (atZ xs x.2)else os
def alD(bs:List TM)(x:IN)(stk:List Int)(ss:List BS3):List BS3:=bif x.1==7 then ss.set x.2.toNat (MW (ek bs x.2.toNat).1 (ek bs x.2.toNat).2.2 (ly bs x stk) (stAt ss x.2.toNat))else ss
theorem abO{i v o:Int}{bs:List TM}{x:IN}(hi:0≤i∧i≤20)(hv:0≤v∧v≤20)(ho:0≤o∧o≤20)(hl:bs.length≤2000)(h:MG i v o bs x=true):
  (x.1=1∧(x.2=0∨x.2=1))∨(x.1=2∧0≤x.2∧x.2 < i)∨(x.1=3∧0≤x.2∧x.2 < v)∨x.1=4∨x.1=5∨x.1=6∨(x.1=7∧0≤x.2∧x.2 < bs.length)∨
  (x.1=8∧0≤x.2∧x.2 < v)∨(x.1=9∧0≤x.2∧x.2 < o)∨(x.1=10∧0≤x.2∧x.2 < i)∨(x.1=11∧0≤x.2∧x.2 < v):=by
 have w1:IntKind.i64.wrap (i - 1)=i - 1:=aJ (by omega) (by omega)
 have w2:IntKind.i64.wrap (v - 1)=v - 1:=aJ (by omega) (by omega)
 have w3:IntKind.i64.wrap (o - 1)=o - 1:=aJ (by omega) (by omega)
 have w4:IntKind.i64.wrap ((bs.length:Int) - 1)=bs.length - 1:=aJ (by omega) (by omega)
 simp only [MG,uj,aX,w1,w2,w3,w4]at h
 by_cases h1:x.1=1
 ·simp [h1,Bool.cond_eq_ite]at h;omega
 by_cases h2:x.1=2
 ·simp [h2,Bool.cond_eq_ite]at h;omega
 by_cases h3:x.1=3
 ·simp [h3,Bool.cond_eq_ite]at h;omega
 by_cases h4:x.1=4
 ·omega
 by_cases h5:x.1=5
 ·omega
 by_cases h6:x.1=6
 ·omega
 by_cases h7:x.1=7
 ·simp [h7,Bool.cond_eq_ite]at h;omega
 by_cases h8:x.1=8
 ·simp [h8,Bool.cond_eq_ite]at h;omega
 by_cases h9:x.1=9
 ·simp [h9,Bool.cond_eq_ite]at h;omega
 by_cases h10:x.1=10
 ·simp [h10,Bool.cond_eq_ite]at h;omega
 by_cases h11:x.1=11
 ·simp [h11,Bool.cond_eq_ite]at h;omega
 simp [h1,h2,h3,h4,h5,h6,h7,h8,h9,h10,h11]at h
theorem Yj{i v o:Int}{bs:List TM}: ∀ (l1 l2:List IN) (n:Int) (acc:List Int),hgt i v o bs (l1++l2) n acc=match hgt i v o bs l1 n acc with | some (m,a)=>hgt i v o bs l2 m a | none=>none
 | [],l2,n,acc=>rfl
 |x::r,l2,n,acc=>by
  simp only [List.cons_append,hgt]
  cases (MG i v o bs x&&(leI (tkI bs x) n&&leI (n - tkI bs x + gvI x) 40))with
  |false=>rfl
  |true=>simp only [cond_true];exact Yj r l2 _ _
theorem apF{i v o:Int}{bs:List TM}{st:List IN}(fl:Ux i v o bs st=true){k:Nat}(hk:k < st.length){n:Int}{L:List Int}(h:hgt i v o bs (st.take k) 0 []=some (n,L)):
  MG i v o bs st[k]=true∧tkI bs st[k]≤n∧n - tkI bs st[k] + gvI st[k]≤40∧hgt i v o bs (st.take (k + 1)) 0 []=some (n - tkI bs st[k] + gvI st[k],L++ [n - tkI bs st[k] + gvI st[k]]):=by
 have hs:st=st.take k++st[k]::st.drop (k + 1):=by rw [List.getElem_cons_drop,List.take_append_drop]
 have h1:=Yj (i:=i) (v:=v) (o:=o) (bs:=bs) (st.take k) (st[k]::st.drop (k + 1)) 0 []
 rw [← hs,h]at h1
 simp only [hgt]at h1
 cases hc:(MG i v o bs st[k]&&(leI (tkI bs st[k]) n&&leI (n - tkI bs st[k] + gvI st[k]) 40))with
 |false=>
  rw [hc]at h1
  simp only [Ux,h1,cond_false]at fl
  cases fl
 |true=>
  have h2:=Yj (i:=i) (v:=v) (o:=o) (bs:=bs) (st.take k) [st[k]] 0 []
  rw [h]at h2
  simp only [hgt,hc,cond_true]at h2
  simp only [w5,AE]at hc
  refine⟨hc.1,hc.2.1,hc.2.2,?_⟩
  rw [← h2,List.take_succ_eq_append_getElem hk]
theorem ah1{i v o:Int}{bs:List TM}: ∀ (l:List IN) (n:Int) (acc:List Int) (m:Int) (L:List Int),0≤n∧n≤40→hgt i v o bs l n acc=some (m,L)→0≤m∧m≤40
 | [],n,acc,m,L,hn,h=>by simp only [hgt,q9,Prod.mk.injEq]at h;omega
 |x::r,n,acc,m,L,hn,h=>by
  simp only [hgt]at h
  have hg:=adZ x
  cases hc:(MG i v o bs x&&(leI (tkI bs x) n&&leI (n - tkI bs x + gvI x) 40))with
  |false=>rw [hc]at h;cases h
  |true=>
   rw [hc,cond_true]at h
   simp only [w5,AE]at hc
   exact ah1 r _ _ m L (by omega) h
theorem aod{i v o:Int}{bs:List TM}: ∀ (l:List IN) (n:Int) (acc:List Int) (m:Int) (L:List Int),hgt i v o bs l n acc=some (m,L)→ ∃ r,L=acc++r
 | [],n,acc,m,L,h=>by simp only [hgt,q9,Prod.mk.injEq]at h;exact⟨[],by rw [List.append_nil];exact h.2.symm⟩
 |x::r,n,acc,m,L,h=>by
  simp only [hgt]at h
  cases hc:(MG i v o bs x&&(leI (tkI bs x) n&&leI (n - tkI bs x + gvI x) 40))with
  |false=>rw [hc]at h;cases h
  |true=>
   rw [hc,cond_true]at h
   obtain⟨q,hq⟩:=aod r _ _ m L h
   exact⟨(n - tkI bs x + gvI x)::q,by rw [hq,List.append_assoc];rfl⟩
theorem akV{i v o:Int}{bs:List TM}{st:List IN}(fl:Ux i v o bs st=true): ∀ (k:Nat),k≤st.length→
  ∃ n L,hgt i v o bs (st.take k) 0 []=some (n,L)∧(0≤n∧n≤40)∧(k=0→n=0)∧(0 < k→atZ (aaZ i v o bs st) ((k:Int) - 1)=n)
 |0,_=>⟨0,[],by simp [hgt],by omega,fun _=>rfl,fun h=>by omega⟩
 |k + 1,hk=>by
  obtain⟨n,L,h1,h2,_,_⟩:=akV fl k (by omega)
  obtain⟨g1,g2,g3,g4⟩:=apF fl (k:=k) (by omega) h1
  refine⟨_,_,g4,ah1 _ _ _ _ _ (by omega) g4,fun h=>by omega,fun _=> ?_⟩
  have hs:st=st.take (k + 1)++st.drop (k + 1):=(List.take_append_drop ..).symm
  have hw:=Yj (i:=i) (v:=v) (o:=o) (bs:=bs) (st.take (k + 1)) (st.drop (k + 1)) 0 []
  rw [← hs,g4]at hw
  simp only at hw
  unfold aaZ
  cases hh:hgt i v o bs st 0 []with
  |none=>
   simp only [Ux,hh]at fl
   cases fl
  |some r=>
   obtain⟨m,out⟩:=r
   rw [hh]at hw
   obtain⟨q,hq⟩:=aod _ _ _ _ _ hw.symm
   have hl:=akW _ _ _ _ _ h1
   rw [w9,List.length_nil]at hl
   simp only [atZ]
   have hi:(((k + 1:Nat):Int) - 1).toNat=L.length:=by omega
   rw [hi,hq,List.append_assoc,List.getElem?_append_right (Nat.le_refl _),Nat.sub_self]
   rfl
structure OkM (i v o:Int) (bs:List TM) (st:List IN) (k:Int) (stk xs os:List Int) (ss:List BS3):Prop where
 lo:0≤k
 hi:k≤st.length
 hg: ∃ L,hgt i v o bs (st.take k.toNat) 0 []=some ((stk.length:Int),L)
 bt: ∀ z∈stk,z=0∨z=1
 vl:bitsB v xs=true
 ou:bitsB o os=true
 sl:ss.length=bs.length
 sp: ∀ k,k < bs.length→possAt bs ss k=true
theorem EQ{l:List Int}(h: ∀ z∈l,z=0∨z=1)(k:Int):atZ l k=0∨atZ l k=1:=by
 unfold atZ
 cases hk:l[k.toNat]? with
 |none=>exact .inl rfl
 |some z=>exact h z (List.mem_of_getElem? hk)
theorem afi{n:Int}{l:List Int}(h:bitsB n l=true)(k:Nat){z:Int}(hz:z=0∨z=1):bitsB n (l.set k z)=true:=by
 obtain⟨h1,h2⟩:=cO.1 h
 refine cO.2 ⟨fun y hy=> ?_,by rw [List.length_set];exact h2⟩
 rcases List.mem_or_eq_of_mem_set hy with hy | rfl
 ·exact h1 y hy
 ·exact hz
theorem alB{n:Int}{l:List Int}(h:bitsB n l=true)(z:Int):bitsB n (anx l z)=true:=by
 unfold anx
 cases z==0 with
 |false=>exact h
 |true=>
  refine cO.2 ⟨fun y hy=> .inl (v7 hy),?_⟩
  simp only [cond_true,List.length_replicate]
  exact(cO.1 h).2
theorem aoB{k n a b c:Int}{s:alV}{l:List Int}(hB:vM k s n=true)(hP:possB k n a b c=true)(hA:bitsB (takesK k) l=true):dZ k n a b c l=0∨dZ k n a b c l=1:=by
 obtain⟨hk,hn,_⟩:=XZ hB
 have hb:=(abu hP hn).2.1
 have hc:=(abu hP hn).2.2
 have hp:=hP
 rcases kinds hk with rfl | rfl | rfl | rfl | rfl | rfl
 ·obtain⟨x,rfl,hx⟩:=WP hA
  rcases hx with rfl | rfl <;> simp only [cC,gQ,ki,eU,kj,kk,km,kn,jb,dZ,fK,fL,fM,iq,gc,gP,ja,kg,kh,lO,lP,lQ,lR,gY] <;> simp [Bool.cond_eq_ite] <;> (repeat' split) <;> omega
 ·obtain⟨x,rfl,hx⟩:=WP hA
  rcases hx with rfl | rfl <;> simp only [cC,gQ,ki,eU,kj,kk,km,kn,jb,dZ,fK,fL,fM,iq,gc,gP,ja,kg,kh,lO,lP,lQ,lR,gY] <;> simp [Bool.cond_eq_ite] <;> (repeat' split) <;> omega
 ·obtain⟨x,rfl,hx⟩:=WP hA
  simp [possB,cQ,aX]at hp
  rcases hx with rfl | rfl <;> simp only [cC,gQ,ki,eU,kj,kk,km,kn,jb,dZ,fK,fL,fM,iq,gc,gP,ja,kg,kh,lO,lP,lQ,lR,gY] <;> simp [Bool.cond_eq_ite] <;> (repeat' split) <;> omega
 ·obtain⟨x,y,rfl,hx,hy⟩:=WQ hA
  simp [possB,cQ,aX]at hp
  rcases hx with rfl | rfl <;> rcases hy with rfl | rfl <;> simp only [cC,gQ,ki,eU,kj,kk,km,kn,jb,dZ,fK,fL,fM,iq,gc,gP,ja,kg,kh,lO,lP,lQ,lR,gY] <;> simp [Bool.cond_eq_ite] <;> (repeat' split) <;> omega
 ·obtain⟨x,y,rfl,hx,hy⟩:=WQ hA
  rcases hb with rfl | rfl <;> rcases hc with rfl | rfl <;> rcases hx with rfl | rfl <;> rcases hy with rfl | rfl <;> simp only [cC,gQ,ki,eU,kj,kk,km,kn,jb,dZ,fK,fL,fM,iq,gc,gP,ja,kg,kh,lO,lP,lQ,lR,gY] <;> simp [Bool.cond_eq_ite] <;> (repeat' split) <;> omega
 ·obtain⟨x,y,rfl,hx,hy⟩:=WQ hA
  rcases hb with rfl | rfl <;> rcases hc with rfl | rfl <;> rcases hx with rfl | rfl <;> rcases hy with rfl | rfl <;> simp only [cC,gQ,ki,eU,kj,kk,km,kn,jb,dZ,fK,fL,fM,iq,gc,gP,ja,kg,kh,lO,lP,lQ,lR,gY] <;> simp [Bool.cond_eq_ite] <;> (repeat' split) <;> omega
theorem aph{bs:List TM}{x:IN}{stk:List Int}(hb: ∀ z∈stk,z=0∨z=1)(ht:tkI bs x≤stk.length):bitsB (tkI bs x) (ly bs x stk)=true:=by
 have h0:=(Wp bs x).1
 refine cO.2 ⟨fun z hz=>hb z (List.mem_of_mem_drop hz),?_⟩
 simp only [ly,List.length_drop]
 omega
theorem abW{bs:List TM}{x:IN}{stk:List Int}(ht:tkI bs x≤stk.length):((agX bs x stk).length:Int)=stk.length - tkI bs x:=by
 have h0:=(Wp bs x).1
 simp only [agX,w9]
 omega
theorem alo{i v o:Int}{bs:List TM}{st:List IN}{inp:List Int}{k:Int}{stk xs os:List Int}{ss:List BS3}(hC:eR i v o bs st=true)(tu:bitsB i inp=true)
  (h:OkM i v o bs st k stk xs os ss) (eQ:k < st.length) {x:IN} (hx:st[k.toNat]? =some x):
  MG i v o bs x=true∧tkI bs x≤stk.length∧bitsB (tkI bs x) (ly bs x stk)=true∧(Ul bs inp x xs ss (ly bs x stk)=0∨Ul bs inp x xs ss (ly bs x stk)=1)∧stk.length≤40∧
  OkM i v o bs st (k + 1) (ajW bs inp x stk xs ss) (anX bs x stk xs) (anC bs inp x stk xs os) (alD bs x stk ss):=by
 simp only [eR,w5]at hC
 obtain⟨hr,hB,fl⟩:=hC
 obtain⟨ri,rv,ro,rb,rs⟩:=FL.1 hr
 have h0:=h.lo
 have hk:k.toNat < st.length:=by omega
 have hxe:st[k.toNat]=x:=by rw [List.getElem?_eq_getElem hk]at hx;exact Option.some.inj hx
 obtain⟨L,hL⟩:=h.hg
 obtain⟨g1,g2,g3,g4⟩:=apF fl hk hL
 rw [hxe]at g1 g2 g3 g4
 have hab:=aph h.bt g2
 have hrl:=abW g2
 have t2:=Wp bs x
 have v2:=adZ x
 have hvb:=(cO.1 h.vl).1
 have hob:=(cO.1 h.ou).1
 have hib:=(cO.1 tu).1
 have hargb:=(cO.1 hab).1
 have ha0:=EQ hargb 0
 have ha1:=EQ hargb 1
 have hblk:x.1=7→0≤x.2∧x.2 < bs.length→dZ (ek bs x.2.toNat).1 (ek bs x.2.toNat).2.2 (stAt ss x.2.toNat).1 (stAt ss x.2.toNat).2.1 (stAt ss x.2.toNat).2.2 (ly bs x stk)=0∨dZ (ek bs x.2.toNat).1 (ek bs x.2.toNat).2.2 (stAt ss x.2.toNat).1 (stAt ss x.2.toNat).2.1 (stAt ss x.2.toNat).2.2 (ly bs x stk)=1:=fun h7 hr7=>by
  have hlt7:x.2.toNat < bs.length:=by omega
  have hg7:ek bs x.2.toNat=bs[x.2.toNat]:=by simp only [ek,List.getElem?_eq_getElem hlt7];rfl
  have hB7:vM (ek bs x.2.toNat).1 (ek bs x.2.toNat).2.1 (ek bs x.2.toNat).2.2=true:=by rw [hg7];exact List.all_eq_true.1 hB _ (List.getElem_mem hlt7)
  have WT:tkI bs x=takesK (ek bs x.2.toNat).1:=by simp [tkI,eG,lC,lD,qD,h7,takesK,ek]
  exact aoB hB7 (h.sp _ hlt7) (by rw [← WT];exact hab)
 have hnx:x.1=7→0≤x.2∧x.2 < bs.length→possB (ek bs x.2.toNat).1 (ek bs x.2.toNat).2.2 (MW (ek bs x.2.toNat).1 (ek bs x.2.toNat).2.2 (ly bs x stk) (stAt ss x.2.toNat)).1 (MW (ek bs x.2.toNat).1 (ek bs x.2.toNat).2.2 (ly bs x stk) (stAt ss x.2.toNat)).2.1 (MW (ek bs x.2.toNat).1 (ek bs x.2.toNat).2.2 (ly bs x stk) (stAt ss x.2.toNat)).2.2=true:=fun h7 hr7=>by
  have hlt7:x.2.toNat < bs.length:=by omega
  have hg7:ek bs x.2.toNat=bs[x.2.toNat]:=by simp only [ek,List.getElem?_eq_getElem hlt7];rfl
  have hB7:vM (ek bs x.2.toNat).1 (ek bs x.2.toNat).2.1 (ek bs x.2.toNat).2.2=true:=by rw [hg7];exact List.all_eq_true.1 hB _ (List.getElem_mem hlt7)
  have WT:tkI bs x=takesK (ek bs x.2.toNat).1:=by simp [tkI,eG,lC,lD,qD,h7,takesK,ek]
  exact(amd hB7 (h.sp _ hlt7) (by rw [← WT];exact hab)).2
 have hval:Ul bs inp x xs ss (ly bs x stk)=0∨Ul bs inp x xs ss (ly bs x stk)=1:=by
  rcases abO ri rv ro rb g1 with⟨e,q⟩ | ⟨e,q⟩ | ⟨e,q⟩ | e | e | e | ⟨e,q⟩ | ⟨e,q⟩ | ⟨e,q⟩ | ⟨e,q⟩ | ⟨e,q⟩
  ·simp only [Ul,e];exact q
  ·simp only [Ul,e];exact EQ hib _
  ·simp only [Ul,e];exact EQ hvb _
  ·simp only [Ul,e]
   show 1 - atZ (ly bs x stk) 0=0∨1 - atZ (ly bs x stk) 0=1
   omega
  ·simp only [Ul,e]
   show ajz (atZ (ly bs x stk) 0) (atZ (ly bs x stk) 1)=0∨ajz (atZ (ly bs x stk) 0) (atZ (ly bs x stk) 1)=1
   rcases ha0 with q | q <;> rw [q]
   ·exact .inl rfl
   ·exact ha1
  ·simp only [Ul,e]
   show orI (atZ (ly bs x stk) 0) (atZ (ly bs x stk) 1)=0∨orI (atZ (ly bs x stk) 0) (atZ (ly bs x stk) 1)=1
   rcases ha0 with q | q <;> rw [q]
   ·exact ha1
   ·exact .inr rfl
  ·have:=hblk e q
   simp only [Ul,e]
   exact this
  all_goals (simp only [Ul,e];exact .inl rfl)
 refine⟨g1,g2,hab,hval,?_,⟨by omega,by omega,?_,?_,?_,?_,?_,?_⟩⟩
 ·have:=ah1 _ _ _ _ _ (by omega) hL
  omega
 ·refine⟨L++ [stk.length - tkI bs x + gvI x],?_⟩
  have hs:(k + 1).toNat=k.toNat + 1:=by omega
  rw [hs,g4]
  have:((ajW bs inp x stk xs ss).length:Int)=stk.length - tkI bs x + gvI x:=by
   unfold ajW
   by_cases hgv:gvI x=1
   ·simp only [hgv,beq_self_eq_true,cond_true,List.length_append,w8];omega
   ·have h1:(gvI x==1)=false:=by simpa using hgv
    rw [h1,cond_false];omega
  rw [this]
 ·intro z hz
  unfold ajW at hz
  have hr: ∀ z∈agX bs x stk,z=0∨z=1:=fun z hz=>h.bt z (List.mem_of_mem_take hz)
  cases hgv:(gvI x==1)with
  |false=>rw [hgv]at hz;exact hr z hz
  |true=>
   rw [hgv,cond_true]at hz
   rcases List.mem_append.1 hz with hz | hz
   ·exact hr z hz
   ·rw [v8.1 hz];exact hval
 ·unfold anX
  cases x.1==8 with
  |false=>exact h.vl
  |true=>exact afi h.vl _ ha0
 ·unfold anC
  cases x.1==9 with
  |true=>exact afi h.ou _ ha0
  |false=>
   cases x.1==10 with
   |true=>exact alB h.ou _
   |false=>
    cases x.1==11 with
    |true=>exact alB h.ou _
    |false=>exact h.ou
 ·unfold alD
  cases x.1==7 with
  |false=>exact h.sl
  |true=>simp only [cond_true,List.length_set];exact h.sl
 ·intro k2 hk2
  unfold alD
  cases h7:x.1==7 with
  |false=>exact h.sp k2 hk2
  |true=>
   simp only [cond_true]
   have h7:x.1=7:=by simpa using h7
   have hq:0≤x.2∧x.2 < bs.length:=by
    rcases abO ri rv ro rb g1 with⟨e,q⟩ | ⟨e,q⟩ | ⟨e,q⟩ | e | e | e | ⟨e,q⟩ | ⟨e,q⟩ | ⟨e,q⟩ | ⟨e,q⟩ | ⟨e,q⟩ <;> first | exact q | omega
   by_cases he:k2=x.2.toNat
   ·subst he
    have:=hnx h7 hq
    have hl:x.2.toNat < ss.length:=by rw [h.sl];omega
    unfold possAt
    have hs:stAt (ss.set x.2.toNat (MW (ek bs x.2.toNat).1 (ek bs x.2.toNat).2.2 (ly bs x stk) (stAt ss x.2.toNat))) x.2.toNat=MW (ek bs x.2.toNat).1 (ek bs x.2.toNat).2.2 (ly bs x stk) (stAt ss x.2.toNat):=by
     simp only [stAt,List.getElem?_set_self hl,Option.getD_some]
    rw [hs];exact this
   ·have hs: ∀ y,stAt (ss.set x.2.toNat y) k2=stAt ss k2:=fun y=>by
     simp only [stAt,List.getElem?_set_ne (Ne.symm he)]
    unfold possAt
    rw [hs];exact h.sp k2 hk2
abbrev LN:=alV×List TM
def ES(l:List alV)(s:alV):Bool:=l.any fun k=>k.toList==s.toList
def Xl(l:List alV)(s:alV):Nat:=(l.takeWhile fun k=> !(k.toList==s.toList)).length
def uT(l:List alV)(s:alV):Int:=bif ES l s then(Xl l s:Int)else -1
theorem afL{s:alV}: ∀ {l:List alV},ES l s=true→Xl l s < l.length
 | [],h=>by cases h
 |a::r,h=>by
  simp only [ES,List.any_cons]at h
  simp only [Xl,List.takeWhile_cons]
  cases ha:a.toList==s.toList with
  |true=>simp
  |false=>
   rw [ha,Bool.false_or]at h
   have:=afL (l:=r) h
   simp only [Xl]at this
   simp only [Bool.not_false,if_true,List.length_cons]
   omega
def htT:List TM→Int→Option Int
 | [],n=>some n
 |t::r,n=>bif termB t.1 t.2.1 t.2.2&&leI (takesK t.1) n then htT r (n - takesK t.1 + 1)else none
def aiw(ts:List TM):Bool:=leN ts.length 40&&(match htT ts 0 with | some n=>n==1 | none=>false)
def lineB(x:LN):Bool:=uK x.1&&aiw x.2
def aiW(l:List alV)(lo:Nat):Bool:=l.all uK&&inR (l.length:Int) lo 20
def amJ(nm:alV)(ins vs os:List alV)(g:alV)(ls:List LN):Bool:=uK nm&&(aiW ins 1&&(aiW vs 0&&(aiW os 1&&((g.toList== []||uK g)&&(ls.all lineB&&inR (ls.length:Int) 1 40)))))
def JY(l:List alV):Bool:=(List.range l.length).any fun i=>ES (l.take i) (v5 l[i]? ⟨#[]⟩)
def ac9(ins vs:List alV)(s:alV):Bool:=ES ins s||ES vs s
def usedB(ins vs:List alV)(t:TM):Bool:= !(t.1==1)||ac9 ins vs t.2.1
def aqM(ins vs os:List alV)(g:alV)(ls:List LN):Bool:= !JY (ins++vs++os)&&((g.toList== []||ac9 ins vs g)&&(ls.all (fun l=>ES vs l.1||ES os l.1)&&(!JY (ls.map Prod.fst)&&(leN (vs.length + os.length) ls.length&&ls.all fun l=>l.2.all (usedB ins vs)))))
def nmV(ins vs:List alV)(inp xs:List Int)(s:alV):Int:=bif ES ins s then atZ inp (Xl ins s)else atZ xs (Xl vs s)
def tmV(ins vs:List alV)(inp xs:List Int)(t:TM)(ar:List Int)(b:BS3):Int:=bif t.1==1 then nmV ins vs inp xs t.2.1 else bif t.1==2 then 1 else bif t.1==3 then 0 else bif t.1==4 then 1 - atZ ar 0 else bif t.1==5 then ajz (atZ ar 0) (atZ ar 1)else bif t.1==6 then orI (atZ ar 0) (atZ ar 1)else anW t.1 t.2.2 ar b
def ltk(t:TM)(stk:List Int):Nat:=stk.length - (takesK t.1).toNat
abbrev LS:=List Int×List BS3×Nat
def lnS(ins vs:List alV)(inp xs:List Int)(t:TM)(a:LS):LS:=(a.1.take (ltk t a.1)++ [tmV ins vs inp xs t (a.1.drop (ltk t a.1)) (stAt a.2.1 a.2.2)],bif leI 7 t.1 then a.2.1.set a.2.2 (MW t.1 t.2.2 (a.1.drop (ltk t a.1)) (stAt a.2.1 a.2.2))else a.2.1,bif leI 7 t.1 then a.2.2 + 1 else a.2.2)
def aiL(ins vs:List alV)(inp xs:List Int):List TM→LS→LS
 | [],a=>a
 |t::r,a=>aiL ins vs inp xs r (lnS ins vs inp xs t a)
theorem Sb(k:Int):0≤takesK k∧takesK k≤2:=by
 simp only [takesK,ec]
 refine⟨?_,?_⟩ <;> simp only [Bool.cond_eq_ite] <;> (repeat' split) <;> decide
structure LnOk (bl:List TM) (n:Int) (k:Nat) (a:LS):Prop where
 hb: ∀ z∈a.1,z=0∨z=1
 hl:(a.1.length:Int)=n
 sl:a.2.1.length=bl.length
 sp: ∀ j,j < bl.length→possAt bl a.2.1 j=true
 hk:a.2.2=k
theorem apS{ins vs:List alV}{inp xs:List Int}(hi:bitsB ins.length inp=true)(hx:bitsB vs.length xs=true)(s:alV):nmV ins vs inp xs s=0∨nmV ins vs inp xs s=1:=by
 simp only [nmV]
 cases ES ins s with
 |true=>exact EQ (cO.1 hi).1 _
 |false=>exact EQ (cO.1 hx).1 _
theorem apf{a b:Int}(hb:b=0∨b=1):ajz a b=0∨ajz a b=1:=by simp only [ajz];cases a==1 <;> simp [hb]
theorem aqC{a b:Int}(hb:b=0∨b=1):orI a b=0∨orI a b=1:=by simp only [orI];cases a==1 <;> simp [hb]
theorem apT{a:Int}(ha:a=0∨a=1):1 - a=0∨1 - a=1:=by rcases ha with rfl | rfl <;> simp
theorem aj6{t:TM}{stk:List Int}(hb: ∀ z∈stk,z=0∨z=1)(ht:takesK t.1≤stk.length):bitsB (takesK t.1) (stk.drop (ltk t stk))=true:=by
 have h0:=(Sb t.1).1
 refine cO.2 ⟨fun z hz=>hb z (List.mem_of_mem_drop hz),?_⟩
 simp only [ltk,List.length_drop]
 omega
theorem Yv{t:TM}(hT:termB t.1 t.2.1 t.2.2=true)(h7:leI 7 t.1=true):vM t.1 t.2.1 t.2.2=true:=by simp only [vM,hT,h7];rfl
theorem akz{t:TM}(hT:termB t.1 t.2.1 t.2.2=true):1≤t.1∧t.1≤12:=by
 simp only [termB,w5,tE]at hT;exact hT.1
theorem arI{ins vs:List alV}{inp xs:List Int}{bl:List TM}{n:Int}{k:Nat}{a:LS}{t:TM}(hi:bitsB ins.length inp=true)(hx:bitsB vs.length xs=true)
  (hT:termB t.1 t.2.1 t.2.2=true) (ht:takesK t.1≤n) (hblk:leI 7 t.1=true→k < bl.length∧ek bl k=t) (h:LnOk bl n k a):
  (tmV ins vs inp xs t (a.1.drop (ltk t a.1)) (stAt a.2.1 a.2.2)=0∨tmV ins vs inp xs t (a.1.drop (ltk t a.1)) (stAt a.2.1 a.2.2)=1)∧
  LnOk bl (n - takesK t.1 + 1) (bif leI 7 t.1 then k + 1 else k) (lnS ins vs inp xs t a):=by
 have hl:=h.hl
 have hdb:=aj6 (t:=t) h.hb (by omega)
 have hd:=(cO.1 hdb).1
 have d0:=EQ hd 0
 have d1:=EQ hd 1
 have h0:=Sb t.1
 have hv:leI 7 t.1=true→(tmV ins vs inp xs t (a.1.drop (ltk t a.1)) (stAt a.2.1 a.2.2)=anW t.1 t.2.2 (a.1.drop (ltk t a.1)) (stAt a.2.1 a.2.2)):=by
  intro h7
  have h7:=AE.1 h7
  simp only [tmV]
  rw [show (t.1==1)=false by simp;omega,show (t.1==2)=false by simp;omega,show (t.1==3)=false by simp;omega,show (t.1==4)=false by simp;omega,show (t.1==5)=false by simp;omega,show (t.1==6)=false by simp;omega]
  rfl
 have hvb:tmV ins vs inp xs t (a.1.drop (ltk t a.1)) (stAt a.2.1 a.2.2)=0∨tmV ins vs inp xs t (a.1.drop (ltk t a.1)) (stAt a.2.1 a.2.2)=1:=by
  cases h7:leI 7 t.1 with
  |true=>
   obtain⟨hk,hbt⟩:=hblk h7
   rw [hv h7]
   have hp:=h.sp k hk
   simp only [possAt,hbt]at hp
   rw [h.hk]
   exact aoB (Yv hT h7) hp hdb
  |false=>
   have hkk:=akz hT
   have h7': ¬ (7≤t.1):=fun hc=>by rw [bu hc]at h7;cases h7
   have hc:t.1=1∨t.1=2∨t.1=3∨t.1=4∨t.1=5∨t.1=6:=by omega
   rcases hc with e | e | e | e | e | e <;> simp only [tmV,e] <;> simp
   ·exact apS hi hx _
   ·exact apT d0
   ·exact apf d1
   ·exact aqC d1
 refine⟨hvb,⟨?_,?_,?_,?_,?_⟩⟩
 ·intro z hz
  simp only [lnS,List.mem_append,v8]at hz
  rcases hz with hz | rfl
  ·exact h.hb z (List.mem_of_mem_take hz)
  ·exact hvb
 ·simp only [lnS,List.length_append,w9,w8,ltk]
  omega
 ·simp only [lnS]
  cases leI 7 t.1 with
  |true=>simp only [cond_true,List.length_set];exact h.sl
  |false=>exact h.sl
 ·intro j hj
  simp only [lnS]
  cases h7:leI 7 t.1 with
  |false=>exact h.sp j hj
  |true=>
   obtain⟨hk,hbt⟩:=hblk h7
   simp only [cond_true]
   rw [h.hk]
   by_cases hjk:j=k
   ·subst hjk
    have hp:=h.sp j hj
    simp only [possAt,hbt]at hp ⊢
    have hs:stAt (a.2.1.set j (MW t.1 t.2.2 (a.1.drop (ltk t a.1)) (stAt a.2.1 j))) j=MW t.1 t.2.2 (a.1.drop (ltk t a.1)) (stAt a.2.1 j):=by
     simp only [stAt]
     rw [List.getElem?_set_self (by rw [h.sl];exact hj)];rfl
    rw [hs]
    exact(amd (Yv hT h7) hp hdb).2
   ·have hs:stAt (a.2.1.set k (MW t.1 t.2.2 (a.1.drop (ltk t a.1)) (stAt a.2.1 k))) j=stAt a.2.1 j:=by
     simp only [stAt]
     rw [List.getElem?_set_ne (fun h=>hjk h.symm)]
    simp only [possAt,hs]
    exact h.sp j hj
 ·simp only [lnS]
  rw [h.hk]
def blT(ts:List TM):List TM:=ts.filter fun t=>leI 7 t.1
def blL(ls:List LN):List TM:=ls.flatMap fun l=>blT l.2
theorem ad1: ∀ (l1 l2:List TM) (n:Int),htT (l1++l2) n=match htT l1 n with | some m=>htT l2 m | none=>none
 | [],l2,n=>rfl
 |t::r,l2,n=>by
  simp only [List.cons_append,htT]
  cases (termB t.1 t.2.1 t.2.2&&leI (takesK t.1) n)with
  |false=>rfl
  |true=>simp only [cond_true];exact ad1 r l2 _
theorem aof: ∀ (l:List TM) (n m:Int),0≤n→htT l n=some m→0≤m∧m≤n + l.length
 | [],n,m,hn,h=>by simp only [htT,q9]at h;simp;omega
 |t::r,n,m,hn,h=>by
  simp only [htT]at h
  have hg:=Sb t.1
  cases hc:(termB t.1 t.2.1 t.2.2&&leI (takesK t.1) n)with
  |false=>rw [hc]at h;cases h
  |true=>
   rw [hc,cond_true]at h
   simp only [w5,AE]at hc
   have:=aof r _ m (by omega) h
   simp only [List.length_cons]
   omega
theorem arf{ts:List TM}{e:Int}(fl:htT ts 0=some e){i:Nat}{t:TM}(ht:ts[i]? =some t):
  ∃ n,htT (ts.take i) 0=some n∧(0≤n∧n≤i)∧termB t.1 t.2.1 t.2.2=true∧takesK t.1≤n∧htT (ts.take (i + 1)) 0=some (n - takesK t.1 + 1):=by
 obtain⟨hi,rfl⟩:=j9.1 ht
 have hs:ts=ts.take i++ts[i]::ts.drop (i + 1):=by rw [List.getElem_cons_drop,List.take_append_drop]
 have h1:=ad1 (ts.take i) (ts[i]::ts.drop (i + 1)) 0
 rw [← hs,fl]at h1
 cases hp:htT (ts.take i) 0 with
 |none=>rw [hp]at h1;cases h1
 |some n=>
  rw [hp]at h1
  simp only [htT]at h1
  cases hc:(termB ts[i].1 ts[i].2.1 ts[i].2.2&&leI (takesK ts[i].1) n)with
  |false=>rw [hc]at h1;cases h1
  |true=>
   have h2:=ad1 (ts.take i) [ts[i]] 0
   rw [hp]at h2
   simp only [htT,hc,cond_true]at h2
   simp only [w5,AE]at hc
   have hb:=aof _ _ _ (Int.le_refl 0) hp
   rw [w9]at hb
   exact⟨n,rfl,by omega,hc.1,hc.2,by rw [← h2,List.take_succ_eq_append_getElem hi]⟩
theorem ahp{ins vs:List alV}{inp xs:List Int}: ∀ (l1 l2:List TM) (a:LS),aiL ins vs inp xs (l1++l2) a=aiL ins vs inp xs l2 (aiL ins vs inp xs l1 a)
 | [],l2,a=>rfl
 |t::r,l2,a=>ahp r l2 _
theorem XY(a b:List TM):blT (a++b)=blT a++blT b:=List.filter_append ..
theorem aim(a b:List LN):blL (a++b)=blL a++blL b:=List.flatMap_append
theorem amX{pre post ts:List TM}{i:Nat}{t:TM}(ht:ts[i]? =some t)(h7:leI 7 t.1=true):
  pre.length + (blT (ts.take i)).length < (pre++blT ts++post).length∧ek (pre++blT ts++post) (pre.length + (blT (ts.take i)).length)=t∧(blT (ts.take (i + 1))).length=(blT (ts.take i)).length + 1:=by
 obtain⟨hi,rfl⟩:=j9.1 ht
 have hs:ts=ts.take i++ts[i]::ts.drop (i + 1):=by rw [List.getElem_cons_drop,List.take_append_drop]
 have hb:blT ts=blT (ts.take i)++ts[i]::blT (ts.drop (i + 1)):=by
  conv=>lhs;rw [hs,XY]
  congr 1
  simp only [blT,List.filter_cons,h7,if_true]
 have hb2:blT (ts.take (i + 1))=blT (ts.take i)++ [ts[i]]:=by
  rw [List.take_succ_eq_append_getElem hi,XY]
  congr 1
  simp only [blT,List.filter_cons,h7,if_true,List.filter_nil]
 refine⟨?_,?_,by rw [hb2];simp⟩
 ·rw [hb];simp
 ·simp only [ek]
  rw [List.append_assoc,List.getElem?_append_right (by omega),Nat.add_sub_cancel_left,hb,List.append_assoc,List.getElem?_append_right (by omega),Nat.sub_self]
  rfl
theorem aqi{ts:List TM}{i:Nat}{t:TM}(ht:ts[i]? =some t)(h7:leI 7 t.1=false):(blT (ts.take (i + 1))).length=(blT (ts.take i)).length:=by
 obtain⟨hi,rfl⟩:=j9.1 ht
 rw [List.take_succ_eq_append_getElem hi,XY]
 simp [blT,List.filter_cons,h7]
def akB(pre post ts:List TM)(i:Nat)(a:LS):Prop:= ∃ n,htT (ts.take i) 0=some n∧LnOk (pre++blT ts++post) n (pre.length + (blT (ts.take i)).length) a
theorem aki{ins vs:List alV}{inp xs:List Int}{pre post ts:List TM}{e:Int}{i:Nat}{a:LS}{t:TM}(hi:bitsB ins.length inp=true)(hx:bitsB vs.length xs=true)
  (fl:htT ts 0=some e) (ht:ts[i]? =some t) (h:akB pre post ts i a):
  (0≤takesK t.1∧takesK t.1≤a.1.length)∧a.1.length≤i∧termB t.1 t.2.1 t.2.2=true∧bitsB (takesK t.1) (a.1.drop (ltk t a.1))=true∧a.2.1.length=(pre++blT ts++post).length∧
  (leI 7 t.1=true→a.2.2 < (pre++blT ts++post).length∧possB t.1 t.2.2 (stAt a.2.1 a.2.2).1 (stAt a.2.1 a.2.2).2.1 (stAt a.2.1 a.2.2).2.2=true)∧
  a.2.2≤(pre++blT ts++post).length∧(∀ z∈a.1,z=0∨z=1)∧
  akB pre post ts (i + 1) (lnS ins vs inp xs t a):=by
 obtain⟨n,h1,h2⟩:=h
 obtain⟨n',g1,g2,g3,g4,g5⟩:=arf fl ht
 rw [h1]at g1;cases g1
 have hl:=h2.hl
 have h0:=Sb t.1
 have hblk:leI 7 t.1=true→pre.length + (blT (ts.take i)).length < (pre++blT ts++post).length∧ek (pre++blT ts++post) (pre.length + (blT (ts.take i)).length)=t:=
  fun h7=>⟨(amX ht h7).1,(amX ht h7).2.1⟩
 obtain⟨_,k2⟩:=arI (ins:=ins) (vs:=vs) hi hx g3 g4 hblk h2
 have hkle:a.2.2≤(pre++blT ts++post).length:=by
  rw [h2.hk]
  have:(blT (ts.take i)).length≤(blT ts).length:=by
   conv=>rhs;rw [← List.take_append_drop i ts,XY]
   simp
  simp;omega
 refine⟨by omega,by omega,g3,aj6 h2.hb (by omega),h2.sl,fun h7=> ?_,hkle,h2.hb,⟨_,g5,?_⟩⟩
 ·obtain⟨q1,q2⟩:=hblk h7
  rw [h2.hk]
  have:=h2.sp _ q1
  simp only [possAt,q2]at this
  exact⟨q1,this⟩
 ·have:(bif leI 7 t.1 then pre.length + (blT (ts.take i)).length + 1 else pre.length + (blT (ts.take i)).length)=pre.length + (blT (ts.take (i + 1))).length:=by
   cases h7:leI 7 t.1 with
   |true=>rw [(amX (pre:=pre) (post:=post) ht h7).2.2];rfl
   |false=>rw [aqi ht h7];rfl
  rw [← this];exact k2
theorem aol{ins vs:List alV}{inp xs:List Int}{pre post ts:List TM}{e:Int}{a:LS}(hi:bitsB ins.length inp=true)(hx:bitsB vs.length xs=true)(fl:htT ts 0=some e)(h:akB pre post ts 0 a):
  ∀ i,i≤ts.length→akB pre post ts i (aiL ins vs inp xs (ts.take i) a)
 |0,_=>h
 |i + 1,eQ=>by
  have h1:=aol hi hx fl h i (by omega)
  rw [List.take_succ_eq_append_getElem (by omega),ahp]
  exact(aki hi hx fl (List.getElem?_eq_getElem (by omega)) h1).2.2.2.2.2.2.2.2
theorem Xs{v:Int}{bs:List TM}{xs:List Int}{ss:List BS3}:vL v bs xs ss=true↔ss.length=bs.length∧bitsB v xs=true∧ ∀ k,k < bs.length→possAt bs ss k=true:=by
 simp only [vL,w5,beq_iff_eq,List.all_eq_true,List.mem_range]
 constructor
 ·rintro⟨h1,h2,h3⟩;exact⟨by omega,h2,h3⟩
 ·rintro⟨h1,h2,h3⟩;exact⟨by omega,h2,h3⟩
abbrev SS4:=List Int×List Int×List BS3×Nat
def lnV(ins vs:List alV)(inp:List Int)(l:LN)(a:SS4):LS:=aiL ins vs inp a.1 l.2 ([],a.2.2.1,a.2.2.2)
def scS(ins vs os:List alV)(inp:List Int)(l:LN)(a:SS4):SS4:=(bif ES vs l.1 then a.1.set (Xl vs l.1) (atZ (lnV ins vs inp l a).1 0)else a.1,bif ES vs l.1 then a.2.1 else a.2.1.set (Xl os l.1) (atZ (lnV ins vs inp l a).1 0),(lnV ins vs inp l a).2.1,(lnV ins vs inp l a).2.2)
def anP(ins vs os:List alV)(inp:List Int):List LN→SS4→SS4
 | [],a=>a
 |l::r,a=>anP ins vs os inp r (scS ins vs os inp l a)
theorem ahC{ins vs os:List alV}{inp:List Int}: ∀ (l1 l2:List LN) (a:SS4),anP ins vs os inp (l1++l2) a=anP ins vs os inp l2 (anP ins vs os inp l1 a)
 | [],l2,a=>rfl
 |t::r,l2,a=>ahC r l2 _
structure ScAt (vs os:List alV) (ls:List LN) (i:Nat) (a:SS4):Prop where
 hx:bitsB vs.length a.1=true
 ho:bitsB os.length a.2.1=true
 sl:a.2.2.1.length=(blL ls).length
 sp: ∀ j,j < (blL ls).length→possAt (blL ls) a.2.2.1 j=true
 hk:a.2.2.2=(blL (ls.take i)).length
theorem abx{ls:List LN}{i:Nat}{l:LN}(hl:ls[i]? =some l):blL ls=blL (ls.take i)++blT l.2++blL (ls.drop (i + 1))∧(blL (ls.take (i + 1))).length=(blL (ls.take i)).length + (blT l.2).length:=by
 obtain⟨hi,rfl⟩:=j9.1 hl
 have hs:ls=ls.take i++ls[i]::ls.drop (i + 1):=by rw [List.getElem_cons_drop,List.take_append_drop]
 refine⟨?_,?_⟩
 ·conv=>lhs;rw [hs,aim]
  rw [List.append_assoc]
  rfl
 ·rw [List.take_succ_eq_append_getElem hi,aim]
  simp [blL]
theorem afx{x:LN}(h:lineB x=true):uK x.1=true∧x.2.length≤40∧htT x.2 0=some 1:=by
 simp only [lineB,aiw,w5,iv]at h
 obtain⟨h1,h2,h3⟩:=h
 refine⟨h1,h2,?_⟩
 split at h3
 ·rename_i n hn;rw [hn];congr 1;exact eq_of_beq h3
 ·cases h3
theorem akw{vs os:List alV}{ls:List LN}{i:Nat}{a:SS4}{l:LN}(hl:ls[i]? =some l)(h:ScAt vs os ls i a):
  akB (blL (ls.take i)) (blL (ls.drop (i + 1))) l.2 0 ([],a.2.2.1,a.2.2.2):=by
 have hs:=(abx hl).1
 refine⟨0,by simp [htT],⟨fun z hz=>(List.not_mem_nil hz).elim,rfl,?_,?_,?_⟩⟩
 ·rw [← hs];exact h.sl
 ·rw [← hs];exact h.sp
 ·simp [blT,h.hk]
theorem ag0{ins vs os:List alV}{inp:List Int}{ls:List LN}{i:Nat}{a:SS4}{l:LN}(hi:bitsB ins.length inp=true)(hL:lineB l=true)(hl:ls[i]? =some l)
  (h:ScAt vs os ls i a):(lnV ins vs inp l a).1.length=1∧(atZ (lnV ins vs inp l a).1 0=0∨atZ (lnV ins vs inp l a).1 0=1)∧ScAt vs os ls (i + 1) (scS ins vs os inp l a):=by
 obtain⟨hn,mn,hht⟩:=afx hL
 obtain⟨hs,hs2⟩:=abx hl
 have h0:=aol (ins:=ins) (vs:=vs) hi h.hx hht (akw hl h) l.2.length (Nat.le_refl _)
 rw [List.take_length]at h0
 obtain⟨n,g1,g2⟩:=h0
 rw [List.take_length,hht]at g1;cases g1
 have hlen1:(lnV ins vs inp l a).1.length=1:=by have:=g2.hl;simp only [lnV];omega
 have hbit:atZ (lnV ins vs inp l a).1 0=0∨atZ (lnV ins vs inp l a).1 0=1:=EQ g2.hb 0
 refine⟨hlen1,hbit,⟨?_,?_,?_,?_,?_⟩⟩
 ·simp only [scS]
  cases ES vs l.1 with
  |true=>exact afi h.hx _ hbit
  |false=>exact h.hx
 ·simp only [scS]
  cases ES vs l.1 with
  |true=>exact h.ho
  |false=>exact afi h.ho _ hbit
 ·simp only [scS,lnV];rw [hs];exact g2.sl
 ·simp only [scS,lnV];rw [hs];exact g2.sp
 ·simp only [scS,lnV]
  rw [g2.hk,hs2,List.take_length]
theorem aov{ins vs os:List alV}{inp:List Int}{ls:List LN}{a:SS4}(hi:bitsB ins.length inp=true)(hL:ls.all lineB=true)(h:ScAt vs os ls 0 a):
  ∀ i,i≤ls.length→ScAt vs os ls i (anP ins vs os inp (ls.take i) a)
 |0,_=>h
 |i + 1,eQ=>by
  have h1:=aov hi hL h i (by omega)
  rw [List.take_succ_eq_append_getElem (by omega),ahC]
  exact(ag0 hi (List.all_eq_true.1 hL _ (List.getElem_mem (by omega))) (List.getElem?_eq_getElem (by omega)) h1).2.2
def scE(ins vs os:List alV)(ls:List LN)(inp xs:List Int)(ss:List BS3):SS4:=anP ins vs os inp ls (xs,List.replicate os.length 0,ss,0)
def scO(ins vs os:List alV)(g:alV)(ls:List LN)(inp xs:List Int)(ss:List BS3):List Int:=bif !(g.toList== [])&&nmV ins vs inp (scE ins vs os ls inp xs ss).1 g==0 then List.replicate os.length 0 else(scE ins vs os ls inp xs ss).2.1
def scV(ins vs os:List alV)(ls:List LN)(inp xs:List Int)(ss:List BS3):List Int:=(scE ins vs os ls inp xs ss).1
def scB(ins vs os:List alV)(ls:List LN)(inp xs:List Int)(ss:List BS3):List BS3:=(scE ins vs os ls inp xs ss).2.2.1
theorem ap3{ins vs os:List alV}{inp xs:List Int}{ss:List BS3}{ls:List LN}(hi:bitsB ins.length inp=true)(hL:ls.all lineB=true)(hs:vL vs.length (blL ls) xs ss=true):
  ScAt vs os ls ls.length (scE ins vs os ls inp xs ss):=by
 obtain⟨h1,h2,h3⟩:=Xs.1 hs
 have h0:ScAt vs os ls 0 (xs,List.replicate os.length 0,ss,0):=⟨h2,cO.2 ⟨fun z hz=> .inl (v7 hz),by simp⟩,h1,h3,by simp [blL]⟩
 have:=aov hi hL h0 ls.length (Nat.le_refl _)
 rw [List.take_length]at this
 exact this
theorem aqL{ins vs os:List alV}{g:alV}{inp xs:List Int}{ss:List BS3}{ls:List LN}(hi:bitsB ins.length inp=true)(hL:ls.all lineB=true)(hs:vL vs.length (blL ls) xs ss=true):
  vL vs.length (blL ls) (scV ins vs os ls inp xs ss) (scB ins vs os ls inp xs ss)=true∧bitsB os.length (scO ins vs os g ls inp xs ss)=true:=by
 have h:=ap3 (os:=os) hi hL hs
 refine⟨Xs.2 ⟨h.sl,h.hx,h.sp⟩,?_⟩
 simp only [scO]
 cases (!(g.toList== [])&&nmV ins vs inp (scE ins vs os ls inp xs ss).1 g==0)with
 |true=>exact cO.2 ⟨fun z hz=> .inl (v7 hz),by simp⟩
 |false=>exact h.ho
theorem abJ{A B:Type}{f g:B→A→Nat ⊕ A}{e:Nat}: ∀ {l:List B} {i:Nat} {a:A},(∀ b∈l,∀ a,f b a=g b a)→cX f e l i a=cX g e l i a
 | [],_,_,_=>rfl
 |b::r,i,a,h=>by
  simp only [cX,h b (by simp) a]
  cases g b a with
  |inl j=>rfl
  |inr a'=>exact abJ fun x hx=>h x (by simp [hx])
def zA(y1 b:alV):(Unit)→Nat ⊕ (Unit)
 |_=>(bif(ByteArray.toList (b)==ByteArray.toList y1)then(.inl 0)else(.inr ()))
def oB(y1:alV)(y2:List alV)(i:Nat):(Unit)→lY
 |_=>((i:Int),y1,y2)
def JD:lY→Unit
 |(_,_,_)=>()
theorem aeV(y1:alV)(y2:List alV) (hn:y2.length≤9223372036854775807):
  eg.fin ((0:Int),y1,y2)=true∧eg.res ((0:Int),y1,y2)=((cX (zA y1) 1 y2 0 ()).1,(oB y1 y2) (cX (zA y1) 1 y2 0 ()).2.1 (cX (zA y1) 1 y2 0 ()).2.2):=by
 have my:=eg.along (oB y1 y2) JD (zA y1) 1 (fun _ _=>True) y2 () (by trivial) (by simp only [eg,oB];omega) (fun i b a hb hI=> ?_) (fun a hI=> ?_)
 ·exact my
 ·obtain⟨⟩:=a
  have eQ:=(j9.1 hb).1
  have ry: ∀ d,v5 y2[i]? d=b:=fun d=>by rw [hb];rfl
  have hw:=IG eQ hn
  have lz:ltI (i:Int) (y2.length:Int)=true:=cS (by omega)
  have Qg:leI (0:Int) (i:Int)=true:=bu (by omega)
  have yL:ltN i y2.length=true:=dI eQ
  refine⟨?_,?_,?_,?_⟩
  ·simp [we,Al,Am,An,Ao,ym,eg,LT.nds,allT,oB,lz,Qg,yL,ry]
  ·simp [we,Al,Am,An,Ao,ym,eg,LT.each,oB,JD,hw]
  ·simp only [we,Al,Am,An,Ao,ym,eg,LT.fn,oB,JD,zA,w7,lz,Qg,yL,ry,cond_true,j8]
  ·exact fun _ _=>trivial
 ·obtain⟨⟩:=a
  simp [we,Al,Am,An,Ao,ym,eg,LT.out,oB]
theorem aek(s:alV)(l:List alV)(h:leN l.length 9223372036854775807=true):FQ s l=uT l s∧KR s l=true:=by
 obtain⟨w1,w2⟩:=aeV s l (iv.1 h)
 rw [ow (P:=fun k=>k.toList==s.toList) (j:=0) (fun k=>rfl)]at w2
 simp only [FQ,KR,Ja,w1,w2,allT,oB,uT,ES,Xl]
 cases l.any fun k=>k.toList==s.toList <;> simp [Nat.beq]
theorem ad2(l:List alV)(s:alV):leI 0 (uT l s)=ES l s:=by
 simp only [uT]
 cases ES l s with
 |true=>exact bu (by simp)
 |false=>rfl
def YQ:List SV→List Entry→Option Out
 | [.one ⟨false,[.ref 0]⟩,.one ⟨false,[.val (.string x0)]⟩],[.row false 9 (.str) x1]=>some ⟨.one ⟨false,[.val (.int .i64 (uT x1 x0))]⟩,[.row false 9 alu x1],[],[leN x1.length 9223372036854775807]⟩
 |_,_=>none
def aU:PF prog:=PF.alt xS YQ (by
 intro args es o h cf;unfold YQ at h;split at h
 ·rename_i x0 x1
  cases h
  have cf:=iw cf
  have hh:=aek x0 x1 cf
  obtain⟨e0,en⟩:=hh
  exact mK rfl (gE en) (by simp only [e0] <;> rfl) rfl rfl
 ·cases h)
theorem aq4(a b c:List alV)(h:leN (a.length + b.length + c.length) 2000000=true):adc a b c=a++b++c∧Wg a b c=true:=by
 have h:=iv.1 h
 refine⟨rfl,?_⟩
 simp [Wg,NF,allT]
 omega
def acW:List SV→List Entry→Option Out
 | [.one ⟨true,[.val (.string _x0),.ref 0,.ref 1,.ref 2,.val (.string _x1),.ref 3]⟩],[.row false 9 (.str) x2,.row false 9 (.str) x3,.row false 9 (.str) x4,.row false 142 (.pair (.str) (.sl 122 (.pair (.int .i64) (.pair (.str) (.int .i64))))) x5]=>some ⟨.one ⟨false,[.ref 4]⟩,[.row false 9 alu x2,.row false 9 alu x3,.row false 9 alu x4,.row false 142 (CTy.pair CTy.str (CTy.sl (122:TypeId) afs)) x5],[.row true 9 alu (x2++x3++x4)],[leN (x2.length + x3.length + x4.length) 2000000]⟩
 |_,_=>none
def pS:PF prog:=PF.alt ajU acW (by
 intro args es o h cf;unfold acW at h;split at h
 ·rename_i _x0 _x1 x2 x3 x4 x5
  cases h
  have cf:=iw cf
  have hh:=aq4 x2 x3 x4 cf
  obtain⟨e0,en⟩:=hh
  exact mK rfl (gE en) rfl rfl (by simp only [e0] <;> rfl)
 ·cases h)
theorem Mp(s:alV)(h:s.size≤9223372036854775807):lN s=uK s∧rU s=true:=by
 obtain⟨e1,e2⟩:=ajl s
 have hl:leN s.size 9223372036854775807=true:=aR h
 refine⟨?_,?_⟩
 ·simp only [lN,e1,uK];cases TW s <;> rfl
 ·simp only [rU,e2,hl,allT,j7,cond_true]
def Pg(l:List alV):Bool:=leN l.length 9223372036854775807&&l.all fun s=>leN s.size 9223372036854775807
def sd(b:alV):(Unit)→Nat ⊕ (Unit)
 |_=>(bif(!lN b)then(.inl 0)else(.inr ()))
def rf(y1:List alV)(i:Nat):(Unit)→lW
 |_=>((i:Int),y1)
def JB:lW→Unit
 |(_,_)=>()
theorem aeT(y1:List alV) (hn:y1.length≤9223372036854775807) (hA: ∀ x∈y1,x.size≤9223372036854775807):
  eJ.fin ((0:Int),y1)=true∧eJ.res ((0:Int),y1)=((cX (sd) 1 y1 0 ()).1,(rf y1) (cX (sd) 1 y1 0 ()).2.1 (cX (sd) 1 y1 0 ()).2.2):=by
 have my:=eJ.along (rf y1) JB (sd) 1 (fun _ _=>True) y1 () (by trivial) (by simp only [eJ,rf];omega) (fun i b a hb hI=> ?_) (fun a hI=> ?_)
 ·exact my
 ·obtain⟨⟩:=a
  have eQ:=(j9.1 hb).1
  have ry: ∀ d,v5 y1[i]? d=b:=fun d=>by rw [hb];rfl
  have hw:=IG eQ hn
  have lz:ltI (i:Int) (y1.length:Int)=true:=cS (by omega)
  have Qg:leI (0:Int) (i:Int)=true:=bu (by omega)
  have yL:ltN i y1.length=true:=dI eQ
  refine⟨?_,?_,?_,?_⟩
  ·have hg2:oz (i:Int) y1=b:=by simp only [oz,w7];exact ry _
   have h6:=(Mp b (hA b (List.mem_of_getElem? hb))).2
   simp [wb,Fm,Fo,Fp,Ab,Fq,yh,eJ,LT.nds,allT,rf,lz,Qg,yL,hg2,h6]
  ·simp [oz,wb,Fm,Fo,Fp,Ab,Fq,yh,eJ,LT.each,rf,JB,hw]
  ·have hg2:oz (i:Int) y1=b:=by simp only [oz,w7];exact ry _
   simp only [wb,Ab,yh,eJ,LT.fn,rf,JB,sd,w7,lz,hg2,cond_true]
  ·exact fun _ _=>trivial
 ·obtain⟨⟩:=a
  simp [oz,wb,Fm,Fo,Fp,Ab,Fq,yh,eJ,LT.out,rf]
theorem alj(lo:Int)(l:List alV)(h:Pg l=true):Rj lo l=(l.all uK&&inR (l.length:Int) lo 20)∧Rk l=true:=by
 simp only [Pg,w5,iv,List.all_eq_true]at h
 obtain⟨w1,w2⟩:=aeT l h.1 h.2
 have e0:(cX sd 1 l 0 ())=(cX (fun(k:alV) (_:Unit)=>bif !uK k then(.inl 0:Nat ⊕ Unit)else .inr ()) 1 l 0 ()):=by
  refine abJ fun b hb a=> ?_
  simp only [sd,(Mp b (h.2 b hb)).1]
 rw [e0,ow (P:=fun k=> !uK k) (j:=0) (fun k=>rfl)]at w2
 have e5:(l.any fun k=> !uK k)= !l.all uK:=by simp [List.all_eq_not_any_not]
 rw [e5]at w2
 simp only [Rj,Rk,w1,w2,allT,aX,Pn]
 cases l.all uK <;> simp [Nat.beq]
def YP:List SV→List Entry→Option Out
 | [.one ⟨false,[.ref 0]⟩,.one ⟨false,[.val (.int .i64 x0)]⟩],[.row false 9 (.str) x1]=>some ⟨.one ⟨false,[.val (.bool (x1.all uK&&inR (x1.length:Int) x0 20))]⟩,[.row false 9 alu x1],[],[Pg x1]⟩
 |_,_=>none
def Bk:PF prog:=PF.alt ahT YP (by
 intro args es o h cf;unfold YP at h;split at h
 ·rename_i x0 x1
  cases h
  have cf:=iw cf
  have hh:=alj x0 x1 cf
  obtain⟨e0,en⟩:=hh
  exact mK rfl (gE en) (by simp only [e0] <;> rfl) rfl rfl
 ·cases h)
theorem anZ(l:List alV):(List.range l.length).any (fun b=>ES (List.take b l) (v5 l[b]? ByteArray.empty))=JY l:=rfl
def vO(y1:List alV)(b:Nat):(Unit)→Nat ⊕ (Unit)
 |_=>(bif(leI 0 (FQ (v5 y1[b]? ByteArray.empty) (List.drop (v3 0) (List.take b y1))))then(.inl 0)else(.inr ()))
def rg(y1:List alV)(i:Nat):(Unit)→lZ
 |_=>((i:Int),y1)
def JF:lZ→Unit
 |(_,_)=>()
theorem aeW(y1:List alV) (hn:y1.length≤9223372036854775807):
  eK.fin ((0:Int),y1)=true∧eK.res ((0:Int),y1)=((cX (vO y1) 1 (List.range y1.length) 0 ()).1,(rg y1) (cX (vO y1) 1 (List.range y1.length) 0 ()).2.1 (cX (vO y1) 1 (List.range y1.length) 0 ()).2.2):=by
 have my:=eK.along (rg y1) JF (vO y1) 1 (fun _ _=>True) (List.range y1.length) () (by trivial) (by simp only [eK,rg,List.length_range];omega) (fun i b a hb hI=> ?_) (fun a hI=> ?_)
 ·exact my
 ·obtain⟨⟩:=a
  obtain⟨rfl,eQ⟩:=Pv hb
  have hw:IntKind.i64.wrap ((b:Int) + 1)=((b + 1:Nat):Int):=by rw [aJ (by omega) (by omega)];omega
  have lz:ltI (b:Int) (y1.length:Int)=true:=cS (by omega)
  have Qg:leI (0:Int) (b:Int)=true:=bu (by omega)
  have yL:ltN b y1.length=true:=dI (by omega)
  refine⟨?_,?_,?_,?_⟩
  ·have mn:(List.take b y1).length≤9223372036854775807:=by rw [w9];omega
   have e:ra (b:Int) y1=List.take b y1:=by simp [ra]
   have h5:wi (b:Int) y1=true:=by simp only [wi,e];exact(aek _ _ (aR mn)).2
   have h3:Ar (b:Int) y1=true:=bu (by omega)
   have h1:Aq=true:=rfl
   simp only [yo,eK,LT.nds,allT,rg,wg,wh,As,h1,h3,h5,lz,Qg,yL,w7,cond_true,Bool.and_self,List.all_nil,List.all_cons]
   cases At (b:Int) y1 <;> simp [LT.nds]
  ·simp [yF,ra,wg,Aq,wh,Ar,As,wi,At,Fs,yo,eK,LT.each,rg,JF,hw]
  ·simp only [yF,ra,wg,Aq,wh,Ar,As,wi,At,Fs,yo,eK,LT.fn,rg,JF,vO,w7,lz,cond_true]
  ·exact fun _ _=>trivial
 ·obtain⟨⟩:=a
  simp [yF,ra,wg,Aq,wh,Ar,As,wi,At,Fs,yo,eK,LT.out,rg,List.length_range]
theorem alm(l:List alV)(h:leN l.length 9223372036854775807=true):Rm l=JY l∧Rn l=true:=by
 have hn:=iv.1 h
 obtain⟨w1,w2⟩:=aeW l hn
 have hi: ∀ b:Nat,(List.take b l).length≤9223372036854775807:=fun b=>by rw [w9];omega
 rw [ow (P:=fun b=>ES (List.take b l) (v5 l[b]? ByteArray.empty)) (j:=0) (fun b=>by
  simp only [vO,Int.toNat_zero,List.drop_zero,(aek _ _ (aR (hi b))).1,ad2]),anZ]at w2
 simp only [Rm,Rn,w1,w2,allT]
 cases JY l <;> simp [Nat.beq]
theorem Xv{A B:Type}{f:B→A→Nat ⊕ A}{g:A→B→A}{e:Nat}(hf: ∀ b a,f b a= .inr (g a b)): ∀ (l:List B) (i:Nat) (a:A),cX f e l i a=(e,i + l.length,l.foldl g a)
 | [],i,a=>rfl
 |b::r,i,a=>by
  simp only [cX,hf,List.foldl_cons]
  rw [Xv hf r]
  simp [Nat.add_assoc,Nat.add_comm 1]
def YR:List SV→List Entry→Option Out
 | [.one ⟨false,[.ref 0]⟩],[.row false 9 (.str) x0]=>some ⟨.one ⟨false,[.val (.bool (JY x0))]⟩,[.row false 9 alu x0],[],[leN x0.length 9223372036854775807]⟩
 |_,_=>none
def mU:PF prog:=PF.alt ahU YR (by
 intro args es o h cf;unfold YR at h;split at h
 ·rename_i x0
  cases h
  have cf:=iw cf
  have hh:=alm x0 cf
  obtain⟨e0,en⟩:=hh
  exact mK rfl (gE en) (by simp only [e0] <;> rfl) rfl rfl
 ·cases h)
theorem aqR(n k:Int)(h0:0≤n)(h1:n≤9223372036854775000):IntKind.i64.wrap (IntKind.i64.wrap (n - takesK k) + 1)=n - takesK k + 1∧IntKind.i64.wrap (n + IntKind.i64.wrap (1 - takesK k))=n - takesK k + 1:=by
 have:=Sb k
 refine⟨?_,?_⟩
 ·rw [aJ (x:=n - takesK k) (by omega) (by omega),aJ (by omega) (by omega)]
 ·rw [aJ (x:=1 - takesK k) (by omega) (by omega),aJ (by omega) (by omega)];omega
theorem ahq(a b:Int):ltI a b= !leI b a:=by
 cases h:leI b a with
 |true=>have:=AE.1 h;exact wO (by omega)
 |false=>rw [aok]at h;exact cS (by omega)
def ade(ts:List TM):Bool:=leN ts.length 1048576&&ts.all fun t=>leN t.2.1.size 9223372036854775807
def afy(ls:List LN):Bool:=leN ls.length 1048576&&ls.all fun l=>leN l.1.size 9223372036854775807&&ade l.2
theorem ab2{ts:List TM}:ade ts=true↔ts.length≤1048576∧ ∀ t∈ts,t.2.1.size≤9223372036854775807:=by
 simp only [ade,w5,iv,List.all_eq_true]
theorem abQ{ls:List LN}:afy ls=true↔ls.length≤1048576∧ ∀ l∈ls,l.1.size≤9223372036854775807∧ade l.2=true:=by
 simp only [afy,w5,iv,List.all_eq_true]
def ij(b:Int×(alV×Int)):(Int×List Int)→Nat ⊕ (Int×List Int)
 |(y1,y3)=>(bif(bif(!DM b.1 (b.2.1) b.2.2)then true else ltI y1 (ec b.1))then(.inl 0)else(.inr ((v6 .i64 (v6 .i64 (y1 - ec b.1) + (1:Int))),(y3++ [v6 .i64 (v6 .i64 (y1 - ec b.1) + (1:Int))]))))
def mP(y2:List (Int×(alV×Int)))(i:Nat):(Int×List Int)→jz
 |(y1,y3)=>((i:Int),y1,y2,y3)
def Gm:jz→Int×List Int
 |(_,y1,_,y3)=>(y1,y3)
theorem abH(y2:List (Int×(alV×Int)))(y1:Int)(y3:List Int)(hn:y2.length≤9223372036854775807)(hT:y2.length≤1048576)(hA: ∀ x∈y2,x.2.1.size≤9223372036854775807)(h3:y3.length=0):
  du.fin ((0:Int),y1,y2,y3)=true∧du.res ((0:Int),y1,y2,y3)=((cX (ij) 1 y2 0 (y1,y3)).1,(mP y2) (cX (ij) 1 y2 0 (y1,y3)).2.1 (cX (ij) 1 y2 0 (y1,y3)).2.2):=by
 have my:=du.along (mP y2) Gm (ij) 1 (fun i a=>a.2.length=i) y2 (y1,y3) h3 (by simp only [du,mP];omega) (fun i b a hb hI=> ?_) (fun a hI=> ?_)
 ·exact my
 ·obtain⟨y1,y3⟩:=a
  have eQ:=(j9.1 hb).1
  have ry: ∀ d,v5 y2[i]? d=b:=fun d=>by rw [hb];rfl
  have hw:=IG eQ hn
  have lz:ltI (i:Int) (y2.length:Int)=true:=cS (by omega)
  have Qg:leI (0:Int) (i:Int)=true:=bu (by omega)
  have yL:ltN i y2.length=true:=dI eQ
  refine⟨?_,?_,?_,?_⟩
  ·have hg2:dV (i:Int) y2=b:=by simp only [dV,w7];exact ry _
   have h6:DN b.1 b.2.1 b.2.2=true:=(abz b.1 b.2.1 b.2.2 (aR (hA b (List.mem_of_getElem? hb)))).2
   simp only at hI
   have h8:leN (y3.length + 1) 9223372036854775807=true:=aR (by omega)
   have h9:leN ((y3.length + 1) * 8) 140737488355328=true:=aR (by omega)
   simp [pM,sN,sO,wV,wW,wX,wY,wZ,xa,xc,vq,vr,vt,vj,du,LT.nds,allT,mP,lz,Qg,yL,hg2,h6,h8,h9]
  ·simp [dV,oR,oS,pM,sN,sO,wV,wW,wX,wY,wZ,xa,xc,vq,vr,vt,vj,du,LT.each,mP,Gm,hw]
  ·have hg2:dV (i:Int) y2=b:=by simp only [dV,w7];exact ry _
   simp only [pM,sN,sO,wV,wW,wX,wY,wZ,xa,xc,vq,vr,vt,vj,du,oR,oS,LT.fn,mP,Gm,ij,w7,lz,hg2,cond_true]
  ·intro a' hf
   simp only at hI
   simp only [ij]at hf
   revert hf
   generalize (bif _ then true else _)=c
   cases c with
   |true=>intro hf;cases hf
   |false=>intro hf;simp only [cond_false,Sum.inr.injEq]at hf;subst hf;simp [hI]
 ·obtain⟨y1,y3⟩:=a
  simp [dV,oR,oS,pM,sN,sO,wV,wW,wX,wY,wZ,xa,xc,vq,vr,vt,vj,du,LT.out,mP]
theorem af4: ∀ (ts:List TM) (i:Nat) (n:Int) (L:List Int),(∀ x∈ts,x.2.1.size≤9223372036854775807)→0≤n→n + ts.length≤9223372036854775000→
  match htT ts n with
  |some k=>(cX ij 1 ts i (n,L)).1=1∧(cX ij 1 ts i (n,L)).2.2.1=k
  |none=>(cX ij 1 ts i (n,L)).1=0
 | [],i,n,m,_,_,_=>⟨rfl,rfl⟩
 |t::r,i,n,m,hs,h0,h1=>by
  rw [List.length_cons]at h1
  have hw:=(aqR n t.1 h0 (by omega)).1
  have ht:=Sb t.1
  have hf:ij t (n,m)=(bif termB t.1 t.2.1 t.2.2&&leI (takesK t.1) n then .inr (n - takesK t.1 + 1,m++ [n - takesK t.1 + 1])else .inl 0):=by
   simp only [ij,(abz t.1 t.2.1 t.2.2 (aR (hs t (by simp)))).1,show ec t.1=takesK t.1 from rfl,hw,ahq]
   cases termB t.1 t.2.1 t.2.2 <;> cases leI (takesK t.1) n <;> rfl
  simp only [cX,hf,htT]
  cases hc:termB t.1 t.2.1 t.2.2&&leI (takesK t.1) n with
  |false=>rfl
  |true=>
   simp only [w5,AE]at hc
   simp only [cond_true]
   exact af4 r (i + 1) _ _ (fun x hx=>hs x (by simp [hx])) (by omega) (by omega)
theorem amB(ts:List TM)(h:ade ts=true):JQ ts=aiw ts∧JR ts=true:=by
 obtain⟨hn,hs⟩:=ab2.1 h
 obtain⟨w1,w2⟩:=abH ts 0 [] (by omega) hn hs rfl
 have hh:=af4 ts 0 0 [] hs (by omega) (by omega)
 have Jo:leI (ts.length:Int) 40=leN ts.length 40:=by
  rw [Bool.eq_iff_iff,AE,iv];omega
 simp only [JQ,JR,ND,NE,Fl,LH,LI,w1,w2,allT,aiw,Jo,cond_true,mP]
 cases hq:htT ts 0 with
 |none=>
  rw [hq]at hh
  simp only at hh
  rw [hh];simp [Nat.beq]
 |some k=>
  rw [hq]at hh
  simp only at hh
  rw [hh.1,hh.2]
  dsimp only
  generalize (k==1)=q
  cases q <;> cases leN ts.length 40 <;> simp [Nat.beq]
def Ry:List SV→List Entry→Option Out
 | [.one ⟨false,[.ref 0]⟩],[.row false 122 (.pair (.int .i64) (.pair (.str) (.int .i64))) x0]=>some ⟨.one ⟨false,[.val (.bool (aiw x0))]⟩,[.row false 122 afs x0],[],[ade x0]⟩
 |_,_=>none
def uv:PF prog:=PF.alt acA Ry (by
 intro args es o h cf;unfold Ry at h;split at h
 ·rename_i x0
  cases h
  have cf:=iw cf
  have hh:=amB x0 cf
  obtain⟨e0,en⟩:=hh
  exact mK rfl (gE en) (by simp only [e0] <;> rfl) rfl rfl
 ·cases h)
theorem Lp.along2{X A B:Type}(p:Lp X)(st:Nat→A→X)(pr:X→A)(f:B→A→Nat ⊕ A)(e:Nat)(Inv:Nat→A→Prop)(xs:List B)(a:A)
  (h0:Inv 0 a) (hf:xs.length≤100000000000)
  (hs: ∀ i b a,xs[i]? =some b→Inv i a→(p.lt (st i a)).nds=true∧(p.lt (st i a)).each (fun y=>y=st (i + 1) (pr y))∧(p.lt (st i a)).fn pr=f b a∧ ∀ a',f b a= .inr a'→Inv (i + 1) a')
  (he: ∀ a,Inv xs.length a→(p.lt (st xs.length a)).out=some (.inl e)):
  p.fin (st 0 a)=true∧p.res (st 0 a)=((cX f e xs 0 a).1,st (cX f e xs 0 a).2.1 (cX f e xs 0 a).2.2):=by
 have hs': ∀ i b a,xs[i]? =some b→Inv i a→(p.lt (st i a)).out=some (match f b a with | .inl j=> .inl j | .inr a'=> .inr (st (i + 1) a'))∧ ∀ a',f b a= .inr a'→Inv (i + 1) a':=by
  intro i b a hb hI
  obtain⟨h1,h2,h3,h4⟩:=hs i b a hb hI
  refine⟨?_,h4⟩
  rw [LT.out_of h1 h2,h3]
  cases f b a <;> rfl
 refine p.run (abX st f e Inv xs hs' he xs 0 a rfl (by omega) h0) ?_
 rw [amU]
 have:1000 ^ 4≤(p.fuel (st 0 a) + 1000) ^ 4:=Nat.pow_le_pow_left (by omega) 4
 omega
def amV(a:List TM)(b:TM):List TM:=bif leI 7 b.1 then a++ [b]else a
theorem alR: ∀ (ts acc:List TM),ts.foldl amV acc=acc++blT ts
 | [],acc=>by simp [blT]
 |t::r,acc=>by
  rw [List.foldl_cons,alR r]
  simp only [amV,blT,List.filter_cons]
  cases leI 7 t.1 <;> simp
theorem aka: ∀ (ls:List LN) (acc:List TM),ls.foldl (fun a l=>a++blT l.2) acc=acc++blL ls
 | [],acc=>by simp [blL]
 |l::r,acc=>by
  rw [List.foldl_cons,aka r]
  simp [blL]
theorem aqh(ts:List TM):(blT ts).length≤ts.length:=List.length_filter_le _ _
theorem apj(a:List TM)(b:TM):(amV a b).length≤a.length + 1:=by
 simp only [amV];cases leI 7 b.1 <;> simp
theorem amW(k:Nat)(u v:alV)(acc:List TM)(p q r:List alV)(ls:List LN)(l:LN)(hl:ls[k]? =some l)(hn:l.2.length≤1048576)(hc:acc.length + l.2.length≤4000000000000):
  ea.fin ((0:Int),(k:Int),u,v,acc,p,q,r,ls)=true∧ea.res ((0:Int),(k:Int),u,v,acc,p,q,r,ls)=(0,((l.2.length:Int),(k:Int),u,v,acc++blT l.2,p,q,r,ls)):=by
 have hkl:=(j9.1 hl).1
 have hgl: ∀ d,v5 ls[k]? d=l:=fun d=>by rw [hl];rfl
 have ha2:pu (k:Int) ls=l.2:=by simp only [pu,w7];exact congrArg Prod.snd (hgl _)
 have ha0:DO (k:Int) ls=true:=cS (by omega)
 have ha1:xI (k:Int) ls=true:=by simp only [xI,w7];exact dI hkl
 have hk0:leI 0 (k:Int)=true:=bu (by omega)
 have my:=ea.along2 (fun i (a:List TM)=>((i:Int),(k:Int),u,v,a,p,q,r,ls)) (fun x=>x.2.2.2.2.1) (fun(b:TM) a=> .inr (amV a b)) 0 (fun i a=>a.length≤acc.length + i) l.2 acc (by omega)
  (by omega) (fun i b a hb hI=> ?_) (fun a hI=> ?_)
 ·rw [Xv (g:=amV) (fun b a=>rfl),alR]at my
  simpa using my
 ·have eQ:=(j9.1 hb).1
  have hw:IntKind.i64.wrap ((i:Int) + 1)=((i + 1:Nat):Int):=by rw [aJ (by omega) (by omega)];omega
  have lz:ltI (i:Int) (l.2.length:Int)=true:=cS (by omega)
  have Qg:leI (0:Int) (i:Int)=true:=bu (by omega)
  have yL:ltN i l.2.length=true:=dI eQ
  have hg2:pw (i:Int) (k:Int) ls=b:=by simp only [pw,ha2,w7,hb,Option.getD_some]
  have hg3:pv (i:Int) (k:Int) ls=true:=by simp only [pv,ha2,lz]
  have h8: ∀ z:TM,leN (a.length + v4 [z]) 9223372036854775807=true:=fun z=>aR (by rw [w8];omega)
  have h9: ∀ z:TM,leN ((a.length + v4 [z]) * 32) 140737488355328=true:=fun z=>aR (by rw [w8];omega)
  refine⟨?_,?_,?_,?_⟩
  ·simp only [qu,qv,qw,qx,tZ,ua,ub,uc,ud,ue,sP,sQ,sR,sS,sU,pt,sV,sB,ea,ed,px,LT.nds,allT,ha0,ha1,ha2,hk0,hg2,hg3,lz,Qg,yL,h8,h9,w7,cond_true,j7]
   cases leI 7 b.1 <;> simp [LT.nds]
  ·simp only [qu,qv,qw,qx,tZ,ua,ub,uc,ud,ue,sP,sQ,sR,sS,sU,pt,sV,sB,ea,ed,px,LT.each,hw,hg2,hg3]
   cases leI 7 b.1 <;> simp [LT.each]
  ·simp only [qu,qv,qw,qx,tZ,ua,ub,uc,ud,ue,sP,sQ,sR,sS,sU,pt,sV,sB,ea,ed,px,LT.fn,hg2,hg3,cond_true,amV]
   cases leI 7 b.1 <;> rfl
  ·intro a' hf
   simp only [Sum.inr.injEq]at hf
   subst hf
   have:=apj a b
   omega
 ·have lz:pv (l.2.length:Int) (k:Int) ls=false:=by simp only [pv,ha2];exact wO (by omega)
  simp [qu,qv,qw,qx,tZ,ua,ub,uc,ud,ue,sP,sQ,sR,sS,sU,pt,sV,sB,ea,LT.out,allT,ha0,ha1,hk0,lz]
theorem amA(u v:alV)(p q r:List alV)(ls:List LN)(h:afy ls=true):PG u v p q r ls=blL ls∧PH u v p q r ls=true:=by
 obtain⟨hn,hA⟩:=abQ.1 h
 have hL: ∀ l∈ls,l.2.length≤1048576:=fun l hl=>(ab2.1 (hA l hl).2).1
 have my:=il.along (fun i (a:List TM)=>((i:Int),u,v,a,p,q,r,ls)) (fun x=>x.2.2.2.1) (fun(b:LN) a=> .inr (a++blT b.2)) 0 (fun i a=>a.length≤i * 1048576) ls [] (by simp)
  (by simp only [il];omega) (fun i b a hb hI=> ?_) (fun a hI=> ?_)
 ·rw [Xv (g:=fun a (l:LN)=>a++blT l.2) (fun b a=>rfl),aka]at my
  simp only [PG,PH,NG,allT]
  simp only [List.nil_append,Nat.zero_add]at my
  have e0:((0:Nat):Int)=0:=rfl
  rw [e0]at my
  rw [my.1,my.2]
  exact⟨rfl,rfl⟩
 ·have eQ:=(j9.1 hb).1
  have hbl:=hL b (List.mem_of_getElem? hb)
  have hw:IntKind.i64.wrap ((i:Int) + 1)=((i + 1:Nat):Int):=by rw [aJ (by omega) (by omega)];omega
  have lz:ltI (i:Int) (ls.length:Int)=true:=cS (by omega)
  obtain⟨k1,k2⟩:=amW i u v a p q r ls b hb hbl (by omega)
  refine⟨?_,?_,?_,?_⟩
  ·simp [yB,yC,yD,yE,wQ,il,xf,LT.nds,allT,lz,k1]
  ·simp [yB,yC,yD,yE,wQ,il,xf,LT.each,lz,hw,k2]
  ·simp [yB,yC,yD,yE,wQ,il,xf,LT.fn,lz,k2]
  ·intro a' hf
   simp only [Sum.inr.injEq]at hf
   subst hf
   have:=aqh b.2
   rw [List.length_append];omega
 ·have lz:ltI (ls.length:Int) (ls.length:Int)=false:=wO (by omega)
  simp [yB,yC,yD,yE,wQ,il,LT.out,lz]
def WJ:List SV→List Entry→Option Out
 | [.one ⟨true,[.val (.string x0),.ref 0,.ref 1,.ref 2,.val (.string x1),.ref 3]⟩],[.row false 9 (.str) x2,.row false 9 (.str) x3,.row false 9 (.str) x4,.row false 142 (.pair (.str) (.sl 122 (.pair (.int .i64) (.pair (.str) (.int .i64))))) x5]=>some ⟨.one ⟨false,[.ref 4]⟩,[.row false 9 alu x2,.row false 9 alu x3,.row false 9 alu x4,.row false 142 (CTy.pair CTy.str (CTy.sl (122:TypeId) afs)) x5],[.row true 122 afs (blL x5)],[afy x5]⟩
 |_,_=>none
def lA:PF prog:=PF.alt agP WJ (by
 intro args es o h cf;unfold WJ at h;split at h
 ·rename_i x0 x1 x2 x3 x4 x5
  cases h
  have cf:=iw cf
  have hh:=amA x0 x1 x2 x3 x4 x5 cf
  obtain⟨e0,en⟩:=hh
  exact mK rfl (gE en) rfl rfl (by simp only [e0] <;> rfl)
 ·cases h)
end Go.SX
