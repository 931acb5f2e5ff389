/- What functions of the program come to, and what that says in plain words: part 1. -/
import Derived.Test.YtbbfgoobcjlooaaGreatDoorTXh
import Derived.Test.YtbbfgoobcjlooaaGreatDoorProg
set_option linter.unusedSimpArgs false
set_option linter.unusedVariables false
namespace Go.SX
open Go.Proofs
def T3z {P : Program} (l : List (PF P)) : List (PF P) :=l.flatMap fun p=>[p,PF.lend p,PF.fz p]
abbrev aas:CTy:=(CTy.pair CTy.str (CTy.sl 178 (CTy.pair (CTy.int IntKind.i64) (CTy.pair CTy.str (CTy.int IntKind.i64)))))
abbrev abM:CTy:=(CTy.pair (CTy.int IntKind.i64) (CTy.pair (CTy.int IntKind.i64) (CTy.int IntKind.i64)))
abbrev acQ:CTy:=(CTy.pair (CTy.int IntKind.i64) (CTy.pair CTy.str (CTy.int IntKind.i64)))
abbrev ahT:CTy:=(CTy.sl 2 (CTy.int IntKind.i64))
abbrev ai3:CTy:=(CTy.int IntKind.i64)
abbrev aj7:CTy:=(CTy.int IntKind.u8)
abbrev alP:CTy:=(CTy.str)
theorem S0z:(∀ (α:Type) (a b:α),(bif true then a else b)=a)∧(∀ (α:Type) (a b:α),(bif false then a else b)=b)∧(∀ (α:Type) (c:Bool) (a:α),(bif c then a else a)=a)∧((!true)=false)∧((!false)=true)∧(∀ b:Bool,(true||b)=true)∧(∀ b:Bool,(b||true)=true)∧(∀ b:Bool,(false||b)=b)∧(∀ b:Bool,(b||false)=b)∧(∀ b:Bool,(b&&b)=b)∧(∀ b:Bool,(b&&true)=b)∧(∀ b:Bool,(true&&b)=b)∧(∀ b:Bool,(false&&b)=false)∧(∀ b:Bool,(b&&false)=false)∧(∀ (α:Type) [BEq α] [LawfulBEq α] (a:α),(a != a)=false)∧(∀ (α:Type) [BEq α] [LawfulBEq α] (a:α),(a==a)=true):=by and_intros <;> intros <;> simp
end Go.SX
namespace Go.SX
open Go.Proofs Go.Proofs.Tryz
set_option maxRecDepth 100000
theorem aV:Tryz.prog.follows .mixedOrders=true:=by kernel_rfl
def bL(x0 x1 x2:Int):Bool:=bif leI x1 x0 then leI x0 x2 else false
def agx:List SV→List Entry→Option Out
 | [.one ⟨false,[.val (.int .i64 x0)]⟩,.one ⟨false,[.val (.int .i64 x1)]⟩,.one ⟨false,[.val (.int .i64 x2)]⟩],[]=>some ⟨.one ⟨false,[.val (.bool (bL x0 x1 x2))]⟩,[],[],[]⟩
 |_,_=>none
def yf:PF prog:=PF.ofG prog [] [] aV 153 f153 func153 (fun c _=>LOk.nil c) agx (by
 intro vs es r h;unfold agx at h;split at h
 ·cases h;kernel_rfl
 ·cases h)
def YP(x0:List Int):Bool:=allT [leN (0 + List.length x0) 9223372036854775807,leN ((0 + List.length x0) * 8) 140737488355328]
def aes:List SV→List Entry→Option Out
 | [.one ⟨false,[.ref 0]⟩],[.row false 2 (.int .i64) x0]=>some ⟨.one ⟨false,[.ref 1]⟩,[.row false 2 ai3 x0],[.row true 2 ai3 x0],[YP x0]⟩
 |_,_=>none
def als:PF prog:=PF.ofG prog [] [] aV 173 f173 func173 (fun c _=>LOk.nil c) aes (by
 intro vs es r h;unfold aes at h;split at h
 ·cases h;kernel_rfl
 ·cases h)
def wa(x0 x1 x2:Int):Bool:=bif leI x1 x0 then leI x0 x2 else false
def aeq:List SV→List Entry→Option Out
 | [.one ⟨false,[.val (.int .i64 x0)]⟩,.one ⟨false,[.val (.int .i64 x1)]⟩,.one ⟨false,[.val (.int .i64 x2)]⟩],[]=>some ⟨.one ⟨false,[.val (.bool (wa x0 x1 x2))]⟩,[],[],[]⟩
 |_,_=>none
def YL:PF prog:=PF.ofG prog [] [] aV 158 f158 func158 (fun c _=>LOk.nil c) aeq (by
 intro vs es r h;unfold aeq at h;split at h
 ·cases h;kernel_rfl
 ·cases h)
def yk(x0:List Int):Bool:=allT [ltN 0 x0.length,false||leN (0 + List.length x0) 9223372036854775807,false||leN ((0 + List.length x0) * 8) 140737488355328]
def LO:List SV→List Entry→Option Out
 | [.one ⟨false,[.ref 0]⟩],[.row false 2 (.int .i64) x0]=>some ⟨.one ⟨false,[.ref 1]⟩,[.row false 2 ai3 x0],[.row true 2 ai3 x0],[yk x0]⟩
 |_,_=>none
def Wb:PF prog:=PF.ofG prog [] [] aV 194 f194 func194 (fun c _=>LOk.nil c) LO (by
 intro vs es r h;unfold LO at h;split at h
 ·cases h;kernel_rfl
 ·cases h)
abbrev oL:=Int×List Int×List Int
section
variable (y0:Int)(y1 y2:List Int)
def zY:Bool:=ltI y0 (↑y1.length:Int)
def zZ:Bool:=leI 0 y0
def Dy:Bool:=ltN y0.toNat y1.length
def Dz:Bool:=ltI y0 (↑y2.length:Int)
def DA:Bool:=ltN y0.toNat y2.length
def DB:Bool:=Option.getD y1[Int.toNat y0]? 0!=Option.getD y2[Int.toNat y0]? 0
def DC:Int:=IntKind.wrap .i64 (y0 + (1:Int))
end
def adQ:oL→List (Nat×SV)
 |(y0,_,_)=> [(5,(.one ⟨false,[.val (.int .i64 y0)]⟩)),(0,(.one ⟨false,[.ref 0]⟩)),(1,(.one ⟨false,[.ref 1]⟩))]
def adI:oL→List (Nat×Entry)
 |(_,y1,y2)=> [(0,(.row false 2 ai3 y1)),(1,(.row false 2 ai3 y2))]
def ad6:Nat→oL→List (Nat×SV)
 |0,(_,_,_)=> [(4,(.one ⟨false,[.val (.bool false)]⟩))]
 |_,(_,_,_)=> []
def adY:Nat→oL→List (Nat×Entry)
 |0,(_,y1,y2)=> [(0,(.row false 2 ai3 y1)),(1,(.row false 2 ai3 y2))]
 |_,(_,y1,y2)=> [(0,(.row false 2 ai3 y1)),(1,(.row false 2 ai3 y2))]
def Ch:oL→LT oL
 |(y0,y1,y2)=> .ite (zY y0 y1) (.need [zZ y0,zY y0 y1,Dy y0 y1,zZ y0,Dz y0 y2,DA y0 y2] (.ite (DB y0 y1 y2) (.ext 0 [(0,0),(1,1)]) (.nrm ((DC y0),y1,y2) [(0,0),(1,1)]))) (.ext 1 [(0,0),(1,1)])
def Oa(s:St):Option oL:=
 (match s.look 5 with
 |some ⟨none,.one ⟨false,[.val (.int .i64 y0)]⟩⟩=>
 (match s.look 0 with
 |some ⟨none,.one ⟨false,[.ref 0]⟩⟩=>
 (match s.look 1 with
 |some ⟨none,.one ⟨false,[.ref 1]⟩⟩=>
 (match s.ent 0 with
 |some (.row false 2 (.int .i64) y1)=>
 (match s.ent 1 with
 |some (.row false 2 (.int .i64) y2)=>
 some (y0,y1,y2)
 |_=>none)
 |_=>none)
 |_=>none)
 |_=>none)
 |_=>none)
def fX:Lp oL where
 h:=⟨[11,12,13,14,17,18,19,20,21,22,23,24,25,4,15,16,5],[0,1],[],[]⟩
 JL:=adQ
 JE:=adI
 XL:=ad6
 XE:=adY
 q:=fun j=>match j with | 0=> .ret | _=> .exit 0
 tags:= [0,1]
 lt:=Ch
 fuel:=fun(y0,y1,y2)=>y0.natAbs + y1.length + y2.length
 fix:=fun(_,y1,y2) (y0,_,_)=>(y0,y1,y2)
 σ:= [(0,0),(1,1)]
 rd:=Oa
theorem abE:LoopOk prog (fun k=>Nat.blt k Tryz.f43.ntmps) fX.F (aY f43 0):=by
 refine Lp.ok (tbl:= []) (lf:= []) aV fX (by kernel_rfl) (LOk.nil _) (fun _=>rfl) (fun j _=>by unfold fX;match j with | 0=>rfl | _ + 1=>rfl) ?_ ?_ ?_ ?_ (fun _=>rfl) ?_
 ·rintro⟨y0,y1,y2⟩;kernel_rfl
 ·rintro⟨y0,y1,y2⟩;kernel_rfl
 ·intro s x h
  have h:Oa s=some x:=h
  unfold Oa at h
  repeat' split at h
  all_goals cases h
  constructor<;>repeat(first|refine ab (by assumption) rfl ?_|refine aa rfl (by assumption) rfl ?_|exact rfl)
 ·rintro⟨y0,y1,y2⟩;kernel_rfl
 ·rintro⟨y0,y1,y2⟩ z;exact(And.intro (And.intro trivial rfl) trivial)
section
variable (x0 x1:List Int)
def Ni:Bool:=(↑x0.length:Int)!=(↑x1.length:Int)
def Nj:Int×List Int×List Int:=((0:Int),x0,x1)
def OM:Bool:=bif Ni x0 x1 then false else bif Nat.beq ((Lp.res fX (Nj x0 x1)).1) 0 then false else true
def ON:Bool:=allT [Ni x0 x1||Lp.fin fX (Nj x0 x1)]
end
def aaM:List SV→List Entry→Option Out
 | [.one ⟨false,[.ref 0]⟩,.one ⟨false,[.ref 1]⟩],[.row false 2 (.int .i64) x0,.row false 2 (.int .i64) x1]=>some ⟨.one ⟨false,[.val (.bool (OM x0 x1))]⟩,[.row false 2 ai3 x0,.row false 2 ai3 x1],[],[ON x0 x1]⟩
 |_,_=>none
def ajg:PF prog:=PF.ofG prog [] [fX.F] aV 43 f43 func43 (LOk.fnT (l:= [aY f43 0]) (by kernel_rfl) (.cons abE (.nil _))) aaM (by
 intro vs es r h;unfold aaM at h;split at h
 ·cases h;kernel_rfl
 ·cases h)
def blk(p:Int):Int:=Int.tdiv p 3
def inR(a lo hi:Int):Bool:=leI lo a&&leI a hi
def eqL(xs ys:List Int):Bool:=decide (xs=ys)
theorem anj(xs:List Int):eqL xs xs=true:=by simp [eqL]
theorem Fw{a lo hi:Int}:inR a lo hi=true↔lo≤a∧a≤hi:=by simp [inR]
theorem YA(a lo hi:Int):(bif leI lo a then leI a hi else false)=inR a lo hi:=by
 unfold inR;cases leI lo a <;> rfl
def Dq(y1 y2:List Int)(b:Nat):(Unit)→Nat ⊕ (Unit)
 |_=>(bif(Option.getD y1[b]? 0!=Option.getD y2[b]? 0)then(.inl 0)else(.inr ()))
def vn(y1 y2:List Int)(i:Nat):(Unit)→oL
 |_=>((i:Int),y1,y2)
def NT:oL→Unit
 |(_,_,_)=>()
theorem agn(y1 y2:List Int) (hn:y1.length≤9223372036854775807) (he:y2.length=y1.length):
  fX.fin ((0:Int),y1,y2)=true∧fX.res ((0:Int),y1,y2)=((bc (Dq y1 y2) 1 (List.range y1.length) 0 ()).1,(vn y1 y2) (bc (Dq y1 y2) 1 (List.range y1.length) 0 ()).2.1 (bc (Dq y1 y2) 1 (List.range y1.length) 0 ()).2.2):=by
 have oi:=fX.along (vn y1 y2) NT (Dq y1 y2) 1 (fun _ _=>True) (List.range y1.length) () (by trivial) (by simp only [fX,vn,List.length_range];omega) (fun i b a hb hI=> ?_) (fun a hI=> ?_)
 ·exact oi
 ·obtain⟨⟩:=a
  obtain⟨rfl,gV⟩:=Ql hb
  have hw:IntKind.i64.wrap ((b:Int) + 1)=((b + 1:Nat):Int):=by rw [bi (by omega) (by omega)];omega
  have fA:ltI (b:Int) (y1.length:Int)=true:=fv (by omega)
  have Gz:leI (0:Int) (b:Int)=true:=cM (by omega)
  have qn:ltN b y1.length=true:=gM (by omega)
  refine⟨?_,?_,?_,?_⟩
  ·simp [zY,zZ,Dy,Dz,DA,DB,DC,Ch,fX,LT.nds,allT,vn,fA,Gz,qn,he]
  ·simp [zY,zZ,Dy,Dz,DA,DB,DC,Ch,fX,LT.each,vn,NT,hw,he]
  ·simp only [zY,zZ,Dy,Dz,DA,DB,DC,Ch,fX,LT.fn,vn,NT,Dq,Int.toNat_natCast,fA,cond_true]
  ·exact fun _ _=>trivial
 ·obtain⟨⟩:=a
  simp [zY,zZ,Dy,Dz,DA,DB,DC,Ch,fX,LT.out,vn,List.length_range]
theorem anF(xs ys:List Int)(hn:leN xs.length 9223372036854775807=true):OM xs ys=eqL xs ys∧ON xs ys=true:=by
 have hn:=jD.1 hn
 unfold eqL
 by_cases hl:ys.length=xs.length
 ·obtain⟨w1,w2⟩:=agn xs ys hn hl
  have ha:=aqs (d:=(0:Int)) hl (P:=fun b=>Option.getD xs[b]? 0 !=Option.getD ys[b]? 0) (fun b=>by simp [bne,BEq.beq])
  rw [kn (P:=fun b=>Option.getD xs[b]? 0 !=Option.getD ys[b]? 0) (j:=0) (fun b=>rfl),ha]at w2
  simp only [Ni,Nj,OM,ON,w1,w2,allT]
  by_cases he:xs=ys
  ·subst he;simp;decide
  ·simp [he,hl]
 ·have Vf:xs≠ys:=fun h=>hl (by rw [h])
  simp [Ni,Nj,OM,ON,allT,Vf]
  omega
def aa1:List SV→List Entry→Option Out
 | [.one ⟨false,[.ref 0]⟩,.one ⟨false,[.ref 1]⟩],[.row false 2 (.int .i64) x0,.row false 2 (.int .i64) x1]=>some ⟨.one ⟨false,[.val (.bool (eqL x0 x1))]⟩,[.row false 2 ai3 x0,.row false 2 ai3 x1],[],[leN x0.length 9223372036854775807]⟩
 |_,_=>none
def Fa:PF prog:=PF.alt ajg aa1 (by
 intro args es o h cD;unfold aa1 at h;split at h
 ·rename_i x0 x1
  cases h
  have cD:=ln cD
  have hh:=anF x0 x1 cD
  obtain⟨e0,en⟩:=hh
  exact qy rfl (kw en) (by simp only [e0] <;> rfl) rfl rfl
 ·cases h)
theorem aqy(xs:List Int)(h:(leN 1 xs.length&&leN xs.length 1048576)=true):yk xs=true:=by
 simp only [Bool.and_eq_true,jD]at h
 simp [yk,allT]
 omega
def aix:List SV→List Entry→Option Out
 | [.one ⟨false,[.val (.slice none 0 0)]⟩],[]=>some ⟨.one ⟨false,[.ref 0]⟩,[],[.row true 2 (.int .i64) []],[true]⟩
 |_,_=>none
def anQ:PF prog:=PF.ofG prog [PF.raw prog] [] aV 194 f194 func194 (fun c _=>LOk.nil c) aix (by
 intro vs es r h;unfold aix at h;split at h
 ·cases h;kernel_rfl
 ·cases h)
def aiw:List SV→List Entry→Option Out
 | [.one ⟨false,[.val (.slice (some _) 0 _)]⟩],[]=>some ⟨.one ⟨false,[.ref 0]⟩,[],[.row true 2 (.int .i64) []],[true]⟩
 |_,_=>none
def anP:PF prog:=PF.ofG prog [] [] aV 194 f194 func194 (fun c _=>LOk.nil c) aiw (by
 intro vs es r h;unfold aiw at h;split at h
 ·cases h;kernel_rfl
 ·cases h)
def Mc:List SV→List Entry→Option Out
 | [.one ⟨false,[.ref 0]⟩],[.row false 2 (.int .i64) x0]=>some ⟨.one ⟨false,[.ref 1]⟩,[.row false 2 (.int .i64) x0],[.row true 2 (.int .i64) x0],[leN x0.length 1048576]⟩
 |_,_=>none
def DN:PF prog where
 k:=194
 F:=Mc
 ok:=by
  intro args es o h cD mem ρ w hp
  unfold Mc at h
  split at h
  ·rename_i x0
   cases h
   have hl:=cD _ (List.mem_singleton.2 rfl)
   cases x0 with
   |nil=>
    exact(aqx anQ anP rfl rfl rfl (fun _ _=>rfl) (by simp) (by simp) hp).mono fun en w' ⟨ρ',h1,h2,h3⟩=>⟨ρ',h1,h2,rfl,(by intro v hv;rw [List.mem_singleton.1 hv];rfl),h3⟩
   |cons x xs=>exact Wb.ok _ _ ⟨_,_,_,[yk (x::xs)]⟩ rfl (fun b hb=>by rw [List.mem_singleton.1 hb];exact aqy (x::xs) ((Bool.and_eq_true _ _).mpr ⟨ci (Nat.succ_pos _),hl⟩)) mem ρ w hp
  ·cases h
theorem ash(xs:List Int)(h:leN xs.length 1048576=true):YP xs=true:=by
 have h:=jD.1 h
 simp [YP,allT]
 omega
def aeA:List SV→List Entry→Option Out
 | [.one ⟨false,[.ref 0]⟩],[.row false 2 (.int .i64) x0]=>some ⟨.one ⟨false,[.ref 1]⟩,[.row false 2 ai3 x0],[.row true 2 ai3 x0],[leN x0.length 1048576]⟩
 |_,_=>none
def cj:PF prog:=PF.alt als aeA (by
 intro args es o h cD;unfold aeA at h;split at h
 ·rename_i x0
  cases h
  have cD:=ln cD
  have hh:=ash x0 cD
  have en:=hh
  exact qy rfl (kw en) rfl rfl rfl
 ·cases h)
def HS(x0:Int):Bool:=bif leI 97 x0 then leI x0 122 else false
def Za:List SV→List Entry→Option Out
 | [.one ⟨false,[.val (.int .u8 x0)]⟩],[]=>some ⟨.one ⟨false,[.val (.bool (HS x0))]⟩,[],[],[]⟩
 |_,_=>none
def SQ:PF prog:=PF.ofG prog [] [] aV 277 f277 func277 (fun c _=>LOk.nil c) Za (by
 intro vs es r h;unfold Za at h;split at h
 ·cases h;kernel_rfl
 ·cases h)
def UD(x0:Int):Bool:=bif leI 48 x0 then leI x0 57 else false
def aaO:List SV→List Entry→Option Out
 | [.one ⟨false,[.val (.int .u8 x0)]⟩],[]=>some ⟨.one ⟨false,[.val (.bool (UD x0))]⟩,[],[],[]⟩
 |_,_=>none
def aji:PF prog:=PF.ofG prog [] [] aV 280 f280 func280 (fun c _=>LOk.nil c) aaO (by
 intro vs es r h;unfold aaO at h;split at h
 ·cases h;kernel_rfl
 ·cases h)
def OR(x0:Int):Bool:=bif bif HS x0 then true else UD x0 then true else x0==95
def aaP:List SV→List Entry→Option Out
 | [.one ⟨false,[.val (.int .u8 x0)]⟩],[]=>some ⟨.one ⟨false,[.val (.bool (OR x0))]⟩,[],[],[]⟩
 |_,_=>none
def aa9:PF prog:=PF.ofG prog [SQ,aji] [] aV 276 f276 func276 (fun c _=>LOk.nil c) aaP (by
 intro vs es r h;unfold aaP at h;split at h
 ·cases h;kernel_rfl
 ·cases h)
abbrev vr:=Int×ByteArray
section
variable (y0:Int)(y1:ByteArray)
def FC:Bool:=ltI y0 (↑(ByteArray.size y1):Int)
def XO:Bool:=leI 0 y0
def RA:Bool:= !OR (↑(UInt8.toNat (Option.getD y1[Int.toNat y0]? (0:UInt8))):Int)
def XP:Int:=IntKind.wrap .i64 (y0 + (1:Int))
end
def ae0:vr→List (Nat×SV)
 |(y0,y1)=> [(3,(.one ⟨false,[.val (.int .i64 y0)]⟩)),(0,(.one ⟨false,[.val (.string y1)]⟩))]
def aeU:vr→List (Nat×Entry)
 |(_,_)=> []
def afc:Nat→vr→List (Nat×SV)
 |0,(_,_)=> [(2,(.one ⟨false,[.val (.bool false)]⟩))]
 |_,(_,_)=> []
def ae6:Nat→vr→List (Nat×Entry)
 |0,(_,_)=> []
 |_,(_,_)=> []
def DJ:vr→LT vr
 |(y0,y1)=> .ite (FC y0 y1) (.need [XO y0,FC y0 y1] (.ite (RA y0 y1) (.ext 0 []) (.nrm ((XP y0),y1) []))) (.ext 1 [])
def Pv(s:St):Option vr:=
 (match s.look 3 with
 |some ⟨none,.one ⟨false,[.val (.int .i64 y0)]⟩⟩=>
 (match s.look 0 with
 |some ⟨none,.one ⟨false,[.val (.string y1)]⟩⟩=>
 some (y0,y1)
 |_=>none)
 |_=>none)
def iw:Lp vr where
 h:=⟨[4,5,6,7,10,11,12,13,14,2,8,9,3],[],[],[]⟩
 JL:=ae0
 JE:=aeU
 XL:=afc
 XE:=ae6
 q:=fun j=>match j with | 0=> .ret | _=> .exit 0
 tags:= [0,1]
 lt:=DJ
 fuel:=fun(y0,y1)=>y0.natAbs + y1.size
 fix:=fun(_,y1) (y0,_)=>(y0,y1)
 σ:= []
 rd:=Pv
theorem acX:LoopOk prog (fun k=>Nat.blt k Tryz.f266.ntmps) iw.F (aY f266 0):=by
 refine Lp.ok (tbl:= [yf,aa9,SQ]) (lf:= []) aV iw (by kernel_rfl) (LOk.nil _) (fun _=>rfl) (fun j _=>by unfold iw;match j with | 0=>rfl | _ + 1=>rfl) ?_ ?_ ?_ ?_ (fun _=>rfl) ?_
 ·rintro⟨y0,y1⟩;kernel_rfl
 ·rintro⟨y0,y1⟩;kernel_rfl
 ·intro s x h
  have h:Pv s=some x:=h
  unfold Pv at h
  repeat' split at h
  all_goals cases h
  exact⟨ab (by assumption) rfl (ab (by assumption) rfl (rfl)),rfl⟩
 ·rintro⟨y0,y1⟩;kernel_rfl
 ·rintro⟨y0,y1⟩ z;exact(And.intro (And.intro trivial rfl) trivial)
section
variable (x0:ByteArray)
def OS:Bool:=Nat.beq ((Lp.res iw ((0:Int),x0)).1) 0
def OT:Bool:=bL (↑(ByteArray.size x0):Int) 1 12
def Ww:Bool:=bif OS x0 then false else bif OT x0 then HS (↑(UInt8.toNat (Option.getD x0[Int.toNat 0]? (0:UInt8))):Int)else false
def Wx:Bool:=allT [Lp.fin iw ((0:Int),x0),OS x0||(!(OT x0&&true)||leI 0 0),OS x0||(!(OT x0&&true)||ltI 0 (↑(ByteArray.size x0):Int))]
end
def abZ:List SV→List Entry→Option Out
 | [.one ⟨false,[.val (.string x0)]⟩],[]=>some ⟨.one ⟨false,[.val (.bool (Ww x0))]⟩,[],[],[Wx x0]⟩
 |_,_=>none
def akF:PF prog:=PF.ofG prog [yf,aa9,SQ] [iw.F] aV 266 f266 func266 (LOk.fnT (l:= [aY f266 0]) (by kernel_rfl) (.cons acX (.nil _))) abZ (by
 intro vs es r h;unfold abZ at h;split at h
 ·cases h;kernel_rfl
 ·cases h)
def PC:List ByteArray:=
 [{ data:= #[(112:UInt8),(114:UInt8),(111:UInt8),(103:UInt8),(114:UInt8),(97:UInt8),(109:UInt8)] },
 {data:= #[(105:UInt8),(110:UInt8)] },{ data:= #[(118:UInt8),(97:UInt8),(114:UInt8)] },
 {data:= #[(111:UInt8),(117:UInt8),(116:UInt8)] },{ data:= #[(103:UInt8),(117:UInt8),(97:UInt8),(114:UInt8),(100:UInt8)] },
 {data:= #[(101:UInt8),(110:UInt8),(100:UInt8)] },{ data:= #[(97:UInt8),(110:UInt8),(100:UInt8)] },
 {data:= #[(111:UInt8),(114:UInt8)] },{ data:= #[(110:UInt8),(111:UInt8),(116:UInt8)] },
 {data:= #[(116:UInt8),(114:UInt8),(117:UInt8),(101:UInt8)] },
 {data:= #[(102:UInt8),(97:UInt8),(108:UInt8),(115:UInt8),(101:UInt8)] },{ data:= #[(111:UInt8),(110:UInt8)] },
 {data:= #[(111:UInt8),(102:UInt8),(102:UInt8)] },{ data:= #[(114:UInt8),(105:UInt8),(115:UInt8),(101:UInt8)] },
 {data:= #[(108:UInt8),(97:UInt8),(116:UInt8),(99:UInt8),(104:UInt8)] },
 {data:= #[(99:UInt8),(111:UInt8),(117:UInt8),(110:UInt8),(116:UInt8)] },
 {data:= #[(112:UInt8),(97:UInt8),(105:UInt8),(114:UInt8)] }]
def Vt:List SV→List Entry→Option Out
 | [],[]=>some ⟨.one ⟨false,[.ref 0]⟩,[],[.row true 9 alP (PC)],[]⟩
 |_,_=>none
def Wc:PF prog:=PF.ofG prog [] [] aV 278 f278 func278 (fun c _=>LOk.nil c) Vt (by
 intro vs es r h;unfold Vt at h;split at h
 ·cases h;kernel_rfl
 ·cases h)
abbrev lL:=Int×ByteArray×List ByteArray
section
variable (y0:Int)(y1:ByteArray)(y2:List ByteArray)
def xc:Bool:=ltI y0 (↑y2.length:Int)
def Bc:Bool:=leI 0 y0
def Bd:Bool:=ltN y0.toNat y2.length
def Be:Bool:=ByteArray.toList (Option.getD y2[Int.toNat y0]? ByteArray.empty)==ByteArray.toList y1
def Bf:Int:=IntKind.wrap .i64 (y0 + (1:Int))
end
def abn:lL→List (Nat×SV)
 |(y0,y1,_)=> [(4,(.one ⟨false,[.val (.int .i64 y0)]⟩)),(3,(.one ⟨false,[.ref 0]⟩)),(0,(.one ⟨false,[.val (.string y1)]⟩))]
def abi:lL→List (Nat×Entry)
 |(_,_,y2)=> [(0,(.row true 9 alP y2))]
def abx:Nat→lL→List (Nat×SV)
 |0,(y0,_,_)=> [(2,(.one ⟨false,[.val (.int .i64 y0)]⟩))]
 |_,(_,_,_)=> []
def abs:Nat→lL→List (Nat×Entry)
 |0,(_,_,y2)=> [(0,(.row true 9 alP y2))]
 |_,(_,_,y2)=> [(0,(.row true 9 alP y2))]
def zx:lL→LT lL
 |(y0,y1,y2)=> .ite (xc y0 y2) (.need [Bc y0,xc y0 y2,Bd y0 y2] (.ite (Be y0 y1 y2) (.ext 0 [(0,0)]) (.nrm ((Bf y0),y1,y2) [(0,0)]))) (.ext 1 [(0,0)])
def KI(s:St):Option lL:=
 (match s.look 4 with
 |some ⟨none,.one ⟨false,[.val (.int .i64 y0)]⟩⟩=>
 (match s.look 3 with
 |some ⟨none,.one ⟨false,[.ref 128]⟩⟩=>
 (match s.look 0 with
 |some ⟨none,.one ⟨false,[.val (.string y1)]⟩⟩=>
 (match s.ent 128 with
 |some (.row true 9 (.str) y2)=>
 some (y0,y1,y2)
 |_=>none)
 |_=>none)
 |_=>none)
 |_=>none)
def dQ:Lp lL where
 h:=⟨[6,7,8,9,12,13,14,15,16,17,18,2,10,11,4],[0],[],[]⟩
 JL:=abn
 JE:=abi
 XL:=abx
 XE:=abs
 q:=fun j=>match j with | 0=> .ret | _=> .exit 0
 tags:= [0,1]
 lt:=zx
 fuel:=fun(y0,y1,y2)=>y0.natAbs + y1.size + y2.length
 fix:=fun(_,y1,y2) (y0,_,_)=>(y0,y1,y2)
 σ:= [(0,128)]
 rd:=KI
theorem Zs:LoopOk prog (fun k=>Nat.blt k Tryz.f267.ntmps) dQ.F (aY f267 0):=by
 refine Lp.ok (tbl:= [Wc]) (lf:= []) aV dQ (by kernel_rfl) (LOk.nil _) (fun _=>rfl) (fun j _=>by unfold dQ;match j with | 0=>rfl | _ + 1=>rfl) ?_ ?_ ?_ ?_ (fun _=>rfl) ?_
 ·rintro⟨y0,y1,y2⟩;kernel_rfl
 ·rintro⟨y0,y1,y2⟩;kernel_rfl
 ·intro s x h
  have h:KI s=some x:=h
  unfold KI at h
  repeat' split at h
  all_goals cases h
  constructor<;>repeat(first|refine ab (by assumption) rfl ?_|refine aa rfl (by assumption) rfl ?_|exact rfl)
 ·rintro⟨y0,y1,y2⟩;kernel_rfl
 ·rintro⟨y0,y1,y2⟩ z;exact(And.intro (And.intro trivial rfl) trivial)
section
variable (x0:ByteArray)
def Js:Int×ByteArray×List ByteArray:=((0:Int),x0,PC)
def Lr:Int:=bif Nat.beq ((Lp.res dQ (Js x0)).1) 0 then ((Lp.res dQ (Js x0)).2).1else(-1:Int)
def Lt:Bool:=allT [Lp.fin dQ (Js x0)]
end
def Xo:List SV→List Entry→Option Out
 | [.one ⟨false,[.val (.string x0)]⟩],[]=>some ⟨.one ⟨false,[.val (.int .i64 (Lr x0))]⟩,[],[],[Lt x0]⟩
 |_,_=>none
def ahe:PF prog:=PF.ofG prog [Wc] [dQ.F] aV 267 f267 func267 (LOk.fnT (l:= [aY f267 0]) (by kernel_rfl) (.cons Zs (.nil _))) Xo (by
 intro vs es r h;unfold Xo at h;split at h
 ·cases h;kernel_rfl
 ·cases h)
def xU(x0:ByteArray)(x1:Int):Int:=ibs x0 x1
def Fi:List SV→List Entry→Option Out
 | [.one ⟨false,[.val (.string x0)]⟩,.one ⟨false,[.val (.int .u8 x1)]⟩],[]=>some ⟨.one ⟨false,[.val (.int .i64 (xU x0 x1))]⟩,[],[],[]⟩
 |_,_=>none
def Rc:PF prog:=PF.ofG prog [] [] aV 279 f279 func279 (fun c _=>LOk.nil c) Fi (by
 intro vs es r h;unfold Fi at h;split at h
 ·cases h;kernel_rfl
 ·cases h)
def Hi(x0:ByteArray)(x1:Int):Int:=xU x0 x1
def UQ:List SV→List Entry→Option Out
 | [.one ⟨false,[.val (.string x0)]⟩,.one ⟨false,[.val (.int .u8 x1)]⟩],[]=>some ⟨.one ⟨false,[.val (.int .i64 (Hi x0 x1))]⟩,[],[],[]⟩
 |_,_=>none
def NQ:PF prog:=PF.ofG prog [Rc] [] aV 273 f273 func273 (fun c _=>LOk.nil c) UQ (by
 intro vs es r h;unfold UQ at h;split at h
 ·cases h;kernel_rfl
 ·cases h)
abbrev CX:=Int×Int×ByteArray×ByteArray
section
variable (y0 y1:Int)(y2 y3:ByteArray)
def AM:Bool:=ltI (IntKind.wrap .i64 (y0 + y1)) (↑(ByteArray.size y2):Int)
def Yy:Bool:= !(AM y0 y1 y2&&true)||leI 0 (IntKind.wrap .i64 (y0 + y1))
def Yz:Bool:= !(AM y0 y1 y2&&true)||AM y0 y1 y2
def Tj:Bool:=bif AM y0 y1 y2 then leI 0 (Hi y3 (↑(UInt8.toNat (Option.getD y2[Int.toNat (IntKind.wrap .i64 (y0 + y1))]? (0:UInt8))):Int))else false
def aeG:Int:=IntKind.wrap .i64 (y1 + (1:Int))
end
def ajB:CX→List (Nat×SV)
 |(y0,y1,y2,y3)=> [(1,(.one ⟨false,[.val (.int .i64 y0)]⟩)),(7,(.one ⟨false,[.val (.int .i64 y1)]⟩)),(0,(.one ⟨false,[.val (.string y2)]⟩)),(2,(.one ⟨false,[.val (.string y3)]⟩))]
def ajz:CX→List (Nat×Entry)
 |(_,_,_,_)=> []
def ajI:Nat→CX→List (Nat×SV)
 |_,(_,y1,_,_)=> [(7,(.one ⟨false,[.val (.int .i64 y1)]⟩))]
def ajG:Nat→CX→List (Nat×Entry)
 |_,(_,_,_,_)=> []
def Mw:CX→LT CX
 |(y0,y1,y2,y3)=> .need [Yy y0 y1 y2,Yz y0 y1 y2] (.ite (Tj y0 y1 y2 y3) (.nrm (y0,aeG y1,y2,y3) []) (.ext 0 []))
def Wh(s:St):Option CX:=
 (match s.look 1 with
 |some ⟨none,.one ⟨false,[.val (.int .i64 y0)]⟩⟩=>
 (match s.look 7 with
 |some ⟨none,.one ⟨false,[.val (.int .i64 y1)]⟩⟩=>
 (match s.look 0 with
 |some ⟨none,.one ⟨false,[.val (.string y2)]⟩⟩=>
 (match s.look 2 with
 |some ⟨none,.one ⟨false,[.val (.string y3)]⟩⟩=>
 some (y0,y1,y2,y3)
 |_=>none)
 |_=>none)
 |_=>none)
 |_=>none)
def lD:Lp CX where
 h:=⟨[8,9,10,11,12,13,14,15,16,17,18,19,20,21,22,23,24,25,7],[],[],[]⟩
 JL:=ajB
 JE:=ajz
 XL:=ajI
 XE:=ajG
 q:=fun j=>match j with | _=> .exit 0
 tags:= [0]
 lt:=Mw
 fuel:=fun(y0,y1,y2,y3)=>y0.natAbs + y1.natAbs + y2.size + y3.size
 fix:=fun(y0,_,y2,y3) (_,y1,_,_)=>(y0,y1,y2,y3)
 σ:= []
 rd:=Wh
theorem ahX:LoopOk prog (fun k=>Nat.blt k Tryz.f274.ntmps) lD.F (aY f274 0):=by
 refine Lp.ok (tbl:= [NQ]) (lf:= []) aV lD (by kernel_rfl) (LOk.nil _) (fun _=>rfl) (fun _ _=>rfl) ?_ ?_ ?_ ?_ (fun _=>rfl) ?_
 ·rintro⟨y0,y1,y2,y3⟩;kernel_rfl
 ·rintro⟨y0,y1,y2,y3⟩;kernel_rfl
 ·intro s x h
  have h:Wh s=some x:=h
  unfold Wh at h
  repeat' split at h
  all_goals cases h
  exact⟨ab (by assumption) rfl (ab (by assumption) rfl (ab (by assumption) rfl (ab (by assumption) rfl (rfl)))),rfl⟩
 ·rintro⟨y0,y1,y2,y3⟩;kernel_rfl
 ·rintro⟨y0,y1,y2,y3⟩ z;exact(And.intro rfl trivial)
section
variable (x0:ByteArray)(x1:Int)(x2:ByteArray)
def aiI:Int×Int×ByteArray×ByteArray:=(x1,(0:Int),x0,x2)
def akb:Int:=((Lp.res lD (aiI x0 x1 x2)).2.2).1
def akc:Bool:=allT [Lp.fin lD (aiI x0 x1 x2)]
end
def ajw:List SV→List Entry→Option Out
 | [.one ⟨false,[.val (.string x0)]⟩,.one ⟨false,[.val (.int .i64 x1)]⟩,.one ⟨false,[.val (.string x2)]⟩],[]=>some ⟨.one ⟨false,[.val (.int .i64 (akb x0 x1 x2))]⟩,[],[],[akc x0 x1 x2]⟩
 |_,_=>none
def ao0:PF prog:=PF.ofG prog [NQ] [lD.F] aV 274 f274 func274 (LOk.fnT (l:= [aY f274 0]) (by kernel_rfl) (.cons ahX (.nil _))) ajw (by
 intro vs es r h;unfold ajw at h;split at h
 ·cases h;kernel_rfl
 ·cases h)
def AL(x0:ByteArray):Bool:=wa (↑(ByteArray.size x0):Int) 1 12
def HD(x0:ByteArray):Bool:=
 bif AL x0 then
 leI (0:Int)
  (Hi
   {
    data:=
     #[(97:UInt8),(98:UInt8),(99:UInt8),(100:UInt8),(101:UInt8),(102:UInt8),(103:UInt8),(104:UInt8),(105:UInt8),
      (106:UInt8),(107:UInt8),(108:UInt8),(109:UInt8),(110:UInt8),(111:UInt8),(112:UInt8),(113:UInt8),(114:UInt8),
      (115:UInt8),(116:UInt8),(117:UInt8),(118:UInt8),(119:UInt8),(120:UInt8),(121:UInt8),(122:UInt8)] }
   (↑(UInt8.toNat (Option.getD x0[Int.toNat (0:Int)]? (0:UInt8))):Int))
 else false
def Yw(x0:ByteArray):Bool:=
 bif HD x0 then
 akb x0 (0:Int)
   {
    data:=
     #[(97:UInt8),(98:UInt8),(99:UInt8),(100:UInt8),(101:UInt8),(102:UInt8),(103:UInt8),(104:UInt8),(105:UInt8),
      (106:UInt8),(107:UInt8),(108:UInt8),(109:UInt8),(110:UInt8),(111:UInt8),(112:UInt8),(113:UInt8),(114:UInt8),
      (115:UInt8),(116:UInt8),(117:UInt8),(118:UInt8),(119:UInt8),(120:UInt8),(121:UInt8),(122:UInt8),(48:UInt8),
      (49:UInt8),(50:UInt8),(51:UInt8),(52:UInt8),(53:UInt8),(54:UInt8),(55:UInt8),(56:UInt8),(57:UInt8),
      (95:UInt8)] } ==
  (↑(ByteArray.size x0):Int)
 else false
def Yx(x0:ByteArray):Bool:=
 allT
 [!(AL x0&&true)||leI (0:Int) (0:Int),!(AL x0&&true)||ltI (0:Int) (↑(ByteArray.size x0):Int),
  !(HD x0&&true)||
   akc x0 (0:Int)
    {
     data:=
      #[(97:UInt8),(98:UInt8),(99:UInt8),(100:UInt8),(101:UInt8),(102:UInt8),(103:UInt8),(104:UInt8),(105:UInt8),
       (106:UInt8),(107:UInt8),(108:UInt8),(109:UInt8),(110:UInt8),(111:UInt8),(112:UInt8),(113:UInt8),(114:UInt8),
       (115:UInt8),(116:UInt8),(117:UInt8),(118:UInt8),(119:UInt8),(120:UInt8),(121:UInt8),(122:UInt8),(48:UInt8),
       (49:UInt8),(50:UInt8),(51:UInt8),(52:UInt8),(53:UInt8),(54:UInt8),(55:UInt8),(56:UInt8),(57:UInt8),
       (95:UInt8)] }]
def aep:List SV→List Entry→Option Out
 | [.one ⟨false,[.val (.string x0)]⟩],[]=>some ⟨.one ⟨false,[.val (.bool (Yw x0))]⟩,[],[],[Yx x0]⟩
 |_,_=>none
def alq:PF prog:=PF.ofG prog [YL,NQ,ao0] [] aV 257 f257 func257 (fun c _=>LOk.nil c) aep (by
 intro vs es r h;unfold aep at h;split at h
 ·cases h;kernel_rfl
 ·cases h)
abbrev dF:=Int×Int×ByteArray×List ByteArray
section
variable (y0 y1:Int)(y2:ByteArray)(y3:List ByteArray)
def pv:Bool:=ltI y0 y1
def pw:Bool:=leI 0 y0
def px:Bool:=ltI y0 (↑y3.length:Int)
def py:Bool:=ltN y0.toNat y3.length
def pz:Bool:=ByteArray.toList y2==ByteArray.toList (Option.getD y3[Int.toNat y0]? ByteArray.empty)
def pA:Int:=IntKind.wrap .i64 (y0 + (1:Int))
end
def QJ:dF→List (Nat×SV)
 |(y0,y1,y2,_)=> [(8,(.one ⟨false,[.val (.int .i64 y0)]⟩)),(7,(.one ⟨false,[.val (.int .i64 y1)]⟩)),(1,(.one ⟨false,[.val (.string y2)]⟩)),(0,(.one ⟨false,[.ref 0]⟩))]
def QI:dF→List (Nat×Entry)
 |(_,_,_,y3)=> [(0,(.row false 9 alP y3))]
def QL:Nat→dF→List (Nat×SV)
 |0,(y0,_,_,_)=> [(4,(.one ⟨false,[.val (.int .i64 y0)]⟩))]
 |_,(_,_,_,_)=> []
def QK:Nat→dF→List (Nat×Entry)
 |0,(_,_,_,y3)=> [(0,(.row false 9 alP y3))]
 |_,(_,_,_,y3)=> [(0,(.row false 9 alP y3))]
def oo:dF→LT dF
 |(y0,y1,y2,y3)=> .ite (pv y0 y1) (.need [pw y0,px y0 y3,py y0 y3] (.ite (pz y0 y2 y3) (.ext 0 [(0,0)]) (.nrm ((pA y0),y1,y2,y3) [(0,0)]))) (.ext 1 [(0,0)])
def yj(s:St):Option dF:=
 (match s.look 8 with
 |some ⟨none,.one ⟨false,[.val (.int .i64 y0)]⟩⟩=>
 (match s.look 7 with
 |some ⟨none,.one ⟨false,[.val (.int .i64 y1)]⟩⟩=>
 (match s.look 1 with
 |some ⟨none,.one ⟨false,[.val (.string y2)]⟩⟩=>
 (match s.look 0 with
 |some ⟨none,.one ⟨false,[.ref 0]⟩⟩=>
 (match s.ent 0 with
 |some (.row false 9 (.str) y3)=>
 some (y0,y1,y2,y3)
 |_=>none)
 |_=>none)
 |_=>none)
 |_=>none)
 |_=>none)
def aW:Lp dF where
 h:=⟨[9,10,5,11,12,13,14,15,16,17,4,18,8],[0],[],[]⟩
 JL:=QJ
 JE:=QI
 XL:=QL
 XE:=QK
 q:=fun j=>match j with | 0=> .ret | _=> .exit 0
 tags:= [0,1]
 lt:=oo
 fuel:=fun(y0,y1,y2,y3)=>y0.natAbs + y1.natAbs + y2.size + y3.length
 fix:=fun(_,y1,y2,y3) (y0,_,_,_)=>(y0,y1,y2,y3)
 σ:= [(0,0)]
 rd:=yj
theorem Pn:LoopOk prog (fun k=>Nat.blt k Tryz.f120.ntmps) aW.F (aY f120 0):=by
 refine Lp.ok (tbl:= []) (lf:= []) aV aW (by kernel_rfl) (LOk.nil _) (fun _=>rfl) (fun j _=>by unfold aW;match j with | 0=>rfl | _ + 1=>rfl) ?_ ?_ ?_ ?_ (fun _=>rfl) ?_
 ·rintro⟨y0,y1,y2,y3⟩;kernel_rfl
 ·rintro⟨y0,y1,y2,y3⟩;kernel_rfl
 ·intro s x h
  have h:yj s=some x:=h
  unfold yj at h
  repeat' split at h
  all_goals cases h
  constructor<;>repeat(first|refine ab (by assumption) rfl ?_|refine aa rfl (by assumption) rfl ?_|exact rfl)
 ·rintro⟨y0,y1,y2,y3⟩;kernel_rfl
 ·rintro⟨y0,y1,y2,y3⟩ z;exact(And.intro (And.intro trivial rfl) trivial)
section
variable (x0:ByteArray)(x1:List ByteArray)
def qF:Int×Int×ByteArray×List ByteArray:=((0:Int),(↑x1.length:Int),x0,x1)
def rp:Int:=bif Nat.beq ((Lp.res aW (qF x0 x1)).1) 0 then ((Lp.res aW (qF x0 x1)).2).1else(-1:Int)
def rq:Bool:=allT [Lp.fin aW (qF x0 x1)]
end
def JN:List SV→List Entry→Option Out
 | [.one ⟨false,[.ref 0]⟩,.one ⟨false,[.val (.string x0)]⟩],[.row false 9 (.str) x1]=>some ⟨.one ⟨false,[.val (.int .i64 (rp x0 x1))]⟩,[.row false 9 alP x1],[],[rq x0 x1]⟩
 |_,_=>none
def wm:PF prog:=PF.ofG prog [] [aW.F] aV 120 f120 func120 (LOk.fnT (l:= [aY f120 0]) (by kernel_rfl) (.cons Pn (.nil _))) JN (by
 intro vs es r h;unfold JN at h;split at h
 ·cases h;kernel_rfl
 ·cases h)
def jj(x0:ByteArray)(x1:List ByteArray):Bool:=leI 0 (rp x0 x1)
def lG(x0:ByteArray)(x1:List ByteArray):Bool:=allT [rq x0 x1]
def Gx:List SV→List Entry→Option Out
 | [.one ⟨false,[.ref 0]⟩,.one ⟨false,[.val (.string x0)]⟩],[.row false 9 (.str) x1]=>some ⟨.one ⟨false,[.val (.bool (jj x0 x1))]⟩,[.row false 9 alP x1],[],[lG x0 x1]⟩
 |_,_=>none
def dG:PF prog:=PF.ofG prog (T3z [wm]) [] aV 234 f234 func234 (fun c _=>LOk.nil c) Gx (by
 intro vs es r h;unfold Gx at h;split at h
 ·cases h;kernel_rfl
 ·cases h)
def SG(x0:ByteArray):Bool:=jj x0 (List.drop (Int.toNat 0) (List.take (Int.toNat (↑(List.length ado):Int)) ado))
def SH(x0:ByteArray):Bool:=allT [lG x0 (List.drop (Int.toNat 0) (List.take (Int.toNat (↑(List.length ado):Int)) ado))]
def YU:List SV→List Entry→Option Out
 | [.one ⟨false,[.val (.string x0)]⟩],[]=>some ⟨.one ⟨false,[.val (.bool (SG x0))]⟩,[],[],[SH x0]⟩
 |_,_=>none
def aia:PF prog:=PF.ofG prog (T3z [dG]) [] aV 258 f258 func258 (fun c _=>LOk.nil c) YU (by
 intro vs es r h;unfold YU at h;split at h
 ·cases h;kernel_rfl
 ·cases h)
theorem Lp.scan{X:Type}(p:Lp X)(st:Nat→X)(N:Nat)(P:Nat→Bool)(e:Nat)(hN:N≤p.fuel (st 0))
  (hs: ∀ b,b < N→(p.lt (st b)).nds=true∧(p.lt (st b)).each (fun y=>y=st (b + 1))∧(p.lt (st b)).fn (fun _=>())=(bif P b then .inl 0 else .inr ()))
  (he:(p.lt (st N)).out=some (.inl e)):p.fin (st 0)=true∧(p.res (st 0)).1=bif(List.range N).any P then 0 else e:=by
 have oi:=p.along (fun i (_:Unit)=>st i) (fun _=>()) (fun(b:Nat) (_:Unit)=>bif P b then .inl 0 else .inr ()) e (fun _ _=>True) (List.range N) () trivial (by rw [List.length_range];exact hN)
  (fun i b a hb _=>by
   obtain⟨rfl,gV⟩:=Ql hb
   obtain⟨h1,h2,h3⟩:=hs b gV
   exact⟨h1,h2,h3,fun _ _=>trivial⟩) (fun a _=>by rw [List.length_range];exact he)
 rw [kn (P:=P) (j:=0) (fun b=>rfl)]at oi
 exact⟨oi.1,by rw [oi.2]⟩
def bAt(s:ByteArray)(b:Nat):Int:=((s[b]?.getD 0).toNat:Int)
def anE(c:Int):Bool:=inR c 97 122
def abC(c:Int):Bool:=anE c||(inR c 48 57||c==95)
def UZ(s:ByteArray):Bool:=inR (s.size:Int) 1 12&&(anE (bAt s 0)&&(List.range s.size).all fun b=>abC (bAt s b))
def aoR(s:ByteArray):Bool:=ado.any fun k=>k.toList==s.toList
def oJ(s:ByteArray):Bool:=UZ s&& !aoR s
def ar1:ByteArray:=⟨#[97,98,99,100,101,102,103,104,105,106,107,108,109,110,111,112,113,114,115,116,117,118,119,120,121,122]⟩
def wbS:ByteArray:=⟨#[97,98,99,100,101,102,103,104,105,106,107,108,109,110,111,112,113,114,115,116,117,118,119,120,121,122,48,49,50,51,52,53,54,55,56,57,95]⟩
theorem arn: ∀ n:Nat,n < 256→leI 0 (ibs ar1 (n:Int))=anE (n:Int):=by decide +kernel
theorem asp: ∀ n:Nat,n < 256→leI 0 (ibs wbS (n:Int))=abC (n:Int):=by decide +kernel
theorem ar2(s:ByteArray)(b:Nat):leI 0 (ibs ar1 (bAt s b))=anE (bAt s b):=arn _ (UInt8.toNat_lt _)
theorem asI(s:ByteArray)(b:Nat):leI 0 (ibs wbS (bAt s b))=abC (bAt s b):=asp _ (UInt8.toNat_lt _)
theorem aql(c:Int):OR c=abC c:=by
 simp only [OR,HS,UD,YA,abC,anE]
 cases inR c 97 122 <;> cases inR c 48 57 <;> rfl
theorem apo(s:ByteArray)(hn:s.size≤9223372036854775807):
  iw.fin ((0:Int),s)=true∧(iw.res ((0:Int),s)).1=bif(List.range s.size).any (fun b=> !abC (bAt s b))then 0 else 1:=by
 refine Lp.scan iw (fun b=>((b:Int),s)) s.size (fun b=> !abC (bAt s b)) 1 (by simp only [iw];omega) (fun b hb=> ?_) ?_
 ·have fA:ltI (b:Int) (s.size:Int)=true:=fv (by omega)
  have hw:IntKind.i64.wrap ((b:Int) + 1)=((b + 1:Nat):Int):=by rw [bi (by omega) (by omega)];omega
  have Gz:leI (0:Int) (b:Int)=true:=cM (by omega)
  have i2:RA (b:Int) s= !abC (bAt s b):=by simp only [RA,aql,Int.toNat_natCast,bAt]
  refine⟨?_,?_,?_⟩
  ·simp [iw,DJ,LT.nds,allT,FC,XO,fA,Gz]
  ·simp [iw,DJ,LT.each,XP,hw]
  ·simp only [iw,DJ,LT.fn,FC,fA,i2,cond_true]
 ·simp [iw,DJ,LT.out,FC]
theorem aob(s:ByteArray)(h:leN s.size 9223372036854775807=true):Ww s=UZ s∧Wx s=true:=by
 obtain⟨w1,w2⟩:=apo s (jD.1 h)
 have e5:((List.range s.size).any fun b=> !abC (bAt s b))= !(List.range s.size).all fun b=>abC (bAt s b):=by simp [List.all_eq_not_any_not]
 rw [e5]at w2
 have eb:((UInt8.toNat (Option.getD s[Int.toNat (0:Int)]? (0:UInt8)):Nat):Int)=bAt s 0:=rfl
 have h0:leI 0 0=true:=rfl
 simp only [Ww,Wx,OS,OT,w1,w2,eb,h0,HS,bL,YA,UZ,anE,allT,Bool.or_true,cond_true]
 cases hr:inR (s.size:Int) 1 12 with
 |false=>cases (List.range s.size).all fun b=>abC (bAt s b) <;> simp [Nat.beq]
 |true=>
  have:=Fw.1 hr
  rw [fv (by omega)]
  cases inR (bAt s 0) 97 122 <;> cases (List.range s.size).all fun b=>abC (bAt s b) <;> simp [Nat.beq]
theorem asH(s:ByteArray)(hn:s.size≤9223372036854775806):
  lD.fin ((0:Int),(0:Int),s,wbS)=true∧((lD.res ((0:Int),(0:Int),s,wbS)).2.2.1==(s.size:Int))=(List.range s.size).all fun b=>abC (bAt s b):=by
 have hz: ∀ i:Nat,i≤s.size→IntKind.i64.wrap ((0:Int) + (i:Int))=(i:Int):=fun i hi=>by rw [bi (by omega) (by omega)];omega
 have oi:=lD.along (fun i (_:Unit)=>((0:Int),(i:Int),s,wbS)) (fun _=>()) (fun(b:Nat) (_:Unit)=>bif !abC (bAt s b)then .inl 0 else .inr ()) 0 (fun _ _=>True) (List.range s.size) () trivial (by simp only [lD,List.length_range];omega)
  (fun i b a hb _=>by
   obtain⟨rfl,gV⟩:=Ql hb
   have fA:ltI (b:Int) (s.size:Int)=true:=fv (by omega)
   have Gz:leI (0:Int) (b:Int)=true:=cM (by omega)
   have hw:IntKind.i64.wrap ((b:Int) + 1)=((b + 1:Nat):Int):=by rw [bi (by omega) (by omega)];omega
   have ha:AM 0 (b:Int) s=true:=by simp only [AM,hz b (by omega),fA]
   have hb2:Tj 0 (b:Int) s wbS=abC (bAt s b):=by
    simp only [Tj,ha,cond_true,hz b (by omega),Int.toNat_natCast,Hi,xU]
    exact asI s b
   refine⟨?_,?_,?_,fun _ _=>trivial⟩
   ·have hz2:=hz b (by omega)
    rw [Int.zero_add]at hz2
    simp [lD,Mw,LT.nds,allT,Yy,Yz,ha,hz2]
   ·simp [lD,Mw,LT.each,aeG,hw]
   ·simp only [lD,Mw,LT.fn,hb2]
    cases abC (bAt s b) <;> rfl)
  (fun a _=>by
   have fA:ltI (s.size:Int) (s.size:Int)=false:=by simp
   have ha:AM 0 (s.size:Int) s=false:=by simp only [AM,hz s.size (by omega),fA]
   rw [List.length_range]
   simp [lD,Mw,LT.out,Tj,Yy,Yz,allT,ha])
 rw [kn (P:=fun b=> !abC (bAt s b)) (j:=0) (fun b=>rfl)]at oi
 refine⟨oi.1,?_⟩
 have k2:lD.res ((0:Int),(0:Int),s,wbS)=_:=oi.2
 rw [k2]
 simp only [Nat.zero_add]
 rw [Bool.eq_iff_iff,beq_iff_eq,List.all_eq_true]
 have hl: ∀ (l:List Nat) (P:Nat→Bool),(l.takeWhile P).length=l.length↔ ∀ x∈l,P x=true:=by
  intro l P
  induction l with
  |nil=>simp
  |cons a r ih=>
   rw [List.takeWhile_cons]
   cases h:P a with
   |false=>simp [h]
   |true=>simp [h,ih]
 have h2:=hl (List.range s.size) (fun b=> !!abC (bAt s b))
 rw [List.length_range]at h2
 constructor
 ·intro h x hx;have:=h2.1 (by exact_mod_cast h) x hx;simpa using this
 ·intro h;exact_mod_cast h2.2 (fun x hx=>by simpa using h x hx)
theorem anA(s:ByteArray):Yw s=UZ s∧Yx s=true:=by
 have eb:((UInt8.toNat (Option.getD s[Int.toNat (0:Int)]? (0:UInt8)):Nat):Int)=bAt s 0:=rfl
 have e0:AL s=inR (s.size:Int) 1 12:=by simp only [AL,wa,YA]
 have e1:HD s=(inR (s.size:Int) 1 12&&anE (bAt s 0)):=by
  have:HD s=bif AL s then leI 0 (ibs ar1 (bAt s 0))else false:=rfl
  rw [this,e0,ar2]
  cases inR (s.size:Int) 1 12 <;> rfl
 have e2:Yw s=bif HD s then(lD.res ((0:Int),(0:Int),s,wbS)).2.2.1==(s.size:Int)else false:=rfl
 have e3:Yx s=allT [!(AL s&&true)||leI (0) (0),!(AL s&&true)||ltI (0) (↑(ByteArray.size s)),!(HD s&&true)||allT [lD.fin ((0:Int),(0:Int),s,wbS)]]:=rfl
 have h0:leI 0 0=true:=rfl
 rw [e2,e3,e1,e0,h0]
 cases hr:inR (s.size:Int) 1 12 with
 |false=>simp [UZ,hr,allT]
 |true=>
  have:=Fw.1 hr
  obtain⟨w1,w2⟩:=asH s (by omega)
  rw [w1,w2,fv (by omega)]
  simp only [UZ,hr,allT,Bool.true_and,Bool.and_true,Bool.or_true,cond_true]
  cases anE (bAt s 0) <;> simp
def AK(y1 b:ByteArray):(Unit)→Nat ⊕ (Unit)
 |_=>(bif(ByteArray.toList (b)==ByteArray.toList y1)then(.inl 0)else(.inr ()))
def pG(y1:ByteArray)(y2:List ByteArray)(i:Nat):(Unit)→lL
 |_=>((i:Int),y1,y2)
def KG:lL→Unit
 |(_,_,_)=>()
theorem adp(y1:ByteArray)(y2:List ByteArray) (hn:y2.length≤9223372036854775807):
  dQ.fin ((0:Int),y1,y2)=true∧dQ.res ((0:Int),y1,y2)=((bc (AK y1) 1 y2 0 ()).1,(pG y1 y2) (bc (AK y1) 1 y2 0 ()).2.1 (bc (AK y1) 1 y2 0 ()).2.2):=by
 have oi:=dQ.along (pG y1 y2) KG (AK y1) 1 (fun _ _=>True) y2 () (by trivial) (by simp only [dQ,pG];omega) (fun i b a hb hI=> ?_) (fun a hI=> ?_)
 ·exact oi
 ·obtain⟨⟩:=a
  have gV:=(List.getElem?_eq_some_iff.1 hb).1
  have lH: ∀ d,Option.getD y2[i]? d=b:=fun d=>by rw [hb];rfl
  have hw:=yJ gV hn
  have fA:ltI (i:Int) (y2.length:Int)=true:=fv (by omega)
  have Gz:leI (0:Int) (i:Int)=true:=cM (by omega)
  have qn:ltN i y2.length=true:=gM gV
  refine⟨?_,?_,?_,?_⟩
  ·simp [xc,Bc,Bd,Be,Bf,zx,dQ,LT.nds,allT,pG,fA,Gz,qn,lH]
  ·simp [xc,Bc,Bd,Be,Bf,zx,dQ,LT.each,pG,KG,hw]
  ·simp only [xc,Bc,Bd,Be,Bf,zx,dQ,LT.fn,pG,KG,AK,Int.toNat_natCast,fA,Gz,qn,lH,cond_true,Bool.cond_self]
  ·exact fun _ _=>trivial
 ·obtain⟨⟩:=a
  simp [xc,Bc,Bd,Be,Bf,zx,dQ,LT.out,pG]
def pu(y2 b:ByteArray):(Unit)→Nat ⊕ (Unit)
 |_=>(bif(ByteArray.toList y2==ByteArray.toList b)then(.inl 0)else(.inr ()))
def ec(y2:ByteArray)(y3:List ByteArray)(i:Nat):(Unit)→dF
 |_=>((i:Int),(↑y3.length:Int),y2,y3)
def yh:dF→Unit
 |(_,_,_,_)=>()
theorem GC(y2:ByteArray)(y3:List ByteArray) (hn:y3.length≤9223372036854775807):
  aW.fin ((0:Int),(↑y3.length:Int),y2,y3)=true∧aW.res ((0:Int),(↑y3.length:Int),y2,y3)=((bc (pu y2) 1 y3 0 ()).1,(ec y2 y3) (bc (pu y2) 1 y3 0 ()).2.1 (bc (pu y2) 1 y3 0 ()).2.2):=by
 have oi:=aW.along (ec y2 y3) yh (pu y2) 1 (fun _ _=>True) y3 () (by trivial) (by simp only [aW,ec];omega) (fun i b a hb hI=> ?_) (fun a hI=> ?_)
 ·exact oi
 ·obtain⟨⟩:=a
  have gV:=(List.getElem?_eq_some_iff.1 hb).1
  have lH: ∀ d,Option.getD y3[i]? d=b:=fun d=>by rw [hb];rfl
  have hw:=yJ gV hn
  have fA:ltI (i:Int) (y3.length:Int)=true:=fv (by omega)
  have Gz:leI (0:Int) (i:Int)=true:=cM (by omega)
  have qn:ltN i y3.length=true:=gM gV
  refine⟨?_,?_,?_,?_⟩
  ·simp [pv,pw,px,py,pz,pA,oo,aW,LT.nds,allT,ec,fA,Gz,qn,lH]
  ·simp [pv,pw,px,py,pz,pA,oo,aW,LT.each,ec,yh,hw]
  ·simp only [pv,pw,px,py,pz,pA,oo,aW,LT.fn,ec,yh,pu,Int.toNat_natCast,fA,Gz,qn,lH,cond_true,Bool.cond_self]
  ·exact fun _ _=>trivial
 ·obtain⟨⟩:=a
  simp [pv,pw,px,py,pz,pA,oo,aW,LT.out,ec]
theorem arX:ado.length≤9223372036854775807:=by decide
theorem akR(s:ByteArray):ltI (Lr s) 0= !aoR s∧Lt s=true:=by
 have e0:PC=ado:=rfl
 obtain⟨w1,w2⟩:=adp s ado arX
 rw [kn (P:=fun k=>k.toList==s.toList) (j:=0) (fun k=>rfl)]at w2
 simp only [Lr,Lt,Js,e0,w1,w2,allT,aoR,pG]
 cases ado.any fun k=>k.toList==s.toList with
 |false=>exact⟨rfl,rfl⟩
 |true=>
  simp only [cond_true,Nat.beq]
  refine⟨?_,trivial⟩
  exact aaw.2 (by omega)
theorem aoO(s:ByteArray):SG s=aoR s∧SH s=true:=by
 have e0:List.drop (Int.toNat (0)) (List.take (Int.toNat (↑(List.length ado))) ado)=ado:=rfl
 obtain⟨w1,w2⟩:=GC s ado arX
 rw [kn (P:=fun k=>s.toList==k.toList) (j:=0) (fun k=>rfl)]at w2
 have e1:(fun k:ByteArray=>s.toList==k.toList)=fun k=>k.toList==s.toList:=funext fun k=>BEq.comm
 rw [e1]at w2
 simp only [SG,SH,e0,jj,lG,rp,rq,qF,w1,w2,allT,aoR,ec]
 cases ado.any fun k=>k.toList==s.toList with
 |false=>exact⟨rfl,rfl⟩
 |true=>
  simp only [cond_true,Nat.beq]
  rw [cM (by omega)];simp
def acs:List SV→List Entry→Option Out
 | [.one ⟨false,[.val (.string x0)]⟩],[]=>some ⟨.one ⟨false,[.val (.bool (UZ x0))]⟩,[],[],[leN x0.size 9223372036854775807]⟩
 |_,_=>none
def akp:PF prog:=PF.alt akF acs (by
 intro args es o h cD;unfold acs at h;split at h
 ·rename_i x0
  cases h
  have cD:=ln cD
  have hh:=aob x0 cD
  obtain⟨e0,en⟩:=hh
  exact qy rfl (kw en) (by simp only [e0] <;> rfl) rfl rfl
 ·cases h)
def aey:List SV→List Entry→Option Out
 | [.one ⟨false,[.val (.string x0)]⟩],[]=>some ⟨.one ⟨false,[.val (.bool (UZ x0))]⟩,[],[],[]⟩
 |_,_=>none
def alo:PF prog:=PF.alt alq aey (by
 intro args es o h cD;unfold aey at h;split at h
 ·rename_i x0
  cases h
  have hh:=anA x0
  obtain⟨e0,en⟩:=hh
  exact qy rfl (kw en) (by simp only [e0] <;> rfl) rfl rfl
 ·cases h)
def Zg:List SV→List Entry→Option Out
 | [.one ⟨false,[.val (.string x0)]⟩],[]=>some ⟨.one ⟨false,[.val (.bool (aoR x0))]⟩,[],[],[]⟩
 |_,_=>none
def ah2:PF prog:=PF.alt aia Zg (by
 intro args es o h cD;unfold Zg at h;split at h
 ·rename_i x0
  cases h
  have hh:=aoO x0
  obtain⟨e0,en⟩:=hh
  exact qy rfl (kw en) (by simp only [e0] <;> rfl) rfl rfl
 ·cases h)
def oC(x0:ByteArray):Bool:=bif UZ x0 then ltI (Lr x0) 0 else false
def wi(x0:ByteArray):Bool:=allT [leN (ByteArray.size x0) 9223372036854775807,!(UZ x0&&true)||Lt x0]
def ab2:List SV→List Entry→Option Out
 | [.one ⟨false,[.val (.string x0)]⟩],[]=>some ⟨.one ⟨false,[.val (.bool (oC x0))]⟩,[],[],[wi x0]⟩
 |_,_=>none
def MG:PF prog:=PF.ofG prog [akp,ahe] [] aV 239 f239 func239 (fun c _=>LOk.nil c) ab2 (by
 intro vs es r h;unfold ab2 at h;split at h
 ·cases h;kernel_rfl
 ·cases h)
def ag(x0:Int):Bool:=bif bif bif x0==7 then true else x0==8 then true else x0==11 then true else x0==12
def Zb:List SV→List Entry→Option Out
 | [.one ⟨false,[.val (.int .i64 x0)]⟩],[]=>some ⟨.one ⟨false,[.val (.bool (ag x0))]⟩,[],[],[]⟩
 |_,_=>none
def HN:PF prog:=PF.ofG prog [] [] aV 251 f251 func251 (fun c _=>LOk.nil c) Zb (by
 intro vs es r h;unfold Zb at h;split at h
 ·cases h;kernel_rfl
 ·cases h)
def WH(x0:Int):Bool:=bL x0 1 12
def ab1:List SV→List Entry→Option Out
 | [.one ⟨false,[.val (.int .i64 x0)]⟩],[]=>some ⟨.one ⟨false,[.val (.bool (WH x0))]⟩,[],[],[]⟩
 |_,_=>none
def akH:PF prog:=PF.ofG prog [yf] [] aV 252 f252 func252 (fun c _=>LOk.nil c) ab1 (by
 intro vs es r h;unfold ab1 at h;split at h
 ·cases h;kernel_rfl
 ·cases h)
def UG(x0 x2:Int):Bool:=bif bif !WH x0 then true else !bL x2 0 9999 then true else bif !ag x0 then x2 !=0 else false
def MW(x0:Int)(x1:ByteArray)(x2:Int):Bool:=
 bif UG x0 x2 then false else bif x0==(1:Int)then oC x1 else ByteArray.toList x1==ByteArray.toList { data:= #[] }
def MX(x0:Int)(x1:ByteArray)(x2:Int):Bool:=allT [UG x0 x2||(!x0==1||wi x1)]
def ab3:List SV→List Entry→Option Out
 | [.one ⟨true,[.val (.int .i64 x0),.val (.string x1),.val (.int .i64 x2)]⟩],[]=>some ⟨.one ⟨false,[.val (.bool (MW x0 x1 x2))]⟩,[],[],[MX x0 x1 x2]⟩
 |_,_=>none
def ade:PF prog:=PF.ofG prog [yf,MG,HN,akH] [] aV 212 f212 func212 (fun c _=>LOk.nil c) ab3 (by
 intro vs es r h;unfold ab3 at h;split at h
 ·cases h;kernel_rfl
 ·cases h)
def nD(x0:ByteArray):Bool:=bif UZ x0 then !aoR x0 else false
def aen:List SV→List Entry→Option Out
 | [.one ⟨false,[.val (.string x0)]⟩],[]=>some ⟨.one ⟨false,[.val (.bool (nD x0))]⟩,[],[],[]⟩
 |_,_=>none
def OG:PF prog:=PF.ofG prog [alo,ah2] [] aV 225 f225 func225 (fun c _=>LOk.nil c) aen (by
 intro vs es r h;unfold aen at h;split at h
 ·cases h;kernel_rfl
 ·cases h)
def QU(x0:Int):Bool:=bif bif bif x0==7 then true else x0==8 then true else x0==11 then true else x0==12
def Xl:List SV→List Entry→Option Out
 | [.one ⟨false,[.val (.int .i64 x0)]⟩],[]=>some ⟨.one ⟨false,[.val (.bool (QU x0))]⟩,[],[],[]⟩
 |_,_=>none
def ahc:PF prog:=PF.ofG prog [] [] aV 253 f253 func253 (fun c _=>LOk.nil c) Xl (by
 intro vs es r h;unfold Xl at h;split at h
 ·cases h;kernel_rfl
 ·cases h)
def Ov(x0:Int)(x1:ByteArray)(x2:Int):Bool:=
 bif bif !wa x0 (1:Int) (12:Int)then true else !(x0==(1:Int))== !ByteArray.toList x1==ByteArray.toList { data:= #[] } then
 false
 else
 bif QU x0 then wa x2 (0:Int) (9999:Int)
 else bif x2==(0:Int)then bif x0 !=(1:Int)then true else nD x1 else false
def aeo:List SV→List Entry→Option Out
 | [.one ⟨true,[.val (.int .i64 x0),.val (.string x1),.val (.int .i64 x2)]⟩],[]=>some ⟨.one ⟨false,[.val (.bool (Ov x0 x1 x2))]⟩,[],[],[]⟩
 |_,_=>none
def aeM:PF prog:=PF.ofG prog [YL,OG,ahc] [] aV 215 f215 func215 (fun c _=>LOk.nil c) aeo (by
 intro vs es r h;unfold aeo at h;split at h
 ·cases h;kernel_rfl
 ·cases h)
def BM(x0 x2 x3 x4 x5:Int):Bool:=bif bif x0==7 then x0==7 else x0==8 then bif bif wa x3 0 x2 then x4==0 else false then x5==0 else false else bif x0==11 then bif bif wa x3 0 x2 then wa x4 0 1 else false then x5==0 else false else bif x0==12 then bif x4==0 then bif bif wa x3 0 x2 then x5==0 else false then true else bif x3==IntKind.wrap .i64 (x2 + (1:Int))then x5==1 else false else false else bif bif wa x3 0 1 then x4==0 else false then x5==0 else false
def Xm:List SV→List Entry→Option Out
 | [.one ⟨true,[.val (.int .i64 x0),.val (.string _x1),.val (.int .i64 x2)]⟩,.one ⟨true,[.val (.int .i64 x3),.val (.int .i64 x4),.val (.int .i64 x5)]⟩],[]=>some ⟨.one ⟨false,[.val (.bool (BM x0 x2 x3 x4 x5))]⟩,[],[],[]⟩
 |_,_=>none
def XB:PF prog:=PF.ofG prog [YL] [] aV 185 f185 func185 (fun c _=>LOk.nil c) Xm (by
 intro vs es r h;unfold Xm at h;split at h
 ·cases h;kernel_rfl
 ·cases h)
def df(x0 x2 x3 x4 x5:Int):Bool:=bif bif x0==9 then x0==9 else x0==10 then bif bif bL x3 0 1 then x4==0 else false then x5==0 else false else bif x0==11 then bif bif bL x3 0 x2 then bL x4 0 1 else false then x5==0 else false else bif x0==12 then bif x4==0 then bif bif bL x3 0 x2 then x5==0 else false then true else bif x3==IntKind.wrap .i64 (x2 + (1:Int))then x5==1 else false else false else bif bif bL x3 0 x2 then x4==0 else false then x5==0 else false
def Vv:List SV→List Entry→Option Out
 | [.one ⟨true,[.val (.int .i64 x0),.val (.string _x1),.val (.int .i64 x2)]⟩,.one ⟨true,[.val (.int .i64 x3),.val (.int .i64 x4),.val (.int .i64 x5)]⟩],[]=>some ⟨.one ⟨false,[.val (.bool (df x0 x2 x3 x4 x5))]⟩,[],[],[]⟩
 |_,_=>none
def Wd:PF prog:=PF.ofG prog [yf] [] aV 169 f169 func169 (fun c _=>LOk.nil c) Vv (by
 intro vs es r h;unfold Vv at h;split at h
 ·cases h;kernel_rfl
 ·cases h)
def amq(k:Int):Bool:=k==7||(k==8||(k==11||k==12))
def termB(k:Int)(s:ByteArray)(n:Int):Bool:=inR k 1 12&&(inR n 0 9999&&((amq k||n==0)&&(bif k==1 then oJ s else s.toList== [])))
def Yq(k:Int)(s:ByteArray)(n:Int):Bool:=termB k s n&&leI 7 k
def possB(k n a b c:Int):Bool:=df k n a b c
theorem Qj:ByteArray.toList { data:= #[] } = []:=by rw [Go.Lib.toList_data]
theorem apH{s:ByteArray}(h:oJ s=true):(s.toList== [])=false:=by
 simp only [oJ,UZ,Bool.and_eq_true,Fw]at h
 have h1:s.size=s.toList.length:=by rw [Go.Lib.size_eq,Go.Lib.toList_data]
 cases hs:s.toList with
 |nil=>
  rw [hs]at h1
  have h2:s.size=0:=h1
  omega
 |cons a l=>rfl
theorem arZ{n:Int}(h:(n==0)=true):inR n 0 9999=true:=by
 have:n=0:=by simpa using h
 rw [this];rfl
theorem aiY(k:Int)(s:ByteArray)(n:Int)(h:leN s.size 9223372036854775807=true):MW k s n=termB k s n∧MX k s n=true:=by
 obtain⟨e1,e2⟩:=akR s
 have e3:oC s=oJ s:=by simp only [oC,e1,oJ];cases UZ s <;> rfl
 have e4:wi s=true:=by simp only [wi,e2,h,allT,Bool.or_true,cond_true]
 simp only [MW,MX,UG,e3,e4,WH,bL,YA,Qj,ag,termB,amq,allT,Bool.or_true,cond_true]
 refine⟨?_,trivial⟩
 simp only [bne]
 generalize (bif k==1 then oJ s else s.toList== [])=q
 generalize inR k 1 12=q1
 generalize inR n 0 9999=q2
 generalize (k==7)=q3
 generalize (k==8)=q4
 generalize (k==11)=q5
 generalize (k==12)=q6
 generalize (n==0)=q7
 revert q q1 q2 q3 q4 q5 q6 q7
 decide
theorem anz(k:Int)(s:ByteArray)(n:Int):Ov k s n=termB k s n:=by
 have e3:nD s=oJ s:=by simp only [nD,oJ];cases UZ s <;> rfl
 simp only [Ov,e3,wa,YA,Qj,QU,termB,amq]
 by_cases h1:k=1
 ·subst h1
  have z7:((1:Int)==7)=false:=rfl
  have z8:((1:Int)==8)=false:=rfl
  have z11:((1:Int)==11)=false:=rfl
  have z12:((1:Int)==12)=false:=rfl
  have z1:((1:Int)==1)=true:=rfl
  have zn:((1:Int)!=1)=false:=rfl
  have zr:inR (1:Int) 1 12=true:=rfl
  rw [z7,z8,z11,z12,z1,zn,zr]
  have hs:oJ s=true→(s.toList== [])=false:=apH
  have h0:(n==0)=true→inR n 0 9999=true:=arZ
  generalize (s.toList== [])=q at hs ⊢
  generalize (n==0)=q2 at h0 ⊢
  generalize inR n 0 9999=q3 at h0 ⊢
  generalize oJ s=q4 at hs ⊢
  revert q q2 q3 q4
  decide
 ·have z1:(k==1)=false:=by simpa using h1
  have zn:(k !=1)=true:=by simpa using h1
  rw [z1,zn]
  have h0:(n==0)=true→inR n 0 9999=true:=arZ
  generalize (s.toList== [])=q
  generalize (n==0)=q2 at h0 ⊢
  generalize inR n 0 9999=q3 at h0 ⊢
  generalize inR k 1 12=q1
  generalize (k==7)=p3
  generalize (k==8)=p4
  generalize (k==11)=p5
  generalize (k==12)=p6
  generalize oJ s=p7
  revert q q1 q2 q3 p3 p4 p5 p6 p7
  decide
theorem aal{k:Int}{s:ByteArray}{n:Int}(h:Yq k s n=true):(7≤k∧k≤12)∧(0≤n∧n≤9999)∧(amq k=true∨n=0):=by
 simp only [Yq,termB,Bool.and_eq_true,Fw,Jg,Bool.or_eq_true,beq_iff_eq]at h
 obtain⟨⟨h1,h2,h3,_⟩,h4⟩:=h
 exact⟨⟨h4,h1.2⟩,h2,h3⟩
theorem kinds{k:Int}(h:7≤k∧k≤12):k=7∨k=8∨k=9∨k=10∨k=11∨k=12:=by omega
theorem arJ{k n a b c:Int}(h:7≤k∧k≤12):BM k n a b c=possB k n a b c:=by
 rcases kinds h with rfl | rfl | rfl | rfl | rfl | rfl <;> rfl
theorem adh{k n a b c:Int}(h:possB k n a b c=true)(hn:0≤n∧n≤9999):(0≤a∧a≤10000)∧(b=0∨b=1)∧(c=0∨c=1):=by
 have hw:IntKind.i64.wrap (n + 1)=n + 1:=bi (by omega) (by omega)
 simp only [possB,df,bL,YA,hw]at h
 cases h1:(bif k==9 then k==9 else k==10)with
 |true=>
  rw [h1]at h
  cases h2:inR a 0 1 <;> rw [h2]at h <;> simp at h
  have:=Fw.1 h2
  omega
 |false=>
  rw [h1]at h
  cases h3:k==11 with
  |true=>
   rw [h3]at h
   cases h2:inR a 0 n <;> cases h4:inR b 0 1 <;> rw [h2]at h <;> simp [h4]at h
   have:=Fw.1 h2
   have:=Fw.1 h4
   omega
  |false=>
   rw [h3]at h
   cases h5:k==12 with
   |true=>
    rw [h5]at h
    cases h2:inR a 0 n <;> rw [h2]at h <;> simp at h
    ·omega
    ·have:=Fw.1 h2
     omega
   |false=>
    rw [h5]at h
    cases h2:inR a 0 n <;> rw [h2]at h <;> simp at h
    have:=Fw.1 h2
    omega
def jh(x0:Int):Int:=bif bif x0==1 then x0==1 else bif x0==2 then x0==2 else x0==3 then(0:Int)else bif bif x0==4 then x0==4 else bif x0==7 then x0==7 else bif x0==8 then x0==8 else x0==9 then(1:Int)else(2:Int)
def aaR:List SV→List Entry→Option Out
 | [.one ⟨false,[.val (.int .i64 x0)]⟩],[]=>some ⟨.one ⟨false,[.val (.int .i64 (jh x0))]⟩,[],[],[]⟩
 |_,_=>none
def tN:PF prog:=PF.ofG prog [] [] aV 224 f224 func224 (fun c _=>LOk.nil c) aaR (by
 intro vs es r h;unfold aaR at h;split at h
 ·cases h;kernel_rfl
 ·cases h)
abbrev qh:=Int×List Int
section
variable (y0:Int)(y1:List Int)
def BU:Bool:=ltI y0 (↑y1.length:Int)
def FZ:Bool:=leI 0 y0
def Ga:Bool:=ltN y0.toNat y1.length
def Gb:Bool:= !bL (Option.getD y1[Int.toNat y0]? 0) 0 1
def Gc:Int:=IntKind.wrap .i64 (y0 + (1:Int))
end
def ae4:qh→List (Nat×SV)
 |(y0,_)=> [(5,(.one ⟨false,[.val (.int .i64 y0)]⟩)),(0,(.one ⟨false,[.ref 0]⟩))]
def aeY:qh→List (Nat×Entry)
 |(_,y1)=> [(0,(.row false 2 ai3 y1))]
def afg:Nat→qh→List (Nat×SV)
 |0,(_,_)=> [(4,(.one ⟨false,[.val (.bool false)]⟩))]
 |_,(_,_)=> []
def afa:Nat→qh→List (Nat×Entry)
 |0,(_,y1)=> [(0,(.row false 2 ai3 y1))]
 |_,(_,y1)=> [(0,(.row false 2 ai3 y1))]
def DL:qh→LT qh
 |(y0,y1)=> .ite (BU y0 y1) (.need [FZ y0,BU y0 y1,Ga y0 y1] (.ite (Gb y0 y1) (.ext 0 [(0,0)]) (.nrm ((Gc y0),y1) [(0,0)]))) (.ext 1 [(0,0)])
def Pz(s:St):Option qh:=
 (match s.look 5 with
 |some ⟨none,.one ⟨false,[.val (.int .i64 y0)]⟩⟩=>
 (match s.look 0 with
 |some ⟨none,.one ⟨false,[.ref 0]⟩⟩=>
 (match s.ent 0 with
 |some (.row false 2 (.int .i64) y1)=>
 some (y0,y1)
 |_=>none)
 |_=>none)
 |_=>none)
def iy:Lp qh where
 h:=⟨[6,7,8,9,12,13,14,15,16,17,4,10,11,5],[0],[],[]⟩
 JL:=ae4
 JE:=aeY
 XL:=afg
 XE:=afa
 q:=fun j=>match j with | 0=> .ret | _=> .exit 0
 tags:= [0,1]
 lt:=DL
 fuel:=fun(y0,y1)=>y0.natAbs + y1.length
 fix:=fun(_,y1) (y0,_)=>(y0,y1)
 σ:= [(0,0)]
 rd:=Pz
theorem ac1:LoopOk prog (fun k=>Nat.blt k Tryz.f88.ntmps) iy.F (aY f88 0):=by
 refine Lp.ok (tbl:= [yf]) (lf:= []) aV iy (by kernel_rfl) (LOk.nil _) (fun _=>rfl) (fun j _=>by unfold iy;match j with | 0=>rfl | _ + 1=>rfl) ?_ ?_ ?_ ?_ (fun _=>rfl) ?_
 ·rintro⟨y0,y1⟩;kernel_rfl
 ·rintro⟨y0,y1⟩;kernel_rfl
 ·intro s x h
  have h:Pz s=some x:=h
  unfold Pz at h
  repeat' split at h
  all_goals cases h
  constructor<;>repeat(first|refine ab (by assumption) rfl ?_|refine aa rfl (by assumption) rfl ?_|exact rfl)
 ·rintro⟨y0,y1⟩;kernel_rfl
 ·rintro⟨y0,y1⟩ z;exact(And.intro (And.intro trivial rfl) trivial)
def WV(x0:Int)(x1:List Int):Bool:=bif Nat.beq ((Lp.res iy ((0:Int),x1)).1) 0 then false else(↑x1.length:Int)==x0
def WW(x1:List Int):Bool:=allT [Lp.fin iy ((0:Int),x1)]
def aca:List SV→List Entry→Option Out
 | [.one ⟨false,[.ref 0]⟩,.one ⟨false,[.val (.int .i64 x0)]⟩],[.row false 2 (.int .i64) x1]=>some ⟨.one ⟨false,[.val (.bool (WV x0 x1))]⟩,[.row false 2 ai3 x1],[],[WW x1]⟩
 |_,_=>none
def akK:PF prog:=PF.ofG prog [yf] [iy.F] aV 88 f88 func88 (LOk.fnT (l:= [aY f88 0]) (by kernel_rfl) (.cons ac1 (.nil _))) aca (by
 intro vs es r h;unfold aca at h;split at h
 ·cases h;kernel_rfl
 ·cases h)
def ka(x0:Bool):Int:=bif x0 then(1:Int)else(0:Int)
def aeu:List SV→List Entry→Option Out
 | [.one ⟨false,[.val (.bool x0)]⟩],[]=>some ⟨.one ⟨false,[.val (.int .i64 (ka x0))]⟩,[],[],[]⟩
 |_,_=>none
def aeN:PF prog:=PF.ofG prog [] [] aV 244 f244 func244 (fun c _=>LOk.nil c) aeu (by
 intro vs es r h;unfold aeu at h;split at h
 ·cases h;kernel_rfl
 ·cases h)
section
variable (x0 x1 x2 x3 x4 x5:Int)
def ji:Bool:=bif bif x3==1 then x4==0 else false then x5==0 else false
def jT:Bool:=(bif ji x3 x4 x5 then(0:Int)else x3)==0
def lr:Bool:=bif jT x3 x4 x5 then x4 !=x5 else false
def mz:Int:=IntKind.wrap .i64 ((bif ji x3 x4 x5 then(0:Int)else x1) + (1:Int))
def mA:Int:=bif lr x3 x4 x5 then ka (ltI x0 (mz x1 x3 x4 x5))else bif jT x3 x4 x5 then(0:Int)else bif ji x3 x4 x5 then(0:Int)else x3
def oD:Int:=ka (bif bif x4==1 then x5==1 else false then mA x0 x1 x3 x4 x5==0 else false)
def oE:Int:=bif lr x3 x4 x5 then mz x1 x3 x4 x5 else bif jT x3 x4 x5 then(0:Int)else bif ji x3 x4 x5 then(0:Int)else x1
def oF:Int:=bif lr x3 x4 x5 then(0:Int)else bif jT x3 x4 x5 then(0:Int)else bif ji x3 x4 x5 then(0:Int)else x2
def oG:Int:=mA x0 x1 x3 x4 x5
end
def ab5:List SV→List Entry→Option Out
 | [.one ⟨false,[.val (.int .i64 x0)]⟩,.one ⟨true,[.val (.int .i64 x1),.val (.int .i64 x2),.val (.int .i64 x3)]⟩,.one ⟨false,[.val (.int .i64 x4)]⟩,.one ⟨false,[.val (.int .i64 x5)]⟩],[]=>some ⟨.tup [⟨false,[.val (.int .i64 (oD x0 x1 x3 x4 x5))]⟩,⟨true,[.val (.int .i64 (oE x1 x3 x4 x5)),.val (.int .i64 (oF x2 x3 x4 x5)),.val (.int .i64 (oG x0 x1 x3 x4 x5))]⟩],[],[],[]⟩
 |_,_=>none
def akJ:PF prog:=PF.ofG prog [aeN] [] aV 245 f245 func245 (fun c _=>LOk.nil c) ab5 (by
 intro vs es r h;unfold ab5 at h;split at h
 ·cases h;kernel_rfl
 ·cases h)
section
variable (x0 x2 x3 x4 x5:Int)(x6:List Int)
def cR:Int:=Option.getD x6[Int.toNat 0]? 0
def jU:Int:=IntKind.wrap .i64 (x3 + (1:Int))
def mB:Int:=IntKind.wrap .i64 (ahU (jU x3) x2 (jU x3) x2 * cR x6)
def gx:Int:=bif ltI 1 (↑x6.length:Int)then Option.getD x6[Int.toNat 1]? 0 else(0:Int)
def mC:Int:=bif gx x6==1 then(0:Int)else bif cR x6==1 then(1:Int)else x3
def mD:Int:=bif gx x6==1 then(0:Int)else bif bif cR x6==1 then x4==0 else false then ahU (jU x3) x2 (jU x3) x2 else x3
def mE:Int:=IntKind.wrap .i64 (x3 - (1:Int))
def mF:Int:=bif cR x6==1 then(0:Int)else(0:Int)
def lu:Bool:= !ltI 1 (↑x6.length:Int)
def iI:Int:=bif x0==7 then ka (bif cR x6==1 then mB x2 x3 x6==x2 else false)else bif x0==8 then bif cR x6==1 then(1:Int)else ka (ltI 0 x3)else bif x0==9 then ka (bif cR x6==1 then x3==0 else false)else bif x0==10 then mC x3 x6 else bif x0==11 then ka (mD x2 x3 x4 x6==x2)else oD x2 x3 x5 (cR x6) (gx x6)
def jz:Int:=bif x0==7 then mB x2 x3 x6 else bif x0==8 then bif cR x6==1 then x2 else ahU 0 (mE x3) (mE x3) 0 else bif x0==9 then cR x6 else bif x0==10 then mC x3 x6 else bif x0==11 then mD x2 x3 x4 x6 else oE x3 x5 (cR x6) (gx x6)
def jA:Int:=bif x0==7 then(0:Int)else bif x0==8 then mF x6 else bif x0==9 then(0:Int)else bif x0==10 then(0:Int)else bif x0==11 then cR x6 else oF x4 x5 (cR x6) (gx x6)
def jB:Int:=bif x0==7 then(0:Int)else bif x0==8 then mF x6 else bif x0==9 then(0:Int)else bif x0==10 then(0:Int)else bif x0==11 then(0:Int)else oG x2 x3 x5 (cR x6) (gx x6)
def lE:Bool:=allT [ltI 0 (↑x6.length:Int),ltN (Int.toNat 0) x6.length,lu x6||leI 0 1,lu x6||ltI 1 (↑x6.length:Int),lu x6||ltN (Int.toNat 1) x6.length]
end
def ab6:List SV→List Entry→Option Out
 | [.one ⟨true,[.val (.int .i64 x0),.val (.string _x1),.val (.int .i64 x2)]⟩,.one ⟨true,[.val (.int .i64 x3),.val (.int .i64 x4),.val (.int .i64 x5)]⟩,.one ⟨false,[.ref 0]⟩],[.row false 2 (.int .i64) x6]=>some ⟨.tup [⟨false,[.val (.int .i64 (iI x0 x2 x3 x4 x5 x6))]⟩,⟨true,[.val (.int .i64 (jz x0 x2 x3 x4 x5 x6)),.val (.int .i64 (jA x0 x4 x5 x6)),.val (.int .i64 (jB x0 x2 x3 x5 x6))]⟩],[.row false 2 ai3 x6],[],[lE x6]⟩
 |_,_=>none
def rk:PF prog:=PF.ofG prog [aeN,akJ] [] aV 190 f190 func190 (fun c _=>LOk.nil c) ab6 (by
 intro vs es r h;unfold ab6 at h;split at h
 ·cases h;kernel_rfl
 ·cases h)
def ahV(x0:Int):Bool:=bif x0 !=0 then x0 !=1 else false
def YW:List SV→List Entry→Option Out
 | [.one ⟨false,[.val (.int .i64 x0)]⟩],[]=>some ⟨.one ⟨false,[.val (.bool (ahV x0))]⟩,[],[],[]⟩
 |_,_=>none
def aib:PF prog:=PF.ofG prog [] [] aV 219 f219 func219 (fun c _=>LOk.nil c) YW (by
 intro vs es r h;unfold YW at h;split at h
 ·cases h;kernel_rfl
 ·cases h)
def CI(x0:Int):Bool:=bif x0 !=0 then x0 !=1 else false
def QH:List SV→List Entry→Option Out
 | [.one ⟨false,[.val (.int .i64 x0)]⟩],[]=>some ⟨.one ⟨false,[.val (.bool (CI x0))]⟩,[],[],[]⟩
 |_,_=>none
def Rb:PF prog:=PF.ofG prog [] [] aV 219 f219 func219 (fun c _=>LOk.nil c) QH (by
 intro vs es r h;unfold QH at h;split at h
 ·cases h;kernel_rfl
 ·cases h)
abbrev bA:=Int×Int×List Int
section
variable (y0 y1:Int)(y2:List Int)
def jo:Bool:=ltI y0 y1
def jp:Bool:=leI 0 y0
def jq:Bool:=ltI y0 (↑y2.length:Int)
def jr:Bool:=ltN y0.toNat y2.length
def jt:Bool:=CI (Option.getD y2[Int.toNat y0]? 0)
def ju:Int:=IntKind.wrap .i64 (y0 + (1:Int))
end
def JP:bA→List (Nat×SV)
 |(y0,y1,_)=> [(8,(.one ⟨false,[.val (.int .i64 y0)]⟩)),(7,(.one ⟨false,[.val (.int .i64 y1)]⟩)),(1,(.one ⟨false,[.val (.func (.func 219) ⟨[]⟩ ⟨[]⟩)]⟩)),(0,(.one ⟨false,[.ref 0]⟩))]
def JO:bA→List (Nat×Entry)
 |(_,_,y2)=> [(0,(.row false 2 ai3 y2))]
def JS:Nat→bA→List (Nat×SV)
 |0,(y0,_,_)=> [(4,(.one ⟨false,[.val (.int .i64 y0)]⟩))]
 |_,(_,_,_)=> []
def JR:Nat→bA→List (Nat×Entry)
 |0,(_,_,y2)=> [(0,(.row false 2 ai3 y2))]
 |_,(_,_,y2)=> [(0,(.row false 2 ai3 y2))]
def iO:bA→LT bA
 |(y0,y1,y2)=> .ite (jo y0 y1) (.need [jp y0,jq y0 y2,jr y0 y2] (.ite (jt y0 y2) (.ext 0 [(0,0)]) (.nrm ((ju y0),y1,y2) [(0,0)]))) (.ext 1 [(0,0)])
def rm(s:St):Option bA:=
 (match s.look 8 with
 |some ⟨none,.one ⟨false,[.val (.int .i64 y0)]⟩⟩=>
 (match s.look 7 with
 |some ⟨none,.one ⟨false,[.val (.int .i64 y1)]⟩⟩=>
 (match s.look 1 with
 |some ⟨none,.one ⟨false,[.val (.func (.func 219) ⟨[]⟩ ⟨[]⟩)]⟩⟩=>
 (match s.look 0 with
 |some ⟨none,.one ⟨false,[.ref 0]⟩⟩=>
 (match s.ent 0 with
 |some (.row false 2 (.int .i64) y2)=>
 some (y0,y1,y2)
 |_=>none)
 |_=>none)
 |_=>none)
 |_=>none)
 |_=>none)
def ap:Lp bA where
 h:=⟨[9,10,5,11,12,13,14,15,16,17,4,18,8],[0],[],[]⟩
 JL:=JP
 JE:=JO
 XL:=JS
 XE:=JR
 q:=fun j=>match j with | 0=> .ret | _=> .exit 0
 tags:= [0,1]
 lt:=iO
 fuel:=fun(y0,y1,y2)=>y0.natAbs + y1.natAbs + y2.length
 fix:=fun(_,y1,y2) (y0,_,_)=>(y0,y1,y2)
 σ:= [(0,0)]
 rd:=rm
theorem IG:LoopOk prog (fun k=>Nat.blt k Tryz.f255.ntmps) ap.F (aY f255 0):=by
 refine Lp.ok (tbl:= [Rb]) (lf:= []) aV ap (by kernel_rfl) (LOk.nil _) (fun _=>rfl) (fun j _=>by unfold ap;match j with | 0=>rfl | _ + 1=>rfl) ?_ ?_ ?_ ?_ (fun _=>rfl) ?_
 ·rintro⟨y0,y1,y2⟩;kernel_rfl
 ·rintro⟨y0,y1,y2⟩;kernel_rfl
 ·intro s x h
  have h:rm s=some x:=h
  unfold rm at h
  repeat' split at h
  all_goals cases h
  constructor<;>repeat(first|refine ab (by assumption) rfl ?_|refine aa rfl (by assumption) rfl ?_|exact rfl)
 ·rintro⟨y0,y1,y2⟩;kernel_rfl
 ·rintro⟨y0,y1,y2⟩ z;exact(And.intro (And.intro trivial rfl) trivial)
section
variable (x0:List Int)
def oy:Int×Int×List Int:=((0:Int),(↑x0.length:Int),x0)
def uq:Int:=bif Nat.beq ((Lp.res ap (oy x0)).1) 0 then ((Lp.res ap (oy x0)).2).1else(-1:Int)
def ur:Bool:=allT [Lp.fin ap (oy x0)]
end
def BJ:List SV→List Entry→Option Out
 | [.one ⟨false,[.ref 0]⟩,.one ⟨false,[.val (.func (.func 219) ⟨[]⟩ ⟨[]⟩)]⟩],[.row false 2 (.int .i64) x0]=>some ⟨.one ⟨false,[.val (.int .i64 (uq x0))]⟩,[.row false 2 ai3 x0],[],[ur x0]⟩
 |_,_=>none
def ub:PF prog:=PF.ofG prog [Rb] [ap.F] aV 255 f255 func255 (LOk.fnT (l:= [aY f255 0]) (by kernel_rfl) (.cons IG (.nil _))) BJ (by
 intro vs es r h;unfold BJ at h;split at h
 ·cases h;kernel_rfl
 ·cases h)
def rT(x0:List Int):Bool:=leI 0 (uq x0)
def rU(x0:List Int):Bool:=allT [ur x0]
def zo:List SV→List Entry→Option Out
 | [.one ⟨false,[.ref 0]⟩,.one ⟨false,[.val (.func (.func 219) ⟨[]⟩ ⟨[]⟩)]⟩],[.row false 2 (.int .i64) x0]=>some ⟨.one ⟨false,[.val (.bool (rT x0))]⟩,[.row false 2 ai3 x0],[],[rU x0]⟩
 |_,_=>none
def rP:PF prog:=PF.ofG prog (T3z [ub]) [] aV 218 f218 func218 (fun c _=>LOk.nil c) zo (by
 intro vs es r h;unfold zo at h;split at h
 ·cases h;kernel_rfl
 ·cases h)
def VM(x0:Int)(x1:List Int):Bool:=bif(↑x1.length:Int)==x0 then !rT x1 else false
def VN(x0:Int)(x1:List Int):Bool:=allT [!((↑x1.length:Int)==x0&&true)||rU x1]
def abQ:List SV→List Entry→Option Out
 | [.one ⟨false,[.ref 0]⟩,.one ⟨false,[.val (.int .i64 x0)]⟩],[.row false 2 (.int .i64) x1]=>some ⟨.one ⟨false,[.val (.bool (VM x0 x1))]⟩,[.row false 2 ai3 x1],[],[VN x0 x1]⟩
 |_,_=>none
def aky:PF prog:=PF.ofG prog (T3z [aib,rP]) [] aV 165 f165 func165 (fun c _=>LOk.nil c) abQ (by
 intro vs es r h;unfold abQ at h;split at h
 ·cases h;kernel_rfl
 ·cases h)
def pJ(x0:Bool):Int:=bif x0 then(1:Int)else(0:Int)
def agw:List SV→List Entry→Option Out
 | [.one ⟨false,[.val (.bool x0)]⟩],[]=>some ⟨.one ⟨false,[.val (.int .i64 (pJ x0))]⟩,[],[],[]⟩
 |_,_=>none
def aaC:PF prog:=PF.ofG prog [] [] aV 269 f269 func269 (fun c _=>LOk.nil c) agw (by
 intro vs es r h;unfold agw at h;split at h
 ·cases h;kernel_rfl
 ·cases h)
section
variable (x0 x1 x2 x3:Int)(x4 x5:Bool)
def vv:Bool:=bif x4 then x2==0 else false
def vz:Int:=IntKind.wrap .i64 (x1 + (1:Int))
def vA:Int:=bif x5 then(0:Int)else bif vv x2 x4 then ahU x0 (vz x1) x0 (vz x1)else x1
def wM:Int:=pJ (vA x0 x1 x2 x4 x5==x0)
def wN:Int:=vA x0 x1 x2 x4 x5
def wO:Int:=pJ x4
def wP:Int:=bif x5 then x3 else bif vv x2 x4 then x3 else x3
end
def YY:List SV→List Entry→Option Out
 | [.one ⟨false,[.val (.int .i64 x0)]⟩,.one ⟨true,[.val (.int .i64 x1),.val (.int .i64 x2),.val (.int .i64 x3)]⟩,.one ⟨false,[.val (.bool x4)]⟩,.one ⟨false,[.val (.bool x5)]⟩],[]=>some ⟨.tup [⟨false,[.val (.int .i64 (wM x0 x1 x2 x4 x5))]⟩,⟨true,[.val (.int .i64 (wN x0 x1 x2 x4 x5)),.val (.int .i64 (wO x4)),.val (.int .i64 (wP x2 x3 x4 x5))]⟩],[],[],[]⟩
 |_,_=>none
def aic:PF prog:=PF.ofG prog [aaC] [] aV 270 f270 func270 (fun c _=>LOk.nil c) YY (by
 intro vs es r h;unfold YY at h;split at h
 ·cases h;kernel_rfl
 ·cases h)
section
variable (x0 x1 x2 x3:Int)(x4 x5:Bool)
def kC:Bool:=bif bif x3==1 then !x4 else false then !x5 else false
def rB:Bool:=(bif kC x3 x4 x5 then(0:Int)else x3)==0
def tS:Bool:=bif rB x3 x4 x5 then !x4==x5 else false
def wQ:Int:=IntKind.wrap .i64 ((bif kC x3 x4 x5 then(0:Int)else x1) + (1:Int))
def wR:Int:=bif tS x3 x4 x5 then pJ (ltI x0 (wQ x1 x3 x4 x5))else bif rB x3 x4 x5 then bif kC x3 x4 x5 then(0:Int)else x3 else bif kC x3 x4 x5 then(0:Int)else x3
def yW:Int:=pJ (bif bif x4 then x5 else false then wR x0 x1 x3 x4 x5==0 else false)
def yX:Int:=bif tS x3 x4 x5 then wQ x1 x3 x4 x5 else bif rB x3 x4 x5 then(0:Int)else bif kC x3 x4 x5 then(0:Int)else x1
def yY:Int:=bif tS x3 x4 x5 then bif kC x3 x4 x5 then x2 else x2 else bif rB x3 x4 x5 then bif kC x3 x4 x5 then x2 else x2 else bif kC x3 x4 x5 then x2 else x2
def yZ:Int:=wR x0 x1 x3 x4 x5
end
def aaL:List SV→List Entry→Option Out
 | [.one ⟨false,[.val (.int .i64 x0)]⟩,.one ⟨true,[.val (.int .i64 x1),.val (.int .i64 x2),.val (.int .i64 x3)]⟩,.one ⟨false,[.val (.bool x4)]⟩,.one ⟨false,[.val (.bool x5)]⟩],[]=>some ⟨.tup [⟨false,[.val (.int .i64 (yW x0 x1 x3 x4 x5))]⟩,⟨true,[.val (.int .i64 (yX x1 x3 x4 x5)),.val (.int .i64 (yY x2 x3 x4 x5)),.val (.int .i64 (yZ x0 x1 x3 x4 x5))]⟩],[],[],[]⟩
 |_,_=>none
def ajf:PF prog:=PF.ofG prog [aaC] [] aV 271 f271 func271 (fun c _=>LOk.nil c) aaL (by
 intro vs es r h;unfold aaL at h;split at h
 ·cases h;kernel_rfl
 ·cases h)
section
variable (x0 x2 x3 x4 x5:Int)(x6:List Int)
def fR:Bool:=Option.getD x6[Int.toNat 0]? 0==1
def Fs:Int:=IntKind.wrap .i64 (x3 + (1:Int))
def Ft:Int:=IntKind.wrap .i64 (pJ (fR x6) * ahU x2 (Fs x3) x2 (Fs x3))
def AC:Int:=IntKind.wrap .i64 ((↑x6.length:Int) - (1:Int))
def pI:Bool:=Option.getD x6[Int.toNat (AC x6)]? 0==1
def Fu:Int:=bif pI x6 then(0:Int)else bif fR x6 then(1:Int)else x3
def Fv:Int:=IntKind.wrap .i64 (x3 - (1:Int))
def Fq:Int:=bif x0==7 then pJ (bif fR x6 then Ft x2 x3 x6==x2 else false)else bif x0==8 then bif fR x6 then(1:Int)else pJ (ltI 0 x3)else bif x0==9 then pJ (bif fR x6 then x3==0 else false)else bif x0==10 then Fu x3 x6 else bif x0==11 then wM x2 x3 x4 (fR x6) (pI x6)else yW x2 x3 x5 (fR x6) (pI x6)
def CY:Int:=bif x0==7 then Ft x2 x3 x6 else bif x0==8 then bif fR x6 then x2 else ahU (Fv x3) 0 0 (Fv x3)else bif x0==9 then pJ (fR x6)else bif x0==10 then Fu x3 x6 else bif x0==11 then wN x2 x3 x4 (fR x6) (pI x6)else yX x3 x5 (fR x6) (pI x6)
def CZ:Int:=bif x0==7 then x4 else bif x0==8 then bif fR x6 then x4 else x4 else bif x0==9 then x4 else bif x0==10 then bif pI x6 then x4 else bif fR x6 then x4 else x4 else bif x0==11 then wO (fR x6)else yY x4 x5 (fR x6) (pI x6)
def Da:Int:=bif x0==7 then x5 else bif x0==8 then bif fR x6 then x5 else x5 else bif x0==9 then x5 else bif x0==10 then bif pI x6 then x5 else bif fR x6 then x5 else x5 else bif x0==11 then wP x4 x5 (fR x6) (pI x6)else yZ x2 x3 x5 (fR x6) (pI x6)
def Fr:Bool:=allT [ltI 0 (↑x6.length:Int),ltN (Int.toNat 0) x6.length,leI 0 (AC x6),ltI (AC x6) (↑x6.length:Int),ltN (Int.toNat (AC x6)) x6.length]
end
def aiy:List SV→List Entry→Option Out
 | [.one ⟨true,[.val (.int .i64 x0),.val (.string _x1),.val (.int .i64 x2)]⟩,.one ⟨true,[.val (.int .i64 x3),.val (.int .i64 x4),.val (.int .i64 x5)]⟩,.one ⟨false,[.ref 0]⟩],[.row false 2 (.int .i64) x6]=>some ⟨.tup [⟨false,[.val (.int .i64 (Fq x0 x2 x3 x4 x5 x6))]⟩,⟨true,[.val (.int .i64 (CY x0 x2 x3 x4 x5 x6)),.val (.int .i64 (CZ x0 x4 x5 x6)),.val (.int .i64 (Da x0 x2 x3 x4 x5 x6))]⟩],[.row false 2 ai3 x6],[],[Fr x6]⟩
 |_,_=>none
def anR:PF prog:=PF.ofG prog [aaC,aic,ajf] [] aV 246 f246 func246 (fun c _=>LOk.nil c) aiy (by
 intro vs es r h;unfold aiy at h;split at h
 ·cases h;kernel_rfl
 ·cases h)
def bitsB(n:Int)(l:List Int):Bool:=l.all (fun v=>inR v 0 1)&&((l.length:Int)==n)
def takesK(k:Int):Int:=jh k
theorem eI{n:Int}{l:List Int}:bitsB n l=true↔(∀ v∈l,v=0∨v=1)∧(l.length:Int)=n:=by
 simp only [bitsB,Bool.and_eq_true,List.all_eq_true,Fw,beq_iff_eq]
 constructor
 ·rintro⟨h1,h2⟩;exact⟨fun v hv=>by have:=h1 v hv;omega,h2⟩
 ·rintro⟨h1,h2⟩;exact⟨fun v hv=>by have:=h1 v hv;omega,h2⟩
def BK(b:Int):(Unit)→Nat ⊕ (Unit)
 |_=>(bif(!bL b 0 1)then(.inl 0)else(.inr ()))
def wI(y1:List Int)(i:Nat):(Unit)→qh
 |_=>((i:Int),y1)
def Pt:qh→Unit
 |(_,_)=>()
theorem ahy(y1:List Int) (hn:y1.length≤9223372036854775807):
  iy.fin ((0:Int),y1)=true∧iy.res ((0:Int),y1)=((bc (BK) 1 y1 0 ()).1,(wI y1) (bc (BK) 1 y1 0 ()).2.1 (bc (BK) 1 y1 0 ()).2.2):=by
 have oi:=iy.along (wI y1) Pt (BK) 1 (fun _ _=>True) y1 () (by trivial) (by simp only [iy,wI];omega) (fun i b a hb hI=> ?_) (fun a hI=> ?_)
 ·exact oi
 ·obtain⟨⟩:=a
  have gV:=(List.getElem?_eq_some_iff.1 hb).1
  have lH: ∀ d,Option.getD y1[i]? d=b:=fun d=>by rw [hb];rfl
  have hw:=yJ gV hn
  have fA:ltI (i:Int) (y1.length:Int)=true:=fv (by omega)
  have Gz:leI (0:Int) (i:Int)=true:=cM (by omega)
  have qn:ltN i y1.length=true:=gM gV
  refine⟨?_,?_,?_,?_⟩
  ·simp [BU,FZ,Ga,Gb,Gc,DL,iy,LT.nds,allT,wI,fA,Gz,qn,lH]
  ·simp [BU,FZ,Ga,Gb,Gc,DL,iy,LT.each,wI,Pt,hw]
  ·simp only [BU,FZ,Ga,Gb,Gc,DL,iy,LT.fn,wI,Pt,BK,Int.toNat_natCast,fA,Gz,qn,lH,cond_true,Bool.cond_self]
  ·exact fun _ _=>trivial
 ·obtain⟨⟩:=a
  simp [BU,FZ,Ga,Gb,Gc,DL,iy,LT.out,wI]
def fB(b:Int):(Unit)→Nat ⊕ (Unit)
 |_=>(bif(CI b)then(.inl 0)else(.inr ()))
def cS(y2:List Int)(i:Nat):(Unit)→bA
 |_=>((i:Int),(↑y2.length:Int),y2)
def rl:bA→Unit
 |(_,_,_)=>()
theorem Lh(y2:List Int) (hn:y2.length≤9223372036854775807):
  ap.fin ((0:Int),(↑y2.length:Int),y2)=true∧ap.res ((0:Int),(↑y2.length:Int),y2)=((bc (fB) 1 y2 0 ()).1,(cS y2) (bc (fB) 1 y2 0 ()).2.1 (bc (fB) 1 y2 0 ()).2.2):=by
 have oi:=ap.along (cS y2) rl (fB) 1 (fun _ _=>True) y2 () (by trivial) (by simp only [ap,cS];omega) (fun i b a hb hI=> ?_) (fun a hI=> ?_)
 ·exact oi
 ·obtain⟨⟩:=a
  have gV:=(List.getElem?_eq_some_iff.1 hb).1
  have lH: ∀ d,Option.getD y2[i]? d=b:=fun d=>by rw [hb];rfl
  have hw:=yJ gV hn
  have fA:ltI (i:Int) (y2.length:Int)=true:=fv (by omega)
  have Gz:leI (0:Int) (i:Int)=true:=cM (by omega)
  have qn:ltN i y2.length=true:=gM gV
  refine⟨?_,?_,?_,?_⟩
  ·simp [jo,jp,jq,jr,jt,ju,iO,ap,LT.nds,allT,cS,fA,Gz,qn,lH]
  ·simp [jo,jp,jq,jr,jt,ju,iO,ap,LT.each,cS,rl,hw]
  ·simp only [jo,jp,jq,jr,jt,ju,iO,ap,LT.fn,cS,rl,fB,Int.toNat_natCast,fA,Gz,qn,lH,cond_true,Bool.cond_self]
  ·exact fun _ _=>trivial
 ·obtain⟨⟩:=a
  simp [jo,jp,jq,jr,jt,ju,iO,ap,LT.out,cS]
theorem an6(n:Int)(l:List Int)(h:leN l.length 9223372036854775807=true):WV n l=bitsB n l∧WW l=true:=by
 obtain⟨w1,w2⟩:=ahy l (jD.1 h)
 rw [kn (P:=fun v=> !inR v 0 1) (j:=0) (fun v=>by simp only [BK,bL,YA])]at w2
 have e5:(l.any fun v=> !inR v 0 1)= !l.all fun v=>inR v 0 1:=by simp [List.all_eq_not_any_not]
 rw [e5]at w2
 simp only [WV,WW,w1,w2,allT,bitsB]
 cases (l.all fun v=>inR v 0 1) <;> simp [Nat.beq]
theorem ar4(v:Int):(bif v !=0 then v !=1 else false)= !inR v 0 1:=by
 have:inR v 0 1=(v==0||v==1):=by rw [Bool.eq_iff_iff,Fw];simp;omega
 rw [this]
 cases h0:v==0 <;> simp [bne,h0]
theorem ant(n:Int)(l:List Int)(h:leN l.length 9223372036854775807=true):VM n l=bitsB n l∧VN n l=true:=by
 obtain⟨w1,w2⟩:=Lh l (jD.1 h)
 rw [kn (P:=fun v=> !inR v 0 1) (j:=0) (fun v=>by simp only [fB,CI,ar4])]at w2
 have e5:(l.any fun v=> !inR v 0 1)= !l.all fun v=>inR v 0 1:=by simp [List.all_eq_not_any_not]
 rw [e5]at w2
 have q: ∀ m:Nat,leI 0 (m:Int)=true:=fun m=>cM (by omega)
 have q2:leI 0 (-1)=false:=rfl
 simp only [VM,VN,rT,rU,uq,ur,oy,w1,w2,allT,bitsB,cS]
 cases (l.all fun v=>inR v 0 1) <;> cases ((l.length:Int)==n) <;> simp [Nat.beq,q,q2]
theorem adz(p q:Int):ahU p q p q=min p q:=by rw [apB];cases h:ltI p q <;> simp <;> simp at h <;> omega
theorem ady(p q:Int):ahU p q q p=max p q:=by rw [apB];cases h:ltI p q <;> simp <;> simp at h <;> omega
theorem Zm{l:List Int}(h:bitsB 1 l=true): ∃ x,l= [x]∧(x=0∨x=1):=by
 obtain⟨h1,h2⟩:=eI.1 h
 match l,h1,h2 with
 | [x],h1,_=>exact⟨x,rfl,h1 x (by simp)⟩
 | [],_,h2=>simp at h2
 |_::_::_,_,h2=>simp at h2;omega
theorem Zn{l:List Int}(h:bitsB 2 l=true): ∃ x y,l= [x,y]∧(x=0∨x=1)∧(y=0∨y=1):=by
 obtain⟨h1,h2⟩:=eI.1 h
 match l,h1,h2 with
 | [x,y],h1,_=>exact⟨x,y,rfl,h1 x (by simp),h1 y (by simp)⟩
 | [],_,h2=>simp at h2
 | [_],_,h2=>simp at h2
 |_::_::_::_,_,h2=>simp at h2;omega
theorem amW{k n a b c:Int}{s:ByteArray}{l:List Int}(hB:Yq k s n=true)(hP:possB k n a b c=true)(hA:bitsB (takesK k) l=true):
  Fq k n a b c l=iI k n a b c l∧CY k n a b c l=jz k n a b c l∧
  CZ k b c l=jA k b c l∧Da k n a b c l=jB k n a c l∧Fr l=true∧lE l=true∧
  possB k n (jz k n a b c l) (jA k b c l) (jB k n a c l)=true:=by
 obtain⟨hk,hn,_⟩:=aal hB
 have hw:IntKind.i64.wrap (n + 1)=n + 1:=bi (by omega) (by omega)
 have hwa:=(adh hP hn).1
 have hwa1:IntKind.i64.wrap (a + 1)=a + 1:=bi (by omega) (by omega)
 have hwa2:IntKind.i64.wrap (a - 1)=a - 1:=bi (by omega) (by omega)
 have hm:IntKind.i64.wrap (min (a + 1) n)=min (a + 1) n:=bi (by omega) (by omega)
 have hm2:IntKind.i64.wrap (min n (a + 1))=min n (a + 1):=bi (by omega) (by omega)
 have h01:IntKind.i64.wrap (0 + 1)=1:=rfl
 have n0:IntKind.i64.wrap 0=0:=rfl
 have w1:IntKind.i64.wrap 1=1:=rfl
 have l12:ltI 1 2=true:=rfl
 have hb:=(adh hP hn).2.1
 have hc:=(adh hP hn).2.2
 rcases kinds hk with rfl | rfl | rfl | rfl | rfl | rfl
 ·obtain⟨x,rfl,hx⟩:=Zm hA
  have hp:=hP
  simp [possB,df,bL]at hp
  rcases hx with rfl | rfl <;> simp only [fR,Fs,Ft,AC,pI,Fu,Fv,Fq,CY,CZ,Da,Fr,vv,vz,vA,wM,wN,wO,wP,kC,rB,tS,wQ,wR,yW,yX,yY,yZ,pJ,cR,jU,mB,gx,mC,mD,mE,mF,lu,iI,jz,jA,jB,lE,ji,jT,lr,mz,mA,oD,oE,oF,oG,ka,possB,df,bL,allT,adz,ady] <;> simp [hw,hwa1,hwa2,hm,hm2,h01,n0,w1,l12,hp,Bool.cond_eq_ite] <;> (repeat' split) <;> omega
 ·obtain⟨x,rfl,hx⟩:=Zm hA
  have hp:=hP
  simp [possB,df,bL]at hp
  rcases hx with rfl | rfl <;> simp only [fR,Fs,Ft,AC,pI,Fu,Fv,Fq,CY,CZ,Da,Fr,vv,vz,vA,wM,wN,wO,wP,kC,rB,tS,wQ,wR,yW,yX,yY,yZ,pJ,cR,jU,mB,gx,mC,mD,mE,mF,lu,iI,jz,jA,jB,lE,ji,jT,lr,mz,mA,oD,oE,oF,oG,ka,possB,df,bL,allT,adz,ady] <;> simp [hw,hwa1,hwa2,hm,hm2,h01,n0,w1,l12,hp,Bool.cond_eq_ite] <;> (repeat' split) <;> omega
 ·obtain⟨x,rfl,hx⟩:=Zm hA
  have hp:=hP
  simp [possB,df,bL]at hp
  rcases hx with rfl | rfl <;> simp only [fR,Fs,Ft,AC,pI,Fu,Fv,Fq,CY,CZ,Da,Fr,vv,vz,vA,wM,wN,wO,wP,kC,rB,tS,wQ,wR,yW,yX,yY,yZ,pJ,cR,jU,mB,gx,mC,mD,mE,mF,lu,iI,jz,jA,jB,lE,ji,jT,lr,mz,mA,oD,oE,oF,oG,ka,possB,df,bL,allT,adz,ady] <;> simp [hw,hwa1,hwa2,hm,hm2,h01,n0,w1,l12,hp,Bool.cond_eq_ite] <;> (repeat' split) <;> omega
 ·obtain⟨x,y,rfl,hx,hy⟩:=Zn hA
  have hp:=hP
  simp [possB,df,bL]at hp
  rcases hx with rfl | rfl <;> rcases hy with rfl | rfl <;> simp only [fR,Fs,Ft,AC,pI,Fu,Fv,Fq,CY,CZ,Da,Fr,vv,vz,vA,wM,wN,wO,wP,kC,rB,tS,wQ,wR,yW,yX,yY,yZ,pJ,cR,jU,mB,gx,mC,mD,mE,mF,lu,iI,jz,jA,jB,lE,ji,jT,lr,mz,mA,oD,oE,oF,oG,ka,possB,df,bL,allT,adz,ady] <;> simp [hw,hwa1,hwa2,hm,hm2,h01,n0,w1,l12,hp,Bool.cond_eq_ite] <;> (repeat' split) <;> omega
 ·obtain⟨x,y,rfl,hx,hy⟩:=Zn hA
  have hp:=hP
  rcases hb with rfl | rfl <;> rcases hc with rfl | rfl <;> rcases hx with rfl | rfl <;> rcases hy with rfl | rfl <;> simp [possB,df,bL,hw]at hp <;> simp only [fR,Fs,Ft,AC,pI,Fu,Fv,Fq,CY,CZ,Da,Fr,vv,vz,vA,wM,wN,wO,wP,kC,rB,tS,wQ,wR,yW,yX,yY,yZ,pJ,cR,jU,mB,gx,mC,mD,mE,mF,lu,iI,jz,jA,jB,lE,ji,jT,lr,mz,mA,oD,oE,oF,oG,ka,possB,df,bL,allT,adz,ady] <;> simp [hw,hwa1,hwa2,hm,hm2,h01,n0,w1,l12,hp,Bool.cond_eq_ite] <;> (repeat' split) <;> omega
 ·obtain⟨x,y,rfl,hx,hy⟩:=Zn hA
  have hp:=hP
  rcases hb with rfl | rfl <;> rcases hc with rfl | rfl <;> rcases hx with rfl | rfl <;> rcases hy with rfl | rfl <;> simp [possB,df,bL,hw]at hp <;> simp only [fR,Fs,Ft,AC,pI,Fu,Fv,Fq,CY,CZ,Da,Fr,vv,vz,vA,wM,wN,wO,wP,kC,rB,tS,wQ,wR,yW,yX,yY,yZ,pJ,cR,jU,mB,gx,mC,mD,mE,mF,lu,iI,jz,jA,jB,lE,ji,jT,lr,mz,mA,oD,oE,oF,oG,ka,possB,df,bL,allT,adz,ady] <;> simp [hw,hwa1,hwa2,hm,hm2,h01,n0,w1,l12,hp,Bool.cond_eq_ite] <;> (repeat' split) <;> omega
def acw:List SV→List Entry→Option Out
 | [.one ⟨false,[.ref 0]⟩,.one ⟨false,[.val (.int .i64 x0)]⟩],[.row false 2 (.int .i64) x1]=>some ⟨.one ⟨false,[.val (.bool (bitsB x0 x1))]⟩,[.row false 2 ai3 x1],[],[leN x1.length 9223372036854775807]⟩
 |_,_=>none
def jn:PF prog:=PF.alt akK acw (by
 intro args es o h cD;unfold acw at h;split at h
 ·rename_i x0 x1
  cases h
  have cD:=ln cD
  have hh:=an6 x0 x1 cD
  obtain⟨e0,en⟩:=hh
  exact qy rfl (kw en) (by simp only [e0] <;> rfl) rfl rfl
 ·cases h)
def acl:List SV→List Entry→Option Out
 | [.one ⟨false,[.ref 0]⟩,.one ⟨false,[.val (.int .i64 x0)]⟩],[.row false 2 (.int .i64) x1]=>some ⟨.one ⟨false,[.val (.bool (bitsB x0 x1))]⟩,[.row false 2 ai3 x1],[],[leN x1.length 9223372036854775807]⟩
 |_,_=>none
def rh:PF prog:=PF.alt aky acl (by
 intro args es o h cD;unfold acl at h;split at h
 ·rename_i x0 x1
  cases h
  have cD:=ln cD
  have hh:=ant x0 x1 cD
  obtain⟨e0,en⟩:=hh
  exact qy rfl (kw en) (by simp only [e0] <;> rfl) rfl rfl
 ·cases h)
def arP(m:Nat)(rs:List (List Int)):Bool:=leN rs.length m&&rs.all fun x=>leN x.length m
theorem arh{m:Nat}{rs:List (List Int)}:arP m rs=true↔rs.length≤m∧ ∀ x∈rs,x.length≤m:=by
 simp only [arP,Bool.and_eq_true,jD,List.all_eq_true]
section
variable (x0 x1 x2 x3 x4:Int)(x5:List (Int×ByteArray×Int))
def ZJ:Bool:=bif x3==1 then x3==1 else bif x3==2 then x3==2 else x3==3
def ZK:Bool:=bif x3==5 then x3==5 else x3==6
def ZL:Bool:=bif x3==8 then x3==8 else x3==9
def ajm:Int:=bif ZJ x3 then(0:Int)else bif x3==4 then(1:Int)else bif ZK x3 then(2:Int)else bif x3==7 then jh ((Option.getD x5[Int.toNat x4]? ((0:Int),ByteArray.empty,(0:Int))).1)else bif ZL x3 then(1:Int)else(0:Int)
def ajn:Int:=bif ZJ x3 then(1:Int)else bif x3==4 then(1:Int)else bif ZK x3 then(1:Int)else bif x3==7 then(1:Int)else bif ZL x3 then(0:Int)else(0:Int)
def ak4:Bool:=bif x3==1 then bL x4 0 1 else bif bif x3==2 then x3==2 else x3==10 then bL x4 0 (IntKind.wrap .i64 (x0 - (1:Int)))else bif bif x3==3 then x3==3 else bif x3==8 then x3==8 else x3==11 then bL x4 0 (IntKind.wrap .i64 (x1 - (1:Int)))else bif bif x3==4 then x3==4 else bif x3==5 then x3==5 else x3==6 then x4==0 else bif x3==7 then bL x4 0 (IntKind.wrap .i64 ((↑x5.length:Int) - (1:Int)))else bif x3==9 then bL x4 0 (IntKind.wrap .i64 (x2 - (1:Int)))else false
def tR:Int:=bif bif x0==1 then x0==1 else bif x0==2 then x0==2 else x0==3 then(0:Int)else bif bif x0==4 then x0==4 else bif x0==7 then x0==7 else bif x0==8 then x0==8 else x0==9 then(1:Int)else(2:Int)
end
def YX:List SV→List Entry→Option Out
 | [.one ⟨false,[.val (.int .i64 x0)]⟩],[]=>some ⟨.one ⟨false,[.val (.int .i64 (tR x0))]⟩,[],[],[]⟩
 |_,_=>none
def Nl:PF prog:=PF.ofG prog [] [] aV 222 f222 func222 (fun c _=>LOk.nil c) YX (by
 intro vs es r h;unfold YX at h;split at h
 ·cases h;kernel_rfl
 ·cases h)
abbrev bn:=Int×Int×List (Int×(ByteArray×Int))×List Int×List (Int×(Int×Int))
section
variable (y0 y1:Int)(y2:List (Int×(ByteArray×Int)))(y4:List (Int×(Int×Int)))
def ep:Int×ByteArray×Int:=Option.getD y2[Int.toNat y0]? ((0:Int),ByteArray.empty,(0:Int))
def dq:Int×Int×Int:=Option.getD y4[Int.toNat y0]? ((0:Int),(0:Int),(0:Int))
def hY:Bool:=ltI y0 y1
def ey:Bool:=leI 0 y0
def hZ:Bool:=ltI y0 (↑y2.length:Int)
def ia:Bool:=ltN y0.toNat y2.length
def ib:Bool:=ltI y0 (↑y4.length:Int)
def ic:Bool:=ltN y0.toNat y4.length
def ie:Bool:= !BM ((ep y0 y2).1) ((ep y0 y2).2.2) ((dq y0 y4).1) (((dq y0 y4).2).1) ((dq y0 y4).2.2)
def ig:Int:=IntKind.wrap .i64 (y0 + (1:Int))
end
def IA:bn→List (Nat×SV)
 |(y0,y1,_,_,_)=> [(24,(.one ⟨false,[.val (.int .i64 y0)]⟩)),(23,(.one ⟨false,[.val (.int .i64 y1)]⟩)),(22,(.one ⟨false,[.ref 0]⟩)),(3,(.one ⟨false,[.ptr 1 0]⟩))]
def Iy:bn→List (Nat×Entry)
 |(_,_,y2,y3,y4)=> [(0,(.row false 178 acQ y2)),(1,(.box 48 [.ref 2,.ref 3])),(2,(.row false 2 ai3 y3)),(3,(.row false 172 abM y4))]
def IE:Nat→bn→List (Nat×SV)
 |0,(_,_,_,_,_)=> [(6,(.one ⟨false,[.val (.bool false)]⟩))]
 |_,(_,_,_,_,_)=> []
def IC:Nat→bn→List (Nat×Entry)
 |0,(_,_,y2,y3,y4)=> [(0,(.row false 178 acQ y2)),(1,(.box 48 [.ref 2,.ref 3])),(2,(.row false 2 ai3 y3)),(3,(.row false 172 abM y4))]
 |_,(_,_,y2,y3,y4)=> [(0,(.row false 178 acQ y2)),(1,(.box 48 [.ref 2,.ref 3])),(2,(.row false 2 ai3 y3)),(3,(.row false 172 abM y4))]
def gN:bn→LT bn
 |(y0,y1,y2,y3,y4)=> .ite (hY y0 y1) (.need [ey y0,hZ y0 y2,ia y0 y2] (.need [ey y0,ib y0 y4,ic y0 y4] (.ite (ie y0 y2 y4) (.ext 0 [(0,0),(1,1),(2,2),(3,3)]) (.nrm ((ig y0),y1,y2,y3,y4) [(0,0),(1,1),(2,2),(3,3)])))) (.ext 1 [(0,0),(1,1),(2,2),(3,3)])
def qu(s:St):Option bn:=
 (match s.look 24 with
 |some ⟨none,.one ⟨false,[.val (.int .i64 y0)]⟩⟩=>
 (match s.look 23 with
 |some ⟨none,.one ⟨false,[.val (.int .i64 y1)]⟩⟩=>
 (match s.look 22 with
 |some ⟨none,.one ⟨false,[.ref 2]⟩⟩=>
 (match s.look 3 with
 |some ⟨none,.one ⟨false,[.ptr 256 0]⟩⟩=>
 (match s.ent 2 with
 |some (.row false 178 (.pair (.int .i64) (.pair .str (.int .i64))) y2)=>
 (match s.ent 256 with
 |some (.box 48 [.ref 0,.ref 1])=>
 (match s.ent 0 with
 |some (.row false 2 (.int .i64) y3)=>
 (match s.ent 1 with
 |some (.row false 172 (.pair (.int .i64) (.pair (.int .i64) (.int .i64))) y4)=>
 some (y0,y1,y2,y3,y4)
 |_=>none)
 |_=>none)
 |_=>none)
 |_=>none)
 |_=>none)
 |_=>none)
 |_=>none)
 |_=>none)
def au:Lp bn where
 h:=⟨[25,26,27,28,8,7,29,30,31,32,33,34,35,36,6,37,24],[0,1,2,3],[],[]⟩
 JL:=IA
 JE:=Iy
 XL:=IE
 XE:=IC
 q:=fun j=>match j with | 0=> .ret | _=> .exit 0
 tags:= [0,1]
 lt:=gN
 fuel:=fun(y0,y1,y2,y3,y4)=>y0.natAbs + y1.natAbs + y2.length + y3.length + y4.length
 fix:=fun(_,y1,y2,y3,y4) (y0,_,_,_,_)=>(y0,y1,y2,y3,y4)
 σ:= [(0,2),(1,256),(2,0),(3,1)]
 rd:=qu
theorem GH:LoopOk prog (fun k=>Nat.blt k Tryz.f116.ntmps) au.F (aY f116 0):=by
 refine Lp.ok (tbl:= (T3z [rh,XB])) (lf:= []) aV au (by kernel_rfl) (LOk.nil _) (fun _=>rfl) (fun j _=>by unfold au;match j with | 0=>rfl | _ + 1=>rfl) ?_ ?_ ?_ ?_ (fun _=>rfl) ?_
 ·rintro⟨y0,y1,y2,y3,y4⟩;kernel_rfl
 ·rintro⟨y0,y1,y2,y3,y4⟩;kernel_rfl
 ·intro s x h
  have h:qu s=some x:=h
  unfold qu at h
  repeat' split at h
  all_goals cases h
  constructor<;>repeat(first|refine ab (by assumption) rfl ?_|refine aa rfl (by assumption) rfl ?_|exact rfl)
 ·rintro⟨y0,y1,y2,y3,y4⟩;kernel_rfl
 ·rintro⟨y0,y1,y2,y3,y4⟩ z;exact(And.intro (And.intro trivial rfl) trivial)
section
variable (x0:Int)(x1:List Int)(x2:List (Int×Int×Int))(x3:List (Int×ByteArray×Int))
def fD:Bool:=bif !bitsB x0 x1 then true else(↑x2.length:Int)!=(↑x3.length:Int)
def rM:Int×Int×List (Int×ByteArray×Int)×List Int×List (Int×Int×Int):=((0:Int),(↑x3.length:Int),x3,x1,x2)
def nJ:Bool:=bif fD x0 x1 x2 x3 then false else bif Nat.beq ((Lp.res au (rM x1 x2 x3)).1) 0 then false else true
def nK:Bool:=allT [leN x1.length (9223372036854775807:Nat),fD x0 x1 x2 x3||Lp.fin au (rM x1 x2 x3)]
end
def Av:List SV→List Entry→Option Out
 | [.one ⟨true,[.ref 0,.ref 1]⟩,.one ⟨false,[.val (.int .i64 x0)]⟩,.one ⟨false,[.ref 2]⟩],[.row false 2 (.int .i64) x1,.row false 172 (.pair (.int .i64) (.pair (.int .i64) (.int .i64))) x2,.row false 178 (.pair (.int .i64) (.pair (.str) (.int .i64))) x3]=>some ⟨.one ⟨false,[.val (.bool (nJ x0 x1 x2 x3))]⟩,[.row false 2 ai3 x1,.row false 172 abM x2,.row false 178 acQ x3],[],[nK x0 x1 x2 x3]⟩
 |_,_=>none
def Ly:PF prog:=PF.ofG prog (T3z [rh,XB]) [au.F] aV 116 f116 func116 (LOk.fnT (l:= [aY f116 0]) (by kernel_rfl) (.cons GH (.nil _))) Av (by
 intro vs es r h;unfold Av at h;split at h
 ·cases h;kernel_rfl
 ·cases h)
def uc(x0:List (Int×Int×Int)):Bool:=allT [ltN 0 x0.length,false||leN (0 + List.length x0) 9223372036854775807,false||leN ((0 + List.length x0) * 24) 140737488355328]
def Hj:List SV→List Entry→Option Out
 | [.one ⟨false,[.ref 0]⟩],[.row false 172 (.pair (.int .i64) (.pair (.int .i64) (.int .i64))) x0]=>some ⟨.one ⟨false,[.ref 1]⟩,[.row false 172 abM x0],[.row true 172 abM x0],[uc x0]⟩
 |_,_=>none
def SO:PF prog:=PF.ofG prog [] [] aV 195 f195 func195 (fun c _=>LOk.nil c) Hj (by
 intro vs es r h;unfold Hj at h;split at h
 ·cases h;kernel_rfl
 ·cases h)
abbrev BS:=Int×Int×Int
def aa8(k n:Int)(l:List Int)(s:BS):BS:=(jz k n s.1 s.2.1 s.2.2 l,jA k s.2.1 s.2.2 l,jB k n s.1 s.2.2 l)
def arU(k n:Int)(l:List Int)(s:BS):Int:=iI k n s.1 s.2.1 s.2.2 l
theorem aq1{k n a b c:Int}{s:ByteArray}{l:List Int}(hB:Yq k s n=true)(hP:possB k n a b c=true)(hA:bitsB (takesK k) l=true):
  (CY k n a b c l,CZ k b c l,Da k n a b c l)=aa8 k n l (a,b,c)∧possB k n (aa8 k n l (a,b,c)).1 (aa8 k n l (a,b,c)).2.1 (aa8 k n l (a,b,c)).2.2=true:=by
 obtain⟨_,e1,e2,e3,_,_,e6⟩:=amW hB hP hA
 exact⟨by rw [e1,e2,e3];rfl,e6⟩
theorem Lp.inv{X:Type}(p:Lp X)(I Q:Nat→X→Prop)
  (hs: ∀ k x,I (k + 1) x→(∃ j,(p.lt x).out=some (.inl j)∧Q j x)∨ ∃ y,(p.lt x).out=some (.inr y)∧I k y)
  (he: ∀ x,I 0 x→ ∃ j,(p.lt x).out=some (.inl j)∧Q j x) (N:Nat) (x:X) (hN:N≤999) (h:I N x):
  p.fin x=true∧ ∃ j y,p.res x=(j,y)∧Q j y:=by
 have oi: ∀ (k:Nat) (x:X),I k x→ ∃ j y,Sj p.lt (k + 1) x=some (j,y)∧Q j y:=by
  intro k
  induction k with
  |zero=>
   intro x h
   obtain⟨j,h1,h2⟩:=he x h
   exact⟨j,x,ahm _ h1,h2⟩
  |succ k ih=>
   intro x h
   rcases hs k x h with⟨j,h1,h2⟩ | ⟨y,h1,h2⟩
   ·exact⟨j,x,ahm _ h1,h2⟩
   ·obtain⟨j,z,h3,h4⟩:=ih y h2
    exact⟨j,z,by rw [al4 _ h1];exact h3,h4⟩
 obtain⟨j,y,h1,h2⟩:=oi N x h
 obtain⟨r1,r2⟩:=p.run h1 (aoS (by omega))
 exact⟨r1,j,y,r2,h2⟩
abbrev TM:=Int×ByteArray×Int
def aqJ(xs ys:List (Int×Int×Int)):Bool:=decide (xs=ys)
theorem apZ(xs:List (Int×Int×Int)):aqJ xs xs=true:=by simp [aqJ]
theorem apX(xs:List (Int×Int×Int))(h:(leN 1 xs.length&&leN xs.length 1048576)=true):uc xs=true:=by
 simp only [Bool.and_eq_true,jD]at h
 simp [uc,allT]
 omega
def agv:List SV→List Entry→Option Out
 | [.one ⟨false,[.val (.slice none 0 0)]⟩],[]=>some ⟨.one ⟨false,[.ref 0]⟩,[],[.row true 172 (.pair (.int .i64) (.pair (.int .i64) (.int .i64))) []],[true]⟩
 |_,_=>none
def amP:PF prog:=PF.ofG prog [PF.raw prog] [] aV 195 f195 func195 (fun c _=>LOk.nil c) agv (by
 intro vs es r h;unfold agv at h;split at h
 ·cases h;kernel_rfl
 ·cases h)
def agu:List SV→List Entry→Option Out
 | [.one ⟨false,[.val (.slice (some _) 0 _)]⟩],[]=>some ⟨.one ⟨false,[.ref 0]⟩,[],[.row true 172 (.pair (.int .i64) (.pair (.int .i64) (.int .i64))) []],[true]⟩
 |_,_=>none
def amO:PF prog:=PF.ofG prog [] [] aV 195 f195 func195 (fun c _=>LOk.nil c) agu (by
 intro vs es r h;unfold agu at h;split at h
 ·cases h;kernel_rfl
 ·cases h)
def Hm:List SV→List Entry→Option Out
 | [.one ⟨false,[.ref 0]⟩],[.row false 172 (.pair (.int .i64) (.pair (.int .i64) (.int .i64))) x0]=>some ⟨.one ⟨false,[.ref 1]⟩,[.row false 172 (.pair (.int .i64) (.pair (.int .i64) (.int .i64))) x0],[.row true 172 (.pair (.int .i64) (.pair (.int .i64) (.int .i64))) x0],[leN x0.length 1048576]⟩
 |_,_=>none
def Aa:PF prog where
 k:=195
 F:=Hm
 ok:=by
  intro args es o h cD mem ρ w hp
  unfold Hm at h
  split at h
  ·rename_i x0
   cases h
   have hl:=cD _ (List.mem_singleton.2 rfl)
   cases x0 with
   |nil=>
    exact(aqx amP amO rfl rfl rfl (fun _ _=>rfl) (by simp) (by simp) hp).mono fun en w' ⟨ρ',h1,h2,h3⟩=>⟨ρ',h1,h2,rfl,(by intro v hv;rw [List.mem_singleton.1 hv];rfl),h3⟩
   |cons x xs=>exact SO.ok _ _ ⟨_,_,_,[uc (x::xs)]⟩ rfl (fun b hb=>by rw [List.mem_singleton.1 hb];exact apX (x::xs) ((Bool.and_eq_true _ _).mpr ⟨ci (Nat.succ_pos _),hl⟩)) mem ρ w hp
  ·cases h
abbrev IN:=Int×Int
abbrev BS3:=Int×Int×Int
def tkI(bs:List TM)(x:IN):Int:=ajm x.1 x.2 bs
def gvI(x:IN):Int:=ajn x.1
def asR(i v o:Int)(bs:List TM)(x:IN):Bool:=ak4 i v o x.1 x.2 bs
def hgt(i v o:Int)(bs:List TM):List IN→Int→List Int→Option (Int×List Int)
 | [],n,acc=>some (n,acc)
 |x::r,n,acc=>bif asR i v o bs x&&(leI (tkI bs x) n&&leI (n - tkI bs x + gvI x) 40)then hgt i v o bs r (n - tkI bs x + gvI x) (acc++ [n - tkI bs x + gvI x])else none
def aa6(bs:List TM):Bool:=bs.all fun t=>Yq t.1 t.2.1 t.2.2
def Sf(bs:List TM)(k:Nat):TM:=Option.getD bs[k]? ((0:Int),ByteArray.empty,(0:Int))
def stAt(ss:List BS3)(k:Nat):BS3:=Option.getD ss[k]? ((0:Int),(0:Int),(0:Int))
def possAt(bs:List TM)(ss:List BS3)(k:Nat):Bool:=possB (Sf bs k).1 (Sf bs k).2.2 (stAt ss k).1 (stAt ss k).2.1 (stAt ss k).2.2
def zh(v:Int)(bs:List TM)(xs:List Int)(ss:List BS3):Bool:=((ss.length:Int)==(bs.length:Int))&&(bitsB v xs&&(List.range bs.length).all fun k=>possAt bs ss k)
def gY(y2:List (Int×(ByteArray×Int)))(y4:List (Int×(Int×Int)))(b:Nat):(Unit)→Nat ⊕ (Unit)
 |_=>(bif(!BM ((Option.getD y2[b]? ((0:Int),ByteArray.empty,(0:Int))).1) ((Option.getD y2[b]? ((0:Int),ByteArray.empty,(0:Int))).2.2) ((Option.getD y4[b]? ((0:Int),(0:Int),(0:Int))).1) (((Option.getD y4[b]? ((0:Int),(0:Int),(0:Int))).2).1) ((Option.getD y4[b]? ((0:Int),(0:Int),(0:Int))).2.2))then(.inl 0)else(.inr ()))
def dr(y2:List (Int×(ByteArray×Int)))(y3:List Int)(y4:List (Int×(Int×Int)))(i:Nat):(Unit)→bn
 |_=>((i:Int),(↑y2.length:Int),y2,y3,y4)
def qt:bn→Unit
 |(_,_,_,_,_)=>()
theorem JM(y2:List (Int×(ByteArray×Int)))(y3:List Int)(y4:List (Int×(Int×Int))) (hn:y2.length≤9223372036854775807) (he:y4.length=y2.length):
  au.fin ((0:Int),(↑y2.length:Int),y2,y3,y4)=true∧au.res ((0:Int),(↑y2.length:Int),y2,y3,y4)=((bc (gY y2 y4) 1 (List.range y2.length) 0 ()).1,(dr y2 y3 y4) (bc (gY y2 y4) 1 (List.range y2.length) 0 ()).2.1 (bc (gY y2 y4) 1 (List.range y2.length) 0 ()).2.2):=by
 have oi:=au.along (dr y2 y3 y4) qt (gY y2 y4) 1 (fun _ _=>True) (List.range y2.length) () (by trivial) (by simp only [au,dr,List.length_range];omega) (fun i b a hb hI=> ?_) (fun a hI=> ?_)
 ·exact oi
 ·obtain⟨⟩:=a
  obtain⟨rfl,gV⟩:=Ql hb
  have hw:IntKind.i64.wrap ((b:Int) + 1)=((b + 1:Nat):Int):=by rw [bi (by omega) (by omega)];omega
  have fA:ltI (b:Int) (y2.length:Int)=true:=fv (by omega)
  have Gz:leI (0:Int) (b:Int)=true:=cM (by omega)
  have qn:ltN b y2.length=true:=gM (by omega)
  refine⟨?_,?_,?_,?_⟩
  ·simp [ep,dq,hY,ey,hZ,ia,ib,ic,ie,ig,gN,au,LT.nds,allT,dr,fA,Gz,qn,he]
  ·simp [ep,dq,hY,ey,hZ,ia,ib,ic,ie,ig,gN,au,LT.each,dr,qt,hw,he]
  ·simp only [ep,dq,hY,ey,hZ,ia,ib,ic,ie,ig,gN,au,LT.fn,dr,qt,gY,Int.toNat_natCast,fA,cond_true]
  ·exact fun _ _=>trivial
 ·obtain⟨⟩:=a
  simp [ep,dq,hY,ey,hZ,ia,ib,ic,ie,ig,gN,au,LT.out,dr,List.length_range]
theorem ami{α:Type}{g h:α→Bool}: ∀ (l:List α),(∀ k∈l,g k=h k)→(l.any fun b=> !g b)= !l.all h
 | [],_=>rfl
 |a::l,hg=>by
  rw [List.any_cons,List.all_cons,hg a (by simp),ami l (fun k hk=>hg k (by simp [hk]))]
  cases h a <;> simp
theorem ap6(v:Int)(bs:List TM)(xs:List Int)(ss:List BS3)(h:(leN xs.length 9223372036854775807&&(leN bs.length 9223372036854775807&&aa6 bs))=true):
  nJ v xs ss bs=zh v bs xs ss∧nK v xs ss bs=true:=by
 simp only [Bool.and_eq_true]at h
 have hn:=jD.1 h.2.1
 have hB: ∀ t∈bs,Yq t.1 t.2.1 t.2.2=true:=List.all_eq_true.1 h.2.2
 by_cases hl:ss.length=bs.length
 ·obtain⟨w1,w2⟩:=JM bs xs ss hn hl
  rw [kn (P:=fun k=> !BM (Sf bs k).1 (Sf bs k).2.2 (stAt ss k).1 (stAt ss k).2.1 (stAt ss k).2.2) (j:=0) (fun k=>rfl),
   ami (g:=fun k=>BM (Sf bs k).1 (Sf bs k).2.2 (stAt ss k).1 (stAt ss k).2.1 (stAt ss k).2.2) (h:=possAt bs ss) _ (fun k hk=>by
    have hk:k < bs.length:=List.mem_range.1 hk
    have hg:Sf bs k=bs[k]:=by simp only [Sf,List.getElem?_eq_getElem hk];rfl
    have:=hB _ (List.getElem_mem hk)
    rw [← hg]at this
    exact arJ (aal this).1)]at w2
  have a0:fD v xs ss bs= !bitsB v xs:=by simp only [fD,hl];cases bitsB v xs <;> simp
  simp only [nJ,nK,rM,a0,w1,w2,h.1,allT,zh,hl]
  cases bitsB v xs <;> cases (List.range bs.length).all (possAt bs ss) <;> simp [Nat.beq]
 ·have hl2: ¬ ((ss.length:Int)=(bs.length:Int)):=by omega
  have a0:fD v xs ss bs=true:=by simp only [fD];cases bitsB v xs <;> simp [hl2]
  have e:((ss.length:Int)==(bs.length:Int))=false:=by simpa using hl2
  simp [nJ,nK,a0,allT,zh,e,h.1]
def Az:List SV→List Entry→Option Out
 | [.one ⟨true,[.ref 0,.ref 1]⟩,.one ⟨false,[.val (.int .i64 x0)]⟩,.one ⟨false,[.ref 2]⟩],[.row false 2 (.int .i64) x1,.row false 172 (.pair (.int .i64) (.pair (.int .i64) (.int .i64))) x2,.row false 178 (.pair (.int .i64) (.pair (.str) (.int .i64))) x3]=>some ⟨.one ⟨false,[.val (.bool (zh x0 x3 x1 x2))]⟩,[.row false 2 ai3 x1,.row false 172 abM x2,.row false 178 acQ x3],[],[leN x1.length 9223372036854775807&&(leN x3.length 9223372036854775807&&aa6 x3)]⟩
 |_,_=>none
def cp:PF prog:=PF.alt Ly Az (by
 intro args es o h cD;unfold Az at h;split at h
 ·rename_i x0 x1 x2 x3
  cases h
  have cD:=ln cD
  have hh:=ap6 x0 x3 x1 x2 cD
  obtain⟨e0,en⟩:=hh
  exact qy rfl (kw en) (by simp only [e0] <;> rfl) rfl rfl
 ·cases h)
abbrev oP:=Int×ByteArray×List ByteArray
section
variable (y0:Int)(y1:ByteArray)(y2:List ByteArray)
def Ap:Bool:=ltI y0 (↑y2.length:Int)
def Eu:Bool:=leI 0 y0
def Ev:Bool:=ltN y0.toNat y2.length
def Ew:Bool:=ByteArray.toList (Option.getD y2[Int.toNat y0]? ByteArray.empty)==ByteArray.toList y1
def Ey:Int:=IntKind.wrap .i64 (y0 + (1:Int))
end
def adV:oP→List (Nat×SV)
 |(y0,y1,_)=> [(5,(.one ⟨false,[.val (.int .i64 y0)]⟩)),(0,(.one ⟨false,[.ref 0]⟩)),(1,(.one ⟨false,[.val (.string y1)]⟩))]
def adN:oP→List (Nat×Entry)
 |(_,_,y2)=> [(0,(.row false 9 alP y2))]
def aeb:Nat→oP→List (Nat×SV)
 |0,(y0,_,_)=> [(4,(.one ⟨false,[.val (.int .i64 y0)]⟩))]
 |_,(_,_,_)=> []
def ad3:Nat→oP→List (Nat×Entry)
 |0,(_,_,y2)=> [(0,(.row false 9 alP y2))]
 |_,(_,_,y2)=> [(0,(.row false 9 alP y2))]
def Cm:oP→LT oP
 |(y0,y1,y2)=> .ite (Ap y0 y2) (.need [Eu y0,Ap y0 y2,Ev y0 y2] (.ite (Ew y0 y1 y2) (.ext 0 [(0,0)]) (.nrm ((Ey y0),y1,y2) [(0,0)]))) (.ext 1 [(0,0)])
def Of(s:St):Option oP:=
 (match s.look 5 with
 |some ⟨none,.one ⟨false,[.val (.int .i64 y0)]⟩⟩=>
 (match s.look 0 with
 |some ⟨none,.one ⟨false,[.ref 0]⟩⟩=>
 (match s.look 1 with
 |some ⟨none,.one ⟨false,[.val (.string y1)]⟩⟩=>
 (match s.ent 0 with
 |some (.row false 9 (.str) y2)=>
 some (y0,y1,y2)
 |_=>none)
 |_=>none)
 |_=>none)
 |_=>none)
def eW:Lp oP where
 h:=⟨[6,7,8,9,12,13,14,15,16,17,18,4,10,11,5],[0],[],[]⟩
 JL:=adV
 JE:=adN
 XL:=aeb
 XE:=ad3
 q:=fun j=>match j with | 0=> .ret | _=> .exit 0
 tags:= [0,1]
 lt:=Cm
 fuel:=fun(y0,y1,y2)=>y0.natAbs + y1.size + y2.length
 fix:=fun(_,y1,y2) (y0,_,_)=>(y0,y1,y2)
 σ:= [(0,0)]
 rd:=Of
theorem abJ:LoopOk prog (fun k=>Nat.blt k Tryz.f143.ntmps) eW.F (aY f143 0):=by
 refine Lp.ok (tbl:= []) (lf:= []) aV eW (by kernel_rfl) (LOk.nil _) (fun _=>rfl) (fun j _=>by unfold eW;match j with | 0=>rfl | _ + 1=>rfl) ?_ ?_ ?_ ?_ (fun _=>rfl) ?_
 ·rintro⟨y0,y1,y2⟩;kernel_rfl
 ·rintro⟨y0,y1,y2⟩;kernel_rfl
 ·intro s x h
  have h:Of s=some x:=h
  unfold Of at h
  repeat' split at h
  all_goals cases h
  constructor<;>repeat(first|refine ab (by assumption) rfl ?_|refine aa rfl (by assumption) rfl ?_|exact rfl)
 ·rintro⟨y0,y1,y2⟩;kernel_rfl
 ·rintro⟨y0,y1,y2⟩ z;exact(And.intro (And.intro trivial rfl) trivial)
section
variable (x0:ByteArray)(x1:List ByteArray)
def NG:Int×ByteArray×List ByteArray:=((0:Int),x0,x1)
def JZ:Int:=bif Nat.beq ((Lp.res eW (NG x0 x1)).1) 0 then ((Lp.res eW (NG x0 x1)).2).1else(-1:Int)
def OX:Bool:=allT [Lp.fin eW (NG x0 x1)]
end
def aaT:List SV→List Entry→Option Out
 | [.one ⟨false,[.ref 0]⟩,.one ⟨false,[.val (.string x0)]⟩],[.row false 9 (.str) x1]=>some ⟨.one ⟨false,[.val (.int .i64 (JZ x0 x1))]⟩,[.row false 9 alP x1],[],[OX x0 x1]⟩
 |_,_=>none
def BX:PF prog:=PF.ofG prog [] [eW.F] aV 143 f143 func143 (LOk.fnT (l:= [aY f143 0]) (by kernel_rfl) (.cons abJ (.nil _))) aaT (by
 intro vs es r h;unfold aaT at h;split at h
 ·cases h;kernel_rfl
 ·cases h)
abbrev oN:=Int×List ByteArray
section
variable (y0:Int)(y1:List ByteArray)
def rI:ByteArray:=Option.getD y1[Int.toNat y0]? ByteArray.empty
def Am:Bool:=ltI y0 (↑y1.length:Int)
def JA:Bool:=leI 0 y0
def JB:Bool:=ltN y0.toNat y1.length
def JC:Bool:=wi (rI y0 y1)
def Ej:Bool:= !oC (rI y0 y1)
def JD:Int:=IntKind.wrap .i64 (y0 + (1:Int))
end
def adS:oN→List (Nat×SV)
 |(y0,_)=> [(5,(.one ⟨false,[.val (.int .i64 y0)]⟩)),(0,(.one ⟨false,[.ref 0]⟩))]
def adK:oN→List (Nat×Entry)
 |(_,y1)=> [(0,(.row false 9 alP y1))]
def ad8:Nat→oN→List (Nat×SV)
 |0,(_,_)=> [(4,(.one ⟨false,[.val (.bool false)]⟩))]
 |_,(_,_)=> []
def ad0:Nat→oN→List (Nat×Entry)
 |0,(_,y1)=> [(0,(.row false 9 alP y1))]
 |_,(_,y1)=> [(0,(.row false 9 alP y1))]
def Cj:oN→LT oN
 |(y0,y1)=> .ite (Am y0 y1) (.need [JA y0,Am y0 y1,JB y0 y1,JC y0 y1] (.ite (Ej y0 y1) (.ext 0 [(0,0)]) (.nrm ((JD y0),y1) [(0,0)]))) (.ext 1 [(0,0)])
def Oc(s:St):Option oN:=
 (match s.look 5 with
 |some ⟨none,.one ⟨false,[.val (.int .i64 y0)]⟩⟩=>
 (match s.look 0 with
 |some ⟨none,.one ⟨false,[.ref 0]⟩⟩=>
 (match s.ent 0 with
 |some (.row false 9 (.str) y1)=>
 some (y0,y1)
 |_=>none)
 |_=>none)
 |_=>none)
def fZ:Lp oN where
 h:=⟨[6,7,8,9,12,13,14,15,16,17,4,10,11,5],[0],[],[]⟩
 JL:=adS
 JE:=adK
 XL:=ad8
 XE:=ad0
 q:=fun j=>match j with | 0=> .ret | _=> .exit 0
 tags:= [0,1]
 lt:=Cj
 fuel:=fun(y0,y1)=>y0.natAbs + y1.length
 fix:=fun(_,y1) (y0,_)=>(y0,y1)
 σ:= [(0,0)]
 rd:=Oc
theorem abG:LoopOk prog (fun k=>Nat.blt k Tryz.f240.ntmps) fZ.F (aY f240 0):=by
 refine Lp.ok (tbl:= [yf,MG]) (lf:= []) aV fZ (by kernel_rfl) (LOk.nil _) (fun _=>rfl) (fun j _=>by unfold fZ;match j with | 0=>rfl | _ + 1=>rfl) ?_ ?_ ?_ ?_ (fun _=>rfl) ?_
 ·rintro⟨y0,y1⟩;kernel_rfl
 ·rintro⟨y0,y1⟩;kernel_rfl
 ·intro s x h
  have h:Oc s=some x:=h
  unfold Oc at h
  repeat' split at h
  all_goals cases h
  constructor<;>repeat(first|refine ab (by assumption) rfl ?_|refine aa rfl (by assumption) rfl ?_|exact rfl)
 ·rintro⟨y0,y1⟩;kernel_rfl
 ·rintro⟨y0,y1⟩ z;exact(And.intro (And.intro trivial rfl) trivial)
def UE(x0:Int)(x1:List ByteArray):Bool:=bif Nat.beq ((Lp.res fZ ((0:Int),x1)).1) 0 then false else bL (↑x1.length:Int) x0 20
def UF(x1:List ByteArray):Bool:=allT [Lp.fin fZ ((0:Int),x1)]
def aaQ:List SV→List Entry→Option Out
 | [.one ⟨false,[.ref 0]⟩,.one ⟨false,[.val (.int .i64 x0)]⟩],[.row false 9 (.str) x1]=>some ⟨.one ⟨false,[.val (.bool (UE x0 x1))]⟩,[.row false 9 alP x1],[],[UF x1]⟩
 |_,_=>none
def ajj:PF prog:=PF.ofG prog [yf,MG] [fZ.F] aV 240 f240 func240 (LOk.fnT (l:= [aY f240 0]) (by kernel_rfl) (.cons abG (.nil _))) aaQ (by
 intro vs es r h;unfold aaQ at h;split at h
 ·cases h;kernel_rfl
 ·cases h)
abbrev lM:=Int×Int×List (Int×(ByteArray×Int))×List Int
section
variable (y0 y1:Int)(y2:List (Int×(ByteArray×Int)))(y3:List Int)
def ew:Int×ByteArray×Int:=Option.getD y2[Int.toNat y0]? ((0:Int),ByteArray.empty,(0:Int))
def rZ:Bool:= !MW ((ew y0 y2).1) (((ew y0 y2).2).1) ((ew y0 y2).2.2)
def sa:Int:=IntKind.wrap .i64 (IntKind.wrap .i64 (y1 - jh ((ew y0 y2).1)) + (1:Int))
def tw:Bool:=ltI y0 (↑y2.length:Int)
def xj:Bool:=leI 0 y0
def xk:Bool:=ltN y0.toNat y2.length
def Bl:Bool:=MX ((ew y0 y2).1) (((ew y0 y2).2).1) ((ew y0 y2).2.2)
def Bm:Bool:= !(!rZ y0 y2&&true)||leI 0 y0
def Bn:Bool:= !(!rZ y0 y2&&true)||ltI y0 (↑y2.length:Int)
def Bo:Bool:= !(!rZ y0 y2&&true)||ltN y0.toNat y2.length
def Bp:Bool:=bif rZ y0 y2 then true else ltI y1 (jh ((ew y0 y2).1))
def Bq:Bool:=leN (List.length y3 + List.length [sa y0 y1 y2]) (9223372036854775807:Nat)
def Br:Bool:=leN ((List.length y3 + List.length [sa y0 y1 y2]) * (8:Nat)) 140737488355328
def zF:Int:=IntKind.wrap .i64 (y0 + (1:Int))
def zG:Int:=sa y0 y1 y2
def zH:List Int:=y3++ [sa y0 y1 y2]
end
def abq:lM→List (Nat×SV)
 |(y0,y1,_,_)=> [(6,(.one ⟨false,[.val (.int .i64 y0)]⟩)),(0,(.one ⟨false,[.ref 0]⟩)),(5,(.one ⟨false,[.val (.int .i64 y1)]⟩)),(4,(.one ⟨false,[.ref 1]⟩))]
def abl:lM→List (Nat×Entry)
 |(_,_,y2,y3)=> [(0,(.row false 178 acQ y2)),(1,(.row true 2 ai3 y3))]
def abA:Nat→lM→List (Nat×SV)
 |0,(_,_,_,_)=> [(2,(.one ⟨false,[.ref 2]⟩)),(3,(.one ⟨false,[.val (.bool false)]⟩))]
 |_,(_,y1,_,_)=> [(5,(.one ⟨false,[.val (.int .i64 y1)]⟩)),(4,(.one ⟨false,[.ref 1]⟩))]
def abv:Nat→lM→List (Nat×Entry)
 |0,(_,_,y2,y3)=> [(0,(.row false 178 acQ y2)),(1,(.row true 2 ai3 y3)),(2,(.row true 2 ai3 []))]
 |_,(_,_,y2,y3)=> [(0,(.row false 178 acQ y2)),(1,(.row true 2 ai3 y3))]
def zy:lM→LT lM
 |(y0,y1,y2,y3)=> .ite (tw y0 y2) (.need [xj y0,tw y0 y2,xk y0 y2,Bl y0 y2,Bm y0 y2,Bn y0 y2,Bo y0 y2] (.ite (Bp y0 y1 y2) (.ext 0 [(0,0),(1,1),(2,1344)]) (.need [xj y0,tw y0 y2,xk y0 y2] (.need [Bq y0 y1 y2 y3,Br y0 y1 y2 y3] (.nrm ((zF y0),zG y0 y1 y2,y2,(zH y0 y1 y2 y3)) [(0,0),(1,2176)]))))) (.ext 1 [(0,0),(1,1)])
def KL(s:St):Option lM:=
 (match s.look 6 with
 |some ⟨none,.one ⟨false,[.val (.int .i64 y0)]⟩⟩=>
 (match s.look 0 with
 |some ⟨none,.one ⟨false,[.ref 0]⟩⟩=>
 (match s.look 5 with
 |some ⟨none,.one ⟨false,[.val (.int .i64 y1)]⟩⟩=>
 (match s.look 4 with
 |some ⟨none,.one ⟨false,[.ref 256]⟩⟩=>
 (match s.ent 0 with
 |some (.row false 178 (.pair (.int .i64) (.pair .str (.int .i64))) y2)=>
 (match s.ent 256 with
 |some (.row true 2 (.int .i64) y3)=>
 some (y0,y1,y2,y3)
 |_=>none)
 |_=>none)
 |_=>none)
 |_=>none)
 |_=>none)
 |_=>none)
def dR:Lp lM where
 h:=⟨[8,9,10,11,14,15,16,17,18,19,20,21,22,23,24,25,26,27,28,29,2,3,30,31,32,33,34,35,36,37,38,5,39,40,41,42,4,12,13,6],[0],[1],[2]⟩
 JL:=abq
 JE:=abl
 XL:=abA
 XE:=abv
 q:=fun j=>match j with | 0=> .ret | _=> .exit 0
 tags:= [0,1]
 lt:=zy
 fuel:=fun(y0,y1,y2,y3)=>y0.natAbs + y1.natAbs + y2.length + y3.length
 fix:=fun(_,_,y2,_) (y0,y1,_,y3)=>(y0,y1,y2,y3)
 σ:= [(0,0),(1,256)]
 rd:=KL
theorem Zv:LoopOk prog (fun k=>Nat.blt k Tryz.f268.ntmps) dR.F (aY f268 0):=by
 refine Lp.ok (tbl:= [ade,tN]) (lf:= []) aV dR (by kernel_rfl) (LOk.nil _) (fun _=>rfl) (fun j _=>by unfold dR;match j with | 0=>rfl | _ + 1=>rfl) ?_ ?_ ?_ ?_ (fun _=>rfl) ?_
 ·rintro⟨y0,y1,y2,y3⟩;kernel_rfl
 ·rintro⟨y0,y1,y2,y3⟩;kernel_rfl
 ·intro s x h
  have h:KL s=some x:=h
  unfold KL at h
  repeat' split at h
  all_goals cases h
  constructor<;>repeat(first|refine ab (by assumption) rfl ?_|refine aa rfl (by assumption) rfl ?_|exact rfl)
 ·rintro⟨y0,y1,y2,y3⟩;kernel_rfl
 ·rintro⟨y0,y1,y2,y3⟩ z;exact(And.intro (And.intro trivial rfl) trivial)
section
variable (x0:List (Int×ByteArray×Int))
def Jz:Int×Int×List (Int×ByteArray×Int)×List Int:=((0:Int),(0:Int),x0,[])
def PD:Bool:=Nat.beq ((Lp.res dR (Jz x0)).1) 0
def PE:Int×List (Int×ByteArray×Int)×List Int:=(Lp.res dR (Jz x0)).2.2
def RL:Bool:=bif PD x0 then false else bif (PE x0).1==1 then leI (↑x0.length:Int) 40 else false
def aho:List Int:=bif PD x0 then []else (PE x0).2.2
def RM:Bool:=allT [Lp.fin dR (Jz x0)]
end
def Xq:List SV→List Entry→Option Out
 | [.one ⟨false,[.ref 0]⟩],[.row false 178 (.pair (.int .i64) (.pair (.str) (.int .i64))) x0]=>some ⟨.tup [⟨false,[.ref 1]⟩,⟨false,[.val (.bool (RL x0))]⟩],[.row false 178 acQ x0],[.row true 2 ai3 (aho x0)],[RM x0]⟩
 |_,_=>none
def Re:PF prog:=PF.ofG prog [ade,tN] [dR.F] aV 268 f268 func268 (LOk.fnT (l:= [aY f268 0]) (by kernel_rfl) (.cons Zv (.nil _))) Xq (by
 intro vs es r h;unfold Xq at h;split at h
 ·cases h;kernel_rfl
 ·cases h)
def Oh(x0:List (Int×ByteArray×Int)):Bool:=RL x0
def Oi(x0:List (Int×ByteArray×Int)):Bool:=allT [RM x0]
def UO:List SV→List Entry→Option Out
 | [.one ⟨false,[.ref 0]⟩],[.row false 178 (.pair (.int .i64) (.pair (.str) (.int .i64))) x0]=>some ⟨.one ⟨false,[.val (.bool (Oh x0))]⟩,[.row false 178 acQ x0],[],[Oi x0]⟩
 |_,_=>none
def aeh:PF prog:=PF.ofG prog (T3z [Re]) [] aV 241 f241 func241 (fun c _=>LOk.nil c) UO (by
 intro vs es r h;unfold UO at h;split at h
 ·cases h;kernel_rfl
 ·cases h)
section
variable (x2 x3 x4:List ByteArray)
def RN:List ByteArray:=x2++x3
def aeQ:List ByteArray:=RN x2 x3++x4
def YQ:Bool:=allT [leN (0 + List.length x2) 9223372036854775807,leN ((0 + List.length x2) * 16) 140737488355328,leN (List.length x2 + List.length x3) 9223372036854775807,leN ((List.length x2 + List.length x3) * 16) 140737488355328,leN (List.length (RN x2 x3) + List.length x4) 9223372036854775807,leN ((List.length (RN x2 x3) + List.length x4) * 16) 140737488355328]
end
def aet:List SV→List Entry→Option Out
 | [.one ⟨true,[.val (.string _x0),.ref 0,.ref 1,.ref 2,.val (.string _x1),.ref 3]⟩],[.row false 9 (.str) x2,.row false 9 (.str) x3,.row false 9 (.str) x4,.row false 204 (.pair (.str) (.sl 178 (.pair (.int .i64) (.pair (.str) (.int .i64))))) x5]=>some ⟨.one ⟨false,[.ref 4]⟩,[.row false 9 alP x2,.row false 9 alP x3,.row false 9 alP x4,.row false 204 (CTy.pair CTy.str (CTy.sl (178:TypeId) acQ)) x5],[.row true 9 alP (aeQ x2 x3 x4)],[YQ x2 x3 x4]⟩
 |_,_=>none
def alu:PF prog:=PF.ofG prog [] [] aV 205 f205 func205 (fun c _=>LOk.nil c) aet (by
 intro vs es r h;unfold aet at h;split at h
 ·cases h;kernel_rfl
 ·cases h)
abbrev oQ:=Int×List ByteArray
section
variable (y0:Int)(y1:List ByteArray)
def Cy:ByteArray:=Option.getD y1[Int.toNat y0]? ByteArray.empty
def vl:List ByteArray:=List.drop (Int.toNat 0) (List.take y0.toNat y1)
def Aq:Bool:=ltI y0 (↑y1.length:Int)
end
def EA:Bool:=leI 0 0
section
variable (y0:Int)(y1:List ByteArray)
def Ar:Bool:=leI 0 y0
def EB:Bool:=leI y0 (↑y1.length:Int)
def EC:Bool:=ltN y0.toNat y1.length
def As:Bool:=OX (Cy y0 y1) (vl y0 y1)
def ED:Bool:=leI 0 (JZ (Cy y0 y1) (vl y0 y1))
def JG:Int:=IntKind.wrap .i64 (y0 + (1:Int))
end
def adW:oQ→List (Nat×SV)
 |(y0,_)=> [(3,(.one ⟨false,[.val (.int .i64 y0)]⟩)),(0,(.one ⟨false,[.ref 0]⟩))]
def adO:oQ→List (Nat×Entry)
 |(_,y1)=> [(0,(.row false 9 alP y1))]
def aec:Nat→oQ→List (Nat×SV)
 |0,(_,_)=> [(2,(.one ⟨false,[.val (.bool true)]⟩))]
 |_,(_,_)=> []
def ad4:Nat→oQ→List (Nat×Entry)
 |0,(_,y1)=> [(0,(.row false 9 alP y1))]
 |_,(_,y1)=> [(0,(.row false 9 alP y1))]
def Cn:oQ→LT oQ
 |(y0,y1)=> .ite (Aq y0 y1) (.need [EA,Ar y0,EB y0 y1,Ar y0,Aq y0 y1,EC y0 y1,As y0 y1] (.ite (ED y0 y1) (.ext 0 [(0,0)]) (.nrm ((JG y0),y1) [(0,0)]))) (.ext 1 [(0,0)])
def Og(s:St):Option oQ:=
 (match s.look 3 with
 |some ⟨none,.one ⟨false,[.val (.int .i64 y0)]⟩⟩=>
 (match s.look 0 with
 |some ⟨none,.one ⟨false,[.ref 0]⟩⟩=>
 (match s.ent 0 with
 |some (.row false 9 (.str) y1)=>
 some (y0,y1)
 |_=>none)
 |_=>none)
 |_=>none)
def gc:Lp oQ where
 h:=⟨[4,5,6,7,10,11,12,13,14,15,16,17,18,2,8,9,3],[0],[],[]⟩
 JL:=adW
 JE:=adO
 XL:=aec
 XE:=ad4
 q:=fun j=>match j with | 0=> .ret | _=> .exit 0
 tags:= [0,1]
 lt:=Cn
 fuel:=fun(y0,y1)=>y0.natAbs + y1.length
 fix:=fun(_,y1) (y0,_)=>(y0,y1)
 σ:= [(0,0)]
 rd:=Og
theorem abK:LoopOk prog (fun k=>Nat.blt k Tryz.f242.ntmps) gc.F (aY f242 0):=by
 refine Lp.ok (tbl:= (T3z [BX])) (lf:= []) aV gc (by kernel_rfl) (LOk.nil _) (fun _=>rfl) (fun j _=>by unfold gc;match j with | 0=>rfl | _ + 1=>rfl) ?_ ?_ ?_ ?_ (fun _=>rfl) ?_
 ·rintro⟨y0,y1⟩;kernel_rfl
 ·rintro⟨y0,y1⟩;kernel_rfl
 ·intro s x h
  have h:Og s=some x:=h
  unfold Og at h
  repeat' split at h
  all_goals cases h
  constructor<;>repeat(first|refine ab (by assumption) rfl ?_|refine aa rfl (by assumption) rfl ?_|exact rfl)
 ·rintro⟨y0,y1⟩;kernel_rfl
 ·rintro⟨y0,y1⟩ z;exact(And.intro (And.intro trivial rfl) trivial)
def UI(x0:List ByteArray):Bool:=bif Nat.beq ((Lp.res gc ((0:Int),x0)).1) 0 then true else false
def UJ(x0:List ByteArray):Bool:=allT [Lp.fin gc ((0:Int),x0)]
def aaU:List SV→List Entry→Option Out
 | [.one ⟨false,[.ref 0]⟩],[.row false 9 (.str) x0]=>some ⟨.one ⟨false,[.val (.bool (UI x0))]⟩,[.row false 9 alP x0],[],[UJ x0]⟩
 |_,_=>none
def ajk:PF prog:=PF.ofG prog (T3z [BX]) [gc.F] aV 242 f242 func242 (LOk.fnT (l:= [aY f242 0]) (by kernel_rfl) (.cons abK (.nil _))) aaU (by
 intro vs es r h;unfold aaU at h;split at h
 ·cases h;kernel_rfl
 ·cases h)
abbrev om:=Int×Int×ByteArray×ByteArray×List (Int×(ByteArray×Int))×List ByteArray×List ByteArray×List ByteArray×List (ByteArray×(List (Int×(ByteArray×Int))))
def HU(y1:Int)(y8:List (ByteArray×(List (Int×(ByteArray×Int))))):Bool:=ltI y1 (↑y8.length:Int)
def BQ(y1:Int)(y8:List (ByteArray×(List (Int×(ByteArray×Int))))):Bool:=ltN y1.toNat y8.length
def sF(y1:Int)(y8:List (ByteArray×(List (Int×(ByteArray×Int))))):List (Int×ByteArray×Int):=(Option.getD y8[Int.toNat y1]? (xE aas)).2
def sG(y0 y1:Int)(y8:List (ByteArray×(List (Int×(ByteArray×Int))))):Bool:=ltI y0 (↑(List.length (sF y1 y8)):Int)
def sH(y0 y1:Int)(y8:List (ByteArray×(List (Int×(ByteArray×Int))))):Int×ByteArray×Int:=Option.getD (sF y1 y8)[Int.toNat y0]? ((0:Int),ByteArray.empty,(0:Int))
def eS(y0 y1:Int)(y8:List (ByteArray×(List (Int×(ByteArray×Int))))):Bool:=leI 7 ((sH y0 y1 y8).1)
def sI(y0 y1:Int)(y8:List (ByteArray×(List (Int×(ByteArray×Int))))):List (Int×ByteArray×Int):= [((sH y0 y1 y8).1,((sH y0 y1 y8).2).1,(sH y0 y1 y8).2.2)]
def uK(y1:Int):Bool:=leI 0 y1
def uL(y1:Int)(y8:List (ByteArray×(List (Int×(ByteArray×Int))))):Bool:=HU y1 y8
def uM(y1:Int)(y8:List (ByteArray×(List (Int×(ByteArray×Int))))):Bool:=BQ y1 y8
def uN(y0 y1:Int)(y8:List (ByteArray×(List (Int×(ByteArray×Int))))):Bool:=sG y0 y1 y8
def yw(y0:Int):Bool:=leI 0 y0
def yx(y0 y1:Int)(y8:List (ByteArray×(List (Int×(ByteArray×Int))))):Bool:=ltN y0.toNat (List.length (sF y1 y8))
def yy(y0 y1:Int)(y8:List (ByteArray×(List (Int×(ByteArray×Int))))):Bool:= !eS y0 y1 y8||leI 0 y1
def yz(y0 y1:Int)(y8:List (ByteArray×(List (Int×(ByteArray×Int))))):Bool:= !eS y0 y1 y8||HU y1 y8
def yA(y0 y1:Int)(y8:List (ByteArray×(List (Int×(ByteArray×Int))))):Bool:= !eS y0 y1 y8||BQ y1 y8
def yB(y0 y1:Int)(y8:List (ByteArray×(List (Int×(ByteArray×Int))))):Bool:= !eS y0 y1 y8||leI 0 y0
def xl(y0 y1:Int)(y8:List (ByteArray×(List (Int×(ByteArray×Int))))):Bool:= !eS y0 y1 y8||sG y0 y1 y8
def xm(y0 y1:Int)(y8:List (ByteArray×(List (Int×(ByteArray×Int))))):Bool:= !eS y0 y1 y8||ltN y0.toNat (List.length (sF y1 y8))
def xo(y0 y1:Int)(y4:List (Int×(ByteArray×Int)))(y8:List (ByteArray×(List (Int×(ByteArray×Int))))):Bool:= !eS y0 y1 y8||leN (List.length y4 + List.length (sI y0 y1 y8)) 9223372036854775807
def xt(y0 y1:Int)(y4:List (Int×(ByteArray×Int)))(y8:List (ByteArray×(List (Int×(ByteArray×Int))))):Bool:= !eS y0 y1 y8||leN ((List.length y4 + List.length (sI y0 y1 y8)) * 32) 140737488355328
def xu(y0 y1:Int)(y8:List (ByteArray×(List (Int×(ByteArray×Int))))):Bool:=eS y0 y1 y8
def sE(y0:Int):Int:=IntKind.wrap .i64 (y0 + (1:Int))
def xw(y0 y1:Int)(y4:List (Int×(ByteArray×Int)))(y8:List (ByteArray×(List (Int×(ByteArray×Int))))):List (Int×(ByteArray×Int)):=y4++sI y0 y1 y8
def Zf:om→List (Nat×SV)
 |(y0,y1,_,_,_,_,_,_,_)=> [(5,(.one ⟨false,[.val (.int .i64 y0)]⟩)),(1,(.one ⟨false,[.ptr 0 0]⟩)),(4,(.one ⟨false,[.val (.int .i64 y1)]⟩)),(3,(.one ⟨false,[.ref 1]⟩))]
def Ze:om→List (Nat×Entry)
 |(_,_,y2,y3,y4,y5,y6,y7,y8)=> [(0,(.box 63 [.val (.string y2),.ref 2,.ref 3,.ref 4,.val (.string y3),.ref 5])),(2,(.row false 9 alP y5)),(3,(.row false 9 alP y6)),(4,(.row false 9 alP y7)),(5,(.row false 204 aas y8)),(1,(.row true 178 acQ y4))]
def Zk:Nat→om→List (Nat×SV)
 |_,(_,_,_,_,_,_,_,_,_)=> [(3,(.one ⟨false,[.ref 1]⟩))]
def Zj:Nat→om→List (Nat×Entry)
 |_,(_,_,y2,y3,y4,y5,y6,y7,y8)=> [(0,(.box 63 [.val (.string y2),.ref 2,.ref 3,.ref 4,.val (.string y3),.ref 5])),(1,(.row true 178 acQ y4)),(2,(.row false 9 alP y5)),(3,(.row false 9 alP y6)),(4,(.row false 9 alP y7)),(5,(.row false 204 aas y8))]
def wW:om→LT om
 |(y0,y1,y2,y3,y4,y5,y6,y7,y8)=> .need [uK y1,uL y1 y8,uM y1 y8] (.ite (uN y0 y1 y8) (.need [uK y1,uL y1 y8,uM y1 y8,yw y0,uN y0 y1 y8,yx y0 y1 y8] (.need [yy y0 y1 y8,yz y0 y1 y8,yA y0 y1 y8,yB y0 y1 y8,xl y0 y1 y8,xm y0 y1 y8,xo y0 y1 y4 y8,xt y0 y1 y4 y8] (.ite (xu y0 y1 y8) (.nrm ((sE y0),y1,y2,y3,xw y0 y1 y4 y8,y5,y6,y7,y8) [(0,0),(1,2048),(2,2),(3,3),(4,4),(5,5)]) (.nrm ((sE y0),y1,y2,y3,y4,y5,y6,y7,y8) [(0,0),(1,1),(2,2),(3,3),(4,4),(5,5)])))) (.ext 0 [(0,0),(1,1),(2,2),(3,3),(4,4),(5,5)]))
def HO(s:St):Option om:=
 (match s.look 5 with
 |some ⟨none,.one ⟨false,[.val (.int .i64 y0)]⟩⟩=>
 (match s.look 1 with
 |some ⟨none,.one ⟨false,[.ptr 0 0]⟩⟩=>
 (match s.look 4 with
 |some ⟨none,.one ⟨false,[.val (.int .i64 y1)]⟩⟩=>
 (match s.look 3 with
 |some ⟨none,.one ⟨false,[.ref 1]⟩⟩=>
 (match s.ent 0 with
 |some (.box 63 [.val (.string y2),.ref 2,.ref 3,.ref 4,.val (.string y3),.ref 5])=>
 (match s.ent 2 with
 |some (.row false 9 (.str) y5)=>
 (match s.ent 3 with
 |some (.row false 9 (.str) y6)=>
 (match s.ent 4 with
 |some (.row false 9 (.str) y7)=>
 (match s.ent 5 with
 |some (.row false 204 (.pair .str (.sl 178 (.pair (.int .i64) (.pair .str (.int .i64))))) y8)=>
 (match s.ent 1 with
 |some (.row true 178 (.pair (.int .i64) (.pair .str (.int .i64))) y4)=>
 some (y0,y1,y2,y3,y4,y5,y6,y7,y8)
 |_=>none)
 |_=>none)
 |_=>none)
 |_=>none)
 |_=>none)
 |_=>none)
 |_=>none)
 |_=>none)
 |_=>none)
 |_=>none)
def eL:Lp om where
 h:=⟨[14,15,16,17,18,19,20,21,22,25,26,27,28,29,30,31,32,33,34,35,36,37,38,39,40,41,42,43,44,45,46,47,3,23,24,5],[0,2,3,4,5],[1],[]⟩
 JL:=Zf
 JE:=Ze
 XL:=Zk
 XE:=Zj
 q:=fun j=>match j with | _=> .exit 2
 tags:= [0]
 lt:=wW
 fuel:=fun(y0,y1,y2,y3,y4,y5,y6,y7,y8)=>y0.natAbs + y1.natAbs + y2.size + y3.size + y4.length + y5.length + y6.length + y7.length + y8.length
 fix:=fun(_,y1,y2,y3,_,y5,y6,y7,y8) (y0,_,_,_,y4,_,_,_,_)=>(y0,y1,y2,y3,y4,y5,y6,y7,y8)
 σ:= [(0,0),(2,2),(3,3),(4,4),(5,5),(1,1)]
 rd:=HO
theorem Xi:LoopOk prog (memN [7,8,9,10,11,5,14,15,16,17,18,19,20,21,22,25,26,27,28,29,30,31,32,33,34,35,36,37,38,39,40,41,42,43,44,45,46,47,3,23,24,12,13,4]) eL.F (YD (aY f188 0) 0):=by
 refine Lp.ok (tbl:= []) (lf:= []) aV eL (by kernel_rfl) (LOk.nil _) (fun _=>rfl) (fun _ _=>rfl) ?_ ?_ ?_ ?_ (fun _=>rfl) ?_
 ·rintro⟨y0,y1,y2,y3,y4,y5,y6,y7,y8⟩;kernel_rfl
 ·rintro⟨y0,y1,y2,y3,y4,y5,y6,y7,y8⟩;kernel_rfl
 ·intro s x h
  have h:HO s=some x:=h
  unfold HO at h
  repeat' split at h
  all_goals cases h
  constructor<;>repeat(first|refine ab (by assumption) rfl ?_|refine aa rfl (by assumption) rfl ?_|exact rfl)
 ·rintro⟨y0,y1,y2,y3,y4,y5,y6,y7,y8⟩;kernel_rfl
 ·rintro⟨y0,y1,y2,y3,y4,y5,y6,y7,y8⟩ z;exact(And.intro (And.intro rfl rfl) trivial)
abbrev rH:=Int×ByteArray×ByteArray×List (Int×(ByteArray×Int))×List ByteArray×List ByteArray×List ByteArray×List (ByteArray×(List (Int×(ByteArray×Int))))
def Bs(y0:Int)(y1 y2:ByteArray)(y3:List (Int×(ByteArray×Int)))(y4 y5 y6:List ByteArray)(y7:List (ByteArray×(List (Int×(ByteArray×Int))))):Int×Int×ByteArray×ByteArray×List (Int×ByteArray×Int)×List ByteArray×List ByteArray×List ByteArray×List (ByteArray×List (Int×ByteArray×Int)):=((0:Int),y0,y1,y2,y3,y4,y5,y6,y7)
def Cu(y0:Int)(y7:List (ByteArray×(List (Int×(ByteArray×Int))))):Bool:=ltI y0 (↑y7.length:Int)
def Cv(y0:Int)(y1 y2:ByteArray)(y3:List (Int×(ByteArray×Int)))(y4 y5 y6:List ByteArray)(y7:List (ByteArray×(List (Int×(ByteArray×Int))))):Bool:=Lp.fin eL (Bs y0 y1 y2 y3 y4 y5 y6 y7)
def Cw(y0:Int):Int:=IntKind.wrap .i64 (y0 + (1:Int))
def Cx(y0:Int)(y1 y2:ByteArray)(y3:List (Int×(ByteArray×Int)))(y4 y5 y6:List ByteArray)(y7:List (ByteArray×(List (Int×(ByteArray×Int))))):List (Int×(ByteArray×Int)):=((Lp.res eL (Bs y0 y1 y2 y3 y4 y5 y6 y7)).2.2.2.2.2).1
def acg:rH→List (Nat×SV)
 |(y0,_,_,_,_,_,_,_)=> [(4,(.one ⟨false,[.val (.int .i64 y0)]⟩)),(1,(.one ⟨false,[.ptr 0 0]⟩)),(3,(.one ⟨false,[.ref 1]⟩))]
def acd:rH→List (Nat×Entry)
 |(_,y1,y2,y3,y4,y5,y6,y7)=> [(0,(.box 63 [.val (.string y1),.ref 2,.ref 3,.ref 4,.val (.string y2),.ref 5])),(2,(.row false 9 alP y4)),(3,(.row false 9 alP y5)),(4,(.row false 9 alP y6)),(5,(.row false 204 aas y7)),(1,(.row true 178 acQ y3))]
def acB:Nat→rH→List (Nat×SV)
 |_,(_,_,_,_,_,_,_,_)=> [(3,(.one ⟨false,[.ref 1]⟩))]
def acy:Nat→rH→List (Nat×Entry)
 |_,(_,y1,y2,y3,y4,y5,y6,y7)=> [(0,(.box 63 [.val (.string y1),.ref 2,.ref 3,.ref 4,.val (.string y2),.ref 5])),(1,(.row true 178 acQ y3)),(2,(.row false 9 alP y4)),(3,(.row false 9 alP y5)),(4,(.row false 9 alP y6)),(5,(.row false 204 aas y7))]
def AP:rH→LT rH
 |(y0,y1,y2,y3,y4,y5,y6,y7)=> .ite (Cu y0 y7) (.need [Cv y0 y1 y2 y3 y4 y5 y6 y7] (.nrm ((Cw y0),y1,y2,Cx y0 y1 y2 y3 y4 y5 y6 y7,y4,y5,y6,y7) [(0,0),(1,448),(2,2),(3,3),(4,4),(5,5)])) (.ext 0 [(0,0),(1,1),(2,2),(3,3),(4,4),(5,5)])
def ML(s:St):Option rH:=
 (match s.look 4 with
 |some ⟨none,.one ⟨false,[.val (.int .i64 y0)]⟩⟩=>
 (match s.look 1 with
 |some ⟨none,.one ⟨false,[.ptr 320 0]⟩⟩=>
 (match s.look 3 with
 |some ⟨none,.one ⟨false,[.ref 448]⟩⟩=>
 (match s.ent 320 with
 |some (.box 63 [.val (.string y1),.ref 0,.ref 1,.ref 2,.val (.string y2),.ref 3])=>
 (match s.ent 0 with
 |some (.row false 9 (.str) y4)=>
 (match s.ent 1 with
 |some (.row false 9 (.str) y5)=>
 (match s.ent 2 with
 |some (.row false 9 (.str) y6)=>
 (match s.ent 3 with
 |some (.row false 204 (.pair .str (.sl 178 (.pair (.int .i64) (.pair .str (.int .i64))))) y7)=>
 (match s.ent 448 with
 |some (.row true 178 (.pair (.int .i64) (.pair .str (.int .i64))) y3)=>
 some (y0,y1,y2,y3,y4,y5,y6,y7)
 |_=>none)
 |_=>none)
 |_=>none)
 |_=>none)
 |_=>none)
 |_=>none)
 |_=>none)
 |_=>none)
 |_=>none)
def kq:Lp rH where
 h:=⟨[7,8,9,10,11,5,14,15,16,17,18,19,20,21,22,25,26,27,28,29,30,31,32,33,34,35,36,37,38,39,40,41,42,43,44,45,46,47,3,23,24,12,13,4],[0,2,3,4,5],[1],[]⟩
 JL:=acg
 JE:=acd
 XL:=acB
 XE:=acy
 q:=fun j=>match j with | _=> .exit 0
 tags:= [0]
 lt:=AP
 fuel:=fun(y0,y1,y2,y3,y4,y5,y6,y7)=>y0.natAbs + y1.size + y2.size + y3.length + y4.length + y5.length + y6.length + y7.length
 fix:=fun(_,y1,y2,_,y4,y5,y6,y7) (y0,_,_,y3,_,_,_,_)=>(y0,y1,y2,y3,y4,y5,y6,y7)
 σ:= [(0,320),(2,0),(3,1),(4,2),(5,3),(1,448)]
 rd:=ML
theorem aau:LoopOk prog (fun k=>Nat.blt k Tryz.f188.ntmps) kq.F (aY f188 0):=by
 refine Lp.ok (tbl:= []) (lf:= [eL.F]) aV kq (by kernel_rfl) (LOk.allT (l:= [YD (aY f188 0) 0]) (by kernel_rfl) (.cons Xi (.nil _))) (fun _=>rfl) (fun _ _=>rfl) ?_ ?_ ?_ ?_ (fun _=>rfl) ?_
 ·rintro⟨y0,y1,y2,y3,y4,y5,y6,y7⟩;kernel_rfl
 ·rintro⟨y0,y1,y2,y3,y4,y5,y6,y7⟩;kernel_rfl
 ·intro s x h
  have h:ML s=some x:=h
  unfold ML at h
  repeat' split at h
  all_goals cases h
  constructor<;>repeat(first|refine ab (by assumption) rfl ?_|refine aa rfl (by assumption) rfl ?_|exact rfl)
 ·rintro⟨y0,y1,y2,y3,y4,y5,y6,y7⟩;kernel_rfl
 ·rintro⟨y0,y1,y2,y3,y4,y5,y6,y7⟩ z;exact(And.intro rfl trivial)
section
variable (x0 x1:ByteArray)(x2 x3 x4:List ByteArray)(x5:List (ByteArray×List (Int×ByteArray×Int)))
def RO:Int×ByteArray×ByteArray×List (Int×ByteArray×Int)×List ByteArray×List ByteArray×List ByteArray×List (ByteArray×List (Int×ByteArray×Int)):=((0:Int),x0,x1,[],x2,x3,x4,x5)
def Tb:List (Int×(ByteArray×Int)):=((Lp.res kq (RO x0 x1 x2 x3 x4 x5)).2.2.2.2).1
def Tc:Bool:=allT [Lp.fin kq (RO x0 x1 x2 x3 x4 x5)]
end
def Zc:List SV→List Entry→Option Out
 | [.one ⟨true,[.val (.string x0),.ref 0,.ref 1,.ref 2,.val (.string x1),.ref 3]⟩],[.row false 9 (.str) x2,.row false 9 (.str) x3,.row false 9 (.str) x4,.row false 204 (.pair (.str) (.sl 178 (.pair (.int .i64) (.pair (.str) (.int .i64))))) x5]=>some ⟨.one ⟨false,[.ref 4]⟩,[.row false 9 alP x2,.row false 9 alP x3,.row false 9 alP x4,.row false 204 (CTy.pair CTy.str (CTy.sl (178:TypeId) acQ)) x5],[.row true 178 acQ (Tb x0 x1 x2 x3 x4 x5)],[Tc x0 x1 x2 x3 x4 x5]⟩
 |_,_=>none
def aid:PF prog:=PF.ofG prog [] [kq.F] aV 188 f188 func188 (LOk.fnT (l:= [aY f188 0]) (by kernel_rfl) (.cons aau (.nil _))) Zc (by
 intro vs es r h;unfold Zc at h;split at h
 ·cases h;kernel_rfl
 ·cases h)
def agW(x0:ByteArray):Bool:= !nD x0
def Xk:List SV→List Entry→Option Out
 | [.one ⟨false,[.val (.string x0)]⟩],[]=>some ⟨.one ⟨false,[.val (.bool (agW x0))]⟩,[],[],[]⟩
 |_,_=>none
def ahb:PF prog:=PF.ofG prog [OG] [] aV 259 f259 func259 (fun c _=>LOk.nil c) Xk (by
 intro vs es r h;unfold Xk at h;split at h
 ·cases h;kernel_rfl
 ·cases h)
def BL(x0:ByteArray):Bool:= !nD x0
def PY:List SV→List Entry→Option Out
 | [.one ⟨false,[.val (.string x0)]⟩],[]=>some ⟨.one ⟨false,[.val (.bool (BL x0))]⟩,[],[],[]⟩
 |_,_=>none
def Qk:PF prog:=PF.ofG prog [OG] [] aV 259 f259 func259 (fun c _=>LOk.nil c) PY (by
 intro vs es r h;unfold PY at h;split at h
 ·cases h;kernel_rfl
 ·cases h)
abbrev bv:=Int×Int×List ByteArray
section
variable (y0 y1:Int)(y2:List ByteArray)
def iP:Bool:=ltI y0 y1
def iQ:Bool:=leI 0 y0
def iR:Bool:=ltI y0 (↑y2.length:Int)
def iS:Bool:=ltN y0.toNat y2.length
def iT:Bool:=BL (Option.getD y2[Int.toNat y0]? ByteArray.empty)
def iU:Int:=IntKind.wrap .i64 (y0 + (1:Int))
end
def IR:bv→List (Nat×SV)
 |(y0,y1,_)=> [(8,(.one ⟨false,[.val (.int .i64 y0)]⟩)),(7,(.one ⟨false,[.val (.int .i64 y1)]⟩)),(1,(.one ⟨false,[.val (.func (.func 259) ⟨[]⟩ ⟨[]⟩)]⟩)),(0,(.one ⟨false,[.ref 0]⟩))]
def IO:bv→List (Nat×Entry)
 |(_,_,y2)=> [(0,(.row false 9 alP y2))]
def IZ:Nat→bv→List (Nat×SV)
 |0,(y0,_,_)=> [(4,(.one ⟨false,[.val (.int .i64 y0)]⟩))]
 |_,(_,_,_)=> []
def IW:Nat→bv→List (Nat×Entry)
 |0,(_,_,y2)=> [(0,(.row false 9 alP y2))]
 |_,(_,_,y2)=> [(0,(.row false 9 alP y2))]
def iz:bv→LT bv
 |(y0,y1,y2)=> .ite (iP y0 y1) (.need [iQ y0,iR y0 y2,iS y0 y2] (.ite (iT y0 y2) (.ext 0 [(0,0)]) (.nrm ((iU y0),y1,y2) [(0,0)]))) (.ext 1 [(0,0)])
def qS(s:St):Option bv:=
 (match s.look 8 with
 |some ⟨none,.one ⟨false,[.val (.int .i64 y0)]⟩⟩=>
 (match s.look 7 with
 |some ⟨none,.one ⟨false,[.val (.int .i64 y1)]⟩⟩=>
 (match s.look 1 with
 |some ⟨none,.one ⟨false,[.val (.func (.func 259) ⟨[]⟩ ⟨[]⟩)]⟩⟩=>
 (match s.look 0 with
 |some ⟨none,.one ⟨false,[.ref 0]⟩⟩=>
 (match s.ent 0 with
 |some (.row false 9 (.str) y2)=>
 some (y0,y1,y2)
 |_=>none)
 |_=>none)
 |_=>none)
 |_=>none)
 |_=>none)
def ah:Lp bv where
 h:=⟨[9,10,5,11,12,13,14,15,16,17,4,18,8],[0],[],[]⟩
 JL:=IR
 JE:=IO
 XL:=IZ
 XE:=IW
 q:=fun j=>match j with | 0=> .ret | _=> .exit 0
 tags:= [0,1]
 lt:=iz
 fuel:=fun(y0,y1,y2)=>y0.natAbs + y1.natAbs + y2.length
 fix:=fun(_,y1,y2) (y0,_,_)=>(y0,y1,y2)
 σ:= [(0,0)]
 rd:=qS
theorem HJ:LoopOk prog (fun k=>Nat.blt k Tryz.f264.ntmps) ah.F (aY f264 0):=by
 refine Lp.ok (tbl:= [Qk]) (lf:= []) aV ah (by kernel_rfl) (LOk.nil _) (fun _=>rfl) (fun j _=>by unfold ah;match j with | 0=>rfl | _ + 1=>rfl) ?_ ?_ ?_ ?_ (fun _=>rfl) ?_
 ·rintro⟨y0,y1,y2⟩;kernel_rfl
 ·rintro⟨y0,y1,y2⟩;kernel_rfl
 ·intro s x h
  have h:qS s=some x:=h
  unfold qS at h
  repeat' split at h
  all_goals cases h
  constructor<;>repeat(first|refine ab (by assumption) rfl ?_|refine aa rfl (by assumption) rfl ?_|exact rfl)
 ·rintro⟨y0,y1,y2⟩;kernel_rfl
 ·rintro⟨y0,y1,y2⟩ z;exact(And.intro (And.intro trivial rfl) trivial)
section
variable (x0:List ByteArray)
def nW:Int×Int×List ByteArray:=((0:Int),(↑x0.length:Int),x0)
def ta:Int:=bif Nat.beq ((Lp.res ah (nW x0)).1) 0 then ((Lp.res ah (nW x0)).2).1else(-1:Int)
def tb:Bool:=allT [Lp.fin ah (nW x0)]
end
def AF:List SV→List Entry→Option Out
 | [.one ⟨false,[.ref 0]⟩,.one ⟨false,[.val (.func (.func 259) ⟨[]⟩ ⟨[]⟩)]⟩],[.row false 9 (.str) x0]=>some ⟨.one ⟨false,[.val (.int .i64 (ta x0))]⟩,[.row false 9 alP x0],[],[tb x0]⟩
 |_,_=>none
def sN:PF prog:=PF.ofG prog [Qk] [ah.F] aV 264 f264 func264 (LOk.fnT (l:= [aY f264 0]) (by kernel_rfl) (.cons HJ (.nil _))) AF (by
 intro vs es r h;unfold AF at h;split at h
 ·cases h;kernel_rfl
 ·cases h)
def rn(x0:List ByteArray):Bool:=leI 0 (ta x0)
def ro(x0:List ByteArray):Bool:=allT [tb x0]
def yS:List SV→List Entry→Option Out
 | [.one ⟨false,[.ref 0]⟩,.one ⟨false,[.val (.func (.func 259) ⟨[]⟩ ⟨[]⟩)]⟩],[.row false 9 (.str) x0]=>some ⟨.one ⟨false,[.val (.bool (rn x0))]⟩,[.row false 9 alP x0],[],[ro x0]⟩
 |_,_=>none
def rj:PF prog:=PF.ofG prog (T3z [sN]) [] aV 235 f235 func235 (fun c _=>LOk.nil c) yS (by
 intro vs es r h;unfold yS at h;split at h
 ·cases h;kernel_rfl
 ·cases h)
def Up(x0:List ByteArray):Bool:= !rn x0
def Uq(x0:List ByteArray):Bool:=allT [ro x0]
def aaI:List SV→List Entry→Option Out
 | [.one ⟨false,[.ref 0]⟩],[.row false 9 (.str) x0]=>some ⟨.one ⟨false,[.val (.bool (Up x0))]⟩,[.row false 9 alP x0],[],[Uq x0]⟩
 |_,_=>none
def ajd:PF prog:=PF.ofG prog (T3z [ahb,rj]) [] aV 226 f226 func226 (fun c _=>LOk.nil c) aaI (by
 intro vs es r h;unfold aaI at h;split at h
 ·cases h;kernel_rfl
 ·cases h)
abbrev rx:=Int×Int×Int×Int×List (Int×(ByteArray×Int))
section
variable (y0 y1 y2 y3:Int)(y4:List (Int×(ByteArray×Int)))
def se:Int×ByteArray×Int:=Option.getD y4[Int.toNat y0]? ((0:Int),ByteArray.empty,(0:Int))
def xT:Int:=IntKind.wrap .i64 (y2 + IntKind.wrap .i64 ((1:Int) - tR ((se y0 y4).1)))
def Hv:Bool:=ltI y0 y1
def Hw:Bool:=leI 0 y0
def Hx:Bool:=ltI y0 (↑y4.length:Int)
def Hy:Bool:=ltN y0.toNat y4.length
def Hz:Bool:=bif !Ov ((se y0 y4).1) (((se y0 y4).2).1) ((se y0 y4).2.2)then true else ltI y2 (tR ((se y0 y4).1))
def HA:Int:=IntKind.wrap .i64 (y0 + (1:Int))
def HB:Int:=xT y0 y2 y4
def HC:Int:=ahU y3 (xT y0 y2 y4) (xT y0 y2 y4) y3
end
def agB:rx→List (Nat×SV)
 |(y0,y1,y2,y3,_)=> [(10,(.one ⟨false,[.val (.int .i64 y0)]⟩)),(9,(.one ⟨false,[.val (.int .i64 y1)]⟩)),(8,(.one ⟨false,[.ref 0]⟩)),(4,(.one ⟨false,[.val (.int .i64 y2)]⟩)),(5,(.one ⟨false,[.val (.int .i64 y3)]⟩))]
def agy:rx→List (Nat×Entry)
 |(_,_,_,_,y4)=> [(0,(.row false 178 acQ y4))]
def agH:Nat→rx→List (Nat×SV)
 |0,(_,_,_,_,_)=> [(2,(.one ⟨false,[.val (.int .i64 0)]⟩)),(3,(.one ⟨false,[.val (.bool false)]⟩))]
 |_,(_,_,y2,y3,_)=> [(4,(.one ⟨false,[.val (.int .i64 y2)]⟩)),(5,(.one ⟨false,[.val (.int .i64 y3)]⟩))]
def agE:Nat→rx→List (Nat×Entry)
 |0,(_,_,_,_,y4)=> [(0,(.row false 178 acQ y4))]
 |_,(_,_,_,_,y4)=> [(0,(.row false 178 acQ y4))]
def Fy:rx→LT rx
 |(y0,y1,y2,y3,y4)=> .ite (Hv y0 y1) (.need [Hw y0,Hx y0 y4,Hy y0 y4] (.ite (Hz y0 y2 y4) (.ext 0 [(0,0)]) (.nrm ((HA y0),y1,HB y0 y2 y4,HC y0 y2 y3 y4,y4) [(0,0)]))) (.ext 1 [(0,0)])
def Rj(s:St):Option rx:=
 (match s.look 10 with
 |some ⟨none,.one ⟨false,[.val (.int .i64 y0)]⟩⟩=>
 (match s.look 9 with
 |some ⟨none,.one ⟨false,[.val (.int .i64 y1)]⟩⟩=>
 (match s.look 8 with
 |some ⟨none,.one ⟨false,[.ref 0]⟩⟩=>
 (match s.look 4 with
 |some ⟨none,.one ⟨false,[.val (.int .i64 y2)]⟩⟩=>
 (match s.look 5 with
 |some ⟨none,.one ⟨false,[.val (.int .i64 y3)]⟩⟩=>
 (match s.ent 0 with
 |some (.row false 178 (.pair (.int .i64) (.pair .str (.int .i64))) y4)=>
 some (y0,y1,y2,y3,y4)
 |_=>none)
 |_=>none)
 |_=>none)
 |_=>none)
 |_=>none)
 |_=>none)
def iv:Lp rx where
 h:=⟨[11,12,13,7,14,15,16,17,18,19,20,21,22,23,2,3,24,25,26,27,28,29,4,30,31,32,5,33,10],[0],[],[]⟩
 JL:=agB
 JE:=agy
 XL:=agH
 XE:=agE
 q:=fun j=>match j with | 0=> .ret | _=> .exit 0
 tags:= [0,1]
 lt:=Fy
 fuel:=fun(y0,y1,y2,y3,y4)=>y0.natAbs + y1.natAbs + y2.natAbs + y3.natAbs + y4.length
 fix:=fun(_,y1,_,_,y4) (y0,_,y2,y3,_)=>(y0,y1,y2,y3,y4)
 σ:= [(0,0)]
 rd:=Rj
theorem aee:LoopOk prog (fun k=>Nat.blt k Tryz.f275.ntmps) iv.F (aY f275 0):=by
 refine Lp.ok (tbl:= [aeM,Nl]) (lf:= []) aV iv (by kernel_rfl) (LOk.nil _) (fun _=>rfl) (fun j _=>by unfold iv;match j with | 0=>rfl | _ + 1=>rfl) ?_ ?_ ?_ ?_ (fun _=>rfl) ?_
 ·rintro⟨y0,y1,y2,y3,y4⟩;kernel_rfl
 ·rintro⟨y0,y1,y2,y3,y4⟩;kernel_rfl
 ·intro s x h
  have h:Rj s=some x:=h
  unfold Rj at h
  repeat' split at h
  all_goals cases h
  constructor<;>repeat(first|refine ab (by assumption) rfl ?_|refine aa rfl (by assumption) rfl ?_|exact rfl)
 ·rintro⟨y0,y1,y2,y3,y4⟩;kernel_rfl
 ·rintro⟨y0,y1,y2,y3,y4⟩ z;exact(And.intro (And.intro trivial rfl) trivial)
section
variable (x0:List (Int×ByteArray×Int))
def QT:Int×Int×Int×Int×List (Int×ByteArray×Int):=((0:Int),(↑x0.length:Int),(0:Int),(0:Int),x0)
def VO:Bool:=Nat.beq ((Lp.res iv (QT x0)).1) 0
def VP:Int×Int×List (Int×ByteArray×Int):=(Lp.res iv (QT x0)).2.2.2
def alh:Int:=bif VO x0 then(0:Int)else ((VP x0).2).1
def Ys:Bool:=bif VO x0 then false else (VP x0).1==1
def Yt:Bool:=allT [Lp.fin iv (QT x0)]
end
def ael:List SV→List Entry→Option Out
 | [.one ⟨false,[.ref 0]⟩],[.row false 178 (.pair (.int .i64) (.pair (.str) (.int .i64))) x0]=>some ⟨.tup [⟨false,[.val (.int .i64 (alh x0))]⟩,⟨false,[.val (.bool (Ys x0))]⟩],[.row false 178 acQ x0],[],[Yt x0]⟩
 |_,_=>none
def YK:PF prog:=PF.ofG prog [aeM,Nl] [iv.F] aV 275 f275 func275 (LOk.fnT (l:= [aY f275 0]) (by kernel_rfl) (.cons aee (.nil _))) ael (by
 intro vs es r h;unfold ael at h;split at h
 ·cases h;kernel_rfl
 ·cases h)
def GJ(x0:List (Int×ByteArray×Int)):Bool:=bif Ys x0 then leI (↑x0.length:Int) 40 else false
def GK(x0:List (Int×ByteArray×Int)):Bool:=allT [Yt x0]
def UN:List SV→List Entry→Option Out
 | [.one ⟨false,[.ref 0]⟩],[.row false 178 (.pair (.int .i64) (.pair (.str) (.int .i64))) x0]=>some ⟨.one ⟨false,[.val (.bool (GJ x0))]⟩,[.row false 178 acQ x0],[],[GK x0]⟩
 |_,_=>none
def NP:PF prog:=PF.ofG prog (T3z [YK]) [] aV 263 f263 func263 (fun c _=>LOk.nil c) UN (by
 intro vs es r h;unfold UN at h;split at h
 ·cases h;kernel_rfl
 ·cases h)
def Yu(x0:ByteArray)(x1:List (Int×ByteArray×Int)):Bool:=bif nD x0 then GJ x1 else false
def Yv(x0:ByteArray)(x1:List (Int×ByteArray×Int)):Bool:=allT [!(nD x0&&true)||GK x1]
def aem:List SV→List Entry→Option Out
 | [.one ⟨true,[.val (.string x0),.ref 0]⟩],[.row false 178 (.pair (.int .i64) (.pair (.str) (.int .i64))) x1]=>some ⟨.one ⟨false,[.val (.bool (Yu x0 x1))]⟩,[.row false 178 acQ x1],[],[Yv x0 x1]⟩
 |_,_=>none
def alp:PF prog:=PF.ofG prog (T3z [OG,NP]) [] aV 231 f231 func231 (fun c _=>LOk.nil c) aem (by
 intro vs es r h;unfold aem at h;split at h
 ·cases h;kernel_rfl
 ·cases h)
abbrev oK:=Int×Int×List ByteArray
section
variable (y0 y1:Int)(y2:List ByteArray)
def Cf:ByteArray:=Option.getD y2[Int.toNat y0]? ByteArray.empty
def uY:List ByteArray:=List.drop (Int.toNat 0) (List.take y0.toNat y2)
def Ds:Bool:=ltI y0 y1
def zU:Bool:=leI 0 y0
def Dt:Bool:=ltI y0 (↑y2.length:Int)
def Du:Bool:=ltN y0.toNat y2.length
end
def Dv:Bool:=leI 0 0
section
variable (y0:Int)(y2:List ByteArray)
def Dw:Bool:=leI y0 (↑y2.length:Int)
def zV:Bool:=lG (Cf y0 y2) (uY y0 y2)
def Dx:Bool:=jj (Cf y0 y2) (uY y0 y2)
def Jf:Int:=IntKind.wrap .i64 (y0 + (1:Int))
end
def adP:oK→List (Nat×SV)
 |(y0,y1,_)=> [(7,(.one ⟨false,[.val (.int .i64 y0)]⟩)),(6,(.one ⟨false,[.val (.int .i64 y1)]⟩)),(5,(.one ⟨false,[.ref 0]⟩)),(0,(.one ⟨false,[.ref 0]⟩))]
def adH:oK→List (Nat×Entry)
 |(_,_,y2)=> [(0,(.row false 9 alP y2))]
def ad5:Nat→oK→List (Nat×SV)
 |0,(_,_,_)=> [(2,(.one ⟨false,[.val (.bool true)]⟩))]
 |_,(_,_,_)=> []
def adX:Nat→oK→List (Nat×Entry)
 |0,(_,_,y2)=> [(0,(.row false 9 alP y2))]
 |_,(_,_,y2)=> [(0,(.row false 9 alP y2))]
def Cg:oK→LT oK
 |(y0,y1,y2)=> .ite (Ds y0 y1) (.need [zU y0,Dt y0 y2,Du y0 y2] (.need [Dv,zU y0,Dw y0 y2,zV y0 y2] (.ite (Dx y0 y2) (.ext 0 [(0,0)]) (.nrm ((Jf y0),y1,y2) [(0,0)])))) (.ext 1 [(0,0)])
def NZ(s:St):Option oK:=
 (match s.look 7 with
 |some ⟨none,.one ⟨false,[.val (.int .i64 y0)]⟩⟩=>
 (match s.look 6 with
 |some ⟨none,.one ⟨false,[.val (.int .i64 y1)]⟩⟩=>
 (match s.look 5 with
 |some ⟨none,.one ⟨false,[.ref 0]⟩⟩=>
 (match s.look 0 with
 |some ⟨none,.one ⟨false,[.ref 0]⟩⟩=>
 (match s.ent 0 with
 |some (.row false 9 (.str) y2)=>
 some (y0,y1,y2)
 |_=>none)
 |_=>none)
 |_=>none)
 |_=>none)
 |_=>none)
def fW:Lp oK where
 h:=⟨[8,9,10,11,3,4,12,13,14,15,16,2,17,7],[0],[],[]⟩
 JL:=adP
 JE:=adH
 XL:=ad5
 XE:=adX
 q:=fun j=>match j with | 0=> .ret | _=> .exit 0
 tags:= [0,1]
 lt:=Cg
 fuel:=fun(y0,y1,y2)=>y0.natAbs + y1.natAbs + y2.length
 fix:=fun(_,y1,y2) (y0,_,_)=>(y0,y1,y2)
 σ:= [(0,0)]
 rd:=NZ
theorem abD:LoopOk prog (fun k=>Nat.blt k Tryz.f232.ntmps) fW.F (aY f232 0):=by
 refine Lp.ok (tbl:= (T3z [dG])) (lf:= []) aV fW (by kernel_rfl) (LOk.nil _) (fun _=>rfl) (fun j _=>by unfold fW;match j with | 0=>rfl | _ + 1=>rfl) ?_ ?_ ?_ ?_ (fun _=>rfl) ?_
 ·rintro⟨y0,y1,y2⟩;kernel_rfl
 ·rintro⟨y0,y1,y2⟩;kernel_rfl
 ·intro s x h
  have h:NZ s=some x:=h
  unfold NZ at h
  repeat' split at h
  all_goals cases h
  constructor<;>repeat(first|refine ab (by assumption) rfl ?_|refine aa rfl (by assumption) rfl ?_|exact rfl)
 ·rintro⟨y0,y1,y2⟩;kernel_rfl
 ·rintro⟨y0,y1,y2⟩ z;exact(And.intro (And.intro trivial rfl) trivial)
section
variable (x0:List ByteArray)
def SI:Int×Int×List ByteArray:=((0:Int),(↑x0.length:Int),x0)
def Ur:Bool:=bif Nat.beq ((Lp.res fW (SI x0)).1) 0 then true else false
def Us:Bool:=allT [Lp.fin fW (SI x0)]
end
def aaJ:List SV→List Entry→Option Out
 | [.one ⟨false,[.ref 0]⟩],[.row false 9 (.str) x0]=>some ⟨.one ⟨false,[.val (.bool (Ur x0))]⟩,[.row false 9 alP x0],[],[Us x0]⟩
 |_,_=>none
def aje:PF prog:=PF.ofG prog (T3z [dG]) [fW.F] aV 232 f232 func232 (LOk.fnT (l:= [aY f232 0]) (by kernel_rfl) (.cons abD (.nil _))) aaJ (by
 intro vs es r h;unfold aaJ at h;split at h
 ·cases h;kernel_rfl
 ·cases h)
abbrev aU:=Int×Int×List (Int×(ByteArray×Int))×List (Int×(ByteArray×Int))
section
variable (y0 y1:Int)(y2 y3:List (Int×(ByteArray×Int)))
def aQ:Int×ByteArray×Int:=Option.getD y2[Int.toNat y0]? ((0:Int),ByteArray.empty,(0:Int))
def ct:Bool:=leI 7 ((aQ y0 y2).1)
def cu:List (Int×ByteArray×Int):= [((aQ y0 y2).1,((aQ y0 y2).2).1,(aQ y0 y2).2.2)]
def eZ:Bool:=ltI y0 y1
def fa:Bool:=leI 0 y0
def fb:Bool:=ltI y0 (↑y2.length:Int)
def fc:Bool:=ltN y0.toNat y2.length
def fe:Bool:= !ct y0 y2||leN (List.length y3 + List.length (cu y0 y2)) 9223372036854775807
def ff:Bool:= !ct y0 y2||leN ((List.length y3 + List.length (cu y0 y2)) * 32) 140737488355328
def fg:Bool:=ct y0 y2
def dI:Int:=IntKind.wrap .i64 (y0 + (1:Int))
def fh:List (Int×(ByteArray×Int)):=y3++cu y0 y2
end
def ES:aU→List (Nat×SV)
 |(y0,y1,_,_)=> [(18,(.one ⟨false,[.val (.int .i64 y0)]⟩)),(17,(.one ⟨false,[.val (.int .i64 y1)]⟩)),(16,(.one ⟨false,[.ref 0]⟩)),(3,(.one ⟨false,[.ref 1]⟩))]
def ER:aU→List (Nat×Entry)
 |(_,_,y2,y3)=> [(0,(.row false 178 acQ y2)),(1,(.row true 178 acQ y3))]
def EU:Nat→aU→List (Nat×SV)
 |_,(_,_,_,_)=> [(3,(.one ⟨false,[.ref 1]⟩))]
def ET:Nat→aU→List (Nat×Entry)
 |_,(_,_,y2,y3)=> [(0,(.row false 178 acQ y2)),(1,(.row true 178 acQ y3))]
def eE:aU→LT aU
 |(y0,y1,y2,y3)=> .ite (eZ y0 y1) (.need [fa y0,fb y0 y2,fc y0 y2] (.need [fe y0 y2 y3,ff y0 y2 y3] (.ite (fg y0 y2) (.nrm ((dI y0),y1,y2,(fh y0 y2 y3)) [(0,0),(1,768)]) (.nrm ((dI y0),y1,y2,y3) [(0,0),(1,1)])))) (.ext 0 [(0,0),(1,1)])
def og(s:St):Option aU:=
 (match s.look 18 with
 |some ⟨none,.one ⟨false,[.val (.int .i64 y0)]⟩⟩=>
 (match s.look 17 with
 |some ⟨none,.one ⟨false,[.val (.int .i64 y1)]⟩⟩=>
 (match s.look 16 with
 |some ⟨none,.one ⟨false,[.ref 192]⟩⟩=>
 (match s.look 3 with
 |some ⟨none,.one ⟨false,[.ref 1]⟩⟩=>
 (match s.ent 192 with
 |some (.row false 178 (.pair (.int .i64) (.pair .str (.int .i64))) y2)=>
 (match s.ent 1 with
 |some (.row true 178 (.pair (.int .i64) (.pair .str (.int .i64))) y3)=>
 some (y0,y1,y2,y3)
 |_=>none)
 |_=>none)
 |_=>none)
 |_=>none)
 |_=>none)
 |_=>none)
def ae:Lp aU where
 h:=⟨[19,20,21,7,22,23,24,25,26,27,28,3,29,18],[0],[1],[]⟩
 JL:=ES
 JE:=ER
 XL:=EU
 XE:=ET
 q:=fun j=>match j with | _=> .exit 2
 tags:= [0]
 lt:=eE
 fuel:=fun(y0,y1,y2,y3)=>y0.natAbs + y1.natAbs + y2.length + y3.length
 fix:=fun(_,y1,y2,_) (y0,_,_,y3)=>(y0,y1,y2,y3)
 σ:= [(0,192),(1,1)]
 rd:=og
theorem DH:LoopOk prog (memN [12,13,14,5,15,16,17,18,19,20,21,7,22,23,24,25,26,27,28,3,29,30,11]) ae.F (YD (aY f117 0) 0):=by
 refine Lp.ok (tbl:= []) (lf:= []) aV ae (by kernel_rfl) (LOk.nil _) (fun _=>rfl) (fun _ _=>rfl) ?_ ?_ ?_ ?_ (fun _=>rfl) ?_
 ·rintro⟨y0,y1,y2,y3⟩;kernel_rfl
 ·rintro⟨y0,y1,y2,y3⟩;kernel_rfl
 ·intro s x h
  have h:og s=some x:=h
  unfold og at h
  repeat' split at h
  all_goals cases h
  constructor<;>repeat(first|refine ab (by assumption) rfl ?_|refine aa rfl (by assumption) rfl ?_|exact rfl)
 ·rintro⟨y0,y1,y2,y3⟩;kernel_rfl
 ·rintro⟨y0,y1,y2,y3⟩ z;exact(And.intro (And.intro rfl rfl) trivial)
abbrev aZ:=Int×Int×List (ByteArray×(List (Int×(ByteArray×Int))))×List (Int×(ByteArray×Int))
def bT(y0:Int)(y2:List (ByteArray×(List (Int×(ByteArray×Int))))):List (Int×ByteArray×Int):=(Option.getD y2[Int.toNat y0]? (xE aas)).2
def dY(y0:Int)(y2:List (ByteArray×(List (Int×(ByteArray×Int)))))(y3:List (Int×(ByteArray×Int))):Int×Int×List (Int×ByteArray×Int)×List (Int×ByteArray×Int):=((0:Int),(↑(List.length (bT y0 y2)):Int),bT y0 y2,y3)
def ge(y0 y1:Int):Bool:=ltI y0 y1
def kD(y0:Int):Bool:=leI 0 y0
def kE(y0:Int)(y2:List (ByteArray×(List (Int×(ByteArray×Int))))):Bool:=ltI y0 (↑y2.length:Int)
def kF(y0:Int)(y2:List (ByteArray×(List (Int×(ByteArray×Int))))):Bool:=ltN y0.toNat y2.length
def gf(y0:Int)(y2:List (ByteArray×(List (Int×(ByteArray×Int)))))(y3:List (Int×(ByteArray×Int))):Bool:=Lp.fin ae (dY y0 y2 y3)
def pN(y0:Int):Int:=IntKind.wrap .i64 (y0 + (1:Int))
def kG(y0:Int)(y2:List (ByteArray×(List (Int×(ByteArray×Int)))))(y3:List (Int×(ByteArray×Int))):List (Int×(ByteArray×Int)):=(Lp.res ae (dY y0 y2 y3)).2.2.2.2
def GE:aZ→List (Nat×SV)
 |(y0,y1,_,_)=> [(11,(.one ⟨false,[.val (.int .i64 y0)]⟩)),(10,(.one ⟨false,[.val (.int .i64 y1)]⟩)),(9,(.one ⟨false,[.ref 0]⟩)),(3,(.one ⟨false,[.ref 1]⟩))]
def GD:aZ→List (Nat×Entry)
 |(_,_,y2,y3)=> [(0,(.row false 204 aas y2)),(1,(.row true 178 acQ y3))]
def GG:Nat→aZ→List (Nat×SV)
 |_,(_,_,_,_)=> [(3,(.one ⟨false,[.ref 1]⟩))]
def GF:Nat→aZ→List (Nat×Entry)
 |_,(_,_,y2,y3)=> [(0,(.row false 204 aas y2)),(1,(.row true 178 acQ y3))]
def fV:aZ→LT aZ
 |(y0,y1,y2,y3)=> .ite (ge y0 y1) (.need [kD y0,kE y0 y2,kF y0 y2] (.need [gf y0 y2 y3] (.nrm ((pN y0),y1,y2,(kG y0 y2 y3)) [(0,0),(1,640)]))) (.ext 0 [(0,0),(1,1)])
def pD(s:St):Option aZ:=
 (match s.look 11 with
 |some ⟨none,.one ⟨false,[.val (.int .i64 y0)]⟩⟩=>
 (match s.look 10 with
 |some ⟨none,.one ⟨false,[.val (.int .i64 y1)]⟩⟩=>
 (match s.look 9 with
 |some ⟨none,.one ⟨false,[.ref 3]⟩⟩=>
 (match s.look 3 with
 |some ⟨none,.one ⟨false,[.ref 448]⟩⟩=>
 (match s.ent 3 with
 |some (.row false 204 (.pair .str (.sl 178 (.pair (.int .i64) (.pair .str (.int .i64))))) y2)=>
 (match s.ent 448 with
 |some (.row true 178 (.pair (.int .i64) (.pair .str (.int .i64))) y3)=>
 some (y0,y1,y2,y3)
 |_=>none)
 |_=>none)
 |_=>none)
 |_=>none)
 |_=>none)
 |_=>none)
def ax:Lp aZ where
 h:=⟨[12,13,14,5,15,16,17,18,19,20,21,7,22,23,24,25,26,27,28,3,29,30,11],[0],[1],[]⟩
 JL:=GE
 JE:=GD
 XL:=GG
 XE:=GF
 q:=fun j=>match j with | _=> .exit 0
 tags:= [0]
 lt:=fV
 fuel:=fun(y0,y1,y2,y3)=>y0.natAbs + y1.natAbs + y2.length + y3.length
 fix:=fun(_,y1,y2,_) (y0,_,_,y3)=>(y0,y1,y2,y3)
 σ:= [(0,3),(1,448)]
 rd:=pD
theorem Fx:LoopOk prog (fun k=>Nat.blt k Tryz.f117.ntmps) ax.F (aY f117 0):=by
 refine Lp.ok (tbl:= []) (lf:= [ae.F]) aV ax (by kernel_rfl) (LOk.allT (l:= [YD (aY f117 0) 0]) (by kernel_rfl) (.cons DH (.nil _))) (fun _=>rfl) (fun _ _=>rfl) ?_ ?_ ?_ ?_ (fun _=>rfl) ?_
 ·rintro⟨y0,y1,y2,y3⟩;kernel_rfl
 ·rintro⟨y0,y1,y2,y3⟩;kernel_rfl
 ·intro s x h
  have h:pD s=some x:=h
  unfold pD at h
  repeat' split at h
  all_goals cases h
  constructor<;>repeat(first|refine ab (by assumption) rfl ?_|refine aa rfl (by assumption) rfl ?_|exact rfl)
 ·rintro⟨y0,y1,y2,y3⟩;kernel_rfl
 ·rintro⟨y0,y1,y2,y3⟩ z;exact(And.intro rfl trivial)
section
variable (x5:List (ByteArray×List (Int×ByteArray×Int)))
def qM:Int×Int×List (ByteArray×List (Int×ByteArray×Int))×List (Int×ByteArray×Int):=((0:Int),(↑x5.length:Int),x5,[])
def rc:List (Int×(ByteArray×Int)):=(Lp.res ax (qM x5)).2.2.2.2
def re:Bool:=allT [Lp.fin ax (qM x5)]
end
def yR:List SV→List Entry→Option Out
 | [.one ⟨true,[.val (.string _x0),.ref 0,.ref 1,.ref 2,.val (.string _x1),.ref 3]⟩],[.row false 9 (.str) x2,.row false 9 (.str) x3,.row false 9 (.str) x4,.row false 204 (.pair (.str) (.sl 178 (.pair (.int .i64) (.pair (.str) (.int .i64))))) x5]=>some ⟨.one ⟨false,[.ref 4]⟩,[.row false 9 alP x2,.row false 9 alP x3,.row false 9 alP x4,.row false 204 (CTy.pair CTy.str (CTy.sl (178:TypeId) acQ)) x5],[.row true 178 acQ (rc x5)],[re x5]⟩
 |_,_=>none
def JW:PF prog:=PF.ofG prog [] [ax.F] aV 117 f117 func117 (LOk.fnT (l:= [aY f117 0]) (by kernel_rfl) (.cons Fx (.nil _))) yR (by
 intro vs es r h;unfold yR at h;split at h
 ·cases h;kernel_rfl
 ·cases h)
section
variable (x0:Int)
def bk:Int:=IntKind.wrap .i64 (x0 - IntKind.wrap .i64 ((↑(0:Nat):Int) - (↑(0:Nat):Int)))
def Af:Bool:= !ltI 0 (bk x0)||leI 0 (↑(0:Nat):Int)
def vE:List ByteArray:=bif ltI 0 (bk x0)then List.take (Int.toNat (↑(0:Nat):Int)) (List.replicate (Int.toNat (bk x0)) (ByteArray.mk #[]))else []
def vF:Bool:=allT [!ltI x0 0,!ltI 0 (bk x0)||leI 0 0,Af x0,!ltI 0 (bk x0)||leI (↑(0:Nat):Int) 0,!ltI 0 (bk x0)||leI 1 (bk x0),!ltI 0 (bk x0)||leI (bk x0) 9223372036854775807,!ltI 0 (bk x0)||leI (bk x0 * (↑(16:Nat):Int)) 281474976710656,Af x0,!ltI 0 (bk x0)||leI (↑(0:Nat):Int) (↑(List.length (List.replicate (Int.toNat (bk x0)) (ByteArray.mk #[]))):Int)]
end
def IL:List SV→List Entry→Option Out
 | [.one ⟨false,[.val (.slice none 0 0)]⟩,.one ⟨false,[.val (.int .i64 x0)]⟩],[]=>some ⟨.one ⟨false,[.ref 0]⟩,[],[.row true 9 alP (vE x0)],[vF x0]⟩
 |_,_=>none
def AU:PF prog:=PF.ofG prog [PF.raw prog] [] aV 260 f260 func260 (fun c _=>LOk.nil c) IL (by
 intro vs es r h;unfold IL at h;split at h
 ·cases h;kernel_rfl
 ·cases h)
abbrev di:=Int×Int×Int×List (List ByteArray)
section
variable (y0 y1 y2:Int)(y3:List (List ByteArray))
def gq:Int:=IntKind.wrap .i64 (y2 + (↑(List.length (Option.getD y3[Int.toNat y0]? (xE (CTy.sl 9 CTy.str)))):Int))
def ov:Bool:=ltI y0 y1
def sg:Bool:=leI 0 y0
def si:Bool:=ltI y0 (↑y3.length:Int)
def sj:Bool:=ltN y0.toNat y3.length
def sk:Bool:= !ltI (gq y0 y2 y3) 0
def ym:Int:=IntKind.wrap .i64 (y0 + (1:Int))
def sm:Int:=gq y0 y2 y3
end
def QA:di→List (Nat×SV)
 |(y0,y1,y2,_)=> [(11,(.one ⟨false,[.val (.int .i64 y0)]⟩)),(10,(.one ⟨false,[.val (.int .i64 y1)]⟩)),(9,(.one ⟨false,[.ref 0]⟩)),(3,(.one ⟨false,[.val (.int .i64 y2)]⟩))]
def Qy:di→List (Nat×Entry)
 |(_,_,_,y3)=> [(0,(.row false 60 (CTy.sl 9 CTy.str) y3))]
def QE:Nat→di→List (Nat×SV)
 |_,(_,_,y2,_)=> [(3,(.one ⟨false,[.val (.int .i64 y2)]⟩))]
def QC:Nat→di→List (Nat×Entry)
 |_,(_,_,_,y3)=> [(0,(.row false 60 (CTy.sl 9 CTy.str) y3))]
def nH:di→LT di
 |(y0,y1,y2,y3)=> .ite (ov y0 y1) (.need [sg y0,si y0 y3,sj y0 y3] (.need [sk y0 y2 y3] (.nrm ((ym y0),y1,sm y0 y2 y3,y3) [(0,0)]))) (.ext 0 [(0,0)])
def xH(s:St):Option di:=
 (match s.look 11 with
 |some ⟨none,.one ⟨false,[.val (.int .i64 y0)]⟩⟩=>
 (match s.look 10 with
 |some ⟨none,.one ⟨false,[.val (.int .i64 y1)]⟩⟩=>
 (match s.look 9 with
 |some ⟨none,.one ⟨false,[.ref 0]⟩⟩=>
 (match s.look 3 with
 |some ⟨none,.one ⟨false,[.val (.int .i64 y2)]⟩⟩=>
 (match s.ent 0 with
 |some (.row false 60 (.sl 9 .str) y3)=>
 some (y0,y1,y2,y3)
 |_=>none)
 |_=>none)
 |_=>none)
 |_=>none)
 |_=>none)
def bq:Lp di where
 h:=⟨[12,13,14,5,15,16,17,18,3,19,20,21,22,11],[0],[],[]⟩
 JL:=QA
 JE:=Qy
 XL:=QE
 XE:=QC
 q:=fun j=>match j with | _=> .exit 0
 tags:= [0]
 lt:=nH
 fuel:=fun(y0,y1,y2,y3)=>y0.natAbs + y1.natAbs + y2.natAbs + y3.length
 fix:=fun(_,y1,_,y3) (y0,_,y2,_)=>(y0,y1,y2,y3)
 σ:= [(0,0)]
 rd:=xH
theorem OB:LoopOk prog (fun k=>Nat.blt k Tryz.f227.ntmps) bq.F (aY f227 0):=by
 refine Lp.ok (tbl:= [AU]) (lf:= []) aV bq (by kernel_rfl) (LOk.nil _) (fun _=>rfl) (fun _ _=>rfl) ?_ ?_ ?_ ?_ (fun _=>rfl) ?_
 ·rintro⟨y0,y1,y2,y3⟩;kernel_rfl
 ·rintro⟨y0,y1,y2,y3⟩;kernel_rfl
 ·intro s x h
  have h:xH s=some x:=h
  unfold xH at h
  repeat' split at h
  all_goals cases h
  constructor<;>repeat(first|refine ab (by assumption) rfl ?_|refine aa rfl (by assumption) rfl ?_|exact rfl)
 ·rintro⟨y0,y1,y2,y3⟩;kernel_rfl
 ·rintro⟨y0,y1,y2,y3⟩ z;exact(And.intro rfl trivial)
abbrev dj:=Int×Int×List (List ByteArray)×List ByteArray
section
variable (y0 y1:Int)(y2:List (List ByteArray))(y3:List ByteArray)
def dK:List ByteArray:=Option.getD y2[Int.toNat y0]? (xE (CTy.sl 9 CTy.str))
def ow:Bool:=ltI y0 y1
def sn:Bool:=leI 0 y0
def sq:Bool:=ltI y0 (↑y2.length:Int)
def sr:Bool:=ltN y0.toNat y2.length
def su:Bool:=leN (List.length y3 + List.length (dK y0 y2)) 9223372036854775807
def sv:Bool:=leN ((List.length y3 + List.length (dK y0 y2)) * 16) 140737488355328
def yo:Int:=IntKind.wrap .i64 (y0 + (1:Int))
def sw:List ByteArray:=y3++dK y0 y2
end
def QB:dj→List (Nat×SV)
 |(y0,y1,_,_)=> [(27,(.one ⟨false,[.val (.int .i64 y0)]⟩)),(26,(.one ⟨false,[.val (.int .i64 y1)]⟩)),(25,(.one ⟨false,[.ref 0]⟩)),(6,(.one ⟨false,[.ref 1]⟩))]
def Qz:dj→List (Nat×Entry)
 |(_,_,y2,y3)=> [(0,(.row false 60 (CTy.sl 9 CTy.str) y2)),(1,(.row true 9 alP y3))]
def QF:Nat→dj→List (Nat×SV)
 |_,(_,_,_,_)=> [(6,(.one ⟨false,[.ref 1]⟩))]
def QD:Nat→dj→List (Nat×Entry)
 |_,(_,_,y2,y3)=> [(0,(.row false 60 (CTy.sl 9 CTy.str) y2)),(1,(.row true 9 alP y3))]
def nI:dj→LT dj
 |(y0,y1,y2,y3)=> .ite (ow y0 y1) (.need [sn y0,sq y0 y2,sr y0 y2] (.need [su y0 y2 y3,sv y0 y2 y3] (.nrm ((yo y0),y1,y2,(sw y0 y2 y3)) [(0,0),(1,448)]))) (.ext 0 [(0,0),(1,1)])
def xI(s:St):Option dj:=
 (match s.look 27 with
 |some ⟨none,.one ⟨false,[.val (.int .i64 y0)]⟩⟩=>
 (match s.look 26 with
 |some ⟨none,.one ⟨false,[.val (.int .i64 y1)]⟩⟩=>
 (match s.look 25 with
 |some ⟨none,.one ⟨false,[.ref 0]⟩⟩=>
 (match s.look 6 with
 |some ⟨none,.one ⟨false,[.ref 576]⟩⟩=>
 (match s.ent 0 with
 |some (.row false 60 (.sl 9 .str) y2)=>
 (match s.ent 576 with
 |some (.row true 9 (.str) y3)=>
 some (y0,y1,y2,y3)
 |_=>none)
 |_=>none)
 |_=>none)
 |_=>none)
 |_=>none)
 |_=>none)
def br:Lp dj where
 h:=⟨[28,29,30,8,31,32,33,6,34,27],[0],[1],[]⟩
 JL:=QB
 JE:=Qz
 XL:=QF
 XE:=QD
 q:=fun j=>match j with | _=> .exit 2
 tags:= [0]
 lt:=nI
 fuel:=fun(y0,y1,y2,y3)=>y0.natAbs + y1.natAbs + y2.length + y3.length
 fix:=fun(_,y1,y2,_) (y0,_,_,y3)=>(y0,y1,y2,y3)
 σ:= [(0,0),(1,576)]
 rd:=xI
theorem OC:LoopOk prog (fun k=>Nat.blt k Tryz.f227.ntmps) br.F (aY f227 1):=by
 refine Lp.ok (tbl:= [AU]) (lf:= []) aV br (by kernel_rfl) (LOk.nil _) (fun _=>rfl) (fun _ _=>rfl) ?_ ?_ ?_ ?_ (fun _=>rfl) ?_
 ·rintro⟨y0,y1,y2,y3⟩;kernel_rfl
 ·rintro⟨y0,y1,y2,y3⟩;kernel_rfl
 ·intro s x h
  have h:xI s=some x:=h
  unfold xI at h
  repeat' split at h
  all_goals cases h
  constructor<;>repeat(first|refine ab (by assumption) rfl ?_|refine aa rfl (by assumption) rfl ?_|exact rfl)
 ·rintro⟨y0,y1,y2,y3⟩;kernel_rfl
 ·rintro⟨y0,y1,y2,y3⟩ z;exact(And.intro rfl trivial)
section
variable (x0:List (List ByteArray))
def ud:Int×Int×Int×List (List ByteArray):=((0:Int),(↑x0.length:Int),(0:Int),x0)
def ue:Int:=((Lp.res bq (ud x0)).2.2.2).1
def uf:Int×Int×List (List ByteArray)×List ByteArray:=((0:Int),(↑x0.length:Int),x0,vE (ue x0))
def AW:List ByteArray:=(Lp.res br (uf x0)).2.2.2.2
def AX:Bool:=allT [Lp.fin bq (ud x0),vF (ue x0),Lp.fin br (uf x0)]
end
def IJ:List SV→List Entry→Option Out
 | [.one ⟨false,[.ref 0]⟩],[.row false 60 (.sl 9 (.str)) x0]=>some ⟨.one ⟨false,[.ref 1]⟩,[.row false 60 (CTy.sl (9:TypeId) CTy.str) x0],[.row true 9 alP (AW x0)],[AX x0]⟩
 |_,_=>none
def TO:PF prog:=PF.ofG prog [AU] [bq.F,br.F] aV 227 f227 func227 (LOk.fnT (l:= [aY f227 0,aY f227 1]) (by kernel_rfl) (.cons OB (.cons OC (.nil _)))) IJ (by
 intro vs es r h;unfold IJ at h;split at h
 ·cases h;kernel_rfl
 ·cases h)
def atZ(l:List Int)(k:Int):Int:=Option.getD l[Int.toNat k]? 0
def aqq(a b:Int):Int:=bif a==1 then b else 0
def orI(a b:Int):Int:=bif a==1 then 1 else b
theorem Th{l:List Int}(h: ∀ z∈l,z=0∨z=1)(k:Int):atZ l k=0∨atZ l k=1:=by
 unfold atZ
 cases hk:l[k.toNat]? with
 |none=>exact .inl rfl
 |some z=>exact h z (List.mem_of_getElem? hk)
theorem am8{n:Int}{l:List Int}(h:bitsB n l=true)(k:Nat){z:Int}(hz:z=0∨z=1):bitsB n (l.set k z)=true:=by
 obtain⟨h1,h2⟩:=eI.1 h
 refine eI.2 ⟨fun y hy=> ?_,by rw [List.length_set];exact h2⟩
 rcases List.mem_or_eq_of_mem_set hy with hy | rfl
 ·exact h1 y hy
 ·exact hz
theorem arV{k n a b c:Int}{s:ByteArray}{l:List Int}(hB:Yq k s n=true)(hP:possB k n a b c=true)(hA:bitsB (takesK k) l=true):iI k n a b c l=0∨iI k n a b c l=1:=by
 obtain⟨hk,hn,_⟩:=aal hB
 have hb:=(adh hP hn).2.1
 have hc:=(adh hP hn).2.2
 have hp:=hP
 rcases kinds hk with rfl | rfl | rfl | rfl | rfl | rfl
 ·obtain⟨x,rfl,hx⟩:=Zm hA
  rcases hx with rfl | rfl <;> simp only [cR,jU,mB,gx,mC,mD,mE,mF,lu,iI,jz,jA,jB,lE,ji,jT,lr,mz,mA,oD,oE,oF,oG,ka] <;> simp [Bool.cond_eq_ite] <;> (repeat' split) <;> omega
 ·obtain⟨x,rfl,hx⟩:=Zm hA
  rcases hx with rfl | rfl <;> simp only [cR,jU,mB,gx,mC,mD,mE,mF,lu,iI,jz,jA,jB,lE,ji,jT,lr,mz,mA,oD,oE,oF,oG,ka] <;> simp [Bool.cond_eq_ite] <;> (repeat' split) <;> omega
 ·obtain⟨x,rfl,hx⟩:=Zm hA
  simp [possB,df,bL]at hp
  rcases hx with rfl | rfl <;> simp only [cR,jU,mB,gx,mC,mD,mE,mF,lu,iI,jz,jA,jB,lE,ji,jT,lr,mz,mA,oD,oE,oF,oG,ka] <;> simp [Bool.cond_eq_ite] <;> (repeat' split) <;> omega
 ·obtain⟨x,y,rfl,hx,hy⟩:=Zn hA
  simp [possB,df,bL]at hp
  rcases hx with rfl | rfl <;> rcases hy with rfl | rfl <;> simp only [cR,jU,mB,gx,mC,mD,mE,mF,lu,iI,jz,jA,jB,lE,ji,jT,lr,mz,mA,oD,oE,oF,oG,ka] <;> simp [Bool.cond_eq_ite] <;> (repeat' split) <;> omega
 ·obtain⟨x,y,rfl,hx,hy⟩:=Zn hA
  rcases hb with rfl | rfl <;> rcases hc with rfl | rfl <;> rcases hx with rfl | rfl <;> rcases hy with rfl | rfl <;> simp only [cR,jU,mB,gx,mC,mD,mE,mF,lu,iI,jz,jA,jB,lE,ji,jT,lr,mz,mA,oD,oE,oF,oG,ka] <;> simp [Bool.cond_eq_ite] <;> (repeat' split) <;> omega
 ·obtain⟨x,y,rfl,hx,hy⟩:=Zn hA
  rcases hb with rfl | rfl <;> rcases hc with rfl | rfl <;> rcases hx with rfl | rfl <;> rcases hy with rfl | rfl <;> simp only [cR,jU,mB,gx,mC,mD,mE,mF,lu,iI,jz,jA,jB,lE,ji,jT,lr,mz,mA,oD,oE,oF,oG,ka] <;> simp [Bool.cond_eq_ite] <;> (repeat' split) <;> omega
abbrev LN:=ByteArray×List TM
def mH(l:List ByteArray)(s:ByteArray):Bool:=l.any fun k=>k.toList==s.toList
def Ps(l:List ByteArray)(s:ByteArray):Nat:=(l.takeWhile fun k=> !(k.toList==s.toList)).length
def gW(l:List ByteArray)(s:ByteArray):Int:=bif mH l s then(Ps l s:Int)else -1
theorem XC{s:ByteArray}: ∀ {l:List ByteArray},mH l s=true→Ps l s < l.length
 | [],h=>by cases h
 |a::r,h=>by
  simp only [mH,List.any_cons]at h
  simp only [Ps,List.takeWhile_cons]
  cases ha:a.toList==s.toList with
  |true=>simp
  |false=>
   rw [ha,Bool.false_or]at h
   have:=XC (l:=r) h
   simp only [Ps]at this
   simp only [Bool.not_false,if_true,List.length_cons]
   omega
theorem aiF(a b:List ByteArray)(s:ByteArray):mH (a++b) s=(mH a s||mH b s):=List.any_append
theorem VD{l:List ByteArray}{s:ByteArray}:mH l s=true↔s.toList∈l.map ByteArray.toList:=by
 simp only [mH,List.any_eq_true,beq_iff_eq,List.mem_map]
def htT:List TM→Int→Option Int
 | [],n=>some n
 |t::r,n=>bif termB t.1 t.2.1 t.2.2&&leI (takesK t.1) n then htT r (n - takesK t.1 + 1)else none
def agT(ts:List TM):Bool:=leN ts.length 40&&(match htT ts 0 with | some n=>n==1 | none=>false)
def lineB(x:LN):Bool:=oJ x.1&&agT x.2
def afD(l:List ByteArray)(lo:Nat):Bool:=l.all oJ&&inR (l.length:Int) lo 20
def ahB(nm:ByteArray)(ins vs os:List ByteArray)(g:ByteArray)(ls:List LN):Bool:=oJ nm&&(afD ins 1&&(afD vs 0&&(afD os 1&&((g.toList== []||oJ g)&&(ls.all lineB&&inR (ls.length:Int) 1 40)))))
def tJ(l:List ByteArray):Bool:=(List.range l.length).any fun i=>mH (l.take i) (Option.getD l[i]? ⟨#[]⟩)
def ZD(ins vs:List ByteArray)(s:ByteArray):Bool:=mH ins s||mH vs s
def usedB(ins vs:List ByteArray)(t:TM):Bool:= !(t.1==1)||ZD ins vs t.2.1
def aph(ins vs os:List ByteArray)(g:ByteArray)(ls:List LN):Bool:= !tJ (ins++vs++os)&&((g.toList== []||ZD ins vs g)&&(ls.all (fun l=>mH vs l.1||mH os l.1)&&(!tJ (ls.map Prod.fst)&&(leN (vs.length + os.length) ls.length&&ls.all fun l=>l.2.all (usedB ins vs)))))
theorem aiq{l:List ByteArray}:tJ l=false↔(l.map ByteArray.toList).Nodup:=by
 rw [List.nodup_iff_pairwise_ne,List.pairwise_iff_getElem]
 simp only [tJ,List.any_eq_false,List.mem_range,Bool.not_eq_true,List.length_map,List.getElem_map]
 constructor
 ·intro h i j hi hj Zq he
  have h1:=h j hj
  rw [← Bool.not_eq_true,VD]at h1
  apply h1
  rw [List.getElem?_eq_getElem hj,Option.getD_some,← he]
  refine List.mem_map.2 ⟨l[i],?_,rfl⟩
  rw [List.mem_take_iff_getElem]
  exact⟨i,by omega,rfl⟩
 ·intro h j hj
  rw [← Bool.not_eq_true,VD,List.mem_map]
  rintro⟨x,hx,he⟩
  rw [List.mem_take_iff_getElem]at hx
  obtain⟨i,hi,rfl⟩:=hx
  rw [List.getElem?_eq_getElem hj,Option.getD_some]at he
  exact h i j (by omega) hj (by omega) he
theorem aoZ{α:Type}[DecidableEq α]: ∀ (a b:List α),a.Nodup→(∀ x∈a,x∈b)→a.length≤b.length
 | [],b,_,_=>Nat.zero_le _
 |x::r,b,hn,hs=>by
  obtain⟨h1,h2⟩:=List.nodup_cons.1 hn
  have hx:=hs x (by simp)
  have:=aoZ r (b.erase x) h2 (fun y hy=>(List.mem_erase_of_ne (fun h:y=x=>h1 (by rw [← h];exact hy))).2 (hs y (by simp [hy])))
  rw [List.length_erase_of_mem hx]at this
  have h0:=List.length_pos_of_mem hx
  simp only [List.length_cons]
  omega
theorem asg{α:Type}[DecidableEq α]{a b:List α}(ha:a.Nodup)(hb:b.Nodup)(hs: ∀ x∈a,x∈b):(∀ y∈b,y∈a)↔b.length≤a.length:=by
 constructor
 ·intro h;exact aoZ b a hb h
 ·intro h y hy
  refine Decidable.byContradiction fun hn=> ?_
  have:=aoZ (y::a) b (List.nodup_cons.2 ⟨hn,ha⟩) (fun z hz=>(List.mem_cons.1 hz).elim (fun h=>h ▸ hy) (fun h=>hs z h))
  rw [List.length_cons]at this
  omega
theorem aqY{ins vs os:List ByteArray}{ls:List LN}(h1:tJ (ins++vs++os)=false)(h3:ls.all (fun l=>mH vs l.1||mH os l.1)=true)(h4:tJ (ls.map Prod.fst)=false):
  ((vs++os).any fun s=> !mH (ls.map Prod.fst) s)= !leN (vs.length + os.length) ls.length:=by
 have n1:((vs++os).map ByteArray.toList).Nodup:=by
  have:=aiq.1 h1
  rw [List.append_assoc,List.map_append]at this
  exact(List.nodup_append.1 this).2.1
 have n4:=aiq.1 h4
 have hs: ∀ x∈(ls.map Prod.fst).map ByteArray.toList,x∈(vs++os).map ByteArray.toList:=by
  intro x hx
  simp only [List.mem_map]at hx
  obtain⟨y,⟨l,hl,rfl⟩,rfl⟩:=hx
  have:=List.all_eq_true.1 h3 l hl
  rw [← aiF]at this
  exact VD.1 this
 have oi:=asg n4 n1 hs
 rw [Bool.eq_iff_iff,Bool.not_eq_true',← Bool.not_eq_true,jD]
 simp only [List.length_map,List.length_append]at oi
 rw [← oi]
 simp only [List.any_eq_true,Bool.not_eq_true']
 constructor
 ·rintro⟨s,hs1,hs2⟩ h
  have:=h _ (List.mem_map.2 ⟨s,hs1,rfl⟩)
  have h2:mH (ls.map Prod.fst) s=true:=VD.2 this
  rw [h2]at hs2;cases hs2
 ·intro h
  refine Classical.byContradiction fun hn=>h fun y hy=> ?_
  obtain⟨s,hs1,rfl⟩:=List.mem_map.1 hy
  refine Classical.byContradiction fun hn2=>hn ⟨s,hs1,?_⟩
  cases hh:mH (ls.map Prod.fst) s with
  |false=>rfl
  |true=>exact absurd (VD.1 hh) hn2
def nmV(ins vs:List ByteArray)(inp xs:List Int)(s:ByteArray):Int:=bif mH ins s then atZ inp (Ps ins s)else atZ xs (Ps vs s)
def tmV(ins vs:List ByteArray)(inp xs:List Int)(t:TM)(ar:List Int)(b:BS3):Int:=bif t.1==1 then nmV ins vs inp xs t.2.1 else bif t.1==2 then 1 else bif t.1==3 then 0 else bif t.1==4 then 1 - atZ ar 0 else bif t.1==5 then aqq (atZ ar 0) (atZ ar 1)else bif t.1==6 then orI (atZ ar 0) (atZ ar 1)else arU t.1 t.2.2 ar b
def ltk(t:TM)(stk:List Int):Nat:=stk.length - (takesK t.1).toNat
abbrev LS:=List Int×List BS3×Nat
def lnS(ins vs:List ByteArray)(inp xs:List Int)(t:TM)(a:LS):LS:=(a.1.take (ltk t a.1)++ [tmV ins vs inp xs t (a.1.drop (ltk t a.1)) (stAt a.2.1 a.2.2)],bif leI 7 t.1 then a.2.1.set a.2.2 (aa8 t.1 t.2.2 (a.1.drop (ltk t a.1)) (stAt a.2.1 a.2.2))else a.2.1,bif leI 7 t.1 then a.2.2 + 1 else a.2.2)
def afx(ins vs:List ByteArray)(inp xs:List Int):List TM→LS→LS
 | [],a=>a
 |t::r,a=>afx ins vs inp xs r (lnS ins vs inp xs t a)
theorem Tf(k:Int):0≤takesK k∧takesK k≤2:=by
 simp only [takesK,jh]
 refine⟨?_,?_⟩ <;> simp only [Bool.cond_eq_ite] <;> (repeat' split) <;> decide
structure LnOk (bl:List TM) (n:Int) (k:Nat) (a:LS):Prop where
 hb: ∀ z∈a.1,z=0∨z=1
 hl:(a.1.length:Int)=n
 sl:a.2.1.length=bl.length
 sp: ∀ j,j < bl.length→possAt bl a.2.1 j=true
 hk:a.2.2=k
theorem aq0{ins vs:List ByteArray}{inp xs:List Int}(hi:bitsB ins.length inp=true)(hx:bitsB vs.length xs=true)(s:ByteArray):nmV ins vs inp xs s=0∨nmV ins vs inp xs s=1:=by
 simp only [nmV]
 cases mH ins s with
 |true=>exact Th (eI.1 hi).1 _
 |false=>exact Th (eI.1 hx).1 _
theorem aqr{a b:Int}(hb:b=0∨b=1):aqq a b=0∨aqq a b=1:=by simp only [aqq];cases a==1 <;> simp [hb]
theorem arH{a b:Int}(hb:b=0∨b=1):orI a b=0∨orI a b=1:=by simp only [orI];cases a==1 <;> simp [hb]
theorem aq2{a:Int}(ha:a=0∨a=1):1 - a=0∨1 - a=1:=by rcases ha with rfl | rfl <;> simp
theorem alI{t:TM}{stk:List Int}(hb: ∀ z∈stk,z=0∨z=1)(ht:takesK t.1≤stk.length):bitsB (takesK t.1) (stk.drop (ltk t stk))=true:=by
 have h0:=(Tf t.1).1
 refine eI.2 ⟨fun z hz=>hb z (List.mem_of_mem_drop hz),?_⟩
 simp only [ltk,List.length_drop]
 omega
theorem WX{t:TM}(hT:termB t.1 t.2.1 t.2.2=true)(h7:leI 7 t.1=true):Yq t.1 t.2.1 t.2.2=true:=by simp only [Yq,hT,h7];rfl
theorem aip{t:TM}(hT:termB t.1 t.2.1 t.2.2=true):1≤t.1∧t.1≤12:=by
 simp only [termB,Bool.and_eq_true,Fw]at hT;exact hT.1
theorem asB{ins vs:List ByteArray}{inp xs:List Int}{bl:List TM}{n:Int}{k:Nat}{a:LS}{t:TM}(hi:bitsB ins.length inp=true)(hx:bitsB vs.length xs=true)
  (hT:termB t.1 t.2.1 t.2.2=true) (ht:takesK t.1≤n) (hblk:leI 7 t.1=true→k < bl.length∧Sf bl k=t) (h:LnOk bl n k a):
  (tmV ins vs inp xs t (a.1.drop (ltk t a.1)) (stAt a.2.1 a.2.2)=0∨tmV ins vs inp xs t (a.1.drop (ltk t a.1)) (stAt a.2.1 a.2.2)=1)∧
  LnOk bl (n - takesK t.1 + 1) (bif leI 7 t.1 then k + 1 else k) (lnS ins vs inp xs t a):=by
 have hl:=h.hl
 have hdb:=alI (t:=t) h.hb (by omega)
 have hd:=(eI.1 hdb).1
 have d0:=Th hd 0
 have d1:=Th hd 1
 have h0:=Tf t.1
 have hv:leI 7 t.1=true→(tmV ins vs inp xs t (a.1.drop (ltk t a.1)) (stAt a.2.1 a.2.2)=arU t.1 t.2.2 (a.1.drop (ltk t a.1)) (stAt a.2.1 a.2.2)):=by
  intro h7
  have h7:=Jg.1 h7
  simp only [tmV]
  rw [show (t.1==1)=false by simp;omega,show (t.1==2)=false by simp;omega,show (t.1==3)=false by simp;omega,show (t.1==4)=false by simp;omega,show (t.1==5)=false by simp;omega,show (t.1==6)=false by simp;omega]
  rfl
 have hvb:tmV ins vs inp xs t (a.1.drop (ltk t a.1)) (stAt a.2.1 a.2.2)=0∨tmV ins vs inp xs t (a.1.drop (ltk t a.1)) (stAt a.2.1 a.2.2)=1:=by
  cases h7:leI 7 t.1 with
  |true=>
   obtain⟨hk,hbt⟩:=hblk h7
   rw [hv h7]
   have hp:=h.sp k hk
   simp only [possAt,hbt]at hp
   rw [h.hk]
   exact arV (WX hT h7) hp hdb
  |false=>
   have hkk:=aip hT
   have h7': ¬ (7≤t.1):=fun hc=>by rw [cM hc]at h7;cases h7
   have hc:t.1=1∨t.1=2∨t.1=3∨t.1=4∨t.1=5∨t.1=6:=by omega
   rcases hc with e | e | e | e | e | e <;> simp only [tmV,e] <;> simp
   ·exact aq0 hi hx _
   ·exact aq2 d0
   ·exact aqr d1
   ·exact arH d1
 refine⟨hvb,⟨?_,?_,?_,?_,?_⟩⟩
 ·intro z hz
  simp only [lnS,List.mem_append,List.mem_singleton]at hz
  rcases hz with hz | rfl
  ·exact h.hb z (List.mem_of_mem_take hz)
  ·exact hvb
 ·simp only [lnS,List.length_append,List.length_take,List.length_singleton,ltk]
  omega
 ·simp only [lnS]
  cases leI 7 t.1 with
  |true=>simp only [cond_true,List.length_set];exact h.sl
  |false=>exact h.sl
 ·intro j hj
  simp only [lnS]
  cases h7:leI 7 t.1 with
  |false=>exact h.sp j hj
  |true=>
   obtain⟨hk,hbt⟩:=hblk h7
   simp only [cond_true]
   rw [h.hk]
   by_cases hjk:j=k
   ·subst hjk
    have hp:=h.sp j hj
    simp only [possAt,hbt]at hp ⊢
    have hs:stAt (a.2.1.set j (aa8 t.1 t.2.2 (a.1.drop (ltk t a.1)) (stAt a.2.1 j))) j=aa8 t.1 t.2.2 (a.1.drop (ltk t a.1)) (stAt a.2.1 j):=by
     simp only [stAt]
     rw [List.getElem?_set_self (by rw [h.sl];exact hj)];rfl
    rw [hs]
    exact(aq1 (WX hT h7) hp hdb).2
   ·have hs:stAt (a.2.1.set k (aa8 t.1 t.2.2 (a.1.drop (ltk t a.1)) (stAt a.2.1 k))) j=stAt a.2.1 j:=by
     simp only [stAt]
     rw [List.getElem?_set_ne (fun h=>hjk h.symm)]
    simp only [possAt,hs]
    exact h.sp j hj
 ·simp only [lnS]
  rw [h.hk]
def blT(ts:List TM):List TM:=ts.filter fun t=>leI 7 t.1
def blL(ls:List LN):List TM:=ls.flatMap fun l=>blT l.2
theorem afr: ∀ (l1 l2:List TM) (n:Int),htT (l1++l2) n=match htT l1 n with | some m=>htT l2 m | none=>none
 | [],l2,n=>rfl
 |t::r,l2,n=>by
  simp only [List.cons_append,htT]
  cases (termB t.1 t.2.1 t.2.2&&leI (takesK t.1) n)with
  |false=>rfl
  |true=>simp only [cond_true];exact afr r l2 _
theorem apA: ∀ (l:List TM) (n m:Int),0≤n→htT l n=some m→0≤m∧m≤n + l.length
 | [],n,m,hn,h=>by simp only [htT,Option.some.injEq]at h;simp;omega
 |t::r,n,m,hn,h=>by
  simp only [htT]at h
  have hg:=Tf t.1
  cases hc:(termB t.1 t.2.1 t.2.2&&leI (takesK t.1) n)with
  |false=>rw [hc]at h;cases h
  |true=>
   rw [hc,cond_true]at h
   simp only [Bool.and_eq_true,Jg]at hc
   have:=apA r _ m (by omega) h
   simp only [List.length_cons]
   omega
theorem asd{ts:List TM}{e:Int}(mG:htT ts 0=some e){i:Nat}{t:TM}(ht:ts[i]? =some t):
  ∃ n,htT (ts.take i) 0=some n∧(0≤n∧n≤i)∧termB t.1 t.2.1 t.2.2=true∧takesK t.1≤n∧htT (ts.take (i + 1)) 0=some (n - takesK t.1 + 1):=by
 obtain⟨hi,rfl⟩:=List.getElem?_eq_some_iff.1 ht
 have hs:ts=ts.take i++ts[i]::ts.drop (i + 1):=by rw [List.getElem_cons_drop,List.take_append_drop]
 have h1:=afr (ts.take i) (ts[i]::ts.drop (i + 1)) 0
 rw [← hs,mG]at h1
 cases hp:htT (ts.take i) 0 with
 |none=>rw [hp]at h1;cases h1
 |some n=>
  rw [hp]at h1
  simp only [htT]at h1
  cases hc:(termB ts[i].1 ts[i].2.1 ts[i].2.2&&leI (takesK ts[i].1) n)with
  |false=>rw [hc]at h1;cases h1
  |true=>
   have h2:=afr (ts.take i) [ts[i]] 0
   rw [hp]at h2
   simp only [htT,hc,cond_true]at h2
   simp only [Bool.and_eq_true,Jg]at hc
   have hb:=apA _ _ _ (Int.le_refl 0) hp
   rw [List.length_take]at hb
   exact⟨n,rfl,by omega,hc.1,hc.2,by rw [← h2,List.take_succ_eq_append_getElem hi]⟩
theorem aiK{ins vs:List ByteArray}{inp xs:List Int}: ∀ (l1 l2:List TM) (a:LS),afx ins vs inp xs (l1++l2) a=afx ins vs inp xs l2 (afx ins vs inp xs l1 a)
 | [],l2,a=>rfl
 |t::r,l2,a=>aiK r l2 _
theorem aak(a b:List TM):blT (a++b)=blT a++blT b:=List.filter_append ..
theorem ajQ(a b:List LN):blL (a++b)=blL a++blL b:=List.flatMap_append
theorem aoq{pre post ts:List TM}{i:Nat}{t:TM}(ht:ts[i]? =some t)(h7:leI 7 t.1=true):
  pre.length + (blT (ts.take i)).length < (pre++blT ts++post).length∧Sf (pre++blT ts++post) (pre.length + (blT (ts.take i)).length)=t∧(blT (ts.take (i + 1))).length=(blT (ts.take i)).length + 1:=by
 obtain⟨hi,rfl⟩:=List.getElem?_eq_some_iff.1 ht
 have hs:ts=ts.take i++ts[i]::ts.drop (i + 1):=by rw [List.getElem_cons_drop,List.take_append_drop]
 have hb:blT ts=blT (ts.take i)++ts[i]::blT (ts.drop (i + 1)):=by
  conv=>lhs;rw [hs,aak]
  congr 1
  simp only [blT,List.filter_cons,h7,if_true]
 have hb2:blT (ts.take (i + 1))=blT (ts.take i)++ [ts[i]]:=by
  rw [List.take_succ_eq_append_getElem hi,aak]
  congr 1
  simp only [blT,List.filter_cons,h7,if_true,List.filter_nil]
 refine⟨?_,?_,by rw [hb2];simp⟩
 ·rw [hb];simp
 ·simp only [Sf]
  rw [List.append_assoc,List.getElem?_append_right (by omega),Nat.add_sub_cancel_left,hb,List.append_assoc,List.getElem?_append_right (by omega),Nat.sub_self]
  rfl
theorem arp{ts:List TM}{i:Nat}{t:TM}(ht:ts[i]? =some t)(h7:leI 7 t.1=false):(blT (ts.take (i + 1))).length=(blT (ts.take i)).length:=by
 obtain⟨hi,rfl⟩:=List.getElem?_eq_some_iff.1 ht
 rw [List.take_succ_eq_append_getElem hi,aak]
 simp [blT,List.filter_cons,h7]
def ajD(pre post ts:List TM)(i:Nat)(a:LS):Prop:= ∃ n,htT (ts.take i) 0=some n∧LnOk (pre++blT ts++post) n (pre.length + (blT (ts.take i)).length) a
theorem alU{ins vs:List ByteArray}{inp xs:List Int}{pre post ts:List TM}{e:Int}{i:Nat}{a:LS}{t:TM}(hi:bitsB ins.length inp=true)(hx:bitsB vs.length xs=true)
  (mG:htT ts 0=some e) (ht:ts[i]? =some t) (h:ajD pre post ts i a):
  (0≤takesK t.1∧takesK t.1≤a.1.length)∧a.1.length≤i∧termB t.1 t.2.1 t.2.2=true∧bitsB (takesK t.1) (a.1.drop (ltk t a.1))=true∧a.2.1.length=(pre++blT ts++post).length∧
  (leI 7 t.1=true→a.2.2 < (pre++blT ts++post).length∧possB t.1 t.2.2 (stAt a.2.1 a.2.2).1 (stAt a.2.1 a.2.2).2.1 (stAt a.2.1 a.2.2).2.2=true)∧
  a.2.2≤(pre++blT ts++post).length∧(∀ z∈a.1,z=0∨z=1)∧
  ajD pre post ts (i + 1) (lnS ins vs inp xs t a):=by
 obtain⟨n,h1,h2⟩:=h
 obtain⟨n',g1,g2,g3,g4,g5⟩:=asd mG ht
 rw [h1]at g1;cases g1
 have hl:=h2.hl
 have h0:=Tf t.1
 have hblk:leI 7 t.1=true→pre.length + (blT (ts.take i)).length < (pre++blT ts++post).length∧Sf (pre++blT ts++post) (pre.length + (blT (ts.take i)).length)=t:=
  fun h7=>⟨(aoq ht h7).1,(aoq ht h7).2.1⟩
 obtain⟨_,k2⟩:=asB (ins:=ins) (vs:=vs) hi hx g3 g4 hblk h2
 have hkle:a.2.2≤(pre++blT ts++post).length:=by
  rw [h2.hk]
  have:(blT (ts.take i)).length≤(blT ts).length:=by
   conv=>rhs;rw [← List.take_append_drop i ts,aak]
   simp
  simp;omega
 refine⟨by omega,by omega,g3,alI h2.hb (by omega),h2.sl,fun h7=> ?_,hkle,h2.hb,⟨_,g5,?_⟩⟩
 ·obtain⟨q1,q2⟩:=hblk h7
  rw [h2.hk]
  have:=h2.sp _ q1
  simp only [possAt,q2]at this
  exact⟨q1,this⟩
 ·have:(bif leI 7 t.1 then pre.length + (blT (ts.take i)).length + 1 else pre.length + (blT (ts.take i)).length)=pre.length + (blT (ts.take (i + 1))).length:=by
   cases h7:leI 7 t.1 with
   |true=>rw [(aoq (pre:=pre) (post:=post) ht h7).2.2];rfl
   |false=>rw [arp ht h7];rfl
  rw [← this];exact k2
theorem apE{ins vs:List ByteArray}{inp xs:List Int}{pre post ts:List TM}{e:Int}{a:LS}(hi:bitsB ins.length inp=true)(hx:bitsB vs.length xs=true)(mG:htT ts 0=some e)(h:ajD pre post ts 0 a):
  ∀ i,i≤ts.length→ajD pre post ts i (afx ins vs inp xs (ts.take i) a)
 |0,_=>h
 |i + 1,gV=>by
  have h1:=apE hi hx mG h i (by omega)
  rw [List.take_succ_eq_append_getElem (by omega),aiK]
  exact(alU hi hx mG (List.getElem?_eq_getElem (by omega)) h1).2.2.2.2.2.2.2.2
theorem Kl{v:Int}{bs:List TM}{xs:List Int}{ss:List BS3}:zh v bs xs ss=true↔ss.length=bs.length∧bitsB v xs=true∧ ∀ k,k < bs.length→possAt bs ss k=true:=by
 simp only [zh,Bool.and_eq_true,beq_iff_eq,List.all_eq_true,List.mem_range]
 constructor
 ·rintro⟨h1,h2,h3⟩;exact⟨by omega,h2,h3⟩
 ·rintro⟨h1,h2,h3⟩;exact⟨by omega,h2,h3⟩
abbrev SS4:=List Int×List Int×List BS3×Nat
def lnV(ins vs:List ByteArray)(inp:List Int)(l:LN)(a:SS4):LS:=afx ins vs inp a.1 l.2 ([],a.2.2.1,a.2.2.2)
def scS(ins vs os:List ByteArray)(inp:List Int)(l:LN)(a:SS4):SS4:=(bif mH vs l.1 then a.1.set (Ps vs l.1) (atZ (lnV ins vs inp l a).1 0)else a.1,bif mH vs l.1 then a.2.1 else a.2.1.set (Ps os l.1) (atZ (lnV ins vs inp l a).1 0),(lnV ins vs inp l a).2.1,(lnV ins vs inp l a).2.2)
def ape(ins vs os:List ByteArray)(inp:List Int):List LN→SS4→SS4
 | [],a=>a
 |l::r,a=>ape ins vs os inp r (scS ins vs os inp l a)
theorem aiW{ins vs os:List ByteArray}{inp:List Int}: ∀ (l1 l2:List LN) (a:SS4),ape ins vs os inp (l1++l2) a=ape ins vs os inp l2 (ape ins vs os inp l1 a)
 | [],l2,a=>rfl
 |t::r,l2,a=>aiW r l2 _
structure ScAt (vs os:List ByteArray) (ls:List LN) (i:Nat) (a:SS4):Prop where
 hx:bitsB vs.length a.1=true
 ho:bitsB os.length a.2.1=true
 sl:a.2.2.1.length=(blL ls).length
 sp: ∀ j,j < (blL ls).length→possAt (blL ls) a.2.2.1 j=true
 hk:a.2.2.2=(blL (ls.take i)).length
theorem adl{ls:List LN}{i:Nat}{l:LN}(hl:ls[i]? =some l):blL ls=blL (ls.take i)++blT l.2++blL (ls.drop (i + 1))∧(blL (ls.take (i + 1))).length=(blL (ls.take i)).length + (blT l.2).length:=by
 obtain⟨hi,rfl⟩:=List.getElem?_eq_some_iff.1 hl
 have hs:ls=ls.take i++ls[i]::ls.drop (i + 1):=by rw [List.getElem_cons_drop,List.take_append_drop]
 refine⟨?_,?_⟩
 ·conv=>lhs;rw [hs,ajQ]
  rw [List.append_assoc]
  rfl
 ·rw [List.take_succ_eq_append_getElem hi,ajQ]
  simp [blL]
theorem adw{x:LN}(h:lineB x=true):oJ x.1=true∧x.2.length≤40∧htT x.2 0=some 1:=by
 simp only [lineB,agT,Bool.and_eq_true,jD]at h
 obtain⟨h1,h2,h3⟩:=h
 refine⟨h1,h2,?_⟩
 split at h3
 ·rename_i n hn;rw [hn];congr 1;exact eq_of_beq h3
 ·cases h3
theorem aik{vs os:List ByteArray}{ls:List LN}{i:Nat}{a:SS4}{l:LN}(hl:ls[i]? =some l)(h:ScAt vs os ls i a):
  ajD (blL (ls.take i)) (blL (ls.drop (i + 1))) l.2 0 ([],a.2.2.1,a.2.2.2):=by
 have hs:=(adl hl).1
 refine⟨0,by simp [htT],⟨fun z hz=>(List.not_mem_nil hz).elim,rfl,?_,?_,?_⟩⟩
 ·rw [← hs];exact h.sl
 ·rw [← hs];exact h.sp
 ·simp [blT,h.hk]
theorem ZF{ins vs os:List ByteArray}{inp:List Int}{ls:List LN}{i:Nat}{a:SS4}{l:LN}(hi:bitsB ins.length inp=true)(hL:lineB l=true)(hl:ls[i]? =some l)
  (h:ScAt vs os ls i a):(lnV ins vs inp l a).1.length=1∧(atZ (lnV ins vs inp l a).1 0=0∨atZ (lnV ins vs inp l a).1 0=1)∧ScAt vs os ls (i + 1) (scS ins vs os inp l a):=by
 obtain⟨hn,qg,hht⟩:=adw hL
 obtain⟨hs,hs2⟩:=adl hl
 have h0:=apE (ins:=ins) (vs:=vs) hi h.hx hht (aik hl h) l.2.length (Nat.le_refl _)
 rw [List.take_length]at h0
 obtain⟨n,g1,g2⟩:=h0
 rw [List.take_length,hht]at g1;cases g1
 have hlen1:(lnV ins vs inp l a).1.length=1:=by have:=g2.hl;simp only [lnV];omega
 have hbit:atZ (lnV ins vs inp l a).1 0=0∨atZ (lnV ins vs inp l a).1 0=1:=Th g2.hb 0
 refine⟨hlen1,hbit,⟨?_,?_,?_,?_,?_⟩⟩
 ·simp only [scS]
  cases mH vs l.1 with
  |true=>exact am8 h.hx _ hbit
  |false=>exact h.hx
 ·simp only [scS]
  cases mH vs l.1 with
  |true=>exact h.ho
  |false=>exact am8 h.ho _ hbit
 ·simp only [scS,lnV];rw [hs];exact g2.sl
 ·simp only [scS,lnV];rw [hs];exact g2.sp
 ·simp only [scS,lnV]
  rw [g2.hk,hs2,List.take_length]
theorem apN{ins vs os:List ByteArray}{inp:List Int}{ls:List LN}{a:SS4}(hi:bitsB ins.length inp=true)(hL:ls.all lineB=true)(h:ScAt vs os ls 0 a):
  ∀ i,i≤ls.length→ScAt vs os ls i (ape ins vs os inp (ls.take i) a)
 |0,_=>h
 |i + 1,gV=>by
  have h1:=apN hi hL h i (by omega)
  rw [List.take_succ_eq_append_getElem (by omega),aiW]
  exact(ZF hi (List.all_eq_true.1 hL _ (List.getElem_mem (by omega))) (List.getElem?_eq_getElem (by omega)) h1).2.2
def scE(ins vs os:List ByteArray)(ls:List LN)(inp xs:List Int)(ss:List BS3):SS4:=ape ins vs os inp ls (xs,List.replicate os.length 0,ss,0)
def scO(ins vs os:List ByteArray)(g:ByteArray)(ls:List LN)(inp xs:List Int)(ss:List BS3):List Int:=bif !(g.toList== [])&&nmV ins vs inp (scE ins vs os ls inp xs ss).1 g==0 then List.replicate os.length 0 else(scE ins vs os ls inp xs ss).2.1
def scV(ins vs os:List ByteArray)(ls:List LN)(inp xs:List Int)(ss:List BS3):List Int:=(scE ins vs os ls inp xs ss).1
def scB(ins vs os:List ByteArray)(ls:List LN)(inp xs:List Int)(ss:List BS3):List BS3:=(scE ins vs os ls inp xs ss).2.2.1
theorem apd{ins vs os:List ByteArray}{inp xs:List Int}{ss:List BS3}{ls:List LN}(hi:bitsB ins.length inp=true)(hL:ls.all lineB=true)(hs:zh vs.length (blL ls) xs ss=true):
  ScAt vs os ls ls.length (scE ins vs os ls inp xs ss):=by
 obtain⟨h1,h2,h3⟩:=Kl.1 hs
 have h0:ScAt vs os ls 0 (xs,List.replicate os.length 0,ss,0):=⟨h2,eI.2 ⟨fun z hz=> .inl (List.eq_of_mem_replicate hz),by simp⟩,h1,h3,by simp [blL]⟩
 have:=apN hi hL h0 ls.length (Nat.le_refl _)
 rw [List.take_length]at this
 exact this
theorem ajv{ins vs os:List ByteArray}{g:ByteArray}{inp xs:List Int}{ss:List BS3}{ls:List LN}(hi:bitsB ins.length inp=true)(hL:ls.all lineB=true)(hs:zh vs.length (blL ls) xs ss=true):
  zh vs.length (blL ls) (scV ins vs os ls inp xs ss) (scB ins vs os ls inp xs ss)=true∧bitsB os.length (scO ins vs os g ls inp xs ss)=true:=by
 have h:=apd (os:=os) hi hL hs
 refine⟨Kl.2 ⟨h.sl,h.hx,h.sp⟩,?_⟩
 simp only [scO]
 cases (!(g.toList== [])&&nmV ins vs inp (scE ins vs os ls inp xs ss).1 g==0)with
 |true=>exact eI.2 ⟨fun z hz=> .inl (List.eq_of_mem_replicate hz),by simp⟩
 |false=>exact h.ho
theorem Yd{A B:Type}{f g:B→A→Nat ⊕ A}{e:Nat}: ∀ {l:List B} {i:Nat} {a:A},(∀ b∈l,∀ a,f b a=g b a)→bc f e l i a=bc g e l i a
 | [],_,_,_=>rfl
 |b::r,i,a,h=>by
  simp only [bc,h b (by simp) a]
  cases g b a with
  |inl j=>rfl
  |inr a'=>exact Yd fun x hx=>h x (by simp [hx])
def Dr(y1 b:ByteArray):(Unit)→Nat ⊕ (Unit)
 |_=>(bif(ByteArray.toList (b)==ByteArray.toList y1)then(.inl 0)else(.inr ()))
def rL(y1:ByteArray)(y2:List ByteArray)(i:Nat):(Unit)→oP
 |_=>((i:Int),y1,y2)
def NX:oP→Unit
 |(_,_,_)=>()
theorem agr(y1:ByteArray)(y2:List ByteArray) (hn:y2.length≤9223372036854775807):
  eW.fin ((0:Int),y1,y2)=true∧eW.res ((0:Int),y1,y2)=((bc (Dr y1) 1 y2 0 ()).1,(rL y1 y2) (bc (Dr y1) 1 y2 0 ()).2.1 (bc (Dr y1) 1 y2 0 ()).2.2):=by
 have oi:=eW.along (rL y1 y2) NX (Dr y1) 1 (fun _ _=>True) y2 () (by trivial) (by simp only [eW,rL];omega) (fun i b a hb hI=> ?_) (fun a hI=> ?_)
 ·exact oi
 ·obtain⟨⟩:=a
  have gV:=(List.getElem?_eq_some_iff.1 hb).1
  have lH: ∀ d,Option.getD y2[i]? d=b:=fun d=>by rw [hb];rfl
  have hw:=yJ gV hn
  have fA:ltI (i:Int) (y2.length:Int)=true:=fv (by omega)
  have Gz:leI (0:Int) (i:Int)=true:=cM (by omega)
  have qn:ltN i y2.length=true:=gM gV
  refine⟨?_,?_,?_,?_⟩
  ·simp [Ap,Eu,Ev,Ew,Ey,Cm,eW,LT.nds,allT,rL,fA,Gz,qn,lH]
  ·simp [Ap,Eu,Ev,Ew,Ey,Cm,eW,LT.each,rL,NX,hw]
  ·simp only [Ap,Eu,Ev,Ew,Ey,Cm,eW,LT.fn,rL,NX,Dr,Int.toNat_natCast,fA,Gz,qn,lH,cond_true,Bool.cond_self]
  ·exact fun _ _=>trivial
 ·obtain⟨⟩:=a
  simp [Ap,Eu,Ev,Ew,Ey,Cm,eW,LT.out,rL]
theorem afO(s:ByteArray)(l:List ByteArray)(h:leN l.length 9223372036854775807=true):JZ s l=gW l s∧OX s l=true:=by
 obtain⟨w1,w2⟩:=agr s l (jD.1 h)
 rw [kn (P:=fun k=>k.toList==s.toList) (j:=0) (fun k=>rfl)]at w2
 simp only [JZ,OX,NG,w1,w2,allT,rL,gW,mH,Ps]
 cases l.any fun k=>k.toList==s.toList <;> simp [Nat.beq]
theorem aj8(s:ByteArray)(l:List ByteArray)(h:leN l.length 9223372036854775807=true):rp s l=gW l s∧rq s l=true:=by
 obtain⟨w1,w2⟩:=GC s l (jD.1 h)
 rw [kn (P:=fun k=>s.toList==k.toList) (j:=0) (fun k=>rfl)]at w2
 have e1:(fun k:ByteArray=>s.toList==k.toList)=fun k=>k.toList==s.toList:=funext fun k=>BEq.comm
 have e2:(fun k:ByteArray=> !(s.toList==k.toList))=fun k=> !(k.toList==s.toList):=funext fun k=>by rw [BEq.comm]
 rw [e1,e2]at w2
 simp only [rp,rq,qF,w1,w2,allT,ec,gW,mH,Ps]
 cases l.any fun k=>k.toList==s.toList <;> simp [Nat.beq]
theorem Uk(l:List ByteArray)(s:ByteArray):leI 0 (gW l s)=mH l s:=by
 simp only [gW]
 cases mH l s with
 |true=>exact cM (by simp)
 |false=>rfl
def aa4:List SV→List Entry→Option Out
 | [.one ⟨false,[.ref 0]⟩,.one ⟨false,[.val (.string x0)]⟩],[.row false 9 (.str) x1]=>some ⟨.one ⟨false,[.val (.int .i64 (gW x1 x0))]⟩,[.row false 9 alP x1],[],[leN x1.length 9223372036854775807]⟩
 |_,_=>none
def cE:PF prog:=PF.alt BX aa4 (by
 intro args es o h cD;unfold aa4 at h;split at h
 ·rename_i x0 x1
  cases h
  have cD:=ln cD
  have hh:=afO x0 x1 cD
  obtain⟨e0,en⟩:=hh
  exact qy rfl (kw en) (by simp only [e0] <;> rfl) rfl rfl
 ·cases h)
def JQ:List SV→List Entry→Option Out
 | [.one ⟨false,[.ref 0]⟩,.one ⟨false,[.val (.string x0)]⟩],[.row false 9 (.str) x1]=>some ⟨.one ⟨false,[.val (.int .i64 (gW x1 x0))]⟩,[.row false 9 alP x1],[],[leN x1.length 9223372036854775807]⟩
 |_,_=>none
def lm:PF prog:=PF.alt wm JQ (by
 intro args es o h cD;unfold JQ at h;split at h
 ·rename_i x0 x1
  cases h
  have cD:=ln cD
  have hh:=aj8 x0 x1 cD
  obtain⟨e0,en⟩:=hh
  exact qy rfl (kw en) (by simp only [e0] <;> rfl) rfl rfl
 ·cases h)
theorem aoK(s:ByteArray)(l:List ByteArray)(h:leN l.length 9223372036854775807=true):jj s l=mH l s∧lG s l=true:=by
 obtain⟨e1,e2⟩:=aj8 s l h
 simp only [jj,lG,e1,e2,Uk,allT,and_self,cond_true]
def Gy:List SV→List Entry→Option Out
 | [.one ⟨false,[.ref 0]⟩,.one ⟨false,[.val (.string x0)]⟩],[.row false 9 (.str) x1]=>some ⟨.one ⟨false,[.val (.bool (mH x1 x0))]⟩,[.row false 9 alP x1],[],[leN x1.length 9223372036854775807]⟩
 |_,_=>none
def aI:PF prog:=PF.alt dG Gy (by
 intro args es o h cD;unfold Gy at h;split at h
 ·rename_i x0 x1
  cases h
  have cD:=ln cD
  have hh:=aoK x0 x1 cD
  obtain⟨e0,en⟩:=hh
  exact qy rfl (kw en) (by simp only [e0] <;> rfl) rfl rfl
 ·cases h)
theorem ar3(a b c:List ByteArray)(h:leN (a.length + b.length + c.length) 2000000=true):aeQ a b c=a++b++c∧YQ a b c=true:=by
 have h:=jD.1 h
 refine⟨rfl,?_⟩
 simp [YQ,RN,allT]
 omega
def aeB:List SV→List Entry→Option Out
 | [.one ⟨true,[.val (.string _x0),.ref 0,.ref 1,.ref 2,.val (.string _x1),.ref 3]⟩],[.row false 9 (.str) x2,.row false 9 (.str) x3,.row false 9 (.str) x4,.row false 204 (.pair (.str) (.sl 178 (.pair (.int .i64) (.pair (.str) (.int .i64))))) x5]=>some ⟨.one ⟨false,[.ref 4]⟩,[.row false 9 alP x2,.row false 9 alP x3,.row false 9 alP x4,.row false 204 (CTy.pair CTy.str (CTy.sl (178:TypeId) acQ)) x5],[.row true 9 alP (x2++x3++x4)],[leN (x2.length + x3.length + x4.length) 2000000]⟩
 |_,_=>none
def tM:PF prog:=PF.alt alu aeB (by
 intro args es o h cD;unfold aeB at h;split at h
 ·rename_i _x0 _x1 x2 x3 x4 x5
  cases h
  have cD:=ln cD
  have hh:=ar3 x2 x3 x4 cD
  obtain⟨e0,en⟩:=hh
  exact qy rfl (kw en) rfl rfl (by simp only [e0] <;> rfl)
 ·cases h)
theorem Qo(s:ByteArray)(h:s.size≤9223372036854775807):oC s=oJ s∧wi s=true:=by
 obtain⟨e1,e2⟩:=akR s
 have hl:leN s.size 9223372036854775807=true:=ci h
 refine⟨?_,?_⟩
 ·simp only [oC,e1,oJ];cases UZ s <;> rfl
 ·simp only [wi,e2,hl,allT,Bool.or_true,cond_true]
theorem Xy(s:ByteArray):nD s=oJ s:=by simp only [nD,oJ];cases UZ s <;> rfl
def SA(l:List ByteArray):Bool:=leN l.length 9223372036854775807&&l.all fun s=>leN s.size 9223372036854775807
def wq(b:ByteArray):(Unit)→Nat ⊕ (Unit)
 |_=>(bif(!oC b)then(.inl 0)else(.inr ()))
def vo(y1:List ByteArray)(i:Nat):(Unit)→oN
 |_=>((i:Int),y1)
def NV:oN→Unit
 |(_,_)=>()
theorem agp(y1:List ByteArray) (hn:y1.length≤9223372036854775807) (hA: ∀ x∈y1,x.size≤9223372036854775807):
  fZ.fin ((0:Int),y1)=true∧fZ.res ((0:Int),y1)=((bc (wq) 1 y1 0 ()).1,(vo y1) (bc (wq) 1 y1 0 ()).2.1 (bc (wq) 1 y1 0 ()).2.2):=by
 have oi:=fZ.along (vo y1) NV (wq) 1 (fun _ _=>True) y1 () (by trivial) (by simp only [fZ,vo];omega) (fun i b a hb hI=> ?_) (fun a hI=> ?_)
 ·exact oi
 ·obtain⟨⟩:=a
  have gV:=(List.getElem?_eq_some_iff.1 hb).1
  have lH: ∀ d,Option.getD y1[i]? d=b:=fun d=>by rw [hb];rfl
  have hw:=yJ gV hn
  have fA:ltI (i:Int) (y1.length:Int)=true:=fv (by omega)
  have Gz:leI (0:Int) (i:Int)=true:=cM (by omega)
  have qn:ltN i y1.length=true:=gM gV
  refine⟨?_,?_,?_,?_⟩
  ·have hg2:rI (i:Int) y1=b:=by simp only [rI,Int.toNat_natCast];exact lH _
   have h6:=(Qo b (hA b (List.mem_of_getElem? hb))).2
   simp [Am,JA,JB,JC,Ej,JD,Cj,fZ,LT.nds,allT,vo,fA,Gz,qn,hg2,h6]
  ·simp [rI,Am,JA,JB,JC,Ej,JD,Cj,fZ,LT.each,vo,NV,hw]
  ·have hg2:rI (i:Int) y1=b:=by simp only [rI,Int.toNat_natCast];exact lH _
   simp only [Am,Ej,Cj,fZ,LT.fn,vo,NV,wq,Int.toNat_natCast,fA,hg2,cond_true]
  ·exact fun _ _=>trivial
 ·obtain⟨⟩:=a
  simp [rI,Am,JA,JB,JC,Ej,JD,Cj,fZ,LT.out,vo]
theorem amS(lo:Int)(l:List ByteArray)(h:SA l=true):UE lo l=(l.all oJ&&inR (l.length:Int) lo 20)∧UF l=true:=by
 simp only [SA,Bool.and_eq_true,jD,List.all_eq_true]at h
 obtain⟨w1,w2⟩:=agp l h.1 h.2
 have e0:(bc wq 1 l 0 ())=(bc (fun(k:ByteArray) (_:Unit)=>bif !oJ k then(.inl 0:Nat ⊕ Unit)else .inr ()) 1 l 0 ()):=by
  refine Yd fun b hb a=> ?_
  simp only [wq,(Qo b (h.2 b hb)).1]
 rw [e0,kn (P:=fun k=> !oJ k) (j:=0) (fun k=>rfl)]at w2
 have e5:(l.any fun k=> !oJ k)= !l.all oJ:=by simp [List.all_eq_not_any_not]
 rw [e5]at w2
 simp only [UE,UF,w1,w2,allT,bL,YA]
 cases l.all oJ <;> simp [Nat.beq]
def eJ(b:ByteArray):(Unit)→Nat ⊕ (Unit)
 |_=>(bif(BL b)then(.inl 0)else(.inr ()))
def cJ(y2:List ByteArray)(i:Nat):(Unit)→bv
 |_=>((i:Int),(↑y2.length:Int),y2)
def qP:bv→Unit
 |(_,_,_)=>()
theorem Kc(y2:List ByteArray) (hn:y2.length≤9223372036854775807):
  ah.fin ((0:Int),(↑y2.length:Int),y2)=true∧ah.res ((0:Int),(↑y2.length:Int),y2)=((bc (eJ) 1 y2 0 ()).1,(cJ y2) (bc (eJ) 1 y2 0 ()).2.1 (bc (eJ) 1 y2 0 ()).2.2):=by
 have oi:=ah.along (cJ y2) qP (eJ) 1 (fun _ _=>True) y2 () (by trivial) (by simp only [ah,cJ];omega) (fun i b a hb hI=> ?_) (fun a hI=> ?_)
 ·exact oi
 ·obtain⟨⟩:=a
  have gV:=(List.getElem?_eq_some_iff.1 hb).1
  have lH: ∀ d,Option.getD y2[i]? d=b:=fun d=>by rw [hb];rfl
  have hw:=yJ gV hn
  have fA:ltI (i:Int) (y2.length:Int)=true:=fv (by omega)
  have Gz:leI (0:Int) (i:Int)=true:=cM (by omega)
  have qn:ltN i y2.length=true:=gM gV
  refine⟨?_,?_,?_,?_⟩
  ·simp [iP,iQ,iR,iS,iT,iU,iz,ah,LT.nds,allT,cJ,fA,Gz,qn,lH]
  ·simp [iP,iQ,iR,iS,iT,iU,iz,ah,LT.each,cJ,qP,hw]
  ·simp only [iP,iQ,iR,iS,iT,iU,iz,ah,LT.fn,cJ,qP,eJ,Int.toNat_natCast,fA,Gz,qn,lH,cond_true,Bool.cond_self]
  ·exact fun _ _=>trivial
 ·obtain⟨⟩:=a
  simp [iP,iQ,iR,iS,iT,iU,iz,ah,LT.out,cJ]
theorem am5(l:List ByteArray)(h:leN l.length 9223372036854775807=true):Up l=l.all oJ∧Uq l=true:=by
 obtain⟨w1,w2⟩:=Kc l (jD.1 h)
 rw [kn (P:=fun k=> !oJ k) (j:=0) (fun k=>by simp only [eJ,BL,Xy])]at w2
 have e5:(l.any fun k=> !oJ k)= !l.all oJ:=by simp [List.all_eq_not_any_not]
 rw [e5]at w2
 have q: ∀ m:Nat,leI 0 (m:Int)=true:=fun m=>cM (by omega)
 have q2:leI 0 (-1)=false:=rfl
 simp only [Up,Uq,rn,ro,ta,tb,nW,w1,w2,allT,cJ]
 cases (l.all oJ) <;> simp [Nat.beq,q,q2]
def aa3:List SV→List Entry→Option Out
 | [.one ⟨false,[.ref 0]⟩,.one ⟨false,[.val (.int .i64 x0)]⟩],[.row false 9 (.str) x1]=>some ⟨.one ⟨false,[.val (.bool (x1.all oJ&&inR (x1.length:Int) x0 20))]⟩,[.row false 9 alP x1],[],[SA x1]⟩
 |_,_=>none
def Fb:PF prog:=PF.alt ajj aa3 (by
 intro args es o h cD;unfold aa3 at h;split at h
 ·rename_i x0 x1
  cases h
  have cD:=ln cD
  have hh:=amS x0 x1 cD
  obtain⟨e0,en⟩:=hh
  exact qy rfl (kw en) (by simp only [e0] <;> rfl) rfl rfl
 ·cases h)
def aaY:List SV→List Entry→Option Out
 | [.one ⟨false,[.ref 0]⟩],[.row false 9 (.str) x0]=>some ⟨.one ⟨false,[.val (.bool (x0.all oJ))]⟩,[.row false 9 alP x0],[],[leN x0.length 9223372036854775807]⟩
 |_,_=>none
def Uu:PF prog:=PF.alt ajd aaY (by
 intro args es o h cD;unfold aaY at h;split at h
 ·rename_i x0
  cases h
  have cD:=ln cD
  have hh:=am5 x0 cD
  obtain⟨e0,en⟩:=hh
  exact qy rfl (kw en) (by simp only [e0] <;> rfl) rfl rfl
 ·cases h)
theorem ak9(l:List ByteArray):(List.range l.length).any (fun b=>mH (List.take b l) (Option.getD l[b]? ByteArray.empty))=tJ l:=rfl
def zS(y1:List ByteArray)(b:Nat):(Unit)→Nat ⊕ (Unit)
 |_=>(bif(leI 0 (JZ (Option.getD y1[b]? ByteArray.empty) (List.drop (Int.toNat 0) (List.take b y1))))then(.inl 0)else(.inr ()))
def vp(y1:List ByteArray)(i:Nat):(Unit)→oQ
 |_=>((i:Int),y1)
def NY:oQ→Unit
 |(_,_)=>()
theorem ags(y1:List ByteArray) (hn:y1.length≤9223372036854775807):
  gc.fin ((0:Int),y1)=true∧gc.res ((0:Int),y1)=((bc (zS y1) 1 (List.range y1.length) 0 ()).1,(vp y1) (bc (zS y1) 1 (List.range y1.length) 0 ()).2.1 (bc (zS y1) 1 (List.range y1.length) 0 ()).2.2):=by
 have oi:=gc.along (vp y1) NY (zS y1) 1 (fun _ _=>True) (List.range y1.length) () (by trivial) (by simp only [gc,vp,List.length_range];omega) (fun i b a hb hI=> ?_) (fun a hI=> ?_)
 ·exact oi
 ·obtain⟨⟩:=a
  obtain⟨rfl,gV⟩:=Ql hb
  have hw:IntKind.i64.wrap ((b:Int) + 1)=((b + 1:Nat):Int):=by rw [bi (by omega) (by omega)];omega
  have fA:ltI (b:Int) (y1.length:Int)=true:=fv (by omega)
  have Gz:leI (0:Int) (b:Int)=true:=cM (by omega)
  have qn:ltN b y1.length=true:=gM (by omega)
  refine⟨?_,?_,?_,?_⟩
  ·have qg:(List.take b y1).length≤9223372036854775807:=by rw [List.length_take];omega
   have e:vl (b:Int) y1=List.take b y1:=by simp [vl]
   have h5:As (b:Int) y1=true:=by simp only [As,e];exact(afO _ _ (ci qg)).2
   have h3:EB (b:Int) y1=true:=cM (by omega)
   have h1:EA=true:=rfl
   simp only [Cn,gc,LT.nds,allT,vp,Aq,Ar,EC,h1,h3,h5,fA,Gz,qn,Int.toNat_natCast,cond_true,Bool.and_self,List.all_nil,List.all_cons]
   cases ED (b:Int) y1 <;> simp [LT.nds]
  ·simp [Cy,vl,Aq,EA,Ar,EB,EC,As,ED,JG,Cn,gc,LT.each,vp,NY,hw]
  ·simp only [Cy,vl,Aq,EA,Ar,EB,EC,As,ED,JG,Cn,gc,LT.fn,vp,NY,zS,Int.toNat_natCast,fA,cond_true]
  ·exact fun _ _=>trivial
 ·obtain⟨⟩:=a
  simp [Cy,vl,Aq,EA,Ar,EB,EC,As,ED,JG,Cn,gc,LT.out,vp,List.length_range]
theorem amU(l:List ByteArray)(h:leN l.length 9223372036854775807=true):UI l=tJ l∧UJ l=true:=by
 have hn:=jD.1 h
 obtain⟨w1,w2⟩:=ags l hn
 have hi: ∀ b:Nat,(List.take b l).length≤9223372036854775807:=fun b=>by rw [List.length_take];omega
 rw [kn (P:=fun b=>mH (List.take b l) (Option.getD l[b]? ByteArray.empty)) (j:=0) (fun b=>by
  simp only [zS,Int.toNat_zero,List.drop_zero,(afO _ _ (ci (hi b))).1,Uk]),ak9]at w2
 simp only [UI,UJ,w1,w2,allT]
 cases tJ l <;> simp [Nat.beq]
theorem Kf{A B:Type}{f:B→A→Nat ⊕ A}{g:A→B→A}{e:Nat}(hf: ∀ b a,f b a= .inr (g a b)): ∀ (l:List B) (i:Nat) (a:A),bc f e l i a=(e,i + l.length,l.foldl g a)
 | [],i,a=>rfl
 |b::r,i,a=>by
  simp only [bc,hf,List.foldl_cons]
  rw [Kf hf r]
  simp [Nat.add_assoc,Nat.add_comm 1]
def zQ(y2:List ByteArray)(b:Nat):(Unit)→Nat ⊕ (Unit)
 |_=>(bif(jj (Option.getD y2[b]? ByteArray.empty) (List.drop (Int.toNat 0) (List.take b y2)))then(.inl 0)else(.inr ()))
def vm(y2:List ByteArray)(i:Nat):(Unit)→oK
 |_=>((i:Int),(↑y2.length:Int),y2)
def NS:oK→Unit
 |(_,_,_)=>()
theorem agm(y2:List ByteArray) (hn:y2.length≤9223372036854775807):
  fW.fin ((0:Int),(↑y2.length:Int),y2)=true∧fW.res ((0:Int),(↑y2.length:Int),y2)=((bc (zQ y2) 1 (List.range y2.length) 0 ()).1,(vm y2) (bc (zQ y2) 1 (List.range y2.length) 0 ()).2.1 (bc (zQ y2) 1 (List.range y2.length) 0 ()).2.2):=by
 have oi:=fW.along (vm y2) NS (zQ y2) 1 (fun _ _=>True) (List.range y2.length) () (by trivial) (by simp only [fW,vm,List.length_range];omega) (fun i b a hb hI=> ?_) (fun a hI=> ?_)
 ·exact oi
 ·obtain⟨⟩:=a
  obtain⟨rfl,gV⟩:=Ql hb
  have hw:IntKind.i64.wrap ((b:Int) + 1)=((b + 1:Nat):Int):=by rw [bi (by omega) (by omega)];omega
  have fA:ltI (b:Int) (y2.length:Int)=true:=fv (by omega)
  have Gz:leI (0:Int) (b:Int)=true:=cM (by omega)
  have qn:ltN b y2.length=true:=gM (by omega)
  refine⟨?_,?_,?_,?_⟩
  ·have qg:(List.take b y2).length≤9223372036854775807:=by rw [List.length_take];omega
   have e:uY (b:Int) y2=List.take b y2:=by simp [uY]
   have h5:zV (b:Int) y2=true:=by simp only [zV,e];exact(aoK _ _ (ci qg)).2
   have h3:Dw (b:Int) y2=true:=cM (by omega)
   have h1:Dv=true:=rfl
   simp only [Cg,fW,LT.nds,allT,vm,Ds,zU,Dt,Du,h1,h3,h5,fA,Gz,qn,Int.toNat_natCast,cond_true,Bool.and_self,List.all_nil,List.all_cons]
   cases Dx (b:Int) y2 <;> simp [LT.nds]
  ·simp [Cf,uY,Ds,zU,Dt,Du,Dv,Dw,zV,Dx,Jf,Cg,fW,LT.each,vm,NS,hw]
  ·simp only [Cf,uY,Ds,zU,Dt,Du,Dv,Dw,zV,Dx,Jf,Cg,fW,LT.fn,vm,NS,zQ,Int.toNat_natCast,fA,cond_true]
  ·exact fun _ _=>trivial
 ·obtain⟨⟩:=a
  simp [Cf,uY,Ds,zU,Dt,Du,Dv,Dw,zV,Dx,Jf,Cg,fW,LT.out,vm,List.length_range]
theorem amC(l:List ByteArray)(h:leN l.length 9223372036854775807=true):Ur l=tJ l∧Us l=true:=by
 have hn:=jD.1 h
 obtain⟨w1,w2⟩:=agm l hn
 have hi: ∀ b:Nat,(List.take b l).length≤9223372036854775807:=fun b=>by rw [List.length_take];omega
 rw [kn (P:=fun b=>mH (List.take b l) (Option.getD l[b]? ByteArray.empty)) (j:=0) (fun b=>by
  simp only [zQ,Int.toNat_zero,List.drop_zero,(aoK _ _ (ci (hi b))).1]),ak9]at w2
 simp only [Ur,Us,SI,w1,w2,allT]
 cases tJ l <;> simp [Nat.beq]
def aa5:List SV→List Entry→Option Out
 | [.one ⟨false,[.ref 0]⟩],[.row false 9 (.str) x0]=>some ⟨.one ⟨false,[.val (.bool (tJ x0))]⟩,[.row false 9 alP x0],[],[leN x0.length 9223372036854775807]⟩
 |_,_=>none
def pL:PF prog:=PF.alt ajk aa5 (by
 intro args es o h cD;unfold aa5 at h;split at h
 ·rename_i x0
  cases h
  have cD:=ln cD
  have hh:=amU x0 cD
  obtain⟨e0,en⟩:=hh
  exact qy rfl (kw en) (by simp only [e0] <;> rfl) rfl rfl
 ·cases h)
def aaZ:List SV→List Entry→Option Out
 | [.one ⟨false,[.ref 0]⟩],[.row false 9 (.str) x0]=>some ⟨.one ⟨false,[.val (.bool (tJ x0))]⟩,[.row false 9 alP x0],[],[leN x0.length 9223372036854775807]⟩
 |_,_=>none
def EZ:PF prog:=PF.alt aje aaZ (by
 intro args es o h cD;unfold aaZ at h;split at h
 ·rename_i x0
  cases h
  have cD:=ln cD
  have hh:=amC x0 cD
  obtain⟨e0,en⟩:=hh
  exact qy rfl (kw en) (by simp only [e0] <;> rfl) rfl rfl
 ·cases h)
theorem app(k:Int):tR k=takesK k:=rfl
theorem apR(n k:Int)(h0:0≤n)(h1:n≤9223372036854775000):IntKind.i64.wrap (IntKind.i64.wrap (n - takesK k) + 1)=n - takesK k + 1∧IntKind.i64.wrap (n + IntKind.i64.wrap (1 - takesK k))=n - takesK k + 1:=by
 have:=Tf k
 refine⟨?_,?_⟩
 ·rw [bi (x:=n - takesK k) (by omega) (by omega),bi (by omega) (by omega)]
 ·rw [bi (x:=1 - takesK k) (by omega) (by omega),bi (by omega) (by omega)];omega
theorem Xz(a b:Int):ltI a b= !leI b a:=by
 cases h:leI b a with
 |true=>have:=Jg.1 h;exact NM (by omega)
 |false=>rw [apD]at h;exact fv (by omega)
def UY(ts:List TM):Bool:=leN ts.length 1048576&&ts.all fun t=>leN t.2.1.size 9223372036854775807
def TL(ls:List LN):Bool:=leN ls.length 1048576&&ls.all fun l=>leN l.1.size 9223372036854775807&&UY l.2
theorem Qx{ts:List TM}:UY ts=true↔ts.length≤1048576∧ ∀ t∈ts,t.2.1.size≤9223372036854775807:=by
 simp only [UY,Bool.and_eq_true,jD,List.all_eq_true]
theorem Qg{ls:List LN}:TL ls=true↔ls.length≤1048576∧ ∀ l∈ls,l.1.size≤9223372036854775807∧UY l.2=true:=by
 simp only [TL,Bool.and_eq_true,jD,List.all_eq_true]
def rA(b:Int×(ByteArray×Int)):(Int×Int)→Nat ⊕ (Int×Int)
 |(y2,y3)=>(bif(bif !Ov b.1 (b.2.1) b.2.2then true else ltI y2 (tR b.1))then(.inl 0)else(.inr ((IntKind.wrap .i64 (y2 + IntKind.wrap .i64 ((1:Int) - tR b.1))),(ahU y3 (IntKind.wrap .i64 (y2 + IntKind.wrap .i64 ((1:Int) - tR b.1))) (IntKind.wrap .i64 (y2 + IntKind.wrap .i64 ((1:Int) - tR b.1))) y3))))
def vH(y4:List (Int×(ByteArray×Int)))(i:Nat):(Int×Int)→rx
 |(y2,y3)=>((i:Int),(↑y4.length:Int),y2,y3,y4)
def Rg:rx→Int×Int
 |(_,_,y2,y3,_)=>(y2,y3)
theorem air(y4:List (Int×(ByteArray×Int)))(y2 y3:Int)(hn:y4.length≤9223372036854775807):
  iv.fin ((0:Int),(↑y4.length:Int),y2,y3,y4)=true∧iv.res ((0:Int),(↑y4.length:Int),y2,y3,y4)=((bc (rA) 1 y4 0 (y2,y3)).1,(vH y4) (bc (rA) 1 y4 0 (y2,y3)).2.1 (bc (rA) 1 y4 0 (y2,y3)).2.2):=by
 have oi:=iv.along (vH y4) Rg (rA) 1 (fun _ _=>True) y4 (y2,y3) (by trivial) (by simp only [iv,vH];omega) (fun i b a hb hI=> ?_) (fun a hI=> ?_)
 ·exact oi
 ·obtain⟨y2,y3⟩:=a
  have gV:=(List.getElem?_eq_some_iff.1 hb).1
  have lH: ∀ d,Option.getD y4[i]? d=b:=fun d=>by rw [hb];rfl
  have hw:=yJ gV hn
  have fA:ltI (i:Int) (y4.length:Int)=true:=fv (by omega)
  have Gz:leI (0:Int) (i:Int)=true:=cM (by omega)
  have qn:ltN i y4.length=true:=gM gV
  refine⟨?_,?_,?_,?_⟩
  ·simp [se,xT,Hv,Hw,Hx,Hy,Hz,HA,HB,HC,Fy,iv,LT.nds,allT,vH,fA,Gz,qn,lH]
  ·simp [se,xT,Hv,Hw,Hx,Hy,Hz,HA,HB,HC,Fy,iv,LT.each,vH,Rg,hw]
  ·simp only [se,xT,Hv,Hw,Hx,Hy,Hz,HA,HB,HC,Fy,iv,LT.fn,vH,Rg,rA,Int.toNat_natCast,fA,Gz,qn,lH,cond_true,Bool.cond_self]
  ·exact fun _ _=>trivial
 ·obtain⟨y2,y3⟩:=a
  simp [se,xT,Hv,Hw,Hx,Hy,Hz,HA,HB,HC,Fy,iv,LT.out,vH]
theorem ai0: ∀ (ts:List TM) (i:Nat) (n m:Int),0≤n→n + ts.length≤9223372036854775000→
  match htT ts n with
  |some k=>(bc rA 1 ts i (n,m)).1=1∧(bc rA 1 ts i (n,m)).2.2.1=k
  |none=>(bc rA 1 ts i (n,m)).1=0
 | [],i,n,m,_,_=>⟨rfl,rfl⟩
 |t::r,i,n,m,h0,h1=>by
  rw [List.length_cons]at h1
  have hw:=(apR n t.1 h0 (by omega)).2
  have ht:=Tf t.1
  have hf:rA t (n,m)=(bif termB t.1 t.2.1 t.2.2&&leI (takesK t.1) n then .inr (n - takesK t.1 + 1,ahU m (n - takesK t.1 + 1) (n - takesK t.1 + 1) m)else .inl 0):=by
   simp only [rA,anz,app,hw,Xz]
   cases termB t.1 t.2.1 t.2.2 <;> cases leI (takesK t.1) n <;> rfl
  simp only [bc,hf,htT]
  cases hc:termB t.1 t.2.1 t.2.2&&leI (takesK t.1) n with
  |false=>rfl
  |true=>
   simp only [Bool.and_eq_true,Jg]at hc
   simp only [cond_true]
   exact ai0 r (i + 1) _ _ (by omega) (by omega)
theorem anv(ts:List TM)(h:UY ts=true):GJ ts=agT ts∧GK ts=true:=by
 obtain⟨hn,_⟩:=Qx.1 h
 obtain⟨w1,w2⟩:=air ts 0 0 (by omega)
 have hh:=ai0 ts 0 0 0 (by omega) (by omega)
 have Nc:leI (ts.length:Int) 40=leN ts.length 40:=by
  rw [Bool.eq_iff_iff,Jg,jD];omega
 simp only [GJ,GK,Ys,Yt,QT,VO,VP,w1,w2,allT,agT,Nc,cond_true,vH]
 cases hq:htT ts 0 with
 |none=>
  rw [hq]at hh
  simp only at hh
  rw [hh];simp [Nat.beq]
 |some k=>
  rw [hq]at hh
  simp only at hh
  rw [hh.1,hh.2]
  dsimp only
  generalize (k==1)=q
  cases q <;> cases leN ts.length 40 <;> simp [Nat.beq]
def ko(b:Int×(ByteArray×Int)):(Int×List Int)→Nat ⊕ (Int×List Int)
 |(y1,y3)=>(bif(bif(!MW b.1 (b.2.1) b.2.2)then true else ltI y1 (jh b.1))then(.inl 0)else(.inr ((IntKind.wrap .i64 (IntKind.wrap .i64 (y1 - jh b.1) + (1:Int))),(y3++ [IntKind.wrap .i64 (IntKind.wrap .i64 (y1 - jh b.1) + (1:Int))]))))
def pH(y2:List (Int×(ByteArray×Int)))(i:Nat):(Int×List Int)→lM
 |(y1,y3)=>((i:Int),y1,y2,y3)
def KH:lM→Int×List Int
 |(_,y1,_,y3)=>(y1,y3)
theorem adq(y2:List (Int×(ByteArray×Int)))(y1:Int)(y3:List Int)(hn:y2.length≤9223372036854775807)(hT:y2.length≤1048576)(hA: ∀ x∈y2,x.2.1.size≤9223372036854775807)(h3:y3.length=0):
  dR.fin ((0:Int),y1,y2,y3)=true∧dR.res ((0:Int),y1,y2,y3)=((bc (ko) 1 y2 0 (y1,y3)).1,(pH y2) (bc (ko) 1 y2 0 (y1,y3)).2.1 (bc (ko) 1 y2 0 (y1,y3)).2.2):=by
 have oi:=dR.along (pH y2) KH (ko) 1 (fun i a=>a.2.length=i) y2 (y1,y3) h3 (by simp only [dR,pH];omega) (fun i b a hb hI=> ?_) (fun a hI=> ?_)
 ·exact oi
 ·obtain⟨y1,y3⟩:=a
  have gV:=(List.getElem?_eq_some_iff.1 hb).1
  have lH: ∀ d,Option.getD y2[i]? d=b:=fun d=>by rw [hb];rfl
  have hw:=yJ gV hn
  have fA:ltI (i:Int) (y2.length:Int)=true:=fv (by omega)
  have Gz:leI (0:Int) (i:Int)=true:=cM (by omega)
  have qn:ltN i y2.length=true:=gM gV
  refine⟨?_,?_,?_,?_⟩
  ·have hg2:ew (i:Int) y2=b:=by simp only [ew,Int.toNat_natCast];exact lH _
   have h6:MX b.1 b.2.1 b.2.2=true:=(aiY b.1 b.2.1 b.2.2 (ci (hA b (List.mem_of_getElem? hb)))).2
   simp only at hI
   have h8:leN (y3.length + 1) 9223372036854775807=true:=ci (by omega)
   have h9:leN ((y3.length + 1) * 8) 140737488355328=true:=ci (by omega)
   simp [tw,xj,xk,Bl,Bm,Bn,Bo,Bp,Bq,Br,zF,zG,zH,zy,dR,LT.nds,allT,pH,fA,Gz,qn,hg2,h6,h8,h9]
  ·simp [ew,rZ,sa,tw,xj,xk,Bl,Bm,Bn,Bo,Bp,Bq,Br,zF,zG,zH,zy,dR,LT.each,pH,KH,hw]
  ·have hg2:ew (i:Int) y2=b:=by simp only [ew,Int.toNat_natCast];exact lH _
   simp only [tw,xj,xk,Bl,Bm,Bn,Bo,Bp,Bq,Br,zF,zG,zH,zy,dR,rZ,sa,LT.fn,pH,KH,ko,Int.toNat_natCast,fA,hg2,cond_true]
  ·intro a' hf
   simp only at hI
   simp only [ko]at hf
   revert hf
   generalize (bif _ then true else _)=c
   cases c with
   |true=>intro hf;cases hf
   |false=>intro hf;simp only [cond_false,Sum.inr.injEq]at hf;subst hf;simp [hI]
 ·obtain⟨y1,y3⟩:=a
  simp [ew,rZ,sa,tw,xj,xk,Bl,Bm,Bn,Bo,Bp,Bq,Br,zF,zG,zH,zy,dR,LT.out,pH]
theorem ahz: ∀ (ts:List TM) (i:Nat) (n:Int) (L:List Int),(∀ x∈ts,x.2.1.size≤9223372036854775807)→0≤n→n + ts.length≤9223372036854775000→
  match htT ts n with
  |some k=>(bc ko 1 ts i (n,L)).1=1∧(bc ko 1 ts i (n,L)).2.2.1=k
  |none=>(bc ko 1 ts i (n,L)).1=0
 | [],i,n,m,_,_,_=>⟨rfl,rfl⟩
 |t::r,i,n,m,hs,h0,h1=>by
  rw [List.length_cons]at h1
  have hw:=(apR n t.1 h0 (by omega)).1
  have ht:=Tf t.1
  have hf:ko t (n,m)=(bif termB t.1 t.2.1 t.2.2&&leI (takesK t.1) n then .inr (n - takesK t.1 + 1,m++ [n - takesK t.1 + 1])else .inl 0):=by
   simp only [ko,(aiY t.1 t.2.1 t.2.2 (ci (hs t (by simp)))).1,show jh t.1=takesK t.1 from rfl,hw,Xz]
   cases termB t.1 t.2.1 t.2.2 <;> cases leI (takesK t.1) n <;> rfl
  simp only [bc,hf,htT]
  cases hc:termB t.1 t.2.1 t.2.2&&leI (takesK t.1) n with
  |false=>rfl
  |true=>
   simp only [Bool.and_eq_true,Jg]at hc
   simp only [cond_true]
   exact ahz r (i + 1) _ _ (fun x hx=>hs x (by simp [hx])) (by omega) (by omega)
theorem an9(ts:List TM)(h:UY ts=true):Oh ts=agT ts∧Oi ts=true:=by
 obtain⟨hn,hs⟩:=Qx.1 h
 obtain⟨w1,w2⟩:=adq ts 0 [] (by omega) hn hs rfl
 have hh:=ahz ts 0 0 [] hs (by omega) (by omega)
 have Nc:leI (ts.length:Int) 40=leN ts.length 40:=by
  rw [Bool.eq_iff_iff,Jg,jD];omega
 simp only [Oh,Oi,RL,RM,Jz,PD,PE,w1,w2,allT,agT,Nc,cond_true,pH]
 cases hq:htT ts 0 with
 |none=>
  rw [hq]at hh
  simp only at hh
  rw [hh];simp [Nat.beq]
 |some k=>
  rw [hq]at hh
  simp only at hh
  rw [hh.1,hh.2]
  dsimp only
  generalize (k==1)=q
  cases q <;> cases leN ts.length 40 <;> simp [Nat.beq]
theorem ap9(s:ByteArray)(ts:List TM)(h:UY ts=true):Yu s ts=lineB (s,ts)∧Yv s ts=true:=by
 obtain⟨e1,e2⟩:=anv ts h
 simp only [Yu,Yv,e1,e2,Xy,lineB,allT,Bool.or_true,cond_true]
 cases oJ s <;> simp
def UR:List SV→List Entry→Option Out
 | [.one ⟨false,[.ref 0]⟩],[.row false 178 (.pair (.int .i64) (.pair (.str) (.int .i64))) x0]=>some ⟨.one ⟨false,[.val (.bool (agT x0))]⟩,[.row false 178 acQ x0],[],[UY x0]⟩
 |_,_=>none
def yK:PF prog:=PF.alt aeh UR (by
 intro args es o h cD;unfold UR at h;split at h
 ·rename_i x0
  cases h
  have cD:=ln cD
  have hh:=an9 x0 cD
  obtain⟨e0,en⟩:=hh
  exact qy rfl (kw en) (by simp only [e0] <;> rfl) rfl rfl
 ·cases h)
def aex:List SV→List Entry→Option Out
 | [.one ⟨true,[.val (.string x0),.ref 0]⟩],[.row false 178 (.pair (.int .i64) (.pair (.str) (.int .i64))) x1]=>some ⟨.one ⟨false,[.val (.bool (lineB (x0,x1)))]⟩,[.row false 178 acQ x1],[],[UY x1]⟩
 |_,_=>none
def Kj:PF prog:=PF.alt alp aex (by
 intro args es o h cD;unfold aex at h;split at h
 ·rename_i x0 x1
  cases h
  have cD:=ln cD
  have hh:=ap9 x0 x1 cD
  obtain⟨e0,en⟩:=hh
  exact qy rfl (kw en) (by simp only [e0] <;> rfl) rfl rfl
 ·cases h)
theorem Lp.along2{X A B:Type}(p:Lp X)(st:Nat→A→X)(pr:X→A)(f:B→A→Nat ⊕ A)(e:Nat)(Inv:Nat→A→Prop)(xs:List B)(a:A)
  (h0:Inv 0 a) (hf:xs.length≤100000000000)
  (hs: ∀ i b a,xs[i]? =some b→Inv i a→(p.lt (st i a)).nds=true∧(p.lt (st i a)).each (fun y=>y=st (i + 1) (pr y))∧(p.lt (st i a)).fn pr=f b a∧ ∀ a',f b a= .inr a'→Inv (i + 1) a')
  (he: ∀ a,Inv xs.length a→(p.lt (st xs.length a)).out=some (.inl e)):
  p.fin (st 0 a)=true∧p.res (st 0 a)=((bc f e xs 0 a).1,st (bc f e xs 0 a).2.1 (bc f e xs 0 a).2.2):=by
 have hs': ∀ i b a,xs[i]? =some b→Inv i a→(p.lt (st i a)).out=some (match f b a with | .inl j=> .inl j | .inr a'=> .inr (st (i + 1) a'))∧ ∀ a',f b a= .inr a'→Inv (i + 1) a':=by
  intro i b a hb hI
  obtain⟨h1,h2,h3,h4⟩:=hs i b a hb hI
  refine⟨?_,h4⟩
  rw [LT.out_of h1 h2,h3]
  cases f b a <;> rfl
 refine p.run (adC st f e Inv xs hs' he xs 0 a rfl (by omega) h0) ?_
 rw [aqt]
 have:1000 ^ 4≤(p.fuel (st 0 a) + 1000) ^ 4:=Nat.pow_le_pow_left (by omega) 4
 omega
def ajR(a:List TM)(b:TM):List TM:=bif leI 7 b.1 then a++ [b]else a
theorem aj5: ∀ (ts acc:List TM),ts.foldl ajR acc=acc++blT ts
 | [],acc=>by simp [blT]
 |t::r,acc=>by
  rw [List.foldl_cons,aj5 r]
  simp only [ajR,blT,List.filter_cons]
  cases leI 7 t.1 <;> simp
theorem alM: ∀ (ls:List LN) (acc:List TM),ls.foldl (fun a l=>a++blT l.2) acc=acc++blL ls
 | [],acc=>by simp [blL]
 |l::r,acc=>by
  rw [List.foldl_cons,alM r]
  simp [blL]
theorem aml(ts:List TM):(blT ts).length≤ts.length:=List.length_filter_le _ _
theorem am9(a:List TM)(b:TM):(ajR a b).length≤a.length + 1:=by
 simp only [ajR];cases leI 7 b.1 <;> simp
def bJ(b:Int×(ByteArray×Int)):(List (Int×(ByteArray×Int)))→Nat ⊕ (List (Int×(ByteArray×Int)))
 |y3=>(bif(leI 7 b.1)then(.inr (y3++([(b.1,b.2.1,b.2.2)])))else(.inr y3))
def cC(y2:List (Int×(ByteArray×Int)))(i:Nat):(List (Int×(ByteArray×Int)))→aU
 |y3=>((i:Int),(↑y2.length:Int),y2,y3)
def oe:aU→List (Int×(ByteArray×Int))
 |(_,_,_,y3)=>y3
theorem Ge(y2 y3:List (Int×(ByteArray×Int)))(hn:y2.length≤9223372036854775807)(hc:y3.length + y2.length≤4000000000000):
  ae.fin ((0:Int),(↑y2.length:Int),y2,y3)=true∧ae.res ((0:Int),(↑y2.length:Int),y2,y3)=((bc (bJ) 0 y2 0 y3).1,(cC y2) (bc (bJ) 0 y2 0 y3).2.1 (bc (bJ) 0 y2 0 y3).2.2):=by
 have oi:=ae.along (cC y2) oe (bJ) 0 (fun i a=>a.length≤y3.length + i) y2 y3 (Nat.le_refl _) (by simp only [ae,cC];omega) (fun i b a hb hI=> ?_) (fun a hI=> ?_)
 ·exact oi
 ·obtain y3:=a
  have gV:=(List.getElem?_eq_some_iff.1 hb).1
  have lH: ∀ d,Option.getD y2[i]? d=b:=fun d=>by rw [hb];rfl
  have hw:=yJ gV hn
  have fA:ltI (i:Int) (y2.length:Int)=true:=fv (by omega)
  have Gz:leI (0:Int) (i:Int)=true:=cM (by omega)
  have qn:ltN i y2.length=true:=gM gV
  refine⟨?_,?_,?_,?_⟩
  ·have hg2:aQ (i:Int) y2=b:=by simp only [aQ,Int.toNat_natCast];exact lH _
   have h8: ∀ z:TM,leN (a.length + List.length [z]) 9223372036854775807=true:=fun z=>ci (by rw [List.length_singleton];omega)
   have h9: ∀ z:TM,leN ((a.length + List.length [z]) * 32) 140737488355328=true:=fun z=>ci (by rw [List.length_singleton];omega)
   simp only [eZ,fa,fb,fc,fe,ff,fg,dI,fh,eE,ae,ct,cu,LT.nds,allT,cC,fA,Gz,qn,hg2,h8,h9,Int.toNat_natCast,cond_true,Bool.or_true]
   cases leI 7 b.1 <;> simp [LT.nds]
  ·simp [aQ,ct,cu,eZ,fa,fb,fc,fe,ff,fg,dI,fh,eE,ae,LT.each,cC,oe,hw]
  ·have hg2:aQ (i:Int) y2=b:=by simp only [aQ,Int.toNat_natCast];exact lH _
   simp only [eZ,fa,fb,fc,fe,ff,fg,dI,fh,eE,ae,ct,cu,LT.fn,cC,oe,bJ,Int.toNat_natCast,fA,hg2,cond_true]
  ·intro a' hf
   have hf2:bJ b a= .inr (ajR a b):=by
    simp only [bJ,ajR];cases leI 7 b.1 <;> rfl
   rw [hf2]at hf
   simp only [Sum.inr.injEq]at hf
   subst hf
   have:=am9 a b
   omega
 ·obtain y3:=a
  simp [aQ,ct,cu,eZ,fa,fb,fc,fe,ff,fg,dI,fh,eE,ae,LT.out,cC]
theorem afj(ts acc:List TM)(hn:ts.length≤9223372036854775807)(hc:acc.length + ts.length≤4000000000000):
  ae.fin ((0:Int),(ts.length:Int),ts,acc)=true∧(ae.res ((0:Int),(ts.length:Int),ts,acc)).2.2.2.2=acc++blT ts:=by
 obtain⟨w1,w2⟩:=Ge ts acc hn hc
 rw [Kf (g:=ajR) (fun b a=>by simp only [bJ,ajR];cases leI 7 b.1 <;> rfl)]at w2
 exact⟨w1,by rw [w2];exact aj5 ts acc⟩
def bZ(b:ByteArray×(List (Int×(ByteArray×Int)))):(List (Int×(ByteArray×Int)))→Nat ⊕ (List (Int×(ByteArray×Int)))
 |y3=>(.inr ((Lp.res ae ((0:Int),(↑(List.length b.2):Int),b.2,y3)).2.2.2.2))
def bU(y2:List (ByteArray×(List (Int×(ByteArray×Int)))))(i:Nat):(List (Int×(ByteArray×Int)))→aZ
 |y3=>((i:Int),(↑y2.length:Int),y2,y3)
def pC:aZ→List (Int×(ByteArray×Int))
 |(_,_,_,y3)=>y3
theorem Iw(y2:List (ByteArray×(List (Int×(ByteArray×Int)))))(y3:List (Int×(ByteArray×Int)))(hn:y2.length≤9223372036854775807)(hN:y2.length≤1048576)(hL: ∀ l∈y2,l.2.length≤1048576)(h3:y3.length=0):
  ax.fin ((0:Int),(↑y2.length:Int),y2,y3)=true∧ax.res ((0:Int),(↑y2.length:Int),y2,y3)=((bc (bZ) 0 y2 0 y3).1,(bU y2) (bc (bZ) 0 y2 0 y3).2.1 (bc (bZ) 0 y2 0 y3).2.2):=by
 have oi:=ax.along (bU y2) pC (bZ) 0 (fun i a=>a.length≤i * 1048576) y2 y3 (by omega) (by simp only [ax,bU];omega) (fun i b a hb hI=> ?_) (fun a hI=> ?_)
 ·exact oi
 ·obtain y3:=a
  have gV:=(List.getElem?_eq_some_iff.1 hb).1
  have lH: ∀ d,Option.getD y2[i]? d=b:=fun d=>by rw [hb];rfl
  have hw:=yJ gV hn
  have fA:ltI (i:Int) (y2.length:Int)=true:=fv (by omega)
  have Gz:leI (0:Int) (i:Int)=true:=cM (by omega)
  have qn:ltN i y2.length=true:=gM gV
  refine⟨?_,?_,?_,?_⟩
  ·have hg2:bT (i:Int) y2=b.2:=by simp only [bT,Int.toNat_natCast];exact congrArg Prod.snd (lH _)
   have hbl:=hL b (List.mem_of_getElem? hb)
   have h4:gf (i:Int) y2 a=true:=by
    simp only [gf,dY,hg2]
    exact(afj b.2 a (by omega) (by omega)).1
   simp only [ax,fV,ge,kD,kE,kF,LT.nds,allT,bU,fA,Gz,qn,h4,Int.toNat_natCast,cond_true,Bool.and_self]
  ·simp [bT,dY,ge,kD,kE,kF,gf,pN,kG,fV,ax,LT.each,bU,pC,hw]
  ·have hg2:bT (i:Int) y2=b.2:=by simp only [bT,Int.toNat_natCast];exact congrArg Prod.snd (lH _)
   simp only [ax,fV,ge,kG,dY,LT.fn,bU,pC,bZ,fA,hg2,cond_true]
  ·intro a' hf
   have hbl:=hL b (List.mem_of_getElem? hb)
   have h5:=aml b.2
   simp only [bZ,Sum.inr.injEq,(afj b.2 a (by omega) (by omega)).2]at hf
   subst hf
   rw [List.length_append]
   omega
 ·obtain y3:=a
  simp [bT,dY,ge,kD,kE,kF,gf,pN,kG,fV,ax,LT.out,bU]
theorem apx{f:LN→List TM→Nat ⊕ List TM}{e:Nat}: ∀ (ls:List LN) (i:Nat) (acc:List TM) (c:Nat),(∀ l∈ls,∀ a:List TM,a.length≤c + (ls.length * 1048576)→f l a= .inr (a++blT l.2))→(∀ l∈ls,l.2.length≤1048576)→acc.length≤c→
  bc f e ls i acc=(e,i + ls.length,acc++blL ls)
 | [],i,acc,c,_,_,_=>by simp [bc,blL]
 |l::r,i,acc,c,hf,hL,hc=>by
  have h5:=aml l.2
  have h6:=hL l (by simp)
  simp only [bc,hf l (by simp) acc (by omega)]
  rw [apx r (i + 1) (acc++blT l.2) (c + 1048576) (fun x hx a ha=>hf x (by simp [hx]) a (by rw [List.length_cons];omega)) (fun x hx=>hL x (by simp [hx])) (by rw [List.length_append];omega)]
  simp [blL];omega
theorem anu(ls:List LN)(h:TL ls=true):rc ls=blL ls∧re ls=true:=by
 obtain⟨hn,hA⟩:=Qg.1 h
 have hL: ∀ l∈ls,l.2.length≤1048576:=fun l hl=>(Qx.1 (hA l hl).2).1
 obtain⟨w1,w2⟩:=Iw ls [] (by omega) hn hL rfl
 have hw:=apx (f:=bZ) (e:=0) ls 0 [] 0 (fun l hl a ha=>by
  have:=hL l hl
  simp only [bZ,(afj l.2 a (by omega) (by omega)).2]) hL (by simp)
 rw [hw]at w2
 simp only [rc,re,qM,w1,w2,allT,bU]
 simp
theorem aop(k:Nat)(u v:ByteArray)(acc:List TM)(p q r:List ByteArray)(ls:List LN)(l:LN)(hl:ls[k]? =some l)(hn:l.2.length≤1048576)(hc:acc.length + l.2.length≤4000000000000):
  eL.fin ((0:Int),(k:Int),u,v,acc,p,q,r,ls)=true∧eL.res ((0:Int),(k:Int),u,v,acc,p,q,r,ls)=(0,((l.2.length:Int),(k:Int),u,v,acc++blT l.2,p,q,r,ls)):=by
 have hkl:=(List.getElem?_eq_some_iff.1 hl).1
 have hgl: ∀ d,Option.getD ls[k]? d=l:=fun d=>by rw [hl];rfl
 have ha2:sF (k:Int) ls=l.2:=by simp only [sF,Int.toNat_natCast];exact congrArg Prod.snd (hgl _)
 have ha0:HU (k:Int) ls=true:=fv (by omega)
 have ha1:BQ (k:Int) ls=true:=by simp only [BQ,Int.toNat_natCast];exact gM hkl
 have hk0:leI 0 (k:Int)=true:=cM (by omega)
 have oi:=eL.along2 (fun i (a:List TM)=>((i:Int),(k:Int),u,v,a,p,q,r,ls)) (fun x=>x.2.2.2.2.1) (fun(b:TM) a=> .inr (ajR a b)) 0 (fun i a=>a.length≤acc.length + i) l.2 acc (by omega)
  (by omega) (fun i b a hb hI=> ?_) (fun a hI=> ?_)
 ·rw [Kf (g:=ajR) (fun b a=>rfl),aj5]at oi
  simpa using oi
 ·have gV:=(List.getElem?_eq_some_iff.1 hb).1
  have hw:IntKind.i64.wrap ((i:Int) + 1)=((i + 1:Nat):Int):=by rw [bi (by omega) (by omega)];omega
  have fA:ltI (i:Int) (l.2.length:Int)=true:=fv (by omega)
  have Gz:leI (0:Int) (i:Int)=true:=cM (by omega)
  have qn:ltN i l.2.length=true:=gM gV
  have hg2:sH (i:Int) (k:Int) ls=b:=by simp only [sH,ha2,Int.toNat_natCast,hb,Option.getD_some]
  have hg3:sG (i:Int) (k:Int) ls=true:=by simp only [sG,ha2,fA]
  have h8: ∀ z:TM,leN (a.length + List.length [z]) 9223372036854775807=true:=fun z=>ci (by rw [List.length_singleton];omega)
  have h9: ∀ z:TM,leN ((a.length + List.length [z]) * 32) 140737488355328=true:=fun z=>ci (by rw [List.length_singleton];omega)
  refine⟨?_,?_,?_,?_⟩
  ·simp only [uK,uL,uM,uN,yw,yx,yy,yz,yA,yB,xl,xm,xo,xt,xu,sE,xw,wW,eL,eS,sI,LT.nds,allT,ha0,ha1,ha2,hk0,hg2,hg3,fA,Gz,qn,h8,h9,Int.toNat_natCast,cond_true,Bool.or_true]
   cases leI 7 b.1 <;> simp [LT.nds]
  ·simp only [uK,uL,uM,uN,yw,yx,yy,yz,yA,yB,xl,xm,xo,xt,xu,sE,xw,wW,eL,eS,sI,LT.each,hw,hg2,hg3]
   cases leI 7 b.1 <;> simp [LT.each]
  ·simp only [uK,uL,uM,uN,yw,yx,yy,yz,yA,yB,xl,xm,xo,xt,xu,sE,xw,wW,eL,eS,sI,LT.fn,hg2,hg3,cond_true,ajR]
   cases leI 7 b.1 <;> rfl
  ·intro a' hf
   simp only [Sum.inr.injEq]at hf
   subst hf
   have:=am9 a b
   omega
 ·have fA:sG (l.2.length:Int) (k:Int) ls=false:=by simp only [sG,ha2];exact NM (by omega)
  simp [uK,uL,uM,uN,yw,yx,yy,yz,yA,yB,xl,xm,xo,xt,xu,sE,xw,wW,eL,LT.out,allT,ha0,ha1,hk0,fA]
theorem an7(u v:ByteArray)(p q r:List ByteArray)(ls:List LN)(h:TL ls=true):Tb u v p q r ls=blL ls∧Tc u v p q r ls=true:=by
 obtain⟨hn,hA⟩:=Qg.1 h
 have hL: ∀ l∈ls,l.2.length≤1048576:=fun l hl=>(Qx.1 (hA l hl).2).1
 have oi:=kq.along (fun i (a:List TM)=>((i:Int),u,v,a,p,q,r,ls)) (fun x=>x.2.2.2.1) (fun(b:LN) a=> .inr (a++blT b.2)) 0 (fun i a=>a.length≤i * 1048576) ls [] (by simp)
  (by simp only [kq];omega) (fun i b a hb hI=> ?_) (fun a hI=> ?_)
 ·rw [Kf (g:=fun a (l:LN)=>a++blT l.2) (fun b a=>rfl),alM]at oi
  simp only [Tb,Tc,RO,allT]
  simp only [List.nil_append,Nat.zero_add]at oi
  have e0:((0:Nat):Int)=0:=rfl
  rw [e0]at oi
  rw [oi.1,oi.2]
  exact⟨rfl,rfl⟩
 ·have gV:=(List.getElem?_eq_some_iff.1 hb).1
  have hbl:=hL b (List.mem_of_getElem? hb)
  have hw:IntKind.i64.wrap ((i:Int) + 1)=((i + 1:Nat):Int):=by rw [bi (by omega) (by omega)];omega
  have fA:ltI (i:Int) (ls.length:Int)=true:=fv (by omega)
  obtain⟨k1,k2⟩:=aop i u v a p q r ls b hb hbl (by omega)
  refine⟨?_,?_,?_,?_⟩
  ·simp [Cu,Cv,Cw,Cx,AP,kq,Bs,LT.nds,allT,fA,k1]
  ·simp [Cu,Cv,Cw,Cx,AP,kq,Bs,LT.each,fA,hw,k2]
  ·simp [Cu,Cv,Cw,Cx,AP,kq,Bs,LT.fn,fA,k2]
  ·intro a' hf
   simp only [Sum.inr.injEq]at hf
   subst hf
   have:=aml b.2
   rw [List.length_append];omega
 ·have fA:ltI (ls.length:Int) (ls.length:Int)=false:=NM (by omega)
  simp [Cu,Cv,Cw,Cx,AP,kq,LT.out,fA]
def yV:List SV→List Entry→Option Out
 | [.one ⟨true,[.val (.string _x0),.ref 0,.ref 1,.ref 2,.val (.string _x1),.ref 3]⟩],[.row false 9 (.str) x2,.row false 9 (.str) x3,.row false 9 (.str) x4,.row false 204 (.pair (.str) (.sl 178 (.pair (.int .i64) (.pair (.str) (.int .i64))))) x5]=>some ⟨.one ⟨false,[.ref 4]⟩,[.row false 9 alP x2,.row false 9 alP x3,.row false 9 alP x4,.row false 204 (CTy.pair CTy.str (CTy.sl (178:TypeId) acQ)) x5],[.row true 178 acQ (blL x5)],[TL x5]⟩
 |_,_=>none
def bS:PF prog:=PF.alt JW yV (by
 intro args es o h cD;unfold yV at h;split at h
 ·rename_i _x0 _x1 x2 x3 x4 x5
  cases h
  have cD:=ln cD
  have hh:=anu x5 cD
  obtain⟨e0,en⟩:=hh
  exact qy rfl (kw en) rfl rfl (by simp only [e0] <;> rfl)
 ·cases h)
def Zh:List SV→List Entry→Option Out
 | [.one ⟨true,[.val (.string x0),.ref 0,.ref 1,.ref 2,.val (.string x1),.ref 3]⟩],[.row false 9 (.str) x2,.row false 9 (.str) x3,.row false 9 (.str) x4,.row false 204 (.pair (.str) (.sl 178 (.pair (.int .i64) (.pair (.str) (.int .i64))))) x5]=>some ⟨.one ⟨false,[.ref 4]⟩,[.row false 9 alP x2,.row false 9 alP x3,.row false 9 alP x4,.row false 204 (CTy.pair CTy.str (CTy.sl (178:TypeId) acQ)) x5],[.row true 178 acQ (blL x5)],[TL x5]⟩
 |_,_=>none
def tV:PF prog:=PF.alt aid Zh (by
 intro args es o h cD;unfold Zh at h;split at h
 ·rename_i x0 x1 x2 x3 x4 x5
  cases h
  have cD:=ln cD
  have hh:=an7 x0 x1 x2 x3 x4 x5 cD
  obtain⟨e0,en⟩:=hh
  exact qy rfl (kw en) rfl rfl (by simp only [e0] <;> rfl)
 ·cases h)
theorem arx(n:Int)(h0:0≤n)(h1:n≤100000000):vE n= []∧vF n=true:=by
 have w0:IntKind.i64.wrap ((↑(0:Nat):Int) - (↑(0:Nat):Int))=0:=rfl
 have e0:bk n=n:=by simp only [bk,w0];rw [bi (by omega) (by omega)];omega
 refine⟨?_,?_⟩
 ·simp only [vE,e0];cases ltI 0 n <;> rfl
 ·have t0:ltI n 0=false:=NM h0
  have t1:leI (0:Int) (0:Int)=true:=rfl
  have t2:leI (↑(0:Nat):Int) (0:Int)=true:=rfl
  have t3:leI (0:Int) (↑(0:Nat):Int)=true:=rfl
  have t4:leI n 9223372036854775807=true:=cM (by omega)
  have t5:leI (n * (↑(16:Nat):Int)) 281474976710656=true:=cM (by omega)
  have t6: ∀ m:Nat,leI (↑(0:Nat):Int) (m:Int)=true:=fun m=>cM (by omega)
  have t7:(!ltI 0 n||leI 1 n)=true:=by
   cases h:ltI 0 n with
   |false=>rfl
   |true=>have:=Vh.1 h;rw [cM (by omega)];rfl
  simp only [vF,Af,e0,t0,t1,t2,t3,t4,t5,t6,t7,allT,Bool.or_true,Bool.not_false,cond_true]
def Kb(l:List (List ByteArray)):Nat:=(l.map List.length).sum
theorem aiZ(a b:List (List ByteArray)):Kb (a++b)=Kb a + Kb b:=by simp [Kb]
theorem adG{l:List (List ByteArray)}{i:Nat}{b:List ByteArray}(hb:l[i]? =some b):Kb (l.take (i + 1))=Kb (l.take i) + b.length∧Kb (l.take (i + 1))≤Kb l:=by
 obtain⟨hi,rfl⟩:=List.getElem?_eq_some_iff.1 hb
 refine⟨?_,?_⟩
 ·rw [List.take_succ_eq_append_getElem hi,aiZ];simp [Kb]
 ·have h5:=aiZ (l.take (i + 1)) (l.drop (i + 1))
  rw [List.take_append_drop]at h5
  omega
def dk(b:List ByteArray):(Int)→Nat ⊕ (Int)
 |y2=>(.inr (IntKind.wrap .i64 (y2 + (↑(List.length b):Int))))
def eC(y3:List (List ByteArray))(i:Nat):(Int)→di
 |y2=>((i:Int),(↑y3.length:Int),y2,y3)
def xF:di→Int
 |(_,_,y2,_)=>y2
theorem Sh(y3:List (List ByteArray))(y2:Int)(hn:y3.length≤9223372036854775807)(h0:y2=0)(hS:Kb y3≤2000000):
  bq.fin ((0:Int),(↑y3.length:Int),y2,y3)=true∧bq.res ((0:Int),(↑y3.length:Int),y2,y3)=((bc (dk) 0 y3 0 y2).1,(eC y3) (bc (dk) 0 y3 0 y2).2.1 (bc (dk) 0 y3 0 y2).2.2):=by
 have oi:=bq.along (eC y3) xF (dk) 0 (fun i a=>a=(Kb (y3.take i):Int)) y3 y2 (by rw [h0];simp [Kb]) (by simp only [bq,eC];omega) (fun i b a hb hI=> ?_) (fun a hI=> ?_)
 ·exact oi
 ·obtain y2:=a
  have gV:=(List.getElem?_eq_some_iff.1 hb).1
  have lH: ∀ d,Option.getD y3[i]? d=b:=fun d=>by rw [hb];rfl
  have hw:=yJ gV hn
  have fA:ltI (i:Int) (y3.length:Int)=true:=fv (by omega)
  have Gz:leI (0:Int) (i:Int)=true:=cM (by omega)
  have qn:ltN i y3.length=true:=gM gV
  refine⟨?_,?_,?_,?_⟩
  ·have hg2:gq (i:Int) a y3=(Kb (y3.take (i + 1)):Int):=by
    have h3:=adG hb
    simp only [gq,Int.toNat_natCast]
    refine(congrArg (fun z:List ByteArray=>IntKind.i64.wrap (a + (z.length:Int))) (lH _)).trans ?_
    show IntKind.i64.wrap (a + (b.length:Int))=_
    rw [hI,bi (by omega) (by omega)];omega
   have h6:ltI (Kb (y3.take (i + 1)):Int) 0=false:=NM (by omega)
   simp only [bq,nH,ov,sg,si,sj,sk,LT.nds,allT,eC,fA,Gz,qn,hg2,h6,Int.toNat_natCast,cond_true,Bool.and_self,Bool.not_false]
  ·simp [gq,ov,sg,si,sj,sk,ym,sm,nH,bq,LT.each,eC,xF,hw]
  ·simp only [bq,nH,ov,sm,gq,LT.fn,eC,xF,dk,fA,Int.toNat_natCast,cond_true]
   exact congrArg (fun z:List ByteArray=>(Sum.inr (IntKind.i64.wrap (a + (z.length:Int))):Nat ⊕ Int)) (lH _)
  ·intro a' hf
   have h3:=adG hb
   simp only [dk,Sum.inr.injEq]at hf
   rw [← hf,hI,bi (by omega) (by omega)];omega
 ·obtain y2:=a
  simp [gq,ov,sg,si,sj,sk,ym,sm,nH,bq,LT.out,eC]
def gZ(b:List ByteArray):(List ByteArray)→Nat ⊕ (List ByteArray)
 |y3=>(.inr (y3++(b)))
def eD(y2:List (List ByteArray))(i:Nat):(List ByteArray)→dj
 |y3=>((i:Int),(↑y2.length:Int),y2,y3)
def xG:dj→List ByteArray
 |(_,_,_,y3)=>y3
theorem Si(y2:List (List ByteArray))(y3:List ByteArray)(hn:y2.length≤9223372036854775807)(hS:Kb y2≤2000000)(h3:y3= []):
  br.fin ((0:Int),(↑y2.length:Int),y2,y3)=true∧br.res ((0:Int),(↑y2.length:Int),y2,y3)=((bc (gZ) 0 y2 0 y3).1,(eD y2) (bc (gZ) 0 y2 0 y3).2.1 (bc (gZ) 0 y2 0 y3).2.2):=by
 have oi:=br.along (eD y2) xG (gZ) 0 (fun i a=>a.length=Kb (y2.take i)) y2 y3 (by rw [h3];simp [Kb]) (by simp only [br,eD];omega) (fun i b a hb hI=> ?_) (fun a hI=> ?_)
 ·exact oi
 ·obtain y3:=a
  have gV:=(List.getElem?_eq_some_iff.1 hb).1
  have lH: ∀ d,Option.getD y2[i]? d=b:=fun d=>by rw [hb];rfl
  have hw:=yJ gV hn
  have fA:ltI (i:Int) (y2.length:Int)=true:=fv (by omega)
  have Gz:leI (0:Int) (i:Int)=true:=cM (by omega)
  have qn:ltN i y2.length=true:=gM gV
  refine⟨?_,?_,?_,?_⟩
  ·have hg2:dK (i:Int) y2=b:=by simp only [dK,Int.toNat_natCast];exact lH _
   have h3:=adG hb
   have h6:leN (a.length + b.length) 9223372036854775807=true:=ci (by omega)
   have h7:leN ((a.length + b.length) * 16) 140737488355328=true:=ci (by omega)
   simp only [br,nI,ow,sn,sq,sr,su,sv,LT.nds,allT,eD,fA,Gz,qn,hg2,h6,h7,Int.toNat_natCast,cond_true,Bool.and_self]
  ·simp [dK,ow,sn,sq,sr,su,sv,yo,sw,nI,br,LT.each,eD,xG,hw]
  ·have hg2:dK (i:Int) y2=b:=by simp only [dK,Int.toNat_natCast];exact lH _
   simp only [br,nI,ow,sw,LT.fn,eD,xG,gZ,fA,hg2,cond_true]
  ·intro a' hf
   have h3:=adG hb
   simp only [gZ,Sum.inr.injEq]at hf
   rw [← hf,List.length_append];omega
 ·obtain y3:=a
  simp [dK,ow,sn,sq,sr,su,sv,yo,sw,nI,br,LT.out,eD]
theorem anm: ∀ (l:List (List ByteArray)) (acc:List ByteArray),l.foldl (fun a b=>a++b) acc=acc++l.flatten
 | [],acc=>by simp
 |a::r,acc=>by rw [List.foldl_cons,anm r];simp
theorem ar7(l:List (List ByteArray))(h:(leN l.length 1000&&leN (Kb l) 2000000)=true):AW l=l.flatten∧AX l=true:=by
 simp only [Bool.and_eq_true,jD]at h
 obtain⟨w1,w2⟩:=Sh l 0 (by omega) rfl h.2
 have hw:(bc dk 0 l 0 (0:Int)).2.2=(Kb l:Int):=by
  have hg: ∀ (r:List (List ByteArray)) (i:Nat) (a:Int),0≤a→a + Kb r≤2000000→(bc dk 0 r i a).2.2=a + Kb r:=by
   intro r
   induction r with
   |nil=>intro i a _ _;simp [bc,Kb]
   |cons x r ih=>
    intro i a h0 h1
    have h3:Kb (x::r)=x.length + Kb r:=by simp [Kb]
    have hf:dk x a= .inr (a + (x.length:Int)):=by
     simp only [dk]
     rw [bi (by omega) (by omega)]
    simp only [bc,hf]
    rw [ih (i + 1) (a + (x.length:Int)) (by omega) (by omega),h3]
    omega
  have:=hg l 0 0 (by omega) (by omega)
  omega
 have ha1:ue l=(Kb l:Int):=by
  simp only [ue,ud,w2,eC]
  exact hw
 obtain⟨g1,g2⟩:=arx (Kb l:Int) (by omega) (by omega)
 obtain⟨v1,v2⟩:=Si l [] (by omega) h.2 rfl
 rw [Kf (f:=gZ) (g:=fun a b=>a++b) (fun b a=>rfl),anm]at v2
 refine⟨?_,?_⟩
 ·simp only [AW,uf,ha1,g1,v2,eD,List.nil_append]
 ·simp only [AX,uf,ha1,g1,g2,v1,ud,w1,allT,cond_true]
def IM:List SV→List Entry→Option Out
 | [.one ⟨false,[.ref 0]⟩],[.row false 60 (.sl 9 (.str)) x0]=>some ⟨.one ⟨false,[.ref 1]⟩,[.row false 60 (CTy.sl (9:TypeId) CTy.str) x0],[.row true 9 alP (x0.flatten)],[leN x0.length 1000&&leN (Kb x0) 2000000]⟩
 |_,_=>none
def cP:PF prog:=PF.alt TO IM (by
 intro args es o h cD;unfold IM at h;split at h
 ·rename_i x0
  cases h
  have cD:=ln cD
  have hh:=ar7 x0 cD
  obtain⟨e0,en⟩:=hh
  exact qy rfl (kw en) rfl rfl (by simp only [e0] <;> rfl)
 ·cases h)
end Go.SX
