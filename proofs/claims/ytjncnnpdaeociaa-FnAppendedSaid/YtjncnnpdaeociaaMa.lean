/- What functions of the program come to, and what that says in plain words: part 1. -/
import Derived.Test.YtjncnnpdaeociaaTXh
import Derived.Test.YtjncnnpdaeociaaProg
set_option linter.unusedSimpArgs false
set_option linter.unusedVariables false
namespace Go.SX
open Go.Proofs
def T3z {P : Program} (l : List (PF P)) : List (PF P) :=l.flatMap fun p=>[p,PF.lend p,PF.fz p]
abbrev Mp:CTy:=(CTy.pair (CTy.int IntKind.i64) (CTy.pair (CTy.int IntKind.i64) (CTy.int IntKind.i64)))
abbrev Mq:CTy:=(CTy.sl 2 (CTy.int IntKind.i64))
abbrev Mr:CTy:=(CTy.int IntKind.i64)
abbrev Mt:CTy:=(CTy.int IntKind.u8)
end Go.SX
namespace Go.SX
open Go.Proofs Go.Proofs.Try
set_option maxRecDepth 100000
theorem bA:Try.prog.follows .mixedOrders=true:=by kernel_rfl
def iQ(x0 x1 x2:Int):Bool:=bif leI x1 x0 then leI x0 x2 else false
def AD:List SV→List Entry→Option Out
 | [.one ⟨false,[.val (.int .i64 x0)]⟩,.one ⟨false,[.val (.int .i64 x1)]⟩,.one ⟨false,[.val (.int .i64 x2)]⟩],[]=>some ⟨.one ⟨false,[.val (.bool (iQ x0 x1 x2))]⟩,[],[],[]⟩
 |_,_=>none
def qr:PF prog:=PF.ofG prog [] [] bA 92 f92 func92 (fun c _=>LOk.nil c) AD (by
 intro vs es r h;unfold AD at h;split at h
 ·cases h;kernel_rfl
 ·cases h)
def fI(x0 x1 x2:Int):Bool:=bif leI x1 x0 then leI x0 x2 else false
def zl:List SV→List Entry→Option Out
 | [.one ⟨false,[.val (.int .i64 x0)]⟩,.one ⟨false,[.val (.int .i64 x1)]⟩,.one ⟨false,[.val (.int .i64 x2)]⟩],[]=>some ⟨.one ⟨false,[.val (.bool (fI x0 x1 x2))]⟩,[],[],[]⟩
 |_,_=>none
def rL:PF prog:=PF.ofG prog [] [] bA 98 f98 func98 (fun c _=>LOk.nil c) zl (by
 intro vs es r h;unfold zl at h;split at h
 ·cases h;kernel_rfl
 ·cases h)
abbrev cA:=Int×List Int×List Int
section
variable (y0:Int)(y1 y2:List Int)
def gN:Bool:=ltI y0 (↑y1.length:Int)
def gO:Bool:=leI 0 y0
def jg:Bool:=ltN y0.toNat y1.length
def jh:Bool:=ltI y0 (↑y2.length:Int)
def ji:Bool:=ltN y0.toNat y2.length
def jj:Bool:=Option.getD y1[Int.toNat y0]? 0!=Option.getD y2[Int.toNat y0]? 0
def jk:Int:=IntKind.wrap .i64 (y0 + (1:Int))
end
def yQ:cA→List (Nat×SV)
 |(y0,_,_)=> [(5,(.one ⟨false,[.val (.int .i64 y0)]⟩)),(0,(.one ⟨false,[.ref 0]⟩)),(1,(.one ⟨false,[.ref 1]⟩))]
def yL:cA→List (Nat×Entry)
 |(_,y1,y2)=> [(0,(.row false 2 Mr y1)),(1,(.row false 2 Mr y2))]
def za:Nat→cA→List (Nat×SV)
 |0,(_,_,_)=> [(4,(.one ⟨false,[.val (.bool false)]⟩))]
 |_,(_,_,_)=> []
def yV:Nat→cA→List (Nat×Entry)
 |0,(_,y1,y2)=> [(0,(.row false 2 Mr y1)),(1,(.row false 2 Mr y2))]
 |_,(_,y1,y2)=> [(0,(.row false 2 Mr y1)),(1,(.row false 2 Mr y2))]
def iA:cA→LT cA
 |(y0,y1,y2)=> .ite (gN y0 y1) (.need [gO y0,gN y0 y1,jg y0 y1,gO y0,jh y0 y2,ji y0 y2] (.ite (jj y0 y1 y2) (.ext 0 [(0,0),(1,1)]) (.nrm ((jk y0),y1,y2) [(0,0),(1,1)]))) (.ext 1 [(0,0),(1,1)])
def ol(s:St):Option cA:=
 (match s.look 5 with
 |some ⟨none,.one ⟨false,[.val (.int .i64 y0)]⟩⟩=>
 (match s.look 0 with
 |some ⟨none,.one ⟨false,[.ref 0]⟩⟩=>
 (match s.look 1 with
 |some ⟨none,.one ⟨false,[.ref 1]⟩⟩=>
 (match s.ent 0 with
 |some (.row false 2 (.int .i64) y1)=>
 (match s.ent 1 with
 |some (.row false 2 (.int .i64) y2)=>
 some (y0,y1,y2)
 |_=>none)
 |_=>none)
 |_=>none)
 |_=>none)
 |_=>none)
def ba:Lp cA where
 h:=⟨[11,12,13,14,17,18,19,20,21,22,23,24,25,4,15,16,5],[0,1],[],[]⟩
 JL:=yQ
 JE:=yL
 XL:=za
 XE:=yV
 q:=fun j=>match j with | 0=> .ret | _=> .exit 0
 tags:= [0,1]
 lt:=iA
 fuel:=fun(y0,y1,y2)=>y0.natAbs + y1.length + y2.length
 fix:=fun(_,y1,y2) (y0,_,_)=>(y0,y1,y2)
 σ:= [(0,0),(1,1)]
 rd:=ol
theorem wL:LoopOk prog (fun k=>Nat.blt k Try.f31.ntmps) ba.F (bT f31 0):=by
 refine Lp.ok (tbl:= []) (lf:= []) bA ba (by kernel_rfl) (LOk.nil _) (fun _=>rfl) (fun j _=>by unfold ba;match j with | 0=>rfl | _ + 1=>rfl) ?_ ?_ ?_ ?_ (fun _=>rfl) ?_
 ·rintro⟨y0,y1,y2⟩;kernel_rfl
 ·rintro⟨y0,y1,y2⟩;kernel_rfl
 ·intro s x h
  have h:ol s=some x:=h
  unfold ol at h
  repeat' split at h
  all_goals cases h
  constructor<;>repeat(first|refine af (by assumption) rfl ?_|refine aP rfl (by assumption) rfl ?_|exact rfl)
 ·rintro⟨y0,y1,y2⟩;kernel_rfl
 ·rintro⟨y0,y1,y2⟩ z;exact(And.intro (And.intro trivial rfl) trivial)
section
variable (x0 x1:List Int)
def ny:Bool:=(↑x0.length:Int)!=(↑x1.length:Int)
def nz:Int×List Int×List Int:=((0:Int),x0,x1)
def oJ:Bool:=bif ny x0 x1 then false else bif Nat.beq ((Lp.res ba (nz x0 x1)).1) 0 then false else true
def oK:Bool:=allT [ny x0 x1||Lp.fin ba (nz x0 x1)]
end
def wn:List SV→List Entry→Option Out
 | [.one ⟨false,[.ref 0]⟩,.one ⟨false,[.ref 1]⟩],[.row false 2 (.int .i64) x0,.row false 2 (.int .i64) x1]=>some ⟨.one ⟨false,[.val (.bool (oJ x0 x1))]⟩,[.row false 2 Mr x0,.row false 2 Mr x1],[],[oK x0 x1]⟩
 |_,_=>none
def Df:PF prog:=PF.ofG prog [] [ba.F] bA 31 f31 func31 (LOk.fnT (l:= [bT f31 0]) (by kernel_rfl) (.cons wL (.nil _))) wn (by
 intro vs es r h;unfold wn at h;split at h
 ·cases h;kernel_rfl
 ·cases h)
def blk(p:Int):Int:=Int.tdiv p 3
def phs(p:Int):Int:=Int.tmod p 3
def inR(a lo hi:Int):Bool:=leI lo a&&leI a hi
def LI(n p b:Int):Bool:=blk p==b||(phs p==2&&Int.tmod (blk p + 1) n==b)
def LR(n:Int)(ps:List Int)(b:Int):Nat:=ps.countP fun p=>LI n p b
def eqL(xs ys:List Int):Bool:=decide (xs=ys)
theorem GI(xs:List Int):eqL xs xs=true:=by simp [eqL]
theorem yx{a lo hi:Int}:inR a lo hi=true↔lo≤a∧a≤hi:=by simp [inR]
theorem BW(a lo hi:Int):(bif leI lo a then leI a hi else false)=inR a lo hi:=by
 unfold inR;cases leI lo a <;> rfl
def iW(y1 y2:List Int)(b:Nat):(Unit)→Nat ⊕ (Unit)
 |_=>(bif(Option.getD y1[b]? 0!=Option.getD y2[b]? 0)then(.inl 0)else(.inr ()))
def eK(y1 y2:List Int)(i:Nat):(Unit)→cA
 |_=>((i:Int),y1,y2)
def og:cA→Unit
 |(_,_,_)=>()
theorem AA(y1 y2:List Int) (hn:y1.length≤9223372036854775807) (he:y2.length=y1.length):
  ba.fin ((0:Int),y1,y2)=true∧ba.res ((0:Int),y1,y2)=((cw (iW y1 y2) 1 (List.range y1.length) 0 ()).1,(eK y1 y2) (cw (iW y1 y2) 1 (List.range y1.length) 0 ()).2.1 (cw (iW y1 y2) 1 (List.range y1.length) 0 ()).2.2):=by
 have fJ:=ba.along (eK y1 y2) og (iW y1 y2) 1 (fun _ _=>True) (List.range y1.length) () (by trivial) (by simp only [ba,eK,List.length_range];omega) (fun i b a hb hI=> ?_) (fun a hI=> ?_)
 ·exact fJ
 ·obtain⟨⟩:=a
  obtain⟨rfl,cH⟩:=nA hb
  have hw:IntKind.i64.wrap ((b:Int) + 1)=((b + 1:Nat):Int):=by rw [aN (by omega) (by omega)];omega
  have kA:ltI (b:Int) (y1.length:Int)=true:=jl (by omega)
  have xM:leI (0:Int) (b:Int)=true:=cZ (by omega)
  have mJ:ltN b y1.length=true:=mM (by omega)
  refine⟨?_,?_,?_,?_⟩
  ·simp [gN,gO,jg,jh,ji,jj,jk,iA,ba,LT.nds,allT,eK,kA,xM,mJ,he]
  ·simp [gN,gO,jg,jh,ji,jj,jk,iA,ba,LT.each,eK,og,hw,he]
  ·simp only [gN,gO,jg,jh,ji,jj,jk,iA,ba,LT.fn,eK,og,iW,Int.toNat_natCast,kA,cond_true]
  ·exact fun _ _=>trivial
 ·obtain⟨⟩:=a
  simp [gN,gO,jg,jh,ji,jj,jk,iA,ba,LT.out,eK,List.length_range]
theorem GW(xs ys:List Int)(hn:leN xs.length 9223372036854775807=true):oJ xs ys=eqL xs ys∧oK xs ys=true:=by
 have hn:=eq.1 hn
 unfold eqL
 by_cases hl:ys.length=xs.length
 ·obtain⟨w1,w2⟩:=AA xs ys hn hl
  have ha:=FK (d:=(0:Int)) hl (P:=fun b=>Option.getD xs[b]? 0 !=Option.getD ys[b]? 0) (fun b=>by simp [bne,BEq.beq])
  rw [nI (P:=fun b=>Option.getD xs[b]? 0 !=Option.getD ys[b]? 0) (j:=0) (fun b=>rfl),ha]at w2
  simp only [ny,nz,oJ,oK,w1,w2,allT]
  by_cases he:xs=ys
  ·subst he;simp;decide
  ·simp [he,hl]
 ·have rY:xs≠ys:=fun h=>hl (by rw [h])
  simp [ny,nz,oJ,oK,allT,rY]
  omega
def ww:List SV→List Entry→Option Out
 | [.one ⟨false,[.ref 0]⟩,.one ⟨false,[.ref 1]⟩],[.row false 2 (.int .i64) x0,.row false 2 (.int .i64) x1]=>some ⟨.one ⟨false,[.val (.bool (eqL x0 x1))]⟩,[.row false 2 Mr x0,.row false 2 Mr x1],[],[leN x0.length 9223372036854775807]⟩
 |_,_=>none
def sx:PF prog:=PF.alt Df ww (by
 intro args es o h bk;unfold ww at h;split at h
 ·rename_i x0 x1
  cases h
  have bk:=ki bk
  have hh:=GW x0 x1 bk
  obtain⟨e0,en⟩:=hh
  exact iw rfl (fV en) (by simp only [e0] <;> rfl) rfl rfl
 ·cases h)
def LV(n:Int)(ps:List Int)(t:Int):List Int:=ps.set t.toNat (Int.tmod (ps[t.toNat]?.getD 0 + 1) (3 * n))
def fIn(n:Int)(f:Int×Int×Int):Bool:=inR f.1 0 (IntKind.i64.wrap (n - 1))&&(inR f.2.1 0 1&&inR f.2.2 0 1)
def Lx(f g:Int×Int×Int):Bool:=g.1==f.1&&g.2.1==f.2.1
def fAt(fs:List (Int×Int×Int))(b:Nat):Int×Int×Int:=fs[b]?.getD (0,0,0)
def LS(n:Int)(fs:List (Int×Int×Int))(b:Nat):Bool:= !fIn n (fAt fs b)
def LU(fs:List (Int×Int×Int))(b:Nat):Bool:=(fs.take b).any (Lx (fAt fs b))
def okFs(n:Int)(fs:List (Int×Int×Int)):Bool:=leN fs.length 8&&(List.range fs.length).all fun b=> !(LS n fs b||LU fs b)
def occ(c:Int):Int:=bif ltI c 1 then c else 1
def LX(ch:Int)(l:List Int)(f:Int×Int×Int):List Int:=bif f.2.1==ch then l.set f.1.toNat f.2.2 else l
def Lu(n:Int)(ps:List Int):List Int:=(List.range n.toNat).map fun(b:Nat)=>occ (LR n ps (b:Int):Int)
def KU(n:Int)(ps:List Int)(fs:List (Int×Int×Int))(ch:Int):List Int:=fs.foldl (LX ch) (Lu n ps)
def KV(n:Int)(ps:List Int)(t:Int):Int:=Int.tmod (blk (ps[t.toNat]?.getD 0) + 1) n
def LH(n:Int)(ps a b:List Int)(t:Int):Bool:=phs (ps[t.toNat]?.getD 0)!=1||(a[(KV n ps t).toNat]?.getD 0==0&&b[(KV n ps t).toNat]?.getD 0==0)
def LW(n:Int)(fs:List (Int×Int×Int))(ps:List Int)(t:Int):Bool:=LH n ps (KU n ps fs 0) (KU n ps fs 1) t
def okL(n:Int)(fs:List (Int×Int×Int)):List Int→List Int→Bool
 | [],_=>true
 |t::ts,ps=>LW n fs ps t&&okL n fs ts (LV n ps t)
def gM(x0:List Int):Bool:=ltI 4096 (↑x0.length:Int)
def Dv:List SV→List Entry→Option Out
 | [.one ⟨false,[.ref 0]⟩],[.row false 5 (.int .u8) x0]=>some ⟨.one ⟨false,[.val (.bool (gM x0))]⟩,[.row false 5 Mt x0],[],[]⟩
 |_,_=>none
def Ar:PF prog:=PF.ofG prog [] [] bA 22 f22 func22 (fun c _=>LOk.nil c) Dv (by
 intro vs es r h;unfold Dv at h;split at h
 ·cases h;kernel_rfl
 ·cases h)
abbrev eO:=Int×List Int×Int×Int
section
variable (y0:Int)(y1:List Int)
def mv:Bool:=bif ltI y0 (↑y1.length:Int)then ltI y0 64 else false
def tV:Bool:=leI 0 y0
def tW:Bool:=ltI y0 (↑y1.length:Int)
def tX:Bool:=ltN y0.toNat y1.length
end
def tY:Bool:=neI 2147483647 0
def tZ(y0:Int):Int:=IntKind.wrap .i64 (y0 + (1:Int))
def ua(y0:Int)(y1:List Int)(y3:Int):Int:=Int.tmod (IntKind.wrap .i64 (IntKind.wrap .i64 (y3 * (59:Int)) + IntKind.wrap .i64 (Option.getD y1[Int.toNat y0]? 0))) 2147483647
def zN:eO→List (Nat×SV)
 |(y0,_,_,_)=> [(4,(.one ⟨false,[.val (.int .i64 y0)]⟩)),(0,(.one ⟨false,[.ref 0]⟩)),(3,(.one ⟨false,[.ptr 1 0]⟩))]
def zJ:eO→List (Nat×Entry)
 |(_,y1,y2,y3)=> [(0,(.row false 5 Mt y1)),(1,(.box 139 [.ref 0,.val (.int .i64 y2),.val (.int .i64 y3)]))]
def zV:Nat→eO→List (Nat×SV)
 |_,(_,_,_,_)=> []
def zR:Nat→eO→List (Nat×Entry)
 |_,(_,y1,y2,y3)=> [(0,(.row false 5 Mt y1)),(1,(.box 139 [.ref 0,.val (.int .i64 y2),.val (.int .i64 y3)]))]
def jm:eO→LT eO
 |(y0,y1,y2,y3)=> .ite (mv y0 y1) (.need [tV y0,tW y0 y1,tX y0 y1,tY] (.nrm ((tZ y0),y1,y2,(ua y0 y1 y3)) [(0,0),(1,1)])) (.ext 0 [(0,0),(1,1)])
def pm(s:St):Option eO:=
 (match s.look 4 with
 |some ⟨none,.one ⟨false,[.val (.int .i64 y0)]⟩⟩=>
 (match s.look 0 with
 |some ⟨none,.one ⟨false,[.ref 0]⟩⟩=>
 (match s.look 3 with
 |some ⟨none,.one ⟨false,[.ptr 320 0]⟩⟩=>
 (match s.ent 0 with
 |some (.row false 5 (.int IntKind.u8) y1)=>
 (match s.ent 320 with
 |some (.box 139 [.ref 0,.val (.int .i64 y2),.val (.int .i64 y3)])=>
 some (y0,y1,y2,y3)
 |_=>none)
 |_=>none)
 |_=>none)
 |_=>none)
 |_=>none)
def dr:Lp eO where
 h:=⟨[8,9,10,11,12,13,14,15,18,19,20,21,22,23,24,25,26,27,28,29,30,31,32,16,17,4],[0,1],[],[]⟩
 JL:=zN
 JE:=zJ
 XL:=zV
 XE:=zR
 q:=fun j=>match j with | _=> .exit 0
 tags:= [0]
 lt:=jm
 fuel:=fun(y0,y1,y2,y3)=>y0.natAbs + y1.length + y2.natAbs + y3.natAbs
 fix:=fun(_,y1,y2,_) (y0,_,_,y3)=>(y0,y1,y2,y3)
 σ:= [(0,0),(1,320)]
 rd:=pm
theorem xV:LoopOk prog (fun k=>Nat.blt k Try.f75.ntmps) dr.F (bT f75 0):=by
 refine Lp.ok (tbl:= []) (lf:= []) bA dr (by kernel_rfl) (LOk.nil _) (fun _=>rfl) (fun _ _=>rfl) ?_ ?_ ?_ ?_ (fun _=>rfl) ?_
 ·rintro⟨y0,y1,y2,y3⟩;kernel_rfl
 ·rintro⟨y0,y1,y2,y3⟩;kernel_rfl
 ·intro s x h
  have h:pm s=some x:=h
  unfold pm at h
  repeat' split at h
  all_goals cases h
  constructor<;>repeat(first|refine af (by assumption) rfl ?_|refine aP rfl (by assumption) rfl ?_|exact rfl)
 ·rintro⟨y0,y1,y2,y3⟩;kernel_rfl
 ·rintro⟨y0,y1,y2,y3⟩ z;exact(And.intro rfl trivial)
section
variable (x0:List Int)
def lw:Int×List Int×Int×Int:=((0:Int),x0,(0:Int),(52021:Int))
def mV:Int:=(Lp.res dr (lw x0)).2.2.2.2
def qA:Bool:=allT [Lp.fin dr (lw x0)]
end
def wW:List SV→List Entry→Option Out
 | [.one ⟨false,[.ref 0]⟩],[.row false 5 (.int .u8) x0]=>some ⟨.one ⟨false,[.ptr 1 0]⟩,[.row false 5 Mt x0],[.box 139 [.ref 0,.val (.int .i64 0),.val (.int .i64 (mV x0))]],[qA x0]⟩
 |_,_=>none
def Er:PF prog:=PF.ofG prog [] [dr.F] bA 75 f75 func75 (LOk.fnT (l:= [bT f75 0]) (by kernel_rfl) (.cons xV (.nil _))) wW (by
 intro vs es r h;unfold wW at h;split at h
 ·cases h;kernel_rfl
 ·cases h)
section
variable (x0 x1 x2:Int)(x3:List Int)
def jG:Int:=IntKind.wrap .i64 (x1 + (1:Int))
def lx:Bool:=bif leI x0 256 then Int.tmod (jG x1) 2==0 else false
def jH:Int:=IntKind.wrap .i64 (jG x1 - (1:Int))
def gq:Int:=Int.tmod (IntKind.wrap .i64 (IntKind.wrap .i64 (x2 * (48271:Int)) + (29:Int))) 2147483647
def ck:Int:=bif leI x0 1 then(0:Int)else Int.tmod (bif ltI x1 (↑x3.length:Int)then bif lx x0 x1 then IntKind.wrap .i64 (Option.getD x3[Int.toNat (jH x1)]? 0)else IntKind.wrap .i64 (IntKind.wrap .i64 (Int.tdiv (gq x2) 31) + IntKind.wrap .i64 (Option.getD x3[Int.toNat x1]? 0))else IntKind.wrap .i64 (Int.tdiv (gq x2) 31)) x0
def jq:Int:=bif leI x0 1 then x1 else bif ltI x1 (↑x3.length:Int)then jG x1 else x1
def jr:Int:=bif leI x0 1 then x2 else bif ltI x1 (↑x3.length:Int)then gq x2 else gq x2
def jt:Bool:=allT [leI x0 1||neI 2147483647 0,leI x0 1||neI 31 0,leI x0 1||(!ltI x1 (↑x3.length:Int)||leI 0 x1),leI x0 1||(!ltI x1 (↑x3.length:Int)||ltI x1 (↑x3.length:Int)),leI x0 1||(!ltI x1 (↑x3.length:Int)||ltN x1.toNat x3.length),leI x0 1||(!ltI x1 (↑x3.length:Int)||(!(leI x0 256&&true)||neI 2 0)),leI x0 1||(!ltI x1 (↑x3.length:Int)||(!lx x0 x1||leI 0 (jH x1))),leI x0 1||(!ltI x1 (↑x3.length:Int)||(!lx x0 x1||ltI (jH x1) (↑x3.length:Int))),leI x0 1||(!ltI x1 (↑x3.length:Int)||(!lx x0 x1||ltN (Int.toNat (jH x1)) x3.length)),leI x0 1||neI x0 0]
end
def wX:List SV→List Entry→Option Out
 | [.one ⟨false,[.ptr 0 0]⟩,.one ⟨false,[.val (.int .i64 x0)]⟩],[.box 139 [.ref 1,.val (.int .i64 x1),.val (.int .i64 x2)],.row false 5 (.int .u8) x3]=>some ⟨.one ⟨false,[.val (.int .i64 (ck x0 x1 x2 x3))]⟩,[.box 139 [.ref 1,.val (.int .i64 (jq x0 x1 x3)),.val (.int .i64 (jr x0 x1 x2 x3))],.row false 5 Mt x3],[],[jt x0 x1 x3]⟩
 |_,_=>none
def qs:PF prog:=PF.ofG prog [] [] bA 102 f102 func102 (fun c _=>LOk.nil c) wX (by
 intro vs es r h;unfold wX at h;split at h
 ·cases h;kernel_rfl
 ·cases h)
section
variable (x0 x1:Int)(x2 x3:List Int)
def qB:Int:=Option.getD x2[Int.toNat (ck (↑x2.length:Int) x0 x1 x3)]? 0
def tv:Int:=jq (↑x2.length:Int) x0 x3
def tw:Int:=jr (↑x2.length:Int) x0 x1 x3
def qC:Bool:=allT [jt (↑x2.length:Int) x0 x3,leI 0 (ck (↑x2.length:Int) x0 x1 x3),ltI (ck (↑x2.length:Int) x0 x1 x3) (↑x2.length:Int),ltN (Int.toNat (ck (↑x2.length:Int) x0 x1 x3)) x2.length]
end
def wY:List SV→List Entry→Option Out
 | [.one ⟨false,[.ptr 0 0]⟩,.one ⟨false,[.ref 1]⟩],[.box 139 [.ref 2,.val (.int .i64 x0),.val (.int .i64 x1)],.row false 2 (.int .i64) x2,.row false 5 (.int .u8) x3]=>some ⟨.one ⟨false,[.val (.int .i64 (qB x0 x1 x2 x3))]⟩,[.box 139 [.ref 2,.val (.int .i64 (tv x0 x2 x3)),.val (.int .i64 (tw x0 x1 x2 x3))],.row false 2 Mr x2,.row false 5 Mt x3],[],[qC x0 x1 x2 x3]⟩
 |_,_=>none
def Es:PF prog:=PF.ofG prog (T3z [qs]) [] bA 121 f121 func121 (fun c _=>LOk.nil c) wY (by
 intro vs es r h;unfold wY at h;split at h
 ·cases h;kernel_rfl
 ·cases h)
def bO(a s:Int)(c:List Int):Bool:=(leI 0 a&&leI a 4096)&&((leI 0 s&&ltI s 2147483647)&&(leN c.length 4096&&c.all fun x=>inR x 0 255))
theorem yH{a s:Int}{c:List Int}:bO a s c=true↔(0≤a∧a≤4096)∧(0≤s∧s < 2147483647)∧c.length≤4096∧ ∀ x∈c,0≤x∧x≤255:=by
 simp only [bO,Bool.and_eq_true,Do,Dp,eq,List.all_eq_true,yx]
theorem vu{x n:Int}(h:0≤x)(hn:0 < n):0≤Int.tmod x n∧Int.tmod x n < n:=by
 rw [Int.tmod_eq_emod_of_nonneg h]
 exact⟨Int.emod_nonneg _ (by omega),Int.emod_lt_of_pos _ hn⟩
theorem JJ{code:List Int}(hb: ∀ x∈code,0≤x∧x≤255)(i:Nat):0≤(code[i]?.getD 0)∧(code[i]?.getD 0)≤255:=by
 cases h:code[i]? with
 |none=>simp
 |some x=>exact hb x (List.mem_of_getElem? h)
def nxV(n a s:Int)(c:List Int):Int:=ck n a s c
def nxA(n a:Int)(c:List Int):Int:=jq n a c
def nxS(n a s:Int)(c:List Int):Int:=jr n a s c
theorem Bm(n:Int){a s:Int}{code:List Int}(h:bO a s code=true):
  jt n a code=true∧bO (nxA n a code) (nxS n a s code) code=true∧0≤nxV n a s code∧(1≤n→nxV n a s code < n):=by
 obtain⟨⟨h0,h1⟩,⟨s0,s1⟩,hn,hb⟩:=yH.1 h
 have hw1:IntKind.i64.wrap (s * 48271)=s * 48271:=aN (by omega) (by omega)
 have hw2:IntKind.i64.wrap (s * 48271 + 29)=s * 48271 + 29:=aN (by omega) (by omega)
 have hw3:IntKind.i64.wrap (a + 1)=a + 1:=aN (by omega) (by omega)
 have hw4:IntKind.i64.wrap (a + 1 - 1)=a:=by rw [aN (by omega) (by omega)];omega
 obtain⟨t0,t1⟩:=vu (x:=s * 48271 + 29) (n:=2147483647) (by omega) (by omega)
 have hd0:0≤Int.tdiv (Int.tmod (s * 48271 + 29) 2147483647) 31:=Int.tdiv_nonneg t0 (by omega)
 have hd1:Int.tdiv (Int.tmod (s * 48271 + 29) 2147483647) 31≤2147483647:=by
  rw [Int.tdiv_eq_ediv_of_nonneg t0];omega
 have hw7:IntKind.i64.wrap (Int.tdiv (Int.tmod (s * 48271 + 29) 2147483647) 31)=Int.tdiv (Int.tmod (s * 48271 + 29) 2147483647) 31:=aN (by omega) (by omega)
 have q1:neI 2147483647 0=true:=by decide
 have q2:neI 31 0=true:=by decide
 have q3:neI 2 0=true:=by decide
 simp only [nxA,nxS,nxV]
 by_cases hq:n≤1
 ·have d:leI n 1=true:=cZ hq
  refine⟨by simp [jt,allT,d],?_,by simp [ck,d],fun h=>by simp [ck,d];omega⟩
  simp only [jq,jr,d,cond_true]
  exact h
 ·have d:leI n 1=false:=Bf (by omega)
  have q4:neI n 0=true:=LG (by omega)
  by_cases hl:a < (code.length:Int)
  ·have dl:ltI a (code.length:Int)=true:=jl hl
   obtain⟨c0,c1⟩:=JJ hb a.toNat
   have hw5:IntKind.i64.wrap (code[a.toNat]?.getD 0)=code[a.toNat]?.getD 0:=aN (by omega) (by omega)
   have hw6:IntKind.i64.wrap (Int.tdiv (Int.tmod (s * 48271 + 29) 2147483647) 31 + code[a.toNat]?.getD 0)=Int.tdiv (Int.tmod (s * 48271 + 29) 2147483647) 31 + code[a.toNat]?.getD 0:=aN (by omega) (by omega)
   have dn:ltN a.toNat code.length=true:=mM (by omega)
   have dz:leI 0 a=true:=cZ h0
   have hwa:IntKind.i64.wrap a=a:=aN (by omega) (by omega)
   refine⟨?_,?_,?_⟩
   ·simp [jt,jG,jH,allT,d,dl,dn,hw3,hw4,hwa,dz,q1,q2,q3,q4]
   ·simp only [jq,jr,jG,gq,d,dl,cond_true,cond_false,hw1,hw2,hw3]
    exact yH.2 ⟨⟨by omega,by omega⟩,⟨t0,t1⟩,hn,hb⟩
   ·simp only [ck,lx,jH,jG,gq,d,dl,cond_true,cond_false,hw1,hw2,hw3,hw4,hw5,hw7,hw6]
    cases (bif leI n 256 then Int.tmod (a + 1) 2==0 else false)with
    |true=>
     obtain⟨m0,m1⟩:=vu (x:=code[a.toNat]?.getD 0) (n:=n) c0 (by omega)
     exact⟨m0,fun _=>m1⟩
    |false=>
     obtain⟨m0,m1⟩:=vu (x:=Int.tdiv (Int.tmod (s * 48271 + 29) 2147483647) 31 + code[a.toNat]?.getD 0) (n:=n) (by omega) (by omega)
     exact⟨m0,fun _=>m1⟩
  ·have dl:ltI a (code.length:Int)=false:=CD (by omega)
   refine⟨?_,?_,?_⟩
   ·simp [jt,allT,d,dl,q1,q2,q4]
   ·simp only [jq,jr,gq,d,dl,cond_false,hw1,hw2]
    exact yH.2 ⟨⟨h0,h1⟩,⟨t0,t1⟩,hn,hb⟩
   ·simp only [ck,gq,d,dl,cond_false,hw1,hw2,hw7]
    obtain⟨m0,m1⟩:=vu (x:=Int.tdiv (Int.tmod (s * 48271 + 29) 2147483647) 31) (n:=n) hd0 (by omega)
    exact⟨m0,fun _=>m1⟩
theorem Da(x0 x1 x2:Int)(x3:List Int)(h:bO x1 x2 x3=true):ck x0 x1 x2 x3=nxV x0 x1 x2 x3∧jq x0 x1 x3=nxA x0 x1 x3∧jr x0 x1 x2 x3=nxS x0 x1 x2 x3∧jt x0 x1 x3=true:=⟨rfl,rfl,rfl,(Bm x0 h).1⟩
def xm:List SV→List Entry→Option Out
 | [.one ⟨false,[.ptr 0 0]⟩,.one ⟨false,[.val (.int .i64 x0)]⟩],[.box 139 [.ref 1,.val (.int .i64 x1),.val (.int .i64 x2)],.row false 5 (.int .u8) x3]=>some ⟨.one ⟨false,[.val (.int .i64 (nxV x0 x1 x2 x3))]⟩,[.box 139 [.ref 1,.val (.int .i64 (nxA x0 x1 x3)),.val (.int .i64 (nxS x0 x1 x2 x3))],.row false 5 Mt x3],[],[bO x1 x2 x3]⟩
 |_,_=>none
def bv:PF prog:=PF.alt qs xm (by
 intro args es o h bk;unfold xm at h;split at h
 ·rename_i x0 x1 x2 x3
  cases h
  have bk:=ki bk
  have hh:=Da x0 x1 x2 x3 bk
  obtain⟨e0,e1,e2,en⟩:=hh
  exact iw rfl (fV en) (by simp only [e0] <;> rfl) (by simp only [e1,e2] <;> rfl) rfl
 ·cases h)
def pkV(a s:Int)(l c:List Int):Int:=qB a s l c
def pkA(a:Int)(l c:List Int):Int:=tv a l c
def pkS(a s:Int)(l c:List Int):Int:=tw a s l c
theorem IM{a s:Int}{l code:List Int}(h:(bO a s code&&leN 1 l.length)=true):
  qC a s l code=true∧bO (pkA a l code) (pkS a s l code) code=true∧pkV a s l code∈l:=by
 simp only [Bool.and_eq_true,eq]at h
 obtain⟨n3,n1,n0,nl⟩:=Bm (l.length:Int) h.1
 have nl:=nl (by omega)
 simp only [nxV]at n0 nl
 refine⟨?_,n1,?_⟩
 ·have t1:leI 0 (ck (l.length:Int) a s code)=true:=cZ n0
  have t2:ltI (ck (l.length:Int) a s code) (l.length:Int)=true:=jl nl
  have t3:ltN (ck (l.length:Int) a s code).toNat l.length=true:=mM (by omega)
  simp only [qC,allT,n3,t1,t2,t3,cond_true]
 ·have cH:(ck (l.length:Int) a s code).toNat < l.length:=by omega
  simp only [pkV,qB,List.getElem?_eq_getElem cH,Option.getD_some]
  exact List.getElem_mem cH
theorem Db(x0 x1:Int)(x2 x3:List Int)(h:(bO x0 x1 x3&&leN 1 x2.length)=true):qB x0 x1 x2 x3=pkV x0 x1 x2 x3∧tv x0 x2 x3=pkA x0 x2 x3∧tw x0 x1 x2 x3=pkS x0 x1 x2 x3∧qC x0 x1 x2 x3=true:=⟨rfl,rfl,rfl,(IM h).1⟩
def xo:List SV→List Entry→Option Out
 | [.one ⟨false,[.ptr 0 0]⟩,.one ⟨false,[.ref 1]⟩],[.box 139 [.ref 2,.val (.int .i64 x0),.val (.int .i64 x1)],.row false 2 (.int .i64) x2,.row false 5 (.int .u8) x3]=>some ⟨.one ⟨false,[.val (.int .i64 (pkV x0 x1 x2 x3))]⟩,[.box 139 [.ref 2,.val (.int .i64 (pkA x0 x2 x3)),.val (.int .i64 (pkS x0 x1 x2 x3))],.row false 2 Mr x2,.row false 5 Mt x3],[],[bO x0 x1 x3&&leN 1 x2.length]⟩
 |_,_=>none
def fU:PF prog:=PF.alt Es xo (by
 intro args es o h bk;unfold xo at h;split at h
 ·rename_i x0 x1 x2 x3
  cases h
  have bk:=ki bk
  have hh:=Db x0 x1 x2 x3 bk
  obtain⟨e0,e1,e2,en⟩:=hh
  exact iw rfl (fV en) (by simp only [e0] <;> rfl) (by simp only [e1,e2] <;> rfl) rfl
 ·cases h)
def Jc(b:Int)(a:Nat×Int):Nat ⊕ (Nat×Int):=bif decide (a.1 < 64)then .inr (a.1 + 1,Int.tmod (a.2 * 59 + b) 2147483647)else .inl 0
def frS(c:List Int):Int:=mV c
theorem FU(code:List Int)(h:bO 0 0 code=true):qA code=true∧bO 0 (frS code) code=true:=by
 obtain⟨_,_,hn,hb⟩:=yH.1 h
 have fJ:=yE (lt:=jm) (fun i (a:Nat×Int)=>((i:Int),code,(0:Int),a.2)) Jc 0 (fun i a=>a.1=i∧0≤a.2∧a.2 < 2147483647) code (fun i b a he hI=>⟨?_,fun a' hf=> ?_⟩) (fun a hI=> ?_) code 0 (0,52021) rfl (by simp) (by decide)
 ·have hres:=dr.run fJ (Gd (by simp only [dr];omega))
  have r1:dr.fin ((0:Int),code,(0:Int),(52021:Int))=true:=hres.1
  have r2:dr.res ((0:Int),code,(0:Int),(52021:Int))=_:=hres.2
  have inv: ∀ (r:List Int) (i:Nat) (a:Nat×Int),(∀ x∈r,0≤x∧x≤255)→0≤a.2∧a.2 < 2147483647→0≤(cw Jc 0 r i a).2.2.2∧(cw Jc 0 r i a).2.2.2 < 2147483647:=by
   intro r
   induction r with
   |nil=>intro i a _ h;exact h
   |cons b r ih=>
    intro i a hx h
    simp only [cw,Jc]
    cases decide (a.1 < 64)with
    |false=>exact h
    |true=>
     have hb:=hx b (by simp)
     exact ih _ _ (fun x hm=>hx x (by simp [hm])) (vu (by omega) (by omega))
  obtain⟨q0,q1⟩:=inv code 0 (0,52021) hb (by decide)
  refine⟨by simp [qA,lw,allT,r1],yH.2 ⟨by decide,⟨?_,?_⟩,hn,hb⟩⟩
  ·simp only [frS,mV,lw,r2];exact q0
  ·simp only [frS,mV,lw,r2];exact q1
 ·obtain⟨cH,he⟩:=List.getElem?_eq_some_iff.1 he
  subst he
  obtain⟨h1,h2,h3⟩:=hI
  have hw:=sD cH (by omega)
  obtain⟨c0,c1⟩:=hb code[i] (List.getElem_mem cH)
  have hw1:IntKind.i64.wrap (a.2 * 59)=a.2 * 59:=aN (by omega) (by omega)
  have hw2:IntKind.i64.wrap code[i]=code[i]:=aN (by omega) (by omega)
  have hw3:IntKind.i64.wrap (a.2 * 59 + code[i])=a.2 * 59 + code[i]:=aN (by omega) (by omega)
  have q1:neI 2147483647 0=true:=by decide
  have q2:ltI (i:Int) (code.length:Int)=true:=jl (by omega)
  have q3:leI 0 (i:Int)=true:=cZ (by omega)
  have q4:ltN i code.length=true:=mM cH
  simp only [Jc,h1]
  by_cases h64:i < 64
  ·have d:decide (i < 64)=true:=decide_eq_true h64
   have d':ltI (i:Int) 64=true:=jl (by omega)
   simp [jm,LT.out,allT,mv,tV,tW,tX,tY,tZ,ua,cH,hw,d,d',hw1,hw2,hw3,q1,q2,q3,q4]
  ·have d:decide (i < 64)=false:=decide_eq_false h64
   have d':ltI (i:Int) 64=false:=CD (by omega)
   simp [jm,LT.out,mv,d,d']
 ·simp only [Jc]at hf
  obtain⟨h1,h2,h3⟩:=hI
  obtain⟨c0,c1⟩:=hb b (List.mem_of_getElem? he)
  cases hd:decide (a.1 < 64)with
  |false=>rw [hd]at hf;cases hf
  |true=>
   rw [hd]at hf
   simp only [cond_true,Sum.inr.injEq]at hf
   subst hf
   obtain⟨m0,m1⟩:=vu (x:=a.2 * 59 + b) (n:=2147483647) (by omega) (by omega)
   exact⟨by simp [h1],m0,m1⟩
 ·simp [jm,LT.out,mv]
theorem CZ(x0:List Int)(h:bO 0 0 x0=true):mV x0=frS x0∧qA x0=true:=⟨rfl,(FU x0 h).1⟩
def xl:List SV→List Entry→Option Out
 | [.one ⟨false,[.ref 0]⟩],[.row false 5 (.int .u8) x0]=>some ⟨.one ⟨false,[.ptr 1 0]⟩,[.row false 5 Mt x0],[.box 139 [.ref 0,.val (.int .i64 0),.val (.int .i64 (frS x0))]],[bO 0 0 x0]⟩
 |_,_=>none
def kF:PF prog:=PF.alt Er xl (by
 intro args es o h bk;unfold xl at h;split at h
 ·rename_i x0
  cases h
  have bk:=ki bk
  have hh:=CZ x0 bk
  obtain⟨e0,en⟩:=hh
  exact iw rfl (fV en) rfl rfl (by simp only [e0] <;> rfl)
 ·cases h)
theorem Lp.inv{X:Type}(p:Lp X)(I Q:Nat→X→Prop)
  (hs: ∀ k x,I (k + 1) x→(∃ j,(p.lt x).out=some (.inl j)∧Q j x)∨ ∃ y,(p.lt x).out=some (.inr y)∧I k y)
  (he: ∀ x,I 0 x→ ∃ j,(p.lt x).out=some (.inl j)∧Q j x) (N:Nat) (x:X) (hN:N≤999) (h:I N x):
  p.fin x=true∧ ∃ j y,p.res x=(j,y)∧Q j y:=by
 have fJ: ∀ (k:Nat) (x:X),I k x→ ∃ j y,qZ p.lt (k + 1) x=some (j,y)∧Q j y:=by
  intro k
  induction k with
  |zero=>
   intro x h
   obtain⟨j,h1,h2⟩:=he x h
   exact⟨j,x,BA _ h1,h2⟩
  |succ k ih=>
   intro x h
   rcases hs k x h with⟨j,h1,h2⟩ | ⟨y,h1,h2⟩
   ·exact⟨j,x,BA _ h1,h2⟩
   ·obtain⟨j,z,h3,h4⟩:=ih y h2
    exact⟨j,z,by rw [FB _ h1];exact h3,h4⟩
 obtain⟨j,y,h1,h2⟩:=fJ N x h
 obtain⟨r1,r2⟩:=p.run h1 (Gd (by omega))
 exact⟨r1,j,y,r2,h2⟩
theorem ov{n a s:Int}{c:List Int}(h:bO a s c=true):bO (nxA n a c) (nxS n a s c) c=true:=(Bm n h).2.1
theorem Cs{a s x:Int}{l c:List Int}(h:bO a s c=true):bO (pkA a (x::l) c) (pkS a s (x::l) c) c=true:=(IM (l:=x::l) (by rw [h];rfl)).2.1
theorem El{n a s:Int}{c:List Int}(h:bO a s c=true)(hn:1≤n):0≤nxV n a s c∧nxV n a s c < n:=⟨(Bm n h).2.2.1,(Bm n h).2.2.2 hn⟩
theorem En{C:Type}(x:C)(l:List C):leN 1 (x::l).length=true:=eU (by simp)
def qO(x0:Int):Bool:=iQ x0 0 4294967295
def xc:List SV→List Entry→Option Out
 | [.one ⟨false,[.val (.int .i64 x0)]⟩],[]=>some ⟨.one ⟨false,[.val (.bool (qO x0))]⟩,[],[],[]⟩
 |_,_=>none
def Eu:PF prog:=PF.ofG prog [qr] [] bA 128 f128 func128 (fun c _=>LOk.nil c) xc (by
 intro vs es r h;unfold xc at h;split at h
 ·cases h;kernel_rfl
 ·cases h)
def mU(x0 x1 x2:Int):Bool:=bif bif qO x0 then qO x2 else false then iQ x1 0 255 else false
def rQ:List SV→List Entry→Option Out
 | [.one ⟨true,[.val (.int .i64 x0),.val (.int .i64 x1),.val (.int .i64 x2)]⟩],[]=>some ⟨.one ⟨false,[.val (.bool (mU x0 x1 x2))]⟩,[],[],[]⟩
 |_,_=>none
def yg:PF prog:=PF.ofG prog [Eu,qr] [] bA 82 f82 func82 (fun c _=>LOk.nil c) rQ (by
 intro vs es r h;unfold rQ at h;split at h
 ·cases h;kernel_rfl
 ·cases h)
abbrev fq:=Int×Int×List Int
section
variable (y0 y1:Int)(y2:List Int)
def qN:Int:=IntKind.wrap IntKind.u64 (IntKind.wrap .i64 ((8:Int) * y0))
def mD:List Int:= [IntKind.wrap .i64 (↑(BitVec.toNat (BitVec.ofInt (IntKind.bits IntKind.i64) (Int.fdiv y1 ((2:Int) ^ min (Int.toNat (qN y0)) (IntKind.bits IntKind.i64)))&&& BitVec.ofInt (IntKind.bits IntKind.i64) 255)):Int)]
def rE:Bool:=leI 0 y0
def vo:Bool:=leI 0 (qN y0)
def vp:Bool:=leN (List.length y2 + List.length (mD y0 y1)) 9223372036854775807
def vq:Bool:=leN ((List.length y2 + List.length (mD y0 y1)) * 8) 140737488355328
def vr:Int:=IntKind.wrap .i64 (y0 - (1:Int))
def vt:List Int:=y2++mD y0 y1
end
def AH:fq→List (Nat×SV)
 |(y0,y1,_)=> [(7,(.one ⟨false,[.val (.int .i64 y0)]⟩)),(0,(.one ⟨false,[.ref 0]⟩)),(1,(.one ⟨false,[.val (.int .i64 y1)]⟩))]
def AF:fq→List (Nat×Entry)
 |(_,_,y2)=> [(0,(.row true 2 Mr y2))]
def AM:Nat→fq→List (Nat×SV)
 |_,(_,_,_)=> [(0,(.one ⟨false,[.ref 0]⟩))]
def AK:Nat→fq→List (Nat×Entry)
 |_,(_,_,y2)=> [(0,(.row true 2 Mr y2))]
def qm:fq→LT fq
 |(y0,y1,y2)=> .ite (rE y0) (.need [vo y0,vp y0 y1 y2,vq y0 y1 y2] (.nrm ((vr y0),y1,(vt y0 y1 y2)) [(0,704)])) (.ext 0 [(0,0)])
def qu(s:St):Option fq:=
 (match s.look 7 with
 |some ⟨none,.one ⟨false,[.val (.int .i64 y0)]⟩⟩=>
 (match s.look 0 with
 |some ⟨none,.one ⟨false,[.ref 0]⟩⟩=>
 (match s.look 1 with
 |some ⟨none,.one ⟨false,[.val (.int .i64 y1)]⟩⟩=>
 (match s.ent 0 with
 |some (.row true 2 (.int .i64) y2)=>
 some (y0,y1,y2)
 |_=>none)
 |_=>none)
 |_=>none)
 |_=>none)
def bn:Lp fq where
 h:=⟨[10,11,14,15,16,17,18,19,20,21,22,0,12,13,7],[],[0],[]⟩
 JL:=AH
 JE:=AF
 XL:=AM
 XE:=AK
 q:=fun j=>match j with | _=> .exit 0
 tags:= [0]
 lt:=qm
 fuel:=fun(y0,y1,y2)=>y0.natAbs + y1.natAbs + y2.length
 fix:=fun(_,y1,_) (y0,_,y2)=>(y0,y1,y2)
 σ:= [(0,0)]
 rd:=qu
theorem zf:LoopOk prog (fun k=>Nat.blt k Try.f158.ntmps) bn.F (bT f158 0):=by
 refine Lp.ok (tbl:= []) (lf:= []) bA bn (by kernel_rfl) (LOk.nil _) (fun _=>rfl) (fun _ _=>rfl) ?_ ?_ ?_ ?_ (fun _=>rfl) ?_
 ·rintro⟨y0,y1,y2⟩;kernel_rfl
 ·rintro⟨y0,y1,y2⟩;kernel_rfl
 ·intro s x h
  have h:qu s=some x:=h
  unfold qu at h
  repeat' split at h
  all_goals cases h
  constructor<;>repeat(first|refine af (by assumption) rfl ?_|refine aP rfl (by assumption) rfl ?_|exact rfl)
 ·rintro⟨y0,y1,y2⟩;kernel_rfl
 ·rintro⟨y0,y1,y2⟩ z;exact(And.intro rfl trivial)
section
variable (x0 x1:Int)(x2:List Int)
def kP:Int×Int×List Int:=(IntKind.wrap .i64 (x1 - (1:Int)),x0,x2)
def rM:List Int:=(Lp.res bn (kP x0 x1 x2)).2.2.2
def rN:Bool:=allT [Lp.fin bn (kP x0 x1 x2)]
end
def zn:List SV→List Entry→Option Out
 | [.one ⟨false,[.ref 0]⟩,.one ⟨false,[.val (.int .i64 x0)]⟩,.one ⟨false,[.val (.int .i64 x1)]⟩],[.row true 2 (.int .i64) x2]=>some ⟨.one ⟨false,[.ref 1]⟩,[.gone],[.row true 2 Mr (rM x0 x1 x2)],[rN x0 x1 x2]⟩
 |_,_=>none
def EU:PF prog:=PF.ofG prog [] [bn.F] bA 158 f158 func158 (LOk.fnT (l:= [bT f158 0]) (by kernel_rfl) (.cons zf (.nil _))) zn (by
 intro vs es r h;unfold zn at h;split at h
 ·cases h;kernel_rfl
 ·cases h)
abbrev cN:=Int×Int
def gd(y1:Int):Int:=Int.tmod (IntKind.wrap .i64 (y1 * (2:Int))) 65536
def lX(y0:Int):Bool:=ltI y0 8
def lY:Bool:=neI 65536 0
def lZ(y0:Int):Int:=IntKind.wrap .i64 (y0 + (1:Int))
def gC(y1:Int):Int:=bif leI 32768 y1 then IntKind.wrap .i64 (↑(BitVec.toNat (BitVec.ofInt (IntKind.bits IntKind.i64) (gd y1) ^^^ BitVec.ofInt (IntKind.bits IntKind.i64) 4129)):Int)else gd y1
def vD:cN→List (Nat×SV)
 |(y0,y1)=> [(5,(.one ⟨false,[.val (.int .i64 y0)]⟩)),(3,(.one ⟨false,[.val (.int .i64 y1)]⟩))]
def vA:cN→List (Nat×Entry)
 |(_,_)=> []
def vJ:Nat→cN→List (Nat×SV)
 |_,(y0,y1)=> [(3,(.one ⟨false,[.val (.int .i64 y1)]⟩)),(5,(.one ⟨false,[.val (.int .i64 y0)]⟩))]
def vG:Nat→cN→List (Nat×Entry)
 |_,(_,_)=> []
def kX:cN→LT cN
 |(y0,y1)=> .ite (lX y0) (.need [lY] (.nrm ((lZ y0),(gC y1)) [])) (.ext 0 [])
def la(s:St):Option cN:=
 (match s.look 5 with
 |some ⟨none,.one ⟨false,[.val (.int .i64 y0)]⟩⟩=>
 (match s.look 3 with
 |some ⟨none,.one ⟨false,[.val (.int .i64 y1)]⟩⟩=>
 some (y0,y1)
 |_=>none)
 |_=>none)
def bJ:Lp cN where
 h:=⟨[20,21,24,25,6,26,27,28,3,29,30,31,22,23,5],[],[],[]⟩
 JL:=vD
 JE:=vA
 XL:=vJ
 XE:=vG
 q:=fun j=>match j with | _=> .exit 2
 tags:= [0]
 lt:=kX
 fuel:=fun(y0,y1)=>y0.natAbs + y1.natAbs
 fix:=fun(_,_) (y0,y1)=>(y0,y1)
 σ:= []
 rd:=la
theorem uk:LoopOk prog (memN [7,8,9,10,13,14,15,16,17,18,19,3,5,20,21,24,25,6,26,27,28,29,30,31,22,23,11,12,4]) bJ.F (Gf (bT f88 0) 0):=by
 refine Lp.ok (tbl:= []) (lf:= []) bA bJ (by kernel_rfl) (LOk.nil _) (fun _=>rfl) (fun _ _=>rfl) ?_ ?_ ?_ ?_ (fun _=>rfl) ?_
 ·rintro⟨y0,y1⟩;kernel_rfl
 ·rintro⟨y0,y1⟩;kernel_rfl
 ·intro s x h
  have h:la s=some x:=h
  unfold la at h
  repeat' split at h
  all_goals cases h
  exact⟨af (by assumption) rfl (af (by assumption) rfl (rfl)),rfl⟩
 ·rintro⟨y0,y1⟩;kernel_rfl
 ·rintro⟨y0,y1⟩ z;exact(And.intro rfl trivial)
abbrev dU:=Int×Int×List Int
section
variable (y0 y1:Int)(y2:List Int)
def iG:Int×Int:=((0:Int),IntKind.wrap .i64 (↑(BitVec.toNat (BitVec.ofInt (IntKind.bits IntKind.i64) y1 ^^^ BitVec.ofInt (IntKind.bits IntKind.i64) (IntKind.wrap .i64 ((256:Int) * Option.getD y2[Int.toNat y0]? 0)))):Int))
def lc:Bool:=ltI y0 (↑y2.length:Int)
def po:Bool:=leI 0 y0
def pp:Bool:=ltN y0.toNat y2.length
def pq:Bool:=Lp.fin bJ (iG y0 y1 y2)
def pt:Int:=IntKind.wrap .i64 (y0 + (1:Int))
def pu:Int:=(Lp.res bJ (iG y0 y1 y2)).2.2
end
def yS:dU→List (Nat×SV)
 |(y0,y1,_)=> [(4,(.one ⟨false,[.val (.int .i64 y0)]⟩)),(0,(.one ⟨false,[.ref 0]⟩)),(3,(.one ⟨false,[.val (.int .i64 y1)]⟩))]
def yN:dU→List (Nat×Entry)
 |(_,_,y2)=> [(0,(.row false 2 Mr y2))]
def zc:Nat→dU→List (Nat×SV)
 |_,(_,y1,_)=> [(3,(.one ⟨false,[.val (.int .i64 y1)]⟩))]
def yX:Nat→dU→List (Nat×Entry)
 |_,(_,_,y2)=> [(0,(.row false 2 Mr y2))]
def nZ:dU→LT dU
 |(y0,y1,y2)=> .ite (lc y0 y2) (.need [po y0,lc y0 y2,pp y0 y2] (.need [pq y0 y1 y2] (.nrm ((pt y0),pu y0 y1 y2,y2) [(0,0)]))) (.ext 0 [(0,0)])
def oo(s:St):Option dU:=
 (match s.look 4 with
 |some ⟨none,.one ⟨false,[.val (.int .i64 y0)]⟩⟩=>
 (match s.look 0 with
 |some ⟨none,.one ⟨false,[.ref 0]⟩⟩=>
 (match s.look 3 with
 |some ⟨none,.one ⟨false,[.val (.int .i64 y1)]⟩⟩=>
 (match s.ent 0 with
 |some (.row false 2 (.int .i64) y2)=>
 some (y0,y1,y2)
 |_=>none)
 |_=>none)
 |_=>none)
 |_=>none)
def bV:Lp dU where
 h:=⟨[7,8,9,10,13,14,15,16,17,18,19,3,5,20,21,24,25,6,26,27,28,29,30,31,22,23,11,12,4],[0],[],[]⟩
 JL:=yS
 JE:=yN
 XL:=zc
 XE:=yX
 q:=fun j=>match j with | _=> .exit 0
 tags:= [0]
 lt:=nZ
 fuel:=fun(y0,y1,y2)=>y0.natAbs + y1.natAbs + y2.length
 fix:=fun(_,_,y2) (y0,y1,_)=>(y0,y1,y2)
 σ:= [(0,0)]
 rd:=oo
theorem wN:LoopOk prog (fun k=>Nat.blt k Try.f88.ntmps) bV.F (bT f88 0):=by
 refine Lp.ok (tbl:= []) (lf:= [bJ.F]) bA bV (by kernel_rfl) (LOk.allT (l:= [Gf (bT f88 0) 0]) (by kernel_rfl) (.cons uk (.nil _))) (fun _=>rfl) (fun _ _=>rfl) ?_ ?_ ?_ ?_ (fun _=>rfl) ?_
 ·rintro⟨y0,y1,y2⟩;kernel_rfl
 ·rintro⟨y0,y1,y2⟩;kernel_rfl
 ·intro s x h
  have h:oo s=some x:=h
  unfold oo at h
  repeat' split at h
  all_goals cases h
  constructor<;>repeat(first|refine af (by assumption) rfl ?_|refine aP rfl (by assumption) rfl ?_|exact rfl)
 ·rintro⟨y0,y1,y2⟩;kernel_rfl
 ·rintro⟨y0,y1,y2⟩ z;exact(And.intro rfl trivial)
section
variable (x0:List Int)
def nD:Int×Int×List Int:=((0:Int),(65535:Int),x0)
def sA:Int:=((Lp.res bV (nD x0)).2.2).1
def sB:Bool:=allT [Lp.fin bV (nD x0)]
end
def wq:List SV→List Entry→Option Out
 | [.one ⟨false,[.ref 0]⟩],[.row false 2 (.int .i64) x0]=>some ⟨.one ⟨false,[.val (.int .i64 (sA x0))]⟩,[.row false 2 Mr x0],[],[sB x0]⟩
 |_,_=>none
def Dh:PF prog:=PF.ofG prog [] [bV.F] bA 88 f88 func88 (LOk.fnT (l:= [bT f88 0]) (by kernel_rfl) (.cons wN (.nil _))) wq (by
 intro vs es r h;unfold wq at h;split at h
 ·cases h;kernel_rfl
 ·cases h)
def mK(x0 x1 x2:Int):Bool:=bif bif fI x0 0 4294967295 then fI x2 0 4294967295 else false then fI x1 0 255 else false
def rP:List SV→List Entry→Option Out
 | [.one ⟨true,[.val (.int .i64 x0),.val (.int .i64 x1),.val (.int .i64 x2)]⟩],[]=>some ⟨.one ⟨false,[.val (.bool (mK x0 x1 x2))]⟩,[],[],[]⟩
 |_,_=>none
def yf:PF prog:=PF.ofG prog [rL] [] bA 78 f78 func78 (fun c _=>LOk.nil c) rP (by
 intro vs es r h;unfold rP at h;split at h
 ·cases h;kernel_rfl
 ·cases h)
def Ba(x0:Int):Bool:= !fI x0 0 255
def tG:List SV→List Entry→Option Out
 | [.one ⟨false,[.val (.int .i64 x0)]⟩],[]=>some ⟨.one ⟨false,[.val (.bool (Ba x0))]⟩,[],[],[]⟩
 |_,_=>none
def Bq:PF prog:=PF.ofG prog [rL] [] bA 122 f122 func122 (fun c _=>LOk.nil c) tG (by
 intro vs es r h;unfold tG at h;split at h
 ·cases h;kernel_rfl
 ·cases h)
def ib(x0:Int):Bool:= !fI x0 0 255
def pv:List SV→List Entry→Option Out
 | [.one ⟨false,[.val (.int .i64 x0)]⟩],[]=>some ⟨.one ⟨false,[.val (.bool (ib x0))]⟩,[],[],[]⟩
 |_,_=>none
def pD:PF prog:=PF.ofG prog [rL] [] bA 122 f122 func122 (fun c _=>LOk.nil c) pv (by
 intro vs es r h;unfold pv at h;split at h
 ·cases h;kernel_rfl
 ·cases h)
abbrev ao:=Int×Int×List Int
section
variable (y0 y1:Int)(y2:List Int)
def bB:Bool:=ltI y0 y1
def bC:Bool:=leI 0 y0
def bD:Bool:=ltI y0 (↑y2.length:Int)
def bE:Bool:=ltN y0.toNat y2.length
def bF:Bool:=ib (Option.getD y2[Int.toNat y0]? 0)
def bG:Int:=IntKind.wrap .i64 (y0 + (1:Int))
end
def lB:ao→List (Nat×SV)
 |(y0,y1,_)=> [(8,(.one ⟨false,[.val (.int .i64 y0)]⟩)),(7,(.one ⟨false,[.val (.int .i64 y1)]⟩)),(1,(.one ⟨false,[.val (.func (.func 122) ⟨[]⟩ ⟨[]⟩)]⟩)),(0,(.one ⟨false,[.ref 0]⟩))]
def lA:ao→List (Nat×Entry)
 |(_,_,y2)=> [(0,(.row false 2 Mr y2))]
def lD:Nat→ao→List (Nat×SV)
 |0,(y0,_,_)=> [(4,(.one ⟨false,[.val (.int .i64 y0)]⟩))]
 |_,(_,_,_)=> []
def lC:Nat→ao→List (Nat×Entry)
 |0,(_,_,y2)=> [(0,(.row false 2 Mr y2))]
 |_,(_,_,y2)=> [(0,(.row false 2 Mr y2))]
def bu:ao→LT ao
 |(y0,y1,y2)=> .ite (bB y0 y1) (.need [bC y0,bD y0 y2,bE y0 y2] (.ite (bF y0 y2) (.ext 0 [(0,0)]) (.nrm ((bG y0),y1,y2) [(0,0)]))) (.ext 1 [(0,0)])
def dF(s:St):Option ao:=
 (match s.look 8 with
 |some ⟨none,.one ⟨false,[.val (.int .i64 y0)]⟩⟩=>
 (match s.look 7 with
 |some ⟨none,.one ⟨false,[.val (.int .i64 y1)]⟩⟩=>
 (match s.look 1 with
 |some ⟨none,.one ⟨false,[.val (.func (.func 122) ⟨[]⟩ ⟨[]⟩)]⟩⟩=>
 (match s.look 0 with
 |some ⟨none,.one ⟨false,[.ref 0]⟩⟩=>
 (match s.ent 0 with
 |some (.row false 2 (.int .i64) y2)=>
 some (y0,y1,y2)
 |_=>none)
 |_=>none)
 |_=>none)
 |_=>none)
 |_=>none)
def ae:Lp ao where
 h:=⟨[9,10,5,11,12,13,14,15,16,17,4,18,8],[0],[],[]⟩
 JL:=lB
 JE:=lA
 XL:=lD
 XE:=lC
 q:=fun j=>match j with | 0=> .ret | _=> .exit 0
 tags:= [0,1]
 lt:=bu
 fuel:=fun(y0,y1,y2)=>y0.natAbs + y1.natAbs + y2.length
 fix:=fun(_,y1,y2) (y0,_,_)=>(y0,y1,y2)
 σ:= [(0,0)]
 rd:=dF
theorem kV:LoopOk prog (fun k=>Nat.blt k Try.f135.ntmps) ae.F (bT f135 0):=by
 refine Lp.ok (tbl:= [pD]) (lf:= []) bA ae (by kernel_rfl) (LOk.nil _) (fun _=>rfl) (fun j _=>by unfold ae;match j with | 0=>rfl | _ + 1=>rfl) ?_ ?_ ?_ ?_ (fun _=>rfl) ?_
 ·rintro⟨y0,y1,y2⟩;kernel_rfl
 ·rintro⟨y0,y1,y2⟩;kernel_rfl
 ·intro s x h
  have h:dF s=some x:=h
  unfold dF at h
  repeat' split at h
  all_goals cases h
  constructor<;>repeat(first|refine af (by assumption) rfl ?_|refine aP rfl (by assumption) rfl ?_|exact rfl)
 ·rintro⟨y0,y1,y2⟩;kernel_rfl
 ·rintro⟨y0,y1,y2⟩ z;exact(And.intro (And.intro trivial rfl) trivial)
section
variable (x0:List Int)
def cE:Int×Int×List Int:=((0:Int),(↑x0.length:Int),x0)
def eG:Int:=bif Nat.beq ((Lp.res ae (cE x0)).1) 0 then ((Lp.res ae (cE x0)).2).1else(-1:Int)
def eH:Bool:=allT [Lp.fin ae (cE x0)]
end
def iv:List SV→List Entry→Option Out
 | [.one ⟨false,[.ref 0]⟩,.one ⟨false,[.val (.func (.func 122) ⟨[]⟩ ⟨[]⟩)]⟩],[.row false 2 (.int .i64) x0]=>some ⟨.one ⟨false,[.val (.int .i64 (eG x0))]⟩,[.row false 2 Mr x0],[],[eH x0]⟩
 |_,_=>none
def eF:PF prog:=PF.ofG prog [pD] [ae.F] bA 135 f135 func135 (LOk.fnT (l:= [bT f135 0]) (by kernel_rfl) (.cons kV (.nil _))) iv (by
 intro vs es r h;unfold iv at h;split at h
 ·cases h;kernel_rfl
 ·cases h)
def dM(x0:List Int):Bool:=leI 0 (eG x0)
def dN(x0:List Int):Bool:=allT [eH x0]
def gU:List SV→List Entry→Option Out
 | [.one ⟨false,[.ref 0]⟩,.one ⟨false,[.val (.func (.func 122) ⟨[]⟩ ⟨[]⟩)]⟩],[.row false 2 (.int .i64) x0]=>some ⟨.one ⟨false,[.val (.bool (dM x0))]⟩,[.row false 2 Mr x0],[],[dN x0]⟩
 |_,_=>none
def dL:PF prog:=PF.ofG prog (T3z [eF]) [] bA 99 f99 func99 (fun c _=>LOk.nil c) gU (by
 intro vs es r h;unfold gU at h;split at h
 ·cases h;kernel_rfl
 ·cases h)
def sm(x0:List Int):Bool:=bif leI (↑x0.length:Int) 2000 then !dM x0 else false
def sn(x0:List Int):Bool:=allT [!(leI (↑x0.length:Int) 2000&&true)||dN x0]
def wk:List SV→List Entry→Option Out
 | [.one ⟨false,[.ref 0]⟩],[.row false 2 (.int .i64) x0]=>some ⟨.one ⟨false,[.val (.bool (sm x0))]⟩,[.row false 2 Mr x0],[],[sn x0]⟩
 |_,_=>none
def Dc:PF prog:=PF.ofG prog (T3z [Bq,dL]) [] bA 79 f79 func79 (fun c _=>LOk.nil c) wk (by
 intro vs es r h;unfold wk at h;split at h
 ·cases h;kernel_rfl
 ·cases h)
abbrev eM:=Int×Int×Int×Int×List Int
section
variable (y0 y1 y2 y3:Int)(y4:List Int)
def kU:Int:=IntKind.wrap .i64 ((8:Int) * y0)
def gJ:Int:=IntKind.wrap .i64 (IntKind.wrap .i64 (y2 - (1:Int)) - y0)
def pQ:Bool:=ltI y0 y1
def pR:Bool:=leI 0 (kU y0)
def pS:Bool:=leI 0 (gJ y0 y2)
def pT:Bool:=ltI (gJ y0 y2) (↑y4.length:Int)
def pU:Bool:=ltN (Int.toNat (gJ y0 y2)) y4.length
def pV:Int:=IntKind.wrap .i64 (y0 + (1:Int))
def pW:List Int:=List.set y4 (Int.toNat (gJ y0 y2)) (IntKind.wrap .i64 (↑(BitVec.toNat (BitVec.ofInt (IntKind.bits IntKind.i64) (Int.fdiv y3 ((2:Int) ^ min (Int.toNat (kU y0)) (IntKind.bits IntKind.i64)))&&& BitVec.ofInt (IntKind.bits IntKind.i64) 255)):Int))
end
def zL:eM→List (Nat×SV)
 |(y0,y1,y2,y3,_)=> [(11,(.one ⟨false,[.val (.int .i64 y0)]⟩)),(10,(.one ⟨false,[.val (.int .i64 y1)]⟩)),(5,(.one ⟨false,[.ref 0]⟩)),(1,(.one ⟨false,[.val (.int .i64 y2)]⟩)),(0,(.one ⟨false,[.val (.int .i64 y3)]⟩))]
def zH:eM→List (Nat×Entry)
 |(_,_,_,_,y4)=> [(0,(.row true 2 Mr y4))]
def zT:Nat→eM→List (Nat×SV)
 |_,(_,_,_,_,_)=> []
def zP:Nat→eM→List (Nat×Entry)
 |_,(_,_,_,_,y4)=> [(0,(.row true 2 Mr y4))]
def pe:eM→LT eM
 |(y0,y1,y2,y3,y4)=> .ite (pQ y0 y1) (.need [pR y0,pS y0 y2,pT y0 y2 y4,pU y0 y2 y4] (.nrm ((pV y0),y1,y2,y3,(pW y0 y2 y3 y4)) [(0,0)])) (.ext 0 [(0,0)])
def pj(s:St):Option eM:=
 (match s.look 11 with
 |some ⟨none,.one ⟨false,[.val (.int .i64 y0)]⟩⟩=>
 (match s.look 10 with
 |some ⟨none,.one ⟨false,[.val (.int .i64 y1)]⟩⟩=>
 (match s.look 5 with
 |some ⟨none,.one ⟨false,[.ref 192]⟩⟩=>
 (match s.look 1 with
 |some ⟨none,.one ⟨false,[.val (.int .i64 y2)]⟩⟩=>
 (match s.look 0 with
 |some ⟨none,.one ⟨false,[.val (.int .i64 y3)]⟩⟩=>
 (match s.ent 192 with
 |some (.row true 2 (.int .i64) y4)=>
 some (y0,y1,y2,y3,y4)
 |_=>none)
 |_=>none)
 |_=>none)
 |_=>none)
 |_=>none)
 |_=>none)
def aZ:Lp eM where
 h:=⟨[12,13,6,14,15,16,17,18,19,20,21,22,23,24,25,11],[0],[],[]⟩
 JL:=zL
 JE:=zH
 XL:=zT
 XE:=zP
 q:=fun j=>match j with | _=> .exit 0
 tags:= [0]
 lt:=pe
 fuel:=fun(y0,y1,y2,y3,y4)=>y0.natAbs + y1.natAbs + y2.natAbs + y3.natAbs + y4.length
 fix:=fun(_,y1,y2,y3,_) (y0,_,_,_,y4)=>(y0,y1,y2,y3,y4)
 σ:= [(0,192)]
 rd:=pj
theorem xT:LoopOk prog (fun k=>Nat.blt k Try.f174.ntmps) aZ.F (bT f174 0):=by
 refine Lp.ok (tbl:= []) (lf:= []) bA aZ (by kernel_rfl) (LOk.nil _) (fun _=>rfl) (fun _ _=>rfl) ?_ ?_ ?_ ?_ (fun _=>rfl) ?_
 ·rintro⟨y0,y1,y2,y3,y4⟩;kernel_rfl
 ·rintro⟨y0,y1,y2,y3,y4⟩;kernel_rfl
 ·intro s x h
  have h:pj s=some x:=h
  unfold pj at h
  repeat' split at h
  all_goals cases h
  constructor<;>repeat(first|refine af (by assumption) rfl ?_|refine aP rfl (by assumption) rfl ?_|exact rfl)
 ·rintro⟨y0,y1,y2,y3,y4⟩;kernel_rfl
 ·rintro⟨y0,y1,y2,y3,y4⟩ z;exact(And.intro rfl trivial)
section
variable (x0 x1:Int)
def jD:Int×Int×Int×Int×List Int:=((0:Int),(↑(List.length (List.replicate x1.toNat (0:Int))):Int),x1,x0,List.replicate x1.toNat (0:Int))
def pO:List Int:=(Lp.res aZ (jD x0 x1)).2.2.2.2.2
def pP:Bool:=allT [leI 0 x1,leI x1 x1,leI ((↑(8:Nat):Int) * x1) 281474976710656,leI x1 9223372036854775807,Lp.fin aZ (jD x0 x1)]
end
def wU:List SV→List Entry→Option Out
 | [.one ⟨false,[.val (.int .i64 x0)]⟩,.one ⟨false,[.val (.int .i64 x1)]⟩],[]=>some ⟨.one ⟨false,[.ref 0]⟩,[],[.row true 2 Mr (pO x0 x1)],[pP x0 x1]⟩
 |_,_=>none
def Eq:PF prog:=PF.ofG prog [] [aZ.F] bA 174 f174 func174 (LOk.fnT (l:= [bT f174 0]) (by kernel_rfl) (.cons xT (.nil _))) wU (by
 intro vs es r h;unfold wU at h;split at h
 ·cases h;kernel_rfl
 ·cases h)
abbrev cM:=Int×Int
section
variable (y0 y1:Int)
def em:Int:=IntKind.wrap .i64 (y1 * (2:Int))
def lI:Bool:=ltI y0 8
def lJ:Bool:= !leI 65536 (em y1)||neI 65536 0
def lK:Int:=IntKind.wrap .i64 (y0 + (1:Int))
def aQ:Int:=bif leI 65536 (em y1)then IntKind.wrap .i64 (↑(BitVec.toNat (BitVec.ofInt (IntKind.bits IntKind.i64) (Int.tmod (em y1) 65536) ^^^ BitVec.ofInt (IntKind.bits IntKind.i64) 4129)):Int)else em y1
end
def vC:cM→List (Nat×SV)
 |(y0,y1)=> [(16,(.one ⟨false,[.val (.int .i64 y0)]⟩)),(3,(.one ⟨false,[.val (.int .i64 y1)]⟩))]
def vz:cM→List (Nat×Entry)
 |(_,_)=> []
def vI:Nat→cM→List (Nat×SV)
 |_,(y0,y1)=> [(3,(.one ⟨false,[.val (.int .i64 y1)]⟩)),(16,(.one ⟨false,[.val (.int .i64 y0)]⟩))]
def vF:Nat→cM→List (Nat×Entry)
 |_,(_,_)=> []
def kW:cM→LT cM
 |(y0,y1)=> .ite (lI y0) (.need [lJ y1] (.nrm ((lK y0),(aQ y1)) [])) (.ext 0 [])
def kZ(s:St):Option cM:=
 (match s.look 16 with
 |some ⟨none,.one ⟨false,[.val (.int .i64 y0)]⟩⟩=>
 (match s.look 3 with
 |some ⟨none,.one ⟨false,[.val (.int .i64 y1)]⟩⟩=>
 some (y0,y1)
 |_=>none)
 |_=>none)
def bI:Lp cM where
 h:=⟨[17,18,19,3,20,21,22,23,24,25,16],[],[],[]⟩
 JL:=vC
 JE:=vz
 XL:=vI
 XE:=vF
 q:=fun j=>match j with | _=> .exit 2
 tags:= [0]
 lt:=kW
 fuel:=fun(y0,y1)=>y0.natAbs + y1.natAbs
 fix:=fun(_,_) (y0,y1)=>(y0,y1)
 σ:= []
 rd:=kZ
theorem uj:LoopOk prog (memN [9,10,11,5,12,13,14,15,3,16,17,18,19,20,21,22,23,24,25,26,8]) bI.F (Gf (bT f87 0) 0):=by
 refine Lp.ok (tbl:= []) (lf:= []) bA bI (by kernel_rfl) (LOk.nil _) (fun _=>rfl) (fun _ _=>rfl) ?_ ?_ ?_ ?_ (fun _=>rfl) ?_
 ·rintro⟨y0,y1⟩;kernel_rfl
 ·rintro⟨y0,y1⟩;kernel_rfl
 ·intro s x h
  have h:kZ s=some x:=h
  unfold kZ at h
  repeat' split at h
  all_goals cases h
  exact⟨af (by assumption) rfl (af (by assumption) rfl (rfl)),rfl⟩
 ·rintro⟨y0,y1⟩;kernel_rfl
 ·rintro⟨y0,y1⟩ z;exact(And.intro rfl trivial)
abbrev dR:=Int×Int×Int×List Int
section
variable (y0 y1 y2:Int)(y3:List Int)
def iy:Int×Int:=((0:Int),IntKind.wrap .i64 (↑(BitVec.toNat (BitVec.ofInt (IntKind.bits IntKind.i64) y2 ^^^ BitVec.ofInt (IntKind.bits IntKind.i64) (IntKind.wrap .i64 ((256:Int) * Option.getD y3[Int.toNat y0]? 0)))):Int))
def oR:Bool:=ltI y0 y1
def oS:Bool:=leI 0 y0
def oT:Bool:=ltI y0 (↑y3.length:Int)
def oU:Bool:=ltN y0.toNat y3.length
def oV:Bool:=Lp.fin bI (iy y0 y2 y3)
def oW:Int:=IntKind.wrap .i64 (y0 + (1:Int))
def oX:Int:=(Lp.res bI (iy y0 y2 y3)).2.2
end
def yO:dR→List (Nat×SV)
 |(y0,y1,y2,_)=> [(8,(.one ⟨false,[.val (.int .i64 y0)]⟩)),(7,(.one ⟨false,[.val (.int .i64 y1)]⟩)),(6,(.one ⟨false,[.ref 0]⟩)),(3,(.one ⟨false,[.val (.int .i64 y2)]⟩))]
def yJ:dR→List (Nat×Entry)
 |(_,_,_,y3)=> [(0,(.row false 2 Mr y3))]
def yY:Nat→dR→List (Nat×SV)
 |_,(_,_,y2,_)=> [(3,(.one ⟨false,[.val (.int .i64 y2)]⟩))]
def yT:Nat→dR→List (Nat×Entry)
 |_,(_,_,_,y3)=> [(0,(.row false 2 Mr y3))]
def nX:dR→LT dR
 |(y0,y1,y2,y3)=> .ite (oR y0 y1) (.need [oS y0,oT y0 y3,oU y0 y3] (.need [oV y0 y2 y3] (.nrm ((oW y0),y1,oX y0 y2 y3,y3) [(0,0)]))) (.ext 0 [(0,0)])
def oi(s:St):Option dR:=
 (match s.look 8 with
 |some ⟨none,.one ⟨false,[.val (.int .i64 y0)]⟩⟩=>
 (match s.look 7 with
 |some ⟨none,.one ⟨false,[.val (.int .i64 y1)]⟩⟩=>
 (match s.look 6 with
 |some ⟨none,.one ⟨false,[.ref 0]⟩⟩=>
 (match s.look 3 with
 |some ⟨none,.one ⟨false,[.val (.int .i64 y2)]⟩⟩=>
 (match s.ent 0 with
 |some (.row false 2 (.int .i64) y3)=>
 some (y0,y1,y2,y3)
 |_=>none)
 |_=>none)
 |_=>none)
 |_=>none)
 |_=>none)
def bU:Lp dR where
 h:=⟨[9,10,11,5,12,13,14,15,3,16,17,18,19,20,21,22,23,24,25,26,8],[0],[],[]⟩
 JL:=yO
 JE:=yJ
 XL:=yY
 XE:=yT
 q:=fun j=>match j with | _=> .exit 0
 tags:= [0]
 lt:=nX
 fuel:=fun(y0,y1,y2,y3)=>y0.natAbs + y1.natAbs + y2.natAbs + y3.length
 fix:=fun(_,y1,_,y3) (y0,_,y2,_)=>(y0,y1,y2,y3)
 σ:= [(0,0)]
 rd:=oi
theorem wJ:LoopOk prog (fun k=>Nat.blt k Try.f87.ntmps) bU.F (bT f87 0):=by
 refine Lp.ok (tbl:= []) (lf:= [bI.F]) bA bU (by kernel_rfl) (LOk.allT (l:= [Gf (bT f87 0) 0]) (by kernel_rfl) (.cons uj (.nil _))) (fun _=>rfl) (fun _ _=>rfl) ?_ ?_ ?_ ?_ (fun _=>rfl) ?_
 ·rintro⟨y0,y1,y2,y3⟩;kernel_rfl
 ·rintro⟨y0,y1,y2,y3⟩;kernel_rfl
 ·intro s x h
  have h:oi s=some x:=h
  unfold oi at h
  repeat' split at h
  all_goals cases h
  constructor<;>repeat(first|refine af (by assumption) rfl ?_|refine aP rfl (by assumption) rfl ?_|exact rfl)
 ·rintro⟨y0,y1,y2,y3⟩;kernel_rfl
 ·rintro⟨y0,y1,y2,y3⟩ z;exact(And.intro rfl trivial)
section
variable (x0:List Int)
def nu:Int×Int×Int×List Int:=((0:Int),(↑x0.length:Int),(65535:Int),x0)
def sq:Int:=((Lp.res bU (nu x0)).2.2.2).1
def sr:Bool:=allT [Lp.fin bU (nu x0)]
end
def wl:List SV→List Entry→Option Out
 | [.one ⟨false,[.ref 0]⟩],[.row false 2 (.int .i64) x0]=>some ⟨.one ⟨false,[.val (.int .i64 (sq x0))]⟩,[.row false 2 Mr x0],[],[sr x0]⟩
 |_,_=>none
def Dd:PF prog:=PF.ofG prog [] [bU.F] bA 87 f87 func87 (LOk.fnT (l:= [bT f87 0]) (by kernel_rfl) (.cons wJ (.nil _))) wl (by
 intro vs es r h;unfold wl at h;split at h
 ·cases h;kernel_rfl
 ·cases h)
abbrev dS:=Int×Int×Int×List Int
section
variable (y0 y1 y2:Int)(y3:List Int)
def oY:Bool:=ltI y0 y1
def oZ:Bool:=leI 0 y0
def pa:Bool:=ltI y0 (↑y3.length:Int)
def pb:Bool:=ltN y0.toNat y3.length
def pc:Int:=IntKind.wrap .i64 (y0 + (1:Int))
def pd:Int:=IntKind.wrap .i64 (IntKind.wrap .i64 ((256:Int) * y2) + Option.getD y3[Int.toNat y0]? 0)
end
def yP:dS→List (Nat×SV)
 |(y0,y1,y2,_)=> [(8,(.one ⟨false,[.val (.int .i64 y0)]⟩)),(7,(.one ⟨false,[.val (.int .i64 y1)]⟩)),(6,(.one ⟨false,[.ref 0]⟩)),(3,(.one ⟨false,[.val (.int .i64 y2)]⟩))]
def yK:dS→List (Nat×Entry)
 |(_,_,_,y3)=> [(0,(.row false 2 Mr y3))]
def yZ:Nat→dS→List (Nat×SV)
 |_,(_,_,y2,_)=> [(3,(.one ⟨false,[.val (.int .i64 y2)]⟩))]
def yU:Nat→dS→List (Nat×Entry)
 |_,(_,_,_,y3)=> [(0,(.row false 2 Mr y3))]
def nY:dS→LT dS
 |(y0,y1,y2,y3)=> .ite (oY y0 y1) (.need [oZ y0,pa y0 y3,pb y0 y3] (.nrm ((pc y0),y1,pd y0 y2 y3,y3) [(0,0)])) (.ext 0 [(0,0)])
def oj(s:St):Option dS:=
 (match s.look 8 with
 |some ⟨none,.one ⟨false,[.val (.int .i64 y0)]⟩⟩=>
 (match s.look 7 with
 |some ⟨none,.one ⟨false,[.val (.int .i64 y1)]⟩⟩=>
 (match s.look 6 with
 |some ⟨none,.one ⟨false,[.ref 0]⟩⟩=>
 (match s.look 3 with
 |some ⟨none,.one ⟨false,[.val (.int .i64 y2)]⟩⟩=>
 (match s.ent 0 with
 |some (.row false 2 (.int .i64) y3)=>
 some (y0,y1,y2,y3)
 |_=>none)
 |_=>none)
 |_=>none)
 |_=>none)
 |_=>none)
def cu:Lp dS where
 h:=⟨[9,10,11,5,12,13,14,15,3,16,8],[0],[],[]⟩
 JL:=yP
 JE:=yK
 XL:=yZ
 XE:=yU
 q:=fun j=>match j with | _=> .exit 0
 tags:= [0]
 lt:=nY
 fuel:=fun(y0,y1,y2,y3)=>y0.natAbs + y1.natAbs + y2.natAbs + y3.length
 fix:=fun(_,y1,_,y3) (y0,_,y2,_)=>(y0,y1,y2,y3)
 σ:= [(0,0)]
 rd:=oj
theorem wK:LoopOk prog (fun k=>Nat.blt k Try.f152.ntmps) cu.F (bT f152 0):=by
 refine Lp.ok (tbl:= []) (lf:= []) bA cu (by kernel_rfl) (LOk.nil _) (fun _=>rfl) (fun _ _=>rfl) ?_ ?_ ?_ ?_ (fun _=>rfl) ?_
 ·rintro⟨y0,y1,y2,y3⟩;kernel_rfl
 ·rintro⟨y0,y1,y2,y3⟩;kernel_rfl
 ·intro s x h
  have h:oj s=some x:=h
  unfold oj at h
  repeat' split at h
  all_goals cases h
  constructor<;>repeat(first|refine af (by assumption) rfl ?_|refine aP rfl (by assumption) rfl ?_|exact rfl)
 ·rintro⟨y0,y1,y2,y3⟩;kernel_rfl
 ·rintro⟨y0,y1,y2,y3⟩ z;exact(And.intro rfl trivial)
section
variable (x0:List Int)
def nv:Int×Int×Int×List Int:=((0:Int),(↑x0.length:Int),(0:Int),x0)
def ss:Int:=((Lp.res cu (nv x0)).2.2.2).1
def su:Bool:=allT [Lp.fin cu (nv x0)]
end
def wm:List SV→List Entry→Option Out
 | [.one ⟨false,[.ref 0]⟩],[.row false 2 (.int .i64) x0]=>some ⟨.one ⟨false,[.val (.int .i64 (ss x0))]⟩,[.row false 2 Mr x0],[],[su x0]⟩
 |_,_=>none
def De:PF prog:=PF.ofG prog [] [cu.F] bA 152 f152 func152 (LOk.fnT (l:= [bT f152 0]) (by kernel_rfl) (.cons wK (.nil _))) wm (by
 intro vs es r h;unfold wm at h;split at h
 ·cases h;kernel_rfl
 ·cases h)
def lL(x0:Int):Bool:=fI x0 0 99
def rb:List SV→List Entry→Option Out
 | [.one ⟨false,[.val (.int .i64 x0)]⟩],[]=>some ⟨.one ⟨false,[.val (.bool (lL x0))]⟩,[],[],[]⟩
 |_,_=>none
def wQ:PF prog:=PF.ofG prog [rL] [] bA 153 f153 func153 (fun c _=>LOk.nil c) rb (by
 intro vs es r h;unfold rb at h;split at h
 ·cases h;kernel_rfl
 ·cases h)
abbrev aJ:=Int×Int×List Int×List Int
section
variable (y0 y1:Int)(y2 y3:List Int)
def df:Bool:=ltI y0 y1
def cn:Bool:=leI 0 y0
def dg:Bool:=ltI y0 (↑y2.length:Int)
def dh:Bool:=ltN y0.toNat y2.length
def di:Bool:=ltI y0 (↑y3.length:Int)
def dj:Bool:=ltN y0.toNat y3.length
def dk:Bool:=Option.getD y2[Int.toNat y0]? 0!=Option.getD y3[Int.toNat y0]? 0
def dm:Int:=IntKind.wrap .i64 (y0 + (1:Int))
end
def rl:aJ→List (Nat×SV)
 |(y0,y1,_,_)=> [(13,(.one ⟨false,[.val (.int .i64 y0)]⟩)),(12,(.one ⟨false,[.val (.int .i64 y1)]⟩)),(0,(.one ⟨false,[.ref 0]⟩)),(1,(.one ⟨false,[.ref 1]⟩))]
def rk:aJ→List (Nat×Entry)
 |(_,_,y2,y3)=> [(0,(.row false 2 Mr y2)),(1,(.row false 2 Mr y3))]
def rn:Nat→aJ→List (Nat×SV)
 |0,(_,_,_,_)=> [(4,(.one ⟨false,[.val (.bool false)]⟩))]
 |_,(_,_,_,_)=> []
def rm:Nat→aJ→List (Nat×Entry)
 |0,(_,_,y2,y3)=> [(0,(.row false 2 Mr y2)),(1,(.row false 2 Mr y3))]
 |_,(_,_,y2,y3)=> [(0,(.row false 2 Mr y2)),(1,(.row false 2 Mr y3))]
def cS:aJ→LT aJ
 |(y0,y1,y2,y3)=> .ite (df y0 y1) (.need [cn y0,dg y0 y2,dh y0 y2,cn y0,di y0 y3,dj y0 y3] (.ite (dk y0 y2 y3) (.ext 0 [(0,0),(1,1)]) (.nrm ((dm y0),y1,y2,y3) [(0,0),(1,1)]))) (.ext 1 [(0,0),(1,1)])
def gQ(s:St):Option aJ:=
 (match s.look 13 with
 |some ⟨none,.one ⟨false,[.val (.int .i64 y0)]⟩⟩=>
 (match s.look 12 with
 |some ⟨none,.one ⟨false,[.val (.int .i64 y1)]⟩⟩=>
 (match s.look 0 with
 |some ⟨none,.one ⟨false,[.ref 0]⟩⟩=>
 (match s.look 1 with
 |some ⟨none,.one ⟨false,[.ref 1]⟩⟩=>
 (match s.ent 0 with
 |some (.row false 2 (.int .i64) y2)=>
 (match s.ent 1 with
 |some (.row false 2 (.int .i64) y3)=>
 some (y0,y1,y2,y3)
 |_=>none)
 |_=>none)
 |_=>none)
 |_=>none)
 |_=>none)
 |_=>none)
def ak:Lp aJ where
 h:=⟨[14,15,5,16,17,18,19,20,21,22,23,24,4,25,13],[0,1],[],[]⟩
 JL:=rl
 JE:=rk
 XL:=rn
 XE:=rm
 q:=fun j=>match j with | 0=> .ret | _=> .exit 0
 tags:= [0,1]
 lt:=cS
 fuel:=fun(y0,y1,y2,y3)=>y0.natAbs + y1.natAbs + y2.length + y3.length
 fix:=fun(_,y1,y2,y3) (y0,_,_,_)=>(y0,y1,y2,y3)
 σ:= [(0,0),(1,1)]
 rd:=gQ
theorem qk:LoopOk prog (fun k=>Nat.blt k Try.f154.ntmps) ak.F (bT f154 0):=by
 refine Lp.ok (tbl:= []) (lf:= []) bA ak (by kernel_rfl) (LOk.nil _) (fun _=>rfl) (fun j _=>by unfold ak;match j with | 0=>rfl | _ + 1=>rfl) ?_ ?_ ?_ ?_ (fun _=>rfl) ?_
 ·rintro⟨y0,y1,y2,y3⟩;kernel_rfl
 ·rintro⟨y0,y1,y2,y3⟩;kernel_rfl
 ·intro s x h
  have h:gQ s=some x:=h
  unfold gQ at h
  repeat' split at h
  all_goals cases h
  constructor<;>repeat(first|refine af (by assumption) rfl ?_|refine aP rfl (by assumption) rfl ?_|exact rfl)
 ·rintro⟨y0,y1,y2,y3⟩;kernel_rfl
 ·rintro⟨y0,y1,y2,y3⟩ z;exact(And.intro (And.intro trivial rfl) trivial)
section
variable (x0 x1:List Int)
def fD:Bool:=(↑x0.length:Int)!=(↑x1.length:Int)
def fE:Int×Int×List Int×List Int:=((0:Int),(↑x0.length:Int),x0,x1)
def fZ:Bool:=bif fD x0 x1 then false else bif Nat.beq ((Lp.res ak (fE x0 x1)).1) 0 then false else true
def gc:Bool:=allT [fD x0 x1||Lp.fin ak (fE x0 x1)]
end
def mF:List SV→List Entry→Option Out
 | [.one ⟨false,[.ref 0]⟩,.one ⟨false,[.ref 1]⟩],[.row false 2 (.int .i64) x0,.row false 2 (.int .i64) x1]=>some ⟨.one ⟨false,[.val (.bool (fZ x0 x1))]⟩,[.row false 2 Mr x0,.row false 2 Mr x1],[],[gc x0 x1]⟩
 |_,_=>none
def tq:PF prog:=PF.ofG prog [] [ak.F] bA 154 f154 func154 (LOk.fnT (l:= [bT f154 0]) (by kernel_rfl) (.cons qk (.nil _))) mF (by
 intro vs es r h;unfold mF at h;split at h
 ·cases h;kernel_rfl
 ·cases h)
abbrev cB:=Int×List Int
section
variable (y0:Int)(y1:List Int)
def gT:Bool:=ltI y0 (↑y1.length:Int)
def ju:Bool:=leI 0 y0
def jv:Bool:=ltN y0.toNat y1.length
def jw:Bool:= !iQ (Option.getD y1[Int.toNat y0]? 0) 0 255
def jx:Int:=IntKind.wrap .i64 (y0 + (1:Int))
end
def yR:cB→List (Nat×SV)
 |(y0,_)=> [(3,(.one ⟨false,[.val (.int .i64 y0)]⟩)),(0,(.one ⟨false,[.ref 0]⟩))]
def yM:cB→List (Nat×Entry)
 |(_,y1)=> [(0,(.row false 2 Mr y1))]
def zb:Nat→cB→List (Nat×SV)
 |0,(_,_)=> [(2,(.one ⟨false,[.val (.bool false)]⟩))]
 |_,(_,_)=> []
def yW:Nat→cB→List (Nat×Entry)
 |0,(_,y1)=> [(0,(.row false 2 Mr y1))]
 |_,(_,y1)=> [(0,(.row false 2 Mr y1))]
def iB:cB→LT cB
 |(y0,y1)=> .ite (gT y0 y1) (.need [ju y0,gT y0 y1,jv y0 y1] (.ite (jw y0 y1) (.ext 0 [(0,0)]) (.nrm ((jx y0),y1) [(0,0)]))) (.ext 1 [(0,0)])
def om(s:St):Option cB:=
 (match s.look 3 with
 |some ⟨none,.one ⟨false,[.val (.int .i64 y0)]⟩⟩=>
 (match s.look 0 with
 |some ⟨none,.one ⟨false,[.ref 0]⟩⟩=>
 (match s.ent 0 with
 |some (.row false 2 (.int .i64) y1)=>
 some (y0,y1)
 |_=>none)
 |_=>none)
 |_=>none)
def bc:Lp cB where
 h:=⟨[7,8,9,10,13,14,15,16,17,18,2,11,12,3],[0],[],[]⟩
 JL:=yR
 JE:=yM
 XL:=zb
 XE:=yW
 q:=fun j=>match j with | 0=> .ret | _=> .exit 0
 tags:= [0,1]
 lt:=iB
 fuel:=fun(y0,y1)=>y0.natAbs + y1.length
 fix:=fun(_,y1) (y0,_)=>(y0,y1)
 σ:= [(0,0)]
 rd:=om
theorem wM:LoopOk prog (fun k=>Nat.blt k Try.f83.ntmps) bc.F (bT f83 0):=by
 refine Lp.ok (tbl:= [qr]) (lf:= []) bA bc (by kernel_rfl) (LOk.nil _) (fun _=>rfl) (fun j _=>by unfold bc;match j with | 0=>rfl | _ + 1=>rfl) ?_ ?_ ?_ ?_ (fun _=>rfl) ?_
 ·rintro⟨y0,y1⟩;kernel_rfl
 ·rintro⟨y0,y1⟩;kernel_rfl
 ·intro s x h
  have h:om s=some x:=h
  unfold om at h
  repeat' split at h
  all_goals cases h
  constructor<;>repeat(first|refine af (by assumption) rfl ?_|refine aP rfl (by assumption) rfl ?_|exact rfl)
 ·rintro⟨y0,y1⟩;kernel_rfl
 ·rintro⟨y0,y1⟩ z;exact(And.intro (And.intro trivial rfl) trivial)
def sy(x0:List Int):Bool:=bif ltI 2000 (↑x0.length:Int)then false else bif Nat.beq ((Lp.res bc ((0:Int),x0)).1) 0 then false else true
def sz(x0:List Int):Bool:=allT [ltI 2000 (↑x0.length:Int)||Lp.fin bc ((0:Int),x0)]
def wo:List SV→List Entry→Option Out
 | [.one ⟨false,[.ref 0]⟩],[.row false 2 (.int .i64) x0]=>some ⟨.one ⟨false,[.val (.bool (sy x0))]⟩,[.row false 2 Mr x0],[],[sz x0]⟩
 |_,_=>none
def Dg:PF prog:=PF.ofG prog [qr] [bc.F] bA 83 f83 func83 (LOk.fnT (l:= [bT f83 0]) (by kernel_rfl) (.cons wM (.nil _))) wo (by
 intro vs es r h;unfold wo at h;split at h
 ·cases h;kernel_rfl
 ·cases h)
abbrev fo:=Int×Int×Int×Int×List Int
section
variable (y0 y1 y2 y3:Int)(y4:List Int)
def rC:Bool:=ltI y0 (IntKind.wrap .i64 (y1 + y2))
def vj:Bool:=leI 0 y0
def vk:Bool:=ltI y0 (↑y4.length:Int)
def vl:Bool:=ltN y0.toNat y4.length
def vm:Int:=IntKind.wrap .i64 (y0 + (1:Int))
def vn:Int:=IntKind.wrap .i64 (IntKind.wrap .i64 ((256:Int) * y3) + Option.getD y4[Int.toNat y0]? 0)
end
def AG:fo→List (Nat×SV)
 |(y0,y1,y2,y3,_)=> [(8,(.one ⟨false,[.val (.int .i64 y0)]⟩)),(1,(.one ⟨false,[.val (.int .i64 y1)]⟩)),(2,(.one ⟨false,[.val (.int .i64 y2)]⟩)),(7,(.one ⟨false,[.val (.int .i64 y3)]⟩)),(0,(.one ⟨false,[.ref 0]⟩))]
def AE:fo→List (Nat×Entry)
 |(_,_,_,_,y4)=> [(0,(.row false 2 Mr y4))]
def AL:Nat→fo→List (Nat×SV)
 |_,(_,_,_,y3,_)=> [(7,(.one ⟨false,[.val (.int .i64 y3)]⟩))]
def AJ:Nat→fo→List (Nat×Entry)
 |_,(_,_,_,_,y4)=> [(0,(.row false 2 Mr y4))]
def ql:fo→LT fo
 |(y0,y1,y2,y3,y4)=> .ite (rC y0 y1 y2) (.need [vj y0,vk y0 y4,vl y0 y4] (.nrm ((vm y0),y1,y2,vn y0 y3 y4,y4) [(0,0)])) (.ext 0 [(0,0)])
def qt(s:St):Option fo:=
 (match s.look 8 with
 |some ⟨none,.one ⟨false,[.val (.int .i64 y0)]⟩⟩=>
 (match s.look 1 with
 |some ⟨none,.one ⟨false,[.val (.int .i64 y1)]⟩⟩=>
 (match s.look 2 with
 |some ⟨none,.one ⟨false,[.val (.int .i64 y2)]⟩⟩=>
 (match s.look 7 with
 |some ⟨none,.one ⟨false,[.val (.int .i64 y3)]⟩⟩=>
 (match s.look 0 with
 |some ⟨none,.one ⟨false,[.ref 0]⟩⟩=>
 (match s.ent 0 with
 |some (.row false 2 (.int .i64) y4)=>
 some (y0,y1,y2,y3,y4)
 |_=>none)
 |_=>none)
 |_=>none)
 |_=>none)
 |_=>none)
 |_=>none)
def da:Lp fo where
 h:=⟨[10,11,12,13,14,17,18,19,20,21,22,23,7,15,16,8],[0],[],[]⟩
 JL:=AG
 JE:=AE
 XL:=AL
 XE:=AJ
 q:=fun j=>match j with | _=> .exit 0
 tags:= [0]
 lt:=ql
 fuel:=fun(y0,y1,y2,y3,y4)=>y0.natAbs + y1.natAbs + y2.natAbs + y3.natAbs + y4.length
 fix:=fun(_,y1,y2,_,y4) (y0,_,_,y3,_)=>(y0,y1,y2,y3,y4)
 σ:= [(0,0)]
 rd:=qt
theorem ze:LoopOk prog (fun k=>Nat.blt k Try.f155.ntmps) da.F (bT f155 0):=by
 refine Lp.ok (tbl:= []) (lf:= []) bA da (by kernel_rfl) (LOk.nil _) (fun _=>rfl) (fun _ _=>rfl) ?_ ?_ ?_ ?_ (fun _=>rfl) ?_
 ·rintro⟨y0,y1,y2,y3,y4⟩;kernel_rfl
 ·rintro⟨y0,y1,y2,y3,y4⟩;kernel_rfl
 ·intro s x h
  have h:qt s=some x:=h
  unfold qt at h
  repeat' split at h
  all_goals cases h
  constructor<;>repeat(first|refine af (by assumption) rfl ?_|refine aP rfl (by assumption) rfl ?_|exact rfl)
 ·rintro⟨y0,y1,y2,y3,y4⟩;kernel_rfl
 ·rintro⟨y0,y1,y2,y3,y4⟩ z;exact(And.intro rfl trivial)
section
variable (x0 x1:Int)(x2:List Int)
def qM:Int×Int×Int×Int×List Int:=(x0,x0,x1,(0:Int),x2)
def uv:Int:=((Lp.res da (qM x0 x1 x2)).2.2.2.2).1
def uw:Bool:=allT [Lp.fin da (qM x0 x1 x2)]
end
def zm:List SV→List Entry→Option Out
 | [.one ⟨false,[.ref 0]⟩,.one ⟨false,[.val (.int .i64 x0)]⟩,.one ⟨false,[.val (.int .i64 x1)]⟩],[.row false 2 (.int .i64) x2]=>some ⟨.one ⟨false,[.val (.int .i64 (uv x0 x1 x2))]⟩,[.row false 2 Mr x2],[],[uw x0 x1 x2]⟩
 |_,_=>none
def ET:PF prog:=PF.ofG prog [] [da.F] bA 155 f155 func155 (LOk.fnT (l:= [bT f155 0]) (by kernel_rfl) (.cons ze (.nil _))) zm (by
 intro vs es r h;unfold zm at h;split at h
 ·cases h;kernel_rfl
 ·cases h)
def rD(x0:Int):Bool:=iQ x0 0 99
def uC:List SV→List Entry→Option Out
 | [.one ⟨false,[.val (.int .i64 x0)]⟩],[]=>some ⟨.one ⟨false,[.val (.bool (rD x0))]⟩,[],[],[]⟩
 |_,_=>none
def Cj:PF prog:=PF.ofG prog [qr] [] bA 156 f156 func156 (fun c _=>LOk.nil c) uC (by
 intro vs es r h;unfold uC at h;split at h
 ·cases h;kernel_rfl
 ·cases h)
abbrev cY:=Int×List Int×List Int
section
variable (y0:Int)(y1 y2:List Int)
def ik:Bool:=ltI y0 (↑y1.length:Int)
def il:Bool:=leI 0 y0
def jT:Bool:=ltN y0.toNat y1.length
def jU:Bool:=ltI y0 (↑y2.length:Int)
def jV:Bool:=ltN y0.toNat y2.length
def jW:Bool:=Option.getD y1[Int.toNat y0]? 0!=Option.getD y2[Int.toNat y0]? 0
def jX:Int:=IntKind.wrap .i64 (y0 + (1:Int))
end
def zO:cY→List (Nat×SV)
 |(y0,_,_)=> [(5,(.one ⟨false,[.val (.int .i64 y0)]⟩)),(0,(.one ⟨false,[.ref 0]⟩)),(1,(.one ⟨false,[.ref 1]⟩))]
def zK:cY→List (Nat×Entry)
 |(_,y1,y2)=> [(0,(.row false 2 Mr y1)),(1,(.row false 2 Mr y2))]
def zW:Nat→cY→List (Nat×SV)
 |0,(_,_,_)=> [(4,(.one ⟨false,[.val (.bool false)]⟩))]
 |_,(_,_,_)=> []
def zS:Nat→cY→List (Nat×Entry)
 |0,(_,y1,y2)=> [(0,(.row false 2 Mr y1)),(1,(.row false 2 Mr y2))]
 |_,(_,y1,y2)=> [(0,(.row false 2 Mr y1)),(1,(.row false 2 Mr y2))]
def jn:cY→LT cY
 |(y0,y1,y2)=> .ite (ik y0 y1) (.need [il y0,ik y0 y1,jT y0 y1,il y0,jU y0 y2,jV y0 y2] (.ite (jW y0 y1 y2) (.ext 0 [(0,0),(1,1)]) (.nrm ((jX y0),y1,y2) [(0,0),(1,1)]))) (.ext 1 [(0,0),(1,1)])
def pn(s:St):Option cY:=
 (match s.look 5 with
 |some ⟨none,.one ⟨false,[.val (.int .i64 y0)]⟩⟩=>
 (match s.look 0 with
 |some ⟨none,.one ⟨false,[.ref 0]⟩⟩=>
 (match s.look 1 with
 |some ⟨none,.one ⟨false,[.ref 1]⟩⟩=>
 (match s.ent 0 with
 |some (.row false 2 (.int .i64) y1)=>
 (match s.ent 1 with
 |some (.row false 2 (.int .i64) y2)=>
 some (y0,y1,y2)
 |_=>none)
 |_=>none)
 |_=>none)
 |_=>none)
 |_=>none)
def bm:Lp cY where
 h:=⟨[11,12,13,14,17,18,19,20,21,22,23,24,25,4,15,16,5],[0,1],[],[]⟩
 JL:=zO
 JE:=zK
 XL:=zW
 XE:=zS
 q:=fun j=>match j with | 0=> .ret | _=> .exit 0
 tags:= [0,1]
 lt:=jn
 fuel:=fun(y0,y1,y2)=>y0.natAbs + y1.length + y2.length
 fix:=fun(_,y1,y2) (y0,_,_)=>(y0,y1,y2)
 σ:= [(0,0),(1,1)]
 rd:=pn
theorem xW:LoopOk prog (fun k=>Nat.blt k Try.f157.ntmps) bm.F (bT f157 0):=by
 refine Lp.ok (tbl:= []) (lf:= []) bA bm (by kernel_rfl) (LOk.nil _) (fun _=>rfl) (fun j _=>by unfold bm;match j with | 0=>rfl | _ + 1=>rfl) ?_ ?_ ?_ ?_ (fun _=>rfl) ?_
 ·rintro⟨y0,y1,y2⟩;kernel_rfl
 ·rintro⟨y0,y1,y2⟩;kernel_rfl
 ·intro s x h
  have h:pn s=some x:=h
  unfold pn at h
  repeat' split at h
  all_goals cases h
  constructor<;>repeat(first|refine af (by assumption) rfl ?_|refine aP rfl (by assumption) rfl ?_|exact rfl)
 ·rintro⟨y0,y1,y2⟩;kernel_rfl
 ·rintro⟨y0,y1,y2⟩ z;exact(And.intro (And.intro trivial rfl) trivial)
section
variable (x0 x1:List Int)
def oM:Bool:=(↑x0.length:Int)!=(↑x1.length:Int)
def oN:Int×List Int×List Int:=((0:Int),x0,x1)
def qD:Bool:=bif oM x0 x1 then false else bif Nat.beq ((Lp.res bm (oN x0 x1)).1) 0 then false else true
def qE:Bool:=allT [oM x0 x1||Lp.fin bm (oN x0 x1)]
end
def wZ:List SV→List Entry→Option Out
 | [.one ⟨false,[.ref 0]⟩,.one ⟨false,[.ref 1]⟩],[.row false 2 (.int .i64) x0,.row false 2 (.int .i64) x1]=>some ⟨.one ⟨false,[.val (.bool (qD x0 x1))]⟩,[.row false 2 Mr x0,.row false 2 Mr x1],[],[qE x0 x1]⟩
 |_,_=>none
def Et:PF prog:=PF.ofG prog [] [bm.F] bA 157 f157 func157 (LOk.fnT (l:= [bT f157 0]) (by kernel_rfl) (.cons xW (.nil _))) wZ (by
 intro vs es r h;unfold wZ at h;split at h
 ·cases h;kernel_rfl
 ·cases h)
abbrev bH:=Int×List (Int×(Int×Int))×List (Int×(Int×Int))
section
variable (y0:Int)(y1 y2:List (Int×(Int×Int)))
def cQ:Int×Int×Int:=Option.getD y1[Int.toNat y0]? ((0:Int),(0:Int),(0:Int))
def cR:Int×Int×Int:=Option.getD y2[Int.toNat y0]? ((0:Int),(0:Int),(0:Int))
def eo:Bool:=ltI y0 (↑y1.length:Int)
def ep:Bool:=leI 0 y0
def fN:Bool:=ltN y0.toNat y1.length
def fO:Bool:=ltI y0 (↑y2.length:Int)
def fP:Bool:=ltN y0.toNat y2.length
def fQ:Bool:= !bif (cQ y0 y1).1==(cR y0 y2).1then bif ((cQ y0 y1).2).1==((cR y0 y2).2).1then bif (cQ y0 y1).2.2==(cR y0 y2).2.2then true else false else false else false
def fR:Int:=IntKind.wrap .i64 (y0 + (1:Int))
end
def uF:bH→List (Nat×SV)
 |(y0,_,_)=> [(5,(.one ⟨false,[.val (.int .i64 y0)]⟩)),(0,(.one ⟨false,[.ref 0]⟩)),(1,(.one ⟨false,[.ref 1]⟩))]
def uD:bH→List (Nat×Entry)
 |(_,y1,y2)=> [(0,(.row false 36 Mp y1)),(1,(.row false 36 Mp y2))]
def uM:Nat→bH→List (Nat×SV)
 |0,(_,_,_)=> [(4,(.one ⟨false,[.val (.bool false)]⟩))]
 |_,(_,_,_)=> []
def uK:Nat→bH→List (Nat×Entry)
 |0,(_,y1,y2)=> [(0,(.row false 36 Mp y1)),(1,(.row false 36 Mp y2))]
 |_,(_,y1,y2)=> [(0,(.row false 36 Mp y1)),(1,(.row false 36 Mp y2))]
def fu:bH→LT bH
 |(y0,y1,y2)=> .ite (eo y0 y1) (.need [ep y0,eo y0 y1,fN y0 y1,ep y0,fO y0 y2,fP y0 y2] (.ite (fQ y0 y1 y2) (.ext 0 [(0,0),(1,1)]) (.nrm ((fR y0),y1,y2) [(0,0),(1,1)]))) (.ext 1 [(0,0),(1,1)])
def kI(s:St):Option bH:=
 (match s.look 5 with
 |some ⟨none,.one ⟨false,[.val (.int .i64 y0)]⟩⟩=>
 (match s.look 0 with
 |some ⟨none,.one ⟨false,[.ref 0]⟩⟩=>
 (match s.look 1 with
 |some ⟨none,.one ⟨false,[.ref 1]⟩⟩=>
 (match s.ent 0 with
 |some (.row false 36 (.pair (.int .i64) (.pair (.int .i64) (.int .i64))) y1)=>
 (match s.ent 1 with
 |some (.row false 36 (.pair (.int .i64) (.pair (.int .i64) (.int .i64))) y2)=>
 some (y0,y1,y2)
 |_=>none)
 |_=>none)
 |_=>none)
 |_=>none)
 |_=>none)
def aD:Lp bH where
 h:=⟨[11,12,13,14,17,18,19,20,21,22,23,24,25,4,15,16,5],[0,1],[],[]⟩
 JL:=uF
 JE:=uD
 XL:=uM
 XE:=uK
 q:=fun j=>match j with | 0=> .ret | _=> .exit 0
 tags:= [0,1]
 lt:=fu
 fuel:=fun(y0,y1,y2)=>y0.natAbs + y1.length + y2.length
 fix:=fun(_,y1,y2) (y0,_,_)=>(y0,y1,y2)
 σ:= [(0,0),(1,1)]
 rd:=kI
theorem tC:LoopOk prog (fun k=>Nat.blt k Try.f32.ntmps) aD.F (bT f32 0):=by
 refine Lp.ok (tbl:= []) (lf:= []) bA aD (by kernel_rfl) (LOk.nil _) (fun _=>rfl) (fun j _=>by unfold aD;match j with | 0=>rfl | _ + 1=>rfl) ?_ ?_ ?_ ?_ (fun _=>rfl) ?_
 ·rintro⟨y0,y1,y2⟩;kernel_rfl
 ·rintro⟨y0,y1,y2⟩;kernel_rfl
 ·intro s x h
  have h:kI s=some x:=h
  unfold kI at h
  repeat' split at h
  all_goals cases h
  constructor<;>repeat(first|refine af (by assumption) rfl ?_|refine aP rfl (by assumption) rfl ?_|exact rfl)
 ·rintro⟨y0,y1,y2⟩;kernel_rfl
 ·rintro⟨y0,y1,y2⟩ z;exact(And.intro (And.intro trivial rfl) trivial)
section
variable (x0 x1:List (Int×Int×Int))
def jL:Bool:=(↑x0.length:Int)!=(↑x1.length:Int)
def jM:Int×List (Int×Int×Int)×List (Int×Int×Int):=((0:Int),x0,x1)
def kr:Bool:=bif jL x0 x1 then false else bif Nat.beq ((Lp.res aD (jM x0 x1)).1) 0 then false else true
def kt:Bool:=allT [jL x0 x1||Lp.fin aD (jM x0 x1)]
end
def sF:List SV→List Entry→Option Out
 | [.one ⟨false,[.ref 0]⟩,.one ⟨false,[.ref 1]⟩],[.row false 36 (.pair (.int .i64) (.pair (.int .i64) (.int .i64))) x0,.row false 36 (.pair (.int .i64) (.pair (.int .i64) (.int .i64))) x1]=>some ⟨.one ⟨false,[.val (.bool (kr x0 x1))]⟩,[.row false 36 Mp x0,.row false 36 Mp x1],[],[kt x0 x1]⟩
 |_,_=>none
def zh:PF prog:=PF.ofG prog [] [aD.F] bA 32 f32 func32 (LOk.fnT (l:= [bT f32 0]) (by kernel_rfl) (.cons tC (.nil _))) sF (by
 intro vs es r h;unfold sF at h;split at h
 ·cases h;kernel_rfl
 ·cases h)
theorem yC{x:Int}(h0:0≤x)(h1:x < 18446744073709551616):(BitVec.ofInt (IntKind.bits IntKind.i64) x).toNat=x.toNat:=by
 show (BitVec.ofInt 64 x).toNat=x.toNat
 rw [BitVec.toNat_ofInt]
 have:x % ((2 ^ 64:Nat):Int)=x:=Int.emod_eq_of_lt h0 (by simpa using h1)
 rw [this]
theorem FH{a b:Int}(a0:0≤a)(a1:a < 65536)(b0:0≤b)(b1:b < 65536):
  0≤IntKind.i64.wrap ((BitVec.ofInt (IntKind.bits IntKind.i64) a ^^^ BitVec.ofInt (IntKind.bits IntKind.i64) b).toNat:Int)∧
  IntKind.i64.wrap ((BitVec.ofInt (IntKind.bits IntKind.i64) a ^^^ BitVec.ofInt (IntKind.bits IntKind.i64) b).toNat:Int) < 65536:=by
 rw [BitVec.toNat_xor,yC a0 (by omega),yC b0 (by omega)]
 have:a.toNat ^^^ b.toNat < 2 ^ 16:=Nat.xor_lt_two_pow (by omega) (by omega)
 rw [aN (by omega) (by omega)]
 omega
theorem Ko{x:Int}(h0:0≤x)(h1:x < 18446744073709551616):
  IntKind.i64.wrap ((BitVec.ofInt (IntKind.bits IntKind.i64) x&&& BitVec.ofInt (IntKind.bits IntKind.i64) 255).toNat:Int)=x % 256:=by
 rw [BitVec.toNat_and,yC h0 h1,yC (by omega) (by omega)]
 have:x.toNat&&& (255:Int).toNat=x.toNat % 256:=Nat.and_two_pow_sub_one_eq_mod x.toNat 8
 rw [this,aN (by omega) (by omega)]
 omega
theorem JH{n:Int}(h0:0≤n)(h1:n≤4294967295)(k:Nat)(hk:k≤64):
  IntKind.i64.wrap ((BitVec.ofInt (IntKind.bits IntKind.i64) (Int.fdiv n (2 ^ min k (IntKind.bits IntKind.i64)))&&& BitVec.ofInt (IntKind.bits IntKind.i64) 255).toNat:Int)=n / 2 ^ k % 256:=by
 rw [show min k (IntKind.bits IntKind.i64)=k from Nat.min_eq_left hk,Int.fdiv_eq_ediv_of_nonneg _ (Int.le_of_lt (Int.pow_pos (by omega)))]
 have h2:0≤n / 2 ^ k:=Int.ediv_nonneg h0 (Int.le_of_lt (Int.pow_pos (by omega)))
 have h3:n / 2 ^ k≤n:=Int.ediv_le_self _ h0
 exact Ko h2 (by omega)
abbrev Rc:=Int×Int×Int
def b4(n:Int):List Int:= [n / 16777216 % 256,n / 65536 % 256,n / 256 % 256,n % 256]
def b2(n:Int):List Int:= [n / 256 % 256,n % 256]
def num(l:List Int):Int:=l.foldl (fun n b=>256 * n + b) 0
def jP(x:Rc):Bool:=inR x.1 0 4294967295&&(inR x.2.2 0 4294967295&&inR x.2.1 0 255)
def oe(n:Int):Bool:=inR n 0 99
def hdR(x:Rc)(n:Int):List Int:= [82,x.2.1]++b4 x.1++b4 x.2.2++b2 n
def sS(c:List Int→Int)(x:Rc)(n:Int):List Int:=hdR x n++b2 (c (hdR x n))
def kT(l:List Int):Rc:=(num ((l.drop 2).take 4),l[1]?.getD 0,num ((l.drop 6).take 4))
def rW(l:List Int):Int:=num ((l.drop 10).take 2)
def ft(c:List Int→Int)(l:List Int):Bool:=oe (rW l)&&eqL (sS c (kT l) (rW l)) l
def nL(l:List Int)(k:Nat):List Int:=(l.drop (14 * k)).take 14
def Ev(c:List Int→Int)(l:List Int)(k:Nat):Bool:=decide (14 * k + 14≤l.length)&&(ft c (nL l k)&&decide (rW (nL l k)=(k:Int)))
def Ew(c:List Int→Int)(l:List Int):Nat→List Rc→List Rc
 |0,a=>a
 |f + 1,a=>bif Ev c l a.length then Ew c l f (a++ [kT (nL l a.length)])else a
def vW(c:List Int→Int):List Rc→Int→List Int
 | [],_=> []
 |x::r,i=>sS c x i++vW c r (i + 1)
theorem oA(c:List Int→Int)(x:Rc)(n:Int):(sS c x n).length=14:=rfl
theorem Kf{n:Int}(h0:0≤n)(h1:n≤4294967295):num (b4 n)=n:=by
 simp only [num,b4,List.foldl];omega
theorem Ll{n:Int}(h0:0≤n)(h1:n≤99):num (b2 n)=n:=by
 simp only [num,b2,List.foldl];omega
theorem Ix(n:Int): ∀ b∈b4 n,0≤b∧b≤255:=by
 simp only [b4,List.mem_cons,List.not_mem_nil,or_false];intro b h;omega
theorem Iw(n:Int): ∀ b∈b2 n,0≤b∧b≤255:=by
 simp only [b2,List.mem_cons,List.not_mem_nil,or_false];intro b h;omega
theorem Bo{x:Rc}:jP x=true↔(0≤x.1∧x.1≤4294967295)∧(0≤x.2.2∧x.2.2≤4294967295)∧(0≤x.2.1∧x.2.1≤255):=by
 simp only [jP,Bool.and_eq_true,yx]
theorem uY{n:Int}:oe n=true↔0≤n∧n≤99:=by simp only [oe,yx]
theorem GO{x:Rc}(n:Int)(h:jP x=true): ∀ b∈hdR x n,0≤b∧b≤255:=by
 have h:=Bo.1 h
 intro b hb
 simp only [hdR,List.mem_append,List.mem_cons,List.not_mem_nil,or_false]at hb
 rcases hb with(((rfl | rfl) | hb) | hb) | hb
 ·omega
 ·exact h.2.2
 ·exact Ix _ b hb
 ·exact Ix _ b hb
 ·exact Iw _ b hb
theorem IX(c:List Int→Int){x:Rc}(n:Int)(h:jP x=true): ∀ b∈sS c x n,0≤b∧b≤255:=by
 intro b hb
 rcases List.mem_append.1 hb with hb | hb
 ·exact GO n h b hb
 ·exact Iw _ b hb
theorem Kv(c:List Int→Int){x:Rc}{n:Int}(h:jP x=true)(hn:oe n=true):kT (sS c x n)=x∧rW (sS c x n)=n∧ft c (sS c x n)=true:=by
 have h':=Bo.1 h
 have hn':=uY.1 hn
 have e1:kT (sS c x n)=x:=by
  show (num (b4 x.1),x.2.1,num (b4 x.2.2))=x
  rw [Kf h'.1.1 h'.1.2,Kf h'.2.1.1 h'.2.1.2]
 have e2:rW (sS c x n)=n:=by
  show num (b2 n)=n
  exact Ll hn'.1 hn'.2
 refine⟨e1,e2,?_⟩
 simp only [ft,e1,e2,hn,Bool.true_and,GI]
theorem xP(c:List Int→Int): ∀ (r:List Rc) (i:Int),(vW c r i).length=14 * r.length
 | [],_=>rfl
 |x::r,i=>by simp only [vW,List.length_append,oA,xP c r,List.length_cons];omega
theorem Fm(c:List Int→Int): ∀ (r:List Rc) (i:Int),(∀ x∈r,jP x=true)→ ∀ b∈vW c r i,0≤b∧b≤255
 | [],_,_,b,hb=>by cases hb
 |x::r,i,h,b,hb=>by
  rcases List.mem_append.1 hb with hb | hb
  ·exact IX c i (h x (by simp)) b hb
  ·exact Fm c r _ (fun y hy=>h y (by simp [hy])) b hb
theorem GS(c:List Int→Int): ∀ (r:List Rc) (i:Int) (k:Nat) (x:Rc),r[k]? =some x→nL (vW c r i) k=sS c x (i + k)
 | [],_,_,_,h=>by simp at h
 |y::r,i,0,x,h=>by
  simp only [List.getElem?_cons_zero,Option.some.injEq]at h
  subst h
  simp only [nL,vW,Nat.mul_zero,List.drop_zero,Int.natCast_zero,Int.add_zero]
  rw [List.take_append_of_le_length (by rw [oA];exact Nat.le_refl _),List.take_of_length_le (by rw [oA];exact Nat.le_refl _)]
 |y::r,i,k + 1,x,h=>by
  simp only [List.getElem?_cons_succ]at h
  have:=GS c r (i + 1) k x h
  simp only [nL]at this ⊢
  simp only [vW]
  rw [show 14 * (k + 1)=14 + 14 * k from by omega,← List.drop_drop,List.drop_append_of_le_length (by rw [oA];exact Nat.le_refl _),List.drop_of_length_le (l:=sS c y i) (by rw [oA];exact Nat.le_refl _),List.nil_append,this]
  congr 1;omega
theorem Hf(c:List Int→Int)(rs:List Rc)(hl:rs.length≤100)(cg: ∀ x∈rs,jP x=true): ∀ (f k:Nat),rs.length≤k + f→k≤rs.length→Ew c (vW c rs 0) f (rs.take k)=rs
 |0,k,hf,hk=>by simp only [Ew];exact List.take_of_length_le (by omega)
 |f + 1,k,hf,hk=>by
  have e:(rs.take k).length=k:=by rw [List.length_take];omega
  simp only [Ew,e,Ev,xP]
  by_cases cH:k < rs.length
  ·have hg:rs[k]? =some rs[k]:=List.getElem?_eq_getElem cH
   have hb:=GS c rs 0 k _ hg
   rw [hb,Int.zero_add]
   obtain⟨d1,d2,d3⟩:=Kv c (n:=(k:Int)) (cg _ (List.getElem_mem cH)) (uY.2 (by omega))
   rw [d1,d2,d3,decide_eq_true (show 14 * k + 14≤14 * rs.length by omega)]
   simp only [Bool.true_and,decide_true,cond_true]
   rw [← List.take_succ_eq_append_getElem cH]
   exact Hf c rs hl cg f (k + 1) (by omega) (by omega)
  ·rw [decide_eq_false (show ¬ 14 * k + 14≤14 * rs.length by omega)]
   simp only [Bool.false_and,cond_false]
   exact List.take_of_length_le (by omega)
theorem IP(c:List Int→Int)(l:List Int): ∀ (f:Nat) (a:List Rc),a.length≤100→(Ew c l f a).length≤100
 |0,a,h=>h
 |f + 1,a,h=>by
  simp only [Ew]
  cases hg:Ev c l a.length with
  |false=>exact h
  |true=>
   simp only [Ev,ft,Bool.and_eq_true,decide_eq_true_eq,uY]at hg
   exact IP c l f _ (by rw [List.length_append,List.length_singleton];omega)
theorem KW{l:List Int}(h: ∀ b∈l,0≤b∧b≤255)(hl:l.length=4):0≤num l∧num l≤4294967295:=by
 match l,hl with
 | [a,b,c,d],_=>
  have h1:=h a (by simp);have h2:=h b (by simp);have h3:=h c (by simp);have h4:=h d (by simp)
  simp only [num,List.foldl];omega
theorem HJ{l:List Int}(h: ∀ b∈l,0≤b∧b≤255)(hl:l.length=14):jP (kT l)=true:=by
 have h1:=KW (l:=(l.drop 2).take 4) (fun b hb=>h b (List.mem_of_mem_drop (List.mem_of_mem_take hb))) (by simp [hl])
 have h2:=KW (l:=(l.drop 6).take 4) (fun b hb=>h b (List.mem_of_mem_drop (List.mem_of_mem_take hb))) (by simp [hl])
 have h3:(0:Int)≤l[1]?.getD (0:Int)∧l[1]?.getD (0:Int)≤255:=by
  have cH:1 < l.length:=by omega
  rw [List.getElem?_eq_getElem cH];exact h _ (List.getElem_mem cH)
 exact Bo.2 ⟨h1,h2,h3⟩
theorem FN{l:List Int}{k:Nat}(h:14 * k + 14≤l.length):(nL l k).length=14:=by
 simp only [nL,List.length_take,List.length_drop];omega
theorem DG{l:List Int}{k:Nat}(h: ∀ b∈l,0≤b∧b≤255): ∀ b∈nL l k,0≤b∧b≤255:=fun b hb=>h b (List.mem_of_mem_drop (List.mem_of_mem_take hb))
theorem Ki(c:List Int→Int){l:List Int}(h: ∀ b∈l,0≤b∧b≤255): ∀ (f:Nat) (a:List Rc),(∀ x∈a,jP x=true)→ ∀ x∈Ew c l f a,jP x=true
 |0,a,ha=>ha
 |f + 1,a,ha=>by
  simp only [Ew]
  cases hg:Ev c l a.length with
  |false=>exact ha
  |true=>
   simp only [Ev,Bool.and_eq_true,decide_eq_true_eq]at hg
   refine Ki c h f _ fun x hx=> ?_
   rcases List.mem_append.1 hx with hx | hx
   ·exact ha x hx
   ·simp only [List.mem_singleton]at hx;subst hx
    exact HJ (DG h) (FN hg.1)
theorem Lp.walkK{X A B:Type}(p:Lp X)(st:Nat→A→X)(f:B→A→Nat ⊕ A)(e:Nat)(Inv:Nat→A→Prop)(xs:List B)
  (hs: ∀ i b a,xs[i]? =some b→Inv i a→(p.lt (st i a)).out=some (match f b a with | .inl j=> .inl j | .inr a'=> .inr (st (i + 1) a'))∧ ∀ a',f b a= .inr a'→Inv (i + 1) a')
  (he: ∀ a,Inv xs.length a→(p.lt (st xs.length a)).out=some (.inl e)) (a:A) (h0:Inv 0 a) (hf:xs.length≤p.fuel (st 0 a) + 999):
  p.fin (st 0 a)=true∧p.res (st 0 a)=((cw f e xs 0 a).1,st (cw f e xs 0 a).2.1 (cw f e xs 0 a).2.2):=
 p.run (yE st f e Inv xs hs he xs 0 a rfl (by omega) h0) (Gd (by omega))
def byA(l:List Int):Bool:=l.all fun b=>inR b 0 255
def gX(l:List Int):Bool:=leN l.length 2000&&byA l
theorem kR{l:List Int}:byA l=true↔ ∀ b∈l,0≤b∧b≤255:=by simp only [byA,List.all_eq_true,yx]
theorem JA(t k v:Int):mU t k v=jP (t,k,v):=by
 simp only [mU,qO,iQ,BW,jP]
 cases inR t 0 4294967295 <;> cases inR v 0 4294967295 <;> rfl
theorem Ji(t k v:Int):mK t k v=jP (t,k,v):=by
 simp only [mK,fI,BW,jP]
 cases inR t 0 4294967295 <;> cases inR v 0 4294967295 <;> rfl
def rS:List SV→List Entry→Option Out
 | [.one ⟨true,[.val (.int .i64 x0),.val (.int .i64 x1),.val (.int .i64 x2)]⟩],[]=>some ⟨.one ⟨false,[.val (.bool (jP (x0,x1,x2)))]⟩,[],[],[]⟩
 |_,_=>none
def mO:PF prog:=PF.alt yg rS (by
 intro args es o h bk;unfold rS at h;split at h
 ·rename_i x0 x1 x2
  cases h
  have hh:=JA x0 x1 x2
  have e0:=hh
  exact iw rfl (fun _ h=>by cases h) (by simp only [e0] <;> rfl) rfl rfl
 ·cases h)
def rR:List SV→List Entry→Option Out
 | [.one ⟨true,[.val (.int .i64 x0),.val (.int .i64 x1),.val (.int .i64 x2)]⟩],[]=>some ⟨.one ⟨false,[.val (.bool (jP (x0,x1,x2)))]⟩,[],[],[]⟩
 |_,_=>none
def mN:PF prog:=PF.alt yf rR (by
 intro args es o h bk;unfold rR at h;split at h
 ·rename_i x0 x1 x2
  cases h
  have hh:=Ji x0 x1 x2
  have e0:=hh
  exact iw rfl (fun _ h=>by cases h) (by simp only [e0] <;> rfl) rfl rfl
 ·cases h)
def uJ:List SV→List Entry→Option Out
 | [.one ⟨false,[.val (.int .i64 x0)]⟩],[]=>some ⟨.one ⟨false,[.val (.bool (oe x0))]⟩,[],[],[]⟩
 |_,_=>none
def Cc:PF prog:=PF.alt Cj uJ (by
 intro args es o h bk;unfold uJ at h;split at h
 ·rename_i x0
  cases h
  have hh:=(show rD x0=oe x0 by simp only [rD,iQ,BW,oe])
  have e0:=hh
  exact iw rfl (fun _ h=>by cases h) (by simp only [e0] <;> rfl) rfl rfl
 ·cases h)
def rh:List SV→List Entry→Option Out
 | [.one ⟨false,[.val (.int .i64 x0)]⟩],[]=>some ⟨.one ⟨false,[.val (.bool (oe x0))]⟩,[],[],[]⟩
 |_,_=>none
def wO:PF prog:=PF.alt wQ rh (by
 intro args es o h bk;unfold rh at h;split at h
 ·rename_i x0
  cases h
  have hh:=(show lL x0=oe x0 by simp only [lL,fI,BW,oe])
  have e0:=hh
  exact iw rfl (fun _ h=>by cases h) (by simp only [e0] <;> rfl) rfl rfl
 ·cases h)
def aW(b:Int):(Unit)→Nat ⊕ (Unit)
 |_=>(bif(ib b)then(.inl 0)else(.inr ()))
def az(y2:List Int)(i:Nat):(Unit)→ao
 |_=>((i:Int),(↑y2.length:Int),y2)
def dE:ao→Unit
 |(_,_,_)=>()
theorem mE(y2:List Int) (hn:y2.length≤9223372036854775807):
  ae.fin ((0:Int),(↑y2.length:Int),y2)=true∧ae.res ((0:Int),(↑y2.length:Int),y2)=((cw (aW) 1 y2 0 ()).1,(az y2) (cw (aW) 1 y2 0 ()).2.1 (cw (aW) 1 y2 0 ()).2.2):=by
 have fJ:=ae.along (az y2) dE (aW) 1 (fun _ _=>True) y2 () (by trivial) (by simp only [ae,az];omega) (fun i b a hb hI=> ?_) (fun a hI=> ?_)
 ·exact fJ
 ·obtain⟨⟩:=a
  have cH:=(List.getElem?_eq_some_iff.1 hb).1
  have kh: ∀ d,Option.getD y2[i]? d=b:=fun d=>by rw [hb];rfl
  have hw:=sD cH hn
  have kA:ltI (i:Int) (y2.length:Int)=true:=jl (by omega)
  have xM:leI (0:Int) (i:Int)=true:=cZ (by omega)
  have mJ:ltN i y2.length=true:=mM cH
  refine⟨?_,?_,?_,?_⟩
  ·simp [bB,bC,bD,bE,bF,bG,bu,ae,LT.nds,allT,az,kA,xM,mJ,kh]
  ·simp [bB,bC,bD,bE,bF,bG,bu,ae,LT.each,az,dE,hw]
  ·simp only [bB,bC,bD,bE,bF,bG,bu,ae,LT.fn,az,dE,aW,Int.toNat_natCast,kA,xM,mJ,kh,cond_true,Bool.cond_self]
  ·exact fun _ _=>trivial
 ·obtain⟨⟩:=a
  simp [bB,bC,bD,bE,bF,bG,bu,ae,LT.out,az]
def gI(b:Int):(Unit)→Nat ⊕ (Unit)
 |_=>(bif(!iQ b 0 255)then(.inl 0)else(.inr ()))
def eL(y1:List Int)(i:Nat):(Unit)→cB
 |_=>((i:Int),y1)
def oh:cB→Unit
 |(_,_)=>()
theorem AB(y1:List Int) (hn:y1.length≤9223372036854775807):
  bc.fin ((0:Int),y1)=true∧bc.res ((0:Int),y1)=((cw (gI) 1 y1 0 ()).1,(eL y1) (cw (gI) 1 y1 0 ()).2.1 (cw (gI) 1 y1 0 ()).2.2):=by
 have fJ:=bc.along (eL y1) oh (gI) 1 (fun _ _=>True) y1 () (by trivial) (by simp only [bc,eL];omega) (fun i b a hb hI=> ?_) (fun a hI=> ?_)
 ·exact fJ
 ·obtain⟨⟩:=a
  have cH:=(List.getElem?_eq_some_iff.1 hb).1
  have kh: ∀ d,Option.getD y1[i]? d=b:=fun d=>by rw [hb];rfl
  have hw:=sD cH hn
  have kA:ltI (i:Int) (y1.length:Int)=true:=jl (by omega)
  have xM:leI (0:Int) (i:Int)=true:=cZ (by omega)
  have mJ:ltN i y1.length=true:=mM cH
  refine⟨?_,?_,?_,?_⟩
  ·simp [gT,ju,jv,jw,jx,iB,bc,LT.nds,allT,eL,kA,xM,mJ,kh]
  ·simp [gT,ju,jv,jw,jx,iB,bc,LT.each,eL,oh,hw]
  ·simp only [gT,ju,jv,jw,jx,iB,bc,LT.fn,eL,oh,gI,Int.toNat_natCast,kA,xM,mJ,kh,cond_true,Bool.cond_self]
  ·exact fun _ _=>trivial
 ·obtain⟨⟩:=a
  simp [gT,ju,jv,jw,jx,iB,bc,LT.out,eL]
def de(y2 y3:List Int)(b:Nat):(Unit)→Nat ⊕ (Unit)
 |_=>(bif(Option.getD y2[b]? 0!=Option.getD y3[b]? 0)then(.inl 0)else(.inr ()))
def bz(y2 y3:List Int)(i:Nat):(Unit)→aJ
 |_=>((i:Int),(↑y2.length:Int),y2,y3)
def gP:aJ→Unit
 |(_,_,_,_)=>()
theorem sj(y2 y3:List Int) (hn:y2.length≤9223372036854775807) (he:y3.length=y2.length):
  ak.fin ((0:Int),(↑y2.length:Int),y2,y3)=true∧ak.res ((0:Int),(↑y2.length:Int),y2,y3)=((cw (de y2 y3) 1 (List.range y2.length) 0 ()).1,(bz y2 y3) (cw (de y2 y3) 1 (List.range y2.length) 0 ()).2.1 (cw (de y2 y3) 1 (List.range y2.length) 0 ()).2.2):=by
 have fJ:=ak.along (bz y2 y3) gP (de y2 y3) 1 (fun _ _=>True) (List.range y2.length) () (by trivial) (by simp only [ak,bz,List.length_range];omega) (fun i b a hb hI=> ?_) (fun a hI=> ?_)
 ·exact fJ
 ·obtain⟨⟩:=a
  obtain⟨rfl,cH⟩:=nA hb
  have hw:IntKind.i64.wrap ((b:Int) + 1)=((b + 1:Nat):Int):=by rw [aN (by omega) (by omega)];omega
  have kA:ltI (b:Int) (y2.length:Int)=true:=jl (by omega)
  have xM:leI (0:Int) (b:Int)=true:=cZ (by omega)
  have mJ:ltN b y2.length=true:=mM (by omega)
  refine⟨?_,?_,?_,?_⟩
  ·simp [df,cn,dg,dh,di,dj,dk,dm,cS,ak,LT.nds,allT,bz,kA,xM,mJ,he]
  ·simp [df,cn,dg,dh,di,dj,dk,dm,cS,ak,LT.each,bz,gP,hw,he]
  ·simp only [df,cn,dg,dh,di,dj,dk,dm,cS,ak,LT.fn,bz,gP,de,Int.toNat_natCast,kA,cond_true]
  ·exact fun _ _=>trivial
 ·obtain⟨⟩:=a
  simp [df,cn,dg,dh,di,dj,dk,dm,cS,ak,LT.out,bz,List.length_range]
def jI(y1 y2:List Int)(b:Nat):(Unit)→Nat ⊕ (Unit)
 |_=>(bif(Option.getD y1[b]? 0!=Option.getD y2[b]? 0)then(.inl 0)else(.inr ()))
def fl(y1 y2:List Int)(i:Nat):(Unit)→cY
 |_=>((i:Int),y1,y2)
def ph:cY→Unit
 |(_,_,_)=>()
theorem BD(y1 y2:List Int) (hn:y1.length≤9223372036854775807) (he:y2.length=y1.length):
  bm.fin ((0:Int),y1,y2)=true∧bm.res ((0:Int),y1,y2)=((cw (jI y1 y2) 1 (List.range y1.length) 0 ()).1,(fl y1 y2) (cw (jI y1 y2) 1 (List.range y1.length) 0 ()).2.1 (cw (jI y1 y2) 1 (List.range y1.length) 0 ()).2.2):=by
 have fJ:=bm.along (fl y1 y2) ph (jI y1 y2) 1 (fun _ _=>True) (List.range y1.length) () (by trivial) (by simp only [bm,fl,List.length_range];omega) (fun i b a hb hI=> ?_) (fun a hI=> ?_)
 ·exact fJ
 ·obtain⟨⟩:=a
  obtain⟨rfl,cH⟩:=nA hb
  have hw:IntKind.i64.wrap ((b:Int) + 1)=((b + 1:Nat):Int):=by rw [aN (by omega) (by omega)];omega
  have kA:ltI (b:Int) (y1.length:Int)=true:=jl (by omega)
  have xM:leI (0:Int) (b:Int)=true:=cZ (by omega)
  have mJ:ltN b y1.length=true:=mM (by omega)
  refine⟨?_,?_,?_,?_⟩
  ·simp [ik,il,jT,jU,jV,jW,jX,jn,bm,LT.nds,allT,fl,kA,xM,mJ,he]
  ·simp [ik,il,jT,jU,jV,jW,jX,jn,bm,LT.each,fl,ph,hw,he]
  ·simp only [ik,il,jT,jU,jV,jW,jX,jn,bm,LT.fn,fl,ph,jI,Int.toNat_natCast,kA,cond_true]
  ·exact fun _ _=>trivial
 ·obtain⟨⟩:=a
  simp [ik,il,jT,jU,jV,jW,jX,jn,bm,LT.out,fl,List.length_range]
def ek(y1 y2:List (Int×(Int×Int)))(b:Nat):(Unit)→Nat ⊕ (Unit)
 |_=>(bif(!bif (Option.getD y1[b]? ((0:Int),(0:Int),(0:Int))).1==(Option.getD y2[b]? ((0:Int),(0:Int),(0:Int))).1then bif ((Option.getD y1[b]? ((0:Int),(0:Int),(0:Int))).2).1==((Option.getD y2[b]? ((0:Int),(0:Int),(0:Int))).2).1then bif (Option.getD y1[b]? ((0:Int),(0:Int),(0:Int))).2.2==(Option.getD y2[b]? ((0:Int),(0:Int),(0:Int))).2.2then true else false else false else false)then(.inl 0)else(.inr ()))
def cW(y1 y2:List (Int×(Int×Int)))(i:Nat):(Unit)→bH
 |_=>((i:Int),y1,y2)
def kH:bH→Unit
 |(_,_,_)=>()
theorem wi(y1 y2:List (Int×(Int×Int))) (hn:y1.length≤9223372036854775807) (he:y2.length=y1.length):
  aD.fin ((0:Int),y1,y2)=true∧aD.res ((0:Int),y1,y2)=((cw (ek y1 y2) 1 (List.range y1.length) 0 ()).1,(cW y1 y2) (cw (ek y1 y2) 1 (List.range y1.length) 0 ()).2.1 (cw (ek y1 y2) 1 (List.range y1.length) 0 ()).2.2):=by
 have fJ:=aD.along (cW y1 y2) kH (ek y1 y2) 1 (fun _ _=>True) (List.range y1.length) () (by trivial) (by simp only [aD,cW,List.length_range];omega) (fun i b a hb hI=> ?_) (fun a hI=> ?_)
 ·exact fJ
 ·obtain⟨⟩:=a
  obtain⟨rfl,cH⟩:=nA hb
  have hw:IntKind.i64.wrap ((b:Int) + 1)=((b + 1:Nat):Int):=by rw [aN (by omega) (by omega)];omega
  have kA:ltI (b:Int) (y1.length:Int)=true:=jl (by omega)
  have xM:leI (0:Int) (b:Int)=true:=cZ (by omega)
  have mJ:ltN b y1.length=true:=mM (by omega)
  refine⟨?_,?_,?_,?_⟩
  ·simp [cQ,cR,eo,ep,fN,fO,fP,fQ,fR,fu,aD,LT.nds,allT,cW,kA,xM,mJ,he]
  ·simp [cQ,cR,eo,ep,fN,fO,fP,fQ,fR,fu,aD,LT.each,cW,kH,hw,he]
  ·simp only [cQ,cR,eo,ep,fN,fO,fP,fQ,fR,fu,aD,LT.fn,cW,kH,ek,Int.toNat_natCast,kA,cond_true]
  ·exact fun _ _=>trivial
 ·obtain⟨⟩:=a
  simp [cQ,cR,eo,ep,fN,fO,fP,fQ,fR,fu,aD,LT.out,cW,List.length_range]
theorem Kb(n:Nat):ltI 2000 (n:Int)= !leN n 2000:=by
 by_cases h:n≤2000
 ·rw [eU h,CD (by omega)];rfl
 ·rw [Fp (by omega),jl (by omega)];rfl
theorem JZ(n:Nat):leI (n:Int) 2000=leN n 2000:=by
 by_cases h:n≤2000
 ·rw [eU h,cZ (by omega)]
 ·rw [Fp (by omega),Bf (by omega)]
theorem Ju(l:List Int):sy l=gX l∧sz l=true:=by
 simp only [sy,sz,Kb,gX]
 cases hl:leN l.length 2000 with
 |false=>exact⟨rfl,rfl⟩
 |true=>
  obtain⟨w1,w2⟩:=AB l (by have:=eq.1 hl;omega)
  rw [nI (P:=fun b=> !inR b 0 255) (j:=0) (fun b=>by simp only [gI,iQ,BW])]at w2
  have e5:(l.any fun b=> !inR b 0 255)= !byA l:=by simp [byA,List.all_eq_not_any_not]
  rw [e5]at w2
  rw [w1,w2]
  cases byA l <;> exact⟨rfl,rfl⟩
theorem Je(l:List Int):sm l=gX l∧sn l=true:=by
 simp only [sm,sn,JZ,gX]
 cases hl:leN l.length 2000 with
 |false=>exact⟨rfl,rfl⟩
 |true=>
  have hl':=eq.1 hl
  obtain⟨w1,w2⟩:=mE l (by omega)
  rw [nI (P:=fun b=> !inR b 0 255) (j:=0) (fun b=>by simp only [aW,ib,fI,BW])]at w2
  have e5:(l.any fun b=> !inR b 0 255)= !byA l:=by simp [byA,List.all_eq_not_any_not]
  rw [e5]at w2
  simp only [dM,dN,cE,eG,eH,w1,w2,allT,az,cond_true]
  cases byA l with
  |false=>simp [Nat.beq]
  |true=>simp [Nat.beq]
def wx:List SV→List Entry→Option Out
 | [.one ⟨false,[.ref 0]⟩],[.row false 2 (.int .i64) x0]=>some ⟨.one ⟨false,[.val (.bool (gX x0))]⟩,[.row false 2 Mr x0],[],[]⟩
 |_,_=>none
def eW:PF prog:=PF.alt Dg wx (by
 intro args es o h bk;unfold wx at h;split at h
 ·rename_i x0
  cases h
  have hh:=Ju x0
  obtain⟨e0,en⟩:=hh
  exact iw rfl (fV en) (by simp only [e0] <;> rfl) rfl rfl
 ·cases h)
def ws:List SV→List Entry→Option Out
 | [.one ⟨false,[.ref 0]⟩],[.row false 2 (.int .i64) x0]=>some ⟨.one ⟨false,[.val (.bool (gX x0))]⟩,[.row false 2 Mr x0],[],[]⟩
 |_,_=>none
def eV:PF prog:=PF.alt Dc ws (by
 intro args es o h bk;unfold ws at h;split at h
 ·rename_i x0
  cases h
  have hh:=Je x0
  obtain⟨e0,en⟩:=hh
  exact iw rfl (fV en) (by simp only [e0] <;> rfl) rfl rfl
 ·cases h)
theorem Jg(xs ys:List Int)(hn:leN xs.length 9223372036854775807=true):fZ xs ys=eqL xs ys∧gc xs ys=true:=by
 have hn:=eq.1 hn
 unfold eqL
 by_cases hl:ys.length=xs.length
 ·obtain⟨w1,w2⟩:=sj xs ys hn hl
  have ha:=FK (d:=(0:Int)) hl (P:=fun b=>Option.getD xs[b]? 0 !=Option.getD ys[b]? 0) (fun b=>by simp [bne,BEq.beq])
  rw [nI (P:=fun b=>Option.getD xs[b]? 0 !=Option.getD ys[b]? 0) (j:=0) (fun b=>rfl),ha]at w2
  simp only [fD,fE,fZ,gc,w1,w2,allT]
  by_cases he:xs=ys
  ·subst he;simp;decide
  ·simp [he,hl]
 ·have rY:xs≠ys:=fun h=>hl (by rw [h])
  simp [fD,fE,fZ,gc,allT,rY]
  omega
def mG:List SV→List Entry→Option Out
 | [.one ⟨false,[.ref 0]⟩,.one ⟨false,[.ref 1]⟩],[.row false 2 (.int .i64) x0,.row false 2 (.int .i64) x1]=>some ⟨.one ⟨false,[.val (.bool (eqL x0 x1))]⟩,[.row false 2 Mr x0,.row false 2 Mr x1],[],[leN x0.length 9223372036854775807]⟩
 |_,_=>none
def jp:PF prog:=PF.alt tq mG (by
 intro args es o h bk;unfold mG at h;split at h
 ·rename_i x0 x1
  cases h
  have bk:=ki bk
  have hh:=Jg x0 x1 bk
  obtain⟨e0,en⟩:=hh
  exact iw rfl (fV en) (by simp only [e0] <;> rfl) rfl rfl
 ·cases h)
theorem Jw(xs ys:List Int)(hn:leN xs.length 9223372036854775807=true):qD xs ys=eqL xs ys∧qE xs ys=true:=by
 have hn:=eq.1 hn
 unfold eqL
 by_cases hl:ys.length=xs.length
 ·obtain⟨w1,w2⟩:=BD xs ys hn hl
  have ha:=FK (d:=(0:Int)) hl (P:=fun b=>Option.getD xs[b]? 0 !=Option.getD ys[b]? 0) (fun b=>by simp [bne,BEq.beq])
  rw [nI (P:=fun b=>Option.getD xs[b]? 0 !=Option.getD ys[b]? 0) (j:=0) (fun b=>rfl),ha]at w2
  simp only [oM,oN,qD,qE,w1,w2,allT]
  by_cases he:xs=ys
  ·subst he;simp;decide
  ·simp [he,hl]
 ·have rY:xs≠ys:=fun h=>hl (by rw [h])
  simp [oM,oN,qD,qE,allT,rY]
  omega
def xt:List SV→List Entry→Option Out
 | [.one ⟨false,[.ref 0]⟩,.one ⟨false,[.ref 1]⟩],[.row false 2 (.int .i64) x0,.row false 2 (.int .i64) x1]=>some ⟨.one ⟨false,[.val (.bool (eqL x0 x1))]⟩,[.row false 2 Mr x0,.row false 2 Mr x1],[],[leN x0.length 9223372036854775807]⟩
 |_,_=>none
def tn:PF prog:=PF.alt Et xt (by
 intro args es o h bk;unfold xt at h;split at h
 ·rename_i x0 x1
  cases h
  have bk:=ki bk
  have hh:=Jw x0 x1 bk
  obtain⟨e0,en⟩:=hh
  exact iw rfl (fV en) (by simp only [e0] <;> rfl) rfl rfl
 ·cases h)
def HO(xs ys:List Rc):Bool:=decide (xs=ys)
theorem Jl(xs ys:List Rc)(hn:leN xs.length 9223372036854775807=true):kr xs ys=HO xs ys∧kt xs ys=true:=by
 have hn:=eq.1 hn
 unfold HO
 by_cases hl:ys.length=xs.length
 ·obtain⟨w1,w2⟩:=wi xs ys hn hl
  have ha:=FK (d:=((0:Int),(0:Int),(0:Int))) hl (P:=fun b=> !decide (Option.getD xs[b]? (0,0,0)=Option.getD ys[b]? (0,0,0))) (fun b=>rfl)
  have h3: ∀ a b:Int×Int×Int,(!bif a.1==b.1 then bif a.2.1==b.2.1 then bif a.2.2==b.2.2 then true else false else false else false)= !decide (a=b):=fun a b=>by
   obtain⟨a1,a2,a3⟩:=a;obtain⟨b1,b2,b3⟩:=b
   simp only [Prod.mk.injEq]
   by_cases h1:a1=b1 <;> by_cases h2:a2=b2 <;> by_cases h3:a3=b3 <;> simp [h1,h2,h3]
  rw [nI (P:=fun b=> !decide (Option.getD xs[b]? (0,0,0)=Option.getD ys[b]? (0,0,0))) (j:=0) (fun b=>by simp only [ek,Int.toNat_natCast,h3]),ha]at w2
  simp only [jL,jM,kr,kt,w1,w2,allT]
  by_cases he:xs=ys
  ·subst he;simp;decide
  ·simp [he,hl]
 ·have rY:xs≠ys:=fun h=>hl (by rw [h])
  simp [jL,jM,kr,kt,allT,rY]
  omega
def sJ:List SV→List Entry→Option Out
 | [.one ⟨false,[.ref 0]⟩,.one ⟨false,[.ref 1]⟩],[.row false 36 (.pair (.int .i64) (.pair (.int .i64) (.int .i64))) x0,.row false 36 (.pair (.int .i64) (.pair (.int .i64) (.int .i64))) x1]=>some ⟨.one ⟨false,[.val (.bool (HO x0 x1))]⟩,[.row false 36 Mp x0,.row false 36 Mp x1],[],[leN x0.length 9223372036854775807]⟩
 |_,_=>none
def oc:PF prog:=PF.alt zh sJ (by
 intro args es o h bk;unfold sJ at h;split at h
 ·rename_i x0 x1
  cases h
  have bk:=ki bk
  have hh:=Jl x0 x1 bk
  obtain⟨e0,en⟩:=hh
  exact iw rfl (fV en) (by simp only [e0] <;> rfl) rfl rfl
 ·cases h)
def it8(g:Int→Int)(r:Int):Int:=(List.range 8).foldl (fun a _=>g a) r
def BO(y:Int):Int:=gC y
def AV(r n:Int):Int:=IntKind.i64.wrap (↑(BitVec.toNat (BitVec.ofInt (IntKind.bits IntKind.i64) r ^^^ BitVec.ofInt (IntKind.bits IntKind.i64) (IntKind.i64.wrap (256 * n)))):Int)
def HI(r n:Int):Int:=it8 BO (AV r n)
def cX(l:List Int):Int:=l.foldl HI 65535
theorem DT{A B:Type}{I:A→Prop}{J:B→Prop}{g h:A→B→A}(hg: ∀ a b,I a→J b→g a b=h a b∧I (h a b)): ∀ (l:List B) (a:A),I a→(∀ b∈l,J b)→l.foldl g a=l.foldl h a∧I (l.foldl h a)
 | [],_,ha,_=>⟨rfl,ha⟩
 |b::l,a,ha,hl=>by
  obtain⟨h1,h2⟩:=hg a b ha (hl b (by simp))
  rw [List.foldl_cons,List.foldl_cons,h1]
  exact DT hg l _ h2 fun c hc=>hl c (by simp [hc])
theorem Kt(y:Int)(h:0≤y∧y < 65536):aQ y=BO y∧0≤BO y∧BO y < 65536:=by
 have hw:IntKind.i64.wrap (y * 2)=y * 2:=aN (by omega) (by omega)
 have ht:Int.tmod (y * 2) 65536=y * 2 % 65536:=Int.tmod_eq_emod_of_nonneg (by omega)
 simp only [BO,aQ,em,gC,gd,hw,ht]
 by_cases h2:32768≤y
 ·rw [cZ (show (65536:Int)≤y * 2 by omega),cZ h2]
  exact⟨rfl,FH (by omega) (by omega) (by omega) (by omega)⟩
 ·rw [Bf (show y * 2 < 65536 by omega),Bf (show y < 32768 by omega)]
  simp only [cond_false]
  omega
theorem Lj(y:Int)(h:0≤y∧y < 65536):it8 aQ y=it8 BO y∧0≤it8 BO y∧it8 BO y < 65536:=
 DT (I:=fun y=>0≤y∧y < 65536) (J:=fun _:Nat=>True) (g:=fun a _=>aQ a) (h:=fun a _=>BO a) (fun a _ ha _=>Kt a ha) (List.range 8) y h (fun _ _=>trivial)
theorem Ku(r n:Int)(h:0≤r∧r < 65536)(hn:0≤n∧n≤255):0≤AV r n∧AV r n < 65536:=by
 have hw:IntKind.i64.wrap (256 * n)=256 * n:=aN (by omega) (by omega)
 simp only [AV,hw]
 exact FH h.1 h.2 (by omega) (by omega)
theorem Ks(r n:Int)(h:0≤r∧r < 65536)(hn:0≤n∧n≤255):it8 aQ (AV r n)=HI r n∧0≤HI r n∧HI r n < 65536:=
 Lj _ (Ku r n h hn)
theorem IC(l:List Int)(h:byA l=true):l.foldl (fun r n=>it8 aQ (AV r n)) 65535=cX l∧0≤cX l∧cX l < 65536:=
 DT (I:=fun y=>0≤y∧y < 65536) (J:=fun b=>0≤b∧b≤255) (fun a b ha hb=>Ks a b ha hb) l 65535 (by omega) (kR.1 h)
theorem KA(r:Int):bJ.fin ((0:Int),r)=true∧bJ.res ((0:Int),r)=(0,((8:Int),it8 BO r)):=by
 have fJ:=bJ.walkK (fun i a=>((i:Int),a)) (fun(_:Nat) a=> .inr (BO a)) 0 (fun _ _=>True) (List.range 8) (fun i b a hb _=>⟨?_,fun _ _=>trivial⟩) (fun a _=> ?_) r trivial (by simp)
 ·rw [gv (g:=fun a _=>BO a) (fun b a=>rfl)]at fJ
  exact fJ
 ·obtain⟨rfl,cH⟩:=nA hb
  have hw:IntKind.i64.wrap ((b:Int) + 1)=((b + 1:Nat):Int):=by rw [aN (by omega) (by omega)];omega
  simp [gd,lX,lY,lZ,gC,kX,bJ,LT.out,allT,jl (show (b:Int) < 8 by omega),neI,hw,BO]
 ·simp [gd,lX,lY,lZ,gC,kX,bJ,LT.out]
theorem Kz(r:Int):bI.fin ((0:Int),r)=true∧bI.res ((0:Int),r)=(0,((8:Int),it8 aQ r)):=by
 have fJ:=bI.walkK (fun i a=>((i:Int),a)) (fun(_:Nat) a=> .inr (aQ a)) 0 (fun _ _=>True) (List.range 8) (fun i b a hb _=>⟨?_,fun _ _=>trivial⟩) (fun a _=> ?_) r trivial (by simp)
 ·rw [gv (g:=fun a _=>aQ a) (fun b a=>rfl)]at fJ
  exact fJ
 ·obtain⟨rfl,cH⟩:=nA hb
  have hw:IntKind.i64.wrap ((b:Int) + 1)=((b + 1:Nat):Int):=by rw [aN (by omega) (by omega)];omega
  have hn:neI (65536:Int) 0=true:=by decide
  simp only [bI,kW,lI,lJ,lK,LT.out,allT,jl (show (b:Int) < 8 by omega),hn,Bool.or_true,hw,cond_true]
 ·simp [em,lI,lJ,lK,aQ,kW,bI,LT.out]
theorem Ir(l:List Int)(hn:leN l.length 9223372036854775807=true):sA l=cX l∧sB l=true:=by
 have hn:=eq.1 hn
 have fJ:=bV.walkK (fun i a=>((i:Int),a,l)) (fun b a=> .inr (HI a b)) 0 (fun _ _=>True) l (fun i b a hb _=>⟨?_,fun _ _=>trivial⟩) (fun a _=> ?_) 65535 trivial (by simp only [bV];omega)
 ·rw [gv (g:=HI) (fun b a=>rfl)]at fJ
  obtain⟨k1,k2⟩:=fJ
  have k1':bV.fin (nD l)=true:=k1
  have k2':bV.res (nD l)=_:=k2
  simp only [sA,sB,k1',k2',allT,cond_true,and_true]
  rfl
 ·have cH:=(List.getElem?_eq_some_iff.1 hb).1
  have kh: ∀ d,Option.getD l[i]? d=b:=fun d=>by rw [hb];rfl
  have hw:=sD cH hn
  have kA:ltI (i:Int) (l.length:Int)=true:=jl (by omega)
  have xM:leI (0:Int) (i:Int)=true:=cZ (by omega)
  have mJ:ltN i l.length=true:=mM cH
  obtain⟨w1,w2⟩:=KA (AV a b)
  have e0:iG (i:Int) a l=((0:Int),AV a b):=by simp only [iG,Int.toNat_natCast,kh,AV]
  simp only [bV,nZ,lc,po,pp,pq,pt,pu,LT.out,allT,Int.toNat_natCast,kA,xM,mJ,e0,w1,w2,hw,cond_true,HI]
 ·simp [iG,lc,po,pp,pq,pt,pu,nZ,bV,LT.out]
def wy:List SV→List Entry→Option Out
 | [.one ⟨false,[.ref 0]⟩],[.row false 2 (.int .i64) x0]=>some ⟨.one ⟨false,[.val (.int .i64 (cX x0))]⟩,[.row false 2 Mr x0],[],[leN x0.length 9223372036854775807]⟩
 |_,_=>none
def jF:PF prog:=PF.alt Dh wy (by
 intro args es o h bk;unfold wy at h;split at h
 ·rename_i x0
  cases h
  have bk:=ki bk
  have hh:=Ir x0 bk
  obtain⟨e0,en⟩:=hh
  exact iw rfl (fV en) (by simp only [e0] <;> rfl) rfl rfl
 ·cases h)
theorem HX(l:List Int)(hn:(byA l&&leN l.length 9223372036854775807)=true):sq l=cX l∧sr l=true:=by
 simp only [Bool.and_eq_true]at hn
 have hb0:=kR.1 hn.1
 have hc:=IC l hn.1
 have hn:=eq.1 hn.2
 have fJ:=bU.walkK (fun i a=>((i:Int),(l.length:Int),a,l)) (fun b a=> .inr (it8 aQ (AV a b))) 0 (fun _ _=>True) l (fun i b a hb _=>⟨?_,fun _ _=>trivial⟩) (fun a _=> ?_) 65535 trivial (by simp only [bU];omega)
 ·rw [gv (g:=fun a b=>it8 aQ (AV a b)) (fun b a=>rfl),hc.1]at fJ
  obtain⟨k1,k2⟩:=fJ
  have k1':bU.fin (nu l)=true:=k1
  have k2':bU.res (nu l)=_:=k2
  simp only [sq,sr,k1',k2',allT,cond_true,and_true]
 ·have cH:=(List.getElem?_eq_some_iff.1 hb).1
  have kh: ∀ d,Option.getD l[i]? d=b:=fun d=>by rw [hb];rfl
  have hw:=sD cH hn
  have kA:ltI (i:Int) (l.length:Int)=true:=jl (by omega)
  have xM:leI (0:Int) (i:Int)=true:=cZ (by omega)
  have mJ:ltN i l.length=true:=mM cH
  obtain⟨w1,w2⟩:=Kz (AV a b)
  have e0:iy (i:Int) a l=((0:Int),AV a b):=by simp only [iy,Int.toNat_natCast,kh,AV]
  simp only [bU,nX,oR,oS,oT,oU,oV,oW,oX,LT.out,allT,Int.toNat_natCast,kA,xM,mJ,e0,w1,w2,hw,cond_true]
 ·simp [iy,oR,oS,oT,oU,oV,oW,oX,nX,bU,LT.out]
def wu:List SV→List Entry→Option Out
 | [.one ⟨false,[.ref 0]⟩],[.row false 2 (.int .i64) x0]=>some ⟨.one ⟨false,[.val (.int .i64 (cX x0))]⟩,[.row false 2 Mr x0],[],[byA x0&&leN x0.length 9223372036854775807]⟩
 |_,_=>none
def jE:PF prog:=PF.alt Dd wu (by
 intro args es o h bk;unfold wu at h;split at h
 ·rename_i x0
  cases h
  have bk:=ki bk
  have hh:=HX x0 bk
  obtain⟨e0,en⟩:=hh
  exact iw rfl (fV en) (by simp only [e0] <;> rfl) rfl rfl
 ·cases h)
def Bv(n c:Int):List Int:=bif eqI c 4 then b4 n else b2 n
def okC(n c:Int):Bool:=inR n 0 4294967295&&(eqI c 4||eqI c 2)
theorem yD{n c:Int}:okC n c=true↔(0≤n∧n≤4294967295)∧(c=4∨c=2):=by simp only [okC,Bool.and_eq_true,Bool.or_eq_true,yx,eqI,decide_eq_true_eq,beq_iff_eq]
theorem HD(n c:Int)(h:okC n c=true):pO n c=Bv n c∧pP n c=true:=by
 obtain⟨⟨h0,h1⟩,hc⟩:=yD.1 h
 have main: ∀ m:Nat,2≤m→m≤4→aZ.fin ((0:Int),(m:Int),(m:Int),n,List.replicate m 0)=true∧
   aZ.res ((0:Int),(m:Int),(m:Int),n,List.replicate m 0)=(0,((m:Int),(m:Int),(m:Int),n,(List.range m).foldl (fun(a:List Int) (b:Nat)=>a.set (m - 1 - b) (n / 2 ^ (8 * b) % 256)) (List.replicate m 0))):=by
  intro m m0 m1
  have fJ:=aZ.walkK (fun i a=>((i:Int),(m:Int),(m:Int),n,a)) (fun(b:Nat) (a:List Int)=> .inr (a.set (m - 1 - b) (n / 2 ^ (8 * b) % 256))) 0 (fun _ a=>a.length=m) (List.range m) (fun i b a hb hI=>⟨?_,fun a' ha=> ?_⟩) (fun a _=> ?_) (List.replicate m 0) (by simp) (by simp only [aZ,List.length_range];omega)
  ·rw [gv (g:=fun(a:List Int) (b:Nat)=>a.set (m - 1 - b) (n / 2 ^ (8 * b) % 256)) (fun b a=>rfl)]at fJ
   simp only [List.length_range,Nat.zero_add]at fJ
   exact fJ
  ·obtain⟨rfl,cH⟩:=nA hb
   have hw:IntKind.i64.wrap ((b:Int) + 1)=((b + 1:Nat):Int):=by rw [aN (by omega) (by omega)];omega
   have hw1:IntKind.i64.wrap (8 * (b:Int))=((8 * b:Nat):Int):=by rw [aN (by omega) (by omega)];omega
   have hw2:IntKind.i64.wrap ((m:Int) - 1)=(m:Int) - 1:=aN (by omega) (by omega)
   have hw3:IntKind.i64.wrap ((m:Int) - 1 - (b:Int))=((m - 1 - b:Nat):Int):=by rw [aN (by omega) (by omega)];omega
   have t1:ltI (b:Int) (m:Int)=true:=jl (by omega)
   have t2:leI (0:Int) ((8 * b:Nat):Int)=true:=cZ (by omega)
   have t3:leI (0:Int) ((m - 1 - b:Nat):Int)=true:=cZ (by omega)
   have t4:ltI ((m - 1 - b:Nat):Int) (a.length:Int)=true:=jl (by omega)
   have t5:ltN (m - 1 - b) a.length=true:=mM (by omega)
   have hv:=JH h0 h1 (8 * b) (by omega)
   simp only [aZ,pe,pQ,pR,pS,pT,pU,pV,pW,kU,gJ,LT.out,allT,hw,hw1,hw2,hw3,t1,t2,t3,t4,t5,Int.toNat_natCast,hv,cond_true]
  ·simp only [Sum.inr.injEq]at ha;subst ha;simpa using hI
  ·simp [kU,gJ,pQ,pR,pS,pT,pU,pV,pW,pe,aZ,LT.out,List.length_range]
 rcases hc with rfl | rfl
 ·obtain⟨k1,k2⟩:=main 4 (by omega) (by omega)
  have k1':aZ.fin (jD n 4)=true:=k1
  have k2':aZ.res (jD n 4)=_:=k2
  refine⟨?_,?_⟩
  ·simp only [pO,k2']
   show [n / 2 ^ (8 * 3) % 256,n / 2 ^ (8 * 2) % 256,n / 2 ^ (8 * 1) % 256,n / 2 ^ (8 * 0) % 256]=b4 n
   simp [b4]
  ·simp only [pP,k1',allT];decide
 ·obtain⟨k1,k2⟩:=main 2 (by omega) (by omega)
  have k1':aZ.fin (jD n 2)=true:=k1
  have k2':aZ.res (jD n 2)=_:=k2
  refine⟨?_,?_⟩
  ·simp only [pO,k2']
   show [n / 2 ^ (8 * 1) % 256,n / 2 ^ (8 * 0) % 256]=b2 n
   simp [b2]
  ·simp only [pP,k1',allT];decide
def xk:List SV→List Entry→Option Out
 | [.one ⟨false,[.val (.int .i64 x0)]⟩,.one ⟨false,[.val (.int .i64 x1)]⟩],[]=>some ⟨.one ⟨false,[.ref 0]⟩,[],[.row true 2 Mr (Bv x0 x1)],[okC x0 x1]⟩
 |_,_=>none
def Ej:PF prog:=PF.alt Eq xk (by
 intro args es o h bk;unfold xk at h;split at h
 ·rename_i x0 x1
  cases h
  have bk:=ki bk
  have hh:=HD x0 x1 bk
  obtain⟨e0,en⟩:=hh
  exact iw rfl (fV en) rfl rfl (by simp only [e0] <;> rfl)
 ·cases h)
theorem Hs{x:Int}(h0:0≤x)(h1:x≤9223372036854775807):IntKind.u64.wrap x=x:=by
 have hb:IntKind.u64.bits=64:=rfl
 have hs:IntKind.u64.signed=false:=rfl
 simp only [IntKind.wrap,hb,hs,Bool.false_and]
 simp
 omega
def As(l:List Int)(n c:Int):List Int:=l++Bv n c
theorem Ln(n c:Int)(l:List Int)(h:(okC n c&&leN l.length 1000000)=true):rM n c l=As l n c∧rN n c l=true:=by
 simp only [Bool.and_eq_true,eq]at h
 obtain⟨⟨h0,h1⟩,hc⟩:=yD.1 h.1
 have hl:=h.2
 have main: ∀ m:Nat,2≤m→m≤4→bn.fin ((m:Int) - 1,n,l)=true∧
   bn.res ((m:Int) - 1,n,l)=(0,((-1:Int),n,(List.range m).foldl (fun(a:List Int) (b:Nat)=>a++ [n / 2 ^ (8 * (m - 1 - b)) % 256]) l)):=by
  intro m m0 m1
  have fJ:=bn.walkK (fun i a=>((m:Int) - 1 - (i:Int),n,a)) (fun(b:Nat) (a:List Int)=> .inr (a++ [n / 2 ^ (8 * (m - 1 - b)) % 256])) 0 (fun i a=>a.length=l.length + i) (List.range m) (fun i b a hb hI=>⟨?_,fun a' ha=> ?_⟩) (fun a _=> ?_) l (by simp) (by simp only [bn,List.length_range];omega)
  ·rw [gv (g:=fun(a:List Int) (b:Nat)=>a++ [n / 2 ^ (8 * (m - 1 - b)) % 256]) (fun b a=>rfl)]at fJ
   simp only [List.length_range,Nat.zero_add]at fJ
   rw [show (m:Int) - 1 - (m:Int)= -1 by omega,show (m:Int) - 1 - ((0:Nat):Int)=(m:Int) - 1 by omega]at fJ
   exact fJ
  ·obtain⟨rfl,cH⟩:=nA hb
   have hw:IntKind.i64.wrap ((m:Int) - 1 - (b:Int) - 1)=(m:Int) - 1 - ((b + 1:Nat):Int):=by rw [aN (by omega) (by omega)];omega
   have hw1:IntKind.i64.wrap (8 * ((m:Int) - 1 - (b:Int)))=((8 * (m - 1 - b):Nat):Int):=by rw [aN (by omega) (by omega)];omega
   have hw2:IntKind.u64.wrap ((8 * (m - 1 - b):Nat):Int)=((8 * (m - 1 - b):Nat):Int):=Hs (by omega) (by omega)
   have t1:leI (0:Int) ((m:Int) - 1 - (b:Int))=true:=cZ (by omega)
   have t2:leI (0:Int) ((8 * (m - 1 - b):Nat):Int)=true:=cZ (by omega)
   have t3:leN (a.length + 1) 9223372036854775807=true:=eU (by omega)
   have t4:leN ((a.length + 1) * 8) 140737488355328=true:=eU (by omega)
   have hv:=JH h0 h1 (8 * (m - 1 - b)) (by omega)
   simp only [bn,qm,rE,vo,vp,vq,vr,vt,qN,mD,LT.out,allT,List.length_cons,List.length_nil,Nat.zero_add,hw,hw1,hw2,t1,t2,t3,t4,Int.toNat_natCast,hv,cond_true]
  ·simp only [Sum.inr.injEq]at ha;subst ha;simp [hI];omega
  ·have hf:leI 0 ((m:Int) - 1 - (m:Int))=false:=Bf (by omega)
   simp only [bn,qm,rE,LT.out,List.length_range,hf,cond_false]
 rcases hc with rfl | rfl
 ·obtain⟨k1,k2⟩:=main 4 (by omega) (by omega)
  have k1':bn.fin (kP n 4 l)=true:=k1
  have k2':bn.res (kP n 4 l)=_:=k2
  refine⟨?_,?_⟩
  ·simp only [rM,k2']
   show (((l++ [n / 2 ^ (8 * 3) % 256])++ [n / 2 ^ (8 * 2) % 256])++ [n / 2 ^ (8 * 1) % 256])++ [n / 2 ^ (8 * 0) % 256]=l++b4 n
   simp [b4]
  ·simp only [rN,k1',allT];decide
 ·obtain⟨k1,k2⟩:=main 2 (by omega) (by omega)
  have k1':bn.fin (kP n 2 l)=true:=k1
  have k2':bn.res (kP n 2 l)=_:=k2
  refine⟨?_,?_⟩
  ·simp only [rM,k2']
   show (l++ [n / 2 ^ (8 * 1) % 256])++ [n / 2 ^ (8 * 0) % 256]=l++b2 n
   simp [b2]
  ·simp only [rN,k1',allT];decide
def zq:List SV→List Entry→Option Out
 | [.one ⟨false,[.ref 0]⟩,.one ⟨false,[.val (.int .i64 x0)]⟩,.one ⟨false,[.val (.int .i64 x1)]⟩],[.row true 2 (.int .i64) x2]=>some ⟨.one ⟨false,[.ref 1]⟩,[.gone],[.row true 2 Mr (As x2 x0 x1)],[okC x0 x1&&leN x2.length 1000000]⟩
 |_,_=>none
def uo:PF prog:=PF.alt EU zq (by
 intro args es o h bk;unfold zq at h;split at h
 ·rename_i x0 x1 x2
  cases h
  have bk:=ki bk
  have hh:=Ln x0 x1 x2 bk
  obtain⟨e0,en⟩:=hh
  exact iw rfl (fV en) rfl rfl (by simp only [e0] <;> rfl)
 ·cases h)
theorem IO(i:Nat)(h:i≤3):(256:Int) ^ i≤16777216:=by
 match i,h with
 |0,_=>decide
 |1,_=>decide
 |2,_=>decide
 |3,_=>decide
theorem GY{a b:Int}(h:0≤a∧a≤4294967295)(hb:0≤b∧b≤255):IntKind.i64.wrap (IntKind.i64.wrap (256 * a) + b)=256 * a + b:=by
 rw [aN (x:=256 * a) (by omega) (by omega),aN (by omega) (by omega)]
theorem Ke(l:List Int)(h:(byA l&&leN l.length 4)=true):ss l=num l∧su l=true:=by
 simp only [Bool.and_eq_true,eq]at h
 have hb0:=kR.1 h.1
 have hl:=h.2
 have fJ:=cu.walkK (fun i a=>((i:Int),(l.length:Int),a,l)) (fun b a=> .inr (256 * a + b)) 0 (fun i a=>0≤a∧a < 256 ^ i) l (fun i b a hb hI=> ?_) (fun a _=> ?_) 0 (by simp) (by omega)
 ·rw [gv (g:=fun(a b:Int)=>256 * a + b) (fun b a=>rfl)]at fJ
  obtain⟨k1,k2⟩:=fJ
  have k1':cu.fin (nv l)=true:=k1
  have k2':cu.res (nv l)=_:=k2
  simp only [ss,su,k1',k2',allT,cond_true,and_true]
  rfl
 ·have cH:=(List.getElem?_eq_some_iff.1 hb).1
  have kh: ∀ d,Option.getD l[i]? d=b:=fun d=>by rw [hb];rfl
  have hw:=sD cH (by omega)
  have kA:ltI (i:Int) (l.length:Int)=true:=jl (by omega)
  have xM:leI (0:Int) (i:Int)=true:=cZ (by omega)
  have mJ:ltN i l.length=true:=mM cH
  have hbb:=hb0 b (List.mem_of_getElem? hb)
  have hp:(256:Int) ^ i≤16777216:=IO i (by omega)
  have hs:=GY (a:=a) (b:=b) ⟨hI.1,by omega⟩ hbb
  refine⟨?_,fun a' ha=> ?_⟩
  ·simp only [oY,oZ,pa,pb,pc,pd,nY,cu,LT.out,allT,Int.toNat_natCast,kA,xM,mJ,kh,hw,hs,cond_true]
  ·simp only [Sum.inr.injEq]at ha;subst ha;rw [Int.pow_succ];omega
 ·simp [oY,oZ,pa,pb,pc,pd,nY,cu,LT.out]
def wv:List SV→List Entry→Option Out
 | [.one ⟨false,[.ref 0]⟩],[.row false 2 (.int .i64) x0]=>some ⟨.one ⟨false,[.val (.int .i64 (num x0))]⟩,[.row false 2 Mr x0],[],[byA x0&&leN x0.length 4]⟩
 |_,_=>none
def sw:PF prog:=PF.alt De wv (by
 intro args es o h bk;unfold wv at h;split at h
 ·rename_i x0
  cases h
  have bk:=ki bk
  have hh:=Ke x0 bk
  obtain⟨e0,en⟩:=hh
  exact iw rfl (fV en) (by simp only [e0] <;> rfl) rfl rfl
 ·cases h)
theorem Lh(p c:Int)(l:List Int)(h:(byA l&&(inR p 0 100&&(inR c 0 4&&leI (p + c) (l.length:Int))))=true):uv p c l=num ((l.drop p.toNat).take c.toNat)∧uw p c l=true:=by
 simp only [Bool.and_eq_true,yx,Do]at h
 obtain⟨h0,hp,hc,hl⟩:=h
 have hb0:=kR.1 h0
 have dK:((l.drop p.toNat).take c.toNat).length=c.toNat:=by rw [List.length_take,List.length_drop];omega
 have fJ:=da.walkK (fun i a=>(p + (i:Int),p,c,a,l)) (fun b a=> .inr (256 * a + b)) 0 (fun i a=>0≤a∧a < 256 ^ i) ((l.drop p.toNat).take c.toNat) (fun i b a hb hI=> ?_) (fun a _=> ?_) 0 (by simp) (by omega)
 ·rw [gv (g:=fun(a b:Int)=>256 * a + b) (fun b a=>rfl)]at fJ
  rw [show p + ((0:Nat):Int)=p by omega]at fJ
  obtain⟨k1,k2⟩:=fJ
  have k1':da.fin (qM p c l)=true:=k1
  have k2':da.res (qM p c l)=_:=k2
  simp only [uv,uw,k1',k2',allT,cond_true,and_true]
  rfl
 ·have cH:=(List.getElem?_eq_some_iff.1 hb).1
  rw [dK]at cH
  rw [List.getElem?_take_of_lt cH,List.getElem?_drop]at hb
  have e1:(p + (i:Int)).toNat=p.toNat + i:=by omega
  have kh: ∀ d,Option.getD l[(p + (i:Int)).toNat]? d=b:=fun d=>by rw [e1,hb];rfl
  have hw:IntKind.i64.wrap (p + (i:Int) + 1)=p + ((i + 1:Nat):Int):=by rw [aN (by omega) (by omega)];omega
  have hw2:IntKind.i64.wrap (p + c)=p + c:=aN (by omega) (by omega)
  have kA:ltI (p + (i:Int)) (p + c)=true:=jl (by omega)
  have xM:leI (0:Int) (p + (i:Int))=true:=cZ (by omega)
  have hlt2:ltI (p + (i:Int)) (l.length:Int)=true:=jl (by omega)
  have mJ:ltN (p + (i:Int)).toNat l.length=true:=mM (by omega)
  have hbb:=hb0 b (List.mem_of_getElem? hb)
  have hq:(256:Int) ^ i≤16777216:=IO i (by omega)
  have hs:=GY (a:=a) (b:=b) ⟨hI.1,by omega⟩ hbb
  refine⟨?_,fun a' ha=> ?_⟩
  ·simp only [rC,vj,vk,vl,vm,vn,ql,da,LT.out,allT,hw2,kA,xM,hlt2,mJ,kh,hw,hs,cond_true]
  ·simp only [Sum.inr.injEq]at ha;subst ha;rw [Int.pow_succ];omega
 ·have hw2:IntKind.i64.wrap (p + c)=p + c:=aN (by omega) (by omega)
  have hf:ltI (p + (((l.drop p.toNat).take c.toNat).length:Int)) (p + c)=false:=CD (by rw [dK];omega)
  simp only [da,ql,rC,LT.out,hw2,hf,cond_false]
def zp:List SV→List Entry→Option Out
 | [.one ⟨false,[.ref 0]⟩,.one ⟨false,[.val (.int .i64 x0)]⟩,.one ⟨false,[.val (.int .i64 x1)]⟩],[.row false 2 (.int .i64) x2]=>some ⟨.one ⟨false,[.val (.int .i64 (num ((x2.drop x0.toNat).take x1.toNat)))]⟩,[.row false 2 Mr x2],[],[byA x2&&(inR x0 0 100&&(inR x1 0 4&&leI (x0 + x1) (x2.length:Int)))]⟩
 |_,_=>none
def um:PF prog:=PF.alt ET zp (by
 intro args es o h bk;unfold zp at h;split at h
 ·rename_i x0 x1 x2
  cases h
  have bk:=ki bk
  have hh:=Lh x0 x1 x2 bk
  obtain⟨e0,en⟩:=hh
  exact iw rfl (fV en) (by simp only [e0] <;> rfl) rfl rfl
 ·cases h)
section
variable (x0:Int)
def am:Int:=IntKind.wrap .i64 (x0 - IntKind.wrap .i64 ((↑(0:Nat):Int) - (↑(0:Nat):Int)))
def ir:Bool:= !ltI 0 (am x0)||leI 0 (↑(0:Nat):Int)
def fF:List Int:=bif ltI 0 (am x0)then List.take (Int.toNat (↑(0:Nat):Int)) (List.replicate (Int.toNat (am x0)) (0:Int))else []
def fG:Bool:=allT [!ltI x0 0,!ltI 0 (am x0)||leI 0 0,ir x0,!ltI 0 (am x0)||leI (↑(0:Nat):Int) 0,!ltI 0 (am x0)||leI 1 (am x0),!ltI 0 (am x0)||leI (am x0) 9223372036854775807,!ltI 0 (am x0)||leI (am x0 * (↑(8:Nat):Int)) 281474976710656,ir x0,!ltI 0 (am x0)||leI (↑(0:Nat):Int) (↑(List.length (List.replicate (Int.toNat (am x0)) (0:Int))):Int)]
end
def ml:List SV→List Entry→Option Out
 | [.one ⟨false,[.val (.slice none 0 0)]⟩,.one ⟨false,[.val (.int .i64 x0)]⟩],[]=>some ⟨.one ⟨false,[.ref 0]⟩,[],[.row true 2 Mr (fF x0)],[fG x0]⟩
 |_,_=>none
def iN:PF prog:=PF.ofG prog [PF.raw prog] [] bA 178 f178 func178 (fun c _=>LOk.nil c) ml (by
 intro vs es r h;unfold ml at h;split at h
 ·cases h;kernel_rfl
 ·cases h)
abbrev aE:=Int×Int×Int×List (List Int)
section
variable (y0 y1 y2:Int)(y3:List (List Int))
def br:Int:=IntKind.wrap .i64 (y2 + (↑(List.length (Option.getD y3[Int.toNat y0]? (kf Mq))):Int))
def cU:Bool:=ltI y0 y1
def er:Bool:=leI 0 y0
def et:Bool:=ltI y0 (↑y3.length:Int)
def eu:Bool:=ltN y0.toNat y3.length
def ew:Bool:= !ltI (br y0 y2 y3) 0
def gR:Int:=IntKind.wrap .i64 (y0 + (1:Int))
def ex:Int:=br y0 y2 y3
end
def qT:aE→List (Nat×SV)
 |(y0,y1,y2,_)=> [(11,(.one ⟨false,[.val (.int .i64 y0)]⟩)),(10,(.one ⟨false,[.val (.int .i64 y1)]⟩)),(9,(.one ⟨false,[.ref 0]⟩)),(3,(.one ⟨false,[.val (.int .i64 y2)]⟩))]
def qR:aE→List (Nat×Entry)
 |(_,_,_,y3)=> [(0,(.row false 22 Mq y3))]
def qX:Nat→aE→List (Nat×SV)
 |_,(_,_,y2,_)=> [(3,(.one ⟨false,[.val (.int .i64 y2)]⟩))]
def qV:Nat→aE→List (Nat×Entry)
 |_,(_,_,_,y3)=> [(0,(.row false 22 Mq y3))]
def cF:aE→LT aE
 |(y0,y1,y2,y3)=> .ite (cU y0 y1) (.need [er y0,et y0 y3,eu y0 y3] (.need [ew y0 y2 y3] (.nrm ((gR y0),y1,ex y0 y2 y3,y3) [(0,0)]))) (.ext 0 [(0,0)])
def gy(s:St):Option aE:=
 (match s.look 11 with
 |some ⟨none,.one ⟨false,[.val (.int .i64 y0)]⟩⟩=>
 (match s.look 10 with
 |some ⟨none,.one ⟨false,[.val (.int .i64 y1)]⟩⟩=>
 (match s.look 9 with
 |some ⟨none,.one ⟨false,[.ref 0]⟩⟩=>
 (match s.look 3 with
 |some ⟨none,.one ⟨false,[.val (.int .i64 y2)]⟩⟩=>
 (match s.ent 0 with
 |some (.row false 22 (.sl 2 (.int .i64)) y3)=>
 some (y0,y1,y2,y3)
 |_=>none)
 |_=>none)
 |_=>none)
 |_=>none)
 |_=>none)
def ap:Lp aE where
 h:=⟨[12,13,14,5,15,16,17,18,3,19,20,21,22,11],[0],[],[]⟩
 JL:=qT
 JE:=qR
 XL:=qX
 XE:=qV
 q:=fun j=>match j with | _=> .exit 0
 tags:= [0]
 lt:=cF
 fuel:=fun(y0,y1,y2,y3)=>y0.natAbs + y1.natAbs + y2.natAbs + y3.length
 fix:=fun(_,y1,_,y3) (y0,_,y2,_)=>(y0,y1,y2,y3)
 σ:= [(0,0)]
 rd:=gy
theorem pF:LoopOk prog (fun k=>Nat.blt k Try.f173.ntmps) ap.F (bT f173 0):=by
 refine Lp.ok (tbl:= [iN]) (lf:= []) bA ap (by kernel_rfl) (LOk.nil _) (fun _=>rfl) (fun _ _=>rfl) ?_ ?_ ?_ ?_ (fun _=>rfl) ?_
 ·rintro⟨y0,y1,y2,y3⟩;kernel_rfl
 ·rintro⟨y0,y1,y2,y3⟩;kernel_rfl
 ·intro s x h
  have h:gy s=some x:=h
  unfold gy at h
  repeat' split at h
  all_goals cases h
  constructor<;>repeat(first|refine af (by assumption) rfl ?_|refine aP rfl (by assumption) rfl ?_|exact rfl)
 ·rintro⟨y0,y1,y2,y3⟩;kernel_rfl
 ·rintro⟨y0,y1,y2,y3⟩ z;exact(And.intro rfl trivial)
abbrev aF:=Int×Int×List (List Int)×List Int
section
variable (y0 y1:Int)(y2:List (List Int))(y3:List Int)
def aM:List Int:=Option.getD y2[Int.toNat y0]? (kf Mq)
def cV:Bool:=ltI y0 y1
def ey:Bool:=leI 0 y0
def ez:Bool:=ltI y0 (↑y2.length:Int)
def eA:Bool:=ltN y0.toNat y2.length
def eB:Bool:=leN (List.length y3 + List.length (aM y0 y2)) 9223372036854775807
def eC:Bool:=leN ((List.length y3 + List.length (aM y0 y2)) * 8) 140737488355328
def gS:Int:=IntKind.wrap .i64 (y0 + (1:Int))
def eD:List Int:=y3++aM y0 y2
end
def qU:aF→List (Nat×SV)
 |(y0,y1,_,_)=> [(27,(.one ⟨false,[.val (.int .i64 y0)]⟩)),(26,(.one ⟨false,[.val (.int .i64 y1)]⟩)),(25,(.one ⟨false,[.ref 0]⟩)),(6,(.one ⟨false,[.ref 1]⟩))]
def qS:aF→List (Nat×Entry)
 |(_,_,y2,y3)=> [(0,(.row false 22 Mq y2)),(1,(.row true 2 Mr y3))]
def qY:Nat→aF→List (Nat×SV)
 |_,(_,_,_,_)=> [(6,(.one ⟨false,[.ref 1]⟩))]
def qW:Nat→aF→List (Nat×Entry)
 |_,(_,_,y2,y3)=> [(0,(.row false 22 Mq y2)),(1,(.row true 2 Mr y3))]
def cG:aF→LT aF
 |(y0,y1,y2,y3)=> .ite (cV y0 y1) (.need [ey y0,ez y0 y2,eA y0 y2] (.need [eB y0 y2 y3,eC y0 y2 y3] (.nrm ((gS y0),y1,y2,(eD y0 y2 y3)) [(0,0),(1,448)]))) (.ext 0 [(0,0),(1,1)])
def gz(s:St):Option aF:=
 (match s.look 27 with
 |some ⟨none,.one ⟨false,[.val (.int .i64 y0)]⟩⟩=>
 (match s.look 26 with
 |some ⟨none,.one ⟨false,[.val (.int .i64 y1)]⟩⟩=>
 (match s.look 25 with
 |some ⟨none,.one ⟨false,[.ref 0]⟩⟩=>
 (match s.look 6 with
 |some ⟨none,.one ⟨false,[.ref 576]⟩⟩=>
 (match s.ent 0 with
 |some (.row false 22 (.sl 2 (.int .i64)) y2)=>
 (match s.ent 576 with
 |some (.row true 2 (.int .i64) y3)=>
 some (y0,y1,y2,y3)
 |_=>none)
 |_=>none)
 |_=>none)
 |_=>none)
 |_=>none)
 |_=>none)
def aq:Lp aF where
 h:=⟨[28,29,30,8,31,32,33,6,34,27],[0],[1],[]⟩
 JL:=qU
 JE:=qS
 XL:=qY
 XE:=qW
 q:=fun j=>match j with | _=> .exit 2
 tags:= [0]
 lt:=cG
 fuel:=fun(y0,y1,y2,y3)=>y0.natAbs + y1.natAbs + y2.length + y3.length
 fix:=fun(_,y1,y2,_) (y0,_,_,y3)=>(y0,y1,y2,y3)
 σ:= [(0,0),(1,576)]
 rd:=gz
theorem pG:LoopOk prog (fun k=>Nat.blt k Try.f173.ntmps) aq.F (bT f173 1):=by
 refine Lp.ok (tbl:= [iN]) (lf:= []) bA aq (by kernel_rfl) (LOk.nil _) (fun _=>rfl) (fun _ _=>rfl) ?_ ?_ ?_ ?_ (fun _=>rfl) ?_
 ·rintro⟨y0,y1,y2,y3⟩;kernel_rfl
 ·rintro⟨y0,y1,y2,y3⟩;kernel_rfl
 ·intro s x h
  have h:gz s=some x:=h
  unfold gz at h
  repeat' split at h
  all_goals cases h
  constructor<;>repeat(first|refine af (by assumption) rfl ?_|refine aP rfl (by assumption) rfl ?_|exact rfl)
 ·rintro⟨y0,y1,y2,y3⟩;kernel_rfl
 ·rintro⟨y0,y1,y2,y3⟩ z;exact(And.intro rfl trivial)
section
variable (x0:List (List Int))
def eY:Int×Int×Int×List (List Int):=((0:Int),(↑x0.length:Int),(0:Int),x0)
def eZ:Int:=((Lp.res ap (eY x0)).2.2.2).1
def fa:Int×Int×List (List Int)×List Int:=((0:Int),(↑x0.length:Int),x0,fF (eZ x0))
def iO:List Int:=(Lp.res aq (fa x0)).2.2.2.2
def iP:Bool:=allT [Lp.fin ap (eY x0),fG (eZ x0),Lp.fin aq (fa x0)]
end
def mj:List SV→List Entry→Option Out
 | [.one ⟨false,[.ref 0]⟩],[.row false 22 (.sl 2 (.int .i64)) x0]=>some ⟨.one ⟨false,[.ref 1]⟩,[.row false 22 (CTy.sl (2:TypeId) Mr) x0],[.row true 2 Mr (iO x0)],[iP x0]⟩
 |_,_=>none
def sU:PF prog:=PF.ofG prog [iN] [ap.F,aq.F] bA 173 f173 func173 (LOk.fnT (l:= [bT f173 0,bT f173 1]) (by kernel_rfl) (.cons pF (.cons pG (.nil _)))) mj (by
 intro vs es r h;unfold mj at h;split at h
 ·cases h;kernel_rfl
 ·cases h)
section
variable (x0 x1 x2 x3:Int)
def iq:List Int:=As [(82:Int),x1] x0 4
def gg:List Int:=As (As (iq x0 x1) x2 4) x3 2
def nG:List Int:= [(82:Int),x1,x0 / (16777216:Int) % (256:Int),x0 / (65536:Int) % (256:Int),x0 / (256:Int) % (256:Int),x0 % (256:Int),x2 / (16777216:Int) % (256:Int),x2 / (65536:Int) % (256:Int),x2 / (256:Int) % (256:Int),x2 % (256:Int),x3 / (256:Int) % (256:Int),x3 % (256:Int),cX (gg x0 x1 x2 x3) / (256:Int) % (256:Int),cX (gg x0 x1 x2 x3) % (256:Int)]
def nH:Bool:=allT [okC x0 4&&leN (List.length [(82:Int),x1]) (1000000:Nat),okC x2 4&&leN (List.length (iq x0 x1)) 1000000,okC x3 2&&leN (List.length (As (iq x0 x1) x2 4)) 1000000,leN (List.length (gg x0 x1 x2 x3)) 9223372036854775807,okC (cX (gg x0 x1 x2 x3)) 2&&leN (List.length (gg x0 x1 x2 x3)) 1000000]
end
def uB:List SV→List Entry→Option Out
 | [.one ⟨true,[.val (.int .i64 x0),.val (.int .i64 x1),.val (.int .i64 x2)]⟩,.one ⟨false,[.val (.int .i64 x3)]⟩],[]=>some ⟨.one ⟨false,[.ref 0]⟩,[],[.row true 2 Mr (nG x0 x1 x2 x3)],[nH x0 x1 x2 x3]⟩
 |_,_=>none
def vc:PF prog:=PF.ofG prog (T3z [uo,jF]) [] bA 130 f130 func130 (fun c _=>LOk.nil c) uB (by
 intro vs es r h;unfold uB at h;split at h
 ·cases h;kernel_rfl
 ·cases h)
section
variable (x0:List Int)
def mw:Int:=num (List.take (Int.toNat 4) (List.drop (Int.toNat 2) x0))
def my:Int:=Option.getD x0[Int.toNat 1]? 0
def mz:Int:=num (List.take (Int.toNat 4) (List.drop (Int.toNat 6) x0))
def eQ:Int:=num (List.take (Int.toNat 2) (List.drop (Int.toNat 10) x0))
def mA:List Int:=bif oe (eQ x0)&&true then nG (mw x0) (my x0) (mz x0) (eQ x0)else []
def vf:Int:=mw x0
def vg:Int:=my x0
def vh:Int:=mz x0
def vi:Int:=eQ x0
def rx:Bool:=bif oe (eQ x0)then eqL (mA x0) x0 else false
def ry:Bool:=allT [byA x0&&(inR 2 0 100&&(inR 4 0 4&&leI ((2:Int) + (4:Int)) (↑x0.length:Int))),ltI 1 (↑x0.length:Int),ltN (Int.toNat 1) x0.length,byA x0&&(inR 6 0 100&&(inR 4 0 4&&leI ((6:Int) + (4:Int)) (↑x0.length:Int))),byA x0&&(inR 10 0 100&&(inR 2 0 4&&leI ((10:Int) + (2:Int)) (↑x0.length:Int))),!(oe (eQ x0)&&true)||nH (mw x0) (my x0) (mz x0) (eQ x0),!(oe (eQ x0)&&true)||leN (List.length (mA x0)) 9223372036854775807]
end
def uA:List SV→List Entry→Option Out
 | [.one ⟨false,[.ref 0]⟩],[.row false 2 (.int .i64) x0]=>some ⟨.tup [⟨true,[.val (.int .i64 (vf x0)),.val (.int .i64 (vg x0)),.val (.int .i64 (vh x0))]⟩,⟨false,[.val (.int .i64 (vi x0))]⟩,⟨false,[.val (.bool (rx x0))]⟩],[.row false 2 Mr x0],[],[ry x0]⟩
 |_,_=>none
def Ci:PF prog:=PF.ofG prog (T3z [vc,um,Cc,tn]) [] bA 129 f129 func129 (fun c _=>LOk.nil c) uA (by
 intro vs es r h;unfold uA at h;split at h
 ·cases h;kernel_rfl
 ·cases h)
theorem Ky(n:Int)(h0:0≤n)(h1:n≤100000000):fF n= []∧fG n=true:=by
 have w0:IntKind.i64.wrap ((↑(0:Nat):Int) - (↑(0:Nat):Int))=0:=rfl
 have e0:am n=n:=by simp only [am,w0];rw [aN (by omega) (by omega)];omega
 refine⟨?_,?_⟩
 ·simp only [fF,e0];cases ltI 0 n <;> rfl
 ·have t0:ltI n 0=false:=CD h0
  have t1:leI (0:Int) (0:Int)=true:=rfl
  have t2:leI (↑(0:Nat):Int) (0:Int)=true:=rfl
  have t3:leI (0:Int) (↑(0:Nat):Int)=true:=rfl
  have t4:leI n 9223372036854775807=true:=cZ (by omega)
  have t5:leI (n * (↑(8:Nat):Int)) 281474976710656=true:=cZ (by omega)
  have t6: ∀ m:Nat,leI (↑(0:Nat):Int) (m:Int)=true:=fun m=>cZ (by omega)
  have t7:(!ltI 0 n||leI 1 n)=true:=by
   cases h:ltI 0 n with
   |false=>rfl
   |true=>have:=Dp.1 h;rw [cZ (by omega)];rfl
  simp only [fG,ir,e0,t0,t1,t2,t3,t4,t5,t6,t7,allT,Bool.or_true,Bool.not_false,cond_true]
def pH(l:List (List Int)):Nat:=(l.map List.length).sum
theorem CQ(a b:List (List Int)):pH (a++b)=pH a + pH b:=by simp [pH]
theorem yI{l:List (List Int)}{i:Nat}{b:List Int}(hb:l[i]? =some b):pH (l.take (i + 1))=pH (l.take i) + b.length∧pH (l.take (i + 1))≤pH l:=by
 obtain⟨hi,rfl⟩:=List.getElem?_eq_some_iff.1 hb
 refine⟨?_,?_⟩
 ·rw [List.take_succ_eq_append_getElem hi,CQ];simp [pH]
 ·have h5:=CQ (l.take (i + 1)) (l.drop (i + 1))
  rw [List.take_append_drop]at h5
  omega
def aG(b:List Int):(Int)→Nat ⊕ (Int)
 |y2=>(.inr (IntKind.wrap .i64 (y2 + (↑(List.length b):Int))))
def aU(y3:List (List Int))(i:Nat):(Int)→aE
 |y2=>((i:Int),(↑y3.length:Int),y2,y3)
def gw:aE→Int
 |(_,_,y2,_)=>y2
theorem rH(y3:List (List Int))(y2:Int)(hn:y3.length≤9223372036854775807)(h0:y2=0)(hS:pH y3≤2000000):
  ap.fin ((0:Int),(↑y3.length:Int),y2,y3)=true∧ap.res ((0:Int),(↑y3.length:Int),y2,y3)=((cw (aG) 0 y3 0 y2).1,(aU y3) (cw (aG) 0 y3 0 y2).2.1 (cw (aG) 0 y3 0 y2).2.2):=by
 have fJ:=ap.along (aU y3) gw (aG) 0 (fun i a=>a=(pH (y3.take i):Int)) y3 y2 (by rw [h0];simp [pH]) (by simp only [ap,aU];omega) (fun i b a hb hI=> ?_) (fun a hI=> ?_)
 ·exact fJ
 ·obtain y2:=a
  have cH:=(List.getElem?_eq_some_iff.1 hb).1
  have kh: ∀ d,Option.getD y3[i]? d=b:=fun d=>by rw [hb];rfl
  have hw:=sD cH hn
  have kA:ltI (i:Int) (y3.length:Int)=true:=jl (by omega)
  have xM:leI (0:Int) (i:Int)=true:=cZ (by omega)
  have mJ:ltN i y3.length=true:=mM cH
  refine⟨?_,?_,?_,?_⟩
  ·have hg2:br (i:Int) a y3=(pH (y3.take (i + 1)):Int):=by
    have h3:=yI hb
    simp only [br,Int.toNat_natCast]
    refine(congrArg (fun z:List Int=>IntKind.i64.wrap (a + (z.length:Int))) (kh _)).trans ?_
    show IntKind.i64.wrap (a + (b.length:Int))=_
    rw [hI,aN (by omega) (by omega)];omega
   have h6:ltI (pH (y3.take (i + 1)):Int) 0=false:=CD (by omega)
   simp only [ap,cF,cU,er,et,eu,ew,LT.nds,allT,aU,kA,xM,mJ,hg2,h6,Int.toNat_natCast,cond_true,Bool.and_self,Bool.not_false]
  ·simp [br,cU,er,et,eu,ew,gR,ex,cF,ap,LT.each,aU,gw,hw]
  ·simp only [ap,cF,cU,ex,br,LT.fn,aU,gw,aG,kA,Int.toNat_natCast,cond_true]
   exact congrArg (fun z:List Int=>(Sum.inr (IntKind.i64.wrap (a + (z.length:Int))):Nat ⊕ Int)) (kh _)
  ·intro a' hf
   have h3:=yI hb
   simp only [aG,Sum.inr.injEq]at hf
   rw [← hf,hI,aN (by omega) (by omega)];omega
 ·obtain y2:=a
  simp [br,cU,er,et,eu,ew,gR,ex,cF,ap,LT.out,aU]
def bx(b:List Int):(List Int)→Nat ⊕ (List Int)
 |y3=>(.inr (y3++(b)))
def aV(y2:List (List Int))(i:Nat):(List Int)→aF
 |y3=>((i:Int),(↑y2.length:Int),y2,y3)
def gx:aF→List Int
 |(_,_,_,y3)=>y3
theorem rI(y2:List (List Int))(y3:List Int)(hn:y2.length≤9223372036854775807)(hS:pH y2≤2000000)(h3:y3= []):
  aq.fin ((0:Int),(↑y2.length:Int),y2,y3)=true∧aq.res ((0:Int),(↑y2.length:Int),y2,y3)=((cw (bx) 0 y2 0 y3).1,(aV y2) (cw (bx) 0 y2 0 y3).2.1 (cw (bx) 0 y2 0 y3).2.2):=by
 have fJ:=aq.along (aV y2) gx (bx) 0 (fun i a=>a.length=pH (y2.take i)) y2 y3 (by rw [h3];simp [pH]) (by simp only [aq,aV];omega) (fun i b a hb hI=> ?_) (fun a hI=> ?_)
 ·exact fJ
 ·obtain y3:=a
  have cH:=(List.getElem?_eq_some_iff.1 hb).1
  have kh: ∀ d,Option.getD y2[i]? d=b:=fun d=>by rw [hb];rfl
  have hw:=sD cH hn
  have kA:ltI (i:Int) (y2.length:Int)=true:=jl (by omega)
  have xM:leI (0:Int) (i:Int)=true:=cZ (by omega)
  have mJ:ltN i y2.length=true:=mM cH
  refine⟨?_,?_,?_,?_⟩
  ·have hg2:aM (i:Int) y2=b:=by simp only [aM,Int.toNat_natCast];exact kh _
   have h3:=yI hb
   have h6:leN (a.length + b.length) 9223372036854775807=true:=eU (by omega)
   have h7:leN ((a.length + b.length) * 8) 140737488355328=true:=eU (by omega)
   simp only [aq,cG,cV,ey,ez,eA,eB,eC,LT.nds,allT,aV,kA,xM,mJ,hg2,h6,h7,Int.toNat_natCast,cond_true,Bool.and_self]
  ·simp [aM,cV,ey,ez,eA,eB,eC,gS,eD,cG,aq,LT.each,aV,gx,hw]
  ·have hg2:aM (i:Int) y2=b:=by simp only [aM,Int.toNat_natCast];exact kh _
   simp only [aq,cG,cV,eD,LT.fn,aV,gx,bx,kA,hg2,cond_true]
  ·intro a' hf
   have h3:=yI hb
   simp only [bx,Sum.inr.injEq]at hf
   rw [← hf,List.length_append];omega
 ·obtain y3:=a
  simp [aM,cV,ey,ez,eA,eB,eC,gS,eD,cG,aq,LT.out,aV]
theorem GL: ∀ (l:List (List Int)) (acc:List Int),l.foldl (fun a b=>a++b) acc=acc++l.flatten
 | [],acc=>by simp
 |a::r,acc=>by rw [List.foldl_cons,GL r];simp
theorem Lc(l:List (List Int))(h:(leN l.length 1000&&leN (pH l) 2000000)=true):iO l=l.flatten∧iP l=true:=by
 simp only [Bool.and_eq_true,eq]at h
 obtain⟨w1,w2⟩:=rH l 0 (by omega) rfl h.2
 have hw:(cw aG 0 l 0 (0:Int)).2.2=(pH l:Int):=by
  have hg: ∀ (r:List (List Int)) (i:Nat) (a:Int),0≤a→a + pH r≤2000000→(cw aG 0 r i a).2.2=a + pH r:=by
   intro r
   induction r with
   |nil=>intro i a _ _;simp [cw,pH]
   |cons x r ih=>
    intro i a h0 h1
    have h3:pH (x::r)=x.length + pH r:=by simp [pH]
    have hf:aG x a= .inr (a + (x.length:Int)):=by
     simp only [aG]
     rw [aN (by omega) (by omega)]
    simp only [cw,hf]
    rw [ih (i + 1) (a + (x.length:Int)) (by omega) (by omega),h3]
    omega
  have:=hg l 0 0 (by omega) (by omega)
  omega
 have ha1:eZ l=(pH l:Int):=by
  simp only [eZ,eY,w2,aU]
  exact hw
 obtain⟨g1,g2⟩:=Ky (pH l:Int) (by omega) (by omega)
 obtain⟨v1,v2⟩:=rI l [] (by omega) h.2 rfl
 rw [gv (f:=bx) (g:=fun a b=>a++b) (fun b a=>rfl),GL]at v2
 refine⟨?_,?_⟩
 ·simp only [iO,fa,ha1,g1,v2,aV,List.nil_append]
 ·simp only [iP,fa,ha1,g1,g2,v1,eY,w1,allT,cond_true]
def mm:List SV→List Entry→Option Out
 | [.one ⟨false,[.ref 0]⟩],[.row false 22 (.sl 2 (.int .i64)) x0]=>some ⟨.one ⟨false,[.ref 1]⟩,[.row false 22 (CTy.sl (2:TypeId) Mr) x0],[.row true 2 Mr (x0.flatten)],[leN x0.length 1000&&leN (pH x0) 2000000]⟩
 |_,_=>none
def iM:PF prog:=PF.alt sU mm (by
 intro args es o h bk;unfold mm at h;split at h
 ·rename_i x0
  cases h
  have bk:=ki bk
  have hh:=Lc x0 bk
  obtain⟨e0,en⟩:=hh
  exact iw rfl (fV en) rfl rfl (by simp only [e0] <;> rfl)
 ·cases h)
theorem Li(t k v n:Int):As (As (As [82,k] t 4) v 4) n 2=hdR (t,k,v) n:=by
 simp [As,Bv,hdR,eqI]
theorem GH{t k v n:Int}(h:(jP (t,k,v)&&oe n)=true):okC t 4=true∧okC v 4=true∧okC n 2=true∧okC (cX (hdR (t,k,v) n)) 2=true∧byA (hdR (t,k,v) n)=true:=by
 simp only [Bool.and_eq_true]at h
 have h1:=Bo.1 h.1
 have h2:=uY.1 h.2
 have hb:=kR.2 (GO n h.1)
 have hc:=(IC _ hb).2
 simp only at h1
 exact⟨yD.2 ⟨by omega,.inl rfl⟩,yD.2 ⟨by omega,.inl rfl⟩,yD.2 ⟨by omega,.inr rfl⟩,yD.2 ⟨by omega,.inr rfl⟩,hb⟩
theorem Aw(t k v n:Int)(h:(jP (t,k,v)&&oe n)=true):nG t k v n=sS cX (t,k,v) n∧nH t k v n=true:=by
 obtain⟨c1,c2,c3,c4,_⟩:=GH h
 have e1:gg t k v n=hdR (t,k,v) n:=by simp only [gg,iq,Li]
 refine⟨?_,?_⟩
 ·have:nG t k v n=As (hdR (t,k,v) n) (cX (hdR (t,k,v) n)) 2:=by
   rw [← e1]
   rfl
  rw [this]
  simp [As,Bv,sS,eqI]
 ·have l1:leN (iq t k).length 1000000=true:=rfl
  have l2:leN (As (iq t k) v 4).length 1000000=true:=rfl
  have l3:leN [82,k].length 1000000=true:=rfl
  have l4:leN (hdR (t,k,v) n).length 1000000=true:=rfl
  have l5:leN (hdR (t,k,v) n).length 9223372036854775807=true:=rfl
  simp only [nH,e1,c1,c2,c3,c4,l1,l2,l3,l4,l5,allT,Bool.and_self,cond_true]
def uI:List SV→List Entry→Option Out
 | [.one ⟨true,[.val (.int .i64 x0),.val (.int .i64 x1),.val (.int .i64 x2)]⟩,.one ⟨false,[.val (.int .i64 x3)]⟩],[]=>some ⟨.one ⟨false,[.ref 0]⟩,[],[.row true 2 Mr (sS cX (x0,x1,x2) x3)],[jP (x0,x1,x2)&&oe x3]⟩
 |_,_=>none
def uX:PF prog:=PF.alt vc uI (by
 intro args es o h bk;unfold uI at h;split at h
 ·rename_i x0 x1 x2 x3
  cases h
  have bk:=ki bk
  have hh:=Aw x0 x1 x2 x3 bk
  obtain⟨e0,en⟩:=hh
  exact iw rfl (fV en) rfl rfl (by simp only [e0] <;> rfl)
 ·cases h)
def Gx(l:List Int):Bool:=byA l&&(leN 14 l.length&&leN l.length 14)
theorem AR{l:List Int}:Gx l=true↔byA l=true∧l.length=14:=by
 simp only [Gx,Bool.and_eq_true,eq]
 constructor
 ·rintro⟨h,h1,h2⟩;exact⟨h,by omega⟩
 ·rintro⟨h,h1⟩;exact⟨h,by omega,by omega⟩
theorem Is(l:List Int)(h:Gx l=true):vf l=(kT l).1∧vg l=(kT l).2.1∧vh l=(kT l).2.2∧vi l=rW l∧rx l=ft cX l∧ry l=true:=by
 obtain⟨hb,hl⟩:=AR.1 h
 have e0:mw l=(kT l).1:=rfl
 have e1:my l=(kT l).2.1:=rfl
 have e2:mz l=(kT l).2.2:=rfl
 have e3:eQ l=rW l:=rfl
 have hx:=HJ (kR.1 hb) hl
 refine⟨e0,e1,e2,e3,?_,?_⟩
 ·simp only [rx,mA,e0,e1,e2,e3,ft]
  cases hn:oe (rW l)with
  |false=>rfl
  |true=>
   simp only [Bool.and_self,cond_true,Bool.true_and]
   rw [(Aw _ _ _ _ (by rw [hx,hn];rfl)).1]
 ·have t1:ltI 1 (l.length:Int)=true:=jl (by omega)
  have t2:ltN (Int.toNat 1) l.length=true:=mM (by rw [hl];decide)
  have t3:inR 2 0 100=true:=rfl
  have t4:inR 4 0 4=true:=rfl
  have t5:inR 6 0 100=true:=rfl
  have t6:inR 10 0 100=true:=rfl
  have t7:inR 2 0 4=true:=rfl
  have t8:leI (2 + 4) (l.length:Int)=true:=cZ (by omega)
  have t9:leI (6 + 4) (l.length:Int)=true:=cZ (by omega)
  have t10:leI (10 + 2) (l.length:Int)=true:=cZ (by omega)
  simp only [ry,mA,e0,e1,e2,e3,hb,t1,t2,t3,t4,t5,t6,t7,t8,t9,t10,Bool.and_self,allT,cond_true]
  cases hn:oe (rW l)with
  |false=>rfl
  |true=>
   obtain⟨q1,q2⟩:=Aw _ _ _ _ (show (jP ((kT l).1,(kT l).2.1,(kT l).2.2)&&oe (rW l))=true by rw [hx,hn];rfl)
   rw [q1,q2]
   rfl
def uH:List SV→List Entry→Option Out
 | [.one ⟨false,[.ref 0]⟩],[.row false 2 (.int .i64) x0]=>some ⟨.tup [⟨true,[.val (.int .i64 ((kT x0).1)),.val (.int .i64 ((kT x0).2.1)),.val (.int .i64 ((kT x0).2.2))]⟩,⟨false,[.val (.int .i64 (rW x0))]⟩,⟨false,[.val (.bool (ft cX x0))]⟩],[.row false 2 Mr x0],[],[Gx x0]⟩
 |_,_=>none
def iT:PF prog:=PF.alt Ci uH (by
 intro args es o h bk;unfold uH at h;split at h
 ·rename_i x0
  cases h
  have bk:=ki bk
  have hh:=Is x0 bk
  obtain⟨e0,e1,e2,e3,e4,en⟩:=hh
  exact iw rfl (fV en) (by simp only [e0,e1,e2,e3,e4] <;> rfl) rfl rfl
 ·cases h)
section
variable (x0 x1 x2 x3:Int)
def aa:List (List Int):= [[(82:Int),x1],Bv x0 4,Bv x2 4,Bv x3 2]
def bM:List Int:= [(82:Int),x1,x0 / (16777216:Int) % (256:Int),x0 / (65536:Int) % (256:Int),x0 / (256:Int) % (256:Int),x0 % (256:Int),x2 / (16777216:Int) % (256:Int),x2 / (65536:Int) % (256:Int),x2 / (256:Int) % (256:Int),x2 % (256:Int),x3 / (256:Int) % (256:Int),x3 % (256:Int),cX (List.flatten (aa x0 x1 x2 x3)) / (256:Int) % (256:Int),cX (List.flatten (aa x0 x1 x2 x3)) % (256:Int)]
def bN:Bool:=allT [okC x0 4,okC x2 4,okC x3 2,leN (List.length (aa x0 x1 x2 x3)) 1000&&leN (pH (aa x0 x1 x2 x3)) 2000000,byA (List.flatten (aa x0 x1 x2 x3))&&leN (List.length (List.flatten (aa x0 x1 x2 x3))) 9223372036854775807,okC (cX (List.flatten (aa x0 x1 x2 x3))) 2,leN (List.length (List.flatten (aa x0 x1 x2 x3)) + List.length (Bv (cX (List.flatten (aa x0 x1 x2 x3))) 2)) 9223372036854775807,leN ((List.length (List.flatten (aa x0 x1 x2 x3)) + List.length (Bv (cX (List.flatten (aa x0 x1 x2 x3))) 2)) * 8) 140737488355328]
end
def fc:List SV→List Entry→Option Out
 | [.one ⟨true,[.val (.int .i64 x0),.val (.int .i64 x1),.val (.int .i64 x2)]⟩,.one ⟨false,[.val (.int .i64 x3)]⟩],[]=>some ⟨.one ⟨false,[.ref 0]⟩,[],[.row true 2 Mr (bM x0 x1 x2 x3)],[bN x0 x1 x2 x3]⟩
 |_,_=>none
def fg:PF prog:=PF.ofG prog (T3z [iM,Ej,jE]) [] bA 151 f151 func151 (fun c _=>LOk.nil c) fc (by
 intro vs es r h;unfold fc at h;split at h
 ·cases h;kernel_rfl
 ·cases h)
section
variable (x0:List Int)
def aI:Bool:=(↑x0.length:Int)!=14
def cP:List Int:=List.drop (Int.toNat 10) (List.take (Int.toNat 12) x0)
def fK:List Int:=List.drop (Int.toNat 2) (List.take (Int.toNat 6) x0)
def pX:Int:=Option.getD x0[Int.toNat 1]? 0
def fL:List Int:=List.drop (Int.toNat 6) (List.take (Int.toNat 10) x0)
def pY:List Int:=bif !!oe (num (cP x0))&&true then bM (num (fK x0)) (pX x0) (num (fL x0)) (num (cP x0))else []
def iX:Bool:=bif !oe (num (cP x0))then true else !eqL (pY x0) x0
def uc:Int:=bif aI x0 then(0:Int)else bif iX x0 then(0:Int)else num (fK x0)
def ud:Int:=bif aI x0 then(0:Int)else bif iX x0 then(0:Int)else pX x0
def ue:Int:=bif aI x0 then(0:Int)else bif iX x0 then(0:Int)else num (fL x0)
def uf:Int:=bif aI x0 then(0:Int)else bif iX x0 then(0:Int)else num (cP x0)
def ug:Bool:=bif aI x0 then false else bif iX x0 then false else true
def uh:Bool:=allT [aI x0||leI 0 2,aI x0||leI 2 6,aI x0||leI 6 (↑x0.length:Int),aI x0||byA (fK x0)&&leN (List.length (fK x0)) 4,aI x0||leI 0 1,aI x0||ltI 1 (↑x0.length:Int),aI x0||ltN (Int.toNat 1) x0.length,aI x0||leI 0 6,aI x0||leI 6 10,aI x0||leI 10 (↑x0.length:Int),aI x0||byA (fL x0)&&leN (List.length (fL x0)) 4,aI x0||leI 0 10,aI x0||leI 10 12,aI x0||leI 12 (↑x0.length:Int),aI x0||byA (cP x0)&&leN (List.length (cP x0)) 4,aI x0||(!(!!oe (num (cP x0))&&true)||bN (num (fK x0)) (pX x0) (num (fL x0)) (num (cP x0))),aI x0||(!(!!oe (num (cP x0))&&true)||leN (List.length (pY x0)) 9223372036854775807)]
end
def zk:List SV→List Entry→Option Out
 | [.one ⟨false,[.ref 0]⟩],[.row false 2 (.int .i64) x0]=>some ⟨.tup [⟨true,[.val (.int .i64 (uc x0)),.val (.int .i64 (ud x0)),.val (.int .i64 (ue x0))]⟩,⟨false,[.val (.int .i64 (uf x0))]⟩,⟨false,[.val (.bool (ug x0))]⟩],[.row false 2 Mr x0],[],[uh x0]⟩
 |_,_=>none
def ES:PF prog:=PF.ofG prog (T3z [fg,sw,wO,jp]) [] bA 126 f126 func126 (fun c _=>LOk.nil c) zk (by
 intro vs es r h;unfold zk at h;split at h
 ·cases h;kernel_rfl
 ·cases h)
theorem Ag(t k v n:Int)(h:(jP (t,k,v)&&oe n)=true):bM t k v n=sS cX (t,k,v) n∧bN t k v n=true:=by
 obtain⟨c1,c2,c3,c4,c5⟩:=GH h
 have e1:(aa t k v n).flatten=hdR (t,k,v) n:=by
  simp [aa,hdR,Bv,eqI]
 refine⟨?_,?_⟩
 ·have:bM t k v n=As (hdR (t,k,v) n) (cX (hdR (t,k,v) n)) 2:=by
   rw [← e1]
   rfl
  rw [this]
  simp [As,Bv,sS,eqI]
 ·have l1:leN (aa t k v n).length 1000=true:=rfl
  have l2:leN (pH (aa t k v n)) 2000000=true:=rfl
  have l3: ∀ c,leN ((hdR (t,k,v) n).length + (Bv c 2).length) 9223372036854775807=true:=fun c=>rfl
  have l4: ∀ c,leN (((hdR (t,k,v) n).length + (Bv c 2).length) * 8) 140737488355328=true:=fun c=>rfl
  have l5:leN (hdR (t,k,v) n).length 9223372036854775807=true:=rfl
  simp only [bN,e1,c1,c2,c3,c4,c5,l1,l2,l3,l4,l5,allT,Bool.and_self,cond_true]
def fe:List SV→List Entry→Option Out
 | [.one ⟨true,[.val (.int .i64 x0),.val (.int .i64 x1),.val (.int .i64 x2)]⟩,.one ⟨false,[.val (.int .i64 x3)]⟩],[]=>some ⟨.one ⟨false,[.ref 0]⟩,[],[.row true 2 Mr (sS cX (x0,x1,x2) x3)],[jP (x0,x1,x2)&&oe x3]⟩
 |_,_=>none
def ff:PF prog:=PF.alt fg fe (by
 intro args es o h bk;unfold fe at h;split at h
 ·rename_i x0 x1 x2 x3
  cases h
  have bk:=ki bk
  have hh:=Ag x0 x1 x2 x3 bk
  obtain⟨e0,en⟩:=hh
  exact iw rfl (fV en) rfl rfl (by simp only [e0] <;> rfl)
 ·cases h)
theorem HY(l:List Int)(h:Gx l=true):uc l=(bif ft cX l then(kT l).1 else 0)∧ud l=(bif ft cX l then(kT l).2.1 else 0)∧ue l=(bif ft cX l then(kT l).2.2 else 0)∧
  uf l=(bif ft cX l then rW l else 0)∧ug l=ft cX l∧uh l=true:=by
 obtain⟨hb,hl⟩:=AR.1 h
 have hx:=HJ (kR.1 hb) hl
 have a0:aI l=false:=by simp [aI,hl]
 have a1:cP l=(l.drop 10).take 2:=List.drop_take ..
 have a2:fK l=(l.drop 2).take 4:=List.drop_take ..
 have a4:fL l=(l.drop 6).take 4:=List.drop_take ..
 have e1:num (cP l)=rW l:=by rw [a1];rfl
 have e2:num (fK l)=(kT l).1:=by rw [a2];rfl
 have e3:pX l=(kT l).2.1:=rfl
 have e4:num (fL l)=(kT l).2.2:=by rw [a4];rfl
 have HT: ∀ p k,byA ((l.drop p).take k)=true:=fun p k=>kR.2 fun b hb'=>kR.1 hb b (List.mem_of_mem_drop (List.mem_of_mem_take hb'))
 have hln: ∀ p k,k≤4→leN ((l.drop p).take k).length 4=true:=fun p k hk=>eU (by rw [List.length_take];omega)
 have a6:iX l= !ft cX l:=by
  simp only [iX,pY,e1,e2,e3,e4,ft]
  cases hn:oe (rW l)with
  |false=>rfl
  |true=>
   simp only [Bool.not_true,Bool.not_false,Bool.and_self,cond_true,cond_false,Bool.true_and]
   rw [(Ag _ _ _ _ (by rw [hx,hn];rfl)).1]
 refine⟨?_,?_,?_,?_,?_,?_⟩
 ·simp only [uc,a0,a6,e2,cond_false];cases ft cX l <;> rfl
 ·simp only [ud,a0,a6,e3,cond_false];cases ft cX l <;> rfl
 ·simp only [ue,a0,a6,e4,cond_false];cases ft cX l <;> rfl
 ·simp only [uf,a0,a6,e1,cond_false];cases ft cX l <;> rfl
 ·simp only [ug,a0,a6,cond_false];cases ft cX l <;> rfl
 ·have t1:leI 0 2=true:=rfl
  have t2:leI 2 6=true:=rfl
  have t3:leI 6 (l.length:Int)=true:=cZ (by omega)
  have t4:leI 0 1=true:=rfl
  have t5:ltI 1 (l.length:Int)=true:=jl (by omega)
  have t6:ltN (Int.toNat 1) l.length=true:=mM (by rw [hl];decide)
  have t7:leI 0 6=true:=rfl
  have t8:leI 6 10=true:=rfl
  have t9:leI 10 (l.length:Int)=true:=cZ (by omega)
  have t10:leI 0 10=true:=rfl
  have t11:leI 10 12=true:=rfl
  have t12:leI 12 (l.length:Int)=true:=cZ (by omega)
  have b1:byA (cP l)=true∧leN (cP l).length 4=true:=by rw [a1];exact⟨HT _ _,hln _ _ (by omega)⟩
  have b2:byA (fK l)=true∧leN (fK l).length 4=true:=by rw [a2];exact⟨HT _ _,hln _ _ (by omega)⟩
  have b4:byA (fL l)=true∧leN (fL l).length 4=true:=by rw [a4];exact⟨HT _ _,hln _ _ (by omega)⟩
  simp only [uh,pY,a0,e1,e2,e3,e4,t1,t2,t3,t4,t5,t6,t7,t8,t9,t10,t11,t12,b1.1,b1.2,b2.1,b2.2,b4.1,b4.2,Bool.and_self,Bool.or_true,Bool.false_or,allT,cond_true]
  cases hn:oe (rW l)with
  |false=>rfl
  |true=>
   obtain⟨q1,q2⟩:=Ag _ _ _ _ (show (jP ((kT l).1,(kT l).2.1,(kT l).2.2)&&oe (rW l))=true by rw [hx,hn];rfl)
   rw [q1,q2]
   rfl
def zo:List SV→List Entry→Option Out
 | [.one ⟨false,[.ref 0]⟩],[.row false 2 (.int .i64) x0]=>some ⟨.tup [⟨true,[.val (.int .i64 (bif ft cX x0 then(kT x0).1 else 0)),.val (.int .i64 (bif ft cX x0 then(kT x0).2.1 else 0)),.val (.int .i64 (bif ft cX x0 then(kT x0).2.2 else 0))]⟩,⟨false,[.val (.int .i64 (bif ft cX x0 then rW x0 else 0))]⟩,⟨false,[.val (.bool (ft cX x0))]⟩],[.row false 2 Mr x0],[],[Gx x0]⟩
 |_,_=>none
def lz:PF prog:=PF.alt ES zo (by
 intro args es o h bk;unfold zo at h;split at h
 ·rename_i x0
  cases h
  have bk:=ki bk
  have hh:=HY x0 bk
  obtain⟨e0,e1,e2,e3,e4,en⟩:=hh
  exact iw rfl (fV en) (by simp only [e0,e1,e2,e3,e4] <;> rfl) rfl rfl
 ·cases h)
abbrev dc:=Int×List (Int×(Int×Int))×List Int
section
variable (y0:Int)(y1:List (Int×(Int×Int)))(y2:List Int)
def gD:Int×Int×Int:=Option.getD y1[Int.toNat y0]? ((0:Int),(0:Int),(0:Int))
def dJ:Int×Int×Int:=((gD y0 y1).1,((gD y0 y1).2).1,(gD y0 y1).2.2)
def kb:Bool:=ltI y0 (↑y1.length:Int)
def mX:Bool:=leI 0 y0
def mY:Bool:=ltN y0.toNat y1.length
def mZ:Bool:=jP (dJ y0 y1)&&oe y0
def na:Bool:=leN (List.length y2 + List.length (sS cX (dJ y0 y1) y0)) 9223372036854775807
def nb:Bool:=leN ((List.length y2 + List.length (sS cX (dJ y0 y1) y0)) * 8) 140737488355328
def nc:Int:=IntKind.wrap .i64 (y0 + (1:Int))
def ne:List Int:=y2++sS cX (dJ y0 y1) y0
end
def wD:dc→List (Nat×SV)
 |(y0,_,_)=> [(4,(.one ⟨false,[.val (.int .i64 y0)]⟩)),(0,(.one ⟨false,[.ref 0]⟩)),(3,(.one ⟨false,[.ref 1]⟩))]
def wB:dc→List (Nat×Entry)
 |(_,y1,y2)=> [(0,(.row false 36 Mp y1)),(1,(.row true 2 Mr y2))]
def wH:Nat→dc→List (Nat×SV)
 |_,(_,_,_)=> [(3,(.one ⟨false,[.ref 1]⟩))]
def wF:Nat→dc→List (Nat×Entry)
 |_,(_,y1,y2)=> [(0,(.row false 36 Mp y1)),(1,(.row true 2 Mr y2))]
def lM:dc→LT dc
 |(y0,y1,y2)=> .ite (kb y0 y1) (.need [mX y0,kb y0 y1,mY y0 y1,mZ y0 y1,na y0 y1 y2,nb y0 y1 y2] (.nrm ((nc y0),y1,(ne y0 y1 y2)) [(0,0),(1,768)])) (.ext 0 [(0,0),(1,1)])
def lR(s:St):Option dc:=
 (match s.look 4 with
 |some ⟨none,.one ⟨false,[.val (.int .i64 y0)]⟩⟩=>
 (match s.look 0 with
 |some ⟨none,.one ⟨false,[.ref 0]⟩⟩=>
 (match s.look 3 with
 |some ⟨none,.one ⟨false,[.ref 192]⟩⟩=>
 (match s.ent 0 with
 |some (.row false 36 (.pair (.int .i64) (.pair (.int .i64) (.int .i64))) y1)=>
 (match s.ent 192 with
 |some (.row true 2 (.int .i64) y2)=>
 some (y0,y1,y2)
 |_=>none)
 |_=>none)
 |_=>none)
 |_=>none)
 |_=>none)
def bR:Lp dc where
 h:=⟨[6,7,8,9,12,13,14,15,16,17,18,19,3,10,11,4],[0],[1],[]⟩
 JL:=wD
 JE:=wB
 XL:=wH
 XE:=wF
 q:=fun j=>match j with | _=> .exit 0
 tags:= [0]
 lt:=lM
 fuel:=fun(y0,y1,y2)=>y0.natAbs + y1.length + y2.length
 fix:=fun(_,y1,_) (y0,_,y2)=>(y0,y1,y2)
 σ:= [(0,0),(1,192)]
 rd:=lR
theorem uT:LoopOk prog (fun k=>Nat.blt k Try.f85.ntmps) bR.F (bT f85 0):=by
 refine Lp.ok (tbl:= [uX]) (lf:= []) bA bR (by kernel_rfl) (LOk.nil _) (fun _=>rfl) (fun _ _=>rfl) ?_ ?_ ?_ ?_ (fun _=>rfl) ?_
 ·rintro⟨y0,y1,y2⟩;kernel_rfl
 ·rintro⟨y0,y1,y2⟩;kernel_rfl
 ·intro s x h
  have h:lR s=some x:=h
  unfold lR at h
  repeat' split at h
  all_goals cases h
  constructor<;>repeat(first|refine af (by assumption) rfl ?_|refine aP rfl (by assumption) rfl ?_|exact rfl)
 ·rintro⟨y0,y1,y2⟩;kernel_rfl
 ·rintro⟨y0,y1,y2⟩ z;exact(And.intro rfl trivial)
section
variable (x0:List (Int×Int×Int))
def lp:Int×List (Int×Int×Int)×List Int:=((0:Int),x0,[])
def mB:List Int:=(Lp.res bR (lp x0)).2.2.2
def mC:Bool:=allT [Lp.fin bR (lp x0)]
end
def tJ:List SV→List Entry→Option Out
 | [.one ⟨false,[.ref 0]⟩],[.row false 36 (.pair (.int .i64) (.pair (.int .i64) (.int .i64))) x0]=>some ⟨.one ⟨false,[.ref 1]⟩,[.row false 36 Mp x0],[.row true 2 Mr (mB x0)],[mC x0]⟩
 |_,_=>none
def mt:PF prog:=PF.ofG prog [uX] [bR.F] bA 85 f85 func85 (LOk.fnT (l:= [bT f85 0]) (by kernel_rfl) (.cons uT (.nil _))) tJ (by
 intro vs es r h;unfold tJ at h;split at h
 ·cases h;kernel_rfl
 ·cases h)
def Ai(x0 x1 x2:Int):Bool:= !jP (x0,x1,x2)
def tc:List SV→List Entry→Option Out
 | [.one ⟨true,[.val (.int .i64 x0),.val (.int .i64 x1),.val (.int .i64 x2)]⟩],[]=>some ⟨.one ⟨false,[.val (.bool (Ai x0 x1 x2))]⟩,[],[],[]⟩
 |_,_=>none
def Aq:PF prog:=PF.ofG prog [mN] [] bA 124 f124 func124 (fun c _=>LOk.nil c) tc (by
 intro vs es r h;unfold tc at h;split at h
 ·cases h;kernel_rfl
 ·cases h)
abbrev eN:=Int×Int×List (Int×(Int×Int))×List Int
section
variable (y0 y1:Int)(y2:List (Int×(Int×Int)))(y3:List Int)
def iY:Int×Int×Int:=Option.getD y2[Int.toNat y0]? ((0:Int),(0:Int),(0:Int))
def fj:Int×Int×Int:=((iY y0 y2).1,((iY y0 y2).2).1,(iY y0 y2).2.2)
def qb:Bool:=ltI y0 y1
def qc:Bool:=leI 0 y0
def qd:Bool:=ltI y0 (↑y2.length:Int)
def qe:Bool:=ltN y0.toNat y2.length
def qf:Bool:=jP (fj y0 y2)&&oe y0
def qg:Bool:=leN (List.length y3 + List.length (sS cX (fj y0 y2) y0)) 9223372036854775807
def qh:Bool:=leN ((List.length y3 + List.length (sS cX (fj y0 y2) y0)) * 8) 140737488355328
def qi:Int:=IntKind.wrap .i64 (y0 + (1:Int))
def qj:List Int:=y3++sS cX (fj y0 y2) y0
end
def zM:eN→List (Nat×SV)
 |(y0,y1,_,_)=> [(8,(.one ⟨false,[.val (.int .i64 y0)]⟩)),(7,(.one ⟨false,[.val (.int .i64 y1)]⟩)),(6,(.one ⟨false,[.ref 0]⟩)),(3,(.one ⟨false,[.ref 1]⟩))]
def zI:eN→List (Nat×Entry)
 |(_,_,y2,y3)=> [(0,(.row false 36 Mp y2)),(1,(.row true 2 Mr y3))]
def zU:Nat→eN→List (Nat×SV)
 |_,(_,_,_,_)=> [(3,(.one ⟨false,[.ref 1]⟩))]
def zQ:Nat→eN→List (Nat×Entry)
 |_,(_,_,y2,y3)=> [(0,(.row false 36 Mp y2)),(1,(.row true 2 Mr y3))]
def pf:eN→LT eN
 |(y0,y1,y2,y3)=> .ite (qb y0 y1) (.need [qc y0,qd y0 y2,qe y0 y2] (.need [qf y0 y2,qg y0 y2 y3,qh y0 y2 y3] (.nrm ((qi y0),y1,y2,(qj y0 y2 y3)) [(0,0),(1,768)]))) (.ext 0 [(0,0),(1,1)])
def pk(s:St):Option eN:=
 (match s.look 8 with
 |some ⟨none,.one ⟨false,[.val (.int .i64 y0)]⟩⟩=>
 (match s.look 7 with
 |some ⟨none,.one ⟨false,[.val (.int .i64 y1)]⟩⟩=>
 (match s.look 6 with
 |some ⟨none,.one ⟨false,[.ref 0]⟩⟩=>
 (match s.look 3 with
 |some ⟨none,.one ⟨false,[.ref 192]⟩⟩=>
 (match s.ent 0 with
 |some (.row false 36 (.pair (.int .i64) (.pair (.int .i64) (.int .i64))) y2)=>
 (match s.ent 192 with
 |some (.row true 2 (.int .i64) y3)=>
 some (y0,y1,y2,y3)
 |_=>none)
 |_=>none)
 |_=>none)
 |_=>none)
 |_=>none)
 |_=>none)
def cD:Lp eN where
 h:=⟨[9,10,11,12,5,4,13,14,15,16,17,3,18,8],[0],[1],[]⟩
 JL:=zM
 JE:=zI
 XL:=zU
 XE:=zQ
 q:=fun j=>match j with | _=> .exit 0
 tags:= [0]
 lt:=pf
 fuel:=fun(y0,y1,y2,y3)=>y0.natAbs + y1.natAbs + y2.length + y3.length
 fix:=fun(_,y1,y2,_) (y0,_,_,y3)=>(y0,y1,y2,y3)
 σ:= [(0,0),(1,192)]
 rd:=pk
theorem xU:LoopOk prog (fun k=>Nat.blt k Try.f125.ntmps) cD.F (bT f125 0):=by
 refine Lp.ok (tbl:= [ff]) (lf:= []) bA cD (by kernel_rfl) (LOk.nil _) (fun _=>rfl) (fun _ _=>rfl) ?_ ?_ ?_ ?_ (fun _=>rfl) ?_
 ·rintro⟨y0,y1,y2,y3⟩;kernel_rfl
 ·rintro⟨y0,y1,y2,y3⟩;kernel_rfl
 ·intro s x h
  have h:pk s=some x:=h
  unfold pk at h
  repeat' split at h
  all_goals cases h
  constructor<;>repeat(first|refine af (by assumption) rfl ?_|refine aP rfl (by assumption) rfl ?_|exact rfl)
 ·rintro⟨y0,y1,y2,y3⟩;kernel_rfl
 ·rintro⟨y0,y1,y2,y3⟩ z;exact(And.intro rfl trivial)
section
variable (x0:List (Int×Int×Int))
def oI:Int×Int×List (Int×Int×Int)×List Int:=((0:Int),(↑x0.length:Int),x0,[])
def pZ:List Int:=(Lp.res cD (oI x0)).2.2.2.2
def qa:Bool:=allT [Lp.fin cD (oI x0)]
end
def wV:List SV→List Entry→Option Out
 | [.one ⟨false,[.ref 0]⟩],[.row false 36 (.pair (.int .i64) (.pair (.int .i64) (.int .i64))) x0]=>some ⟨.one ⟨false,[.ref 1]⟩,[.row false 36 Mp x0],[.row true 2 Mr (pZ x0)],[qa x0]⟩
 |_,_=>none
def tp:PF prog:=PF.ofG prog [ff] [cD.F] bA 125 f125 func125 (LOk.fnT (l:= [bT f125 0]) (by kernel_rfl) (.cons xU (.nil _))) wV (by
 intro vs es r h;unfold wV at h;split at h
 ·cases h;kernel_rfl
 ·cases h)
def gW(x0 x1 x2:Int):Bool:= !jP (x0,x1,x2)
def oy:List SV→List Entry→Option Out
 | [.one ⟨true,[.val (.int .i64 x0),.val (.int .i64 x1),.val (.int .i64 x2)]⟩],[]=>some ⟨.one ⟨false,[.val (.bool (gW x0 x1 x2))]⟩,[],[],[]⟩
 |_,_=>none
def oE:PF prog:=PF.ofG prog [mN] [] bA 124 f124 func124 (fun c _=>LOk.nil c) oy (by
 intro vs es r h;unfold oy at h;split at h
 ·cases h;kernel_rfl
 ·cases h)
abbrev ai:=Int×Int×List (Int×(Int×Int))
section
variable (y0 y1:Int)(y2:List (Int×(Int×Int)))
def ay:Int×Int×Int:=Option.getD y2[Int.toNat y0]? ((0:Int),(0:Int),(0:Int))
def bd:Bool:=ltI y0 y1
def be:Bool:=leI 0 y0
def bf:Bool:=ltI y0 (↑y2.length:Int)
def bg:Bool:=ltN y0.toNat y2.length
def bh:Bool:=gW ((ay y0 y2).1) (((ay y0 y2).2).1) ((ay y0 y2).2.2)
def bi:Int:=IntKind.wrap .i64 (y0 + (1:Int))
end
def km:ai→List (Nat×SV)
 |(y0,y1,_)=> [(8,(.one ⟨false,[.val (.int .i64 y0)]⟩)),(7,(.one ⟨false,[.val (.int .i64 y1)]⟩)),(1,(.one ⟨false,[.val (.func (.func 124) ⟨[]⟩ ⟨[]⟩)]⟩)),(0,(.one ⟨false,[.ref 0]⟩))]
def kk:ai→List (Nat×Entry)
 |(_,_,y2)=> [(0,(.row false 36 Mp y2))]
def ko:Nat→ai→List (Nat×SV)
 |0,(y0,_,_)=> [(4,(.one ⟨false,[.val (.int .i64 y0)]⟩))]
 |_,(_,_,_)=> []
def kn:Nat→ai→List (Nat×Entry)
 |0,(_,_,y2)=> [(0,(.row false 36 Mp y2))]
 |_,(_,_,y2)=> [(0,(.row false 36 Mp y2))]
def aX:ai→LT ai
 |(y0,y1,y2)=> .ite (bd y0 y1) (.need [be y0,bf y0 y2,bg y0 y2] (.ite (bh y0 y2) (.ext 0 [(0,0)]) (.nrm ((bi y0),y1,y2) [(0,0)]))) (.ext 1 [(0,0)])
def cL(s:St):Option ai:=
 (match s.look 8 with
 |some ⟨none,.one ⟨false,[.val (.int .i64 y0)]⟩⟩=>
 (match s.look 7 with
 |some ⟨none,.one ⟨false,[.val (.int .i64 y1)]⟩⟩=>
 (match s.look 1 with
 |some ⟨none,.one ⟨false,[.val (.func (.func 124) ⟨[]⟩ ⟨[]⟩)]⟩⟩=>
 (match s.look 0 with
 |some ⟨none,.one ⟨false,[.ref 0]⟩⟩=>
 (match s.ent 0 with
 |some (.row false 36 (.pair (.int .i64) (.pair (.int .i64) (.int .i64))) y2)=>
 some (y0,y1,y2)
 |_=>none)
 |_=>none)
 |_=>none)
 |_=>none)
 |_=>none)
def ac:Lp ai where
 h:=⟨[9,10,5,11,12,13,14,15,16,17,4,18,8],[0],[],[]⟩
 JL:=km
 JE:=kk
 XL:=ko
 XE:=kn
 q:=fun j=>match j with | 0=> .ret | _=> .exit 0
 tags:= [0,1]
 lt:=aX
 fuel:=fun(y0,y1,y2)=>y0.natAbs + y1.natAbs + y2.length
 fix:=fun(_,y1,y2) (y0,_,_)=>(y0,y1,y2)
 σ:= [(0,0)]
 rd:=cL
theorem jN:LoopOk prog (fun k=>Nat.blt k Try.f150.ntmps) ac.F (bT f150 0):=by
 refine Lp.ok (tbl:= [oE]) (lf:= []) bA ac (by kernel_rfl) (LOk.nil _) (fun _=>rfl) (fun j _=>by unfold ac;match j with | 0=>rfl | _ + 1=>rfl) ?_ ?_ ?_ ?_ (fun _=>rfl) ?_
 ·rintro⟨y0,y1,y2⟩;kernel_rfl
 ·rintro⟨y0,y1,y2⟩;kernel_rfl
 ·intro s x h
  have h:cL s=some x:=h
  unfold cL at h
  repeat' split at h
  all_goals cases h
  constructor<;>repeat(first|refine af (by assumption) rfl ?_|refine aP rfl (by assumption) rfl ?_|exact rfl)
 ·rintro⟨y0,y1,y2⟩;kernel_rfl
 ·rintro⟨y0,y1,y2⟩ z;exact(And.intro (And.intro trivial rfl) trivial)
section
variable (x0:List (Int×Int×Int))
def bY:Int×Int×List (Int×Int×Int):=((0:Int),(↑x0.length:Int),x0)
def dw:Int:=bif Nat.beq ((Lp.res ac (bY x0)).1) 0 then ((Lp.res ac (bY x0)).2).1else(-1:Int)
def dx:Bool:=allT [Lp.fin ac (bY x0)]
end
def gp:List SV→List Entry→Option Out
 | [.one ⟨false,[.ref 0]⟩,.one ⟨false,[.val (.func (.func 124) ⟨[]⟩ ⟨[]⟩)]⟩],[.row false 36 (.pair (.int .i64) (.pair (.int .i64) (.int .i64))) x0]=>some ⟨.one ⟨false,[.val (.int .i64 (dw x0))]⟩,[.row false 36 Mp x0],[],[dx x0]⟩
 |_,_=>none
def dv:PF prog:=PF.ofG prog [oE] [ac.F] bA 150 f150 func150 (LOk.fnT (l:= [bT f150 0]) (by kernel_rfl) (.cons jN (.nil _))) gp (by
 intro vs es r h;unfold gp at h;split at h
 ·cases h;kernel_rfl
 ·cases h)
def aL(x0:List (Int×Int×Int)):Bool:=leI 0 (dw x0)
def bP(x0:List (Int×Int×Int)):Bool:=allT [dx x0]
def fm:List SV→List Entry→Option Out
 | [.one ⟨false,[.ref 0]⟩,.one ⟨false,[.val (.func (.func 124) ⟨[]⟩ ⟨[]⟩)]⟩],[.row false 36 (.pair (.int .i64) (.pair (.int .i64) (.int .i64))) x0]=>some ⟨.one ⟨false,[.val (.bool (aL x0))]⟩,[.row false 36 Mp x0],[],[bP x0]⟩
 |_,_=>none
def cT:PF prog:=PF.ofG prog (T3z [dv]) [] bA 123 f123 func123 (fun c _=>LOk.nil c) fm (by
 intro vs es r h;unfold fm at h;split at h
 ·cases h;kernel_rfl
 ·cases h)
section
variable (x0:List (Int×Int×Int))
def ia:Bool:=ltI 100 (↑x0.length:Int)
def nq:Int:=bif ia x0 then(3:Int)else bif aL x0 then(1:Int)else(0:Int)
def nr:List Int:=bif ia x0 then []else bif aL x0 then []else pZ x0
def nt:Bool:=allT [ia x0||bP x0,ia x0||(aL x0||qa x0)]
end
def ux:List SV→List Entry→Option Out
 | [.one ⟨false,[.ref 0]⟩],[.row false 36 (.pair (.int .i64) (.pair (.int .i64) (.int .i64))) x0]=>some ⟨.tup [⟨false,[.ref 1]⟩,⟨false,[.val (.int .i64 (nq x0))]⟩],[.row false 36 Mp x0],[.row true 2 Mr (nr x0)],[nt x0]⟩
 |_,_=>none
def rr:PF prog:=PF.ofG prog (T3z [Aq,tp,cT]) [] bA 80 f80 func80 (fun c _=>LOk.nil c) ux (by
 intro vs es r h;unfold ux at h;split at h
 ·cases h;kernel_rfl
 ·cases h)
def gK(x0:List (Int×Int×Int)):Int:=(↑x0.length:Int)
def kx:List SV→List Entry→Option Out
 | [.one ⟨false,[.ref 0]⟩],[.row false 36 (.pair (.int .i64) (.pair (.int .i64) (.int .i64))) x0]=>some ⟨.one ⟨false,[.val (.int .i64 (gK x0))]⟩,[.row false 36 Mp x0],[],[]⟩
 |_,_=>none
def ci:PF prog:=PF.ofG prog [] [] bA 127 f127 func127 (fun c _=>LOk.nil c) kx (by
 intro vs es r h;unfold kx at h;split at h
 ·cases h;kernel_rfl
 ·cases h)
abbrev dA:=List Int×List (Int×(Int×Int))
section
variable (y0:List Int)(y1:List (Int×(Int×Int)))
def bp:List Int:=List.drop (Int.toNat 0) (List.take (Int.toNat 14) y0)
def gZ:List (Int×Int×Int):=bif !!ft cX (bp y0)&&true then y1 else y1
def hB:List (Int×Int×Int):= [(bif ft cX (bp y0)then (kT (bp y0)).1else(0:Int),bif ft cX (bp y0)then ((kT (bp y0)).2).1else(0:Int),bif ft cX (bp y0)then (kT (bp y0)).2.2else(0:Int))]
def gi:Bool:=leI 14 (↑y0.length:Int)
end
def sM:Bool:=leI 0 0
def nQ:Bool:=leI 0 14
section
variable (y0:List Int)(y1:List (Int×(Int×Int)))
def nR:Bool:=Gx (bp y0)
def nS:Bool:=bif !ft cX (bp y0)then true else(bif ft cX (bp y0)then rW (bp y0)else(0:Int))!=gK y1
def nT:List (Int×(Int×Int)):=gZ y0 y1
def nU:Bool:=leN (List.length (gZ y0 y1) + List.length (hB y0)) 9223372036854775807
def nV:Bool:=leN ((List.length (gZ y0 y1) + List.length (hB y0)) * 24) 140737488355328
def sN:Bool:=leI (↑y0.length:Int) (↑y0.length:Int)
def nW:List Int:=List.drop (Int.toNat 14) (List.take (Int.toNat (↑y0.length:Int)) y0)
def mL:List (Int×(Int×Int)):=gZ y0 y1++hB y0
end
def xh:dA→List (Nat×SV)
 |(_,_)=> [(0,(.one ⟨false,[.ref 0]⟩)),(3,(.one ⟨false,[.ref 1]⟩))]
def xf:dA→List (Nat×Entry)
 |(y0,y1)=> [(0,(.row false 2 Mr y0)),(1,(.row true 36 Mp y1))]
def xx:Nat→dA→List (Nat×SV)
 |0,(_,_)=> [(3,(.one ⟨false,[.ref 1]⟩))]
 |_,(_,_)=> [(3,(.one ⟨false,[.ref 1]⟩))]
def xu:Nat→dA→List (Nat×Entry)
 |0,(y0,y1)=> [(0,(.row false 2 Mr y0)),(1,(.row true 36 Mp (nT y0 y1)))]
 |_,(y0,y1)=> [(0,(.row false 2 Mr y0)),(1,(.row true 36 Mp y1))]
def jO:dA→LT dA
 |(y0,y1)=> .ite (gi y0) (.need [sM,nQ,gi y0,nR y0] (.ite (nS y0 y1) (.ext 0 [(0,0),(1,1)]) (.need [nU y0 y1,nV y0 y1] (.need [nQ,gi y0,sN y0] (.nrm ((nW y0),(mL y0 y1)) [(0,1856),(1,1664)]))))) (.ext 1 [(0,0),(1,1)])
def mQ(s:St):Option dA:=
 (match s.look 0 with
 |some ⟨none,.one ⟨false,[.ref 0]⟩⟩=>
 (match s.look 3 with
 |some ⟨none,.one ⟨false,[.ref 192]⟩⟩=>
 (match s.ent 0 with
 |some (.row false 2 (.int .i64) y0)=>
 (match s.ent 192 with
 |some (.row true 36 (.pair (.int .i64) (.pair (.int .i64) (.int .i64))) y1)=>
 some (y0,y1)
 |_=>none)
 |_=>none)
 |_=>none)
 |_=>none)
def aO:Lp dA where
 h:=⟨[7,8,9,11,12,13,10,14,15,16,4,5,6,17,18,19,20,21,22,23,24,25,26,27,28,3,29,30,0],[],[0,1],[]⟩
 JL:=xh
 JE:=xf
 XL:=xx
 XE:=xu
 q:=fun j=>match j with | 0=> .exit 0 | _=> .exit 0
 tags:= [0,1]
 lt:=jO
 fuel:=fun(y0,y1)=>y0.length + y1.length
 fix:=fun(_,_) (y0,y1)=>(y0,y1)
 σ:= [(0,0),(1,192)]
 rd:=mQ
theorem vX:LoopOk prog (fun k=>Nat.blt k Try.f81.ntmps) aO.F (bT f81 0):=by
 refine Lp.ok (tbl:= (T3z [lz,ci])) (lf:= []) bA aO (by kernel_rfl) (LOk.nil _) (fun _=>rfl) (fun j _=>by unfold aO;match j with | 0=>rfl | _ + 1=>rfl) ?_ ?_ ?_ ?_ (fun _=>rfl) ?_
 ·rintro⟨y0,y1⟩;kernel_rfl
 ·rintro⟨y0,y1⟩;kernel_rfl
 ·intro s x h
  have h:mQ s=some x:=h
  unfold mQ at h
  repeat' split at h
  all_goals cases h
  constructor<;>repeat(first|refine af (by assumption) rfl ?_|refine aP rfl (by assumption) rfl ?_|exact rfl)
 ·rintro⟨y0,y1⟩;kernel_rfl
 ·rintro⟨y0,y1⟩ z;exact(And.intro (And.intro trivial rfl) trivial)
section
variable (x0:List Int)
def ic:List Int×List (Int×Int×Int):=(x0,[])
def mn:List (Int×Int×Int):=(Lp.res aO (ic x0)).2.2
def gL:List (Int×(Int×Int)):=bif Nat.beq ((Lp.res aO (ic x0)).1) 0 then nT (((Lp.res aO (ic x0)).2).1) (mn x0)else mn x0
def kC:Bool:=allT [Lp.fin aO (ic x0)]
end
def uy:List SV→List Entry→Option Out
 | [.one ⟨false,[.ref 0]⟩],[.row false 2 (.int .i64) x0]=>some ⟨.one ⟨false,[.ref 1]⟩,[.row false 2 Mr x0],[.row true 36 Mp (gL x0)],[kC x0]⟩
 |_,_=>none
def iU:PF prog:=PF.ofG prog (T3z [lz,ci]) [aO.F] bA 81 f81 func81 (LOk.fnT (l:= [bT f81 0]) (by kernel_rfl) (.cons vX (.nil _))) uy (by
 intro vs es r h;unfold uy at h;split at h
 ·cases h;kernel_rfl
 ·cases h)
section
variable (x0 x1 x2:Int)(x3:List Int)
def dW:Bool:= !jP (x0,x1,x2)
def jJ:List (Int×Int×Int):= [(x0,x1,x2)]
def jK:List (Int×Int×Int):=gL x3++jJ x0 x1 x2
def nN:Int:=bif dW x0 x1 x2 then(1:Int)else bif !gX x3 then(2:Int)else nq (jK x0 x1 x2 x3)
def nO:List Int:=bif dW x0 x1 x2 then []else bif !gX x3 then []else nr (jK x0 x1 x2 x3)
def nP:Bool:=allT [dW x0 x1 x2||(!gX x3||kC x3),dW x0 x1 x2||(!gX x3||leN (List.length (gL x3) + List.length (jJ x0 x1 x2)) 9223372036854775807),dW x0 x1 x2||(!gX x3||leN ((List.length (gL x3) + List.length (jJ x0 x1 x2)) * 24) 140737488355328),dW x0 x1 x2||(!gX x3||nt (jK x0 x1 x2 x3))]
end
def sE:List SV→List Entry→Option Out
 | [.one ⟨false,[.ref 0]⟩,.one ⟨true,[.val (.int .i64 x0),.val (.int .i64 x1),.val (.int .i64 x2)]⟩],[.row false 2 (.int .i64) x3]=>some ⟨.tup [⟨false,[.ref 1]⟩,⟨false,[.val (.int .i64 (nN x0 x1 x2 x3))]⟩],[.row false 2 Mr x3],[.row true 2 Mr (nO x0 x1 x2 x3)],[nP x0 x1 x2 x3]⟩
 |_,_=>none
def zg:PF prog:=PF.ofG prog (T3z [mN,eV,rr,iU]) [] bA 24 f24 func24 (fun c _=>LOk.nil c) sE (by
 intro vs es r h;unfold sE at h;split at h
 ·cases h;kernel_rfl
 ·cases h)
abbrev dd:=Int×List Int×List (Int×(Int×Int))
section
variable (y0:Int)(y1:List Int)(y2:List (Int×(Int×Int)))
def bw:Int:=IntKind.wrap .i64 (y0 + (14:Int))
def mi:Int×Int:=(kT (List.drop y0.toNat (List.take (Int.toNat (bw y0)) y1))).2
def gE:List (Int×Int×Int):= [((kT (List.drop y0.toNat (List.take (Int.toNat (bw y0)) y1))).1,(mi y0 y1).1,(mi y0 y1).2)]
def fB:Bool:=leI (bw y0) (↑y1.length:Int)
def sg:Bool:=leI 0 y0
def nf:Bool:=leI y0 (bw y0)
def ng:Bool:=Gx (List.drop y0.toNat (List.take (Int.toNat (bw y0)) y1))
def nh:Bool:=bif !ft cX (List.drop y0.toNat (List.take (Int.toNat (bw y0)) y1))then true else rW (List.drop y0.toNat (List.take (Int.toNat (bw y0)) y1))!=(↑y2.length:Int)
def ni:Bool:=leN (List.length y2 + List.length (gE y0 y1)) 9223372036854775807
def nj:Bool:=leN ((List.length y2 + List.length (gE y0 y1)) * 24) 140737488355328
def si:Int:=bw y0
def nk:List (Int×(Int×Int)):=y2++gE y0 y1
end
def wE:dd→List (Nat×SV)
 |(y0,_,_)=> [(4,(.one ⟨false,[.val (.int .i64 y0)]⟩)),(0,(.one ⟨false,[.ref 0]⟩)),(3,(.one ⟨false,[.ref 1]⟩))]
def wC:dd→List (Nat×Entry)
 |(_,y1,y2)=> [(0,(.row false 2 Mr y1)),(1,(.row true 36 Mp y2))]
def wI:Nat→dd→List (Nat×SV)
 |0,(_,_,_)=> [(2,(.one ⟨false,[.ref 1]⟩))]
 |_,(_,_,_)=> [(3,(.one ⟨false,[.ref 1]⟩))]
def wG:Nat→dd→List (Nat×Entry)
 |0,(_,y1,y2)=> [(0,(.row false 2 Mr y1)),(1,(.row true 36 Mp y2))]
 |_,(_,y1,y2)=> [(0,(.row false 2 Mr y1)),(1,(.row true 36 Mp y2))]
def jz:dd→LT dd
 |(y0,y1,y2)=> .ite (fB y0 y1) (.need [sg y0,nf y0,fB y0 y1,ng y0 y1] (.ite (nh y0 y1 y2) (.ext 0 [(0,0),(1,1)]) (.need [ni y0 y1 y2,nj y0 y1 y2] (.nrm ((si y0),y1,(nk y0 y1 y2)) [(0,0),(1,1984)])))) (.ext 1 [(0,0),(1,1)])
def lS(s:St):Option dd:=
 (match s.look 4 with
 |some ⟨none,.one ⟨false,[.val (.int .i64 y0)]⟩⟩=>
 (match s.look 0 with
 |some ⟨none,.one ⟨false,[.ref 0]⟩⟩=>
 (match s.look 3 with
 |some ⟨none,.one ⟨false,[.ref 192]⟩⟩=>
 (match s.ent 0 with
 |some (.row false 2 (.int .i64) y1)=>
 (match s.ent 192 with
 |some (.row true 36 (.pair (.int .i64) (.pair (.int .i64) (.int .i64))) y2)=>
 some (y0,y1,y2)
 |_=>none)
 |_=>none)
 |_=>none)
 |_=>none)
 |_=>none)
def aR:Lp dd where
 h:=⟨[9,10,11,12,13,17,18,19,20,21,22,16,23,24,25,5,6,7,26,27,28,29,30,31,32,33,34,2,35,36,37,38,3,14,15,4],[0],[1],[]⟩
 JL:=wE
 JE:=wC
 XL:=wI
 XE:=wG
 q:=fun j=>match j with | 0=> .ret | _=> .exit 0
 tags:= [0,1]
 lt:=jz
 fuel:=fun(y0,y1,y2)=>y0.natAbs + y1.length + y2.length
 fix:=fun(_,y1,_) (y0,_,y2)=>(y0,y1,y2)
 σ:= [(0,0),(1,192)]
 rd:=lS
theorem uU:LoopOk prog (fun k=>Nat.blt k Try.f84.ntmps) aR.F (bT f84 0):=by
 refine Lp.ok (tbl:= (T3z [iT])) (lf:= []) bA aR (by kernel_rfl) (LOk.nil _) (fun _=>rfl) (fun j _=>by unfold aR;match j with | 0=>rfl | _ + 1=>rfl) ?_ ?_ ?_ ?_ (fun _=>rfl) ?_
 ·rintro⟨y0,y1,y2⟩;kernel_rfl
 ·rintro⟨y0,y1,y2⟩;kernel_rfl
 ·intro s x h
  have h:lS s=some x:=h
  unfold lS at h
  repeat' split at h
  all_goals cases h
  constructor<;>repeat(first|refine af (by assumption) rfl ?_|refine aP rfl (by assumption) rfl ?_|exact rfl)
 ·rintro⟨y0,y1,y2⟩;kernel_rfl
 ·rintro⟨y0,y1,y2⟩ z;exact(And.intro (And.intro trivial rfl) trivial)
section
variable (x0:List Int)
def jy:Int×List Int×List (Int×Int×Int):=((0:Int),x0,[])
def lq:List (Int×Int×Int):=(Lp.res aR (jy x0)).2.2.2
def eR:List (Int×(Int×Int)):=bif Nat.beq ((Lp.res aR (jy x0)).1) 0 then lq x0 else lq x0
def kd:Bool:=allT [Lp.fin aR (jy x0)]
end
def tK:List SV→List Entry→Option Out
 | [.one ⟨false,[.ref 0]⟩],[.row false 2 (.int .i64) x0]=>some ⟨.one ⟨false,[.ref 1]⟩,[.row false 2 Mr x0],[.row true 36 Mp (eR x0)],[kd x0]⟩
 |_,_=>none
def ii:PF prog:=PF.ofG prog (T3z [iT]) [aR.F] bA 84 f84 func84 (LOk.fnT (l:= [bT f84 0]) (by kernel_rfl) (.cons uU (.nil _))) tK (by
 intro vs es r h;unfold tK at h;split at h
 ·cases h;kernel_rfl
 ·cases h)
section
variable (x0 x1 x2:Int)(x3:List Int)
def eb:Bool:= !jP (x0,x1,x2)
def fw:Bool:=(↑(List.length (eR x3)):Int)==100
def jR:List (Int×Int×Int):= [(x0,x1,x2)]
def mS:List (Int×Int×Int):=eR x3++jR x0 x1 x2
def oq:Int:=bif eb x0 x1 x2 then(1:Int)else bif !gX x3 then(2:Int)else bif fw x3 then(3:Int)else(0:Int)
def ot:List Int:=bif eb x0 x1 x2 then []else bif !gX x3 then []else bif fw x3 then []else mB (mS x0 x1 x2 x3)
def ou:Bool:=allT [eb x0 x1 x2||(!gX x3||kd x3),eb x0 x1 x2||(!gX x3||(fw x3||leN (List.length (eR x3) + List.length (jR x0 x1 x2)) 9223372036854775807)),eb x0 x1 x2||(!gX x3||(fw x3||leN ((List.length (eR x3) + List.length (jR x0 x1 x2)) * 24) 140737488355328)),eb x0 x1 x2||(!gX x3||(fw x3||mC (mS x0 x1 x2 x3)))]
end
def sG:List SV→List Entry→Option Out
 | [.one ⟨false,[.ref 0]⟩,.one ⟨true,[.val (.int .i64 x0),.val (.int .i64 x1),.val (.int .i64 x2)]⟩],[.row false 2 (.int .i64) x3]=>some ⟨.tup [⟨false,[.ref 1]⟩,⟨false,[.val (.int .i64 (oq x0 x1 x2 x3))]⟩],[.row false 2 Mr x3],[.row true 2 Mr (ot x0 x1 x2 x3)],[ou x0 x1 x2 x3]⟩
 |_,_=>none
def zi:PF prog:=PF.ofG prog (T3z [mO,eW,ii,mt]) [] bA 25 f25 func25 (fun c _=>LOk.nil c) sG (by
 intro vs es r h;unfold sG at h;split at h
 ·cases h;kernel_rfl
 ·cases h)
section
variable (x0:List Int)
def lF:Int:=bif !gX x0 then(2:Int)else(0:Int)
def lG:List (Int×(Int×Int)):=bif !gX x0 then []else gL x0
def lH:Bool:=allT [!gX x0||kC x0]
end
def ra:List SV→List Entry→Option Out
 | [.one ⟨false,[.ref 0]⟩],[.row false 2 (.int .i64) x0]=>some ⟨.tup [⟨false,[.ref 1]⟩,⟨false,[.val (.int .i64 (lF x0))]⟩],[.row false 2 Mr x0],[.row true 36 Mp (lG x0)],[lH x0]⟩
 |_,_=>none
def wP:PF prog:=PF.ofG prog (T3z [eV,iU]) [] bA 26 f26 func26 (fun c _=>LOk.nil c) ra (by
 intro vs es r h;unfold ra at h;split at h
 ·cases h;kernel_rfl
 ·cases h)
section
variable (x0:List Int)
def lU:Int:=bif !gX x0 then(2:Int)else(0:Int)
def lV:List (Int×(Int×Int)):=bif !gX x0 then []else eR x0
def lW:Bool:=allT [!gX x0||kd x0]
end
def re:List SV→List Entry→Option Out
 | [.one ⟨false,[.ref 0]⟩],[.row false 2 (.int .i64) x0]=>some ⟨.tup [⟨false,[.ref 1]⟩,⟨false,[.val (.int .i64 (lU x0))]⟩],[.row false 2 Mr x0],[.row true 36 Mp (lV x0)],[lW x0]⟩
 |_,_=>none
def wS:PF prog:=PF.ofG prog (T3z [eW,ii]) [] bA 27 f27 func27 (fun c _=>LOk.nil c) re (by
 intro vs es r h;unfold re at h;split at h
 ·cases h;kernel_rfl
 ·cases h)
section
variable (x0:List Int)
def pL:Int:=bif !gX x0 then(0:Int)else cX x0
def pM:Int:=bif !gX x0 then(2:Int)else(0:Int)
def pN:Bool:=allT [!gX x0||byA x0&&leN x0.length (9223372036854775807:Nat)]
end
def tF:List SV→List Entry→Option Out
 | [.one ⟨false,[.ref 0]⟩],[.row false 2 (.int .i64) x0]=>some ⟨.tup [⟨false,[.val (.int .i64 (pL x0))]⟩,⟨false,[.val (.int .i64 (pM x0))]⟩],[.row false 2 Mr x0],[],[pN x0]⟩
 |_,_=>none
def Bp:PF prog:=PF.ofG prog (T3z [eV,jE]) [] bA 29 f29 func29 (fun c _=>LOk.nil c) tF (by
 intro vs es r h;unfold tF at h;split at h
 ·cases h;kernel_rfl
 ·cases h)
section
variable (x0:List Int)
def qx:Int:=bif !gX x0 then(0:Int)else cX x0
def qy:Int:=bif !gX x0 then(2:Int)else(0:Int)
def qz:Bool:=allT [!gX x0||leN x0.length (9223372036854775807:Nat)]
end
def tI:List SV→List Entry→Option Out
 | [.one ⟨false,[.ref 0]⟩],[.row false 2 (.int .i64) x0]=>some ⟨.tup [⟨false,[.val (.int .i64 (qx x0))]⟩,⟨false,[.val (.int .i64 (qy x0))]⟩],[.row false 2 Mr x0],[],[qz x0]⟩
 |_,_=>none
def Bs:PF prog:=PF.ofG prog (T3z [eW,jF]) [] bA 30 f30 func30 (fun c _=>LOk.nil c) tI (by
 intro vs es r h;unfold tI at h;split at h
 ·cases h;kernel_rfl
 ·cases h)
def sW(l:List Rc):Bool:=l.all jP
theorem ym{l:List Rc}:sW l=true↔ ∀ x∈l,jP x=true:=by simp only [sW,List.all_eq_true]
def wz(a:List Int)(x:Rc):List Int:=a++sS cX x ((a.length / 14:Nat):Int)
theorem BU: ∀ (rs:List Rc) (a:List Int) (k:Nat),a.length=14 * k→rs.foldl wz a=a++vW cX rs (k:Int)
 | [],a,k,_=>by simp [vW]
 |x::rs,a,k,h=>by
  rw [List.foldl_cons,BU rs (wz a x) (k + 1) (by simp only [wz,List.length_append,oA];omega)]
  simp only [wz,vW,List.append_assoc,show a.length / 14=k by omega]
  rfl
theorem CP(rs:List Rc)(h:(sW rs&&leN rs.length 100)=true):mB rs=vW cX rs 0∧mC rs=true:=by
 simp only [Bool.and_eq_true,eq]at h
 have cg:=ym.1 h.1
 have hl:=h.2
 have fJ:=bR.walkK (fun i a=>((i:Int),rs,a)) (fun b a=> .inr (wz a b)) 0 (fun i a=>a.length=14 * i) rs (fun i b a hb hI=>⟨?_,fun a' ha=> ?_⟩) (fun a _=> ?_) [] rfl (by omega)
 ·rw [gv (g:=wz) (fun b a=>rfl),BU rs [] 0 rfl]at fJ
  obtain⟨k1,k2⟩:=fJ
  have k1':bR.fin (lp rs)=true:=k1
  have k2':bR.res (lp rs)=_:=k2
  simp only [mB,mC,k1',k2',allT,cond_true,and_true]
  rfl
 ·have cH:=(List.getElem?_eq_some_iff.1 hb).1
  have kh: ∀ d,Option.getD rs[i]? d=b:=fun d=>by rw [hb];rfl
  have hw:=sD cH (by omega)
  have kA:ltI (i:Int) (rs.length:Int)=true:=jl (by omega)
  have xM:leI (0:Int) (i:Int)=true:=cZ (by omega)
  have mJ:ltN i rs.length=true:=mM cH
  have e1:dJ (i:Int) rs=b:=by simp only [dJ,gD,Int.toNat_natCast,kh]
  have ho:=cg b (List.mem_of_getElem? hb)
  have hn:oe (i:Int)=true:=uY.2 (by omega)
  have t1:leN (a.length + 14) 9223372036854775807=true:=eU (by omega)
  have t2:leN ((a.length + 14) * 8) 140737488355328=true:=eU (by omega)
  simp only [bR,lM,kb,mX,mY,mZ,na,nb,nc,ne,LT.out,allT,Int.toNat_natCast,oA,kA,xM,mJ,e1,ho,hn,t1,t2,hw,Bool.and_self,cond_true,wz,show a.length / 14=i by omega]
 ·simp only [Sum.inr.injEq]at ha;subst ha;simp only [wz,List.length_append,oA];omega
 ·simp [gD,dJ,kb,mX,mY,mZ,na,nb,nc,ne,lM,bR,LT.out]
def tN:List SV→List Entry→Option Out
 | [.one ⟨false,[.ref 0]⟩],[.row false 36 (.pair (.int .i64) (.pair (.int .i64) (.int .i64))) x0]=>some ⟨.one ⟨false,[.ref 1]⟩,[.row false 36 Mp x0],[.row true 2 Mr (vW cX x0 0)],[sW x0&&leN x0.length 100]⟩
 |_,_=>none
def ig:PF prog:=PF.alt mt tN (by
 intro args es o h bk;unfold tN at h;split at h
 ·rename_i x0
  cases h
  have bk:=ki bk
  have hh:=CP x0 bk
  obtain⟨e0,en⟩:=hh
  exact iw rfl (fV en) rfl rfl (by simp only [e0] <;> rfl)
 ·cases h)
theorem GQ(rs:List Rc)(h:(sW rs&&leN rs.length 100)=true):pZ rs=vW cX rs 0∧qa rs=true:=by
 simp only [Bool.and_eq_true,eq]at h
 have cg:=ym.1 h.1
 have hl:=h.2
 have fJ:=cD.walkK (fun i a=>((i:Int),(rs.length:Int),rs,a)) (fun b a=> .inr (wz a b)) 0 (fun i a=>a.length=14 * i) rs (fun i b a hb hI=>⟨?_,fun a' ha=> ?_⟩) (fun a _=> ?_) [] rfl (by omega)
 ·rw [gv (g:=wz) (fun b a=>rfl),BU rs [] 0 rfl]at fJ
  obtain⟨k1,k2⟩:=fJ
  have k1':cD.fin (oI rs)=true:=k1
  have k2':cD.res (oI rs)=_:=k2
  simp only [pZ,qa,k1',k2',allT,cond_true,and_true]
  rfl
 ·have cH:=(List.getElem?_eq_some_iff.1 hb).1
  have kh: ∀ d,Option.getD rs[i]? d=b:=fun d=>by rw [hb];rfl
  have hw:=sD cH (by omega)
  have kA:ltI (i:Int) (rs.length:Int)=true:=jl (by omega)
  have xM:leI (0:Int) (i:Int)=true:=cZ (by omega)
  have mJ:ltN i rs.length=true:=mM cH
  have e1:fj (i:Int) rs=b:=by simp only [fj,iY,Int.toNat_natCast,kh]
  have ho:=cg b (List.mem_of_getElem? hb)
  have hn:oe (i:Int)=true:=uY.2 (by omega)
  have t1:leN (a.length + 14) 9223372036854775807=true:=eU (by omega)
  have t2:leN ((a.length + 14) * 8) 140737488355328=true:=eU (by omega)
  simp only [cD,pf,qb,qc,qd,qe,qf,qg,qh,qi,qj,LT.out,allT,Int.toNat_natCast,oA,kA,xM,mJ,e1,ho,hn,t1,t2,hw,Bool.and_self,cond_true,wz,show a.length / 14=i by omega]
 ·simp only [Sum.inr.injEq]at ha;subst ha;simp only [wz,List.length_append,oA];omega
 ·simp [iY,fj,qb,qc,qd,qe,qf,qg,qh,qi,qj,pf,cD,LT.out]
def aK(b:Int×(Int×Int)):(Unit)→Nat ⊕ (Unit)
 |_=>(bif(gW b.1 (b.2.1) b.2.2)then(.inl 0)else(.inr ()))
def au(y2:List (Int×(Int×Int)))(i:Nat):(Unit)→ai
 |_=>((i:Int),(↑y2.length:Int),y2)
def cK:ai→Unit
 |(_,_,_)=>()
theorem kQ(y2:List (Int×(Int×Int))) (hn:y2.length≤9223372036854775807):
  ac.fin ((0:Int),(↑y2.length:Int),y2)=true∧ac.res ((0:Int),(↑y2.length:Int),y2)=((cw (aK) 1 y2 0 ()).1,(au y2) (cw (aK) 1 y2 0 ()).2.1 (cw (aK) 1 y2 0 ()).2.2):=by
 have fJ:=ac.along (au y2) cK (aK) 1 (fun _ _=>True) y2 () (by trivial) (by simp only [ac,au];omega) (fun i b a hb hI=> ?_) (fun a hI=> ?_)
 ·exact fJ
 ·obtain⟨⟩:=a
  have cH:=(List.getElem?_eq_some_iff.1 hb).1
  have kh: ∀ d,Option.getD y2[i]? d=b:=fun d=>by rw [hb];rfl
  have hw:=sD cH hn
  have kA:ltI (i:Int) (y2.length:Int)=true:=jl (by omega)
  have xM:leI (0:Int) (i:Int)=true:=cZ (by omega)
  have mJ:ltN i y2.length=true:=mM cH
  refine⟨?_,?_,?_,?_⟩
  ·simp [ay,bd,be,bf,bg,bh,bi,aX,ac,LT.nds,allT,au,kA,xM,mJ,kh]
  ·simp [ay,bd,be,bf,bg,bh,bi,aX,ac,LT.each,au,cK,hw]
  ·simp only [ay,bd,be,bf,bg,bh,bi,aX,ac,LT.fn,au,cK,aK,Int.toNat_natCast,kA,xM,mJ,kh,cond_true,Bool.cond_self]
  ·exact fun _ _=>trivial
 ·obtain⟨⟩:=a
  simp [ay,bd,be,bf,bg,bh,bi,aX,ac,LT.out,au]
def joC(rs:List Rc):Int:=bif leN rs.length 100 then(bif sW rs then 0 else 1)else 3
def joL(rs:List Rc):List Int:=bif leN rs.length 100 then(bif sW rs then vW cX rs 0 else [])else []
theorem Jh(rs:List Rc):nq rs=joC rs∧nr rs=joL rs∧nt rs=true:=by
 have hq:ia rs= !leN rs.length 100:=by
  simp only [ia]
  by_cases h:rs.length≤100
  ·rw [eU h,CD (by omega)];rfl
  ·rw [Fp (by omega),jl (by omega)];rfl
 simp only [nq,nr,nt,hq,joC,joL]
 cases hl:leN rs.length 100 with
 |false=>exact⟨rfl,rfl,rfl⟩
 |true=>
  have hl':=eq.1 hl
  obtain⟨w1,w2⟩:=kQ rs (by omega)
  rw [nI (P:=fun b=> !jP b) (j:=0) (fun b=>by simp only [aK,gW])]at w2
  have e5:(rs.any fun b=> !jP b)= !sW rs:=by simp [sW,List.all_eq_not_any_not]
  rw [e5]at w2
  have hc:aL rs= !sW rs∧bP rs=true:=by
   simp only [aL,bP,bY,dw,dx,w1,w2,allT,au,cond_true]
   cases sW rs with
   |false=>simp [Nat.beq]
   |true=>simp [Nat.beq]
  rw [hc.1,hc.2]
  cases hr:sW rs with
  |false=>exact⟨rfl,rfl,rfl⟩
  |true=>
   obtain⟨q1,q2⟩:=GQ rs (by rw [hr,hl];rfl)
   rw [q1,q2]
   exact⟨rfl,rfl,rfl⟩
def ru(l:List Int):List Rc:=Ew cX l 143 []
def zC(l:List Int)(_:Nat)(a:List Rc):Nat ⊕ List Rc:=bif decide (14 * a.length + 14≤l.length)then(bif ft cX (nL l a.length)&&decide (rW (nL l a.length)=(a.length:Int))then .inr (a++ [kT (nL l a.length)])else .inl 0)else .inl 1
theorem Fx{l:List Int}{b:Nat}{a a':List Rc}(h:zC l b a= .inr a'):a'.length=a.length + 1:=by
 unfold zC at h
 cases h1:decide (14 * a.length + 14≤l.length)with
 |false=>rw [h1]at h;cases h
 |true=>
  rw [h1,cond_true]at h
  cases h2:(ft cX (nL l a.length)&&decide (rW (nL l a.length)=(a.length:Int)))with
  |false=>rw [h2]at h;cases h
  |true=>
   rw [h2,cond_true]at h
   simp only [Sum.inr.injEq]at h
   subst h
   simp
theorem EH(l:List Int): ∀ (xs:List Nat) (i:Nat) (a:List Rc),(cw (zC l) 1 xs i a).2.2=Ew cX l xs.length a
 | [],i,a=>rfl
 |b::r,i,a=>by
  simp only [cw,List.length_cons,Ew,Ev,zC]
  cases decide (14 * a.length + 14≤l.length)with
  |false=>rfl
  |true=>
   simp only [cond_true,Bool.true_and]
   cases ft cX (nL l a.length)&&decide (rW (nL l a.length)=(a.length:Int))with
   |false=>rfl
   |true=>exact EH l r _ _
theorem Kd(a b:Int):(a !=b)= !decide (a=b):=by by_cases h:a=b <;> simp [h]
theorem Ah(l:List Int)(h:gX l=true):gL l=ru l∧kC l=true:=by
 simp only [gX,Bool.and_eq_true,eq]at h
 obtain⟨hl,HT⟩:=h
 have fJ:=aO.walkK (fun i a=>(l.drop (14 * i),a)) (zC l) 1 (fun i a=>a.length=i) (List.range 143) (fun i b a hb hI=>⟨?_,fun a' ha=> ?_⟩) (fun a hI=> ?_) [] rfl (by simp)
 ·obtain⟨k1,k2⟩:=fJ
  have hw:=EH l (List.range 143) 0 []
  rw [List.length_range]at hw
  rw [hw]at k2
  have k1':aO.fin (ic l)=true:=k1
  have k2':aO.res (ic l)=_:=k2
  have a1:mn l=ru l:=by simp only [mn,k2'];rfl
  have a5: ∀ y0 y1,nT y0 y1=y1:=fun y0 y1=>Bool.cond_self _ _
  refine⟨?_,by simp only [kC,k1',allT,cond_true]⟩
  simp only [gL,a1,a5,Bool.cond_self]
 ·subst hI
  have a0:bp (l.drop (14 * a.length))=nL l a.length:=rfl
  have a1:gZ (l.drop (14 * a.length)) a=a:=Bool.cond_self _ _
  have dK:((l.drop (14 * a.length)).length:Int)=(l.length:Int) - 14 * (a.length:Int)∨(l.length≤14 * a.length∧(l.drop (14 * a.length)).length=0):=by
   rw [List.length_drop];omega
  by_cases h1:14 * a.length + 14≤l.length
  ·have q0:gi (l.drop (14 * a.length))=true:=cZ (by rw [List.length_drop];omega)
   have q3:nR (l.drop (14 * a.length))=true:=by
    simp only [nR,a0]
    exact AR.2 ⟨kR.2 (DG (kR.1 HT)),FN h1⟩
   have q4:nS (l.drop (14 * a.length)) a= !(ft cX (nL l a.length)&&decide (rW (nL l a.length)=(a.length:Int))):=by
    simp only [nS,a0,gK]
    cases ft cX (nL l a.length)with
    |false=>rfl
    |true=>simp only [Bool.not_true,cond_false,cond_true,Bool.true_and,Kd]
   have q1:sM=true:=rfl
   have q2:nQ=true:=rfl
   simp only [aO,jO,LT.out,allT,q0,q1,q2,q3,q4,cond_true,zC,decide_eq_true h1]
   cases hk:(ft cX (nL l a.length)&&decide (rW (nL l a.length)=(a.length:Int)))with
   |false=>rfl
   |true=>
    have hd:ft cX (nL l a.length)=true:=by simp only [Bool.and_eq_true]at hk;exact hk.1
    have a2:hB (l.drop (14 * a.length))= [kT (nL l a.length)]:=by
     simp only [hB,a0,hd,cond_true]
    have q6:nU (l.drop (14 * a.length)) a=true:=by simp only [nU,a1,a2,List.length_singleton];exact eU (by omega)
    have q7:nV (l.drop (14 * a.length)) a=true:=by simp only [nV,a1,a2,List.length_singleton];exact eU (by omega)
    have q8:sN (l.drop (14 * a.length))=true:=cZ (Int.le_refl _)
    have q9:nW (l.drop (14 * a.length))=l.drop (14 * (a.length + 1)):=by
     simp only [nW,Int.toNat_natCast,List.take_length,List.drop_drop]
     congr 1
    have q10:mL (l.drop (14 * a.length)) a=a++ [kT (nL l a.length)]:=by simp only [mL,a1,a2]
    simp only [q6,q7,q8,q9,q10,Bool.not_true,cond_true,cond_false]
  ·have q0:gi (l.drop (14 * a.length))=false:=Bf (by rw [List.length_drop];omega)
   simp only [aO,jO,LT.out,q0,cond_false,zC,decide_eq_false h1]
 ·subst hI
  exact Fx ha
 ·have q0:gi (l.drop (14 * (List.range 143).length))=false:=Bf (by rw [List.length_drop,List.length_range];omega)
  simp only [aO,jO,LT.out,q0,cond_false]
theorem Ax(l:List Int)(h:gX l=true):eR l=ru l∧kd l=true:=by
 simp only [gX,Bool.and_eq_true,eq]at h
 obtain⟨hl,HT⟩:=h
 have fJ:=aR.walkK (fun i a=>(((14 * i:Nat):Int),l,a)) (zC l) 1 (fun i a=>a.length=i) (List.range 143) (fun i b a hb hI=>⟨?_,fun a' ha=> ?_⟩) (fun a hI=> ?_) [] rfl (by simp)
 ·obtain⟨k1,k2⟩:=fJ
  have hw:=EH l (List.range 143) 0 []
  rw [List.length_range]at hw
  rw [hw]at k2
  have k1':aR.fin (jy l)=true:=k1
  have k2':aR.res (jy l)=_:=k2
  have a1:lq l=ru l:=by simp only [lq,k2'];rfl
  refine⟨?_,by simp only [kd,k1',allT,cond_true]⟩
  simp only [eR,a1,Bool.cond_self]
 ·subst hI
  have cH:=(nA hb).2
  have a0:bw ((14 * a.length:Nat):Int)=((14 * a.length + 14:Nat):Int):=by simp only [bw];rw [aN (by omega) (by omega)];omega
  have ab:List.drop (14 * a.length) (List.take (14 * a.length + 14) l)=nL l a.length:=by rw [List.drop_take,show 14 * a.length + 14 - 14 * a.length=14 by omega];rfl
  have q1:sg ((14 * a.length:Nat):Int)=true:=cZ (by omega)
  have q2:nf ((14 * a.length:Nat):Int)=true:=by simp only [nf,a0];exact cZ (by omega)
  have q0:fB ((14 * a.length:Nat):Int) l=decide (14 * a.length + 14≤l.length):=by
   simp only [fB,a0]
   by_cases h:14 * a.length + 14≤l.length
   ·rw [decide_eq_true h];exact cZ (by omega)
   ·rw [decide_eq_false h];exact Bf (by omega)
  by_cases h1:14 * a.length + 14≤l.length
  ·rw [decide_eq_true h1]at q0
   have q3:ng ((14 * a.length:Nat):Int) l=true:=by
    simp only [ng,a0,Int.toNat_natCast,ab]
    exact AR.2 ⟨kR.2 (DG (kR.1 HT)),FN h1⟩
   have q4:nh ((14 * a.length:Nat):Int) l a= !(ft cX (nL l a.length)&&decide (rW (nL l a.length)=(a.length:Int))):=by
    simp only [nh,a0,Int.toNat_natCast,ab]
    cases ft cX (nL l a.length)with
    |false=>rfl
    |true=>simp only [Bool.not_true,cond_false,Bool.true_and,Kd]
   have a2:gE ((14 * a.length:Nat):Int) l= [kT (nL l a.length)]:=by
    simp only [gE,mi,a0,Int.toNat_natCast,ab]
   simp only [aR,jz,LT.out,allT,q0,q1,q2,q3,q4,cond_true,zC,decide_eq_true h1]
   cases hk:(ft cX (nL l a.length)&&decide (rW (nL l a.length)=(a.length:Int)))with
   |false=>rfl
   |true=>
    have q5:ni ((14 * a.length:Nat):Int) l a=true:=by simp only [ni,a2,List.length_singleton];exact eU (by omega)
    have q6:nj ((14 * a.length:Nat):Int) l a=true:=by simp only [nj,a2,List.length_singleton];exact eU (by omega)
    have q8:nk ((14 * a.length:Nat):Int) l a=a++ [kT (nL l a.length)]:=by simp only [nk,a2]
    simp only [q5,q6,si,a0,q8,Bool.not_true,cond_true,cond_false]
    rfl
  ·rw [decide_eq_false h1]at q0
   simp only [aR,jz,LT.out,q0,cond_false,zC,decide_eq_false h1]
 ·subst hI
  exact Fx ha
 ·have a0:bw ((14 * (List.range 143).length:Nat):Int)=2016:=by rw [List.length_range];rfl
  have q0:fB ((14 * (List.range 143).length:Nat):Int) l=false:=by simp only [fB,a0];exact Bf (by omega)
  simp only [aR,jz,LT.out,q0,cond_false]
theorem Ey(l:List Int):(ru l).length≤100:=IP cX l 143 [] (by simp)
theorem Gl{l:List Int}(h:byA l=true):sW (ru l)=true:=ym.2 (Ki cX (kR.1 h) 143 [] (fun _ h=>by cases h))
theorem Jr{rs:List Rc}(hl:rs.length≤100)(h:sW rs=true):ru (vW cX rs 0)=rs:=Hf cX rs hl (ym.1 h) 143 0 (by omega) (by omega)
def rjC(l:List Int):Int:=bif gX l then 0 else 2
def rjL(l:List Int):List Rc:=bif gX l then ru l else []
def ckC(l:List Int):Int:=bif gX l then 0 else 2
def ckV(l:List Int):Int:=bif gX l then cX l else 0
def apC(x:Rc)(l:List Int):Int:=bif jP x then(bif gX l then(bif leN (ru l).length 99 then 0 else 3)else 2)else 1
def apL(x:Rc)(l:List Int):List Int:=bif jP x then(bif gX l then(bif leN (ru l).length 99 then vW cX (ru l++ [x]) 0 else [])else [])else []
theorem Jj(l:List Int):lF l=rjC l∧lG l=rjL l∧lH l=true:=by
 simp only [lF,lG,lH,rjC,rjL]
 cases h:gX l with
 |false=>exact⟨rfl,rfl,rfl⟩
 |true=>rw [(Ah l h).1,(Ah l h).2];exact⟨rfl,rfl,rfl⟩
theorem JB(l:List Int):lU l=rjC l∧lV l=rjL l∧lW l=true:=by
 simp only [lU,lV,lW,rjC,rjL]
 cases h:gX l with
 |false=>exact⟨rfl,rfl,rfl⟩
 |true=>rw [(Ax l h).1,(Ax l h).2];exact⟨rfl,rfl,rfl⟩
theorem pA{l:List Int}(h:gX l=true):byA l=true∧leN l.length 9223372036854775807=true:=by
 simp only [gX,Bool.and_eq_true,eq]at h
 exact⟨h.2,eU (by omega)⟩
theorem Jf(l:List Int):pL l=ckV l∧pM l=ckC l∧pN l=true:=by
 simp only [pL,pM,pN,ckC,ckV]
 cases h:gX l with
 |false=>exact⟨rfl,rfl,rfl⟩
 |true=>rw [(pA h).1,(pA h).2];exact⟨rfl,rfl,rfl⟩
theorem Jv(l:List Int):qx l=ckV l∧qy l=ckC l∧qz l=true:=by
 simp only [qx,qy,qz,ckC,ckV]
 cases h:gX l with
 |false=>exact⟨rfl,rfl,rfl⟩
 |true=>rw [(pA h).2];exact⟨rfl,rfl,rfl⟩
def rg:List SV→List Entry→Option Out
 | [.one ⟨false,[.ref 0]⟩],[.row false 2 (.int .i64) x0]=>some ⟨.tup [⟨false,[.ref 1]⟩,⟨false,[.val (.int .i64 (rjC x0))]⟩],[.row false 2 Mr x0],[.row true 36 Mp (rjL x0)],[]⟩
 |_,_=>none
def lN:PF prog:=PF.alt wP rg (by
 intro args es o h bk;unfold rg at h;split at h
 ·rename_i x0
  cases h
  have hh:=Jj x0
  obtain⟨e0,e1,en⟩:=hh
  exact iw rfl (fV en) (by simp only [e0] <;> rfl) rfl (by simp only [e1] <;> rfl)
 ·cases h)
def rj:List SV→List Entry→Option Out
 | [.one ⟨false,[.ref 0]⟩],[.row false 2 (.int .i64) x0]=>some ⟨.tup [⟨false,[.ref 1]⟩,⟨false,[.val (.int .i64 (rjC x0))]⟩],[.row false 2 Mr x0],[.row true 36 Mp (rjL x0)],[]⟩
 |_,_=>none
def lP:PF prog:=PF.alt wS rj (by
 intro args es o h bk;unfold rj at h;split at h
 ·rename_i x0
  cases h
  have hh:=JB x0
  obtain⟨e0,e1,en⟩:=hh
  exact iw rfl (fV en) (by simp only [e0] <;> rfl) rfl (by simp only [e1] <;> rfl)
 ·cases h)
def tL:List SV→List Entry→Option Out
 | [.one ⟨false,[.ref 0]⟩],[.row false 2 (.int .i64) x0]=>some ⟨.tup [⟨false,[.val (.int .i64 (ckV x0))]⟩,⟨false,[.val (.int .i64 (ckC x0))]⟩],[.row false 2 Mr x0],[],[]⟩
 |_,_=>none
def qo:PF prog:=PF.alt Bp tL (by
 intro args es o h bk;unfold tL at h;split at h
 ·rename_i x0
  cases h
  have hh:=Jf x0
  obtain⟨e0,e1,en⟩:=hh
  exact iw rfl (fV en) (by simp only [e0,e1] <;> rfl) rfl rfl
 ·cases h)
def tM:List SV→List Entry→Option Out
 | [.one ⟨false,[.ref 0]⟩],[.row false 2 (.int .i64) x0]=>some ⟨.tup [⟨false,[.val (.int .i64 (ckV x0))]⟩,⟨false,[.val (.int .i64 (ckC x0))]⟩],[.row false 2 Mr x0],[],[]⟩
 |_,_=>none
def qp:PF prog:=PF.alt Bs tM (by
 intro args es o h bk;unfold tM at h;split at h
 ·rename_i x0
  cases h
  have hh:=Jv x0
  obtain⟨e0,e1,en⟩:=hh
  exact iw rfl (fV en) (by simp only [e0,e1] <;> rfl) rfl rfl
 ·cases h)
theorem EA{rs:List Rc}{x:Rc}(h:sW rs=true)(hx:jP x=true):sW (rs++ [x])=true:=by
 simp only [sW,List.all_append,List.all_cons,List.all_nil,Bool.and_true,Bool.and_eq_true]at h ⊢
 exact⟨h,hx⟩
theorem Jd(t k v:Int)(l:List Int):nN t k v l=apC (t,k,v) l∧nO t k v l=apL (t,k,v) l∧nP t k v l=true:=by
 simp only [nN,nO,nP,dW,jJ,jK,apC,apL]
 cases hx:jP (t,k,v)with
 |false=>exact⟨rfl,rfl,rfl⟩
 |true=>
  cases hb:gX l with
  |false=>exact⟨rfl,rfl,rfl⟩
  |true=>
   have hl:=Ey l
   have hr:=EA (Gl (pA hb).1) hx
   obtain⟨e1,e2⟩:=Ah l hb
   obtain⟨j1,j2,j3⟩:=Jh (ru l++ [(t,k,v)])
   have t1:leN ((ru l).length + [(t,k,v)].length) 9223372036854775807=true:=eU (by simp only [List.length_singleton];omega)
   have t2:leN (((ru l).length + [(t,k,v)].length) * 24) 140737488355328=true:=eU (by simp only [List.length_singleton];omega)
   have t3:leN (ru l++ [(t,k,v)]).length 100=leN (ru l).length 99:=by
    rw [List.length_append,List.length_singleton]
    by_cases h:(ru l).length≤99
    ·rw [eU h,eU (by omega)]
    ·rw [Fp (by omega),Fp (by omega)]
   simp only [e1,e2,j1,j2,j3,t1,t2,joC,joL,hr,t3,Bool.not_true,Bool.or_true,Bool.false_or,cond_true,cond_false,allT,and_self]
theorem Jt(t k v:Int)(l:List Int):oq t k v l=apC (t,k,v) l∧ot t k v l=apL (t,k,v) l∧ou t k v l=true:=by
 simp only [oq,ot,ou,eb,fw,jR,mS,apC,apL]
 cases hx:jP (t,k,v)with
 |false=>exact⟨rfl,rfl,rfl⟩
 |true=>
  cases hb:gX l with
  |false=>exact⟨rfl,rfl,rfl⟩
  |true=>
   have hl:=Ey l
   have hr:=EA (Gl (pA hb).1) hx
   obtain⟨e1,e2⟩:=Ax l hb
   rw [e1,e2]
   cases h9:leN (ru l).length 99 with
   |false=>
    have h:=IG.1 h9
    have e:(((ru l).length:Int)==100)=true:=by simp;omega
    rw [e]
    exact⟨rfl,rfl,rfl⟩
   |true=>
    have h:=eq.1 h9
    have e:(((ru l).length:Int)==100)=false:=by simp;omega
    obtain⟨j1,j2⟩:=CP (ru l++ [(t,k,v)]) (by rw [hr];exact eU (by simp;omega))
    have t1:leN ((ru l).length + [(t,k,v)].length) 9223372036854775807=true:=eU (by simp only [List.length_singleton];omega)
    have t2:leN (((ru l).length + [(t,k,v)].length) * 24) 140737488355328=true:=eU (by simp only [List.length_singleton];omega)
    simp only [e,j1,j2,t1,t2,Bool.not_true,Bool.or_true,Bool.false_or,cond_true,cond_false,allT,and_self]
def sI:List SV→List Entry→Option Out
 | [.one ⟨false,[.ref 0]⟩,.one ⟨true,[.val (.int .i64 x0),.val (.int .i64 x1),.val (.int .i64 x2)]⟩],[.row false 2 (.int .i64) x3]=>some ⟨.tup [⟨false,[.ref 1]⟩,⟨false,[.val (.int .i64 (apC (x0,x1,x2) x3))]⟩],[.row false 2 Mr x3],[.row true 2 Mr (apL (x0,x1,x2) x3)],[]⟩
 |_,_=>none
def oa:PF prog:=PF.alt zg sI (by
 intro args es o h bk;unfold sI at h;split at h
 ·rename_i x0 x1 x2 x3
  cases h
  have hh:=Jd x0 x1 x2 x3
  obtain⟨e0,e1,en⟩:=hh
  exact iw rfl (fV en) (by simp only [e0] <;> rfl) rfl (by simp only [e1] <;> rfl)
 ·cases h)
def sK:List SV→List Entry→Option Out
 | [.one ⟨false,[.ref 0]⟩,.one ⟨true,[.val (.int .i64 x0),.val (.int .i64 x1),.val (.int .i64 x2)]⟩],[.row false 2 (.int .i64) x3]=>some ⟨.tup [⟨false,[.ref 1]⟩,⟨false,[.val (.int .i64 (apC (x0,x1,x2) x3))]⟩],[.row false 2 Mr x3],[.row true 2 Mr (apL (x0,x1,x2) x3)],[]⟩
 |_,_=>none
def od:PF prog:=PF.alt zi sK (by
 intro args es o h bk;unfold sK at h;split at h
 ·rename_i x0 x1 x2 x3
  cases h
  have hh:=Jt x0 x1 x2 x3
  obtain⟨e0,e1,en⟩:=hh
  exact iw rfl (fV en) (by simp only [e0] <;> rfl) rfl (by simp only [e1] <;> rfl)
 ·cases h)
abbrev ct:=Int×List (Int×(Int×Int))
section
variable (y0:Int)(y1:List (Int×(Int×Int)))
def ec:Int×Int×Int:=Option.getD y1[Int.toNat y0]? ((0:Int),(0:Int),(0:Int))
def gk:Bool:=ltI y0 (↑y1.length:Int)
def iC:Bool:=leI 0 y0
def iD:Bool:=ltN y0.toNat y1.length
def iE:Bool:= !jP ((ec y0 y1).1,((ec y0 y1).2).1,(ec y0 y1).2.2)
def iF:Int:=IntKind.wrap .i64 (y0 + (1:Int))
end
def xj:ct→List (Nat×SV)
 |(y0,_)=> [(4,(.one ⟨false,[.val (.int .i64 y0)]⟩)),(0,(.one ⟨false,[.ref 0]⟩))]
def xg:ct→List (Nat×Entry)
 |(_,y1)=> [(0,(.row false 36 Mp y1))]
def xy:Nat→ct→List (Nat×SV)
 |0,(_,_)=> [(2,(.one ⟨false,[.ref 1]⟩)),(3,(.one ⟨false,[.val (.int .i64 1)]⟩))]
 |_,(_,_)=> []
def xw:Nat→ct→List (Nat×Entry)
 |0,(_,y1)=> [(0,(.row false 36 Mp y1)),(1,(.row true 2 Mr []))]
 |_,(_,y1)=> [(0,(.row false 36 Mp y1))]
def hO:ct→LT ct
 |(y0,y1)=> .ite (gk y0 y1) (.need [iC y0,gk y0 y1,iD y0 y1] (.ite (iE y0 y1) (.ext 0 [(0,0),(1,704)]) (.nrm ((iF y0),y1) [(0,0)]))) (.ext 1 [(0,0)])
def mR(s:St):Option ct:=
 (match s.look 4 with
 |some ⟨none,.one ⟨false,[.val (.int .i64 y0)]⟩⟩=>
 (match s.look 0 with
 |some ⟨none,.one ⟨false,[.ref 0]⟩⟩=>
 (match s.ent 0 with
 |some (.row false 36 (.pair (.int .i64) (.pair (.int .i64) (.int .i64))) y1)=>
 some (y0,y1)
 |_=>none)
 |_=>none)
 |_=>none)
def aH:Lp ct where
 h:=⟨[8,9,10,11,14,15,16,17,18,19,2,3,12,13,4],[0],[],[1]⟩
 JL:=xj
 JE:=xg
 XL:=xy
 XE:=xw
 q:=fun j=>match j with | 0=> .ret | _=> .exit 0
 tags:= [0,1]
 lt:=hO
 fuel:=fun(y0,y1)=>y0.natAbs + y1.length
 fix:=fun(_,y1) (y0,_)=>(y0,y1)
 σ:= [(0,0)]
 rd:=mR
theorem vY:LoopOk prog (fun k=>Nat.blt k Try.f119.ntmps) aH.F (bT f119 0):=by
 refine Lp.ok (tbl:= (T3z [mO,ig])) (lf:= []) bA aH (by kernel_rfl) (LOk.nil _) (fun _=>rfl) (fun j _=>by unfold aH;match j with | 0=>rfl | _ + 1=>rfl) ?_ ?_ ?_ ?_ (fun _=>rfl) ?_
 ·rintro⟨y0,y1⟩;kernel_rfl
 ·rintro⟨y0,y1⟩;kernel_rfl
 ·intro s x h
  have h:mR s=some x:=h
  unfold mR at h
  repeat' split at h
  all_goals cases h
  constructor<;>repeat(first|refine af (by assumption) rfl ?_|refine aP rfl (by assumption) rfl ?_|exact rfl)
 ·rintro⟨y0,y1⟩;kernel_rfl
 ·rintro⟨y0,y1⟩ z;exact(And.intro (And.intro trivial rfl) trivial)
section
variable (x0:List (Int×Int×Int))
def ij:Bool:=ltI 100 (↑x0.length:Int)
def mu:Int×List (Int×Int×Int):=((0:Int),x0)
def jS:Bool:=Nat.beq ((Lp.res aH (mu x0)).1) 0
def nB:Int:=bif ij x0 then(3:Int)else bif jS x0 then(1:Int)else(0:Int)
def aS:List Int:=bif ij x0 then []else bif jS x0 then []else vW cX x0 0
def nC:Bool:=allT [ij x0||Lp.fin aH (mu x0),ij x0||(jS x0||sW x0&&leN x0.length (100:Nat))]
end
def uz:List SV→List Entry→Option Out
 | [.one ⟨false,[.ref 0]⟩],[.row false 36 (.pair (.int .i64) (.pair (.int .i64) (.int .i64))) x0]=>some ⟨.tup [⟨false,[.ref 1]⟩,⟨false,[.val (.int .i64 (nB x0))]⟩],[.row false 36 Mp x0],[.row true 2 Mr (aS x0)],[nC x0]⟩
 |_,_=>none
def rt:PF prog:=PF.ofG prog (T3z [mO,ig]) [aH.F] bA 119 f119 func119 (LOk.fnT (l:= [bT f119 0]) (by kernel_rfl) (.cons vY (.nil _))) uz (by
 intro vs es r h;unfold uz at h;split at h
 ·cases h;kernel_rfl
 ·cases h)
section
variable (x0 x1:Int)(x2:List Int)
def gr:Int:=nxA 256 (nxA 100000 x0 x2) x2
def oO:Int:=nxS 256 (nxA 100000 x0 x2) (nxS 100000 x0 x1 x2) x2
def oP:Int:=nxS 1000 (gr x0 x2) (oO x0 x1 x2) x2
def oQ:Int:=nxV 60 (nxA 1000 (gr x0 x2) x2) (oP x0 x1 x2) x2
def fb:Bool:=oQ x0 x1 x2==0
def eg:Int:=nxA 60 (nxA 1000 (gr x0 x2) x2) x2
def gt:Int:=nxS 60 (nxA 1000 (gr x0 x2) x2) (oP x0 x1 x2) x2
def sC:Int:=pkV (eg x0 x2) (gt x0 x1 x2) [(-1:Int),(4294967295:Int),(4294967296:Int)] x2
def gu:Bool:=oQ x0 x1 x2==1
def iu:Bool:=oQ x0 x1 x2==2
def nE:Int:=nxV 256 (nxA 100000 x0 x2) (nxS 100000 x0 x1 x2) x2
def nF:Int:=nxV 1000 (gr x0 x2) (oO x0 x1 x2) x2
def rz:Int:=pkA (eg x0 x2) [(-1:Int),(4294967295:Int),(4294967296:Int)] x2
def rA:Int:=pkS (eg x0 x2) (gt x0 x1 x2) [(-1:Int),(4294967295:Int),(4294967296:Int)] x2
def rB:Bool:=bO (eg x0 x2) (gt x0 x1 x2) x2&&leN 1 (List.length [(-1:Int),(4294967295:Int),(4294967296:Int)])
def qG:Int:=bif fb x0 x1 x2 then sC x0 x1 x2 else bif gu x0 x1 x2 then nxV 100000 x0 x1 x2 else bif iu x0 x1 x2 then nxV 100000 x0 x1 x2 else nxV 100000 x0 x1 x2
def qH:Int:=bif fb x0 x1 x2 then nE x0 x1 x2 else bif gu x0 x1 x2 then pkV (eg x0 x2) (gt x0 x1 x2) [(-1:Int),(255:Int),(256:Int)] x2 else bif iu x0 x1 x2 then nE x0 x1 x2 else nE x0 x1 x2
def qI:Int:=bif fb x0 x1 x2 then nF x0 x1 x2 else bif gu x0 x1 x2 then nF x0 x1 x2 else bif iu x0 x1 x2 then sC x0 x1 x2 else nF x0 x1 x2
def qJ:Int:=bif fb x0 x1 x2 then rz x0 x2 else bif gu x0 x1 x2 then pkA (eg x0 x2) [(-1:Int),(255:Int),(256:Int)] x2 else bif iu x0 x1 x2 then rz x0 x2 else eg x0 x2
def qK:Int:=bif fb x0 x1 x2 then rA x0 x1 x2 else bif gu x0 x1 x2 then pkS (eg x0 x2) (gt x0 x1 x2) [(-1:Int),(255:Int),(256:Int)] x2 else bif iu x0 x1 x2 then rA x0 x1 x2 else gt x0 x1 x2
def mW:Bool:=allT [bO x0 x1 x2,bO (nxA 100000 x0 x2) (nxS 100000 x0 x1 x2) x2,bO (gr x0 x2) (oO x0 x1 x2) x2,bO (nxA 1000 (gr x0 x2) x2) (oP x0 x1 x2) x2,!fb x0 x1 x2||rB x0 x1 x2,fb x0 x1 x2||(!gu x0 x1 x2||bO (eg x0 x2) (gt x0 x1 x2) x2&&leN 1 (List.length [(-1:Int),(255:Int),(256:Int)])),fb x0 x1 x2||(gu x0 x1 x2||(!iu x0 x1 x2||rB x0 x1 x2))]
end
def xa:List SV→List Entry→Option Out
 | [.one ⟨false,[.ptr 0 0]⟩],[.box 139 [.ref 1,.val (.int .i64 x0),.val (.int .i64 x1)],.row false 5 (.int .u8) x2]=>some ⟨.one ⟨true,[.val (.int .i64 (qG x0 x1 x2)),.val (.int .i64 (qH x0 x1 x2)),.val (.int .i64 (qI x0 x1 x2))]⟩,[.box 139 [.ref 1,.val (.int .i64 (qJ x0 x1 x2)),.val (.int .i64 (qK x0 x1 x2))],.row false 5 Mt x2],[],[mW x0 x1 x2]⟩
 |_,_=>none
def fX:PF prog:=PF.ofG prog (T3z [bv,fU]) [] bA 77 f77 func77 (fun c _=>LOk.nil c) xa (by
 intro vs es r h;unfold xa at h;split at h
 ·cases h;kernel_rfl
 ·cases h)
abbrev cm:=Int×List (Int×(Int×Int))×Int×Int×List Int
section
variable (y0:Int)(y1:List (Int×(Int×Int)))(y2 y3:Int)(y4:List Int)
def gf:List (Int×Int×Int):= [(qG y2 y3 y4,qH y2 y3 y4,qI y2 y3 y4)]
def ma:Bool:=ltI 0 y0
def mb:Bool:=mW y2 y3 y4
def mc:Bool:=leN (List.length y1 + List.length (gf y2 y3 y4)) 9223372036854775807
def md:Bool:=leN ((List.length y1 + List.length (gf y2 y3 y4)) * 24) 140737488355328
def me:Int:=IntKind.wrap .i64 (y0 - (1:Int))
def mf:List (Int×(Int×Int)):=y1++gf y2 y3 y4
def mg:Int:=qJ y2 y3 y4
def mh:Int:=qK y2 y3 y4
end
def vE:cm→List (Nat×SV)
 |(y0,_,_,_,_)=> [(4,(.one ⟨false,[.val (.int .i64 y0)]⟩)),(3,(.one ⟨false,[.ref 0]⟩)),(0,(.one ⟨false,[.ptr 1 0]⟩))]
def vB:cm→List (Nat×Entry)
 |(_,y1,y2,y3,y4)=> [(1,(.box 139 [.ref 2,.val (.int .i64 y2),.val (.int .i64 y3)])),(2,(.row false 5 Mt y4)),(0,(.row true 36 Mp y1))]
def vK:Nat→cm→List (Nat×SV)
 |_,(_,_,_,_,_)=> [(3,(.one ⟨false,[.ref 0]⟩))]
def vH:Nat→cm→List (Nat×Entry)
 |_,(_,y1,y2,y3,y4)=> [(0,(.row true 36 Mp y1)),(1,(.box 139 [.ref 2,.val (.int .i64 y2),.val (.int .i64 y3)])),(2,(.row false 5 Mt y4))]
def kY:cm→LT cm
 |(y0,y1,y2,y3,y4)=> .ite (ma y0) (.need [mb y2 y3 y4,mc y1 y2 y3 y4,md y1 y2 y3 y4] (.nrm ((me y0),mf y1 y2 y3 y4,mg y2 y3 y4,mh y2 y3 y4,y4) [(0,448),(1,1),(2,2)])) (.ext 0 [(0,0),(1,1),(2,2)])
def lb(s:St):Option cm:=
 (match s.look 4 with
 |some ⟨none,.one ⟨false,[.val (.int .i64 y0)]⟩⟩=>
 (match s.look 3 with
 |some ⟨none,.one ⟨false,[.ref 256]⟩⟩=>
 (match s.look 0 with
 |some ⟨none,.one ⟨false,[.ptr 0 0]⟩⟩=>
 (match s.ent 0 with
 |some (.box 139 [.ref 1,.val (.int .i64 y2),.val (.int .i64 y3)])=>
 (match s.ent 1 with
 |some (.row false 5 (.int IntKind.u8) y4)=>
 (match s.ent 256 with
 |some (.row true 36 (.pair (.int .i64) (.pair (.int .i64) (.int .i64))) y1)=>
 some (y0,y1,y2,y3,y4)
 |_=>none)
 |_=>none)
 |_=>none)
 |_=>none)
 |_=>none)
 |_=>none)
def bK:Lp cm where
 h:=⟨[8,9,12,13,14,15,16,3,10,11,4],[1,2],[0],[]⟩
 JL:=vE
 JE:=vB
 XL:=vK
 XE:=vH
 q:=fun j=>match j with | _=> .exit 0
 tags:= [0]
 lt:=kY
 fuel:=fun(y0,y1,y2,y3,y4)=>y0.natAbs + y1.length + y2.natAbs + y3.natAbs + y4.length
 fix:=fun(_,_,_,_,y4) (y0,y1,y2,y3,_)=>(y0,y1,y2,y3,y4)
 σ:= [(1,0),(2,1),(0,256)]
 rd:=lb
theorem ul:LoopOk prog (fun k=>Nat.blt k Try.f120.ntmps) bK.F (bT f120 0):=by
 refine Lp.ok (tbl:= (T3z [bv,fX])) (lf:= []) bA bK (by kernel_rfl) (LOk.nil _) (fun _=>rfl) (fun _ _=>rfl) ?_ ?_ ?_ ?_ (fun _=>rfl) ?_
 ·rintro⟨y0,y1,y2,y3,y4⟩;kernel_rfl
 ·rintro⟨y0,y1,y2,y3,y4⟩;kernel_rfl
 ·intro s x h
  have h:lb s=some x:=h
  unfold lb at h
  repeat' split at h
  all_goals cases h
  constructor<;>repeat(first|refine af (by assumption) rfl ?_|refine aP rfl (by assumption) rfl ?_|exact rfl)
 ·rintro⟨y0,y1,y2,y3,y4⟩;kernel_rfl
 ·rintro⟨y0,y1,y2,y3,y4⟩ z;exact(And.intro rfl trivial)
section
variable (x0 x1:Int)(x2:List Int)
def kv:Int×List (Int×Int×Int)×Int×Int×List Int:=(nxV 6 x0 x1 x2,[],nxA 6 x0 x2,nxS 6 x0 x1 x2,x2)
def kw:List (Int×Int×Int)×Int×Int×List Int:=(Lp.res bK (kv x0 x1 x2)).2.2
def eI:Int×Int×List Int:=(kw x0 x1 x2).2
def iJ:Int:=((eI x0 x1 x2).2).1
def dC:Bool:=nxV 60 ((eI x0 x1 x2).1) (iJ x0 x1 x2) x2==0
def dD:Int:=nxA 60 ((eI x0 x1 x2).1) x2
def eJ:Int:=nxS 60 ((eI x0 x1 x2).1) (iJ x0 x1 x2) x2
def bo:Int:=IntKind.wrap .i64 ((100:Int) + nxV 2 (dD x0 x1 x2) (eJ x0 x1 x2) x2)
def ee:Int:=bif dC x0 x1 x2 then nxA 2 (dD x0 x1 x2) x2 else dD x0 x1 x2
def fk:Int:=bif dC x0 x1 x2 then nxS 2 (dD x0 x1 x2) (eJ x0 x1 x2) x2 else eJ x0 x1 x2
def ah:List (Int×(Int×Int)):=bif dC x0 x1 x2 then List.replicate (Int.toNat (bo x0 x1 x2)) ((0:Int),(0:Int),(0:Int))else (kw x0 x1 x2).1
def ln:Bool:=allT [bO x0 x1 x2,Lp.fin bK (kv x0 x1 x2),bO ((eI x0 x1 x2).1) (iJ x0 x1 x2) x2,!dC x0 x1 x2||bO (dD x0 x1 x2) (eJ x0 x1 x2) x2,!dC x0 x1 x2||leI 0 (bo x0 x1 x2),!dC x0 x1 x2||leI (bo x0 x1 x2) (bo x0 x1 x2),!dC x0 x1 x2||leI ((↑(24:Nat):Int) * bo x0 x1 x2) 281474976710656,!dC x0 x1 x2||leI (bo x0 x1 x2) 9223372036854775807]
end
def td:List SV→List Entry→Option Out
 | [.one ⟨false,[.ptr 0 0]⟩],[.box 139 [.ref 1,.val (.int .i64 x0),.val (.int .i64 x1)],.row false 5 (.int .u8) x2]=>some ⟨.one ⟨false,[.ref 2]⟩,[.box 139 [.ref 1,.val (.int .i64 (ee x0 x1 x2)),.val (.int .i64 (fk x0 x1 x2))],.row false 5 Mt x2],[.row true 36 Mp (ah x0 x1 x2)],[ln x0 x1 x2]⟩
 |_,_=>none
def pg:PF prog:=PF.ofG prog (T3z [bv,fX]) [bK.F] bA 120 f120 func120 (LOk.fnT (l:= [bT f120 0]) (by kernel_rfl) (.cons ul (.nil _))) td (by
 intro vs es r h;unfold td at h;split at h
 ·cases h;kernel_rfl
 ·cases h)
abbrev bW:=Int×List Int×Int×Int×List Int
section
variable (y0:Int)(y1:List Int)(y2 y3:Int)(y4:List Int)
def fy:List Int:= [nxV 256 y2 y3 y4]
def le:Bool:=ltI 0 y0
def lg:Bool:=bO y2 y3 y4
def lh:Bool:=leN (List.length y1 + List.length (fy y2 y3 y4)) 9223372036854775807
def li:Bool:=leN ((List.length y1 + List.length (fy y2 y3 y4)) * 8) 140737488355328
def lj:Int:=IntKind.wrap .i64 (y0 - (1:Int))
def lk:List Int:=y1++fy y2 y3 y4
def ll:Int:=nxA 256 y2 y4
def lm:Int:=nxS 256 y2 y3 y4
end
def uG:bW→List (Nat×SV)
 |(y0,_,_,_,_)=> [(6,(.one ⟨false,[.val (.int .i64 y0)]⟩)),(5,(.one ⟨false,[.ref 0]⟩)),(0,(.one ⟨false,[.ptr 1 0]⟩))]
def uE:bW→List (Nat×Entry)
 |(_,y1,y2,y3,y4)=> [(1,(.box 139 [.ref 2,.val (.int .i64 y2),.val (.int .i64 y3)])),(2,(.row false 5 Mt y4)),(0,(.row true 2 Mr y1))]
def uN:Nat→bW→List (Nat×SV)
 |_,(_,_,_,_,_)=> [(5,(.one ⟨false,[.ref 0]⟩))]
def uL:Nat→bW→List (Nat×Entry)
 |_,(_,y1,y2,y3,y4)=> [(0,(.row true 2 Mr y1)),(1,(.box 139 [.ref 2,.val (.int .i64 y2),.val (.int .i64 y3)])),(2,(.row false 5 Mt y4))]
def kD:bW→LT bW
 |(y0,y1,y2,y3,y4)=> .ite (le y0) (.need [lg y2 y3 y4,lh y1 y2 y3 y4,li y1 y2 y3 y4] (.nrm ((lj y0),lk y1 y2 y3 y4,ll y2 y4,lm y2 y3 y4,y4) [(0,448),(1,1),(2,2)])) (.ext 0 [(0,0),(1,1),(2,2)])
def kJ(s:St):Option bW:=
 (match s.look 6 with
 |some ⟨none,.one ⟨false,[.val (.int .i64 y0)]⟩⟩=>
 (match s.look 5 with
 |some ⟨none,.one ⟨false,[.ref 256]⟩⟩=>
 (match s.look 0 with
 |some ⟨none,.one ⟨false,[.ptr 0 0]⟩⟩=>
 (match s.ent 0 with
 |some (.box 139 [.ref 1,.val (.int .i64 y2),.val (.int .i64 y3)])=>
 (match s.ent 1 with
 |some (.row false 5 (.int IntKind.u8) y4)=>
 (match s.ent 256 with
 |some (.row true 2 (.int .i64) y1)=>
 some (y0,y1,y2,y3,y4)
 |_=>none)
 |_=>none)
 |_=>none)
 |_=>none)
 |_=>none)
 |_=>none)
def bt:Lp bW where
 h:=⟨[12,13,16,17,18,19,20,5,14,15,6],[1,2],[0],[]⟩
 JL:=uG
 JE:=uE
 XL:=uN
 XE:=uL
 q:=fun j=>match j with | _=> .exit 0
 tags:= [0]
 lt:=kD
 fuel:=fun(y0,y1,y2,y3,y4)=>y0.natAbs + y1.length + y2.natAbs + y3.natAbs + y4.length
 fix:=fun(_,_,_,_,y4) (y0,y1,y2,y3,_)=>(y0,y1,y2,y3,y4)
 σ:= [(1,0),(2,1),(0,256)]
 rd:=kJ
theorem tD:LoopOk prog (fun k=>Nat.blt k Try.f86.ntmps) bt.F (bT f86 0):=by
 refine Lp.ok (tbl:= (T3z [bv,fU])) (lf:= []) bA bt (by kernel_rfl) (LOk.nil _) (fun _=>rfl) (fun _ _=>rfl) ?_ ?_ ?_ ?_ (fun _=>rfl) ?_
 ·rintro⟨y0,y1,y2,y3,y4⟩;kernel_rfl
 ·rintro⟨y0,y1,y2,y3,y4⟩;kernel_rfl
 ·intro s x h
  have h:kJ s=some x:=h
  unfold kJ at h
  repeat' split at h
  all_goals cases h
  constructor<;>repeat(first|refine af (by assumption) rfl ?_|refine aP rfl (by assumption) rfl ?_|exact rfl)
 ·rintro⟨y0,y1,y2,y3,y4⟩;kernel_rfl
 ·rintro⟨y0,y1,y2,y3,y4⟩ z;exact(And.intro rfl trivial)
section
variable (x0 x1 x2:Int)(x3:List Int)
def jY:Int:=IntKind.wrap .i64 (x0 + (1:Int))
def jZ:Int×List Int×Int×Int×List Int:=(nxV (jY x0) x1 x2 x3,[],nxA (jY x0) x1 x3,nxS (jY x0) x1 x2 x3,x3)
def ka:List Int×Int×Int×List Int:=(Lp.res bt (jZ x0 x1 x2 x3)).2.2
def ed:Int×Int×List Int:=(ka x0 x1 x2 x3).2
def hZ:Int:=((ed x0 x1 x2 x3).2).1
def sf:Int:=nxV 40 ((ed x0 x1 x2 x3).1) (hZ x0 x1 x2 x3) x3
def bL:Bool:=sf x0 x1 x2 x3==0
def bq:Int:=nxA 40 ((ed x0 x1 x2 x3).1) x3
def dq:Bool:=sf x0 x1 x2 x3==1
def ce:Int:=nxS 40 ((ed x0 x1 x2 x3).1) (hZ x0 x1 x2 x3) x3
def eT:List Int:=(ka x0 x1 x2 x3).1
def cO:List Int:= [pkV (bq x0 x1 x2 x3) (ce x0 x1 x2 x3) [(-1:Int),(256:Int)] x3]
def aT:Int:=IntKind.wrap .i64 ((2000:Int) + nxV 2 (bq x0 x1 x2 x3) (ce x0 x1 x2 x3) x3)
def iH:Int:=bif bL x0 x1 x2 x3 then pkA (bq x0 x1 x2 x3) [(-1:Int),(256:Int)] x3 else bif dq x0 x1 x2 x3 then nxA 2 (bq x0 x1 x2 x3) x3 else bq x0 x1 x2 x3
def iI:Int:=bif bL x0 x1 x2 x3 then pkS (bq x0 x1 x2 x3) (ce x0 x1 x2 x3) [(-1:Int),(256:Int)] x3 else bif dq x0 x1 x2 x3 then nxS 2 (bq x0 x1 x2 x3) (ce x0 x1 x2 x3) x3 else ce x0 x1 x2 x3
def gm:List Int:=bif bL x0 x1 x2 x3 then eT x0 x1 x2 x3++cO x0 x1 x2 x3 else bif dq x0 x1 x2 x3 then List.replicate (Int.toNat (aT x0 x1 x2 x3)) (0:Int)else eT x0 x1 x2 x3
def gn:Bool:=allT [bO x1 x2 x3,Lp.fin bt (jZ x0 x1 x2 x3),bO ((ed x0 x1 x2 x3).1) (hZ x0 x1 x2 x3) x3,!bL x0 x1 x2 x3||bO (bq x0 x1 x2 x3) (ce x0 x1 x2 x3) x3&&leN 1 (List.length [(-1:Int),(256:Int)]),!bL x0 x1 x2 x3||leN (List.length (eT x0 x1 x2 x3) + List.length (cO x0 x1 x2 x3)) 9223372036854775807,!bL x0 x1 x2 x3||leN ((List.length (eT x0 x1 x2 x3) + List.length (cO x0 x1 x2 x3)) * 8) 140737488355328,bL x0 x1 x2 x3||(!dq x0 x1 x2 x3||bO (bq x0 x1 x2 x3) (ce x0 x1 x2 x3) x3),bL x0 x1 x2 x3||(!dq x0 x1 x2 x3||leI 0 (aT x0 x1 x2 x3)),bL x0 x1 x2 x3||(!dq x0 x1 x2 x3||leI (aT x0 x1 x2 x3) (aT x0 x1 x2 x3)),bL x0 x1 x2 x3||(!dq x0 x1 x2 x3||leI ((↑(8:Nat):Int) * aT x0 x1 x2 x3) 281474976710656),bL x0 x1 x2 x3||(!dq x0 x1 x2 x3||leI (aT x0 x1 x2 x3) 9223372036854775807)]
end
def sH:List SV→List Entry→Option Out
 | [.one ⟨false,[.ptr 0 0]⟩,.one ⟨false,[.val (.int .i64 x0)]⟩],[.box 139 [.ref 1,.val (.int .i64 x1),.val (.int .i64 x2)],.row false 5 (.int .u8) x3]=>some ⟨.one ⟨false,[.ref 2]⟩,[.box 139 [.ref 1,.val (.int .i64 (iH x0 x1 x2 x3)),.val (.int .i64 (iI x0 x1 x2 x3))],.row false 5 Mt x3],[.row true 2 Mr (gm x0 x1 x2 x3)],[gn x0 x1 x2 x3]⟩
 |_,_=>none
def gj:PF prog:=PF.ofG prog (T3z [bv,fU]) [bt.F] bA 86 f86 func86 (LOk.fnT (l:= [bT f86 0]) (by kernel_rfl) (.cons tD (.nil _))) sH (by
 intro vs es r h;unfold sH at h;split at h
 ·cases h;kernel_rfl
 ·cases h)
section
variable (x0 x1:Int)(x2:List Int)
def iR:Bool:=nB (ah x0 x1 x2)!=0
def ax:Bool:=bif iR x0 x1 x2 then true else nxV 12 (ee x0 x1 x2) (fk x0 x1 x2) x2==0
def ar:Int:=bif !iR x0 x1 x2&&true then nxA 12 (ee x0 x1 x2) x2 else ee x0 x1 x2
def bZ:Int:=bif !iR x0 x1 x2&&true then nxS 12 (ee x0 x1 x2) (fk x0 x1 x2) x2 else fk x0 x1 x2
def qF:Int:=nxV 4 (ar x0 x1 x2) (bZ x0 x1 x2) x2
def aB:Bool:=qF x0 x1 x2==0
def aC:Bool:=ltI 0 (↑(List.length (aS (ah x0 x1 x2))):Int)
def du:Int:=nxA (↑(List.length (aS (ah x0 x1 x2))):Int) (nxA 4 (ar x0 x1 x2) x2) x2
def cd:Bool:=qF x0 x1 x2==1
def ge:Int:=IntKind.wrap .i64 ((↑(List.length (aS (ah x0 x1 x2))):Int) + (1:Int))
def dO:Int:=nxA (ge x0 x1 x2) (nxA 4 (ar x0 x1 x2) x2) x2
def bQ:Int:=nxS 4 (ar x0 x1 x2) (bZ x0 x1 x2) x2
def dP:Int:=nxS (ge x0 x1 x2) (nxA 4 (ar x0 x1 x2) x2) (bQ x0 x1 x2) x2
def dQ:Int:=nxS (↑(List.length (aS (ah x0 x1 x2))):Int) (nxA 4 (ar x0 x1 x2) x2) (bQ x0 x1 x2) x2
def cp:Int:=nxV (↑(List.length (aS (ah x0 x1 x2))):Int) (nxA 4 (ar x0 x1 x2) x2) (bQ x0 x1 x2) x2
def fA:Int:=IntKind.wrap IntKind.u64 (nxV 8 (du x0 x1 x2) (dQ x0 x1 x2) x2)
def bj:Int:=nxV (ge x0 x1 x2) (nxA 4 (ar x0 x1 x2) x2) (bQ x0 x1 x2) x2
def cq:List Int:=gm 20 (dO x0 x1 x2) (dP x0 x1 x2) x2
def kO:Bool:=bO (nxA 4 (ar x0 x1 x2) x2) (bQ x0 x1 x2) x2
def im:Bool:=ax x0 x1 x2||(!aB x0 x1 x2||(!aC x0 x1 x2||leI 0 (cp x0 x1 x2)))
def io:Bool:=ax x0 x1 x2||(!aB x0 x1 x2||(!aC x0 x1 x2||ltI (cp x0 x1 x2) (↑(List.length (aS (ah x0 x1 x2))):Int)))
def ip:Bool:=ax x0 x1 x2||(!aB x0 x1 x2||(!aC x0 x1 x2||ltN (Int.toNat (cp x0 x1 x2)) (List.length (aS (ah x0 x1 x2)))))
def dH:Int:=bif ax x0 x1 x2 then iH 40 (ar x0 x1 x2) (bZ x0 x1 x2) x2 else bif aB x0 x1 x2 then bif aC x0 x1 x2 then nxA 8 (du x0 x1 x2) x2 else nxA 4 (ar x0 x1 x2) x2 else bif cd x0 x1 x2 then iH 20 (dO x0 x1 x2) (dP x0 x1 x2) x2 else nxA 4 (ar x0 x1 x2) x2
def dI:Int:=bif ax x0 x1 x2 then iI 40 (ar x0 x1 x2) (bZ x0 x1 x2) x2 else bif aB x0 x1 x2 then bif aC x0 x1 x2 then nxS 8 (du x0 x1 x2) (dQ x0 x1 x2) x2 else bQ x0 x1 x2 else bif cd x0 x1 x2 then iI 20 (dO x0 x1 x2) (dP x0 x1 x2) x2 else bQ x0 x1 x2
def jA:List Int:=bif ax x0 x1 x2 then gm 40 (ar x0 x1 x2) (bZ x0 x1 x2) x2 else bif aB x0 x1 x2 then bif aC x0 x1 x2 then List.set (aS (ah x0 x1 x2)) (Int.toNat (cp x0 x1 x2)) (IntKind.wrap .i64 (↑(BitVec.toNat (BitVec.ofInt (IntKind.bits IntKind.i64) (Option.getD (aS (ah x0 x1 x2))[Int.toNat (cp x0 x1 x2)]? 0) ^^^ BitVec.ofInt (IntKind.bits IntKind.i64) (IntKind.wrap .i64 ((1:Int) * (2:Int) ^ min (Int.toNat (fA x0 x1 x2)) (IntKind.bits IntKind.i64))))):Int))else aS (ah x0 x1 x2)else bif cd x0 x1 x2 then List.take (Int.toNat (bj x0 x1 x2)) (aS (ah x0 x1 x2))++cq x0 x1 x2 else aS (ah x0 x1 x2)
def jB:Bool:=allT [ln x0 x1 x2,nC (ah x0 x1 x2),!(!iR x0 x1 x2&&true)||bO (ee x0 x1 x2) (fk x0 x1 x2) x2,!ax x0 x1 x2||gn 40 (ar x0 x1 x2) (bZ x0 x1 x2) x2,ax x0 x1 x2||bO (ar x0 x1 x2) (bZ x0 x1 x2) x2,ax x0 x1 x2||(!aB x0 x1 x2||(!aC x0 x1 x2||kO x0 x1 x2)),im x0 x1 x2,io x0 x1 x2,ip x0 x1 x2,ax x0 x1 x2||(!aB x0 x1 x2||(!aC x0 x1 x2||bO (du x0 x1 x2) (dQ x0 x1 x2) x2)),ax x0 x1 x2||(!aB x0 x1 x2||(!aC x0 x1 x2||leI 0 (fA x0 x1 x2))),im x0 x1 x2,io x0 x1 x2,ip x0 x1 x2,ax x0 x1 x2||(aB x0 x1 x2||(!cd x0 x1 x2||kO x0 x1 x2)),ax x0 x1 x2||(aB x0 x1 x2||(!cd x0 x1 x2||leI 0 (bj x0 x1 x2))),ax x0 x1 x2||(aB x0 x1 x2||(!cd x0 x1 x2||leI (bj x0 x1 x2) (↑(List.length (aS (ah x0 x1 x2))):Int))),ax x0 x1 x2||(aB x0 x1 x2||(!cd x0 x1 x2||gn 20 (dO x0 x1 x2) (dP x0 x1 x2) x2)),ax x0 x1 x2||(aB x0 x1 x2||(!cd x0 x1 x2||leN (List.length (List.take (Int.toNat (bj x0 x1 x2)) (aS (ah x0 x1 x2))) + List.length (cq x0 x1 x2)) 9223372036854775807)),ax x0 x1 x2||(aB x0 x1 x2||(!cd x0 x1 x2||leN ((List.length (List.take (Int.toNat (bj x0 x1 x2)) (aS (ah x0 x1 x2))) + List.length (cq x0 x1 x2)) * 8) 140737488355328))]
end
def rf:List SV→List Entry→Option Out
 | [.one ⟨false,[.ptr 0 0]⟩],[.box 139 [.ref 1,.val (.int .i64 x0),.val (.int .i64 x1)],.row false 5 (.int .u8) x2]=>some ⟨.one ⟨false,[.ref 2]⟩,[.box 139 [.ref 1,.val (.int .i64 (dH x0 x1 x2)),.val (.int .i64 (dI x0 x1 x2))],.row false 5 Mt x2],[.row true 2 Mr (jA x0 x1 x2)],[jB x0 x1 x2]⟩
 |_,_=>none
def lQ:PF prog:=PF.ofG prog (T3z [bv,rt,pg,gj]) [] bA 76 f76 func76 (fun c _=>LOk.nil c) rf (by
 intro vs es r h;unfold rf at h;split at h
 ·cases h;kernel_rfl
 ·cases h)
section
variable (x0:List Int)
def kK:Int:=qG (dH 0 (frS x0) x0) (dI 0 (frS x0) x0) x0
def kL:Int:=qH (dH 0 (frS x0) x0) (dI 0 (frS x0) x0) x0
def kM:Int:=qI (dH 0 (frS x0) x0) (dI 0 (frS x0) x0) x0
def al:List Int:=jA 0 (frS x0) x0
def kN:Bool:=allT [bO 0 0 x0,jB 0 (frS x0) x0,mW (dH 0 (frS x0) x0) (dI 0 (frS x0) x0) x0]
end
def pw:List SV→List Entry→Option Out
 | [.one ⟨false,[.ref 0]⟩],[.row false 5 (.int .u8) x0]=>some ⟨.tup [⟨false,[.ref 1]⟩,⟨true,[.val (.int .i64 (kK x0)),.val (.int .i64 (kL x0)),.val (.int .i64 (kM x0))]⟩],[.row false 5 Mt x0],[.row true 2 Mr (al x0)],[kN x0]⟩
 |_,_=>none
def vb:PF prog:=PF.ofG prog (T3z [kF,lQ,fX]) [] bA 23 f23 func23 (fun c _=>LOk.nil c) pw (by
 intro vs es r h;unfold pw at h;split at h
 ·cases h;kernel_rfl
 ·cases h)
def dG(x0:List Int):List Int:=gm 20 0 (frS x0) x0
def lT(x0:List Int):Bool:=allT [bO 0 0 x0,gn 20 0 (frS x0) x0]
def rc:List SV→List Entry→Option Out
 | [.one ⟨false,[.ref 0]⟩],[.row false 5 (.int .u8) x0]=>some ⟨.one ⟨false,[.ref 1]⟩,[.row false 5 Mt x0],[.row true 2 Mr (dG x0)],[lT x0]⟩
 |_,_=>none
def wR:PF prog:=PF.ofG prog (T3z [kF,gj]) [] bA 28 f28 func28 (fun c _=>LOk.nil c) rc (by
 intro vs es r h;unfold rc at h;split at h
 ·cases h;kernel_rfl
 ·cases h)
theorem S1:(∀ b:Bool,(b||false)=b)∧((false=true)=False)∧(∀ a b:Bool,((a&&b)=true)=(a=true∧b=true))∧(∀ a b:Int,(ltI a b=true)=(a < b))∧(∀ a b:Int,(leI a b=true)=(a≤b))∧(∀ a b:Int,(ltI a b=false)=(b≤a))∧(∀ a b:Int,(leI a b=false)=(b < a)):=by and_intros <;> intros <;> simp
theorem S2:(∀ (α:Type) (a b:List α),(a++b).length=a.length + b.length)∧(∀ (α:Type) (a:α) (l:List α),(a::l).length=l.length + 1)∧(∀ α:Type,([]:List α).length=0):=by and_intros <;> intros <;> simp
theorem Dy{b:Bool}{l:List Bool}:allT (b::l)=true↔b=true∧allT l=true:=by cases b <;> simp [allT]
theorem Dz:allT []=true↔True:=by simp [allT]
theorem rF{t:Bool}{a a' s s':Int}{c:List Int}(h:bO a s c=true)(h':bO a' s' c=true):bO (bif t then a else a') (bif t then s else s') c=true:=by cases t <;> assumption
theorem sv{α:Type}{t:Bool}{l l':List α}{n:Nat}(h:l.length≤n)(h':l'.length≤n):(bif t then l else l').length≤n:=by cases t <;> assumption
def LT.ok{X:Type}(J:X→Prop)(Q:Nat→Prop):LT X→Prop
 | .nrm x _=>J x
 | .ext j _=>Q j
 | .need nd t=>allT nd=true∧t.ok J Q
 | .ite b t e=>(b=true→t.ok J Q)∧(b=false→e.ok J Q)
theorem LT.ok_out{X:Type}{J:X→Prop}{Q:Nat→Prop}: ∀ {t:LT X},t.ok J Q→(∃ j,t.out=some (.inl j)∧Q j)∨ ∃ y,t.out=some (.inr y)∧J y
 | .nrm x _,h=> .inr ⟨x,rfl,h⟩
 | .ext j _,h=> .inl ⟨j,rfl,h⟩
 | .need nd t,h=>by
  simp only [LT.ok]at h
  simp only [LT.out,h.1,cond_true]
  exact LT.ok_out (t:=t) h.2
 | .ite b t e,h=>by
  simp only [LT.ok]at h
  simp only [LT.out]
  cases b with
  |true=>exact LT.ok_out (t:=t) (h.1 rfl)
  |false=>exact LT.ok_out (t:=e) (h.2 rfl)
theorem Lp.inv2{X:Type}(p:Lp X)(I:Nat→X→Prop)(Q:X→Prop)(hs: ∀ k x,I (k + 1) x→(p.lt x).ok (I k) (fun _=>Q x))(he: ∀ x,I 0 x→(p.lt x).ok (fun _=>False) (fun _=>Q x))
  (N:Nat) (x:X) (hN:N≤999) (h:I N x):p.fin x=true∧ ∃ j y,p.res x=(j,y)∧Q y:=
 p.inv I (fun _ y=>Q y) (fun k x hx=>LT.ok_out (hs k x hx)) (fun x hx=>by
  rcases LT.ok_out (he x hx)with h | ⟨_,_,h⟩
  ·exact h
  ·exact h.elim) N x hN h
def gh(b:Int×(Int×Int)):(Unit)→Nat ⊕ (Unit)
 |_=>(bif(!jP (b.1,b.2.1,b.2.2))then(.inl 0)else(.inr ()))
def ef(y1:List (Int×(Int×Int)))(i:Nat):(Unit)→ct
 |_=>((i:Int),y1)
def mP:ct→Unit
 |(_,_)=>()
theorem zj(y1:List (Int×(Int×Int))) (hn:y1.length≤9223372036854775807):
  aH.fin ((0:Int),y1)=true∧aH.res ((0:Int),y1)=((cw (gh) 1 y1 0 ()).1,(ef y1) (cw (gh) 1 y1 0 ()).2.1 (cw (gh) 1 y1 0 ()).2.2):=by
 have fJ:=aH.along (ef y1) mP (gh) 1 (fun _ _=>True) y1 () (by trivial) (by simp only [aH,ef];omega) (fun i b a hb hI=> ?_) (fun a hI=> ?_)
 ·exact fJ
 ·obtain⟨⟩:=a
  have cH:=(List.getElem?_eq_some_iff.1 hb).1
  have kh: ∀ d,Option.getD y1[i]? d=b:=fun d=>by rw [hb];rfl
  have hw:=sD cH hn
  have kA:ltI (i:Int) (y1.length:Int)=true:=jl (by omega)
  have xM:leI (0:Int) (i:Int)=true:=cZ (by omega)
  have mJ:ltN i y1.length=true:=mM cH
  refine⟨?_,?_,?_,?_⟩
  ·simp [ec,gk,iC,iD,iE,iF,hO,aH,LT.nds,allT,ef,kA,xM,mJ,kh]
  ·simp [ec,gk,iC,iD,iE,iF,hO,aH,LT.each,ef,mP,hw]
  ·simp only [ec,gk,iC,iD,iE,iF,hO,aH,LT.fn,ef,mP,gh,Int.toNat_natCast,kA,xM,mJ,kh,cond_true,Bool.cond_self]
  ·exact fun _ _=>trivial
 ·obtain⟨⟩:=a
  simp [ec,gk,iC,iD,iE,iF,hO,aH,LT.out,ef]
theorem Jz(rs:List Rc):nB rs=joC rs∧aS rs=joL rs∧nC rs=true:=by
 have hq:ij rs= !leN rs.length 100:=by
  simp only [ij]
  by_cases h:rs.length≤100
  ·rw [eU h,CD (by omega)];rfl
  ·rw [Fp (by omega),jl (by omega)];rfl
 simp only [nB,aS,nC,hq,joC,joL]
 cases hl:leN rs.length 100 with
 |false=>exact⟨rfl,rfl,rfl⟩
 |true=>
  have hl':=eq.1 hl
  obtain⟨w1,w2⟩:=zj rs (by omega)
  rw [nI (P:=fun b=> !jP b) (j:=0) (fun b=>by simp only [gh])]at w2
  have e5:(rs.any fun b=> !jP b)= !sW rs:=by simp [sW,List.all_eq_not_any_not]
  rw [e5]at w2
  have w1':aH.fin (mu rs)=true:=w1
  have w2':aH.res (mu rs)=_:=w2
  have a2:jS rs= !sW rs:=by
   simp only [jS,w2']
   cases sW rs <;> rfl
  rw [a2,w1']
  cases hr:sW rs <;> exact⟨rfl,rfl,rfl⟩
theorem KC(rs:List Rc):(joL rs).length≤1400:=by
 unfold joL
 cases hl:leN rs.length 100 with
 |false=>simp
 |true=>
  have hl:=eq.1 hl
  cases sW rs with
  |false=>simp
  |true=>simp only [cond_true,xP];omega
 attribute [local irreducible] nxA nxS nxV pkA pkS pkV
theorem qL(a s:Int)(c:List Int)(h:bO a s c=true):mW a s c=true∧bO (qJ a s c) (qK a s c) c=true:=by
 skip
 refine⟨?_,?_⟩
 all_goals simp only [gr,oO,oP,oQ,fb,eg,gt,sC,gu,iu,nE,nF,rz,rA,rB,qG,qH,qI,qJ,qK,mW,Dy,Dz,and_true,Bool.or_eq_true,Bool.and_eq_true]
 all_goals repeat' refine And.intro ?_ ?_
 all_goals first
   |omega
   |(repeat (first | assumption | apply ov | apply Cs | apply rF | refine Or.inr ?_ | refine And.intro ?_ ?_ | exact trivial | exact En _ _ | rfl)
     done)
   |((repeat refine Or.inr ?_)
     exact eU (by first | omega | (simp only [S2];omega)))
   |(simp only [S2]
     omega)
   |(repeat' apply sv
     all_goals first | omega | (simp only [S2];omega))
   |(try simp only [S1]at *
     rw [aN (by omega) (by omega)]
     first | omega | (simp only [S2];omega))
   |(simp only [S1]at *
     first | omega | (exfalso;omega))
   |(exfalso;simp_all;done)
theorem uu(c:List Int)(x:cm)(hx:match x with | (y0,y1,y2,y3,y4)=>y0≤((6:Nat):Int)∧bO y2 y3 y4=true∧y1.length + (6:Nat)≤6∧y4=c):
  bK.fin x=true∧ ∃ j y,bK.res x=(j,y)∧(match y with | (y0,y1,y2,y3,y4)=>bO y2 y3 c=true∧y1.length≤6∧c=y4):=by
 refine bK.inv2 (fun k x=>match x with | (y0,y1,y2,y3,y4)=>y0≤(k:Int)∧bO y2 y3 y4=true∧y1.length + k≤6∧y4=c) (fun y=>match y with | (y0,y1,y2,y3,y4)=>bO y2 y3 c=true∧y1.length≤6∧c=y4) (fun k x hx=> ?_) (fun x hx=> ?_) 6 x (by omega) hx
 ·obtain⟨y0,y1,y2,y3,y4⟩:=x
  obtain⟨h0,h1,h2,rfl⟩:=hx
  obtain⟨d1,d2⟩:=qL y2 y3 y4 h1
  simp only [bK,kY,LT.ok,Dy,Dz,and_true,gf,ma,mb,mc,md,me,mf,mg,mh,Bool.or_eq_true,Bool.and_eq_true]
  repeat' (first | refine And.intro ?_ ?_ | intro _)
  all_goals first
   |omega
   |(repeat (first | assumption | apply ov | apply Cs | apply rF | refine Or.inr ?_ | refine And.intro ?_ ?_ | exact trivial | exact En _ _ | rfl)
     done)
   |((repeat refine Or.inr ?_)
     exact eU (by first | omega | (simp only [S2];omega)))
   |(simp only [S2]
     omega)
   |(repeat' apply sv
     all_goals first | omega | (simp only [S2];omega))
   |(try simp only [S1]at *
     rw [aN (by omega) (by omega)]
     first | omega | (simp only [S2];omega))
   |(simp only [S1]at *
     first | omega | (exfalso;omega))
   |(exfalso;simp_all;done)
 ·obtain⟨y0,y1,y2,y3,y4⟩:=x
  obtain⟨h0,h1,h2,rfl⟩:=hx
  obtain⟨d1,d2⟩:=qL y2 y3 y4 h1
  skip
  simp only [bK,kY,LT.ok,Dy,Dz,and_true,gf,ma,mb,mc,md,me,mf,mg,mh,Bool.or_eq_true,Bool.and_eq_true]
  repeat' (first | refine And.intro ?_ ?_ | intro _)
  all_goals first
   |omega
   |(repeat (first | assumption | apply ov | apply Cs | apply rF | refine Or.inr ?_ | refine And.intro ?_ ?_ | exact trivial | exact En _ _ | rfl)
     done)
   |((repeat refine Or.inr ?_)
     exact eU (by first | omega | (simp only [S2];omega)))
   |(simp only [S2]
     omega)
   |(repeat' apply sv
     all_goals first | omega | (simp only [S2];omega))
   |(try simp only [S1]at *
     rw [aN (by omega) (by omega)]
     first | omega | (simp only [S2];omega))
   |(simp only [S1]at *
     first | omega | (exfalso;omega))
   |(exfalso;simp_all;done)
theorem wT(a s:Int)(c:List Int)(h:bO a s c=true):ln a s c=true∧bO (ee a s c) (fk a s c) c=true∧(ah a s c).length≤101:=by
 have n6:=El (n:=6) h (by omega)
 obtain⟨f0,j0,⟨z0,z1,z2,z3,z4⟩,g0,q1,q2,q3⟩:=uu c (kv a s c) (by
  simp only [kv]
  exact⟨by omega,ov h,by simp,trivial⟩)
 have e1:kw a s c=(z1,z2,z3,z4):=by simp only [kw,g0]
 have e2:eI a s c=(z2,z3,z4):=by simp only [eI,e1]
 have e3:iJ a s c=z3:=by simp only [iJ,e2]
 have s6:bO (dD a s c) (eJ a s c) c=true:=by simp only [dD,eJ,e2,e3];exact ov q1
 have n2:=El (n:=2) s6 (by omega)
 have e7:bo a s c=100 + nxV 2 (dD a s c) (eJ a s c) c:=by simp only [bo];exact aN (by omega) (by omega)
 have t1:leI 0 (bo a s c)=true:=cZ (by omega)
 have t2:leI (bo a s c) (bo a s c)=true:=cZ (by omega)
 have t3:leI ((↑(24:Nat):Int) * bo a s c) 281474976710656=true:=cZ (by omega)
 have t4:leI (bo a s c) 9223372036854775807=true:=cZ (by omega)
 refine⟨?_,?_,?_⟩
 ·simp only [ln,h,f0,e2,e3,q1,s6,t1,t2,t3,t4,allT,Bool.or_true,cond_true]
 ·simp only [ee,fk]
  exact rF (ov s6) s6
 ·simp only [ah,e1]
  exact sv (by rw [List.length_replicate];omega) (by omega)
theorem tE(c:List Int)(x:bW)(hx:match x with | (y0,y1,y2,y3,y4)=>y0≤((41:Nat):Int)∧bO y2 y3 y4=true∧y1.length + (41:Nat)≤41∧y4=c):
  bt.fin x=true∧ ∃ j y,bt.res x=(j,y)∧(match y with | (y0,y1,y2,y3,y4)=>bO y2 y3 c=true∧y1.length≤41∧c=y4):=by
 refine bt.inv2 (fun k x=>match x with | (y0,y1,y2,y3,y4)=>y0≤(k:Int)∧bO y2 y3 y4=true∧y1.length + k≤41∧y4=c) (fun y=>match y with | (y0,y1,y2,y3,y4)=>bO y2 y3 c=true∧y1.length≤41∧c=y4) (fun k x hx=> ?_) (fun x hx=> ?_) 41 x (by omega) hx
 ·obtain⟨y0,y1,y2,y3,y4⟩:=x
  obtain⟨h0,h1,h2,rfl⟩:=hx
  skip
  simp only [bt,kD,LT.ok,Dy,Dz,and_true,fy,le,lg,lh,li,lj,lk,ll,lm,Bool.or_eq_true,Bool.and_eq_true]
  repeat' (first | refine And.intro ?_ ?_ | intro _)
  all_goals first
   |omega
   |(repeat (first | assumption | apply ov | apply Cs | apply rF | refine Or.inr ?_ | refine And.intro ?_ ?_ | exact trivial | exact En _ _ | rfl)
     done)
   |((repeat refine Or.inr ?_)
     exact eU (by first | omega | (simp only [S2];omega)))
   |(simp only [S2]
     omega)
   |(repeat' apply sv
     all_goals first | omega | (simp only [S2];omega))
   |(try simp only [S1]at *
     rw [aN (by omega) (by omega)]
     first | omega | (simp only [S2];omega))
   |(simp only [S1]at *
     first | omega | (exfalso;omega))
   |(exfalso;simp_all;done)
 ·obtain⟨y0,y1,y2,y3,y4⟩:=x
  obtain⟨h0,h1,h2,rfl⟩:=hx
  skip
  skip
  simp only [bt,kD,LT.ok,Dy,Dz,and_true,fy,le,lg,lh,li,lj,lk,ll,lm,Bool.or_eq_true,Bool.and_eq_true]
  repeat' (first | refine And.intro ?_ ?_ | intro _)
  all_goals first
   |omega
   |(repeat (first | assumption | apply ov | apply Cs | apply rF | refine Or.inr ?_ | refine And.intro ?_ ?_ | exact trivial | exact En _ _ | rfl)
     done)
   |((repeat refine Or.inr ?_)
     exact eU (by first | omega | (simp only [S2];omega)))
   |(simp only [S2]
     omega)
   |(repeat' apply sv
     all_goals first | omega | (simp only [S2];omega))
   |(try simp only [S1]at *
     rw [aN (by omega) (by omega)]
     first | omega | (simp only [S2];omega))
   |(simp only [S1]at *
     first | omega | (exfalso;omega))
   |(exfalso;simp_all;done)
theorem ld(m a s:Int)(c:List Int)(hm:0≤m∧m≤40)(h:bO a s c=true):gn m a s c=true∧bO (iH m a s c) (iI m a s c) c=true∧(gm m a s c).length≤2001:=by
 have e0:jY m=m + 1:=aN (by omega) (by omega)
 have n6:=El (n:=m + 1) h (by omega)
 obtain⟨f0,j0,⟨z0,z1,z2,z3,z4⟩,g0,q1,q2,q3⟩:=tE c (jZ m a s c) (by
  simp only [jZ,e0]
  exact⟨by omega,ov h,by simp,trivial⟩)
 have e2:ka m a s c=(z1,z2,z3,z4):=by simp only [ka,g0]
 have e3:ed m a s c=(z2,z3,z4):=by simp only [ed,e2]
 have e4:hZ m a s c=z3:=by simp only [hZ,e3]
 have e10:eT m a s c=z1:=by simp only [eT,e2]
 have s6:bO (bq m a s c) (ce m a s c) c=true:=by simp only [bq,ce,e3,e4];exact ov q1
 have n2:=El (n:=2) s6 (by omega)
 have e12:aT m a s c=2000 + nxV 2 (bq m a s c) (ce m a s c) c:=by simp only [aT];exact aN (by omega) (by omega)
 have t1:leI 0 (aT m a s c)=true:=cZ (by omega)
 have t2:leI (aT m a s c) (aT m a s c)=true:=cZ (by omega)
 have t3:leI ((↑(8:Nat):Int) * aT m a s c) 281474976710656=true:=cZ (by omega)
 have t4:leI (aT m a s c) 9223372036854775807=true:=cZ (by omega)
 have t5:leN 1 (List.length [(-1:Int),256])=true:=rfl
 have t6:leN (z1.length + (cO m a s c).length) 9223372036854775807=true:=eU (by simp only [cO,List.length_singleton];omega)
 have t7:leN ((z1.length + (cO m a s c).length) * 8) 140737488355328=true:=eU (by simp only [cO,List.length_singleton];omega)
 refine⟨?_,?_,?_⟩
 ·simp only [gn,h,f0,e3,e4,e10,q1,s6,t1,t2,t3,t4,t5,t6,t7,allT,Bool.or_true,Bool.and_self,cond_true]
 ·simp only [iH,iI]
  exact rF (Cs s6) (rF (ov s6) s6)
 ·simp only [gm,e10]
  exact sv (by simp only [cO,List.length_append,List.length_singleton];omega) (sv (by rw [List.length_replicate];omega) (by omega))
theorem ut(a s:Int)(c:List Int)(h:bO a s c=true):jB a s c=true∧bO (dH a s c) (dI a s c) c=true∧(jA a s c).length≤5000:=by
 obtain⟨d1,d2,d3⟩:=wT a s c h
 obtain⟨j1,j2,j3⟩:=Jz (ah a s c)
 have hj:=KC (ah a s c)
 have s2:bO (ar a s c) (bZ a s c) c=true:=by simp only [ar,bZ];exact rF (ov d2) d2
 have s4:bO (nxA 4 (ar a s c) c) (bQ a s c) c=true:=by simp only [bQ];exact ov s2
 have s7:bO (du a s c) (dQ a s c) c=true:=by simp only [du,dQ];exact ov s4
 have s10:bO (dO a s c) (dP a s c) c=true:=by simp only [dO,dP];exact ov s4
 obtain⟨b1,b2,b3⟩:=ld 40 _ _ c (by omega) s2
 obtain⟨k1,k2,k3⟩:=ld 20 _ _ c (by omega) s10
 have e9:ge a s c=((joL (ah a s c)).length:Int) + 1:=by simp only [ge,j2];exact aN (by omega) (by omega)
 have n16:=El (n:=((joL (ah a s c)).length:Int) + 1) s4 (by omega)
 have n8:=El (n:=8) s7 (by omega)
 have e15:fA a s c=nxV 8 (du a s c) (dQ a s c) c:=by simp only [fA];exact Hs (by omega) (by omega)
 have a6:aC a s c=ltI 0 ((joL (ah a s c)).length:Int):=by simp only [aC,j2]
 refine⟨?_,?_,?_⟩
 ·have p18:kO a s c=true:=s4
  have q14:aC a s c=true→0≤cp a s c∧cp a s c < ((joL (ah a s c)).length:Int):=fun h6=>by
   rw [a6,Dp]at h6
   have:=El (n:=((joL (ah a s c)).length:Int)) s4 (by omega)
   simp only [cp,j2];exact this
  have p19:im a s c=true:=by
   simp only [im]
   cases h6:aC a s c with
   |false=>simp
   |true=>rw [cZ (q14 h6).1];simp
  have p20:io a s c=true:=by
   simp only [io,j2]
   cases h6:aC a s c with
   |false=>simp
   |true=>rw [jl (q14 h6).2];simp
  have p21:ip a s c=true:=by
   simp only [ip,j2]
   cases h6:aC a s c with
   |false=>simp
   |true=>rw [mM (by have:=q14 h6;omega)];simp
  have p15:leI 0 (fA a s c)=true:=cZ (by omega)
  have p16:leI 0 (bj a s c)=true:=cZ (by simp only [bj,e9];omega)
  have p17:leI (bj a s c) ((joL (ah a s c)).length:Int)=true:=cZ (by simp only [bj,e9];omega)
  have p22:leN ((List.take (Int.toNat (bj a s c)) (joL (ah a s c))).length + (cq a s c).length) 9223372036854775807=true:=eU (by simp only [cq,List.length_take];omega)
  have p23:leN (((List.take (Int.toNat (bj a s c)) (joL (ah a s c))).length + (cq a s c).length) * 8) 140737488355328=true:=eU (by simp only [cq,List.length_take];omega)
  simp only [jB,j1,j2,j3,d1,d2,b1,k1,s2,s7,s10,p15,p16,p17,p18,p19,p20,p21,p22,p23,allT,Bool.or_true,Bool.and_self,cond_true]
 ·simp only [dH,dI]
  exact rF b2 (rF (rF (ov s7) s4) (rF k2 s4))
 ·simp only [jA,j2]
  exact sv (by omega) (sv (sv (by rw [List.length_set];omega) (by omega)) (sv (by simp only [cq,List.length_append,List.length_take];omega) (by omega)))
theorem mT(c:List Int)(h:bO 0 0 c=true):kN c=true∧(al c).length≤5000:=by
 have hf:=(FU c h).2
 obtain⟨d1,d2,d3⟩:=ut 0 (frS c) c hf
 obtain⟨k1,_⟩:=qL _ _ c d2
 exact⟨by simp only [kN,h,d1,k1,allT,cond_true],d3⟩
theorem ur(c:List Int)(h:bO 0 0 c=true):lT c=true∧(dG c).length≤2001:=by
 have hf:=(FU c h).2
 obtain⟨d1,d2,d3⟩:=ld 20 0 (frS c) c (by omega) hf
 exact⟨by simp only [lT,h,d1,allT,cond_true],d3⟩
def px:List SV→List Entry→Option Out
 | [.one ⟨false,[.ref 0]⟩],[.row false 5 (.int .u8) x0]=>some ⟨.tup [⟨false,[.ref 1]⟩,⟨true,[.val (.int .i64 (kK x0)),.val (.int .i64 (kL x0)),.val (.int .i64 (kM x0))]⟩],[.row false 5 Mt x0],[.row true 2 Mr (al x0)],[bO 0 0 x0]⟩
 |_,_=>none
def kE:PF prog:=PF.alt vb px (by
 intro args es o h bk;unfold px at h;split at h
 ·rename_i x0
  cases h
  have bk:=ki bk
  have hh:=(mT x0 bk).1
  have en:=hh
  exact iw rfl (fV en) rfl rfl rfl
 ·cases h)
def ri:List SV→List Entry→Option Out
 | [.one ⟨false,[.ref 0]⟩],[.row false 5 (.int .u8) x0]=>some ⟨.one ⟨false,[.ref 1]⟩,[.row false 5 Mt x0],[.row true 2 Mr (dG x0)],[bO 0 0 x0]⟩
 |_,_=>none
def lO:PF prog:=PF.alt wR ri (by
 intro args es o h bk;unfold ri at h;split at h
 ·rename_i x0
  cases h
  have bk:=ki bk
  have hh:=(ur x0 bk).1
  have en:=hh
  exact iw rfl (fV en) rfl rfl rfl
 ·cases h)
end Go.SX
namespace Go.SX
open Go.Proofs Go.Proofs.Try
set_option maxRecDepth 100000
section
variable (x0:List Int)
def cC:Int×Int×Int:=(kK x0,kL x0,kM x0)
def iZ:Bool:=apC (cC x0) (al x0)!=apC (cC x0) (al x0)
def ja:Bool:=bif bif iZ x0 then true else !eqL (apL (cC x0) (al x0)) (apL (cC x0) (al x0))then true else rjC (al x0)!=rjC (al x0)
def dX:Bool:=bif bif bif ja x0 then true else !HO (rjL (al x0)) (rjL (al x0))then true else ckC (dG x0)!=ckC (dG x0)then true else ckV (dG x0)!=ckV (dG x0)
def dY:Bool:=apC (cC x0) (al x0)!=0
def jb:List Int:=bif !iZ x0&&true then apL (cC x0) (al x0)else apL (cC x0) (al x0)
def aY:Bool:=rjC (jb x0)==0
def je:List (Int×Int×Int):=bif aY x0&&true then []else []
def jf:List (Int×Int×Int):=bif !ja x0&&true then rjL (al x0)else rjL (al x0)
def dZ:List (Int×Int×Int):=bif aY x0&&true then je x0++jf x0 else []
def dB:List (Int×Int×Int):=bif aY x0&&true then [cC x0]else []
def iz:Bool:=gM x0||bO 0 0 x0
def mo:Bool:=bif gM x0 then true else bif dX x0 then false else bif dY x0 then true else bif aY x0 then HO (rjL (jb x0)) (bif aY x0&&true then dZ x0++dB x0 else [])else false
def mp:Bool:=allT [iz x0,iz x0,gM x0||(!(!iZ x0&&true)||leN (List.length (apL (cC x0) (al x0))) 9223372036854775807),gM x0||(!(!ja x0&&true)||leN (List.length (rjL (al x0))) 9223372036854775807),gM x0||(dX x0||(dY x0||(!(aY x0&&true)||leN (List.length (je x0) + List.length (jf x0)) 9223372036854775807))),gM x0||(dX x0||(dY x0||(!(aY x0&&true)||leN ((List.length (je x0) + List.length (jf x0)) * 24) 140737488355328))),gM x0||(dX x0||(dY x0||(!(aY x0&&true)||leN (List.length (dZ x0) + List.length (dB x0)) 9223372036854775807))),gM x0||(dX x0||(dY x0||(!(aY x0&&true)||leN ((List.length (dZ x0) + List.length (dB x0)) * 24) 140737488355328))),gM x0||(dX x0||(dY x0||(!(aY x0&&true)||leN (List.length (rjL (jb x0))) 9223372036854775807)))]
end
def tH:List SV→List Entry→Option Out
 | [.one ⟨false,[.ref 0]⟩],[.row false 5 (.int .u8) x0]=>some ⟨.one ⟨false,[.val (.bool (mo x0))]⟩,[.row false 5 Mt x0],[],[mp x0]⟩
 |_,_=>none
def Br:PF prog:=PF.ofG prog (T3z [Ar,kE,oa,od,lN,lP,lO,qo,qp,sx,oc]) [] bA 4 f4 func4 (fun c _=>LOk.nil c) tH (by
 intro vs es r h;unfold tH at h;split at h
 ·cases h;kernel_rfl
 ·cases h)
theorem JC{c:List Int}(hb: ∀ (i:Nat) (x:Int),c[i]? =some x→0≤x∧x≤255)(h:gM c=false):bO 0 0 c=true:=by
 have hl:c.length≤4096:=by
  simp [gM]at h
  omega
 refine yH.2 ⟨by omega,by omega,hl,fun x hx=> ?_⟩
 obtain⟨i,hi⟩:=List.mem_iff_getElem?.1 hx
 exact hb i x hi
theorem Ff(l:List Rc):HO l l=true:=by simp [HO]
theorem IR(l:List Int):(rjL l).length≤100:=by
 unfold rjL
 cases gX l with
 |false=>simp
 |true=>exact Ey l
theorem Kp(x:Rc)(l:List Int):(apL x l).length≤1400:=by
 unfold apL
 cases jP x with
 |false=>simp
 |true=>
  cases gX l with
  |false=>simp
  |true=>
   cases h:leN (ru l).length 99 with
   |false=>simp
   |true=>
    have:=eq.1 h
    simp only [cond_true,xP,List.length_append,List.length_singleton];omega
theorem KY(x:Rc)(l:List Int)(h:apC x l=0):rjC (apL x l)=0∧rjL (apL x l)=rjL l++ [x]:=by
 unfold apC at h
 unfold apL
 cases hx:jP x with
 |false=>rw [hx]at h;cases h
 |true=>
  cases hb:gX l with
  |false=>rw [hx,hb]at h;cases h
  |true=>
   cases h9:leN (ru l).length 99 with
   |false=>rw [hx,hb,h9]at h;cases h
   |true=>
    have hl:=eq.1 h9
    have hr:=EA (Gl (pA hb).1) hx
    have dK:(ru l++ [x]).length≤100:=by rw [List.length_append,List.length_singleton];omega
    have HT:gX (vW cX (ru l++ [x]) 0)=true:=by
     simp only [gX,Bool.and_eq_true]
     exact⟨eU (by rw [xP];omega),kR.2 (Fm cX _ 0 (ym.1 hr))⟩
    simp only [cond_true,rjC,rjL,HT,hb,Jr dK hr,and_self]
theorem Gc(c:List Int)(hb: ∀ (i:Nat) (x:Int),c[i]? =some x→0≤x∧x≤255):
  mo c=true∧mp c=true:=by
 cases hbig:gM c with
 |true=>simp [mo,mp,iz,allT,hbig]
 |false=>
  have hsrc:=JC hb hbig
  obtain⟨_,hl⟩:=mT c hsrc
  generalize hX:cC c=x
  generalize hL:al c=l at hl
  have n1: ∀ a:Int,(a !=a)=false:=fun a=>by simp
  have a1:iZ c=false:=by simp only [iZ,n1]
  have a2:ja c=false:=by simp only [ja,a1,n1,GI,Bool.not_true,cond_false]
  have a3:dX c=false:=by simp only [dX,a2,n1,Ff,Bool.not_true,cond_false]
  have a4:dY c=(apC x l !=0):=by simp only [dY,hX,hL]
  have a5:jb c=apL x l:=by simp only [jb,hX,hL,Bool.cond_self]
  have a6:aY c=(rjC (apL x l)==0):=by simp only [aY,a5]
  have a7:je c= []:=by simp only [je,Bool.cond_self]
  have a8:jf c=rjL l:=by simp only [jf,hL,Bool.cond_self]
  have a11:iz c=true:=by simp only [iz,hsrc,Bool.or_true]
  have l1:=IR l
  have l2:=IR (apL x l)
  have l3:=Kp x l
  refine⟨?_,?_⟩
  ·simp only [mo,hbig,a3,a4,cond_false]
   cases hc:(apC x l !=0)with
   |true=>rfl
   |false=>
    have hc:apC x l=0:=by simpa using hc
    obtain⟨r1,r2⟩:=KY x l hc
    have b6:aY c=true:=by rw [a6,r1];rfl
    simp only [dZ,dB,b6,a5,a7,a8,hX,r2,Bool.and_self,cond_true,cond_false,List.nil_append,Ff]
  ·have b9:(dZ c).length≤100:=by
    simp only [dZ,a7,a8,List.nil_append]
    cases aY c&&true with
    |true=>exact l1
    |false=>simp
   have b10:(dB c).length≤1:=by
    simp only [dB]
    cases aY c&&true <;> simp
   have t1:leN (apL x l).length 9223372036854775807=true:=eU (by omega)
   have t2:leN (rjL l).length 9223372036854775807=true:=eU (by omega)
   have t3:leN (([]:List (Int×Int×Int)).length + (rjL l).length) 9223372036854775807=true:=eU (by simp only [List.length_nil];omega)
   have t4:leN ((([]:List (Int×Int×Int)).length + (rjL l).length) * 24) 140737488355328=true:=eU (by simp only [List.length_nil];omega)
   have t5:leN ((dZ c).length + (dB c).length) 9223372036854775807=true:=eU (by omega)
   have t6:leN (((dZ c).length + (dB c).length) * 24) 140737488355328=true:=eU (by omega)
   have t7:leN (rjL (apL x l)).length 9223372036854775807=true:=eU (by omega)
   simp only [mp,a11,a5,a7,a8,hX,hL,t1,t2,t3,t4,t5,t6,t7,allT,Bool.or_true,cond_true]
end Go.SX
