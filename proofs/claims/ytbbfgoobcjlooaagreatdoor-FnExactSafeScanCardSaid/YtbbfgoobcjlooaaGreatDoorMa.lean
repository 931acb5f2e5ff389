/- What functions of the program come to, and what that says in plain words: part 1. -/
import Derived.Test.YtbbfgoobcjlooaaGreatDoorTXh
import Derived.Test.YtbbfgoobcjlooaaGreatDoorProg
set_option linter.unusedSimpArgs false
set_option linter.unusedVariables false
namespace Go.SX
open Go.Proofs
abbrev aaH:CTy:=(CTy.pair (CTy.int IntKind.i64) (CTy.pair (CTy.int IntKind.i64) (CTy.int IntKind.i64)))
abbrev abW:CTy:=(CTy.pair (CTy.int IntKind.i64) (CTy.pair CTy.str (CTy.int IntKind.i64)))
abbrev acT:CTy:=(CTy.int IntKind.i64)
abbrev aen:CTy:=(CTy.str)
theorem S0z:(∀ (α:Type) (a b:α),(bif true then a else b)=a)∧(∀ (α:Type) (a b:α),(bif false then a else b)=b)∧(∀ (α:Type) (c:Bool) (a:α),(bif c then a else a)=a)∧((!true)=false)∧((!false)=true)∧(∀ b:Bool,(true||b)=true)∧(∀ b:Bool,(b||true)=true)∧(∀ b:Bool,(false||b)=b)∧(∀ b:Bool,(b||false)=b)∧(∀ b:Bool,(b&&b)=b)∧(∀ b:Bool,(b&&true)=b)∧(∀ b:Bool,(true&&b)=b)∧(∀ b:Bool,(false&&b)=false)∧(∀ b:Bool,(b&&false)=false)∧(∀ (α:Type) [BEq α] [LawfulBEq α] (a:α),(a != a)=false)∧(∀ (α:Type) [BEq α] [LawfulBEq α] (a:α),(a==a)=true):=by and_intros <;> intros <;> simp
end Go.SX
namespace Go.SX
open Go.Proofs Go.Proofs.Tryz
set_option maxRecDepth 100000
theorem aP:Tryz.prog.follows .mixedOrders=true:=by kernel_rfl
def Lx(x0:Int)(x1:List Int):Int:=IntKind.wrap .i64 (x0 - (↑x1.length:Int))
def MN(x0:Int)(x1:List Int):Int:=bif ltI (Lx x0 x1) (0:Int)then(-1:Int)else Lx x0 x1
def RZ:List SV→List Entry→Option Out
 | [.one ⟨false,[.ref 0]⟩,.one ⟨false,[.val (.int .i64 x0)]⟩],[.row false 2 (.int .i64) x1]=>some ⟨.one ⟨false,[.val (.int .i64 (MN x0 x1))]⟩,[.row false 2 acT x1],[],[]⟩
 |_,_=>none
def ab6:PF prog:=PF.ofG prog [] [] aP 86 f86 func86 (fun c _=>LOk.nil c) RZ (by
 intro vs es r h;unfold RZ at h;split at h
 ·cases h;kernel_rfl
 ·cases h)
def br(x0 x1 x2:Int):Bool:=bif leI x1 x0 then leI x0 x2 else false
def Zk:List SV→List Entry→Option Out
 | [.one ⟨false,[.val (.int .i64 x0)]⟩,.one ⟨false,[.val (.int .i64 x1)]⟩,.one ⟨false,[.val (.int .i64 x2)]⟩],[]=>some ⟨.one ⟨false,[.val (.bool (br x0 x1 x2))]⟩,[],[],[]⟩
 |_,_=>none
def tP:PF prog:=PF.ofG prog [] [] aP 153 f153 func153 (fun c _=>LOk.nil c) Zk (by
 intro vs es r h;unfold Zk at h;split at h
 ·cases h;kernel_rfl
 ·cases h)
def Qg(x0:List Int):Bool:=allT [leN ((0:Nat) + List.length x0) (9223372036854775807:Nat),leN (((0:Nat) + List.length x0) * (8:Nat)) (140737488355328:Nat)]
def WB:List SV→List Entry→Option Out
 | [.one ⟨false,[.ref 0]⟩],[.row false 2 (.int .i64) x0]=>some ⟨.one ⟨false,[.ref 1]⟩,[.row false 2 acT x0],[.row true 2 acT x0],[Qg x0]⟩
 |_,_=>none
def ad3:PF prog:=PF.ofG prog [] [] aP 173 f173 func173 (fun c _=>LOk.nil c) WB (by
 intro vs es r h;unfold WB at h;split at h
 ·cases h;kernel_rfl
 ·cases h)
abbrev lQ:=Int×List Int×List Int
section
variable (y0:Int)(y1 y2:List Int)
def vi:Bool:=ltI y0 (↑y1.length:Int)
def vj:Bool:=leI (0:Int) y0
def yU:Bool:=ltN y0.toNat y1.length
def yV:Bool:=ltI y0 (↑y2.length:Int)
def yW:Bool:=ltN y0.toNat y2.length
def yX:Int:=IntKind.wrap .i64 (y0 + (1:Int))
def yY:List Int:=List.set y2 y0.toNat (Option.getD y1[Int.toNat y0]? (0:Int))
end
def VG:lQ→List (Nat×SV)
 |(y0,_,_)=> [(4,(.one ⟨false,[.val (.int .i64 y0)]⟩)),(0,(.one ⟨false,[.ref 0]⟩)),(3,(.one ⟨false,[.ref 1]⟩))]
def Vx:lQ→List (Nat×Entry)
 |(_,y1,y2)=> [(0,(.row false 2 acT y1)),(1,(.row true 2 acT y2))]
def VY:Nat→lQ→List (Nat×SV)
 |_,(_,_,_)=> []
def VP:Nat→lQ→List (Nat×Entry)
 |_,(_,y1,y2)=> [(0,(.row false 2 acT y1)),(1,(.row true 2 acT y2))]
def xN:lQ→LT lQ
 |(y0,y1,y2)=> .ite (vi y0 y1) (.need [vj y0,vi y0 y1,yU y0 y1,vj y0,yV y0 y2,yW y0 y2] (.nrm ((yX y0),y1,(yY y0 y1 y2)) [(0,0),(1,1)])) (.ext 0 [(0,0),(1,1)])
def HE(s:St):Option lQ:=
 (match s.look 4 with
 |some ⟨none,.one ⟨false,[.val (.int .i64 y0)]⟩⟩=>
 (match s.look 0 with
 |some ⟨none,.one ⟨false,[.ref 0]⟩⟩=>
 (match s.look 3 with
 |some ⟨none,.one ⟨false,[.ref 320]⟩⟩=>
 (match s.ent 0 with
 |some (.row false 2 (.int .i64) y1)=>
 (match s.ent 320 with
 |some (.row true 2 (.int .i64) y2)=>
 some (y0,y1,y2)
 |_=>none)
 |_=>none)
 |_=>none)
 |_=>none)
 |_=>none)
def ge:Lp lQ where
 h:=⟨[8,9,10,11,14,15,16,17,18,19,20,12,13,4],[0,1],[],[]⟩
 JL:=VG
 JE:=Vx
 XL:=VY
 XE:=VP
 q:=fun j=>match j with | _=> .exit 0
 tags:= [0]
 lt:=xN
 fuel:=fun(y0,y1,y2)=>y0.natAbs + y1.length + y2.length
 fix:=fun(_,y1,_) (y0,_,y2)=>(y0,y1,y2)
 σ:= [(0,0),(1,320)]
 rd:=HE
theorem Td:LoopOk prog (fun k=>Nat.blt k Tryz.f29.ntmps) ge.F (aZ f29 0):=by
 refine Lp.ok (tbl:= []) (lf:= []) aP ge (by kernel_rfl) (LOk.nil _) (fun _=>rfl) (fun _ _=>rfl) ?_ ?_ ?_ ?_ (fun _=>rfl) ?_
 ·rintro⟨y0,y1,y2⟩;kernel_rfl
 ·rintro⟨y0,y1,y2⟩;kernel_rfl
 ·intro s x h
  have h:HE s=some x:=h
  unfold HE at h
  repeat' split at h
  all_goals cases h
  exact⟨aa (by assumption) rfl (aa (by assumption) rfl (aa (by assumption) rfl (rfl))),ab rfl (by assumption) rfl (ab rfl (by assumption) rfl (rfl))⟩
 ·rintro⟨y0,y1,y2⟩;kernel_rfl
 ·rintro⟨y0,y1,y2⟩ z;exact(And.intro rfl trivial)
section
variable (x0:List Int)
def GQ:Int×List Int×List Int:=((0:Int),x0,List.replicate (Int.toNat (↑x0.length:Int)) (0:Int))
def Is:List Int:=(Lp.res ge (GQ x0)).2.2.2
def It:Bool:=allT [leI (0:Int) (↑x0.length:Int),leI (↑x0.length:Int) (↑x0.length:Int),leI ((↑(8:Nat):Int) * (↑x0.length:Int)) (281474976710656:Int),leI (↑x0.length:Int) (9223372036854775807:Int),Lp.fin ge (GQ x0)]
end
def Sb:List SV→List Entry→Option Out
 | [.one ⟨false,[.ref 0]⟩],[.row false 2 (.int .i64) x0]=>some ⟨.one ⟨false,[.ref 1]⟩,[.row false 2 acT x0],[.row true 2 acT (Is x0)],[It x0]⟩
 |_,_=>none
def ab7:PF prog:=PF.ofG prog [] [ge.F] aP 29 f29 func29 (LOk.fnT (l:= [aZ f29 0]) (by kernel_rfl) (.cons Td (.nil _))) Sb (by
 intro vs es r h;unfold Sb at h;split at h
 ·cases h;kernel_rfl
 ·cases h)
def rK(x0 x1 x2:Int):Bool:=bif leI x1 x0 then leI x0 x2 else false
def Wu:List SV→List Entry→Option Out
 | [.one ⟨false,[.val (.int .i64 x0)]⟩,.one ⟨false,[.val (.int .i64 x1)]⟩,.one ⟨false,[.val (.int .i64 x2)]⟩],[]=>some ⟨.one ⟨false,[.val (.bool (rK x0 x1 x2))]⟩,[],[],[]⟩
 |_,_=>none
def Qf:PF prog:=PF.ofG prog [] [] aP 158 f158 func158 (fun c _=>LOk.nil c) Wu (by
 intro vs es r h;unfold Wu at h;split at h
 ·cases h;kernel_rfl
 ·cases h)
def tT(x0:List Int):Bool:=allT [ltN (0:Nat) x0.length,false||leN ((0:Nat) + List.length x0) (9223372036854775807:Nat),false||leN (((0:Nat) + List.length x0) * (8:Nat)) (140737488355328:Nat)]
def FD:List SV→List Entry→Option Out
 | [.one ⟨false,[.ref 0]⟩],[.row false 2 (.int .i64) x0]=>some ⟨.one ⟨false,[.ref 1]⟩,[.row false 2 acT x0],[.row true 2 acT x0],[tT x0]⟩
 |_,_=>none
def Ov:PF prog:=PF.ofG prog [] [] aP 194 f194 func194 (fun c _=>LOk.nil c) FD (by
 intro vs es r h;unfold FD at h;split at h
 ·cases h;kernel_rfl
 ·cases h)
abbrev lP:=Int×List Int×List Int
section
variable (y0:Int)(y1 y2:List Int)
def ve:Bool:=ltI y0 (↑y1.length:Int)
def vf:Bool:=leI (0:Int) y0
def yO:Bool:=ltN y0.toNat y1.length
def yP:Bool:=ltI y0 (↑y2.length:Int)
def yQ:Bool:=ltN y0.toNat y2.length
def yR:Bool:=Option.getD y1[Int.toNat y0]? (0:Int)!=Option.getD y2[Int.toNat y0]? (0:Int)
def yS:Int:=IntKind.wrap .i64 (y0 + (1:Int))
end
def VF:lP→List (Nat×SV)
 |(y0,_,_)=> [(5,(.one ⟨false,[.val (.int .i64 y0)]⟩)),(0,(.one ⟨false,[.ref 0]⟩)),(1,(.one ⟨false,[.ref 1]⟩))]
def Vw:lP→List (Nat×Entry)
 |(_,y1,y2)=> [(0,(.row false 2 acT y1)),(1,(.row false 2 acT y2))]
def VX:Nat→lP→List (Nat×SV)
 |0,(_,_,_)=> [(4,(.one ⟨false,[.val (.bool false)]⟩))]
 |_,(_,_,_)=> []
def VO:Nat→lP→List (Nat×Entry)
 |0,(_,y1,y2)=> [(0,(.row false 2 acT y1)),(1,(.row false 2 acT y2))]
 |_,(_,y1,y2)=> [(0,(.row false 2 acT y1)),(1,(.row false 2 acT y2))]
def xM:lP→LT lP
 |(y0,y1,y2)=> .ite (ve y0 y1) (.need [vf y0,ve y0 y1,yO y0 y1,vf y0,yP y0 y2,yQ y0 y2] (.ite (yR y0 y1 y2) (.ext 0 [(0,0),(1,1)]) (.nrm ((yS y0),y1,y2) [(0,0),(1,1)]))) (.ext 1 [(0,0),(1,1)])
def HD(s:St):Option lP:=
 (match s.look 5 with
 |some ⟨none,.one ⟨false,[.val (.int .i64 y0)]⟩⟩=>
 (match s.look 0 with
 |some ⟨none,.one ⟨false,[.ref 0]⟩⟩=>
 (match s.look 1 with
 |some ⟨none,.one ⟨false,[.ref 1]⟩⟩=>
 (match s.ent 0 with
 |some (.row false 2 (.int .i64) y1)=>
 (match s.ent 1 with
 |some (.row false 2 (.int .i64) y2)=>
 some (y0,y1,y2)
 |_=>none)
 |_=>none)
 |_=>none)
 |_=>none)
 |_=>none)
def eH:Lp lP where
 h:=⟨[11,12,13,14,17,18,19,20,21,22,23,24,25,4,15,16,5],[0,1],[],[]⟩
 JL:=VF
 JE:=Vw
 XL:=VX
 XE:=VO
 q:=fun j=>match j with | 0=> .ret | _=> .exit 0
 tags:= [0,1]
 lt:=xM
 fuel:=fun(y0,y1,y2)=>y0.natAbs + y1.length + y2.length
 fix:=fun(_,y1,y2) (y0,_,_)=>(y0,y1,y2)
 σ:= [(0,0),(1,1)]
 rd:=HD
theorem Tc:LoopOk prog (fun k=>Nat.blt k Tryz.f31.ntmps) eH.F (aZ f31 0):=by
 refine Lp.ok (tbl:= []) (lf:= []) aP eH (by kernel_rfl) (LOk.nil _) (fun _=>rfl) (fun j _=>by unfold eH;match j with | 0=>rfl | _ + 1=>rfl) ?_ ?_ ?_ ?_ (fun _=>rfl) ?_
 ·rintro⟨y0,y1,y2⟩;kernel_rfl
 ·rintro⟨y0,y1,y2⟩;kernel_rfl
 ·intro s x h
  have h:HD s=some x:=h
  unfold HD at h
  repeat' split at h
  all_goals cases h
  exact⟨aa (by assumption) rfl (aa (by assumption) rfl (aa (by assumption) rfl (rfl))),ab rfl (by assumption) rfl (ab rfl (by assumption) rfl (rfl))⟩
 ·rintro⟨y0,y1,y2⟩;kernel_rfl
 ·rintro⟨y0,y1,y2⟩ z;exact(And.intro (And.intro trivial rfl) trivial)
section
variable (x0 x1:List Int)
def GK:Bool:=(↑x0.length:Int)!=(↑x1.length:Int)
def GL:Int×List Int×List Int:=((0:Int),x0,x1)
def Ih:Bool:=bif GK x0 x1 then false else bif Nat.beq ((Lp.res eH (GL x0 x1)).1) (0:Nat)then false else true
def Ii:Bool:=allT [GK x0 x1||Lp.fin eH (GL x0 x1)]
end
def RX:List SV→List Entry→Option Out
 | [.one ⟨false,[.ref 0]⟩,.one ⟨false,[.ref 1]⟩],[.row false 2 (.int .i64) x0,.row false 2 (.int .i64) x1]=>some ⟨.one ⟨false,[.val (.bool (Ih x0 x1))]⟩,[.row false 2 acT x0,.row false 2 acT x1],[],[Ii x0 x1]⟩
 |_,_=>none
def ab5:PF prog:=PF.ofG prog [] [eH.F] aP 31 f31 func31 (LOk.fnT (l:= [aZ f31 0]) (by kernel_rfl) (.cons Tc (.nil _))) RX (by
 intro vs es r h;unfold RX at h;split at h
 ·cases h;kernel_rfl
 ·cases h)
def blk(p:Int):Int:=Int.tdiv p 3
def inR(a lo hi:Int):Bool:=leI lo a&&leI a hi
def eqL(xs ys:List Int):Bool:=decide (xs=ys)
theorem acK(xs:List Int):eqL xs xs=true:=by simp [eqL]
theorem DP{a lo hi:Int}:inR a lo hi=true↔lo≤a∧a≤hi:=by simp [inR]
theorem Rx(a lo hi:Int):(bif leI lo a then leI a hi else false)=inR a lo hi:=by
 unfold inR;cases leI lo a <;> rfl
def rV(y1:List Int)(b:Nat):(List Int)→Nat ⊕ (List Int)
 |y2=>(.inr (List.set y2 b (Option.getD y1[b]? (0:Int))))
def oO(y1:List Int)(i:Nat):(List Int)→lQ
 |y2=>((i:Int),y1,y2)
def Hw:lQ→List Int
 |(_,_,y2)=>y2
theorem Za(y1 y2:List Int)(hn:y1.length≤9223372036854775807)(hl:y2.length=y1.length):
  ge.fin ((0:Int),y1,y2)=true∧ge.res ((0:Int),y1,y2)=((aC (rV y1) 0 (List.range y1.length) 0 y2).1,(oO y1) (aC (rV y1) 0 (List.range y1.length) 0 y2).2.1 (aC (rV y1) 0 (List.range y1.length) 0 y2).2.2):=by
 have kw:=ge.along (oO y1) Hw (rV y1) 0 (fun _ a=>a.length=y1.length) (List.range y1.length) y2 hl (by simp only [ge,oO,List.length_range];omega) (fun i b a hb hI=> ?_) (fun a hI=> ?_)
 ·exact kw
 ·obtain y2:=a
  obtain⟨rfl,fy⟩:=ul hb
  have hw:IntKind.i64.wrap ((b:Int) + 1)=((b + 1:Nat):Int):=by rw [cg (by omega) (by omega)];omega
  have cM:ltI (b:Int) (y1.length:Int)=true:=gg (by omega)
  have xj:leI (0:Int) (b:Int)=true:=cW (by omega)
  have jC:ltN b y1.length=true:=iF (by omega)
  refine⟨?_,?_,?_,?_⟩
  ·simp [vi,vj,yU,yV,yW,yX,yY,xN,ge,LT.nds,allT,oO,cM,xj,jC,hI]
  ·simp [vi,vj,yU,yV,yW,yX,yY,xN,ge,LT.each,oO,Hw,hw,hI]
  ·simp only [vi,vj,yU,yV,yW,yX,yY,xN,ge,LT.fn,oO,Hw,rV,Int.toNat_natCast,cM,cond_true]
  ·intro a' hf;simp only [rV,Sum.inr.injEq]at hf;subst hf;simpa using hI
 ·obtain y2:=a
  simp [vi,vj,yU,yV,yW,yX,yY,xN,ge,LT.out,oO,List.length_range]
def yG(y1 y2:List Int)(b:Nat):(Unit)→Nat ⊕ (Unit)
 |_=>(bif(Option.getD y1[b]? (0:Int)!=Option.getD y2[b]? (0:Int))then(.inl 0)else(.inr ()))
def rn(y1 y2:List Int)(i:Nat):(Unit)→lP
 |_=>((i:Int),y1,y2)
def Hv:lP→Unit
 |(_,_,_)=>()
theorem YZ(y1 y2:List Int) (hn:y1.length≤9223372036854775807) (he:y2.length=y1.length):
  eH.fin ((0:Int),y1,y2)=true∧eH.res ((0:Int),y1,y2)=((aC (yG y1 y2) 1 (List.range y1.length) 0 ()).1,(rn y1 y2) (aC (yG y1 y2) 1 (List.range y1.length) 0 ()).2.1 (aC (yG y1 y2) 1 (List.range y1.length) 0 ()).2.2):=by
 have kw:=eH.along (rn y1 y2) Hv (yG y1 y2) 1 (fun _ _=>True) (List.range y1.length) () (by trivial) (by simp only [eH,rn,List.length_range];omega) (fun i b a hb hI=> ?_) (fun a hI=> ?_)
 ·exact kw
 ·obtain⟨⟩:=a
  obtain⟨rfl,fy⟩:=ul hb
  have hw:IntKind.i64.wrap ((b:Int) + 1)=((b + 1:Nat):Int):=by rw [cg (by omega) (by omega)];omega
  have cM:ltI (b:Int) (y1.length:Int)=true:=gg (by omega)
  have xj:leI (0:Int) (b:Int)=true:=cW (by omega)
  have jC:ltN b y1.length=true:=iF (by omega)
  refine⟨?_,?_,?_,?_⟩
  ·simp [ve,vf,yO,yP,yQ,yR,yS,xM,eH,LT.nds,allT,rn,cM,xj,jC,he]
  ·simp [ve,vf,yO,yP,yQ,yR,yS,xM,eH,LT.each,rn,Hv,hw,he]
  ·simp only [ve,vf,yO,yP,yQ,yR,yS,xM,eH,LT.fn,rn,Hv,yG,Int.toNat_natCast,cM,cond_true]
  ·exact fun _ _=>trivial
 ·obtain⟨⟩:=a
  simp [ve,vf,yO,yP,yQ,yR,yS,xM,eH,LT.out,rn,List.length_range]
theorem aiU(xs:List Int)(hn:leN xs.length 1048576=true):Is xs=xs∧It xs=true:=by
 have hn:=ij.1 hn
 have hr:(List.replicate (Int.toNat (xs.length:Int)) (0:Int)).length=xs.length:=by simp
 obtain⟨w1,w2⟩:=Za xs (List.replicate (Int.toNat (xs.length:Int)) (0:Int)) (by omega) hr
 have hc:=Rc (xs:=xs) (d:=(0:Int)) (g:=fun x=>x) (f:=rV xs) (e:=0) (fun b a=>rfl) hr
 rw [hc]at w2
 refine⟨?_,?_⟩
 ·simp only [GQ,Is,It,w2,oO];simp
 ·simp only [GQ,Is,It,w1,allT];simp;omega
def Sr:List SV→List Entry→Option Out
 | [.one ⟨false,[.ref 0]⟩],[.row false 2 (.int .i64) x0]=>some ⟨.one ⟨false,[.ref 1]⟩,[.row false 2 acT x0],[.row true 2 acT x0],[leN x0.length 1048576]⟩
 |_,_=>none
def Aq:PF prog:=PF.alt ab7 Sr (by
 intro args es o h dh;unfold Sr at h;split at h
 ·rename_i x0
  cases h
  have dh:=qA dh
  have hh:=aiU x0 dh
  obtain⟨e0,en⟩:=hh
  exact vG rfl (qB en) rfl rfl (by simp only [e0] <;> rfl)
 ·cases h)
theorem aiv(xs ys:List Int)(hn:leN xs.length 9223372036854775807=true):Ih xs ys=eqL xs ys∧Ii xs ys=true:=by
 have hn:=ij.1 hn
 unfold eqL
 by_cases hl:ys.length=xs.length
 ·obtain⟨w1,w2⟩:=YZ xs ys hn hl
  have ha:=aeQ (d:=(0:Int)) hl (P:=fun b=>Option.getD xs[b]? 0 !=Option.getD ys[b]? 0) (fun b=>by simp [bne,BEq.beq])
  rw [gJ (P:=fun b=>Option.getD xs[b]? 0 !=Option.getD ys[b]? 0) (j:=0) (fun b=>rfl),ha]at w2
  simp only [GK,GL,Ih,Ii,w1,w2,allT]
  by_cases he:xs=ys
  ·subst he;simp;decide
  ·simp [he,hl]
 ·have Mq:xs≠ys:=fun h=>hl (by rw [h])
  simp [GK,GL,Ih,Ii,allT,Mq]
  omega
def Sp:List SV→List Entry→Option Out
 | [.one ⟨false,[.ref 0]⟩,.one ⟨false,[.ref 1]⟩],[.row false 2 (.int .i64) x0,.row false 2 (.int .i64) x1]=>some ⟨.one ⟨false,[.val (.bool (eqL x0 x1))]⟩,[.row false 2 acT x0,.row false 2 acT x1],[],[leN x0.length 9223372036854775807]⟩
 |_,_=>none
def Ap:PF prog:=PF.alt ab5 Sp (by
 intro args es o h dh;unfold Sp at h;split at h
 ·rename_i x0 x1
  cases h
  have dh:=qA dh
  have hh:=aiv x0 x1 dh
  obtain⟨e0,en⟩:=hh
  exact vG rfl (qB en) (by simp only [e0] <;> rfl) rfl rfl
 ·cases h)
def szV(k:Int)(xs:List Int):Int:=bif ltI (k - xs.length) 0 then -1 else k - xs.length
theorem aiS(k:Int)(xs:List Int)(h:(leN xs.length 9223372036854775807&&(leI (-1) k&&leI k 1048576))=true):MN k xs=szV k xs:=by
 simp only [Bool.and_eq_true,ij,Cj]at h
 simp only [Lx,MN,szV]
 rw [cg (by omega) (by omega)]
def Sq:List SV→List Entry→Option Out
 | [.one ⟨false,[.ref 0]⟩,.one ⟨false,[.val (.int .i64 x0)]⟩],[.row false 2 (.int .i64) x1]=>some ⟨.one ⟨false,[.val (.int .i64 (szV x0 x1))]⟩,[.row false 2 acT x1],[],[leN x1.length 9223372036854775807&&(leI (-1) x0&&leI x0 1048576)]⟩
 |_,_=>none
def MQ:PF prog:=PF.alt ab6 Sq (by
 intro args es o h dh;unfold Sq at h;split at h
 ·rename_i x0 x1
  cases h
  have dh:=qA dh
  have hh:=aiS x0 x1 dh
  have e0:=hh
  exact vG rfl (fun _ h=>by cases h) (by simp only [e0] <;> rfl) rfl rfl
 ·cases h)
theorem ai3(xs:List Int)(h:(leN 1 xs.length&&leN xs.length 1048576)=true):tT xs=true:=by
 simp only [Bool.and_eq_true,ij]at h
 simp [tT,allT]
 omega
def abl:List SV→List Entry→Option Out
 | [.one ⟨false,[.val (.slice none 0 0)]⟩],[]=>some ⟨.one ⟨false,[.ref 0]⟩,[],[.row true 2 (.int .i64) []],[true]⟩
 |_,_=>none
def ago:PF prog:=PF.ofG prog [PF.raw prog] [] aP 194 f194 func194 (fun c _=>LOk.nil c) abl (by
 intro vs es r h;unfold abl at h;split at h
 ·cases h;kernel_rfl
 ·cases h)
def abk:List SV→List Entry→Option Out
 | [.one ⟨false,[.val (.slice (some _) 0 _)]⟩],[]=>some ⟨.one ⟨false,[.ref 0]⟩,[],[.row true 2 (.int .i64) []],[true]⟩
 |_,_=>none
def agn:PF prog:=PF.ofG prog [] [] aP 194 f194 func194 (fun c _=>LOk.nil c) abk (by
 intro vs es r h;unfold abk at h;split at h
 ·cases h;kernel_rfl
 ·cases h)
def FP:List SV→List Entry→Option Out
 | [.one ⟨false,[.ref 0]⟩],[.row false 2 (.int .i64) x0]=>some ⟨.one ⟨false,[.ref 1]⟩,[.row false 2 (.int .i64) x0],[.row true 2 (.int .i64) x0],[leN x0.length 1048576]⟩
 |_,_=>none
def zl:PF prog where
 k:=194
 F:=FP
 ok:=by
  intro args es o h dh mem ρ w hp
  unfold FP at h
  split at h
  ·rename_i x0
   cases h
   have hl:=dh _ (List.mem_singleton.2 rfl)
   cases x0 with
   |nil=>
    exact(ai2 ago agn rfl rfl rfl (fun _ _=>rfl) (by simp) (by simp) hp).mono fun en w' ⟨ρ',h1,h2,h3⟩=>⟨ρ',h1,h2,rfl,(by intro v hv;rw [List.mem_singleton.1 hv];rfl),h3⟩
   |cons x xs=>exact Ov.ok _ _ ⟨_,_,_,[tT (x::xs)]⟩ rfl (fun b hb=>by rw [List.mem_singleton.1 hb];exact ai3 (x::xs) ((Bool.and_eq_true _ _).mpr ⟨em (Nat.succ_pos _),hl⟩)) mem ρ w hp
  ·cases h
theorem akw(xs:List Int)(h:leN xs.length 1048576=true):Qg xs=true:=by
 have h:=ij.1 h
 simp [Qg,allT]
 omega
def WH:List SV→List Entry→Option Out
 | [.one ⟨false,[.ref 0]⟩],[.row false 2 (.int .i64) x0]=>some ⟨.one ⟨false,[.ref 1]⟩,[.row false 2 acT x0],[.row true 2 acT x0],[leN x0.length 1048576]⟩
 |_,_=>none
def mb:PF prog:=PF.alt ad3 WH (by
 intro args es o h dh;unfold WH at h;split at h
 ·rename_i x0
  cases h
  have dh:=qA dh
  have hh:=akw x0 dh
  have en:=hh
  exact vG rfl (qB en) rfl rfl rfl
 ·cases h)
def Dd(x0:Int):Bool:=bif leI (97:Int) x0 then leI x0 (122:Int)else false
def Qu:List SV→List Entry→Option Out
 | [.one ⟨false,[.val (.int .u8 x0)]⟩],[]=>some ⟨.one ⟨false,[.val (.bool (Dd x0))]⟩,[],[],[]⟩
 |_,_=>none
def LL:PF prog:=PF.ofG prog [] [] aP 277 f277 func277 (fun c _=>LOk.nil c) Qu (by
 intro vs es r h;unfold Qu at h;split at h
 ·cases h;kernel_rfl
 ·cases h)
def Nb(x0:Int):Bool:=bif leI (48:Int) x0 then leI x0 (57:Int)else false
def Se:List SV→List Entry→Option Out
 | [.one ⟨false,[.val (.int .u8 x0)]⟩],[]=>some ⟨.one ⟨false,[.val (.bool (Nb x0))]⟩,[],[],[]⟩
 |_,_=>none
def ab9:PF prog:=PF.ofG prog [] [] aP 280 f280 func280 (fun c _=>LOk.nil c) Se (by
 intro vs es r h;unfold Se at h;split at h
 ·cases h;kernel_rfl
 ·cases h)
def Iy(x0:Int):Bool:=bif bif Dd x0 then true else Nb x0 then true else x0==(95:Int)
def Sf:List SV→List Entry→Option Out
 | [.one ⟨false,[.val (.int .u8 x0)]⟩],[]=>some ⟨.one ⟨false,[.val (.bool (Iy x0))]⟩,[],[],[]⟩
 |_,_=>none
def SC:PF prog:=PF.ofG prog [LL,ab9] [] aP 276 f276 func276 (fun c _=>LOk.nil c) Sf (by
 intro vs es r h;unfold Sf at h;split at h
 ·cases h;kernel_rfl
 ·cases h)
abbrev rq:=Int×ByteArray
section
variable (y0:Int)(y1:ByteArray)
def Bv:Bool:=ltI y0 (↑(ByteArray.size y1):Int)
def Pw:Bool:=leI (0:Int) y0
def KN:Bool:= !Iy (↑(UInt8.toNat (Option.getD y1[Int.toNat y0]? (0:UInt8))):Int)
def Px:Int:=IntKind.wrap .i64 (y0 + (1:Int))
end
def Xt:rq→List (Nat×SV)
 |(y0,y1)=> [(3,(.one ⟨false,[.val (.int .i64 y0)]⟩)),(0,(.one ⟨false,[.val (.string y1)]⟩))]
def Xj:rq→List (Nat×Entry)
 |(_,_)=> []
def XP:Nat→rq→List (Nat×SV)
 |0,(_,_)=> [(2,(.one ⟨false,[.val (.bool false)]⟩))]
 |_,(_,_)=> []
def XD:Nat→rq→List (Nat×Entry)
 |0,(_,_)=> []
 |_,(_,_)=> []
def zh:rq→LT rq
 |(y0,y1)=> .ite (Bv y0 y1) (.need [Pw y0,Bv y0 y1] (.ite (KN y0 y1) (.ext 0 []) (.nrm ((Px y0),y1) []))) (.ext 1 [])
def Je(s:St):Option rq:=
 (match s.look 3 with
 |some ⟨none,.one ⟨false,[.val (.int .i64 y0)]⟩⟩=>
 (match s.look 0 with
 |some ⟨none,.one ⟨false,[.val (.string y1)]⟩⟩=>
 some (y0,y1)
 |_=>none)
 |_=>none)
def fW:Lp rq where
 h:=⟨[4,5,6,7,10,11,12,13,14,2,8,9,3],[],[],[]⟩
 JL:=Xt
 JE:=Xj
 XL:=XP
 XE:=XD
 q:=fun j=>match j with | 0=> .ret | _=> .exit 0
 tags:= [0,1]
 lt:=zh
 fuel:=fun(y0,y1)=>y0.natAbs + y1.size
 fix:=fun(_,y1) (y0,_)=>(y0,y1)
 σ:= []
 rd:=Je
theorem UL:LoopOk prog (fun k=>Nat.blt k Tryz.f266.ntmps) fW.F (aZ f266 0):=by
 refine Lp.ok (tbl:= [tP,SC,LL]) (lf:= []) aP fW (by kernel_rfl) (LOk.nil _) (fun _=>rfl) (fun j _=>by unfold fW;match j with | 0=>rfl | _ + 1=>rfl) ?_ ?_ ?_ ?_ (fun _=>rfl) ?_
 ·rintro⟨y0,y1⟩;kernel_rfl
 ·rintro⟨y0,y1⟩;kernel_rfl
 ·intro s x h
  have h:Je s=some x:=h
  unfold Je at h
  repeat' split at h
  all_goals cases h
  exact⟨aa (by assumption) rfl (aa (by assumption) rfl (rfl)),rfl⟩
 ·rintro⟨y0,y1⟩;kernel_rfl
 ·rintro⟨y0,y1⟩ z;exact(And.intro (And.intro trivial rfl) trivial)
section
variable (x0:ByteArray)
def Iz:Bool:=Nat.beq ((Lp.res fW ((0:Int),x0)).1) (0:Nat)
def IA:Bool:=br (↑(ByteArray.size x0):Int) (1:Int) (12:Int)
def OI:Bool:=bif Iz x0 then false else bif IA x0 then Dd (↑(UInt8.toNat (Option.getD x0[Int.toNat (0:Int)]? (0:UInt8))):Int)else false
def OJ:Bool:=allT [Lp.fin fW ((0:Int),x0),Iz x0||(!(IA x0&&true)||leI (0:Int) (0:Int)),Iz x0||(!(IA x0&&true)||ltI (0:Int) (↑(ByteArray.size x0):Int))]
end
def Tw:List SV→List Entry→Option Out
 | [.one ⟨false,[.val (.string x0)]⟩],[]=>some ⟨.one ⟨false,[.val (.bool (OI x0))]⟩,[],[],[OJ x0]⟩
 |_,_=>none
def adm:PF prog:=PF.ofG prog [tP,SC,LL] [fW.F] aP 266 f266 func266 (LOk.fnT (l:= [aZ f266 0]) (by kernel_rfl) (.cons UL (.nil _))) Tw (by
 intro vs es r h;unfold Tw at h;split at h
 ·cases h;kernel_rfl
 ·cases h)
def Ji:List ByteArray:=
 [{ data:= #[(112:UInt8),(114:UInt8),(111:UInt8),(103:UInt8),(114:UInt8),(97:UInt8),(109:UInt8)] },
 {data:= #[(105:UInt8),(110:UInt8)] },{ data:= #[(118:UInt8),(97:UInt8),(114:UInt8)] },
 {data:= #[(111:UInt8),(117:UInt8),(116:UInt8)] },{ data:= #[(103:UInt8),(117:UInt8),(97:UInt8),(114:UInt8),(100:UInt8)] },
 {data:= #[(101:UInt8),(110:UInt8),(100:UInt8)] },{ data:= #[(97:UInt8),(110:UInt8),(100:UInt8)] },
 {data:= #[(111:UInt8),(114:UInt8)] },{ data:= #[(110:UInt8),(111:UInt8),(116:UInt8)] },
 {data:= #[(116:UInt8),(114:UInt8),(117:UInt8),(101:UInt8)] },
 {data:= #[(102:UInt8),(97:UInt8),(108:UInt8),(115:UInt8),(101:UInt8)] },{ data:= #[(111:UInt8),(110:UInt8)] },
 {data:= #[(111:UInt8),(102:UInt8),(102:UInt8)] },{ data:= #[(114:UInt8),(105:UInt8),(115:UInt8),(101:UInt8)] },
 {data:= #[(108:UInt8),(97:UInt8),(116:UInt8),(99:UInt8),(104:UInt8)] },
 {data:= #[(99:UInt8),(111:UInt8),(117:UInt8),(110:UInt8),(116:UInt8)] },
 {data:= #[(112:UInt8),(97:UInt8),(105:UInt8),(114:UInt8)] }]
def NM:List SV→List Entry→Option Out
 | [],[]=>some ⟨.one ⟨false,[.ref 0]⟩,[],[.row true 9 aen (Ji)],[]⟩
 |_,_=>none
def Ow:PF prog:=PF.ofG prog [] [] aP 278 f278 func278 (fun c _=>LOk.nil c) NM (by
 intro vs es r h;unfold NM at h;split at h
 ·cases h;kernel_rfl
 ·cases h)
abbrev jA:=Int×ByteArray×List ByteArray
section
variable (y0:Int)(y1:ByteArray)(y2:List ByteArray)
def sX:Bool:=ltI y0 (↑y2.length:Int)
def wk:Bool:=leI (0:Int) y0
def wl:Bool:=ltN y0.toNat y2.length
def wm:Bool:=ByteArray.toList (Option.getD y2[Int.toNat y0]? ByteArray.empty)==ByteArray.toList y1
def wn:Int:=IntKind.wrap .i64 (y0 + (1:Int))
end
def SO:jA→List (Nat×SV)
 |(y0,y1,_)=> [(4,(.one ⟨false,[.val (.int .i64 y0)]⟩)),(3,(.one ⟨false,[.ref 0]⟩)),(0,(.one ⟨false,[.val (.string y1)]⟩))]
def SL:jA→List (Nat×Entry)
 |(_,_,y2)=> [(0,(.row true 9 aen y2))]
def SW:Nat→jA→List (Nat×SV)
 |0,(y0,_,_)=> [(2,(.one ⟨false,[.val (.int .i64 y0)]⟩))]
 |_,(_,_,_)=> []
def SR:Nat→jA→List (Nat×Entry)
 |0,(_,_,y2)=> [(0,(.row true 9 aen y2))]
 |_,(_,_,y2)=> [(0,(.row true 9 aen y2))]
def uL:jA→LT jA
 |(y0,y1,y2)=> .ite (sX y0 y2) (.need [wk y0,sX y0 y2,wl y0 y2] (.ite (wm y0 y1 y2) (.ext 0 [(0,0)]) (.nrm ((wn y0),y1,y2) [(0,0)]))) (.ext 1 [(0,0)])
def ET(s:St):Option jA:=
 (match s.look 4 with
 |some ⟨none,.one ⟨false,[.val (.int .i64 y0)]⟩⟩=>
 (match s.look 3 with
 |some ⟨none,.one ⟨false,[.ref 128]⟩⟩=>
 (match s.look 0 with
 |some ⟨none,.one ⟨false,[.val (.string y1)]⟩⟩=>
 (match s.ent 128 with
 |some (.row true 9 (.str) y2)=>
 some (y0,y1,y2)
 |_=>none)
 |_=>none)
 |_=>none)
 |_=>none)
def cY:Lp jA where
 h:=⟨[6,7,8,9,12,13,14,15,16,17,18,2,10,11,4],[0],[],[]⟩
 JL:=SO
 JE:=SL
 XL:=SW
 XE:=SR
 q:=fun j=>match j with | 0=> .ret | _=> .exit 0
 tags:= [0,1]
 lt:=uL
 fuel:=fun(y0,y1,y2)=>y0.natAbs + y1.size + y2.length
 fix:=fun(_,y1,y2) (y0,_,_)=>(y0,y1,y2)
 σ:= [(0,128)]
 rd:=ET
theorem QM:LoopOk prog (fun k=>Nat.blt k Tryz.f267.ntmps) cY.F (aZ f267 0):=by
 refine Lp.ok (tbl:= [Ow]) (lf:= []) aP cY (by kernel_rfl) (LOk.nil _) (fun _=>rfl) (fun j _=>by unfold cY;match j with | 0=>rfl | _ + 1=>rfl) ?_ ?_ ?_ ?_ (fun _=>rfl) ?_
 ·rintro⟨y0,y1,y2⟩;kernel_rfl
 ·rintro⟨y0,y1,y2⟩;kernel_rfl
 ·intro s x h
  have h:ET s=some x:=h
  unfold ET at h
  repeat' split at h
  all_goals cases h
  exact⟨aa (by assumption) rfl (aa (by assumption) rfl (aa (by assumption) rfl (rfl))),ab rfl (by assumption) rfl (rfl)⟩
 ·rintro⟨y0,y1,y2⟩;kernel_rfl
 ·rintro⟨y0,y1,y2⟩ z;exact(And.intro (And.intro trivial rfl) trivial)
section
variable (x0:ByteArray)
def DT:Int×ByteArray×List ByteArray:=((0:Int),x0,Ji)
def Fu:Int:=bif Nat.beq ((Lp.res cY (DT x0)).1) (0:Nat)then ((Lp.res cY (DT x0)).2).1else(-1:Int)
def Fv:Bool:=allT [Lp.fin cY (DT x0)]
end
def Pg:List SV→List Entry→Option Out
 | [.one ⟨false,[.val (.string x0)]⟩],[]=>some ⟨.one ⟨false,[.val (.int .i64 (Fu x0))]⟩,[],[],[Fv x0]⟩
 |_,_=>none
def ZR:PF prog:=PF.ofG prog [Ow] [cY.F] aP 267 f267 func267 (LOk.fnT (l:= [aZ f267 0]) (by kernel_rfl) (.cons QM (.nil _))) Pg (by
 intro vs es r h;unfold Pg at h;split at h
 ·cases h;kernel_rfl
 ·cases h)
def tG(x0:ByteArray)(x1:Int):Int:=ibs x0 x1
def Aw:List SV→List Entry→Option Out
 | [.one ⟨false,[.val (.string x0)]⟩,.one ⟨false,[.val (.int .u8 x1)]⟩],[]=>some ⟨.one ⟨false,[.val (.int .i64 (tG x0 x1))]⟩,[],[],[]⟩
 |_,_=>none
def KB:PF prog:=PF.ofG prog [] [] aP 279 f279 func279 (fun c _=>LOk.nil c) Aw (by
 intro vs es r h;unfold Aw at h;split at h
 ·cases h;kernel_rfl
 ·cases h)
def Ct(x0:ByteArray)(x1:Int):Int:=tG x0 x1
def Nq:List SV→List Entry→Option Out
 | [.one ⟨false,[.val (.string x0)]⟩,.one ⟨false,[.val (.int .u8 x1)]⟩],[]=>some ⟨.one ⟨false,[.val (.int .i64 (Ct x0 x1))]⟩,[],[],[]⟩
 |_,_=>none
def Ht:PF prog:=PF.ofG prog [KB] [] aP 273 f273 func273 (fun c _=>LOk.nil c) Nq (by
 intro vs es r h;unfold Nq at h;split at h
 ·cases h;kernel_rfl
 ·cases h)
abbrev yp:=Int×Int×ByteArray×ByteArray
section
variable (y0 y1:Int)(y2 y3:ByteArray)
def vR:Bool:=ltI (IntKind.wrap .i64 (y0 + y1)) (↑(ByteArray.size y2):Int)
def PX:Bool:= !(vR y0 y1 y2&&true)||leI (0:Int) (IntKind.wrap .i64 (y0 + y1))
def PY:Bool:= !(vR y0 y1 y2&&true)||vR y0 y1 y2
def Mc:Bool:=bif vR y0 y1 y2 then leI (0:Int) (Ct y3 (↑(UInt8.toNat (Option.getD y2[Int.toNat (IntKind.wrap .i64 (y0 + y1))]? (0:UInt8))):Int))else false
def WN:Int:=IntKind.wrap .i64 (y1 + (1:Int))
end
def acs:yp→List (Nat×SV)
 |(y0,y1,y2,y3)=> [(1,(.one ⟨false,[.val (.int .i64 y0)]⟩)),(7,(.one ⟨false,[.val (.int .i64 y1)]⟩)),(0,(.one ⟨false,[.val (.string y2)]⟩)),(2,(.one ⟨false,[.val (.string y3)]⟩))]
def acr:yp→List (Nat×Entry)
 |(_,_,_,_)=> []
def acw:Nat→yp→List (Nat×SV)
 |_,(_,y1,_,_)=> [(7,(.one ⟨false,[.val (.int .i64 y1)]⟩))]
def acv:Nat→yp→List (Nat×Entry)
 |_,(_,_,_,_)=> []
def Gi:yp→LT yp
 |(y0,y1,y2,y3)=> .need [PX y0 y1 y2,PY y0 y1 y2] (.ite (Mc y0 y1 y2 y3) (.nrm (y0,WN y1,y2,y3) []) (.ext 0 []))
def OC(s:St):Option yp:=
 (match s.look 1 with
 |some ⟨none,.one ⟨false,[.val (.int .i64 y0)]⟩⟩=>
 (match s.look 7 with
 |some ⟨none,.one ⟨false,[.val (.int .i64 y1)]⟩⟩=>
 (match s.look 0 with
 |some ⟨none,.one ⟨false,[.val (.string y2)]⟩⟩=>
 (match s.look 2 with
 |some ⟨none,.one ⟨false,[.val (.string y3)]⟩⟩=>
 some (y0,y1,y2,y3)
 |_=>none)
 |_=>none)
 |_=>none)
 |_=>none)
def ju:Lp yp where
 h:=⟨[8,9,10,11,12,13,14,15,16,17,18,19,20,21,22,23,24,25,7],[],[],[]⟩
 JL:=acs
 JE:=acr
 XL:=acw
 XE:=acv
 q:=fun j=>match j with | _=> .exit 0
 tags:= [0]
 lt:=Gi
 fuel:=fun(y0,y1,y2,y3)=>y0.natAbs + y1.natAbs + y2.size + y3.size
 fix:=fun(y0,_,y2,y3) (_,y1,_,_)=>(y0,y1,y2,y3)
 σ:= []
 rd:=OC
theorem aaL:LoopOk prog (fun k=>Nat.blt k Tryz.f274.ntmps) ju.F (aZ f274 0):=by
 refine Lp.ok (tbl:= [Ht]) (lf:= []) aP ju (by kernel_rfl) (LOk.nil _) (fun _=>rfl) (fun _ _=>rfl) ?_ ?_ ?_ ?_ (fun _=>rfl) ?_
 ·rintro⟨y0,y1,y2,y3⟩;kernel_rfl
 ·rintro⟨y0,y1,y2,y3⟩;kernel_rfl
 ·intro s x h
  have h:OC s=some x:=h
  unfold OC at h
  repeat' split at h
  all_goals cases h
  exact⟨aa (by assumption) rfl (aa (by assumption) rfl (aa (by assumption) rfl (aa (by assumption) rfl (rfl)))),rfl⟩
 ·rintro⟨y0,y1,y2,y3⟩;kernel_rfl
 ·rintro⟨y0,y1,y2,y3⟩ z;exact(And.intro rfl trivial)
section
variable (x0:ByteArray)(x1:Int)(x2:ByteArray)
def abt:Int×Int×ByteArray×ByteArray:=(x1,(0:Int),x0,x2)
def acW:Int:=((Lp.res ju (abt x0 x1 x2)).2.2).1
def acX:Bool:=allT [Lp.fin ju (abt x0 x1 x2)]
end
def acq:List SV→List Entry→Option Out
 | [.one ⟨false,[.val (.string x0)]⟩,.one ⟨false,[.val (.int .i64 x1)]⟩,.one ⟨false,[.val (.string x2)]⟩],[]=>some ⟨.one ⟨false,[.val (.int .i64 (acW x0 x1 x2))]⟩,[],[],[acX x0 x1 x2]⟩
 |_,_=>none
def ahw:PF prog:=PF.ofG prog [Ht] [ju.F] aP 274 f274 func274 (LOk.fnT (l:= [aZ f274 0]) (by kernel_rfl) (.cons aaL (.nil _))) acq (by
 intro vs es r h;unfold acq at h;split at h
 ·cases h;kernel_rfl
 ·cases h)
def vQ(x0:ByteArray):Bool:=rK (↑(ByteArray.size x0):Int) (1:Int) (12:Int)
def CO(x0:ByteArray):Bool:=
 bif vQ x0 then
 leI (0:Int)
  (Ct
   {
    data:=
     #[(97:UInt8),(98:UInt8),(99:UInt8),(100:UInt8),(101:UInt8),(102:UInt8),(103:UInt8),(104:UInt8),(105:UInt8),
      (106:UInt8),(107:UInt8),(108:UInt8),(109:UInt8),(110:UInt8),(111:UInt8),(112:UInt8),(113:UInt8),(114:UInt8),
      (115:UInt8),(116:UInt8),(117:UInt8),(118:UInt8),(119:UInt8),(120:UInt8),(121:UInt8),(122:UInt8)] }
   (↑(UInt8.toNat (Option.getD x0[Int.toNat (0:Int)]? (0:UInt8))):Int))
 else false
def PV(x0:ByteArray):Bool:=
 bif CO x0 then
 acW x0 (0:Int)
   {
    data:=
     #[(97:UInt8),(98:UInt8),(99:UInt8),(100:UInt8),(101:UInt8),(102:UInt8),(103:UInt8),(104:UInt8),(105:UInt8),
      (106:UInt8),(107:UInt8),(108:UInt8),(109:UInt8),(110:UInt8),(111:UInt8),(112:UInt8),(113:UInt8),(114:UInt8),
      (115:UInt8),(116:UInt8),(117:UInt8),(118:UInt8),(119:UInt8),(120:UInt8),(121:UInt8),(122:UInt8),(48:UInt8),
      (49:UInt8),(50:UInt8),(51:UInt8),(52:UInt8),(53:UInt8),(54:UInt8),(55:UInt8),(56:UInt8),(57:UInt8),
      (95:UInt8)] } ==
  (↑(ByteArray.size x0):Int)
 else false
def PW(x0:ByteArray):Bool:=
 allT
 [!(vQ x0&&true)||leI (0:Int) (0:Int),!(vQ x0&&true)||ltI (0:Int) (↑(ByteArray.size x0):Int),
  !(CO x0&&true)||
   acX x0 (0:Int)
    {
     data:=
      #[(97:UInt8),(98:UInt8),(99:UInt8),(100:UInt8),(101:UInt8),(102:UInt8),(103:UInt8),(104:UInt8),(105:UInt8),
       (106:UInt8),(107:UInt8),(108:UInt8),(109:UInt8),(110:UInt8),(111:UInt8),(112:UInt8),(113:UInt8),(114:UInt8),
       (115:UInt8),(116:UInt8),(117:UInt8),(118:UInt8),(119:UInt8),(120:UInt8),(121:UInt8),(122:UInt8),(48:UInt8),
       (49:UInt8),(50:UInt8),(51:UInt8),(52:UInt8),(53:UInt8),(54:UInt8),(55:UInt8),(56:UInt8),(57:UInt8),
       (95:UInt8)] }]
def Wt:List SV→List Entry→Option Out
 | [.one ⟨false,[.val (.string x0)]⟩],[]=>some ⟨.one ⟨false,[.val (.bool (PV x0))]⟩,[],[],[PW x0]⟩
 |_,_=>none
def ad2:PF prog:=PF.ofG prog [Qf,Ht,ahw] [] aP 257 f257 func257 (fun c _=>LOk.nil c) Wt (by
 intro vs es r h;unfold Wt at h;split at h
 ·cases h;kernel_rfl
 ·cases h)
abbrev cK:=Int×Int×ByteArray×List ByteArray
section
variable (y0 y1:Int)(y2:ByteArray)(y3:List ByteArray)
def my:Bool:=ltI y0 y1
def mz:Bool:=leI (0:Int) y0
def mA:Bool:=ltI y0 (↑y3.length:Int)
def mB:Bool:=ltN y0.toNat y3.length
def mC:Bool:=ByteArray.toList y2==ByteArray.toList (Option.getD y3[Int.toNat y0]? ByteArray.empty)
def mD:Int:=IntKind.wrap .i64 (y0 + (1:Int))
end
def Kg:cK→List (Nat×SV)
 |(y0,y1,y2,_)=> [(8,(.one ⟨false,[.val (.int .i64 y0)]⟩)),(7,(.one ⟨false,[.val (.int .i64 y1)]⟩)),(1,(.one ⟨false,[.val (.string y2)]⟩)),(0,(.one ⟨false,[.ref 0]⟩))]
def Kf:cK→List (Nat×Entry)
 |(_,_,_,y3)=> [(0,(.row false 9 aen y3))]
def Ki:Nat→cK→List (Nat×SV)
 |0,(y0,_,_,_)=> [(4,(.one ⟨false,[.val (.int .i64 y0)]⟩))]
 |_,(_,_,_,_)=> []
def Kh:Nat→cK→List (Nat×Entry)
 |0,(_,_,_,y3)=> [(0,(.row false 9 aen y3))]
 |_,(_,_,_,y3)=> [(0,(.row false 9 aen y3))]
def lA:cK→LT cK
 |(y0,y1,y2,y3)=> .ite (my y0 y1) (.need [mz y0,mA y0 y3,mB y0 y3] (.ite (mC y0 y2 y3) (.ext 0 [(0,0)]) (.nrm ((mD y0),y1,y2,y3) [(0,0)]))) (.ext 1 [(0,0)])
def tS(s:St):Option cK:=
 (match s.look 8 with
 |some ⟨none,.one ⟨false,[.val (.int .i64 y0)]⟩⟩=>
 (match s.look 7 with
 |some ⟨none,.one ⟨false,[.val (.int .i64 y1)]⟩⟩=>
 (match s.look 1 with
 |some ⟨none,.one ⟨false,[.val (.string y2)]⟩⟩=>
 (match s.look 0 with
 |some ⟨none,.one ⟨false,[.ref 0]⟩⟩=>
 (match s.ent 0 with
 |some (.row false 9 (.str) y3)=>
 some (y0,y1,y2,y3)
 |_=>none)
 |_=>none)
 |_=>none)
 |_=>none)
 |_=>none)
def aN:Lp cK where
 h:=⟨[9,10,5,11,12,13,14,15,16,17,4,18,8],[0],[],[]⟩
 JL:=Kg
 JE:=Kf
 XL:=Ki
 XE:=Kh
 q:=fun j=>match j with | 0=> .ret | _=> .exit 0
 tags:= [0,1]
 lt:=lA
 fuel:=fun(y0,y1,y2,y3)=>y0.natAbs + y1.natAbs + y2.size + y3.length
 fix:=fun(_,y1,y2,y3) (y0,_,_,_)=>(y0,y1,y2,y3)
 σ:= [(0,0)]
 rd:=tS
theorem IM:LoopOk prog (fun k=>Nat.blt k Tryz.f120.ntmps) aN.F (aZ f120 0):=by
 refine Lp.ok (tbl:= []) (lf:= []) aP aN (by kernel_rfl) (LOk.nil _) (fun _=>rfl) (fun j _=>by unfold aN;match j with | 0=>rfl | _ + 1=>rfl) ?_ ?_ ?_ ?_ (fun _=>rfl) ?_
 ·rintro⟨y0,y1,y2,y3⟩;kernel_rfl
 ·rintro⟨y0,y1,y2,y3⟩;kernel_rfl
 ·intro s x h
  have h:tS s=some x:=h
  unfold tS at h
  repeat' split at h
  all_goals cases h
  exact⟨aa (by assumption) rfl (aa (by assumption) rfl (aa (by assumption) rfl (aa (by assumption) rfl (rfl)))),ab rfl (by assumption) rfl (rfl)⟩
 ·rintro⟨y0,y1,y2,y3⟩;kernel_rfl
 ·rintro⟨y0,y1,y2,y3⟩ z;exact(And.intro (And.intro trivial rfl) trivial)
section
variable (x0:ByteArray)(x1:List ByteArray)
def nO:Int×Int×ByteArray×List ByteArray:=((0:Int),(↑x1.length:Int),x0,x1)
def oB:Int:=bif Nat.beq ((Lp.res aN (nO x0 x1)).1) (0:Nat)then ((Lp.res aN (nO x0 x1)).2).1else(-1:Int)
def oC:Bool:=allT [Lp.fin aN (nO x0 x1)]
end
def Ef:List SV→List Entry→Option Out
 | [.one ⟨false,[.ref 0]⟩,.one ⟨false,[.val (.string x0)]⟩],[.row false 9 (.str) x1]=>some ⟨.one ⟨false,[.val (.int .i64 (oB x0 x1))]⟩,[.row false 9 aen x1],[],[oC x0 x1]⟩
 |_,_=>none
def rT:PF prog:=PF.ofG prog [] [aN.F] aP 120 f120 func120 (LOk.fnT (l:= [aZ f120 0]) (by kernel_rfl) (.cons IM (.nil _))) Ef (by
 intro vs es r h;unfold Ef at h;split at h
 ·cases h;kernel_rfl
 ·cases h)
def gF(x0:ByteArray)(x1:List ByteArray):Bool:=leI (0:Int) (oB x0 x1)
def jw(x0:ByteArray)(x1:List ByteArray):Bool:=allT [oC x0 x1]
def BW:List SV→List Entry→Option Out
 | [.one ⟨false,[.ref 0]⟩,.one ⟨false,[.val (.string x0)]⟩],[.row false 9 (.str) x1]=>some ⟨.one ⟨false,[.val (.bool (gF x0 x1))]⟩,[.row false 9 aen x1],[],[jw x0 x1]⟩
 |_,_=>none
def cL:PF prog:=PF.ofG prog [rT,PF.lend rT,PF.fz rT] [] aP 234 f234 func234 (fun c _=>LOk.nil c) BW (by
 intro vs es r h;unfold BW at h;split at h
 ·cases h;kernel_rfl
 ·cases h)
def Lu(x0:ByteArray):Bool:=gF x0 (List.drop (Int.toNat (0:Int)) (List.take (Int.toNat (↑(List.length Vd):Int)) Vd))
def Lv(x0:ByteArray):Bool:=allT [jw x0 (List.drop (Int.toNat (0:Int)) (List.take (Int.toNat (↑(List.length Vd):Int)) Vd))]
def Qi:List SV→List Entry→Option Out
 | [.one ⟨false,[.val (.string x0)]⟩],[]=>some ⟨.one ⟨false,[.val (.bool (Lu x0))]⟩,[],[],[Lv x0]⟩
 |_,_=>none
def aaX:PF prog:=PF.ofG prog [cL,PF.lend cL,PF.fz cL] [] aP 258 f258 func258 (fun c _=>LOk.nil c) Qi (by
 intro vs es r h;unfold Qi at h;split at h
 ·cases h;kernel_rfl
 ·cases h)
theorem Lp.scan{X:Type}(p:Lp X)(st:Nat→X)(N:Nat)(P:Nat→Bool)(e:Nat)(hN:N≤p.fuel (st 0))
  (hs: ∀ b,b < N→(p.lt (st b)).nds=true∧(p.lt (st b)).each (fun y=>y=st (b + 1))∧(p.lt (st b)).fn (fun _=>())=(bif P b then .inl 0 else .inr ()))
  (he:(p.lt (st N)).out=some (.inl e)):p.fin (st 0)=true∧(p.res (st 0)).1=bif(List.range N).any P then 0 else e:=by
 have kw:=p.along (fun i (_:Unit)=>st i) (fun _=>()) (fun(b:Nat) (_:Unit)=>bif P b then .inl 0 else .inr ()) e (fun _ _=>True) (List.range N) () trivial (by rw [List.length_range];exact hN)
  (fun i b a hb _=>by
   obtain⟨rfl,fy⟩:=ul hb
   obtain⟨h1,h2,h3⟩:=hs b fy
   exact⟨h1,h2,h3,fun _ _=>trivial⟩) (fun a _=>by rw [List.length_range];exact he)
 rw [gJ (P:=P) (j:=0) (fun b=>rfl)]at kw
 exact⟨kw.1,by rw [kw.2]⟩
def bAt(s:ByteArray)(b:Nat):Int:=((s[b]?.getD 0).toNat:Int)
def agd(c:Int):Bool:=inR c 97 122
def Ta(c:Int):Bool:=agd c||(inR c 48 57||c==95)
def Ny(s:ByteArray):Bool:=inR (s.size:Int) 1 12&&(agd (bAt s 0)&&(List.range s.size).all fun b=>Ta (bAt s b))
def ahq(s:ByteArray):Bool:=Vd.any fun k=>k.toList==s.toList
def lN(s:ByteArray):Bool:=Ny s&& !ahq s
def akf:ByteArray:=⟨#[97,98,99,100,101,102,103,104,105,106,107,108,109,110,111,112,113,114,115,116,117,118,119,120,121,122]⟩
def wbS:ByteArray:=⟨#[97,98,99,100,101,102,103,104,105,106,107,108,109,110,111,112,113,114,115,116,117,118,119,120,121,122,48,49,50,51,52,53,54,55,56,57,95]⟩
theorem ajE: ∀ n:Nat,n < 256→leI 0 (ibs akf (n:Int))=agd (n:Int):=by decide +kernel
theorem akD: ∀ n:Nat,n < 256→leI 0 (ibs wbS (n:Int))=Ta (n:Int):=by decide +kernel
theorem akg(s:ByteArray)(b:Nat):leI 0 (ibs akf (bAt s b))=agd (bAt s b):=ajE _ (UInt8.toNat_lt _)
theorem akR(s:ByteArray)(b:Nat):leI 0 (ibs wbS (bAt s b))=Ta (bAt s b):=akD _ (UInt8.toNat_lt _)
theorem aiQ(c:Int):Iy c=Ta c:=by
 simp only [Iy,Dd,Nb,Rx,Ta,agd]
 cases inR c 97 122 <;> cases inR c 48 57 <;> rfl
theorem ah0(s:ByteArray)(hn:s.size≤9223372036854775807):
  fW.fin ((0:Int),s)=true∧(fW.res ((0:Int),s)).1=bif(List.range s.size).any (fun b=> !Ta (bAt s b))then 0 else 1:=by
 refine Lp.scan fW (fun b=>((b:Int),s)) s.size (fun b=> !Ta (bAt s b)) 1 (by simp only [fW];omega) (fun b hb=> ?_) ?_
 ·have cM:ltI (b:Int) (s.size:Int)=true:=gg (by omega)
  have hw:IntKind.i64.wrap ((b:Int) + 1)=((b + 1:Nat):Int):=by rw [cg (by omega) (by omega)];omega
  have xj:leI (0:Int) (b:Int)=true:=cW (by omega)
  have i2:KN (b:Int) s= !Ta (bAt s b):=by simp only [KN,aiQ,Int.toNat_natCast,bAt]
  refine⟨?_,?_,?_⟩
  ·simp [fW,zh,LT.nds,allT,Bv,Pw,cM,xj]
  ·simp [fW,zh,LT.each,Px,hw]
  ·simp only [fW,zh,LT.fn,Bv,cM,i2,cond_true]
 ·simp [fW,zh,LT.out,Bv]
theorem agJ(s:ByteArray)(h:leN s.size 9223372036854775807=true):OI s=Ny s∧OJ s=true:=by
 obtain⟨w1,w2⟩:=ah0 s (ij.1 h)
 have e5:((List.range s.size).any fun b=> !Ta (bAt s b))= !(List.range s.size).all fun b=>Ta (bAt s b):=by simp [List.all_eq_not_any_not]
 rw [e5]at w2
 have eb:((UInt8.toNat (Option.getD s[Int.toNat (0:Int)]? (0:UInt8)):Nat):Int)=bAt s 0:=rfl
 have h0:leI 0 0=true:=rfl
 simp only [OI,OJ,Iz,IA,w1,w2,eb,h0,Dd,br,Rx,Ny,agd,allT,Bool.or_true,cond_true]
 cases hr:inR (s.size:Int) 1 12 with
 |false=>cases (List.range s.size).all fun b=>Ta (bAt s b) <;> simp [Nat.beq]
 |true=>
  have:=DP.1 hr
  rw [gg (by omega)]
  cases inR (bAt s 0) 97 122 <;> cases (List.range s.size).all fun b=>Ta (bAt s b) <;> simp [Nat.beq]
theorem akQ(s:ByteArray)(hn:s.size≤9223372036854775806):
  ju.fin ((0:Int),(0:Int),s,wbS)=true∧((ju.res ((0:Int),(0:Int),s,wbS)).2.2.1==(s.size:Int))=(List.range s.size).all fun b=>Ta (bAt s b):=by
 have hz: ∀ i:Nat,i≤s.size→IntKind.i64.wrap ((0:Int) + (i:Int))=(i:Int):=fun i hi=>by rw [cg (by omega) (by omega)];omega
 have kw:=ju.along (fun i (_:Unit)=>((0:Int),(i:Int),s,wbS)) (fun _=>()) (fun(b:Nat) (_:Unit)=>bif !Ta (bAt s b)then .inl 0 else .inr ()) 0 (fun _ _=>True) (List.range s.size) () trivial (by simp only [ju,List.length_range];omega)
  (fun i b a hb _=>by
   obtain⟨rfl,fy⟩:=ul hb
   have cM:ltI (b:Int) (s.size:Int)=true:=gg (by omega)
   have xj:leI (0:Int) (b:Int)=true:=cW (by omega)
   have hw:IntKind.i64.wrap ((b:Int) + 1)=((b + 1:Nat):Int):=by rw [cg (by omega) (by omega)];omega
   have ha:vR 0 (b:Int) s=true:=by simp only [vR,hz b (by omega),cM]
   have hb2:Mc 0 (b:Int) s wbS=Ta (bAt s b):=by
    simp only [Mc,ha,cond_true,hz b (by omega),Int.toNat_natCast,Ct,tG]
    exact akR s b
   refine⟨?_,?_,?_,fun _ _=>trivial⟩
   ·have hz2:=hz b (by omega)
    rw [Int.zero_add]at hz2
    simp [ju,Gi,LT.nds,allT,PX,PY,ha,hz2]
   ·simp [ju,Gi,LT.each,WN,hw]
   ·simp only [ju,Gi,LT.fn,hb2]
    cases Ta (bAt s b) <;> rfl)
  (fun a _=>by
   have cM:ltI (s.size:Int) (s.size:Int)=false:=by simp
   have ha:vR 0 (s.size:Int) s=false:=by simp only [vR,hz s.size (by omega),cM]
   rw [List.length_range]
   simp [ju,Gi,LT.out,Mc,PX,PY,allT,ha])
 rw [gJ (P:=fun b=> !Ta (bAt s b)) (j:=0) (fun b=>rfl)]at kw
 refine⟨kw.1,?_⟩
 have k2:ju.res ((0:Int),(0:Int),s,wbS)=_:=kw.2
 rw [k2]
 simp only [Nat.zero_add]
 rw [Bool.eq_iff_iff,beq_iff_eq,List.all_eq_true]
 have hl: ∀ (l:List Nat) (P:Nat→Bool),(l.takeWhile P).length=l.length↔ ∀ x∈l,P x=true:=by
  intro l P
  induction l with
  |nil=>simp
  |cons a r ih=>
   rw [List.takeWhile_cons]
   cases h:P a with
   |false=>simp [h]
   |true=>simp [h,ih]
 have h2:=hl (List.range s.size) (fun b=> !!Ta (bAt s b))
 rw [List.length_range]at h2
 constructor
 ·intro h x hx;have:=h2.1 (by exact_mod_cast h) x hx;simpa using this
 ·intro h;exact_mod_cast h2.2 (fun x hx=>by simpa using h x hx)
theorem af9(s:ByteArray):PV s=Ny s∧PW s=true:=by
 have eb:((UInt8.toNat (Option.getD s[Int.toNat (0:Int)]? (0:UInt8)):Nat):Int)=bAt s 0:=rfl
 have e0:vQ s=inR (s.size:Int) 1 12:=by simp only [vQ,rK,Rx]
 have e1:CO s=(inR (s.size:Int) 1 12&&agd (bAt s 0)):=by
  have:CO s=bif vQ s then leI 0 (ibs akf (bAt s 0))else false:=rfl
  rw [this,e0,akg]
  cases inR (s.size:Int) 1 12 <;> rfl
 have e2:PV s=bif CO s then(ju.res ((0:Int),(0:Int),s,wbS)).2.2.1==(s.size:Int)else false:=rfl
 have e3:PW s=allT [!(vQ s&&true)||leI (0) (0),!(vQ s&&true)||ltI (0) (↑(ByteArray.size s)),!(CO s&&true)||allT [ju.fin ((0:Int),(0:Int),s,wbS)]]:=rfl
 have h0:leI 0 0=true:=rfl
 rw [e2,e3,e1,e0,h0]
 cases hr:inR (s.size:Int) 1 12 with
 |false=>simp [Ny,hr,allT]
 |true=>
  have:=DP.1 hr
  obtain⟨w1,w2⟩:=akQ s (by omega)
  rw [w1,w2,gg (by omega)]
  simp only [Ny,hr,allT,Bool.true_and,Bool.and_true,Bool.or_true,cond_true]
  cases agd (bAt s 0) <;> simp
def vP(y1 b:ByteArray):(Unit)→Nat ⊕ (Unit)
 |_=>(bif(ByteArray.toList (b)==ByteArray.toList y1)then(.inl 0)else(.inr ()))
def mI(y1:ByteArray)(y2:List ByteArray)(i:Nat):(Unit)→jA
 |_=>((i:Int),y1,y2)
def ER:jA→Unit
 |(_,_,_)=>()
theorem Ve(y1:ByteArray)(y2:List ByteArray) (hn:y2.length≤9223372036854775807):
  cY.fin ((0:Int),y1,y2)=true∧cY.res ((0:Int),y1,y2)=((aC (vP y1) 1 y2 0 ()).1,(mI y1 y2) (aC (vP y1) 1 y2 0 ()).2.1 (aC (vP y1) 1 y2 0 ()).2.2):=by
 have kw:=cY.along (mI y1 y2) ER (vP y1) 1 (fun _ _=>True) y2 () (by trivial) (by simp only [cY,mI];omega) (fun i b a hb hI=> ?_) (fun a hI=> ?_)
 ·exact kw
 ·obtain⟨⟩:=a
  have fy:=(List.getElem?_eq_some_iff.1 hb).1
  have jx: ∀ d,Option.getD y2[i]? d=b:=fun d=>by rw [hb];rfl
  have hw:=uF fy hn
  have cM:ltI (i:Int) (y2.length:Int)=true:=gg (by omega)
  have xj:leI (0:Int) (i:Int)=true:=cW (by omega)
  have jC:ltN i y2.length=true:=iF fy
  refine⟨?_,?_,?_,?_⟩
  ·simp [sX,wk,wl,wm,wn,uL,cY,LT.nds,allT,mI,cM,xj,jC,jx]
  ·simp [sX,wk,wl,wm,wn,uL,cY,LT.each,mI,ER,hw]
  ·simp only [sX,wk,wl,wm,wn,uL,cY,LT.fn,mI,ER,vP,Int.toNat_natCast,cM,xj,jC,jx,cond_true,Bool.cond_self]
  ·exact fun _ _=>trivial
 ·obtain⟨⟩:=a
  simp [sX,wk,wl,wm,wn,uL,cY,LT.out,mI]
def mw(y2 b:ByteArray):(Unit)→Nat ⊕ (Unit)
 |_=>(bif(ByteArray.toList y2==ByteArray.toList b)then(.inl 0)else(.inr ()))
def dd(y2:ByteArray)(y3:List ByteArray)(i:Nat):(Unit)→cK
 |_=>((i:Int),(↑y3.length:Int),y2,y3)
def tR:cK→Unit
 |(_,_,_,_)=>()
theorem Ca(y2:ByteArray)(y3:List ByteArray) (hn:y3.length≤9223372036854775807):
  aN.fin ((0:Int),(↑y3.length:Int),y2,y3)=true∧aN.res ((0:Int),(↑y3.length:Int),y2,y3)=((aC (mw y2) 1 y3 0 ()).1,(dd y2 y3) (aC (mw y2) 1 y3 0 ()).2.1 (aC (mw y2) 1 y3 0 ()).2.2):=by
 have kw:=aN.along (dd y2 y3) tR (mw y2) 1 (fun _ _=>True) y3 () (by trivial) (by simp only [aN,dd];omega) (fun i b a hb hI=> ?_) (fun a hI=> ?_)
 ·exact kw
 ·obtain⟨⟩:=a
  have fy:=(List.getElem?_eq_some_iff.1 hb).1
  have jx: ∀ d,Option.getD y3[i]? d=b:=fun d=>by rw [hb];rfl
  have hw:=uF fy hn
  have cM:ltI (i:Int) (y3.length:Int)=true:=gg (by omega)
  have xj:leI (0:Int) (i:Int)=true:=cW (by omega)
  have jC:ltN i y3.length=true:=iF fy
  refine⟨?_,?_,?_,?_⟩
  ·simp [my,mz,mA,mB,mC,mD,lA,aN,LT.nds,allT,dd,cM,xj,jC,jx]
  ·simp [my,mz,mA,mB,mC,mD,lA,aN,LT.each,dd,tR,hw]
  ·simp only [my,mz,mA,mB,mC,mD,lA,aN,LT.fn,dd,tR,mw,Int.toNat_natCast,cM,xj,jC,jx,cond_true,Bool.cond_self]
  ·exact fun _ _=>trivial
 ·obtain⟨⟩:=a
  simp [my,mz,mA,mB,mC,mD,lA,aN,LT.out,dd]
theorem akc:Vd.length≤9223372036854775807:=by decide
theorem adw(s:ByteArray):ltI (Fu s) 0= !ahq s∧Fv s=true:=by
 have e0:Ji=Vd:=rfl
 obtain⟨w1,w2⟩:=Ve s Vd akc
 rw [gJ (P:=fun k=>k.toList==s.toList) (j:=0) (fun k=>rfl)]at w2
 simp only [Fu,Fv,DT,e0,w1,w2,allT,ahq,mI]
 cases Vd.any fun k=>k.toList==s.toList with
 |false=>exact⟨rfl,rfl⟩
 |true=>
  simp only [cond_true,Nat.beq]
  refine⟨?_,trivial⟩
  exact wZ.2 (by omega)
theorem ahm(s:ByteArray):Lu s=ahq s∧Lv s=true:=by
 have e0:List.drop (Int.toNat (0)) (List.take (Int.toNat (↑(List.length Vd))) Vd)=Vd:=rfl
 obtain⟨w1,w2⟩:=Ca s Vd akc
 rw [gJ (P:=fun k=>s.toList==k.toList) (j:=0) (fun k=>rfl)]at w2
 have e1:(fun k:ByteArray=>s.toList==k.toList)=fun k=>k.toList==s.toList:=funext fun k=>BEq.comm
 rw [e1]at w2
 simp only [Lu,Lv,e0,gF,jw,oB,oC,nO,w1,w2,allT,ahq,dd]
 cases Vd.any fun k=>k.toList==s.toList with
 |false=>exact⟨rfl,rfl⟩
 |true=>
  simp only [cond_true,Nat.beq]
  rw [cW (by omega)];simp
def TZ:List SV→List Entry→Option Out
 | [.one ⟨false,[.val (.string x0)]⟩],[]=>some ⟨.one ⟨false,[.val (.bool (Ny x0))]⟩,[],[],[leN x0.size 9223372036854775807]⟩
 |_,_=>none
def ac9:PF prog:=PF.alt adm TZ (by
 intro args es o h dh;unfold TZ at h;split at h
 ·rename_i x0
  cases h
  have dh:=qA dh
  have hh:=agJ x0 dh
  obtain⟨e0,en⟩:=hh
  exact vG rfl (qB en) (by simp only [e0] <;> rfl) rfl rfl
 ·cases h)
def WG:List SV→List Entry→Option Out
 | [.one ⟨false,[.val (.string x0)]⟩],[]=>some ⟨.one ⟨false,[.val (.bool (Ny x0))]⟩,[],[],[]⟩
 |_,_=>none
def ad0:PF prog:=PF.alt ad2 WG (by
 intro args es o h dh;unfold WG at h;split at h
 ·rename_i x0
  cases h
  have hh:=af9 x0
  obtain⟨e0,en⟩:=hh
  exact vG rfl (qB en) (by simp only [e0] <;> rfl) rfl rfl
 ·cases h)
def QA:List SV→List Entry→Option Out
 | [.one ⟨false,[.val (.string x0)]⟩],[]=>some ⟨.one ⟨false,[.val (.bool (ahq x0))]⟩,[],[],[]⟩
 |_,_=>none
def aaP:PF prog:=PF.alt aaX QA (by
 intro args es o h dh;unfold QA at h;split at h
 ·rename_i x0
  cases h
  have hh:=ahm x0
  obtain⟨e0,en⟩:=hh
  exact vG rfl (qB en) (by simp only [e0] <;> rfl) rfl rfl
 ·cases h)
def lI(x0:ByteArray):Bool:=bif Ny x0 then ltI (Fu x0) (0:Int)else false
def rR(x0:ByteArray):Bool:=allT [leN (ByteArray.size x0) (9223372036854775807:Nat),!(Ny x0&&true)||Fv x0]
def Ty:List SV→List Entry→Option Out
 | [.one ⟨false,[.val (.string x0)]⟩],[]=>some ⟨.one ⟨false,[.val (.bool (lI x0))]⟩,[],[],[rR x0]⟩
 |_,_=>none
def Gn:PF prog:=PF.ofG prog [ac9,ZR] [] aP 239 f239 func239 (fun c _=>LOk.nil c) Ty (by
 intro vs es r h;unfold Ty at h;split at h
 ·cases h;kernel_rfl
 ·cases h)
def LR(x0:Int):Bool:=bif bif bif x0==(7:Int)then true else x0==(8:Int)then true else x0==(11:Int)then true else x0==(12:Int)
def Qv:List SV→List Entry→Option Out
 | [.one ⟨false,[.val (.int .i64 x0)]⟩],[]=>some ⟨.one ⟨false,[.val (.bool (LR x0))]⟩,[],[],[]⟩
 |_,_=>none
def aa3:PF prog:=PF.ofG prog [] [] aP 251 f251 func251 (fun c _=>LOk.nil c) Qv (by
 intro vs es r h;unfold Qv at h;split at h
 ·cases h;kernel_rfl
 ·cases h)
def OK(x0:Int):Bool:=br x0 (1:Int) (12:Int)
def Tx:List SV→List Entry→Option Out
 | [.one ⟨false,[.val (.int .i64 x0)]⟩],[]=>some ⟨.one ⟨false,[.val (.bool (OK x0))]⟩,[],[],[]⟩
 |_,_=>none
def adn:PF prog:=PF.ofG prog [tP] [] aP 252 f252 func252 (fun c _=>LOk.nil c) Tx (by
 intro vs es r h;unfold Tx at h;split at h
 ·cases h;kernel_rfl
 ·cases h)
def Nf(x0 x2:Int):Bool:=bif bif !OK x0 then true else !br x2 (0:Int) (9999:Int)then true else bif !LR x0 then x2 !=(0:Int)else false
def GA(x0:Int)(x1:ByteArray)(x2:Int):Bool:=
 bif Nf x0 x2 then false else bif x0==(1:Int)then lI x1 else ByteArray.toList x1==ByteArray.toList { data:= #[] }
def GC(x0:Int)(x1:ByteArray)(x2:Int):Bool:=allT [Nf x0 x2||(!x0==(1:Int)||rR x1)]
def Tz:List SV→List Entry→Option Out
 | [.one ⟨true,[.val (.int .i64 x0),.val (.string x1),.val (.int .i64 x2)]⟩],[]=>some ⟨.one ⟨false,[.val (.bool (GA x0 x1 x2))]⟩,[],[],[GC x0 x1 x2]⟩
 |_,_=>none
def UX:PF prog:=PF.ofG prog [tP,Gn,aa3,adn] [] aP 212 f212 func212 (fun c _=>LOk.nil c) Tz (by
 intro vs es r h;unfold Tz at h;split at h
 ·cases h;kernel_rfl
 ·cases h)
def kV(x0:ByteArray):Bool:=bif Ny x0 then !ahq x0 else false
def Wr:List SV→List Entry→Option Out
 | [.one ⟨false,[.val (.string x0)]⟩],[]=>some ⟨.one ⟨false,[.val (.bool (kV x0))]⟩,[],[],[]⟩
 |_,_=>none
def Ib:PF prog:=PF.ofG prog [ad0,aaP] [] aP 225 f225 func225 (fun c _=>LOk.nil c) Wr (by
 intro vs es r h;unfold Wr at h;split at h
 ·cases h;kernel_rfl
 ·cases h)
def Kp(x0:Int):Bool:=bif bif bif x0==(7:Int)then true else x0==(8:Int)then true else x0==(11:Int)then true else x0==(12:Int)
def Pc:List SV→List Entry→Option Out
 | [.one ⟨false,[.val (.int .i64 x0)]⟩],[]=>some ⟨.one ⟨false,[.val (.bool (Kp x0))]⟩,[],[],[]⟩
 |_,_=>none
def ZQ:PF prog:=PF.ofG prog [] [] aP 253 f253 func253 (fun c _=>LOk.nil c) Pc (by
 intro vs es r h;unfold Pc at h;split at h
 ·cases h;kernel_rfl
 ·cases h)
def HU(x0:Int)(x1:ByteArray)(x2:Int):Bool:=
 bif bif !rK x0 (1:Int) (12:Int)then true else !(x0==(1:Int))== !ByteArray.toList x1==ByteArray.toList { data:= #[] } then
 false
 else
 bif Kp x0 then rK x2 (0:Int) (9999:Int)
 else bif x2==(0:Int)then bif x0 !=(1:Int)then true else kV x1 else false
def Ws:List SV→List Entry→Option Out
 | [.one ⟨true,[.val (.int .i64 x0),.val (.string x1),.val (.int .i64 x2)]⟩],[]=>some ⟨.one ⟨false,[.val (.bool (HU x0 x1 x2))]⟩,[],[],[]⟩
 |_,_=>none
def WT:PF prog:=PF.ofG prog [Qf,Ib,ZQ] [] aP 215 f215 func215 (fun c _=>LOk.nil c) Ws (by
 intro vs es r h;unfold Ws at h;split at h
 ·cases h;kernel_rfl
 ·cases h)
def wK(x0 x2 x3 x4 x5:Int):Bool:=bif bif x0==(7:Int)then x0==(7:Int)else x0==(8:Int)then bif bif rK x3 (0:Int) x2 then x4==(0:Int)else false then x5==(0:Int)else false else bif x0==(11:Int)then bif bif rK x3 (0:Int) x2 then rK x4 (0:Int) (1:Int)else false then x5==(0:Int)else false else bif x0==(12:Int)then bif x4==(0:Int)then bif bif rK x3 (0:Int) x2 then x5==(0:Int)else false then true else bif x3==IntKind.wrap .i64 (x2 + (1:Int))then x5==(1:Int)else false else false else bif bif rK x3 (0:Int) (1:Int)then x4==(0:Int)else false then x5==(0:Int)else false
def Pf:List SV→List Entry→Option Out
 | [.one ⟨true,[.val (.int .i64 x0),.val (.string _x1),.val (.int .i64 x2)]⟩,.one ⟨true,[.val (.int .i64 x3),.val (.int .i64 x4),.val (.int .i64 x5)]⟩],[]=>some ⟨.one ⟨false,[.val (.bool (wK x0 x2 x3 x4 x5))]⟩,[],[],[]⟩
 |_,_=>none
def Ps:PF prog:=PF.ofG prog [Qf] [] aP 185 f185 func185 (fun c _=>LOk.nil c) Pf (by
 intro vs es r h;unfold Pf at h;split at h
 ·cases h;kernel_rfl
 ·cases h)
def cJ(x0 x2 x3 x4 x5:Int):Bool:=bif bif x0==(9:Int)then x0==(9:Int)else x0==(10:Int)then bif bif br x3 (0:Int) (1:Int)then x4==(0:Int)else false then x5==(0:Int)else false else bif x0==(11:Int)then bif bif br x3 (0:Int) x2 then br x4 (0:Int) (1:Int)else false then x5==(0:Int)else false else bif x0==(12:Int)then bif x4==(0:Int)then bif bif br x3 (0:Int) x2 then x5==(0:Int)else false then true else bif x3==IntKind.wrap .i64 (x2 + (1:Int))then x5==(1:Int)else false else false else bif bif br x3 (0:Int) x2 then x4==(0:Int)else false then x5==(0:Int)else false
def NO:List SV→List Entry→Option Out
 | [.one ⟨true,[.val (.int .i64 x0),.val (.string _x1),.val (.int .i64 x2)]⟩,.one ⟨true,[.val (.int .i64 x3),.val (.int .i64 x4),.val (.int .i64 x5)]⟩],[]=>some ⟨.one ⟨false,[.val (.bool (cJ x0 x2 x3 x4 x5))]⟩,[],[],[]⟩
 |_,_=>none
def Ox:PF prog:=PF.ofG prog [tP] [] aP 169 f169 func169 (fun c _=>LOk.nil c) NO (by
 intro vs es r h;unfold NO at h;split at h
 ·cases h;kernel_rfl
 ·cases h)
def aeY(k:Int):Bool:=k==7||(k==8||(k==11||k==12))
def termB(k:Int)(s:ByteArray)(n:Int):Bool:=inR k 1 12&&(inR n 0 9999&&((aeY k||n==0)&&(bif k==1 then lN s else s.toList== [])))
def Rq(k:Int)(s:ByteArray)(n:Int):Bool:=termB k s n&&leI 7 k
def possB(k n a b c:Int):Bool:=cJ k n a b c
theorem JO:ByteArray.toList { data:= #[] } = []:=by rw [Go.Lib.toList_data]
theorem ajQ{s:ByteArray}(h:lN s=true):(s.toList== [])=false:=by
 simp only [lN,Ny,Bool.and_eq_true,DP]at h
 have h1:s.size=s.toList.length:=by rw [Go.Lib.size_eq,Go.Lib.toList_data]
 cases hs:s.toList with
 |nil=>
  rw [hs]at h1
  have h2:s.size=0:=h1
  omega
 |cons a l=>rfl
theorem akd{n:Int}(h:(n==0)=true):inR n 0 9999=true:=by
 have:n=0:=by simpa using h
 rw [this];rfl
theorem abJ(k:Int)(s:ByteArray)(n:Int)(h:leN s.size 9223372036854775807=true):GA k s n=termB k s n∧GC k s n=true:=by
 obtain⟨e1,e2⟩:=adw s
 have e3:lI s=lN s:=by simp only [lI,e1,lN];cases Ny s <;> rfl
 have e4:rR s=true:=by simp only [rR,e2,h,allT,Bool.or_true,cond_true]
 simp only [GA,GC,Nf,e3,e4,OK,br,Rx,JO,LR,termB,aeY,allT,Bool.or_true,cond_true]
 refine⟨?_,trivial⟩
 simp only [bne]
 generalize (bif k==1 then lN s else s.toList== [])=q
 generalize inR k 1 12=q1
 generalize inR n 0 9999=q2
 generalize (k==7)=q3
 generalize (k==8)=q4
 generalize (k==11)=q5
 generalize (k==12)=q6
 generalize (n==0)=q7
 revert q q1 q2 q3 q4 q5 q6 q7
 decide
theorem af8(k:Int)(s:ByteArray)(n:Int):HU k s n=termB k s n:=by
 have e3:kV s=lN s:=by simp only [kV,lN];cases Ny s <;> rfl
 simp only [HU,e3,rK,Rx,JO,Kp,termB,aeY]
 by_cases h1:k=1
 ·subst h1
  have z7:((1:Int)==7)=false:=rfl
  have z8:((1:Int)==8)=false:=rfl
  have z11:((1:Int)==11)=false:=rfl
  have z12:((1:Int)==12)=false:=rfl
  have z1:((1:Int)==1)=true:=rfl
  have zn:((1:Int)!=1)=false:=rfl
  have zr:inR (1:Int) 1 12=true:=rfl
  rw [z7,z8,z11,z12,z1,zn,zr]
  have hs:lN s=true→(s.toList== [])=false:=ajQ
  have h0:(n==0)=true→inR n 0 9999=true:=akd
  generalize (s.toList== [])=q at hs ⊢
  generalize (n==0)=q2 at h0 ⊢
  generalize inR n 0 9999=q3 at h0 ⊢
  generalize lN s=q4 at hs ⊢
  revert q q2 q3 q4
  decide
 ·have z1:(k==1)=false:=by simpa using h1
  have zn:(k !=1)=true:=by simpa using h1
  rw [z1,zn]
  have h0:(n==0)=true→inR n 0 9999=true:=akd
  generalize (s.toList== [])=q
  generalize (n==0)=q2 at h0 ⊢
  generalize inR n 0 9999=q3 at h0 ⊢
  generalize inR k 1 12=q1
  generalize (k==7)=p3
  generalize (k==8)=p4
  generalize (k==11)=p5
  generalize (k==12)=p6
  generalize lN s=p7
  revert q q1 q2 q3 p3 p4 p5 p6 p7
  decide
theorem XW{k:Int}{s:ByteArray}{n:Int}(h:Rq k s n=true):(7≤k∧k≤12)∧(0≤n∧n≤9999)∧(aeY k=true∨n=0):=by
 simp only [Rq,termB,Bool.and_eq_true,DP,Cj,Bool.or_eq_true,beq_iff_eq]at h
 obtain⟨⟨h1,h2,h3,_⟩,h4⟩:=h
 exact⟨⟨h4,h1.2⟩,h2,h3⟩
theorem kinds{k:Int}(h:7≤k∧k≤12):k=7∨k=8∨k=9∨k=10∨k=11∨k=12:=by omega
theorem ajX{k n a b c:Int}(h:7≤k∧k≤12):wK k n a b c=possB k n a b c:=by
 rcases kinds h with rfl | rfl | rfl | rfl | rfl | rfl <;> rfl
theorem UZ{k n a b c:Int}(h:possB k n a b c=true)(hn:0≤n∧n≤9999):(0≤a∧a≤10000)∧(b=0∨b=1)∧(c=0∨c=1):=by
 have hw:IntKind.i64.wrap (n + 1)=n + 1:=cg (by omega) (by omega)
 simp only [possB,cJ,br,Rx,hw]at h
 cases h1:(bif k==9 then k==9 else k==10)with
 |true=>
  rw [h1]at h
  cases h2:inR a 0 1 <;> rw [h2]at h <;> simp at h
  have:=DP.1 h2
  omega
 |false=>
  rw [h1]at h
  cases h3:k==11 with
  |true=>
   rw [h3]at h
   cases h2:inR a 0 n <;> cases h4:inR b 0 1 <;> rw [h2]at h <;> simp [h4]at h
   have:=DP.1 h2
   have:=DP.1 h4
   omega
  |false=>
   rw [h3]at h
   cases h5:k==12 with
   |true=>
    rw [h5]at h
    cases h2:inR a 0 n <;> rw [h2]at h <;> simp at h
    ·omega
    ·have:=DP.1 h2
     omega
   |false=>
    rw [h5]at h
    cases h2:inR a 0 n <;> rw [h2]at h <;> simp at h
    have:=DP.1 h2
    omega
def Oe(x1:ByteArray)(x3:Int):Int:=IntKind.wrap .i64 (x3 - (↑(ByteArray.size x1):Int))
def rL(x1:ByteArray)(x3:Int):Int:=bif ltI (Oe x1 x3) (0:Int)then(-1:Int)else Oe x1 x3
def Wy:List SV→List Entry→Option Out
 | [.one ⟨true,[.val (.int .i64 _x0),.val (.string x1),.val (.int .i64 _x2)]⟩,.one ⟨false,[.val (.int .i64 x3)]⟩],[]=>some ⟨.one ⟨false,[.val (.int .i64 (rL x1 x3))]⟩,[],[],[]⟩
 |_,_=>none
def WV:PF prog:=PF.ofG prog [] [] aP 152 f152 func152 (fun c _=>LOk.nil c) Wy (by
 intro vs es r h;unfold Wy at h;split at h
 ·cases h;kernel_rfl
 ·cases h)
def lx(x0:Int):Int:=bif bif x0==(1:Int)then x0==(1:Int)else bif x0==(2:Int)then x0==(2:Int)else x0==(3:Int)then(0:Int)else bif bif x0==(4:Int)then x0==(4:Int)else bif x0==(7:Int)then x0==(7:Int)else bif x0==(8:Int)then x0==(8:Int)else x0==(9:Int)then(1:Int)else(2:Int)
def Sh:List SV→List Entry→Option Out
 | [.one ⟨false,[.val (.int .i64 x0)]⟩],[]=>some ⟨.one ⟨false,[.val (.int .i64 (lx x0))]⟩,[],[],[]⟩
 |_,_=>none
def As:PF prog:=PF.ofG prog [] [] aP 224 f224 func224 (fun c _=>LOk.nil c) Sh (by
 intro vs es r h;unfold Sh at h;split at h
 ·cases h;kernel_rfl
 ·cases h)
abbrev nu:=Int×List Int
section
variable (y0:Int)(y1:List Int)
def xh:Bool:=ltI y0 (↑y1.length:Int)
def BF:Bool:=leI (0:Int) y0
def BG:Bool:=ltN y0.toNat y1.length
def BH:Bool:= !br (Option.getD y1[Int.toNat y0]? (0:Int)) (0:Int) (1:Int)
def BI:Int:=IntKind.wrap .i64 (y0 + (1:Int))
end
def Xw:nu→List (Nat×SV)
 |(y0,_)=> [(5,(.one ⟨false,[.val (.int .i64 y0)]⟩)),(0,(.one ⟨false,[.ref 0]⟩))]
def Xm:nu→List (Nat×Entry)
 |(_,y1)=> [(0,(.row false 2 acT y1))]
def XS:Nat→nu→List (Nat×SV)
 |0,(_,_)=> [(4,(.one ⟨false,[.val (.bool false)]⟩))]
 |_,(_,_)=> []
def XH:Nat→nu→List (Nat×Entry)
 |0,(_,y1)=> [(0,(.row false 2 acT y1))]
 |_,(_,y1)=> [(0,(.row false 2 acT y1))]
def zj:nu→LT nu
 |(y0,y1)=> .ite (xh y0 y1) (.need [BF y0,xh y0 y1,BG y0 y1] (.ite (BH y0 y1) (.ext 0 [(0,0)]) (.nrm ((BI y0),y1) [(0,0)]))) (.ext 1 [(0,0)])
def Jh(s:St):Option nu:=
 (match s.look 5 with
 |some ⟨none,.one ⟨false,[.val (.int .i64 y0)]⟩⟩=>
 (match s.look 0 with
 |some ⟨none,.one ⟨false,[.ref 0]⟩⟩=>
 (match s.ent 0 with
 |some (.row false 2 (.int .i64) y1)=>
 some (y0,y1)
 |_=>none)
 |_=>none)
 |_=>none)
def fX:Lp nu where
 h:=⟨[6,7,8,9,12,13,14,15,16,17,4,10,11,5],[0],[],[]⟩
 JL:=Xw
 JE:=Xm
 XL:=XS
 XE:=XH
 q:=fun j=>match j with | 0=> .ret | _=> .exit 0
 tags:= [0,1]
 lt:=zj
 fuel:=fun(y0,y1)=>y0.natAbs + y1.length
 fix:=fun(_,y1) (y0,_)=>(y0,y1)
 σ:= [(0,0)]
 rd:=Jh
theorem UO:LoopOk prog (fun k=>Nat.blt k Tryz.f88.ntmps) fX.F (aZ f88 0):=by
 refine Lp.ok (tbl:= [tP]) (lf:= []) aP fX (by kernel_rfl) (LOk.nil _) (fun _=>rfl) (fun j _=>by unfold fX;match j with | 0=>rfl | _ + 1=>rfl) ?_ ?_ ?_ ?_ (fun _=>rfl) ?_
 ·rintro⟨y0,y1⟩;kernel_rfl
 ·rintro⟨y0,y1⟩;kernel_rfl
 ·intro s x h
  have h:Jh s=some x:=h
  unfold Jh at h
  repeat' split at h
  all_goals cases h
  exact⟨aa (by assumption) rfl (aa (by assumption) rfl (rfl)),ab rfl (by assumption) rfl (rfl)⟩
 ·rintro⟨y0,y1⟩;kernel_rfl
 ·rintro⟨y0,y1⟩ z;exact(And.intro (And.intro trivial rfl) trivial)
def OS(x0:Int)(x1:List Int):Bool:=bif Nat.beq ((Lp.res fX ((0:Int),x1)).1) (0:Nat)then false else(↑x1.length:Int)==x0
def OT(x1:List Int):Bool:=allT [Lp.fin fX ((0:Int),x1)]
def TF:List SV→List Entry→Option Out
 | [.one ⟨false,[.ref 0]⟩,.one ⟨false,[.val (.int .i64 x0)]⟩],[.row false 2 (.int .i64) x1]=>some ⟨.one ⟨false,[.val (.bool (OS x0 x1))]⟩,[.row false 2 acT x1],[],[OT x1]⟩
 |_,_=>none
def adp:PF prog:=PF.ofG prog [tP] [fX.F] aP 88 f88 func88 (LOk.fnT (l:= [aZ f88 0]) (by kernel_rfl) (.cons UO (.nil _))) TF (by
 intro vs es r h;unfold TF at h;split at h
 ·cases h;kernel_rfl
 ·cases h)
def ik(x0:Bool):Int:=bif x0 then(1:Int)else(0:Int)
def WD:List SV→List Entry→Option Out
 | [.one ⟨false,[.val (.bool x0)]⟩],[]=>some ⟨.one ⟨false,[.val (.int .i64 (ik x0))]⟩,[],[],[]⟩
 |_,_=>none
def WX:PF prog:=PF.ofG prog [] [] aP 244 f244 func244 (fun c _=>LOk.nil c) WD (by
 intro vs es r h;unfold WD at h;split at h
 ·cases h;kernel_rfl
 ·cases h)
section
variable (x0 x1 x2 x3 x4 x5:Int)
def gE:Bool:=bif bif x3==(1:Int)then x4==(0:Int)else false then x5==(0:Int)else false
def ie:Bool:=(bif gE x3 x4 x5 then(0:Int)else x3)==(0:Int)
def jl:Bool:=bif ie x3 x4 x5 then x4 !=x5 else false
def kk:Int:=IntKind.wrap .i64 ((bif gE x3 x4 x5 then(0:Int)else x1) + (1:Int))
def km:Int:=bif jl x3 x4 x5 then ik (ltI x0 (kk x1 x3 x4 x5))else bif ie x3 x4 x5 then(0:Int)else bif gE x3 x4 x5 then(0:Int)else x3
def lJ:Int:=ik (bif bif x4==(1:Int)then x5==(1:Int)else false then km x0 x1 x3 x4 x5==(0:Int)else false)
def lK:Int:=bif jl x3 x4 x5 then kk x1 x3 x4 x5 else bif ie x3 x4 x5 then(0:Int)else bif gE x3 x4 x5 then(0:Int)else x1
def lL:Int:=bif jl x3 x4 x5 then(0:Int)else bif ie x3 x4 x5 then(0:Int)else bif gE x3 x4 x5 then(0:Int)else x2
def lM:Int:=km x0 x1 x3 x4 x5
end
def TA:List SV→List Entry→Option Out
 | [.one ⟨false,[.val (.int .i64 x0)]⟩,.one ⟨true,[.val (.int .i64 x1),.val (.int .i64 x2),.val (.int .i64 x3)]⟩,.one ⟨false,[.val (.int .i64 x4)]⟩,.one ⟨false,[.val (.int .i64 x5)]⟩],[]=>some ⟨.tup [⟨false,[.val (.int .i64 (lJ x0 x1 x3 x4 x5))]⟩,⟨true,[.val (.int .i64 (lK x1 x3 x4 x5)),.val (.int .i64 (lL x2 x3 x4 x5)),.val (.int .i64 (lM x0 x1 x3 x4 x5))]⟩],[],[],[]⟩
 |_,_=>none
def ado:PF prog:=PF.ofG prog [WX] [] aP 245 f245 func245 (fun c _=>LOk.nil c) TA (by
 intro vs es r h;unfold TA at h;split at h
 ·cases h;kernel_rfl
 ·cases h)
section
variable (x0 x2 x3 x4 x5:Int)(x6:List Int)
def cd:Int:=Option.getD x6[Int.toNat (0:Int)]? (0:Int)
def ig:Int:=IntKind.wrap .i64 (x3 + (1:Int))
def kn:Int:=IntKind.wrap .i64 (aaI (ig x3) x2 (ig x3) x2 * cd x6)
def eV:Int:=bif ltI (1:Int) (↑x6.length:Int)then Option.getD x6[Int.toNat (1:Int)]? (0:Int)else(0:Int)
def ko:Int:=bif eV x6==(1:Int)then(0:Int)else bif cd x6==(1:Int)then(1:Int)else x3
def kq:Int:=bif eV x6==(1:Int)then(0:Int)else bif bif cd x6==(1:Int)then x4==(0:Int)else false then aaI (ig x3) x2 (ig x3) x2 else x3
def kr:Int:=IntKind.wrap .i64 (x3 - (1:Int))
def kt:Int:=bif cd x6==(1:Int)then(0:Int)else(0:Int)
def jm:Bool:= !ltI (1:Int) (↑x6.length:Int)
def gd:Int:=bif x0==(7:Int)then ik (bif cd x6==(1:Int)then kn x2 x3 x6==x2 else false)else bif x0==(8:Int)then bif cd x6==(1:Int)then(1:Int)else ik (ltI (0:Int) x3)else bif x0==(9:Int)then ik (bif cd x6==(1:Int)then x3==(0:Int)else false)else bif x0==(10:Int)then ko x3 x6 else bif x0==(11:Int)then ik (kq x2 x3 x4 x6==x2)else lJ x2 x3 x5 (cd x6) (eV x6)
def gS:Int:=bif x0==(7:Int)then kn x2 x3 x6 else bif x0==(8:Int)then bif cd x6==(1:Int)then x2 else aaI (0:Int) (kr x3) (kr x3) (0:Int)else bif x0==(9:Int)then cd x6 else bif x0==(10:Int)then ko x3 x6 else bif x0==(11:Int)then kq x2 x3 x4 x6 else lK x3 x5 (cd x6) (eV x6)
def gT:Int:=bif x0==(7:Int)then(0:Int)else bif x0==(8:Int)then kt x6 else bif x0==(9:Int)then(0:Int)else bif x0==(10:Int)then(0:Int)else bif x0==(11:Int)then cd x6 else lL x4 x5 (cd x6) (eV x6)
def gU:Int:=bif x0==(7:Int)then(0:Int)else bif x0==(8:Int)then kt x6 else bif x0==(9:Int)then(0:Int)else bif x0==(10:Int)then(0:Int)else bif x0==(11:Int)then(0:Int)else lM x2 x3 x5 (cd x6) (eV x6)
def jv:Bool:=allT [ltI (0:Int) (↑x6.length:Int),ltN (Int.toNat (0:Int)) x6.length,jm x6||leI (0:Int) (1:Int),jm x6||ltI (1:Int) (↑x6.length:Int),jm x6||ltN (Int.toNat (1:Int)) x6.length]
end
def TB:List SV→List Entry→Option Out
 | [.one ⟨true,[.val (.int .i64 x0),.val (.string _x1),.val (.int .i64 x2)]⟩,.one ⟨true,[.val (.int .i64 x3),.val (.int .i64 x4),.val (.int .i64 x5)]⟩,.one ⟨false,[.ref 0]⟩],[.row false 2 (.int .i64) x6]=>some ⟨.tup [⟨false,[.val (.int .i64 (gd x0 x2 x3 x4 x5 x6))]⟩,⟨true,[.val (.int .i64 (gS x0 x2 x3 x4 x5 x6)),.val (.int .i64 (gT x0 x4 x5 x6)),.val (.int .i64 (gU x0 x2 x3 x5 x6))]⟩],[.row false 2 acT x6],[],[jv x6]⟩
 |_,_=>none
def ow:PF prog:=PF.ofG prog [WX,ado] [] aP 190 f190 func190 (fun c _=>LOk.nil c) TB (by
 intro vs es r h;unfold TB at h;split at h
 ·cases h;kernel_rfl
 ·cases h)
def WA:List SV→List Entry→Option Out
 | [.one ⟨true,[.val (.int .i64 x0),.val (.string x1),.val (.int .i64 x2)]⟩],[]=>some ⟨.one ⟨true,[.val (.int .i64 x0),.val (.string x1),.val (.int .i64 x2)]⟩,[],[],[]⟩
 |_,_=>none
def WW:PF prog:=PF.ofG prog [] [] aP 156 f156 func156 (fun c _=>LOk.nil c) WA (by
 intro vs es r h;unfold WA at h;split at h
 ·cases h;kernel_rfl
 ·cases h)
def aaJ(x0:Int):Bool:=bif x0 !=(0:Int)then x0 !=(1:Int)else false
def Qk:List SV→List Entry→Option Out
 | [.one ⟨false,[.val (.int .i64 x0)]⟩],[]=>some ⟨.one ⟨false,[.val (.bool (aaJ x0))]⟩,[],[],[]⟩
 |_,_=>none
def aaY:PF prog:=PF.ofG prog [] [] aP 219 f219 func219 (fun c _=>LOk.nil c) Qk (by
 intro vs es r h;unfold Qk at h;split at h
 ·cases h;kernel_rfl
 ·cases h)
def ym(x0:Int):Bool:=bif x0 !=(0:Int)then x0 !=(1:Int)else false
def Kd:List SV→List Entry→Option Out
 | [.one ⟨false,[.val (.int .i64 x0)]⟩],[]=>some ⟨.one ⟨false,[.val (.bool (ym x0))]⟩,[],[],[]⟩
 |_,_=>none
def KA:PF prog:=PF.ofG prog [] [] aP 219 f219 func219 (fun c _=>LOk.nil c) Kd (by
 intro vs es r h;unfold Kd at h;split at h
 ·cases h;kernel_rfl
 ·cases h)
abbrev bk:=Int×Int×List Int
section
variable (y0 y1:Int)(y2:List Int)
def gM:Bool:=ltI y0 y1
def gN:Bool:=leI (0:Int) y0
def gO:Bool:=ltI y0 (↑y2.length:Int)
def gP:Bool:=ltN y0.toNat y2.length
def gQ:Bool:=ym (Option.getD y2[Int.toNat y0]? (0:Int))
def gR:Int:=IntKind.wrap .i64 (y0 + (1:Int))
end
def Eh:bk→List (Nat×SV)
 |(y0,y1,_)=> [(8,(.one ⟨false,[.val (.int .i64 y0)]⟩)),(7,(.one ⟨false,[.val (.int .i64 y1)]⟩)),(1,(.one ⟨false,[.val (.func (.func 219) ⟨[]⟩ ⟨[]⟩)]⟩)),(0,(.one ⟨false,[.ref 0]⟩))]
def Eg:bk→List (Nat×Entry)
 |(_,_,y2)=> [(0,(.row false 2 acT y2))]
def Ek:Nat→bk→List (Nat×SV)
 |0,(y0,_,_)=> [(4,(.one ⟨false,[.val (.int .i64 y0)]⟩))]
 |_,(_,_,_)=> []
def Ej:Nat→bk→List (Nat×Entry)
 |0,(_,_,y2)=> [(0,(.row false 2 acT y2))]
 |_,(_,_,y2)=> [(0,(.row false 2 acT y2))]
def gk:bk→LT bk
 |(y0,y1,y2)=> .ite (gM y0 y1) (.need [gN y0,gO y0 y2,gP y0 y2] (.ite (gQ y0 y2) (.ext 0 [(0,0)]) (.nrm ((gR y0),y1,y2) [(0,0)]))) (.ext 1 [(0,0)])
def oy(s:St):Option bk:=
 (match s.look 8 with
 |some ⟨none,.one ⟨false,[.val (.int .i64 y0)]⟩⟩=>
 (match s.look 7 with
 |some ⟨none,.one ⟨false,[.val (.int .i64 y1)]⟩⟩=>
 (match s.look 1 with
 |some ⟨none,.one ⟨false,[.val (.func (.func 219) ⟨[]⟩ ⟨[]⟩)]⟩⟩=>
 (match s.look 0 with
 |some ⟨none,.one ⟨false,[.ref 0]⟩⟩=>
 (match s.ent 0 with
 |some (.row false 2 (.int .i64) y2)=>
 some (y0,y1,y2)
 |_=>none)
 |_=>none)
 |_=>none)
 |_=>none)
 |_=>none)
def am:Lp bk where
 h:=⟨[9,10,5,11,12,13,14,15,16,17,4,18,8],[0],[],[]⟩
 JL:=Eh
 JE:=Eg
 XL:=Ek
 XE:=Ej
 q:=fun j=>match j with | 0=> .ret | _=> .exit 0
 tags:= [0,1]
 lt:=gk
 fuel:=fun(y0,y1,y2)=>y0.natAbs + y1.natAbs + y2.length
 fix:=fun(_,y1,y2) (y0,_,_)=>(y0,y1,y2)
 σ:= [(0,0)]
 rd:=oy
theorem Ds:LoopOk prog (fun k=>Nat.blt k Tryz.f255.ntmps) am.F (aZ f255 0):=by
 refine Lp.ok (tbl:= [KA]) (lf:= []) aP am (by kernel_rfl) (LOk.nil _) (fun _=>rfl) (fun j _=>by unfold am;match j with | 0=>rfl | _ + 1=>rfl) ?_ ?_ ?_ ?_ (fun _=>rfl) ?_
 ·rintro⟨y0,y1,y2⟩;kernel_rfl
 ·rintro⟨y0,y1,y2⟩;kernel_rfl
 ·intro s x h
  have h:oy s=some x:=h
  unfold oy at h
  repeat' split at h
  all_goals cases h
  exact⟨aa (by assumption) rfl (aa (by assumption) rfl (aa (by assumption) rfl (aa (by assumption) rfl (rfl)))),ab rfl (by assumption) rfl (rfl)⟩
 ·rintro⟨y0,y1,y2⟩;kernel_rfl
 ·rintro⟨y0,y1,y2⟩ z;exact(And.intro (And.intro trivial rfl) trivial)
section
variable (x0:List Int)
def lG:Int×Int×List Int:=((0:Int),(↑x0.length:Int),x0)
def qU:Int:=bif Nat.beq ((Lp.res am (lG x0)).1) (0:Nat)then ((Lp.res am (lG x0)).2).1else(-1:Int)
def qV:Bool:=allT [Lp.fin am (lG x0)]
end
def wF:List SV→List Entry→Option Out
 | [.one ⟨false,[.ref 0]⟩,.one ⟨false,[.val (.func (.func 219) ⟨[]⟩ ⟨[]⟩)]⟩],[.row false 2 (.int .i64) x0]=>some ⟨.one ⟨false,[.val (.int .i64 (qU x0))]⟩,[.row false 2 acT x0],[],[qV x0]⟩
 |_,_=>none
def qH:PF prog:=PF.ofG prog [KA] [am.F] aP 255 f255 func255 (LOk.fnT (l:= [aZ f255 0]) (by kernel_rfl) (.cons Ds (.nil _))) wF (by
 intro vs es r h;unfold wF at h;split at h
 ·cases h;kernel_rfl
 ·cases h)
def oY(x0:List Int):Bool:=leI (0:Int) (qU x0)
def oZ(x0:List Int):Bool:=allT [qV x0]
def uJ:List SV→List Entry→Option Out
 | [.one ⟨false,[.ref 0]⟩,.one ⟨false,[.val (.func (.func 219) ⟨[]⟩ ⟨[]⟩)]⟩],[.row false 2 (.int .i64) x0]=>some ⟨.one ⟨false,[.val (.bool (oY x0))]⟩,[.row false 2 acT x0],[],[oZ x0]⟩
 |_,_=>none
def oV:PF prog:=PF.ofG prog [qH,PF.lend qH,PF.fz qH] [] aP 218 f218 func218 (fun c _=>LOk.nil c) uJ (by
 intro vs es r h;unfold uJ at h;split at h
 ·cases h;kernel_rfl
 ·cases h)
def NX(x0:Int)(x1:List Int):Bool:=bif(↑x1.length:Int)==x0 then !oY x1 else false
def NY(x0:Int)(x1:List Int):Bool:=allT [!((↑x1.length:Int)==x0&&true)||oZ x1]
def Tn:List SV→List Entry→Option Out
 | [.one ⟨false,[.ref 0]⟩,.one ⟨false,[.val (.int .i64 x0)]⟩],[.row false 2 (.int .i64) x1]=>some ⟨.one ⟨false,[.val (.bool (NX x0 x1))]⟩,[.row false 2 acT x1],[],[NY x0 x1]⟩
 |_,_=>none
def adh:PF prog:=PF.ofG prog [aaY,oV,PF.lend oV,PF.fz oV] [] aP 165 f165 func165 (fun c _=>LOk.nil c) Tn (by
 intro vs es r h;unfold Tn at h;split at h
 ·cases h;kernel_rfl
 ·cases h)
def mM(x0:Bool):Int:=bif x0 then(1:Int)else(0:Int)
def Zj:List SV→List Entry→Option Out
 | [.one ⟨false,[.val (.bool x0)]⟩],[]=>some ⟨.one ⟨false,[.val (.int .i64 (mM x0))]⟩,[],[],[]⟩
 |_,_=>none
def RI:PF prog:=PF.ofG prog [] [] aP 269 f269 func269 (fun c _=>LOk.nil c) Zj (by
 intro vs es r h;unfold Zj at h;split at h
 ·cases h;kernel_rfl
 ·cases h)
section
variable (x0 x1 x2 x3:Int)(x4 x5:Bool)
def rx:Bool:=bif x4 then x2==(0:Int)else false
def ry:Int:=IntKind.wrap .i64 (x1 + (1:Int))
def rz:Int:=bif x5 then(0:Int)else bif rx x2 x4 then aaI x0 (ry x1) x0 (ry x1)else x1
def sA:Int:=mM (rz x0 x1 x2 x4 x5==x0)
def sB:Int:=rz x0 x1 x2 x4 x5
def sC:Int:=mM x4
def sD:Int:=bif x5 then x3 else bif rx x2 x4 then x3 else x3
end
def Qm:List SV→List Entry→Option Out
 | [.one ⟨false,[.val (.int .i64 x0)]⟩,.one ⟨true,[.val (.int .i64 x1),.val (.int .i64 x2),.val (.int .i64 x3)]⟩,.one ⟨false,[.val (.bool x4)]⟩,.one ⟨false,[.val (.bool x5)]⟩],[]=>some ⟨.tup [⟨false,[.val (.int .i64 (sA x0 x1 x2 x4 x5))]⟩,⟨true,[.val (.int .i64 (sB x0 x1 x2 x4 x5)),.val (.int .i64 (sC x4)),.val (.int .i64 (sD x2 x3 x4 x5))]⟩],[],[],[]⟩
 |_,_=>none
def aaZ:PF prog:=PF.ofG prog [RI] [] aP 270 f270 func270 (fun c _=>LOk.nil c) Qm (by
 intro vs es r h;unfold Qm at h;split at h
 ·cases h;kernel_rfl
 ·cases h)
section
variable (x0 x1 x2 x3:Int)(x4 x5:Bool)
def iH:Bool:=bif bif x3==(1:Int)then !x4 else false then !x5 else false
def oF:Bool:=(bif iH x3 x4 x5 then(0:Int)else x3)==(0:Int)
def qw:Bool:=bif oF x3 x4 x5 then !x4==x5 else false
def sE:Int:=IntKind.wrap .i64 ((bif iH x3 x4 x5 then(0:Int)else x1) + (1:Int))
def sF:Int:=bif qw x3 x4 x5 then mM (ltI x0 (sE x1 x3 x4 x5))else bif oF x3 x4 x5 then bif iH x3 x4 x5 then(0:Int)else x3 else bif iH x3 x4 x5 then(0:Int)else x3
def ux:Int:=mM (bif bif x4 then x5 else false then sF x0 x1 x3 x4 x5==(0:Int)else false)
def uy:Int:=bif qw x3 x4 x5 then sE x1 x3 x4 x5 else bif oF x3 x4 x5 then(0:Int)else bif iH x3 x4 x5 then(0:Int)else x1
def uz:Int:=bif qw x3 x4 x5 then bif iH x3 x4 x5 then x2 else x2 else bif oF x3 x4 x5 then bif iH x3 x4 x5 then x2 else x2 else bif iH x3 x4 x5 then x2 else x2
def uA:Int:=sF x0 x1 x3 x4 x5
end
def RW:List SV→List Entry→Option Out
 | [.one ⟨false,[.val (.int .i64 x0)]⟩,.one ⟨true,[.val (.int .i64 x1),.val (.int .i64 x2),.val (.int .i64 x3)]⟩,.one ⟨false,[.val (.bool x4)]⟩,.one ⟨false,[.val (.bool x5)]⟩],[]=>some ⟨.tup [⟨false,[.val (.int .i64 (ux x0 x1 x3 x4 x5))]⟩,⟨true,[.val (.int .i64 (uy x1 x3 x4 x5)),.val (.int .i64 (uz x2 x3 x4 x5)),.val (.int .i64 (uA x0 x1 x3 x4 x5))]⟩],[],[],[]⟩
 |_,_=>none
def ab4:PF prog:=PF.ofG prog [RI] [] aP 271 f271 func271 (fun c _=>LOk.nil c) RW (by
 intro vs es r h;unfold RW at h;split at h
 ·cases h;kernel_rfl
 ·cases h)
section
variable (x0 x2 x3 x4 x5:Int)(x6:List Int)
def eA:Bool:=Option.getD x6[Int.toNat (0:Int)]? (0:Int)==(1:Int)
def AF:Int:=IntKind.wrap .i64 (x3 + (1:Int))
def AG:Int:=IntKind.wrap .i64 (mM (eA x6) * aaI x2 (AF x3) x2 (AF x3))
def vJ:Int:=IntKind.wrap .i64 ((↑x6.length:Int) - (1:Int))
def mL:Bool:=Option.getD x6[Int.toNat (vJ x6)]? (0:Int)==(1:Int)
def AH:Int:=bif mL x6 then(0:Int)else bif eA x6 then(1:Int)else x3
def AJ:Int:=IntKind.wrap .i64 (x3 - (1:Int))
def AD:Int:=bif x0==(7:Int)then mM (bif eA x6 then AG x2 x3 x6==x2 else false)else bif x0==(8:Int)then bif eA x6 then(1:Int)else mM (ltI (0:Int) x3)else bif x0==(9:Int)then mM (bif eA x6 then x3==(0:Int)else false)else bif x0==(10:Int)then AH x3 x6 else bif x0==(11:Int)then sA x2 x3 x4 (eA x6) (mL x6)else ux x2 x3 x5 (eA x6) (mL x6)
def yq:Int:=bif x0==(7:Int)then AG x2 x3 x6 else bif x0==(8:Int)then bif eA x6 then x2 else aaI (AJ x3) (0:Int) (0:Int) (AJ x3)else bif x0==(9:Int)then mM (eA x6)else bif x0==(10:Int)then AH x3 x6 else bif x0==(11:Int)then sB x2 x3 x4 (eA x6) (mL x6)else uy x3 x5 (eA x6) (mL x6)
def yt:Int:=bif x0==(7:Int)then x4 else bif x0==(8:Int)then bif eA x6 then x4 else x4 else bif x0==(9:Int)then x4 else bif x0==(10:Int)then bif mL x6 then x4 else bif eA x6 then x4 else x4 else bif x0==(11:Int)then sC (eA x6)else uz x4 x5 (eA x6) (mL x6)
def yu:Int:=bif x0==(7:Int)then x5 else bif x0==(8:Int)then bif eA x6 then x5 else x5 else bif x0==(9:Int)then x5 else bif x0==(10:Int)then bif mL x6 then x5 else bif eA x6 then x5 else x5 else bif x0==(11:Int)then sD x4 x5 (eA x6) (mL x6)else uA x2 x3 x5 (eA x6) (mL x6)
def AE:Bool:=allT [ltI (0:Int) (↑x6.length:Int),ltN (Int.toNat (0:Int)) x6.length,leI (0:Int) (vJ x6),ltI (vJ x6) (↑x6.length:Int),ltN (Int.toNat (vJ x6)) x6.length]
end
def abm:List SV→List Entry→Option Out
 | [.one ⟨true,[.val (.int .i64 x0),.val (.string _x1),.val (.int .i64 x2)]⟩,.one ⟨true,[.val (.int .i64 x3),.val (.int .i64 x4),.val (.int .i64 x5)]⟩,.one ⟨false,[.ref 0]⟩],[.row false 2 (.int .i64) x6]=>some ⟨.tup [⟨false,[.val (.int .i64 (AD x0 x2 x3 x4 x5 x6))]⟩,⟨true,[.val (.int .i64 (yq x0 x2 x3 x4 x5 x6)),.val (.int .i64 (yt x0 x4 x5 x6)),.val (.int .i64 (yu x0 x2 x3 x4 x5 x6))]⟩],[.row false 2 acT x6],[],[AE x6]⟩
 |_,_=>none
def agp:PF prog:=PF.ofG prog [RI,aaZ,ab4] [] aP 246 f246 func246 (fun c _=>LOk.nil c) abm (by
 intro vs es r h;unfold abm at h;split at h
 ·cases h;kernel_rfl
 ·cases h)
def Nn:List SV→List Entry→Option Out
 | [.one ⟨true,[.val (.int .i64 x0),.val (.int .i64 x1),.val (.int .i64 x2)]⟩],[]=>some ⟨.one ⟨true,[.val (.int .i64 x0),.val (.int .i64 x1),.val (.int .i64 x2)]⟩,[],[],[]⟩
 |_,_=>none
def Nu:PF prog:=PF.ofG prog [] [] aP 170 f170 func170 (fun c _=>LOk.nil c) Nn (by
 intro vs es r h;unfold Nn at h;split at h
 ·cases h;kernel_rfl
 ·cases h)
def xu(x0 x1 x2 x3 x4 x5:Int):Bool:=bif x0 !=x3 then false else bif x1 !=x4 then false else bif x2 !=x5 then false else true
def Nl:List SV→List Entry→Option Out
 | [.one ⟨true,[.val (.int .i64 x0),.val (.int .i64 x1),.val (.int .i64 x2)]⟩,.one ⟨true,[.val (.int .i64 x3),.val (.int .i64 x4),.val (.int .i64 x5)]⟩],[]=>some ⟨.one ⟨false,[.val (.bool (xu x0 x1 x2 x3 x4 x5))]⟩,[],[],[]⟩
 |_,_=>none
def Nt:PF prog:=PF.ofG prog [] [] aP 171 f171 func171 (fun c _=>LOk.nil c) Nl (by
 intro vs es r h;unfold Nl at h;split at h
 ·cases h;kernel_rfl
 ·cases h)
def bitsB(n:Int)(l:List Int):Bool:=l.all (fun v=>inR v 0 1)&&((l.length:Int)==n)
def takesK(k:Int):Int:=lx k
theorem iw{n:Int}{l:List Int}:bitsB n l=true↔(∀ v∈l,v=0∨v=1)∧(l.length:Int)=n:=by
 simp only [bitsB,Bool.and_eq_true,List.all_eq_true,DP,beq_iff_eq]
 constructor
 ·rintro⟨h1,h2⟩;exact⟨fun v hv=>by have:=h1 v hv;omega,h2⟩
 ·rintro⟨h1,h2⟩;exact⟨fun v hv=>by have:=h1 v hv;omega,h2⟩
def wI(b:Int):(Unit)→Nat ⊕ (Unit)
 |_=>(bif(!br b (0:Int) (1:Int))then(.inl 0)else(.inr ()))
def sw(y1:List Int)(i:Nat):(Unit)→nu
 |_=>((i:Int),y1)
def IX:nu→Unit
 |(_,_)=>()
theorem aao(y1:List Int) (hn:y1.length≤9223372036854775807):
  fX.fin ((0:Int),y1)=true∧fX.res ((0:Int),y1)=((aC (wI) 1 y1 0 ()).1,(sw y1) (aC (wI) 1 y1 0 ()).2.1 (aC (wI) 1 y1 0 ()).2.2):=by
 have kw:=fX.along (sw y1) IX (wI) 1 (fun _ _=>True) y1 () (by trivial) (by simp only [fX,sw];omega) (fun i b a hb hI=> ?_) (fun a hI=> ?_)
 ·exact kw
 ·obtain⟨⟩:=a
  have fy:=(List.getElem?_eq_some_iff.1 hb).1
  have jx: ∀ d,Option.getD y1[i]? d=b:=fun d=>by rw [hb];rfl
  have hw:=uF fy hn
  have cM:ltI (i:Int) (y1.length:Int)=true:=gg (by omega)
  have xj:leI (0:Int) (i:Int)=true:=cW (by omega)
  have jC:ltN i y1.length=true:=iF fy
  refine⟨?_,?_,?_,?_⟩
  ·simp [xh,BF,BG,BH,BI,zj,fX,LT.nds,allT,sw,cM,xj,jC,jx]
  ·simp [xh,BF,BG,BH,BI,zj,fX,LT.each,sw,IX,hw]
  ·simp only [xh,BF,BG,BH,BI,zj,fX,LT.fn,sw,IX,wI,Int.toNat_natCast,cM,xj,jC,jx,cond_true,Bool.cond_self]
  ·exact fun _ _=>trivial
 ·obtain⟨⟩:=a
  simp [xh,BF,BG,BH,BI,zj,fX,LT.out,sw]
def eg(b:Int):(Unit)→Nat ⊕ (Unit)
 |_=>(bif(ym b)then(.inl 0)else(.inr ()))
def ce(y2:List Int)(i:Nat):(Unit)→bk
 |_=>((i:Int),(↑y2.length:Int),y2)
def ox:bk→Unit
 |(_,_,_)=>()
theorem Fb(y2:List Int) (hn:y2.length≤9223372036854775807):
  am.fin ((0:Int),(↑y2.length:Int),y2)=true∧am.res ((0:Int),(↑y2.length:Int),y2)=((aC (eg) 1 y2 0 ()).1,(ce y2) (aC (eg) 1 y2 0 ()).2.1 (aC (eg) 1 y2 0 ()).2.2):=by
 have kw:=am.along (ce y2) ox (eg) 1 (fun _ _=>True) y2 () (by trivial) (by simp only [am,ce];omega) (fun i b a hb hI=> ?_) (fun a hI=> ?_)
 ·exact kw
 ·obtain⟨⟩:=a
  have fy:=(List.getElem?_eq_some_iff.1 hb).1
  have jx: ∀ d,Option.getD y2[i]? d=b:=fun d=>by rw [hb];rfl
  have hw:=uF fy hn
  have cM:ltI (i:Int) (y2.length:Int)=true:=gg (by omega)
  have xj:leI (0:Int) (i:Int)=true:=cW (by omega)
  have jC:ltN i y2.length=true:=iF fy
  refine⟨?_,?_,?_,?_⟩
  ·simp [gM,gN,gO,gP,gQ,gR,gk,am,LT.nds,allT,ce,cM,xj,jC,jx]
  ·simp [gM,gN,gO,gP,gQ,gR,gk,am,LT.each,ce,ox,hw]
  ·simp only [gM,gN,gO,gP,gQ,gR,gk,am,LT.fn,ce,ox,eg,Int.toNat_natCast,cM,xj,jC,jx,cond_true,Bool.cond_self]
  ·exact fun _ _=>trivial
 ·obtain⟨⟩:=a
  simp [gM,gN,gO,gP,gQ,gR,gk,am,LT.out,ce]
theorem agD(n:Int)(l:List Int)(h:leN l.length 9223372036854775807=true):OS n l=bitsB n l∧OT l=true:=by
 obtain⟨w1,w2⟩:=aao l (ij.1 h)
 rw [gJ (P:=fun v=> !inR v 0 1) (j:=0) (fun v=>by simp only [wI,br,Rx])]at w2
 have e5:(l.any fun v=> !inR v 0 1)= !l.all fun v=>inR v 0 1:=by simp [List.all_eq_not_any_not]
 rw [e5]at w2
 simp only [OS,OT,w1,w2,allT,bitsB]
 cases (l.all fun v=>inR v 0 1) <;> simp [Nat.beq]
theorem aki(v:Int):(bif v !=0 then v !=1 else false)= !inR v 0 1:=by
 have:inR v 0 1=(v==0||v==1):=by rw [Bool.eq_iff_iff,DP];simp;omega
 rw [this]
 cases h0:v==0 <;> simp [bne,h0]
theorem af2(n:Int)(l:List Int)(h:leN l.length 9223372036854775807=true):NX n l=bitsB n l∧NY n l=true:=by
 obtain⟨w1,w2⟩:=Fb l (ij.1 h)
 rw [gJ (P:=fun v=> !inR v 0 1) (j:=0) (fun v=>by simp only [eg,ym,aki])]at w2
 have e5:(l.any fun v=> !inR v 0 1)= !l.all fun v=>inR v 0 1:=by simp [List.all_eq_not_any_not]
 rw [e5]at w2
 have q: ∀ m:Nat,leI 0 (m:Int)=true:=fun m=>cW (by omega)
 have q2:leI 0 (-1)=false:=rfl
 simp only [NX,NY,oY,oZ,qU,qV,lG,w1,w2,allT,bitsB,ce]
 cases (l.all fun v=>inR v 0 1) <;> cases ((l.length:Int)==n) <;> simp [Nat.beq,q,q2]
theorem Vn(p q:Int):aaI p q p q=min p q:=by rw [aib];cases h:ltI p q <;> simp <;> simp at h <;> omega
theorem Vm(p q:Int):aaI p q q p=max p q:=by rw [aib];cases h:ltI p q <;> simp <;> simp at h <;> omega
theorem QH{l:List Int}(h:bitsB 1 l=true): ∃ x,l= [x]∧(x=0∨x=1):=by
 obtain⟨h1,h2⟩:=iw.1 h
 match l,h1,h2 with
 | [x],h1,_=>exact⟨x,rfl,h1 x (by simp)⟩
 | [],_,h2=>simp at h2
 |_::_::_,_,h2=>simp at h2;omega
theorem QI{l:List Int}(h:bitsB 2 l=true): ∃ x y,l= [x,y]∧(x=0∨x=1)∧(y=0∨y=1):=by
 obtain⟨h1,h2⟩:=iw.1 h
 match l,h1,h2 with
 | [x,y],h1,_=>exact⟨x,y,rfl,h1 x (by simp),h1 y (by simp)⟩
 | [],_,h2=>simp at h2
 | [_],_,h2=>simp at h2
 |_::_::_::_,_,h2=>simp at h2;omega
theorem afu{k n a b c:Int}{s:ByteArray}{l:List Int}(hB:Rq k s n=true)(hP:possB k n a b c=true)(hA:bitsB (takesK k) l=true):
  AD k n a b c l=gd k n a b c l∧yq k n a b c l=gS k n a b c l∧
  yt k b c l=gT k b c l∧yu k n a b c l=gU k n a c l∧AE l=true∧jv l=true∧
  possB k n (gS k n a b c l) (gT k b c l) (gU k n a c l)=true:=by
 obtain⟨hk,hn,_⟩:=XW hB
 have hw:IntKind.i64.wrap (n + 1)=n + 1:=cg (by omega) (by omega)
 have hwa:=(UZ hP hn).1
 have hwa1:IntKind.i64.wrap (a + 1)=a + 1:=cg (by omega) (by omega)
 have hwa2:IntKind.i64.wrap (a - 1)=a - 1:=cg (by omega) (by omega)
 have hm:IntKind.i64.wrap (min (a + 1) n)=min (a + 1) n:=cg (by omega) (by omega)
 have hm2:IntKind.i64.wrap (min n (a + 1))=min n (a + 1):=cg (by omega) (by omega)
 have h01:IntKind.i64.wrap (0 + 1)=1:=rfl
 have n0:IntKind.i64.wrap 0=0:=rfl
 have w1:IntKind.i64.wrap 1=1:=rfl
 have l12:ltI 1 2=true:=rfl
 have hb:=(UZ hP hn).2.1
 have hc:=(UZ hP hn).2.2
 rcases kinds hk with rfl | rfl | rfl | rfl | rfl | rfl
 ·obtain⟨x,rfl,hx⟩:=QH hA
  have hp:=hP
  simp [possB,cJ,br]at hp
  rcases hx with rfl | rfl <;> simp only [eA,AF,AG,vJ,mL,AH,AJ,AD,yq,yt,yu,AE,rx,ry,rz,sA,sB,sC,sD,iH,oF,qw,sE,sF,ux,uy,uz,uA,mM,cd,ig,kn,eV,ko,kq,kr,kt,jm,gd,gS,gT,gU,jv,gE,ie,jl,kk,km,lJ,lK,lL,lM,ik,possB,cJ,br,allT,Vn,Vm] <;> simp [hw,hwa1,hwa2,hm,hm2,h01,n0,w1,l12,hp,Bool.cond_eq_ite] <;> (repeat' split) <;> omega
 ·obtain⟨x,rfl,hx⟩:=QH hA
  have hp:=hP
  simp [possB,cJ,br]at hp
  rcases hx with rfl | rfl <;> simp only [eA,AF,AG,vJ,mL,AH,AJ,AD,yq,yt,yu,AE,rx,ry,rz,sA,sB,sC,sD,iH,oF,qw,sE,sF,ux,uy,uz,uA,mM,cd,ig,kn,eV,ko,kq,kr,kt,jm,gd,gS,gT,gU,jv,gE,ie,jl,kk,km,lJ,lK,lL,lM,ik,possB,cJ,br,allT,Vn,Vm] <;> simp [hw,hwa1,hwa2,hm,hm2,h01,n0,w1,l12,hp,Bool.cond_eq_ite] <;> (repeat' split) <;> omega
 ·obtain⟨x,rfl,hx⟩:=QH hA
  have hp:=hP
  simp [possB,cJ,br]at hp
  rcases hx with rfl | rfl <;> simp only [eA,AF,AG,vJ,mL,AH,AJ,AD,yq,yt,yu,AE,rx,ry,rz,sA,sB,sC,sD,iH,oF,qw,sE,sF,ux,uy,uz,uA,mM,cd,ig,kn,eV,ko,kq,kr,kt,jm,gd,gS,gT,gU,jv,gE,ie,jl,kk,km,lJ,lK,lL,lM,ik,possB,cJ,br,allT,Vn,Vm] <;> simp [hw,hwa1,hwa2,hm,hm2,h01,n0,w1,l12,hp,Bool.cond_eq_ite] <;> (repeat' split) <;> omega
 ·obtain⟨x,y,rfl,hx,hy⟩:=QI hA
  have hp:=hP
  simp [possB,cJ,br]at hp
  rcases hx with rfl | rfl <;> rcases hy with rfl | rfl <;> simp only [eA,AF,AG,vJ,mL,AH,AJ,AD,yq,yt,yu,AE,rx,ry,rz,sA,sB,sC,sD,iH,oF,qw,sE,sF,ux,uy,uz,uA,mM,cd,ig,kn,eV,ko,kq,kr,kt,jm,gd,gS,gT,gU,jv,gE,ie,jl,kk,km,lJ,lK,lL,lM,ik,possB,cJ,br,allT,Vn,Vm] <;> simp [hw,hwa1,hwa2,hm,hm2,h01,n0,w1,l12,hp,Bool.cond_eq_ite] <;> (repeat' split) <;> omega
 ·obtain⟨x,y,rfl,hx,hy⟩:=QI hA
  have hp:=hP
  rcases hb with rfl | rfl <;> rcases hc with rfl | rfl <;> rcases hx with rfl | rfl <;> rcases hy with rfl | rfl <;> simp [possB,cJ,br,hw]at hp <;> simp only [eA,AF,AG,vJ,mL,AH,AJ,AD,yq,yt,yu,AE,rx,ry,rz,sA,sB,sC,sD,iH,oF,qw,sE,sF,ux,uy,uz,uA,mM,cd,ig,kn,eV,ko,kq,kr,kt,jm,gd,gS,gT,gU,jv,gE,ie,jl,kk,km,lJ,lK,lL,lM,ik,possB,cJ,br,allT,Vn,Vm] <;> simp [hw,hwa1,hwa2,hm,hm2,h01,n0,w1,l12,hp,Bool.cond_eq_ite] <;> (repeat' split) <;> omega
 ·obtain⟨x,y,rfl,hx,hy⟩:=QI hA
  have hp:=hP
  rcases hb with rfl | rfl <;> rcases hc with rfl | rfl <;> rcases hx with rfl | rfl <;> rcases hy with rfl | rfl <;> simp [possB,cJ,br,hw]at hp <;> simp only [eA,AF,AG,vJ,mL,AH,AJ,AD,yq,yt,yu,AE,rx,ry,rz,sA,sB,sC,sD,iH,oF,qw,sE,sF,ux,uy,uz,uA,mM,cd,ig,kn,eV,ko,kq,kr,kt,jm,gd,gS,gT,gU,jv,gE,ie,jl,kk,km,lJ,lK,lL,lM,ik,possB,cJ,br,allT,Vn,Vm] <;> simp [hw,hwa1,hwa2,hm,hm2,h01,n0,w1,l12,hp,Bool.cond_eq_ite] <;> (repeat' split) <;> omega
def Ua:List SV→List Entry→Option Out
 | [.one ⟨false,[.ref 0]⟩,.one ⟨false,[.val (.int .i64 x0)]⟩],[.row false 2 (.int .i64) x1]=>some ⟨.one ⟨false,[.val (.bool (bitsB x0 x1))]⟩,[.row false 2 acT x1],[],[leN x1.length 9223372036854775807]⟩
 |_,_=>none
def tO:PF prog:=PF.alt adp Ua (by
 intro args es o h dh;unfold Ua at h;split at h
 ·rename_i x0 x1
  cases h
  have dh:=qA dh
  have hh:=agD x0 x1 dh
  obtain⟨e0,en⟩:=hh
  exact vG rfl (qB en) (by simp only [e0] <;> rfl) rfl rfl
 ·cases h)
def TU:List SV→List Entry→Option Out
 | [.one ⟨false,[.ref 0]⟩,.one ⟨false,[.val (.int .i64 x0)]⟩],[.row false 2 (.int .i64) x1]=>some ⟨.one ⟨false,[.val (.bool (bitsB x0 x1))]⟩,[.row false 2 acT x1],[],[leN x1.length 9223372036854775807]⟩
 |_,_=>none
def tN:PF prog:=PF.alt adh TU (by
 intro args es o h dh;unfold TU at h;split at h
 ·rename_i x0 x1
  cases h
  have dh:=qA dh
  have hh:=af2 x0 x1 dh
  obtain⟨e0,en⟩:=hh
  exact vG rfl (qB en) (by simp only [e0] <;> rfl) rfl rfl
 ·cases h)
abbrev nq:=Int×Int×List (Int×(ByteArray×Int))
section
variable (y0 y1:Int)(y2:List (Int×(ByteArray×Int)))
def vh:Int:=rL (((Option.getD y2[Int.toNat y0]? ((0:Int),ByteArray.empty,(0:Int))).2).1) y1
def wT:Bool:=ltI y0 (↑y2.length:Int)
def Bd:Bool:=leI (0:Int) y0
def Be:Bool:=ltN y0.toNat y2.length
def Bf:Bool:=ltI (vh y0 y1 y2) (0:Int)
end
def tJ:Int:=(-1:Int)
def Bg(y0:Int):Int:=IntKind.wrap .i64 (y0 + (1:Int))
def Bh(y0 y1:Int)(y2:List (Int×(ByteArray×Int))):Int:=vh y0 y1 y2
def Xq:nq→List (Nat×SV)
 |(y0,y1,_)=> [(5,(.one ⟨false,[.val (.int .i64 y0)]⟩)),(0,(.one ⟨false,[.ref 0]⟩)),(1,(.one ⟨false,[.val (.int .i64 y1)]⟩))]
def Xg:nq→List (Nat×Entry)
 |(_,_,y2)=> [(0,(.row false 175 abW y2))]
def XM:Nat→nq→List (Nat×SV)
 |0,(_,_,_)=> [(4,(.one ⟨false,[.val (.int .i64 (tJ))]⟩))]
 |_,(_,y1,_)=> [(1,(.one ⟨false,[.val (.int .i64 y1)]⟩))]
def XA:Nat→nq→List (Nat×Entry)
 |0,(_,_,y2)=> [(0,(.row false 175 abW y2))]
 |_,(_,_,y2)=> [(0,(.row false 175 abW y2))]
def ze:nq→LT nq
 |(y0,y1,y2)=> .ite (wT y0 y2) (.need [Bd y0,wT y0 y2,Be y0 y2] (.ite (Bf y0 y1 y2) (.ext 0 [(0,0)]) (.nrm ((Bg y0),Bh y0 y1 y2,y2) [(0,0)]))) (.ext 1 [(0,0)])
def Jb(s:St):Option nq:=
 (match s.look 5 with
 |some ⟨none,.one ⟨false,[.val (.int .i64 y0)]⟩⟩=>
 (match s.look 0 with
 |some ⟨none,.one ⟨false,[.ref 0]⟩⟩=>
 (match s.look 1 with
 |some ⟨none,.one ⟨false,[.val (.int .i64 y1)]⟩⟩=>
 (match s.ent 0 with
 |some (.row false 175 (.pair (.int .i64) (.pair .str (.int .i64))) y2)=>
 some (y0,y1,y2)
 |_=>none)
 |_=>none)
 |_=>none)
 |_=>none)
def eF:Lp nq where
 h:=⟨[12,13,14,15,18,19,20,21,22,23,1,24,25,4,16,17,5],[0],[],[]⟩
 JL:=Xq
 JE:=Xg
 XL:=XM
 XE:=XA
 q:=fun j=>match j with | 0=> .ret | _=> .exit 0
 tags:= [0,1]
 lt:=ze
 fuel:=fun(y0,y1,y2)=>y0.natAbs + y1.natAbs + y2.length
 fix:=fun(_,_,y2) (y0,y1,_)=>(y0,y1,y2)
 σ:= [(0,0)]
 rd:=Jb
theorem UI:LoopOk prog (fun k=>Nat.blt k Tryz.f84.ntmps) eF.F (aZ f84 0):=by
 refine Lp.ok (tbl:= [WV]) (lf:= []) aP eF (by kernel_rfl) (LOk.nil _) (fun _=>rfl) (fun j _=>by unfold eF;match j with | 0=>rfl | _ + 1=>rfl) ?_ ?_ ?_ ?_ (fun _=>rfl) ?_
 ·rintro⟨y0,y1,y2⟩;kernel_rfl
 ·rintro⟨y0,y1,y2⟩;kernel_rfl
 ·intro s x h
  have h:Jb s=some x:=h
  unfold Jb at h
  repeat' split at h
  all_goals cases h
  exact⟨aa (by assumption) rfl (aa (by assumption) rfl (aa (by assumption) rfl (rfl))),ab rfl (by assumption) rfl (rfl)⟩
 ·rintro⟨y0,y1,y2⟩;kernel_rfl
 ·rintro⟨y0,y1,y2⟩ z;exact(And.intro (And.intro trivial rfl) trivial)
section
variable (x0:Int)(x1:List (Int×ByteArray×Int))
def Iq:Int:=IntKind.wrap .i64 (x0 - (↑x1.length:Int))
def Ir:Int×Int×List (Int×ByteArray×Int):=((0:Int),Iq x0 x1,x1)
def Oc:Int:=bif ltI (Iq x0 x1) (0:Int)then(-1:Int)else bif Nat.beq ((Lp.res eF (Ir x0 x1)).1) (0:Nat)then tJ else ((Lp.res eF (Ir x0 x1)).2.2).1
def Od:Bool:=allT [ltI (Iq x0 x1) (0:Int)||Lp.fin eF (Ir x0 x1)]
end
def Tr:List SV→List Entry→Option Out
 | [.one ⟨false,[.ref 0]⟩,.one ⟨false,[.val (.int .i64 x0)]⟩],[.row false 175 (.pair (.int .i64) (.pair (.str) (.int .i64))) x1]=>some ⟨.one ⟨false,[.val (.int .i64 (Oc x0 x1))]⟩,[.row false 175 abW x1],[],[Od x0 x1]⟩
 |_,_=>none
def adj:PF prog:=PF.ofG prog [WV] [eF.F] aP 84 f84 func84 (LOk.fnT (l:= [aZ f84 0]) (by kernel_rfl) (.cons UI (.nil _))) Tr (by
 intro vs es r h;unfold Tr at h;split at h
 ·cases h;kernel_rfl
 ·cases h)
section
variable (x0 x1 x2 x3 x4:Int)(x5:List (Int×ByteArray×Int))
def QX:Bool:=bif x3==(1:Int)then x3==(1:Int)else bif x3==(2:Int)then x3==(2:Int)else x3==(3:Int)
def QY:Bool:=bif x3==(5:Int)then x3==(5:Int)else x3==(6:Int)
def QZ:Bool:=bif x3==(8:Int)then x3==(8:Int)else x3==(9:Int)
def ace:Int:=bif QX x3 then(0:Int)else bif x3==(4:Int)then(1:Int)else bif QY x3 then(2:Int)else bif x3==(7:Int)then lx ((Option.getD x5[Int.toNat x4]? ((0:Int),ByteArray.empty,(0:Int))).1)else bif QZ x3 then(1:Int)else(0:Int)
def acf:Int:=bif QX x3 then(1:Int)else bif x3==(4:Int)then(1:Int)else bif QY x3 then(1:Int)else bif x3==(7:Int)then(1:Int)else bif QZ x3 then(0:Int)else(0:Int)
def adH:Bool:=bif x3==(1:Int)then br x4 (0:Int) (1:Int)else bif bif x3==(2:Int)then x3==(2:Int)else x3==(10:Int)then br x4 (0:Int) (IntKind.wrap .i64 (x0 - (1:Int)))else bif bif x3==(3:Int)then x3==(3:Int)else bif x3==(8:Int)then x3==(8:Int)else x3==(11:Int)then br x4 (0:Int) (IntKind.wrap .i64 (x1 - (1:Int)))else bif bif x3==(4:Int)then x3==(4:Int)else bif x3==(5:Int)then x3==(5:Int)else x3==(6:Int)then x4==(0:Int)else bif x3==(7:Int)then br x4 (0:Int) (IntKind.wrap .i64 ((↑x5.length:Int) - (1:Int)))else bif x3==(9:Int)then br x4 (0:Int) (IntKind.wrap .i64 (x2 - (1:Int)))else false
end
abbrev nt:=Int×List (Int×(ByteArray×Int))×List (Int×(ByteArray×Int))
section
variable (y0:Int)(y1 y2:List (Int×(ByteArray×Int)))
def sa:Int×ByteArray×Int:=Option.getD y1[Int.toNat y0]? ((0:Int),ByteArray.empty,(0:Int))
def wX:Bool:=ltI y0 (↑y1.length:Int)
def wY:Bool:=leI (0:Int) y0
def Bn:Bool:=ltN y0.toNat y1.length
def Bo:Bool:=ltI y0 (↑y2.length:Int)
def Bp:Bool:=ltN y0.toNat y2.length
def Bq:Int:=IntKind.wrap .i64 (y0 + (1:Int))
def Br:List (Int×(ByteArray×Int)):=List.set y2 y0.toNat ((sa y0 y1).1,((sa y0 y1).2).1,(sa y0 y1).2.2)
end
def Xs:nt→List (Nat×SV)
 |(y0,_,_)=> [(4,(.one ⟨false,[.val (.int .i64 y0)]⟩)),(0,(.one ⟨false,[.ref 0]⟩)),(3,(.one ⟨false,[.ref 1]⟩))]
def Xi:nt→List (Nat×Entry)
 |(_,y1,y2)=> [(0,(.row false 175 abW y1)),(1,(.row true 178 abW y2))]
def XO:Nat→nt→List (Nat×SV)
 |_,(_,_,_)=> []
def XC:Nat→nt→List (Nat×Entry)
 |_,(_,y1,y2)=> [(0,(.row false 175 abW y1)),(1,(.row true 178 abW y2))]
def zg:nt→LT nt
 |(y0,y1,y2)=> .ite (wX y0 y1) (.need [wY y0,wX y0 y1,Bn y0 y1,wY y0,Bo y0 y2,Bp y0 y2] (.nrm ((Bq y0),y1,(Br y0 y1 y2)) [(0,0),(1,1)])) (.ext 0 [(0,0),(1,1)])
def Jd(s:St):Option nt:=
 (match s.look 4 with
 |some ⟨none,.one ⟨false,[.val (.int .i64 y0)]⟩⟩=>
 (match s.look 0 with
 |some ⟨none,.one ⟨false,[.ref 0]⟩⟩=>
 (match s.look 3 with
 |some ⟨none,.one ⟨false,[.ref 320]⟩⟩=>
 (match s.ent 0 with
 |some (.row false 175 (.pair (.int .i64) (.pair .str (.int .i64))) y1)=>
 (match s.ent 320 with
 |some (.row true 178 (.pair (.int .i64) (.pair .str (.int .i64))) y2)=>
 some (y0,y1,y2)
 |_=>none)
 |_=>none)
 |_=>none)
 |_=>none)
 |_=>none)
def gX:Lp nt where
 h:=⟨[8,9,10,11,14,15,16,17,18,19,20,21,12,13,4],[0,1],[],[]⟩
 JL:=Xs
 JE:=Xi
 XL:=XO
 XE:=XC
 q:=fun j=>match j with | _=> .exit 0
 tags:= [0]
 lt:=zg
 fuel:=fun(y0,y1,y2)=>y0.natAbs + y1.length + y2.length
 fix:=fun(_,y1,_) (y0,_,y2)=>(y0,y1,y2)
 σ:= [(0,0),(1,320)]
 rd:=Jd
theorem UK:LoopOk prog (fun k=>Nat.blt k Tryz.f90.ntmps) gX.F (aZ f90 0):=by
 refine Lp.ok (tbl:= [WW]) (lf:= []) aP gX (by kernel_rfl) (LOk.nil _) (fun _=>rfl) (fun _ _=>rfl) ?_ ?_ ?_ ?_ (fun _=>rfl) ?_
 ·rintro⟨y0,y1,y2⟩;kernel_rfl
 ·rintro⟨y0,y1,y2⟩;kernel_rfl
 ·intro s x h
  have h:Jd s=some x:=h
  unfold Jd at h
  repeat' split at h
  all_goals cases h
  exact⟨aa (by assumption) rfl (aa (by assumption) rfl (aa (by assumption) rfl (rfl))),ab rfl (by assumption) rfl (ab rfl (by assumption) rfl (rfl))⟩
 ·rintro⟨y0,y1,y2⟩;kernel_rfl
 ·rintro⟨y0,y1,y2⟩ z;exact(And.intro rfl trivial)
def Iv(x0:List (Int×ByteArray×Int)):Int×List (Int×ByteArray×Int)×List (Int×ByteArray×Int):=
 ((0:Int),x0,List.replicate (Int.toNat (↑x0.length:Int)) ((0:Int),{ data:= #[] },(0:Int)))
def Kw(x0:List (Int×ByteArray×Int)):List (Int×(ByteArray×Int)):=(Lp.res gX (Iv x0)).2.2.2
def Kx(x0:List (Int×ByteArray×Int)):Bool:=allT [leI (0:Int) (↑x0.length:Int),leI (↑x0.length:Int) (↑x0.length:Int),leI ((↑(32:Nat):Int) * (↑x0.length:Int)) (281474976710656:Int),leI (↑x0.length:Int) (9223372036854775807:Int),Lp.fin gX (Iv x0)]
def Tt:List SV→List Entry→Option Out
 | [.one ⟨false,[.ref 0]⟩],[.row false 175 (.pair (.int .i64) (.pair (.str) (.int .i64))) x0]=>some ⟨.one ⟨false,[.ref 1]⟩,[.row false 175 abW x0],[.row true 178 abW (Kw x0)],[Kx x0]⟩
 |_,_=>none
def adk:PF prog:=PF.ofG prog [WW] [gX.F] aP 90 f90 func90 (LOk.fnT (l:= [aZ f90 0]) (by kernel_rfl) (.cons UK (.nil _))) Tt (by
 intro vs es r h;unfold Tt at h;split at h
 ·cases h;kernel_rfl
 ·cases h)
def qv(x0:Int):Int:=bif bif x0==(1:Int)then x0==(1:Int)else bif x0==(2:Int)then x0==(2:Int)else x0==(3:Int)then(0:Int)else bif bif x0==(4:Int)then x0==(4:Int)else bif x0==(7:Int)then x0==(7:Int)else bif x0==(8:Int)then x0==(8:Int)else x0==(9:Int)then(1:Int)else(2:Int)
def Ql:List SV→List Entry→Option Out
 | [.one ⟨false,[.val (.int .i64 x0)]⟩],[]=>some ⟨.one ⟨false,[.val (.int .i64 (qv x0))]⟩,[],[],[]⟩
 |_,_=>none
def GV:PF prog:=PF.ofG prog [] [] aP 222 f222 func222 (fun c _=>LOk.nil c) Ql (by
 intro vs es r h;unfold Ql at h;split at h
 ·cases h;kernel_rfl
 ·cases h)
abbrev ba:=Int×Int×List (Int×(ByteArray×Int))×List Int×List (Int×(Int×Int))
section
variable (y0 y1:Int)(y2:List (Int×(ByteArray×Int)))(y4:List (Int×(Int×Int)))
def dm:Int×ByteArray×Int:=Option.getD y2[Int.toNat y0]? ((0:Int),ByteArray.empty,(0:Int))
def cz:Int×Int×Int:=Option.getD y4[Int.toNat y0]? ((0:Int),(0:Int),(0:Int))
def fC:Bool:=ltI y0 y1
def du:Bool:=leI (0:Int) y0
def fD:Bool:=ltI y0 (↑y2.length:Int)
def fE:Bool:=ltN y0.toNat y2.length
def fF:Bool:=ltI y0 (↑y4.length:Int)
def fG:Bool:=ltN y0.toNat y4.length
def fH:Bool:= !wK ((dm y0 y2).1) ((dm y0 y2).2.2) ((cz y0 y4).1) (((cz y0 y4).2).1) ((cz y0 y4).2.2)
def fI:Int:=IntKind.wrap .i64 (y0 + (1:Int))
end
def Dm:ba→List (Nat×SV)
 |(y0,y1,_,_,_)=> [(24,(.one ⟨false,[.val (.int .i64 y0)]⟩)),(23,(.one ⟨false,[.val (.int .i64 y1)]⟩)),(22,(.one ⟨false,[.ref 0]⟩)),(3,(.one ⟨false,[.ptr 1 0]⟩))]
def Dj:ba→List (Nat×Entry)
 |(_,_,y2,y3,y4)=> [(0,(.row false 178 abW y2)),(1,(.box 48 [.ref 2,.ref 3])),(2,(.row false 2 acT y3)),(3,(.row false 172 aaH y4))]
def Dq:Nat→ba→List (Nat×SV)
 |0,(_,_,_,_,_)=> [(6,(.one ⟨false,[.val (.bool false)]⟩))]
 |_,(_,_,_,_,_)=> []
def Do:Nat→ba→List (Nat×Entry)
 |0,(_,_,y2,y3,y4)=> [(0,(.row false 178 abW y2)),(1,(.box 48 [.ref 2,.ref 3])),(2,(.row false 2 acT y3)),(3,(.row false 172 aaH y4))]
 |_,(_,_,y2,y3,y4)=> [(0,(.row false 178 abW y2)),(1,(.box 48 [.ref 2,.ref 3])),(2,(.row false 2 acT y3)),(3,(.row false 172 aaH y4))]
def fl:ba→LT ba
 |(y0,y1,y2,y3,y4)=> .ite (fC y0 y1) (.need [du y0,fD y0 y2,fE y0 y2] (.need [du y0,fF y0 y4,fG y0 y4] (.ite (fH y0 y2 y4) (.ext 0 [(0,0),(1,1),(2,2),(3,3)]) (.nrm ((fI y0),y1,y2,y3,y4) [(0,0),(1,1),(2,2),(3,3)])))) (.ext 1 [(0,0),(1,1),(2,2),(3,3)])
def nF(s:St):Option ba:=
 (match s.look 24 with
 |some ⟨none,.one ⟨false,[.val (.int .i64 y0)]⟩⟩=>
 (match s.look 23 with
 |some ⟨none,.one ⟨false,[.val (.int .i64 y1)]⟩⟩=>
 (match s.look 22 with
 |some ⟨none,.one ⟨false,[.ref 2]⟩⟩=>
 (match s.look 3 with
 |some ⟨none,.one ⟨false,[.ptr 256 0]⟩⟩=>
 (match s.ent 2 with
 |some (.row false 178 (.pair (.int .i64) (.pair .str (.int .i64))) y2)=>
 (match s.ent 256 with
 |some (.box 48 [.ref 0,.ref 1])=>
 (match s.ent 0 with
 |some (.row false 2 (.int .i64) y3)=>
 (match s.ent 1 with
 |some (.row false 172 (.pair (.int .i64) (.pair (.int .i64) (.int .i64))) y4)=>
 some (y0,y1,y2,y3,y4)
 |_=>none)
 |_=>none)
 |_=>none)
 |_=>none)
 |_=>none)
 |_=>none)
 |_=>none)
 |_=>none)
def ao:Lp ba where
 h:=⟨[25,26,27,28,8,7,29,30,31,32,33,34,35,36,6,37,24],[0,1,2,3],[],[]⟩
 JL:=Dm
 JE:=Dj
 XL:=Dq
 XE:=Do
 q:=fun j=>match j with | 0=> .ret | _=> .exit 0
 tags:= [0,1]
 lt:=fl
 fuel:=fun(y0,y1,y2,y3,y4)=>y0.natAbs + y1.natAbs + y2.length + y3.length + y4.length
 fix:=fun(_,y1,y2,y3,y4) (y0,_,_,_,_)=>(y0,y1,y2,y3,y4)
 σ:= [(0,2),(1,256),(2,0),(3,1)]
 rd:=nF
theorem Cf:LoopOk prog (fun k=>Nat.blt k Tryz.f116.ntmps) ao.F (aZ f116 0):=by
 refine Lp.ok (tbl:= [tN,PF.lend tN,PF.fz tN,Ps]) (lf:= []) aP ao (by kernel_rfl) (LOk.nil _) (fun _=>rfl) (fun j _=>by unfold ao;match j with | 0=>rfl | _ + 1=>rfl) ?_ ?_ ?_ ?_ (fun _=>rfl) ?_
 ·rintro⟨y0,y1,y2,y3,y4⟩;kernel_rfl
 ·rintro⟨y0,y1,y2,y3,y4⟩;kernel_rfl
 ·intro s x h
  have h:nF s=some x:=h
  unfold nF at h
  repeat' split at h
  all_goals cases h
  exact⟨aa (by assumption) rfl (aa (by assumption) rfl (aa (by assumption) rfl (aa (by assumption) rfl (rfl)))),ab rfl (by assumption) rfl (ab rfl (by assumption) rfl (ab rfl (by assumption) rfl (ab rfl (by assumption) rfl (rfl))))⟩
 ·rintro⟨y0,y1,y2,y3,y4⟩;kernel_rfl
 ·rintro⟨y0,y1,y2,y3,y4⟩ z;exact(And.intro (And.intro trivial rfl) trivial)
section
variable (x0:Int)(x1:List Int)(x2:List (Int×Int×Int))(x3:List (Int×ByteArray×Int))
def ei:Bool:=bif !bitsB x0 x1 then true else(↑x2.length:Int)!=(↑x3.length:Int)
def oS:Int×Int×List (Int×ByteArray×Int)×List Int×List (Int×Int×Int):=((0:Int),(↑x3.length:Int),x3,x1,x2)
def kZ:Bool:=bif ei x0 x1 x2 x3 then false else bif Nat.beq ((Lp.res ao (oS x1 x2 x3)).1) (0:Nat)then false else true
def la:Bool:=allT [leN x1.length (9223372036854775807:Nat),ei x0 x1 x2 x3||Lp.fin ao (oS x1 x2 x3)]
end
def vC:List SV→List Entry→Option Out
 | [.one ⟨true,[.ref 0,.ref 1]⟩,.one ⟨false,[.val (.int .i64 x0)]⟩,.one ⟨false,[.ref 2]⟩],[.row false 2 (.int .i64) x1,.row false 172 (.pair (.int .i64) (.pair (.int .i64) (.int .i64))) x2,.row false 178 (.pair (.int .i64) (.pair (.str) (.int .i64))) x3]=>some ⟨.one ⟨false,[.val (.bool (kZ x0 x1 x2 x3))]⟩,[.row false 2 acT x1,.row false 172 aaH x2,.row false 178 abW x3],[],[la x0 x1 x2 x3]⟩
 |_,_=>none
def Fy:PF prog:=PF.ofG prog [tN,PF.lend tN,PF.fz tN,Ps] [ao.F] aP 116 f116 func116 (LOk.fnT (l:= [aZ f116 0]) (by kernel_rfl) (.cons Cf (.nil _))) vC (by
 intro vs es r h;unfold vC at h;split at h
 ·cases h;kernel_rfl
 ·cases h)
def qI(x0:List (Int×Int×Int)):Bool:=allT [ltN (0:Nat) x0.length,false||leN ((0:Nat) + List.length x0) (9223372036854775807:Nat),false||leN (((0:Nat) + List.length x0) * (24:Nat)) (140737488355328:Nat)]
def Cu:List SV→List Entry→Option Out
 | [.one ⟨false,[.ref 0]⟩],[.row false 172 (.pair (.int .i64) (.pair (.int .i64) (.int .i64))) x0]=>some ⟨.one ⟨false,[.ref 1]⟩,[.row false 172 aaH x0],[.row true 172 aaH x0],[qI x0]⟩
 |_,_=>none
def LJ:PF prog:=PF.ofG prog [] [] aP 195 f195 func195 (fun c _=>LOk.nil c) Cu (by
 intro vs es r h;unfold Cu at h;split at h
 ·cases h;kernel_rfl
 ·cases h)
def HW(x0:Int)(x1:ByteArray)(x2 x3:Int)(x4:ByteArray)(x5:Int):Bool:=bif x0 !=x3 then false else bif !ByteArray.toList x1==ByteArray.toList x4 then false else bif x2 !=x5 then false else true
def Ww:List SV→List Entry→Option Out
 | [.one ⟨true,[.val (.int .i64 x0),.val (.string x1),.val (.int .i64 x2)]⟩,.one ⟨true,[.val (.int .i64 x3),.val (.string x4),.val (.int .i64 x5)]⟩],[]=>some ⟨.one ⟨false,[.val (.bool (HW x0 x1 x2 x3 x4 x5))]⟩,[],[],[]⟩
 |_,_=>none
def WU:PF prog:=PF.ofG prog [] [] aP 166 f166 func166 (fun c _=>LOk.nil c) Ww (by
 intro vs es r h;unfold Ww at h;split at h
 ·cases h;kernel_rfl
 ·cases h)
abbrev nn:=Int×List (Int×(ByteArray×Int))×List (Int×(ByteArray×Int))
section
variable (y0:Int)(y1 y2:List (Int×(ByteArray×Int)))
def rX:Int×ByteArray×Int:=Option.getD y1[Int.toNat y0]? ((0:Int),ByteArray.empty,(0:Int))
def rY:Int×ByteArray×Int:=Option.getD y2[Int.toNat y0]? ((0:Int),ByteArray.empty,(0:Int))
def wP:Bool:=ltI y0 (↑y1.length:Int)
def wQ:Bool:=leI (0:Int) y0
def AR:Bool:=ltN y0.toNat y1.length
def AU:Bool:=ltI y0 (↑y2.length:Int)
def AV:Bool:=ltN y0.toNat y2.length
def AW:Bool:= !HW ((rX y0 y1).1) (((rX y0 y1).2).1) ((rX y0 y1).2.2) ((rY y0 y2).1) (((rY y0 y2).2).1) ((rY y0 y2).2.2)
def AX:Int:=IntKind.wrap .i64 (y0 + (1:Int))
end
def Xo:nn→List (Nat×SV)
 |(y0,_,_)=> [(5,(.one ⟨false,[.val (.int .i64 y0)]⟩)),(0,(.one ⟨false,[.ref 0]⟩)),(1,(.one ⟨false,[.ref 1]⟩))]
def Xe:nn→List (Nat×Entry)
 |(_,y1,y2)=> [(0,(.row false 178 abW y1)),(1,(.row false 178 abW y2))]
def XJ:Nat→nn→List (Nat×SV)
 |0,(_,_,_)=> [(4,(.one ⟨false,[.val (.bool false)]⟩))]
 |_,(_,_,_)=> []
def Xy:Nat→nn→List (Nat×Entry)
 |0,(_,y1,y2)=> [(0,(.row false 178 abW y1)),(1,(.row false 178 abW y2))]
 |_,(_,y1,y2)=> [(0,(.row false 178 abW y1)),(1,(.row false 178 abW y2))]
def zc:nn→LT nn
 |(y0,y1,y2)=> .ite (wP y0 y1) (.need [wQ y0,wP y0 y1,AR y0 y1,wQ y0,AU y0 y2,AV y0 y2] (.ite (AW y0 y1 y2) (.ext 0 [(0,0),(1,1)]) (.nrm ((AX y0),y1,y2) [(0,0),(1,1)]))) (.ext 1 [(0,0),(1,1)])
def IZ(s:St):Option nn:=
 (match s.look 5 with
 |some ⟨none,.one ⟨false,[.val (.int .i64 y0)]⟩⟩=>
 (match s.look 0 with
 |some ⟨none,.one ⟨false,[.ref 0]⟩⟩=>
 (match s.look 1 with
 |some ⟨none,.one ⟨false,[.ref 1]⟩⟩=>
 (match s.ent 0 with
 |some (.row false 178 (.pair (.int .i64) (.pair .str (.int .i64))) y1)=>
 (match s.ent 1 with
 |some (.row false 178 (.pair (.int .i64) (.pair .str (.int .i64))) y2)=>
 some (y0,y1,y2)
 |_=>none)
 |_=>none)
 |_=>none)
 |_=>none)
 |_=>none)
def fV:Lp nn where
 h:=⟨[11,12,13,14,17,18,19,20,21,22,23,24,25,26,4,15,16,5],[0,1],[],[]⟩
 JL:=Xo
 JE:=Xe
 XL:=XJ
 XE:=Xy
 q:=fun j=>match j with | 0=> .ret | _=> .exit 0
 tags:= [0,1]
 lt:=zc
 fuel:=fun(y0,y1,y2)=>y0.natAbs + y1.length + y2.length
 fix:=fun(_,y1,y2) (y0,_,_)=>(y0,y1,y2)
 σ:= [(0,0),(1,1)]
 rd:=IZ
theorem UG:LoopOk prog (fun k=>Nat.blt k Tryz.f96.ntmps) fV.F (aZ f96 0):=by
 refine Lp.ok (tbl:= [WU]) (lf:= []) aP fV (by kernel_rfl) (LOk.nil _) (fun _=>rfl) (fun j _=>by unfold fV;match j with | 0=>rfl | _ + 1=>rfl) ?_ ?_ ?_ ?_ (fun _=>rfl) ?_
 ·rintro⟨y0,y1,y2⟩;kernel_rfl
 ·rintro⟨y0,y1,y2⟩;kernel_rfl
 ·intro s x h
  have h:IZ s=some x:=h
  unfold IZ at h
  repeat' split at h
  all_goals cases h
  exact⟨aa (by assumption) rfl (aa (by assumption) rfl (aa (by assumption) rfl (rfl))),ab rfl (by assumption) rfl (ab rfl (by assumption) rfl (rfl))⟩
 ·rintro⟨y0,y1,y2⟩;kernel_rfl
 ·rintro⟨y0,y1,y2⟩ z;exact(And.intro (And.intro trivial rfl) trivial)
section
variable (x0 x1:List (Int×ByteArray×Int))
def Il:Bool:=(↑x0.length:Int)!=(↑x1.length:Int)
def Im:Int×List (Int×ByteArray×Int)×List (Int×ByteArray×Int):=((0:Int),x0,x1)
def Ks:Bool:=bif Il x0 x1 then false else bif Nat.beq ((Lp.res fV (Im x0 x1)).1) (0:Nat)then false else true
def Kt:Bool:=allT [Il x0 x1||Lp.fin fV (Im x0 x1)]
end
def Tp:List SV→List Entry→Option Out
 | [.one ⟨false,[.ref 0]⟩,.one ⟨false,[.ref 1]⟩],[.row false 178 (.pair (.int .i64) (.pair (.str) (.int .i64))) x0,.row false 178 (.pair (.int .i64) (.pair (.str) (.int .i64))) x1]=>some ⟨.one ⟨false,[.val (.bool (Ks x0 x1))]⟩,[.row false 178 abW x0,.row false 178 abW x1],[],[Kt x0 x1]⟩
 |_,_=>none
def adi:PF prog:=PF.ofG prog [WU] [fV.F] aP 96 f96 func96 (LOk.fnT (l:= [aZ f96 0]) (by kernel_rfl) (.cons UG (.nil _))) Tp (by
 intro vs es r h;unfold Tp at h;split at h
 ·cases h;kernel_rfl
 ·cases h)
def EL(x0:Int)(x1:List (Int×Int×Int)):Int:=IntKind.wrap .i64 (x0 - (↑x1.length:Int))
def Gf(x0:Int)(x1:List (Int×Int×Int)):Int:=bif ltI (EL x0 x1) (0:Int)then(-1:Int)else EL x0 x1
def Mh:List SV→List Entry→Option Out
 | [.one ⟨false,[.ref 0]⟩,.one ⟨false,[.val (.int .i64 x0)]⟩],[.row false 194 (.pair (.int .i64) (.pair (.int .i64) (.int .i64))) x1]=>some ⟨.one ⟨false,[.val (.int .i64 (Gf x0 x1))]⟩,[.row false 194 aaH x1],[],[]⟩
 |_,_=>none
def UV:PF prog:=PF.ofG prog [] [] aP 100 f100 func100 (fun c _=>LOk.nil c) Mh (by
 intro vs es r h;unfold Mh at h;split at h
 ·cases h;kernel_rfl
 ·cases h)
abbrev gH:=Int×List (Int×(Int×Int))×List (Int×(Int×Int))
section
variable (y0:Int)(y1 y2:List (Int×(Int×Int)))
def ma:Int×Int×Int:=Option.getD y1[Int.toNat y0]? ((0:Int),(0:Int),(0:Int))
def pC:Bool:=ltI y0 (↑y1.length:Int)
def pD:Bool:=leI (0:Int) y0
def sM:Bool:=ltN y0.toNat y1.length
def sN:Bool:=ltI y0 (↑y2.length:Int)
def sO:Bool:=ltN y0.toNat y2.length
def sP:Int:=IntKind.wrap .i64 (y0 + (1:Int))
def sQ:List (Int×(Int×Int)):=List.set y2 y0.toNat ((ma y0 y1).1,((ma y0 y1).2).1,(ma y0 y1).2.2)
end
def PI:gH→List (Nat×SV)
 |(y0,_,_)=> [(4,(.one ⟨false,[.val (.int .i64 y0)]⟩)),(0,(.one ⟨false,[.ref 0]⟩)),(3,(.one ⟨false,[.ref 1]⟩))]
def PE:gH→List (Nat×Entry)
 |(_,y1,y2)=> [(0,(.row false 194 aaH y1)),(1,(.row true 172 aaH y2))]
def PO:Nat→gH→List (Nat×SV)
 |_,(_,_,_)=> []
def PL:Nat→gH→List (Nat×Entry)
 |_,(_,y1,y2)=> [(0,(.row false 194 aaH y1)),(1,(.row true 172 aaH y2))]
def rN:gH→LT gH
 |(y0,y1,y2)=> .ite (pC y0 y1) (.need [pD y0,pC y0 y1,sM y0 y1,pD y0,sN y0 y2,sO y0 y2] (.nrm ((sP y0),y1,(sQ y0 y1 y2)) [(0,0),(1,1)])) (.ext 0 [(0,0),(1,1)])
def BU(s:St):Option gH:=
 (match s.look 4 with
 |some ⟨none,.one ⟨false,[.val (.int .i64 y0)]⟩⟩=>
 (match s.look 0 with
 |some ⟨none,.one ⟨false,[.ref 0]⟩⟩=>
 (match s.look 3 with
 |some ⟨none,.one ⟨false,[.ref 320]⟩⟩=>
 (match s.ent 0 with
 |some (.row false 194 (.pair (.int .i64) (.pair (.int .i64) (.int .i64))) y1)=>
 (match s.ent 320 with
 |some (.row true 172 (.pair (.int .i64) (.pair (.int .i64) (.int .i64))) y2)=>
 some (y0,y1,y2)
 |_=>none)
 |_=>none)
 |_=>none)
 |_=>none)
 |_=>none)
def cU:Lp gH where
 h:=⟨[8,9,10,11,14,15,16,17,18,19,20,21,12,13,4],[0,1],[],[]⟩
 JL:=PI
 JE:=PE
 XL:=PO
 XE:=PL
 q:=fun j=>match j with | _=> .exit 0
 tags:= [0]
 lt:=rN
 fuel:=fun(y0,y1,y2)=>y0.natAbs + y1.length + y2.length
 fix:=fun(_,y1,_) (y0,_,y2)=>(y0,y1,y2)
 σ:= [(0,0),(1,320)]
 rd:=BU
theorem Oh:LoopOk prog (fun k=>Nat.blt k Tryz.f102.ntmps) cU.F (aZ f102 0):=by
 refine Lp.ok (tbl:= [Nu]) (lf:= []) aP cU (by kernel_rfl) (LOk.nil _) (fun _=>rfl) (fun _ _=>rfl) ?_ ?_ ?_ ?_ (fun _=>rfl) ?_
 ·rintro⟨y0,y1,y2⟩;kernel_rfl
 ·rintro⟨y0,y1,y2⟩;kernel_rfl
 ·intro s x h
  have h:BU s=some x:=h
  unfold BU at h
  repeat' split at h
  all_goals cases h
  exact⟨aa (by assumption) rfl (aa (by assumption) rfl (aa (by assumption) rfl (rfl))),ab rfl (by assumption) rfl (ab rfl (by assumption) rfl (rfl))⟩
 ·rintro⟨y0,y1,y2⟩;kernel_rfl
 ·rintro⟨y0,y1,y2⟩ z;exact(And.intro rfl trivial)
section
variable (x0:List (Int×Int×Int))
def Ac:Int×List (Int×Int×Int)×List (Int×Int×Int):=((0:Int),x0,List.replicate (Int.toNat (↑x0.length:Int)) ((0:Int),(0:Int),(0:Int)))
def Bi:List (Int×(Int×Int)):=(Lp.res cU (Ac x0)).2.2.2
def Bj:Bool:=allT [leI (0:Int) (↑x0.length:Int),leI (↑x0.length:Int) (↑x0.length:Int),leI ((↑(24:Nat):Int) * (↑x0.length:Int)) (281474976710656:Int),leI (↑x0.length:Int) (9223372036854775807:Int),Lp.fin cU (Ac x0)]
end
def Mi:List SV→List Entry→Option Out
 | [.one ⟨false,[.ref 0]⟩],[.row false 194 (.pair (.int .i64) (.pair (.int .i64) (.int .i64))) x0]=>some ⟨.one ⟨false,[.ref 1]⟩,[.row false 194 aaH x0],[.row true 172 aaH (Bi x0)],[Bj x0]⟩
 |_,_=>none
def UW:PF prog:=PF.ofG prog [Nu] [cU.F] aP 102 f102 func102 (LOk.fnT (l:= [aZ f102 0]) (by kernel_rfl) (.cons Oh (.nil _))) Mi (by
 intro vs es r h;unfold Mi at h;split at h
 ·cases h;kernel_rfl
 ·cases h)
abbrev gG:=Int×List (Int×(Int×Int))×List (Int×(Int×Int))
section
variable (y0:Int)(y1 y2:List (Int×(Int×Int)))
def lX:Int×Int×Int:=Option.getD y1[Int.toNat y0]? ((0:Int),(0:Int),(0:Int))
def lY:Int×Int×Int:=Option.getD y2[Int.toNat y0]? ((0:Int),(0:Int),(0:Int))
def pA:Bool:=ltI y0 (↑y1.length:Int)
def pB:Bool:=leI (0:Int) y0
def sG:Bool:=ltN y0.toNat y1.length
def sH:Bool:=ltI y0 (↑y2.length:Int)
def sI:Bool:=ltN y0.toNat y2.length
def sJ:Bool:= !xu ((lX y0 y1).1) (((lX y0 y1).2).1) ((lX y0 y1).2.2) ((lY y0 y2).1) (((lY y0 y2).2).1) ((lY y0 y2).2.2)
def sK:Int:=IntKind.wrap .i64 (y0 + (1:Int))
end
def PH:gG→List (Nat×SV)
 |(y0,_,_)=> [(5,(.one ⟨false,[.val (.int .i64 y0)]⟩)),(0,(.one ⟨false,[.ref 0]⟩)),(1,(.one ⟨false,[.ref 1]⟩))]
def PD:gG→List (Nat×Entry)
 |(_,y1,y2)=> [(0,(.row false 172 aaH y1)),(1,(.row false 172 aaH y2))]
def PN:Nat→gG→List (Nat×SV)
 |0,(_,_,_)=> [(4,(.one ⟨false,[.val (.bool false)]⟩))]
 |_,(_,_,_)=> []
def PK:Nat→gG→List (Nat×Entry)
 |0,(_,y1,y2)=> [(0,(.row false 172 aaH y1)),(1,(.row false 172 aaH y2))]
 |_,(_,y1,y2)=> [(0,(.row false 172 aaH y1)),(1,(.row false 172 aaH y2))]
def rM:gG→LT gG
 |(y0,y1,y2)=> .ite (pA y0 y1) (.need [pB y0,pA y0 y1,sG y0 y1,pB y0,sH y0 y2,sI y0 y2] (.ite (sJ y0 y1 y2) (.ext 0 [(0,0),(1,1)]) (.nrm ((sK y0),y1,y2) [(0,0),(1,1)]))) (.ext 1 [(0,0),(1,1)])
def BT(s:St):Option gG:=
 (match s.look 5 with
 |some ⟨none,.one ⟨false,[.val (.int .i64 y0)]⟩⟩=>
 (match s.look 0 with
 |some ⟨none,.one ⟨false,[.ref 0]⟩⟩=>
 (match s.look 1 with
 |some ⟨none,.one ⟨false,[.ref 1]⟩⟩=>
 (match s.ent 0 with
 |some (.row false 172 (.pair (.int .i64) (.pair (.int .i64) (.int .i64))) y1)=>
 (match s.ent 1 with
 |some (.row false 172 (.pair (.int .i64) (.pair (.int .i64) (.int .i64))) y2)=>
 some (y0,y1,y2)
 |_=>none)
 |_=>none)
 |_=>none)
 |_=>none)
 |_=>none)
def cv:Lp gG where
 h:=⟨[11,12,13,14,17,18,19,20,21,22,23,24,25,26,4,15,16,5],[0,1],[],[]⟩
 JL:=PH
 JE:=PD
 XL:=PN
 XE:=PK
 q:=fun j=>match j with | 0=> .ret | _=> .exit 0
 tags:= [0,1]
 lt:=rM
 fuel:=fun(y0,y1,y2)=>y0.natAbs + y1.length + y2.length
 fix:=fun(_,y1,y2) (y0,_,_)=>(y0,y1,y2)
 σ:= [(0,0),(1,1)]
 rd:=BT
theorem Og:LoopOk prog (fun k=>Nat.blt k Tryz.f103.ntmps) cv.F (aZ f103 0):=by
 refine Lp.ok (tbl:= [Nt]) (lf:= []) aP cv (by kernel_rfl) (LOk.nil _) (fun _=>rfl) (fun j _=>by unfold cv;match j with | 0=>rfl | _ + 1=>rfl) ?_ ?_ ?_ ?_ (fun _=>rfl) ?_
 ·rintro⟨y0,y1,y2⟩;kernel_rfl
 ·rintro⟨y0,y1,y2⟩;kernel_rfl
 ·intro s x h
  have h:BT s=some x:=h
  unfold BT at h
  repeat' split at h
  all_goals cases h
  exact⟨aa (by assumption) rfl (aa (by assumption) rfl (aa (by assumption) rfl (rfl))),ab rfl (by assumption) rfl (ab rfl (by assumption) rfl (rfl))⟩
 ·rintro⟨y0,y1,y2⟩;kernel_rfl
 ·rintro⟨y0,y1,y2⟩ z;exact(And.intro (And.intro trivial rfl) trivial)
section
variable (x0 x1:List (Int×Int×Int))
def Aa:Bool:=(↑x0.length:Int)!=(↑x1.length:Int)
def Ab:Int×List (Int×Int×Int)×List (Int×Int×Int):=((0:Int),x0,x1)
def AK:Bool:=bif Aa x0 x1 then false else bif Nat.beq ((Lp.res cv (Ab x0 x1)).1) (0:Nat)then false else true
def AL:Bool:=allT [Aa x0 x1||Lp.fin cv (Ab x0 x1)]
end
def Mg:List SV→List Entry→Option Out
 | [.one ⟨false,[.ref 0]⟩,.one ⟨false,[.ref 1]⟩],[.row false 172 (.pair (.int .i64) (.pair (.int .i64) (.int .i64))) x0,.row false 172 (.pair (.int .i64) (.pair (.int .i64) (.int .i64))) x1]=>some ⟨.one ⟨false,[.val (.bool (AK x0 x1))]⟩,[.row false 172 aaH x0,.row false 172 aaH x1],[],[AL x0 x1]⟩
 |_,_=>none
def UU:PF prog:=PF.ofG prog [Nt] [cv.F] aP 103 f103 func103 (LOk.fnT (l:= [aZ f103 0]) (by kernel_rfl) (.cons Og (.nil _))) Mg (by
 intro vs es r h;unfold Mg at h;split at h
 ·cases h;kernel_rfl
 ·cases h)
abbrev BS:=Int×Int×Int
def SB(k n:Int)(l:List Int)(s:BS):BS:=(gS k n s.1 s.2.1 s.2.2 l,gT k s.2.1 s.2.2 l,gU k n s.1 s.2.2 l)
def aj9(k n:Int)(l:List Int)(s:BS):Int:=gd k n s.1 s.2.1 s.2.2 l
theorem ajq{k n a b c:Int}{s:ByteArray}{l:List Int}(hB:Rq k s n=true)(hP:possB k n a b c=true)(hA:bitsB (takesK k) l=true):
  (yq k n a b c l,yt k b c l,yu k n a b c l)=SB k n l (a,b,c)∧possB k n (SB k n l (a,b,c)).1 (SB k n l (a,b,c)).2.1 (SB k n l (a,b,c)).2.2=true:=by
 obtain⟨_,e1,e2,e3,_,_,e6⟩:=afu hB hP hA
 exact⟨by rw [e1,e2,e3];rfl,e6⟩
abbrev TM:=Int×ByteArray×Int
theorem afK{a b:ByteArray}:a.toList=b.toList↔a=b:=by
 constructor
 ·intro h
  rw [Go.Lib.toList_data,Go.Lib.toList_data]at h
  exact ByteArray.ext (Array.toList_inj.1 h)
 ·intro h;rw [h]
def ad6:List TM→Nat
 | []=>0
 |t::r=>t.2.1.size + ad6 r
def aix(xs ys:List (Int×ByteArray×Int)):Bool:=decide (xs=ys)
theorem aiy(xs:List (Int×ByteArray×Int)):aix xs xs=true:=by simp [aix]
def tE(y1:List (Int×(ByteArray×Int)))(b:Nat):(List (Int×(ByteArray×Int)))→Nat ⊕ (List (Int×(ByteArray×Int)))
 |y2=>(.inr (List.set y2 b ((Option.getD y1[b]? ((0:Int),ByteArray.empty,(0:Int))).1,((Option.getD y1[b]? ((0:Int),ByteArray.empty,(0:Int))).2).1,(Option.getD y1[b]? ((0:Int),ByteArray.empty,(0:Int))).2.2)))
def qo(y1:List (Int×(ByteArray×Int)))(i:Nat):(List (Int×(ByteArray×Int)))→nt
 |y2=>((i:Int),y1,y2)
def IW:nt→List (Int×(ByteArray×Int))
 |(_,_,y2)=>y2
theorem aan(y1 y2:List (Int×(ByteArray×Int)))(hn:y1.length≤9223372036854775807)(hl:y2.length=y1.length):
  gX.fin ((0:Int),y1,y2)=true∧gX.res ((0:Int),y1,y2)=((aC (tE y1) 0 (List.range y1.length) 0 y2).1,(qo y1) (aC (tE y1) 0 (List.range y1.length) 0 y2).2.1 (aC (tE y1) 0 (List.range y1.length) 0 y2).2.2):=by
 have kw:=gX.along (qo y1) IW (tE y1) 0 (fun _ a=>a.length=y1.length) (List.range y1.length) y2 hl (by simp only [gX,qo,List.length_range];omega) (fun i b a hb hI=> ?_) (fun a hI=> ?_)
 ·exact kw
 ·obtain y2:=a
  obtain⟨rfl,fy⟩:=ul hb
  have hw:IntKind.i64.wrap ((b:Int) + 1)=((b + 1:Nat):Int):=by rw [cg (by omega) (by omega)];omega
  have cM:ltI (b:Int) (y1.length:Int)=true:=gg (by omega)
  have xj:leI (0:Int) (b:Int)=true:=cW (by omega)
  have jC:ltN b y1.length=true:=iF (by omega)
  refine⟨?_,?_,?_,?_⟩
  ·simp [sa,wX,wY,Bn,Bo,Bp,Bq,Br,zg,gX,LT.nds,allT,qo,cM,xj,jC,hI]
  ·simp [sa,wX,wY,Bn,Bo,Bp,Bq,Br,zg,gX,LT.each,qo,IW,hw,hI]
  ·simp only [sa,wX,wY,Bn,Bo,Bp,Bq,Br,zg,gX,LT.fn,qo,IW,tE,Int.toNat_natCast,cM,cond_true]
  ·intro a' hf;simp only [tE,Sum.inr.injEq]at hf;subst hf;simpa using hI
 ·obtain y2:=a
  simp [sa,wX,wY,Bn,Bo,Bp,Bq,Br,zg,gX,LT.out,qo,List.length_range]
def wH(y1 y2:List (Int×(ByteArray×Int)))(b:Nat):(Unit)→Nat ⊕ (Unit)
 |_=>(bif(!HW ((Option.getD y1[b]? ((0:Int),ByteArray.empty,(0:Int))).1) (((Option.getD y1[b]? ((0:Int),ByteArray.empty,(0:Int))).2).1) ((Option.getD y1[b]? ((0:Int),ByteArray.empty,(0:Int))).2.2) ((Option.getD y2[b]? ((0:Int),ByteArray.empty,(0:Int))).1) (((Option.getD y2[b]? ((0:Int),ByteArray.empty,(0:Int))).2).1) ((Option.getD y2[b]? ((0:Int),ByteArray.empty,(0:Int))).2.2))then(.inl 0)else(.inr ()))
def sv(y1 y2:List (Int×(ByteArray×Int)))(i:Nat):(Unit)→nn
 |_=>((i:Int),y1,y2)
def IQ:nn→Unit
 |(_,_,_)=>()
theorem aaj(y1 y2:List (Int×(ByteArray×Int))) (hn:y1.length≤9223372036854775807) (he:y2.length=y1.length):
  fV.fin ((0:Int),y1,y2)=true∧fV.res ((0:Int),y1,y2)=((aC (wH y1 y2) 1 (List.range y1.length) 0 ()).1,(sv y1 y2) (aC (wH y1 y2) 1 (List.range y1.length) 0 ()).2.1 (aC (wH y1 y2) 1 (List.range y1.length) 0 ()).2.2):=by
 have kw:=fV.along (sv y1 y2) IQ (wH y1 y2) 1 (fun _ _=>True) (List.range y1.length) () (by trivial) (by simp only [fV,sv,List.length_range];omega) (fun i b a hb hI=> ?_) (fun a hI=> ?_)
 ·exact kw
 ·obtain⟨⟩:=a
  obtain⟨rfl,fy⟩:=ul hb
  have hw:IntKind.i64.wrap ((b:Int) + 1)=((b + 1:Nat):Int):=by rw [cg (by omega) (by omega)];omega
  have cM:ltI (b:Int) (y1.length:Int)=true:=gg (by omega)
  have xj:leI (0:Int) (b:Int)=true:=cW (by omega)
  have jC:ltN b y1.length=true:=iF (by omega)
  refine⟨?_,?_,?_,?_⟩
  ·simp [rX,rY,wP,wQ,AR,AU,AV,AW,AX,zc,fV,LT.nds,allT,sv,cM,xj,jC,he]
  ·simp [rX,rY,wP,wQ,AR,AU,AV,AW,AX,zc,fV,LT.each,sv,IQ,hw,he]
  ·simp only [rX,rY,wP,wQ,AR,AU,AV,AW,AX,zc,fV,LT.fn,sv,IQ,wH,Int.toNat_natCast,cM,cond_true]
  ·exact fun _ _=>trivial
 ·obtain⟨⟩:=a
  simp [rX,rY,wP,wQ,AR,AU,AV,AW,AX,zc,fV,LT.out,sv,List.length_range]
theorem ahX(xs:List (Int×ByteArray×Int))(hn:leN xs.length 1048576=true):Kw xs=xs∧Kx xs=true:=by
 have hn:=ij.1 hn
 have hr:(List.replicate (Int.toNat (xs.length:Int)) ((0:Int),(⟨#[]⟩:ByteArray),(0:Int))).length=xs.length:=by simp
 obtain⟨w1,w2⟩:=aan xs (List.replicate (Int.toNat (xs.length:Int)) ((0:Int),(⟨#[]⟩:ByteArray),(0:Int))) (by omega) hr
 have hc:=Rc (xs:=xs) (d:=((0:Int),(⟨#[]⟩:ByteArray),(0:Int))) (g:=fun x=>x) (f:=tE xs) (e:=0) (fun b a=>rfl) hr
 rw [hc]at w2
 refine⟨?_,?_⟩
 ·simp only [Iv,Kw,Kx,w2,qo];simp
 ·simp only [Iv,Kw,Kx,w1,allT];simp;omega
def TX:List SV→List Entry→Option Out
 | [.one ⟨false,[.ref 0]⟩],[.row false 175 (.pair (.int .i64) (.pair (.str) (.int .i64))) x0]=>some ⟨.one ⟨false,[.ref 1]⟩,[.row false 175 abW x0],[.row true 178 abW x0],[leN x0.length 1048576]⟩
 |_,_=>none
def Oo:PF prog:=PF.alt adk TX (by
 intro args es o h dh;unfold TX at h;split at h
 ·rename_i x0
  cases h
  have dh:=qA dh
  have hh:=ahX x0 dh
  obtain⟨e0,en⟩:=hh
  exact vG rfl (qB en) rfl rfl (by simp only [e0] <;> rfl)
 ·cases h)
theorem ahd(xs ys:List (Int×ByteArray×Int))(hn:leN xs.length 9223372036854775807=true):Ks xs ys=aix xs ys∧Kt xs ys=true:=by
 have hn:=ij.1 hn
 unfold aix
 have h3: ∀ a b:Int×ByteArray×Int,(!HW a.1 a.2.1 a.2.2 b.1 b.2.1 b.2.2)= !decide (a=b):=fun a b=>by
  obtain⟨a1,a2,a3⟩:=a;obtain⟨b1,b2,b3⟩:=b
  simp only [HW,Prod.mk.injEq]
  by_cases h1:a1=b1 <;> by_cases h2:a2=b2 <;> by_cases h3:a3=b3 <;> simp [h1,h2,h3,afK]
 by_cases hl:ys.length=xs.length
 ·obtain⟨w1,w2⟩:=aaj xs ys hn hl
  have ha:=aeQ (d:=((0:Int),ByteArray.empty,(0:Int))) hl (P:=fun b=> !decide (Option.getD xs[b]? ((0:Int),ByteArray.empty,(0:Int))=Option.getD ys[b]? ((0:Int),ByteArray.empty,(0:Int)))) (fun b=>rfl)
  rw [gJ (P:=fun b=> !decide (Option.getD xs[b]? ((0:Int),ByteArray.empty,(0:Int))=Option.getD ys[b]? ((0:Int),ByteArray.empty,(0:Int)))) (j:=0) (fun b=>by simp only [wH,h3]),ha]at w2
  simp only [Il,Im,Ks,Kt,w1,w2,allT]
  by_cases he:xs=ys
  ·subst he;simp;decide
  ·simp [he,hl]
 ·have Mq:xs≠ys:=fun h=>hl (by rw [h])
  simp [Il,Im,Ks,Kt,allT,Mq]
  omega
def TV:List SV→List Entry→Option Out
 | [.one ⟨false,[.ref 0]⟩,.one ⟨false,[.ref 1]⟩],[.row false 178 (.pair (.int .i64) (.pair (.str) (.int .i64))) x0,.row false 178 (.pair (.int .i64) (.pair (.str) (.int .i64))) x1]=>some ⟨.one ⟨false,[.val (.bool (aix x0 x1))]⟩,[.row false 178 abW x0,.row false 178 abW x1],[],[leN x0.length 9223372036854775807]⟩
 |_,_=>none
def Om:PF prog:=PF.alt adi TV (by
 intro args es o h dh;unfold TV at h;split at h
 ·rename_i x0 x1
  cases h
  have dh:=qA dh
  have hh:=ahd x0 x1 dh
  obtain⟨e0,en⟩:=hh
  exact vG rfl (qB en) (by simp only [e0] <;> rfl) rfl rfl
 ·cases h)
def ais(xs ys:List (Int×Int×Int)):Bool:=decide (xs=ys)
theorem ait(xs:List (Int×Int×Int)):ais xs xs=true:=by simp [ais]
def mO(y1:List (Int×(Int×Int)))(b:Nat):(List (Int×(Int×Int)))→Nat ⊕ (List (Int×(Int×Int)))
 |y2=>(.inr (List.set y2 b ((Option.getD y1[b]? ((0:Int),(0:Int),(0:Int))).1,((Option.getD y1[b]? ((0:Int),(0:Int),(0:Int))).2).1,(Option.getD y1[b]? ((0:Int),(0:Int),(0:Int))).2.2)))
def jX(y1:List (Int×(Int×Int)))(i:Nat):(List (Int×(Int×Int)))→gH
 |y2=>((i:Int),y1,y2)
def BR:gH→List (Int×(Int×Int))
 |(_,_,y2)=>y2
theorem Rb(y1 y2:List (Int×(Int×Int)))(hn:y1.length≤9223372036854775807)(hl:y2.length=y1.length):
  cU.fin ((0:Int),y1,y2)=true∧cU.res ((0:Int),y1,y2)=((aC (mO y1) 0 (List.range y1.length) 0 y2).1,(jX y1) (aC (mO y1) 0 (List.range y1.length) 0 y2).2.1 (aC (mO y1) 0 (List.range y1.length) 0 y2).2.2):=by
 have kw:=cU.along (jX y1) BR (mO y1) 0 (fun _ a=>a.length=y1.length) (List.range y1.length) y2 hl (by simp only [cU,jX,List.length_range];omega) (fun i b a hb hI=> ?_) (fun a hI=> ?_)
 ·exact kw
 ·obtain y2:=a
  obtain⟨rfl,fy⟩:=ul hb
  have hw:IntKind.i64.wrap ((b:Int) + 1)=((b + 1:Nat):Int):=by rw [cg (by omega) (by omega)];omega
  have cM:ltI (b:Int) (y1.length:Int)=true:=gg (by omega)
  have xj:leI (0:Int) (b:Int)=true:=cW (by omega)
  have jC:ltN b y1.length=true:=iF (by omega)
  refine⟨?_,?_,?_,?_⟩
  ·simp [ma,pC,pD,sM,sN,sO,sP,sQ,rN,cU,LT.nds,allT,jX,cM,xj,jC,hI]
  ·simp [ma,pC,pD,sM,sN,sO,sP,sQ,rN,cU,LT.each,jX,BR,hw,hI]
  ·simp only [ma,pC,pD,sM,sN,sO,sP,sQ,rN,cU,LT.fn,jX,BR,mO,Int.toNat_natCast,cM,cond_true]
  ·intro a' hf;simp only [mO,Sum.inr.injEq]at hf;subst hf;simpa using hI
 ·obtain y2:=a
  simp [ma,pC,pD,sM,sN,sO,sP,sQ,rN,cU,LT.out,jX,List.length_range]
def pz(y1 y2:List (Int×(Int×Int)))(b:Nat):(Unit)→Nat ⊕ (Unit)
 |_=>(bif(!xu ((Option.getD y1[b]? ((0:Int),(0:Int),(0:Int))).1) (((Option.getD y1[b]? ((0:Int),(0:Int),(0:Int))).2).1) ((Option.getD y1[b]? ((0:Int),(0:Int),(0:Int))).2.2) ((Option.getD y2[b]? ((0:Int),(0:Int),(0:Int))).1) (((Option.getD y2[b]? ((0:Int),(0:Int),(0:Int))).2).1) ((Option.getD y2[b]? ((0:Int),(0:Int),(0:Int))).2.2))then(.inl 0)else(.inr ()))
def mc(y1 y2:List (Int×(Int×Int)))(i:Nat):(Unit)→gG
 |_=>((i:Int),y1,y2)
def BQ:gG→Unit
 |(_,_,_)=>()
theorem Ra(y1 y2:List (Int×(Int×Int))) (hn:y1.length≤9223372036854775807) (he:y2.length=y1.length):
  cv.fin ((0:Int),y1,y2)=true∧cv.res ((0:Int),y1,y2)=((aC (pz y1 y2) 1 (List.range y1.length) 0 ()).1,(mc y1 y2) (aC (pz y1 y2) 1 (List.range y1.length) 0 ()).2.1 (aC (pz y1 y2) 1 (List.range y1.length) 0 ()).2.2):=by
 have kw:=cv.along (mc y1 y2) BQ (pz y1 y2) 1 (fun _ _=>True) (List.range y1.length) () (by trivial) (by simp only [cv,mc,List.length_range];omega) (fun i b a hb hI=> ?_) (fun a hI=> ?_)
 ·exact kw
 ·obtain⟨⟩:=a
  obtain⟨rfl,fy⟩:=ul hb
  have hw:IntKind.i64.wrap ((b:Int) + 1)=((b + 1:Nat):Int):=by rw [cg (by omega) (by omega)];omega
  have cM:ltI (b:Int) (y1.length:Int)=true:=gg (by omega)
  have xj:leI (0:Int) (b:Int)=true:=cW (by omega)
  have jC:ltN b y1.length=true:=iF (by omega)
  refine⟨?_,?_,?_,?_⟩
  ·simp [lX,lY,pA,pB,sG,sH,sI,sJ,sK,rM,cv,LT.nds,allT,mc,cM,xj,jC,he]
  ·simp [lX,lY,pA,pB,sG,sH,sI,sJ,sK,rM,cv,LT.each,mc,BQ,hw,he]
  ·simp only [lX,lY,pA,pB,sG,sH,sI,sJ,sK,rM,cv,LT.fn,mc,BQ,pz,Int.toNat_natCast,cM,cond_true]
  ·exact fun _ _=>trivial
 ·obtain⟨⟩:=a
  simp [lX,lY,pA,pB,sG,sH,sI,sJ,sK,rM,cv,LT.out,mc,List.length_range]
theorem abg(xs:List (Int×Int×Int))(hn:leN xs.length 1048576=true):Bi xs=xs∧Bj xs=true:=by
 have hn:=ij.1 hn
 have hr:(List.replicate (Int.toNat (xs.length:Int)) ((0:Int),(0:Int),(0:Int))).length=xs.length:=by simp
 obtain⟨w1,w2⟩:=Rb xs (List.replicate (Int.toNat (xs.length:Int)) ((0:Int),(0:Int),(0:Int))) (by omega) hr
 have hc:=Rc (xs:=xs) (d:=((0:Int),(0:Int),(0:Int))) (g:=fun x=>x) (f:=mO xs) (e:=0) (fun b a=>rfl) hr
 rw [hc]at w2
 refine⟨?_,?_⟩
 ·simp only [Ac,Bi,Bj,w2,jX];simp
 ·simp only [Ac,Bi,Bj,w1,allT];simp;omega
def Mm:List SV→List Entry→Option Out
 | [.one ⟨false,[.ref 0]⟩],[.row false 194 (.pair (.int .i64) (.pair (.int .i64) (.int .i64))) x0]=>some ⟨.one ⟨false,[.ref 1]⟩,[.row false 194 aaH x0],[.row true 172 aaH x0],[leN x0.length 1048576]⟩
 |_,_=>none
def Gm:PF prog:=PF.alt UW Mm (by
 intro args es o h dh;unfold Mm at h;split at h
 ·rename_i x0
  cases h
  have dh:=qA dh
  have hh:=abg x0 dh
  obtain⟨e0,en⟩:=hh
  exact vG rfl (qB en) rfl rfl (by simp only [e0] <;> rfl)
 ·cases h)
theorem aaC(xs ys:List (Int×Int×Int))(hn:leN xs.length 9223372036854775807=true):AK xs ys=ais xs ys∧AL xs ys=true:=by
 have hn:=ij.1 hn
 unfold ais
 have h3: ∀ a b:Int×Int×Int,(!xu a.1 a.2.1 a.2.2 b.1 b.2.1 b.2.2)= !decide (a=b):=fun a b=>by
  obtain⟨a1,a2,a3⟩:=a;obtain⟨b1,b2,b3⟩:=b
  simp only [xu,Prod.mk.injEq]
  by_cases h1:a1=b1 <;> by_cases h2:a2=b2 <;> by_cases h3:a3=b3 <;> simp [h1,h2,h3]
 by_cases hl:ys.length=xs.length
 ·obtain⟨w1,w2⟩:=Ra xs ys hn hl
  have ha:=aeQ (d:=((0:Int),(0:Int),(0:Int))) hl (P:=fun b=> !decide (Option.getD xs[b]? ((0:Int),(0:Int),(0:Int))=Option.getD ys[b]? ((0:Int),(0:Int),(0:Int)))) (fun b=>rfl)
  rw [gJ (P:=fun b=> !decide (Option.getD xs[b]? ((0:Int),(0:Int),(0:Int))=Option.getD ys[b]? ((0:Int),(0:Int),(0:Int)))) (j:=0) (fun b=>by simp only [pz,h3]),ha]at w2
  simp only [Aa,Ab,AK,AL,w1,w2,allT]
  by_cases he:xs=ys
  ·subst he;simp;decide
  ·simp [he,hl]
 ·have Mq:xs≠ys:=fun h=>hl (by rw [h])
  simp [Aa,Ab,AK,AL,allT,Mq]
  omega
def Mk:List SV→List Entry→Option Out
 | [.one ⟨false,[.ref 0]⟩,.one ⟨false,[.ref 1]⟩],[.row false 172 (.pair (.int .i64) (.pair (.int .i64) (.int .i64))) x0,.row false 172 (.pair (.int .i64) (.pair (.int .i64) (.int .i64))) x1]=>some ⟨.one ⟨false,[.val (.bool (ais x0 x1))]⟩,[.row false 172 aaH x0,.row false 172 aaH x1],[],[leN x0.length 9223372036854775807]⟩
 |_,_=>none
def Gk:PF prog:=PF.alt UU Mk (by
 intro args es o h dh;unfold Mk at h;split at h
 ·rename_i x0 x1
  cases h
  have dh:=qA dh
  have hh:=aaC x0 x1 dh
  obtain⟨e0,en⟩:=hh
  exact vG rfl (qB en) (by simp only [e0] <;> rfl) rfl rfl
 ·cases h)
def szL(k:Int)(n:Nat):Int:=bif ltI (k - n) 0 then -1 else k - n
theorem akA(k:Int)(xs:List (Int×Int×Int))(h:(leN xs.length 9223372036854775807&&(leI (-1) k&&leI k 1048576))=true):Gf k xs=szL k xs.length:=by
 simp only [Bool.and_eq_true,ij,Cj]at h
 simp only [Gf,EL,szL]
 rw [cg (by omega) (by omega)]
def Ml:List SV→List Entry→Option Out
 | [.one ⟨false,[.ref 0]⟩,.one ⟨false,[.val (.int .i64 x0)]⟩],[.row false 194 (.pair (.int .i64) (.pair (.int .i64) (.int .i64))) x1]=>some ⟨.one ⟨false,[.val (.int .i64 (szL x0 x1.length))]⟩,[.row false 194 aaH x1],[],[leN x1.length 9223372036854775807&&(leI (-1) x0&&leI x0 1048576)]⟩
 |_,_=>none
def Gl:PF prog:=PF.alt UV Ml (by
 intro args es o h dh;unfold Ml at h;split at h
 ·rename_i x0 x1
  cases h
  have dh:=qA dh
  have hh:=akA x0 x1 dh
  have e0:=hh
  exact vG rfl (fun _ h=>by cases h) (by simp only [e0] <;> rfl) rfl rfl
 ·cases h)
def abO:Int→List TM→Int
 |k,[]=>k
 |k,t::r=>bif ltI (rL t.2.1 k) 0 then -1 else abO (rL t.2.1 k) r
def afx(k:Int)(ts:List TM):Int:=bif ltI (k - ts.length) 0 then -1 else abO (k - ts.length) ts
theorem aiT{s:ByteArray}{k:Int}(hs:s.size≤9223372036854775807)(hk:0≤k∧k≤1048576):rL s k=bif ltI (k - (s.size:Int)) 0 then -1 else k - (s.size:Int):=by
 have hw:IntKind.i64.wrap (k - (s.size:Int))=k - (s.size:Int):=cg (by omega) (by omega)
 simp only [rL,Oe,hw]
def rv(b:Int×(ByteArray×Int)):(Int)→Nat ⊕ (Int)
 |y1=>(bif(ltI (rL (b.2.1) y1) (0:Int))then(.inl 0)else(.inr (rL (b.2.1) y1)))
def qm(y2:List (Int×(ByteArray×Int)))(i:Nat):(Int)→nq
 |y1=>((i:Int),y1,y2)
def IU:nq→Int
 |(_,y1,_)=>y1
theorem aal(y2:List (Int×(ByteArray×Int)))(y1:Int)(hn:y2.length≤9223372036854775807):
  eF.fin ((0:Int),y1,y2)=true∧eF.res ((0:Int),y1,y2)=((aC (rv) 1 y2 0 y1).1,(qm y2) (aC (rv) 1 y2 0 y1).2.1 (aC (rv) 1 y2 0 y1).2.2):=by
 have kw:=eF.along (qm y2) IU (rv) 1 (fun _ _=>True) y2 y1 (by trivial) (by simp only [eF,qm];omega) (fun i b a hb hI=> ?_) (fun a hI=> ?_)
 ·exact kw
 ·obtain y1:=a
  have fy:=(List.getElem?_eq_some_iff.1 hb).1
  have jx: ∀ d,Option.getD y2[i]? d=b:=fun d=>by rw [hb];rfl
  have hw:=uF fy hn
  have cM:ltI (i:Int) (y2.length:Int)=true:=gg (by omega)
  have xj:leI (0:Int) (i:Int)=true:=cW (by omega)
  have jC:ltN i y2.length=true:=iF fy
  refine⟨?_,?_,?_,?_⟩
  ·simp [vh,wT,Bd,Be,Bf,tJ,Bg,Bh,ze,eF,LT.nds,allT,qm,cM,xj,jC,jx]
  ·simp [vh,wT,Bd,Be,Bf,tJ,Bg,Bh,ze,eF,LT.each,qm,IU,hw]
  ·simp only [vh,wT,Bd,Be,Bf,tJ,Bg,Bh,ze,eF,LT.fn,qm,IU,rv,Int.toNat_natCast,cM,xj,jC,jx,cond_true,Bool.cond_self]
  ·exact fun _ _=>trivial
 ·obtain y1:=a
  simp [vh,wT,Bd,Be,Bf,tJ,Bg,Bh,ze,eF,LT.out,qm]
theorem agP: ∀ (r:List TM) (i:Nat) (k:Int),(bif Nat.beq (aC rv 1 r i k).1 0 then -1 else(aC rv 1 r i k).2.2)=abO k r
 | [],i,k=>rfl
 |t::r,i,k=>by
  have hf:rv t k=bif ltI (rL t.2.1 k) 0 then .inl 0 else .inr (rL t.2.1 k):=rfl
  simp only [aC,hf,abO]
  cases h:ltI (rL t.2.1 k) 0 with
  |true=>rfl
  |false=>simp only [cond_false];exact agP r (i + 1) _
theorem akC(k:Int)(xs:List TM)(h:(leN xs.length 9223372036854775807&&(leI (-1) k&&leI k 1048576))=true):Oc k xs=afx k xs∧Od k xs=true:=by
 simp only [Bool.and_eq_true,ij,Cj]at h
 have hw:IntKind.i64.wrap (k - (xs.length:Int))=k - (xs.length:Int):=cg (by omega) (by omega)
 obtain⟨w1,w2⟩:=aal xs (k - (xs.length:Int)) h.1
 have hs:=agP xs 0 (k - (xs.length:Int))
 have e:tJ= -1:=rfl
 simp only [Oc,Od,Iq,Ir,hw,w1,w2,qm,allT,Bool.or_true,cond_true,afx,e,hs,and_self]
theorem abP: ∀ (r:List TM) (k:Int),(∀ t∈r,t.2.1.size≤9223372036854775807)→0≤k→k≤1048576→ltI (abO k r) 0=false→abO k r=k - ad6 r∧(ad6 r:Int)≤k
 | [],k,_,h0,h1,_=>by simp [abO,ad6];omega
 |t::r,k,hs,h0,h1,h=>by
  have ht:=aiT (k:=k) (hs t (by simp)) ⟨h0,h1⟩
  simp only [abO]at h ⊢
  cases h2:ltI (k - (t.2.1.size:Int)) 0 with
  |true=>rw [ht,h2]at h;rw [cond_true]at h;exact absurd (show ltI (-1) 0=false from h) (by decide)
  |false=>
   have h3:=wZ.1 h2
   rw [h2,cond_false]at ht
   rw [ht,h2,cond_false]at h
   obtain⟨q1,q2⟩:=abP r _ (fun t ht=>hs t (by simp [ht])) h3 (by omega) h
   rw [ht,h2,cond_false,q1]
   simp only [ad6]
   omega
theorem ahV{k:Int}{xs:List TM}(hs: ∀ t∈xs,t.2.1.size≤9223372036854775807)(hk:k≤1048576)(h:ltI (afx k xs) 0=false):afx k xs=k - xs.length - ad6 xs∧(xs.length:Int) + ad6 xs≤k:=by
 simp only [afx]at h ⊢
 cases h2:ltI (k - (xs.length:Int)) 0 with
 |true=>rw [h2]at h;simp at h
 |false=>
  have h3:=wZ.1 h2
  rw [h2,cond_false]at h
  obtain⟨q1,q2⟩:=abP xs _ hs h3 (by omega) h
  rw [cond_false,q1]
  omega
theorem aeI{k:Int}{n:Nat}(h:ltI (szL k n) 0=false):szL k n=k - n∧(n:Int)≤k:=by
 simp only [szL]at h ⊢
 cases h2:ltI (k - (n:Int)) 0 with
 |true=>rw [h2]at h;simp at h
 |false=>have:=wZ.1 h2;rw [cond_false];omega
def TW:List SV→List Entry→Option Out
 | [.one ⟨false,[.ref 0]⟩,.one ⟨false,[.val (.int .i64 x0)]⟩],[.row false 175 (.pair (.int .i64) (.pair (.str) (.int .i64))) x1]=>some ⟨.one ⟨false,[.val (.int .i64 (afx x0 x1))]⟩,[.row false 175 abW x1],[],[leN x1.length 9223372036854775807&&(leI (-1) x0&&leI x0 1048576)]⟩
 |_,_=>none
def On:PF prog:=PF.alt adj TW (by
 intro args es o h dh;unfold TW at h;split at h
 ·rename_i x0 x1
  cases h
  have dh:=qA dh
  have hh:=akC x0 x1 dh
  obtain⟨e0,en⟩:=hh
  exact vG rfl (qB en) (by simp only [e0] <;> rfl) rfl rfl
 ·cases h)
theorem aiq(xs:List (Int×Int×Int))(h:(leN 1 xs.length&&leN xs.length 1048576)=true):qI xs=true:=by
 simp only [Bool.and_eq_true,ij]at h
 simp [qI,allT]
 omega
def Zi:List SV→List Entry→Option Out
 | [.one ⟨false,[.val (.slice none 0 0)]⟩],[]=>some ⟨.one ⟨false,[.ref 0]⟩,[],[.row true 172 (.pair (.int .i64) (.pair (.int .i64) (.int .i64))) []],[true]⟩
 |_,_=>none
def afn:PF prog:=PF.ofG prog [PF.raw prog] [] aP 195 f195 func195 (fun c _=>LOk.nil c) Zi (by
 intro vs es r h;unfold Zi at h;split at h
 ·cases h;kernel_rfl
 ·cases h)
def Zh:List SV→List Entry→Option Out
 | [.one ⟨false,[.val (.slice (some _) 0 _)]⟩],[]=>some ⟨.one ⟨false,[.ref 0]⟩,[],[.row true 172 (.pair (.int .i64) (.pair (.int .i64) (.int .i64))) []],[true]⟩
 |_,_=>none
def afm:PF prog:=PF.ofG prog [] [] aP 195 f195 func195 (fun c _=>LOk.nil c) Zh (by
 intro vs es r h;unfold Zh at h;split at h
 ·cases h;kernel_rfl
 ·cases h)
def Cx:List SV→List Entry→Option Out
 | [.one ⟨false,[.ref 0]⟩],[.row false 172 (.pair (.int .i64) (.pair (.int .i64) (.int .i64))) x0]=>some ⟨.one ⟨false,[.ref 1]⟩,[.row false 172 (.pair (.int .i64) (.pair (.int .i64) (.int .i64))) x0],[.row true 172 (.pair (.int .i64) (.pair (.int .i64) (.int .i64))) x0],[leN x0.length 1048576]⟩
 |_,_=>none
def vk:PF prog where
 k:=195
 F:=Cx
 ok:=by
  intro args es o h dh mem ρ w hp
  unfold Cx at h
  split at h
  ·rename_i x0
   cases h
   have hl:=dh _ (List.mem_singleton.2 rfl)
   cases x0 with
   |nil=>
    exact(ai2 afn afm rfl rfl rfl (fun _ _=>rfl) (by simp) (by simp) hp).mono fun en w' ⟨ρ',h1,h2,h3⟩=>⟨ρ',h1,h2,rfl,(by intro v hv;rw [List.mem_singleton.1 hv];rfl),h3⟩
   |cons x xs=>exact LJ.ok _ _ ⟨_,_,_,[qI (x::xs)]⟩ rfl (fun b hb=>by rw [List.mem_singleton.1 hb];exact aiq (x::xs) ((Bool.and_eq_true _ _).mpr ⟨em (Nat.succ_pos _),hl⟩)) mem ρ w hp
  ·cases h
abbrev IN:=Int×Int
abbrev BS3:=Int×Int×Int
def tkI(bs:List TM)(x:IN):Int:=ace x.1 x.2 bs
def gvI(x:IN):Int:=acf x.1
def ak0(i v o:Int)(bs:List TM)(x:IN):Bool:=adH i v o x.1 x.2 bs
def hgt(i v o:Int)(bs:List TM):List IN→Int→List Int→Option (Int×List Int)
 | [],n,acc=>some (n,acc)
 |x::r,n,acc=>bif ak0 i v o bs x&&(leI (tkI bs x) n&&leI (n - tkI bs x + gvI x) 40)then hgt i v o bs r (n - tkI bs x + gvI x) (acc++ [n - tkI bs x + gvI x])else none
def Zq(bs:List TM):Bool:=bs.all fun t=>Rq t.1 t.2.1 t.2.2
def Nj(bs:List TM)(k:Nat):TM:=Option.getD bs[k]? ((0:Int),ByteArray.empty,(0:Int))
def stAt(ss:List BS3)(k:Nat):BS3:=Option.getD ss[k]? ((0:Int),(0:Int),(0:Int))
def possAt(bs:List TM)(ss:List BS3)(k:Nat):Bool:=possB (Nj bs k).1 (Nj bs k).2.2 (stAt ss k).1 (stAt ss k).2.1 (stAt ss k).2.2
def GF(v:Int)(bs:List TM)(xs:List Int)(ss:List BS3):Bool:=((ss.length:Int)==(bs.length:Int))&&(bitsB v xs&&(List.range bs.length).all fun k=>possAt bs ss k)
def fA(y2:List (Int×(ByteArray×Int)))(y4:List (Int×(Int×Int)))(b:Nat):(Unit)→Nat ⊕ (Unit)
 |_=>(bif(!wK ((Option.getD y2[b]? ((0:Int),ByteArray.empty,(0:Int))).1) ((Option.getD y2[b]? ((0:Int),ByteArray.empty,(0:Int))).2.2) ((Option.getD y4[b]? ((0:Int),(0:Int),(0:Int))).1) (((Option.getD y4[b]? ((0:Int),(0:Int),(0:Int))).2).1) ((Option.getD y4[b]? ((0:Int),(0:Int),(0:Int))).2.2))then(.inl 0)else(.inr ()))
def cA(y2:List (Int×(ByteArray×Int)))(y3:List Int)(y4:List (Int×(Int×Int)))(i:Nat):(Unit)→ba
 |_=>((i:Int),(↑y2.length:Int),y2,y3,y4)
def nE:ba→Unit
 |(_,_,_,_,_)=>()
theorem Ee(y2:List (Int×(ByteArray×Int)))(y3:List Int)(y4:List (Int×(Int×Int))) (hn:y2.length≤9223372036854775807) (he:y4.length=y2.length):
  ao.fin ((0:Int),(↑y2.length:Int),y2,y3,y4)=true∧ao.res ((0:Int),(↑y2.length:Int),y2,y3,y4)=((aC (fA y2 y4) 1 (List.range y2.length) 0 ()).1,(cA y2 y3 y4) (aC (fA y2 y4) 1 (List.range y2.length) 0 ()).2.1 (aC (fA y2 y4) 1 (List.range y2.length) 0 ()).2.2):=by
 have kw:=ao.along (cA y2 y3 y4) nE (fA y2 y4) 1 (fun _ _=>True) (List.range y2.length) () (by trivial) (by simp only [ao,cA,List.length_range];omega) (fun i b a hb hI=> ?_) (fun a hI=> ?_)
 ·exact kw
 ·obtain⟨⟩:=a
  obtain⟨rfl,fy⟩:=ul hb
  have hw:IntKind.i64.wrap ((b:Int) + 1)=((b + 1:Nat):Int):=by rw [cg (by omega) (by omega)];omega
  have cM:ltI (b:Int) (y2.length:Int)=true:=gg (by omega)
  have xj:leI (0:Int) (b:Int)=true:=cW (by omega)
  have jC:ltN b y2.length=true:=iF (by omega)
  refine⟨?_,?_,?_,?_⟩
  ·simp [dm,cz,fC,du,fD,fE,fF,fG,fH,fI,fl,ao,LT.nds,allT,cA,cM,xj,jC,he]
  ·simp [dm,cz,fC,du,fD,fE,fF,fG,fH,fI,fl,ao,LT.each,cA,nE,hw,he]
  ·simp only [dm,cz,fC,du,fD,fE,fF,fG,fH,fI,fl,ao,LT.fn,cA,nE,fA,Int.toNat_natCast,cM,cond_true]
  ·exact fun _ _=>trivial
 ·obtain⟨⟩:=a
  simp [dm,cz,fC,du,fD,fE,fF,fG,fH,fI,fl,ao,LT.out,cA,List.length_range]
theorem aeP{α:Type}{g h:α→Bool}: ∀ (l:List α),(∀ k∈l,g k=h k)→(l.any fun b=> !g b)= !l.all h
 | [],_=>rfl
 |a::l,hg=>by
  rw [List.any_cons,List.all_cons,hg a (by simp),aeP l (fun k hk=>hg k (by simp [hk]))]
  cases h a <;> simp
theorem aiC(v:Int)(bs:List TM)(xs:List Int)(ss:List BS3)(h:(leN xs.length 9223372036854775807&&(leN bs.length 9223372036854775807&&Zq bs))=true):
  kZ v xs ss bs=GF v bs xs ss∧la v xs ss bs=true:=by
 simp only [Bool.and_eq_true]at h
 have hn:=ij.1 h.2.1
 have hB: ∀ t∈bs,Rq t.1 t.2.1 t.2.2=true:=List.all_eq_true.1 h.2.2
 by_cases hl:ss.length=bs.length
 ·obtain⟨w1,w2⟩:=Ee bs xs ss hn hl
  rw [gJ (P:=fun k=> !wK (Nj bs k).1 (Nj bs k).2.2 (stAt ss k).1 (stAt ss k).2.1 (stAt ss k).2.2) (j:=0) (fun k=>rfl),
   aeP (g:=fun k=>wK (Nj bs k).1 (Nj bs k).2.2 (stAt ss k).1 (stAt ss k).2.1 (stAt ss k).2.2) (h:=possAt bs ss) _ (fun k hk=>by
    have hk:k < bs.length:=List.mem_range.1 hk
    have hg:Nj bs k=bs[k]:=by simp only [Nj,List.getElem?_eq_getElem hk];rfl
    have:=hB _ (List.getElem_mem hk)
    rw [← hg]at this
    exact ajX (XW this).1)]at w2
  have a0:ei v xs ss bs= !bitsB v xs:=by simp only [ei,hl];cases bitsB v xs <;> simp
  simp only [kZ,la,oS,a0,w1,w2,h.1,allT,GF,hl]
  cases bitsB v xs <;> cases (List.range bs.length).all (possAt bs ss) <;> simp [Nat.beq]
 ·have hl2: ¬ ((ss.length:Int)=(bs.length:Int)):=by omega
  have a0:ei v xs ss bs=true:=by simp only [ei];cases bitsB v xs <;> simp [hl2]
  have e:((ss.length:Int)==(bs.length:Int))=false:=by simpa using hl2
  simp [kZ,la,a0,allT,GF,e,h.1]
def vF:List SV→List Entry→Option Out
 | [.one ⟨true,[.ref 0,.ref 1]⟩,.one ⟨false,[.val (.int .i64 x0)]⟩,.one ⟨false,[.ref 2]⟩],[.row false 2 (.int .i64) x1,.row false 172 (.pair (.int .i64) (.pair (.int .i64) (.int .i64))) x2,.row false 178 (.pair (.int .i64) (.pair (.str) (.int .i64))) x3]=>some ⟨.one ⟨false,[.val (.bool (GF x0 x3 x1 x2))]⟩,[.row false 2 acT x1,.row false 172 aaH x2,.row false 178 abW x3],[],[leN x1.length 9223372036854775807&&(leN x3.length 9223372036854775807&&Zq x3)]⟩
 |_,_=>none
def pw:PF prog:=PF.alt Fy vF (by
 intro args es o h dh;unfold vF at h;split at h
 ·rename_i x0 x1 x2 x3
  cases h
  have dh:=qA dh
  have hh:=aiC x0 x3 x1 x2 dh
  obtain⟨e0,en⟩:=hh
  exact vG rfl (qB en) (by simp only [e0] <;> rfl) rfl rfl
 ·cases h)
abbrev lU:=Int×ByteArray×List ByteArray
section
variable (y0:Int)(y1:ByteArray)(y2:List ByteArray)
def vt:Bool:=ltI y0 (↑y2.length:Int)
def zR:Bool:=leI (0:Int) y0
def zS:Bool:=ltN y0.toNat y2.length
def zT:Bool:=ByteArray.toList (Option.getD y2[Int.toNat y0]? ByteArray.empty)==ByteArray.toList y1
def zU:Int:=IntKind.wrap .i64 (y0 + (1:Int))
end
def VL:lU→List (Nat×SV)
 |(y0,y1,_)=> [(5,(.one ⟨false,[.val (.int .i64 y0)]⟩)),(0,(.one ⟨false,[.ref 0]⟩)),(1,(.one ⟨false,[.val (.string y1)]⟩))]
def VC:lU→List (Nat×Entry)
 |(_,_,y2)=> [(0,(.row false 9 aen y2))]
def Wd:Nat→lU→List (Nat×SV)
 |0,(y0,_,_)=> [(4,(.one ⟨false,[.val (.int .i64 y0)]⟩))]
 |_,(_,_,_)=> []
def VU:Nat→lU→List (Nat×Entry)
 |0,(_,_,y2)=> [(0,(.row false 9 aen y2))]
 |_,(_,_,y2)=> [(0,(.row false 9 aen y2))]
def xS:lU→LT lU
 |(y0,y1,y2)=> .ite (vt y0 y2) (.need [zR y0,vt y0 y2,zS y0 y2] (.ite (zT y0 y1 y2) (.ext 0 [(0,0)]) (.nrm ((zU y0),y1,y2) [(0,0)]))) (.ext 1 [(0,0)])
def HJ(s:St):Option lU:=
 (match s.look 5 with
 |some ⟨none,.one ⟨false,[.val (.int .i64 y0)]⟩⟩=>
 (match s.look 0 with
 |some ⟨none,.one ⟨false,[.ref 0]⟩⟩=>
 (match s.look 1 with
 |some ⟨none,.one ⟨false,[.val (.string y1)]⟩⟩=>
 (match s.ent 0 with
 |some (.row false 9 (.str) y2)=>
 some (y0,y1,y2)
 |_=>none)
 |_=>none)
 |_=>none)
 |_=>none)
def dK:Lp lU where
 h:=⟨[6,7,8,9,12,13,14,15,16,17,18,4,10,11,5],[0],[],[]⟩
 JL:=VL
 JE:=VC
 XL:=Wd
 XE:=VU
 q:=fun j=>match j with | 0=> .ret | _=> .exit 0
 tags:= [0,1]
 lt:=xS
 fuel:=fun(y0,y1,y2)=>y0.natAbs + y1.size + y2.length
 fix:=fun(_,y1,y2) (y0,_,_)=>(y0,y1,y2)
 σ:= [(0,0)]
 rd:=HJ
theorem Ti:LoopOk prog (fun k=>Nat.blt k Tryz.f143.ntmps) dK.F (aZ f143 0):=by
 refine Lp.ok (tbl:= []) (lf:= []) aP dK (by kernel_rfl) (LOk.nil _) (fun _=>rfl) (fun j _=>by unfold dK;match j with | 0=>rfl | _ + 1=>rfl) ?_ ?_ ?_ ?_ (fun _=>rfl) ?_
 ·rintro⟨y0,y1,y2⟩;kernel_rfl
 ·rintro⟨y0,y1,y2⟩;kernel_rfl
 ·intro s x h
  have h:HJ s=some x:=h
  unfold HJ at h
  repeat' split at h
  all_goals cases h
  exact⟨aa (by assumption) rfl (aa (by assumption) rfl (aa (by assumption) rfl (rfl))),ab rfl (by assumption) rfl (rfl)⟩
 ·rintro⟨y0,y1,y2⟩;kernel_rfl
 ·rintro⟨y0,y1,y2⟩ z;exact(And.intro (And.intro trivial rfl) trivial)
section
variable (x0:ByteArray)(x1:List ByteArray)
def Hl:Int×ByteArray×List ByteArray:=((0:Int),x0,x1)
def Er:Int:=bif Nat.beq ((Lp.res dK (Hl x0 x1)).1) (0:Nat)then ((Lp.res dK (Hl x0 x1)).2).1else(-1:Int)
def ID:Bool:=allT [Lp.fin dK (Hl x0 x1)]
end
def Sj:List SV→List Entry→Option Out
 | [.one ⟨false,[.ref 0]⟩,.one ⟨false,[.val (.string x0)]⟩],[.row false 9 (.str) x1]=>some ⟨.one ⟨false,[.val (.int .i64 (Er x0 x1))]⟩,[.row false 9 aen x1],[],[ID x0 x1]⟩
 |_,_=>none
def xk:PF prog:=PF.ofG prog [] [dK.F] aP 143 f143 func143 (LOk.fnT (l:= [aZ f143 0]) (by kernel_rfl) (.cons Ti (.nil _))) Sj (by
 intro vs es r h;unfold Sj at h;split at h
 ·cases h;kernel_rfl
 ·cases h)
abbrev lS:=Int×List ByteArray
section
variable (y0:Int)(y1:List ByteArray)
def oN:ByteArray:=Option.getD y1[Int.toNat y0]? ByteArray.empty
def vp:Bool:=ltI y0 (↑y1.length:Int)
def DV:Bool:=leI (0:Int) y0
def DW:Bool:=ltN y0.toNat y1.length
def DX:Bool:=rR (oN y0 y1)
def zH:Bool:= !lI (oN y0 y1)
def DY:Int:=IntKind.wrap .i64 (y0 + (1:Int))
end
def VI:lS→List (Nat×SV)
 |(y0,_)=> [(5,(.one ⟨false,[.val (.int .i64 y0)]⟩)),(0,(.one ⟨false,[.ref 0]⟩))]
def Vz:lS→List (Nat×Entry)
 |(_,y1)=> [(0,(.row false 9 aen y1))]
def Wa:Nat→lS→List (Nat×SV)
 |0,(_,_)=> [(4,(.one ⟨false,[.val (.bool false)]⟩))]
 |_,(_,_)=> []
def VR:Nat→lS→List (Nat×Entry)
 |0,(_,y1)=> [(0,(.row false 9 aen y1))]
 |_,(_,y1)=> [(0,(.row false 9 aen y1))]
def xP:lS→LT lS
 |(y0,y1)=> .ite (vp y0 y1) (.need [DV y0,vp y0 y1,DW y0 y1,DX y0 y1] (.ite (zH y0 y1) (.ext 0 [(0,0)]) (.nrm ((DY y0),y1) [(0,0)]))) (.ext 1 [(0,0)])
def HG(s:St):Option lS:=
 (match s.look 5 with
 |some ⟨none,.one ⟨false,[.val (.int .i64 y0)]⟩⟩=>
 (match s.look 0 with
 |some ⟨none,.one ⟨false,[.ref 0]⟩⟩=>
 (match s.ent 0 with
 |some (.row false 9 (.str) y1)=>
 some (y0,y1)
 |_=>none)
 |_=>none)
 |_=>none)
def eJ:Lp lS where
 h:=⟨[6,7,8,9,12,13,14,15,16,17,4,10,11,5],[0],[],[]⟩
 JL:=VI
 JE:=Vz
 XL:=Wa
 XE:=VR
 q:=fun j=>match j with | 0=> .ret | _=> .exit 0
 tags:= [0,1]
 lt:=xP
 fuel:=fun(y0,y1)=>y0.natAbs + y1.length
 fix:=fun(_,y1) (y0,_)=>(y0,y1)
 σ:= [(0,0)]
 rd:=HG
theorem Tf:LoopOk prog (fun k=>Nat.blt k Tryz.f240.ntmps) eJ.F (aZ f240 0):=by
 refine Lp.ok (tbl:= [tP,Gn]) (lf:= []) aP eJ (by kernel_rfl) (LOk.nil _) (fun _=>rfl) (fun j _=>by unfold eJ;match j with | 0=>rfl | _ + 1=>rfl) ?_ ?_ ?_ ?_ (fun _=>rfl) ?_
 ·rintro⟨y0,y1⟩;kernel_rfl
 ·rintro⟨y0,y1⟩;kernel_rfl
 ·intro s x h
  have h:HG s=some x:=h
  unfold HG at h
  repeat' split at h
  all_goals cases h
  exact⟨aa (by assumption) rfl (aa (by assumption) rfl (rfl)),ab rfl (by assumption) rfl (rfl)⟩
 ·rintro⟨y0,y1⟩;kernel_rfl
 ·rintro⟨y0,y1⟩ z;exact(And.intro (And.intro trivial rfl) trivial)
def Nc(x0:Int)(x1:List ByteArray):Bool:=bif Nat.beq ((Lp.res eJ ((0:Int),x1)).1) (0:Nat)then false else br (↑x1.length:Int) x0 (20:Int)
def Nd(x1:List ByteArray):Bool:=allT [Lp.fin eJ ((0:Int),x1)]
def Sg:List SV→List Entry→Option Out
 | [.one ⟨false,[.ref 0]⟩,.one ⟨false,[.val (.int .i64 x0)]⟩],[.row false 9 (.str) x1]=>some ⟨.one ⟨false,[.val (.bool (Nc x0 x1))]⟩,[.row false 9 aen x1],[],[Nd x1]⟩
 |_,_=>none
def aca:PF prog:=PF.ofG prog [tP,Gn] [eJ.F] aP 240 f240 func240 (LOk.fnT (l:= [aZ f240 0]) (by kernel_rfl) (.cons Tf (.nil _))) Sg (by
 intro vs es r h;unfold Sg at h;split at h
 ·cases h;kernel_rfl
 ·cases h)
abbrev jB:=Int×Int×List (Int×(ByteArray×Int))×List Int
section
variable (y0 y1:Int)(y2:List (Int×(ByteArray×Int)))(y3:List Int)
def dr:Int×ByteArray×Int:=Option.getD y2[Int.toNat y0]? ((0:Int),ByteArray.empty,(0:Int))
def pa:Bool:= !GA ((dr y0 y2).1) (((dr y0 y2).2).1) ((dr y0 y2).2.2)
def pb:Int:=IntKind.wrap .i64 (IntKind.wrap .i64 (y1 - lx ((dr y0 y2).1)) + (1:Int))
def qg:Bool:=ltI y0 (↑y2.length:Int)
def sY:Bool:=leI (0:Int) y0
def sZ:Bool:=ltN y0.toNat y2.length
def wo:Bool:=GC ((dr y0 y2).1) (((dr y0 y2).2).1) ((dr y0 y2).2.2)
def wq:Bool:= !(!pa y0 y2&&true)||leI (0:Int) y0
def ws:Bool:= !(!pa y0 y2&&true)||ltI y0 (↑y2.length:Int)
def wu:Bool:= !(!pa y0 y2&&true)||ltN y0.toNat y2.length
def wv:Bool:=bif pa y0 y2 then true else ltI y1 (lx ((dr y0 y2).1))
def ww:Bool:=leN (List.length y3 + List.length [pb y0 y1 y2]) (9223372036854775807:Nat)
def wx:Bool:=leN ((List.length y3 + List.length [pb y0 y1 y2]) * (8:Nat)) (140737488355328:Nat)
def uQ:Int:=IntKind.wrap .i64 (y0 + (1:Int))
def uR:Int:=pb y0 y1 y2
def uS:List Int:=y3++ [pb y0 y1 y2]
end
def SP:jB→List (Nat×SV)
 |(y0,y1,_,_)=> [(6,(.one ⟨false,[.val (.int .i64 y0)]⟩)),(0,(.one ⟨false,[.ref 0]⟩)),(5,(.one ⟨false,[.val (.int .i64 y1)]⟩)),(4,(.one ⟨false,[.ref 1]⟩))]
def SM:jB→List (Nat×Entry)
 |(_,_,y2,y3)=> [(0,(.row false 178 abW y2)),(1,(.row true 2 acT y3))]
def SY:Nat→jB→List (Nat×SV)
 |0,(_,_,_,_)=> [(2,(.one ⟨false,[.ref 2]⟩)),(3,(.one ⟨false,[.val (.bool false)]⟩))]
 |_,(_,y1,_,_)=> [(5,(.one ⟨false,[.val (.int .i64 y1)]⟩)),(4,(.one ⟨false,[.ref 1]⟩))]
def ST:Nat→jB→List (Nat×Entry)
 |0,(_,_,y2,y3)=> [(0,(.row false 178 abW y2)),(1,(.row true 2 acT y3)),(2,(.row true 2 acT []))]
 |_,(_,_,y2,y3)=> [(0,(.row false 178 abW y2)),(1,(.row true 2 acT y3))]
def uM:jB→LT jB
 |(y0,y1,y2,y3)=> .ite (qg y0 y2) (.need [sY y0,qg y0 y2,sZ y0 y2,wo y0 y2,wq y0 y2,ws y0 y2,wu y0 y2] (.ite (wv y0 y1 y2) (.ext 0 [(0,0),(1,1),(2,1344)]) (.need [sY y0,qg y0 y2,sZ y0 y2] (.need [ww y0 y1 y2 y3,wx y0 y1 y2 y3] (.nrm ((uQ y0),uR y0 y1 y2,y2,(uS y0 y1 y2 y3)) [(0,0),(1,2176)]))))) (.ext 1 [(0,0),(1,1)])
def EU(s:St):Option jB:=
 (match s.look 6 with
 |some ⟨none,.one ⟨false,[.val (.int .i64 y0)]⟩⟩=>
 (match s.look 0 with
 |some ⟨none,.one ⟨false,[.ref 0]⟩⟩=>
 (match s.look 5 with
 |some ⟨none,.one ⟨false,[.val (.int .i64 y1)]⟩⟩=>
 (match s.look 4 with
 |some ⟨none,.one ⟨false,[.ref 256]⟩⟩=>
 (match s.ent 0 with
 |some (.row false 178 (.pair (.int .i64) (.pair .str (.int .i64))) y2)=>
 (match s.ent 256 with
 |some (.row true 2 (.int .i64) y3)=>
 some (y0,y1,y2,y3)
 |_=>none)
 |_=>none)
 |_=>none)
 |_=>none)
 |_=>none)
 |_=>none)
def cZ:Lp jB where
 h:=⟨[8,9,10,11,14,15,16,17,18,19,20,21,22,23,24,25,26,27,28,29,2,3,30,31,32,33,34,35,36,37,38,5,39,40,41,42,4,12,13,6],[0],[1],[2]⟩
 JL:=SP
 JE:=SM
 XL:=SY
 XE:=ST
 q:=fun j=>match j with | 0=> .ret | _=> .exit 0
 tags:= [0,1]
 lt:=uM
 fuel:=fun(y0,y1,y2,y3)=>y0.natAbs + y1.natAbs + y2.length + y3.length
 fix:=fun(_,_,y2,_) (y0,y1,_,y3)=>(y0,y1,y2,y3)
 σ:= [(0,0),(1,256)]
 rd:=EU
theorem QN:LoopOk prog (fun k=>Nat.blt k Tryz.f268.ntmps) cZ.F (aZ f268 0):=by
 refine Lp.ok (tbl:= [UX,As]) (lf:= []) aP cZ (by kernel_rfl) (LOk.nil _) (fun _=>rfl) (fun j _=>by unfold cZ;match j with | 0=>rfl | _ + 1=>rfl) ?_ ?_ ?_ ?_ (fun _=>rfl) ?_
 ·rintro⟨y0,y1,y2,y3⟩;kernel_rfl
 ·rintro⟨y0,y1,y2,y3⟩;kernel_rfl
 ·intro s x h
  have h:EU s=some x:=h
  unfold EU at h
  repeat' split at h
  all_goals cases h
  exact⟨aa (by assumption) rfl (aa (by assumption) rfl (aa (by assumption) rfl (aa (by assumption) rfl (rfl)))),ab rfl (by assumption) rfl (ab rfl (by assumption) rfl (rfl))⟩
 ·rintro⟨y0,y1,y2,y3⟩;kernel_rfl
 ·rintro⟨y0,y1,y2,y3⟩ z;exact(And.intro (And.intro trivial rfl) trivial)
section
variable (x0:List (Int×ByteArray×Int))
def DU:Int×Int×List (Int×ByteArray×Int)×List Int:=((0:Int),(0:Int),x0,[])
def Jj:Bool:=Nat.beq ((Lp.res cZ (DU x0)).1) (0:Nat)
def Jk:Int×List (Int×ByteArray×Int)×List Int:=(Lp.res cZ (DU x0)).2.2
def KO:Bool:=bif Jj x0 then false else bif (Jk x0).1==(1:Int)then leI (↑x0.length:Int) (40:Int)else false
def ZY:List Int:=bif Jj x0 then []else (Jk x0).2.2
def KP:Bool:=allT [Lp.fin cZ (DU x0)]
end
def Ph:List SV→List Entry→Option Out
 | [.one ⟨false,[.ref 0]⟩],[.row false 178 (.pair (.int .i64) (.pair (.str) (.int .i64))) x0]=>some ⟨.tup [⟨false,[.ref 1]⟩,⟨false,[.val (.bool (KO x0))]⟩],[.row false 178 abW x0],[.row true 2 acT (ZY x0)],[KP x0]⟩
 |_,_=>none
def KC:PF prog:=PF.ofG prog [UX,As] [cZ.F] aP 268 f268 func268 (LOk.fnT (l:= [aZ f268 0]) (by kernel_rfl) (.cons QN (.nil _))) Ph (by
 intro vs es r h;unfold Ph at h;split at h
 ·cases h;kernel_rfl
 ·cases h)
def HL(x0:List (Int×ByteArray×Int)):Bool:=KO x0
def HM(x0:List (Int×ByteArray×Int)):Bool:=allT [KP x0]
def Np:List SV→List Entry→Option Out
 | [.one ⟨false,[.ref 0]⟩],[.row false 178 (.pair (.int .i64) (.pair (.str) (.int .i64))) x0]=>some ⟨.one ⟨false,[.val (.bool (HL x0))]⟩,[.row false 178 abW x0],[],[HM x0]⟩
 |_,_=>none
def Wj:PF prog:=PF.ofG prog [KC,PF.lend KC,PF.fz KC] [] aP 241 f241 func241 (fun c _=>LOk.nil c) Np (by
 intro vs es r h;unfold Np at h;split at h
 ·cases h;kernel_rfl
 ·cases h)
section
variable (x2 x3 x4:List ByteArray)
def KQ:List ByteArray:=x2++x3
def Xa:List ByteArray:=KQ x2 x3++x4
def Qh:Bool:=allT [leN ((0:Nat) + List.length x2) (9223372036854775807:Nat),leN (((0:Nat) + List.length x2) * (16:Nat)) (140737488355328:Nat),leN (List.length x2 + List.length x3) (9223372036854775807:Nat),leN ((List.length x2 + List.length x3) * (16:Nat)) (140737488355328:Nat),leN (List.length (KQ x2 x3) + List.length x4) (9223372036854775807:Nat),leN ((List.length (KQ x2 x3) + List.length x4) * (16:Nat)) (140737488355328:Nat)]
end
def WC:List SV→List Entry→Option Out
 | [.one ⟨true,[.val (.string _x0),.ref 0,.ref 1,.ref 2,.val (.string _x1),.ref 3]⟩],[.row false 9 (.str) x2,.row false 9 (.str) x3,.row false 9 (.str) x4,.row false 204 (.pair (.str) (.sl 178 (.pair (.int .i64) (.pair (.str) (.int .i64))))) x5]=>some ⟨.one ⟨false,[.ref 4]⟩,[.row false 9 aen x2,.row false 9 aen x3,.row false 9 aen x4,.row false 204 (CTy.pair CTy.str (CTy.sl (178:TypeId) abW)) x5],[.row true 9 aen (Xa x2 x3 x4)],[Qh x2 x3 x4]⟩
 |_,_=>none
def ad4:PF prog:=PF.ofG prog [] [] aP 205 f205 func205 (fun c _=>LOk.nil c) WC (by
 intro vs es r h;unfold WC at h;split at h
 ·cases h;kernel_rfl
 ·cases h)
abbrev lV:=Int×List ByteArray
section
variable (y0:Int)(y1:List ByteArray)
def yc:ByteArray:=Option.getD y1[Int.toNat y0]? ByteArray.empty
def rl:List ByteArray:=List.drop (Int.toNat (0:Int)) (List.take y0.toNat y1)
def vu:Bool:=ltI y0 (↑y1.length:Int)
end
def zW:Bool:=leI (0:Int) (0:Int)
section
variable (y0:Int)(y1:List ByteArray)
def vv:Bool:=leI (0:Int) y0
def zX:Bool:=leI y0 (↑y1.length:Int)
def zY:Bool:=ltN y0.toNat y1.length
def vz:Bool:=ID (yc y0 y1) (rl y0 y1)
def zZ:Bool:=leI (0:Int) (Er (yc y0 y1) (rl y0 y1))
def Ea:Int:=IntKind.wrap .i64 (y0 + (1:Int))
end
def VM:lV→List (Nat×SV)
 |(y0,_)=> [(3,(.one ⟨false,[.val (.int .i64 y0)]⟩)),(0,(.one ⟨false,[.ref 0]⟩))]
def VD:lV→List (Nat×Entry)
 |(_,y1)=> [(0,(.row false 9 aen y1))]
def We:Nat→lV→List (Nat×SV)
 |0,(_,_)=> [(2,(.one ⟨false,[.val (.bool true)]⟩))]
 |_,(_,_)=> []
def VV:Nat→lV→List (Nat×Entry)
 |0,(_,y1)=> [(0,(.row false 9 aen y1))]
 |_,(_,y1)=> [(0,(.row false 9 aen y1))]
def xT:lV→LT lV
 |(y0,y1)=> .ite (vu y0 y1) (.need [zW,vv y0,zX y0 y1,vv y0,vu y0 y1,zY y0 y1,vz y0 y1] (.ite (zZ y0 y1) (.ext 0 [(0,0)]) (.nrm ((Ea y0),y1) [(0,0)]))) (.ext 1 [(0,0)])
def HK(s:St):Option lV:=
 (match s.look 3 with
 |some ⟨none,.one ⟨false,[.val (.int .i64 y0)]⟩⟩=>
 (match s.look 0 with
 |some ⟨none,.one ⟨false,[.ref 0]⟩⟩=>
 (match s.ent 0 with
 |some (.row false 9 (.str) y1)=>
 some (y0,y1)
 |_=>none)
 |_=>none)
 |_=>none)
def eK:Lp lV where
 h:=⟨[4,5,6,7,10,11,12,13,14,15,16,17,18,2,8,9,3],[0],[],[]⟩
 JL:=VM
 JE:=VD
 XL:=We
 XE:=VV
 q:=fun j=>match j with | 0=> .ret | _=> .exit 0
 tags:= [0,1]
 lt:=xT
 fuel:=fun(y0,y1)=>y0.natAbs + y1.length
 fix:=fun(_,y1) (y0,_)=>(y0,y1)
 σ:= [(0,0)]
 rd:=HK
theorem Tj:LoopOk prog (fun k=>Nat.blt k Tryz.f242.ntmps) eK.F (aZ f242 0):=by
 refine Lp.ok (tbl:= [xk,PF.lend xk,PF.fz xk]) (lf:= []) aP eK (by kernel_rfl) (LOk.nil _) (fun _=>rfl) (fun j _=>by unfold eK;match j with | 0=>rfl | _ + 1=>rfl) ?_ ?_ ?_ ?_ (fun _=>rfl) ?_
 ·rintro⟨y0,y1⟩;kernel_rfl
 ·rintro⟨y0,y1⟩;kernel_rfl
 ·intro s x h
  have h:HK s=some x:=h
  unfold HK at h
  repeat' split at h
  all_goals cases h
  exact⟨aa (by assumption) rfl (aa (by assumption) rfl (rfl)),ab rfl (by assumption) rfl (rfl)⟩
 ·rintro⟨y0,y1⟩;kernel_rfl
 ·rintro⟨y0,y1⟩ z;exact(And.intro (And.intro trivial rfl) trivial)
def Ng(x0:List ByteArray):Bool:=bif Nat.beq ((Lp.res eK ((0:Int),x0)).1) (0:Nat)then true else false
def Nh(x0:List ByteArray):Bool:=allT [Lp.fin eK ((0:Int),x0)]
def Sk:List SV→List Entry→Option Out
 | [.one ⟨false,[.ref 0]⟩],[.row false 9 (.str) x0]=>some ⟨.one ⟨false,[.val (.bool (Ng x0))]⟩,[.row false 9 aen x0],[],[Nh x0]⟩
 |_,_=>none
def acb:PF prog:=PF.ofG prog [xk,PF.lend xk,PF.fz xk] [eK.F] aP 242 f242 func242 (LOk.fnT (l:= [aZ f242 0]) (by kernel_rfl) (.cons Tj (.nil _))) Sk (by
 intro vs es r h;unfold Sk at h;split at h
 ·cases h;kernel_rfl
 ·cases h)
abbrev ly:=Int×Int×ByteArray×ByteArray×List (Int×(ByteArray×Int))×List ByteArray×List ByteArray×List ByteArray×List (ByteArray×(List (Int×(ByteArray×Int))))
def De(y1:Int)(y8:List (ByteArray×(List (Int×(ByteArray×Int))))):Bool:=ltI y1 (↑y8.length:Int)
def xf(y1:Int)(y8:List (ByteArray×(List (Int×(ByteArray×Int))))):Bool:=ltN y1.toNat y8.length
def pG(y1:Int)(y8:List (ByteArray×(List (Int×(ByteArray×Int))))):List (Int×ByteArray×Int):=(Option.getD y8[Int.toNat y1]? (vO (CTy.pair CTy.str (CTy.sl (178:Nat) abW)))).2
def pH(y0 y1:Int)(y8:List (ByteArray×(List (Int×(ByteArray×Int))))):Bool:=ltI y0 (↑(List.length (pG y1 y8)):Int)
def pI(y0 y1:Int)(y8:List (ByteArray×(List (Int×(ByteArray×Int))))):Int×ByteArray×Int:=Option.getD (pG y1 y8)[Int.toNat y0]? ((0:Int),ByteArray.empty,(0:Int))
def dH(y0 y1:Int)(y8:List (ByteArray×(List (Int×(ByteArray×Int))))):Bool:=leI (7:Int) ((pI y0 y1 y8).1)
def pJ(y0 y1:Int)(y8:List (ByteArray×(List (Int×(ByteArray×Int))))):List (Int×ByteArray×Int):= [((pI y0 y1 y8).1,((pI y0 y1 y8).2).1,(pI y0 y1 y8).2.2)]
def qW(y1:Int):Bool:=leI (0:Int) y1
def qX(y1:Int)(y8:List (ByteArray×(List (Int×(ByteArray×Int))))):Bool:=De y1 y8
def qY(y1:Int)(y8:List (ByteArray×(List (Int×(ByteArray×Int))))):Bool:=xf y1 y8
def qZ(y0 y1:Int)(y8:List (ByteArray×(List (Int×(ByteArray×Int))))):Bool:=pH y0 y1 y8
def tW(y0:Int):Bool:=leI (0:Int) y0
def tX(y0 y1:Int)(y8:List (ByteArray×(List (Int×(ByteArray×Int))))):Bool:=ltN y0.toNat (List.length (pG y1 y8))
def tY(y0 y1:Int)(y8:List (ByteArray×(List (Int×(ByteArray×Int))))):Bool:= !dH y0 y1 y8||leI (0:Int) y1
def tZ(y0 y1:Int)(y8:List (ByteArray×(List (Int×(ByteArray×Int))))):Bool:= !dH y0 y1 y8||De y1 y8
def ua(y0 y1:Int)(y8:List (ByteArray×(List (Int×(ByteArray×Int))))):Bool:= !dH y0 y1 y8||xf y1 y8
def ub(y0 y1:Int)(y8:List (ByteArray×(List (Int×(ByteArray×Int))))):Bool:= !dH y0 y1 y8||leI (0:Int) y0
def ta(y0 y1:Int)(y8:List (ByteArray×(List (Int×(ByteArray×Int))))):Bool:= !dH y0 y1 y8||pH y0 y1 y8
def tb(y0 y1:Int)(y8:List (ByteArray×(List (Int×(ByteArray×Int))))):Bool:= !dH y0 y1 y8||ltN y0.toNat (List.length (pG y1 y8))
def tc(y0 y1:Int)(y4:List (Int×(ByteArray×Int)))(y8:List (ByteArray×(List (Int×(ByteArray×Int))))):Bool:= !dH y0 y1 y8||leN (List.length y4 + List.length (pJ y0 y1 y8)) (9223372036854775807:Nat)
def td(y0 y1:Int)(y4:List (Int×(ByteArray×Int)))(y8:List (ByteArray×(List (Int×(ByteArray×Int))))):Bool:= !dH y0 y1 y8||leN ((List.length y4 + List.length (pJ y0 y1 y8)) * (32:Nat)) (140737488355328:Nat)
def te(y0 y1:Int)(y8:List (ByteArray×(List (Int×(ByteArray×Int))))):Bool:=dH y0 y1 y8
def pF(y0:Int):Int:=IntKind.wrap .i64 (y0 + (1:Int))
def tf(y0 y1:Int)(y4:List (Int×(ByteArray×Int)))(y8:List (ByteArray×(List (Int×(ByteArray×Int))))):List (Int×(ByteArray×Int)):=y4++pJ y0 y1 y8
def Qz:ly→List (Nat×SV)
 |(y0,y1,_,_,_,_,_,_,_)=> [(5,(.one ⟨false,[.val (.int .i64 y0)]⟩)),(1,(.one ⟨false,[.ptr 0 0]⟩)),(4,(.one ⟨false,[.val (.int .i64 y1)]⟩)),(3,(.one ⟨false,[.ref 1]⟩))]
def Qy:ly→List (Nat×Entry)
 |(_,_,y2,y3,y4,y5,y6,y7,y8)=> [(0,(.box 63 [.val (.string y2),.ref 2,.ref 3,.ref 4,.val (.string y3),.ref 5])),(2,(.row false 9 aen y5)),(3,(.row false 9 aen y6)),(4,(.row false 9 aen y7)),(5,(.row false 204 (CTy.pair CTy.str (CTy.sl (178:Nat) abW)) y8)),(1,(.row true 178 abW y4))]
def QG:Nat→ly→List (Nat×SV)
 |_,(_,_,_,_,_,_,_,_,_)=> [(3,(.one ⟨false,[.ref 1]⟩))]
def QF:Nat→ly→List (Nat×Entry)
 |_,(_,_,y2,y3,y4,y5,y6,y7,y8)=> [(0,(.box 63 [.val (.string y2),.ref 2,.ref 3,.ref 4,.val (.string y3),.ref 5])),(1,(.row true 178 abW y4)),(2,(.row false 9 aen y5)),(3,(.row false 9 aen y6)),(4,(.row false 9 aen y7)),(5,(.row false 204 (CTy.pair CTy.str (CTy.sl (178:Nat) abW)) y8))]
def sR:ly→LT ly
 |(y0,y1,y2,y3,y4,y5,y6,y7,y8)=> .need [qW y1,qX y1 y8,qY y1 y8] (.ite (qZ y0 y1 y8) (.need [qW y1,qX y1 y8,qY y1 y8,tW y0,qZ y0 y1 y8,tX y0 y1 y8] (.need [tY y0 y1 y8,tZ y0 y1 y8,ua y0 y1 y8,ub y0 y1 y8,ta y0 y1 y8,tb y0 y1 y8,tc y0 y1 y4 y8,td y0 y1 y4 y8] (.ite (te y0 y1 y8) (.nrm ((pF y0),y1,y2,y3,tf y0 y1 y4 y8,y5,y6,y7,y8) [(0,0),(1,2048),(2,2),(3,3),(4,4),(5,5)]) (.nrm ((pF y0),y1,y2,y3,y4,y5,y6,y7,y8) [(0,0),(1,1),(2,2),(3,3),(4,4),(5,5)])))) (.ext 0 [(0,0),(1,1),(2,2),(3,3),(4,4),(5,5)]))
def Db(s:St):Option ly:=
 (match s.look 5 with
 |some ⟨none,.one ⟨false,[.val (.int .i64 y0)]⟩⟩=>
 (match s.look 1 with
 |some ⟨none,.one ⟨false,[.ptr 0 0]⟩⟩=>
 (match s.look 4 with
 |some ⟨none,.one ⟨false,[.val (.int .i64 y1)]⟩⟩=>
 (match s.look 3 with
 |some ⟨none,.one ⟨false,[.ref 1]⟩⟩=>
 (match s.ent 0 with
 |some (.box 63 [.val (.string y2),.ref 2,.ref 3,.ref 4,.val (.string y3),.ref 5])=>
 (match s.ent 2 with
 |some (.row false 9 (.str) y5)=>
 (match s.ent 3 with
 |some (.row false 9 (.str) y6)=>
 (match s.ent 4 with
 |some (.row false 9 (.str) y7)=>
 (match s.ent 5 with
 |some (.row false 204 (.pair .str (.sl (178:Nat) (.pair (.int .i64) (.pair .str (.int .i64))))) y8)=>
 (match s.ent 1 with
 |some (.row true 178 (.pair (.int .i64) (.pair .str (.int .i64))) y4)=>
 some (y0,y1,y2,y3,y4,y5,y6,y7,y8)
 |_=>none)
 |_=>none)
 |_=>none)
 |_=>none)
 |_=>none)
 |_=>none)
 |_=>none)
 |_=>none)
 |_=>none)
 |_=>none)
def dC:Lp ly where
 h:=⟨[14,15,16,17,18,19,20,21,22,25,26,27,28,29,30,31,32,33,34,35,36,37,38,39,40,41,42,43,44,45,46,47,3,23,24,5],[0,2,3,4,5],[1],[]⟩
 JL:=Qz
 JE:=Qy
 XL:=QG
 XE:=QF
 q:=fun j=>match j with | _=> .exit 2
 tags:= [0]
 lt:=sR
 fuel:=fun(y0,y1,y2,y3,y4,y5,y6,y7,y8)=>y0.natAbs + y1.natAbs + y2.size + y3.size + y4.length + y5.length + y6.length + y7.length + y8.length
 fix:=fun(_,y1,y2,y3,_,y5,y6,y7,y8) (y0,_,_,_,y4,_,_,_,_)=>(y0,y1,y2,y3,y4,y5,y6,y7,y8)
 σ:= [(0,0),(2,2),(3,3),(4,4),(5,5),(1,1)]
 rd:=Db
theorem Pa:LoopOk prog (memN [7,8,9,10,11,5,14,15,16,17,18,19,20,21,22,25,26,27,28,29,30,31,32,33,34,35,36,37,38,39,40,41,42,43,44,45,46,47,3,23,24,12,13,4]) dC.F (UE (aZ f188 0) 0):=by
 refine Lp.ok (tbl:= []) (lf:= []) aP dC (by kernel_rfl) (LOk.nil _) (fun _=>rfl) (fun _ _=>rfl) ?_ ?_ ?_ ?_ (fun _=>rfl) ?_
 ·rintro⟨y0,y1,y2,y3,y4,y5,y6,y7,y8⟩;kernel_rfl
 ·rintro⟨y0,y1,y2,y3,y4,y5,y6,y7,y8⟩;kernel_rfl
 ·intro s x h
  have h:Db s=some x:=h
  unfold Db at h
  repeat' split at h
  all_goals cases h
  exact⟨aa (by assumption) rfl (aa (by assumption) rfl (aa (by assumption) rfl (aa (by assumption) rfl (rfl)))),ab rfl (by assumption) rfl (ab rfl (by assumption) rfl (ab rfl (by assumption) rfl (ab rfl (by assumption) rfl (ab rfl (by assumption) rfl (ab rfl (by assumption) rfl (rfl))))))⟩
 ·rintro⟨y0,y1,y2,y3,y4,y5,y6,y7,y8⟩;kernel_rfl
 ·rintro⟨y0,y1,y2,y3,y4,y5,y6,y7,y8⟩ z;exact(And.intro (And.intro rfl rfl) trivial)
abbrev oL:=Int×ByteArray×ByteArray×List (Int×(ByteArray×Int))×List ByteArray×List ByteArray×List ByteArray×List (ByteArray×(List (Int×(ByteArray×Int))))
def wy(y0:Int)(y1 y2:ByteArray)(y3:List (Int×(ByteArray×Int)))(y4 y5 y6:List ByteArray)(y7:List (ByteArray×(List (Int×(ByteArray×Int))))):Int×Int×ByteArray×ByteArray×List (Int×ByteArray×Int)×List ByteArray×List ByteArray×List ByteArray×List (ByteArray×List (Int×ByteArray×Int)):=((0:Int),y0,y1,y2,y3,y4,y5,y6,y7)
def xX(y0:Int)(y7:List (ByteArray×(List (Int×(ByteArray×Int))))):Bool:=ltI y0 (↑y7.length:Int)
def xY(y0:Int)(y1 y2:ByteArray)(y3:List (Int×(ByteArray×Int)))(y4 y5 y6:List ByteArray)(y7:List (ByteArray×(List (Int×(ByteArray×Int))))):Bool:=Lp.fin dC (wy y0 y1 y2 y3 y4 y5 y6 y7)
def xZ(y0:Int):Int:=IntKind.wrap .i64 (y0 + (1:Int))
def ya(y0:Int)(y1 y2:ByteArray)(y3:List (Int×(ByteArray×Int)))(y4 y5 y6:List ByteArray)(y7:List (ByteArray×(List (Int×(ByteArray×Int))))):List (Int×(ByteArray×Int)):=((Lp.res dC (wy y0 y1 y2 y3 y4 y5 y6 y7)).2.2.2.2.2).1
def TR:oL→List (Nat×SV)
 |(y0,_,_,_,_,_,_,_)=> [(4,(.one ⟨false,[.val (.int .i64 y0)]⟩)),(1,(.one ⟨false,[.ptr 0 0]⟩)),(3,(.one ⟨false,[.ref 1]⟩))]
def TK:oL→List (Nat×Entry)
 |(_,y1,y2,y3,y4,y5,y6,y7)=> [(0,(.box 63 [.val (.string y1),.ref 2,.ref 3,.ref 4,.val (.string y2),.ref 5])),(2,(.row false 9 aen y4)),(3,(.row false 9 aen y5)),(4,(.row false 9 aen y6)),(5,(.row false 204 (CTy.pair CTy.str (CTy.sl (178:Nat) abW)) y7)),(1,(.row true 178 abW y3))]
def Ul:Nat→oL→List (Nat×SV)
 |_,(_,_,_,_,_,_,_,_)=> [(3,(.one ⟨false,[.ref 1]⟩))]
def Uf:Nat→oL→List (Nat×Entry)
 |_,(_,y1,y2,y3,y4,y5,y6,y7)=> [(0,(.box 63 [.val (.string y1),.ref 2,.ref 3,.ref 4,.val (.string y2),.ref 5])),(1,(.row true 178 abW y3)),(2,(.row false 9 aen y4)),(3,(.row false 9 aen y5)),(4,(.row false 9 aen y6)),(5,(.row false 204 (CTy.pair CTy.str (CTy.sl (178:Nat) abW)) y7))]
def vX:oL→LT oL
 |(y0,y1,y2,y3,y4,y5,y6,y7)=> .ite (xX y0 y7) (.need [xY y0 y1 y2 y3 y4 y5 y6 y7] (.nrm ((xZ y0),y1,y2,ya y0 y1 y2 y3 y4 y5 y6 y7,y4,y5,y6,y7) [(0,0),(1,448),(2,2),(3,3),(4,4),(5,5)])) (.ext 0 [(0,0),(1,1),(2,2),(3,3),(4,4),(5,5)])
def Gy(s:St):Option oL:=
 (match s.look 4 with
 |some ⟨none,.one ⟨false,[.val (.int .i64 y0)]⟩⟩=>
 (match s.look 1 with
 |some ⟨none,.one ⟨false,[.ptr 320 0]⟩⟩=>
 (match s.look 3 with
 |some ⟨none,.one ⟨false,[.ref 448]⟩⟩=>
 (match s.ent 320 with
 |some (.box 63 [.val (.string y1),.ref 0,.ref 1,.ref 2,.val (.string y2),.ref 3])=>
 (match s.ent 0 with
 |some (.row false 9 (.str) y4)=>
 (match s.ent 1 with
 |some (.row false 9 (.str) y5)=>
 (match s.ent 2 with
 |some (.row false 9 (.str) y6)=>
 (match s.ent 3 with
 |some (.row false 204 (.pair .str (.sl (178:Nat) (.pair (.int .i64) (.pair .str (.int .i64))))) y7)=>
 (match s.ent 448 with
 |some (.row true 178 (.pair (.int .i64) (.pair .str (.int .i64))) y3)=>
 some (y0,y1,y2,y3,y4,y5,y6,y7)
 |_=>none)
 |_=>none)
 |_=>none)
 |_=>none)
 |_=>none)
 |_=>none)
 |_=>none)
 |_=>none)
 |_=>none)
def iz:Lp oL where
 h:=⟨[7,8,9,10,11,5,14,15,16,17,18,19,20,21,22,25,26,27,28,29,30,31,32,33,34,35,36,37,38,39,40,41,42,43,44,45,46,47,3,23,24,12,13,4],[0,2,3,4,5],[1],[]⟩
 JL:=TR
 JE:=TK
 XL:=Ul
 XE:=Uf
 q:=fun j=>match j with | _=> .exit 0
 tags:= [0]
 lt:=vX
 fuel:=fun(y0,y1,y2,y3,y4,y5,y6,y7)=>y0.natAbs + y1.size + y2.size + y3.length + y4.length + y5.length + y6.length + y7.length
 fix:=fun(_,y1,y2,_,y4,y5,y6,y7) (y0,_,_,y3,_,_,_,_)=>(y0,y1,y2,y3,y4,y5,y6,y7)
 σ:= [(0,320),(2,0),(3,1),(4,2),(5,3),(1,448)]
 rd:=Gy
theorem RC:LoopOk prog (fun k=>Nat.blt k Tryz.f188.ntmps) iz.F (aZ f188 0):=by
 refine Lp.ok (tbl:= []) (lf:= [dC.F]) aP iz (by kernel_rfl) (LOk.allT (l:= [UE (aZ f188 0) 0]) (by kernel_rfl) (.cons Pa (.nil _))) (fun _=>rfl) (fun _ _=>rfl) ?_ ?_ ?_ ?_ (fun _=>rfl) ?_
 ·rintro⟨y0,y1,y2,y3,y4,y5,y6,y7⟩;kernel_rfl
 ·rintro⟨y0,y1,y2,y3,y4,y5,y6,y7⟩;kernel_rfl
 ·intro s x h
  have h:Gy s=some x:=h
  unfold Gy at h
  repeat' split at h
  all_goals cases h
  exact⟨aa (by assumption) rfl (aa (by assumption) rfl (aa (by assumption) rfl (rfl))),ab rfl (by assumption) rfl (ab rfl (by assumption) rfl (ab rfl (by assumption) rfl (ab rfl (by assumption) rfl (ab rfl (by assumption) rfl (ab rfl (by assumption) rfl (rfl))))))⟩
 ·rintro⟨y0,y1,y2,y3,y4,y5,y6,y7⟩;kernel_rfl
 ·rintro⟨y0,y1,y2,y3,y4,y5,y6,y7⟩ z;exact(And.intro rfl trivial)
section
variable (x0 x1:ByteArray)(x2 x3 x4:List ByteArray)(x5:List (ByteArray×List (Int×ByteArray×Int)))
def KR:Int×ByteArray×ByteArray×List (Int×ByteArray×Int)×List ByteArray×List ByteArray×List ByteArray×List (ByteArray×List (Int×ByteArray×Int)):=((0:Int),x0,x1,[],x2,x3,x4,x5)
def LU:List (Int×(ByteArray×Int)):=((Lp.res iz (KR x0 x1 x2 x3 x4 x5)).2.2.2.2).1
def LV:Bool:=allT [Lp.fin iz (KR x0 x1 x2 x3 x4 x5)]
end
def Qw:List SV→List Entry→Option Out
 | [.one ⟨true,[.val (.string x0),.ref 0,.ref 1,.ref 2,.val (.string x1),.ref 3]⟩],[.row false 9 (.str) x2,.row false 9 (.str) x3,.row false 9 (.str) x4,.row false 204 (.pair (.str) (.sl 178 (.pair (.int .i64) (.pair (.str) (.int .i64))))) x5]=>some ⟨.one ⟨false,[.ref 4]⟩,[.row false 9 aen x2,.row false 9 aen x3,.row false 9 aen x4,.row false 204 (CTy.pair CTy.str (CTy.sl (178:TypeId) abW)) x5],[.row true 178 abW (LU x0 x1 x2 x3 x4 x5)],[LV x0 x1 x2 x3 x4 x5]⟩
 |_,_=>none
def aa4:PF prog:=PF.ofG prog [] [iz.F] aP 188 f188 func188 (LOk.fnT (l:= [aZ f188 0]) (by kernel_rfl) (.cons RC (.nil _))) Qw (by
 intro vs es r h;unfold Qw at h;split at h
 ·cases h;kernel_rfl
 ·cases h)
def ZC(x0:ByteArray):Bool:= !kV x0
def Pb:List SV→List Entry→Option Out
 | [.one ⟨false,[.val (.string x0)]⟩],[]=>some ⟨.one ⟨false,[.val (.bool (ZC x0))]⟩,[],[],[]⟩
 |_,_=>none
def ZP:PF prog:=PF.ofG prog [Ib] [] aP 259 f259 func259 (fun c _=>LOk.nil c) Pb (by
 intro vs es r h;unfold Pb at h;split at h
 ·cases h;kernel_rfl
 ·cases h)
def wJ(x0:ByteArray):Bool:= !kV x0
def JD:List SV→List Entry→Option Out
 | [.one ⟨false,[.val (.string x0)]⟩],[]=>some ⟨.one ⟨false,[.val (.bool (wJ x0))]⟩,[],[],[]⟩
 |_,_=>none
def JP:PF prog:=PF.ofG prog [Ib] [] aP 259 f259 func259 (fun c _=>LOk.nil c) JD (by
 intro vs es r h;unfold JD at h;split at h
 ·cases h;kernel_rfl
 ·cases h)
abbrev bg:=Int×Int×List ByteArray
section
variable (y0 y1:Int)(y2:List ByteArray)
def gm:Bool:=ltI y0 y1
def gn:Bool:=leI (0:Int) y0
def gp:Bool:=ltI y0 (↑y2.length:Int)
def gq:Bool:=ltN y0.toNat y2.length
def gr:Bool:=wJ (Option.getD y2[Int.toNat y0]? ByteArray.empty)
def gt:Int:=IntKind.wrap .i64 (y0 + (1:Int))
end
def DD:bg→List (Nat×SV)
 |(y0,y1,_)=> [(8,(.one ⟨false,[.val (.int .i64 y0)]⟩)),(7,(.one ⟨false,[.val (.int .i64 y1)]⟩)),(1,(.one ⟨false,[.val (.func (.func 259) ⟨[]⟩ ⟨[]⟩)]⟩)),(0,(.one ⟨false,[.ref 0]⟩))]
def DA:bg→List (Nat×Entry)
 |(_,_,y2)=> [(0,(.row false 9 aen y2))]
def DK:Nat→bg→List (Nat×SV)
 |0,(y0,_,_)=> [(4,(.one ⟨false,[.val (.int .i64 y0)]⟩))]
 |_,(_,_,_)=> []
def DH:Nat→bg→List (Nat×Entry)
 |0,(_,_,y2)=> [(0,(.row false 9 aen y2))]
 |_,(_,_,y2)=> [(0,(.row false 9 aen y2))]
def fY:bg→LT bg
 |(y0,y1,y2)=> .ite (gm y0 y1) (.need [gn y0,gp y0 y2,gq y0 y2] (.ite (gr y0 y2) (.ext 0 [(0,0)]) (.nrm ((gt y0),y1,y2) [(0,0)]))) (.ext 1 [(0,0)])
def od(s:St):Option bg:=
 (match s.look 8 with
 |some ⟨none,.one ⟨false,[.val (.int .i64 y0)]⟩⟩=>
 (match s.look 7 with
 |some ⟨none,.one ⟨false,[.val (.int .i64 y1)]⟩⟩=>
 (match s.look 1 with
 |some ⟨none,.one ⟨false,[.val (.func (.func 259) ⟨[]⟩ ⟨[]⟩)]⟩⟩=>
 (match s.look 0 with
 |some ⟨none,.one ⟨false,[.ref 0]⟩⟩=>
 (match s.ent 0 with
 |some (.row false 9 (.str) y2)=>
 some (y0,y1,y2)
 |_=>none)
 |_=>none)
 |_=>none)
 |_=>none)
 |_=>none)
def af:Lp bg where
 h:=⟨[9,10,5,11,12,13,14,15,16,17,4,18,8],[0],[],[]⟩
 JL:=DD
 JE:=DA
 XL:=DK
 XE:=DH
 q:=fun j=>match j with | 0=> .ret | _=> .exit 0
 tags:= [0,1]
 lt:=fY
 fuel:=fun(y0,y1,y2)=>y0.natAbs + y1.natAbs + y2.length
 fix:=fun(_,y1,y2) (y0,_,_)=>(y0,y1,y2)
 σ:= [(0,0)]
 rd:=od
theorem CW:LoopOk prog (fun k=>Nat.blt k Tryz.f264.ntmps) af.F (aZ f264 0):=by
 refine Lp.ok (tbl:= [JP]) (lf:= []) aP af (by kernel_rfl) (LOk.nil _) (fun _=>rfl) (fun j _=>by unfold af;match j with | 0=>rfl | _ + 1=>rfl) ?_ ?_ ?_ ?_ (fun _=>rfl) ?_
 ·rintro⟨y0,y1,y2⟩;kernel_rfl
 ·rintro⟨y0,y1,y2⟩;kernel_rfl
 ·intro s x h
  have h:od s=some x:=h
  unfold od at h
  repeat' split at h
  all_goals cases h
  exact⟨aa (by assumption) rfl (aa (by assumption) rfl (aa (by assumption) rfl (aa (by assumption) rfl (rfl)))),ab rfl (by assumption) rfl (rfl)⟩
 ·rintro⟨y0,y1,y2⟩;kernel_rfl
 ·rintro⟨y0,y1,y2⟩ z;exact(And.intro (And.intro trivial rfl) trivial)
section
variable (x0:List ByteArray)
def ll:Int×Int×List ByteArray:=((0:Int),(↑x0.length:Int),x0)
def pZ:Int:=bif Nat.beq ((Lp.res af (ll x0)).1) (0:Nat)then ((Lp.res af (ll x0)).2).1else(-1:Int)
def qa:Bool:=allT [Lp.fin af (ll x0)]
end
def vL:List SV→List Entry→Option Out
 | [.one ⟨false,[.ref 0]⟩,.one ⟨false,[.val (.func (.func 259) ⟨[]⟩ ⟨[]⟩)]⟩],[.row false 9 (.str) x0]=>some ⟨.one ⟨false,[.val (.int .i64 (pZ x0))]⟩,[.row false 9 aen x0],[],[qa x0]⟩
 |_,_=>none
def pN:PF prog:=PF.ofG prog [JP] [af.F] aP 264 f264 func264 (LOk.fnT (l:= [aZ f264 0]) (by kernel_rfl) (.cons CW (.nil _))) vL (by
 intro vs es r h;unfold vL at h;split at h
 ·cases h;kernel_rfl
 ·cases h)
def oz(x0:List ByteArray):Bool:=leI (0:Int) (pZ x0)
def oA(x0:List ByteArray):Bool:=allT [qa x0]
def ut:List SV→List Entry→Option Out
 | [.one ⟨false,[.ref 0]⟩,.one ⟨false,[.val (.func (.func 259) ⟨[]⟩ ⟨[]⟩)]⟩],[.row false 9 (.str) x0]=>some ⟨.one ⟨false,[.val (.bool (oz x0))]⟩,[.row false 9 aen x0],[],[oA x0]⟩
 |_,_=>none
def ov:PF prog:=PF.ofG prog [pN,PF.lend pN,PF.fz pN] [] aP 235 f235 func235 (fun c _=>LOk.nil c) ut (by
 intro vs es r h;unfold ut at h;split at h
 ·cases h;kernel_rfl
 ·cases h)
def MI(x0:List ByteArray):Bool:= !oz x0
def MJ(x0:List ByteArray):Bool:=allT [oA x0]
def RS:List SV→List Entry→Option Out
 | [.one ⟨false,[.ref 0]⟩],[.row false 9 (.str) x0]=>some ⟨.one ⟨false,[.val (.bool (MI x0))]⟩,[.row false 9 aen x0],[],[MJ x0]⟩
 |_,_=>none
def ab2:PF prog:=PF.ofG prog [ZP,ov,PF.lend ov,PF.fz ov] [] aP 226 f226 func226 (fun c _=>LOk.nil c) RS (by
 intro vs es r h;unfold RS at h;split at h
 ·cases h;kernel_rfl
 ·cases h)
abbrev oD:=Int×Int×Int×Int×List (Int×(ByteArray×Int))
section
variable (y0 y1 y2 y3:Int)(y4:List (Int×(ByteArray×Int)))
def pd:Int×ByteArray×Int:=Option.getD y4[Int.toNat y0]? ((0:Int),ByteArray.empty,(0:Int))
def tF:Int:=IntKind.wrap .i64 (y2 + IntKind.wrap .i64 ((1:Int) - qv ((pd y0 y4).1)))
def CF:Bool:=ltI y0 y1
def CG:Bool:=leI (0:Int) y0
def CH:Bool:=ltI y0 (↑y4.length:Int)
def CI:Bool:=ltN y0.toNat y4.length
def CJ:Bool:=bif !HU ((pd y0 y4).1) (((pd y0 y4).2).1) ((pd y0 y4).2.2)then true else ltI y2 (qv ((pd y0 y4).1))
def CL:Int:=IntKind.wrap .i64 (y0 + (1:Int))
def CM:Int:=tF y0 y2 y4
def CN:Int:=aaI y3 (tF y0 y2 y4) (tF y0 y2 y4) y3
end
def Zm:oD→List (Nat×SV)
 |(y0,y1,y2,y3,_)=> [(10,(.one ⟨false,[.val (.int .i64 y0)]⟩)),(9,(.one ⟨false,[.val (.int .i64 y1)]⟩)),(8,(.one ⟨false,[.ref 0]⟩)),(4,(.one ⟨false,[.val (.int .i64 y2)]⟩)),(5,(.one ⟨false,[.val (.int .i64 y3)]⟩))]
def Zl:oD→List (Nat×Entry)
 |(_,_,_,_,y4)=> [(0,(.row false 178 abW y4))]
def Zo:Nat→oD→List (Nat×SV)
 |0,(_,_,_,_,_)=> [(2,(.one ⟨false,[.val (.int .i64 (0:Int))]⟩)),(3,(.one ⟨false,[.val (.bool false)]⟩))]
 |_,(_,_,y2,y3,_)=> [(4,(.one ⟨false,[.val (.int .i64 y2)]⟩)),(5,(.one ⟨false,[.val (.int .i64 y3)]⟩))]
def Zn:Nat→oD→List (Nat×Entry)
 |0,(_,_,_,_,y4)=> [(0,(.row false 178 abW y4))]
 |_,(_,_,_,_,y4)=> [(0,(.row false 178 abW y4))]
def Bt:oD→LT oD
 |(y0,y1,y2,y3,y4)=> .ite (CF y0 y1) (.need [CG y0,CH y0 y4,CI y0 y4] (.ite (CJ y0 y2 y4) (.ext 0 [(0,0)]) (.nrm ((CL y0),y1,CM y0 y2 y4,CN y0 y2 y3 y4,y4) [(0,0)]))) (.ext 1 [(0,0)])
def KE(s:St):Option oD:=
 (match s.look 10 with
 |some ⟨none,.one ⟨false,[.val (.int .i64 y0)]⟩⟩=>
 (match s.look 9 with
 |some ⟨none,.one ⟨false,[.val (.int .i64 y1)]⟩⟩=>
 (match s.look 8 with
 |some ⟨none,.one ⟨false,[.ref 0]⟩⟩=>
 (match s.look 4 with
 |some ⟨none,.one ⟨false,[.val (.int .i64 y2)]⟩⟩=>
 (match s.look 5 with
 |some ⟨none,.one ⟨false,[.val (.int .i64 y3)]⟩⟩=>
 (match s.ent 0 with
 |some (.row false 178 (.pair (.int .i64) (.pair .str (.int .i64))) y4)=>
 some (y0,y1,y2,y3,y4)
 |_=>none)
 |_=>none)
 |_=>none)
 |_=>none)
 |_=>none)
 |_=>none)
def fT:Lp oD where
 h:=⟨[11,12,13,7,14,15,16,17,18,19,20,21,22,23,2,3,24,25,26,27,28,29,4,30,31,32,5,33,10],[0],[],[]⟩
 JL:=Zm
 JE:=Zl
 XL:=Zo
 XE:=Zn
 q:=fun j=>match j with | 0=> .ret | _=> .exit 0
 tags:= [0,1]
 lt:=Bt
 fuel:=fun(y0,y1,y2,y3,y4)=>y0.natAbs + y1.natAbs + y2.natAbs + y3.natAbs + y4.length
 fix:=fun(_,y1,_,_,y4) (y0,_,y2,y3,_)=>(y0,y1,y2,y3,y4)
 σ:= [(0,0)]
 rd:=KE
theorem Wh:LoopOk prog (fun k=>Nat.blt k Tryz.f275.ntmps) fT.F (aZ f275 0):=by
 refine Lp.ok (tbl:= [WT,GV]) (lf:= []) aP fT (by kernel_rfl) (LOk.nil _) (fun _=>rfl) (fun j _=>by unfold fT;match j with | 0=>rfl | _ + 1=>rfl) ?_ ?_ ?_ ?_ (fun _=>rfl) ?_
 ·rintro⟨y0,y1,y2,y3,y4⟩;kernel_rfl
 ·rintro⟨y0,y1,y2,y3,y4⟩;kernel_rfl
 ·intro s x h
  have h:KE s=some x:=h
  unfold KE at h
  repeat' split at h
  all_goals cases h
  exact⟨aa (by assumption) rfl (aa (by assumption) rfl (aa (by assumption) rfl (aa (by assumption) rfl (aa (by assumption) rfl (rfl))))),ab rfl (by assumption) rfl (rfl)⟩
 ·rintro⟨y0,y1,y2,y3,y4⟩;kernel_rfl
 ·rintro⟨y0,y1,y2,y3,y4⟩ z;exact(And.intro (And.intro trivial rfl) trivial)
section
variable (x0:List (Int×ByteArray×Int))
def Ko:Int×Int×Int×Int×List (Int×ByteArray×Int):=((0:Int),(↑x0.length:Int),(0:Int),(0:Int),x0)
def NZ:Bool:=Nat.beq ((Lp.res fT (Ko x0)).1) (0:Nat)
def Oa:Int×Int×List (Int×ByteArray×Int):=(Lp.res fT (Ko x0)).2.2.2
def adV:Int:=bif NZ x0 then(0:Int)else ((Oa x0).2).1
def PR:Bool:=bif NZ x0 then false else (Oa x0).1==(1:Int)
def PS:Bool:=allT [Lp.fin fT (Ko x0)]
end
def Wp:List SV→List Entry→Option Out
 | [.one ⟨false,[.ref 0]⟩],[.row false 178 (.pair (.int .i64) (.pair (.str) (.int .i64))) x0]=>some ⟨.tup [⟨false,[.val (.int .i64 (adV x0))]⟩,⟨false,[.val (.bool (PR x0))]⟩],[.row false 178 abW x0],[],[PS x0]⟩
 |_,_=>none
def Qe:PF prog:=PF.ofG prog [WT,GV] [fT.F] aP 275 f275 func275 (LOk.fnT (l:= [aZ f275 0]) (by kernel_rfl) (.cons Wh (.nil _))) Wp (by
 intro vs es r h;unfold Wp at h;split at h
 ·cases h;kernel_rfl
 ·cases h)
def Ch(x0:List (Int×ByteArray×Int)):Bool:=bif PR x0 then leI (↑x0.length:Int) (40:Int)else false
def Ci(x0:List (Int×ByteArray×Int)):Bool:=allT [PS x0]
def Nk:List SV→List Entry→Option Out
 | [.one ⟨false,[.ref 0]⟩],[.row false 178 (.pair (.int .i64) (.pair (.str) (.int .i64))) x0]=>some ⟨.one ⟨false,[.val (.bool (Ch x0))]⟩,[.row false 178 abW x0],[],[Ci x0]⟩
 |_,_=>none
def Hs:PF prog:=PF.ofG prog [Qe,PF.lend Qe,PF.fz Qe] [] aP 263 f263 func263 (fun c _=>LOk.nil c) Nk (by
 intro vs es r h;unfold Nk at h;split at h
 ·cases h;kernel_rfl
 ·cases h)
def PT(x0:ByteArray)(x1:List (Int×ByteArray×Int)):Bool:=bif kV x0 then Ch x1 else false
def PU(x0:ByteArray)(x1:List (Int×ByteArray×Int)):Bool:=allT [!(kV x0&&true)||Ci x1]
def Wq:List SV→List Entry→Option Out
 | [.one ⟨true,[.val (.string x0),.ref 0]⟩],[.row false 178 (.pair (.int .i64) (.pair (.str) (.int .i64))) x1]=>some ⟨.one ⟨false,[.val (.bool (PT x0 x1))]⟩,[.row false 178 abW x1],[],[PU x0 x1]⟩
 |_,_=>none
def ad1:PF prog:=PF.ofG prog [Ib,Hs,PF.lend Hs,PF.fz Hs] [] aP 231 f231 func231 (fun c _=>LOk.nil c) Wq (by
 intro vs es r h;unfold Wq at h;split at h
 ·cases h;kernel_rfl
 ·cases h)
abbrev lO:=Int×Int×List ByteArray
section
variable (y0 y1:Int)(y2:List ByteArray)
def xt:ByteArray:=Option.getD y2[Int.toNat y0]? ByteArray.empty
def rg:List ByteArray:=List.drop (Int.toNat (0:Int)) (List.take y0.toNat y2)
def yI:Bool:=ltI y0 y1
def vc:Bool:=leI (0:Int) y0
def yJ:Bool:=ltI y0 (↑y2.length:Int)
def yK:Bool:=ltN y0.toNat y2.length
end
def yL:Bool:=leI (0:Int) (0:Int)
section
variable (y0:Int)(y2:List ByteArray)
def yM:Bool:=leI y0 (↑y2.length:Int)
def vd:Bool:=jw (xt y0 y2) (rg y0 y2)
def yN:Bool:=gF (xt y0 y2) (rg y0 y2)
def DO:Int:=IntKind.wrap .i64 (y0 + (1:Int))
end
def VE:lO→List (Nat×SV)
 |(y0,y1,_)=> [(7,(.one ⟨false,[.val (.int .i64 y0)]⟩)),(6,(.one ⟨false,[.val (.int .i64 y1)]⟩)),(5,(.one ⟨false,[.ref 0]⟩)),(0,(.one ⟨false,[.ref 0]⟩))]
def Vv:lO→List (Nat×Entry)
 |(_,_,y2)=> [(0,(.row false 9 aen y2))]
def VW:Nat→lO→List (Nat×SV)
 |0,(_,_,_)=> [(2,(.one ⟨false,[.val (.bool true)]⟩))]
 |_,(_,_,_)=> []
def VN:Nat→lO→List (Nat×Entry)
 |0,(_,_,y2)=> [(0,(.row false 9 aen y2))]
 |_,(_,_,y2)=> [(0,(.row false 9 aen y2))]
def xL:lO→LT lO
 |(y0,y1,y2)=> .ite (yI y0 y1) (.need [vc y0,yJ y0 y2,yK y0 y2] (.need [yL,vc y0,yM y0 y2,vd y0 y2] (.ite (yN y0 y2) (.ext 0 [(0,0)]) (.nrm ((DO y0),y1,y2) [(0,0)])))) (.ext 1 [(0,0)])
def HC(s:St):Option lO:=
 (match s.look 7 with
 |some ⟨none,.one ⟨false,[.val (.int .i64 y0)]⟩⟩=>
 (match s.look 6 with
 |some ⟨none,.one ⟨false,[.val (.int .i64 y1)]⟩⟩=>
 (match s.look 5 with
 |some ⟨none,.one ⟨false,[.ref 0]⟩⟩=>
 (match s.look 0 with
 |some ⟨none,.one ⟨false,[.ref 0]⟩⟩=>
 (match s.ent 0 with
 |some (.row false 9 (.str) y2)=>
 some (y0,y1,y2)
 |_=>none)
 |_=>none)
 |_=>none)
 |_=>none)
 |_=>none)
def eG:Lp lO where
 h:=⟨[8,9,10,11,3,4,12,13,14,15,16,2,17,7],[0],[],[]⟩
 JL:=VE
 JE:=Vv
 XL:=VW
 XE:=VN
 q:=fun j=>match j with | 0=> .ret | _=> .exit 0
 tags:= [0,1]
 lt:=xL
 fuel:=fun(y0,y1,y2)=>y0.natAbs + y1.natAbs + y2.length
 fix:=fun(_,y1,y2) (y0,_,_)=>(y0,y1,y2)
 σ:= [(0,0)]
 rd:=HC
theorem Tb:LoopOk prog (fun k=>Nat.blt k Tryz.f232.ntmps) eG.F (aZ f232 0):=by
 refine Lp.ok (tbl:= [cL,PF.lend cL,PF.fz cL]) (lf:= []) aP eG (by kernel_rfl) (LOk.nil _) (fun _=>rfl) (fun j _=>by unfold eG;match j with | 0=>rfl | _ + 1=>rfl) ?_ ?_ ?_ ?_ (fun _=>rfl) ?_
 ·rintro⟨y0,y1,y2⟩;kernel_rfl
 ·rintro⟨y0,y1,y2⟩;kernel_rfl
 ·intro s x h
  have h:HC s=some x:=h
  unfold HC at h
  repeat' split at h
  all_goals cases h
  exact⟨aa (by assumption) rfl (aa (by assumption) rfl (aa (by assumption) rfl (aa (by assumption) rfl (rfl)))),ab rfl (by assumption) rfl (rfl)⟩
 ·rintro⟨y0,y1,y2⟩;kernel_rfl
 ·rintro⟨y0,y1,y2⟩ z;exact(And.intro (And.intro trivial rfl) trivial)
section
variable (x0:List ByteArray)
def Lw:Int×Int×List ByteArray:=((0:Int),(↑x0.length:Int),x0)
def MK:Bool:=bif Nat.beq ((Lp.res eG (Lw x0)).1) (0:Nat)then true else false
def ML:Bool:=allT [Lp.fin eG (Lw x0)]
end
def RT:List SV→List Entry→Option Out
 | [.one ⟨false,[.ref 0]⟩],[.row false 9 (.str) x0]=>some ⟨.one ⟨false,[.val (.bool (MK x0))]⟩,[.row false 9 aen x0],[],[ML x0]⟩
 |_,_=>none
def ab3:PF prog:=PF.ofG prog [cL,PF.lend cL,PF.fz cL] [eG.F] aP 232 f232 func232 (LOk.fnT (l:= [aZ f232 0]) (by kernel_rfl) (.cons Tb (.nil _))) RT (by
 intro vs es r h;unfold RT at h;split at h
 ·cases h;kernel_rfl
 ·cases h)
abbrev aM:=Int×Int×List (Int×(ByteArray×Int))×List (Int×(ByteArray×Int))
section
variable (y0 y1:Int)(y2 y3:List (Int×(ByteArray×Int)))
def aK:Int×ByteArray×Int:=Option.getD y2[Int.toNat y0]? ((0:Int),ByteArray.empty,(0:Int))
def bH:Bool:=leI (7:Int) ((aK y0 y2).1)
def bI:List (Int×ByteArray×Int):= [((aK y0 y2).1,((aK y0 y2).2).1,(aK y0 y2).2.2)]
def dM:Bool:=ltI y0 y1
def dN:Bool:=leI (0:Int) y0
def dO:Bool:=ltI y0 (↑y2.length:Int)
def dP:Bool:=ltN y0.toNat y2.length
def dQ:Bool:= !bH y0 y2||leN (List.length y3 + List.length (bI y0 y2)) (9223372036854775807:Nat)
def dR:Bool:= !bH y0 y2||leN ((List.length y3 + List.length (bI y0 y2)) * (32:Nat)) (140737488355328:Nat)
def dS:Bool:=bH y0 y2
def cP:Int:=IntKind.wrap .i64 (y0 + (1:Int))
def dU:List (Int×(ByteArray×Int)):=y3++bI y0 y2
end
def Ah:aM→List (Nat×SV)
 |(y0,y1,_,_)=> [(18,(.one ⟨false,[.val (.int .i64 y0)]⟩)),(17,(.one ⟨false,[.val (.int .i64 y1)]⟩)),(16,(.one ⟨false,[.ref 0]⟩)),(3,(.one ⟨false,[.ref 1]⟩))]
def Ag:aM→List (Nat×Entry)
 |(_,_,y2,y3)=> [(0,(.row false 178 abW y2)),(1,(.row true 178 abW y3))]
def Aj:Nat→aM→List (Nat×SV)
 |_,(_,_,_,_)=> [(3,(.one ⟨false,[.ref 1]⟩))]
def Ai:Nat→aM→List (Nat×Entry)
 |_,(_,_,y2,y3)=> [(0,(.row false 178 abW y2)),(1,(.row true 178 abW y3))]
def dy:aM→LT aM
 |(y0,y1,y2,y3)=> .ite (dM y0 y1) (.need [dN y0,dO y0 y2,dP y0 y2] (.need [dQ y0 y2 y3,dR y0 y2 y3] (.ite (dS y0 y2) (.nrm ((cP y0),y1,y2,(dU y0 y2 y3)) [(0,0),(1,768)]) (.nrm ((cP y0),y1,y2,y3) [(0,0),(1,1)])))) (.ext 0 [(0,0),(1,1)])
def lw(s:St):Option aM:=
 (match s.look 18 with
 |some ⟨none,.one ⟨false,[.val (.int .i64 y0)]⟩⟩=>
 (match s.look 17 with
 |some ⟨none,.one ⟨false,[.val (.int .i64 y1)]⟩⟩=>
 (match s.look 16 with
 |some ⟨none,.one ⟨false,[.ref 192]⟩⟩=>
 (match s.look 3 with
 |some ⟨none,.one ⟨false,[.ref 1]⟩⟩=>
 (match s.ent 192 with
 |some (.row false 178 (.pair (.int .i64) (.pair .str (.int .i64))) y2)=>
 (match s.ent 1 with
 |some (.row true 178 (.pair (.int .i64) (.pair .str (.int .i64))) y3)=>
 some (y0,y1,y2,y3)
 |_=>none)
 |_=>none)
 |_=>none)
 |_=>none)
 |_=>none)
 |_=>none)
def ae:Lp aM where
 h:=⟨[19,20,21,7,22,23,24,25,26,27,28,3,29,18],[0],[1],[]⟩
 JL:=Ah
 JE:=Ag
 XL:=Aj
 XE:=Ai
 q:=fun j=>match j with | _=> .exit 2
 tags:= [0]
 lt:=dy
 fuel:=fun(y0,y1,y2,y3)=>y0.natAbs + y1.natAbs + y2.length + y3.length
 fix:=fun(_,y1,y2,_) (y0,_,_,y3)=>(y0,y1,y2,y3)
 σ:= [(0,192),(1,1)]
 rd:=lw
theorem za:LoopOk prog (memN [12,13,14,5,15,16,17,18,19,20,21,7,22,23,24,25,26,27,28,3,29,30,11]) ae.F (UE (aZ f117 0) 0):=by
 refine Lp.ok (tbl:= []) (lf:= []) aP ae (by kernel_rfl) (LOk.nil _) (fun _=>rfl) (fun _ _=>rfl) ?_ ?_ ?_ ?_ (fun _=>rfl) ?_
 ·rintro⟨y0,y1,y2,y3⟩;kernel_rfl
 ·rintro⟨y0,y1,y2,y3⟩;kernel_rfl
 ·intro s x h
  have h:lw s=some x:=h
  unfold lw at h
  repeat' split at h
  all_goals cases h
  exact⟨aa (by assumption) rfl (aa (by assumption) rfl (aa (by assumption) rfl (aa (by assumption) rfl (rfl)))),ab rfl (by assumption) rfl (ab rfl (by assumption) rfl (rfl))⟩
 ·rintro⟨y0,y1,y2,y3⟩;kernel_rfl
 ·rintro⟨y0,y1,y2,y3⟩ z;exact(And.intro (And.intro rfl rfl) trivial)
abbrev aQ:=Int×Int×List (ByteArray×(List (Int×(ByteArray×Int))))×List (Int×(ByteArray×Int))
def bt(y0:Int)(y2:List (ByteArray×(List (Int×(ByteArray×Int))))):List (Int×ByteArray×Int):=(Option.getD y2[Int.toNat y0]? (vO (CTy.pair CTy.str (CTy.sl (178:Nat) abW)))).2
def db(y0:Int)(y2:List (ByteArray×(List (Int×(ByteArray×Int)))))(y3:List (Int×(ByteArray×Int))):Int×Int×List (Int×ByteArray×Int)×List (Int×ByteArray×Int):=((0:Int),(↑(List.length (bt y0 y2)):Int),bt y0 y2,y3)
def eL(y0 y1:Int):Bool:=ltI y0 y1
def iI(y0:Int):Bool:=leI (0:Int) y0
def iJ(y0:Int)(y2:List (ByteArray×(List (Int×(ByteArray×Int))))):Bool:=ltI y0 (↑y2.length:Int)
def iK(y0:Int)(y2:List (ByteArray×(List (Int×(ByteArray×Int))))):Bool:=ltN y0.toNat y2.length
def eM(y0:Int)(y2:List (ByteArray×(List (Int×(ByteArray×Int)))))(y3:List (Int×(ByteArray×Int))):Bool:=Lp.fin ae (db y0 y2 y3)
def mU(y0:Int):Int:=IntKind.wrap .i64 (y0 + (1:Int))
def iL(y0:Int)(y2:List (ByteArray×(List (Int×(ByteArray×Int)))))(y3:List (Int×(ByteArray×Int))):List (Int×(ByteArray×Int)):=(Lp.res ae (db y0 y2 y3)).2.2.2.2
def Cc:aQ→List (Nat×SV)
 |(y0,y1,_,_)=> [(11,(.one ⟨false,[.val (.int .i64 y0)]⟩)),(10,(.one ⟨false,[.val (.int .i64 y1)]⟩)),(9,(.one ⟨false,[.ref 0]⟩)),(3,(.one ⟨false,[.ref 1]⟩))]
def Cb:aQ→List (Nat×Entry)
 |(_,_,y2,y3)=> [(0,(.row false 204 (CTy.pair CTy.str (CTy.sl (178:Nat) abW)) y2)),(1,(.row true 178 abW y3))]
def Ce:Nat→aQ→List (Nat×SV)
 |_,(_,_,_,_)=> [(3,(.one ⟨false,[.ref 1]⟩))]
def Cd:Nat→aQ→List (Nat×Entry)
 |_,(_,_,y2,y3)=> [(0,(.row false 204 (CTy.pair CTy.str (CTy.sl (178:Nat) abW)) y2)),(1,(.row true 178 abW y3))]
def eD:aQ→LT aQ
 |(y0,y1,y2,y3)=> .ite (eL y0 y1) (.need [iI y0,iJ y0 y2,iK y0 y2] (.need [eM y0 y2 y3] (.nrm ((mU y0),y1,y2,(iL y0 y2 y3)) [(0,0),(1,640)]))) (.ext 0 [(0,0),(1,1)])
def mG(s:St):Option aQ:=
 (match s.look 11 with
 |some ⟨none,.one ⟨false,[.val (.int .i64 y0)]⟩⟩=>
 (match s.look 10 with
 |some ⟨none,.one ⟨false,[.val (.int .i64 y1)]⟩⟩=>
 (match s.look 9 with
 |some ⟨none,.one ⟨false,[.ref 3]⟩⟩=>
 (match s.look 3 with
 |some ⟨none,.one ⟨false,[.ref 448]⟩⟩=>
 (match s.ent 3 with
 |some (.row false 204 (.pair .str (.sl (178:Nat) (.pair (.int .i64) (.pair .str (.int .i64))))) y2)=>
 (match s.ent 448 with
 |some (.row true 178 (.pair (.int .i64) (.pair .str (.int .i64))) y3)=>
 some (y0,y1,y2,y3)
 |_=>none)
 |_=>none)
 |_=>none)
 |_=>none)
 |_=>none)
 |_=>none)
def aq:Lp aQ where
 h:=⟨[12,13,14,5,15,16,17,18,19,20,21,7,22,23,24,25,26,27,28,3,29,30,11],[0],[1],[]⟩
 JL:=Cc
 JE:=Cb
 XL:=Ce
 XE:=Cd
 q:=fun j=>match j with | _=> .exit 0
 tags:= [0]
 lt:=eD
 fuel:=fun(y0,y1,y2,y3)=>y0.natAbs + y1.natAbs + y2.length + y3.length
 fix:=fun(_,y1,y2,_) (y0,_,_,y3)=>(y0,y1,y2,y3)
 σ:= [(0,3),(1,448)]
 rd:=mG
theorem Bs:LoopOk prog (fun k=>Nat.blt k Tryz.f117.ntmps) aq.F (aZ f117 0):=by
 refine Lp.ok (tbl:= []) (lf:= [ae.F]) aP aq (by kernel_rfl) (LOk.allT (l:= [UE (aZ f117 0) 0]) (by kernel_rfl) (.cons za (.nil _))) (fun _=>rfl) (fun _ _=>rfl) ?_ ?_ ?_ ?_ (fun _=>rfl) ?_
 ·rintro⟨y0,y1,y2,y3⟩;kernel_rfl
 ·rintro⟨y0,y1,y2,y3⟩;kernel_rfl
 ·intro s x h
  have h:mG s=some x:=h
  unfold mG at h
  repeat' split at h
  all_goals cases h
  exact⟨aa (by assumption) rfl (aa (by assumption) rfl (aa (by assumption) rfl (aa (by assumption) rfl (rfl)))),ab rfl (by assumption) rfl (ab rfl (by assumption) rfl (rfl))⟩
 ·rintro⟨y0,y1,y2,y3⟩;kernel_rfl
 ·rintro⟨y0,y1,y2,y3⟩ z;exact(And.intro rfl trivial)
section
variable (x5:List (ByteArray×List (Int×ByteArray×Int)))
def nX:Int×Int×List (ByteArray×List (Int×ByteArray×Int))×List (Int×ByteArray×Int):=((0:Int),(↑x5.length:Int),x5,[])
def ol:List (Int×(ByteArray×Int)):=(Lp.res aq (nX x5)).2.2.2.2
def om:Bool:=allT [Lp.fin aq (nX x5)]
end
def ur:List SV→List Entry→Option Out
 | [.one ⟨true,[.val (.string _x0),.ref 0,.ref 1,.ref 2,.val (.string _x1),.ref 3]⟩],[.row false 9 (.str) x2,.row false 9 (.str) x3,.row false 9 (.str) x4,.row false 204 (.pair (.str) (.sl 178 (.pair (.int .i64) (.pair (.str) (.int .i64))))) x5]=>some ⟨.one ⟨false,[.ref 4]⟩,[.row false 9 aen x2,.row false 9 aen x3,.row false 9 aen x4,.row false 204 (CTy.pair CTy.str (CTy.sl (178:TypeId) abW)) x5],[.row true 178 abW (ol x5)],[om x5]⟩
 |_,_=>none
def Ep:PF prog:=PF.ofG prog [] [aq.F] aP 117 f117 func117 (LOk.fnT (l:= [aZ f117 0]) (by kernel_rfl) (.cons Bs (.nil _))) ur (by
 intro vs es r h;unfold ur at h;split at h
 ·cases h;kernel_rfl
 ·cases h)
abbrev kR:=Int×Int×List ByteArray
section
variable (y0 y1:Int)(y2:List ByteArray)
def sL:Int:=IntKind.wrap .i64 (y1 - (↑(ByteArray.size (Option.getD y2[Int.toNat y0]? ByteArray.empty)):Int))
def uh:Bool:=ltI y0 (↑y2.length:Int)
def xB:Bool:=leI (0:Int) y0
def xC:Bool:=ltN y0.toNat y2.length
def xD:Bool:=ltI (sL y0 y1 y2) (0:Int)
end
def rh:Int:=(-1:Int)
def xE(y0:Int):Int:=IntKind.wrap .i64 (y0 + (1:Int))
def xF(y0 y1:Int)(y2:List ByteArray):Int:=sL y0 y1 y2
def TO:kR→List (Nat×SV)
 |(y0,y1,_)=> [(5,(.one ⟨false,[.val (.int .i64 y0)]⟩)),(0,(.one ⟨false,[.ref 0]⟩)),(1,(.one ⟨false,[.val (.int .i64 y1)]⟩))]
def TH:kR→List (Nat×Entry)
 |(_,_,y2)=> [(0,(.row false 9 aen y2))]
def Ui:Nat→kR→List (Nat×SV)
 |0,(_,_,_)=> [(4,(.one ⟨false,[.val (.int .i64 (rh))]⟩))]
 |_,(_,y1,_)=> [(1,(.one ⟨false,[.val (.int .i64 y1)]⟩))]
def Uc:Nat→kR→List (Nat×Entry)
 |0,(_,_,y2)=> [(0,(.row false 9 aen y2))]
 |_,(_,_,y2)=> [(0,(.row false 9 aen y2))]
def vU:kR→LT kR
 |(y0,y1,y2)=> .ite (uh y0 y2) (.need [xB y0,uh y0 y2,xC y0 y2] (.ite (xD y0 y1 y2) (.ext 0 [(0,0)]) (.nrm ((xE y0),xF y0 y1 y2,y2) [(0,0)]))) (.ext 1 [(0,0)])
def Gv(s:St):Option kR:=
 (match s.look 5 with
 |some ⟨none,.one ⟨false,[.val (.int .i64 y0)]⟩⟩=>
 (match s.look 0 with
 |some ⟨none,.one ⟨false,[.ref 0]⟩⟩=>
 (match s.look 1 with
 |some ⟨none,.one ⟨false,[.val (.int .i64 y1)]⟩⟩=>
 (match s.ent 0 with
 |some (.row false 9 (.str) y2)=>
 some (y0,y1,y2)
 |_=>none)
 |_=>none)
 |_=>none)
 |_=>none)
def dj:Lp kR where
 h:=⟨[12,13,14,15,18,19,20,21,22,23,24,1,25,26,4,16,17,5],[0],[],[]⟩
 JL:=TO
 JE:=TH
 XL:=Ui
 XE:=Uc
 q:=fun j=>match j with | 0=> .ret | _=> .exit 0
 tags:= [0,1]
 lt:=vU
 fuel:=fun(y0,y1,y2)=>y0.natAbs + y1.natAbs + y2.length
 fix:=fun(_,_,y2) (y0,y1,_)=>(y0,y1,y2)
 σ:= [(0,0)]
 rd:=Gv
theorem Rz:LoopOk prog (fun k=>Nat.blt k Tryz.f129.ntmps) dj.F (aZ f129 0):=by
 refine Lp.ok (tbl:= []) (lf:= []) aP dj (by kernel_rfl) (LOk.nil _) (fun _=>rfl) (fun j _=>by unfold dj;match j with | 0=>rfl | _ + 1=>rfl) ?_ ?_ ?_ ?_ (fun _=>rfl) ?_
 ·rintro⟨y0,y1,y2⟩;kernel_rfl
 ·rintro⟨y0,y1,y2⟩;kernel_rfl
 ·intro s x h
  have h:Gv s=some x:=h
  unfold Gv at h
  repeat' split at h
  all_goals cases h
  exact⟨aa (by assumption) rfl (aa (by assumption) rfl (aa (by assumption) rfl (rfl))),ab rfl (by assumption) rfl (rfl)⟩
 ·rintro⟨y0,y1,y2⟩;kernel_rfl
 ·rintro⟨y0,y1,y2⟩ z;exact(And.intro (And.intro trivial rfl) trivial)
section
variable (x0:Int)(x1:List ByteArray)
def Fl:Int:=IntKind.wrap .i64 (x0 - (↑x1.length:Int))
def Fm:Int×Int×List ByteArray:=((0:Int),Fl x0 x1,x1)
def Ly:Int:=bif ltI (Fl x0 x1) (0:Int)then(-1:Int)else bif Nat.beq ((Lp.res dj (Fm x0 x1)).1) (0:Nat)then rh else ((Lp.res dj (Fm x0 x1)).2.2).1
def Lz:Bool:=allT [ltI (Fl x0 x1) (0:Int)||Lp.fin dj (Fm x0 x1)]
end
def Qq:List SV→List Entry→Option Out
 | [.one ⟨false,[.ref 0]⟩,.one ⟨false,[.val (.int .i64 x0)]⟩],[.row false 9 (.str) x1]=>some ⟨.one ⟨false,[.val (.int .i64 (Ly x0 x1))]⟩,[.row false 9 aen x1],[],[Lz x0 x1]⟩
 |_,_=>none
def aa1:PF prog:=PF.ofG prog [] [dj.F] aP 129 f129 func129 (LOk.fnT (l:= [aZ f129 0]) (by kernel_rfl) (.cons Rz (.nil _))) Qq (by
 intro vs es r h;unfold Qq at h;split at h
 ·cases h;kernel_rfl
 ·cases h)
abbrev kS:=Int×List ByteArray×List ByteArray
section
variable (y0:Int)(y1 y2:List ByteArray)
def ui:Bool:=ltI y0 (↑y1.length:Int)
def uj:Bool:=leI (0:Int) y0
def xG:Bool:=ltN y0.toNat y1.length
def xH:Bool:=ltI y0 (↑y2.length:Int)
def xI:Bool:=ltN y0.toNat y2.length
def xJ:Int:=IntKind.wrap .i64 (y0 + (1:Int))
def xK:List ByteArray:=List.set y2 y0.toNat (Option.getD y1[Int.toNat y0]? ByteArray.empty)
end
def TP:kS→List (Nat×SV)
 |(y0,_,_)=> [(4,(.one ⟨false,[.val (.int .i64 y0)]⟩)),(0,(.one ⟨false,[.ref 0]⟩)),(3,(.one ⟨false,[.ref 1]⟩))]
def TI:kS→List (Nat×Entry)
 |(_,y1,y2)=> [(0,(.row false 9 aen y1)),(1,(.row true 9 aen y2))]
def Uj:Nat→kS→List (Nat×SV)
 |_,(_,_,_)=> []
def Ud:Nat→kS→List (Nat×Entry)
 |_,(_,y1,y2)=> [(0,(.row false 9 aen y1)),(1,(.row true 9 aen y2))]
def vV:kS→LT kS
 |(y0,y1,y2)=> .ite (ui y0 y1) (.need [uj y0,ui y0 y1,xG y0 y1,uj y0,xH y0 y2,xI y0 y2] (.nrm ((xJ y0),y1,(xK y0 y1 y2)) [(0,0),(1,1)])) (.ext 0 [(0,0),(1,1)])
def Gw(s:St):Option kS:=
 (match s.look 4 with
 |some ⟨none,.one ⟨false,[.val (.int .i64 y0)]⟩⟩=>
 (match s.look 0 with
 |some ⟨none,.one ⟨false,[.ref 0]⟩⟩=>
 (match s.look 3 with
 |some ⟨none,.one ⟨false,[.ref 320]⟩⟩=>
 (match s.ent 0 with
 |some (.row false 9 (.str) y1)=>
 (match s.ent 320 with
 |some (.row true 9 (.str) y2)=>
 some (y0,y1,y2)
 |_=>none)
 |_=>none)
 |_=>none)
 |_=>none)
 |_=>none)
def eP:Lp kS where
 h:=⟨[8,9,10,11,14,15,16,17,18,19,20,12,13,4],[0,1],[],[]⟩
 JL:=TP
 JE:=TI
 XL:=Uj
 XE:=Ud
 q:=fun j=>match j with | _=> .exit 0
 tags:= [0]
 lt:=vV
 fuel:=fun(y0,y1,y2)=>y0.natAbs + y1.length + y2.length
 fix:=fun(_,y1,_) (y0,_,y2)=>(y0,y1,y2)
 σ:= [(0,0),(1,320)]
 rd:=Gw
theorem RA:LoopOk prog (fun k=>Nat.blt k Tryz.f131.ntmps) eP.F (aZ f131 0):=by
 refine Lp.ok (tbl:= []) (lf:= []) aP eP (by kernel_rfl) (LOk.nil _) (fun _=>rfl) (fun _ _=>rfl) ?_ ?_ ?_ ?_ (fun _=>rfl) ?_
 ·rintro⟨y0,y1,y2⟩;kernel_rfl
 ·rintro⟨y0,y1,y2⟩;kernel_rfl
 ·intro s x h
  have h:Gw s=some x:=h
  unfold Gw at h
  repeat' split at h
  all_goals cases h
  exact⟨aa (by assumption) rfl (aa (by assumption) rfl (aa (by assumption) rfl (rfl))),ab rfl (by assumption) rfl (ab rfl (by assumption) rfl (rfl))⟩
 ·rintro⟨y0,y1,y2⟩;kernel_rfl
 ·rintro⟨y0,y1,y2⟩ z;exact(And.intro rfl trivial)
def Fq(x0:List ByteArray):Int×List ByteArray×List ByteArray:=
 ((0:Int),x0,List.replicate (Int.toNat (↑x0.length:Int)) { data:= #[] })
def GR(x0:List ByteArray):List ByteArray:=(Lp.res eP (Fq x0)).2.2.2
def GS(x0:List ByteArray):Bool:=allT [leI (0:Int) (↑x0.length:Int),leI (↑x0.length:Int) (↑x0.length:Int),leI ((↑(16:Nat):Int) * (↑x0.length:Int)) (281474976710656:Int),leI (↑x0.length:Int) (9223372036854775807:Int),Lp.fin eP (Fq x0)]
def Qs:List SV→List Entry→Option Out
 | [.one ⟨false,[.ref 0]⟩],[.row false 9 (.str) x0]=>some ⟨.one ⟨false,[.ref 1]⟩,[.row false 9 aen x0],[.row true 9 aen (GR x0)],[GS x0]⟩
 |_,_=>none
def aa2:PF prog:=PF.ofG prog [] [eP.F] aP 131 f131 func131 (LOk.fnT (l:= [aZ f131 0]) (by kernel_rfl) (.cons RA (.nil _))) Qs (by
 intro vs es r h;unfold Qs at h;split at h
 ·cases h;kernel_rfl
 ·cases h)
abbrev kQ:=Int×List ByteArray×List ByteArray
section
variable (y0:Int)(y1 y2:List ByteArray)
def uf:Bool:=ltI y0 (↑y1.length:Int)
def ug:Bool:=leI (0:Int) y0
def xw:Bool:=ltN y0.toNat y1.length
def xx:Bool:=ltI y0 (↑y2.length:Int)
def xy:Bool:=ltN y0.toNat y2.length
def xz:Bool:= !ByteArray.toList (Option.getD y1[Int.toNat y0]? ByteArray.empty)==ByteArray.toList (Option.getD y2[Int.toNat y0]? ByteArray.empty)
def xA:Int:=IntKind.wrap .i64 (y0 + (1:Int))
end
def TN:kQ→List (Nat×SV)
 |(y0,_,_)=> [(5,(.one ⟨false,[.val (.int .i64 y0)]⟩)),(0,(.one ⟨false,[.ref 0]⟩)),(1,(.one ⟨false,[.ref 1]⟩))]
def TG:kQ→List (Nat×Entry)
 |(_,y1,y2)=> [(0,(.row false 9 aen y1)),(1,(.row false 9 aen y2))]
def Uh:Nat→kQ→List (Nat×SV)
 |0,(_,_,_)=> [(4,(.one ⟨false,[.val (.bool false)]⟩))]
 |_,(_,_,_)=> []
def Ub:Nat→kQ→List (Nat×Entry)
 |0,(_,y1,y2)=> [(0,(.row false 9 aen y1)),(1,(.row false 9 aen y2))]
 |_,(_,y1,y2)=> [(0,(.row false 9 aen y1)),(1,(.row false 9 aen y2))]
def vT:kQ→LT kQ
 |(y0,y1,y2)=> .ite (uf y0 y1) (.need [ug y0,uf y0 y1,xw y0 y1,ug y0,xx y0 y2,xy y0 y2] (.ite (xz y0 y1 y2) (.ext 0 [(0,0),(1,1)]) (.nrm ((xA y0),y1,y2) [(0,0),(1,1)]))) (.ext 1 [(0,0),(1,1)])
def Gu(s:St):Option kQ:=
 (match s.look 5 with
 |some ⟨none,.one ⟨false,[.val (.int .i64 y0)]⟩⟩=>
 (match s.look 0 with
 |some ⟨none,.one ⟨false,[.ref 0]⟩⟩=>
 (match s.look 1 with
 |some ⟨none,.one ⟨false,[.ref 1]⟩⟩=>
 (match s.ent 0 with
 |some (.row false 9 (.str) y1)=>
 (match s.ent 1 with
 |some (.row false 9 (.str) y2)=>
 some (y0,y1,y2)
 |_=>none)
 |_=>none)
 |_=>none)
 |_=>none)
 |_=>none)
def ed:Lp kQ where
 h:=⟨[11,12,13,14,17,18,19,20,21,22,23,24,25,4,15,16,5],[0,1],[],[]⟩
 JL:=TN
 JE:=TG
 XL:=Uh
 XE:=Ub
 q:=fun j=>match j with | 0=> .ret | _=> .exit 0
 tags:= [0,1]
 lt:=vT
 fuel:=fun(y0,y1,y2)=>y0.natAbs + y1.length + y2.length
 fix:=fun(_,y1,y2) (y0,_,_)=>(y0,y1,y2)
 σ:= [(0,0),(1,1)]
 rd:=Gu
theorem Ry:LoopOk prog (fun k=>Nat.blt k Tryz.f133.ntmps) ed.F (aZ f133 0):=by
 refine Lp.ok (tbl:= []) (lf:= []) aP ed (by kernel_rfl) (LOk.nil _) (fun _=>rfl) (fun j _=>by unfold ed;match j with | 0=>rfl | _ + 1=>rfl) ?_ ?_ ?_ ?_ (fun _=>rfl) ?_
 ·rintro⟨y0,y1,y2⟩;kernel_rfl
 ·rintro⟨y0,y1,y2⟩;kernel_rfl
 ·intro s x h
  have h:Gu s=some x:=h
  unfold Gu at h
  repeat' split at h
  all_goals cases h
  exact⟨aa (by assumption) rfl (aa (by assumption) rfl (aa (by assumption) rfl (rfl))),ab rfl (by assumption) rfl (ab rfl (by assumption) rfl (rfl))⟩
 ·rintro⟨y0,y1,y2⟩;kernel_rfl
 ·rintro⟨y0,y1,y2⟩ z;exact(And.intro (And.intro trivial rfl) trivial)
section
variable (x0 x1:List ByteArray)
def Ff:Bool:=(↑x0.length:Int)!=(↑x1.length:Int)
def Fg:Int×List ByteArray×List ByteArray:=((0:Int),x0,x1)
def GO:Bool:=bif Ff x0 x1 then false else bif Nat.beq ((Lp.res ed (Fg x0 x1)).1) (0:Nat)then false else true
def GP:Bool:=allT [Ff x0 x1||Lp.fin ed (Fg x0 x1)]
end
def Qo:List SV→List Entry→Option Out
 | [.one ⟨false,[.ref 0]⟩,.one ⟨false,[.ref 1]⟩],[.row false 9 (.str) x0,.row false 9 (.str) x1]=>some ⟨.one ⟨false,[.val (.bool (GO x0 x1))]⟩,[.row false 9 aen x0,.row false 9 aen x1],[],[GP x0 x1]⟩
 |_,_=>none
def aa0:PF prog:=PF.ofG prog [] [ed.F] aP 133 f133 func133 (LOk.fnT (l:= [aZ f133 0]) (by kernel_rfl) (.cons Ry (.nil _))) Qo (by
 intro vs es r h;unfold Qo at h;split at h
 ·cases h;kernel_rfl
 ·cases h)
section
variable (x0:Int)
def aY:Int:=IntKind.wrap .i64 (x0 - IntKind.wrap .i64 ((↑(0:Nat):Int) - (↑(0:Nat):Int)))
def vn:Bool:= !ltI (0:Int) (aY x0)||leI (0:Int) (↑(0:Nat):Int)
def rC:List ByteArray:=bif ltI (0:Int) (aY x0)then List.take (Int.toNat (↑(0:Nat):Int)) (List.replicate (Int.toNat (aY x0)) (ByteArray.mk #[]))else []
def rD:Bool:=allT [!ltI x0 (0:Int),!ltI (0:Int) (aY x0)||leI (0:Int) (0:Int),vn x0,!ltI (0:Int) (aY x0)||leI (↑(0:Nat):Int) (0:Int),!ltI (0:Int) (aY x0)||leI (1:Int) (aY x0),!ltI (0:Int) (aY x0)||leI (aY x0) (9223372036854775807:Int),!ltI (0:Int) (aY x0)||leI (aY x0 * (↑(16:Nat):Int)) (281474976710656:Int),vn x0,!ltI (0:Int) (aY x0)||leI (↑(0:Nat):Int) (↑(List.length (List.replicate (Int.toNat (aY x0)) (ByteArray.mk #[]))):Int)]
end
def Dx:List SV→List Entry→Option Out
 | [.one ⟨false,[.val (.slice none 0 0)]⟩,.one ⟨false,[.val (.int .i64 x0)]⟩],[]=>some ⟨.one ⟨false,[.ref 0]⟩,[],[.row true 9 aen (rC x0)],[rD x0]⟩
 |_,_=>none
def wb:PF prog:=PF.ofG prog [PF.raw prog] [] aP 260 f260 func260 (fun c _=>LOk.nil c) Dx (by
 intro vs es r h;unfold Dx at h;split at h
 ·cases h;kernel_rfl
 ·cases h)
abbrev cq:=Int×Int×Int×List (List ByteArray)
section
variable (y0 y1 y2:Int)(y3:List (List ByteArray))
def eT:Int:=IntKind.wrap .i64 (y2 + (↑(List.length (Option.getD y3[Int.toNat y0]? (vO (CTy.sl (9:Nat) CTy.str)))):Int))
def lD:Bool:=ltI y0 y1
def pe:Bool:=leI (0:Int) y0
def pf:Bool:=ltI y0 (↑y3.length:Int)
def pg:Bool:=ltN y0.toNat y3.length
def ph:Bool:= !ltI (eT y0 y2 y3) (0:Int)
def tU:Int:=IntKind.wrap .i64 (y0 + (1:Int))
def pj:Int:=eT y0 y2 y3
end
def JU:cq→List (Nat×SV)
 |(y0,y1,y2,_)=> [(11,(.one ⟨false,[.val (.int .i64 y0)]⟩)),(10,(.one ⟨false,[.val (.int .i64 y1)]⟩)),(9,(.one ⟨false,[.ref 0]⟩)),(3,(.one ⟨false,[.val (.int .i64 y2)]⟩))]
def JS:cq→List (Nat×Entry)
 |(_,_,_,y3)=> [(0,(.row false 60 (CTy.sl (9:Nat) CTy.str) y3))]
def JY:Nat→cq→List (Nat×SV)
 |_,(_,_,y2,_)=> [(3,(.one ⟨false,[.val (.int .i64 y2)]⟩))]
def JW:Nat→cq→List (Nat×Entry)
 |_,(_,_,_,y3)=> [(0,(.row false 60 (CTy.sl (9:Nat) CTy.str) y3))]
def kX:cq→LT cq
 |(y0,y1,y2,y3)=> .ite (lD y0 y1) (.need [pe y0,pf y0 y3,pg y0 y3] (.need [ph y0 y2 y3] (.nrm ((tU y0),y1,pj y0 y2 y3,y3) [(0,0)]))) (.ext 0 [(0,0)])
def tq(s:St):Option cq:=
 (match s.look 11 with
 |some ⟨none,.one ⟨false,[.val (.int .i64 y0)]⟩⟩=>
 (match s.look 10 with
 |some ⟨none,.one ⟨false,[.val (.int .i64 y1)]⟩⟩=>
 (match s.look 9 with
 |some ⟨none,.one ⟨false,[.ref 0]⟩⟩=>
 (match s.look 3 with
 |some ⟨none,.one ⟨false,[.val (.int .i64 y2)]⟩⟩=>
 (match s.ent 0 with
 |some (.row false 60 (.sl (9:Nat) .str) y3)=>
 some (y0,y1,y2,y3)
 |_=>none)
 |_=>none)
 |_=>none)
 |_=>none)
 |_=>none)
def be:Lp cq where
 h:=⟨[12,13,14,5,15,16,17,18,3,19,20,21,22,11],[0],[],[]⟩
 JL:=JU
 JE:=JS
 XL:=JY
 XE:=JW
 q:=fun j=>match j with | _=> .exit 0
 tags:= [0]
 lt:=kX
 fuel:=fun(y0,y1,y2,y3)=>y0.natAbs + y1.natAbs + y2.natAbs + y3.length
 fix:=fun(_,y1,_,y3) (y0,_,y2,_)=>(y0,y1,y2,y3)
 σ:= [(0,0)]
 rd:=tq
theorem HX:LoopOk prog (fun k=>Nat.blt k Tryz.f227.ntmps) be.F (aZ f227 0):=by
 refine Lp.ok (tbl:= [wb]) (lf:= []) aP be (by kernel_rfl) (LOk.nil _) (fun _=>rfl) (fun _ _=>rfl) ?_ ?_ ?_ ?_ (fun _=>rfl) ?_
 ·rintro⟨y0,y1,y2,y3⟩;kernel_rfl
 ·rintro⟨y0,y1,y2,y3⟩;kernel_rfl
 ·intro s x h
  have h:tq s=some x:=h
  unfold tq at h
  repeat' split at h
  all_goals cases h
  exact⟨aa (by assumption) rfl (aa (by assumption) rfl (aa (by assumption) rfl (aa (by assumption) rfl (rfl)))),ab rfl (by assumption) rfl (rfl)⟩
 ·rintro⟨y0,y1,y2,y3⟩;kernel_rfl
 ·rintro⟨y0,y1,y2,y3⟩ z;exact(And.intro rfl trivial)
abbrev ct:=Int×Int×List (List ByteArray)×List ByteArray
section
variable (y0 y1:Int)(y2:List (List ByteArray))(y3:List ByteArray)
def cR:List ByteArray:=Option.getD y2[Int.toNat y0]? (vO (CTy.sl (9:Nat) CTy.str))
def lE:Bool:=ltI y0 y1
def pk:Bool:=leI (0:Int) y0
def po:Bool:=ltI y0 (↑y2.length:Int)
def pp:Bool:=ltN y0.toNat y2.length
def pq:Bool:=leN (List.length y3 + List.length (cR y0 y2)) (9223372036854775807:Nat)
def pt:Bool:=leN ((List.length y3 + List.length (cR y0 y2)) * (16:Nat)) (140737488355328:Nat)
def tV:Int:=IntKind.wrap .i64 (y0 + (1:Int))
def pu:List ByteArray:=y3++cR y0 y2
end
def JV:ct→List (Nat×SV)
 |(y0,y1,_,_)=> [(27,(.one ⟨false,[.val (.int .i64 y0)]⟩)),(26,(.one ⟨false,[.val (.int .i64 y1)]⟩)),(25,(.one ⟨false,[.ref 0]⟩)),(6,(.one ⟨false,[.ref 1]⟩))]
def JT:ct→List (Nat×Entry)
 |(_,_,y2,y3)=> [(0,(.row false 60 (CTy.sl (9:Nat) CTy.str) y2)),(1,(.row true 9 aen y3))]
def JZ:Nat→ct→List (Nat×SV)
 |_,(_,_,_,_)=> [(6,(.one ⟨false,[.ref 1]⟩))]
def JX:Nat→ct→List (Nat×Entry)
 |_,(_,_,y2,y3)=> [(0,(.row false 60 (CTy.sl (9:Nat) CTy.str) y2)),(1,(.row true 9 aen y3))]
def kY:ct→LT ct
 |(y0,y1,y2,y3)=> .ite (lE y0 y1) (.need [pk y0,po y0 y2,pp y0 y2] (.need [pq y0 y2 y3,pt y0 y2 y3] (.nrm ((tV y0),y1,y2,(pu y0 y2 y3)) [(0,0),(1,448)]))) (.ext 0 [(0,0),(1,1)])
def tt(s:St):Option ct:=
 (match s.look 27 with
 |some ⟨none,.one ⟨false,[.val (.int .i64 y0)]⟩⟩=>
 (match s.look 26 with
 |some ⟨none,.one ⟨false,[.val (.int .i64 y1)]⟩⟩=>
 (match s.look 25 with
 |some ⟨none,.one ⟨false,[.ref 0]⟩⟩=>
 (match s.look 6 with
 |some ⟨none,.one ⟨false,[.ref 576]⟩⟩=>
 (match s.ent 0 with
 |some (.row false 60 (.sl (9:Nat) .str) y2)=>
 (match s.ent 576 with
 |some (.row true 9 (.str) y3)=>
 some (y0,y1,y2,y3)
 |_=>none)
 |_=>none)
 |_=>none)
 |_=>none)
 |_=>none)
 |_=>none)
def bf:Lp ct where
 h:=⟨[28,29,30,8,31,32,33,6,34,27],[0],[1],[]⟩
 JL:=JV
 JE:=JT
 XL:=JZ
 XE:=JX
 q:=fun j=>match j with | _=> .exit 2
 tags:= [0]
 lt:=kY
 fuel:=fun(y0,y1,y2,y3)=>y0.natAbs + y1.natAbs + y2.length + y3.length
 fix:=fun(_,y1,y2,_) (y0,_,_,y3)=>(y0,y1,y2,y3)
 σ:= [(0,0),(1,576)]
 rd:=tt
theorem HY:LoopOk prog (fun k=>Nat.blt k Tryz.f227.ntmps) bf.F (aZ f227 1):=by
 refine Lp.ok (tbl:= [wb]) (lf:= []) aP bf (by kernel_rfl) (LOk.nil _) (fun _=>rfl) (fun _ _=>rfl) ?_ ?_ ?_ ?_ (fun _=>rfl) ?_
 ·rintro⟨y0,y1,y2,y3⟩;kernel_rfl
 ·rintro⟨y0,y1,y2,y3⟩;kernel_rfl
 ·intro s x h
  have h:tt s=some x:=h
  unfold tt at h
  repeat' split at h
  all_goals cases h
  exact⟨aa (by assumption) rfl (aa (by assumption) rfl (aa (by assumption) rfl (aa (by assumption) rfl (rfl)))),ab rfl (by assumption) rfl (ab rfl (by assumption) rfl (rfl))⟩
 ·rintro⟨y0,y1,y2,y3⟩;kernel_rfl
 ·rintro⟨y0,y1,y2,y3⟩ z;exact(And.intro rfl trivial)
section
variable (x0:List (List ByteArray))
def qJ:Int×Int×Int×List (List ByteArray):=((0:Int),(↑x0.length:Int),(0:Int),x0)
def qK:Int:=((Lp.res be (qJ x0)).2.2.2).1
def qL:Int×Int×List (List ByteArray)×List ByteArray:=((0:Int),(↑x0.length:Int),x0,rC (qK x0))
def wd:List ByteArray:=(Lp.res bf (qL x0)).2.2.2.2
def we:Bool:=allT [Lp.fin be (qJ x0),rD (qK x0),Lp.fin bf (qL x0)]
end
def Dv:List SV→List Entry→Option Out
 | [.one ⟨false,[.ref 0]⟩],[.row false 60 (.sl 9 (.str)) x0]=>some ⟨.one ⟨false,[.ref 1]⟩,[.row false 60 (CTy.sl (9:TypeId) CTy.str) x0],[.row true 9 aen (wd x0)],[we x0]⟩
 |_,_=>none
def Mu:PF prog:=PF.ofG prog [wb] [be.F,bf.F] aP 227 f227 func227 (LOk.fnT (l:= [aZ f227 0,aZ f227 1]) (by kernel_rfl) (.cons HX (.cons HY (.nil _)))) Dv (by
 intro vs es r h;unfold Dv at h;split at h
 ·cases h;kernel_rfl
 ·cases h)
def atZ(l:List Int)(k:Int):Int:=Option.getD l[Int.toNat k]? (0:Int)
def aiW(a b:Int):Int:=bif a==1 then b else 0
def orI(a b:Int):Int:=bif a==1 then 1 else b
theorem NB{l:List Int}(h: ∀ z∈l,z=0∨z=1)(k:Int):atZ l k=0∨atZ l k=1:=by
 unfold atZ
 cases hk:l[k.toNat]? with
 |none=>exact .inl rfl
 |some z=>exact h z (List.mem_of_getElem? hk)
theorem afH{n:Int}{l:List Int}(h:bitsB n l=true)(k:Nat){z:Int}(hz:z=0∨z=1):bitsB n (l.set k z)=true:=by
 obtain⟨h1,h2⟩:=iw.1 h
 refine iw.2 ⟨fun y hy=> ?_,by rw [List.length_set];exact h2⟩
 rcases List.mem_or_eq_of_mem_set hy with hy | rfl
 ·exact h1 y hy
 ·exact hz
theorem aka{k n a b c:Int}{s:ByteArray}{l:List Int}(hB:Rq k s n=true)(hP:possB k n a b c=true)(hA:bitsB (takesK k) l=true):gd k n a b c l=0∨gd k n a b c l=1:=by
 obtain⟨hk,hn,_⟩:=XW hB
 have hb:=(UZ hP hn).2.1
 have hc:=(UZ hP hn).2.2
 have hp:=hP
 rcases kinds hk with rfl | rfl | rfl | rfl | rfl | rfl
 ·obtain⟨x,rfl,hx⟩:=QH hA
  rcases hx with rfl | rfl <;> simp only [cd,ig,kn,eV,ko,kq,kr,kt,jm,gd,gS,gT,gU,jv,gE,ie,jl,kk,km,lJ,lK,lL,lM,ik] <;> simp [Bool.cond_eq_ite] <;> (repeat' split) <;> omega
 ·obtain⟨x,rfl,hx⟩:=QH hA
  rcases hx with rfl | rfl <;> simp only [cd,ig,kn,eV,ko,kq,kr,kt,jm,gd,gS,gT,gU,jv,gE,ie,jl,kk,km,lJ,lK,lL,lM,ik] <;> simp [Bool.cond_eq_ite] <;> (repeat' split) <;> omega
 ·obtain⟨x,rfl,hx⟩:=QH hA
  simp [possB,cJ,br]at hp
  rcases hx with rfl | rfl <;> simp only [cd,ig,kn,eV,ko,kq,kr,kt,jm,gd,gS,gT,gU,jv,gE,ie,jl,kk,km,lJ,lK,lL,lM,ik] <;> simp [Bool.cond_eq_ite] <;> (repeat' split) <;> omega
 ·obtain⟨x,y,rfl,hx,hy⟩:=QI hA
  simp [possB,cJ,br]at hp
  rcases hx with rfl | rfl <;> rcases hy with rfl | rfl <;> simp only [cd,ig,kn,eV,ko,kq,kr,kt,jm,gd,gS,gT,gU,jv,gE,ie,jl,kk,km,lJ,lK,lL,lM,ik] <;> simp [Bool.cond_eq_ite] <;> (repeat' split) <;> omega
 ·obtain⟨x,y,rfl,hx,hy⟩:=QI hA
  rcases hb with rfl | rfl <;> rcases hc with rfl | rfl <;> rcases hx with rfl | rfl <;> rcases hy with rfl | rfl <;> simp only [cd,ig,kn,eV,ko,kq,kr,kt,jm,gd,gS,gT,gU,jv,gE,ie,jl,kk,km,lJ,lK,lL,lM,ik] <;> simp [Bool.cond_eq_ite] <;> (repeat' split) <;> omega
 ·obtain⟨x,y,rfl,hx,hy⟩:=QI hA
  rcases hb with rfl | rfl <;> rcases hc with rfl | rfl <;> rcases hx with rfl | rfl <;> rcases hy with rfl | rfl <;> simp only [cd,ig,kn,eV,ko,kq,kr,kt,jm,gd,gS,gT,gU,jv,gE,ie,jl,kk,km,lJ,lK,lL,lM,ik] <;> simp [Bool.cond_eq_ite] <;> (repeat' split) <;> omega
abbrev LN:=ByteArray×List TM
def lz(l:List ByteArray)(s:ByteArray):Bool:=l.any fun k=>k.toList==s.toList
def MX(l:List ByteArray)(s:ByteArray):Nat:=(l.takeWhile fun k=> !(k.toList==s.toList)).length
def ii(l:List ByteArray)(s:ByteArray):Int:=bif lz l s then(MX l s:Int)else -1
theorem RK{s:ByteArray}: ∀ {l:List ByteArray},lz l s=true→MX l s < l.length
 | [],h=>by cases h
 |a::r,h=>by
  simp only [lz,List.any_cons]at h
  simp only [MX,List.takeWhile_cons]
  cases ha:a.toList==s.toList with
  |true=>simp
  |false=>
   rw [ha,Bool.false_or]at h
   have:=RK (l:=r) h
   simp only [MX]at this
   simp only [Bool.not_false,if_true,List.length_cons]
   omega
theorem abr(a b:List ByteArray)(s:ByteArray):lz (a++b) s=(lz a s||lz b s):=List.any_append
theorem Uz{l:List ByteArray}{s:ByteArray}:lz l s=true↔s.toList∈l.map ByteArray.toList:=by
 simp only [lz,List.any_eq_true,beq_iff_eq,List.mem_map]
def htT:List TM→Int→Option Int
 | [],n=>some n
 |t::r,n=>bif termB t.1 t.2.1 t.2.2&&leI (takesK t.1) n then htT r (n - takesK t.1 + 1)else none
def Zy(ts:List TM):Bool:=leN ts.length 40&&(match htT ts 0 with | some n=>n==1 | none=>false)
def lineB(x:LN):Bool:=lN x.1&&Zy x.2
def aaQ(l:List ByteArray)(lo:Nat):Bool:=l.all lN&&inR (l.length:Int) lo 20
def abT(nm:ByteArray)(ins vs os:List ByteArray)(g:ByteArray)(ls:List LN):Bool:=lN nm&&(aaQ ins 1&&(aaQ vs 0&&(aaQ os 1&&((g.toList== []||lN g)&&(ls.all lineB&&inR (ls.length:Int) 1 40)))))
def qq(l:List ByteArray):Bool:=(List.range l.length).any fun i=>lz (l.take i) (Option.getD l[i]? ⟨#[]⟩)
def QT(ins vs:List ByteArray)(s:ByteArray):Bool:=lz ins s||lz vs s
def usedB(ins vs:List ByteArray)(t:TM):Bool:= !(t.1==1)||QT ins vs t.2.1
def aiP(ins vs os:List ByteArray)(g:ByteArray)(ls:List LN):Bool:= !qq (ins++vs++os)&&((g.toList== []||QT ins vs g)&&(ls.all (fun l=>lz vs l.1||lz os l.1)&&(!qq (ls.map Prod.fst)&&(leN (vs.length + os.length) ls.length&&ls.all fun l=>l.2.all (usedB ins vs)))))
theorem aeK{l:List ByteArray}:qq l=false↔(l.map ByteArray.toList).Nodup:=by
 rw [List.nodup_iff_pairwise_ne,List.pairwise_iff_getElem]
 simp only [qq,List.any_eq_false,List.mem_range,Bool.not_eq_true,List.length_map,List.getElem_map]
 constructor
 ·intro h i j hi hj Rf he
  have h1:=h j hj
  rw [← Bool.not_eq_true,Uz]at h1
  apply h1
  rw [List.getElem?_eq_getElem hj,Option.getD_some,← he]
  refine List.mem_map.2 ⟨l[i],?_,rfl⟩
  rw [List.mem_take_iff_getElem]
  exact⟨i,by omega,rfl⟩
 ·intro h j hj
  rw [← Bool.not_eq_true,Uz,List.mem_map]
  rintro⟨x,hx,he⟩
  rw [List.mem_take_iff_getElem]at hx
  obtain⟨i,hi,rfl⟩:=hx
  rw [List.getElem?_eq_getElem hj,Option.getD_some]at he
  exact h i j (by omega) hj (by omega) he
theorem ahv{α:Type}[DecidableEq α]: ∀ (a b:List α),a.Nodup→(∀ x∈a,x∈b)→a.length≤b.length
 | [],b,_,_=>Nat.zero_le _
 |x::r,b,hn,hs=>by
  obtain⟨h1,h2⟩:=List.nodup_cons.1 hn
  have hx:=hs x (by simp)
  have:=ahv r (b.erase x) h2 (fun y hy=>(List.mem_erase_of_ne (fun h:y=x=>h1 (by rw [← h];exact hy))).2 (hs y (by simp [hy])))
  rw [List.length_erase_of_mem hx]at this
  have h0:=List.length_pos_of_mem hx
  simp only [List.length_cons]
  omega
theorem akv{α:Type}[DecidableEq α]{a b:List α}(ha:a.Nodup)(hb:b.Nodup)(hs: ∀ x∈a,x∈b):(∀ y∈b,y∈a)↔b.length≤a.length:=by
 constructor
 ·intro h;exact ahv b a hb h
 ·intro h y hy
  refine Decidable.byContradiction fun hn=> ?_
  have:=ahv (y::a) b (List.nodup_cons.2 ⟨hn,ha⟩) (fun z hz=>(List.mem_cons.1 hz).elim (fun h=>h ▸ hy) (fun h=>hs z h))
  rw [List.length_cons]at this
  omega
theorem ajn{ins vs os:List ByteArray}{ls:List LN}(h1:qq (ins++vs++os)=false)(h3:ls.all (fun l=>lz vs l.1||lz os l.1)=true)(h4:qq (ls.map Prod.fst)=false):
  ((vs++os).any fun s=> !lz (ls.map Prod.fst) s)= !leN (vs.length + os.length) ls.length:=by
 have n1:((vs++os).map ByteArray.toList).Nodup:=by
  have:=aeK.1 h1
  rw [List.append_assoc,List.map_append]at this
  exact(List.nodup_append.1 this).2.1
 have n4:=aeK.1 h4
 have hs: ∀ x∈(ls.map Prod.fst).map ByteArray.toList,x∈(vs++os).map ByteArray.toList:=by
  intro x hx
  simp only [List.mem_map]at hx
  obtain⟨y,⟨l,hl,rfl⟩,rfl⟩:=hx
  have:=List.all_eq_true.1 h3 l hl
  rw [← abr]at this
  exact Uz.1 this
 have kw:=akv n4 n1 hs
 rw [Bool.eq_iff_iff,Bool.not_eq_true',← Bool.not_eq_true,ij]
 simp only [List.length_map,List.length_append]at kw
 rw [← kw]
 simp only [List.any_eq_true,Bool.not_eq_true']
 constructor
 ·rintro⟨s,hs1,hs2⟩ h
  have:=h _ (List.mem_map.2 ⟨s,hs1,rfl⟩)
  have h2:lz (ls.map Prod.fst) s=true:=Uz.2 this
  rw [h2]at hs2;cases hs2
 ·intro h
  refine Classical.byContradiction fun hn=>h fun y hy=> ?_
  obtain⟨s,hs1,rfl⟩:=List.mem_map.1 hy
  refine Classical.byContradiction fun hn2=>hn ⟨s,hs1,?_⟩
  cases hh:lz (ls.map Prod.fst) s with
  |false=>rfl
  |true=>exact absurd (Uz.1 hh) hn2
def nmV(ins vs:List ByteArray)(inp xs:List Int)(s:ByteArray):Int:=bif lz ins s then atZ inp (MX ins s)else atZ xs (MX vs s)
def tmV(ins vs:List ByteArray)(inp xs:List Int)(t:TM)(ar:List Int)(b:BS3):Int:=bif t.1==1 then nmV ins vs inp xs t.2.1 else bif t.1==2 then 1 else bif t.1==3 then 0 else bif t.1==4 then 1 - atZ ar 0 else bif t.1==5 then aiW (atZ ar 0) (atZ ar 1)else bif t.1==6 then orI (atZ ar 0) (atZ ar 1)else aj9 t.1 t.2.2 ar b
def ltk(t:TM)(stk:List Int):Nat:=stk.length - (takesK t.1).toNat
abbrev LS:=List Int×List BS3×Nat
def lnS(ins vs:List ByteArray)(inp xs:List Int)(t:TM)(a:LS):LS:=(a.1.take (ltk t a.1)++ [tmV ins vs inp xs t (a.1.drop (ltk t a.1)) (stAt a.2.1 a.2.2)],bif leI 7 t.1 then a.2.1.set a.2.2 (SB t.1 t.2.2 (a.1.drop (ltk t a.1)) (stAt a.2.1 a.2.2))else a.2.1,bif leI 7 t.1 then a.2.2 + 1 else a.2.2)
def Yi(ins vs:List ByteArray)(inp xs:List Int):List TM→LS→LS
 | [],a=>a
 |t::r,a=>Yi ins vs inp xs r (lnS ins vs inp xs t a)
theorem LY(k:Int):0≤takesK k∧takesK k≤2:=by
 simp only [takesK,lx]
 refine⟨?_,?_⟩ <;> simp only [Bool.cond_eq_ite] <;> (repeat' split) <;> decide
structure LnOk (bl:List TM) (n:Int) (k:Nat) (a:LS):Prop where
 hb: ∀ z∈a.1,z=0∨z=1
 hl:(a.1.length:Int)=n
 sl:a.2.1.length=bl.length
 sp: ∀ j,j < bl.length→possAt bl a.2.1 j=true
 hk:a.2.2=k
theorem ajp{ins vs:List ByteArray}{inp xs:List Int}(hi:bitsB ins.length inp=true)(hx:bitsB vs.length xs=true)(s:ByteArray):nmV ins vs inp xs s=0∨nmV ins vs inp xs s=1:=by
 simp only [nmV]
 cases lz ins s with
 |true=>exact NB (iw.1 hi).1 _
 |false=>exact NB (iw.1 hx).1 _
theorem aiX{a b:Int}(hb:b=0∨b=1):aiW a b=0∨aiW a b=1:=by simp only [aiW];cases a==1 <;> simp [hb]
theorem ajV{a b:Int}(hb:b=0∨b=1):orI a b=0∨orI a b=1:=by simp only [orI];cases a==1 <;> simp [hb]
theorem ajr{a:Int}(ha:a=0∨a=1):1 - a=0∨1 - a=1:=by rcases ha with rfl | rfl <;> simp
theorem aeg{t:TM}{stk:List Int}(hb: ∀ z∈stk,z=0∨z=1)(ht:takesK t.1≤stk.length):bitsB (takesK t.1) (stk.drop (ltk t stk))=true:=by
 have h0:=(LY t.1).1
 refine iw.2 ⟨fun z hz=>hb z (List.mem_of_mem_drop hz),?_⟩
 simp only [ltk,List.length_drop]
 omega
theorem OU{t:TM}(hT:termB t.1 t.2.1 t.2.2=true)(h7:leI 7 t.1=true):Rq t.1 t.2.1 t.2.2=true:=by simp only [Rq,hT,h7];rfl
theorem abf{t:TM}(hT:termB t.1 t.2.1 t.2.2=true):1≤t.1∧t.1≤12:=by
 simp only [termB,Bool.and_eq_true,DP]at hT;exact hT.1
theorem akM{ins vs:List ByteArray}{inp xs:List Int}{bl:List TM}{n:Int}{k:Nat}{a:LS}{t:TM}(hi:bitsB ins.length inp=true)(hx:bitsB vs.length xs=true)
  (hT:termB t.1 t.2.1 t.2.2=true) (ht:takesK t.1≤n) (hblk:leI 7 t.1=true→k < bl.length∧Nj bl k=t) (h:LnOk bl n k a):
  (tmV ins vs inp xs t (a.1.drop (ltk t a.1)) (stAt a.2.1 a.2.2)=0∨tmV ins vs inp xs t (a.1.drop (ltk t a.1)) (stAt a.2.1 a.2.2)=1)∧
  LnOk bl (n - takesK t.1 + 1) (bif leI 7 t.1 then k + 1 else k) (lnS ins vs inp xs t a):=by
 have hl:=h.hl
 have hdb:=aeg (t:=t) h.hb (by omega)
 have hd:=(iw.1 hdb).1
 have d0:=NB hd 0
 have d1:=NB hd 1
 have h0:=LY t.1
 have hv:leI 7 t.1=true→(tmV ins vs inp xs t (a.1.drop (ltk t a.1)) (stAt a.2.1 a.2.2)=aj9 t.1 t.2.2 (a.1.drop (ltk t a.1)) (stAt a.2.1 a.2.2)):=by
  intro h7
  have h7:=Cj.1 h7
  simp only [tmV]
  rw [show (t.1==1)=false by simp;omega,show (t.1==2)=false by simp;omega,show (t.1==3)=false by simp;omega,show (t.1==4)=false by simp;omega,show (t.1==5)=false by simp;omega,show (t.1==6)=false by simp;omega]
  rfl
 have hvb:tmV ins vs inp xs t (a.1.drop (ltk t a.1)) (stAt a.2.1 a.2.2)=0∨tmV ins vs inp xs t (a.1.drop (ltk t a.1)) (stAt a.2.1 a.2.2)=1:=by
  cases h7:leI 7 t.1 with
  |true=>
   obtain⟨hk,hbt⟩:=hblk h7
   rw [hv h7]
   have hp:=h.sp k hk
   simp only [possAt,hbt]at hp
   rw [h.hk]
   exact aka (OU hT h7) hp hdb
  |false=>
   have hkk:=abf hT
   have h7': ¬ (7≤t.1):=fun hc=>by rw [cW hc]at h7;cases h7
   have hc:t.1=1∨t.1=2∨t.1=3∨t.1=4∨t.1=5∨t.1=6:=by omega
   rcases hc with e | e | e | e | e | e <;> simp only [tmV,e] <;> simp
   ·exact ajp hi hx _
   ·exact ajr d0
   ·exact aiX d1
   ·exact ajV d1
 refine⟨hvb,⟨?_,?_,?_,?_,?_⟩⟩
 ·intro z hz
  simp only [lnS,List.mem_append,List.mem_singleton]at hz
  rcases hz with hz | rfl
  ·exact h.hb z (List.mem_of_mem_take hz)
  ·exact hvb
 ·simp only [lnS,List.length_append,List.length_take,List.length_singleton,ltk]
  omega
 ·simp only [lnS]
  cases leI 7 t.1 with
  |true=>simp only [cond_true,List.length_set];exact h.sl
  |false=>exact h.sl
 ·intro j hj
  simp only [lnS]
  cases h7:leI 7 t.1 with
  |false=>exact h.sp j hj
  |true=>
   obtain⟨hk,hbt⟩:=hblk h7
   simp only [cond_true]
   rw [h.hk]
   by_cases hjk:j=k
   ·subst hjk
    have hp:=h.sp j hj
    simp only [possAt,hbt]at hp ⊢
    have hs:stAt (a.2.1.set j (SB t.1 t.2.2 (a.1.drop (ltk t a.1)) (stAt a.2.1 j))) j=SB t.1 t.2.2 (a.1.drop (ltk t a.1)) (stAt a.2.1 j):=by
     simp only [stAt]
     rw [List.getElem?_set_self (by rw [h.sl];exact hj)];rfl
    rw [hs]
    exact(ajq (OU hT h7) hp hdb).2
   ·have hs:stAt (a.2.1.set k (SB t.1 t.2.2 (a.1.drop (ltk t a.1)) (stAt a.2.1 k))) j=stAt a.2.1 j:=by
     simp only [stAt]
     rw [List.getElem?_set_ne (fun h=>hjk h.symm)]
    simp only [possAt,hs]
    exact h.sp j hj
 ·simp only [lnS]
  rw [h.hk]
def blT(ts:List TM):List TM:=ts.filter fun t=>leI 7 t.1
def blL(ls:List LN):List TM:=ls.flatMap fun l=>blT l.2
theorem Ye: ∀ (l1 l2:List TM) (n:Int),htT (l1++l2) n=match htT l1 n with | some m=>htT l2 m | none=>none
 | [],l2,n=>rfl
 |t::r,l2,n=>by
  simp only [List.cons_append,htT]
  cases (termB t.1 t.2.1 t.2.2&&leI (takesK t.1) n)with
  |false=>rfl
  |true=>simp only [cond_true];exact Ye r l2 _
theorem aia: ∀ (l:List TM) (n m:Int),0≤n→htT l n=some m→0≤m∧m≤n + l.length
 | [],n,m,hn,h=>by simp only [htT,Option.some.injEq]at h;simp;omega
 |t::r,n,m,hn,h=>by
  simp only [htT]at h
  have hg:=LY t.1
  cases hc:(termB t.1 t.2.1 t.2.2&&leI (takesK t.1) n)with
  |false=>rw [hc]at h;cases h
  |true=>
   rw [hc,cond_true]at h
   simp only [Bool.and_eq_true,Cj]at hc
   have:=aia r _ m (by omega) h
   simp only [List.length_cons]
   omega
theorem akr{ts:List TM}{e:Int}(kP:htT ts 0=some e){i:Nat}{t:TM}(ht:ts[i]? =some t):
  ∃ n,htT (ts.take i) 0=some n∧(0≤n∧n≤i)∧termB t.1 t.2.1 t.2.2=true∧takesK t.1≤n∧htT (ts.take (i + 1)) 0=some (n - takesK t.1 + 1):=by
 obtain⟨hi,rfl⟩:=List.getElem?_eq_some_iff.1 ht
 have hs:ts=ts.take i++ts[i]::ts.drop (i + 1):=by rw [List.getElem_cons_drop,List.take_append_drop]
 have h1:=Ye (ts.take i) (ts[i]::ts.drop (i + 1)) 0
 rw [← hs,kP]at h1
 cases hp:htT (ts.take i) 0 with
 |none=>rw [hp]at h1;cases h1
 |some n=>
  rw [hp]at h1
  simp only [htT]at h1
  cases hc:(termB ts[i].1 ts[i].2.1 ts[i].2.2&&leI (takesK ts[i].1) n)with
  |false=>rw [hc]at h1;cases h1
  |true=>
   have h2:=Ye (ts.take i) [ts[i]] 0
   rw [hp]at h2
   simp only [htT,hc,cond_true]at h2
   simp only [Bool.and_eq_true,Cj]at hc
   have hb:=aia _ _ _ (Int.le_refl 0) hp
   rw [List.length_take]at hb
   exact⟨n,rfl,by omega,hc.1,hc.2,by rw [← h2,List.take_succ_eq_append_getElem hi]⟩
theorem abv{ins vs:List ByteArray}{inp xs:List Int}: ∀ (l1 l2:List TM) (a:LS),Yi ins vs inp xs (l1++l2) a=Yi ins vs inp xs l2 (Yi ins vs inp xs l1 a)
 | [],l2,a=>rfl
 |t::r,l2,a=>abv r l2 _
theorem Rp(a b:List TM):blT (a++b)=blT a++blT b:=List.filter_append ..
theorem acC(a b:List LN):blL (a++b)=blL a++blL b:=List.flatMap_append
theorem ag0{pre post ts:List TM}{i:Nat}{t:TM}(ht:ts[i]? =some t)(h7:leI 7 t.1=true):
  pre.length + (blT (ts.take i)).length < (pre++blT ts++post).length∧Nj (pre++blT ts++post) (pre.length + (blT (ts.take i)).length)=t∧(blT (ts.take (i + 1))).length=(blT (ts.take i)).length + 1:=by
 obtain⟨hi,rfl⟩:=List.getElem?_eq_some_iff.1 ht
 have hs:ts=ts.take i++ts[i]::ts.drop (i + 1):=by rw [List.getElem_cons_drop,List.take_append_drop]
 have hb:blT ts=blT (ts.take i)++ts[i]::blT (ts.drop (i + 1)):=by
  conv=>lhs;rw [hs,Rp]
  congr 1
  simp only [blT,List.filter_cons,h7,if_true]
 have hb2:blT (ts.take (i + 1))=blT (ts.take i)++ [ts[i]]:=by
  rw [List.take_succ_eq_append_getElem hi,Rp]
  congr 1
  simp only [blT,List.filter_cons,h7,if_true,List.filter_nil]
 refine⟨?_,?_,by rw [hb2];simp⟩
 ·rw [hb];simp
 ·simp only [Nj]
  rw [List.append_assoc,List.getElem?_append_right (by omega),Nat.add_sub_cancel_left,hb,List.append_assoc,List.getElem?_append_right (by omega),Nat.sub_self]
  rfl
theorem ajF{ts:List TM}{i:Nat}{t:TM}(ht:ts[i]? =some t)(h7:leI 7 t.1=false):(blT (ts.take (i + 1))).length=(blT (ts.take i)).length:=by
 obtain⟨hi,rfl⟩:=List.getElem?_eq_some_iff.1 ht
 rw [List.take_succ_eq_append_getElem hi,Rp]
 simp [blT,List.filter_cons,h7]
def act(pre post ts:List TM)(i:Nat)(a:LS):Prop:= ∃ n,htT (ts.take i) 0=some n∧LnOk (pre++blT ts++post) n (pre.length + (blT (ts.take i)).length) a
theorem aes{ins vs:List ByteArray}{inp xs:List Int}{pre post ts:List TM}{e:Int}{i:Nat}{a:LS}{t:TM}(hi:bitsB ins.length inp=true)(hx:bitsB vs.length xs=true)
  (kP:htT ts 0=some e) (ht:ts[i]? =some t) (h:act pre post ts i a):
  (0≤takesK t.1∧takesK t.1≤a.1.length)∧a.1.length≤i∧termB t.1 t.2.1 t.2.2=true∧bitsB (takesK t.1) (a.1.drop (ltk t a.1))=true∧a.2.1.length=(pre++blT ts++post).length∧
  (leI 7 t.1=true→a.2.2 < (pre++blT ts++post).length∧possB t.1 t.2.2 (stAt a.2.1 a.2.2).1 (stAt a.2.1 a.2.2).2.1 (stAt a.2.1 a.2.2).2.2=true)∧
  a.2.2≤(pre++blT ts++post).length∧(∀ z∈a.1,z=0∨z=1)∧
  act pre post ts (i + 1) (lnS ins vs inp xs t a):=by
 obtain⟨n,h1,h2⟩:=h
 obtain⟨n',g1,g2,g3,g4,g5⟩:=akr kP ht
 rw [h1]at g1;cases g1
 have hl:=h2.hl
 have h0:=LY t.1
 have hblk:leI 7 t.1=true→pre.length + (blT (ts.take i)).length < (pre++blT ts++post).length∧Nj (pre++blT ts++post) (pre.length + (blT (ts.take i)).length)=t:=
  fun h7=>⟨(ag0 ht h7).1,(ag0 ht h7).2.1⟩
 obtain⟨_,k2⟩:=akM (ins:=ins) (vs:=vs) hi hx g3 g4 hblk h2
 have hkle:a.2.2≤(pre++blT ts++post).length:=by
  rw [h2.hk]
  have:(blT (ts.take i)).length≤(blT ts).length:=by
   conv=>rhs;rw [← List.take_append_drop i ts,Rp]
   simp
  simp;omega
 refine⟨by omega,by omega,g3,aeg h2.hb (by omega),h2.sl,fun h7=> ?_,hkle,h2.hb,⟨_,g5,?_⟩⟩
 ·obtain⟨q1,q2⟩:=hblk h7
  rw [h2.hk]
  have:=h2.sp _ q1
  simp only [possAt,q2]at this
  exact⟨q1,this⟩
 ·have:(bif leI 7 t.1 then pre.length + (blT (ts.take i)).length + 1 else pre.length + (blT (ts.take i)).length)=pre.length + (blT (ts.take (i + 1))).length:=by
   cases h7:leI 7 t.1 with
   |true=>rw [(ag0 (pre:=pre) (post:=post) ht h7).2.2];rfl
   |false=>rw [ajF ht h7];rfl
  rw [← this];exact k2
theorem aid{ins vs:List ByteArray}{inp xs:List Int}{pre post ts:List TM}{e:Int}{a:LS}(hi:bitsB ins.length inp=true)(hx:bitsB vs.length xs=true)(kP:htT ts 0=some e)(h:act pre post ts 0 a):
  ∀ i,i≤ts.length→act pre post ts i (Yi ins vs inp xs (ts.take i) a)
 |0,_=>h
 |i + 1,fy=>by
  have h1:=aid hi hx kP h i (by omega)
  rw [List.take_succ_eq_append_getElem (by omega),abv]
  exact(aes hi hx kP (List.getElem?_eq_getElem (by omega)) h1).2.2.2.2.2.2.2.2
theorem NK{v:Int}{bs:List TM}{xs:List Int}{ss:List BS3}:GF v bs xs ss=true↔ss.length=bs.length∧bitsB v xs=true∧ ∀ k,k < bs.length→possAt bs ss k=true:=by
 simp only [GF,Bool.and_eq_true,beq_iff_eq,List.all_eq_true,List.mem_range]
 constructor
 ·rintro⟨h1,h2,h3⟩;exact⟨by omega,h2,h3⟩
 ·rintro⟨h1,h2,h3⟩;exact⟨by omega,h2,h3⟩
abbrev SS4:=List Int×List Int×List BS3×Nat
def lnV(ins vs:List ByteArray)(inp:List Int)(l:LN)(a:SS4):LS:=Yi ins vs inp a.1 l.2 ([],a.2.2.1,a.2.2.2)
def scS(ins vs os:List ByteArray)(inp:List Int)(l:LN)(a:SS4):SS4:=(bif lz vs l.1 then a.1.set (MX vs l.1) (atZ (lnV ins vs inp l a).1 0)else a.1,bif lz vs l.1 then a.2.1 else a.2.1.set (MX os l.1) (atZ (lnV ins vs inp l a).1 0),(lnV ins vs inp l a).2.1,(lnV ins vs inp l a).2.2)
def ahJ(ins vs os:List ByteArray)(inp:List Int):List LN→SS4→SS4
 | [],a=>a
 |l::r,a=>ahJ ins vs os inp r (scS ins vs os inp l a)
theorem abI{ins vs os:List ByteArray}{inp:List Int}: ∀ (l1 l2:List LN) (a:SS4),ahJ ins vs os inp (l1++l2) a=ahJ ins vs os inp l2 (ahJ ins vs os inp l1 a)
 | [],l2,a=>rfl
 |t::r,l2,a=>abI r l2 _
structure ScAt (vs os:List ByteArray) (ls:List LN) (i:Nat) (a:SS4):Prop where
 hx:bitsB vs.length a.1=true
 ho:bitsB os.length a.2.1=true
 sl:a.2.2.1.length=(blL ls).length
 sp: ∀ j,j < (blL ls).length→possAt (blL ls) a.2.2.1 j=true
 hk:a.2.2.2=(blL (ls.take i)).length
theorem Vc{ls:List LN}{i:Nat}{l:LN}(hl:ls[i]? =some l):blL ls=blL (ls.take i)++blT l.2++blL (ls.drop (i + 1))∧(blL (ls.take (i + 1))).length=(blL (ls.take i)).length + (blT l.2).length:=by
 obtain⟨hi,rfl⟩:=List.getElem?_eq_some_iff.1 hl
 have hs:ls=ls.take i++ls[i]::ls.drop (i + 1):=by rw [List.getElem_cons_drop,List.take_append_drop]
 refine⟨?_,?_⟩
 ·conv=>lhs;rw [hs,acC]
  rw [List.append_assoc]
  rfl
 ·rw [List.take_succ_eq_append_getElem hi,acC]
  simp [blL]
theorem Vk{x:LN}(h:lineB x=true):lN x.1=true∧x.2.length≤40∧htT x.2 0=some 1:=by
 simp only [lineB,Zy,Bool.and_eq_true,ij]at h
 obtain⟨h1,h2,h3⟩:=h
 refine⟨h1,h2,?_⟩
 split at h3
 ·rename_i n hn;rw [hn];congr 1;exact eq_of_beq h3
 ·cases h3
theorem abc{vs os:List ByteArray}{ls:List LN}{i:Nat}{a:SS4}{l:LN}(hl:ls[i]? =some l)(h:ScAt vs os ls i a):
  act (blL (ls.take i)) (blL (ls.drop (i + 1))) l.2 0 ([],a.2.2.1,a.2.2.2):=by
 have hs:=(Vc hl).1
 refine⟨0,by simp [htT],⟨fun z hz=>(List.not_mem_nil hz).elim,rfl,?_,?_,?_⟩⟩
 ·rw [← hs];exact h.sl
 ·rw [← hs];exact h.sp
 ·simp [blT,h.hk]
theorem QV{ins vs os:List ByteArray}{inp:List Int}{ls:List LN}{i:Nat}{a:SS4}{l:LN}(hi:bitsB ins.length inp=true)(hL:lineB l=true)(hl:ls[i]? =some l)
  (h:ScAt vs os ls i a):(lnV ins vs inp l a).1.length=1∧(atZ (lnV ins vs inp l a).1 0=0∨atZ (lnV ins vs inp l a).1 0=1)∧ScAt vs os ls (i + 1) (scS ins vs os inp l a):=by
 obtain⟨hn,nj,hht⟩:=Vk hL
 obtain⟨hs,hs2⟩:=Vc hl
 have h0:=aid (ins:=ins) (vs:=vs) hi h.hx hht (abc hl h) l.2.length (Nat.le_refl _)
 rw [List.take_length]at h0
 obtain⟨n,g1,g2⟩:=h0
 rw [List.take_length,hht]at g1;cases g1
 have hlen1:(lnV ins vs inp l a).1.length=1:=by have:=g2.hl;simp only [lnV];omega
 have hbit:atZ (lnV ins vs inp l a).1 0=0∨atZ (lnV ins vs inp l a).1 0=1:=NB g2.hb 0
 refine⟨hlen1,hbit,⟨?_,?_,?_,?_,?_⟩⟩
 ·simp only [scS]
  cases lz vs l.1 with
  |true=>exact afH h.hx _ hbit
  |false=>exact h.hx
 ·simp only [scS]
  cases lz vs l.1 with
  |true=>exact h.ho
  |false=>exact afH h.ho _ hbit
 ·simp only [scS,lnV];rw [hs];exact g2.sl
 ·simp only [scS,lnV];rw [hs];exact g2.sp
 ·simp only [scS,lnV]
  rw [g2.hk,hs2,List.take_length]
theorem aik{ins vs os:List ByteArray}{inp:List Int}{ls:List LN}{a:SS4}(hi:bitsB ins.length inp=true)(hL:ls.all lineB=true)(h:ScAt vs os ls 0 a):
  ∀ i,i≤ls.length→ScAt vs os ls i (ahJ ins vs os inp (ls.take i) a)
 |0,_=>h
 |i + 1,fy=>by
  have h1:=aik hi hL h i (by omega)
  rw [List.take_succ_eq_append_getElem (by omega),abI]
  exact(QV hi (List.all_eq_true.1 hL _ (List.getElem_mem (by omega))) (List.getElem?_eq_getElem (by omega)) h1).2.2
def scE(ins vs os:List ByteArray)(ls:List LN)(inp xs:List Int)(ss:List BS3):SS4:=ahJ ins vs os inp ls (xs,List.replicate os.length 0,ss,0)
def scO(ins vs os:List ByteArray)(g:ByteArray)(ls:List LN)(inp xs:List Int)(ss:List BS3):List Int:=bif !(g.toList== [])&&nmV ins vs inp (scE ins vs os ls inp xs ss).1 g==0 then List.replicate os.length 0 else(scE ins vs os ls inp xs ss).2.1
def scV(ins vs os:List ByteArray)(ls:List LN)(inp xs:List Int)(ss:List BS3):List Int:=(scE ins vs os ls inp xs ss).1
def scB(ins vs os:List ByteArray)(ls:List LN)(inp xs:List Int)(ss:List BS3):List BS3:=(scE ins vs os ls inp xs ss).2.2.1
theorem ahI{ins vs os:List ByteArray}{inp xs:List Int}{ss:List BS3}{ls:List LN}(hi:bitsB ins.length inp=true)(hL:ls.all lineB=true)(hs:GF vs.length (blL ls) xs ss=true):
  ScAt vs os ls ls.length (scE ins vs os ls inp xs ss):=by
 obtain⟨h1,h2,h3⟩:=NK.1 hs
 have h0:ScAt vs os ls 0 (xs,List.replicate os.length 0,ss,0):=⟨h2,iw.2 ⟨fun z hz=> .inl (List.eq_of_mem_replicate hz),by simp⟩,h1,h3,by simp [blL]⟩
 have:=aik hi hL h0 ls.length (Nat.le_refl _)
 rw [List.take_length]at this
 exact this
theorem aj3{ins vs os:List ByteArray}{g:ByteArray}{inp xs:List Int}{ss:List BS3}{ls:List LN}(hi:bitsB ins.length inp=true)(hL:ls.all lineB=true)(hs:GF vs.length (blL ls) xs ss=true):
  GF vs.length (blL ls) (scV ins vs os ls inp xs ss) (scB ins vs os ls inp xs ss)=true∧bitsB os.length (scO ins vs os g ls inp xs ss)=true:=by
 have h:=ahI (os:=os) hi hL hs
 refine⟨NK.2 ⟨h.sl,h.hx,h.sp⟩,?_⟩
 simp only [scO]
 cases (!(g.toList== [])&&nmV ins vs inp (scE ins vs os ls inp xs ss).1 g==0)with
 |true=>exact iw.2 ⟨fun z hz=> .inl (List.eq_of_mem_replicate hz),by simp⟩
 |false=>exact h.ho
end Go.SX
