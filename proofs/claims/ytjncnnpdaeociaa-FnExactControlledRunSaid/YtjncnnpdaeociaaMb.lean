/- What functions of the program come to, and what that says in plain words: part 2. -/
import Derived.Test.YtjncnnpdaeociaaMa
import Derived.Test.YtjncnnpdaeociaaTXh
import Derived.Test.YtjncnnpdaeociaaProg
set_option linter.unusedSimpArgs false
set_option linter.unusedVariables false
namespace Go.SX
open Go.Proofs Go.Proofs.Try
set_option maxRecDepth 100000
abbrev em:=Int×Int×List Int
section
variable (y0 y1:Int)(y2:List Int)
def sm:Bool:=ltI y0 (↑y2.length:Int)
def yK:Bool:=leI 0 y0
def yL:Bool:=ltN y0.toNat y2.length
def yM:Int:=IntKind.wrap .i64 (y0 + (1:Int))
def yN:Int:=IntKind.wrap .i64 (y1 + (1:Int))
def yO:List Int:=List.set y2 y0.toNat y1
end
def wZ:em→List (Nat×SV)
 |(y0,y1,_)=> [(5,(.one ⟨false,[.val (.int .i64 y0)]⟩)),(0,(.one ⟨false,[.ref 0]⟩)),(1,(.one ⟨false,[.val (.int .i64 y1)]⟩))]
def wW:em→List (Nat×Entry)
 |(_,_,y2)=> [(0,(.wk 2 OO y2))]
def xy:Nat→em→List (Nat×SV)
 |_,(_,y1,_)=> [(1,(.one ⟨false,[.val (.int .i64 y1)]⟩))]
def xu:Nat→em→List (Nat×Entry)
 |_,(_,_,y2)=> [(0,(.wk 2 OO y2))]
def xO:em→LT em
 |(y0,y1,y2)=> .ite (sm y0 y2) (.need [yK y0,sm y0 y2,yL y0 y2] (.nrm ((yM y0),yN y1,(yO y0 y1 y2)) [(0,0)])) (.ext 0 [(0,0)])
def ot(s:St):Option em:=
 (match s.look 5 with
 |some ⟨none,.one ⟨false,[.val (.int .i64 y0)]⟩⟩=>
 (match s.look 0 with
 |some ⟨none,.one ⟨false,[.ref 0]⟩⟩=>
 (match s.look 1 with
 |some ⟨none,.one ⟨false,[.val (.int .i64 y1)]⟩⟩=>
 (match s.ent 0 with
 |some (.wk 2 (.int .i64) y2)=>
 some (y0,y1,y2)
 |_=>none)
 |_=>none)
 |_=>none)
 |_=>none)
def iJ:Lp em where
 h:=⟨[6,7,8,9,12,13,14,15,16,17,1,10,11,5],[0],[],[]⟩
 JL:=wZ
 JE:=wW
 XL:=xy
 XE:=xu
 q:=fun j=>match j with | _=> .exit 0
 tags:= [0]
 lt:=xO
 fuel:=fun(y0,y1,y2)=>y0.natAbs + y1.natAbs + y2.length
 fix:=fun(_,_,_) (y0,y1,y2)=>(y0,y1,y2)
 σ:= [(0,0)]
 rd:=ot
theorem vT:LoopOk prog (fun k=>Nat.blt k Try.f36.ntmps) iJ.F (cD f36 0):=by
 refine Lp.ok (tbl:= []) (lf:= []) cf iJ (by kernel_rfl) (LOk.nil _) (fun _=>rfl) (fun _ _=>rfl) ?_ ?_ ?_ ?_ (fun _=>rfl) ?_
 ·rintro⟨y0,y1,y2⟩;kernel_rfl
 ·rintro⟨y0,y1,y2⟩;kernel_rfl
 ·intro s x h
  have h:ot s=some x:=h
  unfold ot at h
  repeat' split at h
  all_goals cases h
  constructor<;>repeat(first|refine ah (by assumption) rfl ?_|refine ar rfl (by assumption) rfl ?_|exact rfl)
 ·rintro⟨y0,y1,y2⟩;kernel_rfl
 ·rintro⟨y0,y1,y2⟩ z;exact(And.intro rfl trivial)
section
variable (x0:Int)(x1:List Int)
def ue:Int×Int×List Int:=((0:Int),x0,x1)
def uf:Int×List Int:=(Lp.res iJ (ue x0 x1)).2.2
def qU:Int:=(uf x0 x1).1
def qV:List Int:=(uf x0 x1).2
def qW:Bool:=allT [Lp.fin iJ (ue x0 x1)]
end
def uH:List SV→List Entry→Option Out
 | [.one ⟨false,[.ref 0]⟩,.one ⟨false,[.val (.int .i64 x0)]⟩],[.wk 2 (.int .i64) x1]=>some ⟨.one ⟨false,[.val (.int .i64 (qU x0 x1))]⟩,[.wk 2 OO (qV x0 x1)],[],[qW x0 x1]⟩
 |_,_=>none
def BN:PF prog:=PF.ofG prog [] [iJ.F] cf 36 f36 func36 (LOk.fnT (l:= [cD f36 0]) (by kernel_rfl) (.cons vT (.nil _))) uH (by
 intro vs es r h;unfold uH at h;split at h
 ·cases h;kernel_rfl
 ·cases h)
section
variable (x1:Int)(x2:List Int)
def ug:Int:=qU x1 x2
def uh:List Int:=qV x1 x2
def qi:Bool:=allT [qW x1 x2]
end
def tS:List SV→List Entry→Option Out
 | [.one ⟨true,[.val (.int .i64 _x0),.ref 0]⟩,.one ⟨false,[.val (.int .i64 x1)]⟩],[.wk 2 (.int .i64) x2]=>some ⟨.one ⟨false,[.val (.int .i64 (ug x1 x2))]⟩,[.wk 2 OO (uh x1 x2)],[],[qi x1 x2]⟩
 |_,_=>none
def AO:PF prog:=PF.ofG prog [BN] [] cf 20 f20 func20 (fun c _=>LOk.nil c) tS (by
 intro vs es r h;unfold tS at h;split at h
 ·cases h;kernel_rfl
 ·cases h)
abbrev cK:=Int×Int×List (Int×(Int×Int))
section
variable (y0 y1:Int)(y2:List (Int×(Int×Int)))
def pC:Int×Int:=(Option.getD y2[Int.toNat y0]? ((0:Int),(0:Int),(0:Int))).2
def eC:List (Int×Int×Int):=List.set y2 y0.toNat (y1,(pC y0 y2).1,(pC y0 y2).2)
def pD:Int×Int×Int:=Option.getD (eC y0 y1 y2)[Int.toNat y0]? ((0:Int),(0:Int),(0:Int))
def lH:Int:=IntKind.wrap .i64 (y1 + (1:Int))
def eD:List (Int×Int×Int):=List.set (eC y0 y1 y2) y0.toNat ((pD y0 y1 y2).1,lH y1,(pD y0 y1 y2).2.2)
def lI:Int:=IntKind.wrap .i64 (lH y1 + (1:Int))
def pE:Int×Int×Int:=Option.getD (eD y0 y1 y2)[Int.toNat y0]? ((0:Int),(0:Int),(0:Int))
def jm:Bool:=ltI y0 (↑y2.length:Int)
def jn:Bool:=leI 0 y0
def qb:Bool:=ltN y0.toNat y2.length
def qc:Bool:=ltI y0 (↑(List.length (eC y0 y1 y2)):Int)
def qd:Bool:=ltN y0.toNat (List.length (eC y0 y1 y2))
def qe:Bool:=ltI y0 (↑(List.length (eD y0 y1 y2)):Int)
def qf:Bool:=ltN y0.toNat (List.length (eD y0 y1 y2))
def qg:Int:=IntKind.wrap .i64 (y0 + (1:Int))
def qh:Int:=IntKind.wrap .i64 (lI y1 + (1:Int))
def gz:List (Int×(Int×Int)):=List.set (eD y0 y1 y2) y0.toNat ((pE y0 y1 y2).1,((pE y0 y1 y2).2).1,lI y1)
end
def uV:cK→List (Nat×SV)
 |(y0,y1,_)=> [(5,(.one ⟨false,[.val (.int .i64 y0)]⟩)),(0,(.one ⟨false,[.ref 0]⟩)),(1,(.one ⟨false,[.val (.int .i64 y1)]⟩))]
def uU:cK→List (Nat×Entry)
 |(_,_,y2)=> [(0,(.row true 118 OL y2))]
def uX:Nat→cK→List (Nat×SV)
 |_,(_,y1,_)=> [(1,(.one ⟨false,[.val (.int .i64 y1)]⟩))]
def uW:Nat→cK→List (Nat×Entry)
 |_,(_,_,y2)=> [(0,(.row true 118 OL y2))]
def lK:cK→LT cK
 |(y0,y1,y2)=> .ite (jm y0 y2) (.need [jn y0,jm y0 y2,qb y0 y2] (.need [jn y0,qc y0 y1 y2,qd y0 y1 y2] (.need [jn y0,qe y0 y1 y2,qf y0 y1 y2] (.nrm ((qg y0),qh y1,(gz y0 y1 y2)) [(0,0)])))) (.ext 0 [(0,0)])
def lN(s:St):Option cK:=
 (match s.look 5 with
 |some ⟨none,.one ⟨false,[.val (.int .i64 y0)]⟩⟩=>
 (match s.look 0 with
 |some ⟨none,.one ⟨false,[.ref 0]⟩⟩=>
 (match s.look 1 with
 |some ⟨none,.one ⟨false,[.val (.int .i64 y1)]⟩⟩=>
 (match s.ent 0 with
 |some (.row true 118 (.pair (.int .i64) (.pair (.int .i64) (.int .i64))) y2)=>
 some (y0,y1,y2)
 |_=>none)
 |_=>none)
 |_=>none)
 |_=>none)
def bf:Lp cK where
 h:=⟨[6,7,8,9,12,13,14,15,16,17,18,1,19,20,21,22,23,24,25,26,27,28,29,30,31,32,10,11,5],[0],[],[]⟩
 JL:=uV
 JE:=uU
 XL:=uX
 XE:=uW
 q:=fun j=>match j with | _=> .exit 0
 tags:= [0]
 lt:=lK
 fuel:=fun(y0,y1,y2)=>y0.natAbs + y1.natAbs + y2.length
 fix:=fun(_,_,_) (y0,y1,y2)=>(y0,y1,y2)
 σ:= [(0,0)]
 rd:=lN
theorem ui:LoopOk prog (fun k=>Nat.blt k Try.f58.ntmps) bf.F (cD f58 0):=by
 refine Lp.ok (tbl:= []) (lf:= []) cf bf (by kernel_rfl) (LOk.nil _) (fun _=>rfl) (fun _ _=>rfl) ?_ ?_ ?_ ?_ (fun _=>rfl) ?_
 ·rintro⟨y0,y1,y2⟩;kernel_rfl
 ·rintro⟨y0,y1,y2⟩;kernel_rfl
 ·intro s x h
  have h:lN s=some x:=h
  unfold lN at h
  repeat' split at h
  all_goals cases h
  constructor<;>repeat(first|refine ah (by assumption) rfl ?_|refine ar rfl (by assumption) rfl ?_|exact rfl)
 ·rintro⟨y0,y1,y2⟩;kernel_rfl
 ·rintro⟨y0,y1,y2⟩ z;exact(And.intro rfl trivial)
section
variable (x0:Int)(x1:List (Int×Int×Int))
def kr:Int×Int×List (Int×Int×Int):=((0:Int),x0,x1)
def nN:Int×List (Int×Int×Int):=(Lp.res bf (kr x0 x1)).2.2
def oj:Int:=(nN x0 x1).1
def rV:List (Int×(Int×Int)):=(nN x0 x1).2
def ol:Bool:=allT [Lp.fin bf (kr x0 x1)]
end
def rO:List SV→List Entry→Option Out
 | [.one ⟨false,[.ref 0]⟩,.one ⟨false,[.val (.int .i64 x0)]⟩],[.row true 118 (.pair (.int .i64) (.pair (.int .i64) (.int .i64))) x1]=>some ⟨.one ⟨false,[.val (.int .i64 (oj x0 x1))]⟩,[.row true 118 OL (rV x0 x1)],[],[ol x0 x1]⟩
 |_,_=>none
def xV:PF prog:=PF.ofG prog [] [bf.F] cf 58 f58 func58 (LOk.fnT (l:= [cD f58 0]) (by kernel_rfl) (.cons ui (.nil _))) rO (by
 intro vs es r h;unfold rO at h;split at h
 ·cases h;kernel_rfl
 ·cases h)
def mk3(k:Int)(n:Nat):Bool:=leI 0 k&&leI (k + 3 * (n:Int)) 1000000000
theorem Lp.walkM{X A B:Type}(p:Lp X)(st:Nat→A→X)(f:B→A→Nat ⊕ A)(e:Nat)(Inv:Nat→A→Prop)(xs:List B)
  (hs: ∀ i b a,xs[i]? =some b→Inv i a→(p.lt (st i a)).out=some (match f b a with | .inl j=> .inl j | .inr a'=> .inr (st (i + 1) a'))∧ ∀ a',f b a= .inr a'→Inv (i + 1) a')
  (he: ∀ a,Inv xs.length a→(p.lt (st xs.length a)).out=some (.inl e)) (a:A) (h0:Inv 0 a) (hf:xs.length≤p.fuel (st 0 a) + 999):
  p.fin (st 0 a)=true∧p.res (st 0 a)=((aN f e xs 0 a).1,st (aN f e xs 0 a).2.1 (aN f e xs 0 a).2.2):=
 p.run (Ez st f e Inv xs hs he xs 0 a rfl (by omega) h0) (MI (by omega))
theorem Lo{k:Int}{n:Nat}:mk3 k n=true↔0≤k∧k + 3 * (n:Int)≤1000000000:=by simp [mk3]
theorem Iv(k:Int)(xs:List Int)(h:zW k xs.length=true):qU k xs=k + xs.length∧qV k xs=kZ k xs.length∧qW k xs=true:=ET k xs h
theorem LO(k:Int)(ps:List Int)(h:zW k ps.length=true):ug k ps=k + ps.length∧uh k ps=kZ k ps.length∧qi k ps=true:=by
 obtain⟨h0,h1,h2⟩:=Iv k ps h
 exact⟨h0,h1,by simp only [qi,h2,allT,cond_true]⟩
def tX:List SV→List Entry→Option Out
 | [.one ⟨true,[.val (.int .i64 _x0),.ref 0]⟩,.one ⟨false,[.val (.int .i64 x1)]⟩],[.wk 2 (.int .i64) x2]=>some ⟨.one ⟨false,[.val (.int .i64 (x1 + (x2.length:Int)))]⟩,[.wk 2 OO (kZ x1 x2.length)],[],[zW x1 x2.length]⟩
 |_,_=>none
def AF:PF prog:=PF.alt AO tX (by
 intro args es o h bh;unfold tX at h;split at h
 ·rename_i _x0 x1 x2
  cases h
  have bh:=gR bh
  have hh:=LO x1 x2 bh
  obtain⟨e0,e1,en⟩:=hh
  exact jT rfl (gA en) (by simp only [e0] <;> rfl) (by simp only [e1] <;> rfl) rfl
 ·cases h)
theorem wy(k:Int)(xs:List (Int×Int×Int))(h:mk3 k xs.length=true):oj k xs=k + 3 * (xs.length:Int)∧ol k xs=true:=by
 obtain⟨h0,h1⟩:=Lo.1 h
 have im:=bf.walkM (fun i (a:Int×List (Int×Int×Int))=>((i:Int),a.1,a.2)) (fun(b:Nat) a=> .inr (a.1 + 3,gz (b:Int) a.1 a.2)) 0 (fun i a=>a.1=k + 3 * (i:Int)∧a.2.length=xs.length) (List.range xs.length) (fun i b a hb hI=>⟨?_,fun a' ha=> ?_⟩) (fun a hI=> ?_) (k,xs) ⟨by omega,rfl⟩ (by simp only [bf,List.length_range];omega)
 ·obtain⟨k1,k2⟩:=im
  have hw: ∀ (m i:Nat) (a:Int×List (Int×Int×Int)),∃ l,aN (fun(b:Nat) (a:Int×List (Int×Int×Int))=>(.inr (a.1 + 3,gz (b:Int) a.1 a.2):Nat ⊕ (Int×List (Int×Int×Int)))) 0 (List.range' i m) i a=(0,i + m,(a.1 + 3 * (m:Int),l)):=by
   intro m
   induction m with
   |zero=>intro i a;exact⟨a.2,by simp [aN]⟩
   |succ m ih=>
    intro i a
    obtain⟨l,hl⟩:=ih (i + 1) (a.1 + 3,gz (i:Int) a.1 a.2)
    refine⟨l,?_⟩
    simp only [List.range'_succ,aN]
    rw [hl]
    simp only [Prod.mk.injEq,true_and,and_true]
    omega
  obtain⟨l,hl⟩:=hw xs.length 0 (k,xs)
  rw [← List.range_eq_range']at hl
  rw [hl]at k2
  have k1':bf.fin (kr k xs)=true:=k1
  have k2':bf.res (kr k xs)=_:=k2
  simp only [oj,ol,nN,k1',k2',allT,cond_true,and_self]
 ·obtain⟨rfl,dw⟩:=lS hb
  obtain⟨c,l⟩:=a
  obtain⟨hc,hl⟩:=hI
  simp only at hc hl
  have hw:IntKind.i64.wrap ((b:Int) + 1)=((b + 1:Nat):Int):=by rw [bZ (by omega) (by omega)];omega
  have w1:IntKind.i64.wrap (c + 1)=c + 1:=bZ (by omega) (by omega)
  have w2:IntKind.i64.wrap (c + 1 + 1)=c + 2:=by rw [bZ (by omega) (by omega)];omega
  have w3:IntKind.i64.wrap (c + 2 + 1)=c + 3:=by rw [bZ (by omega) (by omega)];omega
  have t1:ltI (b:Int) (l.length:Int)=true:=io (by omega)
  have t2:leI (0:Int) (b:Int)=true:=jg (by omega)
  have t3:ltN b l.length=true:=kG (by omega)
  simp only [bf,lK,jm,jn,qb,qc,qd,qe,qf,qg,qh,eC,lH,eD,lI,LT.out,allT,List.length_set,Int.toNat_natCast,hw,w1,w2,w3,t1,t2,t3,cond_true]
 ·simp only [Sum.inr.injEq]at ha
  subst ha
  refine⟨by simp only [];omega,?_⟩
  simp only [gz,eD,eC,List.length_set]
  exact hI.2
 ·obtain⟨c,l⟩:=a
  obtain⟨hc,hl⟩:=hI
  simp only at hl
  have t1:ltI (((List.range xs.length).length:Nat):Int) (l.length:Int)=false:=HC (by rw [List.length_range];omega)
  simp only [bf,lK,jm,LT.out,t1,cond_false]
def rP:List SV→List Entry→Option Out
 | [.one ⟨false,[.ref 0]⟩,.one ⟨false,[.val (.int .i64 x0)]⟩],[.row true 118 (.pair (.int .i64) (.pair (.int .i64) (.int .i64))) x1]=>some ⟨.one ⟨false,[.val (.int .i64 (x0 + 3 * (x1.length:Int)))]⟩,[.row true 118 OL (rV x0 x1)],[],[mk3 x0 x1.length]⟩
 |_,_=>none
def om:PF prog:=PF.alt xV rP (by
 intro args es o h bh;unfold rP at h;split at h
 ·rename_i x0 x1
  cases h
  have bh:=gR bh
  have hh:=wy x0 x1 bh
  obtain⟨e0,en⟩:=hh
  exact jT rfl (gA en) (by simp only [e0] <;> rfl) rfl rfl
 ·cases h)
section
variable (x0:Int)(x1:List Int)(x2:List (Int×Int×Int))(x3:List Int)
def ab:Bool:=ltI (szV 1048576 x1) 0
def ac:Bool:=ltI (jU (szV 1048576 x1) x2) 0
def eg:Bool:= !eqT (ctN x0 x1 x2 x3) (nC x0 x1 x2 x3) (ctP x0 x1 x2 x3) (kK x0 x1 x2 x3)
def de:Bool:=mZ x0 x1 x2 x3 !=qq x0 x1 x2 x3
def aj:Bool:=bif eg x0 x1 x2 x3 then true else de x0 x1 x2 x3
def ei:Int:=(1:Int) + (↑x1.length:Int)
def ej:Int:=ei x1 + (3:Int) * (↑x2.length:Int)
def bo:Bool:=ltI (ej x1 x2 + (↑x3.length:Int)) 0
def aJ:Bool:=bif bif bo x1 x2 x3 then true else eg x0 x1 x2 x3 then true else de x0 x1 x2 x3
def df:List Int:=kZ 1 (List.length (bif !bo x1 x2 x3&&true then ctP x0 x1 x2 x3 else ctP x0 x1 x2 x3))
def aK:Bool:=ltI (Ct 1 (df x0 x1 x2 x3)) 0
def aL:Bool:=Ct 1 (df x0 x1 x2 x3)!=1 + (↑(List.length (bif !bo x1 x2 x3&&true then ctP x0 x1 x2 x3 else ctP x0 x1 x2 x3)):Int)
def dR:Bool:=bif !eqT (ctN x0 x1 x2 x3) (nC x0 x1 x2 x3) (ctP x0 x1 x2 x3) (bif !bo x1 x2 x3&&true then kK x0 x1 x2 x3 else kK x0 x1 x2 x3)then true else de x0 x1 x2 x3
def dS:Bool:=ltI 1048576 (↑x3.length:Int)||(ab x1||(ac x1 x2||leN x1.length (1048576:Nat)))
def cM:Bool:=leN x2.length (1048576:Nat)
def dU:Bool:=ltI 1048576 (↑x3.length:Int)||(ab x1||(ac x1 x2||cM x2))
def dV:Bool:=ltI 1048576 (↑x3.length:Int)||(ab x1||(ac x1 x2||leN x3.length (1048576:Nat)))
def cN:Bool:=leN x2.length (9223372036854775807:Nat)
def cO:Bool:=leN (List.length (ctP x0 x1 x2 x3)) 9223372036854775807
def dW:Bool:=leN (List.length (df x0 x1 x2 x3)) 9223372036854775807
def eA:Bool:=bif ltI 1048576 (↑x3.length:Int)then true else bif ab x1 then true else bif ac x1 x2 then true else bif aj x0 x1 x2 x3 then false else bif !eqT x0 x0 x1 x1 then false else bif !rT x2 x2 then false else bif !eqL x3 x3 then false else bif aJ x0 x1 x2 x3 then false else bif aK x0 x1 x2 x3 then false else bif aL x0 x1 x2 x3 then false else bif dR x0 x1 x2 x3 then false else bif aK x0 x1 x2 x3 then false else bif aL x0 x1 x2 x3 then false else true
def eB:Bool:=allT [ltI 1048576 (↑x3.length:Int)||leN x1.length (9223372036854775807:Nat)&&(leI (-1:Int) 1048576&&leI 1048576 1048576),dS x1 x2 x3,dU x1 x2 x3,dV x1 x2 x3,ltI 1048576 (↑x3.length:Int)||(ab x1||(ac x1 x2||qr x2)),dS x1 x2 x3,dU x1 x2 x3,dV x1 x2 x3,ltI 1048576 (↑x3.length:Int)||(ab x1||(ac x1 x2||cN x2)),ltI 1048576 (↑x3.length:Int)||(ab x1||(ac x1 x2||cO x0 x1 x2 x3)),ltI 1048576 (↑x3.length:Int)||(ab x1||(ac x1 x2||(aj x0 x1 x2 x3||leN x1.length (1048576:Nat)))),ltI 1048576 (↑x3.length:Int)||(ab x1||(ac x1 x2||(aj x0 x1 x2 x3||leN x1.length (9223372036854775807:Nat)))),ltI 1048576 (↑x3.length:Int)||(ab x1||(ac x1 x2||(aj x0 x1 x2 x3||(!eqT x0 x0 x1 x1||cM x2)))),ltI 1048576 (↑x3.length:Int)||(ab x1||(ac x1 x2||(aj x0 x1 x2 x3||(!eqT x0 x0 x1 x1||cN x2)))),ltI 1048576 (↑x3.length:Int)||(ab x1||(ac x1 x2||(aj x0 x1 x2 x3||(!eqT x0 x0 x1 x1||(!rT x2 x2||leN x3.length (1048576:Nat)))))),ltI 1048576 (↑x3.length:Int)||(ab x1||(ac x1 x2||(aj x0 x1 x2 x3||(!eqT x0 x0 x1 x1||(!rT x2 x2||leN x3.length (9223372036854775807:Nat)))))),ltI 1048576 (↑x3.length:Int)||(ab x1||(ac x1 x2||(aj x0 x1 x2 x3||(!eqT x0 x0 x1 x1||(!rT x2 x2||(!eqL x3 x3||zW 1 x1.length)))))),ltI 1048576 (↑x3.length:Int)||(ab x1||(ac x1 x2||(aj x0 x1 x2 x3||(!eqT x0 x0 x1 x1||(!rT x2 x2||(!eqL x3 x3||mk3 (ei x1) x2.length)))))),ltI 1048576 (↑x3.length:Int)||(ab x1||(ac x1 x2||(aj x0 x1 x2 x3||(!eqT x0 x0 x1 x1||(!rT x2 x2||(!eqL x3 x3||zW (ej x1 x2) x3.length)))))),ltI 1048576 (↑x3.length:Int)||(ab x1||(ac x1 x2||(aj x0 x1 x2 x3||(!eqT x0 x0 x1 x1||(!rT x2 x2||(!eqL x3 x3||(!(!bo x1 x2 x3&&true)||cO x0 x1 x2 x3))))))),ltI 1048576 (↑x3.length:Int)||(ab x1||(ac x1 x2||(aj x0 x1 x2 x3||(!eqT x0 x0 x1 x1||(!rT x2 x2||(!eqL x3 x3||(aJ x0 x1 x2 x3||zW 1 (List.length (bif !bo x1 x2 x3&&true then ctP x0 x1 x2 x3 else ctP x0 x1 x2 x3))))))))),ltI 1048576 (↑x3.length:Int)||(ab x1||(ac x1 x2||(aj x0 x1 x2 x3||(!eqT x0 x0 x1 x1||(!rT x2 x2||(!eqL x3 x3||(aJ x0 x1 x2 x3||dW x0 x1 x2 x3))))))),ltI 1048576 (↑x3.length:Int)||(ab x1||(ac x1 x2||(aj x0 x1 x2 x3||(!eqT x0 x0 x1 x1||(!rT x2 x2||(!eqL x3 x3||(aJ x0 x1 x2 x3||(aK x0 x1 x2 x3||(aL x0 x1 x2 x3||leN x1.length (1048576:Nat)))))))))),ltI 1048576 (↑x3.length:Int)||(ab x1||(ac x1 x2||(aj x0 x1 x2 x3||(!eqT x0 x0 x1 x1||(!rT x2 x2||(!eqL x3 x3||(aJ x0 x1 x2 x3||(aK x0 x1 x2 x3||(aL x0 x1 x2 x3||cM x2))))))))),ltI 1048576 (↑x3.length:Int)||(ab x1||(ac x1 x2||(aj x0 x1 x2 x3||(!eqT x0 x0 x1 x1||(!rT x2 x2||(!eqL x3 x3||(aJ x0 x1 x2 x3||(aK x0 x1 x2 x3||(aL x0 x1 x2 x3||leN x3.length (1048576:Nat)))))))))),ltI 1048576 (↑x3.length:Int)||(ab x1||(ac x1 x2||(aj x0 x1 x2 x3||(!eqT x0 x0 x1 x1||(!rT x2 x2||(!eqL x3 x3||(aJ x0 x1 x2 x3||(aK x0 x1 x2 x3||(aL x0 x1 x2 x3||cN x2))))))))),ltI 1048576 (↑x3.length:Int)||(ab x1||(ac x1 x2||(aj x0 x1 x2 x3||(!eqT x0 x0 x1 x1||(!rT x2 x2||(!eqL x3 x3||(aJ x0 x1 x2 x3||(aK x0 x1 x2 x3||(aL x0 x1 x2 x3||cO x0 x1 x2 x3))))))))),ltI 1048576 (↑x3.length:Int)||(ab x1||(ac x1 x2||(aj x0 x1 x2 x3||(!eqT x0 x0 x1 x1||(!rT x2 x2||(!eqL x3 x3||(aJ x0 x1 x2 x3||(aK x0 x1 x2 x3||(aL x0 x1 x2 x3||(dR x0 x1 x2 x3||dW x0 x1 x2 x3))))))))))]
end
def pA:List SV→List Entry→Option Out
 | [.one ⟨true,[.val (.int .i64 x0),.ref 0]⟩,.one ⟨false,[.ref 1]⟩,.one ⟨false,[.ref 2]⟩],[.row false 2 (.int .i64) x1,.row false 120 (.pair (.int .i64) (.pair (.int .i64) (.int .i64))) x2,.row false 2 (.int .i64) x3]=>some ⟨.one ⟨false,[.val (.bool (eA x0 x1 x2 x3))]⟩,[.row false 2 OO x1,.row false 120 OL x2,.row false 2 OO x3],[],[eB x0 x1 x2 x3]⟩
 |_,_=>none
def vf:PF prog:=PF.ofG prog [EE,AF,PF.lendW oV,PF.lendW (PF.lend qK),tx,PF.lend tx,PF.fz tx,tz,PF.lend tz,PF.fz tz,qK,PF.lend qK,PF.fz qK,rL,PF.lend rL,PF.fz rL,oV,PF.lend oV,PF.fz oV,nj,PF.lend nj,PF.fz nj,lg,PF.lend lg,PF.fz lg,nk,PF.lend nk,PF.fz nk,pm,PF.lend pm,PF.fz pm,pk,PF.lend pk,PF.fz pk,pj,PF.lend pj,PF.fz pj,qk,PF.lend qk,PF.fz qk,qj,PF.lend qj,PF.fz qj,om,PF.lend om,PF.fz om] [] cf 10 f10 func10 (fun c _=>LOk.nil c) pA (by
 intro vs es r h;unfold pA at h;split at h
 ·cases h;kernel_rfl
 ·cases h)
theorem Lc{k:Int}{fs:List (Int×Int×Int)}(h0:0≤k)(h1:k≤1048576)(hn:fs.length≤9223372036854775807)(h:ltI (jU k fs) 0=false):(fs.length:Int)≤1048576:=by
 simp only [jU,oU]at h
 rw [bZ (by omega) (by omega)]at h
 cases hq:ltI (k - (fs.length:Int)) 0 with
 |true=>rw [hq]at h;cases h
 |false=>have:=wj.1 hq;omega
theorem Jd(xs:List (Int×Int×Int)):rT xs xs=true:=by simp [rT]
theorem EL(n:Int): ∀ (ts ps:List Int),(LF n ts ps).length=ps.length
 | [],_=>rfl
 |t::ts,ps=>by
  simp only [LF,List.foldl_cons]
  have:=EL n ts (sq n ps t)
  simp only [LF]at this
  rw [this,uk]
theorem Kt(n:Int)(ps:List Int)(fs:List (Int×Int×Int))(ts:List Int):(ctP n ps fs ts).length≤4:=by
 unfold ctP
 cases h:Fh n ps fs ts with
 |false=>simp
 |true=>
  simp only [cond_true,EL]
  simp only [Fh,mZ]at h
  cases hT:isT n ps with
  |false=>rw [hT]at h;cases h
  |true=>exact(ij.1 hT).2.1.2
theorem Dm(n:Int)(ps:List Int)(fs:List (Int×Int×Int))(ts:List Int)(hn:ps.length≤9223372036854775807)(hn2:fs.length≤9223372036854775807)(_hn3:ts.length≤9223372036854775807):
  eA n ps fs ts=true∧eB n ps fs ts=true:=by
 have l0:leN ps.length 9223372036854775807=true:=Cd hn
 have l9:leN fs.length 9223372036854775807=true:=Cd hn2
 cases hb:ltI 1048576 (ts.length:Int)with
 |true=>simp [ab,ac,eg,de,aj,ei,ej,bo,aJ,df,aK,aL,dR,dS,cM,dU,dV,cN,cO,dW,eA,eB,hb,allT]
 |false=>
  have h0:=wj.1 hb
  cases ha:ltI (szV 1048576 ps) 0 with
  |true=>simp [ab,ac,eg,de,aj,ei,ej,bo,aJ,df,aK,aL,dR,dS,cM,dU,dV,cN,cO,dW,eA,eB,ha,hb,allT,l0]
  |false=>
   have h1:=Mb ha
   have h2:=wj.1 ha
   have h3:szV 1048576 ps≤1048576:=by unfold szV;cases ltI (1048576 - (ps.length:Int)) 0 <;> simp <;> omega
   cases hc:ltI (jU (szV 1048576 ps) fs) 0 with
   |true=>simp [ab,ac,eg,de,aj,ei,ej,bo,aJ,df,aK,aL,dR,dS,cM,dU,dV,cN,cO,dW,eA,eB,ha,hb,hc,allT,l0]
   |false=>
    have h4:=Lc h2 h3 hn2 hc
    have h5:=Kt n ps fs ts
    have l1:leN ps.length 1048576=true:=Cd (by omega)
    have l2:leN fs.length 1048576=true:=Cd (by omega)
    have l4:leN ts.length 1048576=true:=Cd (by omega)
    have l5:leN ts.length 9223372036854775807=true:=Cd (by omega)
    have l6:leN (ctP n ps fs ts).length 9223372036854775807=true:=Cd (by omega)
    have m1:zW 1 ps.length=true:=xR.2 (by omega)
    have m2:zW 1 (ctP n ps fs ts).length=true:=xR.2 (by omega)
    have m3:mk3 (1 + (ps.length:Int)) fs.length=true:=Lo.2 (by omega)
    have m4:zW (1 + (ps.length:Int) + 3 * (fs.length:Int)) ts.length=true:=xR.2 (by omega)
    have e1:ltI (1 + (ps.length:Int) + 3 * (fs.length:Int) + (ts.length:Int)) 0=false:=HC (by omega)
    have e2:ltI (1 + ((ctP n ps fs ts).length:Int)) 0=false:=HC (by omega)
    have l7:leN (kZ 1 (ctP n ps fs ts).length).length 9223372036854775807=true:=by rw [tO];exact l6
    simp only [ab,ac,eg,de,aj,ei,ej,bo,aJ,df,aK,aL,dR,dS,cM,dU,dV,cN,cO,dW,eA,eB,nC,qq,kK,qr,ha,hb,hc,l0,l1,l2,l4,l5,l6,l7,l9,m1,m2,m3,m4,e1,e2,Mw,Mu,Jd,LL 1 _ m2,allT,Bool.cond_self,bne_self_eq_false,Bool.not_true,Bool.not_false,cond_true,cond_false,Bool.or_true,Bool.true_or,Bool.false_or,Bool.and_true,Bool.true_and]
    simp
end Go.SX
