/- What functions of the program come to, and what that says in plain words: part 2. -/
import Derived.Test.YtjncnnpdaeociaaMa
import Derived.Test.YtjncnnpdaeociaaTXh
import Derived.Test.YtjncnnpdaeociaaProg
set_option linter.unusedSimpArgs false
set_option linter.unusedVariables false
namespace Go.SX
open Go.Proofs Go.Proofs.Try
set_option maxRecDepth 100000
abbrev et:=Int×Int×List Int
section
variable (y0 y1:Int)(y2:List Int)
def rU:Bool:=ltI y0 (↑y2.length:Int)
def ym:Bool:=leI 0 y0
def yo:Bool:=ltN y0.toNat y2.length
def yp:Int:=IntKind.wrap .i64 (y0 + (1:Int))
def yq:Int:=IntKind.wrap .i64 (y1 + (1:Int))
def yt:List Int:=List.set y2 y0.toNat y1
end
def wS:et→List (Nat×SV)
 |(y0,y1,_)=> [(5,(.one ⟨false,[.val (.int .i64 y0)]⟩)),(0,(.one ⟨false,[.ref 0]⟩)),(1,(.one ⟨false,[.val (.int .i64 y1)]⟩))]
def wR:et→List (Nat×Entry)
 |(_,_,y2)=> [(0,(.wk 2 Pc y2))]
def xf:Nat→et→List (Nat×SV)
 |_,(_,y1,_)=> [(1,(.one ⟨false,[.val (.int .i64 y1)]⟩))]
def xc:Nat→et→List (Nat×Entry)
 |_,(_,_,y2)=> [(0,(.wk 2 Pc y2))]
def xD:et→LT et
 |(y0,y1,y2)=> .ite (rU y0 y2) (.need [ym y0,rU y0 y2,yo y0 y2] (.nrm ((yp y0),yq y1,(yt y0 y1 y2)) [(0,0)])) (.ext 0 [(0,0)])
def oo(s:St):Option et:=
 (match s.look 5 with
 |some ⟨none,.one ⟨false,[.val (.int .i64 y0)]⟩⟩=>
 (match s.look 0 with
 |some ⟨none,.one ⟨false,[.ref 0]⟩⟩=>
 (match s.look 1 with
 |some ⟨none,.one ⟨false,[.val (.int .i64 y1)]⟩⟩=>
 (match s.ent 0 with
 |some (.wk 2 (.int .i64) y2)=>
 some (y0,y1,y2)
 |_=>none)
 |_=>none)
 |_=>none)
 |_=>none)
def iB:Lp et where
 h:=⟨[6,7,8,9,12,13,14,15,16,17,1,10,11,5],[0],[],[]⟩
 JL:=wS
 JE:=wR
 XL:=xf
 XE:=xc
 q:=fun j=>match j with | _=> .exit 0
 tags:= [0]
 lt:=xD
 fuel:=fun(y0,y1,y2)=>y0.natAbs + y1.natAbs + y2.length
 fix:=fun(_,_,_) (y0,y1,y2)=>(y0,y1,y2)
 σ:= [(0,0)]
 rd:=oo
theorem vF:LoopOk prog (fun k=>Nat.blt k Try.f36.ntmps) iB.F (dl f36 0):=by
 refine Lp.ok (tbl:= []) (lf:= []) cw iB (by kernel_rfl) (LOk.nil _) (fun _=>rfl) (fun _ _=>rfl) ?_ ?_ ?_ ?_ (fun _=>rfl) ?_
 ·rintro⟨y0,y1,y2⟩;kernel_rfl
 ·rintro⟨y0,y1,y2⟩;kernel_rfl
 ·intro s x h
  have h:oo s=some x:=h
  unfold oo at h
  repeat' split at h
  all_goals cases h
  constructor<;>repeat(first|refine ac (by assumption) rfl ?_|refine aq rfl (by assumption) rfl ?_|exact rfl)
 ·rintro⟨y0,y1,y2⟩;kernel_rfl
 ·rintro⟨y0,y1,y2⟩ z;exact(And.intro rfl trivial)
section
variable (x0:Int)(x1:List Int)
def tN:Int×Int×List Int:=((0:Int),x0,x1)
def tO:Int×List Int:=(Lp.res iB (tN x0 x1)).2.2
def qt:Int:=(tO x0 x1).1
def qu:List Int:=(tO x0 x1).2
def qv:Bool:=allT [Lp.fin iB (tN x0 x1)]
end
def ur:List SV→List Entry→Option Out
 | [.one ⟨false,[.ref 0]⟩,.one ⟨false,[.val (.int .i64 x0)]⟩],[.wk 2 (.int .i64) x1]=>some ⟨.one ⟨false,[.val (.int .i64 (qt x0 x1))]⟩,[.wk 2 Pc (qu x0 x1)],[],[qv x0 x1]⟩
 |_,_=>none
def BB:PF prog:=PF.ofG prog [] [iB.F] cw 36 f36 func36 (LOk.fnT (l:= [dl f36 0]) (by kernel_rfl) (.cons vF (.nil _))) ur (by
 intro vs es r h;unfold ur at h;split at h
 ·cases h;kernel_rfl
 ·cases h)
section
variable (x1:Int)(x2:List Int)
def tP:Int:=qt x1 x2
def tQ:List Int:=qu x1 x2
def pM:Bool:=allT [qv x1 x2]
end
def tE:List SV→List Entry→Option Out
 | [.one ⟨true,[.val (.int .i64 _x0),.ref 0]⟩,.one ⟨false,[.val (.int .i64 x1)]⟩],[.wk 2 (.int .i64) x2]=>some ⟨.one ⟨false,[.val (.int .i64 (tP x1 x2))]⟩,[.wk 2 Pc (tQ x1 x2)],[],[pM x1 x2]⟩
 |_,_=>none
def Aq:PF prog:=PF.ofG prog [BB] [] cw 20 f20 func20 (fun c _=>LOk.nil c) tE (by
 intro vs es r h;unfold tE at h;split at h
 ·cases h;kernel_rfl
 ·cases h)
abbrev cJ:=Int×Int×List (Int×(Int×Int))
section
variable (y0 y1:Int)(y2:List (Int×(Int×Int)))
def po:Int×Int:=(Option.getD y2[Int.toNat y0]? ((0:Int),(0:Int),(0:Int))).2
def eF:List (Int×Int×Int):=List.set y2 y0.toNat (y1,(po y0 y2).1,(po y0 y2).2)
def pp:Int×Int×Int:=Option.getD (eF y0 y1 y2)[Int.toNat y0]? ((0:Int),(0:Int),(0:Int))
def lJ:Int:=IntKind.wrap .i64 (y1 + (1:Int))
def eG:List (Int×Int×Int):=List.set (eF y0 y1 y2) y0.toNat ((pp y0 y1 y2).1,lJ y1,(pp y0 y1 y2).2.2)
def lK:Int:=IntKind.wrap .i64 (lJ y1 + (1:Int))
def pq:Int×Int×Int:=Option.getD (eG y0 y1 y2)[Int.toNat y0]? ((0:Int),(0:Int),(0:Int))
def je:Bool:=ltI y0 (↑y2.length:Int)
def jf:Bool:=leI 0 y0
def pF:Bool:=ltN y0.toNat y2.length
def pG:Bool:=ltI y0 (↑(List.length (eF y0 y1 y2)):Int)
def pH:Bool:=ltN y0.toNat (List.length (eF y0 y1 y2))
def pI:Bool:=ltI y0 (↑(List.length (eG y0 y1 y2)):Int)
def pJ:Bool:=ltN y0.toNat (List.length (eG y0 y1 y2))
def pK:Int:=IntKind.wrap .i64 (y0 + (1:Int))
def pL:Int:=IntKind.wrap .i64 (lK y1 + (1:Int))
def gr:List (Int×(Int×Int)):=List.set (eG y0 y1 y2) y0.toNat ((pq y0 y1 y2).1,((pq y0 y1 y2).2).1,lK y1)
end
def ux:cJ→List (Nat×SV)
 |(y0,y1,_)=> [(5,(.one ⟨false,[.val (.int .i64 y0)]⟩)),(0,(.one ⟨false,[.ref 0]⟩)),(1,(.one ⟨false,[.val (.int .i64 y1)]⟩))]
def uw:cJ→List (Nat×Entry)
 |(_,_,y2)=> [(0,(.row true 129 OZ y2))]
def uz:Nat→cJ→List (Nat×SV)
 |_,(_,y1,_)=> [(1,(.one ⟨false,[.val (.int .i64 y1)]⟩))]
def uy:Nat→cJ→List (Nat×Entry)
 |_,(_,_,y2)=> [(0,(.row true 129 OZ y2))]
def lM:cJ→LT cJ
 |(y0,y1,y2)=> .ite (je y0 y2) (.need [jf y0,je y0 y2,pF y0 y2] (.need [jf y0,pG y0 y1 y2,pH y0 y1 y2] (.need [jf y0,pI y0 y1 y2,pJ y0 y1 y2] (.nrm ((pK y0),pL y1,(gr y0 y1 y2)) [(0,0)])))) (.ext 0 [(0,0)])
def lO(s:St):Option cJ:=
 (match s.look 5 with
 |some ⟨none,.one ⟨false,[.val (.int .i64 y0)]⟩⟩=>
 (match s.look 0 with
 |some ⟨none,.one ⟨false,[.ref 0]⟩⟩=>
 (match s.look 1 with
 |some ⟨none,.one ⟨false,[.val (.int .i64 y1)]⟩⟩=>
 (match s.ent 0 with
 |some (.row true 129 (.pair (.int .i64) (.pair (.int .i64) (.int .i64))) y2)=>
 some (y0,y1,y2)
 |_=>none)
 |_=>none)
 |_=>none)
 |_=>none)
def aZ:Lp cJ where
 h:=⟨[6,7,8,9,12,13,14,15,16,17,18,1,19,20,21,22,23,24,25,26,27,28,29,30,31,32,10,11,5],[0],[],[]⟩
 JL:=ux
 JE:=uw
 XL:=uz
 XE:=uy
 q:=fun j=>match j with | _=> .exit 0
 tags:= [0]
 lt:=lM
 fuel:=fun(y0,y1,y2)=>y0.natAbs + y1.natAbs + y2.length
 fix:=fun(_,_,_) (y0,y1,y2)=>(y0,y1,y2)
 σ:= [(0,0)]
 rd:=lO
theorem tR:LoopOk prog (fun k=>Nat.blt k Try.f69.ntmps) aZ.F (dl f69 0):=by
 refine Lp.ok (tbl:= []) (lf:= []) cw aZ (by kernel_rfl) (LOk.nil _) (fun _=>rfl) (fun _ _=>rfl) ?_ ?_ ?_ ?_ (fun _=>rfl) ?_
 ·rintro⟨y0,y1,y2⟩;kernel_rfl
 ·rintro⟨y0,y1,y2⟩;kernel_rfl
 ·intro s x h
  have h:lO s=some x:=h
  unfold lO at h
  repeat' split at h
  all_goals cases h
  constructor<;>repeat(first|refine ac (by assumption) rfl ?_|refine aq rfl (by assumption) rfl ?_|exact rfl)
 ·rintro⟨y0,y1,y2⟩;kernel_rfl
 ·rintro⟨y0,y1,y2⟩ z;exact(And.intro rfl trivial)
section
variable (x0:Int)(x1:List (Int×Int×Int))
def kg:Int×Int×List (Int×Int×Int):=((0:Int),x0,x1)
def nN:Int×List (Int×Int×Int):=(Lp.res aZ (kg x0 x1)).2.2
def oh:Int:=(nN x0 x1).1
def rF:List (Int×(Int×Int)):=(nN x0 x1).2
def oi:Bool:=allT [Lp.fin aZ (kg x0 x1)]
end
def rz:List SV→List Entry→Option Out
 | [.one ⟨false,[.ref 0]⟩,.one ⟨false,[.val (.int .i64 x0)]⟩],[.row true 129 (.pair (.int .i64) (.pair (.int .i64) (.int .i64))) x1]=>some ⟨.one ⟨false,[.val (.int .i64 (oh x0 x1))]⟩,[.row true 129 OZ (rF x0 x1)],[],[oi x0 x1]⟩
 |_,_=>none
def xK:PF prog:=PF.ofG prog [] [aZ.F] cw 69 f69 func69 (LOk.fnT (l:= [dl f69 0]) (by kernel_rfl) (.cons tR (.nil _))) rz (by
 intro vs es r h;unfold rz at h;split at h
 ·cases h;kernel_rfl
 ·cases h)
def mk3(k:Int)(n:Nat):Bool:=leI 0 k&&leI (k + 3 * (n:Int)) 1000000000
theorem Lp.walkM{X A B:Type}(p:Lp X)(st:Nat→A→X)(f:B→A→Nat ⊕ A)(e:Nat)(Inv:Nat→A→Prop)(xs:List B)
  (hs: ∀ i b a,xs[i]? =some b→Inv i a→(p.lt (st i a)).out=some (match f b a with | .inl j=> .inl j | .inr a'=> .inr (st (i + 1) a'))∧ ∀ a',f b a= .inr a'→Inv (i + 1) a')
  (he: ∀ a,Inv xs.length a→(p.lt (st xs.length a)).out=some (.inl e)) (a:A) (h0:Inv 0 a) (hf:xs.length≤p.fuel (st 0 a) + 999):
  p.fin (st 0 a)=true∧p.res (st 0 a)=((aR f e xs 0 a).1,st (aR f e xs 0 a).2.1 (aR f e xs 0 a).2.2):=
 p.run (EL st f e Inv xs hs he xs 0 a rfl (by omega) h0) (MR (by omega))
theorem Ly{k:Int}{n:Nat}:mk3 k n=true↔0≤k∧k + 3 * (n:Int)≤1000000000:=by simp [mk3]
theorem IL(k:Int)(xs:List Int)(h:zB k xs.length=true):qt k xs=k + xs.length∧qu k xs=jI k xs.length∧qv k xs=true:=Fc k xs h
theorem LV(k:Int)(ps:List Int)(h:zB k ps.length=true):tP k ps=k + ps.length∧tQ k ps=jI k ps.length∧pM k ps=true:=by
 obtain⟨h0,h1,h2⟩:=IL k ps h
 exact⟨h0,h1,by simp only [pM,h2,allT,cond_true]⟩
def tI:List SV→List Entry→Option Out
 | [.one ⟨true,[.val (.int .i64 _x0),.ref 0]⟩,.one ⟨false,[.val (.int .i64 x1)]⟩],[.wk 2 (.int .i64) x2]=>some ⟨.one ⟨false,[.val (.int .i64 (x1 + (x2.length:Int)))]⟩,[.wk 2 Pc (jI x1 x2.length)],[],[zB x1 x2.length]⟩
 |_,_=>none
def Ak:PF prog:=PF.alt Aq tI (by
 intro args es o h bf;unfold tI at h;split at h
 ·rename_i _x0 x1 x2
  cases h
  have bf:=jj bf
  have hh:=LV x1 x2 bf
  obtain⟨e0,e1,en⟩:=hh
  exact jG rfl (fX en) (by simp only [e0] <;> rfl) (by simp only [e1] <;> rfl) rfl
 ·cases h)
theorem wq(k:Int)(xs:List (Int×Int×Int))(h:mk3 k xs.length=true):oh k xs=k + 3 * (xs.length:Int)∧oi k xs=true:=by
 obtain⟨h0,h1⟩:=Ly.1 h
 have jb:=aZ.walkM (fun i (a:Int×List (Int×Int×Int))=>((i:Int),a.1,a.2)) (fun(b:Nat) a=> .inr (a.1 + 3,gr (b:Int) a.1 a.2)) 0 (fun i a=>a.1=k + 3 * (i:Int)∧a.2.length=xs.length) (List.range xs.length) (fun i b a hb hI=>⟨?_,fun a' ha=> ?_⟩) (fun a hI=> ?_) (k,xs) ⟨by omega,rfl⟩ (by simp only [aZ,List.length_range];omega)
 ·obtain⟨k1,k2⟩:=jb
  have hw: ∀ (m i:Nat) (a:Int×List (Int×Int×Int)),∃ l,aR (fun(b:Nat) (a:Int×List (Int×Int×Int))=>(.inr (a.1 + 3,gr (b:Int) a.1 a.2):Nat ⊕ (Int×List (Int×Int×Int)))) 0 (List.range' i m) i a=(0,i + m,(a.1 + 3 * (m:Int),l)):=by
   intro m
   induction m with
   |zero=>intro i a;exact⟨a.2,by simp [aR]⟩
   |succ m ih=>
    intro i a
    obtain⟨l,hl⟩:=ih (i + 1) (a.1 + 3,gr (i:Int) a.1 a.2)
    refine⟨l,?_⟩
    simp only [List.range'_succ,aR]
    rw [hl]
    simp only [Prod.mk.injEq,true_and,and_true]
    omega
  obtain⟨l,hl⟩:=hw xs.length 0 (k,xs)
  rw [← List.range_eq_range']at hl
  rw [hl]at k2
  have k1':aZ.fin (kg k xs)=true:=k1
  have k2':aZ.res (kg k xs)=_:=k2
  simp only [oh,oi,nN,k1',k2',allT,cond_true,and_self]
 ·obtain⟨rfl,dE⟩:=oS hb
  obtain⟨c,l⟩:=a
  obtain⟨hc,hl⟩:=hI
  simp only at hc hl
  have hw:IntKind.i64.wrap ((b:Int) + 1)=((b + 1:Nat):Int):=by rw [cE (by omega) (by omega)];omega
  have w1:IntKind.i64.wrap (c + 1)=c + 1:=cE (by omega) (by omega)
  have w2:IntKind.i64.wrap (c + 1 + 1)=c + 2:=by rw [cE (by omega) (by omega)];omega
  have w3:IntKind.i64.wrap (c + 2 + 1)=c + 3:=by rw [cE (by omega) (by omega)];omega
  have t1:ltI (b:Int) (l.length:Int)=true:=jg (by omega)
  have t2:leI (0:Int) (b:Int)=true:=gt (by omega)
  have t3:ltN b l.length=true:=lm (by omega)
  simp only [aZ,lM,je,jf,pF,pG,pH,pI,pJ,pK,pL,eF,lJ,eG,lK,LT.out,allT,List.length_set,Int.toNat_natCast,hw,w1,w2,w3,t1,t2,t3,cond_true]
 ·simp only [Sum.inr.injEq]at ha
  subst ha
  refine⟨by simp only [];omega,?_⟩
  simp only [gr,eG,eF,List.length_set]
  exact hI.2
 ·obtain⟨c,l⟩:=a
  obtain⟨hc,hl⟩:=hI
  simp only at hl
  have t1:ltI (((List.range xs.length).length:Nat):Int) (l.length:Int)=false:=GA (by rw [List.length_range];omega)
  simp only [aZ,lM,je,LT.out,t1,cond_false]
def rA:List SV→List Entry→Option Out
 | [.one ⟨false,[.ref 0]⟩,.one ⟨false,[.val (.int .i64 x0)]⟩],[.row true 129 (.pair (.int .i64) (.pair (.int .i64) (.int .i64))) x1]=>some ⟨.one ⟨false,[.val (.int .i64 (x0 + 3 * (x1.length:Int)))]⟩,[.row true 129 OZ (rF x0 x1)],[],[mk3 x0 x1.length]⟩
 |_,_=>none
def oj:PF prog:=PF.alt xK rA (by
 intro args es o h bf;unfold rA at h;split at h
 ·rename_i x0 x1
  cases h
  have bf:=jj bf
  have hh:=wq x0 x1 bf
  obtain⟨e0,en⟩:=hh
  exact jG rfl (fX en) (by simp only [e0] <;> rfl) rfl rfl
 ·cases h)
section
variable (x0:Int)(x1:List Int)(x2:List (Int×Int×Int))
def ae:Bool:=ltI (szV 1048576 x1) 0
def af:Bool:=ltI (jN (szV 1048576 x1) x2) 0
def cH:Bool:= !eqT (FH x0 x1 x2) (qh x0 x1 x2) (rvP x0 x1 x2) (ou x0 x1 x2)
def fB:Bool:=oq x0 x1 x2 !=tq x0 x1 x2
def al:Bool:=bif bif cH x0 x1 x2 then true else !eqL (rvS x0 x1 x2) (ov x0 x1 x2)then true else fB x0 x1 x2
def gT:Int:=(1:Int) + (↑x1.length:Int)
def bZ:Bool:=ltI (gT x1 + (3:Int) * (↑x2.length:Int)) 0
def bA:List Int:=bif !cH x0 x1 x2&&true then rvS x0 x1 x2 else rvS x0 x1 x2
def fC:List Int:=bif !cH x0 x1 x2&&true then ov x0 x1 x2 else ov x0 x1 x2
def aL:Bool:=bif bif bif bZ x1 x2 then true else cH x0 x1 x2 then true else !eqL (bA x0 x1 x2) (fC x0 x1 x2)then true else fB x0 x1 x2
def eg:List Int:=jI 1 (List.length (bif !bZ x1 x2&&true then rvP x0 x1 x2 else rvP x0 x1 x2))
def bc:Bool:=ltI (Cn 1 (eg x0 x1 x2)) 0
def fa:Int:=(1:Int) + (↑(List.length (bif !bZ x1 x2&&true then rvP x0 x1 x2 else rvP x0 x1 x2)):Int)
def cS:Bool:=(!bif bZ x1 x2 then true else cH x0 x1 x2)&&true
def gD:List Int:=jI (fa x0 x1 x2) (List.length (bif cS x0 x1 x2 then bA x0 x1 x2 else bA x0 x1 x2))
def bd:Int:=Dk (Cn 1 (eg x0 x1 x2)) (gD x0 x1 x2)
def bj:Bool:=bd x0 x1 x2 !=fa x0 x1 x2 + (↑(List.length (bif cS x0 x1 x2 then bA x0 x1 x2 else bA x0 x1 x2)):Int)
def gE:Bool:= !eqT (FH x0 x1 x2) (qh x0 x1 x2) (rvP x0 x1 x2) (bif !bZ x1 x2&&true then ou x0 x1 x2 else ou x0 x1 x2)
def fb:Bool:=bif bif gE x0 x1 x2 then true else !eqL (rvS x0 x1 x2) (bif cS x0 x1 x2 then fC x0 x1 x2 else fC x0 x1 x2)then true else fB x0 x1 x2
def gF:Bool:=ae x1||(af x1 x2||leN x1.length (1048576:Nat))
def ei:Bool:=leN x2.length (1048576:Nat)
def gG:Bool:=bc x0 x1 x2||leN (List.length (gD x0 x1 x2)) 9223372036854775807
def iv:Bool:=bif ae x1 then true else bif af x1 x2 then true else bif al x0 x1 x2 then false else bif !eqT x0 x0 x1 x1 then false else bif !rD x2 x2 then false else bif aL x0 x1 x2 then false else bif bc x0 x1 x2 then false else bif ltI (bd x0 x1 x2) 0 then false else bif bj x0 x1 x2 then false else bif fb x0 x1 x2 then false else bif bc x0 x1 x2 then false else bif ltI (bd x0 x1 x2) 0 then false else bif bj x0 x1 x2 then false else true
def iw:Bool:=allT [leN x1.length (9223372036854775807:Nat)&&(leI (-1:Int) 1048576&&leI 1048576 1048576),gF x1 x2,ae x1||(af x1 x2||ei x2),gF x1 x2,ae x1||(af x1 x2||ei x2),ae x1||(af x1 x2||leN (List.length (rvP x0 x1 x2)) 9223372036854775807),ae x1||(af x1 x2||(!(!cH x0 x1 x2&&true)||leN (List.length (rvS x0 x1 x2)) 9223372036854775807)),ae x1||(af x1 x2||(al x0 x1 x2||leN x1.length (1048576:Nat))),ae x1||(af x1 x2||(al x0 x1 x2||leN x1.length (9223372036854775807:Nat))),ae x1||(af x1 x2||(al x0 x1 x2||(!eqT x0 x0 x1 x1||ei x2))),ae x1||(af x1 x2||(al x0 x1 x2||(!eqT x0 x0 x1 x1||leN x2.length (9223372036854775807:Nat)))),ae x1||(af x1 x2||(al x0 x1 x2||(!eqT x0 x0 x1 x1||(!rD x2 x2||zB 1 x1.length)))),ae x1||(af x1 x2||(al x0 x1 x2||(!eqT x0 x0 x1 x1||(!rD x2 x2||mk3 (gT x1) x2.length)))),ae x1||(af x1 x2||(al x0 x1 x2||(!eqT x0 x0 x1 x1||(!rD x2 x2||(!(!bZ x1 x2&&true)||leN (List.length (rvP x0 x1 x2)) 9223372036854775807))))),ae x1||(af x1 x2||(al x0 x1 x2||(!eqT x0 x0 x1 x1||(!rD x2 x2||(!cS x0 x1 x2||leN (List.length (bA x0 x1 x2)) 9223372036854775807))))),ae x1||(af x1 x2||(al x0 x1 x2||(!eqT x0 x0 x1 x1||(!rD x2 x2||(aL x0 x1 x2||zB 1 (List.length (bif !bZ x1 x2&&true then rvP x0 x1 x2 else rvP x0 x1 x2))))))),ae x1||(af x1 x2||(al x0 x1 x2||(!eqT x0 x0 x1 x1||(!rD x2 x2||(aL x0 x1 x2||zB (fa x0 x1 x2) (List.length (bif cS x0 x1 x2 then bA x0 x1 x2 else bA x0 x1 x2))))))),ae x1||(af x1 x2||(al x0 x1 x2||(!eqT x0 x0 x1 x1||(!rD x2 x2||(aL x0 x1 x2||leN (List.length (eg x0 x1 x2)) 9223372036854775807))))),ae x1||(af x1 x2||(al x0 x1 x2||(!eqT x0 x0 x1 x1||(!rD x2 x2||(aL x0 x1 x2||gG x0 x1 x2))))),ae x1||(af x1 x2||(al x0 x1 x2||(!eqT x0 x0 x1 x1||(!rD x2 x2||(aL x0 x1 x2||(bc x0 x1 x2||(ltI (bd x0 x1 x2) 0||(bj x0 x1 x2||leN x1.length (1048576:Nat))))))))),ae x1||(af x1 x2||(al x0 x1 x2||(!eqT x0 x0 x1 x1||(!rD x2 x2||(aL x0 x1 x2||(bc x0 x1 x2||(ltI (bd x0 x1 x2) 0||(bj x0 x1 x2||ei x2)))))))),ae x1||(af x1 x2||(al x0 x1 x2||(!eqT x0 x0 x1 x1||(!rD x2 x2||(aL x0 x1 x2||(bc x0 x1 x2||(ltI (bd x0 x1 x2) 0||(bj x0 x1 x2||leN (List.length (rvP x0 x1 x2)) 9223372036854775807)))))))),ae x1||(af x1 x2||(al x0 x1 x2||(!eqT x0 x0 x1 x1||(!rD x2 x2||(aL x0 x1 x2||(bc x0 x1 x2||(ltI (bd x0 x1 x2) 0||(bj x0 x1 x2||(!(!gE x0 x1 x2&&true)||leN (List.length (rvS x0 x1 x2)) 9223372036854775807))))))))),ae x1||(af x1 x2||(al x0 x1 x2||(!eqT x0 x0 x1 x1||(!rD x2 x2||(aL x0 x1 x2||(bc x0 x1 x2||(ltI (bd x0 x1 x2) 0||(bj x0 x1 x2||(fb x0 x1 x2||leN (List.length (eg x0 x1 x2)) 9223372036854775807))))))))),ae x1||(af x1 x2||(al x0 x1 x2||(!eqT x0 x0 x1 x1||(!rD x2 x2||(aL x0 x1 x2||(bc x0 x1 x2||(ltI (bd x0 x1 x2) 0||(bj x0 x1 x2||(fb x0 x1 x2||gG x0 x1 x2)))))))))]
end
def ry:List SV→List Entry→Option Out
 | [.one ⟨true,[.val (.int .i64 x0),.ref 0]⟩,.one ⟨false,[.ref 1]⟩],[.row false 2 (.int .i64) x1,.row false 131 (.pair (.int .i64) (.pair (.int .i64) (.int .i64))) x2]=>some ⟨.one ⟨false,[.val (.bool (iv x0 x1 x2))]⟩,[.row false 2 Pc x1,.row false 131 OZ x2],[],[iw x0 x1 x2]⟩
 |_,_=>none
def xJ:PF prog:=PF.ofG prog [IW,Ak,PF.lendW oH,PF.lendW (PF.lend qg),tf,PF.lend tf,PF.fz tf,tg,PF.lend tg,PF.fz tg,qg,PF.lend qg,PF.fz qg,rr,PF.lend rr,PF.fz rr,oH,PF.lend oH,PF.fz oH,nq,PF.lend nq,PF.fz nq,kR,PF.lend kR,PF.fz kR,kQ,PF.lend kQ,PF.fz kQ,oX,PF.lend oX,PF.fz oX,oW,PF.lend oW,PF.fz oW,oV,PF.lend oV,PF.fz oV,te,PF.lend te,PF.fz te,th,PF.lend th,PF.fz th,oj,PF.lend oj,PF.fz oj] [] cw 14 f14 func14 (fun c _=>LOk.nil c) ry (by
 intro vs es r h;unfold ry at h;split at h
 ·cases h;kernel_rfl
 ·cases h)
theorem Lk{k:Int}{es:List (Int×Int×Int)}(h0:0≤k)(h1:k≤1048576)(hn:es.length≤9223372036854775807)(h:ltI (jN k es) 0=false):(es.length:Int)≤1048576:=by
 simp only [jN,oG]at h
 rw [cE (by omega) (by omega)]at h
 cases hq:ltI (k - (es.length:Int)) 0 with
 |true=>rw [hq]at h;cases h
 |false=>have:=yx.1 hq;omega
theorem Jo(xs:List (Int×Int×Int)):rD xs xs=true:=by simp [rD]
theorem DN(n:Int): ∀ (es:List (Int×Int×Int)) (s:List Int×List Int),(Fp n es s).1.length=s.1.length∧(Fp n es s).2.length=s.2.length
 | [],_=>⟨rfl,rfl⟩
 |e::es,s=>by
  have h:=DN n es (rvN n s e)
  have h1:(rvN n s e).1.length=s.1.length∧(rvN n s e).2.length=s.2.length:=by
   unfold rvN
   cases e.1==0 with
   |true=>exact⟨vX ..,rfl⟩
   |false=>exact⟨rfl,List.length_set ..⟩
  simp only [Fp,List.foldl_cons]at h ⊢
  exact⟨h.1.trans h1.1,h.2.trans h1.2⟩
theorem Me(n:Int)(ps:List Int)(es:List (Int×Int×Int)):(rvP n ps es).length≤4∧(rvS n ps es).length≤8:=by
 unfold rvP rvS
 cases h:ul n ps es with
 |false=>simp
 |true=>
  have hT:isT n ps=true:=by
   simp only [ul,oq]at h
   cases hp:eqI (pQ n ps es) 0 with
   |true=>exact(GZ hp).1
   |false=>
    rw [hp,cond_false]at h
    rw [hp]at h;cases h
  have h1:=iZ.1 hT
  have h2:=DN n es (rv0 n ps)
  simp only [rv0,List.length_replicate]at h2
  simp only [cond_true]
  have e:rv0 n ps=(ps,List.replicate n.toNat 0):=rfl
  rw [e]
  omega
theorem Hl(n:Int)(ps:List Int)(es:List (Int×Int×Int))(hn:ps.length≤9223372036854775807)(hn2:es.length≤9223372036854775807):
  iv n ps es=true∧iw n ps es=true:=by
 have l0:leN ps.length 9223372036854775807=true:=uv hn
 have l9:leN es.length 9223372036854775807=true:=uv hn2
 cases ha:ltI (szV 1048576 ps) 0 with
 |true=>simp [ae,af,cH,fB,al,gT,bZ,bA,fC,aL,eg,bc,fa,cS,gD,bd,bj,gE,fb,gF,ei,gG,iv,iw,ha,allT,l0]
 |false=>
  have h1:=Ml ha
  have h2:=yx.1 ha
  have h3:szV 1048576 ps≤1048576:=by unfold szV;cases ltI (1048576 - (ps.length:Int)) 0 <;> simp <;> omega
  cases hc:ltI (jN (szV 1048576 ps) es) 0 with
  |true=>simp [ae,af,cH,fB,al,gT,bZ,bA,fC,aL,eg,bc,fa,cS,gD,bd,bj,gE,fb,gF,ei,gG,iv,iw,ha,hc,allT,l0]
  |false=>
   have h4:=Lk h2 h3 hn2 hc
   obtain⟨h5,h6⟩:=Me n ps es
   have l1:leN ps.length 1048576=true:=uv (by omega)
   have l2:leN es.length 1048576=true:=uv (by omega)
   have l6:leN (rvP n ps es).length 9223372036854775807=true:=uv (by omega)
   have l8:leN (rvS n ps es).length 9223372036854775807=true:=uv (by omega)
   have m1:zB 1 ps.length=true:=xG.2 (by omega)
   have m2:zB 1 (rvP n ps es).length=true:=xG.2 (by omega)
   have m3:mk3 (1 + (ps.length:Int)) es.length=true:=Ly.2 (by omega)
   have m4:zB (1 + ((rvP n ps es).length:Int)) (rvS n ps es).length=true:=xG.2 (by omega)
   have e1:ltI (1 + (ps.length:Int) + 3 * (es.length:Int)) 0=false:=GA (by omega)
   have e2:ltI (1 + ((rvP n ps es).length:Int)) 0=false:=GA (by omega)
   have e3:ltI (1 + ((rvP n ps es).length:Int) + ((rvS n ps es).length:Int)) 0=false:=GA (by omega)
   have l7:leN (jI 1 (rvP n ps es).length).length 9223372036854775807=true:=by rw [qP];exact l6
   have l10:leN (jI (1 + ((rvP n ps es).length:Int)) (rvS n ps es).length).length 9223372036854775807=true:=by rw [qP];exact l8
   simp only [ae,af,cH,fB,al,gT,bZ,bA,fC,aL,eg,bc,fa,cS,gD,bd,bj,gE,fb,gF,ei,gG,iv,iw,qh,tq,ou,ov,ha,hc,l0,l1,l2,l6,l7,l8,l9,l10,m1,m2,m3,m4,e1,e2,e3,ME,MC,Jo,LR 1 _ m2,JA _ _ m4,allT,Bool.cond_self,bne_self_eq_false,Bool.not_true,Bool.not_false,cond_true,cond_false,Bool.or_true,Bool.true_or,Bool.false_or,Bool.and_true,Bool.true_and]
   simp
end Go.SX
