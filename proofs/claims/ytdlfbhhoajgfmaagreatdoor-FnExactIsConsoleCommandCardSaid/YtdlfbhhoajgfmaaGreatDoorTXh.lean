import Derived.Test.YtdlfbhhoajgfmaaGreatDoorTXB
set_option linter.unusedSimpArgs false
set_option linter.unusedVariables false
namespace Go.SX
open Go.RowKit
section
variable{B:Base}{ρ ρ':Nm}{w:World}{j:Nat}
end
end Go.SX
namespace Go.SX
open Go.RowKit
def PF.alt{P:Program}(p:PF P)(F:List SV→List Entry→Option Out)
  (h: ∀ args es o,F args es=some o→(∀ b∈o.nd,b=true)→ ∃ o',p.F args es=some o'∧(∀ b∈o'.nd,b=true)∧o'.res=o.res∧o'.es=o.es∧o'.new=o.new):PF P where
 k:=p.k
 F:=F
 ok:=by
  intro args es o ho ba mem ρ w hp
  obtain⟨o',h1,h2,h3,h4,h5⟩:=h args es o ho ba
  rw [← h3,← h4,← h5]
  exact p.ok args es o' h1 h2 mem ρ w hp
 keep:=p.keep
 hk:=by
  intro args es o ho ba
  obtain⟨o',h1,h2,_,h4,_⟩:=h args es o ho ba
  rw [← h4]
  exact p.hk args es o' h1 h2
theorem wY{b:Bool}(h:b=true): ∀ c∈ [b],c=true:=fun c hc=>by rw [List.mem_singleton]at hc;rw [hc];exact h
theorem xk{P:Program}{p:PF P}{args:List SV}{es:List Entry}{o o':Out}(h1:p.F args es=some o')(h2: ∀ b∈o'.nd,b=true)(h3:o'.res=o.res)(h4:o'.es=o.es)(h5:o'.new=o.new):
  ∃ o',p.F args es=some o'∧(∀ b∈o'.nd,b=true)∧o'.res=o.res∧o'.es=o.es∧o'.new=o.new:=⟨o',h1,h2,h3,h4,h5⟩
variable{A B:Type}
end Go.SX
namespace Go.SX
open Go.RowKit
def leI(a b:Int):Bool:=decide (a≤b)
def ltI(a b:Int):Bool:=decide (a < b)
def eqI(a b:Int):Bool:=decide (a=b)
def neI(a b:Int):Bool:=decide (a≠b)
def leN(a b:Nat):Bool:=decide (a≤b)
def ltN(a b:Nat):Bool:=decide (a < b)
@[simp] theorem je{a b:Int}:leI a b=true↔a≤b:=by simp [leI]
@[simp] theorem pw{a b:Int}:ltI a b=true↔a < b:=by simp [ltI]
@[simp] theorem xJ{a b:Int}:eqI a b=true↔a=b:=by simp [eqI]
@[simp] theorem xP{a b:Int}:neI a b=true↔a≠b:=by simp [neI]
@[simp] theorem xQ{a b:Int}:neI a b=false↔a=b:=by simp [neI]
@[simp] theorem np{a b:Nat}:leN a b=true↔a≤b:=by simp [leN]
@[simp] theorem wm{a b:Nat}:ltN a b=true↔a < b:=by simp [ltN]
@[simp] theorem wl{a b:Int}:leI a b=false↔b < a:=by simp [leI]
@[simp] theorem lP{a b:Int}:ltI a b=false↔b≤a:=by simp [ltI]
@[simp] theorem xK{a b:Int}:eqI a b=false↔a≠b:=by simp [eqI]
@[simp] theorem xO{a b:Nat}:leN a b=false↔b < a:=by simp [leN]
@[simp] theorem wn{a b:Nat}:ltN a b=false↔b≤a:=by simp [ltN]
@[simp] theorem xB(a:Int):ltI a a=false:=lP.2 (Int.le_refl _)
@[simp] theorem vI(a:Int):leI a a=true:=je.2 (Int.le_refl _)
@[simp] theorem xC(a:Nat):ltN a a=false:=wn.2 (Nat.le_refl _)
@[simp] theorem xz(a:Nat):leN a a=true:=np.2 (Nat.le_refl _)
@[simp] theorem xj(a:Int):ltI (a.toNat:Int) a=false:=lP.2 (by omega)
@[simp] theorem xA(a:Int):ltI 0 (a - (a.toNat:Int))=false:=lP.2 (by omega)
def xw{α:Type}(a b:Int)(x y:α):α:=if a≤b then x else y
def xx{α:Type}(a b:Int)(x y:α):α:=if a < b then x else y
def xu{α:Type}(a b:Int)(x y:α):α:=if a=b then x else y
@[simp] theorem xM{α:Type}{a b:Int}{x y:α}:xw a b x y=bif leI a b then x else y:=by unfold xw leI;by_cases h:a≤b <;> simp [h]
@[simp] theorem xN{α:Type}{a b:Int}{x y:α}:xx a b x y=bif ltI a b then x else y:=by unfold xx ltI;by_cases h:a < b <;> simp [h]
@[simp] theorem xL{α:Type}{a b:Int}{x y:α}:xu a b x y=bif eqI a b then x else y:=by unfold xu eqI;by_cases h:a=b <;> simp [h]
theorem jf{a b:Int}(h:a≤b):leI a b=true:=je.2 h
theorem gU{a b:Int}(h:a < b):ltI a b=true:=pw.2 h
theorem qb{a b:Nat}(h:a≤b):leN a b=true:=np.2 h
theorem qg{a b:Nat}(h:a < b):ltN a b=true:=wm.2 h
theorem xy{a b:Int}(h:b < a):leI a b=false:=wl.2 h
theorem nr{a b:Int}(h:b≤a):ltI a b=false:=lP.2 h
variable{X A B:Type}
def LT.nds:LT X→Bool
 | .nrm _ _=>true
 | .ext _ _=>true
 | .need nd t=>bif allT nd then t.nds else false
 | .ite b t e=>bif b then t.nds else e.nds
def LT.fn(pr:X→A):LT X→Nat ⊕ A
 | .nrm x _=> .inr (pr x)
 | .ext j _=> .inl j
 | .need _ t=>t.fn pr
 | .ite b t e=>bif b then t.fn pr else e.fn pr
theorem LT.out_of{st1:A→X}{pr:X→A}: ∀ {t:LT X},t.nds=true→t.each (fun y=>y=st1 (pr y))→t.out=some (match t.fn pr with | .inl j=> .inl j | .inr a=> .inr (st1 a))
 | .nrm x _,_,h=>by simp only [LT.out,LT.fn];rw [← show x=st1 (pr x) from h]
 | .ext j _,_,_=>rfl
 | .need nd t,hn,h=>by
  simp only [LT.nds]at hn
  simp only [LT.out,LT.fn]
  cases hd:allT nd with
  |true=>rw [hd,cond_true]at hn;rw [cond_true];exact LT.out_of (t:=t) hn h
  |false=>rw [hd]at hn;cases hn
 | .ite b t e,hn,h=>by
  simp only [LT.nds]at hn
  simp only [LT.out,LT.fn]
  cases b with
  |true=>exact LT.out_of (t:=t) hn h.1
  |false=>exact LT.out_of (t:=e) hn h.2
theorem Lp.along(p:Lp X)(st:Nat→A→X)(pr:X→A)(f:B→A→Nat ⊕ A)(e:Nat)(Inv:Nat→A→Prop)(xs:List B)(a:A)
  (h0:Inv 0 a) (hf:xs.length≤p.fuel (st 0 a))
  (hs: ∀ i b a,xs[i]? =some b→Inv i a→(p.lt (st i a)).nds=true∧(p.lt (st i a)).each (fun y=>y=st (i + 1) (pr y))∧(p.lt (st i a)).fn pr=f b a∧ ∀ a',f b a= .inr a'→Inv (i + 1) a')
  (he: ∀ a,Inv xs.length a→(p.lt (st xs.length a)).out=some (.inl e)):
  p.fin (st 0 a)=true∧p.res (st 0 a)=((cd f e xs 0 a).1,st (cd f e xs 0 a).2.1 (cd f e xs 0 a).2.2):=by
 refine p.walk st f e Inv xs (fun i b a hb hI=> ?_) he a h0 hf
 obtain⟨h1,h2,h3,h4⟩:=hs i b a hb hI
 refine⟨?_,h4⟩
 rw [LT.out_of h1 h2,h3]
 cases f b a <;> rfl
theorem uY{n i b:Nat}(h:(List.range n)[i]? =some b):b=i∧i < n:=by
 obtain⟨h1,h2⟩:=List.getElem?_eq_some_iff.1 h
 simp at h1 h2
 exact⟨h2.symm,h1⟩
theorem oG{f:B→A→Nat ⊕ A}{P:B→Bool}{e j:Nat}{a:A}(hf: ∀ b,f b a=bif P b then .inl j else .inr a): ∀ {r:List B} {i:Nat},
  cd f e r i a=(bif r.any P then j else e,i + (r.takeWhile fun b=> !P b).length,a)
 | [],i=>by simp [cd]
 |b::r,i=>by
  simp only [cd,List.any_cons,List.takeWhile_cons,hf]
  cases hb:P b with
  |false=>
   simp only [cond_false]
   rw [oG hf (r:=r)]
   simp;omega
  |true=>simp
theorem oZ{f:B→A→Nat ⊕ A}{g:A→B→A}{e:Nat}(hf: ∀ b a,f b a= .inr (g a b)): ∀ {r:List B} {i:Nat} {a:A},cd f e r i a=(e,i + r.length,r.foldl g a)
 | [],i,a=>by simp [cd]
 |b::r,i,a=>by
  simp only [cd,List.foldl_cons,hf]
  rw [oZ hf (r:=r)]
  simp;omega
end Go.SX
namespace Go.SX
end Go.SX
