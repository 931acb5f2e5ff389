import Derived.Test.YtlppcpebljcpkaaDoorTXB
set_option linter.unusedSimpArgs false
set_option linter.unusedVariables false
namespace Go.SX
open Go.RowKit
section
variable{B:Base}{ρ ρ':Nm}{w:World}{j:Nat}
end
end Go.SX
namespace Go.SX
open Go.RowKit
def PF.alt{P:Program}(p:PF P)(F:List SV→List Entry→Option Out)
  (h: ∀ args es o,F args es=some o→(∀ b∈o.nd,b=true)→ ∃ o',p.F args es=some o'∧(∀ b∈o'.nd,b=true)∧o'.res=o.res∧o'.es=o.es∧o'.new=o.new):PF P where
 k:=p.k
 F:=F
 ok:=by
  intro args es o ho aP mem ρ w hp
  obtain⟨o',h1,h2,h3,h4,h5⟩:=h args es o ho aP
  rw [← h3,← h4,← h5]
  exact p.ok args es o' h1 h2 mem ρ w hp
 keep:=p.keep
 hk:=by
  intro args es o ho aP
  obtain⟨o',h1,h2,_,h4,_⟩:=h args es o ho aP
  rw [← h4]
  exact p.hk args es o' h1 h2
theorem iW{b:Bool}(h:b=true): ∀ c∈ [b],c=true:=fun c hc=>by rw [List.mem_singleton]at hc;rw [hc];exact h
theorem md{b:Bool}{l:List Bool}(h: ∀ c∈b::l,c=true):b=true:=h b (by simp)
theorem la{P:Program}{p:PF P}{args:List SV}{es:List Entry}{o o':Out}(h1:p.F args es=some o')(h2: ∀ b∈o'.nd,b=true)(h3:o'.res=o.res)(h4:o'.es=o.es)(h5:o'.new=o.new):
  ∃ o',p.F args es=some o'∧(∀ b∈o'.nd,b=true)∧o'.res=o.res∧o'.es=o.es∧o'.new=o.new:=⟨o',h1,h2,h3,h4,h5⟩
variable{A B:Type}
end Go.SX
namespace Go.SX
open Go.RowKit
def leI(a b:Int):Bool:=decide (a≤b)
def ltI(a b:Int):Bool:=decide (a < b)
def eqI(a b:Int):Bool:=decide (a=b)
def neI(a b:Int):Bool:=decide (a≠b)
def leN(a b:Nat):Bool:=decide (a≤b)
def ltN(a b:Nat):Bool:=decide (a < b)
@[simp] theorem qs{a b:Int}:leI a b=true↔a≤b:=by simp [leI]
@[simp] theorem vP{a b:Int}:ltI a b=true↔a < b:=by simp [ltI]
@[simp] theorem Jz{a b:Int}:eqI a b=true↔a=b:=by simp [eqI]
@[simp] theorem Ic{a b:Int}:neI a b=true↔a≠b:=by simp [neI]
@[simp] theorem JF{a b:Int}:neI a b=false↔a=b:=by simp [neI]
theorem Jp{a b:Int}(h:a≠b):neI a b=true:=Ic.2 h
@[simp] theorem jX{a b:Nat}:leN a b=true↔a≤b:=by simp [leN]
@[simp] theorem HY{a b:Nat}:ltN a b=true↔a < b:=by simp [ltN]
@[simp] theorem HV{a b:Int}:leI a b=false↔b < a:=by simp [leI]
@[simp] theorem tv{a b:Int}:ltI a b=false↔b≤a:=by simp [ltI]
@[simp] theorem JA{a b:Int}:eqI a b=false↔a≠b:=by simp [eqI]
@[simp] theorem JD{a b:Nat}:leN a b=false↔b < a:=by simp [leN]
@[simp] theorem HZ{a b:Nat}:ltN a b=false↔b≤a:=by simp [ltN]
@[simp] theorem Jn(a:Int):ltI a a=false:=tv.2 (Int.le_refl _)
@[simp] theorem Hu(a:Int):leI a a=true:=qs.2 (Int.le_refl _)
@[simp] theorem Jo(a:Nat):ltN a a=false:=HZ.2 (Nat.le_refl _)
@[simp] theorem Jl(a:Nat):leN a a=true:=jX.2 (Nat.le_refl _)
@[simp] theorem Jf(a:Int):ltI (a.toNat:Int) a=false:=tv.2 (by omega)
@[simp] theorem Jm(a:Int):ltI 0 (a - (a.toNat:Int))=false:=tv.2 (by omega)
def Jk{α:Type}(a b:Int)(x y:α):α:=if a≤b then x else y
def Cp{α:Type}(a b:Int)(x y:α):α:=if a < b then x else y
def Jj{α:Type}(a b:Int)(x y:α):α:=if a=b then x else y
@[simp] theorem JC{α:Type}{a b:Int}{x y:α}:Jk a b x y=bif leI a b then x else y:=by unfold Jk leI;by_cases h:a≤b <;> simp [h]
@[simp] theorem Gq{α:Type}{a b:Int}{x y:α}:Cp a b x y=bif ltI a b then x else y:=by unfold Cp ltI;by_cases h:a < b <;> simp [h]
@[simp] theorem JB{α:Type}{a b:Int}{x y:α}:Jj a b x y=bif eqI a b then x else y:=by unfold Jj eqI;by_cases h:a=b <;> simp [h]
theorem ld{a b:Int}(h:a≤b):leI a b=true:=qs.2 h
theorem pT{a b:Int}(h:a < b):ltI a b=true:=vP.2 h
theorem iC{a b:Nat}(h:a≤b):leN a b=true:=jX.2 h
theorem wq{a b:Nat}(h:a < b):ltN a b=true:=HY.2 h
theorem IB{a b:Int}(h:b < a):leI a b=false:=HV.2 h
theorem IC{a b:Int}(h:b≤a):ltI a b=false:=tv.2 h
variable{X A B:Type}
def LT.nds:LT X→Bool
 | .nrm _ _=>true
 | .ext _ _=>true
 | .need nd t=>bif allT nd then t.nds else false
 | .ite b t e=>bif b then t.nds else e.nds
def LT.fn(pr:X→A):LT X→Nat ⊕ A
 | .nrm x _=> .inr (pr x)
 | .ext j _=> .inl j
 | .need _ t=>t.fn pr
 | .ite b t e=>bif b then t.fn pr else e.fn pr
theorem LT.out_of{st1:A→X}{pr:X→A}: ∀ {t:LT X},t.nds=true→t.each (fun y=>y=st1 (pr y))→t.out=some (match t.fn pr with | .inl j=> .inl j | .inr a=> .inr (st1 a))
 | .nrm x _,_,h=>by simp only [LT.out,LT.fn];rw [← show x=st1 (pr x) from h]
 | .ext j _,_,_=>rfl
 | .need nd t,hn,h=>by
  simp only [LT.nds]at hn
  simp only [LT.out,LT.fn]
  cases hd:allT nd with
  |true=>rw [hd,cond_true]at hn;rw [cond_true];exact LT.out_of (t:=t) hn h
  |false=>rw [hd]at hn;cases hn
 | .ite b t e,hn,h=>by
  simp only [LT.nds]at hn
  simp only [LT.out,LT.fn]
  cases b with
  |true=>exact LT.out_of (t:=t) hn h.1
  |false=>exact LT.out_of (t:=e) hn h.2
theorem Lp.along(p:Lp X)(st:Nat→A→X)(pr:X→A)(f:B→A→Nat ⊕ A)(e:Nat)(Inv:Nat→A→Prop)(xs:List B)(a:A)
  (h0:Inv 0 a) (hf:xs.length≤p.fuel (st 0 a))
  (hs: ∀ i b a,xs[i]? =some b→Inv i a→(p.lt (st i a)).nds=true∧(p.lt (st i a)).each (fun y=>y=st (i + 1) (pr y))∧(p.lt (st i a)).fn pr=f b a∧ ∀ a',f b a= .inr a'→Inv (i + 1) a')
  (he: ∀ a,Inv xs.length a→(p.lt (st xs.length a)).out=some (.inl e)):
  p.fin (st 0 a)=true∧p.res (st 0 a)=((iv f e xs 0 a).1,st (iv f e xs 0 a).2.1 (iv f e xs 0 a).2.2):=by
 refine p.walk st f e Inv xs (fun i b a hb hI=> ?_) he a h0 hf
 obtain⟨h1,h2,h3,h4⟩:=hs i b a hb hI
 refine⟨?_,h4⟩
 rw [LT.out_of h1 h2,h3]
 cases f b a <;> rfl
theorem Da{n i b:Nat}(h:(List.range n)[i]? =some b):b=i∧i < n:=by
 obtain⟨h1,h2⟩:=List.getElem?_eq_some_iff.1 h
 simp at h1 h2
 exact⟨h2.symm,h1⟩
theorem nK{f:B→A→Nat ⊕ A}{P:B→Bool}{e j:Nat}{a:A}(hf: ∀ b,f b a=bif P b then .inl j else .inr a): ∀ {r:List B} {i:Nat},
  iv f e r i a=(bif r.any P then j else e,i + (r.takeWhile fun b=> !P b).length,a)
 | [],i=>by simp [iv]
 |b::r,i=>by
  simp only [iv,List.any_cons,List.takeWhile_cons,hf]
  cases hb:P b with
  |false=>
   simp only [cond_false]
   rw [nK hf (r:=r)]
   simp;omega
  |true=>simp
end Go.SX
namespace Go.SX
end Go.SX
