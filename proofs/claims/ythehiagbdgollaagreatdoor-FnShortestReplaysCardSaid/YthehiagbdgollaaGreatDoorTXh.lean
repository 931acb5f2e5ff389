import Derived.Test.YthehiagbdgollaaGreatDoorTXB
set_option linter.unusedSimpArgs false
set_option linter.unusedVariables false
namespace Go.SX
open Go.RowKit
section
variable{B:Base}{ρ ρ':Nm}{w:World}{j:Nat}
end
end Go.SX
namespace Go.SX
open Go.RowKit
def PF.alt{P:Program}(p:PF P)(F:List SV→List Entry→Option Out)
  (h: ∀ args es o,F args es=some o→(∀ b∈o.nd,b=true)→ ∃ o',p.F args es=some o'∧(∀ b∈o'.nd,b=true)∧o'.res=o.res∧o'.es=o.es∧o'.new=o.new):PF P where
 k:=p.k
 F:=F
 ok:=by
  intro args es o ho dq mem ρ w hp
  obtain⟨o',h1,h2,h3,h4,h5⟩:=h args es o ho dq
  rw [← h3,← h4,← h5]
  exact p.ok args es o' h1 h2 mem ρ w hp
 keep:=p.keep
 hk:=by
  intro args es o ho dq
  obtain⟨o',h1,h2,_,h4,_⟩:=h args es o ho dq
  rw [← h4]
  exact p.hk args es o' h1 h2
theorem pM{b:Bool}(h:b=true): ∀ c∈ [b],c=true:=fun c hc=>by rw [List.mem_singleton]at hc;rw [hc];exact h
theorem zR{b:Bool}{l:List Bool}(h: ∀ c∈b::l,c=true):b=true:=h b (by simp)
theorem uJ{P:Program}{p:PF P}{args:List SV}{es:List Entry}{o o':Out}(h1:p.F args es=some o')(h2: ∀ b∈o'.nd,b=true)(h3:o'.res=o.res)(h4:o'.es=o.es)(h5:o'.new=o.new):
  ∃ o',p.F args es=some o'∧(∀ b∈o'.nd,b=true)∧o'.res=o.res∧o'.es=o.es∧o'.new=o.new:=⟨o',h1,h2,h3,h4,h5⟩
variable{A B:Type}
end Go.SX
namespace Go.SX
open Go.RowKit
def leI(a b:Int):Bool:=decide (a≤b)
def ltI(a b:Int):Bool:=decide (a < b)
def eqI(a b:Int):Bool:=decide (a=b)
def neI(a b:Int):Bool:=decide (a≠b)
def leN(a b:Nat):Bool:=decide (a≤b)
def ltN(a b:Nat):Bool:=decide (a < b)
@[simp] theorem HM{a b:Int}:leI a b=true↔a≤b:=by simp [leI]
@[simp] theorem Eg{a b:Int}:ltI a b=true↔a < b:=by simp [ltI]
@[simp] theorem QC{a b:Int}:eqI a b=true↔a=b:=by simp [eqI]
@[simp] theorem ajD{a b:Int}:neI a b=true↔a≠b:=by simp [neI]
@[simp] theorem alD{a b:Int}:neI a b=false↔a=b:=by simp [neI]
theorem aaZ{a b:Int}(h:a≠b):neI a b=true:=ajD.2 h
@[simp] theorem uk{a b:Nat}:leN a b=true↔a≤b:=by simp [leN]
@[simp] theorem Zm{a b:Nat}:ltN a b=true↔a < b:=by simp [ltN]
@[simp] theorem ahb{a b:Int}:leI a b=false↔b < a:=by simp [leI]
@[simp] theorem Gf{a b:Int}:ltI a b=false↔b≤a:=by simp [ltI]
@[simp] theorem adX{a b:Int}:eqI a b=false↔a≠b:=by simp [eqI]
@[simp] theorem Tj{a b:Nat}:leN a b=false↔b < a:=by simp [leN]
@[simp] theorem Zn{a b:Nat}:ltN a b=false↔b≤a:=by simp [ltN]
@[simp] theorem ak8(a:Int):ltI a a=false:=Gf.2 (Int.le_refl _)
@[simp] theorem aiI(a:Int):leI a a=true:=HM.2 (Int.le_refl _)
@[simp] theorem ak9(a:Nat):ltN a a=false:=Zn.2 (Nat.le_refl _)
@[simp] theorem ak7(a:Nat):leN a a=true:=uk.2 (Nat.le_refl _)
@[simp] theorem adv(a:Int):ltI (a.toNat:Int) a=false:=Gf.2 (by omega)
@[simp] theorem ae9(a:Int):ltI 0 (a - (a.toNat:Int))=false:=Gf.2 (by omega)
def ak5{α:Type}(a b:Int)(x y:α):α:=if a≤b then x else y
def aeU{α:Type}(a b:Int)(x y:α):α:=if a < b then x else y
def ak4{α:Type}(a b:Int)(x y:α):α:=if a=b then x else y
@[simp] theorem alC{α:Type}{a b:Int}{x y:α}:ak5 a b x y=bif leI a b then x else y:=by unfold ak5 leI;by_cases h:a≤b <;> simp [h]
@[simp] theorem ad7{α:Type}{a b:Int}{x y:α}:aeU a b x y=bif ltI a b then x else y:=by unfold aeU ltI;by_cases h:a < b <;> simp [h]
@[simp] theorem alB{α:Type}{a b:Int}{x y:α}:ak4 a b x y=bif eqI a b then x else y:=by unfold ak4 eqI;by_cases h:a=b <;> simp [h]
theorem cw{a b:Int}(h:a≤b):leI a b=true:=HM.2 h
theorem cK{a b:Int}(h:a < b):ltI a b=true:=Eg.2 h
theorem iJ{a b:Nat}(h:a≤b):leN a b=true:=uk.2 h
theorem ip{a b:Nat}(h:a < b):ltN a b=true:=Zm.2 h
theorem aiH{a b:Int}(h:b < a):leI a b=false:=ahb.2 h
theorem nA{a b:Int}(h:b≤a):ltI a b=false:=Gf.2 h
theorem aka{a b:Int}(h:a≠b):eqI a b=false:=adX.2 h
variable{X A B:Type}
def LT.nds:LT X→Bool
 | .nrm _ _=>true
 | .ext _ _=>true
 | .need nd t=>bif allT nd then t.nds else false
 | .ite b t e=>bif b then t.nds else e.nds
def LT.fn(pr:X→A):LT X→Nat ⊕ A
 | .nrm x _=> .inr (pr x)
 | .ext j _=> .inl j
 | .need _ t=>t.fn pr
 | .ite b t e=>bif b then t.fn pr else e.fn pr
theorem LT.out_of{st1:A→X}{pr:X→A}: ∀ {t:LT X},t.nds=true→t.each (fun y=>y=st1 (pr y))→t.out=some (match t.fn pr with | .inl j=> .inl j | .inr a=> .inr (st1 a))
 | .nrm x _,_,h=>by simp only [LT.out,LT.fn];rw [← show x=st1 (pr x) from h]
 | .ext j _,_,_=>rfl
 | .need nd t,hn,h=>by
  simp only [LT.nds]at hn
  simp only [LT.out,LT.fn]
  cases hd:allT nd with
  |true=>rw [hd,cond_true]at hn;rw [cond_true];exact LT.out_of (t:=t) hn h
  |false=>rw [hd]at hn;cases hn
 | .ite b t e,hn,h=>by
  simp only [LT.nds]at hn
  simp only [LT.out,LT.fn]
  cases b with
  |true=>exact LT.out_of (t:=t) hn h.1
  |false=>exact LT.out_of (t:=e) hn h.2
theorem Lp.along(p:Lp X)(st:Nat→A→X)(pr:X→A)(f:B→A→Nat ⊕ A)(e:Nat)(Inv:Nat→A→Prop)(xs:List B)(a:A)
  (h0:Inv 0 a) (hf:xs.length≤p.fuel (st 0 a))
  (hs: ∀ i b a,xs[i]? =some b→Inv i a→(p.lt (st i a)).nds=true∧(p.lt (st i a)).each (fun y=>y=st (i + 1) (pr y))∧(p.lt (st i a)).fn pr=f b a∧ ∀ a',f b a= .inr a'→Inv (i + 1) a')
  (he: ∀ a,Inv xs.length a→(p.lt (st xs.length a)).out=some (.inl e)):
  p.fin (st 0 a)=true∧p.res (st 0 a)=((fA f e xs 0 a).1,st (fA f e xs 0 a).2.1 (fA f e xs 0 a).2.2):=by
 refine p.walk st f e Inv xs (fun i b a hb hI=> ?_) he a h0 hf
 obtain⟨h1,h2,h3,h4⟩:=hs i b a hb hI
 refine⟨?_,h4⟩
 rw [LT.out_of h1 h2,h3]
 cases f b a <;> rfl
theorem OY{n i b:Nat}(h:(List.range n)[i]? =some b):b=i∧i < n:=by
 obtain⟨h1,h2⟩:=List.getElem?_eq_some_iff.1 h
 simp at h1 h2
 exact⟨h2.symm,h1⟩
theorem Ln{f:B→A→Nat ⊕ A}{P:B→Bool}{e j:Nat}{a:A}(hf: ∀ b,f b a=bif P b then .inl j else .inr a): ∀ {r:List B} {i:Nat},
  fA f e r i a=(bif r.any P then j else e,i + (r.takeWhile fun b=> !P b).length,a)
 | [],i=>by simp [fA]
 |b::r,i=>by
  simp only [fA,List.any_cons,List.takeWhile_cons,hf]
  cases hb:P b with
  |false=>
   simp only [cond_false]
   rw [Ln hf (r:=r)]
   simp;omega
  |true=>simp
theorem yW{f:B→A→Nat ⊕ A}{g:A→B→A}{e:Nat}(hf: ∀ b a,f b a= .inr (g a b)): ∀ {r:List B} {i:Nat} {a:A},fA f e r i a=(e,i + r.length,r.foldl g a)
 | [],i,a=>by simp [fA]
 |b::r,i,a=>by
  simp only [fA,List.foldl_cons,hf]
  rw [yW hf (r:=r)]
  simp;omega
theorem ah2{C D:Type}{xs:List D}{d:D}{g:D→C}{f:Nat→List C→Nat ⊕ List C}{e:Nat}(hf: ∀ b a,f b a= .inr (a.set b (g (xs[b]?.getD d)))){ys:List C}(hl:ys.length=xs.length):
  fA f e (List.range xs.length) 0 ys=(e,xs.length,xs.map g):=by
 rw [yW (g:=fun a b=>a.set b (g (xs[b]?.getD d))) (fun b a=>hf b a)]
 have key: ∀ (n:Nat),n≤xs.length→(List.range n).foldl (fun a b=>a.set b (g (xs[b]?.getD d))) ys=(xs.map g).take n++ys.drop n:=by
  intro n
  induction n with
  |zero=>intro _;simp
  |succ n ih=>
   intro hn
   rw [List.range_succ,List.foldl_append,ih (by omega)]
   simp only [List.foldl_cons,List.foldl_nil]
   have h1:xs[n]?.getD d=xs[n]'(by omega):=by rw [List.getElem?_eq_getElem (by omega)];rfl
   rw [h1]
   refine List.ext_getElem? fun i=> ?_
   rw [List.getElem?_set]
   by_cases hi:n=i
   ·subst hi
    rw [if_pos rfl,List.getElem?_append_left (by simp;omega)]
    rw [if_pos (by simp;omega)]
    simp [List.getElem?_take,List.getElem?_map]
    rw [List.getElem?_eq_getElem (by omega)];rfl
   ·rw [if_neg hi]
    by_cases gm:i < n
    ·rw [List.getElem?_append_left (by simp;omega),List.getElem?_append_left (by simp;omega)]
     simp [List.getElem?_take,gm,show i < n + 1 by omega]
    ·rw [List.getElem?_append_right (by simp;omega),List.getElem?_append_right (by simp;omega)]
     simp only [List.length_take,List.length_map,List.getElem?_drop]
     congr 1
     omega
 rw [key xs.length (Nat.le_refl _),List.take_of_length_le (by simp),List.drop_eq_nil_of_le (by omega),List.append_nil]
 simp
end Go.SX
namespace Go.SX
end Go.SX
