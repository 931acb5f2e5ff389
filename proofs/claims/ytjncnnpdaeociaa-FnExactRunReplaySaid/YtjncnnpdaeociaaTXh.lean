import Derived.Test.YtjncnnpdaeociaaTXB
set_option linter.unusedSimpArgs false
set_option linter.unusedVariables false
namespace Go.SX
open Go.RowKit
section
variable{B:Base}{ρ ρ':Nm}{w:World}{j:Nat}
end
end Go.SX
namespace Go.SX
open Go.RowKit
def PF.alt{P:Program}(p:PF P)(F:List SV→List Entry→Option Out)
  (h: ∀ args es o,F args es=some o→(∀ b∈o.nd,b=true)→ ∃ o',p.F args es=some o'∧(∀ b∈o'.nd,b=true)∧o'.res=o.res∧o'.es=o.es∧o'.new=o.new):PF P where
 k:=p.k
 F:=F
 ok:=by
  intro args es o ho bf mem ρ w hp
  obtain⟨o',h1,h2,h3,h4,h5⟩:=h args es o ho bf
  rw [← h3,← h4,← h5]
  exact p.ok args es o' h1 h2 mem ρ w hp
 keep:=p.keep
 hk:=by
  intro args es o ho bf
  obtain⟨o',h1,h2,_,h4,_⟩:=h args es o ho bf
  rw [← h4]
  exact p.hk args es o' h1 h2
theorem fX{b:Bool}(h:b=true): ∀ c∈ [b],c=true:=fun c hc=>by rw [List.mem_singleton]at hc;rw [hc];exact h
theorem jj{b:Bool}{l:List Bool}(h: ∀ c∈b::l,c=true):b=true:=h b (by simp)
theorem jG{P:Program}{p:PF P}{args:List SV}{es:List Entry}{o o':Out}(h1:p.F args es=some o')(h2: ∀ b∈o'.nd,b=true)(h3:o'.res=o.res)(h4:o'.es=o.es)(h5:o'.new=o.new):
  ∃ o',p.F args es=some o'∧(∀ b∈o'.nd,b=true)∧o'.res=o.res∧o'.es=o.es∧o'.new=o.new:=⟨o',h1,h2,h3,h4,h5⟩
variable{A B:Type}
end Go.SX
namespace Go.SX
open Go.RowKit
def leI(a b:Int):Bool:=decide (a≤b)
def ltI(a b:Int):Bool:=decide (a < b)
def eqI(a b:Int):Bool:=decide (a=b)
def neI(a b:Int):Bool:=decide (a≠b)
def leN(a b:Nat):Bool:=decide (a≤b)
def ltN(a b:Nat):Bool:=decide (a < b)
@[simp] theorem AE{a b:Int}:leI a b=true↔a≤b:=by simp [leI]
@[simp] theorem Lx{a b:Int}:ltI a b=true↔a < b:=by simp [ltI]
@[simp] theorem Dh{a b:Int}:eqI a b=true↔a=b:=by simp [eqI]
@[simp] theorem NE{a b:Int}:neI a b=true↔a≠b:=by simp [neI]
@[simp] theorem OA{a b:Int}:neI a b=false↔a=b:=by simp [neI]
theorem HV{a b:Int}(h:a≠b):neI a b=true:=NE.2 h
@[simp] theorem kO{a b:Nat}:leN a b=true↔a≤b:=by simp [leN]
@[simp] theorem NB{a b:Nat}:ltN a b=true↔a < b:=by simp [ltN]
@[simp] theorem Ny{a b:Int}:leI a b=false↔b < a:=by simp [leI]
@[simp] theorem yx{a b:Int}:ltI a b=false↔b≤a:=by simp [ltI]
@[simp] theorem Ix{a b:Int}:eqI a b=false↔a≠b:=by simp [eqI]
@[simp] theorem Nz{a b:Nat}:leN a b=false↔b < a:=by simp [leN]
@[simp] theorem NC{a b:Nat}:ltN a b=false↔b≤a:=by simp [ltN]
@[simp] theorem Ow(a:Int):ltI a a=false:=yx.2 (Int.le_refl _)
@[simp] theorem Ou(a:Int):leI a a=true:=AE.2 (Int.le_refl _)
@[simp] theorem Ox(a:Nat):ltN a a=false:=NC.2 (Nat.le_refl _)
@[simp] theorem Ov(a:Nat):leN a a=true:=kO.2 (Nat.le_refl _)
@[simp] theorem En(a:Int):ltI (a.toNat:Int) a=false:=yx.2 (by omega)
@[simp] theorem Gz(a:Int):ltI 0 (a - (a.toNat:Int))=false:=yx.2 (by omega)
def Or{α:Type}(a b:Int)(x y:α):α:=if a≤b then x else y
def JF{α:Type}(a b:Int)(x y:α):α:=if a < b then x else y
def Oq{α:Type}(a b:Int)(x y:α):α:=if a=b then x else y
@[simp] theorem Oz{α:Type}{a b:Int}{x y:α}:Or a b x y=bif leI a b then x else y:=by unfold Or leI;by_cases h:a≤b <;> simp [h]
@[simp] theorem Nv{α:Type}{a b:Int}{x y:α}:JF a b x y=bif ltI a b then x else y:=by unfold JF ltI;by_cases h:a < b <;> simp [h]
@[simp] theorem Oy{α:Type}{a b:Int}{x y:α}:Oq a b x y=bif eqI a b then x else y:=by unfold Oq eqI;by_cases h:a=b <;> simp [h]
theorem gt{a b:Int}(h:a≤b):leI a b=true:=AE.2 h
theorem jg{a b:Int}(h:a < b):ltI a b=true:=Lx.2 h
theorem uv{a b:Nat}(h:a≤b):leN a b=true:=kO.2 h
theorem lm{a b:Nat}(h:a < b):ltN a b=true:=NB.2 h
theorem GA{a b:Int}(h:b≤a):ltI a b=false:=yx.2 h
variable{X A B:Type}
def LT.nds:LT X→Bool
 | .nrm _ _=>true
 | .ext _ _=>true
 | .need nd t=>bif allT nd then t.nds else false
 | .ite b t e=>bif b then t.nds else e.nds
def LT.fn(pr:X→A):LT X→Nat ⊕ A
 | .nrm x _=> .inr (pr x)
 | .ext j _=> .inl j
 | .need _ t=>t.fn pr
 | .ite b t e=>bif b then t.fn pr else e.fn pr
theorem LT.out_of{st1:A→X}{pr:X→A}: ∀ {t:LT X},t.nds=true→t.each (fun y=>y=st1 (pr y))→t.out=some (match t.fn pr with | .inl j=> .inl j | .inr a=> .inr (st1 a))
 | .nrm x _,_,h=>by simp only [LT.out,LT.fn];rw [← show x=st1 (pr x) from h]
 | .ext j _,_,_=>rfl
 | .need nd t,hn,h=>by
  simp only [LT.nds]at hn
  simp only [LT.out,LT.fn]
  cases hd:allT nd with
  |true=>rw [hd,cond_true]at hn;rw [cond_true];exact LT.out_of (t:=t) hn h
  |false=>rw [hd]at hn;cases hn
 | .ite b t e,hn,h=>by
  simp only [LT.nds]at hn
  simp only [LT.out,LT.fn]
  cases b with
  |true=>exact LT.out_of (t:=t) hn h.1
  |false=>exact LT.out_of (t:=e) hn h.2
theorem Lp.along(p:Lp X)(st:Nat→A→X)(pr:X→A)(f:B→A→Nat ⊕ A)(e:Nat)(Inv:Nat→A→Prop)(xs:List B)(a:A)
  (h0:Inv 0 a) (hf:xs.length≤p.fuel (st 0 a))
  (hs: ∀ i b a,xs[i]? =some b→Inv i a→(p.lt (st i a)).nds=true∧(p.lt (st i a)).each (fun y=>y=st (i + 1) (pr y))∧(p.lt (st i a)).fn pr=f b a∧ ∀ a',f b a= .inr a'→Inv (i + 1) a')
  (he: ∀ a,Inv xs.length a→(p.lt (st xs.length a)).out=some (.inl e)):
  p.fin (st 0 a)=true∧p.res (st 0 a)=((aR f e xs 0 a).1,st (aR f e xs 0 a).2.1 (aR f e xs 0 a).2.2):=by
 refine p.walk st f e Inv xs (fun i b a hb hI=> ?_) he a h0 hf
 obtain⟨h1,h2,h3,h4⟩:=hs i b a hb hI
 refine⟨?_,h4⟩
 rw [LT.out_of h1 h2,h3]
 cases f b a <;> rfl
theorem oS{n i b:Nat}(h:(List.range n)[i]? =some b):b=i∧i < n:=by
 obtain⟨h1,h2⟩:=List.getElem?_eq_some_iff.1 h
 simp at h1 h2
 exact⟨h2.symm,h1⟩
theorem rJ{f:B→A→Nat ⊕ A}{P:B→Bool}{e j:Nat}{a:A}(hf: ∀ b,f b a=bif P b then .inl j else .inr a): ∀ {r:List B} {i:Nat},
  aR f e r i a=(bif r.any P then j else e,i + (r.takeWhile fun b=> !P b).length,a)
 | [],i=>by simp [aR]
 |b::r,i=>by
  simp only [aR,List.any_cons,List.takeWhile_cons,hf]
  cases hb:P b with
  |false=>
   simp only [cond_false]
   rw [rJ hf (r:=r)]
   simp;omega
  |true=>simp
theorem lP{f:B→A→Nat ⊕ A}{g:A→B→A}{e:Nat}(hf: ∀ b a,f b a= .inr (g a b)): ∀ {r:List B} {i:Nat} {a:A},aR f e r i a=(e,i + r.length,r.foldl g a)
 | [],i,a=>by simp [aR]
 |b::r,i,a=>by
  simp only [aR,List.foldl_cons,hf]
  rw [lP hf (r:=r)]
  simp;omega
theorem ET{C D:Type}{xs:List D}{d:D}{g:D→C}{f:Nat→List C→Nat ⊕ List C}{e:Nat}(hf: ∀ b a,f b a= .inr (a.set b (g (xs[b]?.getD d)))){ys:List C}(hl:ys.length=xs.length):
  aR f e (List.range xs.length) 0 ys=(e,xs.length,xs.map g):=by
 rw [lP (g:=fun a b=>a.set b (g (xs[b]?.getD d))) (fun b a=>hf b a)]
 have jb: ∀ (n:Nat),n≤xs.length→(List.range n).foldl (fun a b=>a.set b (g (xs[b]?.getD d))) ys=(xs.map g).take n++ys.drop n:=by
  intro n
  induction n with
  |zero=>intro _;simp
  |succ n ih=>
   intro hn
   rw [List.range_succ,List.foldl_append,ih (by omega)]
   simp only [List.foldl_cons,List.foldl_nil]
   have h1:xs[n]?.getD d=xs[n]'(by omega):=by rw [List.getElem?_eq_getElem (by omega)];rfl
   rw [h1]
   refine List.ext_getElem? fun i=> ?_
   rw [List.getElem?_set]
   by_cases hi:n=i
   ·subst hi
    rw [if_pos rfl,List.getElem?_append_left (by simp;omega)]
    rw [if_pos (by simp;omega)]
    simp [List.getElem?_take,List.getElem?_map]
    rw [List.getElem?_eq_getElem (by omega)];rfl
   ·rw [if_neg hi]
    by_cases dE:i < n
    ·rw [List.getElem?_append_left (by simp;omega),List.getElem?_append_left (by simp;omega)]
     simp [List.getElem?_take,dE,show i < n + 1 by omega]
    ·rw [List.getElem?_append_right (by simp;omega),List.getElem?_append_right (by simp;omega)]
     simp only [List.length_take,List.length_map,List.getElem?_drop]
     congr 1
     omega
 rw [jb xs.length (Nat.le_refl _),List.take_of_length_le (by simp),List.drop_eq_nil_of_le (by omega),List.append_nil]
 simp
theorem Mp{C:Type}[DecidableEq C]{xs ys:List C}{d:C}(h:ys.length=xs.length){P:Nat→Bool}(hP: ∀ b,P b= !decide (xs[b]?.getD d=ys[b]?.getD d)):(List.range xs.length).any P= !decide (xs=ys):=by
 by_cases he:xs=ys
 ·subst he
  simp [hP]
 ·have hd:decide (xs=ys)=false:=decide_eq_false he
  rw [hd]
  cases ha:(List.range xs.length).any P with
  |true=>rfl
  |false=>
   exfalso
   apply he
   rw [List.any_eq_false]at ha
   refine List.ext_getElem (by omega) fun i h1 h2=> ?_
   have hx:=ha i (List.mem_range.2 h1)
   rw [hP i]at hx
   simp only [Bool.not_eq_true',decide_eq_false_iff_not,Decidable.not_not,List.getElem?_eq_getElem h1,List.getElem?_eq_getElem h2,Option.getD_some]at hx
   exact hx
def jI(k:Int)(n:Nat):List Int:=(List.range n).map fun(i:Nat)=>k + (i:Int)
theorem qP(k:Int)(n:Nat):(jI k n).length=n:=by simp [jI]
theorem Kn(k:Int)(n:Nat):jI k (n + 1)=k::jI (k + 1) n:=by
 unfold jI
 rw [List.range_succ_eq_map,List.map_cons,List.map_map]
 congr 1
 ·simp
 ·refine List.map_congr_left fun i _=> ?_
  simp only [Function.comp];omega
theorem Mn{f:Nat→Int×List Int→Nat ⊕ (Int×List Int)}{e:Nat}(hf: ∀ b k xs,f b (k,xs)= .inr (IntKind.i64.wrap (k + 1),xs.set b k)){xs:List Int}{k:Int}(h0:0≤k)(h1:k + xs.length≤9223372036854775807):
  aR f e (List.range xs.length) 0 (k,xs)=(e,xs.length,(k + xs.length,jI k xs.length)):=by
 rw [lP (g:=fun a b=>(IntKind.i64.wrap (a.1 + 1),a.2.set b a.1)) (fun b a=>hf b a.1 a.2)]
 have jb: ∀ (n:Nat),n≤xs.length→(List.range n).foldl (fun(a:Int×List Int) b=>(IntKind.i64.wrap (a.1 + 1),a.2.set b a.1)) (k,xs)=(k + n,jI k n++xs.drop n):=by
  intro n
  induction n with
  |zero=>intro _;simp [jI]
  |succ n ih=>
   intro hn
   rw [List.range_succ,List.foldl_append,ih (by omega)]
   simp only [List.foldl_cons,List.foldl_nil,Prod.mk.injEq]
   refine⟨by rw [cE (by omega) (by omega)];omega,?_⟩
   have h2:jI k (n + 1)=jI k n++ [k + n]:=by simp [jI,List.range_succ]
   have h3:xs.drop n=xs[n]'(by omega)::xs.drop (n + 1):=by rw [List.drop_eq_getElem_cons (by omega)]
   rw [h2,List.set_append_right _ _ (by simp [qP]),h3]
   simp only [qP,Nat.sub_self,List.set_cons_zero,List.append_assoc,List.singleton_append]
 rw [jb xs.length (Nat.le_refl _)]
 simp
theorem Io{f:Int→Int→Nat ⊕ Int}{e:Nat}(hf: ∀ b k,f b k=bif b !=k then .inl 0 else .inr (IntKind.i64.wrap (k + 1))): ∀ {n:Nat} {k:Int} {i:Nat},0≤k→k + n≤9223372036854775807→
  aR f e (jI k n) i k=(e,i + n,k + n)
 |0,k,i,_,_=>by simp [jI,aR]
 |n + 1,k,i,h0,h1=>by
  rw [Kn]
  simp only [aR,hf,bne_self_eq_false,cond_false]
  rw [cE (by omega) (by omega),Io hf (n:=n) (by omega) (by omega)]
  simp;omega
end Go.SX
namespace Go.SX
end Go.SX
