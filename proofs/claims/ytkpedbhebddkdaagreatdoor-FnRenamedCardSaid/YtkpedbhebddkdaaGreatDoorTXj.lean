import Derived.Test.YtkpedbhebddkdaaGreatDoorTXi
import Derived.LaidMore
import Derived.OpenVars
import Derived.MakeChecks
set_option linter.unusedSimpArgs false
set_option linter.unusedVariables false
namespace Go.SX
open Go.RowKit
section
variable{H:Type}{enc:TypeId×Value→H}{P:Program}{w:World}{base:Nat}{sp:Nat→Bool}{held:Bool}
theorem anz{s t:ByteArray}(h:s.data.toList=t.data.toList):s=t:=by
 obtain⟨⟨s⟩⟩:=s
 obtain⟨⟨t⟩⟩:=t
 simp at h
 subst h;rfl
theorem akm{T e:TypeId}{n:Nat}(hT:P.underlying T=some (.array n e))(he:P.underlying e=some .string)(hc:P.cellsOf e=1){fuel:Nat}{cs:List Value}{p:List MemPlace}{tab:List ByteArray}
  (hn:tab.length=n) (h:DataW.trod enc P w base sp held fuel T cs=some (.agg (tab.map fun s=> .lit (.string s.data.toList)),p)): ∀ (i:Nat) (y:ByteArray),tab[i]? =some y→(cs.drop (i * 1)).take 1= [.string y]:=by
 intro i y hy
 obtain⟨xs,m,_,hx,nN,hxn,hel⟩:=DataW.trod_array hT h
 have hi:i < n:=by rw [← hn];exact(List.getElem?_eq_some_iff.1 hy).1
 have h1:=hel i hi
 rw [hc]at h1
 have iX:i < xs.length:=by omega
 rw [List.getElem?_eq_getElem iX]at h1
 obtain⟨s,e1,e2,_⟩:=DataW.trod_string he h1
 simp only [Prod.mk.injEq,DataW.agg.injEq]at hx
 have h2:(xs.map (·.1))[i]? =some (xs[i]).1:=by simp [List.getElem?_eq_getElem iX]
 rw [← hx.1,e2]at h2
 simp only [List.getElem?_map,hy,Option.map_some,Option.some.injEq,DataW.lit.injEq,Lit.string.injEq]at h2
 have:=anz h2
 subst this
 exact e1
end
end Go.SX
