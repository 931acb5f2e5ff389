import Derived.Test.YthehiagbdgollaaGreatDoorTXi
import Derived.LaidMore
import Derived.OpenVars
import Derived.MakeChecks
import Derived.Lib.LaidTab
set_option linter.unusedSimpArgs false
set_option linter.unusedVariables false
open List renaming getElem?_eq_some_iff → q8
namespace Go.SX
open Go.RowKit
section
variable{H:Type}{enc:TypeId×Value→H}{P:Program}{w:World}{base:Nat}{sp:Nat→Bool}{held:Bool}
theorem ahs{s t:ByteArray}(h:s.data.toList=t.data.toList):s=t:=by
 obtain⟨⟨s⟩⟩:=s
 obtain⟨⟨t⟩⟩:=t
 simp at h
 subst h;rfl
theorem aen{T e:TypeId}{n:Nat}(hT:P.underlying T=some (.array n e))(he:P.underlying e=some .string)(hc:P.cellsOf e=1){fuel:Nat}{cs:List Value}{p:List MemPlace}{tab:List ByteArray}
  (hn:tab.length=n) (h:DataW.trod enc P w base sp held fuel T cs=some (.agg (tab.map fun s=> .lit (.string s.data.toList)),p)): ∀ (i:Nat) (y:ByteArray),tab[i]? =some y→(cs.drop (i * 1)).take 1= [.string y]:=by
 intro i y hy
 obtain⟨xs,m,_,hx,jw,hxn,hel⟩:=DataW.trod_array hT h
 have hi:i < n:=by rw [← hn];exact(q8.1 hy).1
 have h1:=hel i hi
 rw [hc]at h1
 have gm:i < xs.length:=by omega
 rw [List.getElem?_eq_getElem gm]at h1
 obtain⟨s,e1,e2,_⟩:=DataW.trod_string he h1
 simp only [Prod.mk.injEq,DataW.agg.injEq]at hx
 have h2:(xs.map (·.1))[i]? =some (xs[i]).1:=by simp [List.getElem?_eq_getElem gm]
 rw [← hx.1,e2]at h2
 simp only [List.getElem?_map,hy,Option.map_some,Option.some.injEq,DataW.lit.injEq,Lit.string.injEq]at h2
 have:=ahs h2
 subst this
 exact e1
theorem aha: ∀ {l:List (String×DataW Unit)} {ps:List MemPlace} (_:DataW.LaidVars P w l ps) (i:Nat) {n:String} {d:DataW Unit} (_:l[i]? =some (n,d)),∃ g t cs fuel p,
  P.globalNamed n=some g∧(P.globals[g]?).map (·.type)=some t∧w.var? P n=some cs∧DataW.trod (fun _=>()) P w 0 (fun _=>true) false fuel t cs.toList=some (d,p)
 | [],_,_,i,_,_,hi=>by simp at hi
 |(n,d)::r,_,⟨g,t,cs,f,p,q,h1,h2,h3,h4,h5,_⟩,0,_,_,hi=>by
  simp only [List.getElem?_cons_zero,Option.some.injEq,Prod.mk.injEq]at hi
  obtain⟨rfl,rfl⟩:=hi
  exact⟨g,t,cs,f,p,h1,h2,h3,h4⟩
 |(n,d)::r,_,⟨g,t,cs,f,p,q,h1,h2,h3,h4,h5,_⟩,i + 1,_,_,hi=>aha h5 i (by simpa using hi)
theorem aca{l:List (String×DataW Unit)}{g T:Nat}{name:String}{d:DataW Unit}(hl:laidMet P l w)(i:Nat)(hi:l[i]? =some (name,d))(hg:P.globalNamed name=some g)
  (ht:(P.globals[g]?).map (·.type)=some T): ∃ arr T' fz fuel p,w.heap[g]? =some (.cells arr T' fz)∧DataW.trod (fun _=>()) P w 0 (fun _=>true) false fuel T arr.toList=some (d,p):=by
 obtain⟨ps,hv,_,_⟩:=hl
 obtain⟨g',t',cs,f,p,hg',ht',hvar,hd⟩:=aha hv i hi
 obtain rfl:=Option.some.inj (hg.symm.trans hg')
 obtain rfl:=Option.some.inj (ht.symm.trans ht')
 simp only [World.var?,hg,Option.bind_some]at hvar
 split at hvar
 ·rename_i cs' T' fz hb;cases hvar;exact⟨cs,T',fz,f,p,hb,hd⟩
 ·cases hvar
theorem ajr{l:List (String×DataW Unit)}{g T e n:Nat}{name:String}{tab:List ByteArray}(hl:laidMet P l w)(i:Nat)(hi:l[i]? =some (name,.agg (tab.map fun s=> .lit (.string s.data.toList))))
  (hg:P.globalNamed name=some g) (ht:(P.globals[g]?).map (·.type)=some T) (hT:P.underlying T=some (.array n e)) (he:P.underlying e=some .string) (hc:P.cellsOf e=1) (hct:P.cellsOf T=n) (hn:tab.length=n)
  (hm:tab.length≤maxLen):tab.length≤maxLen∧ ∃ arr T fz,w.heap[g]? =some (.cells arr T fz)∧arr.size=tab.length * CTy.str.size∧
   ∀ (i:Nat) (y:ByteArray),tab[i]? =some y→Rep (fun b=>w.heap[b]?) .str ((arr.toList.drop (i * CTy.str.size)).take CTy.str.size) y:=by
 obtain⟨arr,T',fz,f,p,hb,hd⟩:=aca hl i hi hg ht
 refine⟨hm,arr,T',fz,hb,?_,fun i y hy=> ?_⟩
 ·obtain⟨_,_,_,_,jw,_,_⟩:=DataW.trod_array hT hd
  simpa [CTy.size,hn,hct] using jw
 ·simp only [Rep]
  exact aen hT he hc hn hd i y hy
theorem ajq{l:List (String×DataW Unit)}{g T e n:Nat}{name:String}{k:IntKind}{tab:List Int}(hl:laidMet P l w)(i:Nat)(hi:l[i]? =some (name,Lib.tabData k tab))
  (hg:P.globalNamed name=some g) (ht:(P.globals[g]?).map (·.type)=some T) (hT:P.underlying T=some (.array n e)) (he:P.underlying e=some (.int k)) (hc:P.cellsOf e=1) (hct:P.cellsOf T=n)
  (hm:tab.length≤maxLen):tab.length≤maxLen∧ ∃ arr T fz,w.heap[g]? =some (.cells arr T fz)∧arr.size=tab.length * (CTy.int k).size∧
   ∀ (i:Nat) (y:Int),tab[i]? =some y→Rep (fun b=>w.heap[b]?) (.int k) ((arr.toList.drop (i * (CTy.int k).size)).take (CTy.int k).size) y:=by
 obtain⟨arr,T',fz,f,p,hb,hd⟩:=aca hl i hi hg ht
 have ha:=Lib.cells_of_tab hT he hc hct hd
 have FG:arr.size=tab.length:=by
  have:=congrArg List.length ha
  simpa using this
 refine⟨hm,arr,T',fz,hb,by simpa [CTy.size] using FG,fun i y hy=> ?_⟩
 simp only [Rep,CTy.size,Nat.mul_one]
 have gm:=(q8.1 hy).1
 have hz:(tab.map fun z=>Value.int k z)[i]'(by simpa using gm)=Value.int k y:=by
  simp only [List.getElem_map,(q8.1 hy).2]
 rw [ha,List.drop_eq_getElem_cons (by simpa using gm),hz];rfl
end
end Go.SX
