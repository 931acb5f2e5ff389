import Derived.Test.YtdlfbhhoajgfmaaGreatDoorTXi
import Derived.LaidMore
import Derived.OpenVars
import Derived.MakeChecks
import Derived.Lib.LaidTab
set_option linter.unusedSimpArgs false
set_option linter.unusedVariables false
namespace Go.SX
open Go.RowKit
section
variable{H:Type}{enc:TypeId×Value→H}{P:Program}{w:World}{base:Nat}{sp:Nat→Bool}{held:Bool}
theorem uz: ∀ {l:List (String×DataW Unit)} {ps:List MemPlace} (_:DataW.LaidVars P w l ps) (i:Nat) {n:String} {d:DataW Unit} (_:l[i]? =some (n,d)),∃ g t cs fuel p,
  P.globalNamed n=some g∧(P.globals[g]?).map (·.type)=some t∧w.var? P n=some cs∧DataW.trod (fun _=>()) P w 0 (fun _=>true) false fuel t cs.toList=some (d,p)
 | [],_,_,i,_,_,hi=>by simp at hi
 |(n,d)::r,_,⟨g,t,cs,f,p,q,h1,h2,h3,h4,h5,_⟩,0,_,_,hi=>by
  simp only [List.getElem?_cons_zero,Option.some.injEq,Prod.mk.injEq]at hi
  obtain⟨rfl,rfl⟩:=hi
  exact⟨g,t,cs,f,p,h1,h2,h3,h4⟩
 |(n,d)::r,_,⟨g,t,cs,f,p,q,h1,h2,h3,h4,h5,_⟩,i + 1,_,_,hi=>uz h5 i (by simpa using hi)
theorem qa{l:List (String×DataW Unit)}{g T:Nat}{name:String}{d:DataW Unit}(hl:laidMet P l w)(i:Nat)(hi:l[i]? =some (name,d))(hg:P.globalNamed name=some g)
  (ht:(P.globals[g]?).map (·.type)=some T): ∃ arr T' fz fuel p,w.heap[g]? =some (.cells arr T' fz)∧DataW.trod (fun _=>()) P w 0 (fun _=>true) false fuel T arr.toList=some (d,p):=by
 obtain⟨ps,hv,_,_⟩:=hl
 obtain⟨g',t',cs,f,p,hg',ht',hvar,hd⟩:=uz hv i hi
 obtain rfl:=Option.some.inj (hg.symm.trans hg')
 obtain rfl:=Option.some.inj (ht.symm.trans ht')
 simp only [World.var?,hg,Option.bind_some]at hvar
 split at hvar
 ·rename_i cs' T' fz hb;cases hvar;exact⟨cs,T',fz,f,p,hb,hd⟩
 ·cases hvar
theorem wi{l:List (String×DataW Unit)}{g T e n:Nat}{name:String}{k:IntKind}{tab:List Int}(hl:laidMet P l w)(i:Nat)(hi:l[i]? =some (name,Lib.tabData k tab))
  (hg:P.globalNamed name=some g) (ht:(P.globals[g]?).map (·.type)=some T) (hT:P.underlying T=some (.array n e)) (he:P.underlying e=some (.int k)) (hc:P.cellsOf e=1) (hct:P.cellsOf T=n)
  (hm:tab.length≤maxLen):tab.length≤maxLen∧ ∃ arr T fz,w.heap[g]? =some (.cells arr T fz)∧arr.size=tab.length * (CTy.int k).size∧
   ∀ (i:Nat) (y:Int),tab[i]? =some y→Rep (fun b=>w.heap[b]?) (.int k) ((arr.toList.drop (i * (CTy.int k).size)).take (CTy.int k).size) y:=by
 obtain⟨arr,T',fz,f,p,hb,hd⟩:=qa hl i hi hg ht
 have ha:=Lib.cells_of_tab hT he hc hct hd
 have eb:arr.size=tab.length:=by
  have:=congrArg List.length ha
  simpa using this
 refine⟨hm,arr,T',fz,hb,by simpa [CTy.size] using eb,fun i y hy=> ?_⟩
 simp only [Rep,CTy.size,Nat.mul_one]
 have bI:=(List.getElem?_eq_some_iff.1 hy).1
 have hz:(tab.map fun z=>Value.int k z)[i]'(by simpa using bI)=Value.int k y:=by
  simp only [List.getElem_map,(List.getElem?_eq_some_iff.1 hy).2]
 rw [ha,List.drop_eq_getElem_cons (by simpa using bI),hz];rfl
theorem wE{t:TypeId}{ms}(ht:P.underlying t=some (.interface ms)){fuel:Nat}{cs:List Value}{x:DataW H×List MemPlace}(h:DataW.trod enc P w base sp held fuel t cs=some x):cs= [.nilIface]∨ ∃ u v,cs= [.iface u v]:=by
 cases fuel with
 |zero=>simp [DataW.trod]at h
 |succ n=>
  unfold DataW.trod at h
  rw [ht]at h
  split at h <;> simp_all
theorem vD{l:List (String×DataW Unit)}{g T:Nat}{ms}{name:String}{d:DataW Unit}(hl:laidMet P l w)(i:Nat)(hi:l[i]? =some (name,d))(hg:P.globalNamed name=some g)
  (ht:(P.globals[g]?).map (·.type)=some T) (hT:P.underlying T=some (.interface ms)): ∃ T fz v,w.heap[g]? =some (.cells #[v] T fz)∧(v= .nilIface∨ ∃ t p,v= .iface t p):=by
 obtain⟨arr,T',fz,f,p,hb,hd⟩:=qa hl i hi hg ht
 rcases wE hT hd with h | ⟨u,v,h⟩
 ·exact⟨T',fz,.nilIface,by rw [hb,← Array.toArray_toList (xs:=arr),h],.inl rfl⟩
 ·exact⟨T',fz,.iface u v,by rw [hb,← Array.toArray_toList (xs:=arr),h],.inr ⟨_,_,rfl⟩⟩
theorem tg: ∀ {ns:List String} {gs:List (DataW H)} {ps:List MemPlace},DataW.TrodVars enc P w sp ns gs ps→gs.length=ns.length
 | [],[],_,_=>rfl
 | [],_::_,_,h=>by simp [DataW.TrodVars]at h
 |_::_,[],_,h=>by simp [DataW.TrodVars]at h
 |_::ns,_::gs,_,⟨_,_,_,_,_,_,_,_,_,_,hs,_⟩=>congrArg (· + 1) (tg hs)
end
end Go.SX
