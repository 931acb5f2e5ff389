import Derived.Test.YtdlfbhhoajgfmaaGreatDoorTXB
import Derived.ProofKit
import Derived.OpenShut
set_option linter.unusedSimpArgs false
set_option linter.unusedVariables false
namespace Go.SX
open Go.RowKit
inductive CK where
 |int (k:IntKind)
 |bool
 |str
 |sl (t:TypeId)
def vB(P:Program)(f:TypeId→Option (List CK)):Nat→List Field→Option (List CK×Nat)
 |off,[]=>some ([],off)
 |off,x::r=>bif Nat.beq x.offset off then
   match f x.type,vB P f (off + P.cellsOf x.type) r with
   |some ks,some (l,e)=>some (ks++l,e)
   |_,_=>none
  else none
def flat(P:Program):Nat→TypeId→Option (List CK)
 |0,_=>none
 |n + 1,t=>match P.underlying t with
  |some .bool=>some [.bool]
  |some (.int k)=>some [.int k]
  |some .string=>some [.str]
  |some (.slice _)=>some [.sl t]
  |some (.struct fs)=>match vB P (flat P n) 0 fs.toList with
   |some (l,e)=>bif Nat.beq e (P.cellsOf t)then some l else none
   |none=>none
  |_=>none
section
variable{H:Type}{enc:TypeId×Value→H}{P:Program}{w:World}{base:Nat}{spare:Nat→Bool}{held:Bool}
def CK.ok(enc:TypeId×Value→H)(P:Program)(w:World)(base:Nat)(spare:Nat→Bool)(held:Bool):CK→Value→Prop
 | .int k,v=> ∃ x,v= .int k x∧(Lit.int k x).wf=true
 | .bool,v=> ∃ b,v= .bool b
 | .str,v=> ∃ s,v= .string s∧s.size≤maxLen
 | .sl t,v=> ∃ fuel y,DataW.trod enc P w base spare held fuel t [v]=some y
inductive All2 {α β:Type} (p:α→β→Prop):List α→List β→Prop
 |nil:All2 p [] []
 |cons {a b as bs}:p a b→All2 p as bs→All2 p (a::as) (b::bs)
theorem All2.append{α β:Type}{p:α→β→Prop}: ∀ {a b:List α} {c d:List β},All2 p a c→All2 p b d→All2 p (a++b) (c++d)
 |_,_,_,_,.nil,h=>h
 |_,_,_,_,.cons h t,h'=> .cons h (t.append h')
def CTy.ks:CTy→List CK
 | .int k=> [.int k]
 | .bool=> [.bool]
 | .str=> [.str]
 | .pair a b=>a.ks++b.ks
 | .sl e _=> [.sl e]
 | .fn=> []
end
def sq(w:World)(vs:List Value):Nm:=⟨fun i=>(vs[i]?).getD .nilFunc,fun b=>w.heap[b]?,fun _=> []⟩
theorem ve{w:World}{vs:List Value}{i:Nat}{v:Value}(h:vs[i]? =some v)(hs:eM v=v):sq w vs i=v:=by
 simp only [Nm.of,sq,h,Option.getD_some,hs]
theorem HpL.args{w:World}{es:List Entry}{vs:List Value}(hg:GlOk fun b=>w.heap[b]?)(h: ∀ (i:Nat) (e:Entry),es[i]? =some e→ ∃ T t xs v,e= .row false T t xs∧vs[i]? =some v∧eO (fun b=>w.heap[b]?) t v xs):
  HpL w (fun b=>w.heap[b]?) es (sq w vs) w:=by
 refine⟨fun i e he=> ?_,fun i j e e' b he he' hb hb'=> ?_,rfl,rfl,rfl,Nat.le_refl _,fun b o hb=>hb,fun b o hb=>hb,hg⟩
 ·obtain⟨T,t,xs,v,rfl,hv,hr⟩:=h i e he
  refine⟨?_,?_,trivial⟩
  ·simp only [Entry.holds]
   rw [ve hv (jv hr)]
   exact hr
  ·have:=(List.getElem?_eq_some_iff.1 he).1
   simp only [Nat.blt,Nat.ble_eq];omega
 ·obtain⟨T,t,xs,v,rfl,_⟩:=h i e he
  cases hb
theorem PF.law{P:Program}(p:PF P){w:World}{args:List SV}{es:List Entry}{vs:List Value}{o:Out}{res:SV}{av:Array Value}(hg:GlOk fun b=>w.heap[b]?)(hF:p.F args es=some o)(hres:o.res=res)(ba: ∀ b∈o.nd,b=true)
  (h: ∀ (i:Nat) (e:Entry),es[i]? =some e→ ∃ T t xs v,e= .row false T t xs∧vs[i]? =some v∧eO (fun b=>w.heap[b]?) t v xs) {b:Bool} (hb:res=one (.val (.bool b))) (hav:(args.map (SV.conc (sq w vs))).toArray=av):
  Calls P p.k av w fun e w'=>e= .returned (.bool b)∧Below w.heap.size w w':=by
 subst hav
 refine(p.ok args es o hF ba (fun b=>w.heap[b]?) (sq w vs) w (HpL.args hg h)).mono fun e w' ⟨ρ',hx,he,_,_,hh⟩=> ?_
 rw [hres,hb]at he
 refine⟨he,hh.hf.os,hh.hf.tape,hh.hf.output,hh.hf.size,fun k hk=> ?_⟩
 rw [Array.getElem?_eq_getElem hk]
 exact hh.hf.mem k _ (Array.getElem?_eq_getElem hk)
end Go.SX
namespace Go.SX
open Go.RowKit
section
variable{H:Type}{enc:TypeId×Value→H}{P:Program}{w:World}{base:Nat}{held:Bool}
def wfD:(t:CTy)→E t→Prop
 | .int k,(x:Int)=>(Lit.int k x).wf=true
 | .str,(s:ByteArray)=>s.size≤maxLen
 | .pair a b,(p:E a×E b)=>wfD a p.1∧wfD b p.2
 | .sl _ t,(xs:List (E t))=>xs.length≤maxLen∧ ∀ x∈xs,wfD t x
 | .bool,_=>True
 | .fn,_=>True
end
end Go.SX
