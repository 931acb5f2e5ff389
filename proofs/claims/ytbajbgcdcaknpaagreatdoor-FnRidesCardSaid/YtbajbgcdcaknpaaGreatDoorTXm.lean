import Derived.Test.YtbajbgcdcaknpaaGreatDoorTXj
set_option linter.unusedSimpArgs false
set_option linter.unusedVariables false
namespace Go.SX
open Go.RowKit
section
variable{H:Type}{enc:TypeId×Value→H}{P:Program}{w:World}{base:Nat}{sp:Nat→Bool}{held:Bool}
theorem aoD{c:List Value}{j:Nat}{v:Value}(h:(c.drop j).take 1= [v]):c[j]? =some v:=by
 have h1:((c.drop j).take 1)[0]? =some v:=by rw [h];rfl
 rw [List.getElem?_take_of_lt (by omega),List.getElem?_drop]at h1
 simpa using h1
theorem anf{T e:TypeId}{n:Nat}{fs:Array Field}{f0 f1 f2 f3:Field}(hT:P.underlying T=some (.array n e))(he:P.underlying e=some (.struct fs))(hc:P.cellsOf e=4)
  (h0:fs[0]? =some f0) (h1:fs[1]? =some f1) (h2:fs[2]? =some f2) (h3:fs[3]? =some f3) (hn:fs.size=4)
  (o0:f0.offset=0) (o1:f1.offset=1) (o2:f2.offset=2) (o3:f3.offset=3)
  (t0:P.underlying f0.type=some (.int .i64)) (t1:P.underlying f1.type=some (.int .i64)) (t2:P.underlying f2.type=some (.int .i64)) (t3:P.underlying f3.type=some .bool)
  (c0:P.cellsOf f0.type=1) (c1:P.cellsOf f1.type=1) (c2:P.cellsOf f2.type=1) (c3:P.cellsOf f3.type=1)
  {fuel:Nat} {cs:List Value} {p:List MemPlace} {tab:List (Int×Int×Int×Bool)} (hl:tab.length=n)
  (h:DataW.trod enc P w base sp held fuel T cs=some (.agg (tab.map fun s=> .agg [.lit (.int .i64 s.1),.lit (.int .i64 s.2.1),.lit (.int .i64 s.2.2.1),.lit (.bool s.2.2.2)]),p)):
  ∀ (i:Nat) (y:Int×Int×Int×Bool),tab[i]? =some y→(cs.drop (i * 4)).take 4= [.int .i64 y.1,.int .i64 y.2.1,.int .i64 y.2.2.1,.bool y.2.2.2]:=by
 intro i y hy
 obtain⟨xs,m,_,hx,nP,hxn,hel⟩:=DataW.trod_array hT h
 have hi:i < n:=by rw [← hl];exact(List.getElem?_eq_some_iff.1 hy).1
 have g:=hel i hi
 rw [hc]at g
 have eO:i < xs.length:=by omega
 rw [List.getElem?_eq_getElem eO]at g
 generalize hcc:(cs.drop (i * 4)).take 4=c at g
 obtain⟨zs,k,_,e1,e2,e3,e4⟩:=DataW.trod_struct he g
 simp only [Prod.mk.injEq,DataW.agg.injEq]at hx
 have q:(xs.map (·.1))[i]? =some (xs[i]).1:=by simp [List.getElem?_eq_getElem eO]
 rw [← hx.1,e1]at q
 simp only [List.getElem?_map,hy,Option.map_some,Option.some.injEq,DataW.agg.injEq]at q
 have r0:=e4 0 f0 h0
 have r1:=e4 1 f1 h1
 have r2:=e4 2 f2 h2
 have r3:=e4 3 f3 h3
 rw [o0,c0]at r0
 rw [o1,c1]at r1
 rw [o2,c2]at r2
 rw [o3,c3]at r3
 match zs,e3,q,r0,r1,r2,r3 with
 | [z0,z1,z2,z3],_,q,r0,r1,r2,r3=>
  simp only [List.map_cons,List.map_nil,List.cons.injEq,and_true]at q
  obtain⟨v0,a0,b0,_⟩:=DataW.trod_int t0 r0
  obtain⟨v1,a1,b1,_⟩:=DataW.trod_int t1 r1
  obtain⟨v2,a2,b2,_⟩:=DataW.trod_int t2 r2
  obtain⟨v3,a3,b3⟩:=DataW.trod_bool t3 r3
  rw [b0,b1,b2,b3]at q
  simp only [DataW.lit.injEq,Lit.int.injEq,Lit.bool.injEq,true_and]at q
  obtain⟨q0,q1,q2,q3⟩:=q
  have w0:=aoD a0
  have w1:=aoD a1
  have w2:=aoD a2
  have w3:=aoD a3
  have Zl:c.length=4:=by rw [e2,hc]
  match c,Zl,w0,w1,w2,w3 with
  | [d0,d1,d2,d3],_,w0,w1,w2,w3=>
   simp only [List.getElem?_cons_zero,List.getElem?_cons_succ,Option.some.injEq]at w0 w1 w2 w3
   rw [w0,w1,w2,w3,q0,q1,q2,q3]
 | [],e3,_,_,_,_,_=>simp only [List.length_nil]at e3;omega
 | [_],e3,_,_,_,_,_=>simp only [List.length_cons,List.length_nil]at e3;omega
 | [_,_],e3,_,_,_,_,_=>simp only [List.length_cons,List.length_nil]at e3;omega
 | [_,_,_],e3,_,_,_,_,_=>simp only [List.length_cons,List.length_nil]at e3;omega
 |_::_::_::_::_::_,e3,_,_,_,_,_=>simp only [List.length_cons]at e3;omega
end
end Go.SX
